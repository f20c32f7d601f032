/- Contracts and laws on the way to the statement. No conditions. -/
import Derived.Test.YtpafochnmfelfaaGreatSCbG
import Derived.Test.YtpafochnmfelfaaGreatCA5G
import Derived.Test.YtpafochnmfelfaaGreatSU3G
set_option maxRecDepth 100000
set_option maxHeartbeats 16000000
set_option linter.unusedVariables false
set_option linter.unusedSimpArgs false
set_option linter.unusedSectionVars false
set_option linter.defProp false
namespace Go.Fg.X
open Go.Proofs Go.Fg
open Go.Proofs.Tryz
structure zA (c:Cf):Prop where
 t1:1<=c.t
 t2:c.t<=65536
 l1:1<=c.JU
 l2:c.JU<=16384
def Vr(M:Qn)(a:Int)(x:Pk):Qn:={ M with N:=VT M.N a λm=>{ m with q:=Xm (QD M a).c.Zz (QD M a).c.bytes (QD M a).q x } }
def vr(M:Qn)(a:Nat):Qn:={ M with acc:=a }
def Vm(M:Qn)(a:Int)(x:Pk):Int:=
 match Qj M.N a with
 | none=>23
 | some n=>if n.c.leaf=false then 29 else if x.len<1\/M.lk.JU<x.len then 26 else if 1099511627776<M.acc+x.len.toNat then 28
  else if jW n.c.Zz n.c.bytes n.q x=true then 30 else 0
def Vs(M:Qn)(b:Nat)(a:Int)(x:Pk):Qn:=
 if Vm M a x=30 then Vr M a x
 else if Vm M a x=0 then (if (QD M a).q.l=[] then zx (vr (Vr M a x) (M.acc+x.len.toNat)) b a x.len else vr (Vr M a x) (M.acc+x.len.toNat))
 else M
def Qx.Vr{M}(I:Qx M)(a:Int)(x):Qx (Vr M a x):=I.VT a (λm=>{ m with q:=Xm (QD M a).c.Zz (QD M a).c.bytes (QD M a).q x }) λ_=>rfl
def Qx.vr{M}(I:Qx M){a}(h:a<=1099511627776):Qx (vr M a):=⟨I.tree,I.y8,I.to,I.nodes,I.Xo,I.ks,I.y9,I.jZ,I.j4,I.Qi,h⟩
def QfT(M:Qn)(a:Nat):(ZF M a).lk=M.lk/\(ZF M a).acc=M.acc:=by unfold ZF;split<;>exact⟨rfl,rfl⟩
def j7(M:Qn)(a:Nat)(b:Int)(x:Pk):Int:=if vp M a=true then Vm (ZF M a) b x else 27
def KU(M:Qn)(a:Nat)(b:Int)(x:Pk):Qn:=if vp M a=true then Vs (ZF M a) a b x else M
def QuN{v}{h}{p}{L}{M:Qn}(C:Zv v h p L M)(I:Qx M)(K:zA M.lk)(i)(V9:i<18446744073709551616)(c)(x)
  (hA:∀n,Qj M.N c=some n->n.c.leaf=true->n.q.l=[]->c ∉ M.A) :
  QI prog 68 h [.ptr p 0 0 0,u64 i,Qb c,.agg x.cells] (λd h'=>∃j z,Zv j h' p L z/\Qx z/\Zt v h j h' /\
   d=Qb (j7 M i c x)/\z=KU M i c x):=by
 have ho:=C.ob;have C0:=C.NC [qs x];have D0:=Zt.app v h [qs x] .no;have xP:QV v h .no h.length=.no:=by unfold QV;rw[Qf (QB _)]
 have Zp:(h++[qs x])[h.length]? = some (qs x):=by rw[JZ rfl];rfl
 refine QZ func68 ntmps68 results68 λa8 w pl k=>?_;have Qd:=Qc ho;simp only[go_sem,Qa,ho,Qd];refine Jb k Qb6 (Qfn C0 i) λd F hR=>?_;obtain⟨rfl,s,D1⟩:=hR;have Q:=Ae I i;obtain⟨t1,t2,t3⟩:=Gw M i;obtain⟨t4,t5⟩:=QfT M i;have U:=D0.trans D1;have P:F[h.length]? = some (qs x):=(D1.keep h.length σ xP).trans Zp;have J:=Qc P;obtain⟨Z,IS⟩:∃o,o=QV v h .no:=⟨_,rfl⟩;rw[<- IS]at U s xP;have O:=s.ob;have Y:=Qc O;have q7:=s.KZ;have dJ:=Qc q7;apply Qg k;cases W:vp M i with
 | false=>
  have hM:ZF M i=M:=by unfold ZF;rw[W];rfl
  rw[hM]at s;simp only[go_sem,Qa,W];exact⟨Z,M,s,I,U,by rw[show j7 M i c x=27 from Qe (by rw[W];exact vF)],(Qe (by rw[W];exact vF)).symm⟩
 | true=>
  have R:∀j H z,Zv j H p L z->Qx z->Zt v h j H->z=Vs (ZF M i) i c x->∀e,Vm (ZF M i) c x=e->∃j z,Zv j H p L z/\Qx z/\Zt v h j H/\Qb e=Qb (j7 M i c x)/\z=KU M i c x:=
   λj H z F S h3 h4 e he=>⟨j,z,F,S,h3,by rw[<- he];unfold j7;rw[Qf W],by unfold KU;rw[Qf W];exact h4⟩
  obtain⟨g,a2⟩:∃g,g=ZF M i:=⟨_,rfl⟩;rw[<- a2]at s Q t1 t2 t3 t4 t5 R O;cases u:Qj g.N c with
  | none=>
   have hk:=s.YG.at_ c;rw[u,YW]at hk;have r:Vm g c x=23:=by unfold Vm;rw[u]
   have E:Vs g i c x=g:=by unfold Vs;rw[r];rfl
   simp only[go_sem,Qa,W,O,Y,q7,dJ,hk];exact R Z F g s Q U E.symm 23 r
  | some n=>
   have hk:=s.look u;have Bx:=(s.Jc c n u).1;have NK:=Qc Bx;have NH:=Qx.id u;simp only[go_sem,Qa,W,O,Y,q7,dJ,hk,Bx,NK];cases B:n.c.leaf with
   | false=>
    have r:Vm g c x=29:=by unfold Vm;rw[u];simp[B]
    have E:Vs g i c x=g:=by unfold Vs;rw[r];rfl
    simp only[go_sem,Qa];exact R Z F g s Q U E.symm 29 r
   | true=>
    have dS:=P;have q6:∀o,(F.set h.length o)[h.length]? = some o:=λo=>Qv J;obtain⟨V,IJ,hQ⟩:=s.WJ c n u B;have EH:qD L.lq n=.ptr (L.lq c) 0 0 0:=by unfold qD;rw[Qf B,NH]
    rw[EH]at Bx;have Z3:QD g c=n:=by unfold QD;rw[u];rfl
    have K1:zA g.lk:=by rw[t4];exact K
    have ZC:=K1.l1;have Z7:=K1.l2;have b0:=Q.acc;have fE:(x.len<1\/g.lk.JU<x.len)->Vm g c x=26:=λh=>by unfold Vm;rw[u];simp only[B];rw[Qe σ,Qf h]
    have fP:(x.len<1\/g.lk.JU<x.len)->Vs g i c x=g:=λh=>by unfold Vs;rw[fE h];rfl
    cases d1:decide (x.len<1) with
    | true=>
     have:=Yo d1;simp only[go_sem,Qa];apply Qw k o06;simp only[go_sem,Qa,P,J,O,Y,d1];exact R Z F g s Q U (fP (.inl this)).symm 26 (fE (.inl this))
    | false=>
     have x1:1<=x.len:=by have:=BG d1;omega
     cases d2:decide (g.lk.JU<x.len) with
     | true=>
      have:=Yo d2;simp only[go_sem,Qa];apply Qw k o06;simp only[go_sem,Qa,P,J,O,Y,d1,d2];exact R Z F g s Q U (fP (.inr this)).symm 26 (fE (.inr this))
     | false=>
      have x2:x.len<=g.lk.JU:=by have:=BG d2;omega
      have hx:Nj x:=⟨x1,ω⟩;have lM:(x.len.toNat:Int)=x.len:=GW ω;obtain⟨a,ha⟩:∃a,a=x.len.toNat:=⟨_,rfl⟩;rw[<- ha]at lM;have ex:IntKind.u64.wrap x.len=(a:Int):=by rw[ha];exact Iw ω ω
      have ew:IntKind.u64.wrap ((g.acc:Int)+(a:Int))=((g.acc+a:Nat):Int):=by rw[Iw ω ω];omega
      have ge:¬ (x.len<1\/g.lk.JU<x.len):=ω;cases d3:decide ((1099511627776:Int)<((g.acc+a:Nat):Int)) with
      | true=>
       have a3:=Yo d3;have r:Vm g c x=28:=by unfold Vm;rw[u];simp only[B];rw[Qe σ,Qe ge,Qf (by rw[<- ha];omega)]
       have E:Vs g i c x=g:=by unfold Vs;rw[r];rfl
       simp only[go_sem,Qa];apply Qw k o06;simp only[go_sem,Qa,P,J,O,Y,d1,d2];apply Qw k o01;simp only[go_sem,Qa,P,J,O,Y,ex,ew,d3];exact R Z F g s Q U E.symm 28 r
      | false=>
       have a3:=BG d3;simp only[go_sem,Qa];apply Qw k o06;simp only[go_sem,Qa,P,J,O,Y,d1,d2];apply Qw k o01;simp only[go_sem,Qa,P,J,O,Y,ex,ew,d3];apply KX [5] k [0,1,2,3,4,1005,6] [];simp only[go_sem,Qa,P,J,Bx,NK];refine kW k Qoj (QrZ hQ x hx) λd S hR=>?_;obtain⟨rfl,Q2,s2⟩:=hR;have VQ:QV Z F (.qm c) h.length=.no:=by rw[Ku J];exact xP
       have ZJ:S[h.length]? = some (qs x):=(s2.keep h.length J (by rw[xP];simp)).trans P;have j8:=Qc ZJ;have C2:=s.qm u B IJ Q2 s2;have D2:=U.trans (Zt.of (t:=.qm c) σ s2);have pk:{ g with N:=VT g.N c λm=>{ m with q:=Xm V n.c.bytes n.q x } }=Vr g c x:=by unfold Vr;rw[Z3,IJ]
       rw[pk]at C2;have I2:=Q.Vr c x;have jP:∀b,jW V n.c.bytes n.q x=b->Vm g c x=if b=true then 30 else 0:=λb k=>by
        unfold Vm;rw[u];simp only[B];rw[Qe σ,Qe ge,Qe (by rw[<- ha];omega),IJ,k]
       generalize QV Z F (.qm c)=JM at C2 D2 VQ;apply Q7 k;cases pD:jW V n.c.bytes n.q x with
       | true=>
        have r:Vm g c x=30:=jP _ pD;have E:Vs g i c x=Vr g c x:=by unfold Vs;rw[r];rfl
        simp only[go_sem,Qa];exact R JM S _ C2 I2 D2 E.symm 30 r
       | false=>
        have r:Vm g c x=0:=jP _ pD;have Kz:=C2.ob;have Yi:=Qc Kz;have a7:(Vr g c x).acc=g.acc:=rfl;have a6:(Vr g c x).lk=g.lk:=rfl;have a5:(Vr g c x).Qi=g.Qi:=rfl;have C3:Zv JM (S.set p (jj g.lk L.t L.b L.o L.v L.m g.Qi (g.acc+a))) p L (vr (Vr g c x) (g.acc+a)):=C2.Qi g.Qi (g.acc+a);have I3:Qx (vr (Vr g c x) (g.acc+a)):=I2.vr ω;have D3:=D2.trans (Zt.set (own:=JM) (h:=S) (l:=p) (jj g.lk L.t L.b L.o L.v L.m g.Qi (g.acc+a)) (by rw[C2.op];decide));have a0:p≠h.length:=λe=>by have:=C2.op;rw[e,VQ]at this;cases this
        have qp:(S.set p (jj g.lk L.t L.b L.o L.v L.m g.Qi (g.acc+a)))[h.length]? = some (qs x):=(Qm a0).trans ZJ;have T:=Qc qp;generalize pn:S.set p (jj g.lk L.t L.b L.o L.v L.m g.Qi (g.acc+a))=H3 at C3 D3 qp T;have po:S.set p ⟨.one,0,9,1,λ_=>[.raw (.int .i64 g.lk.t),.raw (.int .i64 g.lk.JU),.ptr L.t 0 0 0,.mref L.b 0,.ptr L.o 0 0 0,.ptr L.v 0 0 0,.mref L.m 0,.raw (.int .u64 (g.Qi:Nat)),.raw (.int .u64 ((g.acc+a:Nat):Int))]⟩=H3:=pn;have yQ:Qj (vr (Vr g c x) (g.acc+a)).N c=some { n with q:=Xm V n.c.bytes n.q x }:=by
         show Qj (Vr g c x).N c=_;unfold Vr;dsimp only;rw[Z3,IJ,jk (f:=λm:Nd=>{ m with q:=Xm V n.c.bytes n.q x }) (λ_=>rfl) c,Qf rfl,u,Kx]
        have wT:=(C3.Jc c _ yQ).1;have a4:qD L.lq { n with q:=Xm V n.c.bytes n.q x }=.ptr (L.lq c) 0 0 0:=by unfold qD;rw[Qf B,NH]
        rw[a4]at wT;have vq:=Qc wT;obtain⟨a9,b1,a1⟩:=C3.WJ c _ yQ B;simp only[go_sem,Qa];apply Qw k o07;simp only[go_sem,Qa,ZJ,j8,Kz,Yi,ex,ew,a7,a6,a5,po,wT,vq];have Zf:(Xm V n.c.bytes n.q x).l.length=n.q.l.length+1:=by unfold Xm;rw[Qe (by rw[pD];exact vF)];simp
        have pz:({ n with q:=Xm V n.c.bytes n.q x }:Nd).q.l.length=n.q.l.length+1:=Zf;have WY:=C3.ob;have zy:=Qc WY;refine VP k FV ?_ (Ix a1.toR) ?_
        .simp only[go_sem,Qa,qp,T,WY,zy,wT,vq,Zf]
        apply Qg k;simp only[go_sem,Qa,qp,T,WY,zy,wT,vq,Zf];cases hq:n.q.l with
        | cons y q=>
         have dz:(((q.length+1+1:Nat):Int)==1)=false:=Xx ω;have E:Vs g i c x=vr (Vr g c x) (g.acc+a):=by unfold Vs;rw[r,Z3,hq,<- ha];rfl
         simp only[go_sem,Qa,VK,dz];exact R JM H3 _ C3 I3 D3 E.symm 0 r
        | nil=>
         have dz:(((0+1:Nat):Int)==1)=true:=rfl;have JH:Jq (vr (Vr g c x) (g.acc+a)) c=false:=by
          rw[Ym];intro h9;have h8:=(dH Q.tree (Q.some u) B g.A).1 h9;rw[t3]at h8;exact hA n (by rw[<- t1];exact u) B hq h8
         have E:Vs g i c x=zx (vr (Vr g c x) (g.acc+a)) i c x.len:=by unfold Vs;rw[r,Z3,hq,<- ha];rfl
         simp only[go_sem,Qa,List.length_nil,dz];simp only[go_sem,Qa,qp,T];refine Jb k Qok (Qui C3 I3 yQ B i V9 x.len ω JH) λd h4 hR=>?_;obtain⟨Sq,C4,I4,D4⟩:=hR;apply QC k;exact R Sq h4 _ C4 I4 (D3.trans D4) E.symm 0 r
@[go_sem] def dU(c:Cf):Ob:=⟨.one,0,2,1,λ_=>c.cells⟩
def M0(c:Cf):Qn:=⟨c,[],[],[],[],[],λid=>decide (id=0),λ_=>[],0,0⟩
def dV(a:Nat->Tag)(b:Nat)(l:Nat):Tag:=
 if l<b then a l else if l<b+2 then .tree else if l<b+5 then .lv else if l<b+8 then .XF 0 else if l=b+8 then .mk else if l=b+9 then .oL else if l=b+10 then .sc else .on
def QuW(h:List Ob):Kq prog 81 h [] (λd g=>d=.ptr (h.length+1) 0 0 0/\g=[QM .i64 0 [],⟨.one,0,1,1,λ_=>[.mref h.length 0]⟩]):=
 QI.mono (QrL (h.map Ob.ro)) λd c ⟨b,a⟩=>⟨_,a,by rw[b,JV],by rw[JV]⟩
def vu(b:Nat):List Ob:=[wF .nil,QM .i64 0 [],Ek b (b+1)]
def QuX(h:List Ob):Kq prog 82 h [] (λd g=>d=.ptr (h.length+2) 0 0 0/\g=vu h.length):=by
 have:QI prog 82 (h.map Ob.ro) [] (λd b=>d=.ptr ((h.map Ob.ro).length+2) 0 0 0/\b=h.map Ob.ro++vu (h.map Ob.ro).length):=by
  generalize h.map Ob.ro=h;refine QZ func82 ntmps82 results82 λc w j a=>?_;simp only[go_sem,Qa];refine A4 a Qb5 (QdP h) λd h e=>?_;obtain⟨rfl,rfl⟩:=e;apply QC a;rfl
 exact QI.mono this λd b ⟨i,f⟩=>⟨_,f,by rw[i,JV],by rw[JV]⟩
def QfU(h:List Ob):Kq prog 61 h [] (λd g=>d=.ptr (h.length+2) 0 0 0/\g=vu h.length):=by
 have:QI prog 61 (h.map Ob.ro) [] (λd b=>d=.ptr ((h.map Ob.ro).length+2) 0 0 0/\b=h.map Ob.ro++vu (h.map Ob.ro).length):=by
  generalize h.map Ob.ro=h;refine QZ func61 ntmps61 results61 λc w j a=>?_;simp only[go_sem,Qa];refine A4 a Qb5 (QdP h) λd h e=>?_;obtain⟨rfl,rfl⟩:=e;apply QC a;rfl
 exact QI.mono this λd b ⟨i,f⟩=>⟨_,f,by rw[i,JV],by rw[JV]⟩
def pE{H:List Ob}{S}{b}(g:H[b]? = some (wF .nil))(f:H[b+1]? = some (QM .i64 0 []))(e:H[b+2]? = some (Ek b (b+1)))(d:S b)(c:S (b+1))(a:S (b+2)):Wr S H (b+2) []:=
 ⟨b,b+1,.nil,0,[],e,⟨g,trivial,rfl,by simp[Tr.QK],by simp[Tr.QK],by simp[KP]⟩,f,XS.nil,σ,ω,ω,ω,by simp[Tr.QK],by simp[Tr.QK],a,d,c,by simp[Tr.QK]⟩
def QfV:Ve []:=⟨TreeInv.nil,σ,σ,σ,σ⟩
def QfW(c):Qx (M0 c):=
 ⟨QfV,λc b=>by simp[M0]at b,rfl,rfl,λa d=>by simp[M0]at d,λid=>by simp[M0,Qj],λx hx=>by simp[M0]at hx,λid x hx=>by simp[M0]at hx,λid x hx=>by simp[M0]at hx,by simp[M0],by simp[M0]⟩
def QuY{own}{h}(c):
  QI prog 48 h [.agg c.cells] (λd x=>(zA c/\∃q L p,d=.tup [.ptr p 0 0 0,Qb 0]/\Zv q x p L (M0 c)/\Qx (M0 c)/\Zt own h q x)\/(¬ zA c/\d=.tup [.raw (.pointer none),Qb 1]/\∃g,x=h++g)):=by
 have Zp:∀g,(h++dU c::g)[h.length]? = some (dU c):=λg=>JZ rfl;by_cases K:zA c
 .have d1:decide (c.t<1)=false:=QS (by have:=K.t1;omega);have d2:decide (65536<c.t)=false:=QS (by have:=K.t2;omega);have d3:decide (c.JU<1)=false:=QS (by have:=K.l1;omega);have d4:decide (16384<c.JU)=false:=QS (by have:=K.l2;omega);refine QZ func48 ntmps48 results48 λf w v b=>?_;simp only[go_sem,Qa,Qa,d1,d2,d3,d4];apply Qw b [0,1001,1003,1005,1004,1006,7,1002,8,1009,10];simp only[go_sem,Qa];refine PK b Qn7 rfl ?_ (QuW _) rfl λd h m=>?_
  .simp only[go_sem,Qa]
  obtain⟨rfl,rfl⟩:=m;apply Xy b;refine PK b Qn8 rfl ?_ (QuX _) rfl λd h m=>?_
  .simp only[go_sem,Qa,vu]
  obtain⟨rfl,rfl⟩:=m;apply Q7 b;simp only[go_sem,Qa,vu];refine PK b QbV rfl ?_ (QfU _) rfl λd h m=>?_
  .simp only[go_sem,Qa,vu]
  obtain⟨rfl,rfl⟩:=m;apply Q7 b;simp only[go_sem,Qa,vu];refine Qsq xB b rfl rfl rfl rfl (Vj (k:=9) rfl) ?_;apply Xy b;obtain⟨cm,em,RO,Xk⟩:=KD.nil.set .i64 0 0 (.ptr (h.length+6+2) 0 0 0);obtain⟨G,a⟩:∃G:List Ob,G=[dU c,QM .i64 0 [],⟨.one,0,1,1,λ_=>[.mref (h.length+1) 0]⟩,wF .nil,QM .i64 0 [],Ek (h.length+3) (h.length+3+1),wF .nil,QM .i64 0 [],Ek (h.length+6) (h.length+6+1),JR .i64 0 [] 0 (.ptr (h.length+6+2) 0 0 0),QM .i64 0 [],⟨.one,0,9,1,λ_=>[Qb c.t,Qb c.JU,.ptr (h.length+1+1) 0 0 0,.mref (h.length+10) 0,.raw (.pointer none),.ptr (h.length+3+2) 0 0 0,.mref (h.length+9) 0,u64 0,u64 0]⟩]:=⟨_,rfl⟩;have Ny:G.length=12:=by rw[a];rfl
  have y:∀k o,G[k]? = some o->(h++G)[h.length+k]? = some o:=λk o e=>by rw[JE ω,TC];exact e
  have ht:=y 2 _ (by rw[a];rfl);have hm:=y 1 _ (by rw[a];rfl);have T:=y 11 _ (by rw[a];rfl);have Gy:=Qc T;have R:Wq (h++G) (h.length+2) []:=V6.toR (S:=λ_=>True) ⟨h.length+1,0,[],ht,hm,Vk.nil,trivial,trivial⟩;have U:=QdJ R QfV;rw[a]at U;refine Vo b QbW rfl ?_ U rfl λd x m=>?_
  .simp only[go_sem,Qa]
  rw[<- a]at m;obtain⟨rfl,hO,g,rfl⟩:=m;apply Qg b;have Y:((h++G)++g)[h.length+11]? = _:=(QG Gy).trans T;have Z:=Qc Y;have a0:(h++G).length=h.length+12:=by rw[JJ,Ny]
  simp only[go_sem,Y,Z];obtain⟨I,W⟩:∃o,o=QV own h .no:=⟨_,rfl⟩;obtain⟨s,B⟩:∃o,o=dV I (h.length+1):=⟨_,rfl⟩;have i:∀k,k<12->s (h.length+k)=if k<1 then .no else if k<3 then .tree else if k<6 then .lv else if k<9 then .XF 0 else if k=9 then .mk else if k=10 then .oL else .sc:=λk u=>by
   rw[B];unfold dV;by_cases Q:k<1
   .rw[Qf ω,Qf Q,W];unfold QV;rw[Qf ω]
   .rw[Qe ω,Qe Q];by_cases P:k<3
    .rw[Qf ω,Qf P]
    .rw[Qe ω,Qe P];by_cases O:k<6
     .rw[Qf ω,Qf O]
     .rw[Qe ω,Qe O];by_cases N:k<9
      .rw[Qf ω,Qf N]
      .rw[Qe ω,Qe N];by_cases M:k=9
       .rw[Qf ω,Qf M]
       .rw[Qe ω,Qe M];by_cases J:k=10
        .rw[Qf ω,Qf J]
        .rw[Qe ω,Qe J,Qf ω]
  have C:∀l,h.length+12<=l->s l=.on:=λl t=>by
   rw[B];unfold dV;rw[Qe ω,Qe ω,Qe ω,Qe ω,Qe ω,Qe ω,Qe ω]
  have E:∀l,l<h.length->s l=own l:=λl t=>by
   rw[B];unfold dV;rw[Qf ω,W];exact Ku t
  generalize hS:(⟨.one,0,9,1,_⟩:Ob)=S0;have j:∀k o,k<11->G[k]? = some o->((h++G++g).set (h.length+11) S0)[h.length+k]? = some o:=λk o u e=>(Qm ω).trans ((QG ω).trans (y k o e));have g1:=j 1 _ ω (by rw[a];rfl);have g2:=j 2 _ ω (by rw[a];rfl);have g3:=j 3 _ ω (by rw[a];rfl);have g4:=j 4 _ ω (by rw[a];rfl);have g5:=j 5 _ ω (by rw[a];rfl);have g6:=j 6 _ ω (by rw[a];rfl);have g7:=j 7 _ ω (by rw[a];rfl);have g8:=j 8 _ ω (by rw[a];rfl);have V:=j 9 _ ω (by rw[a];rfl);have H:=j 10 _ ω (by rw[a];rfl);have F:((h++G++g).set (h.length+11) S0)[h.length+11]? = some S0:=Qv Z;rw[RO]at V;have z:∀id n,Qj (M0 c).N id=some n->False:=by intro id n r;cases r
  refine .inl ⟨K,s,⟨h.length+2,h.length+10,(h++G).length+3,h.length+5,h.length+9,0,cm,[],em,λ_=>0,λ_=>0,λ_=>h.length+8⟩,h.length+11,rfl,⟨?_,(i 11 ω).trans rfl,⟨h.length+1,0,[],g2,g1,Vk.nil,(i 2 ω).trans rfl,(i 1 ω).trans rfl⟩,H,KD.nil.to λk=>rfl,(i 10 ω).trans rfl,λid n r=>(z id n r).elim,λid n r=>(z id n r).elim,?_,pE (S:=λl=>s l=.lv) g3 g4 g5 ((i 3 ω).trans rfl) ((i 4 ω).trans rfl) ((i 5 ω).trans rfl),V,Xk.to λk=>?_,(i 9 ω).trans rfl,λid Ze=>?_,λid n r=>(z id n r).elim⟩,QfW c,⟨E,?_,?_⟩⟩
  .rw[F,<- hS];rfl
  .exact hO.step λl t ho=>⟨C l ω,Qm ω⟩
  .by_cases u:k=0
   .subst u;rfl
   .show (if k=0 then _ else _)=if decide (k=0)=true then _ else _;rw[Qe u,Qe (by simpa using u)]
  .have:id=0:=by simpa[M0] using Ze
   subst this;exact pE (S:=λl=>s l=.XF 0) g6 g7 g8 ((i 6 ω).trans rfl) ((i 7 ω).trans rfl) ((i 8 ω).trans rfl)
  .intro l t JH;exact(Qm ω).trans ((QG ω).trans (QG t))
  .simp only[Xd,JJ];omega
 .have a1:∀d,d=D.tup [.raw (.pointer none),Qb 1]->∃g,h++[dU c]=h++g:=λ_ _=>⟨_,rfl⟩;cases d1:decide (c.t<1) with
  | true=>
   refine QZ func48 ntmps48 results48 λf w v b=>?_;simp only[go_sem,Qa,Qa,d1];exact .inr ⟨K,_,rfl⟩
  | false=>
   cases d2:decide (65536<c.t) with
   | true=>
    refine QZ func48 ntmps48 results48 λf w v b=>?_;simp only[go_sem,Qa,Qa,d1,d2];exact .inr ⟨K,_,rfl⟩
   | false=>
    cases d3:decide (c.JU<1) with
    | true=>
     refine QZ func48 ntmps48 results48 λf w v b=>?_;simp only[go_sem,Qa,Qa,d1,d2,d3];exact .inr ⟨K,_,rfl⟩
    | false=>
     have d4:decide (16384<c.JU)=true:=by
      have e1:=BG d1;have e2:=BG d2;have e3:=BG d3;refine Q3 (xg λe4=>K ⟨ω,ω,ω,ω⟩)
     refine QZ func48 ntmps48 results48 λf w v b=>?_;simp only[go_sem,Qa,Qa,d1,d2,d3,d4];exact .inr ⟨K,_,rfl⟩
def dW{l:List Int}{k}(h:k<l.length):l.getD k 0∈l:=by
 rw[Q5,QP h];exact XK h
def pH(l:List Int)(F:List Ob)(f a:Nat)(b:List D)(g:Int->Bool):Prop:=∀(h:List Ob) (n:Int),n∈l->KN F h->QR prog f h (ZS a b [Qb n]) (λd=>d=QT (g n))
def Sr(l:List Int)(F:List Ob)(b:Nat)(f a:Nat)(c:List D)(g:Int->Bool):Prop:=∀(h:List Ob) (n:Int),n∈l->F.length<=h.length->(∀l,l<F.length->l≠b->h[l]? = F[l]?)->QR prog f h (ZS a c [Qb n]) (λd=>d=QT (g n))
section
variable (h:List Ob)(l:List Int)(lo gn off:Nat)(row:Nat->List D)(hlen:l.length<1000000)(ho:(h.map Ob.ro)[lo]? = some ⟨.vO,gn,1,off+l.length,row⟩)(hr:∀i,i<l.length->row (off+i)=[Qb (l.getD i 0)])
include hlen ho hr
theorem Qu2(e:D)(f n:Nat)(r:List D)(y:Qk prog f)(E:Jo e=some (f,n,r))(c:Int->Bool)(x:pH l (h.map Ob.ro) f n r c):
  QR prog 89 h [.ref lo gn off l.length,e] (λd=>d=Qb (wx c l)):=by
 refine Zk func89 ntmps89 results89 λt w H F q I b=>?_;rw[<- q]at ho;have j:=Qc ho;simp only[go_sem,Qa,ho,j];refine Z4 (λk s=>(∀i,i<k->c (l.getD i 0)=false)/\s=⟨[(0,.ref lo gn off l.length),(1,e),(7,Qb l.length),(8,Qb k)],F⟩) l.length QN ⟨λi p=>absurd p ω,rfl⟩ ?_;rintro k s o ⟨g,rfl⟩;apply QC b;have j:=Qc ho;have C:=KJ (show k<4611686018427387904 from ω);first|refine jL o (λa=>?_) (λa=>?_)|refine jM o (λa=>?_) (λa=>?_)
 .have v:=hr k a;have u:off+k<off+l.length:=ω;simp only[go_sem,Qa,ho,j,a,v,u];refine Xj b y E ?_ (x F (l.getD k 0) (dW a) (by rw[<- q];exact KN.refl F)) rfl λd2 z=>?_
  .simp only[go_sem];exact Cd _
  subst z;apply Qg b;cases m:c (l.getD k 0)
  .simp only[go_sem,Qa];refine⟨a,_,QF.frame (by simp only[go_sem,C]),λi p=>?_,rfl⟩;by_cases B:i<k
   .exact g i B
   .have:i=k:=ω;subst this;exact m
  .rw[lX a g m];simp only[go_sem,Qa];exact⟨[],(Jl F).symm⟩
 .have a:k=l.length:=ω;subst a;simp only[go_sem,G4];rw[lY g];apply QC b;exact⟨[],(Jl F).symm⟩
end
section
variable (h:List Ob)(l:List Int)(lo gn off:Nat)(row:Nat->List D)(hlen:l.length<1000000)(ho:h[lo]? = some ⟨.arr,gn,1,off+l.length,row⟩)(hr:∀i,i<l.length->row (off+i)=[Qb (l.getD i 0)])
include hlen ho hr
theorem Qu3(e:D)(f C:Nat)(H:List D)(U:Qk prog f)(Vp:Jo e=some (f,C,H))(a:Int->Bool)(hg:Sr l h lo f C H a)(pI:Sr l (h.map Ob.ro) lo f C H a):
  QI prog 95 h [.ref lo gn off l.length,e] (λd Y=>d=.ref lo gn off (vn a l).length/\∃Kf,Y=h.set lo ⟨.arr,gn,1,off+l.length,Kf⟩/\∀i,i<(vn a l).length->Kf (off+i)=[Qb ((vn a l).getD i 0)]):=by
 refine QZ func95 ntmps95 results95 λa0 w pl c=>?_;have o:=Qc ho;simp only[go_sem,Qa,ho,o];refine Xj c PN rfl ?_ (Qu2 h l lo gn off row hlen (ZG ho) hr e f C H U Vp a (λY n hm hx=>?_)) rfl λd2 J=>?_
 .simp only[go_sem];exact Cc e
 .obtain⟨g,rfl⟩:=hx;exact pI _ n hm σ λl hl _=>QG hl
 subst J;have T:h.set lo ⟨.arr,gn,1,off+l.length,row⟩=h:=xh λi=>by
  by_cases t:lo=i
  .subst t;rw[VX o,ho]
  .rw[Jf t]
 rcases QtF (g:=a) (l:=l) with ⟨t,W⟩|⟨i,hi,t,W,V⟩
 .rw[t,W];apply Qg c;simp only[go_sem,Qa,ho,o];exact⟨row,T.symm,hr⟩
 .rw[t];have QA:(((i:Nat):Int)==-1)=false:=σ;have E:=KJ (show i<4611686018427387904 from ω);apply Qg c;simp only[go_sem,Qa,ho,o,QA,E];refine Z4 (λk s=>∃b:Nat->List D,(∀x,x<l.length->(b (off+x)).length=1)/\(∀j,j<((l.take (i+1+k)).filter λx=>!a x).length->b (off+j)=[Qb (((l.take (i+1+k)).filter λx=>!a x).getD j 0)])/\(∀j,i+1+k<=j->j<l.length->b (off+j)=[Qb (l.getD j 0)]) /\
   s=⟨[(0,.ref lo gn off l.length),(1,e),(5,Qb ((l.take (i+1+k)).filter λx=>!a x).length),(6,Qb (i+1+k:Nat))],h.set lo ⟨.arr,gn,1,off+l.length,b⟩⟩) (l.length - (i+1))
   (s0:=⟨[(0,.ref lo gn off l.length),(1,e),(5,Qb i),(6,Qb (i+1:Nat))],h⟩) QN ⟨row,λx hx=>by rw[hr x hx];rfl,?_,λj _ q=>hr j q,?_⟩ ?_
  .rw[G2,V];intro j q;simp at q;rw[hr j ω];simp[Q5,q,show j<l.length by omega]
  .rw[G2,V,T];simp[Nat.min_eq_left (Nat.le_of_lt hi)]
  rintro k s hk ⟨b,F,z,B,rfl⟩;have dG:=QtE l (λx=>!a x) (i+1+k);obtain⟨M,v⟩:∃M,M=(l.take (i+1+k)).filter λx=>!a x:=⟨_,rfl⟩;obtain⟨j,q⟩:∃j,j=i+1+k:=⟨_,rfl⟩;have y:lo<(h.set lo ⟨.arr,gn,1,off+l.length,b⟩).length:=by simpa using o
  have u:(h.set lo ⟨.arr,gn,1,off+l.length,b⟩)[lo]? = some ⟨.arr,gn,1,off+l.length,b⟩:=Qv o;rw[<- q]at v z B dG ⊢;rw[<- v]at z dG ⊢;have CM:j<=l.length:=ω;have E:=KJ (show j<4611686018427387904 from ω);have R:=KJ (show M.length<4611686018427387904 from ω);have Q:∀x,x<h.length->x≠lo->(h.set lo ⟨.arr,gn,1,off+l.length,b⟩)[x]? = h[x]? := λx _ hx=>Qm (Q1 hx);apply Qg c;simp only[go_sem,Qa,u,y];first|refine jL CM (λm=>?_) (λm=>?_)|refine jM CM (λm=>?_) (λm=>?_)
  .have R9:=B j (QB _) m;have I:off+j<off+l.length:=ω;simp only[go_sem,Qa,m,u,y,R9,I];refine Xj c U Vp ?_ (hg _ (l.getD j 0) (dW m) σ Q) rfl λd2 J=>?_
   .simp only[go_sem];exact Cd _
   subst J;have p:=Qfa l (λx=>!a x) j m;rw[<- v,show l.getD j default=l.getD j 0 from rfl]at p;cases S:a (l.getD j 0)
   .rw[Qf (by simp only[S,GV])]at p;have L:M.length<l.length:=ω;have qp:off+M.length<off+l.length:=ω;have P:List.drop 1 (b (off+M.length))=[]:=Tj (by rw[F _ L];exact QB _);apply Qg c;simp only[go_sem,Qa,u,y,E,R,L,qp,P,F M.length L];have Z:i+1+(k+1)=j+1:=ω;have CD:(M++[l.getD j 0]).length=M.length+1:=σ;refine⟨ω,_,QF.frame (fr':=[(0,.ref lo gn off l.length),(1,e),(5,Qb (M.length+1:Nat)),(6,Qb (j+1:Nat))]) (by simp only[go_sem]),λx=>bif x==off+M.length then [Qb (l.getD j 0)] else b x,?_,?_,?_,?_⟩
    .intro x hx;show (bif off+x==off+M.length then [Qb (l.getD j 0)] else b (off+x)).length=1;cases (off+x==off+M.length)
     .exact F x hx
     .rfl
    .rw[Z,p];intro x hx;simp at hx;by_cases pc:x=M.length
     .subst pc;simp only[Fc,ky];simp;rfl
     .have K:(off+x==off+M.length)=false:=ξ;have:=z x ω;simp only[K,q5,this];rw[Q5,Q5,JD ω];rfl
    .intro x Xe N;have K:(off+x==off+M.length)=false:=ξ;simp only[K,q5];exact B x ω N
    .rw[Z,p,CD];rfl
   .rw[Qe (by simp only[S,De];decide)]at p;apply Qg c;simp only[go_sem,Qa,u,y,E];refine⟨ω,_,QF.frame (fr':=[(0,.ref lo gn off l.length),(1,e),(5,Qb M.length),(6,Qb (j+1:Nat))]) (by simp only[go_sem]),b,F,?_,?_,?_⟩
    .rw[show i+1+(k+1)=j+1 by omega,p];exact z
    .intro x Xe N;exact B x ω N
    .rw[show i+1+(k+1)=j+1 by omega,p];rfl
  .subst m;rw[zG]at v;have qS:M=vn a l:=v;rw[<- qS];have I:M.length<=l.length:=ω;apply Qg c;simp only[go_sem,Qa,u,y,I];refine lF xB c rfl u rfl rfl rfl rfl ξ rfl rfl rfl rfl ?_;have O:∀r:Ob,(h.set lo r)[lo]? = some r:=λr=>Qv o;apply Qg c;simp only[go_sem,Qa,O,o,I];refine⟨σ,_,rfl,λx hx=>by rw[lB ω];exact z x hx⟩
theorem Qu8(g:D)(f c:Nat)(e:List D)(n:Qk prog f)(o:Jo g=some (f,c,e))(a:Int->Bool)(m:Sr l h lo f c e a)(k:Sr l (h.map Ob.ro) lo f c e a):
  QI prog 95 h [.ref lo gn off l.length,g] (λd j=>d=.ref lo gn off (vn a l).length/\∃b,j=h.set lo ⟨.arr,gn,1,off+(vn a l).length,b⟩/\∀i,i<(vn a l).length->b (off+i)=[Qb ((vn a l).getD i 0)]):=by
 refine QI.cut (Qu3 h l lo gn off row hlen ho hr g f c e n o a m k) ?_;rintro d j ⟨rfl,b,rfl,p⟩;have:=YU (λx=>!a x) l;refine⟨lo,⟨.arr,gn,1,off+l.length,b⟩,off+(vn a l).length,Qv (Qc ho),rfl,by simp only[vn];omega,rfl,b,by rw[Jn],p⟩
end
section
variable (h:List Ob)(l:List Int)(hlen:l.length<1000000)
include hlen
theorem Qu9(e:D)(f m:Nat)(p:List D)(t:Qk prog f)(z:Jo e=some (f,m,p))(c:Int->Bool)(r:pH l (h.map Ob.ro) f m p c):
  QR prog 89 h [ints l,e] (λd=>d=Qb (wx c l)):=by
 refine Zk func89 ntmps89 results89 λq w B F v C b=>?_;simp only[go_sem,Qa];refine Z4 (λk s=>(∀i,i<k->c (l.getD i 0)=false)/\s=⟨[(0,ints l),(1,e),(7,Qb l.length),(8,Qb k)],F⟩) l.length QN ⟨λi o=>absurd o ω,rfl⟩ ?_;rintro k s n ⟨g,rfl⟩;apply QC b;have y:=KJ (show k<4611686018427387904 from ω);first|refine jL n (λa=>?_) (λa=>?_)|refine jM n (λa=>?_) (λa=>?_)
 .simp only[go_sem,Qa,a];refine Xj b t z ?_ (r F (l.getD k 0) (dW a) (by rw[<- v];exact KN.refl F)) rfl λd2 u=>?_
  .simp only[go_sem];exact Cd _
  subst u;apply Qg b;cases j:c (l.getD k 0)
  .simp only[go_sem,Qa];refine⟨a,_,QF.frame (by simp only[go_sem,y]),λi o=>?_,rfl⟩;by_cases x:i<k
   .exact g i x
   .have:i=k:=ω;subst this;exact j
  .rw[lX a g j];simp only[go_sem,Qa];exact⟨[],(Jl F).symm⟩
 .have a:k=l.length:=ω;subst a;simp only[go_sem,G4];rw[lY g];apply QC b;exact⟨[],(Jl F).symm⟩
theorem pJ(a:D)(f b:Nat)(e:List D)(m:Qk prog f)(r:Jo a=some (f,b,e))(c:Int->Bool)(k:pH l (h.map Ob.ro) f b e c):
  QR prog 55 h [ints l,a] (λd=>d=QT (decide (0<=wx c l))):=by
 refine Zk func55 ntmps55 results55 λi w s F p t g=>?_;simp only[go_sem,Qa];refine Xj g PN rfl ?_ (Qu9 F l hlen a f b e m r c (λq n j hx=>?_)) rfl λd2 o=>?_
 .simp only[go_sem];exact Cc a
 .rw[p,bE]at hx;exact k q n j hx
 subst o;apply QC g;exact⟨[],(Jl F).symm⟩
end
structure XI (h:List Ob) (p:Nat) (L:Loc) (M:Qn):Prop where
 ob:(h.map Ob.ro)[p]? = some (jj M.lk L.t L.b L.o L.v L.m M.Qi M.acc).ro
 tr:Wq h L.t M.T
 KZ:(h.map Ob.ro)[L.b]? = some (QM .i64 L.cb L.eb).ro
 YG:KD L.eb (λid=>(Qj M.N id).map λ_=>.ptr (L.le id) 0 0 0)
 Jc:∀id n,Qj M.N id=some n->(h.map Ob.ro)[L.le id]? = some (Yh (qD L.lq n) n).ro
 WJ:∀id n,Qj M.N id=some n->n.c.leaf=true->∃k:Nat,n.c.Zz=k/\Gj h (L.lq id) k n.c.bytes n.q
 YH:F8 h L.o M.To M.A
 XG:Em h L.v M.Lv
 VA:(h.map Ob.ro)[L.m]? = some (QM .i64 L.cm L.em).ro
 Xn:KD L.em (λid=>if M.ks id=true then some (.ptr (L.lk id) 0 0 0) else none)
 kids:∀id,M.ks id=true->Em h (L.lk id) (M.KT id)
def Zv.ro{b}{h}{p}{L}{M}(C:Zv b h p L M):XI h p L M:=
 ⟨ZG C.ob,C.tr.toR,ZG C.KZ,C.YG,λid n a=>ZG (C.Jc id n a).1,λid n a c=>by
  obtain⟨k,f,e⟩:=C.WJ id n a c;exact⟨k,f,e.toR⟩,C.YH.toR,C.XG.toR,ZG C.VA,C.Xn,λid d=>(C.kids id d).toR⟩
def XI.more{h h':List Ob}{p}{L}{M}(e:∀(l:Nat) (o:Ob),(h.map Ob.ro)[l]? = some o->(h'.map Ob.ro)[l]? = some o)(C:XI h p L M):XI h' p L M:=
 ⟨e _ _ C.ob,C.tr.more e,e _ _ C.KZ,C.YG,λid n a=>e _ _ (C.Jc id n a),λid n a b=>by
  obtain⟨k,f,d⟩:=C.WJ id n a b;exact⟨k,f,d.more e⟩,C.YH.more e,C.XG.more e,e _ _ C.VA,C.Xn,λid c=>(C.kids id c).more e⟩
def XI.look{h}{p}{L:Loc}{M:Qn}(C:XI h p L M){a}{n}(b:Qj M.N a=some n):ZP L.eb a=some (.ptr (L.le a) 0 0 0):=by
 rw[C.YG.at_,b];rfl
def Qva{h:List Ob}{p q}{L}{M:Qn}(C:XI h p L M){a}{n:Nd}(g:Qj M.N a=some n)(j:n.c.leaf=true)(v:n.c.iD=a)(i:(h.map Ob.ro)[q]? = some ⟨.Wy,0,1,1,λ_=>[.ptr p 0 0 0]⟩):
  QR prog 97 h [Qb a,.ptr q 0 0 0] (λd=>d=QT (n.q.l.isEmpty)):=by
 have f:=C.ob;have c:=C.KZ;have b:=C.Jc a n g;have z:=C.look g;obtain⟨k,I,t⟩:=C.WJ a n g j;have E:qD L.lq n=.ptr (L.lq a) 0 0 0:=by unfold qD;rw[Qf j,v]
 rw[E]at b;have e:((n.q.l.length:Int)==0)=(n.q.l.isEmpty):=by
  cases n.q.l with
  | nil=>rfl
  | cons x l=>simp;omega
 refine Zk func97 ntmps97 results97 λr w H F o J m=>?_;rw[<- o]at i f c b;have s:=Qc i;have B:=Qc f;have y:=Qc c;have u:=Qc b;simp only[go_sem,Qa,i,s,f,B,c,y,b,u,z];refine VP m FV ?_ (Ix (t.more (Js o))) ?_
 .simp only[go_sem,Qa,e]
 apply Qg m;simp only[go_sem,Qa,e];exact⟨[],(Jl F).symm⟩
def Qvb(h)(a):QR prog 95 h [.nil,a] (λd=>d=.nil):=by
 refine Zk func95 ntmps95 results95 λc w f F g i b=>?_;simp only[go_sem,Qa];refine Xj b PN rfl ?_ (Qc4 F a) rfl λd2 e=>?_
 .simp only[go_sem];exact Cc a
 subst e;apply QC b;exact⟨[],(Jl F).symm⟩
def j9(T:List Qt):List Int:=(T.filter (·.leaf)).map (·.iD)
def EK(M:Qn)(a:Int):Bool:=(QD M a).q.l.isEmpty
def Vt(M:Qn):List Int:=vn (EK M) (j9 M.T)
def dX{M:Qn}(I:Qx M){id}(h:id∈j9 M.T):∃n,Qj M.N id=some n/\n.c.leaf=true/\n.c.iD=id:=by
 obtain⟨c,e,rfl⟩:=Jm.1 h;obtain⟨f,d⟩:=JO.1 e;have a:=(WC I.tree.rising).2 ⟨f,rfl⟩;rw[I.nodes,oM]at a;cases b:Qj M.N c.iD with
 | none=>rw[b]at a;cases a
 | some n=>
  rw[b,Kx,QX]at a;exact⟨n,rfl,by rw[a];exact d,by rw[a]⟩
section
variable {h:List Ob}{p:Nat}{L:Loc}{M:Qn}(C:XI h p L M)(I:Qx M)
include C I
theorem Qvc:Kq prog 58 h [.ptr p 0 0 0] (λd g=>J3 h.length (h++g) d (Vt M)):=by
 have XO:(j9 M.T).length<1000000:=by
  have:=YU (λc:Qt=>c.leaf) M.T;have y:=I.tree.len;simp only[j9,JV];omega
 have t:=C.ob;refine Yz J8 200 func58 rfl ntmps58 results58 rfl λW w pl F Q QQ i=>?_;rw[<- Q]at t;have Qd:=Qc t;simp only[go_sem,Qa,t,Qd];obtain⟨B,v⟩:∃B:List Ob,B=[⟨.one,0,1,1,λ_=>[.ptr p 0 0 0]⟩]:=⟨_,rfl⟩;have r:B.length=1:=by rw[v];rfl
 have Zp:B[0]? = some ⟨.one,0,1,1,λ_=>[.ptr p 0 0 0]⟩:=by rw[v];rfl
 have dY:=v;rw[<- dY];have V:XI F p L M:=C.more (Js Q);have CB:XI (F++B) p L M:=V.more wG;obtain⟨m,c,es,Z,hm,hT⟩:=CB.tr;refine AW i Qog rfl ?_ (QqS _ L.t m c hT (by have:=I.tree.len;omega) Z hm) rfl λd g O=>?_
 .simp only[go_sem]
 rw[show (M.T.filter (·.leaf)).map (·.iD)=j9 M.T from rfl]at O;rcases O with ⟨rfl,h3⟩|⟨b,s,a,l,rfl,E,WY,hr⟩
 .apply QC i;refine Xj i Qb4 rfl ?_ (Qvb _ (.clo 97 0 [.ptr F.length 0 0 0])) rfl λd2 u=>?_
  .simp only[go_sem,Qa]
  subst u;apply QC i;refine⟨_,rfl,.inl ⟨rfl,?_⟩⟩;rw[Vt,h3];rfl
 .apply QC i;have XT:F.length+1<=b:=by
   have R:(F++B).length<=b:=E.1;rw[JJ,r]at R;exact R
  obtain⟨H,j⟩:∃H,H=F++(B++g):=⟨_,rfl⟩;have K:∀x:Nat,x<F.length->H[x]? = F[x]? := λx hx=>by rw[j];exact QG hx
  have T:H[b]? = some ⟨.arr,s,1,a+(j9 M.T).length,l⟩:=by rw[j,<- Wx];exact WY
  have a1:F.length+1<=H.length:=by rw[j];simp[r]
  have N:H[F.length]? = some ⟨.one,0,1,1,λ_=>[.ptr p 0 0 0]⟩:=by rw[j,JZ rfl,QG ω];exact Zp
  rw[<- j];have f:∀k:List Ob,(∀x:Nat,H[x]? = k[x]?\/(k[x]? = (H[x]?).map Ob.ro))->k.length=H.length->Sr (j9 M.T) k b 97 0 [.ptr F.length 0 0 0] (EK M):=by
   intro k y Z7 S n WH a0 J;have q:∀(x:Nat) (o:Ob),x<F.length+1->(H.map Ob.ro)[x]? = some o->(S.map Ob.ro)[x]? = some o:=λx o hx e=>by
    have e1:=J x ω ω;rw[Kl]at e ⊢;rw[e1];rcases y x with z|z
    .rw[<- z];exact e
    .rw[z,OP,<- e];congr 1;funext o;exact ro_ro o
   obtain⟨Y,P,hl,Ze⟩:=dX I WH;have Z3:QD M n=Y:=by unfold QD;rw[P];rfl
   have:=Qva (V.more (h':=S) λx o e=>q x o (by have:=Qc e;rw[JV]at this;omega) (by rw[Kl,K x (by have:=Qc e;rw[JV]at this;omega),<- Kl];exact e)) P hl Ze (q F.length ⟨.Wy,0,1,1,λ_=>[.ptr p 0 0 0]⟩ ω (by rw[Kl,N];rfl));unfold EK;rw[Z3];exact this
  refine A4 i Qb4 (Qu8 H (j9 M.T) b s a l XO T hr (.clo 97 0 [.ptr F.length 0 0 0]) 97 0 [.ptr F.length 0 0 0] Qoh rfl (EK M) (f H (λx=>.inl rfl) rfl) (f (H.map Ob.ro) (λx=>.inr (by rw[Kl])) σ)) λd y u=>?_;obtain⟨rfl,U,rfl,RS⟩:=u;apply QC i;refine J3.done QQ ⟨(B++g).set (b - F.length) ⟨.arr,s,1,a+(vn (EK M) (j9 M.T)).length,U⟩,?_⟩ (.inr ⟨b,s,a,U,rfl,?_,?_,RS⟩)
  .rw[j,Lr _ _ (by omega:F.length<=b)]
  .exact⟨by have:=E.1;omega,E.2⟩
  .exact Qv (Qc T)
theorem pK:QR prog 58 h [.ptr p 0 0 0] (λd=>d=ints (Vt M)):=J3.closed (Qvc C I)
end
def Ss(l:List Int)(v:Int):Int:=if l.contains v then (l.idxOf v:Nat) else -1
def Qvg(l:List Int)(a)(n:l.length<2147483648):Q6 prog 124 [ints l,Qb a] (Zm (Qb (Ss l a))):=by
 refine Zs 0 func124 ntmps124 results124 λi w e=>?_;simp only[go_sem];refine Z4 (λk s=>(l.take k).contains a=false/\s=⟨[(0,ints l),(1,Qb a),(6,ints l),(7,Qb l.length),(8,Qb k)],[]⟩) l.length (s0:=⟨[(0,ints l),(1,Qb a),(6,ints l),(7,Qb l.length),(8,Qb 0)],[]⟩) QN ⟨σ,rfl⟩ ?_;rintro k s o ⟨c,rfl⟩;apply Zd e;refine vZ (λh=>?_) (λh=>?_)
 .have d:k<l.length:=by simpa using h
  have g:=getD_take l 0 k d;simp only[go_sem,d];refine vZ (λb=>?_) (λb=>?_)
  .simp only[go_sem];have f:l=l.take k++a::l.drop (k+1):=by
    conv=>lhs;rw[<- Fa (k+1) l,g]
    simp at b;simp[b]
   have:Ss l a=k:=by
    have j:l.contains a=true:=by rw[f];simp
    have m:¬ a∈l.take k:=by simpa using c
    rw[Ss,j];simp only[Va];rw[f,List.idxOf_append,Qe m];simp;omega
   rw[this]
  .simp only[go_sem];refine⟨ω,_,QF.frame (by simp only[go_sem,KJ (show k<4611686018427387904 from ω)]),?_,rfl⟩;rw[g];simp at c b ⊢;exact⟨c,b⟩
 .have d:k=l.length:=by simp at h;omega
  simp only[go_sem];apply Zd e;subst d;simp at c;simp[Ss,c]
def Qvh(l:List Int)(a)(d:l.length<2147483648):Q6 prog 91 [ints l,Qb a] (Zm (QT (l.contains a))):=by
 refine Zs 0 func91 ntmps91 results91 λc w b=>?_;simp only[go_sem];apply J2 b Qov (Qvg l a d);apply Zd b;unfold Ss;cases l.contains a<;>simp
def Qvi{h:List Ob}{p l k}{L}{M}(C:XI h p L M)(I:Qx M)(f n)(c:(h.map Ob.ro)[l]? = some ⟨.Wy,0,1,1,λ_=>[.ptr p 0 0 0]⟩)(b:(h.map Ob.ro)[k]? = some ⟨.Wy,0,1,1,λ_=>[Qb f]⟩):
  QR prog 90 h [Qb n,.ptr l 0 0 0,.ptr k 0 0 0] (λd=>d=QT ((up M.T n).contains f)):=by
 have e:=C.ob;refine Zk func90 ntmps90 results90 λo w r F j s a=>?_;rw[<- j]at e c b;have m:=Qc e;have g:=Qc c;have i:=Qc b;simp only[go_sem,Qa,e,m,c,g,b,i];apply Qw a [0,1,2,3,4,6,1005,1007,8];simp only[go_sem,Qa,e,m,c,g,b,i];apply V0 a aS (mI (C.tr.more (Js j)) I.tree.toTreeInv n);apply Q7 a;simp only[go_sem,Qa,c,g,b,i];have q:(Jy M.T 16 n).length<=16:=Bc (L:=M.T) (n:=16) (id:=n);apply MI a Qoe (Qvh (Jy M.T 16 n) f ω);apply Xy a;exact⟨[],(Jl F).symm,rfl⟩
def Qvj(g)(l:List Int):(vn g l).length<=l.length:=YU _ _
def Ai(M:Qn)(a:Int):Bool:=(Vt M).any λn=>(up M.T n).contains a
def QfY{M:Qn}(I:Qx M):(Vt M).length<=64:=by
 have a:=Qvj (EK M) (j9 M.T);have d:=YU (λc:Qt=>c.leaf) M.T;have b:=I.tree.len;simp only[Vt,j9,JV]at a ⊢;omega
def Qvk{h}{p}{L}{M}(C:XI h p L M)(I:Qx M)(b):
  QR prog 56 h [.ptr p 0 0 0,Qb b] (λd=>d=QT (Ai M b)):=by
 have K:=QfY I;have f:=C.ob;refine Yz J8 200 func56 rfl ntmps56 results56 rfl λq w z F j N c=>?_;rw[<- j]at f;have v:=Qc f;simp only[go_sem,Qa,f,v];have y:XI F p L M:=C.more (Js j);obtain⟨B,i⟩:∃B:List Ob,B=[⟨.one,0,1,1,λ_=>[.ptr p 0 0 0]⟩,⟨.one,0,1,1,λ_=>[Qb b]⟩]:=⟨_,rfl⟩;have u:B[0]? = some ⟨.one,0,1,1,λ_=>[.ptr p 0 0 0]⟩:=by rw[i];rfl
 have x:B[1]? = some ⟨.one,0,1,1,λ_=>[Qb b]⟩:=by rw[i];rfl
 have k:=i;simp only[go_sem]at k;rw[<- k];have m:XI (F++B) p L M:=y.more wG;apply ZA c iJ (pK m I);apply QC c;refine Xj c PM rfl ?_ (pJ (F++B) (Vt M) ω (.clo 90 0 [.ptr F.length 0 0 0,.ptr (F.length+1) 0 0 0]) 90 0 [.ptr F.length 0 0 0,.ptr (F.length+1) 0 0 0] Qod rfl (λn=>(up M.T n).contains b) (λs n H hx=>?_)) rfl λd2 r=>?_
 .simp only[go_sem,Qa]
 .have a:∀(l:Nat) (o:Ob),((F++B).map Ob.ro)[l]? = some o->(s.map Ob.ro)[l]? = some o:=λl o e=>by
   obtain⟨g,rfl⟩:=hx;have t:=ZG ((QG (Qc e)).trans e:((F++B).map Ob.ro++g)[l]? = some o);rw[t];rw[Kl]at e;obtain⟨E,J,rfl⟩:=Xq.1 e;rw[ro_ro]
  exact Qvi (m.more a) I b n (a _ _ (by rw[Kl,JZ rfl,u];rfl)) (a _ _ (by rw[Kl,Vj rfl,x];rfl))
 subst r;apply QC c;refine⟨B,rfl,?_⟩;rw[PX];rfl
def Qvl{h:List Ob}{o n r q}{A B:List Qt}(z:Wq h o A)(v:Wq h n B)(b)(e:(h.map Ob.ro)[r]? = some ⟨.Wy,0,1,1,λ_=>[.ptr o 0 0 0]⟩)(c:(h.map Ob.ro)[q]? = some ⟨.Wy,0,1,1,λ_=>[.ptr n 0 0 0]⟩)(H:A.length<100000)(E:B.length<100000):
  QR prog 93 h [Qb b,.ptr r 0 0 0,.ptr q 0 0 0] (λd=>d=QT (Gq A b || Gq B b)):=by
 obtain⟨x,hx⟩:∃x,x=(Qz A b).getD default:=⟨_,rfl⟩;obtain⟨y,p⟩:∃y,y=(Qz B b).getD default:=⟨_,rfl⟩;have u:Gq A b=decide (1<Q4 x.rt):=by rw[hx];rfl
 have t:Gq B b=decide (1<Q4 y.rt):=by rw[p];rfl
 rw[u,t];refine Zk func93 ntmps93 results93 λs w C F k I a=>?_;rw[<- k]at e c;have l:=Qc e;have m:=Qc c;simp only[go_sem,Qa,e,l,c,m];have i:=MW (z.more (Js k)) b;have f:=λG:List Ob=>MW ((v.more (Js k)).more (wG (g:=G))) b;rw[<- hx]at i;simp only[<- p]at f;apply ZA a kS i;apply Qg a;simp only[go_sem,Qa,e,l,c,m];apply ZA a kS (f _);apply Qg a;simp only[go_sem,Qa,e,l,c,m];cases j:decide (1<Q4 x.rt) with
 | true=>
  refine Jk a B9 ?_ (DV x) ?_
  .simp only[go_sem,Qa,j]
  apply Qg a;simp only[go_sem,Qa,j];exact⟨_,rfl⟩
 | false=>
  refine Jk a B9 ?_ (DV x) ?_
  .simp only[go_sem,Qa,j]
  apply Qg a;simp only[go_sem,Qa,j];apply YC a B9 (DV y);apply QC a;exact⟨_,rfl⟩
def pL{h}{c b}{A B:List Qt}(z:Wq h c A)(y:Wq h b B)(m:A.length<100000)(k:B.length<100000)(s:(J6 A B).length<1000000):
  QR prog 57 h [.ptr c 0 0 0,.ptr b 0 0 0] (λd=>d=QT (db A B)):=by
 refine Yz J8 200 func57 rfl ntmps57 results57 rfl λr w E F j K f=>?_;simp only[go_sem,Qa];obtain⟨G,i⟩:∃G:List Ob,G=[⟨.one,0,1,1,λ_=>[.ptr c 0 0 0]⟩,⟨.one,0,1,1,λ_=>[.ptr b 0 0 0]⟩]:=⟨_,rfl⟩;have x:G[0]? = some ⟨.one,0,1,1,λ_=>[.ptr c 0 0 0]⟩:=by rw[i];rfl
 have C:G[1]? = some ⟨.one,0,1,1,λ_=>[.ptr b 0 0 0]⟩:=by rw[i];rfl
 rw[<- i];have q:Wq (F++G) c A:=(z.more (Js j)).more wG;have p:Wq (F++G) b B:=(y.more (Js j)).more wG;apply ZA f QbU (Qfi q p m k);apply QC f;refine Xj f PM rfl ?_ (pJ (F++G) (J6 A B) s (.clo 93 0 [.ptr F.length 0 0 0,.ptr (F.length+1) 0 0 0]) 93 0 [.ptr F.length 0 0 0,.ptr (F.length+1) 0 0 0] Qof rfl (λid=>Gq A id || Gq B id) (λu n I hx=>?_)) rfl λd2 t=>?_
 .simp only[go_sem,Qa]
 .have a:∀(l:Nat) (o:Ob),((F++G).map Ob.ro)[l]? = some o->(u.map Ob.ro)[l]? = some o:=λl o e=>by
   obtain⟨g,rfl⟩:=hx;have v:=ZG ((QG (Qc e)).trans e:((F++G).map Ob.ro++g)[l]? = some o);rw[v];rw[Kl]at e;obtain⟨H,J,rfl⟩:=Xq.1 e;rw[ro_ro]
  exact Qvl (q.more a) (p.more a) n (a _ _ (by rw[Kl,JZ rfl,x];rfl)) (a _ _ (by rw[Kl,Vj rfl,C];rfl)) m k
 subst t;apply QC f;refine⟨G,rfl,?_⟩;rw[PX];rfl
def Yj(c:Qt):Nd:=⟨c,0,default,default,default,⟨[],0,0,0,0,0,0⟩⟩
def Qf1(h:List Ob)(c:Qt)(d:D)(a:List Ob):Prop:=
 d=.ptr (h.length+1) 0 0 0/\∃g b,a=h++g/\2<=g.length/\a[h.length+1]? = some (Yh (if c.leaf=true then .ptr b 0 0 0 else .raw (.pointer none)) (Yj c)) /\
  (c.leaf=true->∃k:Nat,c.Zz=k/\vh (λl=>h.length+2<=l) a b k c.bytes ⟨[],0,0,0,0,0,0⟩)
@[go_sem] theorem QDB(d a)(n):a::List.drop 1 (Kt d n)=Kt a n:=rfl
def Qvm(h)(c:Qt)(N:c.leaf=true->1<=c.Zz/\c.Zz<=64/\1<=c.bytes/\c.bytes<=1048576):
  QI prog 60 h [Xz c] (λd O=>Qf1 h c d O):=by
 obtain⟨p,o,J,n,m,j,z,i⟩:=c;cases J with
 | false=>
  refine QZ func60 ntmps60 results60 λf w I q=>?_;simp only[go_sem,Qa,Qa];refine⟨rfl,_,0,rfl,σ,?_,λe=>by cases e⟩;rw[Vj (k:=1) rfl];show some (_:Ob)=some (Yh (.raw (.pointer none)) _);refine congrArg some ?_;unfold Yh Kt Yj;refine congrArg (Ob.mk .one 0 60 1) ?_;funext _;dsimp only;simp only[Qt.cells,YT,q4];rfl
 | true=>
  obtain⟨L,K,y,x⟩:=N rfl;dsimp only at L K y x;obtain⟨k,rfl⟩:∃k:Nat,z=k:=⟨z.toNat,ω⟩;refine QZ func60 ntmps60 results60 λf w I q=>?_;simp only[go_sem,Qa,Qa];generalize R:(⟨.one,0,14,1,_⟩:Ob)=P;generalize u:(⟨.one,0,60,1,_⟩:Ob)=H;have C:H=Yh (.raw (.pointer none)) (Yj ⟨p,o,true,n,m,j,(k:Int),i⟩):=by
   rw[<- u];unfold Yh Kt Yj;refine congrArg (Ob.mk .one 0 60 1) ?_;funext _;dsimp only;simp only[Qt.cells,YT,q4];rfl
  obtain⟨G,a⟩:∃G:List Ob,G=[P,H]:=⟨_,rfl⟩;have r:G.length=2:=by rw[a];rfl
  have M:=QrY (h++G) k i ω ω y x;have U:(h++G)[h.length+1]? = some (Yh (.raw (.pointer none)) (Yj ⟨p,o,true,n,m,j,(k:Int),i⟩)):=by rw[a,<- C];exact Vj (k:=1) rfl
  have v:=M;rw[a]at v;refine Jb q Qoi v λd T B=>?_;rw[<- a]at B;obtain⟨rfl,Q,g,rfl,S⟩:=B;have E:(G++g)[1]? = some (Yh (.raw (.pointer none)) (Yj ⟨p,o,true,n,m,j,(k:Int),i⟩)):=by rw[a,<- C];rfl
  have b:=Qc E;apply Qg q;simp only[go_sem,Qa,E,b];have t:(h++G).length=h.length+2:=by rw[JJ,r]
  refine⟨rfl,_,h.length+G.length+2,rfl,by simp[r],?_,λ_=>⟨k,rfl,?_⟩⟩
  .rw[Vj (k:=1) rfl];rw[Qv b];rfl
  .rw[t]at Q;rw[r];refine(Q.step (S':=λl=>h.length+2<=l) λl V F=>⟨F,?_⟩);have W:h.length+2<=l:=F;have e:∀X:Ob,h++(G++g).set 1 X=(h++G++g).set (h.length+1) X:=λX=>by
    rw[Wx,Lr (s:=h) (h.length+1) X ω,TC]
   rw[e];exact Qm ω
def IU{a:Nat->Tag}{h:List Ob}{l:Nat}{b:Tag}(f:a l=b)(o:Ob):∀t,t≠b->∀j,j<h.length->a j=t->a j=t/\(h.set l o)[j]? = h[j]? :=
 λt d j _ c=>⟨c,Qm (λe=>d (by rw[<- c,<- e,f]))⟩
def qT{a:Nat->Tag}{h:List Ob}{l:Nat}{b:Tag}(e:a l=b)(o:Ob){j:Nat}{x:Ob}{t:Tag}(f:a j=t)(d:t≠b)(c:h[j]? = some x):(h.set l o)[j]? = some x:=
 ((IU e o t d j (Qc c) f).2).trans c
section
variable {own:Nat->Tag}{h:List Ob}{p:Nat}{L:Loc}{M:Qn}(C:Zv own h p L M)
include C
theorem Zv.congrN{N}(e:∀id,Qj N id=Qj M.N id):Zv own h p L { M with N:=N }:=
 ⟨C.ob,C.op,C.tr,C.KZ,C.YG.to λid=>by dsimp only;rw[e],C.ow,λid n a=>C.Jc id n (by rw[<- e];exact a),λid n a=>C.WJ id n (by rw[<- e];exact a),C.YH,C.XG,C.VA,C.Xn,C.om,C.kids,λid n a=>C.YI id n (by rw[<- e];exact a)⟩
theorem Zv.Qvp{b}{c}(R:V6 (λl=>own l=.tree) h b c):Zv own (h.set p (jj M.lk b L.b L.o L.v L.m M.Qi M.acc)) p { L with t:=b } { M with T:=c }:=by
 have r:=IU (h:=h) C.op (jj M.lk b L.b L.o L.v L.m M.Qi M.acc);exact⟨Qv (Qc C.ob),C.op,R.step (r _ σ),qT C.op _ C.ow σ C.KZ,C.YG,C.ow,λj m a=>⟨qT C.op _ (C.Jc j m a).2 σ (C.Jc j m a).1,(C.Jc j m a).2⟩,λj m a d=>by
  obtain⟨k,g,f⟩:=C.WJ j m a d;exact⟨k,g,f.step (r _ σ)⟩,C.YH.step (r _ σ),C.XG.step (r _ σ),qT C.op _ C.om σ C.VA,C.Xn,C.om,λj e=>(C.kids j e).step (r _ σ),C.YI⟩
theorem Zv.Qvq{b}{c}{d}(R:zn (λl=>own l=.on) h b c d):Zv own (h.set p (jj M.lk L.t L.b b L.v L.m M.Qi M.acc)) p { L with o:=b } { M with To:=c,A:=d }:=by
 have r:=IU (h:=h) C.op (jj M.lk L.t L.b b L.v L.m M.Qi M.acc);exact⟨Qv (Qc C.ob),C.op,C.tr.step (r _ σ),qT C.op _ C.ow σ C.KZ,C.YG,C.ow,λj m a=>⟨qT C.op _ (C.Jc j m a).2 σ (C.Jc j m a).1,(C.Jc j m a).2⟩,λj m a e=>by
  obtain⟨k,i,g⟩:=C.WJ j m a e;exact⟨k,i,g.step (r _ σ)⟩,R.step (r _ σ),C.XG.step (r _ σ),qT C.op _ C.om σ C.VA,C.Xn,C.om,λj f=>(C.kids j f).step (r _ σ),C.YI⟩
end
def wV(N:List Nd)(a:Int):List Nd:=N.filter λn=>n.c.iD != a
def IV(N)(a j):Qj (wV N a) j=if j=a then none else Qj N j:=by
 unfold Qj wV;rw[List.find?_filter];split
 .rename_i e;subst e;rw[js];intro x _;simp
 .rename_i e;congr 1;funext x;cases b:x.c.iD==j with
  | false=>simp[b]
  | true=>
   have:x.c.iD=j:=by simpa using b
   simp[this,e]
section
variable {own:Nat->Tag}{h:List Ob}{p:Nat}{L:Loc}{M:Qn}(C:Zv own h p L M)
include C
theorem Zv.Qvr(b):Zv own (h.set L.b (QM .i64 L.cb (JK L.eb b))) p { L with eb:=JK L.eb b } { M with N:=wV M.N b }:=by
 have r:=IU (h:=h) C.ow (QM .i64 L.cb (JK L.eb b));have f:∀j m,Qj (wV M.N b) j=some m->Qj M.N j=some m:=λj m a=>by
  rw[IV]at a;split at a
  .cases a
  .exact a
 refine⟨qT C.ow _ C.op σ C.ob,C.op,C.tr.step (r _ σ),Qv (Qc C.KZ),(C.YG.del b).to λj=>?_,C.ow,λj m a=>⟨qT C.ow _ (C.Jc j m (f j m a)).2 σ (C.Jc j m (f j m a)).1,(C.Jc j m (f j m a)).2⟩,λj m a c=>?_,C.YH.step (r _ σ),C.XG.step (r _ σ),qT C.ow _ C.om σ C.VA,C.Xn,C.om,λj d=>(C.kids j d).step (r _ σ),λj m a=>C.YI j m (f j m a)⟩
 .dsimp only;rw[IV];split
  .rfl
  .rfl
 .obtain⟨k,g,e⟩:=C.WJ j m (f j m a) c;exact⟨k,g,e.step (r _ σ)⟩
theorem Zv.Qvs(a):Zv own (h.set L.m (QM .i64 L.cm (JK L.em a))) p { L with em:=JK L.em a } { M with ks:=λj=>if j=a then false else M.ks j }:=by
 have r:=IU (h:=h) C.om (QM .i64 L.cm (JK L.em a));refine⟨qT C.om _ C.op σ C.ob,C.op,C.tr.step (r _ σ),qT C.om _ C.ow σ C.KZ,C.YG,C.ow,λj m b=>⟨qT C.om _ (C.Jc j m b).2 σ (C.Jc j m b).1,(C.Jc j m b).2⟩,λj m b d=>?_,C.YH.step (r _ σ),C.XG.step (r _ σ),Qv (Qc C.VA),(C.Xn.del a).to λj=>?_,C.om,λj c=>?_,C.YI⟩
 .obtain⟨k,g,f⟩:=C.WJ j m b d;exact⟨k,g,f.step (r _ σ)⟩
 .dsimp only;by_cases e:j=a<;>simp[e]
 .dsimp only at c;by_cases e:j=a
  .rw[Qf e]at c;cases c
  .rw[Qe e]at c;exact(C.kids j c).step (r _ σ)
theorem Zv.Qvt(a){k}(T:Wr (λl=>own l=.XF a) h k []):∃c d,JR .i64 L.cm L.em a (.ptr k 0 0 0)=QM .i64 c d /\
  Zv own (h.set L.m (JR .i64 L.cm L.em a (.ptr k 0 0 0))) p { L with cm:=c,em:=d,lk:=λj=>if j=a then k else L.lk j } { M with ks:=λj=>if j=a then true else M.ks j,KT:=λj=>if j=a then [] else M.KT j }:=by
 obtain⟨c,d,f,i⟩:=C.Xn.set .i64 L.cm a (.ptr k 0 0 0);refine⟨c,d,f,?_⟩;rw[f];have r:=IU (h:=h) C.om (QM .i64 c d);refine⟨qT C.om _ C.op σ C.ob,C.op,C.tr.step (r _ σ),qT C.om _ C.ow σ C.KZ,C.YG,C.ow,λj m b=>⟨qT C.om _ (C.Jc j m b).2 σ (C.Jc j m b).1,(C.Jc j m b).2⟩,λj m b n=>?_,C.YH.step (r _ σ),C.XG.step (r _ σ),Qv (Qc C.VA),i.to λj=>?_,C.om,λj g=>?_,C.YI⟩
 .obtain⟨k,f,i⟩:=C.WJ j m b n;exact⟨k,f,i.step (r _ σ)⟩
 .dsimp only;by_cases e:j=a<;>simp[e]
 .dsimp only at g ⊢;by_cases e:j=a
  .subst e;rw[Qf rfl,Qf rfl];exact T.step (r _ σ)
  .rw[Qe e]at g;rw[Qe e,Qe e];exact(C.kids j g).step (r _ σ)
theorem Zv.Qvu{n:Nd}{e q}(E:Qj M.N n.c.iD=none)(w:h[e]? = some (Yh (if n.c.leaf=true then .ptr q 0 0 0 else .raw (.pointer none)) n))(o:own e=.wv n.c.iD)
  (v:n.c.leaf=true->∃k:Nat,n.c.Zz=k/\vh (λl=>own l=.qm n.c.iD) h q k n.c.bytes n.q) (B:n.Ok):∃c b,JR .i64 L.cb L.eb n.c.iD (.ptr e 0 0 0)=QM .i64 c b /\
  Zv own (h.set L.b (JR .i64 L.cb L.eb n.c.iD (.ptr e 0 0 0))) p { L with cb:=c,eb:=b,le:=λj=>if j=n.c.iD then e else L.le j,lq:=λj=>if j=n.c.iD then q else L.lq j } { M with N:=n::M.N }:=by
 obtain⟨c,b,t,y⟩:=C.YG.set .i64 L.cb n.c.iD (.ptr e 0 0 0);refine⟨c,b,t,?_⟩;rw[t];have r:=IU (h:=h) C.ow (QM .i64 c b);have d:∀j,Qj (n::M.N) j=if j=n.c.iD then some n else Qj M.N j:=λj=>by
  unfold Qj;rw[vI];by_cases e:j=n.c.iD
  .subst e;rw[Qf rfl,Fc]
  .rw[Qe e,Xx (λx=>e x.symm)]
 have z:∀j m,Qj M.N j=some m->m.c.iD=j:=λj m a=>Qx.id a;have u:∀j m,j≠n.c.iD->Qj M.N j=some m->qD (λj=>if j=n.c.iD then q else L.lq j) m=qD L.lq m:=λj m f a=>by
  unfold qD;simp only[z j m a,Qe f]
 refine⟨qT C.ow _ C.op σ C.ob,C.op,C.tr.step (r _ σ),Qv (Qc C.KZ),y.to λj=>?_,C.ow,λj m a=>?_,λj m a s=>?_,C.YH.step (r _ σ),C.XG.step (r _ σ),qT C.ow _ C.om σ C.VA,C.Xn,C.om,λj f=>(C.kids j f).step (r _ σ),λj m a=>?_⟩
 .dsimp only;rw[d];by_cases e:j=n.c.iD
  .rw[Qf e,Qf e,Qf e];rfl
  .rw[Qe e,Qe e,Qe e]
 .dsimp only at a ⊢;rw[d]at a;by_cases e:j=n.c.iD
  .rw[Qf e]at a;cases a;rw[Qf e,e];refine⟨?_,o⟩;rw[qT C.ow _ o σ w];unfold qD;dsimp only;rw[Qf rfl]
  .rw[Qe e]at a;rw[Qe e,u j m e a];exact⟨qT C.ow _ (C.Jc j m a).2 σ (C.Jc j m a).1,(C.Jc j m a).2⟩
 .dsimp only at a ⊢;rw[d]at a;by_cases e:j=n.c.iD
  .rw[Qf e]at a;cases a;rw[Qf e,e];obtain⟨k,i,g⟩:=v s;exact⟨k,i,g.step (r _ σ)⟩
  .rw[Qe e]at a;rw[Qe e];obtain⟨k,i,g⟩:=C.WJ j m a s;exact⟨k,i,g.step (r _ σ)⟩
 .dsimp only at a;rw[d]at a;by_cases e:j=n.c.iD
  .rw[Qf e]at a;cases a;exact B
  .rw[Qe e]at a;exact C.YI j m a
end
def J1(b:List Qt)(M:Qn)(a:Int):Qn:=
 match Qz b a with
 | none=>{ M with N:=wV M.N a,ks:=λj=>if j=a then false else M.ks j }
 | some c=>if c.leaf=true then { M with N:=Yj c::wV M.N a,ks:=λj=>if j=a then false else M.ks j }
  else { M with N:=Yj c::wV M.N a,ks:=λj=>if j=a then true else M.ks j,KT:=λj=>if j=a then [] else M.KT j }
def VC(M:Qn)(a:List Qt):Qn:=(J6 M.T a).foldl (J1 a) { M with T:=a }
def kb(M:Qn)(a:List Qt)(b:Bool):Bool:=(J6 M.T a).any (Ai M) || (db M.T a&&(!b || decide (0<(Vt M).length)))
def YK(M:Qn)(a:List Qt):List Nd:=a.map λc=>QD (VC M a) c.iD
def vv(b:List Qt)(A:List Int)(a:Int):List Int:=if 1<Q4 ((Qz b a).getD default).ls then a::A else A
def YL(M:Qn)(a:List Qt):Qn:={ VC M a with N:=YK M a,To:=a,A:=[] }
def wW(M:Qn)(a:List Qt):Qn:={ YL M a with A:=(Vt (YL M a)).foldl (vv a) [] }
def zB(M:Qn)(b:Bool)(l:List Jr):Int:=
 if y7 M.T M.lk.t l≠0 then y7 M.T M.lk.t l else if kb M (KS M.T l) b=true then 24 else 0
def Aj(M:Qn)(l:List Jr):Nat:=if y7 M.T M.lk.t l≠0 then NB M.T l else 0
def KL(M:Qn)(b:Bool)(l:List Jr):Qn:=if zB M b l=0 then wW M (KS M.T l) else M
def Qvv(h)(c:Qt)(f:c.leaf=true->1<=c.Zz/\c.Zz<=64/\1<=c.bytes/\c.bytes<=1048576):
  Kq prog 60 h [Xz c] (λd g=>Qf1 h c d (h++g)):=by
 refine QI.mono (Qvm (h.map Ob.ro) c f) ?_;rintro d p ⟨rfl,g,b,rfl,m,a,j⟩;refine⟨g,rfl,by rw[JV],g,b,rfl,m,?_,λe=>?_⟩
 .rw[JV]at a;rw[JE (by rw[JV];omega),JV]at a;rw[JE ω];exact a
 .obtain⟨k,i,Q⟩:=j e;refine⟨k,i,Q.step λl _ n=>?_⟩;have o:h.length+2<=l:=by
   have:(h.map Ob.ro).length+2<=l:=n;rwa [JV]at this
  exact⟨o,by rw[JE ω,JE (by rw[JV];omega),JV]⟩
def Qf3{c:Qt}(h:Qt.Ok c):(Yj c).Ok:=
 have z:(0:Nat)<18446744073709551616:=π
 ⟨z,⟨⟨Ln.jV,Ln.jV⟩,⟨Ln.jV,Ln.jV⟩,z,KF _,KF _⟩,⟨⟨Ln.jV,Ln.jV⟩,z⟩,⟨⟨Ln.jV,Ln.jV⟩,KF _⟩,h⟩
def Qvw(A B:List Qt):(J6 A B).length<=A.length+B.length:=by
 have b:=Nw (λi=>(sorted (xS A B)).getD i 0) (sorted (xS A B)).length;have d:(sorted (xS A B)).length=(xS A B).length:=FY _;have a:(xS A B).length<=(A.map (·.iD)++B.map (·.iD)).length:=YU _ _;have c:(J6 A B).length<=(sorted (xS A B)).length:=by simpa[J6,zw] using b
 simp at a;omega
section
variable {T2:List Qt}(hr:WB T2)
include hr
theorem Qvx(M:Qn)(j a:Int):Qj (J1 T2 M j).N a=if a=j then (Qz T2 a).map Yj else Qj M.N a:=by
 unfold J1;cases d:Qz T2 j with
 | none=>
  dsimp only;rw[IV];by_cases e:a=j
  .subst e;rw[Qf rfl,Qf rfl,d];rfl
  .rw[Qe e,Qe e]
 | some c=>
  have f:=((WC hr).1 d).2;have b:Qj (Yj c::wV M.N j) a=if a=j then (Qz T2 a).map Yj else Qj M.N a:=by
   by_cases e:a=j
   .subst e;rw[Qf rfl,d];unfold Qj;rw[vI,show ((Yj c).c.iD==a)=true by rw[show (Yj c).c.iD=c.iD from rfl,f];exact Fc _];rfl
   .rw[Qe e];have:Qj (Yj c::wV M.N j) a=Qj (wV M.N j) a:=by
     unfold Qj;rw[vI,show ((Yj c).c.iD==a)=false by rw[show (Yj c).c.iD=c.iD from rfl,f];exact Xx (λx=>e x.symm)]
    rw[this,IV,Qe e]
  dsimp only;split
  .exact b
  .exact b
theorem Gz(a:Int):∀(l:List Int) (M:Qn),Qj (l.foldl (J1 T2) M).N a=if a∈l then (Qz T2 a).map Yj else Qj M.N a
 | [],M=>σ
 | j::l,M=>by
  rw[yg,Gz a l,Qvx hr];by_cases c:a∈l
  .rw[Qf c,Qf (Km _ c)]
  .rw[Qe c];by_cases b:a=j
   .rw[Qf b,Qf (by rw[b];exact K8)]
   .rw[Qe b,Qe (by simp[c,b])]
omit hr in
theorem Qvy(M:Qn)(j a:Int):(J1 T2 M j).ks a=if a=j then (match Qz T2 a with|none=>false|some c=>!c.leaf) else M.ks a:=by
 unfold J1;by_cases e:a=j
 .subst e;rw[Qf rfl];cases d:Qz T2 a with
  | none=>simp
  | some c=>cases b:c.leaf<;>simp[b]
 .rw[Qe e];cases d:Qz T2 j with
  | none=>simp[e]
  | some c=>cases b:c.leaf<;>simp[e,b]
omit hr in
theorem Qf4(a):∀(l:List Int) (M:Qn),(l.foldl (J1 T2) M).ks a=if a∈l then (match Qz T2 a with|none=>false|some c=>!c.leaf) else M.ks a
 | [],M=>σ
 | j::l,M=>by
  rw[yg,Qf4 a l,Qvy];by_cases d:a∈l
  .rw[Qf d,Qf (Km _ d)]
  .rw[Qe d];by_cases b:a=j
   .rw[Qf b,Qf (by rw[b];exact K8)]
   .rw[Qe b,Qe (by simp[d,b])]
omit hr in
theorem Qvz(M:Qn)(j a:Int){x}(h:x∈(J1 T2 M j).KT a):x∈M.KT a:=by
 unfold J1 at h;split at h
 .exact h
 .split at h
  .exact h
  .dsimp only at h;split at h
   .cases h
   .exact h
omit hr in
theorem eh(a){x}:∀(l:List Int) (M:Qn),x∈(l.foldl (J1 T2) M).KT a->x∈M.KT a
 | [],M,h=>h
 | j::l,M,h=>Qvz M j a (eh a l (J1 T2 M j) h)
omit hr in
theorem Qf5(M:Qn)(j:Int):(J1 T2 M j).T=M.T/\(J1 T2 M j).Lv=M.Lv/\(J1 T2 M j).lk=M.lk/\(J1 T2 M j).Qi=M.Qi/\(J1 T2 M j).acc=M.acc:=by
 unfold J1;split
 .exact⟨rfl,rfl,rfl,rfl,rfl⟩
 .split<;>exact⟨rfl,rfl,rfl,rfl,rfl⟩
omit hr in
theorem GA:∀(l:List Int) (M:Qn),(l.foldl (J1 T2) M).T=M.T/\(l.foldl (J1 T2) M).Lv=M.Lv/\(l.foldl (J1 T2) M).lk=M.lk/\(l.foldl (J1 T2) M).Qi=M.Qi/\(l.foldl (J1 T2) M).acc=M.acc
 | [],M=>⟨rfl,rfl,rfl,rfl,rfl⟩
 | j::l,M=>by
  obtain⟨k,i,h,g,f⟩:=GA l (J1 T2 M j);obtain⟨e,d,c,b,a⟩:=Qf5 (T2:=T2) M j;rw[yg];exact⟨k.trans e,i.trans d,h.trans c,g.trans b,f.trans a⟩
end
section
variable {M:Qn}{T2:List Qt}(I:Qx M)(I2:Ve T2)
include I I2
theorem Qf6(a:Int):(Qj (VC M T2).N a).map (·.c)=Qz T2 a:=by
 unfold VC;rw[Gz I2.rising];by_cases h:a∈J6 M.T T2
 .rw[Qf h];cases Qz T2 a<;>rfl
 .rw[Qe h];have:=λe=>h (Gn.2 e);have e:Qz M.T a=Qz T2 a:=xg this;rw[<- e,I.find]
theorem Qf7{c:Qt}(d:c∈T2):Qj (VC M T2).N c.iD=some (QD (VC M T2) c.iD)/\(QD (VC M T2) c.iD).c=c:=by
 have a:=Qf6 I I2 c.iD;rw[(WC I2.rising).2 ⟨d,rfl⟩]at a;unfold QD;cases b:Qj (VC M T2).N c.iD with
 | none=>rw[b]at a;cases a
 | some n=>
  rw[b,Kx,QX]at a;exact⟨rfl,a⟩
theorem Qf8:(YK M T2).map (·.c)=T2:=by
 unfold YK;rw[E7]
 conv=>rhs;rw[<- List.map_id T2]
 exact Tq λc a=>(Qf7 I I2 a).2
theorem IW:∀id,Qj (YK M T2) id=Qj (VC M T2).N id:=λid=>by
 have d:=oM (YK M T2) id;rw[Qf8 I I2]at d;have b:=Qf6 I I2 id;cases a:Qj (YK M T2) id with
 | none=>
  rw[a]at d;rw[d]at b;cases f:Qj (VC M T2).N id with
  | none=>rfl
  | some m=>rw[f]at b;cases b
 | some n=>
  have j:n∈YK M T2:=xj a;have e:=Qx.id (M:=YL M T2) a;obtain⟨c,g,rfl⟩:=Jm.1 j;obtain⟨i,h⟩:=Qf7 I I2 g;rw[h]at e;rw[<- e,i]
theorem Su(H:wQ T2){b}(g:kb M T2 b=false)(J:∀x∈M.Lv,x.ki∈Vt M)(F:∀id,∀x∈M.KT id,∃n∈Vt M,x.ki∈up M.T n):Qx (YL M T2):=by
 obtain⟨s,r,K,q,p⟩:=GA (T2:=T2) (J6 M.T T2) { M with T:=T2 };have d:(YL M T2).T=T2:=s;have o:∀id,Ai M id=true->Qz T2 id=Qz M.T id:=λid E=>by
  refine xg λe=>?_;have v:=Gn.2 (λx=>e x.symm:Qz M.T id≠Qz T2 id);unfold kb at g;rw[show (J6 M.T T2).any (Ai M)=true from EY.2 ⟨id,v,E⟩]at g;cases g
 have k:∀x n,n∈Vt M->x∈up M.T n->Ai M x=true:=λx n j i=>EY.2 ⟨n,j,by simpa using i⟩;have C:(0:Int) ∉ J6 M.T T2:=λh=>by
  have f0:∀T:List Qt,Ve T->Qz T 0=none:=λT I=>by
   rw[FZ];intro c w e;have:=I.ids c w;omega
  exact Gn.1 h (by rw[f0 _ I.tree,f0 _ I2])
 refine⟨by rw[d];exact I2,by rw[d];exact H,d.symm,d.trans (Qf8 I I2).symm,λa y=>(Tt y).elim,λid=>?_,λx hx=>?_,λid x hx=>?_,λid x hx=>?_,?_,?_⟩
 .show (VC M T2).ks id=true↔id=0\/∃n,Qj (YK M T2) id=some n/\n.c.leaf=false;rw[IW I I2];unfold VC;rw[Qf4,Gz I2.rising];by_cases h:id∈J6 M.T T2
  .rw[Qf h,Qf h];have m:id≠0:=λe=>C (e▸h);cases Qz T2 id with
   | none=>simp[m]
   | some c=>simp[m,Yj]
  .rw[Qe h,Qe h];exact I.ks id
 .have f:x∈M.Lv:=by rw[<- r];exact hx
  have l:=J x f;obtain⟨n,u,_,_⟩:=dX I (JO.1 (show x.ki∈(j9 M.T).filter _ from l)).1;have t:x.ki∈up M.T x.ki:=by
   rw[lZ I.tree,I.some u];exact K8
  rw[d,o _ (k _ _ l t)];exact I.y9 x f
 .have f:x∈M.KT id:=eh id (J6 M.T T2) { M with T:=T2 } hx;obtain⟨c,j,i⟩:=I.jZ id x f;obtain⟨n,B,z⟩:=F id x f;exact⟨c,by rw[d,o _ (k _ _ B z)];exact j,i⟩
 .exact I.j4 id x (eh id (J6 M.T T2) { M with T:=T2 } hx)
 .show (VC M T2).Qi<=_;exact q▸I.Qi
 .show (VC M T2).acc<=_;exact p▸I.acc
end
def QvA{c:Qt}(h:Vd c=0):c.leaf=true->1<=c.Zz/\c.Zz<=64/\1<=c.bytes/\c.bytes<=1048576:=by
 intro b;have a:kY c=true:=by
  cases e:kY c with
  | true=>rfl
  | false=>
   exfalso;unfold Vd at h;rw[b,e]at h;simp only[GV,Bool.and_true,Bool.true_or,Va]at h;split at h
   .omega
   .split at h<;>omega
 unfold kY yM at a;simp only[ZH,XZ]at a;omega
def QvB(b)(M:Qn)(a:Int):(J1 b M a).T=M.T:=by
 unfold J1;split
 .rfl
 .split<;>rfl
def pM(a):∀(l:List Int) (M:Qn),(l.foldl (J1 a) M).T=M.T
 | [],_=>rfl
 | id::l,M=>by rw[yg,pM a l,QvB]
def QvC{S}{h}{p}{T}{A}(O:zn S h p T A)(a)(c:Qt)(k:Qz T a=some c)(j:¬ 1<Q4 c.ls):
  QI prog 63 h [.ptr p 0 0 0,Qb a] (λd l=>d=.tup [.nil,Qb 6]/\l=h):=by
 obtain⟨x,v,u,t,s,r,z,y,B,o,O⟩:=O;have f:=O.o;have e:=O.m1;have b:=O.f1.at_ a;rw[k9,k]at b;simp only[Qe j]at b;refine QZ func63 ntmps63 results63 λg w n q=>?_;have m:=Qc f;have i:=Qc e;simp only[go_sem,Qa,f,m,e,i,b,Go.undef]
def Qf9{b}{a}:∀(l A:List Int),a∈l.foldl (vv b) A->a∈l\/a∈A
 | [],A,h=>.inr h
 | id::l,A,h=>by
  rw[yg]at h;rcases Qf9 l _ h with h|h
  .exact .inl (Km _ h)
  .unfold vv at h;split at h
   .rcases QE.1 h with h|h
    .exact .inl (h▸K8)
    .exact .inr h
   .exact .inr h
def QvD{l:List Int}(h:l.Nodup){k}(a:k<l.length):l.getD k 0 ∉ l.take k:=λb=>by
 rw[<- Fa k l,JP]at h;refine h.2.2 _ b (l.getD k 0) ?_ rfl;rw[Q5,QP a,OD a];exact K8
def QvE{M:Qn}{a}(h:a∈Vt M):a∈j9 M.T:=by unfold Vt vn at h;exact(JO.1 h).1
def QvF{T:List Qt}(h:WB T):(j9 T).Nodup:=by
 unfold j9;have c:(T.filter (·.leaf)).Pairwise (λa b=>a.iD<b.iD):=Lo _ h;rw[List.nodup_iff_pairwise_ne,OK];exact c.imp λd=>ω
def QvG{M:Qn}(I:Qx M):(Vt M).Nodup:=Lo _ (QvF I.tree.rising)
def QvH{u}{h}{p}{L}{M:Qn}(C:Zv u h p L M)(I:Qx M)(K:zA M.lk)(b)(l:List Jr)(hc:∀c∈l,Jr.Ok c)(s:l.length<1000000)
  (Al:∀x∈M.Lv,x.ki∈Vt M) (NV:∀id,∀x∈M.KT id,∃n∈Vt M,x.ki∈up M.T n) :
  QI prog 35 h [.ptr p 0 0 0,QT b,RU l] (λd h'=>∃y L' M',Zv y h' p L' M'/\Qx M'/\Zt u h y h' /\
   d=.tup [Qb (Aj M l),Qb (zB M b l)]/\M'=KL M b l):=by
 have ho:=C.ob;refine QZ func35 ntmps35 results35 λe9 w pl i=>?_;have Qd:=Qc ho;simp only[go_sem,Qa,ho,Qd];apply KX [10] i [0,1,2,3,4,5,6,7,8,9,1010,11,12,13,14,15,16,17] [];simp only[go_sem,Qa,ho,Qd];have hT:=Qc C.ob;refine kW i QnY (Qt9 C.tr I.tree I.y8 M.lk.t K.t1 K.t2 l hc s) λd h1 P=>?_;obtain⟨t2,rfl,pN,g,rfl⟩:=P;obtain⟨Je,IS⟩:∃o,o=QV u h .tree:=⟨_,rfl⟩;have C1:Zv Je (h++g) p L M:=by rw[IS];exact C.step λl s _=>⟨Ku s,QG s⟩
 have D1:Zt u h Je (h++g):=by rw[IS];exact Zt.app u h g .tree
 apply Xy i;by_cases U:y7 M.T M.lk.t l=0;case neg=>
  have dE:(y7 M.T M.lk.t l != 0)=true:=by simpa using U
  have J:zB M b l=y7 M.T M.lk.t l:=by unfold zB;rw[Qf U]
  have e2:Aj M l=NB M.T l:=by unfold Aj;rw[Qf U]
  have e3:KL M b l=M:=by unfold KL;rw[J,Qe U]
  simp only[go_sem,Qa,dE];exact⟨Je,L,M,C1,I,D1,by rw[J,e2],e3.symm⟩
 have dE:(y7 M.T M.lk.t l != 0)=false:=by simpa using U
 have Vx:NB M.T l=0\/True:=.inr trivial;have R2:V6 (λl=>Je l=.tree) (h++g) t2 (KS M.T l):=(pN U).step λl _ h1=>⟨by rw[IS];unfold QV;rw[Qf h1],rfl⟩;obtain⟨f,CK⟩:∃f,f=KS M.T l:=⟨_,rfl⟩;rw[<- CK]at R2;obtain⟨I2,K2⟩:=cZ I.tree I.y8 hc;rw[<- CK]at I2 K2;have R:=C1.ob;have V:=Qc R;have e8:=I.tree.len;have dG:=I2.len;simp only[go_sem,Qa,dE,R,V,Qf U];have R1:=C1.tr.toR;have Sw:(J6 M.T f).length<1000000:=by have:=Qvw M.T f;omega
 apply ZA i QbU (Qfi R1 R2.toR ω ω);refine HH J8 i 2 ?_;simp only[go_sem,Qa];first|refine Y3 ?_|skip
 refine cJ (λst=>kb M f b=false/\st=⟨[(0,.ptr p 0 0 0),(1,QT b),(6,Qb 0),(7,Qb 0),(8,.ptr t2 0 0 0),(11,ints (J6 M.T f))],h++g⟩) ?_ ?_
 .apply Qg i;simp only[go_sem,Qa,R,V];refine lI i PM (pJ (h++g) (J6 M.T f) Sw (.clo 56 1 [.ptr p 0 0 0]) 56 1 [.ptr p 0 0 0] QnZ rfl (Ai M) (λh' n hm hx=>?_)) λd P=>?_
  .have b0:∀(l:Nat) (o:Ob),((h++g).map Ob.ro)[l]? = some o->(h'.map Ob.ro)[l]? = some o:=λl o e=>by
    obtain⟨g2,rfl⟩:=hx;have e2:=ZG ((QG (Qc e)).trans e:((h++g).map Ob.ro++g2)[l]? = some o);rw[e2];rw[Kl]at e;obtain⟨o2,h2,rfl⟩:=Xq.1 e;rw[ro_ro]
   exact Qvk (C1.ro.more b0) I n
  subst P;rw[PX];apply Qg i;obtain⟨y,h6⟩:∃o,o=Je:=⟨_,rfl⟩;have pO:kb M f b=true->∃y L' M',Zv y (h++g) p L' M'/\Qx M'/\Zt u h y (h++g)/\D.tup [Qb 0,Qb 24]=.tup [Qb (Aj M l),Qb (zB M b l)]/\M'=KL M b l:=λhB=>by
   have J:zB M b l=24:=by unfold zB;rw[Qe (by rw[U];simp),<- CK,Qf hB]
   have e2:Aj M l=0:=by unfold Aj;rw[Qe (by rw[U];simp)]
   have e3:KL M b l=M:=by unfold KL;rw[J];rfl
   exact⟨Je,L,M,C1,I,D1,by rw[J,e2];rfl,e3.symm⟩
  cases Kc:(J6 M.T f).any (Ai M) with
  | true=>
   simp only[go_sem,Qa];exact pO (by unfold kb;rw[Kc];rfl)
  | false=>
   simp only[go_sem,Qa,R,V];cases Z:db M.T f with
   | false=>
    refine VP i iI ?_ (pL R1 R2.toR ω ω Sw) ?_
    .simp only[go_sem,Qa,R,V,Z]
    apply Qg i;simp only[go_sem,Qa,R,V,Z];refine⟨_,⟨by unfold kb;rw[Kc,Z];rfl,rfl⟩,?_⟩;exact QN
   | true=>
    cases b with
    | false=>
     refine VP i iI ?_ (pL R1 R2.toR ω ω Sw) ?_
     .simp only[go_sem,Qa,R,V,Z]
     apply Qg i;simp only[go_sem,Qa,R,V,Z];exact pO (by unfold kb;rw[Z];simp)
    | true=>
     refine VP i iI ?_ (pL R1 R2.toR ω ω Sw) ?_
     .simp only[go_sem,Qa,R,V,Z]
     apply Qg i;simp only[go_sem,Qa,R,V,Z];apply ZA i iJ (pK C1.ro I);apply Qg i;simp only[go_sem,Qa,R,V];cases hd:decide ((0:Int)<((Vt M).length:Int)) with
     | true=>
      simp only[go_sem,Qa,hd];exact pO (by unfold kb;rw[Z];simp;right;simpa using hd)
     | false=>
      simp only[go_sem,Qa,hd];refine⟨_,⟨by unfold kb;rw[Kc,Z];simp;simpa using hd,rfl⟩,?_⟩;exact QN
 rintro st ⟨Xt,rfl⟩;have C2:=C1.Qvp R2;have D2:=D1.trans (Zt.set (own:=Je) (h:=h++g) (l:=p) (jj M.lk t2 L.b L.o L.v L.m M.Qi M.acc) (by rw[C1.op];decide));generalize b5:(h++g).set p (jj M.lk t2 L.b L.o L.v L.m M.Qi M.acc)=H2 at C2 D2;have c5:(h++g).set p ⟨.one,0,9,1,λ_=>[.raw (.int .i64 M.lk.t),.raw (.int .i64 M.lk.JU),.ptr t2 0 0 0,.mref L.b 0,.ptr L.o 0 0 0,.ptr L.v 0 0 0,.mref L.m 0,.raw (.int .u64 (M.Qi:Nat)),.raw (.int .u64 (M.acc:Nat))]⟩=H2:=b5;apply Qg i;simp only[go_sem,Qa,R,V,c5];obtain⟨E,pP⟩:∃E,E=J6 M.T f:=⟨_,rfl⟩;rw[<- pP]at Sw;rw[<- pP];refine Z4 (λk st=>∃W H L2,Zv W H p L2 ((E.take k).foldl (J1 f) { M with T:=f })/\L2.t=t2/\Zt u h W H/\st=⟨[(0,.ptr p 0 0 0),(6,Qb 0),(7,Qb 0),(8,.ptr t2 0 0 0),(71,ints E),(72,Qb E.length),(73,Qb k)],H⟩) E.length (s0:=⟨[(0,.ptr p 0 0 0),(6,Qb 0),(7,Qb 0),(8,.ptr t2 0 0 0),(71,ints E),(72,Qb E.length),(73,Qb 0)],H2⟩) QN ⟨Je,H2,_,C2,rfl,D2,rfl⟩ ?_;rintro k st hk ⟨W,H,L2,B,xF,Dk,rfl⟩;by_cases Ql:k<E.length
 .have dk:=Q3 Ql;obtain⟨id,Ze⟩:∃id,id=E.getD k 0:=⟨_,rfl⟩;obtain⟨O,EG⟩:∃O,O=(E.take k).foldl (J1 f) { M with T:=f }:=⟨_,rfl⟩;have ZV:(E.take (k+1)).foldl (J1 f) { M with T:=f }=J1 f O id:=by
   rw[E9,QP Ql,GY,<- EG,Ze,Q5,QP Ql];rfl
  have NW:O.T=f:=by rw[EG];exact pM _ _ _
  rw[<- EG]at B;have Zl:=KJ (show k<4611686018427387904 from ω);have RT:Wq H t2 f:=by have:=B.tr.toR;rwa [xF,NW]at this
  obtain⟨x,hx⟩:∃x,x=(Qz f id).getD default:=⟨_,rfl⟩;have Ys:=MW RT id;rw[<- hx]at Ys;have Kz:=B.ob;have Yi:=Qc Kz;have kE:=B.KZ;have a9:=Qc kE;have Xk:=B.VA;have HX:=Qc Xk;have Hr:L2.b≠L2.m:=λe=>by have:=B.ow;rw[e,B.om]at this;cases this
  have Yx:L2.b≠p:=λe=>by have:=B.ow;rw[e,B.op]at this;cases this
  have g1:L2.m≠p:=λe=>by have:=B.om;rw[e,B.op]at this;cases this
  apply Qg i;simp only[go_sem,Qa,dk,Ql,<- Ze];refine VP i kS ?_ Ys ?_
  .simp only[go_sem,Qa,Kz,Yi,kE,a9,Xk,HX,Qm Hr,Qm Yx]
  apply Qg i;simp only[go_sem,Qa,Kz,Yi,kE,a9,Xk,HX,Qm Hr,Qm Yx];have C3:=B.Qvr id;have D3:=Dk.trans (Zt.set (own:=W) (h:=H) (l:=L2.b) (QM .i64 L2.cb (JK L2.eb id)) (by rw[B.ow];decide));have C4:=C3.Qvs id;have D4:=D3.trans (Zt.set (own:=W) (h:=H.set L2.b (QM .i64 L2.cb (JK L2.eb id))) (l:=L2.m) (QM .i64 L2.cm (JK L2.em id)) (by rw[B.om];decide));have C5:=C4.NC [⟨.one,0,14,1,λ_=>x.cells⟩];have D5:=D4.trans (Zt.app W _ [⟨.one,0,14,1,λ_=>x.cells⟩] .no);have z7:((H.set L2.b (QM .i64 L2.cb (JK L2.eb id))).set L2.m (QM .i64 L2.cm (JK L2.em id))).length=H.length:=σ;generalize a2:(H.set L2.b (QM .i64 L2.cb (JK L2.eb id))).set L2.m (QM .i64 L2.cm (JK L2.em id))++[⟨.one,0,14,1,λ_=>x.cells⟩]=r at C5 D5;have pQ:=a2;simp only[go_sem]at pQ;have pR:r[H.length]? = some ⟨.one,0,14,1,λ_=>x.cells⟩:=by rw[<- a2,<- z7,JZ rfl];rfl
  have a8:=Qc pR;generalize QV W ((H.set L2.b (QM .i64 L2.cb (JK L2.eb id))).set L2.m (QM .i64 L2.cm (JK L2.em id))) .no=Ab at C5 D5;have CI:=C5.ob;have NP:=Qc CI;have Sk:=C5.KZ;have dN:=Qc Sk;have b1:=C5.VA;have h5:=Qc b1;cases hf:Qz f id with
  | none=>
   have J:J1 f O id={ O with N:=wV O.N id,ks:=λj=>if j=id then false else O.ks j }:=by unfold J1;rw[hf]
   have e6:Zv Ab r p { L2 with eb:=JK L2.eb id,em:=JK L2.em id } (J1 f O id):=by rw[J];exact C5
   rw[hf]at Ys;simp only[go_sem,Qa,hf,vM,pQ];exact⟨Ql,_,QF.frame (by simp only[go_sem,Zl]),Ab,r,{ L2 with eb:=JK L2.eb id,em:=JK L2.em id },(by rw[ZV];exact e6),xF,D5,rfl⟩
  | some c=>
   have bg:x=c:=by rw[hx,hf];rfl
   obtain⟨WH,dZ⟩:=(WC I2.rising).1 hf;subst bg;have nU:=QvA (I2.right x WH);have Yt:=Qvv r x nU;simp only[go_sem,Qa,hf,kx,pQ];apply Qw i [0,1,2,3,4,5,1006,1007];simp only[go_sem,Qa,CI,NP,pR,a8];refine PK i Qn0 rfl ?_ Yt rfl λd g7 P=>?_
   .simp only[go_sem]
   obtain⟨rfl,g8,lq,b3,h3,Bn,c4⟩:=P;obtain rfl:g7=g8:=List.append_cancel_left b3;subst dZ;obtain⟨F,pS⟩:∃o:Nat->Tag,o=λl=>if l<r.length then Ab l else if l=r.length then .no else if l=r.length+1 then .wv x.iD else .qm x.iD:=⟨_,rfl⟩;have w7:∀l,l<r.length->F l=Ab l:=λl s=>by rw[pS];exact Qf s
   have we:F (r.length+1)=.wv x.iD:=by rw[pS];dsimp only;rw[Qe ω,Qe ω,Qf rfl]
   have wq:∀l,r.length+2<=l->F l=.qm x.iD:=λl s=>by rw[pS];dsimp only;rw[Qe ω,Qe ω,Qe ω]
   have C7:=C5.step (own':=F) (h':=r++g7) λl s _=>⟨w7 l s,QG s⟩;have D7:Zt u h F (r++g7):=D5.trans ⟨w7,λl s _=>QG s,σ⟩;obtain⟨c8,b6,g3,C8⟩:=C7.Qvu (n:=Yj x) (e:=r.length+1) (q:=lq) (by dsimp only;rw[IV];exact Qf rfl) Bn we (λjS=>by
    obtain⟨k8,b2,oU⟩:=c4 jS;exact⟨k8,b2,oU.step λl _ s=>⟨wq l s,rfl⟩⟩) (Qf3 (K2 x WH))
   obtain⟨M8,pT⟩:∃M8,M8={ O with N:=Yj x::wV O.N x.iD,ks:=λj=>if j=x.iD then false else O.ks j }:=⟨_,rfl⟩;obtain⟨v,pU⟩:∃v:Loc,v={ L2 with em:=JK L2.em x.iD,cb:=c8,eb:=b6,le:=λj=>if j=x.iD then r.length+1 else L2.le j,lq:=λj=>if j=x.iD then lq else L2.lq j }:=⟨_,rfl⟩;have C8:Zv F ((r++g7).set L2.b (JR .i64 L2.cb (JK L2.eb x.iD) x.iD (.ptr (r.length+1) 0 0 0))) p v M8:=by rw[pU,pT];exact C8
   have a0:v.t=t2:=by rw[pU];exact xF
   have g0:v.m=L2.m:=by rw[pU]
   have D8:=D7.trans (Zt.set (own:=F) (h:=r++g7) (l:=L2.b) (JR .i64 L2.cb (JK L2.eb x.iD) x.iD (.ptr (r.length+1) 0 0 0)) (by rw[C7.ow];decide));have eH:(r++g7).set L2.b (JR .i64 L2.cb (JK L2.eb x.iD) x.iD (.ptr (r.length+1) 0 0 0))=r.set L2.b (JR .i64 L2.cb (JK L2.eb x.iD) x.iD (.ptr (r.length+1) 0 0 0))++g7:=Tw _ _ dN;have c3:L2.b≠H.length:=λe=>by
    have h1:=Qc B.KZ;omega
   have Sx:((r++g7).set L2.b (JR .i64 L2.cb (JK L2.eb x.iD) x.iD (.ptr (r.length+1) 0 0 0)))[H.length]? = some ⟨.one,0,14,1,λ_=>x.cells⟩:=(Qm c3).trans ((QG a8).trans pR);rw[eH]at Sx C8 D8;generalize b4:r.set L2.b (JR .i64 L2.cb (JK L2.eb x.iD) x.iD (.ptr (r.length+1) 0 0 0))++g7=m at Sx C8 D8;have a7:=Qc Sx;have a1:=C8.ob;have c2:=Qc a1;have a6:=C8.VA;have a5:=Qc a6;apply Q7 i;simp only[go_sem,Qa,Sk,dN,b4];cases jS:x.leaf with
   | true=>
    simp only[go_sem,Qa,Sx,a7,jS];have J:J1 f O x.iD=M8:=by unfold J1;rw[hf,pT];dsimp only;rw[Qf jS]
    exact⟨Ql,_,QF.frame (by simp only[go_sem,Zl]),F,m,v,(by rw[ZV,J];exact C8),a0,D8,rfl⟩
   | false=>
    simp only[go_sem,Qa,Sx,a7,jS];have C9:=C8.step (own':=QV F m (.XF x.iD)) (h':=m++vu m.length) λl s _=>⟨Ku s,QG s⟩;have D9:Zt u h (QV F m (.XF x.iD)) (m++vu m.length):=D8.trans (Zt.app F m (vu m.length) (.XF x.iD));have un:∀l,m.length<=l->QV F m (.XF x.iD) l=.XF x.iD:=λl s=>by unfold QV;rw[Qf s]
    obtain⟨b8,c1,h0,xU⟩:=C9.Qvt x.iD (k:=m.length+2) (pE (S:=λl=>QV F m (.XF x.iD) l=.XF x.iD) (by rw[JZ rfl];rfl) (by rw[Vj (k:=1) rfl];rfl) (by rw[Vj (k:=2) rfl];rfl) (un _ ω) (un _ ω) (un _ ω));have Gs:=D9.trans (Zt.set (own:=QV F m (.XF x.iD)) (h:=m++vu m.length) (l:=v.m) (JR .i64 v.cm v.em x.iD (.ptr (m.length+2) 0 0 0)) (by rw[C9.om];decide));have b7:(m++vu m.length).set v.m (JR .i64 v.cm v.em x.iD (.ptr (m.length+2) 0 0 0))=m.set v.m (JR .i64 v.cm v.em x.iD (.ptr (m.length+2) 0 0 0))++vu m.length:=Tw _ _ a5;rw[b7]at xU Gs;generalize c0:m.set v.m (JR .i64 v.cm v.em x.iD (.ptr (m.length+2) 0 0 0))++vu m.length=e4 at xU Gs;apply Qw i [0,1,2,3,4,1005,1006];simp only[go_sem,Qa,a1,c2];refine PK i QbV rfl ?_ (QfU m) rfl λd g9 P=>?_
    .simp only[go_sem]
    obtain⟨rfl,rfl⟩:=P;apply Q7 i;simp only[go_sem,Qa,a6,a5,c0];have J:J1 f O x.iD={ M8 with ks:=λj=>if j=x.iD then true else M8.ks j,KT:=λj=>if j=x.iD then [] else M8.KT j }:=by
     unfold J1;rw[hf,pT];dsimp only;rw[Qe (by rw[jS];exact vF)];congr 1;funext j;by_cases e:j=x.iD
     .rw[Qf e,Qf e]
     .rw[Qe e,Qe e,Qe e]
    exact⟨Ql,_,QF.frame (by simp only[go_sem,Zl]),QV F m (.XF x.iD),e4,{ v with cm:=b8,em:=c1,lk:=λj=>if j=x.iD then m.length+2 else v.lk j },(by rw[ZV,J];exact xU),a0,Gs,rfl⟩
 .have ZD:k=E.length:=ω;subst ZD;have IX:(E.take E.length).foldl (J1 f) { M with T:=f }=VC M f:=by rw[zG,pP];rfl
  rw[IX]at B;have NW:(VC M f).T=f:=pM _ _ _;have RT:Wq H t2 f:=by have:=B.tr.toR;rwa [xF,NW]at this
  have dk:decide (E.length<E.length)=false:=QS ω;apply Qg i;simp only[go_sem,Qa,dk];apply QC i;refine Jb i QbW (QdJ RT I2) λd LG P=>?_;obtain⟨rfl,hO,Q,rfl⟩:=P;have pV:=B.step (own':=QV W H .on) (h':=H++Q) λl s _=>⟨Ku s,QG s⟩;have e5:=Dk.trans (Zt.app W H Q .on);have Hu:zn (λl=>QV W H .on l=.on) (H++Q) (H.length+3) f []:=hO.step λl _ s=>⟨by unfold QV;rw[Qf s],rfl⟩;have e7:=pV.Qvq Hu;have Sy:=e5.trans (Zt.set (own:=QV W H .on) (h:=H++Q) (l:=p) (jj (VC M f).lk L2.t L2.b (H.length+3) L2.v L2.m (VC M f).Qi (VC M f).acc) (by rw[pV.op];decide));have NX:Zv _ _ p { L2 with o:=H.length+3 } (YL M f):=e7.congrN (N:=YK M f) (IW I I2);have NY:Qx (YL M f):=Su I I2 K2 Xt Al NV;have Sz:=pV.ob;have b9:=Qc Sz;generalize V7:(VC M f).lk=pW at NX Sy Sz;generalize g6:(VC M f).Qi=a4 at NX Sy Sz;generalize g4:(VC M f).acc=a3 at NX Sy Sz;generalize e0:(H++Q).set p (jj pW L2.t L2.b (H.length+3) L2.v L2.m a4 a3)=pX at NX Sy;have c9:(H++Q).set p ⟨.one,0,9,1,λ_=>[.raw (.int .i64 pW.t),.raw (.int .i64 pW.JU),.ptr L2.t 0 0 0,.mref L2.b 0,.ptr (H.length+3) 0 0 0,.ptr L2.v 0 0 0,.mref L2.m 0,.raw (.int .u64 (a4:Nat)),.raw (.int .u64 (a3:Nat))]⟩=pX:=e0;apply Qg i;simp only[go_sem,Qa,Sz,b9,c9];apply ZA i iJ (pK NX.ro NY);apply QC i;obtain⟨z,XO⟩:∃z,z=Vt (YL M f):=⟨_,rfl⟩;have g5:z.length<=64:=by rw[XO];exact QfY NY
  rw[<- XO];refine Z4 (λk st=>∃j6 H3,Zv j6 H3 p { L2 with o:=H.length+3 } { YL M f with A:=(z.take k).foldl (vv f) [] }/\Qx { YL M f with A:=(z.take k).foldl (vv f) [] }/\Zt u h j6 H3/\st=⟨[(0,.ptr p 0 0 0),(6,Qb 0),(7,Qb 0),(122,ints z),(123,Qb z.length),(124,Qb k)],H3⟩) z.length (s0:=⟨[(0,.ptr p 0 0 0),(6,Qb 0),(7,Qb 0),(122,ints z),(123,Qb z.length),(124,Qb 0)],pX⟩) QN ⟨_,pX,NX,NY,Sy,rfl⟩ ?_;rintro k st hk ⟨j6,H3,GB,IY,pY,rfl⟩;by_cases zg:k<z.length
  .have pZ:=Q3 zg;obtain⟨id,Ze⟩:∃id,id=z.getD k 0:=⟨_,rfl⟩;have Zl:=KJ (show k<4611686018427387904 from ω);obtain⟨Y,p5⟩:∃Y,Y=(z.take k).foldl (vv f) []:=⟨_,rfl⟩;have ZV:(z.take (k+1)).foldl (vv f) []=vv f Y id:=by
    rw[E9,QP zg,GY,<- p5,Ze,Q5,QP zg];rfl
   rw[<- p5]at GB IY;have c7:id∈Vt (YL M f):=by rw[<- XO,Ze];exact dW zg
   obtain⟨nd,hn,jS,HF⟩:=dX NY (id:=id) (QvE c7);have Ws:Qz f id=some nd.c:=by have:=NY.some hn;rwa [show (YL M f).T=f from NW]at this
   have qN:vv f Y id=if 1<Q4 nd.c.ls then id::Y else Y:=by unfold vv;rw[Ws];rfl
   have JH:Z2 f Y id=false:=by
    rw[Ym];intro h9;have h8:=(dH I2 Ws jS Y).1 h9;rw[p5]at h8;rcases Qf9 _ _ h8 with h7|h7
    .have Z3:z.Nodup:=by rw[XO];exact QvG NY
     rw[Ze]at h7;exact QvD Z3 zg h7
    .cases h7
   have WY:=GB.ob;have zy:=Qc WY;apply Qg i;simp only[go_sem,Qa,pZ,zg,<- Ze,WY,zy];by_cases hs:1<Q4 nd.c.ls
   .rw[Qf hs]at qN;refine Jb i iK (QdE GB.YH I2 (by have:=IY.Xo;rwa [show ({ YL M f with A:=Y }:Qn).T=f from NW]at this) id nd.c Ws jS hs JH) λd h4 P=>?_;obtain⟨d1,rfl,AU,O4,s4⟩:=P;have C4:=GB.act O4 s4;have I4:Qx { YL M f with A:=id::Y }:=IY.act (λa ha=>by
     rcases QE.1 ha with e|e
     .exact⟨nd.c,by rw[e,show ({ YL M f with A:=Y }:Qn).T=f from NW];exact Ws,jS,hs⟩
     .exact IY.Xo a e)
    have D4:=pY.trans (Zt.of (t:=.on) σ s4);apply QC i;exact⟨zg,_,QF.frame (by simp only[go_sem,Zl]),_,h4,by rw[ZV,qN];exact C4,by rw[ZV,qN];exact I4,D4,rfl⟩
   .rw[Qe hs]at qN;refine Jb i iK (QvC GB.YH id nd.c Ws hs) λd h4 P=>?_;obtain⟨rfl,rfl⟩:=P;apply QC i;exact⟨zg,_,QF.frame (by simp only[go_sem,Zl]),j6,h4,by rw[ZV,qN];exact GB,by rw[ZV,qN];exact IY,pY,rfl⟩
  .have Fx:k=z.length:=ω;subst Fx;have pZ:decide (z.length<z.length)=false:=QS ω;have J:zB M b l=0:=by unfold zB;rw[Qe (by rw[U];simp),<- CK,Qe (by rw[Xt];exact vF)]
   have e2:Aj M l=0:=by unfold Aj;rw[Qe (by rw[U];simp)]
   have e3:KL M b l={ YL M f with A:=z.foldl (vv f) [] }:=by unfold KL;rw[Qf J,<- CK,XO];rfl
   rw[zG,<- e3]at GB IY;apply Qg i;simp only[go_sem,Qa,pZ];apply QC i;exact⟨j6,_,_,GB,IY,pY,by rw[J,e2];rfl,rfl⟩
section
variable {h:List Ob}{p:Nat}{L:Loc}{M:Qn}(C:XI h p L M)
include C
theorem Qv3:QR prog 43 h [.ptr p 0 0 0] (λd=>d=u64 M.acc):=by
 have a:=C.ob;refine Zk func43 ntmps43 results43 λb w f F c i g=>?_;rw[<- c]at a;have e:=Qc a;simp only[go_sem,Qa,a,e];exact⟨[],(Jl F).symm⟩
theorem Qv4:QR prog 51 h [.ptr p 0 0 0] (λd=>d=.agg M.lk.cells):=by
 have a:=C.ob;refine Zk func51 ntmps51 results51 λb w f F c i g=>?_;rw[<- c]at a;have e:=Qc a;simp only[go_sem,Qa,a,e];exact⟨_,rfl⟩
def SA(L:List It):Nat:=match L.head? with
 | some x=>min x.ka never
 | none=>never
def K7(M:Qn):Nat:=min (SA M.Lv) (yU (M.KT 0))
theorem Qgl(I:Qx M):QR prog 109 h [.ptr p 0 0 0] (λd=>d=u64 (K7 M)):=by
 have a:=C.ob;have c:=C.VA;have j:M.ks 0=true:=(I.ks 0).2 (.inl rfl);have g:=C.Xn.at_ 0;rw[Qf j]at g;have m:=C.kids 0 j;refine Zk func109 ntmps109 results109 λk w n F f o b=>?_;rw[<- f]at a c;have e:=Qc a;have i:=Qc c;simp only[go_sem,Qa,a,e,c,i,g];apply Qw b [0,1,2,3,5,6,7,8,9,1004,1010,11,12];simp only[go_sem,Qa,a,e,c,i,g];have l:QR prog 146 F [.ptr L.v 0 0 0] (λd=>d=u64 (SA M.Lv)):=Qrh (C.XG.more (Js f));apply V0 b QoN l;apply Q7 b;simp only[go_sem,Qa,a,e];apply V0 b iM (mY (m.more (Js f)) (I.j4 0));apply Q7 b;simp only[go_sem,Qa,a,e];refine⟨[],(Jl F).symm,?_⟩;unfold K7;rw[Nat.min_def,Int.min_def];congr 2;split<;>split<;>omega
end
def XI.ei{h}{p}{L:Loc}{M:Qn}(C:XI h p L M)(I:Qx M):F8 h L.o M.T M.A:=by
 have:=C.YH;rwa [I.to]at this
def Qv5{h}{p}{L:Loc}{M:Qn}(C:XI h p L M)(I:Qx M){a}{n}(l:Qj M.N a=some n):QR prog 76 h [.ptr p 0 0 0,.ptr (L.le a) 0 0 0] (λd=>d=u64 (V8 M a n)):=by
 have b:=C.ob;have c:=C.Jc a n l;have o:=C.VA;have q:=Qx.id l;have s:=Cj (C.ei I) I.tree I.Xo a (I.Gr l);unfold V8;cases i:n.c.leaf with
 | true=>
  rw[Qf (.inl rfl)];refine Zk func76 ntmps76 results76 λk w v F j y e=>?_;rw[<- j]at b c;have g:=Qc b;have f:=Qc c;simp only[go_sem,Qa,b,g,c,f];apply Qw e o02;simp only[go_sem,Qa,b,g,c,f,i,Go.undef];all_goals exact KY
 | false=>
  have u:M.ks a=true:=(I.ks a).2 (.inr ⟨n,l,i⟩);have x:=C.Xn.at_ a;rw[Qf u]at x;have B:=C.kids a u;have z:Z2 M.T M.A a=Jq M a:=rfl;rw[z]at s;cases r:Jq M a with
  | false=>
   rw[r]at s;rw[Qf (.inr rfl)];refine Zk func76 ntmps76 results76 λk w v F j y e=>?_;rw[<- j]at b c;have g:=Qc b;have f:=Qc c;simp only[go_sem,Qa,b,g,c,f];apply Qw e o02;simp only[go_sem,Qa,b,g,c,f,i,Go.undef];have m:Z2 M.T M.A a=false:=r;refine Yb e FU ?_ (Cj ((C.ei I).more (Js j)) I.tree I.Xo a (I.Gr l)) ?_
   .simp only[go_sem,Qa,b,g,c,f,i,Go.undef,q,m]
   apply Q7 e;simp only[go_sem,Qa,b,g,c,f,i,Go.undef,q,m];all_goals exact KY
  | true=>
   rw[r]at s;rw[Qe σ];have m:Z2 M.T M.A a=true:=r;refine Zk func76 ntmps76 results76 λk w v F j y e=>?_;rw[<- j]at b c o;have g:=Qc b;have f:=Qc c;have t:=Qc o;simp only[go_sem,Qa,b,g,c,f,o,t];apply Qw e o02;simp only[go_sem,Qa,b,g,c,f,i,Go.undef];refine Yb e FU ?_ (Cj ((C.ei I).more (Js j)) I.tree I.Xo a (I.Gr l)) ?_
   .simp only[go_sem,Qa,b,g,c,f,i,Go.undef,q,m]
   apply Q7 e;simp only[go_sem,Qa,b,g,c,f,i,Go.undef,q,m];apply Qw e o09;simp only[go_sem,Qa,b,g,c,f,o,t,x,q];apply V0 e iM (mY (B.more (Js j)) (I.j4 a));apply Q7 e;simp only[go_sem,Qa,b,g,c,f,o,t];apply MI e Qb8 (Qeo n.cp.fit (yU (M.KT a)));apply Xy e;all_goals exact KY
def Qv6(h):QR prog 77 h [.raw (.pointer none)] (λd=>d=.agg (⟨[],0,0,0,0,0,0⟩:Qu).Nk):=by
 refine Zk func77 ntmps77 results77 λa w b F e f c=>?_;simp only[go_sem,Qa];exact⟨_,rfl⟩
def Qgm(M:Qn)(a:Int)(n:Nd):List D:=n.c.cells++(QT (Jq M a)::u64 n.Ja::(n.du.cells++(n.sh.cells++(n.cp.cells++(u64 (V8 M a n)::n.q.Nk)))))
def Qv7{h}{p}{L}{M:Qn}(C:XI h p L M)(I:Qx M){e}{n:Nd}(f:Qj M.N e=some n)(u:n.c.leaf=false->n.q=⟨[],0,0,0,0,0,0⟩):
  QR prog 45 h [.ptr p 0 0 0,Qb e] (λd=>d=.tup [.agg (Qgm M e n),Qb 0]):=by
 have a:=C.ob;have l:=C.KZ;have b:=C.Jc e n f;have s:=C.look f;have x:=Qx.id f;refine Yz J8 200 func45 rfl ntmps45 results45 rfl λt w y F q z c=>?_;rw[<- q]at a l b;have j:=Qc a;have r:=Qc l;have i:=Qc b;simp only[go_sem,Qa,a,j,l,r,b,i,s];apply Qw c [0,1,2,3,4,5,6,7,8,10,11,12,13,14,15,16,17,18,19,20,21,22,23,24,25,26,27,29,30,31,32,1009,1028,1033,34,1035,36];simp only[go_sem,Qa,a,j,l,r,b,i,s];have m:=λG:List Ob=>(C.more (Js q)).more (wG (g:=G));apply V0 c FU (Cj ((m _).ei I) I.tree I.Xo e (I.Gr f));apply Q7 c;simp only[go_sem,Qa,a,j,b,i];apply V0 c Qb2 (Qv5 (m _) I f);apply Q7 c;simp only[go_sem,Qa,a,j,b,i];have v:∀G:List Ob,QR prog 77 (F++G) [qD L.lq n] (λd=>d=.agg n.q.Nk):=λG=>by
  unfold qD;cases o:n.c.leaf with
  | true=>
   obtain⟨k,_,Q⟩:=(m G).WJ e n f o;rw[Qf rfl,x];exact QrX Q
  | false=>
   rw[Qe vF,u o];exact Qv6 _
 refine Yb c Qn5 ?_ (v _) ?_
 .simp only[go_sem,Qa];exact Cc _
 apply Q7 c;simp only[go_sem,Qa,a,j,b,i];exact⟨_,rfl,rfl⟩
end Go.Fg.X
namespace Go.Fg.X
open Go.Proofs Go.Fg
open Go.Proofs.Tryz
def kf(l:List Pk):D:=.imm 6 l.length (Pk.rows l)
def IZ(n:Nat)(H:List Ob)(d:D)(L:List Pk):Prop:=(d=.nil/\L=[])\/∃b g a,d=.ref b g 0 L.length/\n<=b/\H[b]? = some ⟨.arr,g,6,L.length,a⟩/\∀i,i<L.length->a i=(L.getD i default).cells
def IZ.closed{P}{f}{h:List Ob}{a}{L}(H:Kq P f h a (λd g=>IZ h.length (h++g) d L)):QR P f h a (λd=>d=kf L):=by
 refine bU (kf L) (λ_=>rfl) ?_ H;rintro d g (⟨rfl,m⟩|⟨c,j,b,rfl,o,l,k⟩)
 .subst m;exact .inl rfl
 .refine .inr ⟨c,j,6,_,b,o,l,λi e=>?_,?_⟩
  .rw[k i e];rfl
  .have n:D.fz c j L.length 6 b (.ref c j 0 L.length)=.imm 6 L.length (rowFrom 0 b):=by simp[D.fz,DI]
   rw[n];simp only[kf];rw[DN];refine⟨rfl,rfl,λi e=>?_⟩;rw[DL,Jv,k i e,Pk.wh];exact wc (qH _) _
def Qv8{a:List Pk}{b}{v:Pk}(d:∀i,i<a.length->b i=(a.getD i default).cells):∀i,i<(a++[v]).length->J7 a.length 0 b (λ_=>v.cells) i=((a++[v]).getD i default).cells:=λi e=>by
 simp at e;by_cases c:i<a.length
 .rw[xn c,Jv,d i c];simp[Q5,c,JD c]
 .have:i=a.length:=ω;subst this;rw[zM (QB _)];simp[Q5]
def Qv9{h:List Ob}{p J}{n}{q:Qu}(Q:Gj h p J n q):Kq prog 78 h [.ptr p 0 0 0] (λd g=>IZ h.length (h++g) d q.l):=by
 have Q0:=Q;obtain⟨r,o,E⟩:=Q;have P:q.l.length<=64:=by
  obtain⟨a,f,b,T⟩:=E;have:=T.len;have:=T.wJ;omega
 refine Yz J8 200 func78 rfl ntmps78 results78 rfl λR w pl F u QQ c=>?_;rw[<- u]at o;have Z:=Qc o;simp only[go_sem,Qa,o,Z];apply ZA c FV (Ix (Q0.more (Js u)));apply QC c;refine Z4 (λk C=>∃d H,IZ F.length H d (q.l.take k)/\KN F H/\C=⟨[(0,.ptr p 0 0 0),(3,d),(8,Qb q.l.length),(9,Qb k)],H⟩) q.l.length (s0:=⟨[(0,.ptr p 0 0 0),(3,.nil),(8,Qb q.l.length),(9,Qb 0)],F⟩) QN ⟨.nil,F,.inl ⟨rfl,rfl⟩,KN.refl F,rfl⟩ ?_;rintro k C hk ⟨d,H,t,hx,rfl⟩;by_cases j:k<q.l.length
 .have v:=Q3 j;have L:=KJ (show k<4611686018427387904 from ω);obtain⟨x,m⟩:∃x,x=q.l.getD k default:=⟨_,rfl⟩;have e:q.l.take (k+1)=q.l.take k++[x]:=by rw[getD_take q.l default k j,<- m]
  have B:Ng H r J q.l:=by
   obtain⟨g,rfl⟩:=hx;exact(E.more (Js u)).more wG
  have N:=mZ B.choose_spec.choose_spec.choose_spec k j;rw[<- m]at N;have z:=hx.get o;have M:=Qc z;apply Qg c;simp only[go_sem,Qa,v,j,z,M];apply ZA c iN N;apply Qg c;simp only[go_sem,Qa,z,M];rcases t with ⟨rfl,y⟩|⟨l,g,b,rfl,K,O,Im⟩
  .simp only[go_sem,Qa,Go.undef];refine⟨j,_,QF.frame (fr':=[(0,.ptr p 0 0 0),(3,.ref (H.length+2) 0 0 1),(8,Qb q.l.length),(9,Qb (k+1:Nat))]) (by simp only[go_sem,L]),.ref (H.length+2) 0 0 1,_,.inr ⟨H.length+2,0,λ_=>x.cells,?_,?_,?_,?_⟩,hx.app _,rfl⟩
   .rw[e,y];rfl
   .have:=hx.len;omega
   .rw[e,y,Vj (k:=2) rfl];rfl
   .rw[e,y];intro i S;obtain rfl:i=0:=by simp at S;omega
    rfl
  .have s:=Qc O;simp only[go_sem,Qa,Go.undef,O,s];have kH:(q.l.take k).length=k:=by rw[Tp];omega
   refine⟨ω,j,_,QF.frame (fr':=[(0,.ptr p 0 0 0),(3,.ref l (g+1) 0 ((q.l.take k).length+1)),(8,Qb q.l.length),(9,Qb (k+1:Nat))]) (by simp only[go_sem,L]),.ref l (g+1) 0 ((q.l.take k).length+1),_,.inr ⟨l,g+1,J7 (q.l.take k).length 0 b (λ_=>x.cells),?_,K,?_,?_⟩,(hx.set K _).app _,rfl⟩
   .rw[e];simp
   .rw[e,QG (by simpa using s),Qv s];simp;rfl
   .rw[e];exact Qv8 Im
 .have Y:k=q.l.length:=ω;subst Y;have v:decide (q.l.length<q.l.length)=false:=QS ω;rw[zG]at t;apply Qg c;simp only[go_sem,Qa,v];apply QC c;obtain⟨g,rfl⟩:=hx;refine⟨g,rfl,?_⟩;rcases t with x|⟨l,W,b,V,h2,I,U⟩
  .exact .inl x
  .refine .inr ⟨l,W,b,V,ω,?_,U⟩;rw[JE ω]at I ⊢;rw[<- QQ];exact I
def Qwb{h}{p b}{a}{q:Qu}(Q:Gj h p b a q):QR prog 78 h [.ptr p 0 0 0] (λd=>d=kf q.l):=IZ.closed (Qv9 Q)
def Qwc(h):QR prog 78 h [.raw (.pointer none)] (λd=>d=.nil):=by
 refine Yz J8 200 func78 rfl ntmps78 results78 rfl λb w f F c e a=>?_;simp only[go_sem,Qa];have g:QR prog 79 F [.raw (.pointer none)] (λd=>d=Qb 0):=by
  clear e c;generalize F=h;refine Zk func79 ntmps79 results79 λb w f F c e a=>?_;simp only[go_sem,Qa];exact⟨[],(Jl F).symm⟩
 apply ZA a FV g;apply QC a;refine kV 1 ?_;apply Zd a;apply QC a;exact⟨[],(Jl F).symm⟩
def Qwd{h}{p}{L}{M:Qn}(C:XI h p L M){a}(g:Qj M.N a=none):QR prog 46 h [.ptr p 0 0 0,Qb a] (λd=>d=.nil):=by
 have c:=C.ob;have b:=C.KZ;have e:=C.YG.at_ a;rw[g,YW]at e;refine Yz J8 200 func46 rfl ntmps46 results46 rfl λf w l F i n m=>?_;rw[<- i]at c b;have k:=Qc c;have j:=Qc b;simp only[go_sem,Qa,c,k,b,j,e];exact⟨[],(Jl F).symm⟩
def Qwe{h}{p}{L}{M:Qn}(C:XI h p L M){a}{n:Nd}(b:Qj M.N a=some n):QR prog 46 h [.ptr p 0 0 0,Qb a] (λd=>d=if n.c.leaf=true then kf n.q.l else .nil):=by
 have e:=C.ob;have c:=C.KZ;have f:=C.Jc a n b;have s:=C.look b;have q:=Qx.id b;refine Yz J8 200 func46 rfl ntmps46 results46 rfl λj w v F i x g=>?_;rw[<- i]at e c f;have t:=Qc e;have r:=Qc c;have o:=Qc f;simp only[go_sem,Qa,e,t,c,r,f,o,s];have u:=C.more (Js i);have m:QR prog 78 F [qD L.lq n] (λd=>d=if n.c.leaf=true then kf n.q.l else .nil):=by
  unfold qD;cases l:n.c.leaf with
  | true=>
   obtain⟨k,_,Q⟩:=u.WJ a n b l;rw[Qf rfl,Qf rfl,q];exact Qwb Q
  | false=>
   rw[Qe vF,Qe vF];exact Qwc _
 refine VP g Qn6 ?_ m ?_
 .simp only[go_sem,Qa];exact Cc _
 apply QC g;exact⟨[],(Jl F).symm,by split<;>rfl⟩
def W2(M:Qn)(a:Int):Nat:=(QD M a).q.l.length
def W3(M:Qn)(a:Int):Nat:=XE (QD M a).q.l
def Qgo(f:Int->Nat)(l:List Int):Nat:=(l.map f).sum
structure QDL (p m c:Nat) (es:List Zy) (M:Qn) (F:List Ob) (n:Nat) (s:St):Prop where
 ex:∃seen out H,xC es seen=n/\KN F H/\out.Perm ((es.filter λe=>seen.contains e.b&&true).map (·.k))/\H[F.length]? = some (XP m c c seen) /\
  s=⟨[(0,.ptr p 0 0 0),(4,Qb (Qgo (W2 M) out)),(5,Qb (Qgo (W3 M) out)),(14,.mref F.length 0)],H⟩
structure Good (M:Qn):Prop where
 lv:∀x∈M.Lv,∃n,Qj M.N x.ki=some n/\n.c.leaf=true/\n.q.l≠[]
 kt:∀id,∀x∈M.KT id,Jq M x.ki=true
 act:∀id,id∈M.A↔∃n,Qj M.N id=some n/\n.c.leaf=true/\n.q.l≠[]/\1<Q4 n.c.ls
section
variable {M:Qn}(I:Qx M)(G:Good M)
include I G
theorem Good.Qgp{b}{n:Nd}(c:Qj M.N b=some n)(e:n.c.leaf=true)(d:n.q.l≠[]):b∈Vt M:=by
 have f:=I.some c;obtain⟨h,g⟩:=(WC I.tree.rising).1 f;refine JO.2 ⟨Jm.2 ⟨n.c,JO.2 ⟨h,e⟩,g⟩,?_⟩;unfold EK QD;rw[c];cases a:n.q.l with
 | nil=>exact absurd a d
 | cons x l=>simp[a]
theorem Good.hA(a):∀n,Qj M.N a=some n->n.c.leaf=true->n.q.l=[]->a ∉ M.A:=λn d g c e=>by
 obtain⟨m,b,_,f,_⟩:=(G.act a).1 e;rw[d]at b;cases b;exact f c
theorem Good.Al:∀x∈M.Lv,x.ki∈Vt M:=λx hx=>by
 obtain⟨n,c,b,a⟩:=G.lv x hx;exact Good.Qgp I G c b a
theorem Good.NV:∀id,∀x∈M.KT id,∃n∈Vt M,x.ki∈up M.T n:=λid x hx=>by
 obtain⟨a,c,b⟩:=qd.1 (G.kt id x hx);obtain⟨n,f,e,d,_⟩:=(G.act a).1 c;exact⟨a,Good.Qgp I G f e d,b⟩
theorem Good.leaf{a}{n:Nd}(b:Qj M.N a=some n)(e:n.c.leaf=true)(f:Jq M a=true):n.q.l≠[]/\a∈M.A:=by
 have d:=(dH I.tree (I.some b) e M.A).1 f;obtain⟨m,c,_,g,_⟩:=(G.act a).1 d;rw[b]at c;cases c;exact⟨g,d⟩
theorem Good.share(a):∀k p id,Ac M a k p=some id->∃n,Qj M.N id=some n/\n.c.leaf=true/\Jq M id=true
 | 0,_,_,h=>by cases h
 | k+1,p,id,h=>by
  unfold Ac at h;cases d:firstM M a p with
  | none=>rw[d]at h;cases h
  | some x=>
   rw[d]at h;dsimp only at h;have f:x∈M.KT p:=xj d;split at h
   .rename_i c;cases h;have b:=I.oN p x f;rw[I.find]at b;cases e:Qj M.N x.ki with
    | none=>rw[e]at b;cases b
    | some n=>exact⟨n,rfl,by unfold QD at c;rw[e]at c;exact c,G.kt p x f⟩
   .exact Good.share a k x.ki id h
theorem Good.pe(a):∀o id r,wU M a o->Vb M a o=some (id,r)->∃n,Qj M.N id=some n/\n.c.leaf=true/\n.q.l≠[]/\(1<Q4 n.c.ls->id∈M.A):=λo id r g d=>by
 cases o with
 | some x=>
  simp only[Vb,QX,Q9]at d;obtain⟨rfl,rfl⟩:=d;have hx:x∈M.Lv:=(JO.1 g.1).1;obtain⟨n,c,b,e⟩:=G.lv x hx;exact⟨n,c,b,e,λf=>(G.act x.ki).2 ⟨n,c,b,e,f⟩⟩
 | none=>
  simp only[Vb,Xq]at d;obtain⟨i,h,j⟩:=d;cases j;obtain⟨n,c,b,e⟩:=Good.share I G a 17 0 _ h;obtain⟨f,k⟩:=Good.leaf I G c b e;exact⟨n,c,b,f,λ_=>k⟩
omit I in
end
end Go.Fg.X
namespace Go.Fg.X
open Go.Proofs Go.Fg
open Go.Proofs.Tryz
def qt(M:Qn)(p:Int)(x:It):Prop:=∃n,Qj M.N x.ki=some n/\n.c.parent=p/\Jq M x.ki=true/\x=⟨n.sh.time,x.ki,V8 M x.ki n,x.ki⟩
def BA(M:Qn)(x:It):Prop:=∃n,Qj M.N x.ki=some n/\n.c.leaf=true/\n.q.l≠[]/\1<Q4 n.c.rt/\x=⟨n.du.XV,x.ki,n.du.dead,x.ki⟩
def CN(M:Qn):Prop:=∀x,x∈M.Lv↔BA M x
def NZ(M:Qn):Prop:=∀p x,x∈M.KT p↔qt M p x
def GC(M:Qn):Prop:=∀id,id∈M.A↔∃n,Qj M.N id=some n/\n.c.leaf=true/\n.q.l≠[]/\1<Q4 n.c.ls
def CO(M:Qn):Prop:=∀id n,Qj M.N id=some n->n.c.leaf=false->n.q=⟨[],0,0,0,0,0,0⟩
def Vu(M:Qn):Prop:=∀id n,Qj M.N id=some n->n.Ok
def EL(M:Qn):Prop:=KP M.Lv/\∀p,KP (M.KT p)
structure Inv (M:Qn):Prop where
 lv:CN M
 kt:NZ M
 act:GC M
 Am:CO M
 qu:EL M
 ok:Vu M
def Inv.N3{M}(V:Inv M):Good M:=
 ⟨λx hx=>by
  obtain⟨n,c,b,a,_⟩:=(V.lv x).1 hx;exact⟨n,c,b,a⟩,λp x hx=>by
  obtain⟨n,_,_,h,_⟩:=(V.kt p x).1 hx;exact h,V.act⟩
def Qgq(c):Inv (M0 c):=by
 refine⟨λx=>?_,λp x=>?_,λid=>by simp[M0,Qj],λid n h=>by simp[M0,Qj]at h,⟨by simp[M0,KP],λp=>by simp[M0,KP]⟩,λid n h=>by simp[M0,Qj]at h⟩
 .simp[M0,BA,Qj]
 .simp[M0,qt,Qj]
def Qwh{a}{i}{L}(h:∀x∈L,x.ki≠i):Ye a i L=none:=by
 unfold Ye;rw[js];intro x hx b;exact h x hx (wC.1 b).2
def p7{a}{L}(h:KP L):KP (KR a L):=Lo _ h
def SB{a}{L}{x:It}:x∈KR a L↔x∈L/\x.ki≠a:=by simp[KR]
def eu{c}{a b}{L}(h:KP L):KP (XU c a b L):=
 mi (p7 h) (Qwh λx hx=>(SB.1 hx).2)
def GD{c}{a b}{L}{x:It}:x∈XU c a b L↔x=⟨a,c,b,c⟩\/(x∈L/\x.ki≠c):=by
 unfold XU;rw[F7,SB]
structure Part (M:Qn) (U:List Int):Prop where
 lv:CN M
 kt:∀p x,x.ki ∉ U->(x∈M.KT p↔qt M p x)
 ka:∀p x,x∈M.KT p->x.ki∈U->Jq M x.ki=true
 act:GC M
 Am:CO M
 qu:EL M
 ok:Vu M
def Qwi{M}{a j:Int}{m}(h:(QD M a).c.parent≠j):V8 (K0 M a) j m=V8 M j m:=by
 have f:Jq (K0 M a) j=Jq M j:=by
  obtain⟨_,c,_,b,_⟩:=NF M a;unfold Jq;rw[c,b]
 unfold V8;rw[f];have d:(K0 M a).KT j=M.KT j:=by
  unfold K0;split
  .dsimp only;rw[Qe (λe=>h e.symm)]
  .rfl
 rw[d]
def Part.step{M:Qn}(I:Qx M){a}{n:Nd}(o:Qj M.N a=some n)(V:Part M (a::up M.T n.c.parent)):Part (K0 M a) (up M.T n.c.parent):=by
 obtain⟨i,z,P,u,t,O,N,L,K⟩:=NF M a;have v:QD M a=n:=by unfold QD;rw[o];rfl
 have s:∀j,Jq (K0 M a) j=Jq M j:=λj=>by unfold Jq;rw[z,u]
 have w:=I.some o;have J:a ∉ up M.T n.c.parent:=by
  have:=P1 I.tree a;rw[Vl I.tree w,ZN]at this;exact this.1
 have y:∀j m,Qj M.N j=some m->j ∉ up M.T n.c.parent->V8 (K0 M a) j m=V8 M j m:=λj m E F=>Qwi λe=>by
  rw[v]at e;refine F ?_;rw[e];exact XA I.tree (I.some E)
 have C:∀p x,x.ki ∉ up M.T n.c.parent->(qt (K0 M a) p x↔qt M p x):=λp x hx=>by
  unfold qt;rw[i];constructor
  .rintro⟨m,b,f,g,l⟩;exact⟨m,b,f,by rw[<- s];exact g,by rw[<- y _ m b hx];exact l⟩
  .rintro⟨m,b,f,g,l⟩;exact⟨m,b,f,by rw[s];exact g,by rw[y _ m b hx];exact l⟩
 have B:∀p x,x∈M.KT p->x.ki=a->n.c.parent=p:=λp x hx e=>by
  obtain⟨c,b,f⟩:=I.jZ p x hx;rw[e,w]at b;cases b;exact f
 refine⟨?_,λp x hx=>?_,λp x hx q=>?_,?_,?_,?_,by unfold Vu;rw[i];exact V.ok⟩
 .intro x;unfold BA;rw[i,t];exact V.lv x
 .rw[C p x hx];by_cases e:x.ki=a
  .cases k:Jq M a with
   | true=>
    have r:(K0 M a).KT=λj=>if j=n.c.parent then XU a n.sh.time (V8 M a n) (M.KT n.c.parent) else M.KT j:=by
     unfold K0;rw[Qf k,v]
    rw[r];dsimp only;split
    .rename_i d;subst d;rw[GD];unfold qt;rw[e,o];constructor
     .rintro (h|h)
      .exact⟨n,rfl,rfl,k,h⟩
      .exact absurd rfl h.2
     .rintro⟨m,b,_,_,l⟩;cases b;exact .inl l
    .rename_i d;constructor
     .intro h;exact absurd (B p x h e).symm d
     .rintro⟨m,b,f,_⟩;rw[e,o]at b;cases b;exact absurd f.symm d
   | false=>
    have r:K0 M a=M:=by unfold K0;rw[Qe (by rw[k];exact vF)]
    rw[r];constructor
    .intro h;have:=V.ka p x h (by rw[e];exact K8);rw[e,k]at this;cases this
    .rintro⟨m,_,_,g,_⟩;rw[e,k]at g;cases g
  .have q:x.ki ∉ a::up M.T n.c.parent:=λh=>(QE.1 h).elim e hx;rw[<- V.kt p x q];unfold K0;split
   .dsimp only;split
    .rename_i d;rw[GD,d];constructor
     .rintro (h|h)
      .exact absurd (congrArg It.ki h) e
      .exact h.1
     .intro h;exact .inr ⟨h,e⟩
    .exact Iff.rfl
   .exact Iff.rfl
 .rw[s];have H:x.ki≠a:=λe=>J (e▸q);refine V.ka p x ?_ (Km _ q);unfold K0 at hx;split at hx
  .dsimp only at hx;split at hx
   .rename_i d;rcases GD.1 hx with h|h
    .exact absurd (congrArg It.ki h) H
    .rw[d];exact h.1
   .exact hx
  .exact hx
 .intro j;rw[i,u];exact V.act j
 .unfold CO;rw[i];exact V.Am
 .refine⟨by rw[t];exact V.qu.1,λp=>?_⟩;unfold K0;split
  .dsimp only;split
   .exact eu (V.qu.2 _)
   .exact V.qu.2 p
  .exact V.qu.2 p
def Part.settle:∀(k:Nat) {M:Qn} (id:Int),Qx M->(up M.T id).length=k->Part M (up M.T id)->Inv (VI M (up M.T id)):=by
 intro k;induction k with
 | zero=>
  intro M id I a V;have e:=G0.1 a;rw[e]at V ⊢;exact⟨V.lv,λp x=>V.kt p x σ,V.act,V.Am,V.qu,V.ok⟩
 | succ k h=>
  intro M id I a V;cases d:Qz M.T id with
  | none=>rw[PZ I.tree d]at a;cases a
  | some c=>
   obtain⟨n,b,rfl⟩:=I.ND d;have e:=Vl I.tree d;rw[e]at a V ⊢;obtain⟨j,f,_⟩:=NF M id;have g:=V.step I b;have i:=oO I b (V.ok _ _ b);show Inv (VI (K0 M id) (up M.T n.c.parent));rw[<- f]at g ⊢;exact h n.c.parent i (by rw[f];simpa using a) g
def CP{d:Type}{a:Nd->d}{N c:List Nd}{b:Int}(e:(Qj c b).map a=(Qj N b).map a){n:Nd}(h:Qj N b=some n):∃m,Qj c b=some m/\a m=a n:=by
 rw[h]at e;exact Xq.1 e
def xY(n:Nd):Qt × Nat × Nat:=(n.c,n.sh.time,n.cp.fit)
def GF(n:Nd):Qt × Bool × Nat × Nat:=(n.c,n.q.l.isEmpty,n.du.XV,n.du.dead)
def xZ(n:Nd):Qt × Bool:=(n.c,n.q.l.isEmpty)
def N4{l:List Pk}:l≠[]↔l.isEmpty=false:=by cases l<;>simp
def BA.to{M c:Qn}{x:It}(h:(Qj c.N x.ki).map GF=(Qj M.N x.ki).map GF):BA M x->BA c x:=λ⟨n,j,i,g,f,e⟩=>by
 obtain⟨m,d,a⟩:=CP h j;simp only[GF,Q9]at a;obtain⟨b,o,l,k⟩:=a;exact⟨m,d,by rw[b];exact i,N4.2 (by rw[o];exact N4.1 g),by rw[b];exact f,by rw[l,k];exact e⟩
def CN.of{M a:Qn}(V:CN M)(c:a.Lv=M.Lv)(b:∀id,(Qj a.N id).map GF=(Qj M.N id).map GF):CN a:=λx=>by
 rw[c,V x];exact⟨BA.to (b _),BA.to (b _).symm⟩
def CN.at_{M a:Qn}(V:CN M){id}{m}(h:Qj a.N id=some m)(g:∀j,j≠id->(Qj a.N j).map GF=(Qj M.N j).map GF)
  (i:∀y:It,y.ki≠id->(y∈a.Lv↔y∈M.Lv)) (k:∀y:It,y.ki=id->(y∈a.Lv↔(m.c.leaf=true/\m.q.l≠[]/\1<Q4 m.c.rt/\y=⟨m.du.XV,id,m.du.dead,id⟩))):CN a:=λx=>by
 by_cases e:x.ki=id
 .rw[k x e];unfold BA;rw[e,h];constructor
  .rintro⟨f,d,c,b⟩;exact⟨m,rfl,f,d,c,b⟩
  .rintro⟨n,l,f,d,c,b⟩;cases l;exact⟨f,d,c,b⟩
 .rw[i x e,V x];exact⟨BA.to (g _ e),BA.to (g _ e).symm⟩
def GC.at_{M d:Qn}(V:GC M){id}{m}(q:Qj d.N id=some m)(k:∀j,j≠id->(Qj d.N j).map xZ=(Qj M.N j).map xZ)
  (s:∀j,j≠id->(j∈d.A↔j∈M.A)) (r:id∈d.A↔(m.c.leaf=true/\m.q.l≠[]/\1<Q4 m.c.ls)):GC d:=λj=>by
 by_cases e:j=id
 .subst e;rw[r,q];constructor
  .rintro⟨c,b,a⟩;exact⟨m,rfl,c,b,a⟩
  .rintro⟨g,u,c,b,a⟩;cases u;exact⟨c,b,a⟩
 .rw[s j e,V j];have l:∀{N f:List Nd},(Qj f j).map xZ=(Qj N j).map xZ->(∃n,Qj N j=some n/\n.c.leaf=true/\n.q.l≠[]/\1<Q4 n.c.ls)->∃n,Qj f j=some n/\n.c.leaf=true/\n.q.l≠[]/\1<Q4 n.c.ls:=λ{N f} h ⟨n,c,b,a,t⟩=>by
   obtain⟨g,p,i⟩:=CP h c;simp only[xZ,Q9]at i;obtain⟨o,v⟩:=i;exact⟨g,p,by rw[o];exact b,N4.2 (by rw[v];exact N4.1 a),by rw[o];exact t⟩
  exact⟨l (k _ e),l (k _ e).symm⟩
def GC.of{M b:Qn}(V:GC M)(k:b.A=M.A)(d:∀id,(Qj b.N id).map xZ=(Qj M.N id).map xZ):GC b:=λj=>by
 rw[k,V j];have e:∀{N a:List Nd},(Qj a j).map xZ=(Qj N j).map xZ->(∃n,Qj N j=some n/\n.c.leaf=true/\n.q.l≠[]/\1<Q4 n.c.ls)->∃n,Qj a j=some n/\n.c.leaf=true/\n.q.l≠[]/\1<Q4 n.c.ls:=λ{N a} h ⟨n,p,o,m,l⟩=>by
  obtain⟨g,i,c⟩:=CP h p;simp only[xZ,Q9]at c;obtain⟨f,q⟩:=c;exact⟨g,i,by rw[f];exact o,N4.2 (by rw[q];exact N4.1 m),by rw[f];exact l⟩
 exact⟨e (d _),e (d _).symm⟩
def rf{M a:Qn}{j}{n m}(e:xY m=xY n)(b:Jq a j=Jq M j)(c:a.KT j=M.KT j):V8 a j m=V8 M j n:=by
 simp only[xY,Q9]at e;unfold V8;rw[b,c,e.1,e.2.2]
def qt.to{M a:Qn}{p}{x:It}(h:(Qj a.N x.ki).map xY=(Qj M.N x.ki).map xY)(c:Jq a x.ki=Jq M x.ki)(f:a.KT x.ki=M.KT x.ki):qt M p x->qt a p x:=λ⟨n,k,j,i,g⟩=>by
 obtain⟨m,d,b⟩:=CP h k;have e:=rf b c f;simp only[xY,Q9]at b;obtain⟨o,l,q⟩:=b;exact⟨m,d,by rw[o];exact j,by rw[c];exact i,by rw[e,l];exact g⟩
def NZ.part{M a:Qn}(V:NZ M){U:List Int}(b:a.KT=M.KT)(c:∀j,j ∉ U->Jq a j=Jq M j)(d:∀j,j ∉ U->(Qj a.N j).map xY=(Qj M.N j).map xY):
  ∀p x,x.ki ∉ U->(x∈a.KT p↔qt a p x):=λp x hx=>by
 rw[b,V p x];exact⟨qt.to (d _ hx) (c _ hx) (by rw[b]),qt.to (d _ hx).symm (c _ hx).symm (by rw[b])⟩
def NZ.of{M a:Qn}(V:NZ M)(b:a.KT=M.KT)(c:∀j,Jq a j=Jq M j)(d:∀j,(Qj a.N j).map xY=(Qj M.N j).map xY):NZ a:=λp x=>by
 rw[b,V p x];exact⟨qt.to (d _) (c _) (by rw[b]),qt.to (d _).symm (c _).symm (by rw[b])⟩
def rh(n:Nd):Qt × Bool × Du × Sh × Cp:=(n.c,n.q.l.isEmpty,n.du,n.sh,n.cp)
def GG{g d:Type}{a}(f:g->d){N c}{b:Int}(e:(Qj c b).map a=(Qj N b).map a):(Qj c b).map (λn=>f (a n))=(Qj N b).map λn=>f (a n):=by
 have:=congrArg (Option.map f) e;rwa [OP,OP]at this
def Inv.num{M a:Qn}(V:Inv M)(c:a.Lv=M.Lv)(d:a.KT=M.KT)(h:a.T=M.T)(e:a.A=M.A)(b:∀id,(Qj a.N id).map rh=(Qj M.N id).map rh)(f:CO a)(g:Vu a):Inv a:=
 ⟨V.lv.of c λid=>GG (λk=>(k.1,k.2.1,k.2.2.1.XV,k.2.2.1.dead)) (b id),V.kt.of d (λj=>by unfold Jq;rw[h,e]) λid=>GG (λk=>(k.1,k.2.2.2.1.time,k.2.2.2.2.fit)) (b id),V.act.of e λid=>GG (λk=>(k.1,k.2.1)) (b id),f,⟨by rw[c];exact V.qu.1,λp=>by rw[d];exact V.qu.2 p⟩,g⟩
def Inv.told{M}(V:Inv M)(a):Inv (ZF M a):=by
 unfold ZF;split
 .exact⟨V.lv,V.kt,V.act,V.Am,V.qu,V.ok⟩
 .exact V
def Inv.acc{M}(V:Inv M)(a):Inv (vr M a):=⟨V.lv,V.kt,V.act,V.Am,V.qu,V.ok⟩
def x5{b:Type}{key:Nd->b}{step:Qn->Int->Qn}(a:∀M j id,(Qj (step M j).N id).map key=(Qj M.N id).map key):∀(l:List Int) (M:Qn) (id:Int),(Qj (l.foldl step M).N id).map key=(Qj M.N id).map key
 | [],M,id=>rfl
 | j::l,M,id=>(x5 a l (step M j) id).trans (a M j id)
def ez{a}(b:∀M j id,id≠j->Qj (a M j).N id=Qj M.N id):∀(l:List Int) (M:Qn) (id:Int),id ∉ l->Qj (l.foldl a M).N id=Qj M.N id
 | [],M,id,_=>rfl
 | j::l,M,id,h=>by
  rw[QE,YX]at h;exact(ez b l (a M j) id h.2).trans (b M j id h.1)
def ri{c:Type}{a:Nd->c}{N:List Nd}{j:Int}{f:Nd->Nd}(e:∀n,(f n).c=n.c)(d:∀n,a (f n)=a n)(b:Int):(Qj (VT N j f) b).map a=(Qj N b).map a:=by
 rw[jk (λn=>by rw[e])];split
 .rw[OP];congr 1;funext n;exact d n
 .rfl
def rj{N}{j}{f}(b:∀n,(f n).c=n.c)(a)(h:a≠j):Qj (VT N j f) a=Qj N a:=by
 rw[jk (λn=>by rw[b]),Qe h]
def GH{N}{j}{f}(d:∀n,(f n).c=n.c)(c:∀n,Qj N j=some n->n.Ok->(f n).Ok)(h:∀id n,Qj N id=some n->n.Ok):∀id n,Qj (VT N j f) id=some n->n.Ok:=λid n a=>by
 rw[jk (λn=>by rw[d])]at a;split at a
 .rename_i e;subst e;obtain⟨m,b,rfl⟩:=Xq.1 a;exact c m b (h _ _ b)
 .exact h _ _ a
def Qgr{M b:Qn}(V:CO M)(e:∀id,(Qj b.N id).map (λn=>(n.c,n.q))=(Qj M.N id).map λn=>(n.c,n.q)):CO b:=λid n c d=>by
 obtain⟨m,f,a⟩:=CP (e id).symm c;have h:m.c=n.c:=congrArg Prod.fst a;have g:m.q=n.q:=congrArg Prod.snd a;rw[<- g];exact V id m f (by rw[h];exact d)
def GI(M:Qn)(a:Int)(x:Pk)(j:Int):Qj (Vr M a x).N j=if j=a then (Qj M.N j).map (λm=>{ m with q:=Xm (QD M a).c.Zz (QD M a).c.bytes (QD M a).q x }) else Qj M.N j:=
 jk (f:=λm:Nd=>{ m with q:=Xm (QD M a).c.Zz (QD M a).c.bytes (QD M a).q x }) (λ_=>rfl) j
def Qgs{p b}{q:Qu}{x:Pk}(h:jW p b q x=false):(Xm p b q x).l=q.l++[x]:=by
 unfold Xm;rw[Qe (by rw[h];exact vF)]
def rk{M}(V:Vu M)(a)(x):Vu (Vr M a x):=
 GH (f:=λm:Nd=>{ m with q:=Xm (QD M a).c.Zz (QD M a).c.bytes (QD M a).q x }) (λ_=>rfl) (λn _ h=>⟨h.Ja,h.du,h.sh,h.cp,h.c⟩) V
def Qwj{M:Qn}(V:CO M){c}{n:Nd}(d:Qj M.N c=some n)(f:n.c.leaf=true)(x):CO (Vr M c x):=λj m a b=>by
 rw[GI]at a;split at a
 .rename_i e;subst e;rw[d]at a;cases a;rw[f]at b;cases b
 .exact V j m a b
def Inv.push{M:Qn}(V:Inv M){a}{n:Nd}(b:Qj M.N a=some n)(d:n.c.leaf=true)(x)(h:jW n.c.Zz n.c.bytes n.q x=true\/n.q.l≠[]):Inv (Vr M a x):=by
 refine V.num rfl rfl rfl rfl (λj=>?_) (Qwj V.Am b d x) (rk V.ok a x);have f:QD M a=n:=by unfold QD;rw[b];rfl
 rw[GI,f];split
 .rename_i e;subst e;rw[b];have e:(Xm n.c.Zz n.c.bytes n.q x).l.isEmpty=n.q.l.isEmpty:=by
   unfold Xm;rcases h with h|h
   .rw[Qf h]
   .split
    .rfl
    .cases c:n.q.l with
     | nil=>exact absurd c h
     | cons y l=>simp
  simp only[Kx,rh];rw[e]
 .rfl
def rn(M:Qn)(c)(b:Int)(a:Int)(j:Int):Qj (Wu M c b a).N j=if j=b/\1<Q4 (QD M b).c.rt then (Qj M.N j).map (λn=>{ n with du:=z8 (QD M b).du (KE (QD M b).c.rt) c a }) else Qj M.N j:=by
 unfold Wu;by_cases h:1<Q4 (QD M b).c.rt
 .rw[Qf h];dsimp only;rw[jk (f:=λn:Nd=>{ n with du:=z8 (QD M b).du (KE (QD M b).c.rt) c a }) (λ_=>rfl)];simp[h]
 .rw[Qe h,Qe (λe=>h e.2)]
def Qgt(b:Nat){d:Type}{a:Nd->d}(e:∀M n,a (Qaw M b n)=a n)(M:Qn)(j c:Int):(Qj (WX b M j).N c).map a=(Qj M.N c).map a:=
 ri (f:=Qaw M b) (λ_=>rfl) (e M) c
def Qgu(a):∀(l:List Int) (M:Qn),(l.foldl (WX a) M).Lv=M.Lv
 | [],M=>rfl
 | j::l,M=>Qgu a l (WX a M j)
def Inv.Qwk{M g:Qn}(P:Qx g)(V:Inv M){b}{n q:Nd}(L:Qj M.N b=some n)(E:Qj g.N b=some q)(hl:n.c.leaf=true)(cH:n.q.l=[])(hq:q.q.l≠[])(vT:(q.c,q.du,q.sh,q.cp)=(n.c,n.du,n.sh,n.cp))
  (yv:∀j,j≠b->Qj g.N j=Qj M.N j) (hL:g.Lv=M.Lv) (Z:g.KT=M.KT) (hT:g.T=M.T) (O:g.A=M.A) (Y:Vu g) (c:Nat) (V9:c<18446744073709551616) (o:Int):Inv (zx g c b o):=by
 simp only[Q9]at vT;obtain⟨z,ed,es,ep⟩:=vT;have Z3:QD g b=q:=by unfold QD;rw[E];rfl
 have ZC:q.c.leaf=true:=by rw[z];exact hl
 have JH:b ∉ M.A:=λh=>by
  obtain⟨m,s,_,h3,_⟩:=(V.act b).1 h;rw[L]at s;cases s;exact h3 cH
 have a0:∀y∈M.Lv,y.ki≠b:=λy v e=>by
  obtain⟨m,s,_,h3,_⟩:=(V.lv y).1 v;rw[e,L]at s;cases s;exact h3 cH
 obtain⟨r,K⟩:∃r,r=Wu g c b o:=⟨_,rfl⟩;have I2:Qx r:=by rw[K];exact P.Wu E c o
 obtain⟨B,W,J,w4⟩:=RZ (M:=g) (now:=c) (id:=b) (head:=o);rw[<- K]at B W J w4;have hF:∀j,Qj r.N j=if j=b/\1<Q4 q.c.rt then (Qj g.N j).map (λn=>{ n with du:=z8 q.du (KE q.c.rt) c o }) else Qj g.N j:=λj=>by
  rw[K,rn,Z3]
 have F:∀j,j≠b->Qj r.N j=Qj M.N j:=λj d=>by rw[hF,Qe (λe=>d e.1),yv j d]
 have SC:r.Lv=if 1<Q4 q.c.rt then XU b (z8 q.du (KE q.c.rt) c o).XV (z8 q.du (KE q.c.rt) c o).dead M.Lv else M.Lv:=by
  rw[K];unfold Wu;rw[Z3];split
  .dsimp only;rw[hL]
  .exact hL
 obtain⟨m,N,H,La,a1,a2,cP⟩:∃m,Qj r.N b=some m/\m.c=n.c/\m.q=q.q/\m.sh=n.sh/\m.cp=n.cp/\(1<Q4 q.c.rt->m.du=z8 q.du (KE q.c.rt) c o):=by
  rw[hF,E];by_cases h:1<Q4 q.c.rt
  .rw[Qf ⟨rfl,h⟩];exact⟨_,rfl,z,rfl,es,ep,λ_=>rfl⟩
  .rw[Qe (λe=>h e.2)];exact⟨_,rfl,z,rfl,es,ep,λe=>absurd e h⟩
 have Al:CN r:=V.lv.at_ N (λj d=>by rw[F j d]) (λy v=>by
   rw[SC];split
   .rw[GD];exact⟨λh=>h.elim (λe=>absurd (congrArg It.ki e) v) (·.1),λh=>.inr ⟨h,v⟩⟩
   .exact Iff.rfl) λy v=>by
   rw[SC,H,La];by_cases h:1<Q4 q.c.rt
   .rw[Qf h,GD,cP h];rw[<- z];exact⟨λe=>e.elim (λe=>⟨ZC,hq,h,e⟩) λe=>absurd v e.2,λe=>.inl e.2.2.2⟩
   .rw[Qe h];rw[<- z];exact⟨λe=>absurd v (a0 y e),λe=>absurd e.2.2.1 h⟩
 have ZD:∀j,(Qj r.N j).map xY=(Qj M.N j).map xY:=λj=>by
  by_cases e:j=b
  .subst e;rw[N,L];simp only[Kx,xY,H,a1,a2]
  .rw[F j e]
 have U:CO r:=λj k d CM=>by
  by_cases e:j=b
  .subst e;rw[N]at d;cases d;rw[H,hl]at CM;cases CM
  .rw[F j e]at d;exact V.Am j k d CM
 have T:Vu r:=λj k d=>by
  rw[hF]at d;split at d
  .obtain⟨k0,s,rfl⟩:=Xq.1 d;have h2:=Y j k0 s;exact⟨h2.Ja,nG (Y b q E).du (Y b q E).c.2.2.2.1.lt V9 o,h2.sh,h2.cp,h2.c⟩
  .exact Y j k d
 have S:KP r.Lv:=by
  rw[SC];split
  .exact eu V.qu.1
  .exact V.qu.1
 unfold zx;rw[Z3,<- K];by_cases C:1<Q4 q.c.ls
 .rw[Qf C];obtain⟨t,u⟩:∃t,t=(W6 g.T g.A b).foldl (WX c) { r with A:=b::g.A }:=⟨_,rfl⟩;rw[<- u];obtain⟨t1,t2,t3,t4,t5,t6⟩:=IL c (W6 g.T g.A b) { r with A:=b::g.A };rw[<- u]at t1 t2 t3 t4 t5 t6;dsimp only at t1 t2 t3;have tL:=Qgu c (W6 g.T g.A b) { r with A:=b::g.A };rw[<- u]at tL;have Ws:Qz g.T b=some q.c:=P.some E;have Q:g.T=t.T:=by rw[t1,B]
  have I3:Qx t:=by
   rw[u];refine Qx.RY _ (I2.act λa w=>?_);rw[B];rcases QE.1 w with rfl|w
   .exact⟨q.c,Ws,ZC,C⟩
   .exact P.Xo a w
  rw[Q];have yJ:∀j,j ∉ up g.T b->j ∉ W6 g.T g.A b:=λj d h=>d (List.takeWhile_subset _ h);have eA:∀j,(Qj t.N j).map (λn=>(n.c,n.q,n.du))=(Qj r.N j).map λn=>(n.c,n.q,n.du):=λj=>by
   rw[u];exact x5 (key:=λn:Nd=>(n.c,n.q,n.du)) (λM j b=>Qgt c (λ_ _=>rfl) M j b) _ _ j
  have SD:∀j,j ∉ up g.T b->Qj t.N j=Qj M.N j:=λj d=>by
   have s:Qj t.N j=Qj r.N j:=by
    rw[u];exact ez (λM i b h=>rj (f:=Qaw M c) (λ_=>rfl) b h) _ _ j (yJ j d)
   rw[s];exact F j λe=>d (by rw[e];exact XA P.tree Ws)
  have R:∀j,Jq t j=true↔j∈up g.T b\/Jq M j=true:=λj=>by
   unfold Jq;rw[t1,t2,B,O,hT,qd,qd];simp
  refine Part.settle _ b I3 rfl ?_;rw[<- Q];refine⟨?_,?_,λp x hx EM=>(R _).2 (.inl EM),?_,?_,⟨by rw[tL];exact S,λp=>by rw[t3,J,Z];exact V.qu.2 p⟩,?_⟩
  .exact Al.of tL λj=>GG (λk=>(k.1,k.2.1.l.isEmpty,k.2.2.XV,k.2.2.dead)) (eA j)
  .refine V.kt.part (by rw[t3,J,Z]) (λj d=>?_) λj d=>by rw[SD j d]
   rw[vE,R];exact⟨λh=>h.resolve_left d,.inr⟩
  .obtain⟨m3,g1,g2⟩:=CP (eA b) N;simp only[Q9]at g2;obtain⟨g3,g4,g5⟩:=g2;refine V.act.at_ g1 (λj d=>?_) (λj d=>?_) ?_
   .rw[<- F j d];exact GG (λk=>(k.1,k.2.1.l.isEmpty)) (eA j)
   .rw[t2,O];simp[d]
   .rw[t2,g3,g4,H,La,<- z];exact⟨λ_=>⟨ZC,hq,C⟩,λ_=>K8⟩
  .exact Qgr U λj=>GG (λk=>(k.1,k.2.1)) (eA j)
  .rw[u];have:∀(l:List Int) (M:Qn),Qx M->Vu M->Vu (l.foldl (WX c) M):=by
    intro l;induction l with
    | nil=>intro M _ h;exact h
    | cons j l ih=>
     intro M I h;refine ih _ (I.WX c j) ?_;exact GH (f:=Qaw M c) (λ_=>rfl) (λn _ L=>oW I V9 L) h
   refine this _ _ (I2.act λa w=>?_) T;rw[B];rcases QE.1 w with rfl|w
   .exact⟨q.c,Ws,ZC,C⟩
   .exact P.Xo a w
 .rw[Qe C];refine⟨Al,V.kt.of (by rw[J,Z]) (λj=>by unfold Jq;rw[B,W,hT,O]) ZD,?_,U,⟨S,λp=>by rw[J,Z];exact V.qu.2 p⟩,T⟩;refine V.act.at_ N (λj d=>by rw[F j d]) (λj d=>by rw[W,O]) ?_;rw[W,O,H,La,<- z];exact⟨λh=>absurd h JH,λh=>absurd h.2.2 C⟩
def QgA{M:Qn}{a}{x:Pk}{n:Nd}(b:Qj M.N a=some n):Vm M a x=if n.c.leaf=false then 29 else if x.len<1\/M.lk.JU<x.len then 26 else if 1099511627776<M.acc+x.len.toNat then 28
   else if jW n.c.Zz n.c.bytes n.q x=true then 30 else 0:=by unfold Vm;rw[b]
def rq{M:Qn}{a}{x}{n:Nd}(b:Qj M.N a=some n)(h:Vm M a x=30):n.c.leaf=true/\jW n.c.Zz n.c.bytes n.q x=true:=by
 rw[QgA b]at h;split at h
 .cases h
 .rename_i d;split at h
  .cases h
  .split at h
   .cases h
   .split at h
    .rename_i c;exact⟨by simpa using d,c⟩
    .cases h
def ru{M:Qn}{a}{x:Pk}{n:Nd}(b:Qj M.N a=some n)(h:Vm M a x=0):n.c.leaf=true/\jW n.c.Zz n.c.bytes n.q x=false/\1<=x.len/\x.len<=M.lk.JU/\M.acc+x.len.toNat<=1099511627776:=by
 rw[QgA b]at h;split at h
 .cases h
 .rename_i d;split at h
  .cases h
  .rename_i f;split at h
   .cases h
   .rename_i e;split at h
    .cases h
    .rename_i c;exact⟨by simpa using d,by simpa using c,ω,ω,ω⟩
def Inv.put{M}(I:Qx M)(V:Inv M)(c)(o:c<18446744073709551616)(a)(x):Inv (Vs M c a x):=by
 unfold Vs;cases b:Qj M.N a with
 | none=>
  have e:Vm M a x=23:=by unfold Vm;rw[b]
  rw[e,Qe π,Qe π];exact V
 | some n=>
  have k:QD M a=n:=by unfold QD;rw[b];rfl
  by_cases g:Vm M a x=30
  .rw[Qf g];obtain⟨f,h⟩:=rq b g;exact V.push b f x (.inl h)
  .rw[Qe g];by_cases i:Vm M a x=0
   .rw[Qf i,k];obtain⟨f,h,s,r,m⟩:=ru b i;by_cases d:n.q.l=[]
    .rw[Qf d];have p:Qj (vr (Vr M a x) (M.acc+x.len.toNat)).N a=some { n with q:=Xm n.c.Zz n.c.bytes n.q x }:=by
      show Qj (Vr M a x).N a=_;rw[GI,Qf rfl,b,k];rfl
     refine Inv.Qwk ((I.Vr a x).vr m) V b p f d ?_ rfl (λj l=>?_) rfl rfl rfl rfl (rk V.ok a x) c o x.len
     .dsimp only;rw[Qgs h];simp
     .show Qj (Vr M a x).N j=_;rw[GI,Qe l]
    .rw[Qe d];exact(V.push b f x (.inr d)).acc _
   .rw[Qe i];exact V
def Inv.KU{M}(I:Qx M)(V:Inv M)(a)(c:a<18446744073709551616)(b)(x):Inv (KU M a b x):=by
 unfold X.KU;split
 .exact Inv.put (Ae I a) (V.told a) a c b x
 .exact V
def Qwn{T}(e:WB T){p j}:j∈WD T p↔∃c,Qz T j=some c/\c.parent=p:=by
 unfold WD;constructor
 .intro h;obtain⟨c,d,rfl⟩:=Jm.1 h;obtain⟨b,a⟩:=JO.1 d;exact⟨c,(WC e).2 ⟨b,rfl⟩,by simpa using a⟩
 .rintro⟨c,d,b⟩;obtain⟨a,rfl⟩:=(WC e).1 d;exact Jm.2 ⟨c,JO.2 ⟨a,by simpa using b⟩,rfl⟩
def Qwo(M:Qn)(j a:Int)(h:a≠j):Qj (XX M j).N a=Qj M.N a:=rj (f:=λn:Nd=>{ n with sh:=Aa }) (λ_=>rfl) a h
def Qwp{c:Type}{a:Nd->c}(d:∀n:Nd,a { n with sh:=Aa }=a n)(M:Qn)(j b:Int):(Qj (XX M j).N b).map a=(Qj M.N b).map a:=
 ri (f:=λn:Nd=>{ n with sh:=Aa }) (λ_=>rfl) d b
def GJ{b:Type}{key:Nd->b}(c:∀n:Nd,key { n with sh:=Aa }=key n)(M:Qn)(j a:Int):(Qj (JI M j).N a).map key=(Qj M.N a).map key:=by
 unfold JI;split
 .exact x5 (Qwp c) _ (Wa M j) a
 .rfl
def eB(M)(j:Int):(JI M j).KT=(Wa M j).KT:=by
 unfold JI;split
 .exact(dC _ (Wa M j)).2.2.1
 .rfl
def QgB{M:Qn}(I:Qx M){j:Int}{c}(h:Qz M.T j=some c):(QD M j).c=c:=by
 obtain⟨n,b,a⟩:=I.ND h;unfold QD;rw[b];exact a
def QgC{M:Qn}(I:Qx M)(j p:Int)(x:It):x∈(JI M j).KT p↔x∈M.KT p/\x.ki≠j:=by
 rw[eB];unfold Wa;dsimp only;split
 .rename_i e;rw[SB,e]
 .rename_i e;refine⟨λh=>⟨h,λd=>?_⟩,(·.1)⟩;obtain⟨c,a,b⟩:=I.jZ p x h;rw[d]at a;rw[QgB I a]at e;exact e b.symm
def rv:∀(l:List Int) {M:Qn},Qx M->∀(p:Int) (x:It),x∈(l.foldl JI M).KT p↔x∈M.KT p/\x.ki ∉ l
 | [],M,I,p,x=>σ
 | j::l,M,I,p,x=>by
  rw[yg,rv l (I.JI j) p x,QgC I];simp[and_assoc]
def Qwq{M:Qn}(I:Qx M){j p:Int}{x:It}(h:x∈(JI M j).KT p):Qj (JI M j).N x.ki=Qj M.N x.ki:=by
 have a:=h;rw[eB]at a;obtain⟨hx,l⟩:=(QgC I j p x).1 h;obtain⟨c,i,g⟩:=I.jZ p x hx;unfold JI;split
 .rename_i e;refine ez Qwo _ (Wa M j) x.ki λd=>?_;obtain⟨k,b,f⟩:=(Qwn I.tree.rising).1 d;rw[i]at b;cases b;unfold Wa at a;dsimp only at a;rw[Qf (g.symm.trans f),e]at a;cases a
 .rfl
def QgD:∀(l:List Int) {M:Qn},Qx M->∀{p:Int} {x:It},x∈(l.foldl JI M).KT p->Qj (l.foldl JI M).N x.ki=Qj M.N x.ki
 | [],M,I,p,x,h=>rfl
 | j::l,M,I,p,x,h=>by
  have a:=QgD l (I.JI j) h;exact a.trans (Qwq I (p:=p) ((rv l (I.JI j) p x).1 h).1)
def QgE:∀(l:List Int) {M:Qn},Qx M->∀(i:Int),(∀j∈l,(QD M j).c.parent≠i)->(l.foldl JI M).KT i=M.KT i
 | [],M,I,i,h=>rfl
 | j::l,M,I,i,h=>by
  have e:(JI M j).KT i=M.KT i:=by
   rw[eB];unfold Wa;dsimp only;rw[Qe (λe=>h j K8 e.symm)]
  rw[yg,QgE l (I.JI j) i,e];intro k c;have a:=GJ (key:=λn:Nd=>n.c.parent) (λ_=>rfl) M j k;have g:(QD (JI M j) k).c.parent=(QD M k).c.parent:=by
   unfold QD;cases b:Qj M.N k with
   | none=>
    rw[b,YW,fu]at a;rw[a]
   | some n=>
    rw[b]at a;obtain⟨m,f,d⟩:=Xq.1 a;rw[f];exact d
  rw[g];exact h k (Km _ c)
def Qwr{M}(V:Vu M)(j):Vu (JI M j):=by
 have b:∀(l:List Int) (M:Qn),Vu M->Vu (l.foldl XX M):=by
  intro l;induction l with
  | nil=>intro M h;exact h
  | cons j l a=>
   intro M h;exact a _ (GH (f:=λn:Nd=>{ n with sh:=Aa }) (λ_=>rfl) (λn _ h=>⟨h.Ja,h.du,Qfr,h.cp,h.c⟩) h)
 unfold JI;split
 .exact b _ (Wa M j) V
 .exact V
def ry:∀(l:List Int) {M:Qn},Vu M->Vu (l.foldl JI M)
 | [],M,h=>h
 | j::l,M,h=>ry l (Qwr h j)
def QgF:∀(l:List Int) {M:Qn},EL M->EL (l.foldl JI M)
 | [],M,h=>h
 | j::l,M,h=>by
  refine QgF l ⟨?_,λp=>?_⟩
  .rw[(Qfs M j).2.2.2.2.2];exact h.1
  .rw[eB];unfold Wa;dsimp only;split
   .exact p7 (h.2 _)
   .exact h.2 p
def Qws(a)(M:Qn)(j b:Int)(h:b≠j):Qj (VB a M j).N b=Qj M.N b:=rj (f:=CJ a) (λ_=>rfl) b h
def QgG(b:Nat){d:Type}{a:Nd->d}(e:∀n:Nd,a (CJ b n)=a n)(M:Qn)(j c:Int):(Qj (VB b M j).N c).map a=(Qj M.N c).map a:=
 ri (f:=CJ b) (λ_=>rfl) e c
def rA(a):∀(l:List Int) {M:Qn},Vu M->Vu (l.foldl (VB a) M)
 | [],M,h=>h
 | j::l,M,h=>rA a l (GH (f:=CJ a) (λ_=>rfl) (λn _ b=>QfB b a) h)
def QgH(M:Qn)(a:Int)(b)(r:Bool)(j:Int):Qj (VU M a b r).N j=if j=a/\1<Q4 (QD M a).c.rt then (Qj M.N j).map (λn=>{ n with du:=qo (QD M a) b r }) else Qj M.N j:=by
 unfold VU;by_cases h:1<Q4 (QD M a).c.rt
 .rw[Qf h];dsimp only;rw[jk (f:=λn:Nd=>{ n with du:=qo (QD M a) b r }) (λ_=>rfl)];simp[h]
 .rw[Qe h,Qe (λe=>h e.2)]
def Inv.take{M:Qn}(I:Qx M)(V:Inv M){a}{n:Nd}(T:Qj M.N a=some n)(hl:n.c.leaf=true)(hq:n.q.l≠[])(r):Inv (XH M a r):=by
 have Z3:QD M a=n:=by unfold QD;rw[T];rfl
 have Ws:=I.some T;have vR:a∈up M.T a:=XA I.tree Ws;have N5:∀j,Qj (W9 M a).N j=if j=a then (Qj M.N j).map (λn=>{ n with q:=WV (QD M a).q }) else Qj M.N j:=λj=>
  jk (f:=λn:Nd=>{ n with q:=WV (QD M a).q }) (λ_=>rfl) j
 unfold XH;dsimp only;rw[Z3];generalize e7:(n.q.l.headD default).len=d;obtain⟨u,N⟩:∃u,u=(up M.T a).foldl (VB d.toNat) (W9 M a):=⟨_,rfl⟩;rw[<- N];have I2:Qx u:=by rw[N];exact Qx.dI _ (I.W9 a)
 obtain⟨b1,b2,b3,b4,b5,b6,b7⟩:=IQ d.toNat (up M.T a) (W9 M a);rw[<- N]at b1 b2 b3 b4 b5 b6 b7;have e4:∀j,j ∉ up M.T a->Qj u.N j=Qj M.N j:=λj b=>by
  rw[N,ez (Qws d.toNat) _ _ j b,N5,Qe (λe=>b (by rw[e];exact vR))]
 have ZD:∀j,(Qj u.N j).map (λn=>(n.c,n.q,n.du))=(Qj (W9 M a).N j).map λn=>(n.c,n.q,n.du):=λj=>by
  rw[N];exact x5 (key:=λn:Nd=>(n.c,n.q,n.du)) (λM j a=>QgG d.toNat (λ_=>rfl) M j a) _ _ j
 have e3:(Qj u.N a).map (λn=>(n.c,n.q,n.du))=some (n.c,WV n.q,n.du):=by
  rw[ZD,N5,Qf rfl,T,Z3];rfl
 have El:∀j,j≠a->(Qj u.N j).map (λn=>(n.c,n.q,n.du))=(Qj M.N j).map λn=>(n.c,n.q,n.du):=λj b=>by
  rw[ZD,N5,Qe b]
 obtain⟨E,Xk,e2⟩:=Xq.1 e3;simp only[Q9]at e2;obtain⟨c2,q2,d2⟩:=e2;have c1:QD u a=E:=by unfold QD;rw[Xk];rfl
 have rB:Vu u:=by
  rw[N];exact rA _ _ (GH (f:=λn:Nd=>{ n with q:=WV (QD M a).q }) (λ_=>rfl) (λn _ h=>⟨h.Ja,h.du,h.sh,h.cp,h.c⟩) V.ok)
 obtain⟨c,R⟩:∃c,c=VU u a d r:=⟨_,rfl⟩;rw[<- R];have I3:Qx c:=by rw[R];exact I2.VU Xk d r
 obtain⟨a1,a2,a3,a4,a5,a6⟩:=NR u a d r;rw[<- R]at a1 a2 a3 a4 a5 a6;have hF:∀j,Qj c.N j=if j=a/\1<Q4 n.c.rt then (Qj u.N j).map (λn=>{ n with du:=qo E d r }) else Qj u.N j:=λj=>by
  rw[R,QgH,c1,c2]
 have SD:∀j,j ∉ up M.T a->Qj c.N j=Qj M.N j:=λj b=>by
  rw[hF,Qe (λe=>b (by rw[e.1];exact vR)),e4 j b]
 have rD:∀j,j≠a->Qj c.N j=Qj u.N j:=λj b=>by rw[hF,Qe (λe=>b e.1)]
 obtain⟨m,O,xO,La,cP⟩:∃m,Qj c.N a=some m/\m.c=n.c/\m.q=WV n.q/\(1<Q4 n.c.rt->m.du=qo E d r):=by
  rw[hF,Xk];by_cases h:1<Q4 n.c.rt
  .rw[Qf ⟨rfl,h⟩];exact⟨_,rfl,c2,q2,λ_=>rfl⟩
  .rw[Qe (λe=>h e.2)];exact⟨_,rfl,c2,q2,λe=>absurd e h⟩
 have c0:Vu c:=λj k b=>by
  rw[hF]at b;split at b
  .obtain⟨k0,t,rfl⟩:=Xq.1 b;have v:=rB j k0 t;exact⟨v.Ja,oT (rB a E Xk) d r,v.sh,v.cp,v.c⟩
  .exact rB j k b
 have SE:c.Lv=if 1<Q4 n.c.rt then (if (WV n.q).l=[] then KR a (XU a (qo E d r).XV (qo E d r).dead M.Lv) else XU a (qo E d r).XV (qo E d r).dead M.Lv) else M.Lv:=by
  rw[R];unfold VU;rw[c1,c2,q2];split
  .dsimp only;rw[b7];rfl
  .exact b7
 have Al:CN c:=V.lv.at_ O (λj b=>by
   rw[rD j b];exact GG (λk=>(k.1,k.2.1.l.isEmpty,k.2.2.XV,k.2.2.dead)) (El j b)) (λy B=>by
   rw[SE];split
   .split
    .rw[SB,GD];exact⟨λh=>h.1.elim (λe=>absurd (congrArg It.ki e) B) (·.1),λh=>⟨.inr ⟨h,B⟩,B⟩⟩
    .rw[GD];exact⟨λh=>h.elim (λe=>absurd (congrArg It.ki e) B) (·.1),λh=>.inr ⟨h,B⟩⟩
   .exact Iff.rfl) λy B=>by
   rw[SE,xO,La];by_cases h:1<Q4 n.c.rt
   .rw[Qf h,cP h];split
    .rename_i he;rw[SB];exact⟨λe=>absurd B e.2,λe=>absurd he e.2.1⟩
    .rename_i he;rw[GD];exact⟨λe=>e.elim (λe=>⟨hl,he,h,e⟩) λe=>absurd B e.2,λe=>.inl e.2.2.2⟩
   .rw[Qe h];refine⟨λe=>?_,λe=>absurd e.2.2.1 h⟩;obtain⟨k,t,_,_,J,_⟩:=(V.lv y).1 e;rw[B,T]at t;cases t;exact absurd J h
 have b9:EL c:=⟨by
   rw[SE];split
   .split
    .exact p7 (eu V.qu.1)
    .exact eu V.qu.1
   .exact V.qu.1,λp=>by rw[a3,b3];exact V.qu.2 p⟩
 have b8:CO c:=λj k b CM=>by
  by_cases e:j=a
  .subst e;rw[O]at b;cases b;rw[xO,hl]at CM;cases CM
  .rw[rD j e]at b;obtain⟨k0,t,v⟩:=CP (El j e).symm b;simp only[Q9]at v;rw[<- v.2.1];exact V.Am j k0 t (by rw[v.1];exact CM)
 have F:c.T=M.T:=by rw[a1,b1];rfl
 have Q:c.A=M.A:=by rw[a2,b2];rfl
 have rE:c.KT=M.KT:=by rw[a3,b3];rfl
 have oS:∀p x,x.ki ∉ up M.T a->(x∈c.KT p↔qt c p x):=V.kt.part rE (λj _=>by unfold Jq;rw[F,Q]) λj b=>by rw[SD j b]
 have b0:∀j,j≠a->(Qj c.N j).map xZ=(Qj M.N j).map xZ:=λj b=>by
  rw[rD j b];exact GG (λk=>(k.1,k.2.1.l.isEmpty)) (El j b)
 have K:(a∈M.A↔(WV n.q).l≠[]/\1<Q4 n.c.ls)->Inv (VI c (up M.T a)):=λJj=>by
  rw[<- F];refine Part.settle _ a I3 rfl ?_;rw[F];refine⟨Al,oS,λp x hx EM=>?_,V.act.at_ O b0 (λj _=>by rw[Q]) ?_,b8,b9,c0⟩
  .rw[rE]at hx;obtain⟨_,_,_,h,_⟩:=(V.kt p x).1 hx;show Z2 c.T c.A x.ki=true;rw[F,Q];exact h
  .rw[Q,xO,La,Jj];exact⟨λh=>⟨hl,h⟩,λh=>h.2⟩
 have X9:a∈M.A↔1<Q4 n.c.ls:=by
  rw[V.act a,T];constructor
  .rintro⟨k,t,_,_,J⟩;cases t;exact J
  .intro h;exact⟨n,rfl,hl,hq,h⟩
 by_cases C:(WV n.q).l=[]
 .rw[Qf C];have e1:QD c a=m:=by unfold QD;rw[O];rfl
  unfold Xp;rw[e1,xO];by_cases S:1<Q4 n.c.ls
  .rw[Qf S];have e0:=X9.2 S;obtain⟨s,w⟩:∃s,s={ c with A:=JY c.A a }:=⟨_,rfl⟩;have W:Qx s:=by rw[w];exact I3.act (I3.Xo.off a)
   rw[<- w];obtain⟨U,hU⟩:∃U,U=W6 c.T (JY c.A a) a:=⟨_,rfl⟩;rw[<- hU];obtain⟨g,o⟩:∃g,g=U.foldl JI s:=⟨_,rfl⟩;rw[<- o];have I4:Qx g:=by rw[o];exact Qx.Sc _ W
   obtain⟨s1,s2,s3,s4,s5,s6⟩:=Gt U s;rw[<- o]at s1 s2 s3 s4 s5 s6;have Gv:g.T=M.T:=by rw[s1,w];exact F
   have eD:g.A=JY M.A a:=by rw[s2,w];dsimp only;rw[Q]
   have L:s.N=c.N:=by rw[w]
   have Y:s.KT=M.KT:=by rw[w];exact rE
   have rF:∀j∈U,j∈up M.T a:=λj b=>by
    rw[hU,F]at b;exact List.takeWhile_subset _ b
   have WH:∀p x,x∈g.KT p↔x∈M.KT p/\x.ki ∉ U:=λp x=>by
    rw[o,rv U W p x,Y]
   have zj:∀j,Jq M j=true↔j∈up M.T a\/Jq g j=true:=λj=>by
    unfold Jq;rw[Gv,eD];exact H4 e0 j
   have c9:∀j,j∈up M.T a->j ∉ U->Jq g j=true:=λj b EI=>by
    rw[hU,F,Q]at EI;unfold Jq;rw[Gv,eD];unfold W6 at EI;have eE:=List.takeWhile_append_dropWhile (p:=λi=>!Z2 M.T (JY M.A a) i) (l:=up M.T a);rw[<- eE]at b;rcases QW.1 b with b|b
    .exact absurd b EI
    .cases P:(up M.T a).dropWhile (λi=>!Z2 M.T (JY M.A a) i) with
     | nil=>rw[P]at b;cases b
     | cons k c3=>
      have hk:Z2 M.T (JY M.A a) k=true:=by
       have:=List.head_dropWhile_not (λi=>!Z2 M.T (JY M.A a) i) (l:=up M.T a) (by rw[P];simp);simp only[P,List.head_cons]at this;simpa using this
      rw[P]at b eE;have c8:k∈up M.T a:=by rw[<- eE];simp
      obtain⟨ck,Z⟩:=Dj.1 (F3 c8);have yv:c3=up M.T ck.parent:=Qqj I.tree (eE.symm) Z;rcases QE.1 b with rfl|b
      .exact hk
      .refine H0 I.tree hk ?_;rw[Vl I.tree Z,<- yv];exact Km _ b
   have a8:∀p x,x.ki ∉ up M.T a->x∈g.KT p->qt g p x:=λp x hx h=>by
    have c4:=((WH p x).1 h).1;obtain⟨z,t,v,h3,J⟩:=(V.kt p x).1 c4;have SF:Qj g.N x.ki=some z:=by
     have H:Qj g.N x.ki=Qj s.N x.ki:=by
      rw[o];rw[o]at h;exact QgD U W h
     rw[H,L,SD _ hx,t]
    have a7:Jq g x.ki=true:=((zj _).1 h3).resolve_left hx;refine⟨z,SF,v,a7,?_⟩;have c7:g.KT x.ki=M.KT x.ki:=by
     rw[o,QgE U W x.ki,Y];intro j b e;obtain⟨cj,a0⟩:=Dj.1 (F3 (rF j b));have e6:Qz s.T j=some cj:=by rw[w];dsimp only;rw[F];exact a0
     rw[QgB W e6]at e;refine hx (up_sub I.tree (rF j b) ?_);rw[Vl I.tree a0,e];exact Km _ (XA I.tree (I.some t))
    rw[rf (n:=z) rfl (by rw[a7,h3]) c7];exact J
   rw[<- Gv];refine Part.settle _ a I4 rfl ?_;rw[Gv];refine⟨?_,λp x hx=>⟨a8 p x hx,λP=>?_⟩,λp x h EM=>c9 _ EM ((WH p x).1 h).2,?_,?_,?_,?_⟩
   .refine Al.of (by rw[s6,w]) λj=>?_;rw[o,x5 (GJ (key:=GF) (λ_=>rfl)) U s j,L]
   .obtain⟨k,t,v,h3,J⟩:=P;have vT:(Qj g.N x.ki).map (λn=>n.c)=(Qj c.N x.ki).map λn=>n.c:=by
     rw[o,x5 (GJ (key:=λn:Nd=>n.c) (λ_=>rfl)) U s x.ki,L]
    obtain⟨z,H,h6⟩:=CP vT.symm t;rw[SD _ hx]at H;have e5:(⟨z.sh.time,x.ki,V8 M x.ki z,x.ki⟩:It)∈M.KT p:=(V.kt p _).2 ⟨z,H,by rw[h6];exact v,(zj _).2 (.inr h3),rfl⟩;have a9:=(WH p _).2 ⟨e5,λc5=>hx (rF _ c5)⟩;obtain⟨k2,g1,g2,g3,g4⟩:=a8 p ⟨z.sh.time,x.ki,V8 M x.ki z,x.ki⟩ hx a9;dsimp only at g1 g4;rw[t]at g1;cases g1;rw[<- g4]at J;rw[J];exact a9
   .refine V.act.at_ (id:=a) (m:=(QD g a)) ?_ (λj b=>?_) (λj b=>?_) ?_
    .have vT:(Qj g.N a).map (λn=>n.c)=(Qj c.N a).map λn=>n.c:=by
      rw[o,x5 (GJ (key:=λn:Nd=>n.c) (λ_=>rfl)) U s a,L]
     obtain⟨k,H,_⟩:=CP vT O;unfold QD;rw[H];rfl
    .rw[o,x5 (GJ (key:=xZ) (λ_=>rfl)) U s j,L];exact b0 j b
    .rw[eD];simp[JY,b]
    .have vT:(Qj g.N a).map (λn=>n.q)=(Qj c.N a).map λn=>n.q:=by
      rw[o,x5 (GJ (key:=λn:Nd=>n.q) (λ_=>rfl)) U s a,L]
     obtain⟨k,H,h6⟩:=CP vT O;have hk:QD g a=k:=by unfold QD;rw[H];rfl
     rw[hk,h6,La,eD];simp[JY,C]
   .refine Qgr b8 λj=>?_;rw[o,x5 (GJ (key:=λn:Nd=>(n.c,n.q)) (λ_=>rfl)) U s j,L]
   .rw[o];refine QgF U ?_;rw[w];exact b9
   .rw[o];refine ry U ?_;rw[w];exact c0
  .rw[Qe S];exact K ⟨λh=>absurd (X9.1 h) S,λh=>absurd h.2 S⟩
 .rw[Qe C];exact K (X9.trans ⟨λh=>⟨C,h⟩,(·.2)⟩)
def Wp(a:List Qt)(j:Int):Bool:=match Qz a j with
 | some c=>!c.leaf
 | none=>false
def QgS{d}(M:Qn)(j a:Int):(J1 d M j).KT a=if a=j/\Wp d j=true then [] else M.KT a:=by
 unfold J1 Wp;cases f:Qz d j with
 | none=>simp
 | some c=>
  dsimp only;by_cases b:c.leaf=true
  .rw[Qf b,Qe (λe=>by rw[b]at e;exact absurd e.2 π)]
  .rw[Qe b];dsimp only;by_cases e:a=j
   .rw[Qf e,Qf ⟨e,by simpa using b⟩]
   .rw[Qe e,Qe (λh=>e h.1)]
def rG{b}(a):∀(l:List Int) (M:Qn),a ∉ l->(l.foldl (J1 b) M).KT a=M.KT a
 | [],M,_=>rfl
 | j::l,M,h=>by
  rw[QE,YX]at h;rw[yg,rG a l _ h.2,QgS,Qe (λe=>h.1 e.1)]
def QwE{a}{M}(V:EL M)(j):EL (J1 a M j):=by
 refine⟨by rw[(Qf5 (T2:=a) M j).2.1];exact V.1,λp=>?_⟩;rw[QgS];split
 .simp[KP]
 .exact V.2 p
def QgT{a}:∀(l:List Int) {M:Qn},EL M->EL (l.foldl (J1 a) M)
 | [],M,h=>h
 | j::l,M,h=>QgT l (QwE h j)
def rH(c)(a:Int):∀(l:List Int) (A:List Int),a∈l.foldl (vv c) A↔a∈A\/(a∈l/\1<Q4 ((Qz c a).getD default).ls)
 | [],A=>σ
 | j::l,A=>by
  rw[yg,rH c a l];unfold vv;constructor
  .rintro (h|⟨h,b⟩)
   .split at h
    .rename_i d;rcases QE.1 h with rfl|h
     .exact .inr ⟨K8,d⟩
     .exact .inl h
    .exact .inl h
   .exact .inr ⟨Km _ h,b⟩
  .rintro (h|⟨h,b⟩)
   .refine .inl ?_;split
    .exact Km _ h
    .exact h
   .rcases QE.1 h with rfl|h
    .refine .inl ?_;rw[Qf b];exact K8
    .exact .inr ⟨h,b⟩
def CS{M:Qn}(I:Qx M){b}:b∈Vt M↔∃n,Qj M.N b=some n/\n.c.leaf=true/\n.q.l≠[]:=by
 constructor
 .intro h;obtain⟨c,a⟩:=JO.1 (show b∈(j9 M.T).filter _ from h);obtain⟨n,g,m,o⟩:=dX I c;refine⟨n,g,m,λe=>?_⟩;unfold EK QD at a;rw[g]at a;simp[e]at a
 .rintro⟨n,f,j,i⟩;have k:=I.some f;obtain⟨c,a⟩:=(WC I.tree.rising).1 k;refine JO.2 ⟨Jm.2 ⟨n.c,JO.2 ⟨c,j⟩,a⟩,?_⟩;unfold EK QD;rw[f];cases d:n.q.l with
  | nil=>exact absurd d i
  | cons x l=>simp[d]
section
variable {M:Qn}(I:Qx M)(V:Inv M){T2:List Qt}(I2:Ve T2)(K2:wQ T2){b:Bool}(hb:kb M T2 b=false)
include I V I2 K2 hb
theorem Inv.Su:Qx (YL M T2):=X.Su I I2 K2 hb (Good.Al I V.N3) (Good.NV I V.N3)
omit I V I2 K2 in
theorem N7{a}(d:Ai M a=true):a ∉ J6 M.T T2:=λc=>by
 unfold kb at hb;rw[show (J6 M.T T2).any (Ai M)=true from EY.2 ⟨a,c,d⟩]at hb;cases hb
omit V K2 in
theorem eF{a}(c:Ai M a=true):Qj (YK M T2) a=Qj M.N a:=by
 rw[IW I I2];unfold VC;rw[Gz I2.rising,Qe (N7 hb c)]
omit I V I2 K2 hb in
theorem N8{a x}(d:a∈Vt M)(c:x∈up M.T a):Ai M x=true:=EY.2 ⟨a,d,by simpa using c⟩
omit V K2 in
theorem QwF{a}(m:a∈Vt M):∀(k:Nat) (x:Int),(up M.T x).length=k->(x=0\/x∈up M.T a)->up T2 x=up M.T x:=by
 intro k;induction k using Nat.strongRecOn with
 | ind k h=>
  intro x i hx;rcases hx with rfl|hx
  .rw[HZ I2,HZ I.tree]
  .obtain⟨c,f⟩:=Dj.1 (F3 hx);have l:Qz T2 x=some c:=by
    refine xg λe=>?_;exact N7 hb (N8 m hx) (Gn.2 (by rw[f];exact λn=>e n.symm))
   rw[Vl I2 l,Vl I.tree f];rw[Vl I.tree f,VK]at i;congr 1;refine h _ ω c.parent rfl ?_;by_cases g:c.parent=0
   .exact .inl g
   .obtain⟨d,j,_⟩:=I.tree.Y8 c (xH I.tree f) g;refine .inr (up_sub I.tree hx ?_);rw[Vl I.tree f];exact Km _ (XA I.tree j)
omit V K2 in
theorem QgU{a}(c:a∈Vt M):up T2 a=up M.T a:=by
 obtain⟨n,d,_⟩:=(CS I).1 c;exact QwF I I2 hb c _ a rfl (.inr (XA I.tree (I.some d)))
theorem QwG{d}:d∈Vt (YL M T2)↔d∈Vt M:=by
 have i:=V.Su I I2 K2 hb;rw[CS i];constructor
 .rintro⟨n,f,g,e⟩;have a:Qj (YK M T2) d=some n:=f;rw[IW I I2]at a;unfold VC at a;rw[Gz I2.rising]at a;split at a
  .obtain⟨c,_,rfl⟩:=Xq.1 a;exact absurd rfl e
  .exact(CS I).2 ⟨n,a,g,e⟩
 .intro h;obtain⟨n,f,g,e⟩:=(CS I).1 h;refine⟨n,?_,g,e⟩;show Qj (YK M T2) d=some n;rw[eF I I2 hb (N8 h (XA I.tree (I.some f)))];exact f
theorem rI{a}:a∈(wW M T2).A↔a∈M.A:=by
 show a∈(Vt (YL M T2)).foldl (vv T2) []↔_;rw[rH,QwG I V I2 K2 hb,V.act a];constructor
 .rintro (h|⟨d,l⟩)
  .cases h
  .obtain⟨n,c,j,i⟩:=(CS I).1 d;refine⟨n,c,j,i,?_⟩;have f:a ∉ J6 M.T T2:=N7 hb (N8 d (XA I.tree (I.some c)));have g:Qz T2 a=Qz M.T a:=xg λe=>f (Gn.2 λk=>e k.symm);rw[g,I.some c]at l;exact l
 .rintro⟨n,c,j,i,g⟩;have d:a∈Vt M:=(CS I).2 ⟨n,c,j,i⟩;refine .inr ⟨d,?_⟩;have f:a ∉ J6 M.T T2:=N7 hb (N8 d (XA I.tree (I.some c)));have m:Qz T2 a=Qz M.T a:=xg λe=>f (Gn.2 λk=>e k.symm);rw[m,I.some c];exact g
theorem rJ(f):Jq (wW M T2) f=Jq M f:=by
 have h:(wW M T2).T=T2:=(GA (T2:=T2) (J6 M.T T2) { M with T:=T2 }).1;rw[vE];unfold Jq;rw[h,qd,qd];have g:∀a∈M.A,a∈Vt M:=λa c=>by
  obtain⟨n,k,j,i,_⟩:=(V.act a).1 c;exact(CS I).2 ⟨n,k,j,i⟩
 constructor
 .rintro⟨a,c,d⟩;have e:=(rI I V I2 K2 hb).1 c;exact⟨a,e,by rw[<- QgU I I2 hb (g a e)];exact d⟩
 .rintro⟨a,c,d⟩;exact⟨a,(rI I V I2 K2 hb).2 c,by rw[QgU I I2 hb (g a c)];exact d⟩
theorem Inv.change:Inv (wW M T2):=by
 obtain⟨f1,f2,f3,f4,f5⟩:=GA (T2:=T2) (J6 M.T T2) { M with T:=T2 };have E:(wW M T2).Lv=M.Lv:=f2;have F:(0:Int) ∉ J6 M.T T2:=λh=>Gn.1 h (by rw[Ea I.tree,Ea I2]);have r:∀{id:Int} {n:Nd},Qj M.N id=some n->n.c.leaf=true->n.q.l≠[]->Qj (wW M T2).N id=some n:=λ{id n} g f e=>by
  show Qj (YK M T2) id=some n;rw[eF I I2 hb (N8 ((CS I).2 ⟨n,g,f,e⟩) (XA I.tree (I.some g)))];exact g
 have t:∀{id:Int} {n:Nd},Qj (wW M T2).N id=some n->n.q.l≠[]->Qj M.N id=some n:=λ{id n} g e=>by
  have i:Qj (YK M T2) id=some n:=g;rw[IW I I2]at i;unfold VC at i;rw[Gz I2.rising]at i;split at i
  .obtain⟨c,_,rfl⟩:=Xq.1 i;exact absurd rfl e
  .exact i
 have m:∀{id:Int},Jq M id=true->Ai M id=true:=λ{id} h=>by
  obtain⟨a,C,w⟩:=qd.1 h;obtain⟨n,g,f,e,_⟩:=(V.act a).1 C;exact N8 ((CS I).2 ⟨n,g,f,e⟩) w
 have l:∀{id:Int},id ∉ J6 M.T T2->(wW M T2).KT id=M.KT id:=λ{id} h=>rG id (J6 M.T T2) { M with T:=T2 } h;have s:∀{id:Int} {n:Nd},Jq M id=true->V8 (wW M T2) id n=V8 M id n:=λ{id n} h=>rf rfl (rJ I V I2 K2 hb id) (l (N7 hb (m h)));have v:∀p x,qt (wW M T2) p x↔qt M p x:=λp x=>by
  constructor
  .rintro⟨n,g,f,e,j⟩;rw[rJ I V I2 K2 hb]at e;have k:Qj M.N x.ki=some n:=by
    have:Qj (YK M T2) x.ki=some n:=g;rwa [eF I I2 hb (m e)]at this
   exact⟨n,k,f,e,by rw[<- s e];exact j⟩
  .rintro⟨n,g,f,e,j⟩;refine⟨n,?_,f,by rw[rJ I V I2 K2 hb];exact e,by rw[s e];exact j⟩;show Qj (YK M T2) x.ki=some n;rw[eF I I2 hb (m e)];exact g
 have u:∀{p:Int} {x:It},qt M p x->p ∉ J6 M.T T2:=λ{p x} ⟨n,g,f,e,_⟩=>by
  by_cases o:p=0
  .rw[o];exact F
  .refine N7 hb (m (H0 I.tree e ?_));have q:=I.some g;obtain⟨d,z,_⟩:=I.tree.Y8 n.c (xH I.tree q) (by rw[f];exact o);rw[Vl I.tree q,<- f];exact Km _ (XA I.tree z)
 refine⟨λx=>?_,λp x=>?_,λid=>?_,λid n h y=>?_,QgT _ V.qu,λid n h=>?_⟩
 .rw[E,V.lv x];constructor
  .rintro⟨n,g,f,e,j,k⟩;exact⟨n,r g f e,f,e,j,k⟩
  .rintro⟨n,g,f,e,j,k⟩;exact⟨n,t g e,f,e,j,k⟩
 .rw[v];constructor
  .intro h;have f:x∈M.KT p:=eh p (J6 M.T T2) { M with T:=T2 } h;exact(V.kt p x).1 f
  .intro h;rw[l (u h)];exact(V.kt p x).2 h
 .rw[rI I V I2 K2 hb,V.act id];constructor
  .rintro⟨n,g,f,e,j⟩;exact⟨n,r g f e,f,e,j⟩
  .rintro⟨n,g,f,e,j⟩;exact⟨n,t g e,f,e,j⟩
 .have i:Qj (YK M T2) id=some n:=h;rw[IW I I2]at i;unfold VC at i;rw[Gz I2.rising]at i;split at i
  .obtain⟨c,_,rfl⟩:=Xq.1 i;rfl
  .exact V.Am id n i y
 .have i:Qj (YK M T2) id=some n:=h;rw[IW I I2]at i;unfold VC at i;rw[Gz I2.rising]at i;split at i
  .obtain⟨c,B,rfl⟩:=Xq.1 i;exact Qf3 (K2 c (xH I2 B))
  .exact V.ok id n i
end
def wU.uniq{M}{d}{o e}(a:wU M d o)(b:wU M d e):o=e:=by
 unfold wU at a b;cases o with
 | none=>
  cases e with
  | none=>rfl
  | some y=>
   have f:_=[]:=a;have c:=Vz.mem b;rw[f]at c;cases c
 | some x=>
  cases e with
  | none=>
   have f:_=[]:=b;have c:=Vz.mem a;rw[f]at c;cases c
  | some y=>exact congrArg some (Vz.uniq a b)
def wU.QwH{M:Qn}{a}{o:Option It}(h:wU M a o)(d:a<=4611686018427387904):o.isSome=true↔∃x∈M.Lv,x.ka<=a:=by
 have e:min a 9223372036854775807=a:=ω;unfold wU at h;rw[e]at h;cases o with
 | none=>
  have c:M.Lv.filter (λx=>decide (x.ka<=a))=[]:=h;constructor
  .intro h;cases h
  .rintro⟨x,hx,b⟩;have:x∈M.Lv.filter (λx=>decide (x.ka<=a)):=JO.2 ⟨hx,by simpa using b⟩;rw[c]at this;cases this
 | some x=>
  refine⟨λ_=>?_,λ_=>rfl⟩;obtain⟨c,b⟩:=JO.1 (Vz.mem h);exact⟨x,c,by simpa using b⟩
def QwI{L}(b:KP L){a}(e:a<=4611686018427387904):SA L<=a↔∃x∈L,x.ka<=a:=by
 unfold SA;cases L with
 | nil=>simp[never];omega
 | cons y L=>
  simp only[List.head?_cons];have d:never=9223372036854775808:=rfl;constructor
  .intro h;exact⟨y,K8,ω⟩
  .rintro⟨x,hx,h⟩;have f:y.ka<=x.ka:=by
    rcases QE.1 hx with rfl|hx
    .exact QB _
    .have c:y.lt x:=(yi.1 b).1 x hx;unfold It.lt J5 at c;omega
   omega
def QgW{L}{a}(e:a<=4611686018427387904):yU L<=a↔∃x∈L,x.va<=a:=by
 obtain⟨f,c,b⟩:=mX L never;have d:never=9223372036854775808:=rfl;unfold yU;constructor
 .intro h;rcases b with b|⟨x,hx,b⟩
  .omega
  .exact⟨x,hx,ω⟩
 .rintro⟨x,hx,h⟩;have:=c x hx;omega
def QgX{M:Qn}{a}(b:a<=4611686018427387904){p:Int}:(firstM M a p).isSome=true↔∃x∈M.KT p,x.va<=a:=by
 unfold firstM;rw[List.find?_isSome];have e:min a 9223372036854775807=a:=ω;simp[e]
def QwK(T)(a:Int):(up T a).length<=16:=Bc
def QgY{M:Qn}(I:Qx M)(V:Inv M){a}(b:a<=4611686018427387904):∀(k:Nat) (p:Int),17<=k+(up M.T p).length->(∃x∈M.KT p,x.va<=a)->(Ac M a k p).isSome=true
 | 0,p,i,_=>by
  have:=QwK M.T p;omega
 | k+1,p,i,h=>by
  have g:=(QgX b).2 h;unfold Ac;cases d:firstM M a p with
  | none=>rw[d]at g;cases g
  | some x=>
   dsimp only;have hx:x∈M.KT p:=xj d;have r:x.va<=a:=by
    have:=xi d;simp only[XZ]at this;omega
   obtain⟨n,f,o,m,l⟩:=(V.kt p x).1 hx;have q:QD M x.ki=n:=by unfold QD;rw[f];rfl
   rw[q];by_cases c:n.c.leaf=true
   .rw[Qf c];rfl
   .rw[Qe c];have e:x.va=V8 M x.ki n:=congrArg It.va l;unfold V8 at e;rw[Qe (by rw[m];simp[c])]at e;have j:yU (M.KT x.ki)<=a:=ω;refine QgY I V b k x.ki ?_ ((QgW b).1 j);rw[Vl I.tree (I.some f),o,VK];omega
def QwL{M}(I:Qx M)(V:Inv M){a}(b:a<=4611686018427387904){o:Option It}(e:wU M a o):(Vb M a o).isSome=true↔K7 M<=a:=by
 have d:=e.QwH b;have j:=QwI V.qu.1 b;have i:=QgW (L:=M.KT 0) b;have g:K7 M<=a↔SA M.Lv<=a\/yU (M.KT 0)<=a:=by unfold K7;omega
 rw[g,j,i];cases o with
 | some x=>simp only[Vb,kx,true_iff];exact .inl (d.1 rfl)
 | none=>
  have f:¬ ∃x∈M.Lv,x.ka<=a:=λh=>by cases d.2 h
  simp only[Vb,Option.isSome_map];constructor
  .intro h;refine .inr ?_;unfold Ac at h;cases c:firstM M a 0 with
   | none=>rw[c]at h;cases h
   | some x=>exact(QgX b).1 (by rw[c];rfl)
  .rintro (h|h)
   .exact absurd h f
   .exact QgY I V b 17 0 (by rw[HZ I.tree];simp) h
def SG(c:Cf):Bool:=decide (1<=c.t)&&decide (c.t<=65536)&&decide (1<=c.JU)&&decide (c.JU<=16384)
def QwM(c:Cf):Q6 prog 8 [.agg c.cells] (Zm (QT (SG c))):=by
 unfold SG;refine Zs 0 func8 ntmps8 results8 λa w g=>?_;simp only[go_sem];all_goals (cases f:decide (1<=c.t)<;>cases e:decide (c.t<=65536)<;>cases d:decide (1<=c.JU)<;>cases b:decide (c.JU<=16384)<;>simp only[go_sem,f,e,d,b])
def SH:List It->Option It
 | []=>none
 | x::l=>match SH l with
  | none=>some x
  | some y=>some (zY x y)
def QgZ:∀L:List It,xJ (SH L) L
 | []=>rfl
 | x::l=>by
  have h:=QgZ l;unfold SH;cases a:SH l with
  | none=>
   rw[a]at h;have b:l=[]:=h;subst b;exact Vz.one x
  | some y=>
   rw[a]at h;exact Vz.join (Vz.one x) h
def Qg0(M:Qn)(a:Nat):Option It:=SH (M.Lv.filter λx=>decide (x.ka<=min a 9223372036854775807))
def SI(M)(a):wU M a (Qg0 M a):=QgZ _
def jo(M:Qn)(a:Nat):Option (Int × Bool):=if vp M a=true then Vb (ZF M a) a (Qg0 (ZF M a) a) else none
def takeN(M:Qn)(a:Nat):Qn:=match jo M a with
 | none=>ZF M a
 | some x=>XH (ZF M a) x.1 x.2
def vz(M:Qn)(a:Nat):Int:=match jo M a with
 | none=>0
 | some x=>x.1
def qU(M:Qn)(a:Nat):Pk:=match jo M a with
 | none=>default
 | some x=>(QD M x.1).q.l.headD default
def GK(M:Qn)(a:Nat):Bool:=match jo M a with
 | none=>false
 | some x=>x.2
def qv(M:Qn)(a:Nat):Bool:=(jo M a).isSome
def QwN{M c}{a}{d}(h:Sj M a d c):c=takeN M a/\d=.tup [.agg (qq (vz M a) (qU M a) (GK M a)),QT (qv M a)]:=by
 rcases h with ⟨f,rfl,rfl⟩|⟨f,o,i,b⟩
 .have e:jo c a=none:=by unfold jo;rw[Qe (by rw[f];exact vF)]
  have j:ZF c a=c:=by unfold ZF;rw[Qe (by rw[f];exact vF)]
  unfold takeN vz qU GK qv;rw[e];exact⟨j.symm,rfl⟩
 .have e:jo M a=Vb (ZF M a) a o:=by unfold jo;rw[Qf f,(SI (ZF M a) a).uniq i]
  unfold takeN vz qU GK qv;rw[e];cases g:Vb (ZF M a) a o with
  | none=>
   rw[g]at b;exact⟨b.2,b.1⟩
  | some x=>
   rw[g]at b;exact⟨b.2,b.1⟩
structure zC (own:Nat->Tag) (h:List Ob) (p:Nat) (M:Qn):Prop where
 ex:∃L,Zv own h p L M
 I:Qx M
 V:Inv M
 K:zA M.lk
def zC.step{a own'}{h h':List Ob}{p}{M}(C:zC a h p M)(e:∀l,l<h.length->Live (a l)->own' l=a l/\h'[l]? = h[l]?):zC own' h' p M:=
 ⟨C.ex.imp λ_ c=>c.step e,C.I,C.V,C.K⟩
def zC.NC{a}{h}{p}{M}(C:zC a h p M)(g):zC (QV a h .no) (h++g) p M:=C.step λl b _=>⟨Ku b,QG b⟩
def Qg1(l:List Int)(M:Qn):(VI M l).lk=M.lk:=(II l M).2.2.2.2.2.2.2.2
def QwO(M:Qn)(a:Int):(Xp M a).lk=M.lk:=by
 unfold Xp;split
 .exact(Gt _ _).2.2.1
 .rfl
def QwP(M:Qn)(a)(r:Bool):(XH M a r).lk=M.lk:=by
 unfold XH;dsimp only;rw[Qg1];have b:(VU ((up M.T a).foldl (VB ((QD M a).q.l.headD default).len.toNat) (W9 M a)) a ((QD M a).q.l.headD default).len r).lk=M.lk:=by
  rw[(NR _ _ _ _).2.2.2.1,(IQ _ _ _).2.2.2.1];rfl
 split
 .rw[QwO,b]
 .exact b
def QwQ(M:Qn)(b)(c)(a:Int):(zx M b c a).lk=M.lk:=by
 unfold zx;split
 .rw[Qg1,(IL _ _ _).2.2.2.1];exact RZ.2.2.2
 .exact RZ.2.2.2
def eG(M:Qn)(a:Nat):(ZF M a).lk=M.lk:=(QfT M a).1
def QwR(M:Qn)(a)(b)(x:Pk):(Vs M a b x).lk=M.lk:=by
 unfold Vs;split
 .rfl
 .split
  .split
   .rw[QwQ];rfl
   .rfl
  .rfl
def N9(M:Qn)(a)(b)(x:Pk):(KU M a b x).lk=M.lk:=by
 unfold KU;split
 .rw[QwR,eG]
 .rfl
def Qg2(M:Qn)(a:Nat):(takeN M a).lk=M.lk:=by
 unfold takeN;split
 .exact eG M a
 .rw[QwP,eG]
def SJ(M:Qn)(b)(l:List Jr):(KL M b l).lk=M.lk:=by
 unfold KL;split
 .exact(GA _ _).2.2.1
 .rfl
def QwS{M:Qn}{a}(h:vp M a=true):M.Qi<=a/\a<=4611686018427387904:=by
 unfold vp at h;simp only[qZ,EX,OQ]at h;omega
def Inv.pick{M:Qn}(I:Qx M)(V:Inv M){a}{o}(d:wU M a o){b}{r}(c:Vb M a o=some (b,r)):∃n,Qj M.N b=some n/\n.c.leaf=true/\n.q.l≠[]/\(1<Q4 n.c.ls->b∈M.A):=Good.pe I V.N3 a o b r d c
def Inv.takeN{M}(I:Qx M)(V:Inv M)(a):Inv (takeN M a):=by
 unfold X.takeN;cases b:jo M a with
 | none=>exact V.told a
 | some x=>
  unfold jo at b;split at b
  .obtain⟨n,e,d,c,_⟩:=(V.told a).pick (Ae I a) (SI _ _) b;exact(V.told a).take (Ae I a) e d c x.2
  .cases b
def Inv.KL{M}(I:Qx M)(V:Inv M)(b)(l)(e:∀c∈l,Jr.Ok c):Inv (KL M b l):=by
 unfold X.KL;split
 .rename_i h;have f:kb M (KS M.T l) b=false:=by
   unfold zB at h;split at h
   .rename_i d;exact absurd h d
   .split at h
    .cases h
    .rename_i a;simpa using a
  obtain⟨d,a⟩:=cZ I.tree I.y8 e;exact V.change I d a f
 .exact V
def QwT{c}:SG c=true↔zA c:=by
 unfold SG;simp only[ZH,XZ];exact⟨λh=>⟨h.1.1.1,h.1.1.2,h.1.2,h.2⟩,λh=>⟨⟨⟨h.t1,h.t2⟩,h.l1⟩,h.l2⟩⟩
section
variable {own:Nat->Tag}{h:List Ob}{p:Nat}{M:Qn}(C:zC own h p M)
include C
theorem QwU(b)(g:b<18446744073709551616)(e)(x):
  QI prog 68 h [.ptr p 0 0 0,u64 b,Qb e,.agg x.cells] (λd f=>d=Qb (j7 M b e x)/\∃a,zC a f p (KU M b e x)/\Zt own h a f):=by
 obtain⟨L,c⟩:=C.ex;refine QI.mono (QuN c C.I C.K b g e x (Good.hA C.I C.V.N3 e)) ?_;rintro d f ⟨a,l,j,k,D,i,rfl⟩;exact⟨i,a,⟨⟨L,j⟩,k,C.V.KU C.I b g e x,by rw[N9];exact C.K⟩,D⟩
theorem QwV(a):
  QI prog 105 h [.ptr p 0 0 0,u64 a] (λd e=>d=.tup [.agg (qq (vz M a) (qU M a) (GK M a)),QT (qv M a)]/\∃b,zC b e p (takeN M a)/\Zt own h b e):=by
 obtain⟨L,c⟩:=C.ex;refine QI.mono (Qux c C.I a λo id r g f=>?_) ?_
 .obtain⟨n,q,m,l,k⟩:=(C.V.told a).pick (Ae C.I a) g f;exact⟨n,by rw[<- (Gw M a).1];exact q,m,l,by rw[<- (Gw M a).2.2];exact k⟩
 .rintro d e ⟨b,u,s,t,D,j⟩;obtain⟨rfl,i⟩:=QwN j;exact⟨i,b,⟨⟨L,s⟩,t,C.V.takeN C.I a,by rw[Qg2];exact C.K⟩,D⟩
theorem QwW(b)(l:List Jr)(f:∀c∈l,Jr.Ok c)(g:l.length<1000000):
  QI prog 35 h [.ptr p 0 0 0,QT b,RU l] (λd e=>d=.tup [Qb (Aj M l),Qb (zB M b l)]/\∃a,zC a e p (KL M b l)/\Zt own h a e):=by
 obtain⟨L,c⟩:=C.ex;refine QI.mono (QvH c C.I C.K b l f g (Good.Al C.I C.V.N3) (Good.NV C.I C.V.N3)) ?_;rintro d e ⟨a,k,n,j,m,D,i,rfl⟩;exact⟨i,a,⟨⟨k,j⟩,m,C.V.KL C.I b l f,by rw[SJ];exact C.K⟩,D⟩
end
def QwX(b)(h){c}(K:zA c):
  QI prog 48 h [.agg c.cells] (λd e=>∃a p,d=.tup [.ptr p 0 0 0,Qb 0]/\zC a e p (M0 c)/\Zt b h a e):=by
 refine QI.mono (QuY (own:=b) c) ?_;rintro d e (⟨_,a,L,p,g,i,j,D⟩|⟨f,_⟩)
 .exact⟨a,p,g,⟨⟨L,i⟩,j,Qgq c,K⟩,D⟩
 .exact absurd K f
end Go.Fg.X
namespace Go.Fg
open Go.RowKit (Below)
def QF.Qg3{l}{f}{h}(t c)(s:get f t=.nil):
  QF l ⟨f,h⟩ ⟨put f t (.ref h.length 0 0 0),h++[(⟨.arr,0,c,0,λ_=>[]⟩:Ob)]⟩:=by
 intro Z z i o d a w r b;have g:d.length=h.length:=r.o.len;have x:=r.o.BH ⟨.arr,0,c,0,λ_=>[]⟩ rfl;have k:Tr h d w (h++[(⟨.arr,0,c,0,λ_=>[]⟩:Ob)]) (d++[none]) w:=Tr.push r.o (λ_ _=>rfl) _ _ (by intro b q e;simp at e);have m:(h++[(⟨.arr,0,c,0,λ_=>[]⟩:Ob)])[h.length]? = some ⟨.arr,0,c,0,λ_=>[]⟩:=σ;have j:=r.fr t;rw[show get (St.fr ⟨f,h⟩) t=.nil from s]at j;obtain⟨v,p⟩:=BK j;have n:Rel Z i o ⟨f,h++[⟨.arr,0,c,0,λ_=>[]⟩]⟩ (d++[none]) a w:=⟨r.nt,r.defers,λu=>(r.fr u).tr k,x⟩;refine⟨d++[none],n.tell (t:=t) ?_,b.step k (Below.refl _ _)⟩;rw[p];refine .ref _ _ _ _ ⟨.arr,0,c,0,λ_=>[]⟩ none v 0 m ?_ rfl (QB _) (λ_=>.inl ⟨rfl,rfl⟩);rw[<- g];simp
end Go.Fg
namespace Go.Fg.X
open Go.Proofs Go.Fg
open Go.Proofs.Tryz
def Z8(M:Qn)(a:Int):List Pk:=(QD M a).q.l
def BB(n:Nd):List Pk:=n.q.l
def SK{M c:Qn}{a:Int}(h:(Qj c.N a).map BB=(Qj M.N a).map BB):Z8 c a=Z8 M a:=by
 unfold Z8 QD;cases b:Qj M.N a with
 | none=>
  rw[b,YW,fu]at h;rw[h]
 | some n=>
  rw[b]at h;obtain⟨m,e,d⟩:=Xq.1 h;rw[e];exact d
def QwY(M:Qn)(b)(c)(a:Int)(j:Int):(Qj (zx M b c a).N j).map BB=(Qj M.N j).map BB:=by
 have d:(Qj (Wu M b c a).N j).map BB=(Qj M.N j).map BB:=by
  rw[rn];split
  .cases Qj M.N j<;>rfl
  .rfl
 unfold zx;split
 .rw[(II _ _).1,x5 (key:=BB) (λM j c=>Qgt b (λ_ _=>rfl) M j c)];exact d
 .exact d
def QwZ{M}(g)(a)(x)(b):Z8 (Vs M g a x) b=if Vm M a x=0/\a=b then Z8 M b++[x] else Z8 M b:=by
 have push:∀j,j≠a->Z8 (Vr M a x) j=Z8 M j:=λj o=>SK (by rw[GI,Qe o]);cases d:Qj M.N a with
 | none=>
  have e:Vm M a x=23:=by unfold Vm;rw[d]
  unfold Vs;rw[e,Qe π,Qe π,Qe (λh=>absurd h.1 π)]
 | some n=>
  have m:QD M a=n:=by unfold QD;rw[d];rfl
  have i:Z8 (Vr M a x) a=(Xm n.c.Zz n.c.bytes n.q x).l:=by
   unfold Z8 QD;rw[GI,Qf rfl,d,m];rfl
  have l:Z8 M a=n.q.l:=by unfold Z8;rw[m]
  by_cases c:Vm M a x=30
  .obtain⟨_,k⟩:=rq d c;unfold Vs;rw[Qf c,Qe (λh=>by rw[c]at h;exact absurd h.1 π)];by_cases e:b=a
   .rw[e,i,l];unfold Xm;rw[Qf k]
   .exact push b e
  .by_cases f:Vm M a x=0
   .obtain⟨_,k,_⟩:=ru d f;have p:Z8 (Vs M g a x) b=Z8 (Vr M a x) b:=by
     unfold Vs;rw[Qe c,Qf f];split
     .exact SK (QwY _ _ _ _ _)
     .rfl
    rw[p];by_cases e:b=a
    .rw[Qf ⟨f,e.symm⟩,e,i,l,Qgs k]
    .rw[Qe (λh=>e h.2.symm)];exact push b e
   .unfold Vs;rw[Qe c,Qe f,Qe (λh=>f h.1)]
def rL(M)(a:Nat)(b):Z8 (ZF M a) b=Z8 M b:=SK (by rw[(Gw M a).1])
def Qw0(M)(c)(b)(x)(a):Z8 (KU M c b x) a=if j7 M c b x=0/\b=a then Z8 M a++[x] else Z8 M a:=by
 unfold KU j7;split
 .rw[QwZ,rL]
 .rw[Qe (λh=>absurd h.1 π)]
def Qw1(M)(a)(r)(j:Int):Z8 (XH M a r) j=if j=a then (Z8 M j).tail else Z8 M j:=by
 have h:Z8 (XH M a r) j=Z8 (W9 M a) j:=by
  refine SK ?_;unfold XH;dsimp only;rw[(II _ _).1];have b:(Qj (VU ((up M.T a).foldl (VB ((QD M a).q.l.headD default).len.toNat) (W9 M a)) a ((QD M a).q.l.headD default).len r).N j).map BB=(Qj (W9 M a).N j).map BB:=by
   rw[QgH];have g:=x5 (key:=BB) (step:=VB ((QD M a).q.l.headD default).len.toNat) (λi j c=>QgG _ (λ_=>rfl) i j c) (up M.T a) (W9 M a) j;rw[<- g];split
   .cases Qj ((up M.T a).foldl (VB ((QD M a).q.l.headD default).len.toNat) (W9 M a)).N j<;>rfl
   .rfl
  split
  .unfold Xp;split
   .rw[x5 (key:=BB) (GJ (λ_=>rfl))];exact b
   .exact b
  .exact b
 rw[h];have d:Qj (W9 M a).N j=if j=a then (Qj M.N j).map (λn=>{ n with q:=WV (QD M a).q }) else Qj M.N j:=
  jk (f:=λn:Nd=>{ n with q:=WV (QD M a).q }) (λ_=>rfl) j
 by_cases e:j=a
 .rw[Qf e];unfold Z8 QD;rw[d,Qf e,e];unfold QD;cases k:Qj M.N a<;>rfl
 .rw[Qe e];exact SK (by rw[d,Qe e])
def rM(M)(a)(j:Int):Z8 (takeN M a) j=if qv M a=true/\vz M a=j then (Z8 M j).tail else Z8 M j:=by
 unfold takeN qv vz;cases b:jo M a with
 | none=>rw[Qe (λh=>by cases h.1)];exact rL M a j
 | some x=>
  dsimp only;rw[Qw1,rL];by_cases e:j=x.1
  .rw[Qf e,Qf ⟨rfl,e.symm⟩]
  .rw[Qe e,Qe (λh=>e h.2.symm)]
def Qg4{M}(I:Qx M)(V:Inv M){a}(h:qv M a=true):∃x l,Z8 M (vz M a)=x::l/\qU M a=x:=by
 unfold qv at h;obtain⟨y,b⟩:=Dj.1 h;have g:vz M a=y.1:=by unfold vz;rw[b]
 have f:qU M a=(Z8 M y.1).headD default:=by unfold qU;rw[b];rfl
 unfold jo at b;split at b
 .obtain⟨n,e,j,i,_⟩:=(V.told a).pick (Ae I a) (SI _ _) b;rw[(Gw M a).1]at e;have d:Z8 M y.1=n.q.l:=by unfold Z8 QD;rw[e];rfl
  cases c:n.q.l with
  | nil=>exact absurd c i
  | cons x l=>exact⟨x,l,by rw[g,d,c],by rw[f,d,c];rfl⟩
 .cases b
end Go.Fg.X
namespace Go.Fg.X
open Go.Proofs Go.Fg
open Go.Proofs.Tryz
def c6:Cf:=⟨1,100⟩
def Qg5(a m:Int):Jr:=⟨1,⟨a,0,true,⟨0,0,0⟩,⟨m,0,m⟩,⟨0,0,0⟩,3,300⟩⟩
def Qg6(L:List Int)(M:Qn)(a:List Qt):Qn:=
 let D:=L.foldl (J1 a) { M with T:=a };let b:Qn:={ D with N:=a.map λc=>QD D c.iD,To:=a,A:=[] }
 { b with A:=(Vt b).foldl (vv a) [] }
theorem Qw3(M:Qn)(a):wW M a=Qg6 (J6 M.T a) M a:=rfl
end Go.Fg.X
namespace Go.Fg.X
open Go.Proofs Go.Fg
open Go.Proofs.Tryz
def Qw4(M:Qn)(l:List Int):Nat:=(l.map λj=>(QD M j).Ja).sum
structure QDM (M:Qn):Prop where
 leaf:∀id n,Qj M.N id=some n->n.c.leaf=true->n.Ja=n.q.bo
 inner:∀id n,Qj M.N id=some n->n.c.leaf=false->n.Ja=WU (Qw4 M (WD M.T id))
def QDN(n:Nd):Qt × Nat × Nat:=(n.c,n.Ja,n.q.bo)
def Qw5(M:Qn)(a)(r:Bool):(XH M a r).T=M.T:=by
 unfold XH;dsimp only;rw[(II _ _).2.1];have b:(VU ((up M.T a).foldl (VB ((QD M a).q.l.headD default).len.toNat) (W9 M a)) a ((QD M a).q.l.headD default).len r).T=M.T:=by
  rw[(NR _ _ _ _).1,(IQ _ _ _).1];rfl
 split
 .unfold Xp;split
  .rw[(Gt _ _).1];exact b
  .exact b
 .exact b
def Qx.up{M:Qn}(I:Qx M){id j}(h:j∈X.up M.T id):∃n,Qj M.N j=Option.some n:=by
 obtain⟨c,a⟩:=Dj.1 (F3 h);obtain⟨n,b,_⟩:=I.ND a;exact⟨n,b⟩
def Qx.QaL:∀(l:List Int) {M:Qn},Qx M->Vu M->(∀j∈l,∃n,Qj M.N j=Option.some n)->Qx (VI M l)
 | [],M,I,_,_=>I
 | id::l,M,I,V,h=>by
  obtain⟨n,b⟩:=h id K8;have a:=(NF M id).1;exact Qx.QaL l (oO I b (V id n b)) (by unfold Vu;rw[a];exact V) (by rw[a];exact λj c=>h j (Km _ c))
def Qw6{M:Qn}(V:Vu M){a}{n}(c:Qj M.N a=some n)(b)(r):Vu (VU M a b r):=by
 have d:QD M a=n:=by unfold QD;rw[c];rfl
 unfold VU;split
 .exact GH (f:=λm:Nd=>{ m with du:=qo (QD M a) b r }) (λ_=>rfl) (λm _ h=>⟨h.Ja,by rw[d];exact oT (V a n c) b r,h.sh,h.cp,h.c⟩) V
 .exact V
def Qw7{M}(V:Vu M)(a):Vu (Xp M a):=by
 unfold Xp;split
 .exact ry _ (M:={ M with A:=JY M.A a }) V
 .exact V
def Qx.XH{M:Qn}(I:Qx M)(V:Vu M){a}{n}(t:Qj M.N a=Option.some n)(r):Qx (XH M a r):=by
 unfold X.XH;dsimp only;generalize ((QD M a).q.l.headD default).len=b;obtain⟨c,d⟩:∃c,c=(X.up M.T a).foldl (X.VB b.toNat) (X.W9 M a):=⟨_,rfl⟩;rw[<- d];have p:Qx c:=by rw[d];exact Qx.dI _ (I.W9 a)
 obtain⟨k,_⟩:=IQ b.toNat (X.up M.T a) (X.W9 M a);rw[<- d]at k;have u:Vu c:=by
  rw[d];exact rA _ _ (GH (f:=λn:Nd=>{ n with q:=WV (QD M a).q }) (λ_=>rfl) (λn _ h=>⟨h.Ja,h.du,h.sh,h.cp,h.c⟩) V)
 have s:c.T=M.T:=k;obtain⟨w,l⟩:=p.up (id:=a) (j:=a) (by rw[s];exact XA I.tree (I.some t));have i:=p.VU l b r;have m:=Qw6 u l b r;have e:(X.VU c a b r).T=M.T:=(NR c a b r).1.trans s;split
 .have o:=i.Xp a;have v:(X.Xp (X.VU c a b r) a).T=M.T:=by
   unfold X.Xp;split
   .rw[(Gt _ _).1];exact e
   .exact e
  exact o.QaL _ (Qw7 m a) λj g=>o.up (id:=a) (by rw[v];exact g)
 .exact i.QaL _ m λj g=>i.up (id:=a) (by rw[e];exact g)
def Qw8{M:Qn}(V:Vu M){b}{n}(f:Qj M.N b=some n)(c)(l:c<18446744073709551616)(a):Vu (Wu M c b a):=λj k d=>by
 have i:QD M b=n:=by unfold QD;rw[f];rfl
 rw[rn,i]at d;split at d
 .obtain⟨g,h,rfl⟩:=Xq.1 d;have e:=V j g h;exact⟨e.Ja,nG (V b n f).du (V b n f).c.2.2.2.1.lt l a,e.sh,e.cp,e.c⟩
 .exact V j k d
def Qg7{a}(b:a<18446744073709551616):∀(l:List Int) (M:Qn),Qx M->Vu M->Vu (l.foldl (WX a) M)
 | [],M,_,V=>V
 | j::l,M,I,V=>Qg7 b l _ (I.WX a j) (GH (f:=Qaw M a) (λ_=>rfl) (λn _ c=>oW I b c) V)
def Qx.zx{M:Qn}(I:Qx M)(V:Vu M){d}{n:Nd}(e:Qj M.N d=Option.some n)(o:n.c.leaf=true)(c)(h:c<18446744073709551616)(b):Qx (zx M c d b):=by
 have q:QD M d=n:=by unfold QD;rw[e];rfl
 have l:=I.Wu e c b;have s:=Qw8 V e c h b;obtain⟨g,v,u,t⟩:=RZ (M:=M) (now:=c) (id:=d) (head:=b);unfold X.zx;rw[q];split
 .rename_i m;have k:Qx { X.Wu M c d b with A:=d::M.A }:=l.act λa f=>by
   rw[g];rcases QE.1 f with rfl|f
   .exact⟨n.c,I.some e,o,m⟩
   .exact I.Xo a f
  have i:=Qx.RY (now:=c) (W6 M.T M.A d) k;have r:=Qg7 h (W6 M.T M.A d) _ k s;obtain⟨t1,_⟩:=IL c (W6 M.T M.A d) { X.Wu M c d b with A:=d::M.A };exact i.QaL _ r λj p=>i.up (id:=d) (by rw[t1];show j∈X.up (X.Wu M c d b).T d;rw[g];exact p)
 .exact l
def Qx.Vs{M}(I:Qx M)(V:Vu M)(b)(k:b<18446744073709551616)(a)(x):Qx (Vs M b a x):=by
 unfold X.Vs;cases c:Qj M.N a with
 | none=>
  have e:Vm M a x=23:=by unfold Vm;rw[c]
  rw[e,Qe π,Qe π];exact I
 | some n=>
  have g:QD M a=n:=by unfold QD;rw[c];rfl
  by_cases f:Vm M a x=30
  .rw[Qf f];exact I.Vr a x
  .rw[Qe f];by_cases d:Vm M a x=0
   .rw[Qf d,g];obtain⟨j,o,m,l,i⟩:=ru c d;have h:=(I.Vr a x).vr i;split
    .refine h.zx (rk V a x) (n:={ n with q:=Xm n.c.Zz n.c.bytes n.q x }) ?_ j b k x.len;show Qj (X.Vr M a x).N a=_;rw[GI,Qf rfl,c,g];rfl
    .exact h
   .rw[Qe d];exact I
def Qx.KU{M}(I:Qx M)(V:Inv M)(a)(c:a<18446744073709551616)(b)(x):Qx (KU M a b x):=by
 unfold X.KU;split
 .exact(Ae I a).Vs (V.told a).ok a c b x
 .exact I
def Qx.takeN{M}(I:Qx M)(V:Inv M)(a):Qx (takeN M a):=by
 unfold X.takeN;cases b:jo M a with
 | none=>exact Ae I a
 | some x=>
  unfold jo at b;split at b
  .obtain⟨n,c,e,d,_⟩:=(V.told a).pick (Ae I a) (SI _ _) b;exact(Ae I a).XH (V.told a).ok c x.2
  .cases b
def Qx.KL{M}(I:Qx M)(V:Inv M)(b)(l)(k:∀c∈l,Jr.Ok c):Qx (KL M b l):=by
 unfold X.KL;split
 .rename_i h;have r:kb M (KS M.T l) b=false:=by
   unfold zB at h;split at h
   .rename_i f;exact absurd h f
   .split at h
    .cases h
    .rename_i e;simpa using e
  obtain⟨f,e⟩:=cZ I.tree I.y8 k;have i:=V.Su I f e r;have o:(YL M (KS M.T l)).T=KS M.T l:=(GA (T2:=KS M.T l) (J6 M.T (KS M.T l)) { M with T:=KS M.T l }).1;refine i.act λa m=>?_;rcases (rH (KS M.T l) a (Vt (YL M (KS M.T l))) []).1 m with d|⟨d,j⟩
  .cases d
  .obtain⟨n,q,p,s⟩:=(CS i).1 d;have g:=i.some q;refine⟨n.c,g,p,?_⟩;rw[o]at g;rw[g]at j;exact j
 .exact I
def Qg8(l:List Int)(M:Qn):(VI M l).Qi=M.Qi:=(II l M).2.2.2.2.2.2.1
def Qw9(M:Qn)(a:Int):(Xp M a).Qi=M.Qi:=by
 unfold Xp;split
 .exact(Gt _ _).2.2.2.1
 .rfl
def Qxa(M:Qn)(a)(r:Bool):(XH M a r).Qi=M.Qi:=by
 unfold XH;dsimp only;rw[Qg8];have b:(VU ((up M.T a).foldl (VB ((QD M a).q.l.headD default).len.toNat) (W9 M a)) a ((QD M a).q.l.headD default).len r).Qi=M.Qi:=by
  rw[(NR _ _ _ _).2.2.2.2.1,(IQ _ _ _).2.2.2.2.1];rfl
 split
 .rw[Qw9,b]
 .exact b
def Qg9(M:Qn)(b)(c)(a:Int):(Wu M b c a).Qi=M.Qi:=by
 unfold Wu;split<;>rfl
def Qxb(M:Qn)(b)(c)(a:Int):(zx M b c a).Qi=M.Qi:=by
 unfold zx;split
 .rw[Qg8,(IL _ _ _).2.2.2.2.1];exact Qg9 M b c a
 .exact Qg9 M b c a
def Qxc(M:Qn)(a)(b)(x:Pk):(Vs M a b x).Qi=M.Qi:=by
 unfold Vs;split
 .rfl
 .split
  .split
   .rw[Qxb];rfl
   .rfl
  .rfl
def rN(M:Qn)(a:Nat):(ZF M a).Qi=M.Qi\/((ZF M a).Qi=a/\a<=4611686018427387904):=by
 unfold ZF;split
 .rename_i h;exact .inr ⟨rfl,(QwS h).2⟩
 .exact .inl rfl
def Qha{M:Qn}(I:Qx M)(V:Inv M){now}(c:now<=4611686018427387904)(e:M.Qi<=now):qv M now=decide (K7 M<=now/\K7 M<9223372036854775808):=by
 have b:vp M now=true:=by
  unfold vp;simp only[qZ,EX,OQ];omega
 have a:=QwL (Ae I now) (V.told now) c (SI (ZF M now) now);have d:K7 (ZF M now)=K7 M:=by unfold ZF;split<;>rfl
 rw[d]at a;unfold qv jo;rw[Qf b,vE,a,XZ];omega
def VV(M:Qn):Nat:=(M.T.map λc=>(Z8 M c.iD).length).sum
def Qhb{f f':Int->Nat}{q:Int}:∀{l:List Qt},(l.map (·.iD)).Nodup->q∈l.map (·.iD)->f' q+1=f q->(∀j,j≠q->f' j=f j)->(l.map λc=>f' c.iD).sum+1=(l.map λc=>f c.iD).sum
 | [],_,h,_,_=>by cases h
 | a::l,b,h,k,d=>by
  simp only[JN,ZN,List.sum_cons]at b ⊢;by_cases e:a.iD=q
  .have g:(l.map λc=>f' c.iD)=l.map λc=>f c.iD:=Tq λc i=>d _ λm=>b.1 (by rw[e,<- m];exact Jm.2 ⟨c,i,rfl⟩);rw[g,e];omega
  .have n:=Qhb b.2 ((QE.1 h).resolve_left λg=>e g.symm) k d;rw[d _ e];omega
def Qxd(M:Qn)(a:Nat):(takeN M a).T=M.T:=by
 unfold takeN;split
 .exact(Gw M a).2.1
 .rw[Qw5];exact(Gw M a).2.1
def Qxe{M}(I:Qx M)(V:Inv M){c}(h:qv M c=true):VV (takeN M c)+1=VV M:=by
 obtain⟨x,l,d,p⟩:=Qg4 I V h;unfold VV;rw[Qxd];have o:(M.T.map (·.iD)).Nodup:=by
  have h:M.T.Pairwise (λa b=>a.iD<b.iD):=I.tree.rising;rw[List.nodup_iff_pairwise_ne,OK];exact h.imp λr=>ω
 refine Qhb (q:=vz M c) (f:=λj=>(Z8 M j).length) (f':=λj=>(Z8 (takeN M c) j).length) o ?_ ?_ λj i=>?_
 .unfold Z8 QD at d;cases g:Qj M.N (vz M c) with
  | none=>rw[g]at d;cases d
  | some n=>
   obtain⟨m,k⟩:=(WC I.tree.rising).1 (I.some g);exact Jm.2 ⟨n.c,m,k⟩
 .rw[rM,Qf ⟨h,rfl⟩,d];simp
 .rw[rM,Qe λe=>i e.2.symm]
def Yk(b a c:Nat):Nat:=min (max (max b a) c) 9223372036854775808
def Qxf{M:Qn}(I:Qx M)(V:Inv M){a until_ b}(e:M.Qi<=a)(d:b<=4611686018427387904)(h:Yk a until_ (K7 M)<=b):
  qv M (Yk a until_ (K7 M))=true/\until_<=Yk a until_ (K7 M)/\a<=Yk a until_ (K7 M):=by
 have f:Yk a until_ (K7 M)=max (max a until_) (K7 M):=by unfold Yk at h ⊢;omega
 have c:=Qha I V (now:=Yk a until_ (K7 M)) ω ω;rw[c];refine⟨Q3 ⟨ω,ω⟩,ω,ω⟩
structure jq where
 p:Nat
 b:Nat
 r:Nat
 w:Nat
 l:Nat
instance:Inhabited jq:=⟨⟨0,0,0,0,0⟩⟩
def jq.Ok(r:jq):Prop:=r.p<18446744073709551616/\r.b<18446744073709551616/\r.r<18446744073709551616/\r.w<18446744073709551616/\r.l<18446744073709551616
structure CT where
 ZZ:Int->List Nat
 rows:Int->jq
def CU(s:CT)(a:Int)(b:Nat):CT:={ s with ZZ:=λk=>if k=a then s.ZZ k++[b] else s.ZZ k }
def x6(r:jq)(a done:Nat)(b:Int)(c:Bool):jq:=
 ⟨(r.p+1) % 18446744073709551616,(r.b+b.toNat) % 18446744073709551616,if c=true then (r.r+1) % 18446744073709551616 else r.r,(r.w+(done - a)) % 18446744073709551616,max r.l (done - a)⟩
def YM(s:CT)(c:Int)(done:Nat)(b:Int)(d:Bool):CT:=match s.ZZ c with
 | []=>s
 | a::l=>if b<1 then s else if done<a then s else
  ⟨λk=>if k=c then l else s.ZZ k,λk=>if k=c then x6 (s.rows k) a done b d else s.rows k⟩
def Jz(x:Pk):List Int:=[x.wi,x.wj,x.wk,x.wm]
def ZX.mask(r:ZX):List Int:=[r.wo,r.wu,r.A1,r.yK]
def ZX.want(r:ZX):List Int:=[r.DS,r.DT,r.DU,r.A3]
def vA(a b:Int):Int:=bits .and .u16 a b
def SL(h m:List Int):List Int:=List.zipWith vA h m
def qV(r:ZX)(h:List Int):Bool:=SL h r.mask==r.want
def x7(r:ZX):Bool:=decide (1<=r.cls)&&decide (r.cls<=65536)&&(SL r.want r.mask==r.want)
def Xa(R:List ZX)(h:List Int):Int:=match R.find? λr=>qV r h with
 | some r=>r.cls
 | none=>0
def YN(R:List ZX):Int:=if 32<R.length then 2 else if R.all x7=true then 0 else 1
structure ZK where
 M:Qn
 Jt:Nat
 R:List ZX
 st:CT
 Qi:Nat
 ops:Nat
def CV(c:Cf)(a:Int):Nat:=a.toNat*c.t.toNat
def Oa(c b:Nat)(a:Int)(x:Pk):Ev:=⟨c,true,false,b,0,a,x.iD,x.len,x.wi,x.wj,x.wk,x.wm⟩
def Oc(d:Nat)(a:Bool)(c done:Nat)(b:Int)(x:Pk):Ev:=⟨d,false,a,c,done,b,x.iD,x.len,x.wi,x.wj,x.wk,x.wm⟩
def J9(S:ZK)(b a:Nat):ZK × List Ev:=
 if a<S.Jt then (S,[]) else
 if qv S.M a=true then
  ({ S with M:=takeN S.M a,Jt:=a+CV S.M.lk (qU S.M a).len,st:=YM S.st (vz S.M a) (a+CV S.M.lk (qU S.M a).len) (qU S.M a).len (GK S.M a) },
   [Oc b (GK S.M a) a (a+CV S.M.lk (qU S.M a).len) (vz S.M a) (qU S.M a)])
 else ({ S with M:=takeN S.M a },[])
def ZQ(S:ZK):Nat:=Yk S.Qi S.Jt (K7 S.M)
def Wb(c e:Nat):Nat->ZK->ZK × List Ev
 | 0,S=>({ S with Qi:=e },[])
 | n+1,S=>if e<ZQ S then ({ S with Qi:=e },[]) else
  let a:=J9 { S with Qi:=ZQ S } c (ZQ S);let b:=Wb c e n a.1
  (b.1,a.2++b.2)
structure kh where
 err:Int
 place:Int
 cls:Int
instance:Inhabited kh:=⟨⟨0,0,0⟩⟩
structure Lb where
 S:ZK
 r:kh
 l:List Ev
def jr(S:ZK)(b a:Nat):Lb:=
 if 4611686018427387904 - S.Qi<a then ⟨S,⟨27,0,0⟩,[]⟩ else
 ⟨(Wb b (S.Qi+a) (VV S.M+1) S).1,⟨0,0,0⟩,(Wb b (S.Qi+a) (VV S.M+1) S).2⟩
def zD(S:ZK)(b:Nat)(x:Pk):Lb:=
 if Xa S.R (Jz x)=0 then ⟨S,⟨31,0,0⟩,[]⟩ else
 if j7 S.M S.Qi (Xa S.R (Jz x)) x=0 then
  let a:=J9 { S with M:=KU S.M S.Qi (Xa S.R (Jz x)) x,st:=CU S.st (Xa S.R (Jz x)) S.Qi } b S.Qi
  ⟨a.1,⟨0,0,Xa S.R (Jz x)⟩,Oa b S.Qi (Xa S.R (Jz x)) x::a.2⟩
 else ⟨{ S with M:=KU S.M S.Qi (Xa S.R (Jz x)) x },⟨j7 S.M S.Qi (Xa S.R (Jz x)) x,0,Xa S.R (Jz x)⟩,[]⟩
def Wc(S:ZK)(a:Nat)(o:ZY):Lb:=
 if o.kind=1 then ⟨{ S with M:=KL S.M (decide (S.Jt<=S.Qi)) o.changes },⟨zB S.M (decide (S.Jt<=S.Qi)) o.changes,Aj S.M o.changes,0⟩,[]⟩
 else if o.kind=2 then (if YN o.rules=0 then ⟨{ S with R:=o.rules },⟨0,0,0⟩,[]⟩ else ⟨S,⟨YN o.rules,0,0⟩,[]⟩)
 else if o.kind=3 then zD S a o.YB
 else if o.kind=4 then jr S a o.WS.toNat
 else ⟨S,⟨1,0,0⟩,[]⟩
def Wv(S:ZK)(o:ZY):Lb:=Wc { S with ops:=S.ops+1 } S.ops o
def S0(c:Cf):ZK:=⟨M0 c,0,[],⟨λ_=>[],λ_=>default⟩,0,0⟩
def VD(S:ZK):List ZY->ZK × List kh × List Ev
 | []=>(S,[],[])
 | o::l=>((VD (Wv S o).S l).1,(Wv S o).r::(VD (Wv S o).S l).2.1,(Wv S o).l++(VD (Wv S o).S l).2.2)
def Qhc:∀(l m:List ZY) (S:ZK),VD S (l++m)=((VD (VD S l).1 m).1,(VD S l).2.1++(VD (VD S l).1 m).2.1,(VD S l).2.2++(VD (VD S l).1 m).2.2)
 | [],m,S=>rfl
 | o::l,m,S=>by simp only[YT,VD,Qhc l m,Wx]
structure Jd (S:ZK):Prop where
 I:Qx S.M
 V:Inv S.M
 K:zA S.M.lk
 len:∀j,∀x∈Z8 S.M j,1<=x.len/\x.len<=S.M.lk.JU
 mc:S.M.Qi<=S.Qi
 cl:S.Qi<=4611686018427387904
 un:S.Jt<=4611686018427387904+1073741824
 st:∀k,(S.st.rows k).Ok
 ca:∀k,∀a∈S.st.ZZ k,a<18446744073709551616
def Qhd{P:List Pk->Prop}(d:P [])(f:List Qt)(b:Int):∀(L:List Int) (M:Qn),(∀n,Qj M.N b=some n->P n.q.l)->∀n,Qj (L.foldl (J1 f) M).N b=some n->P n.q.l
 | [],M,h=>h
 | i::L,M,h=>Qhd d f b L _ λn a=>by
  have e:∀(k:Qt),Qj (Yj k::wV M.N i) b=some n->P n.q.l:=λk a=>by
   unfold Qj at a;rw[vI]at a;split at a
   .cases a;exact d
   .have c:Qj (wV M.N i) b=some n:=a;rw[IV]at c;split at c
    .cases c
    .exact h n c
  unfold J1 at a;split at a
  .rw[IV]at a;split at a
   .cases a
   .exact h n a
  .split at a
   .exact e _ a
   .exact e _ a
def Qxh{P:List Pk->Prop}(b:P []){M:Qn}{j:Int}(h:P (Z8 M j))(n:Nd)(a:Qj M.N j=some n):P n.q.l:=by
 unfold Z8 QD at h;rw[a]at h;exact h
def Qxi{P:List Pk->Prop}(a:P []){M:Qn}(b:Bool)(l:List Jr){j:Int}(h:P (Z8 M j)):P (Z8 (KL M b l) j):=by
 unfold KL;split
 .have m:∀id,P (Z8 M id)->P (QD (VC M (KS M.T l)) id).q.l:=λid o=>by
   unfold QD VC;cases c:Qj ((J6 M.T (KS M.T l)).foldl (J1 (KS M.T l)) { M with T:=KS M.T l }).N id with
   | none=>exact a
   | some n=>exact Qhd a _ id _ { M with T:=KS M.T l } (Qxh a o) n c
  unfold Z8 QD;show P ((Qj (YK M (KS M.T l)) j).getD default).q.l;cases c:Qj (YK M (KS M.T l)) j with
  | none=>exact a
  | some n=>
   have g:n∈YK M (KS M.T l):=xj c;have i:=xi c;obtain⟨k,p,rfl⟩:=Jm.1 g;have d:k.iD=j\/(QD (VC M (KS M.T l)) k.iD).q.l=[]:=by
    by_cases e:(QD (VC M (KS M.T l)) k.iD).c.iD=k.iD
    .left;rw[<- e];simpa using i
    .right;unfold QD at e ⊢;cases f:Qj (VC M (KS M.T l)).N k.iD with
     | none=>rfl
     | some n=>
      rw[f]at e;have:=xi f;exact absurd (by simpa using this) e
   rcases d with rfl|d
   .exact m _ h
   .show P (QD (VC M (KS M.T l)) k.iD).q.l;rw[d];exact a
 .exact h
def Qxj{r:jq}(h:r.Ok){a done}(e:done<18446744073709551616)(b)(c:Bool):(x6 r a done b c).Ok:=by
 obtain⟨j,i,d,g,f⟩:=h;unfold x6;refine⟨Yn _ π,Yn _ π,?_,Yn _ π,?_⟩
 .dsimp only;split
  .exact Yn _ π
  .exact d
 .dsimp only;omega
def SM(M:Qn)(a:Nat):(takeN M a).lk=M.lk:=Qg2 M a
def Qxk(M:Qn)(a:Nat):(takeN M a).Qi=M.Qi\/((takeN M a).Qi=a/\a<=4611686018427387904):=by
 unfold takeN;split
 .exact rN M _
 .rw[Qxa];exact rN M _
def Qxl(M:Qn)(a)(b)(x:Pk):(KU M a b x).Qi=M.Qi\/((KU M a b x).Qi=a/\a<=4611686018427387904):=by
 unfold KU;split
 .rw[Qxc];exact rN M _
 .exact .inl rfl
def Qxm(M:Qn)(b)(l:List Jr):(KL M b l).Qi=M.Qi:=by
 unfold KL;split
 .exact(GA _ _).2.2.2.1
 .rfl
def Qxn{M:Qn}{a}{b}{x:Pk}(h:j7 M a b x=0):1<=x.len/\x.len<=M.lk.JU:=by
 unfold j7 at h;split at h
 .have c:(ZF M a).lk=M.lk:=eG M a;unfold Vm at h;split at h
  .cases h
  .split at h
   .cases h
   .split at h
    .cases h
    .rename_i d;rw[c]at d;omega
 .cases h
def Qxo{s:CT}(h:(∀k,(s.rows k).Ok)/\∀k,∀a∈s.ZZ k,a<18446744073709551616)(c){done}(f:done<18446744073709551616)(b)(d:Bool):(∀k,((YM s c done b d).rows k).Ok)/\∀k,∀a∈(YM s c done b d).ZZ k,a<18446744073709551616:=by
 unfold YM;cases g:s.ZZ c with
 | nil=>exact h
 | cons a l=>
  dsimp only;split
  .exact h
  .split
   .exact h
   .refine⟨λk=>?_,λk x hx=>?_⟩
    .dsimp only;split
     .exact Qxj (h.1 k) f _ _
     .exact h.1 k
    .dsimp only at hx;split at hx
     .rename_i e;exact h.2 c x (by rw[g];exact Km _ hx)
     .exact h.2 k x hx
def eJ{c:Cf}(K:zA c){a}(h:1<=a/\a<=c.JU):1<=CV c a/\CV c a<=1073741824:=by
 have j:=K.t1;have i:=K.t2;have g:=K.l2;unfold CV;have f:1<=a.toNat:=ω;have e:a.toNat<=16384:=ω;have d:1<=c.t.toNat:=ω;have b:c.t.toNat<=65536:=ω;exact⟨vL f d,vL e b⟩
def Jd.take_len{S:ZK}(T:Jd S){a:Nat}(h:qv S.M a=true):1<=(qU S.M a).len/\(qU S.M a).len<=S.M.lk.JU:=by
 obtain⟨x,l,c,b⟩:=Qg4 T.I T.V h;rw[b];exact T.len _ x (by rw[c];exact K8)
def Jd.takeN{S:ZK}(T:Jd S):Jd { S with M:=takeN S.M S.Qi } where
 I:=T.I.takeN T.V _
 V:=T.V.takeN T.I _
 K:=by show zA (X.takeN S.M S.Qi).lk;rw[SM];exact T.K
 len:=λj x hx=>by
  have hx:x∈Z8 (X.takeN S.M S.Qi) j:=hx;show 1<=x.len/\x.len<=(X.takeN S.M S.Qi).lk.JU;rw[SM];rw[rM]at hx;split at hx
  .exact T.len j x (List.mem_of_mem_tail hx)
  .exact T.len j x hx
 mc:=by
  show (X.takeN S.M S.Qi).Qi<=S.Qi;have:=T.mc;rcases Qxk S.M S.Qi with h|h<;>omega
 cl:=T.cl
 un:=T.un
 st:=T.st
 ca:=T.ca
def Jd.rO{S:ZK}(T:Jd S)(c):Jd (J9 S c S.Qi).1:=by
 unfold J9;split
 .exact T
 .split
  .rename_i h;have e:=eJ T.K (T.take_len h);have d:=T.cl;have a:=T.takeN;have b:=Qxo ⟨T.st,T.ca⟩ (vz S.M S.Qi) (done:=S.Qi+CV S.M.lk (qU S.M S.Qi).len) ω (qU S.M S.Qi).len (GK S.M S.Qi);exact⟨a.I,a.V,a.K,a.len,a.mc,T.cl,by dsimp only;omega,b.1,b.2⟩
  .exact T.takeN
def Jd.at_{S:ZK}(T:Jd S){e}(b:S.Qi<=e)(a:e<=4611686018427387904):Jd { S with Qi:=e }:=
 ⟨T.I,T.V,T.K,T.len,K9 T.mc b,a,T.un,T.st,T.ca⟩
def SN(S:ZK)(b a:Nat):(J9 S b a).1.Qi=S.Qi/\(J9 S b a).1.ops=S.ops/\(J9 S b a).1.R=S.R:=by
 unfold J9;split
 .exact⟨rfl,rfl,rfl⟩
 .split<;>exact⟨rfl,rfl,rfl⟩
def rP(S:ZK)(h:S.Qi<=4611686018427387904):S.Qi<=ZQ S:=by
 unfold ZQ Yk;omega
def Jd.go{a e}(b:e<=4611686018427387904):∀(n:Nat) {S:ZK},Jd S->S.Qi<=e->Jd (Wb a e n S).1
 | 0,S,T,h=>T.at_ h b
 | n+1,S,T,h=>by
  unfold Wb;split
  .exact T.at_ h b
  .rename_i d;have c:=(T.at_ (rP S T.cl) (show ZQ S<=4611686018427387904 from ω)).rO a;refine Jd.go b n c ?_;have:=(SN { S with Qi:=ZQ S } a (ZQ S)).1;rw[this];show ZQ S<=e;omega
def Jd.put{S:ZK}(T:Jd S)(a)(x):Jd { S with M:=KU S.M S.Qi a x } where
 I:=T.I.KU T.V _ (by have:=T.cl;omega) _ _
 V:=T.V.KU T.I _ (by have:=T.cl;omega) _ _
 K:=by show zA (KU S.M S.Qi a x).lk;rw[N9];exact T.K
 len:=λj y b=>by
  have b:y∈Z8 (KU S.M S.Qi a x) j:=b;show 1<=y.len/\y.len<=(KU S.M S.Qi a x).lk.JU;rw[N9];rw[Qw0]at b;split at b
  .rename_i h;rcases QW.1 b with h2|h2
   .exact T.len j y h2
   .simp only[qz]at h2;subst h2;exact Qxn h.1
  .exact T.len j y b
 mc:=by
  show (KU S.M S.Qi a x).Qi<=S.Qi;have:=T.mc;rcases Qxl S.M S.Qi a x with h|h<;>omega
 cl:=T.cl
 un:=T.un
 st:=T.st
 ca:=T.ca
def Jd.ZZ{S:ZK}(T:Jd S)(d)(a)(e:a<18446744073709551616):Jd { S with st:=CU S.st d a }:=
 ⟨T.I,T.V,T.K,T.len,T.mc,T.cl,T.un,T.st,λk b c=>by
  have c:b∈(if k=d then S.st.ZZ k++[a] else S.st.ZZ k):=c;split at c
  .rcases QW.1 c with h|h
   .exact T.ca k b h
   .simp only[qz]at h;omega
  .exact T.ca k b c⟩
def Jd.change{S:ZK}(T:Jd S)(b){l}(a:∀c∈l,Jr.Ok c):Jd { S with M:=KL S.M b l } where
 I:=T.I.KL T.V b l a
 V:=T.V.KL T.I b l a
 K:=by show zA (KL S.M b l).lk;rw[SJ];exact T.K
 len:=λj=>by
  show ∀x∈Z8 (KL S.M b l) j,1<=x.len/\x.len<=(KL S.M b l).lk.JU;rw[SJ];exact Qxi (P:=λq=>∀x∈q,1<=x.len/\x.len<=S.M.lk.JU) (λx hx=>by cases hx) b l (T.len j)
 mc:=by show (KL S.M b l).Qi<=S.Qi;rw[Qxm];exact T.mc
 cl:=T.cl
 un:=T.un
 st:=T.st
 ca:=T.ca
def Jd.one{S}(T:Jd S)(a){o:ZY}(b:∀c∈o.changes,Jr.Ok c):Jd (Wc S a o).S:=by
 unfold Wc;split
 .exact T.change _ b
 .split
  .split
   .exact⟨T.I,T.V,T.K,T.len,T.mc,T.cl,T.un,T.st,T.ca⟩
   .exact T
  .split
   .unfold zD;split
    .exact T
    .split
     .exact Jd.rO (S:={ S with M:=KU S.M S.Qi (Xa S.R (Jz o.YB)) o.YB,st:=CU S.st (Xa S.R (Jz o.YB)) S.Qi }) ((T.put _ _).ZZ _ _ (by have:=T.cl;show S.Qi<_;omega)) a
     .exact T.put _ _
   .split
    .unfold jr;split
     .exact T
     .have:=T.cl;exact T.go ω _ ω
    .exact T
def Jd.ops{S}(T:Jd S)(n):Jd { S with ops:=n }:=⟨T.I,T.V,T.K,T.len,T.mc,T.cl,T.un,T.st,T.ca⟩
def Jd.do{S}(T:Jd S){o:ZY}(a:∀c∈o.changes,Jr.Ok c):Jd (Wv S o).S:=(T.ops _).one _ a
def rR(a e):∀(n:Nat) (S:ZK),(Wb a e n S).1.ops=S.ops/\(Wb a e n S).1.Qi=e
 | 0,S=>⟨rfl,rfl⟩
 | n+1,S=>by
  unfold Wb;split
  .exact⟨rfl,rfl⟩
  .obtain⟨c,b⟩:=rR a e n (J9 { S with Qi:=ZQ S } a (ZQ S)).1;exact⟨c.trans (SN _ _ _).2.1,b⟩
def Qxp(S:ZK)(a)(o:ZY):(Wc S a o).S.ops=S.ops:=by
 unfold Wc;split
 .rfl
 .split
  .split<;>rfl
  .split
   .unfold zD;split
    .rfl
    .split
     .exact(SN _ _ _).2.1
     .rfl
   .split
    .unfold jr;split
     .rfl
     .exact(rR _ _ _ _).1
    .rfl
def eK(S:ZK)(o:ZY):(Wv S o).S.ops=S.ops+1:=Qxp _ _ _
def ahead(b:Int):Int->List Ev->Prop
 | _,[]=>True
 | a,v::l=>a<=v.at_/\v.at_<=b/\(v.Y8=true->v.done=0)/\(v.Y8=false->v.at_<v.done)/\ahead b v.at_ l
def Qhf{S}(T:Jd S)(a){e}(d:e<=4611686018427387904)(h:ZQ S<=e):
  Jd (J9 { S with Qi:=ZQ S } a (ZQ S)).1/\VV (J9 { S with Qi:=ZQ S } a (ZQ S)).1.M+1=VV S.M/\S.Qi<=ZQ S/\(J9 { S with Qi:=ZQ S } a (ZQ S)).1.Qi=ZQ S:=by
 obtain⟨b,c,f⟩:=Qxf T.I T.V (until_:=S.Jt) T.mc d h;have g:=(T.at_ (rP S T.cl) (show ZQ S<=4611686018427387904 from ω));refine⟨g.rO a,?_,f,(SN _ _ _).1⟩;have b:qv S.M (ZQ S)=true:=b;have c:S.Jt<=ZQ S:=c;unfold J9;rw[Qe (show ¬ZQ S<S.Jt from ω)];show VV (if qv S.M (ZQ S)=true then _ else _:ZK × List Ev).1.M+1=VV S.M;rw[Qf b];exact Qxe T.I T.V b
structure rS (S:ZK) (D:Lb):Prop where
 next:D.S.Qi<ZQ D.S
 Qi:S.Qi<=D.S.Qi
 ev:ahead D.S.Qi S.Qi D.l
end Go.Fg.X
namespace Go.Fg.X
open Go.Proofs Go.Fg
open Go.Proofs.Tryz
def qw(r:ZX):Bool:=r.wo==65535&&(r.wu==65535&&(r.A1==65535&&r.yK==65535))
def SO(n:Int):Prop:=0<=n/\n<65536
def eL{a}(h:SO a):vA a 65535=a:=by
 obtain⟨n,rfl⟩:∃n:Nat,a=n:=⟨a.toNat,by have:=h.1;omega⟩;have c:n<65536:=by have:=h.2;omega
 have b:(BitVec.ofInt 16 (n:Int)).toNat=n:=by
  rw[BitVec.ofInt_natCast,BitVec.toNat_ofNat];exact As ω
 show IntKind.u16.wrap ((BitVec.ofInt 16 (n:Int) &&& BitVec.ofInt 16 65535).toNat:Int)=_;rw[BitVec.toNat_and,b,show (BitVec.ofInt 16 65535).toNat=2 ^ 16 - 1 from rfl,Nat.and_two_pow_sub_one_eq_mod];rw[show IntKind.u16.wrap ((n % 2 ^ 16:Nat):Int)=((n % 2 ^ 16:Nat):Int) % 65536 by simp[IntKind.wrap,IntKind.bits,IntKind.signed]];omega
def Ju(R:List ZX)(i:Nat):ZX:=R.getD i default
def rT(p:ZX->Bool):∀(R:List ZX) (i:Nat),i<R.length->p (Ju R i)=true->(∀j,j<i->p (Ju R j)=false)->R.find? p=some (Ju R i)
 | [],i,b,_,_=>by simp at b
 | r::R,0,b,a,_=>by
  have a:p r=true:=a;rw[vI,a];rfl
 | r::R,i+1,b,a,c=>by
  have d:p r=false:=c 0 ω;rw[vI,d];exact rT p R i (by simpa using b) a λj e=>c (j+1) ω
def Qhi(p:ZX->Bool):∀(R:List ZX),(∀j,j<R.length->p (Ju R j)=false)->R.find? p=none
 | [],_=>rfl
 | r::R,a=>by
  have c:p r=false:=a 0 σ;rw[vI,c];exact Qhi p R λj b=>a (j+1) (by simpa using b)
structure Yl (R:List ZX) (n:Nat) (es:List Xg) (ms:List Nat):Prop where
 yes:∀k d,WO es k=some d->∃i:Nat,d=Qb i/\i<n/\qw (Ju R i)=true/\(Ju R i).want=k/\∀j,j<i->¬(qw (Ju R j)=true/\(Ju R j).want=k)
 no:∀k,WO es k=none->∀j,j<n->¬(qw (Ju R j)=true/\(Ju R j).want=k)
 mem:∀j,j∈ms↔j<n/\qw (Ju R j)=false
 inc:ms.Pairwise (·<·)
 four:∀e∈es,e.k.length=4
def Yl.nil(R:List ZX):Yl R 0 [] []:=⟨λk d h=>(by cases h),λk h j a=>absurd a (XL j),λj=>σ,.nil,λe h=>(by cases h)⟩
def rU:∀(a:List Xg) (e:Xg) (k:List Int),WO (a++[e]) k=match WO a k with
  | some d=>some d
  | none=>if e.k=k then some e.v else none
 | [],e,k=>by simp[WO]
 | x::a,e,k=>by
  simp only[YT,WO];split
  .rfl
  .exact rU a e k
def Yl.mask{R}{n}{l}{g}(T:Yl R n l g)(h:qw (Ju R n)=false):Yl R (n+1) l (g++[n]) where
 yes:=λk d p=>by
  obtain⟨i,c,e,f⟩:=T.yes k d p;exact⟨i,c,ω,f⟩
 no:=λk m j o=>by
  rcases vK.1 o with c|rfl
  .exact T.no k m j c
  .exact λe=>by rw[h]at e;cases e.1
 mem:=λj=>by
  rw[QW,T.mem j,qz];constructor
  .rintro (c|rfl)
   .exact⟨ω,c.2⟩
   .exact⟨ω,h⟩
  .rintro⟨c,e⟩;rcases vK.1 c with f|rfl
   .exact .inl ⟨f,e⟩
   .exact .inr rfl
 inc:=by
  rw[Tu];exact⟨T.inc,List.pairwise_singleton _ _,λa r b q=>by
   simp only[qz]at q;have:=((T.mem a).1 r).1;omega⟩
 four:=T.four
def Yl.Qhj{R}{n}{e}{b}(T:Yl R n e b)(h:qw (Ju R n)=true):∀j,j∈b↔j<n+1/\qw (Ju R j)=false:=λj=>by
 rw[T.mem j];constructor
 .rintro⟨c,a⟩;exact⟨ω,a⟩
 .rintro⟨c,a⟩;rcases vK.1 c with d|rfl
  .exact⟨d,a⟩
  .rw[h]at a;cases a
def Yl.there{R}{n:Nat}{e}{f}(T:Yl R n e f)(h:qw (Ju R n)=true)(b:(WO e (Ju R n).want).isSome=true):Yl R (n+1) e f where
 yes:=λk d m=>by
  obtain⟨i,c,b,a⟩:=T.yes k d m;exact⟨i,c,ω,a⟩
 no:=λk g j l=>by
  rcases vK.1 l with c|rfl
  .exact T.no k g j c
  .exact λa=>by rw[a.2,g]at b;cases b
 mem:=T.Qhj h
 inc:=T.inc
 four:=T.four
def Yl.new{R}{n:Nat}{f}{o}(T:Yl R n f o)(h:qw (Ju R n)=true)(q:WO f (Ju R n).want=none)(c):Yl R (n+1) (f++[⟨(Ju R n).want,Qb n,c⟩]) o where
 yes:=λk d b=>by
  rw[rU]at b;cases a:WO f k with
  | some d2=>
   rw[a]at b;cases b;obtain⟨i,h1,q,l⟩:=T.yes k d a;exact⟨i,h1,ω,l⟩
  | none=>
   rw[a]at b;dsimp only at b;split at b
   .rename_i e;cases b;exact⟨n,rfl,ω,h,e,λj g=>T.no k a j g⟩
   .cases b
 no:=λk a j g=>by
  rw[rU]at a;cases m:WO f k with
  | some d2=>rw[m]at a;cases a
  | none=>
   rw[m]at a;dsimp only at a;split at a
   .cases a
   .rename_i e;rcases vK.1 g with h1|rfl
    .exact T.no k m j h1
    .exact λl=>e l.2
 mem:=(T.Qhj h)
 inc:=T.inc
 four:=λe p=>by
  rcases QW.1 p with h1|h1
  .exact T.four e h1
  .simp only[qz]at h1;subst h1;rfl
def SP(x:Pk):Prop:=SO x.wi/\SO x.wj/\SO x.wk/\SO x.wm
def eM{r:ZX}{x}(a:SP x)(h:qw r=true):qV r (Jz x)=(r.want==Jz x):=by
 unfold qw at h;simp only[ZH,zH]at h;obtain⟨e,d,c,b⟩:=h;unfold qV SL Jz ZX.mask;rw[e,d,c,b];simp only[List.zipWith_cons_cons,List.zipWith_nil_right,eL a.1,eL a.2.1,eL a.2.2.1,eL a.2.2.2];rw[vE];simp only[zH];exact eq_comm
section
variable {R:List ZX}{es:List Xg}{ms:List Nat}(T:Yl R R.length es ms){x:Pk}(hx:SP x)
include T hx
theorem Yl.Xf{i}(h:i<R.length)(n:qw (Ju R i)=false)(f:qV (Ju R i) (Jz x)=true)(m:∀j∈ms,j<i->qV (Ju R j) (Jz x)=false)
  (l:∀a:Nat,WO es (Jz x)=some (Qb a)->¬a<i):R.find? (λr=>qV r (Jz x))=some (Ju R i):=
 rT _ R i h f λj g=>by
  cases b:qw (Ju R j) with
  | false=>exact m j ((T.mem j).2 ⟨ω,b⟩) g
  | true=>
   rw[eM hx b,jv];intro e;cases c:WO es (Jz x) with
   | none=>exact T.no _ c j ω ⟨b,e⟩
   | some d=>
    obtain⟨a,rfl,q,p,o,k⟩:=T.yes _ _ c;have:=l a c;exact k j ω ⟨b,e⟩
theorem Yl.whole{a:Nat}(f:WO es (Jz x)=some (Qb a))(l:∀j∈ms,j<a->qV (Ju R j) (Jz x)=false):a<R.length/\R.find? (λr=>qV r (Jz x))=some (Ju R a):=by
 obtain⟨i,e,d,k,h,g⟩:=T.yes _ _ f;have e:a=i:=by
  unfold Qb at e;simp only[D.raw.injEq,Value.int.injEq,yj]at e;omega
 subst e;refine⟨d,rT _ R a d (by rw[eM hx k,h];simp) λj c=>?_⟩;cases b:qw (Ju R j) with
 | false=>exact l j ((T.mem j).2 ⟨ω,b⟩) c
 | true=>
  rw[eM hx b,jv];exact λe=>g j c ⟨b,e⟩
theorem Yl.none(c:WO es (Jz x)=Option.none)(d:∀j∈ms,qV (Ju R j) (Jz x)=false):R.find? (λr=>qV r (Jz x))=Option.none:=
 Qhi _ R λj b=>by
  cases a:qw (Ju R j) with
  | false=>exact d j ((T.mem j).2 ⟨b,a⟩)
  | true=>
   rw[eM hx a,jv];exact λe=>T.no _ c j b ⟨a,e⟩
end
@[go_sem] def jq.cells(r:jq):List D:=[u64 r.p,u64 r.b,u64 r.r,u64 r.w,u64 r.l]
@[go_sem] def qW(a b c d f e:Nat):Ob:=⟨.one,0,6,1,λ_=>[.ptr a 0 0 0,.ptr b 0 0 0,.ptr c 0 0 0,.ptr d 0 0 0,u64 f,Qb e]⟩
@[go_sem] def qX(a b c:Nat)(t:Int)(u:Nat):Ob:=⟨.one,0,5,1,λ_=>[u64 a,u64 b,u64 c,Qb t,u64 u]⟩
@[go_sem] def rV(c r:Nat):Ob:=⟨.one,0,2,1,λ_=>[.mref c 0,.mref r 0]⟩
@[go_sem] def EN(d:D)(e:Nat)(m:D):Ob:=⟨.one,0,3,1,λ_=>[d,.mref e 0,m]⟩
inductive TT where
 | no|sys|ln|GL|st|my
deriving DecidableEq
def Z5(a:Nat->TT)(h:List Ob)(t:TT):Nat->TT:=λl=>if h.length<=l then t else a l
def Kw{a}{h:List Ob}{t}{l}(b:l<h.length):Z5 a h t l=a l:=by unfold Z5;rw[Qe ω]
def kj{a}{h:List Ob}{t}{l}(b:h.length<=l):Z5 a h t l=t:=by unfold Z5;rw[Qf b]
def km{a}{h:List Ob}{t}{l}(b:h.length<=l):QV a h t l=t:=by unfold QV;rw[Qf b]
def XJ{b:Type}[Inhabited b](S:Nat->Prop)(h:List Ob)(e:Nat)(f:b->List D)(d:D)(l:List b):Prop:=
 (d=.nil/\l=[])\/∃c g a,d=.ref c g 0 l.length/\S c/\h[c]? = some ⟨.arr,g,e,l.length,a⟩/\∀i,i<l.length->a i=f (l.getD i default)
def XJ.step{a:Type}[Inhabited a]{S S':Nat->Prop}{h h':List Ob}{k:Nat}{f:a->List D}{d:D}{l:List a}(e:∀j,j<h.length->S j->S' j/\h'[j]? = h[j]?):XJ S h k f d l->XJ S' h' k f d l:=λH=>
 H.imp id λ⟨b,g,i,o,m,c,n⟩=>⟨b,g,i,o,(e b (Qc c) m).1,by rw[(e b (Qc c) m).2];exact c,n⟩
def Lc(S:Nat->Prop)(h:List Ob)(d:D)(l:List Nat):Prop:=
 (d=.nil/\l=[])\/∃c g a b,d=.ref c g a l.length/\S c/\h[c]? = some ⟨.arr,g,1,a+l.length,b⟩/\∀i,i<l.length->b (a+i)=[u64 (l.getD i 0)]
def Lc.step{S S'}{h h':List Ob}{d}{l}(e:∀j,j<h.length->S j->S' j/\h'[j]? = h[j]?):Lc S h d l->Lc S' h' d l:=λH=>
 H.imp id λ⟨a,g,f,c,m,i,b,k⟩=>⟨a,g,f,c,m,(e a (Qc b) i).1,by rw[(e a (Qc b) i).2];exact b,k⟩
def Lc.nil{S}{h}{l}(H:Lc S h .nil l):l=[]:=by
 rcases H with a|⟨_,_,_,_,a,_⟩
 .exact a.2
 .cases a
structure EO (S:Nat->Prop) (h:List Ob) (p cm rm c1:Nat) (ZB:List Zy) (c2:Nat) (ZT:List Zy) (s:CT):Prop where
 o:h[p]? = some (rV cm rm)
 co:h[cm]? = some (QM .i64 c1 ZB)
 ro:h[rm]? = some (QM .i64 c2 ZT)
 ne:cm≠rm
 sp:S p
 sc:S cm
 sr:S rm
 ca:∀k,Lc S h ((ZP ZB k).getD .nil) (s.ZZ k)
 sep:∀k k' lo g off n g' yp n',ZP ZB k=some (.ref lo g off n)->ZP ZB k'=some (.ref lo g' yp n')->k=k'
 rw_:∀k,(ZP ZT k).getD (.agg (default:jq).cells)=.agg (s.rows k).cells
def YO(S:Nat->Prop)(h:List Ob)(p:Nat)(s:CT):Prop:=∃b a d f c e,EO S h p b a d f c e s
def EO.step{S S'}{h h':List Ob}{p d b g}{m}{f}{i}{s}(e:∀j,j<h.length->S j->S' j/\h'[j]? = h[j]?)(T:EO S h p d b g m f i s):EO S' h' p d b g m f i s:=
 have k:∀l o,S l->h[l]? = some o->S' l/\h'[l]? = some o:=λl o c a=>⟨(e l (Qc a) c).1,(e l (Qc a) c).2.trans a⟩
 ⟨(k _ _ T.sp T.o).2,(k _ _ T.sc T.co).2,(k _ _ T.sr T.ro).2,T.ne,(k _ _ T.sp T.o).1,(k _ _ T.sc T.co).1,(k _ _ T.sr T.ro).1,λj=>(T.ca j).step e,T.sep,T.rw_⟩
def YO.step{S S'}{h h':List Ob}{p}{s}(e:∀j,j<h.length->S j->S' j/\h'[j]? = h[j]?):YO S h p s->YO S' h' p s:=λ⟨a,b,c,d,f,g,T⟩=>⟨a,b,c,d,f,g,T.step e⟩
structure rW (S:Nat->Prop) (h:List Ob) (p:Nat) (dr:D) (le:Nat) (dm:D) (c:Nat) (es:List Xg) (ms:List Nat) (R:List ZX):Prop where
 o:h[p]? = some (EN dr le dm)
 eo:h[le]? = some (kN c es)
 rs:XJ S h 9 ZX.cells dr R
 mo:XJ S h 1 (λi:Nat=>[Qb i]) dm ms
 sp:S p
 se:S le
 I:Yl R R.length es ms
 ok:YN R=0
def GM(S:Nat->Prop)(h:List Ob)(p:Nat)(R:List ZX):Prop:=∃e b f c d a,rW S h p e b f c d a R
def GM.step{S S'}{h h':List Ob}{p}{R}(e:∀j,j<h.length->S j->S' j/\h'[j]? = h[j]?):GM S h p R->GM S' h' p R:=λ⟨i,f,m,c,g,d,T⟩=>
 have k:∀l o,S l->h[l]? = some o->S' l/\h'[l]? = some o:=λl o b a=>⟨(e l (Qc a) b).1,(e l (Qc a) b).2.trans a⟩
 ⟨i,f,m,c,g,d,(k _ _ T.sp T.o).2,(k _ _ T.se T.eo).2,T.rs.step e,T.mo.step e,(k _ _ T.sp T.o).1,(k _ _ T.se T.eo).1,T.I,T.ok⟩
structure Wd (own:Nat->Tag) (tw:Nat->TT) (h:List Ob) (p ps pl pr pt:Nat) (S:ZK):Prop where
 o:h[p]? = some (qW ps pl pr pt S.Qi S.ops)
 tp:tw p=.sys
 co:zC own h ps S.M
 ln:∃a b c,h[pl]? = some (qX a b c S.M.lk.t S.Jt)
 tl:tw pl=.ln
 tb:GM (λl=>tw l=.GL) h pr S.R
 st:YO (λl=>tw l=.st) h pt S.st
 ap:∀l,tw l≠.no->own l=.no
def Ww(a:Nat->Tag)(b:Nat->TT)(h:List Ob)(p:Nat)(S:ZK):Prop:=∃d f e c,Wd a b h p d f e c S
def eN(a:Nat->Tag)(c:Nat->TT)(h:List Ob)(b:Nat->Tag)(e:Nat->TT)(d:List Ob):Prop:=
 ∀l,l<h.length->(Live (a l)->b l=a l/\d[l]? = h[l]?)/\(c l≠.no->c l≠.my->e l=c l/\d[l]? = h[l]?)
def Wd.step{j own'}{m i}{h h'}{p q u r n}{S}(T:Wd j m h p q u r n S)(e:eN j m h own' i h')(x:∀l,i l≠.no->own' l=.no):Wd own' i h' p q u r n S:=by
 have k:∀l o t,m l=t->t≠.no/\t≠.my->h[l]? = some o->i l=t/\h'[l]? = some o:=λl o t d g v=>by
  obtain⟨a,b⟩:=(e l (Qc v)).2 (by rw[d];exact g.1) (by rw[d];exact g.2);exact⟨by rw[a,d],b.trans v⟩
 have s:∀t,t≠.no/\t≠.my->∀l,l<h.length->m l=t->i l=t/\h'[l]? = h[l]? := λt g l f d=>by
  obtain⟨a,b⟩:=(e l f).2 (by rw[d];exact g.1) (by rw[d];exact g.2);exact⟨by rw[a,d],b⟩
 obtain⟨a,b,c,f⟩:=T.ln;exact⟨(k _ _ _ T.tp σ T.o).2,(k _ _ _ T.tp σ T.o).1,T.co.step λl f w=>(e l f).1 w,⟨a,b,c,(k _ _ _ T.tl σ f).2⟩,(k _ _ _ T.tl σ f).1,T.tb.step (s _ σ),T.st.step (s _ σ),x⟩
structure Z9 (n:Nat) (own:Nat->Tag) (tw:Nat->TT) (h:List Ob) (own':Nat->Tag) (ZO:Nat->TT) (h':List Ob):Prop where
 s1:∀l,l<h.length->own' l=own l
 s2:∀l,l<h.length->ZO l=tw l
 keep:∀l,l<n->own l=Tag.no->tw l=TT.no->h'[l]? = h[l]?
 my:∀l,l<h.length->tw l=TT.my->h'[l]? = h[l]?
 len:h.length<=h'.length
def Z9.refl(n)(a)(b:Nat->TT)(h):Z9 n a b h a b h:=⟨λ_ _=>rfl,λ_ _=>rfl,λ_ _ _ _=>rfl,λ_ _ _=>rfl,QB _⟩
def Z9.trans{n}{f d p}{i m g}{h h' o:List Ob}(j:n<=h.length)(a:Z9 n f i h d m h')(b:Z9 n d m h' p g o):Z9 n f i h p g o:=
 ⟨λl c=>(b.s1 l (kv c a.len)).trans (a.s1 l c),λl c=>(b.s2 l (kv c a.len)).trans (a.s2 l c),
  λl c e k=>(b.keep l c ((a.s1 l (kv c j)).trans e) ((a.s2 l (kv c j)).trans k)).trans (a.keep l c e k),λl c e=>(b.my l (kv c a.len) ((a.s2 l c).trans e)).trans (a.my l c e),K9 a.len b.len⟩
def Z9.core{n}{b a}{d}{h f:List Ob}(g:∀l,d l≠.no->b l=.no)(i:n<=h.length)(D:Zt b h a f):Z9 n b d h a (Z5 d h .no) f:=
 ⟨D.same,λl c=>Kw c,λl c e _=>D.keep l ω e,λl c e=>D.keep l c (g l (by rw[e];simp)),D.len⟩
def Wd.core{j d}{g}{h i}{p m n v u}{S:ZK}(T:Wd j g h p m n v u S)(D:Zt j h d i){M:Qn}(C:zC d i m M)(w:M.lk=S.M.lk):Wd d (Z5 g h .no) i p m n v u { S with M:=M }:=by
 have k:∀l o t,g l=t->t≠.no->h[l]? = some o->Z5 g h .no l=t/\i[l]? = some o:=λl o t f r q=>
  ⟨by rw[Kw (Qc q),f],(D.keep l (Qc q) (T.ap l (by rw[f];exact r))).trans q⟩
 have s:∀t,t≠.no->∀l,l<h.length->g l=t->Z5 g h .no l=t/\i[l]? = h[l]? := λt r l e f=>
  ⟨by rw[Kw e,f],D.keep l e (T.ap l (by rw[f];exact r))⟩
 obtain⟨a,b,c,e⟩:=T.ln;refine⟨(k _ _ _ T.tp σ T.o).2,(k _ _ _ T.tp σ T.o).1,C,⟨a,b,c,?_⟩,(k _ _ _ T.tl σ e).1,T.tb.step (s _ σ),T.st.step (s _ σ),λl e=>?_⟩
 .show i[n]? = some (qX a b c M.lk.t S.Jt);rw[w];exact(k _ _ _ T.tl σ e).2
 .by_cases f:l<h.length
  .rw[Kw f]at e;rw[D.same l f];exact T.ap l e
  .rw[kj ω]at e;exact absurd rfl e
def Wd.app{a}{b}{h}{p d f e c}{S}(T:Wd a b h p d f e c S)(g):Wd (QV a h .no) (Z5 b h .no) (h++g) p d f e c S:=
 T.core (Zt.app a h g .no) (T.co.NC g) rfl
def Z9.app{n}(b)(c:Nat->TT)(h g:List Ob)(t:TT)(d:n<=h.length):Z9 n b c h (QV b h .no) (Z5 c h t) (h++g):=
 ⟨λl a=>Ku a,λl a=>Kw a,λl a _ _=>QG ω,λl a _=>QG a,σ⟩
def Wd.x8{b}{c}{h}{p e i f d}{S}(T:Wd b c h p e i f d S)(g):Wd (QV b h .no) (Z5 c h .my) (h++g) p e i f d S:=
 T.step (λl a=>⟨λ_=>⟨Ku a,QG a⟩,λ_ _=>⟨Kw a,QG a⟩⟩) λl a=>by
  by_cases j:l<h.length
  .rw[Kw j]at a;rw[Ku j];exact T.ap l a
  .exact km ω
def Wd.loc{a}{b}{h:List Ob}{p g k i f}{S}(T:Wd a b h p g k i f S){l}(q:a l=.no)(n:b l=.no\/b l=.my)(o):Wd a b (h.set l o) p g k i f S:=
 T.step (λj _=>⟨λc=>⟨rfl,Qm (λe=>c.1 (by rw[<- e,q]))⟩,λc m=>⟨rfl,Qm (λe=>n.elim (λd=>c (by rw[<- e,d])) (λd=>m (by rw[<- e,d])))⟩⟩) T.ap
def Wd.part{own}{b}{h d}{p f j i g}{S}(T:Wd own b h p f j i g S){t}(m:t≠.no)(s:Step (λl=>b l=t) h d):
  zC (QV own h .no) d f S.M/\(∀u,u≠.no->u≠t->∀l,l<h.length->b l=u->Z5 b h t l=u/\d[l]? = h[l]?)/\(∀l,Z5 b h t l≠.no->QV own h .no l=.no):=by
 refine⟨T.co.step λl a k=>⟨Ku a,s.keep l a λe=>k.1 (T.ap l (by rw[e];exact m))⟩,λu q n l a c=>⟨by rw[Kw a,c],s.keep l a λe=>n (by rw[<- c,e])⟩,λl a=>?_⟩;by_cases c:l<h.length
 .rw[Kw c]at a;rw[Ku c];exact T.ap l a
 .exact km ω
def Z9.part{n}{own}{b}{h f:List Ob}{t}(d:t≠.no/\t≠.my)(g:n<=h.length)(s:Step (λl=>b l=t) h f):Z9 n own b h (QV own h .no) (Z5 b h t) f:=
 ⟨λl a=>Ku a,λl a=>Kw a,λl a _ c=>s.keep l ω λe=>d.1 (by rw[<- e,c]),λl a c=>s.keep l a λe=>d.2 (by rw[<- e,c]),s.len⟩
def Qxv{b}{h}{t}(l):more (λl=>b l=t) h l->Z5 b h t l=t:=λa=>by
 unfold Z5;split
 .rfl
 .rcases a with a|a
  .exact a
  .omega
section
variable {own:Nat->Tag}{tw:Nat->TT}{h h':List Ob}{p ps pl pr pt:Nat}{S:ZK}(T:Wd own tw h p ps pl pr pt S)
include T
theorem Wd.link{u a b c}(s:Step (λl=>tw l=.ln) h h')(f:h'[pl]? = some (qX a b c S.M.lk.t u)):Wd (QV own h .no) (Z5 tw h .ln) h' p ps pl pr pt { S with Jt:=u }:=by
 obtain⟨C,r,ap⟩:=T.part σ s;have k:∀l o t,tw l=t->t≠.no->t≠.ln->h[l]? = some o->Z5 tw h .ln l=t/\h'[l]? = some o:=λl o t j i g d=>by
  obtain⟨a,b⟩:=r t i g l (Qc d) j;exact⟨a,b.trans d⟩
 obtain⟨_,_,_,e⟩:=T.ln;exact⟨(k _ _ _ T.tp σ σ T.o).2,(k _ _ _ T.tp σ σ T.o).1,C,⟨a,b,c,f⟩,by rw[Kw (Qc e)];exact T.tl,T.tb.step (r _ σ σ),T.st.step (r _ σ σ),ap⟩
theorem Wd.stat{e}(s:Step (λl=>tw l=.st) h h')(g:YO (more (λl=>tw l=.st) h) h' pt e):Wd (QV own h .no) (Z5 tw h .st) h' p ps pl pr pt { S with st:=e }:=by
 obtain⟨C,r,ap⟩:=T.part σ s;have k:∀l o t,tw l=t->t≠.no->t≠.st->h[l]? = some o->Z5 tw h .st l=t/\h'[l]? = some o:=λl o t m j i f=>by
  obtain⟨a,b⟩:=r t j i l (Qc f) m;exact⟨a,b.trans f⟩
 obtain⟨a,b,c,d⟩:=T.ln;exact⟨(k _ _ _ T.tp σ σ T.o).2,(k _ _ _ T.tp σ σ T.o).1,C,⟨a,b,c,(k _ _ _ T.tl σ σ d).2⟩,(k _ _ _ T.tl σ σ d).1,T.tb.step (r _ σ σ),g.step λl _ d=>⟨Qxv l d,rfl⟩,ap⟩
theorem Wd.clock(c o):Wd own tw (h.set p (qW ps pl pr pt c o)) p ps pl pr pt { S with Qi:=c,ops:=o }:=by
 have k:∀l x t,tw l=t->t≠.sys->h[l]? = some x->(h.set p (qW ps pl pr pt c o))[l]? = some x:=λl x t f g m=>by
  rw[Qm (λe=>g (by rw[<- f,<- e,T.tp]))];exact m
 have s:∀t,t≠.sys->∀l,l<h.length->tw l=t->tw l=t/\(h.set p (qW ps pl pr pt c o))[l]? = h[l]? := λt g l i f=>
  ⟨f,Qm (λe=>g (by rw[<- f,<- e,T.tp]))⟩
 obtain⟨a,b,d,i⟩:=T.ln;exact⟨Qv (Qc T.o),T.tp,T.co.step λl _ j=>⟨rfl,Qm (λe=>j.1 (T.ap l (by rw[<- e,T.tp];simp)))⟩,⟨a,b,d,k _ _ _ T.tl σ i⟩,T.tl,T.tb.step (s _ σ),T.st.step (s _ σ),T.ap⟩
theorem Wd.rules{g}{i}{R}(r:GM (λl=>h.length<=l) (h++g) i R):
  Wd (QV own h .no) (Z5 tw h .GL) ((h++g).set p (qW ps pl i pt S.Qi S.ops)) p ps pl i pt { S with R:=R }:=by
 have q:=Qc T.o;have k:∀l x t,tw l=t->t≠.no->t≠.sys->h[l]? = some x->Z5 tw h .GL l=t/\((h++g).set p (qW ps pl i pt S.Qi S.ops))[l]? = some x:=λl x t f u m j=>by
  refine⟨by rw[Kw (Qc j),f],?_⟩;rw[Qm (λe=>m (by rw[<- f,<- e,T.tp])),QG (Qc j)];exact j
 have s:∀t,t≠.no->t≠.sys->∀l,l<h.length->tw l=t->Z5 tw h .GL l=t/\((h++g).set p (qW ps pl i pt S.Qi S.ops))[l]? = h[l]? := λt u m l c f=>
  ⟨by rw[Kw c,f],by rw[Qm (λe=>m (by rw[<- f,<- e,T.tp])),QG c]⟩
 obtain⟨a,b,d,c⟩:=T.ln;refine⟨Qv ξ,by rw[Kw q];exact T.tp,T.co.step λl c n=>⟨Ku c,by rw[Qm (λe=>n.1 (T.ap l (by rw[<- e,T.tp];simp))),QG c]⟩,⟨a,b,d,(k _ _ _ T.tl σ σ c).2⟩,(k _ _ _ T.tl σ σ c).1,
  r.step λl c f=>⟨kj f,Qm (λe=>ω)⟩,T.st.step (s _ σ σ),λl c=>?_⟩
 by_cases f:l<h.length
 .rw[Kw f]at c;rw[Ku f];exact T.ap l c
 .exact km ω
end
@[go_sem] def Qxw(n:Int):D:=.raw (.int .u64 n)
def eO(n m):Q6 prog 199 [Qb n,Qb m] (Zm (QT (decide (1<=n/\n<=m)))):=by
 refine Zs 0 func199 ntmps199 results199 λa w b=>?_;simp only[go_sem];first|refine FK (λh=>?_) (λh=>?_)|refine FL (λh=>?_) (λh=>?_)|refine FM (λh=>?_) (λh=>?_)|refine vZ (λh=>?_) (λh=>?_)|refine FN (λh=>?_) (λh=>?_)|refine FO (λh=>?_) (λh=>?_)|refine FP (λh=>?_) (λh=>?_)|refine FH (λh=>?_) (λh=>?_)
 all_goals (simp only[go_sem];congr 2;rw[vE];simp only[XZ,YR,false_iff];omega)
def Od(p:Pk)(m:Int):Int:=if ¬(1<=m/\m<=16384) then 1 else if ¬ (1<=p.len/\p.len<=m) then 26 else 0
def Qxx(p:Pk)(m):Q6 prog 141 [.agg p.cells,Qb m] (Zm (Qb (Od p m))):=by
 refine Zs 0 func141 ntmps141 results141 λc w a=>?_;simp only[go_sem];apply J2 a ba (eO m 16384);apply Zd a;by_cases h:1<=m/\m<=16384
 .simp only[go_sem,Q3 h];apply J2 a ba (eO p.len m);apply Zd a;by_cases b:1<=p.len/\p.len<=m
  .simp only[go_sem,Q3 b];simp[Od,h,b]
  .simp only[go_sem,QS b];simp[Od,h,b]
 .simp only[go_sem,QS h];simp[Od,h]
def Oe(p:Pk)(t:Int):Int:=if (1<=t/\t<=65536)/\(1<=p.len/\p.len<=16384) then IntKind.u64.wrap (p.len*t) else 0
def Of(p:Pk)(t:Int):Int:=if (1<=t/\t<=65536)/\(1<=p.len/\p.len<=16384) then 0 else 1
def Qxy(p:Pk)(t):Q6 prog 142 [.agg p.cells,Qb t] (Zm (.tup [Qxw (Oe p t),Qb (Of p t)])):=by
 refine Zs 0 func142 ntmps142 results142 λc w a=>?_;simp only[go_sem];apply J2 a ba (eO t 65536);apply Zd a;by_cases h:1<=t/\t<=65536
 .simp only[go_sem,Q3 h];apply J2 a ba (eO p.len 16384);apply Zd a;by_cases b:1<=p.len/\p.len<=16384
  .simp only[go_sem,Q3 b];have e:IntKind.u64.wrap p.len=p.len:=bj ω ω;have d:IntKind.u64.wrap t=t:=bj ω ω;simp[e,d,Oe,Of,h,b]
  .simp only[go_sem,QS b];simp[Oe,Of,h,b]
 .simp only[go_sem,QS h];simp[Oe,Of,h]
def Qxz(h:List Ob){t}(g:1<=t)(f:t<=65536):QI prog 49 h [Qb t] (λd b=>d=.tup [.ptr h.length 0 0 0,Qb 0]/\b=h++[qX 0 0 0 t 0]):=by
 have d1:decide (t<1)=false:=QS ω;have d2:decide (65536<t)=false:=QS ω;refine QZ func49 ntmps49 results49 λa w c e=>?_;simp only[go_sem,Qa,d1,d2]
section
variable {h:List Ob}{lp a b c:Nat}{t:Int}{u:Nat}(ho:(h.map Ob.ro)[lp]? = some (qX a b c t u).ro)
include ho
theorem rX(e):QR prog 36 h [.ptr lp 0 0 0,u64 e] (λd=>d=QT (decide (u<=e))):=by
 refine Zk func36 ntmps36 results36 λf w j F g l k=>?_;rw[<- g]at ho;have i:=Qc ho;simp only[go_sem,Qa,ho,i];all_goals exact KY
theorem Qhl:QR prog 42 h [.ptr lp 0 0 0] (λd=>d=u64 u):=by
 refine Zk func42 ntmps42 results42 λe w i F f k j=>?_;rw[<- f]at ho;have g:=Qc ho;simp only[go_sem,Qa,ho,g];all_goals exact KY
end
def QxA(h:List Ob){f a b c}{t}{u}(g:h[f]? = some (qX a b c t u))(n)(k):QI prog 143 h [.ptr f 0 0 0,Qb n,u64 k] (λd s=>∃C B v,s=h.set f (qX C B v t u)):=by
 have e:∀(x y:Nat),∃z:Nat,IntKind.u64.wrap ((x:Int)+y)=z:=λx y=>⟨(IntKind.u64.wrap ((x:Int)+y)).toNat,η⟩;have l:∀(x:Nat) (y:Int),∃z:Nat,IntKind.u64.wrap ((x:Int)+y)=z:=λx y=>⟨(IntKind.u64.wrap ((x:Int)+y)).toNat,η⟩;obtain⟨q,j⟩:=l a 1;obtain⟨p,F⟩:=l b (IntKind.u64.wrap n);obtain⟨o,i⟩:=e c k;have r:=Qc g;refine QZ func143 ntmps143 results143 λm w H I=>?_;have E:=Qc g;simp only[go_sem,Qa,g,E,j,F,i,Qv r];exact⟨q,p,o,rfl⟩
def QxD(h:List Ob){l a b c}{t}{u}(f:h[l]? = some (qX a b c t u))(B:1<=t)(z:t<=65536){e}(V:e<=4611686018427387904)(L:u<=e)(x:Pk)(s:1<=x.len/\x.len<=16384):
  QI prog 106 h [.ptr l 0 0 0,u64 e,.agg x.cells] (λd P=>d=.tup [u64 (e+x.len.toNat*t.toNat),Qb 0]/\∃r q p g,P=h.set l (qX r q p t (e+x.len.toNat*t.toNat))++g):=by
 have m:=Qc f;have R:decide ((4611686018427387904:Int)<(e:Int))=false:=QS ω;have Q:Od x 16384=0:=by unfold Od;rw[Qe σ,Qe ξ]
 have K:x.len.toNat*t.toNat<=1073741824:=vL (show x.len.toNat<=16384 from ω) (show t.toNat<=65536 from ω);have E:Oe x t=((x.len.toNat*t.toNat:Nat):Int):=by
  have J:x.len*t=((x.len.toNat*t.toNat:Nat):Int):=by
   rw[Th,GW ω,GW ω]
  unfold Oe;rw[Qf ⟨⟨B,z⟩,s⟩,J];exact bj ω ω
 obtain⟨k,M⟩:∃k,k=x.len.toNat*t.toNat:=⟨_,rfl⟩;rw[<- M]at K E ⊢;have C:IntKind.u64.wrap ((e:Int)+(k:Int))=((e+k:Nat):Int):=by rw[bj ω ω];omega
 have v:=Qxy x t;have S:Of x t=0:=by unfold Of;rw[Qf ⟨⟨B,z⟩,s⟩]
 rw[E,S]at v;have y:=Qxx x 16384;rw[Q]at y;refine QZ func106 ntmps106 results106 λI w U i=>?_;have j:=Qc f;simp only[go_sem,Qa,f,j,R];refine Jk i QoI ?_ y ?_
 .simp only[go_sem,Qa,f,j]
 apply Qg i;simp only[go_sem,Qa,f,j];apply ZA i aO (rX (u:=u) (ZG (by rw[QG m];exact f)) e);apply Qg i;simp only[go_sem,Qa,Q3 L,f,j];apply Qw i [0,1,2,3,4,1005,6,7,8,9,10];simp only[go_sem,Qa,f,j];refine KK i QoJ ?_ v ?_
 .simp only[go_sem,Qa,f,j,C,Qv m]
 apply Q7 i;simp only[go_sem,Qa,f,j,C,Qv m];apply KX [6] i [0,1,2,3,4,5,1006] [];simp only[go_sem,Qa,f,j,Qv m];obtain⟨H,n⟩:∃H,H=h.set l (qX a b c t (e+k))++[(⟨.one,0,6,1,λ_=>x.cells⟩:Ob)]:=⟨_,rfl⟩;have F:H[l]? = some (qX a b c t (e+k)):=by rw[n,QG (by simpa using m),Qv m]
 have T:=Qc F;have N:∀o:Ob,H.set l o=h.set l o++[(⟨.one,0,6,1,λ_=>x.cells⟩:Ob)]:=λo=>by rw[n,B8 (by simpa using m),Jn]
 simp only[go_sem]at n;rw[<- n];refine kW i QoK (QxA H F x.len k) λd W O=>?_;obtain⟨r,q,p,rfl⟩:=O;apply Q7 i;simp only[go_sem,Qv T];exact⟨r,q,p,_,N _⟩
def QxE(a):Q6 prog 235 [u64 a] (Zm (QT false)):=by
 have e:((a:Int) != (a:Int))=false:=σ;refine Zs 0 func235 ntmps235 results235 λb w c=>?_;simp only[go_sem];simp only[go_sem,e]
def Qhm(a b):Q6 prog 200 [u64 a,u64 b] (Zm (QT (decide (a<b)))):=by
 refine Zs 0 func200 ntmps200 results200 λd w c=>?_;simp only[go_sem];refine Jk c Qcw ?_ (QxE a) ?_
 .simp only[go_sem,Go.undef]
 apply Qg c;simp only[go_sem,Go.undef]
def QxF(h:List Ob)(a b c r)(i)(g:(h.map Ob.ro)[r]? = some ⟨.vO,0,1,2,i⟩)(s:i 0=[u64 b])(n:i 1=[u64 c]):
  QR prog 145 h [u64 a,.ref r 0 0 2] (λd=>d=u64 (max (max a b) c)):=by
 simp only[go_sem]at s n;refine Zk func145 ntmps145 results145 λv w z F y B f=>?_;rw[<- y]at g;have l:=Qc g;simp only[go_sem,Qa,g,l];have x:IntKind.i64.wrap 1=1:=rfl;have o:IntKind.i64.wrap 2=2:=rfl;have j:∀m k:Nat,∃d:Bool,d=decide (m<k)/\max m k=bif d then k else m:=λm k=>⟨_,rfl,by
  by_cases e:m<k
  .rw[Q3 e];show _=k;omega
  .rw[QS e];show _=m;omega⟩
 obtain⟨d1,u,q⟩:=j a b;have L1:=Qhm a b;rw[<- u]at L1;obtain⟨d2,t,p⟩:=j (max a b) c;have L2:=Qhm (max a b) c;rw[<- t]at L2;rw[p];rw[q]at L2 ⊢;clear u t q p j;cases d1<;>cases d2;all_goals
  simp only[ky,q5]at L2 ⊢;refine kV 2 ?_;apply Qg f;simp only[go_sem,Qa,g,l,s];apply YC f zV L1;apply QC f;apply Qg f;simp only[go_sem,Qa,g,l,n,x];apply YC f zV L2;apply QC f;apply Qg f;simp only[go_sem,Qa,g,l,n,o];apply Qg f;simp only[go_sem,Qa,g,l,n,o];all_goals exact KY
def QxG(h:List Ob)(a k)(c)(b:(h.map Ob.ro)[k]? = some ⟨.vO,0,1,1,c⟩)(f:c 0=[u64 a]):
  QR prog 144 h [.ref k 0 0 1] (λd=>d=u64 (min 9223372036854775808 a)):=by
 simp only[go_sem]at f;have e:min (9223372036854775808:Int) (a:Int)=((min 9223372036854775808 a:Nat):Int):=ω;have i:IntKind.i64.wrap 1=1:=rfl;refine Zk func144 ntmps144 results144 λl w n F m o j=>?_;rw[<- m]at b;have g:=Qc b;simp only[go_sem,Qa,b,g];refine kV 1 ?_;apply Qg j;simp only[go_sem,Qa,b,g,f,e,i];apply Qg j;simp only[go_sem,Qa,b,g,f,e,i];apply Qg j;simp only[go_sem,Qa,b,g,f,e,i];all_goals exact KY
def QxH(a b c):Q6 prog 108 [u64 a,u64 b,u64 c] (Zm (u64 (Yk a b c))):=by
 have e:Yk a b c=min 9223372036854775808 (max (max a b) c):=by unfold Yk;omega
 rw[e];refine Zs 0 func108 ntmps108 results108 λf w d=>?_;simp only[go_sem];apply ZA d QoM (QxF _ a b c 0 _ (ZG (o:=⟨.arr,0,1,2,_⟩) rfl) rfl rfl);apply QC d;obtain⟨m,g⟩:∃m,m=max (max a b) c:=⟨_,rfl⟩;rw[<- g];apply ZA d QoL (QxG _ m 1 _ (ZG (o:=⟨.arr,0,1,1,_⟩) rfl) rfl);exact HT d
end Go.Fg.X
