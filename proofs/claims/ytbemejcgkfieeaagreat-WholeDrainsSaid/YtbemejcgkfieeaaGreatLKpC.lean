/- Contracts and laws on the way to the statement. No conditions. -/
import Derived.Test.YtbemejcgkfieeaaGreatXU2C
import Derived.Test.YtbemejcgkfieeaaGreatSG8C
import Derived.Test.YtbemejcgkfieeaaGreatNA3C
import Derived.Test.YtbemejcgkfieeaaGreatCA2C
import Derived.Test.YtbemejcgkfieeaaGreatPR4C
set_option maxRecDepth 100000
set_option maxHeartbeats 16000000
set_option linter.unusedVariables false
set_option linter.unusedSimpArgs false
set_option linter.unusedSectionVars false
set_option linter.defProp false
namespace Go.Fg.X
open Go.Proofs Go.Fg
open Go.Proofs.Tryz
structure Ez (T:List Qm):Prop where
 ul:∀c∈T,¬1<QJ c.ul
 ls:∀c∈T,c.leaf=true->1<QJ c.ls
section
variable {M:Qo}(I:Qz M)(V:Inv M)(F:Jw M)(P:Ez M.T)
include I V F P
theorem Qlx{y}{n:Nd}(a:Qk M.N y=some n):n.cp.fit=0:=
 ((F n (wc a)).2 (P.ul n.c ((VH I.tree.rising).1 (I.some a)).1)).2
omit I F P in
theorem QC5{y}{n:Nd}(b:Qk M.N y=some n)(c:Kg M y=true)(d:W5 M y n=0):xT (M.KT n.c.parent)=0:=by
 have hx:=(V.kt n.c.parent ⟨n.sh.time,y,W5 M y n,y⟩).2 ⟨n,b,rfl,c,rfl⟩;have a:=(gq (M.KT n.c.parent) never).2.1 _ hx;have a:xT (M.KT n.c.parent)<=W5 M y n:=a;omega
theorem Qly{a}(e:a∈M.A):∀(k:Nat) (y:Int) (n:Nd),(up M.T y).length=k->y∈up M.T a->Qk M.N y=some n->W5 M y n=0->xT (M.KT 0)=0
 | k,y,n,t,g,j,u=>by
  have r:Kg M y=true:=YS.2 ⟨a,e,g⟩;have f:=QC5 V j r u;have p:=I.some j;by_cases i:n.c.parent=0
  .rw[i]at f;exact f
  .obtain⟨d,o,s⟩:=I.tree.J9 n.c ((VH I.tree.rising).1 p).1 i;have h:=Vu I.tree p;obtain⟨l,w⟩:=OS I.tree g;have q:n.c.parent∈up M.T a:=by
    rw[w,h,Vu I.tree o];simp
   have b:=I.find n.c.parent;rw[o]at b;cases c:Qk M.N n.c.parent with
   | none=>rw[c]at b;cases b
   | some m=>
    rw[c,K6,Q6]at b;have v:=Qlx I V F P c;have x:W5 M n.c.parent m=0:=by
     unfold W5;rw[Qd (by rw[<- b,s,show Kg M n.c.parent=true from YS.2 ⟨a,e,q⟩];decide),v,f];rfl
    exact Qly e (up M.T n.c.parent).length n.c.parent m rfl q c x
 termination_by k=>k
 decreasing_by
  rw[<- t,h];simp
theorem QC6{j}(a:Zs M j≠[]):qK M=0:=by
 unfold Zs QD at a;cases b:Qk M.N j with
 | none=>rw[b]at a;exact absurd rfl a
 | some n=>
  rw[b]at a;have a:n.q.l≠[]:=a;have c:n.c.leaf=true:=by
   cases c:n.c.leaf with
   | true=>rfl
   | false=>rw[V.Bw j n b c]at a;exact absurd rfl a
  have d:=I.some b;have g:j∈M.A:=(V.act j).2 ⟨n,b,c,a,P.ls n.c ((VH I.tree.rising).1 d).1 c⟩;have e:j∈up M.T j:=by rw[Vu I.tree d];simp
  have f:W5 M j n=0:=by
   unfold W5;rw[Qe (.inl c)];exact Qlx I V F P b
  have:=Qly I V F P g _ j n rfl e b f;unfold qK;omega
theorem aM(h:0<Jh M):qK M=0:=by
 unfold Jh at h;have:∃c∈M.T,Zs M c.iD≠[]:=jk λb=>by
  have f:(M.T.map λc=>(Zs M c.iD).length).sum=0:=by
   have e:=aw (λc=>(Zs M c.iD).length) 0 M.T λc d=>by
    have:Zs M c.iD=[]:=jk λa=>b ⟨c,d,a⟩;rw[this];exact QB _
   omega
  omega
 obtain⟨c,_,a⟩:=this;exact QC6 I V F P a
end
def Qlz{M}{a}(h:¬YE M a=true):Jh (takeN M a)=Jh M:=by
 unfold Jh;rw[Ig];congr 1;exact Dd λc _=>by rw[Es,Qd λb=>h b.1]
def EA:Kn->List Ev->Prop
 | _,[]=>True
 | k,e::l=>k.late e=false/\EA (k.next e) l
def Qbc:∀(a b:List Ev) (k:Kn),EA k a->EA (a.foldl Kn.next k) b->EA k (a++b)
 | [],b,k,_,h=>h
 | e::a,b,k,c,d=>⟨c.1,Qbc a b _ c.2 d⟩
structure aN (k:Kn) (S:ZE):Prop where
 w:k.work=Jh S.M
 u:k.zz=S.JW
 s:k.since<=S.Qh
 F:Jw S.M
 P:Ez S.M.T
structure yf (k:Kn) (S:ZE):Prop extends aN k S where
 b:0<Jh S.M->S.Qh<S.JW
def Qbd{S:ZE}(T:Z5 S){k:Kn}(W:aN k S)(i:0<k.work->S.JW<=S.Qh->(S.Qh:Int)<=max k.zz k.since)(a):
  EA k (Jk S a S.Qh).2/\yf ((Jk S a S.Qh).2.foldl Kn.next k) (Jk S a S.Qh).1:=by
 have d:=W.s;have g:=W.u;have f:=W.w;unfold Jk;split
 .rename_i h;exact⟨trivial,⟨W,λ_=>h⟩⟩
 .rename_i l;split
  .rename_i h;have o:=ag T.K (T.take_len h);have n:=QkC T.I T.V h;refine⟨⟨?_,trivial⟩,⟨⟨?_,?_,d,W.F.takeN _,?_⟩,?_⟩⟩
   .show (!false&&(decide (0<k.work)&&decide (max k.zz k.since<(S.Qh:Int))))=false;by_cases c:0<k.work
    .rw[QH (show ¬max k.zz k.since<(S.Qh:Int) by have:=i c ω;omega),RG,RG]
    .rw[QH c];rfl
   .show k.work - 1=Jh (takeN S.M S.Qh);omega
   .show max k.zz ((S.Qh+Y7 S.M.lk (Vn S.M S.Qh).len:Nat):Int)=((S.Qh+Y7 S.M.lk (Vn S.M S.Qh).len:Nat):Int);omega
   .show Ez (takeN S.M S.Qh).T;rw[Ig];exact W.P
   .intro _;show S.Qh<S.Qh+Y7 S.M.lk (Vn S.M S.Qh).len;omega
  .rename_i h;have c:Jh S.M=0:=jk λm=>by
    have j:=aM T.I T.V W.F W.P ω;have e:=QkB T.I T.V (now:=S.Qh) T.cl T.mc;rw[j]at e;exact h (e.trans (QT ⟨Jj _,π⟩))
   refine⟨trivial,⟨⟨f.trans (Qlz h).symm,g,d,W.F.takeN _,?_⟩,λb=>?_⟩⟩
   .show Ez (takeN S.M S.Qh).T;rw[Ig];exact W.P
   .have b:0<Jh (takeN S.M S.Qh):=b;rw[Qlz h]at b;omega
def QlA{op e}(f:e<=4611686018427387904):∀(n:Nat) {S:ZE} {k:Kn},Z5 S->S.Qh<=e->yf k S->Jh S.M<n->EA k (JY op e n S).2/\yf ((JY op e n S).2.foldl Kn.next k) (JY op e n S).1
 | 0,S,k,T,h,W,d=>absurd d (X2 _)
 | n+1,S,k,T,h,W,d=>by
  have v:=W.s;have u:=T.un;unfold JY;split
  .rename_i a;refine⟨trivial,⟨⟨W.w,W.u,by show k.since<=(e:Int);omega,W.F,W.P⟩,λb=>?_⟩⟩;have p:=W.b b;have c:=aM T.I T.V W.F W.P b;unfold Q1 vU at a;show e<S.JW;rw[c]at a;omega
  .rename_i a;have a:Q1 S<=e:=ω;obtain⟨s,x,w,q⟩:=QaB T op f a;have b:0<Jh S.M:=ω;have p:=W.b b;have c:=aM T.I T.V W.F W.P b;have g:Q1 S=S.JW:=by
    unfold Q1 vU;rw[c];omega
   have t:=T.at_ (Rj S T.cl) (show Q1 S<=4611686018427387904 from ω);have o:=W.u;have r:aN k { S with Qh:=Q1 S }:=⟨W.w,W.u,by show k.since<=(Q1 S:Nat);omega,W.F,W.P⟩;obtain⟨m,l⟩:=Qbd t r (λ_ _=>by show ((Q1 S:Nat):Int)<=max k.zz k.since;rw[g,o];omega) op;obtain⟨j,i⟩:=QlA (op:=op) f n s (by rw[q];exact a) l ω;refine⟨Qbc _ _ _ m j,?_⟩;rw[qd];exact i
structure CZ where
 frm:Int
 to:Int
instance:Inhabited CZ:=⟨⟨0,0⟩⟩
@[go_sem] def CZ.cells(s:CZ):List D:=[.raw (.int .u64 s.frm),.raw (.int .u64 s.to)]
def CZ.rows(l:List CZ):Nat->List D:=λi=>(l.getD i default).cells
@[go_sem] theorem CZ.j4(l:List CZ)(i):CZ.rows l i=(l.getD i default).cells:=rfl
@[go_sem] def strs(l:List CZ):D:=.imm 2 l.length (CZ.rows l)
structure StS where
 l:List CZ
 zz:Int
def xi(l:List Ev)(n:Nat):Nat->Int
 | 0=>0
 | k+1=>if k<n/\(l.getD k default).J9=false/\xi l n k<(l.getD k default).done then (l.getD k default).done else xi l n k
def QlB(l:List Ev)(n:Nat)(m:l.length<2147483648):QI prog 18 [Fq l,Qb n] (QO (.raw (.int .u64 (xi l n l.length)))):=by
 refine QZ 0 func18 ntmps18 results18 λj w i=>?_;simp only[go_sem];refine yB (G:=Nat) [1,8,9] (λk=>True) (λk d=>[(5,.raw (.int .u64 (xi l n k))),(10,Qb k)]) (λk d=>[]) (l.length) (0) rfl (Qr.to 0 (by (simp only[go_sem,xi])<;>simp)) trivial ?_;intro k d h _;apply QV i;have g:=JT (show k<4611686018427387904 from ω);first|refine WS h (λe=>?_) (λe=>?_)|refine WT h (λe=>?_) (λe=>?_)
 .have c:xi l n (k+1)=if k<n/\(l.getD k default).J9=false/\xi l n k<(l.getD k default).done then (l.getD k default).done else xi l n k:=rfl;simp only[go_sem,e];first|refine qu (λb=>?_) (λb=>?_)|refine qv (λb=>?_) (λb=>?_)|refine qw (λb=>?_) (λb=>?_)|refine Wu (λb=>?_) (λb=>?_)|refine qx (λb=>?_) (λb=>?_)|refine qy (λb=>?_) (λb=>?_)|refine qz (λb=>?_) (λb=>?_)|refine qp (λb=>?_) (λb=>?_)
  .cases f:(l.getD k default).J9
   .simp only[go_sem,f];first|refine qu (λa=>?_) (λa=>?_)|refine qv (λa=>?_) (λa=>?_)|refine qw (λa=>?_) (λa=>?_)|refine Wu (λa=>?_) (λa=>?_)|refine qx (λa=>?_) (λa=>?_)|refine qy (λa=>?_) (λa=>?_)|refine qz (λa=>?_) (λa=>?_)|refine qp (λa=>?_) (λa=>?_)
    .simp only[go_sem];rw[Qe ⟨b,f,a⟩]at c;repeat (refine And.intro δ ?_)
     refine⟨_,Qr.to 0 (by (simp only[go_sem,g,c])<;>simp),Vi.mk (d) (trivial)⟩
    .simp only[go_sem];rw[Qd (λx=>a x.2.2)]at c;repeat (refine And.intro δ ?_)
     refine⟨_,Qr.to 0 (by (simp only[go_sem,g,c])<;>simp),Vi.mk (d) (trivial)⟩
   .simp only[go_sem,f];rw[Qd (λx=>by rw[f]at x;cases x.2.1)]at c;repeat (refine And.intro δ ?_)
    refine⟨_,Qr.to 0 (by (simp only[go_sem,g,c])<;>simp),Vi.mk (d) (trivial)⟩
  .simp only[go_sem];rw[Qd (λx=>b x.1)]at c;repeat (refine And.intro δ ?_)
   refine⟨_,Qr.to 0 (by (simp only[go_sem,g,c])<;>simp),Vi.mk (d) (trivial)⟩
 .simp only[go_sem];subst e;exact Yc i
def rw_(l:List Ev):Nat->Nat
 | 0=>0
 | k+1=>if (l.getD k default).J9=true then rw_ l k+1 else rw_ l k - 1
@[simp] theorem QIr(l:List Ev):rw_ l 0=0:=rfl
def QlC(l:List Ev):∀k,rw_ l k<=k
 | 0=>QB _
 | k+1=>by have:=QlC l k;simp only[rw_];split<;>omega
def rws(l:List Ev)(k:Nat):List Int:=(List.range (k+1)).map λ(j:Nat)=>(rw_ l j:Int)
def Iw(l:List Ev)(k:Nat):(rws l k).length=k+1:=by simp[rws]
def QC7(l:List Ev)(k):rws l (k+1)=rws l k++[(rw_ l (k+1):Int)]:=by simp[rws,List.range_succ]
def QlD(l:List Ev)(k i:Nat)(h:i<k+1)(d):(rws l k).getD i d=(rw_ l i:Int):=by simp[rws,QY,h]
def QC8(l:List Ev)(s:l.length<2147483648):QI prog 19 [Fq l] (QO (ints (rws l l.length))):=by
 refine QZ 0 func19 ntmps19 results19 λp w o=>?_;simp only[go_sem];refine yB (G:=Nat) [8,9] (λk=>True) (λk c=>[(3,.ref 0 k 0 (k+1)),(10,Qb k)]) (λk c=>[⟨.arr,k,1,k+1,pA .i64 (rws l k)⟩]) (l.length) (0) rfl (Qr.to 1 (by (simp only[go_sem,rws,rw_])<;>simp)) trivial ?_;intro k c n _;apply QV o;have j:=JT (show k<4611686018427387904 from ω);have r:=QlC l k;have g:=QlD l k k ω 0;have f:=QC7 l k;have h:k<k+1:=ω;first|refine WS n (λa=>?_) (λa=>?_)|refine WT n (λa=>?_) (λa=>?_)
 .have q:=JT (show rw_ l k<4611686018427387904 from ω);have d:rw_ l (k+1)=if (l.getD k default).J9=true then rw_ l k+1 else rw_ l k - 1:=rfl;cases e:(l.getD k default).J9
  .rw[Qd (by rw[e];simp)]at d;by_cases hz:rw_ l k=0
   .simp only[go_sem,a,h,g,e,dnp hz];repeat (refine And.intro δ ?_)
    refine⟨_,Qr.to 1 ⟨?_,?_,?_,?_⟩,Vi.mk c trivial⟩
    .simp only[go_sem,j]
    .simp only[go_sem]
    .simp only[go_sem]
    .simp only[go_sem,f];intro i b;rw[pD _ _ _ _ (by rw[Iw];exact b),Iw,d,hz];cases decide (i<k+1)<;>rfl
   .have m:IntKind.i64.wrap ((rw_ l k:Int) - 1)=((rw_ l k - 1:Nat):Int):=ZB;simp only[go_sem,a,h,g,e,dp hz,m];repeat (refine And.intro δ ?_)
    refine⟨_,Qr.to 1 ⟨?_,?_,?_,?_⟩,Vi.mk c trivial⟩
    .simp only[go_sem,j]
    .simp only[go_sem]
    .simp only[go_sem]
    .simp only[go_sem,f];intro i b;rw[pD _ _ _ _ (by rw[Iw];exact b),Iw,d];cases decide (i<k+1)<;>rfl
  .rw[Qe e]at d;simp only[go_sem,a,h,g,e,q];repeat (refine And.intro δ ?_)
   refine⟨_,Qr.to 1 ⟨?_,?_,?_,?_⟩,Vi.mk c trivial⟩
   .simp only[go_sem,j]
   .simp only[go_sem]
   .simp only[go_sem]
   .simp only[go_sem,f];intro i b;rw[pD _ _ _ _ (by rw[Iw];exact b),Iw,d];cases decide (i<k+1)<;>rfl
 .simp only[go_sem];subst a;refine E0 (Qr.freeze rfl 0 rfl rfl (λi b=>by simp only[go_sem])) ?_;simp only[go_sem];apply QV o;simp only[go_sem,Iw]
def QlE(l:List Ev)(n):∀k,k<=n->xi l n k=(Ey l k).zz
 | 0,_=>rfl
 | k+1,h=>by
  have a:=QlE l n k ω;simp only[xi,Ey,Kn.next,a];cases b:(l.getD k default).J9
  .simp only[XZ,YF];by_cases c:(Ey l k).zz<(l.getD k default).done
   .rw[Qe ⟨ω,trivial,c⟩];omega
   .rw[Qd (λx=>c x.2.2)];omega
  .simp
def QlF(l:List Ev)(n):∀d,xi l n (n+d)=xi l n n
 | 0=>rfl
 | d+1=>by
  rw[<- QlF l n d];show xi l n ((n+d)+1)=_;simp only[xi];rw[Qd ω]
def QlG(l:List Ev)(n:Nat)(h:n<=l.length):xi l n l.length=(Ey l n).zz:=by
 obtain⟨d,a⟩:∃d,l.length=n+d:=⟨l.length - n,ω⟩;rw[a,QlF,QlE l n n (QB _)]
def QlH(l:List Ev):∀k,rw_ l k=(Ey l k).work
 | 0=>rfl
 | k+1=>by
  have a:=QlH l k;simp only[rw_,Ey,Kn.next,a];split<;>rfl
def QDa{M}{d}{c}{x}(I:Qz M)(m:Qz (Jg M d c x))(h:qI M d c x=0):Jh M+1=Jh (Jg M d c x):=by
 unfold Jh;rw[Gr];have r:(M.T.map (·.iD)).Nodup:=by
  have h:M.T.Pairwise (λa b=>a.iD<b.iD):=I.tree.rising;rw[RM,IJ];exact h.imp λs=>ω
 have g:∀j,Zs (Jg M d c x) j=if c=j then Zs M j++[x] else Zs M j:=λj=>by
  rw[Gg];by_cases e:c=j
  .rw[Qe ⟨h,e⟩,Qe e]
  .rw[Qd λh=>e h.2,Qd e]
 refine Qay (q:=c) (f:=λj=>(Zs (Jg M d c x) j).length) (f':=λj=>(Zs M j).length) r ?_ ?_ λj o=>?_
 .have i:Zs (Jg M d c x) c≠[]:=by rw[g,Qe rfl];simp
  unfold Zs QD at i;cases k:Qk (Jg M d c x).N c with
  | none=>rw[k]at i;exact absurd rfl i
  | some n=>
   obtain⟨l,p⟩:=(VH m.tree.rising).1 (m.some k);rw[Gr]at l;exact Jl.2 ⟨n.c,l,p⟩
 .rw[g,Qe rfl,Zo];rfl
 .rw[g,Qd λe=>o e.symm]
def QDb{M}{a}{b}{x}(h:¬qI M a b x=0):Jh (Jg M a b x)=Jh M:=by
 unfold Jh;rw[Gr];congr 1;exact Dd λc _=>by rw[Gg,Qd λd=>h d.1]
def yf.ops{k}{S}(W:yf k S)(n):yf k { S with ops:=n }:=⟨⟨W.w,W.u,W.s,W.F,W.P⟩,W.b⟩
def Qbf{S}(T:Z5 S){k}(W:yf k S){o:Zd}(y:∀c∈o.changes,Z4.Ok c)(r:o.kind≠1):
  EA k (JN S o).l/\yf ((JN S o).l.foldl Kn.next k) (JN S o).S:=by
 have b:=W.ops (S.ops+1);have j:=T.ops (S.ops+1);have q:=W.s;have z:=T.cl;show EA k (Km { S with ops:=S.ops+1 } S.ops o).l/\yf ((Km { S with ops:=S.ops+1 } S.ops o).l.foldl Kn.next k) (Km { S with ops:=S.ops+1 } S.ops o).S;unfold Km;rw[Qd r];split
 .split
  .exact⟨trivial,⟨⟨W.w,W.u,W.s,W.F,W.P⟩,W.b⟩⟩
  .exact⟨trivial,b⟩
 .split
  .unfold Yo;split
   .exact⟨trivial,b⟩
   .split
    .rename_i a;have a:qI S.M S.Qh (Jn S.R (Zu o.ZA)) o.ZA=0:=a;have i:=j.put (Jn S.R (Zu o.ZA)) o.ZA;have w:=i.Jd (Jn S.R (Zu o.ZA)) S.Qh ω;have h:=QDa T.I i.I a;have h:Jh S.M+1=Jh (Jg S.M S.Qh (Jn S.R (Zu o.ZA)) o.ZA):=h;obtain⟨E,d⟩:∃E,E=Bz S.ops S.Qh (Jn S.R (Zu o.ZA)) o.ZA:=⟨_,rfl⟩;have g:k.next E=⟨k.zz,if k.work=0 then (S.Qh:Int) else k.since,k.work+1⟩:=by
      subst d;unfold Kn.next;rw[Qe (show (Bz S.ops S.Qh (Jn S.R (Zu o.ZA)) o.ZA).J9=true from rfl)];rfl
     have Qc:k.late E=false:=by subst d;rfl
     have x:=W.w;have p:=W.u;have v:aN (k.next E) { { S with ops:=S.ops+1 } with M:=Jg S.M S.Qh (Jn S.R (Zu o.ZA)) o.ZA,st:=w9 S.st (Jn S.R (Zu o.ZA)) S.Qh }:=by
      rw[g];refine⟨?_,p,?_,W.F.Jg _ _ _,?_⟩
      .show k.work+1=Jh (Jg S.M S.Qh (Jn S.R (Zu o.ZA)) o.ZA);omega
      .show (if k.work=0 then (S.Qh:Int) else k.since)<=(S.Qh:Nat);split<;>omega
      .show Ez (Jg S.M S.Qh (Jn S.R (Zu o.ZA)) o.ZA).T;rw[Gr];exact W.P
     obtain⟨n,m⟩:=Qbd w v (λ_ f=>by
      have f:S.JW<=S.Qh:=f;have t:=W.b;rw[g];show (S.Qh:Int)<=max k.zz (if k.work=0 then (S.Qh:Int) else k.since);by_cases u:k.work=0
      .rw[Qe u];omega
      .have:=t ω;omega) S.ops
     rw[<- d];exact⟨⟨Qc,n⟩,m⟩
    .rename_i a;have a:¬qI S.M S.Qh (Jn S.R (Zu o.ZA)) o.ZA=0:=a;have l:=QDb a;refine⟨trivial,⟨⟨W.w.trans l.symm,W.u,q,W.F.Jg _ _ _,?_⟩,λs=>W.b (by rw[<- l];exact s)⟩⟩;show Ez (Jg S.M S.Qh (Jn S.R (Zu o.ZA)) o.ZA).T;rw[Gr];exact W.P
  .split
   .unfold Yn;split
    .exact⟨trivial,b⟩
    .rename_i Qc;have Qc:¬(4611686018427387904 - S.Qh<o.KM.toNat):=Qc;exact QlA (S:={ S with ops:=S.ops+1 }) (op:=S.ops) (e:=S.Qh+o.KM.toNat) ω (Jh S.M+1) j (by show S.Qh<=S.Qh+_;omega) b (BG _)
   .exact⟨trivial,b⟩
def QDc(c):yf ⟨0,0,0⟩ (S0 c):=⟨⟨rfl,rfl,Int.le_refl _,λn b=>(by cases b),⟨λc a=>(by cases a),λc a=>(by cases a)⟩⟩,λh=>absurd h (by show ¬(0<0);omega)⟩
def QDd{c}(K:W8 c){o:Zd}(d:∀a∈o.changes,Z4.Ok a)(e:Ez (JN (S0 c) o).S.M.T):
  EA ⟨0,0,0⟩ (JN (S0 c) o).l/\yf ((JN (S0 c) o).l.foldl Kn.next ⟨0,0,0⟩) (JN (S0 c) o).S:=by
 by_cases b:o.kind=1
 .have g:JN (S0 c) o=⟨{ { S0 c with ops:=1 } with M:=J4 (M0 c) (decide ((S0 c).JW<=(S0 c).Qh)) o.changes },⟨Y3 (M0 c) (decide ((S0 c).JW<=(S0 c).Qh)) o.changes,ya (M0 c) o.changes,0⟩,[]⟩:=by
   show Km { S0 c with ops:=(S0 c).ops+1 } (S0 c).ops o=_;unfold Km;rw[Qe b];rfl
  rw[g]at e ⊢;have i:Jh (J4 (M0 c) (decide ((S0 c).JW<=(S0 c).Qh)) o.changes)=0:=by
   have l:=aw (λk=>(Zs (J4 (M0 c) (decide ((S0 c).JW<=(S0 c).Qh)) o.changes) k.iD).length) 0 (J4 (M0 c) (decide ((S0 c).JW<=(S0 c).Qh)) o.changes).T λk b=>by
    rw[Qkw];exact QB _
   unfold Jh;omega
  have j:Jw (M0 c):=λn f=>(by cases f);exact⟨trivial,⟨⟨i.symm,rfl,Int.le_refl _,j.J4 (uK c) _ d,e⟩,λh=>by
   have h:0<Jh (J4 (M0 c) (decide ((S0 c).JW<=(S0 c).Qh)) o.changes):=h;omega⟩⟩
 .exact Qbf (Z5.RC K) (QDc c) d b
def QlI(l:List Ev):∀k,k<=l.length->Ey l k=(l.take k).foldl Kn.next ⟨0,0,0⟩
 | 0,_=>rfl
 | k+1,h=>by
  rw[getD_take _ default _ ω,qd,<- QlI l k ω];rfl
def VL(M:Qo):Nat:=(M.T.map λc=>V8 (Zs M c.iD)).sum
def Qbg{f f':Int->Nat}{q:Int}{d:Nat}:∀{l:List Qm},(l.map (·.iD)).Nodup->q∈l.map (·.iD)->f' q+d=f q->(∀j,j≠q->f' j=f j)->(l.map λc=>f' c.iD).sum+d=(l.map λc=>f c.iD).sum
 | [],_,h,_,_=>by cases h
 | a::l,b,h,m,g=>by
  simp only[JQ,ZY,RN]at b ⊢;by_cases e:a.iD=q
  .have i:(l.map λc=>f' c.iD)=l.map λc=>f c.iD:=Dd λc k=>g _ λn=>b.1 (by rw[e,<- n];exact Jl.2 ⟨c,k,rfl⟩);rw[i,e];omega
  .have o:=Qbg b.2 ((QF.1 h).resolve_left λi=>e i.symm) m g;rw[g _ e];omega
def QlJ{M}(I:Qz M)(V:Inv M){c:Nat}(h:YE M c=true):VL (takeN M c)+(Vn M c).len.toNat=VL M:=by
 obtain⟨x,l,d,o⟩:=lJ I V h;unfold VL;rw[Ig];have p:(M.T.map (·.iD)).Nodup:=by
  have h:M.T.Pairwise (λa b=>a.iD<b.iD):=I.tree.rising;rw[RM,IJ];exact h.imp λr=>ω
 refine Qbg (q:=WJ M c) (f:=λj=>V8 (Zs M j)) (f':=λj=>V8 (Zs (takeN M c) j)) p ?_ ?_ λj i=>?_
 .unfold Zs QD at d;cases g:Qk M.N (WJ M c) with
  | none=>rw[g]at d;cases d
  | some n=>
   obtain⟨m,k⟩:=(VH I.tree.rising).1 (I.some g);exact Jl.2 ⟨n.c,m,k⟩
 .rw[Es,Qe ⟨h,rfl⟩,d,o];show V8 l+x.len.toNat=V8 (x::l);simp only[V8,JQ,RN];omega
 .rw[Es,Qd λe=>i e.2.symm]
def QlK{op e}(d:e<=4611686018427387904):∀(n:Nat) {S:ZE} {k:Kn},Z5 S->S.Qh<=e->yf k S->Jh S.M<n->max S.Qh S.JW+VL S.M*S.M.lk.t.toNat<=e->Jh (JY op e n S).1.M=0/\(JY op e n S).1.JW<=e/\(JY op e n S).1.Qh=e
 | 0,S,k,T,h,W,g,i=>absurd g (X2 _)
 | n+1,S,k,T,h,W,g,u=>by
  have v:=T.un;unfold JY;split
  .rename_i a;have b:Jh S.M=0:=jk λb=>by
    have i:=W.b ω;have f:=aM T.I T.V W.F W.P ω;unfold Q1 vU at a;rw[f]at a;omega
   exact⟨b,by show S.JW<=e;omega,rfl⟩
  .rename_i a;have a:Q1 S<=e:=ω;obtain⟨s,B,z,q⟩:=QaB T op d a;have b:0<Jh S.M:=ω;have i:=W.b b;have f:=aM T.I T.V W.F W.P b;have l:Q1 S=S.JW:=by
    unfold Q1 vU;rw[f];omega
   have t:=T.at_ (Rj S T.cl) (show Q1 S<=4611686018427387904 from ω);have o:=W.u;have x:=W.s;have r:aN k { S with Qh:=Q1 S }:=⟨W.w,W.u,by show k.since<=(Q1 S:Nat);omega,W.F,W.P⟩;obtain⟨w,m⟩:=Qbd t r (λ_ _=>by show ((Q1 S:Nat):Int)<=max k.zz k.since;rw[l,o];omega) op;have c:YE S.M (Q1 S)=true:=(QkD T.I T.V (until_:=S.JW) T.mc d a).1;have p:(Jk { S with Qh:=Q1 S } op (Q1 S)).1={ { S with Qh:=Q1 S } with M:=takeN S.M (Q1 S),JW:=Q1 S+Y7 S.M.lk (Vn S.M (Q1 S)).len,st:=Y6 S.st (WJ S.M (Q1 S)) (Q1 S+Y7 S.M.lk (Vn S.M (Q1 S)).len) (Vn S.M (Q1 S)).len (By S.M (Q1 S)) }:=by
    unfold Jk;rw[Qd (show ¬Q1 S<({ S with Qh:=Q1 S }:ZE).JW by show ¬Q1 S<S.JW;omega),Qe (show YE ({ S with Qh:=Q1 S }:ZE).M (Q1 S)=true from c)]
   have j:=QlJ T.I T.V c;refine QlK (op:=op) d n s (by rw[q];exact a) m ω ?_;rw[p];show max (Q1 S) (Q1 S+Y7 S.M.lk (Vn S.M (Q1 S)).len)+VL (takeN S.M (Q1 S))*(takeN S.M (Q1 S)).lk.t.toNat<=e;rw[Ih];unfold Y7;have y:VL S.M*S.M.lk.t.toNat=VL (takeN S.M (Q1 S))*S.M.lk.t.toNat+(Vn S.M (Q1 S)).len.toNat*S.M.lk.t.toNat:=by
    rw[<- VM,j]
   omega
def QlM(l:List Zd){k}(a:k<l.length):l.take (k+1)=l.take k++[l.getD k default]:=by
 rw[zD,QG a,QY,QG a];rfl
def QlN(S:ZE)(l:List Zd){k}(a:k<l.length):(ZH S (l.take (k+1))).1=(JN (ZH S (l.take k)).1 (l.getD k default)).S/\(ZH S (l.take (k+1))).2.2=(ZH S (l.take k)).2.2++(JN (ZH S (l.take k)).1 (l.getD k default)).l:=by
 rw[QlM l a,lL];exact⟨rfl,by simp only[ZH,JZ]⟩
def BE(l:List Zd):Bool:=(l.drop 1).all λo=>o.kind != 1
def still_at{l:List Zd}(h:BE l=true){k}(a:k<l.length)(c:0<k):(l.getD k default).kind≠1:=by
 have b:=zC.1 h (l.getD k default) (by
  rw[QY,QG a];obtain⟨j,rfl⟩:∃j,k=j+1:=⟨k - 1,ω⟩;refine NA (i:=j) ?_;rw[Gy,NC,QG a];rfl)
 simpa using b
def Qbh{c}(K:W8 c){l:List Zd}(g:∀o∈l,Zd.Ok o)(j:BE l=true)(i:Ez (ZH (S0 c) (l.take 1)).1.M.T):∀k,k<=l.length->0<k ->
  Z5 (ZH (S0 c) (l.take k)).1/\EA ⟨0,0,0⟩ (ZH (S0 c) (l.take k)).2.2/\yf ((ZH (S0 c) (l.take k)).2.2.foldl Kn.next ⟨0,0,0⟩) (ZH (S0 c) (l.take k)).1
 | 0,_,h=>absurd h (GD 0)
 | 1,m,_=>by
  obtain⟨a,b⟩:=QlN (S0 c) l (k:=0) ω;have f:=g _ (Yx l default 0 ω);rw[a]at i;rw[a,b];obtain⟨d,e⟩:=QDd K f.2.1.2 i;exact⟨(Z5.RC K).do f.2.1.2,d,e⟩
 | k+2,m,_=>by
  obtain⟨T,B,W⟩:=Qbh K g j i (k+1) ω ω;obtain⟨a,b⟩:=QlN (S0 c) l (k:=k+1) ω;have f:=g _ (Yx l default (k+1) ω);obtain⟨d,e⟩:=Qbf T W f.2.1.2 (still_at j ω ω);rw[a,b,qd];exact⟨T.do f.2.1.2,Qbc _ _ _ B d,e⟩
def Qbi(l:List Ev):Ey l l.length=l.foldl Kn.next ⟨0,0,0⟩:=by
 rw[QlI l _ (QB _),Wc]
def QDe(L:List Qm)(x:Qm):List Qm:=if vw L x (up L x.parent).length=0 then Vt L x else L
structure QIt (L T:List Qm):Prop where
 ok:KF L
 sub:∀c∈L,c∈T
section
variable {T:List Qm}(I:KF T)
include I
end
section
variable {T:List Qm}(I:KF T)
include I
def rounds(T:List Qm):Nat->List Qm
 | 0=>[]
 | r+1=>T.foldl QDe (rounds T r)
end
def icL(l:Ln):Int:=l.y - (l.m:Int)*l.x
structure LnB (m X:Nat) (l:Ln):Prop where
 m:l.m=m
 x:l.x<=X
 y:l.y<=1329227995784915872903807060280344576
structure RnB (c:Nc) (X:Nat) (r:Rn):Prop where
 b:r.b=decide (c.of=3)
 t:LnB c.b X r.t
 f:c.of=3->LnB c.a X r.f
structure QDg (c:Nc) (A base:Nat) (r:Rn):Prop where
 t:icL r.t<=(base:Int)*65536+(if c.of=3 then ((c.a:Int) - c.b)*c.d else 0) - (c.b:Int)*A
 f:c.of=3->icL r.f<=(base:Int)*65536 - (c.a:Int)*A
structure UlC (c:Nc):Prop where
 k:c.of=2\/c.of=3
 a:c.a<=4294967295
 b:c.b<=4294967295
 d:c.d<=1048576
 ba:c.of=3->c.b<c.a
 two:c.of=2->c.d=0
end Go.Fg.X
namespace Go.Fg.X
open Go.Proofs Go.Fg
open Go.Proofs.Tryz
structure Gh where
 n:Nat
 g:List (Nat × Nat)
 k:Nat
def Gh.next(a:List Int)(s:Gh)(e:Ev):Gh:=
 if a.contains e.cls=true then (if e.J9=true then ⟨s.n+1,if s.n=0 then (e.at_.toNat,0)::s.g else s.g,s.k⟩ else ⟨s.n - 1,s.g.map λx=>(x.1,x.2+e.len.toNat),s.k+1⟩) else s
def QDi(c:Nc)(b:Nat)(a:List Int)(s:Gh)(e:Ev):Prop:=
 a.contains e.cls=true->e.J9=false->∀x∈(s.next a e).g,(x.1:Int)<=e.at_/\x.2<=Xi c.a c.d c.b (e.at_.toNat - x.1) / 65536+b
def QlQ(c:Nc)(b:Nat)(a:List Int):Gh->List Ev->Prop
 | _,[]=>True
 | s,e::l=>QDi c b a s e/\QlQ c b a (s.next a e) l
structure QDj (c:Nc) (g:List (Nat × Nat)) (k X Z7:Nat) (cp:Cp):Prop where
 tk:Z7<=16384*k
 has:g≠[]->cp.has=true
 run:cp.has=true->RnB c X cp.run/\cp.fit=zX cp.run (Z7*65536)
 g:∀x∈g,x.1<=X/\x.2<=Z7/\QDg c x.1 (Z7 - x.2) cp.run
def QDk{M:Qo}(I:Qz M)(V:Inv M){j}(h:Zs M j≠[]):j∈VZ M/\j∈up M.T j:=by
 unfold Zs QD at h;cases c:Qk M.N j with
 | none=>rw[c]at h;exact absurd rfl h
 | some n=>
  have d:n.c.leaf=true:=by
   cases d:n.c.leaf with
   | true=>rfl
   | false=>
    have:=V.Bw j n c d;rw[c]at h;refine absurd ?_ h;show n.q.l=[];rw[this]
  have f:=Qz.id (M:=M) c;refine⟨JH.2 ⟨Jl.2 ⟨n.c,JH.2 ⟨((VH I.tree.rising).1 (I.some c)).1,d⟩,f⟩,?_⟩,?_⟩
  .show (!(QD M j).q.l.isEmpty)=true;unfold QD;rw[c];rw[c]at h;cases e:n.q.l with
   | nil=>exact absurd e h
   | cons a b=>show (!((some n).getD default).q.l.isEmpty)=true;show (!n.q.l.isEmpty)=true;rw[e];rfl
  .rw[fQ I.tree,I.some c];exact Kx
def QDl{M}(I:Qz M)(V:Inv M)(b){l}(i:∀c∈l,Z4.Ok c)(j):Zs (J4 M b l) j=Zs M j:=by
 unfold J4;split
 .rename_i a;have g:=(PJ I.tree I.yY i).1;have f:je M (Jm M.T l) b=false:=by
   unfold Y3 at a;split at a
   .rename_i h;exact absurd a h
   .split at a
    .cases a
    .rename_i h;simpa using h
  have d:Qk (y8 M (Jm M.T l)).N j=if j∈Kb M.T (Jm M.T l) then (Qy (Jm M.T l) j).map XH else Qk M.N j:=by
   show Qk (XI M (Jm M.T l)) j=_;rw[HZ I g];exact Gd g.rising j _ _
  by_cases e:j∈Kb M.T (Jm M.T l)
  .rw[Qe e]at d;have n:Zs M j=[]:=jk λh=>by
    obtain⟨m,k⟩:=QDk I V h;have:x9 M j=true:=vY.2 ⟨j,m,by simpa using k⟩;unfold je at f;rw[show (Kb M.T (Jm M.T l)).any (x9 M)=true from vY.2 ⟨j,e,this⟩]at f;cases f
   rw[n];unfold Zs QD;rw[d];cases Qy (Jm M.T l) j<;>rfl
  .rw[Qd e]at d;unfold Zs QD;rw[d]
 .rfl
def QlR{M}(I:Qz M){j}(h:Zs M j≠[]):1<=j:=by
 unfold Zs QD at h;cases a:Qk M.N j with
 | none=>rw[a]at h;exact absurd rfl h
 | some n=>
  have b:=Qz.id (M:=M) a;have:=I.tree.ids n.c ((VH I.tree.rising).1 (I.some a)).1;omega
def Ev.pk(e:Ev):Pk:=⟨e.id,e.len,e.h0,e.h1,e.h2,e.h3⟩
def RD(a b:Pk):Bool:=a.iD==b.iD&&(a.len==b.len&&(a.xF==b.xF&&(a.xG==b.xG&&(a.xH==b.xH&&a.xI==b.xI))))
def QDm(a b):RD a b=true↔a=b:=by
 obtain⟨n,m,l,k,j,i⟩:=a;obtain⟨h,g,f,e,d,c⟩:=b;simp[RD]
@[go_sem] def QlS(x:Cf)(a:Nat)(l:Ev)(done:Int)(q:D):List D:=[Qb x.t,Qb x.JI,.mref a 0,Qb l.op,QX l.J9,QX l.real,an l.at_,an l.done,Qb l.cls,an l.id,Qb l.len,.raw (.int .u16 l.h0),.raw (.int .u16 l.h1),.raw (.int .u16 l.h2),.raw (.int .u16 l.h3),an done,q]
section
variable (h:List Ob)(lb la lm:Nat)(x:Cf)(l:Ev)(done:Int)(q:D)(e:Ev)
 (UW:(h.map Ob.ro)[lb]? = some ⟨.Wh,0,1,1,λ_=>[.ptr la 0 0 0]⟩) (ha:(h.map Ob.ro)[la]? = some ⟨.Wh,0,17,1,λ_=>QlS x lm l done q⟩)
include UW ha
def QDn(f:Ob->Ob)(h:List Ob)(d:D)(p:List Pk):Prop:=(d=.nil/\p=[])\/∃c g a b,d=.ref c g a p.length/\h[c]? = some (f ⟨.arr,g,6,a+p.length,b⟩)/\∀i,i<p.length->b (a+i)=(p.getD i default).cells
variable {es:List ZF}{c:Nat}{p:List Pk}(hm:(h.map Ob.ro)[lm]? = some (QS .i64 c es).ro)
include hm
end
section
variable (h:List Ob)(lw:Nat)(e:Ev)(f:FuncId)(lc:Nat)(B:Bool)
end
structure QDo (h:List Ob) (es:List ZF) (W:Int->List Pk):Prop where
 at_:∀k,QDn id h ((ZZ es k).getD .nil) (W k)
 sep:∀k k' lo g off n g' xr n',ZZ es k=some (.ref lo g off n)->ZZ es k'=some (.ref lo g' xr n')->k=k'
def QDp(h a:List Ob):Prop:=∀(l:Nat) (o:Ob),h[l]? = some o->o.kd.ty=0->o.sz≠17->o.sz≠6->a[l]? = some o
def yg(W:Int->List Pk)(e:Ev):Int->List Pk:=λk=>if k=e.cls then (if e.J9 then W k++[e.pk] else (W k).tail) else W k
structure QIu (h:List Ob) (la lm:Nat) (x:Cf) (e:Ev) (done:Int) (q:D) (W:Int->List Pk) (h':List Ob):Prop where
 a:h'[la]? = some ⟨.one,0,17,1,λ_=>QlS x lm e done q⟩
 m:∃c' es',h'[lm]? = some (QS .i64 c' es')/\QDo h' es' W
 s:QDp h h'
def mz:Ev:=⟨0,false,false,0,0,0,0,0,0,0,0,0⟩
def wAt(l:List Ev):Nat->Int->List Pk
 | 0=>λ_=>[]
 | i+1=>yg (wAt l i) (l.getD i default)
def mA(l:List Ev):Nat->Ev
 | 0=>mz
 | i+1=>l.getD i default
def Qbk(l:List Ev):Nat->Int
 | 0=>0
 | i+1=>if (l.getD i default).J9 then Qbk l i else (l.getD i default).done
def mB(x:Cf)(W:Int->List Pk)(a:Ev)(done:Int)(e:Ev):Nat->Bool
 | 0=>decide (e.op<0\/e.op<a.op\/e.cls<1)
 | 1=>decide (e.at_<a.at_\/4611686018427387904<e.at_)
 | 2=>Ae e.pk x.JI != 0
 | 3=>e.J9&&(e.done != 0 || e.real)
 | 4=>!e.J9&&(W e.cls).length==0
 | 5=>!e.J9&&!RD ((W e.cls).getD 0 default) e.pk
 | 6=>!e.J9&&decide (e.at_<done)
 | _=>!e.J9&&e.done != IntKind.u64.wrap (e.at_+xh e.pk x.t)
def qAt(x:Cf)(l:List Ev)(i k:Nat):Bool:=mB x (wAt l i) (mA l i) (Qbk l i) (l.getD i default) k
def QDq:Nat->Int
 | 0=>1
 | 1=>27
 | 2=>26
 | 3=>4
 | 4=>6
 | 5=>8
 | 6=>24
 | _=>20
section
end
end Go.Fg.X
namespace Go.Fg.X
open Go.Proofs Go.Fg
open Go.Proofs.Tryz
def QDr(l:List Pk):D:=.imm 6 l.length (Pk.rows l)
attribute [go_sem] QDr
end Go.Fg.X
namespace Go.Fg.X
open Go.Proofs Go.Fg
open Go.Proofs.Tryz
def QlT(x:Cf)(l:List Ev)(i:Nat):Option Nat:=(List.range 8).find? (qAt x l i)
def QDs(x:Cf)(l:List Ev):Option Nat:=(List.range l.length).find? λi=>(QlT x l i).isSome
def Qbm(x:Cf)(l:List Ev):Int × Int:=if 1<=x.t/\x.t<=65536/\1<=x.JI/\x.JI<=16384 then (match QDs x l with
 | some i=>(i,match QlT x l i with
  | some k=>QDq k
  | none=>0)
 | none=>(0,0)) else (0,7)
def lA:Ev:=⟨0,true,false,5,0,3,7,100,0,0,0,0⟩
def lB:Ev:=⟨0,false,false,5,105,3,7,100,0,0,0,0⟩
def lC:Ev:=⟨0,false,false,5,104,3,7,100,0,0,0,0⟩
def lX:Cf:=⟨1,100⟩
def v1:Qbm lX [lA,lB]=(0,0):=π
def v2:Qbm lX [lA,lC]=(1,20):=π
def v3:Qbm lX [lB]=(0,6):=π
def Gs(d:Int)(e:Ev):Int:=if e.J9=true then d else e.done
def Nt(x:Cf):(Int->List Pk)->Ev->Int->List Ev->Prop
 | _,_,_,[]=>True
 | W,a,d,e::l=>(∀k,k<8->mB x W a d e k=false)/\Nt x (yg W e) e (Gs d e) l
def QlU(x):∀(l m:List Ev) (W:Int->List Pk) (a:Ev) (d:Int),Nt x W a d l->Nt x (l.foldl yg W) (l.foldl (λ_ e=>e) a) (l.foldl Gs d) m->Nt x W a d (l++m)
 | [],m,W,a,d,_,h=>h
 | e::l,m,W,a,d,b,c=>⟨b.1,QlU x l m _ _ _ b.2 c⟩
def QlV(l:List Ev):∀k,k<=l.length->wAt l k=(l.take k).foldl yg (λ_=>[])/\mA l k=(l.take k).foldl (λ_ e=>e) mz/\Qbk l k=(l.take k).foldl Gs 0
 | 0,_=>⟨rfl,rfl,rfl⟩
 | k+1,h=>by
  obtain⟨b,c,a⟩:=QlV l k ω;rw[getD_take _ default _ ω,qd,qd,qd,<- b,<- a];exact⟨rfl,rfl,rfl⟩
def QlW(x):∀(l:List Ev) (W:Int->List Pk) (a:Ev) (d:Int),Nt x W a d l->∀i,i<l.length->∀k,k<8->mB x ((l.take i).foldl yg W) ((l.take i).foldl (λ_ e=>e) a) ((l.take i).foldl Gs d) (l.getD i default) k=false
 | [],_,_,_,_,i,c,_,_=>absurd c (X2 i)
 | e::l,W,a,d,h,0,_,k,b=>h.1 k b
 | e::l,W,a,d,h,i+1,c,k,b=>QlW x l _ _ _ h.2 i (by simpa using c) k b
def QDt{x}{l:List Ev}(h:Nt x (λ_=>[]) mz 0 l){i}(b:i<l.length){k}(a:k<8):qAt x l i k=false:=by
 obtain⟨e,d,c⟩:=QlV l i ω;unfold qAt;rw[e,d,c];exact QlW x l _ _ _ h i b k a
structure Gt (x:Cf) (W:Int->List Pk) (a:Ev) (d:Int) (S:ZE):Prop where
 w:∀j,W j=Zs S.M j
 d:d=S.JW
 at_:a.at_<=S.Qh
 o0:a.op<=S.ops
 lk:S.M.lk=x
structure Gu (x:Cf) (W:Int->List Pk) (a:Ev) (d:Int) (l:List Ev) (S':ZE):Prop where
 ok:Nt x W a d l
 st:Gt x (l.foldl yg W) (l.foldl (λ_ e=>e) a) (l.foldl Gs d) S'
def QDu(p:Pk):RD p p=true:=(QDm p p).2 rfl
def QlX{x:Cf}(K:W8 x){p:Pk}(h:1<=p.len/\p.len<=x.JI):Ae p x.JI=0:=by
 have:=K.l1;have:=K.l2;unfold Ae;rw[Qd ω,Qd ω]
def QDv{x:Cf}(K:W8 x){p:Pk}(h:1<=p.len/\p.len<=x.JI):xh p x.t=Y7 x p.len:=by
 have d:=K.t1;have c:=K.t2;have b:=K.l2;have e:=ag K h;have a:((Y7 x p.len:Nat):Int)=p.len*x.t:=by
  unfold Y7;rw[EF,EG ω,EG ω]
 unfold xh;rw[Qe ω,<- a,IntKind.wrap_u64];omega
def QlY{x}{S:ZE}(T:Z5 S){W}{a:Ev}{d}(A:Gt x W a d S){op}(t:op<=S.ops)(v:a.op<=op):Gu x W a d (Jk S op S.Qh).2 (Jk S op S.Qh).1/\(∀e∈(Jk S op S.Qh).2,e.op=op):=by
 refine⟨?_,QC2 S op S.Qh⟩;unfold Jk;split
 .exact⟨trivial,A⟩
 .rename_i r;split
  .rename_i h;have b:=T.take_len h;obtain⟨y,L,i,m⟩:=lJ T.I T.V h;have f:W8 x:=A.lk▸T.K;rw[A.lk]at b;have s:=ag f b;have w:=T.cl;have p:=T.un;have q:=QlR T.I (j:=WJ S.M S.Qh) (by rw[i];exact List.cons_ne_nil _ _);have c:=A.w (WJ S.M S.Qh);rw[i]at c;rw[<- m]at c;have z:=A.at_;have u:=A.d;refine⟨⟨λk o=>?_,trivial⟩,?_,?_,?_,?_,?_⟩
   .have l:W (WJ S.M S.Qh)=Vn S.M S.Qh::L:=c;match k,o with
    | 0,_=>exact QH (by show ¬((op:Int)<0\/(op:Int)<a.op\/WJ S.M S.Qh<1);omega)
    | 1,_=>exact QH (by show ¬((S.Qh:Int)<a.at_\/4611686018427387904<(S.Qh:Int));omega)
    | 2,_=>show (Ae (Vn S.M S.Qh) x.JI != 0)=false;rw[QlX f b];rfl
    | 3,_=>rfl
    | 4,_=>show ((W (WJ S.M S.Qh)).length==0)=false;rw[l];rfl
    | 5,_=>show (!RD ((W (WJ S.M S.Qh)).getD 0 default) (Vn S.M S.Qh))=false;rw[l];show (!RD (Vn S.M S.Qh) (Vn S.M S.Qh))=false;rw[QDu];rfl
    | 6,_=>exact QH (by show ¬((S.Qh:Int)<d);omega)
    | 7,_=>
     show (((S.Qh+Y7 S.M.lk (Vn S.M S.Qh).len:Nat):Int) != IntKind.u64.wrap ((S.Qh:Int)+xh (Vn S.M S.Qh) x.t))=false;rw[QDv f b,A.lk,IntKind.wrap_u64];refine QtR ?_;omega
    | n+8,h=>exact absurd h ω
   .intro j;show yg W (Eu op (By S.M S.Qh) S.Qh (S.Qh+Y7 S.M.lk (Vn S.M S.Qh).len) (WJ S.M S.Qh) (Vn S.M S.Qh)) j=Zs (takeN S.M S.Qh) j;rw[Es];unfold yg;by_cases e:j=WJ S.M S.Qh
    .rw[Qe (show j=(Eu op (By S.M S.Qh) S.Qh (S.Qh+Y7 S.M.lk (Vn S.M S.Qh).len) (WJ S.M S.Qh) (Vn S.M S.Qh)).cls from e),Qe (show YE S.M S.Qh=true/\WJ S.M S.Qh=j from ⟨h,e.symm⟩),A.w j];rfl
    .rw[Qd (show ¬j=(Eu op (By S.M S.Qh) S.Qh (S.Qh+Y7 S.M.lk (Vn S.M S.Qh).len) (WJ S.M S.Qh) (Vn S.M S.Qh)).cls from e),Qd (show ¬(YE S.M S.Qh=true/\WJ S.M S.Qh=j) from λg=>e g.2.symm)];exact A.w j
   .rfl
   .show ((S.Qh:Nat):Int)<=(S.Qh:Nat);omega
   .show ((op:Nat):Int)<=(S.ops:Nat);omega
   .exact(Ih _ _).trans A.lk
  .rename_i h;refine⟨trivial,⟨λj=>?_,A.d,A.at_,A.o0,(Ih _ _).trans A.lk⟩⟩;show W j=Zs (takeN S.M S.Qh) j;rw[Es,Qd λg=>h g.1];exact A.w j
def QDw{l:List Ev}{a:Ev}{c:Nat}(h:∀e∈l,e.op=c)(g:a.op<=c):(l.foldl (λ_ e=>e) a).op<=c:=by
 induction l generalizing a with
 | nil=>exact g
 | cons e l d=>exact d (λb f=>h b (Ki _ f)) (Int.le_of_eq (h e Kx))
def Gu.app{x}{W}{a}{d}{l m:List Ev}{c b}(A:Gu x W a d l c)(B:Gu x (l.foldl yg W) (l.foldl (λ_ e=>e) a) (l.foldl Gs d) m b):Gu x W a d (l++m) b:=
 ⟨QlU x l m W a d A.ok B.ok,by rw[qd,qd,qd];exact B.st⟩
def QlZ{x}{b e}(k:e<=4611686018427387904):∀(n:Nat) {S:ZE} {W:Int->List Pk} {a:Ev} {d:Int},Z5 S->S.Qh<=e->Gt x W a d S->b<=S.ops->a.op<=b->Gu x W a d (JY b e n S).2 (JY b e n S).1
 | 0,S,W,a,d,T,h,A,_,_=>⟨trivial,⟨A.w,A.d,by have:=A.at_;show a.at_<=(e:Nat);omega,A.o0,A.lk⟩⟩
 | n+1,S,W,a,d,T,h,A,c,g=>by
  have r:=A.at_;unfold JY;split
  .exact⟨trivial,⟨A.w,A.d,by show a.at_<=(e:Nat);omega,A.o0,A.lk⟩⟩
  .rename_i q;have l:=Rj S T.cl;have i:=T.at_ l (show Q1 S<=4611686018427387904 from ω);have p:Gt x W a d { S with Qh:=Q1 S }:=⟨A.w,A.d,by show a.at_<=(Q1 S:Nat);omega,A.o0,A.lk⟩;obtain⟨j,o⟩:=QlY i p c g;have m:=i.Ii b;have f:=Nb { S with Qh:=Q1 S } b (Q1 S);have R:=QlZ k n m (by
    have:=f.1;show (Jk { S with Qh:=Q1 S } b (Q1 S)).1.Qh<=e;rw[this];show Q1 S<=e;omega) j.st (by show b<=(Jk { S with Qh:=Q1 S } b (Q1 S)).1.ops;rw[f.2.1];exact c) (QDw o g)
   exact j.app R
def QDx{x}{S}(T:Z5 S){W}{a}{d}(A:Gt x W a d S){o:Zd}(r:∀c∈o.changes,Z4.Ok c):Gu x W a d (JN S o).l (JN S o).S:=by
 have b:Gt x W a d { S with ops:=S.ops+1 }:=⟨A.w,A.d,A.at_,by have:=A.o0;show a.op<=((S.ops+1:Nat):Int);omega,A.lk⟩;have t:=A.o0;show Gu x W a d (Km { S with ops:=S.ops+1 } S.ops o).l (Km { S with ops:=S.ops+1 } S.ops o).S;unfold Km;split
 .exact⟨trivial,⟨λj=>(A.w j).trans (QDl T.I T.V _ r j).symm,b.d,b.at_,b.o0,(Ri _ _ _).trans A.lk⟩⟩
 .split
  .split
   .exact⟨trivial,⟨b.w,b.d,b.at_,b.o0,b.lk⟩⟩
   .exact⟨trivial,b⟩
  .split
   .unfold Yo;split
    .exact⟨trivial,b⟩
    .split
     .rename_i g;have g:qI S.M S.Qh (Jn S.R (Zu o.ZA)) o.ZA=0:=g;have p:=(T.ops (S.ops+1)).put (Jn S.R (Zu o.ZA)) o.ZA;have w:=p.Jd (Jn S.R (Zu o.ZA)) S.Qh (by have:=T.cl;omega);have l:=Qaz g;rw[A.lk]at l;have s:W8 x:=A.lk▸T.K;have B:=T.cl;have C:=A.at_;have i:∀j,Zs (Jg S.M S.Qh (Jn S.R (Zu o.ZA)) o.ZA) j=if Jn S.R (Zu o.ZA)=j then Zs S.M j++[o.ZA] else Zs S.M j:=λj=>by
       rw[Gg];by_cases e:Jn S.R (Zu o.ZA)=j
       .rw[Qe ⟨g,e⟩,Qe e]
       .rw[Qd λh=>e h.2,Qd e]
      have z:=QlR p.I (j:=Jn S.R (Zu o.ZA)) (by show Zs (Jg S.M S.Qh (Jn S.R (Zu o.ZA)) o.ZA) _≠[];rw[i,Qe rfl];simp);obtain⟨E,f⟩:∃E,E=Bz S.ops S.Qh (Jn S.R (Zu o.ZA)) o.ZA:=⟨_,rfl⟩;have y:Gt x (yg W E) E d { { S with ops:=S.ops+1 } with M:=Jg S.M S.Qh (Jn S.R (Zu o.ZA)) o.ZA,st:=w9 S.st (Jn S.R (Zu o.ZA)) S.Qh }:=by
       refine⟨λj=>?_,A.d,?_,?_,(If _ _ _ _).trans A.lk⟩
       .show yg W E j=Zs (Jg S.M S.Qh (Jn S.R (Zu o.ZA)) o.ZA) j;rw[i];unfold yg;subst f;by_cases e:Jn S.R (Zu o.ZA)=j
        .rw[Qe e,Qe (show j=(Bz S.ops S.Qh (Jn S.R (Zu o.ZA)) o.ZA).cls from e.symm),A.w j];rfl
        .rw[Qd e,Qd (show ¬j=(Bz S.ops S.Qh (Jn S.R (Zu o.ZA)) o.ZA).cls from λh=>e h.symm)];exact A.w j
       .subst f;show ((S.Qh:Nat):Int)<=(S.Qh:Nat);omega
       .subst f;show ((S.ops:Nat):Int)<=((S.ops+1:Nat):Int);omega
      obtain⟨q,_⟩:=QlY w y (op:=S.ops) (IM _) (by subst f;exact Int.le_refl _);have u:∀k,k<8->mB x W a d E k=false:=λk v=>by
       subst f;match k,v with
       | 0,_=>exact QH (by show ¬((S.ops:Int)<0\/(S.ops:Int)<a.op\/Jn S.R (Zu o.ZA)<1);omega)
       | 1,_=>exact QH (by show ¬((S.Qh:Int)<a.at_\/4611686018427387904<(S.Qh:Int));omega)
       | 2,_=>show (Ae o.ZA x.JI != 0)=false;rw[QlX s l];rfl
       | 3,_=>rfl
       | 4,_=>rfl
       | 5,_=>rfl
       | 6,_=>rfl
       | 7,_=>rfl
       | n+8,h=>exact absurd h ω
      have m:Gs d E=d:=by subst f;rfl
      rw[<- f];refine⟨⟨u,?_⟩,?_⟩
      .rw[m];exact q.ok
      .show Gt x (List.foldl yg (yg W E) _) (List.foldl _ E _) (List.foldl Gs (Gs d E) _) _;rw[m];exact q.st
     .rename_i g;refine⟨trivial,⟨λj=>?_,b.d,b.at_,b.o0,(If _ _ _ _).trans A.lk⟩⟩;show W j=Zs (Jg S.M S.Qh (Jn S.R (Zu o.ZA)) o.ZA) j;rw[Gg,Qd λh=>g h.1];exact A.w j
   .split
    .unfold Yn;split
     .exact⟨trivial,b⟩
     .rename_i Qc;have:=T.cl;have Qc:¬(4611686018427387904 - S.Qh<o.KM.toNat):=Qc;exact QlZ (S:={ S with ops:=S.ops+1 }) (by show S.Qh+o.KM.toNat<=_;omega) _ (T.ops _) (by show S.Qh<=S.Qh+_;omega) b (IM _) t
    .exact⟨trivial,b⟩
def Ql0{x}:∀(l:List Zd) {S:ZE} {W:Int->List Pk} {a:Ev} {d:Int},Z5 S->Gt x W a d S->(∀o∈l,Zd.Ok o)->Gu x W a d (ZH S l).2.2 (ZH S l).1
 | [],S,W,a,d,T,A,c=>⟨trivial,A⟩
 | o::l,S,W,a,d,T,A,c=>by
  have e:=(c o Kx).2.1.2;have f:=QDx T A e;exact f.app (Ql0 l (T.do e) f.st λb g=>c b (Ki _ g))
def QDy(W:Int->List Pk)(a:List Int):Nat:=(a.map λn=>(W n).length).sum
structure QDz (T:List Qm) (u:Int) (c:Nc) (lv:List Int):Prop where
 ul:UlC c
 Y0:∀j k,Qy T j=some k->k.leaf=true->(j∈lv↔u∈up T j)
 free:∀j∈lv,∀k,Qy T j=some k->¬1<QJ k.rt/\1<QJ k.ls
 nd:lv.Nodup
structure QIv (T:List Qm) (u:Int) (c:Nc) (lm:Nat) (lv:List Int) (s:Gh) (S:ZE):Prop where
 T:S.M.T=T
 n:s.n=QDy (Zs S.M) lv
 lm:S.M.lk.JI.toNat=lm
 Sw:∃m,Qk S.M.N u=some m/\Ka m.c.ul=c/\QDj c s.g s.k S.Qh m.Z7 m.cp
section
variable {T:List Qm}{u:Int}{c:Nc}{lm:Nat}{lv:List Int}(CT:QDz T u c lv)
include CT
end
end Go.Fg.X
namespace Go.Fg.X.SP
open Go.Proofs Go.Fg
open Go.Proofs.Tryz
structure Sp where
 frm:Int
 to:Int
 fst:Int
 lst:Int
 opn:Bool
instance:Inhabited Sp:=⟨⟨0,0,0,0,false⟩⟩
@[go_sem] def Sp.cells(s:Sp):List D:=[.raw (.int .u64 s.frm),.raw (.int .u64 s.to),.raw (.int .i64 s.fst),.raw (.int .i64 s.lst),.raw (.bool s.opn)]
end Go.Fg.X.SP
namespace Go.Fg.X
open Go.Proofs Go.Fg Go.Fg.X.SP
open Go.Proofs.Tryz
def Ev.bN(e:Ev):Nat:=e.len.toNat
def QDC(a:List Int)(e:Ev):Bool:=!e.J9&&a.contains e.cls
def pk(a:List Int)(l:List Ev)(F:Int):Nat->Nat
 | 0=>0
 | k+1=>if F<(k:Int)/\QDC a (l.getD k default)=true then (pk a l F k+(l.getD k default).bN) % 18446744073709551616 else pk a l F k
structure EvL (lv:List Int) (l:List Ev):Prop where
 at0:∀e∈l,0<=e.at_
 inc:∀i j,i<=j->j<l.length->(l.getD i default).at_<=(l.getD j default).at_
 len:∀e∈l,e.J9=false->0<=e.len/\e.len<=16384
 BD:l.length<100000000
section
variable {c:Nc}{lm:Nat}{lv:List Int}{l:List Ev}(E:EvL lv l)(H:QlQ c lm lv ⟨0,[],0⟩ l)
include E H
end
def QDE{S:ZE}{o:Zd}(f:o.kind≠1):(JN S o).S.M.T=S.M.T:=by
 have c:∀(S:ZE) (a b:Nat),(Jk S a b).1.M.T=S.M.T:=λS a b=>by
  unfold Jk;split
  .rfl
  .split
   .exact Ig _ _
   .exact Ig _ _
 have g:∀(a e n:Nat) (S:ZE),(JY a e n S).1.M.T=S.M.T:=λa e n=>by
  induction n with
  | zero=>intro S;rfl
  | succ n d=>
   intro S;unfold JY;split
   .rfl
   .exact(d _).trans (c _ _ _)
 unfold JN Km;rw[Qd f];split
 .split<;>rfl
 .split
  .unfold Yo;split
   .rfl
   .split
    .exact(c _ _ _).trans (Gr _ _ _ _)
    .exact Gr _ _ _ _
  .split
   .unfold Yn;split
    .rfl
    .exact g _ _ _ _
   .rfl
def Ql1:∀(l:List Zd) (S:ZE),(∀o∈l,o.kind≠1)->(ZH S l).1.M.T=S.M.T
 | [],S,_=>rfl
 | o::l,S,h=>(Ql1 l _ λb a=>h b (Ki _ a)).trans (QDE (h o Kx))
end Go.Fg.X
namespace Go.Fg.X
open Go.Proofs Go.Fg
open Go.Proofs.Tryz
def QDF{c:Cf}{o:Zd}(a:o.kind=1)(b:YD [] c.t o.changes=0):(JN (S0 c) o).S.M.T=Jm [] o.changes:=by
 have d:Y3 (M0 c) true o.changes=0:=by
  unfold Y3;rw[Qd (show ¬ YD (M0 c).T (M0 c).lk.t o.changes≠0 from λh=>h b)];rw[Qd];intro h;unfold je at h;rw[yi]at h;rcases h with h|h
  .obtain⟨x,_,h⟩:=vY.1 h;cases h
  .rw[ZL]at h;have f:(false || decide (0<0))=true:=h.2;exact absurd f π
 have e:(JN (S0 c) o).S.M=J4 (M0 c) true o.changes:=by
  show (Km { S0 c with ops:=1 } 0 o).S.M=_;unfold Km;simp only[Qe a];rfl
 rw[e];unfold J4;rw[Qe d];exact(HY (T2:=Jm [] o.changes) (Kb (M0 c).T (Jm [] o.changes)) { M0 c with T:=Jm [] o.changes }).1
def QDG{c:Cf}{ops:List Zd}(f:0<ops.length)(d:(ops.getD 0 default).kind=1)(e:YD [] c.t (ops.getD 0 default).changes=0)(b:∀o∈ops.tail,o.kind≠1):
  (ZH (S0 c) ops).1.M.T=Jm [] (ops.getD 0 default).changes/\(ZH (S0 c) (ops.take 1)).1.M.T=Jm [] (ops.getD 0 default).changes:=by
 cases ops with
 | nil=>cases f
 | cons o l=>
  have a:=QDF (c:=c) (o:=o) d e;exact⟨(Ql1 l _ b).trans a,a⟩
def ji(t:Nat)(o:Zd):Nat:=if o.kind=4/\o.KM.toNat<=4611686018427387904 - t then t+o.KM.toNat else t
def QDH(S:ZE)(o:Zd):(JN S o).S.Qh=ji S.Qh o:=by
 have e:¬ o.kind=4->ji S.Qh o=S.Qh:=λh=>by unfold ji;rw[Qd λf=>h f.1]
 by_cases a:o.kind=1
 .rw[e (by rw[a];decide)];unfold JN Km;rw[Qe a]
 by_cases c:o.kind=2
 .rw[e (by rw[c];decide)];unfold JN Km;rw[Qd a,Qe c];split<;>rfl
 by_cases d:o.kind=3
 .rw[e (by rw[d];decide)];unfold JN Km;rw[Qd a,Qd c,Qe d];unfold Yo;split
  .rfl
  .split
   .exact(Nb _ _ _).1
   .rfl
 unfold JN Km ji;rw[Qd a,Qd c,Qd d];by_cases b:o.kind=4
 .rw[Qe b];unfold Yn;split
  .rename_i h;have h:4611686018427387904 - S.Qh<o.KM.toNat:=h;rw[Qd λf=>ω]
  .rename_i h;have h:¬ 4611686018427387904 - S.Qh<o.KM.toNat:=h;rw[Qe ⟨b,ω⟩];exact(QaA _ _ _ _).2
 .rw[Qd b,Qd λh=>b h.1]
def Ql2:∀(l:List Zd) (S:ZE),(ZH S l).1.Qh=l.foldl ji S.Qh
 | [],S=>rfl
 | o::l,S=>by rw[ZH,v8,<- QDH];exact Ql2 l _
def Ql3{l:List Zd}:BE l=true↔∀k,k<l.length->0<k->(l.getD k default).kind≠1:=by
 refine⟨λh k b d=>still_at h b d,λh=>?_⟩;unfold BE;rw[zC];intro o a;obtain⟨i,c,rfl⟩:=xl a;rw[aZ]at c;have:=h (i+1) ω ω;rw[List.getElem_drop];rw[QY,QG ω]at this;have e:1+i=i+1:=NC 1 i;simp only[e];simpa using this
def qO(c:Qm):Bool:=!(c.leaf&&!decide (1<QJ c.ls) || decide (1<QJ c.ul))
def QDI{T:List Qm}:T.all qO=true↔Ez T:=by
 rw[zC];constructor
 .intro h;refine⟨λc a d=>?_,λc a b=>?_⟩
  .have:=h c a;unfold qO at this;simp[d]at this
  .have:=h c a;unfold qO at this;rw[b]at this;simp at this;omega
 .intro P c a;have d:=P.ul c a;have e:=P.ls c a;unfold qO;cases b:c.leaf with
  | true=>have:=e b;simp;omega
  | false=>simp;omega
def QDJ(x:WU)(m:Nat)(d:m<1000000):QI prog 7 [.agg x.cells,Qb m] (QO (QX (MY x.config&&BD x m))):=by
 have c:=QBg x.config;have e:=QCT x m d;cases h:MY x.config with
 | false=>
  rw[h]at c;refine QZ 0 func7 ntmps7 results7 λb w a=>?_;simp only[go_sem];refine ZO a QeP ?_ c ?_
  .simp only[go_sem,Go.undef]
  apply Qf a;simp only[go_sem,Go.undef]
 | true=>
  rw[h]at c;refine QZ 0 func7 ntmps7 results7 λb w a=>?_;simp only[go_sem];refine ZO a QeP ?_ c ?_
  .simp only[go_sem,Go.undef]
  apply Qf a;simp only[go_sem,Go.undef];refine ZO a QrK ?_ e ?_
  .simp only[go_sem,Go.undef]
  apply Qf a;simp only[go_sem,Go.undef]
def Ag(l:List Zd)(n:Nat):Nat->Nat
 | 0=>0
 | k+1=>if k<n then ji (Ag l n k) (l.getD k default) else Ag l n k
def QDK{t}{o}(h:t<=4611686018427387904):ji t o<=4611686018427387904:=by
 unfold ji;split<;>omega
def Ql4(l:List Zd)(n):∀k,Ag l n k<=4611686018427387904
 | 0=>Jj _
 | k+1=>by
  have:=Ql4 l n k;simp only[Ag];split
  .exact QDK this
  .exact this
def Ql5(l:List Zd)(n):∀k,k<=l.length->Ag l n k=(l.take (min k n)).foldl ji 0
 | 0,_=>by rw[Nat.zero_min];rfl
 | k+1,h=>by
  show (if k<n then ji (Ag l n k) (l.getD k default) else Ag l n k)=_;rw[Ql5 l n k ω];split
  .rename_i a;rw[NH ω,NH ω,QlM l ω,qd];rfl
  .rename_i a;rw[NI ω,NI ω]
def QDL(x:WU)(n:Nat)(H:x.ops.length<2147483648)(C:n<=x.ops.length)(B:∀a∈x.ops,Zd.Ok a):QI prog 11 [.agg x.cells,Qb n] (QO (u64 ((x.ops.take n).foldl ji 0))):=by
 have v:=Ql5 x.ops n x.ops.length (QB _);rw[NI C]at v;refine QZ 0 func11 ntmps11 results11 λy w u=>?_;simp only[go_sem];refine yB (G:=Nat) [1,9,10] (λk=>True) (λk e=>[(5,u64 (Ag x.ops n k)),(11,Qb k)]) (λk e=>[]) (x.ops.length) (0) rfl (Qr.to 0 (by (simp only[go_sem,Ag,YV])<;>simp)) trivial ?_;intro k e s _;apply QV u;have q:=JT (show k<4611686018427387904 from ω);have E:=Ql4 x.ops n k;first|refine WS s (λd=>?_) (λd=>?_)|refine WT s (λd=>?_) (λd=>?_)
 .have b:Ag x.ops n (k+1)=if k<n then ji (Ag x.ops n k) (x.ops.getD k default) else Ag x.ops n k:=rfl;obtain⟨o,f⟩:∃o,o=x.ops.getD k default:=⟨_,rfl⟩;have Jf:Zd.Ok o:=B o (by rw[f];exact Yx x.ops default k d);have F:=wf_u64 Jf.2.2.2.2.1;obtain⟨i,p⟩:∃t:Nat,o.KM=t:=⟨o.KM.toNat,ω⟩;rw[<- f]at b;generalize Ag x.ops n k=c at *;by_cases m:k<n
  .have d1:=QT m;rw[Qe m]at b;by_cases l:o.kind=4
   .have d2:=WC l;have r:IntKind.u64.wrap (4611686018427387904 - (c:Int))=((4611686018427387904 - c:Nat):Int):=η;by_cases j:i<=4611686018427387904 - c
    .have d3:=QT j;have z:IntKind.u64.wrap ((c:Int)+(i:Int))=((c+i:Nat):Int):=η;have g:ji c o=c+i:=by unfold ji;rw[p];exact Qe ⟨l,by rw[IC];exact j⟩
     rw[g]at b;simp only[go_sem,d,<- f,d1,d2,p,r,d3,Go.undef,z];repeat (refine And.intro δ ?_)
     refine⟨_,Qr.to 0 (by (simp only[go_sem,q,b])<;>simp),Vi.mk (e) (trivial)⟩
    .have d3:=QH j;have g:ji c o=c:=by unfold ji;rw[p];exact Qd λh=>j (by have:=h.2;rwa [IC]at this)
     rw[g]at b;simp only[go_sem,d,<- f,d1,d2,p,r,d3,Go.undef];repeat (refine And.intro δ ?_)
     refine⟨_,Qr.to 0 (by (simp only[go_sem,q,b])<;>simp),Vi.mk (e) (trivial)⟩
   .have d2:=VU l;have g:ji c o=c:=by unfold ji;exact Qd λh=>l h.1
    rw[g]at b;simp only[go_sem,d,<- f,d1,d2,Go.undef];repeat (refine And.intro δ ?_)
    refine⟨_,Qr.to 0 (by (simp only[go_sem,q,b])<;>simp),Vi.mk (e) (trivial)⟩
  .have d1:=QH m;rw[Qd m]at b;simp only[go_sem,d,<- f,d1,Go.undef];repeat (refine And.intro δ ?_)
   refine⟨_,Qr.to 0 (by (simp only[go_sem,q,b])<;>simp),Vi.mk (e) (trivial)⟩
 .simp only[go_sem];subst d;apply Qf u;simp only[go_sem,v]
def QDM(T:List Qm)(z:T.length<1000000)(x:∀c∈T,c.Nn):QI prog 17 [Vm T] (QO (QX (T.all qO))):=by
 refine QZ 0 func17 ntmps17 results17 λv w b=>?_;simp only[go_sem];refine yB (G:=Nat) [5,6] (λk=>∀j,j<k->qO (T.getD j default)=true) (λk o=>[(7,Qb k)]) (λk o=>[]) (T.length) (0) rfl (Qr.to 0 (by (simp only[go_sem])<;>simp)) ?_ ?_
 .intro j r;omega
 intro k o q u;apply QV b;have t:=JT (show k<4611686018427387904 from ω);first|refine WS q (λd=>?_) (λd=>?_)|refine WT q (λd=>?_) (λd=>?_)
 .obtain⟨c,f⟩:∃c,c=T.getD k default:=⟨_,rfl⟩;have i:=x c (by rw[f];exact Yx T default k d);have l:=DJ c.ls i.2.1.1 i.2.1.2.1 i.2.1.2.2;have n:=DJ c.ul i.2.2.1 i.2.2.2.1 i.2.2.2.2;have p:qO c=true->∀j,j<k+1->qO (T.getD j default)=true:=λh j r=>by
   rcases xo.1 r with g|rfl
   .exact u j g
   .rw[<- f];exact h
  have m:qO c=false->T.all qO=false:=λh=>by
   rw[jj];intro y;have:=(mu T default qO).1 y k d;rw[<- f,h]at this;cases this
  by_cases s:1<QJ c.ul
  .have d2:=QT s;have e:qO c=false:=by unfold qO;rw[d2];simp
   cases a:c.leaf
   .simp only[go_sem,d,<- f,a,Go.undef];refine ZO b qY ?_ n ?_
    .simp only[go_sem,a,Go.undef,d2]
    apply Qf b;simp only[go_sem,a,Go.undef,d2];rw[m e]
   .by_cases g:QJ c.ls<2
    .have d1:=QT g;simp only[go_sem,d,<- f,a,Go.undef];refine ZO b qY ?_ l ?_
     .simp only[go_sem,a,Go.undef,d1]
     apply Qf b;simp only[go_sem,a,Go.undef,d1];rw[m e]
    .have d1:=QH g;simp only[go_sem,d,<- f,a,Go.undef];refine ZO b qY ?_ l ?_
     .simp only[go_sem,a,Go.undef,d1]
     apply Qf b;simp only[go_sem,a,Go.undef,d1];refine ZO b qY ?_ n ?_
     .simp only[go_sem,a,Go.undef,d2]
     apply Qf b;simp only[go_sem,a,Go.undef,d2];rw[m e]
  .have d2:=QH s;cases a:c.leaf
   .have e:qO c=true:=by unfold qO;rw[d2,a];rfl
    simp only[go_sem,d,<- f,a,Go.undef];refine ZO b qY ?_ n ?_
    .simp only[go_sem,a,Go.undef,d2]
    apply Qf b;simp only[go_sem,a,Go.undef,d2];repeat (refine And.intro δ ?_)
    refine⟨_,Qr.to 0 (by (simp only[go_sem,t])<;>simp),Vi.mk (0) (p e)⟩
   .by_cases g:QJ c.ls<2
    .have d1:=QT g;have e:qO c=false:=by unfold qO;rw[d2,a,QH (show ¬ 1<QJ c.ls from ω)];rfl
     simp only[go_sem,d,<- f,a,Go.undef];refine ZO b qY ?_ l ?_
     .simp only[go_sem,a,Go.undef,d1]
     apply Qf b;simp only[go_sem,a,Go.undef,d1];rw[m e]
    .have d1:=QH g;have e:qO c=true:=by unfold qO;rw[d2,a,QT (show 1<QJ c.ls from ω)];rfl
     simp only[go_sem,d,<- f,a,Go.undef];refine ZO b qY ?_ l ?_
     .simp only[go_sem,a,Go.undef,d1]
     apply Qf b;simp only[go_sem,a,Go.undef,d1];refine ZO b qY ?_ n ?_
     .simp only[go_sem,a,Go.undef,d2]
     apply Qf b;simp only[go_sem,a,Go.undef,d2];repeat (refine And.intro δ ?_)
     refine⟨_,Qr.to 0 (by (simp only[go_sem,t])<;>simp),Vi.mk (0) (p e)⟩
 .simp only[go_sem];subst d;apply Qf b;simp only[go_sem,(mu T default qO).2 u]
end Go.Fg.X
namespace Go.Fg.X.SP
open Go.Proofs Go.Fg
open Go.Proofs.Tryz
def fV(l:List Int)(a)(j:l.length<2147483648):QI prog 31 [ints l,Qb a] (QO (QX (l.contains a))):=by
 refine QZ 0 func31 ntmps31 results31 λi w f=>?_;simp only[go_sem];refine Ls (λm s=>∃k:Nat,k+m=l.length/\(l.take k).contains a=false/\s=⟨[(1,Qb a),(7,ints l),(8,Qb l.length),(9,Qb k)],[]⟩) l.length (s0:=⟨[(1,Qb a),(7,ints l),(8,Qb l.length),(9,Qb 0)],[]⟩) QQ ⟨0,σ,σ,rfl⟩ ?_;rintro m s ⟨k,n,d,rfl⟩;apply QV f;refine Wu (λh=>?_) (λh=>?_)
 .have c:k<l.length:=by simpa using h
  have g:=getD_take l 0 k c;simp only[go_sem,c];refine Wu (λb=>?_) (λb=>?_)
  .simp only[go_sem];have:l.contains a=true:=by
    rw[<- De (k+1) l,g];simp at b ⊢;simp[b]
   rw[this]
  .simp only[go_sem];refine⟨m - 1,_,ω,Qr.frame (by simp only[go_sem,JT (show k<4611686018427387904 from ω)]),k+1,ω,?_,rfl⟩;rw[g];simp at d b ⊢;exact⟨d,λe=>b e.symm⟩
 .have c:k=l.length:=by simp at h;omega
  simp only[go_sem];apply QV f;subst c;simp at d;simp[d]
def indexOf(l:List Int)(v:Int):Int:=if l.contains v then (l.idxOf v:Nat) else -1
def QbK(l:List Int)(a)(n:l.length<2147483648):QI prog 140 [ints l,Qb a] (QO (Qb (indexOf l a))):=by
 refine QZ 0 func140 ntmps140 results140 λi w e=>?_;simp only[go_sem];refine ZW (λk s=>(l.take k).contains a=false/\s=⟨[(0,ints l),(1,Qb a),(6,ints l),(7,Qb l.length),(8,Qb k)],[]⟩) l.length (s0:=⟨[(0,ints l),(1,Qb a),(6,ints l),(7,Qb l.length),(8,Qb 0)],[]⟩) QQ ⟨σ,rfl⟩ ?_;rintro k s o ⟨c,rfl⟩;apply QV e;refine Wu (λh=>?_) (λh=>?_)
 .have d:k<l.length:=by simpa using h
  have g:=getD_take l 0 k d;simp only[go_sem,d];refine Wu (λb=>?_) (λb=>?_)
  .simp only[go_sem];have f:l=l.take k++a::l.drop (k+1):=by
    conv=>lhs;rw[<- De (k+1) l,g]
    simp at b;simp[b]
   have:indexOf l a=k:=by
    have j:l.contains a=true:=by rw[f];simp
    have m:¬ a∈l.take k:=by simpa using c
    rw[indexOf,j];simp only[Vp];rw[f,List.idxOf_append,Qd m];simp;omega
   rw[this]
  .simp only[go_sem];refine⟨ω,_,Qr.frame (by simp only[go_sem,JT (show k<4611686018427387904 from ω)]),?_,rfl⟩;rw[g];simp at c b ⊢;exact⟨c,b⟩
 .have d:k=l.length:=by simp at h;omega
  simp only[go_sem];apply QV e;subst d;simp at c;simp[indexOf,c]
end Go.Fg.X.SP
namespace Go.Fg.X
open Go.Proofs Go.Fg
open Go.Proofs.Tryz
section
variable (h:List Ob)(t m c:Nat){es:List ZF}{L:List Qm}(T:VF es L)(hE:∀n,Ends L 16 n)
 (ht:(h.map Ob.ro)[t]? = some ⟨.Wh,0,1,1,λ_=>[.mref m 0]⟩) (hm:(h.map Ob.ro)[m]? = some (QS .i64 c es).ro)
include T ht hm hE
end
section
variable (h:List Ob)(t m c:Nat){es:List ZF}{L:List Qm}(T:VF es L)(hlen:L.length<1000000)(hE:∀n,Ends L 16 n)
 (ht:(h.map Ob.ro)[t]? = some ⟨.Wh,0,1,1,λ_=>[.mref m 0]⟩) (hm:(h.map Ob.ro)[m]? = some (QS .i64 c es).ro)
include T ht hm hE hlen
end
@[go_sem] def QDN(c:Z4):D:=.agg c.cells
def EB(L:List Qm)(c:Z4):Int:=if c.kind=1 then F2 L c.cls else if c.kind=2 then CK L c.cls.iD else if c.kind=3 then MG L c.cls else 1
def RE(L:List Qm)(c:Z4):List Qm:=if EB L c=0 then (if c.kind=2 then Ww L c.cls.iD else CA L c.cls) else L
def QDO(L:List Qm)(c:Z4)(e:L.length<1000000)(g:∀c∈L,c.Nn)(f:c.cls.Nn):QI prog 36 [Vm L,QDN c] (QO (.agg [Vm (RE L c),Qb (EB L c)])):=by
 refine QZ 0 func36 ntmps36 results36 λi w a=>?_;simp only[go_sem]
 repeat' (first|((first|refine qu (λh=>?_) (λh=>?_)|refine qv (λh=>?_) (λh=>?_)|refine qw (λh=>?_) (λh=>?_)|refine Wu (λh=>?_) (λh=>?_)|refine qx (λh=>?_) (λh=>?_)|refine qy (λh=>?_) (λh=>?_)|refine qz (λh=>?_) (λh=>?_)|refine qp (λh=>?_) (λh=>?_))<;>(try simp only[go_sem,Go.undef]))|(refine And.intro δ ?_;try simp only[go_sem,Go.undef])|(refine Va a [] QrZ rfl ?_ (Qyn L c.cls e g f) rfl ?_;(· simp only[go_sem,Go.undef]);intro d h b;obtain⟨rfl,rfl⟩:=b;(simp only[go_sem,Go.undef]);apply Qf a;simp only[go_sem,Go.undef])|(refine Va a [] Qr0 rfl ?_ (Qyp L c.cls.iD e) rfl ?_;(· simp only[go_sem,Go.undef]);intro d h b;obtain⟨rfl,rfl⟩:=b;(simp only[go_sem,Go.undef]);apply Qf a;simp only[go_sem,Go.undef])|(refine Va a [] Qr1 rfl ?_ (Qyq L c.cls e g f) rfl ?_;(· simp only[go_sem,Go.undef]);intro d h b;obtain⟨rfl,rfl⟩:=b;(simp only[go_sem,Go.undef]);apply Qf a;simp only[go_sem,Go.undef])|fail)
 all_goals simp_all[RE,EB]
structure Ah (L:List Qm) (n:Nat):Prop where
 tree:TreeInv L
 nn:∀c∈L,c.Nn
 len:L.length<=n
def mD{L}{k}:q8 L k<0↔Qy L k=none:=by
 rcases TR L k with ⟨b,a⟩|⟨i,c,b,a⟩
 .rw[b,a];simp
 .rw[b,a];simp
def QDP{L}{n}(I:Ah L n)(a):ZT L 70 a=ZT L 16 a:=Qux (I.tree.ends a) π
def add_same{L}{n}(I:Ah L n)(x:Qm):vw L x (ZT L 16 x.parent).length=F2 L x:=by
 have b:=mD (L:=L) (k:=x.iD);have g:=mD (L:=L) (k:=x.parent);have m:=A7 (L:=L) (n:=16) (id:=x.parent);unfold vw F2;rw[QfL,QDP I];have j:((Qy L x.iD).isSome=true)=(0<=q8 L x.iD):=by
  rw[IQ];cases d:Qy L x.iD with
  | none=>rw[d]at b;simp at b ⊢;exact b
  | some c=>rw[d]at b;simp at b ⊢;exact b
 have i:((x.parent≠0/\(Qy L x.parent).isNone=true)\/((Qy L x.parent).getD default).leaf=true)=(x.parent≠0/\(q8 L x.parent<0\/((Qy L x.parent).getD default).leaf=true)):=by
  rw[IQ,g];cases d:Qy L x.parent with
  | none=>simp[default]
  | some c=>
   have e:x.parent≠0:=by
    intro e;obtain⟨f,l⟩:=(VH I.tree.rising).1 d;have:=I.tree.ids c f;omega
   simp[e]
 have h:((ZT L 16 x.parent).length=16)=(16<=(ZT L 16 x.parent).length):=by rw[IQ];omega
 simp only[j,i,h]
def Ql6{L}(k):wG L k=CK L k:=by
 have a:=mD (L:=L) (k:=k);unfold wG CK;have b:((Qy L k).isNone=true)=(q8 L k<0):=by rw[a,IQ];simp
 simp only[b]
def QDQ{L}(I:TreeInv L){k a}(h:a∈KE L k):a≠0:=by
 simp only[KE,Jl,JH]at h;obtain⟨c,⟨b,_⟩,rfl⟩:=h;have:=I.ids c b;omega
def any_congr{c:Type}{p q}:∀{l:List c},(∀a∈l,p a=q a)->l.any p=l.any q
 | [],_=>rfl
 | a::l,h=>by rw[List.any_cons,List.any_cons,h a σ,any_congr λb d=>h b (by simp[d])]
def Ql7{L}{n}(I:Ah L n)(x):wH L x=MG L x:=by
 have d:=mD (L:=L) (k:=x.iD);unfold wH MG;rw[QfL];have i:((Qy L x.iD).isNone=true)=(q8 L x.iD<0):=by rw[d,IQ];simp
 have g:(x.parent≠((Qy L x.iD).getD default).parent\/x.leaf≠((Qy L x.iD).getD default).leaf)=(¬ (((Qy L x.iD).getD default).parent=x.parent/\((Qy L x.iD).getD default).leaf=x.leaf)):=by
  rw[IQ,Decidable.not_and_iff_not_or_not];constructor<;>rintro (h|h)
  .exact .inl λe=>h e.symm
  .exact .inr λe=>h e.symm
  .exact .inl λe=>h e.symm
  .exact .inr λe=>h e.symm
 have f:((KE L x.iD).any (vA L))=((KE L x.iD).any λid=>Vl L id):=any_congr λa c=>by
  have:=QDQ I.tree c;simp[Vl,vA,this]
 simp only[i,g,f];by_cases l:Vk x≠0
 .simp[l]
 by_cases j:q8 L x.iD<0
 .simp[j]
 by_cases b:1<QJ x.ls/\Vl L x.parent=false
 .simp[b]
 .simp[b]
def QDR{L:List Qm}(h:Wv L)(x:Qm):(Vt L x).length<=L.length+1:=by
 have a:=(Hq x h).length_eq;have b:=Yr (λc:Qm=>c.iD != x.iD) L;simp only[Vo]at a;rw[a];exact Nat.succ_le_succ b
def Ql8{L}{n}(I:Ah L n){c:Z4}(t:c.cls.Nn):Ah (RE L c) (n+1):=by
 have g:Ah L (n+1):=⟨I.tree,I.nn,by have:=I.len;omega⟩;have o:∀J:TreeInv (Vt L c.cls),Ah (Vt L c.cls) (n+1):=λJ=>
  ⟨J,λd k=>by
   rcases yI I.tree.rising _ k with rfl|h
   .exact t
   .exact I.nn d h,by have:=QDR I.tree.rising c.cls;have:=I.len;omega⟩
 unfold RE;split
 .rename_i a;split
  .rename_i i;have e:wG L c.cls.iD=0:=by rw[Ql6];rw[EB,Qd ω,Qe i]at a;exact a
   have s:KE L c.cls.iD=[]:=by
    unfold wG at e;split at e
    .cases e
    .split at e
     .cases e
     .rename_i h;simpa using h
   exact⟨I.tree.del s,λd k=>I.nn d (JH.1 k).1,by
    have:=Yr (λd:Qm=>d.iD != c.cls.iD) L;have:=I.len;simp only[Ww];omega⟩
  .rename_i i;rw[Qhr I.tree.rising];by_cases l:c.kind=1
   .have e:vw L c.cls (ZT L 16 c.cls.parent).length=0:=by rw[add_same I];rw[EB,Qe l]at a;exact a
    unfold vw at e
    repeat' split at e
    all_goals try (cases e;done)
    all_goals try contradiction
    rename_i m f j r v u;refine o (I.tree.add (by simpa using m) ?_ ?_ u)
    .cases b:Qy L c.cls.iD with
     | none=>rfl
     | some _=>rw[b]at f;simp at f
    .by_cases p:c.cls.parent=0
     .exact .inl p
     .refine .inr ?_;cases b:Qy L c.cls.parent with
      | none=>exact absurd (.inl ⟨p,by rw[b];rfl⟩) r
      | some _=>rfl
   .by_cases q:c.kind=3
    .have e:wH L c.cls=0:=by rw[Ql7 I];rw[EB,Qd l,Qd i,Qe q]at a;exact a
     unfold wH at e
     repeat' split at e
     all_goals try (cases e;done)
     all_goals try contradiction
     rename_i m f j r;cases b:Qy L c.cls.iD with
     | none=>rw[b]at f;simp at f
     | some y=>
      refine o (I.tree.set (by simpa using m) b ?_);rw[b]at j;simp at j;exact j.1
    .rw[EB,Qd l,Qd i,Qd q]at a;cases a
 .exact g
def Ql9{L}{n}(I:Ah L n)(c):EB L c=qG L c/\RE L c=xX L c:=by
 have h:EB L c=qG L c:=by
  unfold EB qG;by_cases d:c.kind=1
  .rw[Qe d,Qe d];exact(add_same I c.cls).symm
  rw[Qd d,Qd d];by_cases b:c.kind=2
  .rw[Qe b,Qd ω,Qe b];exact(Ql6 c.cls.iD).symm
  rw[Qd b,Qd b];by_cases a:c.kind=3
  .rw[Qe a,Qe a];exact(Ql7 I c.cls).symm
  rw[Qd a,Qd a]
 refine⟨h,?_⟩;unfold RE xX;rw[h,Qhr I.tree.rising]
def Qma:∀(l:List Z4) (L:List Qm) (i n:Nat),Ah L n->(∀c∈l,Z4.Ok c)->Ah (VA L l i).2.2 (n+l.length)
 | [],L,i,n,I,_=>I
 | c::l,L,i,n,I,a=>by
  rw[VA];split
  .exact⟨I.tree,I.nn,Kv I.len (Nat.le_add_right _ _)⟩
  .have J:=Ql8 I (c:=c) (a c σ).2.1.nn;rw[(Ql9 I c).2]at J;have:=Qma l _ (i+1) (n+1) J λd b=>a d (by simp[b]);rw[Vo,show n+(l.length+1)=n+1+l.length by omega];exact this
def Ax:Ah [] 0:=⟨TreeInv.nil,λc h=>(by cases h),QB _⟩
def Ix(t:Int)(l:List Z4):Int:=if t<1\/65536<t then 1 else YD [] t l
def aP(t:Int)(l:List Z4):Nat:=if t<1\/65536<t then 0 else Ed [] l
def EC(t:Int)(l:List Z4):List Qm:=if t<1\/65536<t\/32<l.length\/(VA [] l 0).1≠0 then [] else Jm [] l
def QDS(t)(l)(N:∀c∈l,Z4.Ok c):
  QI prog 20 [Vm [],Qb t,F4 l] (QO (.agg [Vm (EC t l),Qb (aP t l),Qb (Ix t l)])):=by
 refine Qa0 (R:=λd M=>JD 6 d (.agg [Vm (EC t l),Qb (aP t l),Qb (Ix t l)])) _ rfl (λd M h=>.inl h) ?_;by_cases j:t<1
 .have d1:=QT j;have q:Ix t l=1:=Qe (.inl j);have p:aP t l=0:=Qe (.inl j);have o:EC t l=[]:=Qe (.inl j);rw[q,p,o];refine QZ 1 func20 ntmps20 results20 λf w e=>?_;simp only[go_sem];simp only[go_sem,d1,Go.undef];all_goals first|trivial|exact⟨rfl,rfl,rfl,trivial⟩
 have d1:=QH j;by_cases i:65536<t
 .have d2:=QT i;have q:Ix t l=1:=Qe (.inr i);have p:aP t l=0:=Qe (.inr i);have o:EC t l=[]:=Qe (.inr (.inl i));rw[q,p,o];refine QZ 1 func20 ntmps20 results20 λf w e=>?_;simp only[go_sem];simp only[go_sem,d1,d2,Go.undef];all_goals first|trivial|exact⟨rfl,rfl,rfl,trivial⟩
 have d2:=QH i;have q:Ix t l=YD [] t l:=Qd ω;have p:aP t l=Ed [] l:=Qd ω;rw[q,p];by_cases g:32<l.length
 .have d3:decide ((32:Int)<(l.length:Int))=true:=QT ω;have o:EC t l=[]:=Qe (.inr (.inr (.inl g)));have f1:YD [] t l=2:=Qe g;have f2:Ed [] l=0:=Qe g;rw[o,f1,f2];refine QZ 1 func20 ntmps20 results20 λf w e=>?_;simp only[go_sem];simp only[go_sem,d1,d2,d3,Go.undef];all_goals first|trivial|exact⟨rfl,rfl,rfl,trivial⟩
 have d3:decide ((32:Int)<(l.length:Int))=false:=QH ω;have z:Ed [] l=if (VA [] l 0).1≠0 then (VA [] l 0).2.1 else 0:=Qd g;have y:YD [] t l=if (VA [] l 0).1≠0 then (VA [] l 0).1 else vL t (VV (VA [] l 0).2.2):=Qd g;have u:EC t l=if (VA [] l 0).1≠0 then [] else Jm [] l:=by
  unfold EC;by_cases h:(VA [] l 0).1≠0
  .rw[Qe h,Qe (.inr (.inr (.inr h)))]
  .rw[Qd h,Qd (λP=>by rcases P with a|a|a|a;exact j a;exact i a;exact g a;exact h a)]
 refine QZ 1 func20 ntmps20 results20 λf w e=>?_;simp only[go_sem];simp only[go_sem,d1,d2,d3,Go.undef];refine ZW (λk K=>∃b,Ah b k/\vM b/\VA [] l 0=VA b (l.drop k) k/\K=⟨[(1,Qb t),(6,.ptr 0 0 0 0),(7,Vm b),(23,F4 l),(24,Qb l.length),(25,Qb k)],[⟨.one,0,3,1,λ_=>[.nil,Qb 0,Qb 0]⟩]⟩) l.length (s0:=⟨[(1,Qb t),(6,.ptr 0 0 0 0),(7,Vm []),(23,F4 l),(24,Qb l.length),(25,Qb 0)],[⟨.one,0,3,1,λ_=>[.nil,Qb 0,Qb 0]⟩]⟩) (Qr.to 1 (by (simp only[go_sem])<;>simp)) ⟨[],Ax,λc h=>(by cases h),rfl,rfl⟩ ?_;rintro k _ U ⟨b,I,H,s,rfl⟩;have T:=I.len;by_cases m:k<l.length
 .have C:=QT m;have r:=QiO m s;have v:Z4.Ok (l.getD k default):=N _ (Yx l default k m);obtain⟨x,hx⟩:∃x,x=l.getD k default:=⟨_,rfl⟩;rw[<- hx]at r v;obtain⟨L,E⟩:=Ql9 I x;have F:=QDO b x ω I.nn v.2.1.nn;rw[L,E]at F;have S:=JT (show k<4611686018427387904 from ω);apply Qf e;simp only[go_sem,C,m,Z4.j4,<- hx];refine Va e [] QrO rfl ?_ F rfl λd h B=>?_
  .simp only[go_sem,Qa]
  obtain⟨rfl,rfl⟩:=B;simp only[go_sem,Qa];apply QP e;by_cases n:qG b x=0
  .rw[Qd (by simpa using n)]at r;have d0:(qG b x != 0)=false:=by simpa using n
   have J:=Ql8 I (c:=x) v.2.1.nn;rw[E]at J;simp only[go_sem,d0];exact⟨m,_,Qr.to 1 (by (simp only[go_sem,S])<;>simp),xX b x,J,H.one I.tree.rising v,r,rfl⟩
  .rw[Qe (by simpa using n)]at r;have d0:(qG b x != 0)=true:=by simpa using n
   rw[z,y,u,r];simp only[Qe (show qG b x≠0 from n)];simp only[go_sem,d0];all_goals first|trivial|exact⟨rfl,rfl,rfl,trivial⟩
 .have Q:k=l.length:=ω;have C:=QH m;rw[Q,List.drop_length,VA]at s;rw[s]at z y u;simp only[ne_eq,not_true_eq_false,YF]at z y u;have O:Jm [] l=b:=by unfold Jm;rw[s]
  have V:=tN b;rw[z,y,u,O];apply Qf e;simp only[go_sem,C];apply QV e;refine Va e [] QrQ rfl ?_ (Qyx b ω I.nn) rfl λd h B=>?_
  .simp only[go_sem]
  obtain⟨rfl,rfl⟩:=B;simp only[go_sem];apply QV e;apply Jp e QrP (Qyh t (VV b) ω H.QiM);apply QV e;all_goals first|trivial|exact⟨qX _ _,rfl,rfl,trivial⟩
end Go.Fg.X
namespace Go.Fg.X
open Go.Proofs Go.Fg
open Go.Proofs.Tryz
def Qmb{l:List Zd}(h:BE l=true):∀o∈l.tail,o.kind≠1:=λo a=>by
 unfold BE at h;rw[List.drop_one]at h;simpa using zC.1 h o a
def QDT{p:Pk}{c:Cf}(K:W8 c)(o:1<=p.len)(k:p.len<=c.JI):xh p c.t<=((c.JI.toNat*c.t.toNat:Nat):Int)/\0<=xh p c.t:=by
 have i:=K.l2;have h:=K.t2;have g:=K.t1;obtain⟨n,e⟩:∃n:Nat,p.len=n:=⟨p.len.toNat,ω⟩;obtain⟨T,f⟩:∃n:Nat,c.t=n:=⟨c.t.toNat,ω⟩;obtain⟨L,d⟩:∃n:Nat,c.JI=n:=⟨c.JI.toNat,ω⟩;rw[e,d]at k;rw[d]at i;rw[f]at h g;have m:n*T<=L*T:=XL T ω;have l:L*T<=16384*65536:=Ys ω ω;have j:(n:Int)*(T:Int)=((n*T:Nat):Int):=rfl;unfold xh;rw[Qe ⟨ω,ω⟩,e,f,d,j,IntKind.wrap_u64];show _<=((L*T:Nat):Int)/\_;generalize n*T=a at *;generalize L*T=b at *;omega
def QDU{c}(K:W8 c)(b:List Zd)(y:∀o∈b,Zd.Ok o):∀i,i<(ZH (S0 c) b).2.2.length ->
  0<=((ZH (S0 c) b).2.2.getD i default).at_/\((ZH (S0 c) b).2.2.getD i default).at_<=4611686018427387904/\1<=((ZH (S0 c) b).2.2.getD i default).len/\((ZH (S0 c) b).2.2.getD i default).len<=c.JI /\
  (((ZH (S0 c) b).2.2.getD i default).J9=false->((ZH (S0 c) b).2.2.getD i default).done<=((ZH (S0 c) b).2.2.getD i default).at_+((c.JI.toNat*c.t.toNat:Nat):Int)):=by
 have A:=Ql0 (x:=c) b (Z5.RC K) (W:=λ_=>[]) (a:=mz) (d:=0) ⟨λj=>rfl,rfl,Int.le_refl _,Int.le_refl _,rfl⟩ y;have f:=λ{i:Nat} (e:i<(ZH (S0 c) b).2.2.length) {k:Nat} (t:k<8)=>QDt A.ok e t;obtain⟨l,q⟩:∃l,l=(ZH (S0 c) b).2.2:=⟨_,rfl⟩;rw[<- q]at f ⊢;have m:∀i,i<l.length->(mA l i).at_<=(l.getD i default).at_/\(l.getD i default).at_<=4611686018427387904:=λi e=>by
  have h:decide ((l.getD i default).at_<(mA l i).at_\/4611686018427387904<(l.getD i default).at_)=false:=f e (k:=1) π;rw[GF]at h;omega
 have r:∀i,i<l.length->0<=(l.getD i default).at_:=λi=>by
  induction i with
  | zero=>intro e;exact(m 0 e).1
  | succ i s=>
   intro e;have v:=s ω;have u:(l.getD i default).at_<=(l.getD (i+1) default).at_:=(m (i+1) e).1;omega
 intro i e;have g:1<=(l.getD i default).len/\(l.getD i default).len<=c.JI:=by
  have h:(Ae (l.getD i default).pk c.JI != 0)=false:=f e (k:=2) π;unfold Ae at h;split at h
  .cases h
  .split at h
   .cases h
   .rename_i n;have n:¬¬(1<=(l.getD i default).len/\(l.getD i default).len<=c.JI):=n;omega
 refine⟨r i e,(m i e).2,g.1,g.2,λw=>?_⟩;have h:(!(l.getD i default).J9&&(l.getD i default).done != IntKind.u64.wrap ((l.getD i default).at_+xh (l.getD i default).pk c.t))=false:=f e (k:=7) π;rw[w]at h;have h:(l.getD i default).done=IntKind.u64.wrap ((l.getD i default).at_+xh (l.getD i default).pk c.t):=by simpa using h
 have z:=QDT (p:=(l.getD i default).pk) K g.1 g.2;have v:=K.l2;have u:=K.t2;have C:c.JI.toNat*c.t.toNat<=16384*65536:=Ys ω ω;have B:=r i e;have n:=(m i e).2;rw[h,IntKind.wrap_u64];omega
def Ai(x:WU):Bool:=decide (0<x.ops.length)&&(((x.ops.getD 0 default).kind==1)&&(BE x.ops&&(Ix x.config.t (x.ops.getD 0 default).changes==0)))
def Iy(x:WU):List Qm:=if 0<x.ops.length/\(x.ops.getD 0 default).kind=1/\BE x.ops=true then EC x.config.t (x.ops.getD 0 default).changes else []
def QDV{k n}(h:k<n)(a:n<=maxLen):IntKind.i64.wrap ((k:Int)+1)=((k+1:Nat):Int):=by
 have:maxLen=9223372036854775807:=rfl;rw[wrap64 ω ω];rfl
def QDW(x:WU)(p:x.ops.length<=maxLen)(E:∀a∈x.ops,Zd.Ok a):QI prog 6 [.agg x.cells] (QO (.tup [Vm (Iy x),QX (Ai x)])):=by
 refine Qa0 (R:=λd F=>JD 6 d (.tup [Vm (Iy x),QX (Ai x)])) _ rfl (λd F h=>.inl h) ?_;by_cases t:x.ops.length=0
 .have g:Iy x=[]:=Qd ω;have f:Ai x=false:=by unfold Ai;rw[QH (show ¬0<x.ops.length from ω)];rfl
  rw[g,f];refine QZ 1 func6 ntmps6 results6 λe w c=>?_;simp only[go_sem];simp only[go_sem,bz t,Go.undef];all_goals first|trivial|exact⟨rfl,rfl,trivial⟩
 have l:0<x.ops.length:=ω;obtain⟨o,b⟩:∃o,o=x.ops.getD 0 default:=⟨_,rfl⟩;have Jf:Zd.Ok o:=E o (by rw[b];exact Yx x.ops default 0 l);by_cases m:o.kind=1;case neg=>
  have g:Iy x=[]:=Qd (λh=>m (by rw[b];exact h.2.1));have f:Ai x=false:=by unfold Ai;rw[<- b,VU m];simp
  have d1:(o.kind != 1)=true:=by rw[bne,VU m];rfl
  rw[g,f];refine QZ 1 func6 ntmps6 results6 λe w c=>?_;simp only[go_sem];simp only[go_sem,pC t,Go.undef,l,<- b,d1];all_goals first|omega|exact⟨rfl,rfl,trivial⟩
 have d1:(o.kind != 1)=false:=by rw[bne,WC m];rfl
 refine QZ 1 func6 ntmps6 results6 λe w c=>?_;simp only[go_sem];simp only[go_sem,pC t,Go.undef,l,<- b,d1];refine⟨ω,?_⟩;refine yB (G:=Nat) [1,20,21] (λk=>∀j,j<k->0<j->(x.ops.getD j default).kind≠1) (λk y=>[(22,Qb k)]) (λk y=>[⟨.one,0,3,1,λ_=>x.cells⟩]) (x.ops.length) (0) rfl (Qr.to 1 (by (simp only[go_sem])<;>simp)) ?_ ?_
 .intro j s;omega
 intro k y B v;apply QV c;first|refine WS B (λi=>?_) (λi=>?_)|refine WT B (λi=>?_) (λi=>?_)
 .have C:=QDV i p;simp only[go_sem,i];by_cases z:0<k
  .have d0:=QT (show (0:Int)<k from ω);by_cases q:(x.ops.getD k default).kind=1
   .have u:=WC q;have n:BE x.ops=false:=by
     rw[jj];intro H;exact Ql3.1 H k i z q
    have g:Iy x=[]:=Qd (λh=>by rw[n]at h;cases h.2.2);have f:Ai x=false:=by unfold Ai;rw[n];simp
    rw[g,f];simp only[go_sem,d0,u,Go.undef];all_goals first|trivial|exact⟨rfl,rfl,trivial⟩
   .have u:=VU q;simp only[go_sem,d0,u,Go.undef];repeat (refine And.intro δ ?_)
    refine⟨_,Qr.to 1 (by (simp only[go_sem,C])<;>simp),Vi.mk (0) (?_)⟩;intro j s r;rcases xo.1 s with h|rfl
    .exact v j h r
    .exact q
  .have d0:=QH (show ¬(0:Int)<k from ω);simp only[go_sem,d0,Go.undef];repeat (refine And.intro δ ?_)
   refine⟨_,Qr.to 1 (by (simp only[go_sem,C])<;>simp),Vi.mk (0) (?_)⟩;intro j s r;rcases xo.1 s with h|rfl
   .exact v j h r
   .exact absurd r z
 .simp only[go_sem];subst i;have n:BE x.ops=true:=Ql3.2 v;have g:Iy x=EC x.config.t o.changes:=by rw[b];exact Qe ⟨l,by rw[<- b];exact m,n⟩
  have f:Ai x=(Ix x.config.t o.changes==0):=by unfold Ai;rw[<- b,QT l,WC m,n];rfl
  have J:QI prog 20 [.nil,Qb x.config.t,F4 o.changes] _:=QM.Qdu (QDS x.config.t o.changes Jf.2.1.2) ⟨rfl,qX _ _,qX _ _,trivial⟩;rw[g,f];apply QV c;apply Qx c [0,1,2,3,4,5,6,7,1008,1009,1010];simp only[go_sem,l,<- b];refine⟨ω,?_⟩;refine QoV c QrJ rfl ?_ J rfl λd h I=>?_
  .simp only[go_sem]
  obtain⟨rfl,rfl⟩:=I;simp only[go_sem];apply VD c;apply Qx c [0,1,2,3,4,5,6];simp only[go_sem];all_goals first|trivial|exact⟨qX _ _,rfl,trivial⟩
theorem Qbn:Iv.length=4:=rfl
theorem Qbo:Iv.getD 0 default=⟨2,true,false,0,0,1,7,100,0,0,0,0⟩:=rfl
theorem Qbp:Iv.getD 1 default=⟨2,false,false,0,100,1,7,100,0,0,0,0⟩:=rfl
theorem Qbq:Iv.getD 2 default=⟨3,true,false,0,0,1,7,100,0,0,0,0⟩:=rfl
theorem Qbr:Iv.getD 3 default=⟨4,false,false,100,200,1,7,100,0,0,0,0⟩:=rfl
def Aj(n:Nd)(a:Bool)(f:Nat):List D:=n.c.cells++(QX a::u64 n.Z7::(n.du.cells++(n.sh.cells++(n.cp.cells++(u64 f::n.q.cts)))))
section
variable (n:Nd)(a:Bool)(f:Nat)
@[go_sem] theorem QIx:(Aj n a f).length=67:=rfl
@[go_sem] theorem QIy:(Aj n a f).all D.Vr=true:=rfl
@[go_sem] theorem QIz:(List.drop 15 (Aj n a f)).getD 0 D.undef=u64 n.Z7:=rfl
@[go_sem] theorem QIA:(List.drop 2 (Aj n a f)).getD 0 D.undef=QX n.c.leaf:=rfl
@[go_sem] theorem QIB:(List.drop 63 (Aj n a f)).getD 0 D.undef=u64 n.q.cd:=rfl
@[go_sem] theorem QIC:(List.drop 65 (Aj n a f)).getD 0 D.undef=u64 n.q.bo:=rfl
@[go_sem] theorem QID:(List.drop 66 (Aj n a f)).getD 0 D.undef=u64 n.q.bd:=rfl
@[go_sem] theorem QIE(v):List.take 63 (Aj n a f)++(.raw (.int .u64 ((v:Nat):Int))::List.drop 64 (Aj n a f))=Aj { n with q:={ n.q with cd:=v } } a f:=rfl
@[go_sem] theorem QIF(v):List.take 66 (Aj n a f)++[.raw (.int .u64 ((v:Nat):Int))]=Aj { n with q:={ n.q with bd:=v } } a f:=rfl
end
@[go_sem] def QIG(n:Nd)(a:Bool)(f:Nat):Ob:=⟨.one,0,67,1,λ_=>Aj n a f⟩
end Go.Fg.X
namespace Go.Fg.X
open Go.Proofs Go.Fg
open Go.RowKit (Below)
open Go.Proofs.Tryz
def Qr.Qmc{f}{c}{h}{d'}(t)(i:JD 6 (get c t) d'):Qr f ⟨c,h⟩ ⟨put c t d',h⟩:=by
 intro Z z d j g a w r b;refine⟨g,⟨r.nt,r.defers,λu=>?_,r.o⟩,b⟩;show QC Z _ _ w (get (put c t _) u) _;rw[EM];by_cases e:u=t
 .subst e;rw[Qe rfl];exact vn 6 i (r.fr u)
 .rw[Qd e];exact r.fr u
end Go.Fg.X
namespace Go.Fg.X
open Go.Proofs Go.Fg
open Go.Proofs.Tryz
def QDX:QI prog 8 [] (QO (QX true)):=by
 have e:=Qa4 Rz ⟨π,π,π,π⟩ π QCU;rw[show (ZH (S0 Rz.config) Rz.ops).2.2=Iv from QCZ]at e;obtain⟨R,m,a⟩:∃R,R=(ZH (S0 Rz.config) Rz.ops).2.1/\R.length=5:=⟨_,rfl,QC0⟩;rw[<- m]at e;refine Qdc 0 KS 24 func8 rfl ntmps8 results8 rfl λn w c=>?_;simp only[go_sem,Qa];refine DD (Qr.SZ rfl (λl o a=>by simp at a) 13 2 (Jj _) rfl rfl (QB 1) rfl ?_) ?_
 .intro i b;match i,b with
  | 0,_=>rfl
  | j+1,h=>exact absurd (show j+1<1 from h) ω
 simp only[go_sem,Qa];refine AU KS c 3 ?_;simp only[go_sem,Qa];refine DD (Qr.SZ rfl (λl o a=>by simp at a) 16 3 (Jj _) rfl rfl (QB 1) rfl ?_) ?_
 .intro i b;match i,b with
  | 0,_=>rfl
  | j+1,h=>exact absurd (show j+1<1 from h) ω
 simp only[go_sem,Qa];refine AU KS c 5 ?_;simp only[go_sem,Qa];refine DD (Qr.SZ rfl (λl o a=>by simp at a) 21 4 (Jj _) rfl rfl (QB 5) rfl ?_) ?_
 .intro i b;match i,b with
  | 0,_=>rfl
  | 1,_=>rfl
  | 2,_=>rfl
  | 3,_=>rfl
  | 4,_=>rfl
  | j+5,h=>exact absurd (show j+5<5 from h) ω
 simp only[go_sem,Qa];have k:((4:Nat):Int)=4:=rfl;have g:((5:Nat):Int)=5:=rfl;apply QP c;refine DD (Qr.Qmc (d':=.agg Rz.cells) 24 ?_) ?_
 .refine⟨rfl,rfl,⟨rfl,rfl,λi b=>?_⟩,trivial⟩;match i,b with
  | 0,_=>exact⟨rfl,⟨rfl,rfl,λj f=>by match j,f with|0,_=>exact vm (qX _) _|j+1,h=>exact absurd (show j+1<1 from h) ω⟩,rfl,rfl,rfl,rfl,rfl,rfl,rfl,rfl,trivial⟩
  | 1,_=>exact⟨rfl,rfl,⟨rfl,rfl,λj f=>by match j,f with|0,_=>exact vm (qX _) _|j+1,h=>exact absurd (show j+1<1 from h) ω⟩,rfl,rfl,rfl,rfl,rfl,rfl,rfl,trivial⟩
  | 2,_=>exact⟨rfl,rfl,rfl,rfl,rfl,rfl,rfl,rfl,rfl,rfl,trivial⟩
  | 3,_=>exact⟨rfl,rfl,rfl,rfl,rfl,rfl,rfl,rfl,rfl,rfl,trivial⟩
  | 4,_=>exact⟨rfl,rfl,rfl,rfl,rfl,rfl,rfl,rfl,rfl,rfl,trivial⟩
  | j+5,h=>exact absurd (show j+5<5 from h) ω
 refine Va c [] oL rfl ?_ e rfl λd h e=>?_
 .simp only[go_sem,Qa,Qbn,a,k,g,Qbo,Qbp,Qbq,Qbr]
 obtain⟨rfl,rfl⟩:=e;simp only[go_sem,Qa,Qbn,a,k,g,Qbo,Qbp,Qbq,Qbr];apply Qf c;simp only[go_sem,Qa,Qbn,a,k,g,Qbo,Qbp,Qbq,Qbr]
def QDZ{x:WU}(K:W8 x.config)(t:∀a∈x.ops,Zd.Ok a)(g:Ai x=true):∃T,Iy x=T/\Ah T 64/\KF T/\vM T/\BE x.ops=true/\0<x.ops.length/\∀n,0<n->n<=x.ops.length->(ZH (S0 x.config) (x.ops.take n)).1.M.T=T:=by
 unfold Ai at g;rw[ZL,ZL,ZL,X4,zF,zF]at g;obtain⟨k,q,j,w⟩:=g;have F:=K.t1;have E:=K.t2;obtain⟨o,e⟩:∃o,o=x.ops.getD 0 default:=⟨_,rfl⟩;have Jf:Zd.Ok o:=t o (by rw[e];exact Yx x.ops default 0 k);have v:Ix x.config.t o.changes=YD [] x.config.t o.changes:=Qd ω;have d:YD [] x.config.t o.changes=0:=by rw[<- v,e];exact w
 have s:¬ 32<o.changes.length:=λh=>by unfold YD at d;rw[Qe h]at d;cases d
 have u:(VA [] o.changes 0).1=0:=by
  unfold YD at d;rw[Qd s]at d;by_cases h:(VA [] o.changes 0).1=0
  .exact h
  .rw[Qe h]at d;exact absurd d h
 have I:=Qma o.changes [] 0 0 Ax Jf.2.1.2;obtain⟨B,z⟩:=PJ (T:=[]) KF.nil (λc h=>(by cases h)) Jf.2.1.2;refine⟨Jm [] o.changes,?_,⟨I.tree,I.nn,Kv I.len ω⟩,B,z,j,k,λn p C=>?_⟩
 .unfold Iy;rw[Qe ⟨k,q,j⟩,<- e];unfold EC;rw[Qd (by rw[u];omega)]
 .have l:(x.ops.take n).getD 0 default=o:=by
   rw[e,QY,QY,XK,Qe p]
  have y:=Qmb j;have:=(QDG (c:=x.config) (ops:=x.ops.take n) (by rw[be];omega) (by rw[l,e];exact q) (by rw[l];exact d) λa f=>y a (by
   cases m:x.ops with
   | nil=>rw[m]at f;simp at f
   | cons b r=>
    rw[m]at f;cases n with
    | zero=>cases p
    | succ n=>exact bg (i:=n) f)).1
  rw[l]at this;exact this
def ED(e:Ev):Int:=if e.J9=true then e.len else -e.len
def KZ:List Ev->Int
 | []=>0
 | e::l=>ED e+KZ l
def aQ:∀(l m:List Ev),KZ (l++m)=KZ l+KZ m
 | [],m=>by simp[KZ]
 | e::l,m=>by rw[qc,KZ,KZ,aQ l m];omega
def QD0{f f':Int->Nat}{q:Int}{d:Nat}{l:List Qm}(b:(l.map (·.iD)).Nodup)(a:q∈l.map (·.iD))(h:f' q=f q+d)(g:∀j,j≠q->f' j=f j):(l.map λc=>f' c.iD).sum=(l.map λc=>f c.iD).sum+d:=
 (Qbg (f:=f') (f':=f) (d:=d) b a h.symm λj e=>(g j e).symm).symm
def QD1{M}(I:Qz M){d}{c}{x:Pk}(h:qI M d c x=0):VL (Jg M d c x)=VL M+x.len.toNat:=by
 unfold VL;rw[Gr];have m:(M.T.map (·.iD)).Nodup:=by
  have h:M.T.Pairwise (λa b=>a.iD<b.iD):=I.tree.rising;rw[RM,IJ];exact h.imp λo=>ω
 refine QD0 (q:=c) (f:=λj=>V8 (Zs M j)) (f':=λj=>V8 (Zs (Jg M d c x) j)) m ?_ ?_ λj i=>?_
 .unfold qI at h;split at h
  .unfold VY at h;rw[(Eh M d).1]at h;cases g:Qk M.N c with
   | none=>rw[g]at h;cases h
   | some n=>
    obtain⟨l,k⟩:=(VH I.tree.rising).1 (I.some g);exact Jl.2 ⟨n.c,l,k⟩
  .cases h
 .show V8 (Zs (Jg M d c x) c)=V8 (Zs M c)+x.len.toNat
  rw[Gg,Qe ⟨h,rfl⟩,Qhx];rfl
 .rw[Gg,Qd λe=>i e.2.symm]
def QD2{M}{now}{cls}{x}(h:¬ qI M now cls x=0):VL (Jg M now cls x)=VL M:=by
 unfold VL;rw[Gr];congr 1;refine Dd λc _=>?_;rw[Gg,Qd λe=>h e.1]
section
variable {S:ZE}(T:Z5 S)
include T
theorem Qmd(a):(VL (Jk S a S.Qh).1.M:Int)=VL S.M+KZ (Jk S a S.Qh).2:=by
 unfold Jk;split
 .simp[KZ]
 .split
  .rename_i h;have d:=QlJ T.I T.V h;have b:=(T.take_len h).1;simp only[KZ,ED,Eu,XZ,YF];omega
  .rename_i h;have:VL (takeN S.M S.Qh)=VL S.M:=by
    unfold VL;rw[Ig];congr 1;refine Dd λc _=>?_;rw[Es,Qd λe=>h e.1]
   simp only[KZ];omega
end
def Qme{op e}(d:e<=4611686018427387904):∀(n:Nat) {S:ZE},Z5 S->S.Qh<=e->(VL (JY op e n S).1.M:Int)=VL S.M+KZ (JY op e n S).2
 | 0,S,T,h=>by simp[JY,KZ]
 | n+1,S,T,h=>by
  unfold JY;split
  .simp[KZ]
  .rename_i g;have c:=T.at_ (Rj S T.cl) (show Q1 S<=4611686018427387904 from ω);have b:=Qmd c op;have b:(VL (Jk { S with Qh:=Q1 S } op (Q1 S)).1.M:Int)=VL S.M+KZ (Jk { S with Qh:=Q1 S } op (Q1 S)).2:=b;have f:=(Nb { S with Qh:=Q1 S } op (Q1 S)).1;have a:=Qme (op:=op) d n (c.Ii op) (by
    have:(Jk { S with Qh:=Q1 S } op (Q1 S)).1.Qh<=e:=by rw[f];show Q1 S<=e;omega
    exact this)
   have a:(VL (JY op e n (Jk { S with Qh:=Q1 S } op (Q1 S)).1).1.M:Int)=VL (Jk { S with Qh:=Q1 S } op (Q1 S)).1.M+KZ (JY op e n (Jk { S with Qh:=Q1 S } op (Q1 S)).1).2:=a;dsimp only;rw[aQ];omega
def QD3{S:ZE}(T:Z5 S){o:Zd}(d:o.kind≠1):(VL (JN S o).S.M:Int)=VL S.M+KZ (JN S o).l:=by
 have c:=T.ops (S.ops+1);unfold JN Km;rw[Qd d];split
 .split<;>simp[KZ]
 .split
  .unfold Yo;split
   .simp[KZ]
   .split
    .rename_i f a;have h:Z5 { S with ops:=S.ops+1,M:=Jg S.M S.Qh (Jn S.R (Zu o.ZA)) o.ZA,st:=w9 S.st (Jn S.R (Zu o.ZA)) S.Qh }:=(c.put _ _).Jd _ _ (by have:=T.cl;show S.Qh<_;omega);have g:=Qmd h S.ops;have a:qI S.M S.Qh (Jn S.R (Zu o.ZA)) o.ZA=0:=a;have j:=QD1 T.I a;have i:=(Qaz a).1;dsimp only at g ⊢;rw[KZ];have:ED (Bz S.ops S.Qh (Jn S.R (Zu o.ZA)) o.ZA)=o.ZA.len:=rfl;rw[this];omega
    .rename_i f a;have:=QD2 (M:=S.M) (now:=S.Qh) (cls:=Jn S.R (Zu o.ZA)) (x:=o.ZA) a;show ((VL (Jg S.M S.Qh (Jn S.R (Zu o.ZA)) o.ZA):Nat):Int)=(VL S.M:Int)+0;omega
  .split
   .unfold Yn;split
    .simp[KZ]
    .rename_i b;have b:¬ 4611686018427387904 - S.Qh<o.KM.toNat:=b;have:=T.cl;exact Qme (S:={ S with ops:=S.ops+1 }) (e:=S.Qh+o.KM.toNat) ω _ c (show S.Qh<=S.Qh+o.KM.toNat from ω)
   .simp[KZ]
def Qbs:∀(l:List Zd) {S:ZE},Z5 S->(∀o∈l,o.kind≠1)->(∀o∈l,∀c∈o.changes,Z4.Ok c)->(VL (ZH S l).1.M:Int)=VL S.M+KZ (ZH S l).2.2
 | [],S,T,_,_=>by simp[ZH,KZ]
 | o::l,S,T,d,b=>by
  have f:=QD3 T (d o Kx);have e:=Qbs l (T.do (b o Kx)) (λp a=>d p (Ki _ a)) λp a=>b p (Ki _ a);rw[ZH];dsimp only;rw[aQ];omega
def QD4{c}(K:W8 c)(b:List Zd)(f:∀o∈b.tail,o.kind≠1)(e:∀o∈b,∀d∈o.changes,Z4.Ok d):(VL (ZH (S0 c) b).1.M:Int)=KZ (ZH (S0 c) b).2.2:=by
 have m:VL (S0 c).M=0:=rfl;cases b with
 | nil=>rfl
 | cons o l=>
  by_cases h:o.kind=1
  .have i:JN (S0 c) o=⟨{ { S0 c with ops:=1 } with M:=J4 (M0 c) (decide ((S0 c).JW<=(S0 c).Qh)) o.changes },⟨Y3 (M0 c) (decide ((S0 c).JW<=(S0 c).Qh)) o.changes,ya (M0 c) o.changes,0⟩,[]⟩:=by
    unfold JN Km;rw[Qe h];rfl
   have n:VL (JN (S0 c) o).S.M=0:=by
    rw[i];unfold VL;dsimp only;rw[Dd (g:=λ_=>0) λd _=>by rw[Qkw];rfl];generalize (J4 (M0 c) _ o.changes).T=L;induction L with
    | nil=>rfl
    | cons a L j=>rw[JQ,RN,j]
   have k:(JN (S0 c) o).l=[]:=by rw[i]
   have q:=Qbs l ((Z5.RC K).do (e o Kx)) f λp hp=>e p (Ki _ hp);rw[ZH];dsimp only;rw[aQ,k,KZ];omega
  .have:=Qbs (o::l) (Z5.RC K) (λp hp=>by
    rcases QF.1 hp with rfl|hp
    .exact h
    .exact f p hp) e
   rw[m]at this;omega
def QD5{c}(K:W8 c){a:List Zd}(v:∀o∈a,Zd.Ok o)(j:BE a=true)(n:Ez (ZH (S0 c) (a.take 1)).1.M.T)(s:0<a.length)(o:Zd)(k:Zd.Ok o)(d:o.kind=4){b}(i:o.KM.toNat=b)
  (q:(ZH (S0 c) a).1.Qh+b<=4611686018427387904)
  (p:max (ZH (S0 c) a).1.Qh (ZH (S0 c) a).1.JW+VL (ZH (S0 c) a).1.M*(ZH (S0 c) a).1.M.lk.t.toNat<=(ZH (S0 c) a).1.Qh+b) :
  ((ZH (S0 c) (a++[o])).2.2.foldl Kn.next ⟨0,0,0⟩).work=0/\((ZH (S0 c) (a++[o])).2.2.foldl Kn.next ⟨0,0,0⟩).zz<=(((ZH (S0 c) a).1.Qh+b:Nat):Int):=by
 obtain⟨T,B,W⟩:=Qbh K v j n a.length (QB _) s;rw[Wc]at T B W;rw[lL];generalize ZH (S0 c) a=R at *;obtain⟨S,r,l⟩:=R;dsimp only at *;have m:JN S o=Yn { S with ops:=S.ops+1 } S.ops o.KM.toNat:=by
  unfold JN Km;rw[Qd (by rw[d];decide),Qd (by rw[d];decide),Qd (by rw[d];decide),Qe d]
 obtain⟨_,h⟩:=Qbf T W (o:=o) k.2.1.2 (by rw[d];decide);have f:¬ 4611686018427387904 - S.Qh<b:=ω;have u:=T.ops (S.ops+1);have t:yf (l.foldl Kn.next ⟨0,0,0⟩) { S with ops:=S.ops+1 }:=⟨⟨W.w,W.u,W.s,W.F,W.P⟩,W.b⟩;have g:=QlK (op:=S.ops) (e:=S.Qh+b) q (Jh S.M+1) u (show S.Qh<=S.Qh+b from ω) t (BG _) p;have e:JN S o=⟨(JY S.ops (S.Qh+b) (Jh S.M+1) { S with ops:=S.ops+1 }).1,⟨0,0,0⟩,(JY S.ops (S.Qh+b) (Jh S.M+1) { S with ops:=S.ops+1 }).2⟩:=by
  rw[m,i];unfold Yn;rw[Qd f]
 show ((l++((JN S o).l++[])).foldl Kn.next ⟨0,0,0⟩).work=0/\((l++((JN S o).l++[])).foldl Kn.next ⟨0,0,0⟩).zz<=_;rw[JZ,qd];refine⟨?_,?_⟩
 .rw[h.w,e];have:=g.1;show ((Jh (JY S.ops (S.Qh+b) (Jh S.M+1) { S with ops:=S.ops+1 }).1.M:Nat))=0;omega
 .rw[h.u,e];have:=g.2.1;show (((JY S.ops (S.Qh+b) (Jh S.M+1) { S with ops:=S.ops+1 }).1.JW:Nat):Int)<=_;omega
end Go.Fg.X
namespace Go.Fg.X
open Go.Proofs Go.Fg
open Go.Proofs.Tryz
def zA(t:Nat):Zd:=⟨4,[],[],default,t⟩
def Qmf(S:ZE)(b a:Nat):(Jk S b a).1.M.lk=S.M.lk:=by
 unfold Jk;split
 .rfl
 .split<;>exact Ih _ _
def Qmg(a e):∀(n:Nat) (S:ZE),(JY a e n S).1.M.lk=S.M.lk
 | 0,S=>rfl
 | n+1,S=>by
  unfold JY;split
  .rfl
  .exact(Qmg a e n _).trans (Qmf { S with Qh:=Q1 S } a (Q1 S))
def QD6(S:ZE)(o:Zd):(JN S o).S.M.lk=S.M.lk:=by
 show (Km { S with ops:=S.ops+1 } S.ops o).S.M.lk=S.M.lk;unfold Km;split
 .exact Ri _ _ _
 .split
  .split<;>rfl
  .split
   .unfold Yo;split
    .rfl
    .split
     .exact(Qmf _ _ _).trans (If _ _ _ _)
     .exact If _ _ _ _
   .split
    .unfold Yn;split
     .rfl
     .exact Qmg _ _ _ _
    .rfl
def Qmh:∀(l:List Zd) (S:ZE),(ZH S l).1.M.lk=S.M.lk
 | [],S=>rfl
 | o::l,S=>by rw[ZH,Qmh l,QD6]
def QD7{n:Int}(h:0<=n/\n<=18446744073709551615):(Lit.int .u64 n).wf=true:=by
 simp only[Lit.wf,ZL,X4];exact h
def QD8{t:Nat}(h:t<=9223372036854775807):Zd.Ok (zA t)/\(zA t).changes.length<1000000/\(zA t).rules.length<1000000:=
 ⟨⟨rfl,⟨Jj _,λa h=>by cases h⟩,⟨Jj _,λa h=>by cases h⟩,⟨rfl,rfl,rfl,rfl,rfl,rfl,trivial⟩,QD7 (by show 0<=(t:Int)/\(t:Int)<=_;omega),trivial⟩,Ar _,Ar _⟩
end Go.Fg.X
