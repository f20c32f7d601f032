/- The statement AuditTold is proved. No conditions. -/
import Derived.Test.YtjhngjdipealfaaGreatTA1
import Derived.Test.YtjhngjdipealfaaGreatTB1
import Derived.Test.YtjhngjdipealfaaGreatFgFork
import Derived.Test.YtjhngjdipealfaaGreatFgHx
import Derived.Test.YtjhngjdipealfaaGreatRows
set_option maxRecDepth 100000
set_option maxHeartbeats 16000000
set_option linter.unusedVariables false
set_option linter.unusedSimpArgs false
set_option linter.unusedSectionVars false
set_option linter.defProp false
namespace Go.Fg.X
open Go.Proofs Go.Fg
open Go.Proofs.Tryz
def Qm1(S:ZH)(op now:Nat):∀e∈(J5 S op now).2,e.op=op:=by
 unfold J5;split
 ·intro e he;cases he
 ·split
  ·intro e he;simp only[qA]at he;rw[he];rfl
  ·intro e he;cases he
def QL(S:ZH)(n:Nat):Prop:=∀j,(JN S.M j).length<=n
def QL.take{S:ZH}{n}(h:QL S n)(now)(j:Int):(JN (takeN S.M now) j).length<=n:=by
 rw[oT];have:=h j;split
 ·rw[List.length_tail];omega
 ·exact this
def QL.put{S:ZH}{n}(h:QL S n)(now)(cls)(x)(j:Int):(JN (KO S.M now cls x) j).length<=n+1:=by
 rw[Qz7];have:=h j;split
 ·rw[ZX,zV];omega
 ·omega
def QL.oV{S}{n}(h:QL S n)(op now:Nat):QL (J5 S op now).1 n:=by
 unfold J5;split
 ·exact h
 ·split
  ·exact h.take now
  ·exact h.take now
def QL.go{op e n}:∀(k:Nat) {S:ZH},QL S n->QL (WR op e k S).1 n
 | 0,S,h=>h
 | k+1,S,h=>by
  unfold WR;split
  ·exact h
  ·exact QL.go k (QL.oV (S:={ S with Ql:=ZL S }) h op (ZL S))
def QL.do{S}{n}(h:QL S n)(o:JC):QL (qV S o).S (n+1):=by
 have h1:QL S (n+1):=λj=>Nat.le_succ_of_le (h j);show QL (Xo { S with ops:=S.ops+1 } S.ops o).S (n+1);unfold Xo;split
 ·exact λj=>QAp (P:=λq=>q.length<=n+1) (JQ _) _ _ (h1 j)
 ·split
  ·split<;>exact h1
  ·split
   ·unfold zP;split
    ·exact h1
    ·split
     ·exact QL.oV (S:={ { S with ops:=S.ops+1 } with M:=KO S.M S.Ql (Wn S.R (Jc o.Xc)) o.Xc,st:=AV S.st (Wn S.R (Jc o.Xc)) S.Ql }) (λj=>h.put _ _ _ j) _ _
     ·exact λj=>h.put _ _ _ j
   ·split
    ·unfold kF;split
     ·exact h1
     ·exact QL.go _ h1
    ·exact h1
def Jh.QGC{c}(K:jF c):Jh (S0 c):=⟨Qyc c,Qzl c,K,λj x hx=>(by cases hx),QD _,JQ _,JQ _,λk=>⟨NN _,NN _,NN _,NN _,NN _⟩,λk a ha=>(by cases ha)⟩
def QL.cI{S:ZH}{n}(h:QL S n)(I:Qx S.M):VQ S.M<=64*n:=by
 have h1:=Qi8 (λc=>(JN S.M c.iD).length) n S.M.T λc _=>h c.iD;have h2:=I.tree.len;unfold VQ;have h3:S.M.T.length*n<=64*n:=Yp n h2;omega
def Qm4(op e):∀(n:Nat) (S:ZH),(WR op e n S).2.length<=n
 | 0,S=>QD _
 | n+1,S=>by
  unfold WR;split
  ·exact JQ _
  ·have h1:=Qm4 op e n (J5 { S with Ql:=ZL S } op (ZL S)).1;have h2:=pz { S with Ql:=ZL S } op (ZL S);dsimp only;rw[ZX];omega
def QGD(S:ZH)(o:JC):(qV S o).l.length<=VQ S.M+2:=by
 show (Xo { S with ops:=S.ops+1 } S.ops o).l.length<=_;unfold Xo;split
 ·exact JQ _
 ·split
  ·split<;>exact JQ _
  ·split
   ·unfold zP;split
    ·exact JQ _
    ·split
     ·have h2:=pz { { S with ops:=S.ops+1 } with M:=KO S.M S.Ql (Wn S.R (Jc o.Xc)) o.Xc,st:=AV S.st (Wn S.R (Jc o.Xc)) S.Ql } S.ops S.Ql;show (_::_:List Ev).length<=_;rw[Vu];exact Kz (Nat.succ_le_succ h2) (Nat.le_add_left 2 _)
     ·exact JQ _
   ·split
    ·unfold kF;split
     ·exact JQ _
     ·exact Kz (Qm4 S.ops (S.Ql+o.Ww.toNat) (VQ S.M+1) { S with ops:=S.ops+1 }) (Qi6 _)
    ·exact JQ _
def Qm5:∀(l:List JC) {S:ZH} {n:Nat},Jh S->QL S n->(∀o∈l,JC.Ok o)->(Xp S l).2.2.length<=l.length*(64*(n+l.length)+2)
 | [],S,n,T,h,hl=>JQ _
 | o::l,S,n,T,h,hl=>by
  have ho:=(hl o Va).2.1.2;have h1:=Qm5 l (T.do ho) (h.do o) λa ha=>hl a (Ks _ ha);have h2:=QGD S o;have h3:=h.cI T.I;show ((qV S o).l++(Xp (qV S o).S l).2.2).length<=_;rw[ZX,Vu];have e:n+1+l.length=n+(l.length+1):=by omega
  rw[e]at h1;rw[Vl,Qam];have h4:64*n<=64*(n+(l.length+1)):=Nat.mul_le_mul_left 64 (Nat.le_add_right _ _);omega
def QGE{x:Yw}{m}(K:jF x.config)(hl:x.ops.length<=m)(hm:m<=1000)(Js:∀o∈x.ops,JC.Ok o):(Xp (S0 x.config) x.ops).2.2.length<100000000:=by
 have h:=Qm5 x.ops (Jh.QGC K) (n:=0) (λj=>JQ _) Js;have h1:x.ops.length*(64*(0+x.ops.length)+2)<=1000*(64*1000+2):=kO (by omega) (by omega);omega
def Qgk(t:Int):Int->List Ev->Prop
 | _,[]=>True
 | u,v::l=>if v.X9=true then Qgk t u l else u<=v.at_/\1<=v.len/\v.len<=16384/\0<=v.at_/\v.at_<=4611686018427387904/\v.done=v.at_+v.len*t/\Qgk t v.done l
def Qgj:Int->List Ev->Int
 | u,[]=>u
 | u,v::l=>if v.X9=true then Qgj u l else Qgj v.done l
structure PkR (c:Cf) (S S':ZH) (l:List Ev):Prop where
 ok:Qgk c.t S.YR l
 un:Qgj S.YR l=S'.YR
 lk:S'.M.lk=c
def QJl{M:Qk}(I:Qx M)(V:Inv M){j}(h:JN M j≠[]):j∈Vi M/\j∈up M.T j:=by
 unfold JN QE at h;cases hn:Qm M.N j with
 | none=>rw[hn]at h;exact absurd rfl h
 | some n=>
  have hl:n.c.leaf=true:=by
   cases hl:n.c.leaf with
   | true=>rfl
   | false=>
    have:=V.B2 j n hn hl;rw[hn]at h;refine absurd ?_ h;show n.q.l=[];rw[this]
  have Zk:=Qx.id (M:=M) hn;refine⟨JE.2 ⟨Jn.2 ⟨n.c,JE.2 ⟨((Wy I.tree.rising).1 (I.some hn)).1,hl⟩,Zk⟩,?_⟩,?_⟩
  ·show (!(QE M j).q.l.isEmpty)=true;unfold QE;rw[hn];rw[hn]at h;cases hq:n.q.l with
   | nil=>exact absurd hq h
   | cons a b=>show (!((some n).getD default).q.l.isEmpty)=true;show (!n.q.l.isEmpty)=true;rw[hq];rfl
  ·rw[gJ I.tree,I.some hn];exact Va
def QJm{M}(I:Qx M)(V:Inv M)(b){l}(hl:∀c∈l,Z3.Ok c)(j):JN (KP M b l) j=JN M j:=by
 unfold KP;split
 ·rename_i he;have I2:=(aQ I.tree I.yi hl).1;have hb:jJ M (KG M.T l) b=false:=by
   unfold zN at he;split at he
   ·rename_i h;exact absurd he h
   ·split at he
    ·cases he
    ·rename_i h;simpa using h
  have hf:Qm (vN M (KG M.T l)).N j=if j∈JX M.T (KG M.T l) then (Qy (KG M.T l) j).map XT else Qm M.N j:=by
   show Qm (Yh M (KG M.T l)) j=_;rw[HX I I2];exact FP I2.rising j _ _
  by_cases ht:j∈JX M.T (KG M.T l)
  ·rw[Qg ht]at hf;have h0:JN M j=[]:=vQ λh=>by
    obtain⟨h1,h2⟩:=QJl I V h;have:yw M j=true:=Eb.2 ⟨j,h1,by simpa using h2⟩;unfold jJ at hb;rw[show (JX M.T (KG M.T l)).any (yw M)=true from Eb.2 ⟨j,ht,this⟩]at hb;cases hb
   rw[h0];unfold JN QE;rw[hf];cases Qy (KG M.T l) j<;>rfl
  ·rw[Qd ht]at hf;unfold JN QE;rw[hf]
 ·rfl
def Qv1{M}(I:Qx M){j}(h:JN M j≠[]):1<=j:=by
 unfold JN QE at h;cases hn:Qm M.N j with
 | none=>rw[hn]at h;exact absurd rfl h
 | some n=>
  have Zk:=Qx.id (M:=M) hn;have:=I.tree.ids n.c ((Wy I.tree.rising).1 (I.some hn)).1;omega
def Ev.pk(e:Ev):Pk:=⟨e.id,e.len,e.h0,e.h1,e.h2,e.h3⟩
def Qjf(a b:Pk):Bool:=a.iD==b.iD&&(a.len==b.len&&(a.xP==b.xP&&(a.xQ==b.xQ&&(a.xR==b.xR&&a.xS==b.xS))))
def QJn(a b):Qjf a b=true↔a=b:=by
 obtain⟨a1,a2,a3,a4,a5,a6⟩:=a;obtain⟨b1,b2,b3,b4,b5,b6⟩:=b;simp[Qjf]
@[go_sem] def QhP(x:Cf)(lm:Nat)(l:Ev)(done:Int)(q:D):List D:=[Qb x.t,Qb x.Vc,.mref lm 0,Qb l.op,QY l.X9,QY l.real,QAD l.at_,QAD l.done,Qb l.cls,QAD l.id,Qb l.len,.raw (.int .u16 l.h0),.raw (.int .u16 l.h1),.raw (.int .u16 l.h2),.raw (.int .u16 l.h3),QAD done,q]
section
variable (h:List Ob)(lb la lm:Nat)(x:Cf)(l:Ev)(done:Int)(q:D)(e:Ev)
 (n8:(h.map Ob.ro)[lb]? = some ⟨.Wd,0,1,1,λ_=>[.ptr la 0 0 0]⟩) (ha:(h.map Ob.ro)[la]? = some ⟨.Wd,0,17,1,λ_=>QhP x lm l done q⟩)
include n8 ha
theorem QJo:Zg prog 108 h [.agg e.cells,.ptr lb 0 0 0] (λd=>d=QY (decide (e.op<0\/e.op<l.op\/e.cls<1))):=by
 refine Zt Qh 200 func108 rfl ntmps108 results108 rfl λbase w pl F hF Za hb=>?_;rw[<- hF]at n8 ha;have QhM:=Qc n8;have JD:=Qc ha;simp only[go_sem,Qa,n8,QhM,ha,JD];apply QH hb [0,1,2,3,4,5,6,7,8,9,10,11,12,13,14,15,16,17,18];simp only[go_sem,Qa,n8,ha,QhM,JD]
 repeat' (first|((first|refine EX (λh=>?_) (λh=>?_)|refine EY (λh=>?_) (λh=>?_)|refine EZ (λh=>?_) (λh=>?_)|refine vg (λh=>?_) (λh=>?_)|refine E0 (λh=>?_) (λh=>?_)|refine E6 (λh=>?_) (λh=>?_)|refine E7 (λh=>?_) (λh=>?_)|refine ET (λh=>?_) (λh=>?_))<;>(try simp only[go_sem,Qa,n8,ha,QhM,JD]))|(refine And.intro (by omega) ?_;try simp only[go_sem,Qa,n8,ha,QhM,JD]))
 all_goals refine⟨_,rfl,?_⟩
 all_goals (congr 2;rw[kG];simp only[Yq,Yn,false_iff,true_iff];omega)
theorem QJp:Zg prog 109 h [.agg e.cells,.ptr lb 0 0 0] (λd=>d=QY (decide (e.at_<l.at_\/4611686018427387904<e.at_))):=by
 refine Zt Qh 200 func109 rfl ntmps109 results109 rfl λbase w pl F hF Za hb=>?_;rw[<- hF]at n8 ha;have QhM:=Qc n8;have JD:=Qc ha;simp only[go_sem,Qa,n8,QhM,ha,JD];apply QH hb [0,1,2,3,4,5,6,7,8,9,10,11,12,13];simp only[go_sem,Qa,n8,ha,QhM,JD]
 repeat' (first|((first|refine EX (λh=>?_) (λh=>?_)|refine EY (λh=>?_) (λh=>?_)|refine EZ (λh=>?_) (λh=>?_)|refine vg (λh=>?_) (λh=>?_)|refine E0 (λh=>?_) (λh=>?_)|refine E6 (λh=>?_) (λh=>?_)|refine E7 (λh=>?_) (λh=>?_)|refine ET (λh=>?_) (λh=>?_))<;>(try simp only[go_sem,Qa,n8,ha,QhM,JD]))|(refine And.intro (by omega) ?_;try simp only[go_sem,Qa,n8,ha,QhM,JD]))
 all_goals refine⟨_,rfl,?_⟩
 all_goals (congr 2;rw[kG];simp only[Yq,Yn,false_iff,true_iff];omega)
theorem QJq:Zg prog 110 h [.agg e.cells,.ptr lb 0 0 0] (λd=>d=QY (Ni e.pk x.Vc != 0)):=by
 refine Zt Qh 200 func110 rfl ntmps110 results110 rfl λbase w pl F hF Za hb=>?_;rw[<- hF]at n8 ha;have QhM:=Qc n8;have JD:=Qc ha;simp only[go_sem,Qa,n8,QhM,ha,JD];apply QH hb [0,1,2,3,4,5,6,1007,8,9];simp only[go_sem,Qa,n8,ha,QhM,JD];refine KB hb Qrn rfl ?_ (QAE e.pk x.Vc) (Qo.flat rfl) rfl λd h hR=>?_
 ·simp only[go_sem,Qa,n8,ha,QhM,JD,Ev.pk]
 obtain⟨rfl,rfl⟩:=hR;refine Zb hb ?_;simp only[go_sem,Qa,n8,ha,QhM,JD,Ev.pk];all_goals exact⟨_,rfl⟩
omit n8 ha in
theorem QJr:Zg prog 112 h [.agg e.cells] (λd=>d=QY (e.X9&&(e.done != 0 || e.real))):=by
 refine Zt Qh 200 func112 rfl ntmps112 results112 rfl λbase w pl F hF Za hb=>?_;simp only[go_sem,Qa]
 repeat' (first|((first|refine EX (λh=>?_) (λh=>?_)|refine EY (λh=>?_) (λh=>?_)|refine EZ (λh=>?_) (λh=>?_)|refine vg (λh=>?_) (λh=>?_)|refine E0 (λh=>?_) (λh=>?_)|refine E6 (λh=>?_) (λh=>?_)|refine E7 (λh=>?_) (λh=>?_)|refine ET (λh=>?_) (λh=>?_))<;>(try simp only[go_sem,Qa]))|(refine And.intro (by omega) ?_;try simp only[go_sem,Qa]))
 all_goals refine⟨_,rfl,?_⟩
 all_goals simp_all
theorem QJs:Zg prog 115 h [.agg e.cells,.ptr lb 0 0 0] (λd=>d=QY (decide (e.at_<done))):=by
 refine Zt Qh 200 func115 rfl ntmps115 results115 rfl λbase w pl F hF Za hb=>?_;rw[<- hF]at n8 ha;have QhM:=Qc n8;have JD:=Qc ha;simp only[go_sem,Qa,n8,QhM,ha,JD];apply QH hb [0,1,2,3,4,5,6,7];simp only[go_sem,Qa,n8,ha,QhM,JD];all_goals exact⟨_,rfl⟩
omit n8 in
theorem QJt:Zg prog 116 h [.ptr la 0 0 0,.agg e.cells] (λd=>d=QY (e.done != IntKind.u64.wrap (e.at_+Nj e.pk x.t))):=by
 refine Zt Qh 200 func116 rfl ntmps116 results116 rfl λbase w pl F hF Za hb=>?_;rw[<- hF]at ha;have JD:=Qc ha;simp only[go_sem,Qa,ha,JD];apply QH hb [0,1,2,3,4,5,6,1007,8,9,10,11,12];simp only[go_sem,Qa,ha,JD];refine KB hb QrG rfl ?_ (QAF e.pk x.t) (Qo.flat rfl) rfl λd h hR=>?_
 ·simp only[go_sem,Qa,ha,JD,Ev.pk]
 obtain⟨rfl,rfl⟩:=hR;refine Zb hb ?_;simp only[go_sem,Qa,ha,JD,Ev.pk];all_goals first|exact⟨_,rfl,rfl⟩|exact⟨_,rfl⟩|rfl|exact⟨[],(Zd _).symm⟩|exact⟨[],(Zd _).symm,rfl⟩
def QgL(f:Ob->Ob)(h:List Ob)(d:D)(p:List Pk):Prop:=(d=.nil/\p=[])\/∃lo g off row,d=.ref lo g off p.length/\h[lo]? = some (f ⟨.arr,g,6,off+p.length,row⟩)/\∀i,i<p.length->row (off+i)=(p.getD i default).cells
variable {es:List QR}{c:Nat}{p:List Pk}(hm:(h.map Ob.ro)[lm]? = some (QM .i64 c es).ro)
include hm
theorem QJu(hp:QgL Ob.ro (h.map Ob.ro) ((ZP es e.cls).getD .nil) p):Zg prog 113 h [.agg e.cells,.ptr lb 0 0 0] (λd=>d=QY (p.length==0)):=by
 refine Zt Qh 200 func113 rfl ntmps113 results113 rfl λbase w pl F hF Za hb=>?_;rw[<- hF]at n8 ha hm;have QhM:=Qc n8;have JD:=Qc ha;have QK:=Qc hm;simp only[go_sem,Qa,n8,QhM,ha,JD,hm,QK];cases hk:ZP es e.cls with
 | none=>
  rw[hk]at hp;rcases hp with ⟨h1,rfl⟩|⟨lo,g,off,row,h1,h2,h3⟩
  ·apply QH hb [0,1,2,3,4,5,6,7,8,9];simp only[go_sem,Qa,n8,ha,QhM,JD,hm,QK,hk];all_goals first|exact⟨_,rfl,rfl⟩|exact⟨_,rfl⟩|rfl|exact⟨[],(Zd _).symm⟩|exact⟨[],(Zd _).symm,rfl⟩
  ·cases h1
 | some d=>
  rw[hk]at hp;rcases hp with ⟨h1,rfl⟩|⟨lo,g,off,row,h1,h2,h3⟩
  ·simp only[KS]at h1;subst h1;apply QH hb [0,1,2,3,4,5,6,7,8,9];simp only[go_sem,Qa,n8,ha,QhM,JD,hm,QK,hk];all_goals first|exact⟨_,rfl,rfl⟩|exact⟨_,rfl⟩|rfl|exact⟨[],(Zd _).symm⟩|exact⟨[],(Zd _).symm,rfl⟩
  ·simp only[KS]at h1;subst h1;apply QH hb [0,1,2,3,4,5,6,7,8,9];simp only[go_sem,Qa,n8,ha,QhM,JD,hm,QK,hk];refine⟨_,rfl,?_⟩;congr 2;rw[kG];simp
theorem QJv(hp:QgL Ob.ro (h.map Ob.ro) ((ZP es e.cls).getD .nil) p)(QB:p≠[]):Zg prog 114 h [.agg e.cells,.ptr lb 0 0 0] (λd=>d=QY (!Qjf (p.getD 0 default) e.pk)):=by
 cases hk:ZP es e.cls with
 | none=>
  rw[hk]at hp;rcases hp with ⟨h1,rfl⟩|⟨lo,g,off,row,h1,h2,h3⟩
  ·exact absurd rfl QB
  ·cases h1
 | some d=>
  rw[hk]at hp;rcases hp with ⟨h1,rfl⟩|⟨lo,g,off,row,h1,h2,h3⟩
  ·exact absurd rfl QB
  ·refine Zt Qh 200 func114 rfl ntmps114 results114 rfl λbase w pl F hF Za hb=>?_;rw[<- hF]at n8 ha hm h2;have QhM:=Qc n8;have JD:=Qc ha;have QK:=Qc hm;have KE:=Qc h2;simp only[go_sem,Qa,n8,QhM,ha,JD,hm,QK,h2,KE];simp only[KS]at h1;subst h1;have yR:0<p.length:=QkI.2 QB;have h4:=h3 0 yR;simp only[Gh]at h4;apply QH hb [0,1,2,3,4,5,6,7,8,9,10,11,12];simp only[go_sem,Qa,n8,ha,QhM,JD,hm,QK,hk,h2,KE,h4,yR];refine⟨by omega,by omega,?_⟩;all_goals first|exact⟨_,rfl,rfl⟩|exact⟨_,rfl⟩|rfl|exact⟨[],(Zd _).symm⟩|exact⟨[],(Zd _).symm,rfl⟩
end
section
variable (h:List Ob)(lw:Nat)(e:Ev)(f:FuncId)(lc:Nat)(B:Bool)
def Qlx(hf:Qq prog f)(hw:(h.map Ob.ro)[lw]? = some ⟨.Wd,0,1,1,λ_=>[.clo f 0 [.ptr lc 0 0 0]]⟩)(hq:e.X9=false->∀h':List Ob,(∀(l:Nat) (o:Ob),(h.map Ob.ro)[l]? = some o->(h'.map Ob.ro)[l]? = some o)->Zg prog f h' [.agg e.cells,.ptr lc 0 0 0] (λd=>d=QY B)):
  Zg prog 107 h [.agg e.cells,.ptr lw 0 0 0] (λd=>d=QY (!e.X9&&B)):=by
 have af:=hw;refine Zt Qh 200 func107 rfl ntmps107 results107 rfl λbase w pl F hF Za hb=>?_;rw[<- hF]at hw;have QjL:=Qc hw;simp only[go_sem,Qa,hw,QjL];cases hi:e.X9 with
 | true=>
  simp only[go_sem,Qa,hi];exact⟨_,rfl⟩
 | false=>
  simp only[go_sem,Qa,hi,hw,QjL];refine ZT hb hf rfl ?_ (hq hi _ λl o hl=>?_) rfl λd hR=>?_
  ·simp only[go_sem,Qa,hi]
  ·rw[vS,hF,Ef];have:=Qc hl;rw[QC (by simpa using this)];simp only[Ky]at hl ⊢;rw[<- hl];cases h[l]? with
   | none=>rfl
   | some o=>simp[ro_ro]
  ·subst hR;apply Q1 hb;all_goals first|exact⟨_,rfl,rfl⟩|exact⟨_,rfl⟩|rfl|exact⟨[],(Zd _).symm⟩|exact⟨[],(Zd _).symm,rfl⟩
def QJw(hf:Qq prog f)(hw:(h.map Ob.ro)[lw]? = some ⟨.Wd,0,1,1,λ_=>[.clo f 1 [.ptr lc 0 0 0]]⟩)(hq:e.X9=false->∀h':List Ob,(∀(l:Nat) (o:Ob),(h.map Ob.ro)[l]? = some o->(h'.map Ob.ro)[l]? = some o)->Zg prog f h' [.ptr lc 0 0 0,.agg e.cells] (λd=>d=QY B)):
  Zg prog 107 h [.agg e.cells,.ptr lw 0 0 0] (λd=>d=QY (!e.X9&&B)):=by
 have af:=hw;refine Zt Qh 200 func107 rfl ntmps107 results107 rfl λbase w pl F hF Za hb=>?_;rw[<- hF]at hw;have QjL:=Qc hw;simp only[go_sem,Qa,hw,QjL];cases hi:e.X9 with
 | true=>
  simp only[go_sem,Qa,hi];exact⟨_,rfl⟩
 | false=>
  simp only[go_sem,Qa,hi,hw,QjL];refine ZT hb hf rfl ?_ (hq hi _ λl o hl=>?_) rfl λd hR=>?_
  ·simp only[go_sem,Qa,hi]
  ·rw[vS,hF,Ef];have:=Qc hl;rw[QC (by simpa using this)];simp only[Ky]at hl ⊢;rw[<- hl];cases h[l]? with
   | none=>rfl
   | some o=>simp[ro_ro]
  ·subst hR;apply Q1 hb;all_goals first|exact⟨_,rfl,rfl⟩|exact⟨_,rfl⟩|rfl|exact⟨[],(Zd _).symm⟩|exact⟨[],(Zd _).symm,rfl⟩
end
structure Qin (h:List Ob) (es:List QR) (W:Int->List Pk):Prop where
 at_:∀k,QgL id h ((ZP es k).getD .nil) (W k)
 sep:∀k k' lo g off n g' xr n',ZP es k=some (.ref lo g off n)->ZP es k'=some (.ref lo g' xr n')->k=k'
def QJx(h h':List Ob):Prop:=∀(l:Nat) (o:Ob),h[l]? = some o->o.kd.ty=0->o.sz≠17->o.sz≠6->h'[l]? = some o
def Qgi(W:Int->List Pk)(e:Ev):Int->List Pk:=λk=>if k=e.cls then (if e.X9 then W k++[e.pk] else (W k).tail) else W k
def Qjh{h:List Ob}{l m:Nat}{o o':Ob}(a:h[l]? = some o)(b:h[m]? = some o')(hn:o.sz≠o'.sz):l≠m:=by
 rintro rfl;rw[a]at b;cases b;exact hn rfl
def Qin.set{h h':List Ob}{es es'}{W}(w:Qin h es W){k}{d}{p}(lo)(ho:∀(l:Nat) (o:Ob),h[l]? = some o->o.sz=6->l≠lo->h'[l]? = some o)
  (hd:QgL id h' d p) (hl:∀l g off n,d=.ref l g off n->l=lo) (hs:∀k' l g off n,k'≠k->ZP es k'=some (.ref l g off n)->l≠lo)
  (he:∀k',ZP es' k'=if k'=k then some d else ZP es k'):Qin h' es' (λk'=>if k'=k then p else W k'):=by
 refine⟨λk'=>?_,λk1 k2 l g off n g' xr n' h1 h2=>?_⟩
 ·rw[he k'];by_cases hk:k'=k
  ·rw[Qg hk,Qg hk];exact hd
  ·rw[Qd hk,Qd hk];rcases w.at_ k' with ⟨h1,h2⟩|⟨l,g,off,row,h1,h2,h3⟩
   ·exact .inl ⟨h1,h2⟩
   ·refine .inr ⟨l,g,off,row,h1,ho l _ h2 rfl ?_,h3⟩;cases ha:ZP es k' with
    | none=>rw[ha]at h1;cases h1
    | some d'=>
     rw[ha]at h1;simp only[KS]at h1;subst h1;exact hs k' l g off _ hk ha
 ·rw[he k1]at h1;rw[he k2]at h2;by_cases a1:k1=k<;>by_cases a2:k2=k
  ·rw[a1,a2]
  ·rw[Qg a1]at h1;rw[Qd a2]at h2;exact absurd (hl _ _ _ _ (IC h1)) (hs k2 _ _ _ _ a2 h2)
  ·rw[Qd a1]at h1;rw[Qg a2]at h2;exact absurd (hl _ _ _ _ (IC h2)) (hs k1 _ _ _ _ a1 h1)
  ·rw[Qd a1]at h1;rw[Qd a2]at h2;exact w.sep k1 k2 l g off n g' xr n' h1 h2
structure QjN (h:List Ob) (la lm:Nat) (x:Cf) (e:Ev) (done:Int) (q:D) (W:Int->List Pk) (h':List Ob):Prop where
 a:h'[la]? = some ⟨.one,0,17,1,λ_=>QhP x lm e done q⟩
 m:∃c' es',h'[lm]? = some (QM .i64 c' es')/\Qin h' es' W
 s:QJx h h'
def QlA{h h':List Ob}{la lm lo c}{es}{W}{x}{e}{done}{q}{d}{p}{o:Ob}(w:Qin h es W)(ha:h[la]? = some o)(QJy:o.sz=17)(hm:h[lm]? = some (QM .i64 c es))
  (h1:h'[la]? = some ⟨.one,0,17,1,λ_=>QhP x lm e done q⟩) (h2:h'[lm]? = some (JI .i64 c es e.cls d)) (hd:QgL id h' d p) (hl:∀l g off n,d=.ref l g off n->l=lo)
  (hs:∀k' l g off n,k'≠e.cls->ZP es k'=some (.ref l g off n)->l≠lo) (ho:∀(l:Nat) (o:Ob),h[l]? = some o->l≠la->l≠lm->l≠lo->h'[l]? = some o) (ZE:∀o,h[lo]? = some o->o.sz=6) :
  QjN h la lm x e done q (λk'=>if k'=e.cls then p else W k') h':=by
 have hmz:(QM .i64 c es).sz=3:=rfl;obtain⟨c',es',h3,h4⟩:=rL .i64 c es e.cls d;refine⟨h1,⟨c',es',by rw[h2,h3],w.set lo (λl o ZE h6 QB=>ho l o ZE ?_ ?_ QB) hd hl hs h4⟩,λl o hg hk h17 h6=>ho l o hg ?_ ?_ ?_⟩
 ·exact Qjh ZE ha (by omega)
 ·exact Qjh ZE hm (by omega)
 ·rintro rfl;rw[ha]at hg;cases hg;exact h17 QJy
 ·rintro rfl;rw[hm]at hg;cases hg;exact absurd hk (by show (1:Nat)≠0;decide)
 ·rintro rfl;exact h6 (ZE o hg)
def QgL.nil{f}{h}{p}(hp:QgL f h .nil p):p=[]:=by
 rcases hp with ⟨_,h⟩|⟨_,_,_,_,h,_⟩
 ·exact h
 ·cases h
def QJA(h)(la lm)(x)(l:Ev)(done)(q)(e:Ev)(es)(c)(W)
  (ha:h[la]? = some ⟨.one,0,17,1,λ_=>QhP x lm l done q⟩) (hm:h[lm]? = some (QM .i64 c es)) (hW:Qin h es W) (QB:e.X9=false->W e.cls≠[]) (hbd:(W e.cls).length<100000000) :
  MFn prog 66 h [.ptr la 0 0 0,.agg e.cells] (λd h'=>QjN h la lm x e (if e.X9 then done else e.done) q (Qgi W e) h'):=by
 have h1:la≠lm:=Qjh ha hm (by show (17:Nat)≠3;decide);have hp:=hW.at_ e.cls;have Jw:∀(es':List QR) k' l g off n n',n'=h.length+2->Qin h es' W->ZP es' k'=some (.ref l g off n)->l≠n':=λes' k' l g off n n' hn hw hk=>by
  rcases hw.at_ k' with ⟨h2,_⟩|⟨l',_,_,_,h2,h3,_⟩
  ·rw[hk]at h2;cases h2
  ·rw[hk]at h2;cases h2;have:=Qc h3;omega
 cases hi:e.X9 with
 | true=>
  have Jg:Qgi W e=λk'=>if k'=e.cls then W e.cls++[e.pk] else W k':=by
   funext k;unfold Qgi;rw[hi];by_cases hk:k=e.cls<;>simp[hk]
  rw[Jg];have new:(ZP es e.cls=none\/ZP es e.cls=some .nil)->W e.cls=[]->QjN h la lm x e done q (λk'=>if k'=e.cls then W e.cls++[e.pk] else W k')
    ((h.set la ⟨.one,0,17,1,λ_=>QhP x lm e done q⟩).set lm (JI .i64 c es e.cls (.ref (h.length+2) 0 0 1))++[⟨.one,0,12,1,λ_=>e.cells⟩,⟨.arr,0,6,1,λ_=>e.pk.cells⟩,⟨.arr,0,6,1,λ_=>e.pk.cells⟩]):=λhk hw=>by
   have JD:=Qc ha;have QK:=Qc hm;refine QlA (lo:=h.length+2) (d:=.ref (h.length+2) 0 0 1) hW ha rfl hm ?_ ?_ (.inr ⟨h.length+2,0,0,λ_=>e.pk.cells,?_,?_,?_⟩) (λl g off n e=>by cases e;rfl) (λk' l g off n _ ZD=>Jw es k' l g off n _ rfl hW ZD) (λl o ho n1 n2 n3=>?_) (λo ho=>absurd (Qc ho) (by omega))
   ·rw[QC (by simpa using JD),Qi h1.symm,Qv JD]
   ·rw[QC (by simpa using QK),Qv (by simpa using QK)]
   ·rw[hw];rfl
   ·rw[KX (by simp),hw];rfl
   ·intro i hi;rw[hw]at hi ⊢;simp at hi;subst hi;rfl
   ·have:=Qc ho;rw[QC (by simpa using this),Qi (Q3 n2),Qi (Q3 n1),ho]
  cases hk:ZP es e.cls with
  | none=>
   rw[hk]at hp;have hw:=hp.nil;refine QU Qh 200 func66 rfl ntmps66 results66 rfl λbase w pl hb=>?_;have JD:=Qc ha;have QK:=Qc hm;simp only[go_sem,Qa,ha,JD,hm,QK,hi,h1,h1.symm,hk];apply KL [] hb [0,1,2,4,6,7,8,9,10,11,12,13,14] [3,5,15,16,17];simp only[go_sem,Qa,ha,JD,hm,QK,hi,h1,h1.symm,hk,Qv,Qi,↓reduceIte];have fin:=new (.inl hk) hw;simp only[go_sem,Ev.pk,hi]at fin ⊢
   repeat' apply And.intro
   all_goals exact fin
  | some d=>
   rw[hk]at hp;rcases hp with ⟨h2,h3⟩|⟨lo,g,off,row,h2,h3,h4⟩
   ·simp only[KS]at h2;subst h2;refine QU Qh 200 func66 rfl ntmps66 results66 rfl λbase w pl hb=>?_;have JD:=Qc ha;have QK:=Qc hm;simp only[go_sem,Qa,ha,JD,hm,QK,hi,h1,h1.symm,hk];apply KL [] hb [0,1,2,4,6,7,8,9,10,11,12,13,14] [3,5,15,16,17];simp only[go_sem,Qa,ha,JD,hm,QK,hi,h1,h1.symm,hk,Qv,Qi,↓reduceIte];have fin:=new (.inr hk) h3;simp only[go_sem,Ev.pk,hi]at fin ⊢
    repeat' apply And.intro
    all_goals exact fin
   ·simp only[KS]at h2;subst h2;have h3:h[lo]? = some ⟨.arr,g,6,off+(W e.cls).length,row⟩:=h3;have n1:lo≠la:=Qjh h3 ha (by show (6:Nat)≠17;decide);have n2:lo≠lm:=Qjh h3 hm (by show (6:Nat)≠3;decide);have yg:(W e.cls).length<=4294967295:=by omega
    have h9:(W e.cls).length+1<=4294967295:=by omega
    refine QU Qh 200 func66 rfl ntmps66 results66 rfl λbase w pl hb=>?_;have JD:=Qc ha;have QK:=Qc hm;have Zz:=Qc h3;simp only[go_sem,Qa,ha,JD,hm,QK,h3,Zz,hi,h1,h1.symm,hk,n1,n2,n1.symm,n2.symm];apply KL [] hb [0,1,2,4,6,7,8,9,10,11,12,13,14] [3,5,15,16,17];simp only[go_sem,Qa,ha,JD,hm,QK,hi,h1,h1.symm,hk,Qv,Qi,h3,Zz,n1,n2,n1.symm,n2.symm,↓reduceIte,yg,h9];have fin:QjN h la lm x e done q (λk'=>if k'=e.cls then W e.cls++[e.pk] else W k')
      (((h.set la ⟨.one,0,17,1,λ_=>QhP x lm e done q⟩).set lo ⟨.arr,g+1,6,(W e.cls).length+1,J2 (W e.cls).length off row λ_=>e.pk.cells⟩).set lm (JI .i64 c es e.cls (.ref lo (g+1) 0 ((W e.cls).length+1)))++[⟨.one,0,12,1,λ_=>e.cells⟩,⟨.arr,0,6,1,λ_=>e.pk.cells⟩]):=by
     refine QlA (lo:=lo) (d:=.ref lo (g+1) 0 ((W e.cls).length+1)) hW ha rfl hm ?_ ?_ (.inr ⟨lo,g+1,0,J2 (W e.cls).length off row λ_=>e.pk.cells,by simp,?_,?_⟩) (λl g off n e=>by cases e;rfl) (λk' l g' xr n' Yb ZD e=>?_) (λl o ho n1 n2 n3=>?_) (λo ho=>by rw[h3]at ho;cases ho;rfl)
     ·rw[QC (by simpa using JD),Qi h1.symm,Qi n1,Qv JD]
     ·rw[QC (by simpa using QK),Qv (by simpa using QK)]
     ·rw[QC (by simpa using Zz),Qi n2.symm,Qv (by simpa using Zz)];simp
     ·intro i hi;simp at hi;rw[JG];by_cases Yx:i<(W e.cls).length
      ·rw[yL Yx,h4 i Yx];simp[Yx,Jy Yx]
      ·have:i=(W e.cls).length:=by omega
       subst this;rw[vV (QD _)];simp
     ·subst e;exact Yb (hW.sep _ _ _ _ _ _ _ _ _ ZD hk)
     ·have:=Qc ho;rw[QC (by simpa using this),Qi (Q3 n2),Qi (Q3 n3),Qi (Q3 n1),ho]
    simp only[go_sem,Ev.pk,hi]at fin ⊢
    repeat' apply And.intro
    all_goals exact fin
 | false=>
  have Jg:Qgi W e=λk'=>if k'=e.cls then (W e.cls).tail else W k':=by
   funext k;unfold Qgi;rw[hi];by_cases hk:k=e.cls<;>simp[hk]
  rw[Jg];have QB:=QB hi;cases hk:ZP es e.cls with
  | none=>
   rw[hk]at hp;exact absurd hp.nil QB
  | some d=>
   rw[hk]at hp;rcases hp with ⟨h2,h3⟩|⟨lo,g,off,row,h2,h3,h4⟩
   ·exact absurd h3 QB
   ·simp only[KS]at h2;subst h2;have h3:h[lo]? = some ⟨.arr,g,6,off+(W e.cls).length,row⟩:=h3;have n1:lo≠la:=Qjh h3 ha (by show (6:Nat)≠17;decide);have n2:lo≠lm:=Qjh h3 hm (by show (6:Nat)≠3;decide);have yR:0<(W e.cls).length:=QkI.2 QB;refine QU Qh 200 func66 rfl ntmps66 results66 rfl λbase w pl hb=>?_;have JD:=Qc ha;have QK:=Qc hm;have Zz:=Qc h3;simp only[go_sem,Qa,ha,JD,hm,QK,h3,Zz,hi,h1,h1.symm,hk,n1,n2,n1.symm,n2.symm,Qv,Qi];apply QH hb [0,1,2,3,4,5,6,7,8,9,10,11,12,13,1014];simp only[go_sem,Qa,ha,JD,hm,QK,hi,h1,h1.symm,hk,Qv,Qi,h3,Zz,n1,n2,n1.symm,n2.symm,↓reduceIte];have fin:QjN h la lm x e e.done q (λk'=>if k'=e.cls then (W e.cls).tail else W k')
      ((h.set la ⟨.one,0,17,1,λ_=>QhP x lm e e.done q⟩).set lm (JI .i64 c es e.cls (.ref lo g (off+1) ((W e.cls).length - 1)))++[⟨.one,0,12,1,λ_=>e.cells⟩]):=by
     refine QlA (lo:=lo) (d:=.ref lo g (off+1) ((W e.cls).length - 1)) hW ha rfl hm ?_ ?_ (.inr ⟨lo,g,off+1,row,by simp,?_,?_⟩) (λl g off n e=>by cases e;rfl) (λk' l g' xr n' Yb ZD e=>?_) (λl o ho n1 n2 n3=>?_) (λo ho=>by rw[h3]at ho;cases ho;rfl)
     ·rw[QC (by simpa using JD),Qi h1.symm,Qv JD]
     ·rw[QC (by simpa using QK),Qv (by simpa using QK)]
     ·rw[QC (by simpa using Zz),Qi n2.symm,Qi n1.symm,h3];simp;omega
     ·intro i hi;simp at hi;rw[show off+1+i=off+(i+1) by omega,h4 (i+1) (by omega)];cases hw:W e.cls with
      | nil=>rw[hw]at yR;simp at yR
      | cons a r=>simp
     ·subst e;exact Yb (hW.sep _ _ _ _ _ _ _ _ _ ZD hk)
     ·have:=Qc ho;rw[QC (by simpa using this),Qi (Q3 n2),Qi (Q3 n1),ho]
    have htn:(((W e.cls).length:Int) - 1).toNat=(W e.cls).length - 1:=by omega
    simp only[go_sem,Ev.pk,hi,htn]at fin ⊢;exact⟨by omega,fin⟩
def Qk2(h:List Ob)(f)(nf l):Wf prog 106 h [.clo f nf [.ptr l 0 0 0]] (λd g=>d=.clo 107 0 [.ptr h.length 0 0 0]/\g=[⟨.one,0,1,1,λ_=>[.clo f nf [.ptr l 0 0 0]]⟩]):=by
 refine Ai Qh 200 func106 rfl ntmps106 results106 rfl λbase w pl F hF Za hb=>?_;simp only[go_sem,Qa];simp only[Za];exact⟨_,rfl,trivial,rfl⟩
def zEv:Ev:=⟨0,false,false,0,0,0,0,0,0,0,0,0⟩
def QiV(f:FuncId)(nf l:Nat):Ob:=⟨.one,0,1,1,λ_=>[.clo f nf [.ptr l 0 0 0]]⟩
def QjQ(l:Nat):D:=.clo 107 0 [.ptr l 0 0 0]
structure QJC (n:Nat) (x:Cf) (row:Nat->List D) (g:List Ob):Prop where
 g:g=[⟨.one,0,2,1,λ_=>x.cells⟩,QM .i64 0 [],⟨.one,0,17,1,λ_=>QhP x (n+1) zEv 0 (.ref (n+8) 0 0 8)⟩,⟨.one,0,1,1,λ_=>[.ptr (n+2) 0 0 0]⟩,QiV 113 0 (n+3),QiV 114 0 (n+3),QiV 115 0 (n+3),QiV 116 1 (n+2),⟨.arr,0,2,8,row⟩]
 r0:row 0=[Qb 1,.clo 108 0 [.ptr (n+3) 0 0 0]]
 r1:row 1=[Qb 27,.clo 109 0 [.ptr (n+3) 0 0 0]]
 r2:row 2=[Qb 26,.clo 110 0 [.ptr (n+3) 0 0 0]]
 r3:row 3=[Qb 4,.raw (.func (.func 112) #[] #[])]
 r4:row 4=[Qb 6,QjQ (n+4)]
 r5:row 5=[Qb 8,QjQ (n+5)]
 r6:row 6=[Qb 24,QjQ (n+6)]
 r7:row 7=[Qb 20,QjQ (n+7)]
def QJD(h:List Ob)(x:Cf):MFn prog 65 h [.agg x.cells] (λd h'=>d=.ptr (h.length+2) 0 0 0/\∃g row,h'=h++g/\QJC h.length x row g):=by
 refine QU Qh 200 func65 rfl ntmps65 results65 rfl λbase w pl hb=>?_;simp only[go_sem,Qa];apply QH hb [0,1,2,3,4,5,6,7,8,9,12,13,16,17,20,21,22,1010,11,1014,15,1018,19,1023,24,1025,26,27,1028];simp only[go_sem,Qa];refine OJ hb QkP rfl ?_ (Qk2 _ 113 0 (h.length+3)) rfl λd h hR=>?_
 ·simp only[go_sem,Qa]
 obtain⟨rfl,rfl⟩:=hR;apply XN hb;refine OJ hb QkP rfl ?_ (Qk2 _ 114 0 (h.length+3)) rfl λd h hR=>?_
 ·simp only[go_sem,Qa]
 obtain⟨rfl,rfl⟩:=hR;apply XN hb;refine OJ hb QkP rfl ?_ (Qk2 _ 115 0 (h.length+3)) rfl λd h hR=>?_
 ·simp only[go_sem,Qa]
 obtain⟨rfl,rfl⟩:=hR;apply XN hb;refine OJ hb QkP rfl ?_ (Qk2 _ 116 1 (h.length+2)) rfl λd h hR=>?_
 ·simp only[go_sem,Qa]
 obtain⟨rfl,rfl⟩:=hR;apply XN hb;exact⟨_,_,rfl,rfl,rfl,rfl,rfl,rfl,rfl,rfl,rfl,rfl⟩
def wAt(l:List Ev):Nat->Int->List Pk
 | 0=>λ_=>[]
 | i+1=>Qgi (wAt l i) (l.getD i default)
def Qkw(l:List Ev):Nat->Ev
 | 0=>zEv
 | i+1=>l.getD i default
def QiX(l:List Ev):Nat->Int
 | 0=>0
 | i+1=>if (l.getD i default).X9 then QiX l i else (l.getD i default).done
def qst(x:Cf)(W:Int->List Pk)(last:Ev)(done:Int)(e:Ev):Nat->Bool
 | 0=>decide (e.op<0\/e.op<last.op\/e.cls<1)
 | 1=>decide (e.at_<last.at_\/4611686018427387904<e.at_)
 | 2=>Ni e.pk x.Vc != 0
 | 3=>e.X9&&(e.done != 0 || e.real)
 | 4=>!e.X9&&(W e.cls).length==0
 | 5=>!e.X9&&!Qjf ((W e.cls).getD 0 default) e.pk
 | 6=>!e.X9&&decide (e.at_<done)
 | _=>!e.X9&&e.done != IntKind.u64.wrap (e.at_+Nj e.pk x.t)
def Y3(x:Cf)(l:List Ev)(i k:Nat):Bool:=qst x (wAt l i) (Qkw l i) (QiX l i) (l.getD i default) k
def QlB:Nat->Int
 | 0=>1
 | 1=>27
 | 2=>26
 | 3=>4
 | 4=>6
 | 5=>8
 | 6=>24
 | _=>20
def Qgl{h t:List Ob}{l:Nat}{o:Ob}(e:h[l]? = some o):((h++t).map Ob.ro)[l]? = some o.ro:=ZM (by rw[QC (Qc e)];exact e)
def QgL.ro{h t:List Ob}{d}{p}(s:QgL id h d p):QgL Ob.ro ((h++t).map Ob.ro) d p:=by
 rcases s with h|⟨lo,g,off,row,h1,h2,h3⟩
 ·exact .inl h
 ·exact .inr ⟨lo,g,off,row,h1,Qgl h2,h3⟩
def QgL.app{h t}{d}{p}(s:QgL id h d p):QgL id (h++t) d p:=by
 rcases s with h|⟨lo,g,off,row,h1,h2,h3⟩
 ·exact .inl h
 ·exact .inr ⟨lo,g,off,row,h1,by rw[QC (Qc h2)];exact h2,h3⟩
structure QiY (x:Cf) (l:List Ev) (row:Nat->List D) (i:Nat) (H:List Ob):Prop where
 f:H[1]? = some ⟨.one,0,2,1,λ_=>[Qb 0,Qb 0]⟩
 a:H[4]? = some ⟨.one,0,17,1,λ_=>QhP x 3 (Qkw l i) (QiX l i) (.ref 10 0 0 8)⟩
 m:∃c es,H[3]? = some (QM .i64 c es)/\Qin H es (wAt l i)
 b:H[5]? = some ⟨.one,0,1,1,λ_=>[.ptr 4 0 0 0]⟩
 p5:H[6]? = some (QiV 113 0 5)
 p6:H[7]? = some (QiV 114 0 5)
 p7:H[8]? = some (QiV 115 0 5)
 p8:H[9]? = some (QiV 116 1 4)
 q:H[10]? = some ⟨.arr,0,2,8,row⟩
def QiY.app{x}{l}{row}{i}{H t}(I:QiY x l row i H):QiY x l row i (H++t):=by
 have up:∀{l:Nat} {o:Ob},H[l]? = some o->(H++t)[l]? = some o:=λe=>by rw[QC (Qc e)];exact e
 obtain⟨c,es,h1,h2⟩:=I.m;exact⟨up I.f,up I.a,⟨c,es,up h1,λk=>(h2.at_ k).app,h2.sep⟩,up I.b,up I.p5,up I.p6,up I.p7,up I.p8,up I.q⟩
def Clean(x:Cf)(l:List Ev)(i:Nat):Prop:=∀j,j<i->∀k,k<8->Y3 x l j k=false
def QlC(x:Cf)(l:List Ev)(d:D):Prop:=(∃i k,i<l.length/\k<8/\Clean x l i/\(∀k',k'<k->Y3 x l i k'=false)/\Y3 x l i k=true/\d=.agg [Qb i,Qb (QlB k)])\/(Clean x l l.length/\d=.agg [Qb 0,Qb 0])
section
variable {x:Cf}{l:List Ev}{row:Nat->List D}{i:Nat}{H t:List Ob}(I:QiY x l row i H)
include I
theorem QJE{e:Ev}(he:e=l.getD i default):Zg prog 108 (H++t) [.agg e.cells,.ptr 5 0 0 0] (λd=>d=QY (Y3 x l i 0)):=by subst he;exact QJo _ 5 4 3 x _ _ _ _ (Qgl I.b) (Qgl I.a)
theorem QJF{e:Ev}(he:e=l.getD i default):Zg prog 109 (H++t) [.agg e.cells,.ptr 5 0 0 0] (λd=>d=QY (Y3 x l i 1)):=by subst he;exact QJp _ 5 4 3 x _ _ _ _ (Qgl I.b) (Qgl I.a)
theorem QJG{e:Ev}(he:e=l.getD i default):Zg prog 110 (H++t) [.agg e.cells,.ptr 5 0 0 0] (λd=>d=QY (Y3 x l i 2)):=by subst he;exact QJq _ 5 4 3 x _ _ _ _ (Qgl I.b) (Qgl I.a)
omit I in
theorem QJH{e:Ev}(he:e=l.getD i default):Zg prog 112 (H++t) [.agg e.cells] (λd=>d=QY (Y3 x l i 3)):=by subst he;exact QJr _ _
theorem QJI{e:Ev}(he:e=l.getD i default):Zg prog 107 (H++t) [.agg e.cells,.ptr 6 0 0 0] (λd=>d=QY (Y3 x l i 4)):=by
 subst he;obtain⟨c,es,hm,hW⟩:=I.m;exact Qlx _ 6 _ 113 5 _ QGP (Qgl I.p5) λ_ h' up=>QJu h' 5 4 3 x _ _ _ _ (up _ _ (Qgl I.b)) (up _ _ (Qgl I.a)) (up _ _ (Qgl hm)) (p:=wAt l i (l.getD i default).cls) (by
  rcases (hW.at_ (l.getD i default).cls).ro (t:=t) with h|⟨lo,g,off,row,h1,h2,h3⟩
  ·exact .inl h
  ·exact .inr ⟨lo,g,off,row,h1,up _ _ h2,h3⟩)
theorem QJJ{e:Ev}(he:e=l.getD i default)(hq:Y3 x l i 4=false):Zg prog 107 (H++t) [.agg e.cells,.ptr 7 0 0 0] (λd=>d=QY (Y3 x l i 5)):=by
 subst he;obtain⟨c,es,hm,hW⟩:=I.m;exact Qlx _ 7 _ 114 5 _ QGQ (Qgl I.p6) λXI h' up=>QJv h' 5 4 3 x _ _ _ _ (up _ _ (Qgl I.b)) (up _ _ (Qgl I.a)) (up _ _ (Qgl hm)) (p:=wAt l i (l.getD i default).cls) (by
  rcases (hW.at_ (l.getD i default).cls).ro (t:=t) with h|⟨lo,g,off,row,h1,h2,h3⟩
  ·exact .inl h
  ·exact .inr ⟨lo,g,off,row,h1,up _ _ h2,h3⟩) (λh=>by
   simp only[Y3,qst,XI,h]at hq;simp at hq)
theorem QJK{e:Ev}(he:e=l.getD i default):Zg prog 107 (H++t) [.agg e.cells,.ptr 8 0 0 0] (λd=>d=QY (Y3 x l i 6)):=by
 subst he;exact Qlx _ 8 _ 115 5 _ QGR (Qgl I.p7) λ_ h' up=>QJs h' 5 4 3 x _ _ _ _ (up _ _ (Qgl I.b)) (up _ _ (Qgl I.a))
theorem QJL{e:Ev}(he:e=l.getD i default):Zg prog 107 (H++t) [.agg e.cells,.ptr 9 0 0 0] (λd=>d=QY (Y3 x l i 7)):=by
 subst he;exact QJw _ 9 _ 116 4 _ QGS (Qgl I.p8) λ_ h' up=>QJt h' 4 3 x _ _ _ _ (up _ _ (Qgl I.a))
end
def QlD(l:List Ev):∀(i:Nat) (k:Int),(wAt l i k).length<=i
 | 0,_=>QD _
 | i+1,k=>by
  have:=QlD l i k;simp only[wAt,Qgi];split
  ·split
   ·simp;omega
   ·simp;omega
  ·omega
def QJM(x:Cf)(l:List Ev)(hl:l.length<100000000):Zh prog 34 [.agg x.cells,OP l] (λd h=>h=[]/\if 1<=x.t/\x.t<=65536/\1<=x.Vc/\x.Vc<=16384 then QlC x l d else d=.agg [Qb 0,Qb 7]):=by
 refine Zy 0 Qh 200 func34 rfl ntmps34 results34 rfl λbase w hb=>?_;simp only[go_sem];by_cases hx:1<=x.t/\x.t<=65536/\1<=x.Vc/\x.Vc<=16384
 ·obtain⟨h1,h2,h3,h4⟩:=id hx;simp only[Qg hx];simp only[go_sem,QQ (show ¬ x.t<1 by omega),QQ (show ¬ (65536:Int)<x.t by omega),QQ (show ¬ x.Vc<1 by omega),QQ (show ¬ (16384:Int)<x.Vc by omega)];refine BD hb QF2 (QJD _ x) λd h hR=>?_;obtain⟨rfl,g,row,rfl,N⟩:=hR;apply Q1 hb;have I0:QiY x l row 0 (⟨.one,0,2,1,λ_=>x.cells⟩::⟨.one,0,2,1,λ_=>[Qb 0,Qb 0]⟩::g):=by
   have hg:=N.g;subst hg;exact⟨rfl,rfl,⟨0,[],rfl,⟨λk=>.inl ⟨rfl,rfl⟩,λk k' lo g off n g' xr n' h=>by cases h⟩⟩,rfl,rfl,rfl,rfl,rfl,rfl⟩
  refine ZZ (λi s=>∃H,QiY x l row i H/\Clean x l i/\s=⟨[(4,.ptr 1 0 0 0),(5,.ptr 4 0 0 0),(31,OP l),(32,Qb l.length),(33,Qb i)],H⟩) l.length QO ⟨_,I0,λj hj=>absurd hj (XY j),rfl⟩ ?_;have r0:=N.r0;have r1:=N.r1;have r2:=N.r2;have r3:=N.r3;have r4:=N.r4;have r5:=N.r5;have r6:=N.r6;have r7:=N.r7;simp only[go_sem,QjQ]at r0 r1 r2 r3 r4 r5 r6 r7;clear I0 N g;rintro i s hi ⟨H,I,Z6,rfl⟩;apply Q1 hb;first|refine Ad hi (λQs=>?_) (λQs=>?_)|refine Ae hi (λQs=>?_) (λQs=>?_)
  ·obtain⟨e,he⟩:∃e,e=l.getD i default:=⟨_,rfl⟩;have a_l:=Qc I.a;simp only[go_sem,Qa,Qs,<- he,I.a,I.q,a_l];obtain⟨n,hn⟩:∃n,n=H.length:=⟨_,rfl⟩;rw[<- hn];refine ZZ (λk s=>∃H':List Ob,QiY x l row i H'/\H'[n]? = some ⟨.one,0,12,1,λ_=>e.cells⟩/\(∀k',k'<k->Y3 x l i k'=false)/\s=⟨[(4,.ptr 1 0 0 0),(5,.ptr 4 0 0 0),(31,OP l),(32,Qb l.length),(33,Qb i),(6,Qb i),(7,.ptr n 0 0 0),(41,.ref 10 0 0 8),(42,Qb 8),(43,Qb k)],H'⟩) 8 QO ⟨_,I.app,by rw[Ko hn.symm];rfl,λk' h=>absurd h (XY k'),rfl⟩ ?_;clear I a_l hn H;rintro k s hk ⟨H,I,hen,Jw,rfl⟩;have a_l:=Qc I.a;have f_l:=Qc I.f;have q_l:=Qc I.q;have n_l:=Qc hen;apply Q1 hb;by_cases hk8:k<8
   ·have hk9:((k:Int)<8):=by omega
    simp only[go_sem,Qa,hk9];have found:Y3 x l i k=true->QlC x l (.agg [Qb i,Qb (QlB k)]):=λh=>.inl ⟨i,k,Qs,hk8,Z6,Jw,h,rfl⟩;have Qi4:Y3 x l i k=false->∀k',k'<k+1->Y3 x l i k'=false:=λh k' ZD=>by
     rcases Cb.1 ZD with h1|rfl
     ·exact Jw k' h1
     ·exact h
    rcases (show k=0\/k=1\/k=2\/k=3\/k=4\/k=5\/k=6\/k=7 by omega) with rfl|rfl|rfl|rfl|rfl|rfl|rfl|rfl
    ·simp only[go_sem,Qa,I.q,q_l,r0,hen,n_l];refine JJ hb QF4 (QJE I he) λd hR=>?_;subst hR;apply Q1 hb;cases hq:Y3 x l i 0 with
     | true=>
      simp only[go_sem,Qa,I.f,f_l,Qv];exact found hq
     | false=>
      simp only[go_sem,Qa];exact⟨_,QI.frame (by simp only[go_sem,show IntKind.i64.wrap 1=1 from by decide]),_,I.app,by rw[QC n_l];exact hen,Qi4 hq,rfl⟩
    ·simp only[go_sem,Qa,I.q,q_l,r1,hen,n_l];refine JJ hb QF5 (QJF I he) λd hR=>?_;subst hR;apply Q1 hb;cases hq:Y3 x l i 1 with
     | true=>
      simp only[go_sem,Qa,I.f,f_l,Qv];exact found hq
     | false=>
      simp only[go_sem,Qa];exact⟨_,QI.frame (by simp only[go_sem,show IntKind.i64.wrap 2=2 from by decide]),_,I.app,by rw[QC n_l];exact hen,Qi4 hq,rfl⟩
    ·simp only[go_sem,Qa,I.q,q_l,r2,hen,n_l];refine JJ hb QF6 (QJG I he) λd hR=>?_;subst hR;apply Q1 hb;cases hq:Y3 x l i 2 with
     | true=>
      simp only[go_sem,Qa,I.f,f_l,Qv];exact found hq
     | false=>
      simp only[go_sem,Qa];exact⟨_,QI.frame (by simp only[go_sem,show IntKind.i64.wrap 3=3 from by decide]),_,I.app,by rw[QC n_l];exact hen,Qi4 hq,rfl⟩
    ·simp only[go_sem,Qa,I.q,q_l,r3,hen,n_l];refine JJ hb QGp (QJH (x:=x) he) λd hR=>?_;subst hR;apply Q1 hb;cases hq:Y3 x l i 3 with
     | true=>
      simp only[go_sem,Qa,I.f,f_l,Qv];exact found hq
     | false=>
      simp only[go_sem,Qa];exact⟨_,QI.frame (by simp only[go_sem,show IntKind.i64.wrap 4=4 from by decide]),_,I.app,by rw[QC n_l];exact hen,Qi4 hq,rfl⟩
    ·simp only[go_sem,Qa,I.q,q_l,r4,hen,n_l];refine JJ hb Qk1 (QJI I he) λd hR=>?_;subst hR;apply Q1 hb;cases hq:Y3 x l i 4 with
     | true=>
      simp only[go_sem,Qa,I.f,f_l,Qv];exact found hq
     | false=>
      simp only[go_sem,Qa];exact⟨_,QI.frame (by simp only[go_sem,show IntKind.i64.wrap 5=5 from by decide]),_,I.app,by rw[QC n_l];exact hen,Qi4 hq,rfl⟩
    ·simp only[go_sem,Qa,I.q,q_l,r5,hen,n_l];refine JJ hb Qk1 (QJJ I he (Jw 4 (by omega))) λd hR=>?_;subst hR;apply Q1 hb;cases hq:Y3 x l i 5 with
     | true=>
      simp only[go_sem,Qa,I.f,f_l,Qv];exact found hq
     | false=>
      simp only[go_sem,Qa];exact⟨_,QI.frame (by simp only[go_sem,show IntKind.i64.wrap 6=6 from by decide]),_,I.app,by rw[QC n_l];exact hen,Qi4 hq,rfl⟩
    ·simp only[go_sem,Qa,I.q,q_l,r6,hen,n_l];refine JJ hb Qk1 (QJK I he) λd hR=>?_;subst hR;apply Q1 hb;cases hq:Y3 x l i 6 with
     | true=>
      simp only[go_sem,Qa,I.f,f_l,Qv];exact found hq
     | false=>
      simp only[go_sem,Qa];exact⟨_,QI.frame (by simp only[go_sem,show IntKind.i64.wrap 7=7 from by decide]),_,I.app,by rw[QC n_l];exact hen,Qi4 hq,rfl⟩
    ·simp only[go_sem,Qa,I.q,q_l,r7,hen,n_l];refine JJ hb Qk1 (QJL I he) λd hR=>?_;subst hR;apply Q1 hb;cases hq:Y3 x l i 7 with
     | true=>
      simp only[go_sem,Qa,I.f,f_l,Qv];exact found hq
     | false=>
      simp only[go_sem,Qa];exact⟨_,QI.frame (by simp only[go_sem,show IntKind.i64.wrap 8=8 from by decide]),_,I.app,by rw[QC n_l];exact hen,Qi4 hq,rfl⟩
   ·obtain rfl:k=8:=by omega
    simp only[go_sem,Qa,hen,n_l];obtain⟨c,es,hm,hW⟩:=I.m;refine Qf hb ?_;simp only[go_sem,Qa,hen,n_l];have Dn:e.X9=false->wAt l i e.cls≠[]:=λXI h=>by
     have:=Jw 4 (by omega);subst he;simp only[Y3,qst,XI,h]at this;simp at this
    refine BD hb QF3 (QJA _ 4 3 x _ _ _ e es c (wAt l i) I.a hm hW Dn (by have:=QlD l i e.cls;omega)) λd h hR=>?_;obtain⟨Ta,Tm,Ts⟩:=hR;apply Q1 hb;obtain⟨c',es',m1,m2⟩:=Tm;have sm:=Ts;have I2:QiY x l row (i+1) h:=by
     subst he;exact⟨sm _ _ I.f rfl (by decide) (by decide),Ta,⟨c',es',m1,m2⟩,sm _ _ I.b rfl (by decide) (by decide),sm _ _ I.p5 rfl (by show (1:Nat)≠17;decide) (by show (1:Nat)≠6;decide),sm _ _ I.p6 rfl (by show (1:Nat)≠17;decide) (by show (1:Nat)≠6;decide),sm _ _ I.p7 rfl (by show (1:Nat)≠17;decide) (by show (1:Nat)≠6;decide),sm _ _ I.p8 rfl (by show (1:Nat)≠17;decide) (by show (1:Nat)≠6;decide),sm _ _ I.q rfl (by show (2:Nat)≠17;decide) (by show (2:Nat)≠6;decide)⟩
    refine⟨Qs,_,QI.frame (by simp only[go_sem,Vp (show i<4611686018427387904 by omega)]),h,I2,λj hj k hk=>?_,rfl⟩;rcases Cb.1 hj with h5|rfl
    ·exact Z6 j h5 k hk
    ·exact Jw k hk
  ·have ZW:i=l.length:=by omega
   subst ZW;have f_l:=Qc I.f;simp only[go_sem,Qa,Gj];refine Qf hb ?_;simp only[go_sem,Qa,I.f,f_l,Qv];exact .inr ⟨Z6,rfl⟩
 ·simp only[Qd hx]
  repeat' (first|((first|refine EX (λh=>?_) (λh=>?_)|refine EY (λh=>?_) (λh=>?_)|refine EZ (λh=>?_) (λh=>?_)|refine vg (λh=>?_) (λh=>?_)|refine E0 (λh=>?_) (λh=>?_)|refine E6 (λh=>?_) (λh=>?_)|refine E7 (λh=>?_) (λh=>?_)|refine ET (λh=>?_) (λh=>?_))<;>(try simp only[go_sem]))|(refine And.intro (by omega) ?_;try simp only[go_sem]))
  all_goals first|(exfalso;omega)|exact⟨rfl,rfl⟩
theorem QkA(a:Pk):y0 1 a.cells=true:=rfl
def QJO{n:Nat}(h:0<n):((n:Int) - 1).toNat=n - 1:=by omega
def QJP(l:List Ev)(c)(hl:l.length<100000000):Zh prog 64 [OP l,Qb c] (QEm 6 Pk.cells (wAt l l.length c)):=by
 refine Zy 1 Qh 200 func64 rfl ntmps64 results64 rfl λbase w hb=>?_;simp only[go_sem];refine ZZ (λk s=>∃g off row,wF Pk.cells (wAt l k c) off row/\s=⟨[(1,Qb c),(5,.ref 0 g off (wAt l k c).length),(8,OP l),(9,Qb l.length),(10,Qb k)],[⟨.arr,g,6,off+(wAt l k c).length,row⟩]⟩) l.length
  (s0:=⟨[(1,Qb c),(5,.ref 0 0 0 0),(8,OP l),(9,Qb l.length),(10,Qb 0)],[⟨.arr,0,6,0,λ_=>[]⟩]⟩)
  (QI.trans (QI.Ch 5 6 (λi=>[]) rfl) QO) ⟨0,0,λ_=>[],.nil,rfl⟩ ?_
 rintro k s hk ⟨g,off,row,hr,rfl⟩;have hwl:=QlD l k c;have Zq:=Vp (show k<4611686018427387904 by omega);apply ZC hb;first|refine Ad hk (λQs=>?_) (λQs=>?_)|refine Ae hk (λQs=>?_) (λQs=>?_)
 ·obtain⟨e,he⟩:∃e,e=l.getD k default:=⟨_,rfl⟩;obtain⟨L,hL⟩:∃L,L=wAt l k c:=⟨_,rfl⟩;have Jg:wAt l (k+1) c=if c=e.cls then (if e.X9 then L++[e.pk] else L.tail) else L:=by rw[hL,he];rfl
  rw[<- hL]at hr hwl ⊢;simp only[go_sem,Qs,<- he];by_cases hc:e.cls=c
  ·rw[Qg hc.symm]at Jg;simp only[go_sem,QmX hc];cases hi:e.X9 with
   | true=>
    rw[hi,Qg rfl]at Jg;have yg:L.length<=4294967295:=by omega
    have BS:L.length+1<=4294967295:=by omega
    have Jr:wF Pk.cells (wAt l (k+1) c) 0 (J2 L.length off row λ_=>e.pk.cells):=by rw[Jg];exact hr.app e.pk rfl
    have JA:(wAt l (k+1) c).length=L.length+1:=by rw[Jg];simp
    simp only[go_sem,yg,BS];refine⟨Qs,_,QI.to 1 ⟨?_,by simp only[go_sem],?_,?_⟩,g+1,0,_,Jr,rfl⟩
    ·simp only[go_sem,Zq,JA]
    ·exact⟨Jr.upto QkA,trivial⟩
    ·simp only[go_sem,JA,Ev.pk]
   | false=>
    rw[hi,Qd (by simp)]at Jg;simp only[go_sem];by_cases h0:L.length=0
    ·have QJQ:L=[]:=NG.1 h0;subst QJQ;simp only[List.tail_nil]at Jg;have Jr:wF Pk.cells (wAt l (k+1) c) off row:=by rw[Jg];exact hr
     simp only[go_sem,Gj];refine⟨Qs,_,QI.to 1 ⟨?_,by simp only[go_sem],?_,?_⟩,g,off,row,Jr,rfl⟩
     ·simp only[go_sem,Zq,Jg]
     ·exact⟨Jr.upto QkA,trivial⟩
     ·simp only[go_sem,Jg]
    ·have yR:0<L.length:=by omega
     have XK:(0:Int)<(L.length:Int):=by omega
     have JA:(wAt l (k+1) c).length=L.length - 1:=by rw[Jg];simp
     have Jr:wF Pk.cells (wAt l (k+1) c) (off+1) row:=by rw[Jg];exact hr.tail yR
     have hof:off+1+(L.length - 1)=off+L.length:=by omega
     simp only[go_sem,Q7 XK,QJO yR];refine⟨by omega,Qs,_,QI.to 1 ⟨?_,by simp only[go_sem],?_,?_⟩,g,off+1,row,Jr,rfl⟩
     ·simp only[go_sem,Zq,JA]
     ·exact⟨Jr.upto QkA,trivial⟩
     ·simp only[go_sem,JA,hof]
  ·rw[Qd (λh=>hc h.symm)]at Jg;have Jr:wF Pk.cells (wAt l (k+1) c) off row:=by rw[Jg];exact hr
   simp only[go_sem,QmY hc];refine⟨Qs,_,QI.to 1 ⟨?_,by simp only[go_sem],?_,?_⟩,g,off,row,Jr,rfl⟩
   ·simp only[go_sem,Zq,Jg]
   ·exact⟨Jr.upto QkA,trivial⟩
   ·simp only[go_sem,Jg]
 ·have Qs:k=l.length:=by omega
  subst Qs;simp only[go_sem,Gj];apply ZC hb;exact⟨hr.upto QkA,g,off,row,rfl,rfl,hr⟩
def QJS(l:List Pk):D:=.imm 6 l.length (Pk.rows l)
attribute [go_sem] QJS
end Go.Fg.X
namespace Go.Fg.X
open Go.Proofs Go.Fg
end Go.Fg.X
namespace Go.Fg.X
open Go.Proofs Go.Fg
open Go.Proofs.Tryz
def QjA(x:Cf)(l:List Ev)(i:Nat):Option Nat:=(List.range 8).find? (Y3 x l i)
def Qv3(x:Cf):Prop:=1<=x.t/\x.t<=65536/\1<=x.Vc/\x.Vc<=16384
def Qlp(x:Cf)(l:List Ev):Option Nat:=(List.range l.length).find? λi=>(QjA x l i).isSome
def Qg3(x:Cf)(l:List Ev):Int × Int:=if 1<=x.t/\x.t<=65536/\1<=x.Vc/\x.Vc<=16384 then (match Qlp x l with
 | some i=>(i,match QjA x l i with
  | some k=>QlB k
  | none=>0)
 | none=>(0,0)) else (0,7)
def Qlr{n m:Nat}{p}(h1:m<n)(h2:p m=true)(h3:∀k,k<m->p k=false):(List.range n).find? p=some m:=by
 rw[List.find?_range_eq_some];exact⟨h2,by simpa using h1,λj hj=>by simpa using h3 j hj⟩
def Qlt{n:Nat}{p}(h:∀k,k<n->p k=false):(List.range n).find? p=none:=by
 rw[List.find?_range_eq_none];intro i hi;simpa using h i hi
def QJT{x}{l:List Ev}{d}(h:QlC x l d)(hx:Qv3 x):d=.agg [Qb (Qg3 x l).1,Qb (Qg3 x l).2]:=by
 have wa:1<=x.t/\x.t<=65536/\1<=x.Vc/\x.Vc<=16384:=hx;unfold Qg3;rw[Qg wa];rcases h with ⟨i,k,h1,h2,h3,h4,h5,rfl⟩|⟨h1,rfl⟩
 ·have e1:QjA x l i=some k:=Qlr h2 h5 h4;have e2:Qlp x l=some i:=Qlr h1 (by rw[e1];rfl) λj hj=>by
   rw[show QjA x l j=none from Qlt (h3 j hj)];rfl
  simp only[e2,e1]
 ·have e2:Qlp x l=none:=Qlt λj hj=>by
   rw[show QjA x l j=none from Qlt (h1 j hj)];rfl
  rw[e2]
def Qlu(x:Cf)(l:List Ev)(hl:l.length<100000000):Zh prog 34 [.agg x.cells,OP l] (Qo (.agg [Qb (Qg3 x l).1,Qb (Qg3 x l).2])):=
 (QJM x l hl).mono λd h ⟨h1,h2⟩=>by
  refine⟨?_,h1⟩;split at h2
  ·exact QJT h2 ‹_›
  ·rename_i hx;rw[h2];unfold Qg3;rw[Qd hx]
def lA:Ev:=⟨0,true,false,5,0,3,7,100,0,0,0,0⟩
def lB:Ev:=⟨0,false,false,5,105,3,7,100,0,0,0,0⟩
def lC:Ev:=⟨0,false,false,5,104,3,7,100,0,0,0,0⟩
def lX:Cf:=⟨1,100⟩
def v1:Qg3 lX [lA,lB]=(0,0):=by decide
def v2:Qg3 lX [lA,lC]=(1,20):=by decide
def v3:Qg3 lX [lB]=(0,6):=by decide
def QnF:Zh prog 33 [] (Qo (QY true)):=by
 have c1:=Qlu lX [lA,lB] (by decide);have c2:=Qlu lX [lA,lC] (by decide);have c3:=Qlu lX [lB] (by decide);have c4:=QJP [lA,lA,lB] 3 (by decide);rw[v1]at c1;rw[v2]at c2;rw[v3]at c3;refine Zy 0 Qh 200 func33 rfl ntmps33 results33 rfl λbase w hb=>?_;simp only[go_sem];refine ZA hb QkJ rfl ?_ c1 (Qo.flat rfl) rfl λd h hR=>?_
 ·simp only[go_sem]
  repeat' first|apply And.intro|rfl|(intro i hi;obtain rfl|rfl:i=0\/i=1:=by omega)
 obtain⟨rfl,rfl⟩:=hR;apply ZC hb;refine ZA hb QkJ rfl ?_ c2 (Qo.flat rfl) rfl λd h hR=>?_
 ·simp only[go_sem]
  repeat' first|apply And.intro|rfl|(intro i hi;obtain rfl|rfl:i=0\/i=1:=by omega)
 obtain⟨rfl,rfl⟩:=hR;apply ZC hb;refine ZA hb QkJ rfl ?_ c3 (Qo.flat rfl) rfl λd h hR=>?_
 ·simp only[go_sem]
  repeat' first|apply And.intro|rfl|(intro i hi;obtain rfl:i=0:=by omega)
 obtain⟨rfl,rfl⟩:=hR;apply ZC hb;refine ZA hb QF1 rfl ?_ c4 (QEm.flat λa=>rfl) rfl λd h hR=>?_
 ·simp only[go_sem]
  repeat' first|apply And.intro|rfl|(intro i hi;obtain rfl|rfl|rfl:i=0\/i=1\/i=2:=by omega)
 obtain⟨g,off,row,rfl,rfl,hr⟩:=hR;have Dl:(wAt [lA,lA,lB] 3 3).length=1:=by decide
 apply ZC hb;rw[Dl];rfl
def Qh4(d:Int)(e:Ev):Int:=if e.X9=true then d else e.done
def Qik(x:Cf):(Int->List Pk)->Ev->Int->List Ev->Prop
 | _,_,_,[]=>True
 | W,a,d,e::l=>(∀k,k<8->qst x W a d e k=false)/\Qik x (Qgi W e) e (Qh4 d e) l
def Qv4(x):∀(l m:List Ev) (W:Int->List Pk) (a:Ev) (d:Int),Qik x W a d l->Qik x (l.foldl Qgi W) (l.foldl (λ_ e=>e) a) (l.foldl Qh4 d) m->Qik x W a d (l++m)
 | [],m,W,a,d,_,h=>h
 | e::l,m,W,a,d,h1,h2=>⟨h1.1,Qv4 x l m _ _ _ h1.2 h2⟩
def Qwp(l:List Ev):∀k,k<=l.length->wAt l k=(l.take k).foldl Qgi (λ_=>[])/\Qkw l k=(l.take k).foldl (λ_ e=>e) zEv/\QiX l k=(l.take k).foldl Qh4 0
 | 0,_=>⟨rfl,rfl,rfl⟩
 | k+1,h=>by
  obtain⟨h1,h2,h3⟩:=Qwp l k (by omega);rw[getD_take _ default _ (by omega),Gf,Gf,Gf,<- h1,<- h3];exact⟨rfl,rfl,rfl⟩
def QwQ(x):∀(l:List Ev) (W:Int->List Pk) (a:Ev) (d:Int),Qik x W a d l->∀i,i<l.length->∀k,k<8->qst x ((l.take i).foldl Qgi W) ((l.take i).foldl (λ_ e=>e) a) ((l.take i).foldl Qh4 d) (l.getD i default) k=false
 | [],_,_,_,_,i,hi,_,_=>absurd hi (XY i)
 | e::l,W,a,d,h,0,_,k,hk=>h.1 k hk
 | e::l,W,a,d,h,i+1,hi,k,hk=>QwQ x l _ _ _ h.2 i (by simpa using hi) k hk
def Qw0{x}{l:List Ev}(h:Qik x (λ_=>[]) zEv 0 l){i}(hi:i<l.length){k}(hk:k<8):Y3 x l i k=false:=by
 obtain⟨h1,h2,h3⟩:=Qwp l i (by omega);unfold Y3;rw[h1,h2,h3];exact QwQ x l _ _ _ h i hi k hk
structure AuS (x:Cf) (W:Int->List Pk) (a:Ev) (d:Int) (S:ZH):Prop where
 w:∀j,W j=JN S.M j
 d:d=S.YR
 at_:a.at_<=S.Ql
 o0:a.op<=S.ops
 lk:S.M.lk=x
structure AuR (x:Cf) (W:Int->List Pk) (a:Ev) (d:Int) (l:List Ev) (S':ZH):Prop where
 ok:Qik x W a d l
 st:AuS x (l.foldl Qgi W) (l.foldl (λ_ e=>e) a) (l.foldl Qh4 d) S'
def QJU(p:Pk):Qjf p p=true:=(QJn p p).2 rfl
def Qxf{x:Cf}(K:jF x){p:Pk}(h:1<=p.len/\p.len<=x.Vc):Ni p x.Vc=0:=by
 have:=K.l1;have:=K.l2;unfold Ni;rw[Qd (by omega),Qd (by omega)]
def QJV{x:Cf}(K:jF x){p:Pk}(h:1<=p.len/\p.len<=x.Vc):Nj p x.t=B6 x p.len:=by
 have k1:=K.t1;have k2:=K.t2;have k3:=K.l2;have h1:=bY K h;have ht:((B6 x p.len:Nat):Int)=p.len*x.t:=by
  unfold B6;rw[Se,Gc (by omega),Gc (by omega)]
 unfold Nj;rw[Qg (by omega),<- ht,IntKind.wrap_u64];omega
def Qxh{x}{S:ZH}(T:Jh S){W}{a:Ev}{d}(A:AuS x W a d S){op}(ho:op<=S.ops)(hop:a.op<=op):AuR x W a d (J5 S op S.Ql).2 (J5 S op S.Ql).1/\(∀e∈(J5 S op S.Ql).2,e.op=op):=by
 refine⟨?_,Qm1 S op S.Ql⟩;unfold J5;split
 ·exact⟨trivial,A⟩
 ·rename_i hu;split
  ·rename_i h;have hl:=T.take_len h;obtain⟨y,L,hq,hk⟩:=QiA T.I T.V h;have hK:jF x:=A.lk▸T.K;rw[A.lk]at hl;have ht:=bY hK hl;have Z6:=T.cl;have Bk:=T.un;have yR:=Qv1 T.I (j:=kC S.M S.Ql) (by rw[hq];exact List.cons_ne_nil _ _);have hw:=A.w (kC S.M S.Ql);rw[hq]at hw;rw[<- hk]at hw;have Wo:=A.at_;have hd:=A.d;refine⟨⟨λk hk8=>?_,trivial⟩,?_,?_,?_,?_,?_⟩
   ·have hW:W (kC S.M S.Ql)=qs S.M S.Ql::L:=hw;match k,hk8 with
    | 0,_=>exact QQ (by show ¬((op:Int)<0\/(op:Int)<a.op\/kC S.M S.Ql<1);omega)
    | 1,_=>exact QQ (by show ¬((S.Ql:Int)<a.at_\/4611686018427387904<(S.Ql:Int));omega)
    | 2,_=>show (Ni (qs S.M S.Ql) x.Vc != 0)=false;rw[Qxf hK hl];rfl
    | 3,_=>rfl
    | 4,_=>show ((W (kC S.M S.Ql)).length==0)=false;rw[hW];rfl
    | 5,_=>show (!Qjf ((W (kC S.M S.Ql)).getD 0 default) (qs S.M S.Ql))=false;rw[hW];show (!Qjf (qs S.M S.Ql) (qs S.M S.Ql))=false;rw[QJU];rfl
    | 6,_=>exact QQ (by show ¬((S.Ql:Int)<d);omega)
    | 7,_=>
     show (((S.Ql+B6 S.M.lk (qs S.M S.Ql).len:Nat):Int) != IntKind.u64.wrap ((S.Ql:Int)+Nj (qs S.M S.Ql) x.t))=false;rw[QJV hK hl,A.lk,IntKind.wrap_u64];refine QmX ?_;omega
    | n+8,h=>exact absurd h (by omega)
   ·intro j;show Qgi W (Nh op (FZ S.M S.Ql) S.Ql (S.Ql+B6 S.M.lk (qs S.M S.Ql).len) (kC S.M S.Ql) (qs S.M S.Ql)) j=JN (takeN S.M S.Ql) j;rw[oT];unfold Qgi;by_cases e:j=kC S.M S.Ql
    ·rw[Qg (show j=(Nh op (FZ S.M S.Ql) S.Ql (S.Ql+B6 S.M.lk (qs S.M S.Ql).len) (kC S.M S.Ql) (qs S.M S.Ql)).cls from e),Qg (show YP S.M S.Ql=true/\kC S.M S.Ql=j from ⟨h,e.symm⟩),A.w j];rfl
    ·rw[Qd (show ¬j=(Nh op (FZ S.M S.Ql) S.Ql (S.Ql+B6 S.M.lk (qs S.M S.Ql).len) (kC S.M S.Ql) (qs S.M S.Ql)).cls from e),Qd (show ¬(YP S.M S.Ql=true/\kC S.M S.Ql=j) from λh2=>e h2.2.symm)];exact A.w j
   ·rfl
   ·show ((S.Ql:Nat):Int)<=(S.Ql:Nat);omega
   ·show ((op:Nat):Int)<=(S.ops:Nat);omega
   ·exact(bX _ _).trans A.lk
  ·rename_i h;refine⟨trivial,⟨λj=>?_,A.d,A.at_,A.o0,(bX _ _).trans A.lk⟩⟩;show W j=JN (takeN S.M S.Ql) j;rw[oT,Qd λh2=>h h2.1];exact A.w j
def QJW{l:List Ev}{a:Ev}{op:Nat}(h:∀e∈l,e.op=op)(ha:a.op<=op):(l.foldl (λ_ e=>e) a).op<=op:=by
 induction l generalizing a with
 | nil=>exact ha
 | cons e l ih=>exact ih (λb hb=>h b (Ks _ hb)) (Int.le_of_eq (h e Va))
def AuR.app{x}{W}{a}{d}{l m:List Ev}{S1 S2}(A:AuR x W a d l S1)(B:AuR x (l.foldl Qgi W) (l.foldl (λ_ e=>e) a) (l.foldl Qh4 d) m S2):AuR x W a d (l++m) S2:=
 ⟨Qv4 x l m W a d A.ok B.ok,by rw[Gf,Gf,Gf];exact B.st⟩
def Qxi{x}{op e}(he:e<=4611686018427387904):∀(n:Nat) {S:ZH} {W:Int->List Pk} {a:Ev} {d:Int},Jh S->S.Ql<=e->AuS x W a d S->op<=S.ops->a.op<=op->AuR x W a d (WR op e n S).2 (WR op e n S).1
 | 0,S,W,a,d,T,h,A,_,_=>⟨trivial,⟨A.w,A.d,by have:=A.at_;show a.at_<=(e:Nat);omega,A.o0,A.lk⟩⟩
 | n+1,S,W,a,d,T,h,A,ho,hop=>by
  have Wo:=A.at_;unfold WR;split
  ·exact⟨trivial,⟨A.w,A.d,by show a.at_<=(e:Nat);omega,A.o0,A.lk⟩⟩
  ·rename_i h2;have wg:=oW S T.cl;have T1:=T.at_ wg (show ZL S<=4611686018427387904 by omega);have A1:AuS x W a d { S with Ql:=ZL S }:=⟨A.w,A.d,by show a.at_<=(ZL S:Nat);omega,A.o0,A.lk⟩;obtain⟨P1,P2⟩:=Qxh T1 A1 ho hop;have T2:=T1.oV op;have hc:=RL { S with Ql:=ZL S } op (ZL S);have R:=Qxi he n T2 (by
    have:=hc.1;show (J5 { S with Ql:=ZL S } op (ZL S)).1.Ql<=e;rw[this];show ZL S<=e;omega) P1.st (by show op<=(J5 { S with Ql:=ZL S } op (ZL S)).1.ops;rw[hc.2.1];exact ho) (QJW P2 hop)
   exact P1.app R
def QJX{x}{S}(T:Jh S){W}{a}{d}(A:AuS x W a d S){o:JC}(ho:∀c∈o.changes,Z3.Ok c):AuR x W a d (qV S o).l (qV S o).S:=by
 have A0:AuS x W a d { S with ops:=S.ops+1 }:=⟨A.w,A.d,A.at_,by have:=A.o0;show a.op<=((S.ops+1:Nat):Int);omega,A.lk⟩;have hop:=A.o0;show AuR x W a d (Xo { S with ops:=S.ops+1 } S.ops o).l (Xo { S with ops:=S.ops+1 } S.ops o).S;unfold Xo;split
 ·exact⟨trivial,⟨λj=>(A.w j).trans (QJm T.I T.V _ ho j).symm,A0.d,A0.at_,A0.o0,(bV _ _ _).trans A.lk⟩⟩
 ·split
  ·split
   ·exact⟨trivial,⟨A0.w,A0.d,A0.at_,A0.o0,A0.lk⟩⟩
   ·exact⟨trivial,A0⟩
  ·split
   ·unfold zP;split
    ·exact⟨trivial,A0⟩
    ·split
     ·rename_i hp;have hp:vL S.M S.Ql (Wn S.R (Jc o.Xc)) o.Xc=0:=hp;have T1:=(T.ops (S.ops+1)).put (Wn S.R (Jc o.Xc)) o.Xc;have T2:=T1.ZV (Wn S.R (Jc o.Xc)) S.Ql (by have:=T.cl;omega);have hl:=QAu hp;rw[A.lk]at hl;have hK:jF x:=A.lk▸T.K;have Z6:=T.cl;have Wo:=A.at_;have hq:∀j,JN (KO S.M S.Ql (Wn S.R (Jc o.Xc)) o.Xc) j=if Wn S.R (Jc o.Xc)=j then JN S.M j++[o.Xc] else JN S.M j:=λj=>by
       rw[Qz7];by_cases e:Wn S.R (Jc o.Xc)=j
       ·rw[Qg ⟨hp,e⟩,Qg e]
       ·rw[Qd λh=>e h.2,Qd e]
      have yR:=Qv1 T1.I (j:=Wn S.R (Jc o.Xc)) (by show JN (KO S.M S.Ql (Wn S.R (Jc o.Xc)) o.Xc) _≠[];rw[hq,Qg rfl];simp);obtain⟨E,hE⟩:∃E,E=Ng S.ops S.Ql (Wn S.R (Jc o.Xc)) o.Xc:=⟨_,rfl⟩;have A2:AuS x (Qgi W E) E d { { S with ops:=S.ops+1 } with M:=KO S.M S.Ql (Wn S.R (Jc o.Xc)) o.Xc,st:=AV S.st (Wn S.R (Jc o.Xc)) S.Ql }:=by
       refine⟨λj=>?_,A.d,?_,?_,(bU _ _ _ _).trans A.lk⟩
       ·show Qgi W E j=JN (KO S.M S.Ql (Wn S.R (Jc o.Xc)) o.Xc) j;rw[hq];unfold Qgi;subst hE;by_cases e:Wn S.R (Jc o.Xc)=j
        ·rw[Qg e,Qg (show j=(Ng S.ops S.Ql (Wn S.R (Jc o.Xc)) o.Xc).cls from e.symm),A.w j];rfl
        ·rw[Qd e,Qd (show ¬j=(Ng S.ops S.Ql (Wn S.R (Jc o.Xc)) o.Xc).cls from λh=>e h.symm)];exact A.w j
       ·subst hE;show ((S.Ql:Nat):Int)<=(S.Ql:Nat);omega
       ·subst hE;show ((S.ops:Nat):Int)<=((S.ops+1:Nat):Int);omega
      obtain⟨P1,_⟩:=Qxh T2 A2 (op:=S.ops) (Qi6 _) (by subst hE;exact Int.le_refl _);have XI:∀k,k<8->qst x W a d E k=false:=λk hk8=>by
       subst hE;match k,hk8 with
       | 0,_=>exact QQ (by show ¬((S.ops:Int)<0\/(S.ops:Int)<a.op\/Wn S.R (Jc o.Xc)<1);omega)
       | 1,_=>exact QQ (by show ¬((S.Ql:Int)<a.at_\/4611686018427387904<(S.Ql:Int));omega)
       | 2,_=>show (Ni o.Xc x.Vc != 0)=false;rw[Qxf hK hl];rfl
       | 3,_=>rfl
       | 4,_=>rfl
       | 5,_=>rfl
       | 6,_=>rfl
       | 7,_=>rfl
       | n+8,h=>exact absurd h (by omega)
      have hd:Qh4 d E=d:=by subst hE;rfl
      rw[<- hE];refine⟨⟨XI,?_⟩,?_⟩
      ·rw[hd];exact P1.ok
      ·show AuS x (List.foldl Qgi (Qgi W E) _) (List.foldl _ E _) (List.foldl Qh4 (Qh4 d E) _) _;rw[hd];exact P1.st
     ·rename_i hp;refine⟨trivial,⟨λj=>?_,A0.d,A0.at_,A0.o0,(bU _ _ _ _).trans A.lk⟩⟩;show W j=JN (KO S.M S.Ql (Wn S.R (Jc o.Xc)) o.Xc) j;rw[Qz7,Qd λh=>hp h.1];exact A.w j
   ·split
    ·unfold kF;split
     ·exact⟨trivial,A0⟩
     ·rename_i Qc;have:=T.cl;have Qc:¬(4611686018427387904 - S.Ql<o.Ww.toNat):=Qc;exact Qxi (S:={ S with ops:=S.ops+1 }) (by show S.Ql+o.Ww.toNat<=_;omega) _ (T.ops _) (by show S.Ql<=S.Ql+_;omega) A0 (Qi6 _) hop
    ·exact⟨trivial,A0⟩
def Qxj{x}:∀(l:List JC) {S:ZH} {W:Int->List Pk} {a:Ev} {d:Int},Jh S->AuS x W a d S->(∀o∈l,JC.Ok o)->AuR x W a d (Xp S l).2.2 (Xp S l).1
 | [],S,W,a,d,T,A,hl=>⟨trivial,A⟩
 | o::l,S,W,a,d,T,A,hl=>by
  have ho:=(hl o Va).2.1.2;have P1:=QJX T A ho;exact P1.app (Qxj l (T.do ho) P1.st λb hb=>hl b (Ks _ hb))
def QJY{x:Yw}{m}(h:DY x m=true)(hx:∀a∈x.ops,JC.Ok a):x.ops.length<=m/\∀o∈x.ops,JC.Ok o/\JC.Small o:=by
 simp only[DY,ZJ,Yq]at h;obtain⟨hlen,Vo⟩:=h;refine⟨hlen,λo ho=>?_⟩;have:=jN.1 Vo o ho;simp only[Ij,ZJ,Yq]at this;exact⟨hx o ho,by omega,by omega⟩
def QgO(e:Ev)(done:Int):Ev:={ e with done:=done }
def QlJ(l:List Ev)(n)(e:Ev):∀i,i<=n->wAt (l.set n e) i=wAt l i/\Qkw (l.set n e) i=Qkw l i/\QiX (l.set n e) i=QiX l i
 | 0,_=>⟨rfl,rfl,rfl⟩
 | i+1,h=>by
  obtain⟨h1,h2,h3⟩:=QlJ l n e i (by omega);have hg:(l.set n e).getD i default=l.getD i default:=QDX _ _ _ _ _ (by omega);refine⟨?_,hg,?_⟩
  ·show Qgi (wAt (l.set n e) i) ((l.set n e).getD i default)=Qgi (wAt l i) (l.getD i default);rw[h1,hg]
  ·show (if ((l.set n e).getD i default).X9 then QiX (l.set n e) i else ((l.set n e).getD i default).done)=if (l.getD i default).X9 then QiX l i else (l.getD i default).done;rw[h3,hg]
def QJZ{x}(hx:Qv3 x){l:List Ev}(h:Qik x (λ_=>[]) zEv 0 l){n}(hn:n<l.length)(hi:(l.getD n default).X9=false){done}(hd:(l.getD n default).done≠done):Qg3 x (l.set n (QgO (l.getD n default) done))=((n:Int),20):=by
 have hlen:(l.set n (QgO (l.getD n default) done)).length=l.length:=Ki;have e1:∀i,i<n->QjA x (l.set n (QgO (l.getD n default) done)) i=none:=λi XI=>by
  refine Qlt λk hk=>?_;obtain⟨h1,h2,h3⟩:=QlJ l n (QgO (l.getD n default) done) i (by omega);unfold Y3;rw[h1,h2,h3,QDX _ _ _ _ _ (by omega)];exact Qw0 h (by omega) hk
 obtain⟨h1,h2,h3⟩:=QlJ l n (QgO (l.getD n default) done) n (QD _);have hq:∀k,k<8->Y3 x l n k=false:=λk hk=>Qw0 h hn hk;have hg:(l.set n (QgO (l.getD n default) done)).getD n default=QgO (l.getD n default) done:=QDV _ _ _ _ hn;have e2:QjA x (l.set n (QgO (l.getD n default) done)) n=some 7:=by
  refine Qlr (by decide) ?_ λk hk=>?_
  ·have h7:=hq 7 (by decide);unfold Y3 at h7 ⊢;rw[h1,h2,h3,hg];show (!(l.getD n default).X9&&(done != IntKind.u64.wrap ((l.getD n default).at_+Nj (l.getD n default).pk x.t)))=true;have h7:(!(l.getD n default).X9&&((l.getD n default).done != IntKind.u64.wrap ((l.getD n default).at_+Nj (l.getD n default).pk x.t)))=false:=h7;rw[hi,Gb,Iq]at h7 ⊢;have h8:(l.getD n default).done=IntKind.u64.wrap ((l.getD n default).at_+Nj (l.getD n default).pk x.t):=by simpa using h7
   rw[<- h8];exact QmY λe=>hd e.symm
  ·have hk8:=hq k (by omega);unfold Y3 at hk8 ⊢;rw[h1,h2,h3,hg];match k,hk,hk8 with
   | 0,_,h=>exact h
   | 1,_,h=>exact h
   | 2,_,h=>exact h
   | 3,_,_=>show ((l.getD n default).X9&&_)=false;rw[hi];rfl
   | 4,_,h=>exact h
   | 5,_,h=>exact h
   | 6,_,h=>exact h
   | k+7,hk,_=>exact absurd hk (by omega)
 have e3:Qlp x (l.set n (QgO (l.getD n default) done))=some n:=Qlr (by rw[hlen];exact hn) (by rw[e2];rfl) λj hj=>by rw[e1 j hj];rfl
 have wa:1<=x.t/\x.t<=65536/\1<=x.Vc/\x.Vc<=16384:=hx;unfold Qg3;rw[Qg wa];simp only[e3,e2];rfl
def QJ0{c}(K:jF c)(l:List JC)(hl:∀o∈l,JC.Ok o):Qik c (λ_=>[]) zEv 0 (Xp (S0 c) l).2.2:=
 (Qxj l (Jh.QGC K) ⟨λj=>rfl,rfl,Int.le_refl _,Int.le_refl _,rfl⟩ hl).ok
def QJ1{l:List Ev}{n}{o:Ev}(i)(hi:i<l.length):(l.set n o).getD i default=bif (i==n) then o else l.getD i default:=by
 by_cases h:i=n
 ·subst h;rw[QDV _ _ _ _ hi];simp
 ·rw[QDX _ _ _ _ _ (Q3 h),zX.2 h];rfl
def QJ2(x:Yw)(n done)(hx:∀a∈x.ops,JC.Ok a):Zh prog 8 [.agg x.cells,Qb n,.raw (.int .u64 done)] (Qo (QY true)):=by
 have hF:=QBA x 200 (by decide);have hM:=QzR x.config;cases f1:DY x 200 with
 | false=>
  rw[f1]at hF;refine Zy 0 Qh 200 func8 rfl ntmps8 results8 rfl λbase w hb=>?_;simp only[go_sem];refine xM hb [] fC rfl ?_ hF rfl λd h hR=>?_
  ·simp only[go_sem,Go.undef]
  obtain⟨rfl,rfl⟩:=hR;simp only[go_sem,Go.undef];refine Qf hb ?_;simp only[go_sem,Go.undef];refine Wj hb Qjb QnF (Qo.flat rfl) λd h hR=>?_;obtain⟨rfl,rfl⟩:=hR;exact xY hb
 | true=>
 rw[f1]at hF;cases f3:RG x.config with
 | false=>
  rw[f3]at hM;refine Zy 0 Qh 200 func8 rfl ntmps8 results8 rfl λbase w hb=>?_;simp only[go_sem];refine xM hb [] fC rfl ?_ hF rfl λd h hR=>?_
  ·simp only[go_sem,Go.undef]
  obtain⟨rfl,rfl⟩:=hR;simp only[go_sem,Go.undef];refine Qf hb ?_;simp only[go_sem,Go.undef];refine xM hb [] Qdr rfl ?_ hM rfl λd h hR=>?_
  ·simp only[go_sem,Go.undef]
  obtain⟨rfl,rfl⟩:=hR;simp only[go_sem,Go.undef];refine Qf hb ?_;simp only[go_sem,Go.undef];refine Wj hb Qjb QnF (Qo.flat rfl) λd h hR=>?_;obtain⟨rfl,rfl⟩:=hR;exact xY hb
 | true=>
 rw[f3]at hM;by_cases h0:n<0
 ·have d0:=Q7 h0;refine Zy 0 Qh 200 func8 rfl ntmps8 results8 rfl λbase w hb=>?_;simp only[go_sem];refine xM hb [] fC rfl ?_ hF rfl λd h hR=>?_
  ·simp only[go_sem,Go.undef]
  obtain⟨rfl,rfl⟩:=hR;simp only[go_sem,Go.undef];refine Qf hb ?_;simp only[go_sem,Go.undef];refine xM hb [] Qdr rfl ?_ hM rfl λd h hR=>?_
  ·simp only[go_sem,Go.undef,d0]
  obtain⟨rfl,rfl⟩:=hR;simp only[go_sem,Go.undef,d0];refine Qf hb ?_;simp only[go_sem,Go.undef,d0];refine Wj hb Qjb QnF (Qo.flat rfl) λd h hR=>?_;obtain⟨rfl,rfl⟩:=hR;exact xY hb
 have d0:=QQ h0;obtain⟨l1,o1⟩:=QJY f1 hx;have K:=QzY.1 f3;have hA:=QBv x K (by omega) o1;have b1:=QGE (m:=200) K l1 (by decide) hx;have Z6:=QJ0 K x.ops hx;generalize Xp (S0 x.config) x.ops=Z at *;obtain⟨Z0,RR,EE⟩:=Z;dsimp only at *;obtain⟨m,rfl⟩:∃m:Nat,n=m:=⟨n.toNat,by omega⟩;by_cases h1:EE.length<=m
 ·have d1:=Q7 h1;refine Zy 0 Qh 200 func8 rfl ntmps8 results8 rfl λbase w hb=>?_;simp only[go_sem];refine xM hb [] fC rfl ?_ hF rfl λd h hR=>?_
  ·simp only[go_sem,Go.undef]
  obtain⟨rfl,rfl⟩:=hR;simp only[go_sem,Go.undef];refine Qf hb ?_;simp only[go_sem,Go.undef];refine xM hb [] Qdr rfl ?_ hM rfl λd h hR=>?_
  ·simp only[go_sem,Go.undef,d0]
  obtain⟨rfl,rfl⟩:=hR;simp only[go_sem,Go.undef,d0];refine Qf hb ?_;simp only[go_sem,Go.undef,d0];refine xM hb [] QqY rfl ?_ hA rfl λd h hR=>?_
  ·simp only[go_sem,Go.undef,d1]
  obtain⟨rfl,rfl⟩:=hR;simp only[go_sem,Go.undef,d1];refine Qf hb ?_;simp only[go_sem,Go.undef,d1];refine Wj hb Qjb QnF (Qo.flat rfl) λd h hR=>?_;obtain⟨rfl,rfl⟩:=hR;exact xY hb
 have d1:=QQ h1;have hm:m<EE.length:=by omega
 cases hi:(EE.getD m default).X9 with
 | true=>
  refine Zy 0 Qh 200 func8 rfl ntmps8 results8 rfl λbase w hb=>?_;simp only[go_sem];refine xM hb [] fC rfl ?_ hF rfl λd h hR=>?_
  ·simp only[go_sem,Go.undef]
  obtain⟨rfl,rfl⟩:=hR;simp only[go_sem,Go.undef];refine Qf hb ?_;simp only[go_sem,Go.undef];refine xM hb [] Qdr rfl ?_ hM rfl λd h hR=>?_
  ·simp only[go_sem,Go.undef,d0]
  obtain⟨rfl,rfl⟩:=hR;simp only[go_sem,Go.undef,d0];refine Qf hb ?_;simp only[go_sem,Go.undef,d0];refine xM hb [] QqY rfl ?_ hA rfl λd h hR=>?_
  ·simp only[go_sem,Go.undef,d1,hm,hi]
  obtain⟨rfl,rfl⟩:=hR;simp only[go_sem,Go.undef,d1,hm,hi];refine Qf hb ?_;simp only[go_sem,Go.undef,d1,hm,hi];refine Wj hb Qjb QnF (Qo.flat rfl) λd h hR=>?_;obtain⟨rfl,rfl⟩:=hR;exact xY hb
 | false=>
 by_cases hd:(EE.getD m default).done=done
 ·have d2:=zl hd;refine Zy 0 Qh 200 func8 rfl ntmps8 results8 rfl λbase w hb=>?_;simp only[go_sem];refine xM hb [] fC rfl ?_ hF rfl λd h hR=>?_
  ·simp only[go_sem,Go.undef]
  obtain⟨rfl,rfl⟩:=hR;simp only[go_sem,Go.undef];refine Qf hb ?_;simp only[go_sem,Go.undef];refine xM hb [] Qdr rfl ?_ hM rfl λd h hR=>?_
  ·simp only[go_sem,Go.undef,d0]
  obtain⟨rfl,rfl⟩:=hR;simp only[go_sem,Go.undef,d0];refine Qf hb ?_;simp only[go_sem,Go.undef,d0];refine xM hb [] QqY rfl ?_ hA rfl λd h hR=>?_
  ·simp only[go_sem,Go.undef,d1,hm,hi,d2]
  obtain⟨rfl,rfl⟩:=hR;simp only[go_sem,Go.undef,d1,hm,hi,d2];refine Qf hb ?_;simp only[go_sem,Go.undef,d1,hm,hi,d2];refine Wj hb Qjb QnF (Qo.flat rfl) λd h hR=>?_;obtain⟨rfl,rfl⟩:=hR;exact xY hb
 have d2:=Xt hd;have Ys:=hi;have hV:=QJZ ⟨K.t1,K.t2,K.l1,K.l2⟩ Z6 hm hi hd;obtain⟨L,hL⟩:∃L,L=EE.set m (QgO (EE.getD m default) done):=⟨_,rfl⟩;have hlen:L.length=EE.length:=by rw[hL];exact Ki
 rw[<- hL]at hV;have hC:=Qlu x.config L (by omega);rw[hV]at hC;refine Zy 0 Qh 200 func8 rfl ntmps8 results8 rfl λbase w hb=>?_;simp only[go_sem];refine xM hb [] fC rfl ?_ hF rfl λd h hR=>?_
 ·simp only[go_sem,Go.undef]
 obtain⟨rfl,rfl⟩:=hR;simp only[go_sem,Go.undef];refine Qf hb ?_;simp only[go_sem,Go.undef];refine xM hb [] Qdr rfl ?_ hM rfl λd h hR=>?_
 ·simp only[go_sem,Go.undef,d0]
 obtain⟨rfl,rfl⟩:=hR;simp only[go_sem,Go.undef,d0];refine Qf hb ?_;simp only[go_sem,Go.undef,d0];refine xM hb [] QqY rfl ?_ hA rfl λd h hR=>?_
 ·simp only[go_sem,Go.undef,d1,hm,hi,d2]
 obtain⟨rfl,rfl⟩:=hR;simp only[go_sem,Go.undef,d1,hm,hi,d2];refine Qf hb ?_;simp only[go_sem,Go.undef,d1,hm,hi,d2];refine⟨by omega,?_⟩;refine GW (QI.rows 2 (Ev.rows L) (by exact rfl) ?_) ?_
 ·intro i hi;dsimp only at hi ⊢;(rw[hL];show _=Ev.cells ((EE.set m (QgO (EE.getD m default) done)).getD i default);rw[QJ1 i hi];cases (i==m) with|true=>simp only[jQ];unfold QgO Ev.cells;rw[<- Ys]|false=>rfl)
 simp only[go_sem];refine GW (QI.freeze rfl 2 rfl rfl (λi hi=>rfl)) ?_;simp only[go_sem];refine xM hb [] QkJ rfl ?_ hC rfl λd h hR=>?_
 ·simp only[go_sem,hlen]
 obtain⟨rfl,rfl⟩:=hR;simp only[go_sem];refine Qf hb ?_;simp only[go_sem,Qa,Go.undef,ID];refine Wj hb Qjb QnF (Qo.flat rfl) λd h hR=>?_;obtain⟨rfl,rfl⟩:=hR;exact xY hb
end Go.Fg.X
namespace Go.Fg.X
open Go.Proofs Go.Fg Go.Proofs.YtjhngjdipealfaaGreat
open Go.ChangeShapes Go.RowKit
open Go.Proofs.Tryz
def QJ3:laidOutB prog=true:=by kernel_rfl
def QJ4:mapsRowed prog=true:=by kernel_rfl
def QJ5:prog.stopsHeard=true:=by kernel_rfl
def QJ6:prog.mayEnter=true:=by kernel_rfl
def QJ7:(Rows.auditToldRow.lifted==prog.liftsFinal)=true:=by kernel_rfl
def QJ8:(prog.make==some Rows.auditToldRow.make)=true:=by kernel_rfl
end Go.Fg.X
namespace Go.Fg.X
open Go.Proofs Go.Fg Go.Proofs.YtjhngjdipealfaaGreat
open Go.ChangeShapes Go.WideShapes Go.ChangeAt Go.RowKit
open Go.Proofs.Tryz
def QJ9:ownKnob prog.godebug=none:=by kernel_rfl
def QlK:laidOutB prog=true:=by kernel_rfl
def QKa(os:Os)(started:os.Started)(H:Type)(enc:TypeId × Value->H):
  ReturnsInHanded {} checked os 8 .any (Rows.auditToldSpec.pre6 enc prog f8 Rows.auditToldRow.domain false) (Rows.auditToldSpec.post enc prog f8 false true false false):=by
 refine returnsInHanded_of_change (C:=checked) QJ9 started (by kernel_rfl) func8
  (ChangeSpec.witness6 (enc:=enc) (C:=checked) false ⟨#[],#[.agg #[.int .i64 0,.int .i64 0,.slice none 0 0],.int .i64 0,.int .u64 0],[]⟩ 12 (by kernel_rfl) (by kernel_rfl) (by kernel_rfl) (by kernel_rfl)) ?_
 intro W base args ds gs before QjJ hW QFX _;have QjK:∀(j:Nat) t v,f8.params[j]? = some t->args[j]? = some v->Value.okWide prog W .any base t v:=QjJ;have hW':=hW;obtain⟨p,q,hA0,hV,rfl,LY,Z2⟩:=hW;have hA:DataW.TrodAll enc prog W 0 (λ_=>true) true f8.params.toList args.toList ds p:=hA0;rw[params8]at hA QjK;obtain⟨v0,vs0,d0,ds0,p0,q0,Um,rfl,rfl,h0,r0⟩:=trodAll_cons hA;obtain⟨v1,vs1,d1,ds1,p1,q1,rfl,rfl,rfl,h1,r1⟩:=trodAll_cons r0;obtain⟨v2,vs2,d2,ds2,p2,q2,rfl,rfl,rfl,h2,r2⟩:=trodAll_cons r1;obtain⟨rfl,rfl,rfl⟩:=trodAll_nil r2;obtain rfl:args=#[v0,v1,v2]:=by cases args;simp_all
 obtain⟨rfl,rfl⟩:=trodVars_none hV;obtain⟨cs0,rfl,_⟩:=okWide_struct underlying26 (QjK 0 26 v0 rfl rfl);obtain⟨n1,rfl⟩:=okWide_int underlying3 (QjK 1 3 v1 rfl rfl);obtain⟨n2,rfl⟩:=okWide_int underlying34 (QjK 2 34 v2 rfl rfl);have t0:=h0;have lt0:∀x∈p0,x.block<W.heap.size:=by obtain⟨m,hm⟩:=t0;exact DataW.trod_lt m _ _ _ hm
 have t1:=h1;have lt1:∀x∈p1,x.block<W.heap.size:=by obtain⟨m,hm⟩:=t1;exact DataW.trod_lt m _ _ _ hm
 have t2:=h2;have R8:∀x∈p2,x.block<W.heap.size:=by obtain⟨m,hm⟩:=t2;exact DataW.trod_lt m _ _ _ hm
 obtain⟨x0,k0,c0⟩:=Rd.many QsM h0;obtain⟨x1,k1,c1⟩:=Rd.one (Rd.int .i64 underlying3) h1 (Qy2 _ _);obtain⟨x2,k2,c2⟩:=Rd.one (Rd.int .u64 underlying34) h2 (Qy2 _ _);clear hA0 QjJ;have walk:Calls prog 8 #[.agg cs0,.int .i64 n1,.int .u64 n2] W λe W'=>e=.returned (.bool true)/\Below W.heap.size W W':=QsE (QJ2 x0 x1 x2 k0.2.1.2) W [_,_,_] rfl (λi hi=>match i,hi with
  | 0,_=>c0
  | 1,_=>c1
  | 2,_=>c2)
 refine walk.mono λe W' ⟨he,qJ⟩=>?_;subst he;exact⟨_,rfl,_,_,_,[],_,[],hW',trodAll_mk1 (shut_bool underlying4 _),(trodAll_cons_mk (Below.trod QlK (by kernel_rfl) (YV (by kernel_rfl)) t0 qJ lt0) (trodAll_cons_mk (Below.trod QlK (by kernel_rfl) (YV (by kernel_rfl)) t1 qJ lt1) (trodAll_cons_mk (Below.trod QlK (by kernel_rfl) (YV (by kernel_rfl)) t2 qJ R8) trodAll_mk0))),rfl,qJ.frame _,λh=>by cases h⟩
def jn{a b}(ha:a=true)(hb:b=true):(a&&b)=true:=by rw[ha,hb];rfl
def QKf:(Rows.auditToldRow.inPlace==prog.inPlace 8)=true:=by kernel_rfl
def QKg:(Rows.auditToldRow.unfollowed==prog.unfollowed 8)=true:=by kernel_rfl
def QKh:(Rows.auditToldRow.recurses==prog.recurses 8)=true:=by kernel_rfl
def QKi:(Rows.auditToldRow.named==prog.varsNamed 8)=true:=by kernel_rfl
def QKj:(Rows.auditToldRow.maps==(f8.params.toList++Rows.auditToldSpec.plain.varTypes prog).any (prog.mapsRec ·))=true:=by kernel_rfl
def QKk:(Rows.auditToldRow.ifaces==(f8.params.toList++Rows.auditToldSpec.plain.varTypes prog).any (prog.ifacesRec ·))=true:=by kernel_rfl
def QKl:(Rows.auditToldRow.loops==(f8.params.toList++Rows.auditToldSpec.plain.varTypes prog).any (prog.loopsFrom ·))=true:=by kernel_rfl
def QKm:joinedFacts prog 8 f8 Rows.auditToldSpec Rows.auditToldRow=true:=by
 unfold joinedFacts;refine(jn (jn (jn (jn (jn (jn (jn (jn (jn (jn (jn (jn (jn (jn (jn (jn (jn (jn (jn (jn (jn (jn (jn (jn (jn (jn (jn (jn (jn (jn (jn ?_ QJ3) QJ4) ?_) ?_) ?_) ?_) ?_) ?_) QKf) QKg) QKh) QKi) QKj) QKk) ?_) QKl) ?_) ?_) ?_) ?_) ?_) ?_) ?_) QJ5) QJ6) QJ7) QJ8) ?_) ?_) ?_) ?_);all_goals kernel_rfl
def QKn:prog.funcNamed Rows.auditToldRow.func=some 8:=by kernel_rfl
theorem provedAuditTold:Rows.AuditToldSaid:=
 OpenClaim.holds_of_wide 8 f8 rfl rfl rfl rfl rfl rfl rfl ⟨rfl,rfl,rfl,rfl,rfl⟩ rfl rfl rfl rfl rfl QKn func8 QKm
  (YV (by kernel_rfl)) (by unfold Func.isWrapper;first|(rw[Qg (by decide +kernel)];kernel_rfl)|(rw[Qd (by decide +kernel)];exact⟨rfl,rfl⟩))
  (λos started H enc _=>QKa os started H enc)
end Go.Fg.X
namespace Go.Proofs.YtjhngjdipealfaaGreat
theorem auditTold_done: Rows.AuditToldSaid := Go.Fg.X.provedAuditTold
end Go.Proofs.YtjhngjdipealfaaGreat
