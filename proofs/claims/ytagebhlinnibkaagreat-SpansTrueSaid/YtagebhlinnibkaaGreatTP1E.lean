/- Contracts and laws on the way to the statement. No conditions. -/
import Derived.Test.YtagebhlinnibkaaGreatSC4E
import Derived.Test.YtagebhlinnibkaaGreatCA3E
set_option maxRecDepth 100000
set_option maxHeartbeats 16000000
set_option linter.unusedVariables false
set_option linter.unusedSimpArgs false
set_option linter.unusedSectionVars false
set_option linter.defProp false
namespace Go.Fg.X
open Go.Proofs Go.Fg
open Go.Proofs.Tryz
def xG(M:Qq)(now:Nat):Bool:=!(decide (now<M.Qh) || decide (4611686018427387904<now))
def Z1(M:Qq)(now:Nat):Qq:=if xG M now=true then { M with Qh:=now } else M
section
variable {own:Nat->Tag}{h:List Ob}{p:Nat}{L:Loc}{M:Qq}(C:ZS own h p L M)
include C
theorem Qk1(now):QK prog 162 h [.ptr p 0 0 0,u64 now] (λd h'=>d=QJ (xG M now)/\ZS own h' p L (Z1 M now)/\ZO own h own h'):=by
 have ho:=C.ob;unfold Z1 xG;by_cases h1:now<M.Qh
 ·have d1:=Q5 h1;refine Q6 Qi 200 func162 rfl ntmps162 results162 rfl λbase w pl hb=>?_;have Qg:=Qc ho;simp only[go_sem,Qa,ho,Qg,d1,Go.undef];exact⟨by simpa using C,ZO.refl own h⟩
 ·have d1:=QN h1;by_cases h2:4611686018427387904<now
  ·have d2:decide ((4611686018427387904:Int)<(now:Int))=true:=Q5 (by omega);have d3:=Q5 h2;refine Q6 Qi 200 func162 rfl ntmps162 results162 rfl λbase w pl hb=>?_;have Qg:=Qc ho;simp only[go_sem,Qa,ho,Qg,d1,d2,d3,Go.undef];exact⟨by simpa using C,ZO.refl own h⟩
  ·have d2:decide ((4611686018427387904:Int)<(now:Int))=false:=QN (by omega);have d3:=QN h2;refine Q6 Qi 200 func162 rfl ntmps162 results162 rfl λbase w pl hb=>?_;have Qg:=Qc ho;simp only[go_sem,Qa,ho,Qg,d1,d2,d3,Go.undef];exact⟨C.Qh now M.acc,ZO.set _ (by rw[C.op];decide)⟩
end
def zT(n:Nd)(JY:Int)(yP:Bool):Du:=if yP then mL n.du JY (BT n.q) else Dx n.du (BT n.q)
def VS(M:Qq)(id:Int)(JY:Int)(yP:Bool):Qq:=
 if 1<Q7 (QD M id).c.rt then { M with
   N:=Vm M.N id λn=>{ n with du:=zT (QD M id) JY yP }
   Lv:=if (QD M id).q.l=[] then VC id (YX id (zT (QD M id) JY yP).YY (zT (QD M id) JY yP).dead M.Lv) else YX id (zT (QD M id) JY yP).YY (zT (QD M id) JY yP).dead M.Lv }
 else M
def Qbl{n:Nd}(h:n.Ok)(JY)(yP:Bool):(zT n JY yP).Ok:=by
 unfold zT;split
 ·exact Qap (l:={ n.du with J9:=WY (n.du.J9+JY.toNat) }) h.du.dl h.du.rd (NJ _) _
 ·exact Qap h.du.dl h.du.rd h.du.J9 _
section
variable {own:Nat->Tag}{h:List Ob}{p:Nat}{L:Loc}{M:Qq}(C:ZS own h p L M)(I:Qy M)
include C I
theorem QA9{id}{n:Nd}(hn:Ql M.N id=some n)(hl:n.c.leaf=true)(JY)(XZ:0<=JY)(Jd:JY<9223372036854775808)(yP):
  QK prog 203 h [.ptr p 0 0 0,.ptr (L.le id) 0 0 0,Qb JY,QJ yP] (λd h'=>∃own',ZS own' h' p L (VS M id JY yP)/\ZO own h own' h'):=by
 have ho:=C.ob;have he:=(C.JF id n hn).1;have Zg:=Qy.id hn;have ZY:QD M id=n:=by unfold QD;rw[hn];rfl
 have Ja:=C.q9 id n hn;have R0:=Ja.du;obtain⟨kq,NW,hQ⟩:=C.Wy id n hn hl;have G3:qD L.lq n=.ptr (L.lq id) 0 0 0:=by unfold qD;rw[Qf hl,Zg]
 rw[G3]at he;have hhd:BT n.q<9223372036854775808:=by
  obtain⟨r,Q⟩:=hQ;unfold BT;cases hq:n.q.l with
  | nil=>decide
  | cons x l=>
   have:=(Q.lens x (by rw[hq];simp)).2;show x.len<_;omega
 unfold VS;rw[ZY];by_cases hr:1<Q7 n.c.rt
 ·rw[Qf hr];have dr:=Q5 hr;refine Q6 Qi 200 func203 rfl ntmps203 results203 rfl λbase w pl hb=>?_;have Qg:=Qc ho;have ZZ:=Qc he;simp only[go_sem,Qa,ho,Qg,he,ZZ];refine ZW hb EL rfl ?_ (Gt n.c) (Qn.flat rfl) rfl λd h hR=>?_
  ·simp only[go_sem,Qa,dr]
  obtain⟨rfl,rfl⟩:=hR;refine Qe hb ?_;simp only[go_sem,Qa,dr];have AK:=Qbl Ja JY yP;cases yP
  case' true=>
   have hx:zT n JY true=mL n.du JY (BT n.q):=rfl;rw[hx]at AK ⊢;simp only[go_sem,Qa,dr];apply QH hb [0,1,2,3,4,5,6,7,8,9,1010,1011,12,13,1014];simp only[go_sem,Qa,ho,Qg,he,ZZ];refine Yh hb Qh3 (Qj0 hQ.toR) λd hR=>?_;subst hR;refine Zr hb ?_;simp only[go_sem,Qa,ho,Qg,he,ZZ];refine Vj hb QvX rfl ?_ (QyJ n.du R0.dl R0.rd R0.J9 JY (BT n.q) XZ Jd hhd) (Qn.flat rfl) rfl λd h hR=>?_
   ·simp only[go_sem,Qa,ho,Qg,he,ZZ]
   obtain⟨rfl,rfl⟩:=hR;refine Zr hb ?_;simp only[go_sem,Qa,ho,Qg,he,ZZ];generalize mL n.du JY (BT n.q)=x at AK ⊢
  case' false=>
   have hx:zT n JY false=Dx n.du (BT n.q):=rfl;rw[hx]at AK ⊢;simp only[go_sem,Qa,dr];apply QH hb [0,1,2,3,4,5,6,7,8,1009,1010,11,12,1013];simp only[go_sem,Qa,ho,Qg,he,ZZ];refine Yh hb Qh3 (Qj0 hQ.toR) λd hR=>?_;subst hR;refine Zr hb ?_;simp only[go_sem,Qa,ho,Qg,he,ZZ];refine Vj hb QvY rfl ?_ (QyK n.du R0.dl R0.rd R0.J9 (BT n.q) hhd) (Qn.flat rfl) rfl λd h hR=>?_
   ·simp only[go_sem,Qa,ho,Qg,he,ZZ]
   obtain⟨rfl,rfl⟩:=hR;refine Zr hb ?_;simp only[go_sem,Qa,ho,Qg,he,ZZ];generalize Dx n.du (BT n.q)=x at AK ⊢
  all_goals
   have C1:=C.yu hn (λm=>{ m with du:=x }) (λ_=>rfl) (λ_=>rfl) ⟨Ja.Jz,AK,Ja.sh,Ja.cp,Ja.c⟩;have D1:=ZO.set (own:=own) (h:=h) (qt (qD L.lq n) { n with du:=x }) (l:=L.le id) (by rw[(C.JF id n hn).2];simp);rw[G3]at C1 D1;generalize hH:h.set (L.le id) (qt (.ptr (L.lq id) 0 0 0) { n with du:=x })=H at C1 D1;have BJ:h.set (L.le id) ⟨.one,0,60,1,λ_=>Vd (.ptr (L.lq id) 0 0 0) { n with du:=x }⟩=H:=hH;have KX:Ql (Vm M.N id λm=>{ m with du:=x }) id=some { n with du:=x }:=by
    rw[vq (f:=λm=>{ m with du:=x }) (λ_=>rfl),Qf rfl,hn];rfl
   have ho:=C1.ob;have Qg:=Qc ho;have he:=(C1.JF id _ KX).1;have Qk3:qD L.lq { n with du:=x }=.ptr (L.lq id) 0 0 0:=G3;rw[Qk3]at he;have ZZ:=Qc he;have ID:=aY I.tree C1.YF.nd I.B2;simp only[BJ];apply Va [19] hb [0,1,2,3,4,5,6,7,8,9,10,11,12,13,14,15,16,17,18,1019] [];simp only[go_sem,Qa,ho,Qg,he,ZZ];refine Aw hb QhU rfl ?_ (Qjy C1.YF id x.YY x.dead (by omega)) rfl λd h8 hR=>?_
   ·simp only[go_sem,Zg]
   obtain⟨T8,s8⟩:=hR;have C8:=C1.lv T8 s8;have D8:=D1.trans (ZO.of (own:=own) (t:=.lv) (by simp) s8);have ho:=C8.ob;have Qg:=Qc ho;have he:=(C8.JF id _ KX).1;rw[Qk3]at he;have ZZ:=Qc he;obtain⟨kq8,QL4,F0⟩:=C8.Wy id _ KX hl;refine Zr hb ?_;simp only[go_sem,Qa,ho,Qg,he,ZZ];refine ZN hb Gm (IZ F0.toR) λd hR=>?_;subst hR;refine Qe hb ?_;simp only[go_sem,Qa,ho,Qg,he,ZZ];cases hq:n.q.l with
   | cons y l=>
    have dq:(((l.length+1:Nat):Int)==0)=false:=J5 (by omega);rw[Qd (by simp)];simp only[go_sem,Qa,hq,dq];exact⟨_,C8,D8⟩
   | nil=>
    rw[Qf rfl];have ID:=aY I.tree C8.YF.nd (λy hy=>by
     rcases IK.1 hy with rfl|hy
     ·rw[I.some hn];rfl
     ·exact I.B2 y (J8.1 hy).1)
    simp only[go_sem,Qa,hq];apply Va [9] hb [0,1,2,3,4,5,6,7,8,1009] [];simp only[go_sem,Qa,ho,Qg,he,ZZ];refine Aw hb Qh2 rfl ?_ (Qjw C8.YF id (by omega)) rfl λd h9 hR=>?_
    ·simp only[go_sem,Zg]
    obtain⟨rfl,T9,s9⟩:=hR;apply XF hb;exact⟨_,C8.lv T9 s9,D8.trans (ZO.of (by simp) s9)⟩
 ·rw[Qd hr];have dr:=QN hr;refine Q6 Qi 200 func203 rfl ntmps203 results203 rfl λbase w pl hb=>?_;have Qg:=Qc ho;have ZZ:=Qc he;simp only[go_sem,Qa,ho,Qg,he,ZZ];refine ZW hb EL rfl ?_ (Gt n.c) (Qn.flat rfl) rfl λd h hR=>?_
  ·simp only[go_sem,Qa,dr]
  obtain⟨rfl,rfl⟩:=hR;refine Qe hb ?_;simp only[go_sem,Qa,dr];exact⟨own,C,ZO.refl own h⟩
end
def NX(L:List It):Nat:=(L.head?.getD default).ka
def DJ(M:Qq)(now:Nat)(n:Nd):Nd:={ n with sh:=NN n.sh (KC n.c.ls) (NX (M.KT n.c.parent)) n.Jz,cp:=BV n.cp (KC n.c.ul) now n.Jz }
def W9(now:Nat)(M:Qq)(j:Int):Qq:={ M with N:=Vm M.N j (DJ M now) }
def VZ(M:Qq)(now:Nat)(id:Int)(head:Int):Qq:=
 if 1<Q7 (QD M id).c.rt then { M with
   N:=Vm M.N id λn=>{ n with du:=kY (QD M id).du (KC (QD M id).c.rt) now head }
   Lv:=YX id (kY (QD M id).du (KC (QD M id).c.rt) now head).YY (kY (QD M id).du (KC (QD M id).c.rt) now head).dead M.Lv }
 else M
def YG(M:Qq)(now:Nat)(id:Int)(head:Int):Qq:=
 if 1<Q7 (QD M id).c.ls then Wl ((XE M.T M.A id).foldl (W9 now) { VZ M now id head with A:=id::M.A }) (up M.T id)
 else VZ M now id head
def QBa(N:List Nd)(id)(f:Nd->Nd)(hf:∀n,(f n).c=n.c):(Vm N id f).map (·.c)=N.map (·.c):=by
 unfold Vm;rw[xT];congr 1;funext n;simp only[Function.comp_apply];split
 ·exact hf n
 ·rfl
def Qy.Vm{M:Qq}(I:Qy M)(id)(f)(hf:∀n,(f n).c=n.c):Qy { M with N:=X.Vm M.N id f }:=by
 refine⟨I.tree,I.yN,I.to,by dsimp only;rw[QBa _ _ _ hf];exact I.nodes,I.Yl,λj=>?_,I.B2,I.wC,I.wD,I.Qh,I.acc⟩;dsimp only;rw[I.ks,vq (λn=>by rw[hf])];by_cases hj:j=id
 ·subst hj;rw[Qf rfl];constructor
  ·rintro (h|⟨n,h1,h2⟩)
   ·exact .inl h
   ·exact .inr ⟨f n,by rw[h1];rfl,by rw[hf];exact h2⟩
  ·rintro (h|⟨n,h1,h2⟩)
   ·exact .inl h
   ·cases hq:Ql M.N j with
    | none=>rw[hq]at h1;cases h1
    | some m=>
     rw[hq]at h1;cases h1;exact .inr ⟨m,rfl,by rw[<- hf];exact h2⟩
 ·rw[Qd hj]
def Qy.lv{M:Qq}(I:Qy M){B}(h:∀x∈B,(QF M.T x.ki).isSome=true):Qy { M with Lv:=B }:=
 ⟨I.tree,I.yN,I.to,I.nodes,I.Yl,I.ks,h,I.wC,I.wD,I.Qh,I.acc⟩
def Qy.act{M:Qq}(I:Qy M){B}(h:Au M.T B):Qy { M with A:=B }:=
 ⟨I.tree,I.yN,I.to,I.nodes,h,I.ks,I.B2,I.wC,I.wD,I.Qh,I.acc⟩
def Qbn{id}{a b}{L}{x:It}(h:x∈YX id a b L):x.ki=id\/x∈L:=by
 rcases IK.1 h with rfl|h
 ·exact .inl rfl
 ·exact .inr (J8.1 h).1
def Qbo{M}(I:Qy M){now}(WK:now<18446744073709551616){n:Nd}(h:n.Ok):(DJ M now n).Ok:=by
 have Py:NX (M.KT n.c.parent)<18446744073709551616:=by
  unfold NX;cases hq:M.KT n.c.parent with
  | nil=>decide
  | cons x l=>
   have:=I.wD n.c.parent x (by rw[hq];simp);show x.ka<_;omega
 exact⟨h.Jz,h.du,QyX h.sh h.c.2.2.2.2.1.lt Py h.Jz,Qy3 h.cp h.c.2.2.2.2.2.1.lt WK h.Jz,h.c⟩
def Qy.W9{M}(I:Qy M)(now)(j):Qy (W9 now M j):=I.Vm j (DJ M now) λ_=>rfl
def Lj(now):∀(l:List Int) (M:Qq),(l.foldl (W9 now) M).T=M.T/\(l.foldl (W9 now) M).A=M.A/\(l.foldl (W9 now) M).KT=M.KT/\(l.foldl (W9 now) M).lk=M.lk/\(l.foldl (W9 now) M).Qh=M.Qh/\(l.foldl (W9 now) M).acc=M.acc
 | [],M=>⟨rfl,rfl,rfl,rfl,rfl,rfl⟩
 | j::l,M=>Lj now l (X.W9 now M j)
def Qy.aZ{now}:∀(l:List Int) {M:Qq},Qy M->Qy (l.foldl (X.W9 now) M)
 | [],M,I=>I
 | j::l,M,I=>Qy.aZ l (I.W9 now j)
def NY{M:Qq}{now}{id}{head:Int}:(VZ M now id head).T=M.T/\(VZ M now id head).A=M.A/\(VZ M now id head).KT=M.KT/\(VZ M now id head).lk=M.lk:=by
 unfold VZ;split<;>exact⟨rfl,rfl,rfl,rfl⟩
def Qy.VZ{M:Qq}(I:Qy M){id}{n}(hn:Ql M.N id=Option.some n)(now)(head):Qy (VZ M now id head):=by
 unfold X.VZ;split
 ·refine(I.Vm id (λn=>{ n with du:=kY (QD M id).du (KC (QD M id).c.rt) now head }) λ_=>rfl).lv λx hx=>?_;rcases Qbn hx with h|h
  ·rw[h];show (QF M.T id).isSome=true;rw[I.some hn];rfl
  ·exact I.B2 x h
 ·exact I
def QBb{M:Qq}{now}{id}{head:Int}(j){n:Nd}(hn:Ql M.N j=some n):∃m,Ql (VZ M now id head).N j=some m/\m.c=n.c:=by
 unfold VZ;split
 ·dsimp only;rw[vq (f:=λn=>{ n with du:=kY (QD M id).du (KC (QD M id).c.rt) now head }) (λ_=>rfl)];split
  ·rw[hn];exact⟨_,rfl,rfl⟩
  ·exact⟨n,hn,rfl⟩
 ·exact⟨n,hn,rfl⟩
def Qbp{c:Cv}(h:Cv.Ok c):(((KC c).a:Nat):Int)=c.m1/\(((KC c).d:Nat):Int)=c.d/\(((KC c).b:Nat):Int)=c.m2:=by
 have h1:=wf_u64 h.1;have h2:=wf_u64 h.2.1;have h3:=wf_u64 h.2.2.1;refine⟨?_,?_,?_⟩
 ·show ((c.m1.toNat:Nat):Int)=_;omega
 ·show ((c.d.toNat:Nat):Int)=_;omega
 ·show ((c.m2.toNat:Nat):Int)=_;omega
structure ba (own:Nat->Tag) (h:List Ob) (p:Nat) (L:Loc) (M:Qq) (now:Nat) (id:Int) (lo g:Nat) (row:Nat->List D) (U:List Int) (k:Nat) (s:St):Prop where
 ex:∃own' H,ZS own' H p L ((U.take k).foldl (W9 now) M)/\ZO own h own' H/\own' lo=.on/\H[lo]? = some ⟨.arr,g,1,U.length,row⟩ /\
  s=⟨[(0,.ptr p 0 0 0),(1,u64 now),(8,Qb id),(72,.ref lo g 0 U.length),(73,Qb U.length),(74,Qb k)],H⟩
def ba.of{own}{h}{p}{L}{M}{now}{id}{lo g}{row}{U:List Int}{k:Nat}{own'}{H:List Ob}(C:ZS own' H p L ((U.take k).foldl (W9 now) M))(D:ZO own h own' H)(h1:own' lo=.on)(h2:H[lo]? = some ⟨.arr,g,1,U.length,row⟩):
  ba own h p L M now id lo g row U k ⟨[(0,.ptr p 0 0 0),(1,u64 now),(8,Qb id),(72,.ref lo g 0 U.length),(73,Qb U.length),(74,Qb k)],H⟩:=⟨⟨own',H,C,D,h1,h2,rfl⟩⟩
def QBc{own}{h}{p}{L}{M:Qq}(C:ZS own h p L M)(I:Qy M){id}{n:Nd}(hn:Ql M.N id=some n)(hl:n.c.leaf=true)(now)(WK:now<18446744073709551616)(head)(hh:head<9223372036854775808)(Jy:JR M id=false):
  QK prog 164 h [.ptr p 0 0 0,u64 now,.ptr (L.le id) 0 0 0,Qb head] (λd h'=>∃own',ZS own' h' p L (YG M now id head)/\Qy (YG M now id head)/\ZO own h own' h'):=by
 have ho:=C.ob;have he:=(C.JF id n hn).1;have Zg:=Qy.id hn;have ZY:QD M id=n:=by unfold QD;rw[hn];rfl
 have Ja:=C.q9 id n hn;obtain⟨r1,r2,r3⟩:=Qbp Ja.c.2.2.2.1;have IR:=Qy.VZ I hn now head;have QL5:L.le id≠p:=λe=>by have h1:=(C.JF id n hn).2;rw[e,C.op]at h1;cases h1
 obtain⟨MR,R3⟩:∃MR,MR=VZ M now id head:=⟨_,rfl⟩;have hwM:YG M now id head=if 1<Q7 n.c.ls then Wl ((XE M.T M.A id).foldl (W9 now) { MR with A:=id::M.A }) (up M.T id) else MR:=by unfold YG;rw[ZY,R3]
 by_cases hr:1<Q7 n.c.rt
 case' pos=>
  have dr:=Q5 hr;have AK:=Qav Ja.du Ja.c.2.2.2.1.lt WK head;refine Q6 Qi 200 func164 rfl ntmps164 results164 rfl λbase w pl hb=>?_;have Qg:=Qc ho;have ZZ:=Qc he;simp only[go_sem,Qa,ho,Qg,he,ZZ];refine ZW hb EL rfl ?_ (Gt n.c) (Qn.flat rfl) rfl λd h hR=>?_
  ·simp only[go_sem,Qa,dr]
  obtain⟨rfl,rfl⟩:=hR;refine Qe hb ?_;simp only[go_sem,Qa,dr];apply QH hb [0,1,2,3,4,5,6,7,8,9,10,11,1012,13,14,1015];simp only[go_sem,Qa,ho,Qg,he,ZZ];refine Vj hb QvA rfl ?_ (QyU n.du Ja.du (KC n.c.rt) Ja.c.2.2.2.1.lt now WK head hh) (Qn.flat rfl) rfl λd h hR=>?_
  ·simp only[go_sem,Qa,ho,Qg,he,ZZ,r1,r2,r3]
  obtain⟨rfl,rfl⟩:=hR;refine Zr hb ?_;simp only[go_sem,Qa,ho,Qg,he,ZZ,r1,r2,r3];have nj:MR={ M with N:=Vm M.N id λm=>{ m with du:=kY n.du (KC n.c.rt) now head },Lv:=YX id (kY n.du (KC n.c.rt) now head).YY (kY n.du (KC n.c.rt) now head).dead M.Lv }:=by
   rw[R3];unfold VZ;rw[ZY,Qf hr]
  generalize kY n.du (KC n.c.rt) now head=x at AK nj ⊢;have C1:=C.yu hn (λm=>{ m with du:=x }) (λ_=>rfl) (λ_=>rfl) ⟨Ja.Jz,AK,Ja.sh,Ja.cp,Ja.c⟩;have D1:=ZO.set (own:=own) (h:=h) (qt (qD L.lq n) { n with du:=x }) (l:=L.le id) (by rw[(C.JF id n hn).2];simp);generalize hH:h.set (L.le id) (qt (qD L.lq n) { n with du:=x })=H at C1 D1;have BJ:h.set (L.le id) ⟨.one,0,60,1,λ_=>Vd (qD L.lq n) { n with du:=x }⟩=H:=hH;have KX:Ql (Vm M.N id λm=>{ m with du:=x }) id=some { n with du:=x }:=by
   rw[vq (f:=λm=>{ m with du:=x }) (λ_=>rfl),Qf rfl,hn];rfl
  have ZI:=C1.ob;have KP:=Qc ZI;have DK:=(C1.JF id _ KX).1;have R4:=Qc DK;have ID:=aY I.tree C1.YF.nd I.B2;simp only[BJ];apply Va [15] hb [0,1,2,3,4,5,6,7,8,9,10,11,12,13,14,1015] [];simp only[go_sem,Qa,ZI,KP,DK,R4];refine Aw hb QhU rfl ?_ (Qjy C1.YF id x.YY x.dead (by omega)) rfl λd h8 hR=>?_
  ·simp only[go_sem,Zg]
  obtain⟨T8,s8⟩:=hR;have CR:=C1.lv T8 s8;have DR:=D1.trans (ZO.of (own:=own) (t:=.lv) (by simp) s8);rw[<- nj]at CR;apply XF hb;generalize QX own H .lv=QL6 at CR DR;generalize h8=HR at CR DR ⊢
 case' neg=>
  have dr:=QN hr;refine Q6 Qi 200 func164 rfl ntmps164 results164 rfl λbase w pl hb=>?_;have Qg:=Qc ho;have ZZ:=Qc he;simp only[go_sem,Qa,ho,Qg,he,ZZ];refine ZW hb EL rfl ?_ (Gt n.c) (Qn.flat rfl) rfl λd h hR=>?_
  ·simp only[go_sem,Qa,dr]
  obtain⟨rfl,rfl⟩:=hR;refine Qe hb ?_;simp only[go_sem,Qa,dr];have nj:MR=M:=by rw[R3];unfold VZ;rw[ZY,Qd hr]
  have CR:=C;rw[<- nj]at CR;have DR:=ZO.refl own h
 all_goals
  rw[<- R3]at IR;obtain⟨kT,kA,kK,kl⟩:=NY (M:=M) (now:=now) (id:=id) (head:=head);rw[<- R3]at kT kA kK kl;obtain⟨m,hm,AF⟩:∃m,Ql MR.N id=some m/\m.c=n.c:=by rw[R3];exact QBb id hn
  have R5:=(CR.JF id m hm).1;have QBd:=Qc R5;have KJ:=CR.ob;have YH:=Qc KJ;simp only[go_sem,Qa,R5,QBd,AF];refine Ax hb vX (v8 n.c) (Qn.flat rfl) λd h hR=>?_;obtain⟨rfl,rfl⟩:=hR;apply QC hb;by_cases hs:1<Q7 n.c.ls;case neg=>
   have ds:=QN hs;simp only[go_sem,Qa,ds];rw[hwM,Qd hs];exact⟨_,CR,IR,DR⟩
  have ds:=Q5 hs;rw[Qf hs,<- kA,<- kT]at hwM;rw[hwM];have WZ:QF MR.T id=some n.c:=by rw[kT];exact I.some hn
  have hO:=CR.q8;rw[IR.to]at hO;have Qk4:JB MR.T MR.A id=false:=by rw[kT,kA];exact Jy
  simp only[go_sem,Qa,ds,KJ,YH];refine VH hb te rfl ?_ (Qjk hO IR.tree IR.Yl id n.c WZ hl hs Qk4) rfl λd h9 hR=>?_
  ·simp only[go_sem,Zg]
  obtain⟨d1,rfl,yh,O9,s9⟩:=hR;rw[<- IR.to]at O9;have C9:=CR.act O9 s9;have D9:=DR.trans (ZO.of (t:=.on) (by simp) s9);have I9:Qy { MR with A:=id::MR.A }:=IR.act (λa ha=>by
   rcases QM.1 ha with rfl|ha
   ·exact⟨n.c,WZ,hl,hs⟩
   ·exact IR.Yl a ha)
  obtain⟨U,hU⟩:∃U,U=XE MR.T MR.A id:=⟨_,rfl⟩;rw[<- hU]at yh ⊢;have ni:U.length<=16:=by
   rw[hU];exact KZ (eK _).length_le Dj
  have Qbr:∀j∈U,j∈up MR.T id:=λj hj=>by rw[hU]at hj;exact(eK _).subset hj
  obtain⟨M9,bc⟩:∃M9,M9={ MR with A:=id::MR.A }:=⟨_,rfl⟩;have ns:M9.T=MR.T:=by rw[bc]
  rw[<- bc]at C9 I9 ⊢;rcases yh with ⟨rfl,be⟩|⟨lo,g,off,row,rfl,⟨Zm,rfl⟩,NZ,ZH⟩
  ·exfalso;rw[hU,XE,Vz IR.tree WZ,eJ,Qk4]at be;cases be
  have QBe:=Qc NZ;rw[JV]at NZ;apply QC hb;refine Jg (ba own h p L M9 now id lo g row U) U.length (Qp.frame (by simp only[go_sem,Zg])) (ba.of (k:=0) C9 D9 (by unfold QX;rw[Qf Zm]) NZ) ?_;rintro k _ hk ⟨own',H,Ck,Dk,Gk,Ku,rfl⟩;have bg:=Qc Ku;by_cases Qj:k<U.length;case neg=>
   have Ju:k=U.length:=by omega
   have dk:=QN Qj;rw[Ju,YO]at Ck;have Ik:=Qy.aZ (now:=now) U I9;have N3:=(Lj now U M9).1;have ZF:=Qbj Ck Ik id;rw[N3,ns]at ZF;refine Qe hb ?_;simp only[go_sem,Qa,dk];apply QC hb;refine Jh hb tj ZF λd jh hR=>?_;obtain⟨nu,AL,nv,Lk⟩:=hR;apply QC hb;exact⟨nu,AL,nv,Dk.trans Lk⟩
  have dk:=Q5 Qj;obtain⟨j,hj⟩:∃j,j=U.getD k 0:=⟨_,rfl⟩;have G4:j∈up MR.T id:=Qbr j (by rw[hj];exact WI U 0 k Qj);have bj:row k=[Qb j]:=by have:=ZH k Qj;rw[JV]at this;rw[this,hj]
  have Jo:(U.take (k+1)).foldl (W9 now) M9=W9 now ((U.take k).foldl (W9 now) M9) j:=by
   rw[getD_take U 0 k Qj,kz,<- hj];rfl
  have Ik:=Qy.aZ (now:=now) (U.take k) I9;have N3:=(Lj now (U.take k) M9).1;obtain⟨Mk,G1⟩:∃Mk,Mk=(U.take k).foldl (W9 now) M9:=⟨_,rfl⟩;rw[<- G1]at Ck Ik N3 Jo;obtain⟨y,hy⟩:∃y,Ql Mk.N j=some y:=by
   have ql:=IE G4;rw[<- ns,<- N3,Ik.find]at ql;cases hq:Ql Mk.N j with
   | none=>rw[hq]at ql;cases ql
   | some y=>exact⟨y,rfl⟩
  have AM:=Ck.q9 j y hy;obtain⟨l1,l2,l3⟩:=Qbp AM.c.2.2.2.2.1;obtain⟨u1,u2,u3⟩:=Qbp AM.c.2.2.2.2.2.1;have Wi:=Ck.look hy;have XJ:=Ck.ob;have j9:=Qc XJ;have zU:=Ck.VD;have DL:=Qc zU;have yQ:=(Ck.JF j y hy).1;have xH:=Qc yQ;have Gv:=Ck.Wj;have lN:=Qc Gv;have qB:=Qbi Ik hy;have za:=Ck.Yk.at_ y.c.parent;rw[Qf qB]at za;have vr:=(Ck.kids _ qB).toR;have QT:=JX (show k<4611686018427387904 by omega);have Py:NX (Mk.KT y.c.parent)<18446744073709551616:=by
   unfold NX;cases hq:Mk.KT y.c.parent with
   | nil=>decide
   | cons x l=>
    have:=Ik.wD y.c.parent x (by rw[hq];simp);show x.ka<_;omega
  have Qz:L.le j≠lo:=λe=>by have h1:=(Ck.JF j y hy).2;rw[e,Gk]at h1;cases h1
  refine Qe hb ?_;simp only[go_sem,Qa,dk,Qj,bj,XJ,j9,zU,DL,Ku,bg,Wi];apply QH hb [0,1,2,3,4,5,6,7,8,9,1010,11,12,13,14,15];simp only[go_sem,Qa,XJ,j9,yQ,xH,Gv,lN,za];refine Yh hb QvB (Qx3 vr) λd hR=>?_;subst hR;refine Zr hb ?_;simp only[go_sem,Qa,XJ,j9];have hlv:(((Mk.KT y.c.parent).head?.getD default).ka:Int)=((NX (Mk.KT y.c.parent):Nat):Int):=rfl;simp only[hlv];apply QH hb [0,1,2,3,4,5,6,7,8,9,10,11,12,13,14,1015,16,17,1018];simp only[go_sem,Qa,yQ,xH];refine Vj hb QvC rfl ?_ (QyZ y.sh AM.sh (KC y.c.ls) AM.c.2.2.2.2.1.lt (NX (Mk.KT y.c.parent)) y.Jz Py AM.Jz) (Qn.flat rfl) rfl λd h hR=>?_
  ·simp only[go_sem,Qa,yQ,xH,l1,l2,l3]
  obtain⟨rfl,rfl⟩:=hR;refine Zr hb ?_;simp only[go_sem,Qa,yQ,xH,l1,l2,l3];have eA:∀s,(H.set (L.le j) ⟨.one,0,60,1,λ_=>Vd (qD L.lq y) s⟩)[L.le j]? = some ⟨.one,0,60,1,λ_=>Vd (qD L.lq y) s⟩:=λs=>Qs xH;have Qbt:∀s,L.le j<(H.set (L.le j) s).length:=λs=>by simpa using xH
  apply QH hb [0,1,2,3,4,5,6,7,8,9,10,11,12,13,14,1015,16,17,1018];simp only[go_sem,Qa,eA,Qbt,xH];refine Vj hb QvD rfl ?_ (Qy4 y.cp AM.cp (KC y.c.ul) AM.c.2.2.2.2.2.1.lt now y.Jz WK AM.Jz) (Qn.flat rfl) rfl λd h hR=>?_
  ·simp only[go_sem,Qa,eA,Qbt,u1,u2,u3,xH]
  obtain⟨rfl,rfl⟩:=hR;refine Zr hb ?_;simp only[go_sem,Qa,eA,Qbt,u1,u2,u3,xH];have C4:=Ck.yu hy (DJ Mk now) (λ_=>rfl) (λ_=>rfl) (Qbo Ik WK AM);have D4:=ZO.set (own:=own') (h:=H) (qt (qD L.lq y) (DJ Mk now y)) (l:=L.le j) (by rw[(Ck.JF j y hy).2];simp);refine⟨Qj,_,Qp.frame (by simp only[go_sem,QT,Zg]),ba.of (by rw[Jo];exact C4) (Dk.trans D4) Gk (by rw[Qk Qz];exact Ku)⟩
def QBg{S}{h}{p}{T}{A}(O:j4 S h p T A)(leaf)(c:Qw)(hc:QF T leaf=some c)(jv:¬ 1<Q7 c.ls):
  QK prog 263 h [.ptr p 0 0 0,Qb leaf] (λd h'=>d=.tup [.nil,Qb 6]/\h'=h):=by
 obtain⟨b1,b2,b3,c1,c2,c3,Z4,Je,Vb,kl,O⟩:=O;have ho:=O.o;have m1:=O.m1;have k1:=O.f1.at_ leaf;rw[xw,hc]at k1;simp only[Qd jv]at k1;refine Q6 Qi 200 func263 rfl ntmps263 results263 rfl λbase w pl hb=>?_;have Qg:=Qc ho;have xy:=Qc m1;simp only[go_sem,Qa,ho,Qg,m1,xy,k1,Go.undef]
def AN:Sh:=⟨false,⟨⟨0,0,0⟩,⟨0,0,0⟩,false⟩,0⟩
def Qk5:AN.Ok:=⟨⟨Ln.wu,Ln.wu⟩,by decide⟩
def Ym(M:Qq)(c:Int):Qq:={ M with N:=Vm M.N c λn=>{ n with sh:=AN } }
def Wz(M:Qq)(j:Int):Qq:={ M with KT:=λi=>if i=(QD M j).c.parent then VC j (M.KT (QD M j).c.parent) else M.KT i }
def Ka(M:Qq)(j:Int):Qq:=
 if VC j (M.KT (QD M j).c.parent)=[] then (Xl M.T (QD M j).c.parent).foldl Ym (Wz M j) else Wz M j
def Xa(M:Qq)(id:Int):Qq:=
 if 1<Q7 (QD M id).c.ls then (XE M.T (Kt M.A id) id).foldl Ka { M with A:=Kt M.A id } else M
def Qy.Ym{M}(I:Qy M)(c):Qy (Ym M c):=I.Vm c (λn=>{ n with sh:=AN }) λ_=>rfl
def nw:∀(l:List Int) (M:Qq),(l.foldl Ym M).T=M.T/\(l.foldl Ym M).A=M.A/\(l.foldl Ym M).KT=M.KT/\(l.foldl Ym M).lk=M.lk/\(l.foldl Ym M).Qh=M.Qh/\(l.foldl Ym M).acc=M.acc/\(l.foldl Ym M).Lv=M.Lv
 | [],M=>⟨rfl,rfl,rfl,rfl,rfl,rfl,rfl⟩
 | j::l,M=>nw l (Ym M j)
def Qy.Qbu:∀(l:List Int) {M:Qq},Qy M->Qy (l.foldl X.Ym M)
 | [],M,I=>I
 | j::l,M,I=>Qy.Qbu l (I.Ym j)
def Qy.Wz{M}(I:Qy M)(j):Qy (Wz M j):=by
 refine⟨I.tree,I.yN,I.to,I.nodes,I.Yl,I.ks,I.B2,λi x hx=>?_,λi x hx=>?_,I.Qh,I.acc⟩
 ·unfold X.Wz at hx;dsimp only at hx;split at hx
  ·rename_i hj;subst hj;exact I.wC _ x (J8.1 hx).1
  ·exact I.wC _ x hx
 ·unfold X.Wz at hx;dsimp only at hx;split at hx
  ·exact I.wD _ x (J8.1 hx).1
  ·exact I.wD _ x hx
def Qy.Ka{M}(I:Qy M)(j):Qy (Ka M j):=by
 unfold X.Ka;split
 ·exact Qy.Qbu _ (I.Wz j)
 ·exact I.Wz j
def Qy.bk:∀(l:List Int) {M:Qq},Qy M->Qy (l.foldl X.Ka M)
 | [],M,I=>I
 | j::l,M,I=>Qy.bk l (I.Ka j)
def Qk6(M:Qq)(j:Int):(Ka M j).T=M.T/\(Ka M j).A=M.A/\(Ka M j).lk=M.lk/\(Ka M j).Qh=M.Qh/\(Ka M j).acc=M.acc/\(Ka M j).Lv=M.Lv:=by
 unfold Ka;split
 ·obtain⟨a1,a2,a3,a4,a5,a6,a7⟩:=nw (Xl M.T (QD M j).c.parent) (Wz M j);exact⟨a1,a2,a4,a5,a6,a7⟩
 ·exact⟨rfl,rfl,rfl,rfl,rfl,rfl⟩
def Ll:∀(l:List Int) (M:Qq),(l.foldl Ka M).T=M.T/\(l.foldl Ka M).A=M.A/\(l.foldl Ka M).lk=M.lk/\(l.foldl Ka M).Qh=M.Qh/\(l.foldl Ka M).acc=M.acc/\(l.foldl Ka M).Lv=M.Lv
 | [],M=>⟨rfl,rfl,rfl,rfl,rfl,rfl⟩
 | j::l,M=>by
  obtain⟨a1,a2,a3,a4,a5,a6⟩:=Ll l (Ka M j);obtain⟨b1,b2,b3,b4,b5,b6⟩:=Qk6 M j;exact⟨a1.trans b1,a2.trans b2,a3.trans b3,a4.trans b4,a5.trans b5,a6.trans b6⟩
def Qy.Xa{M}(I:Qy M)(id):Qy (Xa M id):=by
 unfold X.Xa;split
 ·exact Qy.bk _ (I.act (I.Yl.off id))
 ·exact I
structure oR (own:Nat->Tag) (h:List Ob) (p:Nat) (L:Loc) (M:Qq) (lo g:Nat) (row:Nat->List D) (U:List Int) (k:Nat) (s:St):Prop where
 ex:∃own' H,ZS own' H p L ((U.take k).foldl Ka M)/\ZO own h own' H/\own' lo=.on/\H[lo]? = some ⟨.arr,g,1,U.length,row⟩ /\
  s=⟨[(0,.ptr p 0 0 0),(22,.ref lo g 0 U.length),(23,Qb U.length),(24,Qb k)],H⟩
def oR.of{own}{h}{p}{L}{M}{lo g}{row}{U:List Int}{k:Nat}{own'}{H:List Ob}(C:ZS own' H p L ((U.take k).foldl Ka M))(D:ZO own h own' H)(h1:own' lo=.on)(h2:H[lo]? = some ⟨.arr,g,1,U.length,row⟩):
  oR own h p L M lo g row U k ⟨[(0,.ptr p 0 0 0),(22,.ref lo g 0 U.length),(23,Qb U.length),(24,Qb k)],H⟩:=⟨⟨own',H,C,D,h1,h2,rfl⟩⟩
structure bn (own:Nat->Tag) (h:List Ob) (p:Nat) (L:Loc) (M:Qq) (lo g:Nat) (row:Nat->List D) (U V:List Int) (k:Nat) (i:Nat) (s:St):Prop where
 ex:∃own' H,ZS own' H p L ((V.take i).foldl Ym M)/\ZO own h own' H/\own' lo=.on/\H[lo]? = some ⟨.arr,g,1,U.length,row⟩ /\
  s=⟨[(0,.ptr p 0 0 0),(22,.ref lo g 0 U.length),(23,Qb U.length),(24,Qb k),(59,ints V),(60,Qb V.length),(61,Qb i)],H⟩
def bn.of{own}{h}{p}{L}{M}{lo g}{row}{U V:List Int}{k i:Nat}{own'}{H:List Ob}(C:ZS own' H p L ((V.take i).foldl Ym M))(D:ZO own h own' H)(h1:own' lo=.on)(h2:H[lo]? = some ⟨.arr,g,1,U.length,row⟩):
  bn own h p L M lo g row U V k i ⟨[(0,.ptr p 0 0 0),(22,.ref lo g 0 U.length),(23,Qb U.length),(24,Qb k),(59,ints V),(60,Qb V.length),(61,Qb i)],H⟩:=⟨⟨own',H,C,D,h1,h2,rfl⟩⟩
def QBh{own}{h}{p}{L}{M:Qq}(C:ZS own h p L M)(I:Qy M){id}{n:Nd}(hn:Ql M.N id=some n)(hl:n.c.leaf=true)(Xi:1<Q7 n.c.ls->id∈M.A)(Jy:JB M.T (Kt M.A id) id=false):
  QK prog 204 h [.ptr p 0 0 0,Qb id] (λd h'=>∃own',ZS own' h' p L (Xa M id)/\Qy (Xa M id)/\ZO own h own' h'):=by
 have ho:=C.ob;have ZY:QD M id=n:=by unfold QD;rw[hn];rfl
 have WZ:QF M.T id=some n.c:=I.some hn;have hO:=C.q8;have hlen:=I.tree.len;rw[I.to]at hO;by_cases hs:1<Q7 n.c.ls;case neg=>
  have hM:Xa M id=M:=by unfold Xa;rw[ZY,Qd hs]
  refine Q6 Qi 200 func204 rfl ntmps204 results204 rfl λbase w pl hb=>?_;have Qg:=Qc ho;simp only[go_sem,Qa,ho,Qg];refine Jh hb Qh4 (QBg hO id n.c WZ hs) λd h9 hR=>?_;obtain⟨rfl,rfl⟩:=hR;apply QC hb;rw[hM];exact⟨own,C,I,ZO.refl own h9⟩
 have hM:Xa M id=(XE M.T (Kt M.A id) id).foldl Ka { M with A:=Kt M.A id }:=by unfold Xa;rw[ZY,Qf hs]
 have I9:Qy { M with A:=Kt M.A id }:=I.act (I.Yl.off id);have Qbv:=Qy.bk (XE M.T (Kt M.A id) id) I9;rw[hM];refine Q6 Qi 200 func204 rfl ntmps204 results204 rfl λbase w pl hb=>?_;have Qg:=Qc ho;simp only[go_sem,Qa,ho,Qg];refine Jh hb Qh4 (QxR hO I.tree I.Yl id n.c WZ hl hs (Xi hs) Jy) λd h9 hR=>?_;obtain⟨d1,rfl,yh,O9,s9⟩:=hR;rw[<- I.to]at O9;have C9:=C.act O9 s9;have D9:=ZO.of (own:=own) (t:=.on) (by simp) s9;obtain⟨U,hU⟩:∃U,U=XE M.T (Kt M.A id) id:=⟨_,rfl⟩;rw[<- hU]at yh Qbv ⊢;have ni:U.length<=16:=by
  rw[hU];exact KZ (eK _).length_le Dj
 have Qbr:∀j∈U,j∈up M.T id:=λj hj=>by rw[hU]at hj;exact(eK _).subset hj
 obtain⟨M9,bc⟩:∃M9,M9={ M with A:=Kt M.A id }:=⟨_,rfl⟩;have ns:M9.T=M.T:=by rw[bc]
 rw[<- bc]at C9 I9 Qbv ⊢;rcases yh with ⟨rfl,be⟩|⟨lo,g,off,row,rfl,⟨Zm,rfl⟩,NZ,ZH⟩
 ·exfalso;rw[hU,XE,Vz I.tree WZ,eJ,Jy]at be;cases be
 have QBe:=Qc NZ;rw[JV]at NZ;apply QC hb;refine Jg (oR own h p L M9 lo g row U) U.length QQ (oR.of (k:=0) C9 D9 (by unfold QX;rw[Qf Zm]) NZ) ?_;rintro k _ hk ⟨own',H,Ck,Dk,Gk,Ku,rfl⟩;have bg:=Qc Ku;by_cases Qj:k<U.length;case neg=>
  have Ju:k=U.length:=by omega
  have dk:=QN Qj;rw[Ju,YO]at Ck;refine Qe hb ?_;simp only[go_sem,Qa,dk];exact⟨own',Ck,Qbv,Dk⟩
 have dk:=Q5 Qj;obtain⟨j,hj⟩:∃j,j=U.getD k 0:=⟨_,rfl⟩;have G4:j∈up M.T id:=Qbr j (by rw[hj];exact WI U 0 k Qj);have bj:row k=[Qb j]:=by have:=ZH k Qj;rw[JV]at this;rw[this,hj]
 have Jo:(U.take (k+1)).foldl Ka M9=Ka ((U.take k).foldl Ka M9) j:=by
  rw[getD_take U 0 k Qj,kz,<- hj];rfl
 have Ik:=Qy.bk (U.take k) I9;have N3:=(Ll (U.take k) M9).1;obtain⟨Mk,G1⟩:∃Mk,Mk=(U.take k).foldl Ka M9:=⟨_,rfl⟩;rw[<- G1]at Ck Ik N3 Jo;obtain⟨y,hy⟩:∃y,Ql Mk.N j=some y:=by
  have ql:=IE G4;rw[<- ns,<- N3,Ik.find]at ql;cases hq:Ql Mk.N j with
  | none=>rw[hq]at ql;cases ql
  | some y=>exact⟨y,rfl⟩
 have aJ:QD Mk j=y:=by unfold QD;rw[hy];rfl
 have Wi:=Ck.look hy;have XJ:=Ck.ob;have j9:=Qc XJ;have zU:=Ck.VD;have DL:=Qc zU;have yQ:=(Ck.JF j y hy).1;have xH:=Qc yQ;have Gv:=Ck.Wj;have lN:=Qc Gv;have qB:=Qbi Ik hy;have za:=Ck.Yk.at_ y.c.parent;rw[Qf qB]at za;have vr:=Ck.kids _ qB;have QT:=JX (show k<4611686018427387904 by omega);have ID:=aY Ik.tree vr.nd (Ik.CH _);refine Qe hb ?_;simp only[go_sem,Qa,dk,Qj,bj,XJ,j9,zU,DL,Ku,bg,Wi,yQ,xH,Gv,lN,za];refine Jh hb QvZ (Qx5 vr j (by omega)) λd jh hR=>?_;obtain⟨rfl,T10,eB⟩:=hR;have AL:=Ck.YE _ qB T10 eB;have Lk:=Dk.trans (ZO.of (t:=.YE y.c.parent) (by simp) eB);have Zy:{ Mk with KT:=λi=>if i=y.c.parent then VC j (Mk.KT y.c.parent) else Mk.KT i }=Wz Mk j:=by unfold Wz;rw[aJ]
 rw[Zy]at AL;have nv:=Ik.Wz j;have nu:QX own' H (.YE y.c.parent) lo=.on:=by rw[Js bg];exact Gk
 have Qk8:jh[lo]? = some ⟨.arr,g,1,U.length,row⟩:=(eB.keep lo bg (by rw[Gk];simp)).trans Ku;have br:Ka Mk j=if VC j (Mk.KT y.c.parent)=[] then (Xl Mk.T y.c.parent).foldl Ym (Wz Mk j) else Wz Mk j:=by unfold Ka;rw[aJ]
 have Lm:=AL.ob;have R9:=Qc Lm;have hm4:=AL.Wj;have QBi:=Qc hm4;have Qla:=AL.Yk.at_ y.c.parent;rw[Qf (show (Wz Mk j).ks y.c.parent=true from qB)]at Qla;have Lo:GK jh (L.lk y.c.parent) (VC j (Mk.KT y.c.parent)):=T10.toR;refine Qe hb ?_;simp only[go_sem,Qa,Lm,R9,hm4,QBi,Qla];refine ZN hb tu (u6 Lo) λd hR=>?_;subst hR;refine Qe hb ?_;simp only[go_sem,Qa,Lm,R9];by_cases hz:VC j (Mk.KT y.c.parent)=[];case neg=>
  have qk:0<(VC j (Mk.KT y.c.parent)).length:=List.length_pos_iff.2 hz;have dz:decide ((0:Int)<((VC j (Mk.KT y.c.parent)).length:Int))=true:=Q5 (by omega);rw[Qd hz]at br;simp only[go_sem,Qa,dz];exact⟨Qj,_,Qp.frame (by simp only[go_sem,QT]),oR.of (by rw[Jo,br];exact AL) Lk nu Qk8⟩
 rw[Qf hz]at br;have dz:decide ((0:Int)<((VC j (Mk.KT y.c.parent)).length:Int))=false:=QN (by rw[hz];simp);simp only[go_sem,Qa,dz,Lm,R9];refine ZN hb tv (QxM AL.tr.toR (by have:=nv.tree.len;omega) y.c.parent) λd hR=>?_;subst hR;refine Qe hb ?_;simp only[go_sem,Qa,Lm,R9];obtain⟨V,hV⟩:∃V,V=Xl Mk.T y.c.parent:=⟨_,rfl⟩;have hVl:V.length<=64:=by
  rw[hV];unfold Xl;rw[Kl];exact KZ (qL _ _) Ik.tree.len
 have hVm:∀c∈V,(QF Mk.T c).isSome=true:=λc hc=>by
  rw[hV]at hc;obtain⟨x,hx,rfl⟩:=Jk.1 hc;rw[(Vs Ik.tree.rising).2 ⟨(J8.1 hx).1,rfl⟩];rfl
 rw[show Xl (Wz Mk j).T y.c.parent=V from hV.symm];rw[<- hV]at br;refine Jg (bn own h p L (Wz Mk j) lo g row U V k) V.length QQ (bn.of (i:=0) AL Lk nu Qk8) ?_;rintro i _ hi ⟨xI,H5,C5,D5,G5,Qlb,rfl⟩;by_cases zy:i<V.length;case neg=>
  have zz:i=V.length:=by omega
  have di:=QN zy;rw[zz,YO]at C5;refine Qe hb ?_;simp only[go_sem,Qa,di];apply QC hb;exact⟨Qj,_,Qp.frame (by simp only[go_sem,QT]),oR.of (by rw[Jo,br];exact C5) D5 G5 Qlb⟩
 have di:=Q5 zy;have bt:=JX (show i<4611686018427387904 by omega);obtain⟨c,hc⟩:∃c,c=V.getD i 0:=⟨_,rfl⟩;have hcV:c∈V:=by rw[hc];exact WI V 0 i zy
 have Qlc:(V.take (i+1)).foldl Ym (Wz Mk j)=Ym ((V.take i).foldl Ym (Wz Mk j)) c:=by
  rw[getD_take V 0 i zy,kz,<- hc];rfl
 have I5:=Qy.Qbu (V.take i) nv;have kT5:=(nw (V.take i) (Wz Mk j)).1;obtain⟨M5,Sa⟩:∃M5,M5=(V.take i).foldl Ym (Wz Mk j):=⟨_,rfl⟩;rw[<- Sa]at C5 I5 kT5 Qlc;obtain⟨x,hx⟩:∃x,Ql M5.N c=some x:=by
  have ql:=hVm c hcV;rw[show Mk.T=M5.T from kT5.symm,I5.find]at ql;cases hq:Ql M5.N c with
  | none=>rw[hq]at ql;cases ql
  | some x=>exact⟨x,rfl⟩
 have AK:=C5.q9 c x hx;have ny:=C5.look hx;have Fj:=C5.ob;have Sb:=Qc Fj;have BZ:=C5.VD;have nz:=Qc BZ;have N4:=(C5.JF c x hx).1;have DM:=Qc N4;have Qz:L.le c≠lo:=λe=>by have h1:=(C5.JF c x hx).2;rw[e,G5]at h1;cases h1
 refine Qe hb ?_;simp only[go_sem,Qa,di,zy,<- hc,Fj,Sb,BZ,nz,ny,N4,DM];have C6:=C5.yu hx (λn=>{ n with sh:=AN }) (λ_=>rfl) (λ_=>rfl) ⟨AK.Jz,AK.du,Qk5,AK.cp,AK.c⟩;have D6:=ZO.set (own:=xI) (h:=H5) (qt (qD L.lq x) { x with sh:=AN }) (l:=L.le c) (by rw[(C5.JF c x hx).2];simp);have EF:(⟨.one,0,60,1,λ_=>List.take 38 (Vd (qD L.lq x) x)++.raw (.bool false)::.raw (.int .u64 0)::.raw (.int .u64 0)::.raw (.int .u64 0)::.raw (.int .u64 0)::.raw (.int .u64 0)::.raw (.int .u64 0)::.raw (.int .u64 0)::.raw (.int .u64 0)::.raw (.bool false)::.raw (.int .u64 0)::List.drop 49 (Vd (qD L.lq x) x)⟩:Ob)=qt (qD L.lq x) { x with sh:=AN }:=by
  unfold qt;rw[<- QA4 (qD L.lq x) x AN];rfl
 rw[EF];refine⟨_,Qp.frame (by simp only[go_sem,bt]),bn.of (by rw[Qlc];exact C6) (D5.trans D6) G5 (by rw[Qk Qz];exact Qlb)⟩
def firstM(M:Qq)(now:Nat)(id:Int):Option It:=(M.KT id).find? λx=>decide (x.va<=min now 9223372036854775807)
def B3(M:Qq)(now:Nat):Nat->Int->Option Int
 | 0,_=>none
 | n+1,id=>match firstM M now id with
  | none=>none
  | some x=>if (QD M x.ki).c.leaf=true then some x.ki else B3 M now n x.ki
def Qle(o:Option Int):D:=.tup [Qb (o.getD 0),QJ false,QJ o.isSome]
def yR(M:Qq)(now:Nat)(o:Option It):Prop:=Av o (M.Lv.filter λx=>decide (x.ka<=min now 9223372036854775807))
def Sc(M:Qq)(now:Nat)(o:Option It):D:=match o with
 | some x=>.tup [Qb x.ki,QJ true,QJ true]
 | none=>Qle (B3 M now 17 0)
section
variable {own:Nat->Tag}{h:List Ob}{p:Nat}{L:Loc}{M:Qq}(C:ZS own h p L M)(I:Qy M)
include C I
theorem QBl(now):QV prog 199 h [.ptr p 0 0 0,u64 now] (λd=>∃o,yR M now o/\d=Sc M now o):=by
 have ho:=Z3 C.ob;have hm:=Z3 C.Wj;have ZG:=Z3 C.VD;have hv:=C.YF.toR;refine Zq Qi 200 func199 rfl ntmps199 results199 rfl λbase w pl F hF Q3 hb=>?_;rw[<- hF]at ho hm ZG;have Qg:=Qc ho;have QG:=Qc hm;have Ar:=Qc ZG;simp only[go_sem,Qa,ho,Qg,hm,QG,ZG,Ar];refine ZN hb QvU (Qx6 (hv.more (Kh hF)) now) λd hR=>?_;obtain⟨o,eC,rfl⟩:=hR;refine Qe hb ?_;simp only[go_sem,Qa,ho,Qg];cases o with
 | some x=>
  simp only[go_sem,Qa,wV,KA];exact⟨[],(QU F).symm,some x,eC,rfl⟩
 | none=>
  simp only[go_sem,Qa,xW];have QL8:(up M.T 0).length=0:=by rw[Nq I.tree];rfl
  refine MP (λn st=>∃id,M.ks id=true/\(up M.T id).length+n=16/\B3 M now 17 0=B3 M now (n+1) id/\st=⟨[(0,.ptr p 0 0 0),(1,u64 now),(9,Qb id)],F⟩) 16 QQ ⟨0,(I.ks 0).2 (.inl rfl),by omega,rfl,rfl⟩ ?_;rintro n _ ⟨id,qB,hlen,B4,rfl⟩;have za:=C.Yk.at_ id;rw[Qf qB]at za;have hT:=(C.kids id qB).toR
  conv at B4=>rhs;rw[B3]
  refine Qe hb ?_;simp only[go_sem,Qa,ho,Qg,hm,QG,za];refine ZN hb QvV (Qx2 (hT.more (Kh hF)) now) λd hR=>?_;subst hR;refine Qe hb ?_;simp only[go_sem,Qa,ho,Qg];have hfm:(M.KT id).find? (λx=>decide (x.va<=min now 9223372036854775807))=firstM M now id:=rfl;rw[hfm];cases hq:firstM M now id with
  | none=>
   rw[hq]at B4;simp only[go_sem,Qa,xW];exact⟨[],(QU F).symm,none,eC,by unfold Sc;rw[B4];rfl⟩
  | some x=>
   rw[hq]at B4;have l6:x∈M.KT id:=wS hq;obtain⟨c,hc,q7⟩:=I.wC id x l6;obtain⟨y,hy,hyc⟩:=I.NV hc;have aJ:QD M x.ki=y:=by unfold QD;rw[hy];rfl
   have Sd:(up M.T x.ki).length=(up M.T id).length+1:=by rw[Vz I.tree hc,q7];rfl
   have h16:(up M.T x.ki).length<=16:=Dj;have Wi:=C.look hy;have he:=Z3 (C.JF x.ki y hy).1;rw[<- hF]at he;have ZZ:=Qc he;dsimp only at B4;rw[aJ]at B4;simp only[go_sem,Qa,wV,KA,ho,Qg,ZG,Ar,Wi,he,ZZ];cases hl:y.c.leaf with
   | true=>
    rw[hl,Qf rfl]at B4;simp only[go_sem,Qa];exact⟨[],(QU F).symm,none,eC,by unfold Sc;rw[B4];rfl⟩
   | false=>
    rw[hl,Qd (by decide)]at B4;obtain⟨n,rfl⟩:∃n',n=n'+1:=⟨n - 1,by omega⟩;simp only[go_sem,Qa];exact⟨n,_,by omega,QQ,x.ki,(I.ks _).2 (.inr ⟨y,hy,hl⟩),by omega,B4,rfl⟩
end
def QBn{T}(I:VR T){id a}{c:Qw}(hc:QF T id=some c)(hl:c.leaf=true)(h:id∈up T a):a=id:=by
 refine jM λQz=>?_;obtain⟨i,d,h1,h2,h3⟩:=lU I h Qz;have h0:d.parent≠0:=λe=>by rw[<- h3,e,Gy I]at hc;cases hc
 obtain⟨e,h4,h5⟩:=I.J4 d (As I h2) h0;rw[h3,hc]at h4;cases h4;rw[hl]at h5;cases h5
def nA{T}(I:VR T){id}{c:Qw}(hc:QF T id=some c)(hl:c.leaf=true)(A):JB T A id=true↔id∈A:=by
 rw[qw];constructor
 ·rintro⟨a,ha,h⟩;rw[<- QBn I hc hl h];exact ha
 ·exact λh=>⟨id,h,YA I hc⟩
def QBo{T}(I:VR T){id}{c:Qw}(hc:QF T id=some c)(hl:c.leaf=true)(A):JB T (Kt A id) id=false:=by
 rw[jK];intro h;have:=(nA I hc hl _).1 h;simp[Kt]at this
def DN(len:Nat)(n:Nd):Nd:={ n with Jz:=WY (n.Jz+len),sh:=La n.sh (WY (n.Jz+len)),cp:=AD n.cp (WY (n.Jz+len)) }
def V0(len:Nat)(M:Qq)(j:Int):Qq:={ M with N:=Vm M.N j (DN len) }
def Qlf{n:Nd}(h:n.Ok)(len):(DN len n).Ok:=⟨NJ _,h.du,QyY h.sh _,Qy2 h.cp _,h.c⟩
def Qy.V0{M}(I:Qy M)(len)(j):Qy (V0 len M j):=I.Vm j (DN len) λ_=>rfl
def Qy.nB{len}:∀(l:List Int) {M:Qq},Qy M->Qy (l.foldl (X.V0 len) M)
 | [],M,I=>I
 | j::l,M,I=>Qy.nB l (I.V0 len j)
def N5(len):∀(l:List Int) (M:Qq),(l.foldl (V0 len) M).T=M.T/\(l.foldl (V0 len) M).A=M.A/\(l.foldl (V0 len) M).KT=M.KT/\(l.foldl (V0 len) M).lk=M.lk/\(l.foldl (V0 len) M).Qh=M.Qh/\(l.foldl (V0 len) M).acc=M.acc/\(l.foldl (V0 len) M).Lv=M.Lv
 | [],M=>⟨rfl,rfl,rfl,rfl,rfl,rfl,rfl⟩
 | j::l,M=>N5 len l (V0 len M j)
def Qlg{N}{j}{f}(hc:∀n,(f n).c=n.c)(i){n:Nd}(h:Ql N i=some n):∃m,Ql (Vm N j f) i=some m/\m.c=n.c/\(m=n\/(i=j/\m=f n)):=by
 rw[vq (λn=>by rw[hc])];by_cases e:i=j
 ·rw[Qf e,h];exact⟨f n,rfl,hc n,.inr ⟨e,rfl⟩⟩
 ·rw[Qd e];exact⟨n,h,rfl,.inl rfl⟩
def Qlh(len):∀(l:List Int) (M:Qq) (i:Int) {n:Nd},Ql M.N i=some n->∃m,Ql (l.foldl (V0 len) M).N i=some m/\m.c=n.c/\m.q=n.q/\m.du=n.du
 | [],M,i,n,h=>⟨n,h,rfl,rfl,rfl⟩
 | j::l,M,i,n,h=>by
  obtain⟨m,h1,h2,h3⟩:=Qlg (f:=DN len) (j:=j) (λ_=>rfl) i h;obtain⟨m2,h4,h5,h6,h7⟩:=Qlh len l (V0 len M j) i h1;refine⟨m2,h4,h5.trans h2,?_,?_⟩
  ·rw[h6];rcases h3 with rfl|⟨_,rfl⟩<;>rfl
  ·rw[h7];rcases h3 with rfl|⟨_,rfl⟩<;>rfl
def Xq(M:Qq)(id:Int):Qq:={ M with N:=Vm M.N id λn=>{ n with q:=XG (QD M id).q } }
def Qy.Xq{M}(I:Qy M)(id:Int):Qy (Xq M id):=I.Vm id (λn=>{ n with q:=XG (QD M id).q }) λ_=>rfl
def Qy.VS{M:Qq}(I:Qy M){id}{n}(hn:Ql M.N id=Option.some n)(JY)(r):Qy (VS M id JY r):=by
 unfold X.VS;split
 ·refine(I.Vm id (λn=>{ n with du:=zT (QD M id) JY r }) λ_=>rfl).lv λx hx=>?_;have Xg:x.ki=id\/x∈M.Lv:=by
   split at hx
   ·exact Qbn (J8.1 hx).1
   ·exact Qbn hx
  rcases Xg with h|h
  ·rw[h];show (QF M.T id).isSome=true;rw[I.some hn];rfl
  ·exact I.B2 x h
 ·exact I
def Se(M:Qq)(id)(JY)(r:Bool):(VS M id JY r).T=M.T/\(VS M id JY r).A=M.A/\(VS M id JY r).KT=M.KT/\(VS M id JY r).lk=M.lk/\(VS M id JY r).Qh=M.Qh/\(VS M id JY r).acc=M.acc:=by
 unfold VS;split<;>exact⟨rfl,rfl,rfl,rfl,rfl,rfl⟩
def QBp(M:Qq)(id)(JY)(r:Bool)(i){n:Nd}(h:Ql M.N i=some n):∃m,Ql (VS M id JY r).N i=some m/\m.c=n.c/\m.q=n.q:=by
 unfold VS;split
 ·obtain⟨m,h1,h2,h3⟩:=Qlg (f:=λn=>{ n with du:=zT (QD M id) JY r }) (j:=id) (λ_=>rfl) i h;exact⟨m,h1,h2,by rcases h3 with rfl|⟨_,rfl⟩<;>rfl⟩
 ·exact⟨n,h,rfl,rfl⟩
def VO(M:Qq)(now:Nat)(o:Option It):Option (Int × Bool):=match o with
 | some x=>some (x.ki,true)
 | none=>(B3 M now 17 0).map λid=>(id,false)
def Xr(M:Qq)(id:Int)(r:Bool):Qq:=
 let len:=((QD M id).q.l.headD default).len;let M3:=VS ((up M.T id).foldl (V0 len.toNat) (Xq M id)) id len r;let M4:=if (XG (QD M id).q).l=[] then Xa M3 id else M3
 Wl M4 (up M.T id)
@[go_sem] def zV(id:Int)(x:Pk)(r:Bool):List D:=[Qb id,.raw (.int .u64 x.iD),.raw (.int .i64 x.len),.raw (.int .u16 x.yo),.raw (.int .u16 x.yp),.raw (.int .u16 x.yq),.raw (.int .u16 x.yr),QJ r]
@[go_sem] def wF:Ob:=⟨.one,0,8,1,λ_=>zV 0 default false⟩
@[go_sem] def zW(x:Pk):Ob:=⟨.one,0,6,1,λ_=>x.cells⟩
def G6(M:Qq)(now:Nat):(Z1 M now).N=M.N/\(Z1 M now).T=M.T/\(Z1 M now).A=M.A:=by unfold Z1;split<;>exact⟨rfl,rfl,rfl⟩
def B5{M}(I:Qy M)(now):Qy (Z1 M now):=by
 unfold Z1;split
 ·rename_i h;unfold xG at h;simp only[jL,Hy,TG]at h;exact⟨I.tree,I.yN,I.to,I.nodes,I.Yl,I.ks,I.B2,I.wC,I.wD,by show now<=_;omega,I.acc⟩
 ·exact I
structure bu (own:Nat->Tag) (h:List Ob) (p:Nat) (L:Loc) (M:Qq) (id:Int) (r:Bool) (lb:Nat) (x:Pk) (U:List Int) (k:Nat) (s:St):Prop where
 ex:∃own' H,ZS own' H p L ((U.take k).foldl (V0 x.len.toNat) M)/\ZO own h own' H/\own' h.length=.no/\H[h.length]? = some wF/\own' lb=.no/\H[lb]? = some (zW x) /\
  s=⟨[(0,.ptr p 0 0 0),(4,.ptr h.length 0 0 0),(6,Qb id),(7,QJ r),(9,.ptr (L.le id) 0 0 0),(10,.ptr lb 0 0 0),(53,ints U),(54,Qb U.length),(55,Qb k)],H⟩
def bu.of{own}{h:List Ob}{p}{L}{M}{id}{r}{lb}{x:Pk}{U:List Int}{k:Nat}{own'}{H:List Ob}(C:ZS own' H p L ((U.take k).foldl (V0 x.len.toNat) M))(D:ZO own h own' H)(h1:own' h.length=.no)(h2:H[h.length]? = some wF)(h3:own' lb=.no)(h4:H[lb]? = some (zW x)):
  bu own h p L M id r lb x U k ⟨[(0,.ptr p 0 0 0),(4,.ptr h.length 0 0 0),(6,Qb id),(7,QJ r),(9,.ptr (L.le id) 0 0 0),(10,.ptr lb 0 0 0),(53,ints U),(54,Qb U.length),(55,Qb k)],H⟩:=⟨⟨own',H,C,D,h1,h2,h3,h4,rfl⟩⟩
def bw(M:Qq)(now:Nat)(d:D)(M':Qq):Prop:=
 (xG M now=false/\d=.tup [.agg (zV 0 default false),QJ false]/\M'=M) \/
 (xG M now=true/\∃o,yR (Z1 M now) now o/\match VO (Z1 M now) now o with
  | none=>d=.tup [.agg (zV 0 default false),QJ false]/\M'=Z1 M now
  | some (id,r)=>d=.tup [.agg (zV id ((QD M id).q.l.headD default) r),QJ true]/\M'=Xr (Z1 M now) id r)
def QBq{own}{h}{p}{L}{M}(C:ZS own h p L M)(I:Qy M)(now)
  (Qbz:∀o id r,yR (Z1 M now) now o->VO (Z1 M now) now o=some (id,r)->∃n,Ql M.N id=some n/\n.c.leaf=true/\n.q.l≠[]/\(1<Q7 n.c.ls->id∈M.A)) :
  QK prog 165 h [.ptr p 0 0 0,u64 now] (λd h'=>∃own' M',ZS own' h' p L M'/\Qy M'/\ZO own h own' h'/\bw M now d M'):=by
 have ho:=C.ob;have C0:=C.RW [wF];have D0:=ZO.app own h [wF] .no;have AH:QX own h .no h.length=.no:=by unfold QX;rw[Qf (QB _)]
 have ZG:(h++[wF])[h.length]? = some wF:=by rw[Kx rfl];rfl
 refine Q6 Qi 200 func165 rfl ntmps165 results165 rfl λbase w pl hb=>?_;have Qg:=Qc ho;simp only[go_sem,Qa,ho,Qg,Go.undef];refine Jh hb QhO (Qk1 C0 now) λd h1 hR=>?_;obtain⟨rfl,C1,D1⟩:=hR;have I1:=B5 I now;obtain⟨t1,t2,t3⟩:=G6 M now;have AO:=D0.trans D1;have KL:h1[h.length]? = some wF:=(D1.keep h.length (by simp) AH).trans ZG;have vu:=Qc KL;obtain⟨Ji,N6⟩:∃o,o=QX own h .no:=⟨_,rfl⟩;have zx:∀o,(h1.set h.length o)[h.length]? = some o:=λo=>Qs vu;rw[<- N6]at AO C1 AH;refine Qe hb ?_;cases ht:xG M now with
 | false=>
  simp only[go_sem,Qa,ht,Go.undef,KL,vu,zx];have hM:Z1 M now=M:=by unfold Z1;rw[ht];rfl
  rw[hM]at C1;exact⟨Ji,M,C1.loc AH _,I,AO.Fi (QB _) _,.inl ⟨ht,rfl,rfl⟩⟩
 | true=>
  simp only[go_sem,Qa,ht,Go.undef,KL,vu];refine ZN hb QvE (QBl C1 I1 now) λd hR=>?_;obtain⟨o,oa,rfl⟩:=hR;refine Qe hb ?_;have QbB:VO (Z1 M now) now o=none->∃own' M',ZS own' (h1.set h.length wF) p L M'/\Qy M'/\ZO own h own' (h1.set h.length wF)/\bw M now (.tup [.agg (zV 0 default false),QJ false]) M':=λhp=>
   ⟨Ji,Z1 M now,C1.loc AH _,I1,AO.Fi (QB _) _,.inr ⟨ht,o,oa,by rw[hp];exact⟨rfl,rfl⟩⟩⟩
  have AP:∀id r own' H,VO (Z1 M now) now o=some (id,r)->ZS own' H p L (Xr (Z1 M now) id r)->Qy (Xr (Z1 M now) id r)->ZO own h own' H->bw M now (.tup [.agg (zV id ((QD M id).q.l.headD default) r),QJ true]) (Xr (Z1 M now) id r):=λid r own' H hp _ _ _=>
   .inr ⟨ht,o,oa,by rw[hp];exact⟨rfl,rfl⟩⟩
  obtain⟨id,r,Zg,hp⟩|hp:(∃id r,Sc (Z1 M now) now o=.tup [Qb id,QJ r,QJ true]/\VO (Z1 M now) now o=some (id,r))\/(Sc (Z1 M now) now o=.tup [Qb 0,QJ false,QJ false]/\VO (Z1 M now) now o=none):=by
   cases o with
   | some x=>exact .inl ⟨x.ki,true,rfl,rfl⟩
   | none=>
    unfold Sc Qle VO;dsimp only;cases B3 (Z1 M now) now 17 0 with
    | none=>exact .inr ⟨rfl,rfl⟩
    | some i=>exact .inl ⟨i,false,rfl,rfl⟩
  case inr=>
   obtain⟨hd,hp⟩:=hp;rw[hd];simp only[go_sem,Qa,KL,vu,zx];exact QbB hp
  rw[Zg];obtain⟨n,hn,hl,hq,Xi⟩:=Qbz o id r oa hp;have KX:Ql (Z1 M now).N id=some n:=by rw[t1];exact hn
  have ZY:QD M id=n:=by unfold QD;rw[hn];rfl
  have QbC:QD (Z1 M now) id=n:=by unfold QD;rw[KX];rfl
  obtain⟨x,q,Sf⟩:∃x q,n.q.l=x::q:=by
   cases BW:n.q.l with
   | nil=>exact absurd BW hq
   | cons x q=>exact⟨x,q,rfl⟩
  have Wi:=C1.look KX;have ZI:=C1.ob;have KP:=Qc ZI;have jQ:=C1.VD;have nC:=Qc jQ;have DK:=(C1.JF id n KX).1;have R4:=Qc DK;obtain⟨kq,NW,hQ⟩:=C1.Wy id n KX hl;have RZ:=Qy.id hn;have G3:qD L.lq n=.ptr (L.lq id) 0 0 0:=by unfold qD;rw[Qf hl,RZ]
  rw[G3]at DK;simp only[go_sem,Qa,ZI,KP,jQ,nC,Wi,DK,R4];refine Jh hb QvF (QyR hQ Sf) λd h2 hR=>?_;obtain⟨rfl,Q2,s2⟩:=hR;have C2:=C1.zS KX hl NW Q2 s2;have oA:{ Z1 M now with N:=Vm (Z1 M now).N id λm=>{ m with q:=XG n.q } }=Xq (Z1 M now) id:=by unfold Xq;rw[QbC]
  rw[oA]at C2;have D2:=AO.trans (ZO.of (t:=.zS id) (by simp) s2);have Jb:h2[h.length]? = some wF:=(s2.keep h.length vu (by rw[AH];simp)).trans KL;have VQ:QX Ji h1 (.zS id) h.length=.no:=by rw[Js vu];exact AH
  have Jx:=s2.len;have C3:=C2.RW [zW x];have D3:=D2.trans (ZO.app _ h2 [zW x] .no);have zU:(h2++[zW x])[h.length]? = some wF:=(Qx (Qc Jb)).trans Jb;have BN:QX (QX Ji h1 (.zS id)) h2 .no h.length=.no:=by rw[Js (Qc Jb)];exact VQ
  have NG:(h2++[zW x])[h2.length]? = some (zW x):=by rw[Kx rfl];rfl
  have zd:QX (QX Ji h1 (.zS id)) h2 .no h2.length=.no:=by unfold QX;rw[Qf (QB _)]
  have I3:=I1.Xq id;have XJ:=C3.ob;have j9:=Qc XJ;generalize oB:h2++[zW x]=H3 at C3 D3 zU NG XJ j9;generalize QX (QX Ji h1 (.zS id)) h2 .no=YI at C3 D3 BN zd;apply QC hb;have QbF:h2++[(⟨.one,0,6,1,λ_=>[.raw (.int .u64 x.iD),.raw (.int .i64 x.len),.raw (.int .u16 x.yo),.raw (.int .u16 x.yp),.raw (.int .u16 x.yq),.raw (.int .u16 x.yr)]⟩:Ob)]=H3:=oB;simp only[QbF];simp only[go_sem,Qa,XJ,j9];refine ZN hb iR (uN C3.tr.toR I3.tree.toTreeInv id) λd hR=>?_;subst hR;refine Qe hb ?_;simp only[go_sem,Qa,XJ,j9];obtain⟨U,hU⟩:∃U,U=up M.T id:=⟨_,rfl⟩;have hU3:J6 (Xq (Z1 M now) id).T 16 id=U:=by rw[hU];show up (Z1 M now).T id=_;rw[t2]
  rw[hU3];have ni:U.length<=16:=by rw[hU];exact Dj
  obtain⟨M3,jz⟩:∃M3,M3=Xq (Z1 M now) id:=⟨_,rfl⟩;have Qli:M3.T=M.T:=by rw[jz];exact t2
  have QBs:M3.A=M.A:=by rw[jz];exact t3
  rw[<- jz]at C3 I3;have Xg:IX x:=by
   obtain⟨r2,Q⟩:=hQ;exact Q.lens x (by rw[Sf];simp)
  have ex:IntKind.u64.wrap x.len=((x.len.toNat:Nat):Int):=NK (by have:=Xg.1;omega) (by have:=Xg.2;omega);obtain⟨n3,QBt,Qlj,QBu⟩:∃m,Ql M3.N id=some m/\m.c=n.c/\m.q=XG n.q:=by
   rw[jz];unfold Xq;rw[QbC];refine⟨{ n with q:=XG n.q },?_,rfl,rfl⟩;rw[vq (f:=λm=>{ m with q:=XG n.q }) (λ_=>rfl),Qf rfl,KX];rfl
  refine Jg (bu own h p L M3 id r h2.length x U) U.length QQ (bu.of (k:=0) C3 D3 BN zU zd NG) ?_;rintro k _ hk ⟨xI,H5,C5,D5,nD,BZ,nF,Fk,rfl⟩;have nz:=Qc BZ;have N7:=Qc Fk;have I5:=Qy.nB (len:=x.len.toNat) (U.take k) I3;obtain⟨kT,kA,kK,klk,kc,ka,kL⟩:=N5 x.len.toNat (U.take k) M3;by_cases Qj:k<U.length;case pos=>
   have dk:=Q5 Qj;obtain⟨j,hj⟩:∃j,j=U.getD k 0:=⟨_,rfl⟩;have G4:j∈up M.T id:=by rw[hj,<- hU];exact WI U 0 k Qj
   have Jo:(U.take (k+1)).foldl (V0 x.len.toNat) M3=V0 x.len.toNat ((U.take k).foldl (V0 x.len.toNat) M3) j:=by
    rw[getD_take U 0 k Qj,kz,<- hj];rfl
   obtain⟨M5,Sa⟩:∃M5,M5=(U.take k).foldl (V0 x.len.toNat) M3:=⟨_,rfl⟩;rw[<- Sa]at C5 I5 kT Jo;obtain⟨y,hy⟩:∃y,Ql M5.N j=some y:=by
    have ql:=IE G4;rw[<- Qli,<- kT,I5.find]at ql;cases hq:Ql M5.N j with
    | none=>rw[hq]at ql;cases ql
    | some y=>exact⟨y,rfl⟩
   have AM:=C5.q9 j y hy;have ny:=C5.look hy;have Fj:=C5.ob;have Sb:=Qc Fj;have bx:=C5.VD;have nG:=Qc bx;have N4:=(C5.JF j y hy).1;have DM:=Qc N4;have G5:=(C5.JF j y hy).2;have QT:=JX (show k<4611686018427387904 by omega);have nb:L.le j≠h.length:=λe=>by rw[e,nD]at G5;cases G5
   have nx:L.le j≠h2.length:=λe=>by rw[e,nF]at G5;cases G5
   have B6:∀s,(H5.set (L.le j) ⟨.one,0,60,1,λ_=>Vd (qD L.lq y) s⟩)[L.le j]? = some ⟨.one,0,60,1,λ_=>Vd (qD L.lq y) s⟩:=λs=>Qs DM;have Ds:∀s,(H5.set (L.le j) s)[h2.length]? = some (zW x):=λs=>(Qk nx).trans Fk;refine Qe hb ?_;simp only[go_sem,Qa,dk,Qj,<- hj,Fj,Sb,bx,nG,ny];apply QH hb [0,1,2,3,4,5,6,7,8,9,1010];simp only[go_sem,Qa,N4,DM,Fk,N7,ex,NL];have hT1:=Qy0 y.sh AM.sh (WY (y.Jz+x.len.toNat)) (NJ _);have Fl:=Qaz y.cp AM.cp (WY (y.Jz+x.len.toNat)) (NJ _);apply QH hb [0,1,2,3,4,5,6,7,8,1009,10,11,1012];simp only[go_sem,Qa,B6,DM];refine Vj hb QvG rfl ?_ hT1 (Qn.flat rfl) rfl λd h hR=>?_
   ·simp only[go_sem,Qa,B6,DM]
   obtain⟨rfl,rfl⟩:=hR;refine Zr hb ?_;simp only[go_sem,Qa,B6,DM];apply QH hb [0,1,2,3,4,5,6,7,8,1009,10,11,1012];simp only[go_sem,Qa,B6,DM];refine Vj hb tm rfl ?_ Fl (Qn.flat rfl) rfl λd h hR=>?_
   ·simp only[go_sem,Qa,B6,DM]
   obtain⟨rfl,rfl⟩:=hR;refine Zr hb ?_;simp only[go_sem,Qa,B6,DM];have C6:=C5.yu hy (DN x.len.toNat) (λ_=>rfl) (λ_=>rfl) (Qlf AM _);have D6:=ZO.set (own:=xI) (h:=H5) (qt (qD L.lq y) (DN x.len.toNat y)) (l:=L.le j) (by rw[G5];simp);refine⟨Qj,_,Qp.frame (by simp only[go_sem,QT]),bu.of (by rw[Jo];exact C6) (D5.trans D6) nD (by rw[Qk nb];exact BZ) nF (by rw[Qk nx];exact Fk)⟩
  have Ju:k=U.length:=by omega
  have dk:=QN Qj;rw[Ju,YO]at C5 I5 kT kA;obtain⟨M5,Sa⟩:∃M5,M5=U.foldl (V0 x.len.toNat) M3:=⟨_,rfl⟩;obtain⟨n5,Sg,Qll,QBw,_⟩:=Qlh x.len.toNat U M3 id QBt;rw[<- Sa]at C5 I5 kT kA Sg;have hl5:n5.c.leaf=true:=by rw[Qll,Qlj];exact hl
  have ny:=C5.look Sg;have Fj:=C5.ob;have Sb:=Qc Fj;have N4:=(C5.JF id n5 Sg).1;have DM:=Qc N4;refine Qe hb ?_;simp only[go_sem,Qa,dk];refine Qe hb ?_;simp only[go_sem,Qa,Fk,N7];refine Jh hb QvH (QA9 C5 I5 Sg hl5 x.len (by have:=Xg.1;omega) (by have:=Xg.2;omega) r) λd H6 hR=>?_;obtain⟨Qln,C6,D6⟩:=hR;have I6:=I5.VS Sg x.len r;obtain⟨kT6,kA6,_⟩:=Se M5 id x.len r;obtain⟨n6,bA,Qlq,QBx⟩:=QBp M5 id x.len r id Sg;obtain⟨M6,hM6⟩:∃M6,M6=VS M5 id x.len r:=⟨_,rfl⟩;rw[<- hM6]at C6 I6 kT6 kA6 bA;have AB:H6[h.length]? = some wF:=(D6.keep _ nz nD).trans BZ;have nH:Qln h.length=.no:=(D6.same _ nz).trans nD;have Ds:H6[h2.length]? = some (zW x):=(D6.keep _ N7 nF).trans Fk;have QbG:Qln h2.length=.no:=(D6.same _ N7).trans nF;have nI:=Qc AB;have oE:=Qc Ds;have D06:=D5.trans D6;have Dy:n6.c.leaf=true:=by rw[Qlq];exact hl5
  have hq6:n6.q=XG n.q:=by rw[QBx,QBw,QBu]
  have hc6:n6.c=n.c:=by rw[Qlq,Qll,Qlj]
  have wx:=C6.ob;have zO:=Qc wx;have B6:=(C6.JF id n6 bA).1;have QbH:=Qc B6;have QBz:qD L.lq n6=.ptr (L.lq id) 0 0 0:=by unfold qD;rw[Qf Dy,hc6,RZ]
  rw[QBz]at B6;obtain⟨kq6,QMb,hQ6⟩:=C6.Wy id n6 bA Dy;have nJ:n6.q.l.length=q.length:=by rw[hq6];unfold XG;rw[Sf];rfl
  have WZ:QF M6.T id=some n6.c:=I6.some bA;have YT:Xr (Z1 M now) id r=Wl (if (XG n.q).l=[] then Xa M6 id else M6) (up (Z1 M now).T id):=by
   unfold Xr;simp only[QbC,Sf,List.headD_cons];rw[show up (Z1 M now).T id=U by rw[t2];exact hU.symm,<- jz,<- Sa,<- hM6]
  have oC:M6.T=M.T:=by rw[kT6,kT,Qli]
  have hA6:M6.A=M.A:=by rw[kA6,kA,QBs]
  refine Qe hb ?_;simp only[go_sem,Qa,wx,zO,B6,QbH];refine Z8 hb Gm rfl ?_ (IZ hQ6.toR) rfl λd hR=>?_
  ·simp only[go_sem,Qa,wx,zO,B6,QbH,nJ]
  subst hR;refine Qe hb ?_;simp only[go_sem,Qa,wx,zO,B6,QbH,nJ];have mm:∀B7 H8,ZS B7 H8 p L (Xr (Z1 M now) id r)->Qy (Xr (Z1 M now) id r)->ZO own h B7 H8->H8[h.length]? = some wF->B7 h.length=.no ->
    ∃own' M',ZS own' (H8.set h.length ⟨.one,0,8,1,λ_=>zV id x r⟩) p L M'/\Qy M'/\ZO own h own' (H8.set h.length ⟨.one,0,8,1,λ_=>zV id x r⟩)/\bw M now (.tup [.agg (zV id x r),QJ true]) M':=λB7 H8 C8 I8 D8 Lp bB=>
   ⟨B7,_,C8.loc bB _,I8,D8.Fi (QB _) _,by
    have:=AP id r B7 H8 hp C8 I8 D8;rwa [ZY,Sf,List.headD_cons]at this⟩
  have hqz:(XG n.q).l=q:=by unfold XG;rw[Sf];rfl
  rw[hqz]at YT;cases nK:q with
  | cons z q2=>
   have dz:(((q2.length+1:Nat):Int)==0)=false:=J5 (by omega);rw[nK,Qd (by simp)]at YT;have ZF:=Qbj C6 I6 id;rw[oC,<- t2,<- YT]at ZF;simp only[go_sem,Qa,nK,dz];refine Jh hb tj ZF λd H8 hR=>?_;obtain⟨B7,C8,I8,D8⟩:=hR;have Lp:H8[h.length]? = some wF:=(D8.keep _ nI nH).trans AB;have bC:H8[h2.length]? = some (zW x):=(D8.keep _ oE QbG).trans Ds;have bB:B7 h.length=.no:=(D8.same _ nI).trans nH;have bD:=Qc Lp;have QbJ:=Qc bC;have QbK:∀o,(H8.set h.length o)[h.length]? = some o:=λo=>Qs bD;refine Qe hb ?_;simp only[go_sem,Qa,Lp,bD,bC,QbJ,QbK];exact mm B7 H8 C8 I8 (D06.trans D8) Lp bB
  | nil=>
   rw[nK,Qf rfl]at YT;simp only[go_sem,Qa,nK];refine Jh hb QvI (QBh C6 I6 bA Dy (by rw[hc6,hA6];exact Xi) (QBo I6.tree WZ Dy _)) λd H7 hR=>?_;obtain⟨jA,C7,I7,D7⟩:=hR;have hb7:H7[h.length]? = some wF:=(D7.keep _ nI nH).trans AB;have hx7:H7[h2.length]? = some (zW x):=(D7.keep _ oE QbG).trans Ds;have hn7:jA h.length=.no:=(D7.same _ nI).trans nH;have QBD:jA h2.length=.no:=(D7.same _ oE).trans QbG;have Qlx:=Qc hb7;have QBE:=Qc hx7;have ZF:=Qbj C7 I7 id;have hT7:(Xa M6 id).T=M.T:=by
    unfold Xa;split
    ·rw[(Ll _ _).1];exact oC
    ·exact oC
   rw[hT7,<- t2,<- YT]at ZF;apply QC hb;refine Jh hb tj ZF λd H8 hR=>?_;obtain⟨B7,C8,I8,D8⟩:=hR;have Lp:H8[h.length]? = some wF:=(D8.keep _ Qlx hn7).trans hb7;have bC:H8[h2.length]? = some (zW x):=(D8.keep _ QBE QBD).trans hx7;have bB:B7 h.length=.no:=(D8.same _ Qlx).trans hn7;have bD:=Qc Lp;have QbJ:=Qc bC;have QbK:∀o,(H8.set h.length o)[h.length]? = some o:=λo=>Qs bD;refine Qe hb ?_;simp only[go_sem,Qa,Lp,bD,bC,QbJ,QbK];exact mm B7 H8 C8 I8 ((D06.trans D7).trans D8) Lp bB
structure XK (c:Cf):Prop where
 t1:1<=c.t
 t2:c.t<=65536
 l1:1<=c.JK
 l2:c.JK<=16384
def Ve(M:Qq)(id:Int)(x:Pk):Qq:={ M with N:=Vm M.N id λm=>{ m with q:=Yj (QD M id).c.Z5 (QD M id).c.bytes (QD M id).q x } }
def vv(M:Qq)(a:Nat):Qq:={ M with acc:=a }
def V5(M:Qq)(cls:Int)(x:Pk):Int:=
 match Ql M.N cls with
 | none=>23
 | some n=>if n.c.leaf=false then 29 else if x.len<1\/M.lk.JK<x.len then 26 else if 1099511627776<M.acc+x.len.toNat then 28
  else if wv n.c.Z5 n.c.bytes n.q x=true then 30 else 0
def VT(M:Qq)(now:Nat)(cls:Int)(x:Pk):Qq:=
 if V5 M cls x=30 then Ve M cls x
 else if V5 M cls x=0 then (if (QD M cls).q.l=[] then YG (vv (Ve M cls x) (M.acc+x.len.toNat)) now cls x.len else vv (Ve M cls x) (M.acc+x.len.toNat))
 else M
def Qy.Ve{M}(I:Qy M)(id:Int)(x):Qy (Ve M id x):=I.Vm id (λm=>{ m with q:=Yj (QD M id).c.Z5 (QD M id).c.bytes (QD M id).q x }) λ_=>rfl
def Qy.vv{M}(I:Qy M){a}(h:a<=1099511627776):Qy (vv M a):=⟨I.tree,I.yN,I.to,I.nodes,I.Yl,I.ks,I.B2,I.wC,I.wD,I.Qh,h⟩
def Qly(M:Qq)(now:Nat):(Z1 M now).lk=M.lk/\(Z1 M now).acc=M.acc:=by unfold Z1;split<;>exact⟨rfl,rfl⟩
def Y3(M:Qq)(now:Nat)(cls:Int)(x:Pk):Int:=if xG M now=true then V5 (Z1 M now) cls x else 27
def Jr(M:Qq)(now:Nat)(cls:Int)(x:Pk):Qq:=if xG M now=true then VT (Z1 M now) now cls x else M
def QBG{own}{h}{p}{L}{M:Qq}(C:ZS own h p L M)(I:Qy M)(K:XK M.lk)(now)(WK:now<18446744073709551616)(cls)(x)
  (hA:∀n,Ql M.N cls=some n->n.c.leaf=true->n.q.l=[]->cls ∉ M.A) :
  QK prog 114 h [.ptr p 0 0 0,u64 now,Qb cls,.agg x.cells] (λd h'=>∃own' M',ZS own' h' p L M'/\Qy M'/\ZO own h own' h' /\
   d=Qb (Y3 M now cls x)/\M'=Jr M now cls x):=by
 have ho:=C.ob;have C0:=C.RW [zW x];have D0:=ZO.app own h [zW x] .no;have AH:QX own h .no h.length=.no:=by unfold QX;rw[Qf (QB _)]
 have ZG:(h++[zW x])[h.length]? = some (zW x):=by rw[Kx rfl];rfl
 refine Q6 Qi 200 func114 rfl ntmps114 results114 rfl λbase w pl hb=>?_;have Qg:=Qc ho;simp only[go_sem,Qa,ho,Qg];refine Jh hb QhO (Qk1 C0 now) λd h1 hR=>?_;obtain⟨rfl,C1,D1⟩:=hR;have I1:=B5 I now;obtain⟨t1,t2,t3⟩:=G6 M now;obtain⟨t4,t5⟩:=Qly M now;have AO:=D0.trans D1;have KL:h1[h.length]? = some (zW x):=(D1.keep h.length (by simp) AH).trans ZG;have vu:=Qc KL;obtain⟨Ji,N6⟩:∃o,o=QX own h .no:=⟨_,rfl⟩;rw[<- N6]at AO C1 AH;have ZI:=C1.ob;have KP:=Qc ZI;have jQ:=C1.VD;have nC:=Qc jQ;refine Qe hb ?_;cases ht:xG M now with
 | false=>
  have hM:Z1 M now=M:=by unfold Z1;rw[ht];rfl
  rw[hM]at C1;simp only[go_sem,Qa,ht];exact⟨Ji,M,C1,I,AO,by rw[show Y3 M now cls x=27 from Qd (by rw[ht];exact ky)],(Qd (by rw[ht];exact ky)).symm⟩
 | true=>
  have Ap:∀own' H M',ZS own' H p L M'->Qy M'->ZO own h own' H->M'=VT (Z1 M now) now cls x->∀e,V5 (Z1 M now) cls x=e->∃own' M',ZS own' H p L M'/\Qy M'/\ZO own h own' H/\Qb e=Qb (Y3 M now cls x)/\M'=Jr M now cls x:=
   λown' H M' h1 h2 h3 h4 e he=>⟨own',M',h1,h2,h3,by rw[<- he];unfold Y3;rw[Qf ht],by unfold Jr;rw[Qf ht];exact h4⟩
  obtain⟨M1,hM1⟩:∃M1,M1=Z1 M now:=⟨_,rfl⟩;rw[<- hM1]at C1 I1 t1 t2 t3 t4 t5 Ap ZI;cases hf:Ql M1.N cls with
  | none=>
   have hk:=C1.XI.at_ cls;rw[hf,zq]at hk;have hE:V5 M1 cls x=23:=by unfold V5;rw[hf]
   have hP:VT M1 now cls x=M1:=by unfold VT;rw[hE];rfl
   simp only[go_sem,Qa,ht,ZI,KP,jQ,nC,hk];exact Ap Ji h1 M1 C1 I1 AO hP.symm 23 hE
  | some n=>
   have hk:=C1.look hf;have DK:=(C1.JF cls n hf).1;have R4:=Qc DK;have RZ:=Qy.id hf;simp only[go_sem,Qa,ht,ZI,KP,jQ,nC,hk,DK,R4];cases hl:n.c.leaf with
   | false=>
    have hE:V5 M1 cls x=29:=by unfold V5;rw[hf];simp[hl]
    have hP:VT M1 now cls x=M1:=by unfold VT;rw[hE];rfl
    simp only[go_sem,Qa];exact Ap Ji h1 M1 C1 I1 AO hP.symm 29 hE
   | true=>
    have bE:=KL;have zx:∀o,(h1.set h.length o)[h.length]? = some o:=λo=>Qs vu;obtain⟨kq,NW,hQ⟩:=C1.Wy cls n hf hl;have G3:qD L.lq n=.ptr (L.lq cls) 0 0 0:=by unfold qD;rw[Qf hl,RZ]
    rw[G3]at DK;have ZY:QD M1 cls=n:=by unfold QD;rw[hf];rfl
    have K1:XK M1.lk:=by rw[t4];exact K
    have ZB:=K1.l1;have Jx:=K1.l2;have QBH:=I1.acc;have fE:(x.len<1\/M1.lk.JK<x.len)->V5 M1 cls x=26:=λh=>by unfold V5;rw[hf];simp only[hl];rw[Qd (by simp),Qf h]
    have fP:(x.len<1\/M1.lk.JK<x.len)->VT M1 now cls x=M1:=λh=>by unfold VT;rw[fE h];rfl
    cases d1:decide (x.len<1) with
    | true=>
     have:=Wc d1;simp only[go_sem,Qa];apply QH hb [0,1,2,3,4,5,6,7,8,9,10,11,12,13];simp only[go_sem,Qa,KL,vu,ZI,KP,d1];exact Ap Ji h1 M1 C1 I1 AO (fP (.inl this)).symm 26 (fE (.inl this))
    | false=>
     have x1:1<=x.len:=by have:=Ef d1;omega
     cases d2:decide (M1.lk.JK<x.len) with
     | true=>
      have:=Wc d2;simp only[go_sem,Qa];apply QH hb [0,1,2,3,4,5,6,7,8,9,10,11,12,13];simp only[go_sem,Qa,KL,vu,ZI,KP,d1,d2];exact Ap Ji h1 M1 C1 I1 AO (fP (.inr this)).symm 26 (fE (.inr this))
     | false=>
      have x2:x.len<=M1.lk.JK:=by have:=Ef d2;omega
      have hx:IX x:=⟨x1,by omega⟩;have tU:(x.len.toNat:Int)=x.len:=Ea (by omega);obtain⟨a,ha⟩:∃a,a=x.len.toNat:=⟨_,rfl⟩;rw[<- ha]at tU;have ex:IntKind.u64.wrap x.len=(a:Int):=by rw[ha];exact NK (by omega) (by omega)
      have ew:IntKind.u64.wrap ((M1.acc:Int)+(a:Int))=((M1.acc+a:Nat):Int):=by rw[NK (by omega) (by omega)];omega
      have ge:¬ (x.len<1\/M1.lk.JK<x.len):=by omega
      cases d3:decide ((1099511627776:Int)<((M1.acc+a:Nat):Int)) with
      | true=>
       have d3':=Wc d3;have hE:V5 M1 cls x=28:=by unfold V5;rw[hf];simp only[hl];rw[Qd (by simp),Qd ge,Qf (by rw[<- ha];omega)]
       have hP:VT M1 now cls x=M1:=by unfold VT;rw[hE];rfl
       simp only[go_sem,Qa];apply QH hb [0,1,2,3,4,5,6,7,8,9,10,11,12,13];simp only[go_sem,Qa,KL,vu,ZI,KP,d1,d2];apply QH hb [0,1,2,3,4,5,6,7,8,9];simp only[go_sem,Qa,KL,vu,ZI,KP,ex,ew,d3];exact Ap Ji h1 M1 C1 I1 AO hP.symm 28 hE
      | false=>
       have d3':=Ef d3;simp only[go_sem,Qa];apply QH hb [0,1,2,3,4,5,6,7,8,9,10,11,12,13];simp only[go_sem,Qa,KL,vu,ZI,KP,d1,d2];apply QH hb [0,1,2,3,4,5,6,7,8,9];simp only[go_sem,Qa,KL,vu,ZI,KP,ex,ew,d3];apply Va [5] hb [0,1,2,3,4,1005,6] [];simp only[go_sem,Qa,KL,vu,DK,R4];refine xv hb Qvl (QyQ hQ x hx) λd h2 hR=>?_;obtain⟨rfl,Q2,s2⟩:=hR;have VQ:QX Ji h1 (.zS cls) h.length=.no:=by rw[Js vu];exact AH
       have Jb:h2[h.length]? = some (zW x):=(s2.keep h.length vu (by rw[AH];simp)).trans KL;have wG:=Qc Jb;have C2:=C1.zS hf hl NW Q2 s2;have D2:=AO.trans (ZO.of (t:=.zS cls) (by simp) s2);have oA:{ M1 with N:=Vm M1.N cls λm=>{ m with q:=Yj kq n.c.bytes n.q x } }=Ve M1 cls x:=by unfold Ve;rw[ZY,NW]
       rw[oA]at C2;have I2:=I1.Ve cls x;have wc:∀b,wv kq n.c.bytes n.q x=b->V5 M1 cls x=if b=true then 30 else 0:=λb hb=>by
        unfold V5;rw[hf];simp only[hl];rw[Qd (by simp),Qd ge,Qd (by rw[<- ha];omega),NW,hb]
       generalize QX Ji h1 (.zS cls)=JC at C2 D2 VQ;refine Zr hb ?_;cases eT:wv kq n.c.bytes n.q x with
       | true=>
        have hE:V5 M1 cls x=30:=wc _ eT;have hP:VT M1 now cls x=Ve M1 cls x:=by unfold VT;rw[hE];rfl
        simp only[go_sem,Qa];exact Ap JC h2 _ C2 I2 D2 hP.symm 30 hE
       | false=>
        have hE:V5 M1 cls x=0:=wc _ eT;have KJ:=C2.ob;have YH:=Qc KJ;have QBJ:(Ve M1 cls x).acc=M1.acc:=rfl;have QBK:(Ve M1 cls x).lk=M1.lk:=rfl;have nN:(Ve M1 cls x).Qh=M1.Qh:=rfl;have C3:ZS JC (h2.set p (vp M1.lk L.t L.b L.o L.v L.m M1.Qh (M1.acc+a))) p L (vv (Ve M1 cls x) (M1.acc+a)):=C2.Qh M1.Qh (M1.acc+a);have I3:Qy (vv (Ve M1 cls x) (M1.acc+a)):=I2.vv (by omega);have D3:=D2.trans (ZO.set (own:=JC) (h:=h2) (l:=p) (vp M1.lk L.t L.b L.o L.v L.m M1.Qh (M1.acc+a)) (by rw[C2.op];decide));have hnp:p≠h.length:=λe=>by have:=C2.op;rw[e,VQ]at this;cases this
        have zU:(h2.set p (vp M1.lk L.t L.b L.o L.v L.m M1.Qh (M1.acc+a)))[h.length]? = some (zW x):=(Qk hnp).trans Jb;have DL:=Qc zU;generalize oB:h2.set p (vp M1.lk L.t L.b L.o L.v L.m M1.Qh (M1.acc+a))=H3 at C3 D3 zU DL;have QbF:h2.set p ⟨.one,0,9,1,λ_=>[.raw (.int .i64 M1.lk.t),.raw (.int .i64 M1.lk.JK),.ptr L.t 0 0 0,.mref L.b 0,.ptr L.o 0 0 0,.ptr L.v 0 0 0,.mref L.m 0,.raw (.int .u64 (M1.Qh:Nat)),.raw (.int .u64 ((M1.acc+a:Nat):Int))]⟩=H3:=oB;have BN:Ql (vv (Ve M1 cls x) (M1.acc+a)).N cls=some { n with q:=Yj kq n.c.bytes n.q x }:=by
         show Ql (Ve M1 cls x).N cls=_;unfold Ve;dsimp only;rw[ZY,NW,vq (f:=λm:Nd=>{ m with q:=Yj kq n.c.bytes n.q x }) (λ_=>rfl) cls,Qf rfl,hf,K0]
        have yQ:=(C3.JF cls _ BN).1;have QBM:qD L.lq { n with q:=Yj kq n.c.bytes n.q x }=.ptr (L.lq cls) 0 0 0:=by unfold qD;rw[Qf hl,RZ]
        rw[QBM]at yQ;have xH:=Qc yQ;obtain⟨kq3,QMd,hQ3⟩:=C3.Wy cls _ BN hl;simp only[go_sem,Qa];apply QH hb [0,1,2,3,4,5,6,7,8,9,1010];simp only[go_sem,Qa,Jb,wG,KJ,YH,ex,ew,QBJ,QBK,nN,QbF,yQ,xH];have Zk:(Yj kq n.c.bytes n.q x).l.length=n.q.l.length+1:=by unfold Yj;rw[Qd (by rw[eT];exact ky)];simp
        have nJ:({ n with q:=Yj kq n.c.bytes n.q x }:Nd).q.l.length=n.q.l.length+1:=Zk;have XJ:=C3.ob;have j9:=Qc XJ;refine Z8 hb Gm rfl ?_ (IZ hQ3.toR) rfl λd hR=>?_
        ·simp only[go_sem,Qa,zU,DL,XJ,j9,yQ,xH,Zk]
        subst hR;refine Qe hb ?_;simp only[go_sem,Qa,zU,DL,XJ,j9,yQ,xH,Zk];cases hq:n.q.l with
        | cons y q=>
         have dz:(((q.length+1+1:Nat):Int)==1)=false:=J5 (by omega);have hP:VT M1 now cls x=vv (Ve M1 cls x) (M1.acc+a):=by unfold VT;rw[hE,ZY,hq,<- ha];rfl
         simp only[go_sem,Qa,Vh,dz];exact Ap JC H3 _ C3 I3 D3 hP.symm 0 hE
        | nil=>
         have dz:(((0+1:Nat):Int)==1)=true:=rfl;have Jy:JR (vv (Ve M1 cls x) (M1.acc+a)) cls=false:=by
          rw[jK];intro h9;have h8:=(nA I1.tree (I1.some hf) hl M1.A).1 h9;rw[t3]at h8;exact hA n (by rw[<- t1];exact hf) hl hq h8
         have hP:VT M1 now cls x=YG (vv (Ve M1 cls x) (M1.acc+a)) now cls x.len:=by unfold VT;rw[hE,ZY,hq,<- ha];rfl
         simp only[go_sem,Qa,List.length_nil,dz];simp only[go_sem,Qa,zU,DL];refine Jh hb Qvm (QBc C3 I3 BN hl now WK x.len (by omega) Jy) λd h4 hR=>?_;obtain⟨W3,C4,I4,D4⟩:=hR;apply QC hb;exact Ap W3 h4 _ C4 I4 (D3.trans D4) hP.symm 0 hE
@[go_sem] def nO(c:Cf):Ob:=⟨.one,0,2,1,λ_=>c.cells⟩
def M0(c:Cf):Qq:=⟨c,[],[],[],[],[],λid=>decide (id=0),λ_=>[],0,0⟩
def nP(own:Nat->Tag)(b:Nat)(l:Nat):Tag:=
 if l<b then own l else if l<b+2 then .tree else if l<b+5 then .lv else if l<b+8 then .YE 0 else if l=b+8 then .mk else if l=b+9 then .Cn else if l=b+10 then .sc else .on
def QBO(h:List Ob):Wf prog 39 h [] (λd g=>d=.ptr (h.length+1) 0 0 0/\g=[QS .i64 0 [],⟨.one,0,1,1,λ_=>[.mref h.length 0]⟩]):=
 QK.mono (QyB (h.map Ob.ro)) λd h' ⟨h1,h2⟩=>⟨_,h2,by rw[h1,Kl],by rw[Kl]⟩
def xJ(b:Nat):List Ob:=[yC .nil,QS .i64 0 [],GJ b (b+1)]
def QBP(h:List Ob):Wf prog 98 h [] (λd g=>d=.ptr (h.length+2) 0 0 0/\g=xJ h.length):=by
 have:QK prog 98 (h.map Ob.ro) [] (λd h'=>d=.ptr ((h.map Ob.ro).length+2) 0 0 0/\h'=h.map Ob.ro++xJ (h.map Ob.ro).length):=by
  generalize h.map Ob.ro=h;refine Q6 Qi 200 func98 rfl ntmps98 results98 rfl λbase w pl hb=>?_;simp only[go_sem,Qa];refine qZ hb QhM (Qjv h) λd h hR=>?_;obtain⟨rfl,rfl⟩:=hR;apply QC hb;rfl
 exact QK.mono this λd h' ⟨h1,h2⟩=>⟨_,h2,by rw[h1,Kl],by rw[Kl]⟩
def Qlz(h:List Ob):Wf prog 99 h [] (λd g=>d=.ptr (h.length+2) 0 0 0/\g=xJ h.length):=by
 have:QK prog 99 (h.map Ob.ro) [] (λd h'=>d=.ptr ((h.map Ob.ro).length+2) 0 0 0/\h'=h.map Ob.ro++xJ (h.map Ob.ro).length):=by
  generalize h.map Ob.ro=h;refine Q6 Qi 200 func99 rfl ntmps99 results99 rfl λbase w pl hb=>?_;simp only[go_sem,Qa];refine qZ hb QhM (Qjv h) λd h hR=>?_;obtain⟨rfl,rfl⟩:=hR;apply QC hb;rfl
 exact QK.mono this λd h' ⟨h1,h2⟩=>⟨_,h2,by rw[h1,Kl],by rw[Kl]⟩
def QbM{H:List Ob}{S}{b}(h0:H[b]? = some (yC .nil))(h1:H[b+1]? = some (QS .i64 0 []))(h2:H[b+2]? = some (GJ b (b+1)))(s0:S b)(s1:S (b+1))(s2:S (b+2)):WX S H (b+2) []:=
 ⟨b,b+1,.nil,0,[],h2,⟨h0,trivial,rfl,by simp[Tr.QR],by simp[Tr.QR],by simp[VB]⟩,h1,YW.nil,by simp,by omega,by omega,by omega,by simp[Tr.QR],by simp[Tr.QR],s2,s0,s1,by simp[Tr.QR]⟩
def QlA:VR []:=⟨TreeInv.nil,by simp,by simp,by simp,by simp⟩
def QbN(c):Qy (M0 c):=
 ⟨QlA,λc hc=>by simp[M0]at hc,rfl,rfl,λa ha=>by simp[M0]at ha,λid=>by simp[M0,Ql],λx hx=>by simp[M0]at hx,λid x hx=>by simp[M0]at hx,λid x hx=>by simp[M0]at hx,by simp[M0],by simp[M0]⟩
def QBQ{own}{h}(c):
  QK prog 54 h [.agg c.cells] (λd h'=>(XK c/\∃own' L p,d=.tup [.ptr p 0 0 0,Qb 0]/\ZS own' h' p L (M0 c)/\Qy (M0 c)/\ZO own h own' h')\/(¬ XK c/\d=.tup [.raw (.pointer none),Qb 1]/\∃g,h'=h++g)):=by
 have ZG:∀g,(h++nO c::g)[h.length]? = some (nO c):=λg=>Kx rfl;by_cases K:XK c
 ·have d1:decide (c.t<1)=false:=QN (by have:=K.t1;omega);have d2:decide (65536<c.t)=false:=QN (by have:=K.t2;omega);have d3:decide (c.JK<1)=false:=QN (by have:=K.l1;omega);have d4:decide (16384<c.JK)=false:=QN (by have:=K.l2;omega);refine Q6 Qi 200 func54 rfl ntmps54 results54 rfl λbase w pl hb=>?_;simp only[go_sem,Qa,Qa,d1,d2,d3,d4];apply QH hb [0,1001,1003,1005,1004,1006,7,1002,8,1009,10];simp only[go_sem,Qa];refine Gl hb Quu rfl ?_ (QBO _) rfl λd h hR=>?_
  ·simp only[go_sem,Qa]
  obtain⟨rfl,rfl⟩:=hR;apply XF hb;refine Gl hb QuQ rfl ?_ (QBP _) rfl λd h hR=>?_
  ·simp only[go_sem,Qa,xJ]
  obtain⟨rfl,rfl⟩:=hR;refine Zr hb ?_;simp only[go_sem,Qa,xJ];refine Gl hb QhC rfl ?_ (Qlz _) rfl λd h hR=>?_
  ·simp only[go_sem,Qa,xJ]
  obtain⟨rfl,rfl⟩:=hR;refine Zr hb ?_;simp only[go_sem,Qa,xJ];refine Qzh BE hb rfl rfl rfl rfl (Vr (k:=9) rfl) ?_;apply XF hb;obtain⟨cm,em,aR,Xk⟩:=Vl.nil.set .i64 0 0 (.ptr (h.length+6+2) 0 0 0);obtain⟨G,hG⟩:∃G:List Ob,G=[nO c,QS .i64 0 [],⟨.one,0,1,1,λ_=>[.mref (h.length+1) 0]⟩,yC .nil,QS .i64 0 [],GJ (h.length+3) (h.length+3+1),yC .nil,QS .i64 0 [],GJ (h.length+6) (h.length+6+1),J2 .i64 0 [] 0 (.ptr (h.length+6+2) 0 0 0),QS .i64 0 [],⟨.one,0,9,1,λ_=>[Qb c.t,Qb c.JK,.ptr (h.length+1+1) 0 0 0,.mref (h.length+10) 0,.raw (.pointer none),.ptr (h.length+3+2) 0 0 0,.mref (h.length+9) 0,u64 0,u64 0]⟩]:=⟨_,rfl⟩;have RP:G.length=12:=by rw[hG];rfl
  have gk:∀k o,G[k]? = some o->(h++G)[h.length+k]? = some o:=λk o e=>by rw[Kf (by omega),eL];exact e
  have ht:=gk 2 _ (by rw[hG];rfl);have hm:=gk 1 _ (by rw[hG];rfl);have hs:=gk 11 _ (by rw[hG];rfl);have Lq:=Qc hs;have R:XY (h++G) (h.length+2) []:=Wv.toR (S:=λ_=>True) ⟨h.length+1,0,[],ht,hm,VW.nil,trivial,trivial⟩;have ha:=Qjp R QlA;rw[hG]at ha;refine VH hb QhD rfl ?_ ha rfl λd h' hR=>?_
  ·simp only[go_sem,Qa]
  rw[<- hG]at hR;obtain⟨rfl,hO,g,rfl⟩:=hR;refine Qe hb ?_;have JL:((h++G)++g)[h.length+11]? = _:=(Qx Lq).trans hs;have B8:=Qc JL;have hGL:(h++G).length=h.length+12:=by rw[Zj,RP]
  simp only[go_sem,JL,B8];obtain⟨QBR,Ry⟩:∃o,o=QX own h .no:=⟨_,rfl⟩;obtain⟨Ji,G7⟩:∃o,o=nP QBR (h.length+1):=⟨_,rfl⟩;have tg:∀k,k<12->Ji (h.length+k)=if k<1 then .no else if k<3 then .tree else if k<6 then .lv else if k<9 then .YE 0 else if k=9 then .mk else if k=10 then .Cn else .sc:=λk hk=>by
   rw[G7];unfold nP;by_cases k1:k<1
   ·rw[Qf (by omega),Qf k1,Ry];unfold QX;rw[Qf (by omega)]
   ·rw[Qd (by omega),Qd k1];by_cases k2:k<3
    ·rw[Qf (by omega),Qf k2]
    ·rw[Qd (by omega),Qd k2];by_cases k3:k<6
     ·rw[Qf (by omega),Qf k3]
     ·rw[Qd (by omega),Qd k3];by_cases k4:k<9
      ·rw[Qf (by omega),Qf k4]
      ·rw[Qd (by omega),Qd k4];by_cases k5:k=9
       ·rw[Qf (by omega),Qf k5]
       ·rw[Qd (by omega),Qd k5];by_cases k6:k=10
        ·rw[Qf (by omega),Qf k6]
        ·rw[Qd (by omega),Qd k6,Qf (by omega)]
  have tgo:∀l,h.length+12<=l->Ji l=.on:=λl hl=>by
   rw[G7];unfold nP;rw[Qd (by omega),Qd (by omega),Qd (by omega),Qd (by omega),Qd (by omega),Qd (by omega),Qd (by omega)]
  have tgn:∀l,l<h.length->Ji l=own l:=λl hl=>by
   rw[G7];unfold nP;rw[Qf (by omega),Ry];exact Js hl
  generalize hS:(⟨.one,0,9,1,_⟩:Ob)=S0;have Fm:∀k o,k<11->G[k]? = some o->((h++G++g).set (h.length+11) S0)[h.length+k]? = some o:=λk o hk e=>(Qk (by omega)).trans ((Qx (by omega)).trans (gk k o e));have g1:=Fm 1 _ (by omega) (by rw[hG];rfl);have g2:=Fm 2 _ (by omega) (by rw[hG];rfl);have g3:=Fm 3 _ (by omega) (by rw[hG];rfl);have g4:=Fm 4 _ (by omega) (by rw[hG];rfl);have g5:=Fm 5 _ (by omega) (by rw[hG];rfl);have g6:=Fm 6 _ (by omega) (by rw[hG];rfl);have g7:=Fm 7 _ (by omega) (by rw[hG];rfl);have g8:=Fm 8 _ (by omega) (by rw[hG];rfl);have g9:=Fm 9 _ (by omega) (by rw[hG];rfl);have g10:=Fm 10 _ (by omega) (by rw[hG];rfl);have g11:((h++G++g).set (h.length+11) S0)[h.length+11]? = some S0:=Qs B8;rw[aR]at g9;have ta:∀id n,Ql (M0 c).N id=some n->False:=by intro id n hn;cases hn
  refine .inl ⟨K,Ji,⟨h.length+2,h.length+10,(h++G).length+3,h.length+5,h.length+9,0,cm,[],em,λ_=>0,λ_=>0,λ_=>h.length+8⟩,h.length+11,rfl,⟨?_,(tg 11 (by omega)).trans rfl,⟨h.length+1,0,[],g2,g1,VW.nil,(tg 2 (by omega)).trans rfl,(tg 1 (by omega)).trans rfl⟩,g10,Vl.nil.to λk=>rfl,(tg 10 (by omega)).trans rfl,λid n hn=>(ta id n hn).elim,λid n hn=>(ta id n hn).elim,?_,QbM (S:=λl=>Ji l=.lv) g3 g4 g5 ((tg 3 (by omega)).trans rfl) ((tg 4 (by omega)).trans rfl) ((tg 5 (by omega)).trans rfl),g9,Xk.to λk=>?_,(tg 9 (by omega)).trans rfl,λid Zg=>?_,λid n hn=>(ta id n hn).elim⟩,QbN c,⟨tgn,?_,?_⟩⟩
  ·rw[g11,<- hS];rfl
  ·exact hO.step λl hl ho=>⟨tgo l (by omega),Qk (by omega)⟩
  ·by_cases hk:k=0
   ·subst hk;rfl
   ·show (if k=0 then _ else _)=if decide (k=0)=true then _ else _;rw[Qd hk,Qd (by simpa using hk)]
  ·have:id=0:=by simpa[M0] using Zg
   subst this;exact QbM (S:=λl=>Ji l=.YE 0) g6 g7 g8 ((tg 6 (by omega)).trans rfl) ((tg 7 (by omega)).trans rfl) ((tg 8 (by omega)).trans rfl)
  ·intro l hl Jy;exact(Qk (by omega)).trans ((Qx (by omega)).trans (Qx hl))
  ·simp only[KD,Zj];omega
 ·have fin:∀d,d=D.tup [.raw (.pointer none),Qb 1]->∃g,h++[nO c]=h++g:=λ_ _=>⟨_,rfl⟩;cases d1:decide (c.t<1) with
  | true=>
   refine Q6 Qi 200 func54 rfl ntmps54 results54 rfl λbase w pl hb=>?_;simp only[go_sem,Qa,Qa,d1];exact .inr ⟨K,_,rfl⟩
  | false=>
   cases d2:decide (65536<c.t) with
   | true=>
    refine Q6 Qi 200 func54 rfl ntmps54 results54 rfl λbase w pl hb=>?_;simp only[go_sem,Qa,Qa,d1,d2];exact .inr ⟨K,_,rfl⟩
   | false=>
    cases d3:decide (c.JK<1) with
    | true=>
     refine Q6 Qi 200 func54 rfl ntmps54 results54 rfl λbase w pl hb=>?_;simp only[go_sem,Qa,Qa,d1,d2,d3];exact .inr ⟨K,_,rfl⟩
    | false=>
     have d4:decide (16384<c.JK)=true:=by
      have e1:=Ef d1;have e2:=Ef d2;have e3:=Ef d3;refine Q5 (jM λe4=>K ⟨by omega,by omega,by omega,by omega⟩)
     refine Q6 Qi 200 func54 rfl ntmps54 results54 rfl λbase w pl hb=>?_;simp only[go_sem,Qa,Qa,d1,d2,d3,d4];exact .inr ⟨K,_,rfl⟩
def nQ{l:List Int}{k}(h:k<l.length):l.getD k 0∈l:=by
 rw[Ze,QW h];exact qK h
def QbP(l:List Int)(F:List Ob)(f nf:Nat)(QI:List D)(g:Int->Bool):Prop:=∀(h:List Ob) (n:Int),n∈l->Vt F h->QV prog f h (JT nf QI [Qb n]) (λd=>d=QJ (g n))
def bF(l:List Int)(F:List Ob)(lo:Nat)(f nf:Nat)(QI:List D)(g:Int->Bool):Prop:=∀(h:List Ob) (n:Int),n∈l->F.length<=h.length->(∀l,l<F.length->l≠lo->h[l]? = F[l]?)->QV prog f h (JT nf QI [Qb n]) (λd=>d=QJ (g n))
section
variable (h:List Ob)(l:List Int)(lo gn off:Nat)(row:Nat->List D)(hlen:l.length<1000000)(ho:(h.map Ob.ro)[lo]? = some ⟨.Be,gn,1,off+l.length,row⟩)(hr:∀i,i<l.length->row (off+i)=[Qb (l.getD i 0)])
include hlen ho hr
theorem QBU(so:D)(f nf:Nat)(QI:List D)(hf:Qo prog f)(V8:KM so=some (f,nf,QI))(gk:Int->Bool)(hg:QbP l (h.map Ob.ro) f nf QI gk):
  QV prog 144 h [.ref lo gn off l.length,so] (λd=>d=Qb (yv gk l)):=by
 refine Zq Qi 200 func144 rfl ntmps144 results144 rfl λbase w pl F hF Q3 hb=>?_;rw[<- hF]at ho;have Qg:=Qc ho;simp only[go_sem,Qa,ho,Qg];refine Jg (λk s=>(∀i,i<k->gk (l.getD i 0)=false)/\s=⟨[(0,.ref lo gn off l.length),(1,so),(7,Qb l.length),(8,Qb k)],F⟩) l.length QQ ⟨λi hi=>absurd hi (by omega),rfl⟩ ?_;rintro k s hk ⟨hn,rfl⟩;apply QC hb;have Qg:=Qc ho;have QT:=JX (show k<4611686018427387904 by omega);first|refine YU hk (λQj=>?_) (λQj=>?_)|refine qu hk (λQj=>?_) (λQj=>?_)
 ·have yw:=hr k Qj;have jW:off+k<off+l.length:=by omega
  simp only[go_sem,Qa,ho,Qg,Qj,yw,jW];refine Z8 hb hf V8 ?_ (hg F (l.getD k 0) (nQ Qj) (by rw[<- hF];exact Vt.refl F)) rfl λd2 hR=>?_
  ·simp only[go_sem];exact ER _
  subst hR;refine Qe hb ?_;cases kR:gk (l.getD k 0)
  ·simp only[go_sem,Qa];refine⟨Qj,_,Qp.frame (by simp only[go_sem,QT]),λi hi=>?_,rfl⟩;by_cases h1:i<k
   ·exact hn i h1
   ·have:i=k:=by omega
    subst this;exact kR
  ·rw[ue Qj hn kR];simp only[go_sem,Qa];exact⟨[],(QU F).symm⟩
 ·have Qj:k=l.length:=by omega
  subst Qj;simp only[go_sem,YP];rw[uf hn];apply QC hb;exact⟨[],(QU F).symm⟩
end
section
variable (h:List Ob)(l:List Int)(lo gn off:Nat)(row:Nat->List D)(hlen:l.length<1000000)(ho:h[lo]? = some ⟨.arr,gn,1,off+l.length,row⟩)(hr:∀i,i<l.length->row (off+i)=[Qb (l.getD i 0)])
include hlen ho hr
theorem QBV(so:D)(f nf:Nat)(QI:List D)(hf:Qo prog f)(V8:KM so=some (f,nf,QI))(gk:Int->Bool)(hg:bF l h lo f nf QI gk)(uo:bF l (h.map Ob.ro) lo f nf QI gk):
  QK prog 88 h [.ref lo gn off l.length,so] (λd h'=>d=.ref lo gn off (xF gk l).length/\∃KO,h'=h.set lo ⟨.arr,gn,1,off+l.length,KO⟩/\∀i,i<(xF gk l).length->KO (off+i)=[Qb ((xF gk l).getD i 0)]):=by
 refine Q6 Qi 200 func88 rfl ntmps88 results88 rfl λbase w pl hb=>?_;have Qg:=Qc ho;simp only[go_sem,Qa,ho,Qg];refine Z8 hb UE rfl ?_ (QBU h l lo gn off row hlen (Z3 ho) hr so f nf QI hf V8 gk (λh' n hm hx=>?_)) rfl λd2 hR=>?_
 ·simp only[go_sem];exact Df so
 ·obtain⟨g,rfl⟩:=hx;exact uo _ n hm (by simp) λl hl _=>Qx hl
 subst hR;have zx:h.set lo ⟨.arr,gn,1,off+l.length,row⟩=h:=A9 λi=>by
  by_cases h1:lo=i
  ·subst h1;rw[Wm Qg,ho]
  ·rw[JJ h1]
 rcases QAz (g:=gk) (l:=l) with ⟨h1,h2⟩|⟨i,hi,h1,h2,h3⟩
 ·rw[h1,h2];refine Qe hb ?_;simp only[go_sem,Qa,ho,Qg];exact⟨row,zx.symm,hr⟩
 ·rw[h1];have Qz:(((i:Nat):Int)==-1)=false:=by simp
  have QT:=JX (show i<4611686018427387904 by omega);refine Qe hb ?_;simp only[go_sem,Qa,ho,Qg,Qz,QT];refine Jg (λk s=>∃r2:Nat->List D,(∀x,x<l.length->(r2 (off+x)).length=1)/\(∀j,j<((l.take (i+1+k)).filter λx=>!gk x).length->r2 (off+j)=[Qb (((l.take (i+1+k)).filter λx=>!gk x).getD j 0)])/\(∀j,i+1+k<=j->j<l.length->r2 (off+j)=[Qb (l.getD j 0)]) /\
   s=⟨[(0,.ref lo gn off l.length),(1,so),(5,Qb ((l.take (i+1+k)).filter λx=>!gk x).length),(6,Qb (i+1+k:Nat))],h.set lo ⟨.arr,gn,1,off+l.length,r2⟩⟩) (l.length - (i+1))
   (s0:=⟨[(0,.ref lo gn off l.length),(1,so),(5,Qb i),(6,Qb (i+1:Nat))],h⟩) QQ ⟨row,λx hx=>by rw[hr x hx];rfl,?_,λj _ hj=>hr j hj,?_⟩ ?_
  ·rw[FM,h3];intro j hj;simp at hj;rw[hr j (by omega)];simp[Ze,hj,show j<l.length by omega]
  ·rw[FM,h3,zx];simp[Qau (Nat.le_of_lt hi)]
  rintro k s hk ⟨r2,Vx,Jp,j7,rfl⟩;have Sd:=QAy l (λx=>!gk x) (i+1+k);obtain⟨M,hM⟩:∃M,M=(l.take (i+1+k)).filter λx=>!gk x:=⟨_,rfl⟩;obtain⟨j,hj⟩:∃j,j=i+1+k:=⟨_,rfl⟩;have ZB:lo<(h.set lo ⟨.arr,gn,1,off+l.length,r2⟩).length:=by simpa using Qg
  have qQ:(h.set lo ⟨.arr,gn,1,off+l.length,r2⟩)[lo]? = some ⟨.arr,gn,1,off+l.length,r2⟩:=Qs Qg;rw[<- hj]at hM Jp j7 Sd ⊢;rw[<- hM]at Jp Sd ⊢;have B9:j<=l.length:=by omega
  have QT:=JX (show j<4611686018427387904 by omega);have QBW:=JX (show M.length<4611686018427387904 by omega);have QBX:∀x,x<h.length->x≠lo->(h.set lo ⟨.arr,gn,1,off+l.length,r2⟩)[x]? = h[x]? := λx _ hx=>Qk (Q8 hx);refine Qe hb ?_;simp only[go_sem,Qa,qQ,ZB];first|refine YU B9 (λQj=>?_) (λQj=>?_)|refine qu B9 (λQj=>?_) (λQj=>?_)
  ·have bj:=j7 j (QB _) Qj;have KL:off+j<off+l.length:=by omega
   simp only[go_sem,Qa,Qj,qQ,ZB,bj,KL];refine Z8 hb hf V8 ?_ (hg _ (l.getD j 0) (nQ Qj) (by simp) QBX) rfl λd2 hR=>?_
   ·simp only[go_sem];exact ER _
   subst hR;have ZF:=QkP l (λx=>!gk x) j Qj;rw[<- hM,show l.getD j default=l.getD j 0 from rfl]at ZF;cases kR:gk (l.getD j 0)
   ·rw[Qf (by simp only[kR,Hx])]at ZF;have Jb:M.length<l.length:=by omega
    have zU:off+M.length<off+l.length:=by omega
    have QBY:List.drop 1 (r2 (off+M.length))=[]:=dY (by rw[Vx _ Jb];exact QB _);refine Qe hb ?_;simp only[go_sem,Qa,qQ,ZB,QT,QBW,Jb,zU,QBY,Vx M.length Jb];have ej:i+1+(k+1)=j+1:=by omega
    have BZ:(M++[l.getD j 0]).length=M.length+1:=by simp
    refine⟨by omega,_,Qp.frame (fr':=[(0,.ref lo gn off l.length),(1,so),(5,Qb (M.length+1:Nat)),(6,Qb (j+1:Nat))]) (by simp only[go_sem]),λx=>bif x==off+M.length then [Qb (l.getD j 0)] else r2 x,?_,?_,?_,?_⟩
    ·intro x hx;show (bif off+x==off+M.length then [Qb (l.getD j 0)] else r2 (off+x)).length=1;cases (off+x==off+M.length)
     ·exact Vx x hx
     ·rfl
    ·rw[ej,ZF];intro x hx;simp at hx;by_cases l6:x=M.length
     ·subst l6;simp only[Aa,Yr];simp;rfl
     ·have e1:(off+x==off+M.length)=false:=by simp;omega
      have:=Jp x (by omega);simp only[e1,Xw,this];rw[Ze,Ze,JD (by omega)];rfl
    ·intro x Kc Xg;have e1:(off+x==off+M.length)=false:=by simp;omega
     simp only[e1,Xw];exact j7 x (by omega) Xg
    ·rw[ej,ZF,BZ];rfl
   ·rw[Qd (by simp only[kR,FI];decide)]at ZF;refine Qe hb ?_;simp only[go_sem,Qa,qQ,ZB,QT];refine⟨by omega,_,Qp.frame (fr':=[(0,.ref lo gn off l.length),(1,so),(5,Qb M.length),(6,Qb (j+1:Nat))]) (by simp only[go_sem]),r2,Vx,?_,?_,?_⟩
    ·rw[show i+1+(k+1)=j+1 by omega,ZF];exact Jp
    ·intro x Kc Xg;exact j7 x (by omega) Xg
    ·rw[show i+1+(k+1)=j+1 by omega,ZF];rfl
  ·subst Qj;rw[YO]at hM;have jB:M=xF gk l:=hM;rw[<- jB];have KL:M.length<=l.length:=by omega
   refine Qe hb ?_;simp only[go_sem,Qa,qQ,ZB,KL];refine uv BE hb rfl qQ rfl rfl rfl rfl (by simp;omega) rfl rfl rfl rfl ?_;have hgS:∀r:Ob,(h.set lo r)[lo]? = some r:=λr=>Qs Qg;refine Qe hb ?_;simp only[go_sem,Qa,hgS,Qg,KL];refine⟨by simp,_,rfl,λx hx=>by rw[ur (by omega)];exact Jp x hx⟩
theorem QB0(so:D)(f nf:Nat)(QI:List D)(hf:Qo prog f)(V8:KM so=some (f,nf,QI))(gk:Int->Bool)(hg:bF l h lo f nf QI gk)(uo:bF l (h.map Ob.ro) lo f nf QI gk):
  QK prog 88 h [.ref lo gn off l.length,so] (λd h'=>d=.ref lo gn off (xF gk l).length/\∃KO,h'=h.set lo ⟨.arr,gn,1,off+(xF gk l).length,KO⟩/\∀i,i<(xF gk l).length->KO (off+i)=[Qb ((xF gk l).getD i 0)]):=by
 refine QK.cut (QBV h l lo gn off row hlen ho hr so f nf QI hf V8 gk hg uo) ?_;rintro d h' ⟨rfl,KO,rfl,aU⟩;have:=qL (λx=>!gk x) l;refine⟨lo,⟨.arr,gn,1,off+l.length,KO⟩,off+(xF gk l).length,Qs (Qc ho),rfl,by simp only[xF];omega,rfl,KO,by rw[JS],aU⟩
end
section
variable (h:List Ob)(l:List Int)(hlen:l.length<1000000)
include hlen
theorem QB1(so:D)(f nf:Nat)(QI:List D)(hf:Qo prog f)(V8:KM so=some (f,nf,QI))(gk:Int->Bool)(hg:QbP l (h.map Ob.ro) f nf QI gk):
  QV prog 144 h [ints l,so] (λd=>d=Qb (yv gk l)):=by
 refine Zq Qi 200 func144 rfl ntmps144 results144 rfl λbase w pl F hF Q3 hb=>?_;simp only[go_sem,Qa];refine Jg (λk s=>(∀i,i<k->gk (l.getD i 0)=false)/\s=⟨[(0,ints l),(1,so),(7,Qb l.length),(8,Qb k)],F⟩) l.length QQ ⟨λi hi=>absurd hi (by omega),rfl⟩ ?_;rintro k s hk ⟨hn,rfl⟩;apply QC hb;have QT:=JX (show k<4611686018427387904 by omega);first|refine YU hk (λQj=>?_) (λQj=>?_)|refine qu hk (λQj=>?_) (λQj=>?_)
 ·simp only[go_sem,Qa,Qj];refine Z8 hb hf V8 ?_ (hg F (l.getD k 0) (nQ Qj) (by rw[<- hF];exact Vt.refl F)) rfl λd2 hR=>?_
  ·simp only[go_sem];exact ER _
  subst hR;refine Qe hb ?_;cases kR:gk (l.getD k 0)
  ·simp only[go_sem,Qa];refine⟨Qj,_,Qp.frame (by simp only[go_sem,QT]),λi hi=>?_,rfl⟩;by_cases h1:i<k
   ·exact hn i h1
   ·have:i=k:=by omega
    subst this;exact kR
  ·rw[ue Qj hn kR];simp only[go_sem,Qa];exact⟨[],(QU F).symm⟩
 ·have Qj:k=l.length:=by omega
  subst Qj;simp only[go_sem,YP];rw[uf hn];apply QC hb;exact⟨[],(QU F).symm⟩
theorem QbR(so:D)(f nf:Nat)(QI:List D)(hf:Qo prog f)(V8:KM so=some (f,nf,QI))(gk:Int->Bool)(hg:QbP l (h.map Ob.ro) f nf QI gk):
  QV prog 106 h [ints l,so] (λd=>d=QJ (decide (0<=yv gk l))):=by
 refine Zq Qi 200 func106 rfl ntmps106 results106 rfl λbase w pl F hF Q3 hb=>?_;simp only[go_sem,Qa];refine Z8 hb UE rfl ?_ (QB1 F l hlen so f nf QI hf V8 gk (λh' n hm hx=>?_)) rfl λd2 hR=>?_
 ·simp only[go_sem];exact Df so
 ·rw[hF,ud]at hx;exact hg h' n hm hx
 subst hR;apply QC hb;exact⟨[],(QU F).symm⟩
end
structure Yn (h:List Ob) (p:Nat) (L:Loc) (M:Qq):Prop where
 ob:(h.map Ob.ro)[p]? = some (vp M.lk L.t L.b L.o L.v L.m M.Qh M.acc).ro
 tr:XY h L.t M.T
 VD:(h.map Ob.ro)[L.b]? = some (QS .i64 L.cb L.eb).ro
 XI:Vl L.eb (λid=>(Ql M.N id).map λ_=>.ptr (L.le id) 0 0 0)
 JF:∀id n,Ql M.N id=some n->(h.map Ob.ro)[L.le id]? = some (qt (qD L.lq n) n).ro
 Wy:∀id n,Ql M.N id=some n->n.c.leaf=true->∃k:Nat,n.c.Z5=k/\IY h (L.lq id) k n.c.bytes n.q
 q8:IM h L.o M.To M.A
 YF:GK h L.v M.Lv
 Wj:(h.map Ob.ro)[L.m]? = some (QS .i64 L.cm L.em).ro
 Yk:Vl L.em (λid=>if M.ks id=true then some (.ptr (L.lk id) 0 0 0) else none)
 kids:∀id,M.ks id=true->GK h (L.lk id) (M.KT id)
def ZS.ro{own}{h}{p}{L}{M}(C:ZS own h p L M):Yn h p L M:=
 ⟨Z3 C.ob,C.tr.toR,Z3 C.VD,C.XI,λid n hn=>Z3 (C.JF id n hn).1,λid n hn hl=>by
  obtain⟨k,h1,h2⟩:=C.Wy id n hn hl;exact⟨k,h1,h2.toR⟩,C.q8.toR,C.YF.toR,Z3 C.Wj,C.Yk,λid hk=>(C.kids id hk).toR⟩
def Yn.more{h h':List Ob}{p}{L}{M}(e:∀(l:Nat) (o:Ob),(h.map Ob.ro)[l]? = some o->(h'.map Ob.ro)[l]? = some o)(C:Yn h p L M):Yn h' p L M:=
 ⟨e _ _ C.ob,C.tr.more e,e _ _ C.VD,C.XI,λid n hn=>e _ _ (C.JF id n hn),λid n hn hl=>by
  obtain⟨k,h1,h2⟩:=C.Wy id n hn hl;exact⟨k,h1,h2.more e⟩,C.q8.more e,C.YF.more e,e _ _ C.Wj,C.Yk,λid hk=>(C.kids id hk).more e⟩
def Yn.look{h}{p}{L:Loc}{M:Qq}(C:Yn h p L M){id}{n}(hn:Ql M.N id=some n):ZJ L.eb id=some (.ptr (L.le id) 0 0 0):=by
 rw[C.XI.at_,hn];rfl
def QB2{h:List Ob}{p bl}{L}{M:Qq}(C:Yn h p L M){id}{n:Nd}(hn:Ql M.N id=some n)(hl:n.c.leaf=true)(Zg:n.c.iD=id)(ZG:(h.map Ob.ro)[bl]? = some ⟨.Wn,0,1,1,λ_=>[.ptr p 0 0 0]⟩):
  QV prog 159 h [Qb id,.ptr bl 0 0 0] (λd=>d=QJ (n.q.l.isEmpty)):=by
 have ho:=C.ob;have hy:=C.VD;have he:=C.JF id n hn;have Wi:=C.look hn;obtain⟨k,hk,hQ⟩:=C.Wy id n hn hl;have G3:qD L.lq n=.ptr (L.lq id) 0 0 0:=by unfold qD;rw[Qf hl,Zg]
 rw[G3]at he;have e:((n.q.l.length:Int)==0)=(n.q.l.isEmpty):=by
  cases n.q.l with
  | nil=>rfl
  | cons x l=>simp;omega
 refine Zq Qi 200 func159 rfl ntmps159 results159 rfl λbase w pl F hF Q3 hb=>?_;rw[<- hF]at ZG ho hy he;have Ar:=Qc ZG;have Qg:=Qc ho;have Wt:=Qc hy;have ZZ:=Qc he;simp only[go_sem,Qa,ZG,Ar,ho,Qg,hy,Wt,he,ZZ,Wi];refine Z8 hb Gm rfl ?_ (IZ (hQ.more (Kh hF))) rfl λd hR=>?_
 ·simp only[go_sem,Qa,e]
 subst hR;refine Qe hb ?_;simp only[go_sem,Qa,e];exact⟨[],(QU F).symm⟩
def QB3(h)(so):QV prog 88 h [.nil,so] (λd=>d=.nil):=by
 refine Zq Qi 200 func88 rfl ntmps88 results88 rfl λbase w pl F hF Q3 hb=>?_;simp only[go_sem,Qa];refine Z8 hb UE rfl ?_ (QiH F so) rfl λd2 hR=>?_
 ·simp only[go_sem];exact Df so
 subst hR;apply QC hb;exact⟨[],(QU F).symm⟩
def wH(T:List Qw):List Int:=(T.filter (·.leaf)).map (·.iD)
def G8(M:Qq)(id:Int):Bool:=(QD M id).q.l.isEmpty
def V6(M:Qq):List Int:=xF (G8 M) (wH M.T)
def nR{M:Qq}(I:Qy M){id}(h:id∈wH M.T):∃n,Ql M.N id=some n/\n.c.leaf=true/\n.c.iD=id:=by
 obtain⟨c,hc,rfl⟩:=Jk.1 h;obtain⟨Ep,x6⟩:=J8.1 hc;have hf:=(Vs I.tree.rising).2 ⟨Ep,rfl⟩;rw[I.nodes,Qbf]at hf;cases hn:Ql M.N c.iD with
 | none=>rw[hn]at hf;cases hf
 | some n=>
  rw[hn,K0,Za]at hf;exact⟨n,rfl,by rw[hf];exact x6,by rw[hf]⟩
section
variable {h:List Ob}{p:Nat}{L:Loc}{M:Qq}(C:Yn h p L M)(I:Qy M)
include C I
theorem QB4:Wf prog 109 h [.ptr p 0 0 0] (λd g=>Ky h.length (h++g) d (V6 M)):=by
 have qi:(wH M.T).length<1000000:=by
  have:=qL (λc:Qw=>c.leaf) M.T;have h2:=I.tree.len;simp only[wH,Kl];omega
 have ho:=C.ob;refine jT Qi 200 func109 rfl ntmps109 results109 rfl λbase w pl F hF Q3 hb=>?_;rw[<- hF]at ho;have Qg:=Qc ho;simp only[go_sem,Qa,ho,Qg];obtain⟨B,hB⟩:∃B:List Ob,B=[⟨.one,0,1,1,λ_=>[.ptr p 0 0 0]⟩]:=⟨_,rfl⟩;have hBl:B.length=1:=by rw[hB];rfl
 have ZG:B[0]? = some ⟨.one,0,1,1,λ_=>[.ptr p 0 0 0]⟩:=by rw[hB];rfl
 have nT:=hB;rw[<- nT];have CF:Yn F p L M:=C.more (Kh hF);have CB:Yn (F++B) p L M:=CF.more yE;obtain⟨m,c,es,ht,hm,hT⟩:=CB.tr;refine Is hb QuN rfl ?_ (QxJ _ L.t m c hT (by have:=I.tree.len;omega) ht hm) rfl λd g hs=>?_
 ·simp only[go_sem]
 rw[show (M.T.filter (·.leaf)).map (·.iD)=wH M.T from rfl]at hs;rcases hs with ⟨rfl,h3⟩|⟨lo,gn,off,row,rfl,Zm,XJ,hr⟩
 ·apply QC hb;refine Z8 hb QhB rfl ?_ (QB3 _ (.clo 159 0 [.ptr F.length 0 0 0])) rfl λd2 hR=>?_
  ·simp only[go_sem,Qa]
  subst hR;apply QC hb;refine⟨_,rfl,.inl ⟨rfl,?_⟩⟩;rw[V6,h3];rfl
 ·apply QC hb;have Az:F.length+1<=lo:=by
   have h4:(F++B).length<=lo:=Zm.1;rw[Zj,hBl]at h4;exact h4
  obtain⟨H,hH⟩:∃H,H=F++(B++g):=⟨_,rfl⟩;have hHF:∀x:Nat,x<F.length->H[x]? = F[x]? := λx hx=>by rw[hH];exact Qx hx
  have KJ:H[lo]? = some ⟨.arr,gn,1,off+(wH M.T).length,row⟩:=by rw[hH,<- WC];exact XJ
  have hHb:F.length+1<=H.length:=by rw[hH];simp[hBl]
  have QB6:H[F.length]? = some ⟨.one,0,1,1,λ_=>[.ptr p 0 0 0]⟩:=by rw[hH,Kx rfl,Qx (by omega)];exact ZG
  rw[<- hH];have tell:∀H2:List Ob,(∀x:Nat,H[x]? = H2[x]?\/(H2[x]? = (H[x]?).map Ob.ro))->H2.length=H.length->bF (wH M.T) H2 lo 159 0 [.ptr F.length 0 0 0] (G8 M):=by
   intro H2 h2 Jx h' n Xn hle hag;have key:∀(x:Nat) (o:Ob),x<F.length+1->(H.map Ob.ro)[x]? = some o->(h'.map Ob.ro)[x]? = some o:=λx o hx e=>by
    have e1:=hag x (by omega) (by omega);rw[KG]at e ⊢;rw[e1];rcases h2 x with e2|e2
    ·rw[<- e2];exact e
    ·rw[e2,TF,<- e];congr 1;funext o;exact ro_ro o
   obtain⟨nd,hn,hl,Zg⟩:=nR I Xn;have ZY:QD M n=nd:=by unfold QD;rw[hn];rfl
   have:=QB2 (CF.more (h':=h') λx o e=>key x o (by have:=Qc e;rw[Kl]at this;omega) (by rw[KG,hHF x (by have:=Qc e;rw[Kl]at this;omega),<- KG];exact e)) hn hl Zg (key F.length ⟨.Wn,0,1,1,λ_=>[.ptr p 0 0 0]⟩ (by omega) (by rw[KG,QB6];rfl));unfold G8;rw[ZY];exact this
  refine qZ hb QhB (QB0 H (wH M.T) lo gn off row qi KJ hr (.clo 159 0 [.ptr F.length 0 0 0]) 159 0 [.ptr F.length 0 0 0] Qvj rfl (G8 M) (tell H (λx=>.inl rfl) rfl) (tell (H.map Ob.ro) (λx=>.inr (by rw[KG])) (by simp))) λd h2 hR=>?_;obtain⟨rfl,KO,rfl,aU⟩:=hR;apply QC hb;refine Ky.done Q3 ⟨(B++g).set (lo - F.length) ⟨.arr,gn,1,off+(xF (G8 M) (wH M.T)).length,KO⟩,?_⟩ (.inr ⟨lo,gn,off,KO,rfl,?_,?_,aU⟩)
  ·rw[hH,OR _ _ (by omega:F.length<=lo)]
  ·exact⟨by have:=Zm.1;omega,Zm.2⟩
  ·exact Qs (Qc KJ)
theorem QbS:QV prog 109 h [.ptr p 0 0 0] (λd=>d=ints (V6 M)):=Ky.closed (QB4 C I)
end
def bG(l:List Int)(v:Int):Int:=if l.contains v then (l.idxOf v:Nat) else -1
def QB8(l:List Int)(id)(hl:l.length<2147483648):Q4 prog 146 [ints l,Qb id] (Qn (Qb (bG l id))):=by
 refine ZA 0 Qi 200 func146 rfl ntmps146 results146 rfl λbase w hb=>?_;simp only[go_sem];refine Jg (λk s=>(l.take k).contains id=false/\s=⟨[(0,ints l),(1,Qb id),(6,ints l),(7,Qb l.length),(8,Qb k)],[]⟩) l.length (s0:=⟨[(0,ints l),(1,Qb id),(6,ints l),(7,Qb l.length),(8,Qb 0)],[]⟩) QQ ⟨by simp,rfl⟩ ?_;rintro k s hk ⟨Jy,rfl⟩;apply Zi hb;refine XS (λh=>?_) (λh=>?_)
 ·have Qj:k<l.length:=by simpa using h
  have e1:=getD_take l 0 k Qj;simp only[go_sem,Qj];refine XS (λh2=>?_) (λh2=>?_)
  ·simp only[go_sem];have h3:l=l.take k++id::l.drop (k+1):=by
    conv=>lhs;rw[<- HE (k+1) l,e1]
    simp at h2;simp[h2]
   have:bG l id=k:=by
    have hc:l.contains id=true:=by rw[h3];simp
    have h4:¬ id∈l.take k:=by simpa using Jy
    rw[bG,hc];simp only[K6];rw[h3,List.idxOf_append,Qd h4];simp;omega
   rw[this]
  ·simp only[go_sem];refine⟨by omega,_,Qp.frame (by simp only[go_sem,JX (show k<4611686018427387904 by omega)]),?_,rfl⟩;rw[e1];simp at Jy h2 ⊢;exact⟨Jy,h2⟩
 ·have Qj:k=l.length:=by simp at h;omega
  simp only[go_sem];apply Zi hb;subst Qj;simp at Jy;simp[bG,Jy]
def QB9(l:List Int)(id)(hl:l.length<2147483648):Q4 prog 91 [ints l,Qb id] (Qn (QJ (l.contains id))):=by
 refine ZA 0 Qi 200 func91 rfl ntmps91 results91 rfl λbase w hb=>?_;simp only[go_sem];refine Wu hb Qvc (QB8 l id hl) (Qn.flat rfl) λd h hR=>?_;obtain⟨rfl,rfl⟩:=hR;apply Zi hb;unfold bG;cases l.contains id<;>simp
def QCa{h:List Ob}{p b1 b2}{L}{M}(C:Yn h p L M)(I:Qy M)(id n)(h1:(h.map Ob.ro)[b1]? = some ⟨.Wn,0,1,1,λ_=>[.ptr p 0 0 0]⟩)(h2:(h.map Ob.ro)[b2]? = some ⟨.Wn,0,1,1,λ_=>[Qb id]⟩):
  QV prog 157 h [Qb n,.ptr b1 0 0 0,.ptr b2 0 0 0] (λd=>d=QJ ((up M.T n).contains id)):=by
 have ho:=C.ob;refine Zq Qi 200 func157 rfl ntmps157 results157 rfl λbase w pl F hF Q3 hb=>?_;rw[<- hF]at ho h1 h2;have Qg:=Qc ho;have QO:=Qc h1;have K9:=Qc h2;simp only[go_sem,Qa,ho,Qg,h1,QO,h2,K9];apply QH hb [0,1,2,3,4,6,1005,1007,8];simp only[go_sem,Qa,ho,Qg,h1,QO,h2,K9];refine Yh hb iR (uN (C.tr.more (Kh hF)) I.tree.toTreeInv n) λd hR=>?_;subst hR;refine Zr hb ?_;simp only[go_sem,Qa,h1,QO,h2,K9];have xg:(J6 M.T 16 n).length<=16:=Dj (L:=M.T) (n:=16) (id:=n);refine Rp hb QuO (QB9 (J6 M.T 16 n) id (by omega)) (Qn.flat rfl) λd h hR=>?_;obtain⟨rfl,rfl⟩:=hR;apply XF hb;exact⟨[],(QU F).symm,rfl⟩
def QCb(g)(l:List Int):(xF g l).length<=l.length:=qL _ _
def yS(M:Qq)(id:Int):Bool:=(V6 M).any λn=>(up M.T n).contains id
def QlC{M:Qq}(I:Qy M):(V6 M).length<=64:=by
 have h1:=QCb (G8 M) (wH M.T);have h2:=qL (λc:Qw=>c.leaf) M.T;have h3:=I.tree.len;simp only[V6,wH,Kl]at h1 ⊢;omega
def QCc{h}{p}{L}{M}(C:Yn h p L M)(I:Qy M)(id):
  QV prog 107 h [.ptr p 0 0 0,Qb id] (λd=>d=QJ (yS M id)):=by
 have qi:=QlC I;have ho:=C.ob;refine jT Qi 200 func107 rfl ntmps107 results107 rfl λbase w pl F hF Q3 hb=>?_;rw[<- hF]at ho;have Qg:=Qc ho;simp only[go_sem,Qa,ho,Qg];have CF:Yn F p L M:=C.more (Kh hF);obtain⟨B,hB⟩:∃B:List Ob,B=[⟨.one,0,1,1,λ_=>[.ptr p 0 0 0]⟩,⟨.one,0,1,1,λ_=>[Qb id]⟩]:=⟨_,rfl⟩;have ZG:B[0]? = some ⟨.one,0,1,1,λ_=>[.ptr p 0 0 0]⟩:=by rw[hB];rfl
 have KL:B[1]? = some ⟨.one,0,1,1,λ_=>[Qb id]⟩:=by rw[hB];rfl
 have nT:=hB;simp only[go_sem]at nT;rw[<- nT];have CB:Yn (F++B) p L M:=CF.more yE;refine ZN hb td (QbS CB I) λd hR=>?_;subst hR;apply QC hb;refine Z8 hb UD rfl ?_ (QbR (F++B) (V6 M) (by omega) (.clo 157 0 [.ptr F.length 0 0 0,.ptr (F.length+1) 0 0 0]) 157 0 [.ptr F.length 0 0 0,.ptr (F.length+1) 0 0 0] Qvh rfl (λn=>(up M.T n).contains id) (λh' n hm hx=>?_)) rfl λd2 hR=>?_
 ·simp only[go_sem,Qa]
 ·have key:∀(l:Nat) (o:Ob),((F++B).map Ob.ro)[l]? = some o->(h'.map Ob.ro)[l]? = some o:=λl o e=>by
   obtain⟨g,rfl⟩:=hx;have e2:=Z3 ((Qx (Qc e)).trans e:((F++B).map Ob.ro++g)[l]? = some o);rw[e2];rw[KG]at e;obtain⟨o2,h2,rfl⟩:=Xv.1 e;rw[ro_ro]
  exact QCa (CB.more key) I id n (key _ _ (by rw[KG,Kx rfl,ZG];rfl)) (key _ _ (by rw[KG,Vr rfl,KL];rfl))
 subst hR;apply QC hb;refine⟨B,rfl,?_⟩;rw[UL];rfl
def QCd{h:List Ob}{t1 t2 b1 b2}{A B:List Qw}(RA:XY h t1 A)(RB:XY h t2 B)(id)(h1:(h.map Ob.ro)[b1]? = some ⟨.Wn,0,1,1,λ_=>[.ptr t1 0 0 0]⟩)(h2:(h.map Ob.ro)[b2]? = some ⟨.Wn,0,1,1,λ_=>[.ptr t2 0 0 0]⟩)(hA:A.length<100000)(hB:B.length<100000):
  QV prog 158 h [Qb id,.ptr b1 0 0 0,.ptr b2 0 0 0] (λd=>d=QJ (Lh A id || Lh B id)):=by
 obtain⟨x,hx⟩:∃x,x=(QF A id).getD default:=⟨_,rfl⟩;obtain⟨y,hy⟩:∃y,y=(QF B id).getD default:=⟨_,rfl⟩;have e1:Lh A id=decide (1<Q7 x.rt):=by rw[hx];rfl
 have e2:Lh B id=decide (1<Q7 y.rt):=by rw[hy];rfl
 rw[e1,e2];refine Zq Qi 200 func158 rfl ntmps158 results158 rfl λbase w pl F hF Q3 hb=>?_;rw[<- hF]at h1 h2;have QO:=Qc h1;have K9:=Qc h2;simp only[go_sem,Qa,h1,QO,h2,K9];have hgA:=Rs (RA.more (Kh hF)) id;have hgB:=λG:List Ob=>Rs ((RB.more (Kh hF)).more (yE (g:=G))) id;rw[<- hx]at hgA;simp only[<- hy]at hgB;refine ZN hb xo hgA λd hR=>?_;subst hR;refine Qe hb ?_;simp only[go_sem,Qa,h1,QO,h2,K9];refine ZN hb xo (hgB _) λd hR=>?_;subst hR;refine Qe hb ?_;simp only[go_sem,Qa,h1,QO,h2,K9];cases dr:decide (1<Q7 x.rt) with
 | true=>
  refine ZW hb EL rfl ?_ (Gt x) (Qn.flat rfl) rfl λd h hR=>?_
  ·simp only[go_sem,Qa,dr]
  obtain⟨rfl,rfl⟩:=hR;refine Qe hb ?_;simp only[go_sem,Qa,dr];exact⟨_,rfl⟩
 | false=>
  refine ZW hb EL rfl ?_ (Gt x) (Qn.flat rfl) rfl λd h hR=>?_
  ·simp only[go_sem,Qa,dr]
  obtain⟨rfl,rfl⟩:=hR;refine Qe hb ?_;simp only[go_sem,Qa,dr];refine Ax hb EL (Gt y) (Qn.flat rfl) λd h hR=>?_;obtain⟨rfl,rfl⟩:=hR;apply QC hb;exact⟨_,rfl⟩
def QbT{h}{t1 t2}{A B:List Qw}(RA:XY h t1 A)(RB:XY h t2 B)(hA:A.length<100000)(hB:B.length<100000)(hT:(Ko A B).length<1000000):
  QV prog 108 h [.ptr t1 0 0 0,.ptr t2 0 0 0] (λd=>d=QJ (m9 A B)):=by
 refine jT Qi 200 func108 rfl ntmps108 results108 rfl λbase w pl F hF Q3 hb=>?_;simp only[go_sem,Qa];obtain⟨G,hG⟩:∃G:List Ob,G=[⟨.one,0,1,1,λ_=>[.ptr t1 0 0 0]⟩,⟨.one,0,1,1,λ_=>[.ptr t2 0 0 0]⟩]:=⟨_,rfl⟩;have ZG:G[0]? = some ⟨.one,0,1,1,λ_=>[.ptr t1 0 0 0]⟩:=by rw[hG];rfl
 have KL:G[1]? = some ⟨.one,0,1,1,λ_=>[.ptr t2 0 0 0]⟩:=by rw[hG];rfl
 rw[<- hG];have aS:XY (F++G) t1 A:=(RA.more (Kh hF)).more yE;have aT:XY (F++G) t2 B:=(RB.more (Kh hF)).more yE;refine ZN hb QhG (QkW aS aT hA hB) λd hR=>?_;subst hR;apply QC hb;refine Z8 hb UD rfl ?_ (QbR (F++G) (Ko A B) hT (.clo 158 0 [.ptr F.length 0 0 0,.ptr (F.length+1) 0 0 0]) 158 0 [.ptr F.length 0 0 0,.ptr (F.length+1) 0 0 0] Qvi rfl (λid=>Lh A id || Lh B id) (λh' n hm hx=>?_)) rfl λd2 hR=>?_
 ·simp only[go_sem,Qa]
 ·have key:∀(l:Nat) (o:Ob),((F++G).map Ob.ro)[l]? = some o->(h'.map Ob.ro)[l]? = some o:=λl o e=>by
   obtain⟨g,rfl⟩:=hx;have e2:=Z3 ((Qx (Qc e)).trans e:((F++G).map Ob.ro++g)[l]? = some o);rw[e2];rw[KG]at e;obtain⟨o2,h2,rfl⟩:=Xv.1 e;rw[ro_ro]
  exact QCd (aS.more key) (aT.more key) n (key _ _ (by rw[KG,Kx rfl,ZG];rfl)) (key _ _ (by rw[KG,Vr rfl,KL];rfl)) hA hB
 subst hR;apply QC hb;refine⟨G,rfl,?_⟩;rw[UL];rfl
def X0(c:Qw):Nd:=⟨c,0,default,default,default,⟨[],0,0,0,0,0,0⟩⟩
def QlF(h:List Ob)(c:Qw)(d:D)(h':List Ob):Prop:=
 d=.ptr (h.length+1) 0 0 0/\∃g lq,h'=h++g/\2<=g.length/\h'[h.length+1]? = some (qt (if c.leaf=true then .ptr lq 0 0 0 else .raw (.pointer none)) (X0 c)) /\
  (c.leaf=true->∃k:Nat,c.Z5=k/\xB (λl=>h.length+2<=l) h' lq k c.bytes ⟨[],0,0,0,0,0,0⟩)
@[go_sem] theorem QMg(d d2)(n):d2::List.drop 1 (Vd d n)=Vd d2 n:=rfl
def QCe(h)(c:Qw)(hl:c.leaf=true->1<=c.Z5/\c.Z5<=64/\1<=c.bytes/\c.bytes<=1048576):
  QK prog 111 h [Yy c] (λd h'=>QlF h c d h'):=by
 obtain⟨i0,p0,lf,r1,r2,r3,k0,b0⟩:=c;cases lf with
 | false=>
  refine Q6 Qi 200 func111 rfl ntmps111 results111 rfl λbase w pl hb=>?_;simp only[go_sem,Qa,Qa];refine⟨rfl,_,0,rfl,by simp,?_,λe=>by cases e⟩;rw[Vr (k:=1) rfl];show some (_:Ob)=some (qt (.raw (.pointer none)) _);refine congrArg some ?_;unfold qt Vd X0;refine congrArg (Ob.mk .one 0 60 1) ?_;funext _;dsimp only;simp only[Qw.cells,qJ,zo];rfl
 | true=>
  obtain⟨l1,l2,l3,l4⟩:=hl rfl;dsimp only at l1 l2 l3 l4;obtain⟨k,rfl⟩:∃k:Nat,k0=k:=⟨k0.toNat,by omega⟩;refine Q6 Qi 200 func111 rfl ntmps111 results111 rfl λbase w pl hb=>?_;simp only[go_sem,Qa,Qa];generalize hE1:(⟨.one,0,14,1,_⟩:Ob)=E1;generalize hE2:(⟨.one,0,60,1,_⟩:Ob)=E2;have hE:E2=qt (.raw (.pointer none)) (X0 ⟨i0,p0,true,r1,r2,r3,(k:Int),b0⟩):=by
   rw[<- hE2];unfold qt Vd X0;refine congrArg (Ob.mk .one 0 60 1) ?_;funext _;dsimp only;simp only[Qw.cells,qJ,zo];rfl
  obtain⟨G,hG⟩:∃G:List Ob,G=[E1,E2]:=⟨_,rfl⟩;have RP:G.length=2:=by rw[hG];rfl
  have hq:=QyP (h++G) k b0 (by omega) (by omega) l3 l4;have g1:(h++G)[h.length+1]? = some (qt (.raw (.pointer none)) (X0 ⟨i0,p0,true,r1,r2,r3,(k:Int),b0⟩)):=by rw[hG,<- hE];exact Vr (k:=1) rfl
  have BW:=hq;rw[hG]at BW;refine Jh hb Qvk BW λd h2 hR=>?_;rw[<- hG]at hR;obtain⟨rfl,Q,g,rfl,hg⟩:=hR;have gg:(G++g)[1]? = some (qt (.raw (.pointer none)) (X0 ⟨i0,p0,true,r1,r2,r3,(k:Int),b0⟩)):=by rw[hG,<- hE];rfl
  have QlG:=Qc gg;refine Qe hb ?_;simp only[go_sem,Qa,gg,QlG];have hgl:(h++G).length=h.length+2:=by rw[Zj,RP]
  refine⟨rfl,_,h.length+G.length+2,rfl,by simp[RP],?_,λ_=>⟨k,rfl,?_⟩⟩
  ·rw[Vr (k:=1) rfl];rw[Qs QlG];rfl
  ·rw[hgl]at Q;rw[RP];refine(Q.step (S':=λl=>h.length+2<=l) λl ZB Jx=>⟨Jx,?_⟩);have xz:h.length+2<=l:=Jx;have e:∀X:Ob,h++(G++g).set 1 X=(h++G++g).set (h.length+1) X:=λX=>by
    rw[WC,OR (s:=h) (h.length+1) X (by omega),eL]
   rw[e];exact Qk (by omega)
def N8{own:Nat->Tag}{h:List Ob}{l:Nat}{t0:Tag}(hl:own l=t0)(o:Ob):∀t,t≠t0->∀j,j<h.length->own j=t->own j=t/\(h.set l o)[j]? = h[j]? :=
 λt ht j _ h1=>⟨h1,Qk (λe=>ht (by rw[<- h1,<- e,hl]))⟩
def jC{own:Nat->Tag}{h:List Ob}{l:Nat}{t0:Tag}(hl:own l=t0)(o:Ob){j:Nat}{x:Ob}{t:Tag}(h1:own j=t)(ht:t≠t0)(h2:h[j]? = some x):(h.set l o)[j]? = some x:=
 ((N8 hl o t ht j (Qc h2) h1).2).trans h2
section
variable {own:Nat->Tag}{h:List Ob}{p:Nat}{L:Loc}{M:Qq}(C:ZS own h p L M)
include C
theorem ZS.congrN{N}(e:∀id,Ql N id=Ql M.N id):ZS own h p L { M with N:=N }:=
 ⟨C.ob,C.op,C.tr,C.VD,C.XI.to λid=>by dsimp only;rw[e],C.ow,λid n hn=>C.JF id n (by rw[<- e];exact hn),λid n hn=>C.Wy id n (by rw[<- e];exact hn),C.q8,C.YF,C.Wj,C.Yk,C.om,C.kids,λid n hn=>C.q9 id n (by rw[<- e];exact hn)⟩
theorem ZS.QCh{t2}{T2}(R:Wv (λl=>own l=.tree) h t2 T2):ZS own (h.set p (vp M.lk t2 L.b L.o L.v L.m M.Qh M.acc)) p { L with t:=t2 } { M with T:=T2 }:=by
 have r:=N8 (h:=h) C.op (vp M.lk t2 L.b L.o L.v L.m M.Qh M.acc);exact⟨Qs (Qc C.ob),C.op,R.step (r _ (by simp)),jC C.op _ C.ow (by simp) C.VD,C.XI,C.ow,λj m hm=>⟨jC C.op _ (C.JF j m hm).2 (by simp) (C.JF j m hm).1,(C.JF j m hm).2⟩,λj m hm hl=>by
  obtain⟨k,h1,h2⟩:=C.Wy j m hm hl;exact⟨k,h1,h2.step (r _ (by simp))⟩,C.q8.step (r _ (by simp)),C.YF.step (r _ (by simp)),jC C.op _ C.om (by simp) C.Wj,C.Yk,C.om,λj hj=>(C.kids j hj).step (r _ (by simp)),C.q9⟩
theorem ZS.QCi{o2}{T2}{A2}(R:j4 (λl=>own l=.on) h o2 T2 A2):ZS own (h.set p (vp M.lk L.t L.b o2 L.v L.m M.Qh M.acc)) p { L with o:=o2 } { M with To:=T2,A:=A2 }:=by
 have r:=N8 (h:=h) C.op (vp M.lk L.t L.b o2 L.v L.m M.Qh M.acc);exact⟨Qs (Qc C.ob),C.op,C.tr.step (r _ (by simp)),jC C.op _ C.ow (by simp) C.VD,C.XI,C.ow,λj m hm=>⟨jC C.op _ (C.JF j m hm).2 (by simp) (C.JF j m hm).1,(C.JF j m hm).2⟩,λj m hm hl=>by
  obtain⟨k,h1,h2⟩:=C.Wy j m hm hl;exact⟨k,h1,h2.step (r _ (by simp))⟩,R.step (r _ (by simp)),C.YF.step (r _ (by simp)),jC C.op _ C.om (by simp) C.Wj,C.Yk,C.om,λj hj=>(C.kids j hj).step (r _ (by simp)),C.q9⟩
end
def kb(N:List Nd)(id:Int):List Nd:=N.filter λn=>n.c.iD != id
def G9(N)(id j):Ql (kb N id) j=if j=id then none else Ql N j:=by
 unfold Ql kb;rw[List.find?_filter];split
 ·rename_i e;subst e;rw[vE];intro x _;simp
 ·rename_i e;congr 1;funext x;cases h1:x.c.iD==j with
  | false=>simp[h1]
  | true=>
   have:x.c.iD=j:=by simpa using h1
   simp[this,e]
section
variable {own:Nat->Tag}{h:List Ob}{p:Nat}{L:Loc}{M:Qq}(C:ZS own h p L M)
include C
theorem ZS.QCj(id):ZS own (h.set L.b (QS .i64 L.cb (Kg L.eb id))) p { L with eb:=Kg L.eb id } { M with N:=kb M.N id }:=by
 have r:=N8 (h:=h) C.ow (QS .i64 L.cb (Kg L.eb id));have f:∀j m,Ql (kb M.N id) j=some m->Ql M.N j=some m:=λj m hm=>by
  rw[G9]at hm;split at hm
  ·cases hm
  ·exact hm
 refine⟨jC C.ow _ C.op (by simp) C.ob,C.op,C.tr.step (r _ (by simp)),Qs (Qc C.VD),(C.XI.del id).to λj=>?_,C.ow,λj m hm=>⟨jC C.ow _ (C.JF j m (f j m hm)).2 (by simp) (C.JF j m (f j m hm)).1,(C.JF j m (f j m hm)).2⟩,λj m hm hl=>?_,C.q8.step (r _ (by simp)),C.YF.step (r _ (by simp)),jC C.ow _ C.om (by simp) C.Wj,C.Yk,C.om,λj hj=>(C.kids j hj).step (r _ (by simp)),λj m hm=>C.q9 j m (f j m hm)⟩
 ·dsimp only;rw[G9];split
  ·rfl
  ·rfl
 ·obtain⟨k,h1,h2⟩:=C.Wy j m (f j m hm) hl;exact⟨k,h1,h2.step (r _ (by simp))⟩
theorem ZS.QCk(id):ZS own (h.set L.m (QS .i64 L.cm (Kg L.em id))) p { L with em:=Kg L.em id } { M with ks:=λj=>if j=id then false else M.ks j }:=by
 have r:=N8 (h:=h) C.om (QS .i64 L.cm (Kg L.em id));refine⟨jC C.om _ C.op (by simp) C.ob,C.op,C.tr.step (r _ (by simp)),jC C.om _ C.ow (by simp) C.VD,C.XI,C.ow,λj m hm=>⟨jC C.om _ (C.JF j m hm).2 (by simp) (C.JF j m hm).1,(C.JF j m hm).2⟩,λj m hm hl=>?_,C.q8.step (r _ (by simp)),C.YF.step (r _ (by simp)),Qs (Qc C.Wj),(C.Yk.del id).to λj=>?_,C.om,λj hj=>?_,C.q9⟩
 ·obtain⟨k,h1,h2⟩:=C.Wy j m hm hl;exact⟨k,h1,h2.step (r _ (by simp))⟩
 ·dsimp only;by_cases e:j=id<;>simp[e]
 ·dsimp only at hj;by_cases e:j=id
  ·rw[Qf e]at hj;cases hj
  ·rw[Qd e]at hj;exact(C.kids j hj).step (r _ (by simp))
theorem ZS.QCl(id){k}(T:WX (λl=>own l=.YE id) h k []):∃c es,J2 .i64 L.cm L.em id (.ptr k 0 0 0)=QS .i64 c es /\
  ZS own (h.set L.m (J2 .i64 L.cm L.em id (.ptr k 0 0 0))) p { L with cm:=c,em:=es,lk:=λj=>if j=id then k else L.lk j } { M with ks:=λj=>if j=id then true else M.ks j,KT:=λj=>if j=id then [] else M.KT j }:=by
 obtain⟨c,es,h1,h2⟩:=C.Yk.set .i64 L.cm id (.ptr k 0 0 0);refine⟨c,es,h1,?_⟩;rw[h1];have r:=N8 (h:=h) C.om (QS .i64 c es);refine⟨jC C.om _ C.op (by simp) C.ob,C.op,C.tr.step (r _ (by simp)),jC C.om _ C.ow (by simp) C.VD,C.XI,C.ow,λj m hm=>⟨jC C.om _ (C.JF j m hm).2 (by simp) (C.JF j m hm).1,(C.JF j m hm).2⟩,λj m hm hl=>?_,C.q8.step (r _ (by simp)),C.YF.step (r _ (by simp)),Qs (Qc C.Wj),h2.to λj=>?_,C.om,λj hj=>?_,C.q9⟩
 ·obtain⟨k,h1,h2⟩:=C.Wy j m hm hl;exact⟨k,h1,h2.step (r _ (by simp))⟩
 ·dsimp only;by_cases e:j=id<;>simp[e]
 ·dsimp only at hj ⊢;by_cases e:j=id
  ·subst e;rw[Qf rfl,Qf rfl];exact T.step (r _ (by simp))
  ·rw[Qd e]at hj;rw[Qd e,Qd e];exact(C.kids j hj).step (r _ (by simp))
theorem ZS.QCm{n:Nd}{e q}(Pq:Ql M.N n.c.iD=none)(he:h[e]? = some (qt (if n.c.leaf=true then .ptr q 0 0 0 else .raw (.pointer none)) n))(ho:own e=.yu n.c.iD)
  (hq:n.c.leaf=true->∃k:Nat,n.c.Z5=k/\xB (λl=>own l=.zS n.c.iD) h q k n.c.bytes n.q) (Ja:n.Ok):∃c es,J2 .i64 L.cb L.eb n.c.iD (.ptr e 0 0 0)=QS .i64 c es /\
  ZS own (h.set L.b (J2 .i64 L.cb L.eb n.c.iD (.ptr e 0 0 0))) p { L with cb:=c,eb:=es,le:=λj=>if j=n.c.iD then e else L.le j,lq:=λj=>if j=n.c.iD then q else L.lq j } { M with N:=n::M.N }:=by
 obtain⟨c,es,h1,h2⟩:=C.XI.set .i64 L.cb n.c.iD (.ptr e 0 0 0);refine⟨c,es,h1,?_⟩;rw[h1];have r:=N8 (h:=h) C.ow (QS .i64 c es);have hf:∀j,Ql (n::M.N) j=if j=n.c.iD then some n else Ql M.N j:=λj=>by
  unfold Ql;rw[wR];by_cases e:j=n.c.iD
  ·subst e;rw[Qf rfl,Aa]
  ·rw[Qd e,J5 (λx=>e x.symm)]
 have Zg:∀j m,Ql M.N j=some m->m.c.iD=j:=λj m hm=>Qy.id hm;have qe:∀j m,j≠n.c.iD->Ql M.N j=some m->qD (λj=>if j=n.c.iD then q else L.lq j) m=qD L.lq m:=λj m hj hm=>by
  unfold qD;simp only[Zg j m hm,Qd hj]
 refine⟨jC C.ow _ C.op (by simp) C.ob,C.op,C.tr.step (r _ (by simp)),Qs (Qc C.VD),h2.to λj=>?_,C.ow,λj m hm=>?_,λj m hm hl=>?_,C.q8.step (r _ (by simp)),C.YF.step (r _ (by simp)),jC C.ow _ C.om (by simp) C.Wj,C.Yk,C.om,λj hj=>(C.kids j hj).step (r _ (by simp)),λj m hm=>?_⟩
 ·dsimp only;rw[hf];by_cases e:j=n.c.iD
  ·rw[Qf e,Qf e,Qf e];rfl
  ·rw[Qd e,Qd e,Qd e]
 ·dsimp only at hm ⊢;rw[hf]at hm;by_cases e:j=n.c.iD
  ·rw[Qf e]at hm;cases hm;rw[Qf e,e];refine⟨?_,ho⟩;rw[jC C.ow _ ho (by simp) he];unfold qD;dsimp only;rw[Qf rfl]
  ·rw[Qd e]at hm;rw[Qd e,qe j m e hm];exact⟨jC C.ow _ (C.JF j m hm).2 (by simp) (C.JF j m hm).1,(C.JF j m hm).2⟩
 ·dsimp only at hm ⊢;rw[hf]at hm;by_cases e:j=n.c.iD
  ·rw[Qf e]at hm;cases hm;rw[Qf e,e];obtain⟨k,g1,g2⟩:=hq hl;exact⟨k,g1,g2.step (r _ (by simp))⟩
  ·rw[Qd e]at hm;rw[Qd e];obtain⟨k,g1,g2⟩:=C.Wy j m hm hl;exact⟨k,g1,g2.step (r _ (by simp))⟩
 ·dsimp only at hm;rw[hf]at hm;by_cases e:j=n.c.iD
  ·rw[Qf e]at hm;cases hm;exact Ja
  ·rw[Qd e]at hm;exact C.q9 j m hm
end
def Ki(T2:List Qw)(M:Qq)(id:Int):Qq:=
 match QF T2 id with
 | none=>{ M with N:=kb M.N id,ks:=λj=>if j=id then false else M.ks j }
 | some c=>if c.leaf=true then { M with N:=X0 c::kb M.N id,ks:=λj=>if j=id then false else M.ks j }
  else { M with N:=X0 c::kb M.N id,ks:=λj=>if j=id then true else M.ks j,KT:=λj=>if j=id then [] else M.KT j }
def VK(M:Qq)(T2:List Qw):Qq:=(Ko M.T T2).foldl (Ki T2) { M with T:=T2 }
def kf(M:Qq)(T2:List Qw)(b:Bool):Bool:=(Ko M.T T2).any (yS M) || (m9 M.T T2&&(!b || decide (0<(V6 M).length)))
def X1(M:Qq)(T2:List Qw):List Nd:=T2.map λc=>QD (VK M T2) c.iD
def xK(T2:List Qw)(A:List Int)(id:Int):List Int:=if 1<Q7 ((QF T2 id).getD default).ls then id::A else A
def ze(M:Qq)(T2:List Qw):Qq:={ VK M T2 with N:=X1 M T2,To:=T2,A:=[] }
def xL(M:Qq)(T2:List Qw):Qq:={ ze M T2 with A:=(V6 (ze M T2)).foldl (xK T2) [] }
def zX(M:Qq)(b:Bool)(l:List JH):Int:=
 if B1 M.T M.lk.t l≠0 then B1 M.T M.lk.t l else if kf M (JM M.T l) b=true then 24 else 0
def AQ(M:Qq)(l:List JH):Nat:=if B1 M.T M.lk.t l≠0 then RU M.T l else 0
def Ke(M:Qq)(b:Bool)(l:List JH):Qq:=if zX M b l=0 then xL M (JM M.T l) else M
def QCn(h)(c:Qw)(hl:c.leaf=true->1<=c.Z5/\c.Z5<=64/\1<=c.bytes/\c.bytes<=1048576):
  Wf prog 111 h [Yy c] (λd g=>QlF h c d (h++g)):=by
 refine QK.mono (QCe (h.map Ob.ro) c hl) ?_;rintro d h' ⟨rfl,g,lq,rfl,h1,h2,h3⟩;refine⟨g,rfl,by rw[Kl],g,lq,rfl,h1,?_,λwj=>?_⟩
 ·rw[Kl]at h2;rw[Kf (by rw[Kl];omega),Kl]at h2;rw[Kf (by omega)];exact h2
 ·obtain⟨k,hk,Q⟩:=h3 wj;refine⟨k,hk,Q.step λl _ Jx=>?_⟩;have xz:h.length+2<=l:=by
   have:(h.map Ob.ro).length+2<=l:=Jx;rwa [Kl]at this
  exact⟨xz,by rw[Kf (by omega),Kf (by rw[Kl];omega),Kl]⟩
def QlH{c:Qw}(h:Qw.Ok c):(X0 c).Ok:=
 have z:(0:Nat)<18446744073709551616:=by decide
 ⟨z,⟨⟨Ln.wu,Ln.wu⟩,⟨Ln.wu,Ln.wu⟩,z,Z7 _,Z7 _⟩,⟨⟨Ln.wu,Ln.wu⟩,z⟩,⟨⟨Ln.wu,Ln.wu⟩,Z7 _⟩,h⟩
def QCo(A B:List Qw):(Ko A B).length<=A.length+B.length:=by
 have h1:=RN (λi=>(sorted (AJ A B)).getD i 0) (sorted (AJ A B)).length;have h2:(sorted (AJ A B)).length=(AJ A B).length:=IA _;have h3:(AJ A B).length<=(A.map (·.iD)++B.map (·.iD)).length:=qL _ _;have h4:(Ko A B).length<=(sorted (AJ A B)).length:=by simpa[Ko,j8] using h1
 simp at h3;omega
section
variable {T2:List Qw}(hr:XD T2)
include hr
theorem QCp(M:Qq)(j id:Int):Ql (Ki T2 M j).N id=if id=j then (QF T2 id).map X0 else Ql M.N id:=by
 unfold Ki;cases hf:QF T2 j with
 | none=>
  dsimp only;rw[G9];by_cases e:id=j
  ·subst e;rw[Qf rfl,Qf rfl,hf];rfl
  ·rw[Qd e,Qd e]
 | some c=>
  have nU:=((Vs hr).1 hf).2;have key:Ql (X0 c::kb M.N j) id=if id=j then (QF T2 id).map X0 else Ql M.N id:=by
   by_cases e:id=j
   ·subst e;rw[Qf rfl,hf];unfold Ql;rw[wR,show ((X0 c).c.iD==id)=true by rw[show (X0 c).c.iD=c.iD from rfl,nU];exact Aa _];rfl
   ·rw[Qd e];have:Ql (X0 c::kb M.N j) id=Ql (kb M.N j) id:=by
     unfold Ql;rw[wR,show ((X0 c).c.iD==id)=false by rw[show (X0 c).c.iD=c.iD from rfl,nU];exact J5 (λx=>e x.symm)]
    rw[this,G9,Qd e]
  dsimp only;split
  ·exact key
  ·exact key
theorem Ha(id:Int):∀(l:List Int) (M:Qq),Ql (l.foldl (Ki T2) M).N id=if id∈l then (QF T2 id).map X0 else Ql M.N id
 | [],M=>by simp
 | j::l,M=>by
  rw[Ba,Ha id l,QCp hr];by_cases h1:id∈l
  ·rw[Qf h1,Qf (KI _ h1)]
  ·rw[Qd h1];by_cases h2:id=j
   ·rw[Qf h2,Qf (by rw[h2];exact Vn)]
   ·rw[Qd h2,Qd (by simp[h1,h2])]
omit hr in
theorem QCq(M:Qq)(j id:Int):(Ki T2 M j).ks id=if id=j then (match QF T2 id with|none=>false|some c=>!c.leaf) else M.ks id:=by
 unfold Ki;by_cases e:id=j
 ·subst e;rw[Qf rfl];cases hf:QF T2 id with
  | none=>simp
  | some c=>cases hl:c.leaf<;>simp[hl]
 ·rw[Qd e];cases hf:QF T2 j with
  | none=>simp[e]
  | some c=>cases hl:c.leaf<;>simp[e,hl]
omit hr in
theorem QlI(id):∀(l:List Int) (M:Qq),(l.foldl (Ki T2) M).ks id=if id∈l then (match QF T2 id with|none=>false|some c=>!c.leaf) else M.ks id
 | [],M=>by simp
 | j::l,M=>by
  rw[Ba,QlI id l,QCq];by_cases h1:id∈l
  ·rw[Qf h1,Qf (KI _ h1)]
  ·rw[Qd h1];by_cases h2:id=j
   ·rw[Qf h2,Qf (by rw[h2];exact Vn)]
   ·rw[Qd h2,Qd (by simp[h1,h2])]
omit hr in
theorem QCr(M:Qq)(j id:Int){x}(h:x∈(Ki T2 M j).KT id):x∈M.KT id:=by
 unfold Ki at h;split at h
 ·exact h
 ·split at h
  ·exact h
  ·dsimp only at h;split at h
   ·cases h
   ·exact h
omit hr in
theorem nV(id){x}:∀(l:List Int) (M:Qq),x∈(l.foldl (Ki T2) M).KT id->x∈M.KT id
 | [],M,h=>h
 | j::l,M,h=>QCr M j id (nV id l (Ki T2 M j) h)
omit hr in
theorem QlJ(M:Qq)(j:Int):(Ki T2 M j).T=M.T/\(Ki T2 M j).Lv=M.Lv/\(Ki T2 M j).lk=M.lk/\(Ki T2 M j).Qh=M.Qh/\(Ki T2 M j).acc=M.acc:=by
 unfold Ki;split
 ·exact⟨rfl,rfl,rfl,rfl,rfl⟩
 ·split<;>exact⟨rfl,rfl,rfl,rfl,rfl⟩
omit hr in
theorem Lr:∀(l:List Int) (M:Qq),(l.foldl (Ki T2) M).T=M.T/\(l.foldl (Ki T2) M).Lv=M.Lv/\(l.foldl (Ki T2) M).lk=M.lk/\(l.foldl (Ki T2) M).Qh=M.Qh/\(l.foldl (Ki T2) M).acc=M.acc
 | [],M=>⟨rfl,rfl,rfl,rfl,rfl⟩
 | j::l,M=>by
  obtain⟨a1,a2,a3,a4,a5⟩:=Lr l (Ki T2 M j);obtain⟨b1,b2,b3,b4,b5⟩:=QlJ (T2:=T2) M j;rw[Ba];exact⟨a1.trans b1,a2.trans b2,a3.trans b3,a4.trans b4,a5.trans b5⟩
end
section
variable {M:Qq}{T2:List Qw}(I:Qy M)(I2:VR T2)
include I I2
theorem QlK(id:Int):(Ql (VK M T2).N id).map (·.c)=QF T2 id:=by
 unfold VK;rw[Ha I2.rising];by_cases h:id∈Ko M.T T2
 ·rw[Qf h];cases QF T2 id<;>rfl
 ·rw[Qd h];have:=λe=>h (Le.2 e);have e:QF M.T id=QF T2 id:=jM this;rw[<- e,I.find]
theorem QbU{c:Qw}(hc:c∈T2):Ql (VK M T2).N c.iD=some (QD (VK M T2) c.iD)/\(QD (VK M T2) c.iD).c=c:=by
 have h1:=QlK I I2 c.iD;rw[(Vs I2.rising).2 ⟨hc,rfl⟩]at h1;unfold QD;cases hn:Ql (VK M T2).N c.iD with
 | none=>rw[hn]at h1;cases h1
 | some n=>
  rw[hn,K0,Za]at h1;exact⟨rfl,h1⟩
theorem QlL:(X1 M T2).map (·.c)=T2:=by
 unfold X1;rw[xT]
 conv=>rhs;rw[<- List.map_id T2]
 exact Ec λc hc=>(QbU I I2 hc).2
theorem Ls:∀id,Ql (X1 M T2) id=Ql (VK M T2).N id:=λid=>by
 have h1:=Qbf (X1 M T2) id;rw[QlL I I2]at h1;have h2:=QlK I I2 id;cases hn:Ql (X1 M T2) id with
 | none=>
  rw[hn]at h1;rw[h1]at h2;cases hm:Ql (VK M T2).N id with
  | none=>rfl
  | some m=>rw[hm]at h2;cases h2
 | some n=>
  have Xn:n∈X1 M T2:=wS hn;have Zg:=Qy.id (M:=ze M T2) hn;obtain⟨c,hc,rfl⟩:=Jk.1 Xn;obtain⟨h3,h4⟩:=QbU I I2 hc;rw[h4]at Zg;rw[<- Zg,h3]
theorem bH(K2:yM T2){b}(hb:kf M T2 b=false)(Ca:∀x∈M.Lv,x.ki∈V6 M)(Si:∀id,∀x∈M.KT id,∃n∈V6 M,x.ki∈up M.T n):Qy (ze M T2):=by
 obtain⟨s1,s2,s3,s4,s5⟩:=Lr (T2:=T2) (Ko M.T T2) { M with T:=T2 };have hT:(ze M T2).T=T2:=s1;have PH:∀id,yS M id=true->QF T2 id=QF M.T id:=λid bI=>by
  refine jM λe=>?_;have hm:=Le.2 (λx=>e x.symm:QF M.T id≠QF T2 id);unfold kf at hb;rw[show (Ko M.T T2).any (yS M)=true from Eb.2 ⟨id,hm,bI⟩]at hb;cases hb
 have IF:∀x n,n∈V6 M->x∈up M.T n->yS M x=true:=λx n h1 h2=>Eb.2 ⟨n,h1,by simpa using h2⟩;have h0:(0:Int) ∉ Ko M.T T2:=λh=>by
  have f0:∀T:List Qw,VR T->QF T 0=none:=λT I=>by
   rw[IB];intro c hc e;have:=I.ids c hc;omega
  exact Le.1 h (by rw[f0 _ I.tree,f0 _ I2])
 refine⟨by rw[hT];exact I2,by rw[hT];exact K2,hT.symm,hT.trans (QlL I I2).symm,λa ha=>(List.not_mem_nil ha).elim,λid=>?_,λx hx=>?_,λid x hx=>?_,λid x hx=>?_,?_,?_⟩
 ·show (VK M T2).ks id=true↔id=0\/∃n,Ql (X1 M T2) id=some n/\n.c.leaf=false;rw[Ls I I2];unfold VK;rw[QlI,Ha I2.rising];by_cases h:id∈Ko M.T T2
  ·rw[Qf h,Qf h];have Qz:id≠0:=λe=>h0 (e▸h);cases QF T2 id with
   | none=>simp[Qz]
   | some c=>simp[Qz,X0]
  ·rw[Qd h,Qd h];exact I.ks id
 ·have Xg:x∈M.Lv:=by rw[<- s2];exact hx
  have hl:=Ca x Xg;obtain⟨n,hn,_,_⟩:=nR I (J8.1 (show x.ki∈(wH M.T).filter _ from hl)).1;have hs:x.ki∈up M.T x.ki:=by
   rw[lT I.tree,I.some hn];exact Vn
  rw[hT,PH _ (IF _ _ hl hs)];exact I.B2 x Xg
 ·have Xg:x∈M.KT id:=nV id (Ko M.T T2) { M with T:=T2 } hx;obtain⟨c,h1,h2⟩:=I.wC id x Xg;obtain⟨n,h3,h4⟩:=Si id x Xg;exact⟨c,by rw[hT,PH _ (IF _ _ h3 h4)];exact h1,h2⟩
 ·exact I.wD id x (nV id (Ko M.T T2) { M with T:=T2 } hx)
 ·show (VK M T2).Qh<=_;exact s4▸I.Qh
 ·show (VK M T2).acc<=_;exact s5▸I.acc
end
def QCs{c:Qw}(h:VP c=0):c.leaf=true->1<=c.Z5/\c.Z5<=64/\1<=c.bytes/\c.bytes<=1048576:=by
 intro hl;have h2:xp c=true:=by
  cases e:xp c with
  | true=>rfl
  | false=>
   exfalso;unfold VP at h;rw[hl,e]at h;simp only[Hx,Bool.and_true,Bool.true_or,K6]at h;split at h
   ·omega
   ·split at h<;>omega
 unfold xp BI at h2;simp only[Z9,XM]at h2;omega
def QCt(T2)(M:Qq)(id:Int):(Ki T2 M id).T=M.T:=by
 unfold Ki;split
 ·rfl
 ·split<;>rfl
def QbV(T2):∀(l:List Int) (M:Qq),(l.foldl (Ki T2) M).T=M.T
 | [],_=>rfl
 | id::l,M=>by rw[Ba,QbV T2 l,QCt]
def QCu{S}{h}{p}{T}{A}(O:j4 S h p T A)(leaf)(c:Qw)(hc:QF T leaf=some c)(jv:¬ 1<Q7 c.ls):
  QK prog 112 h [.ptr p 0 0 0,Qb leaf] (λd h'=>d=.tup [.nil,Qb 6]/\h'=h):=by
 obtain⟨b1,b2,b3,c1,c2,c3,Z4,Je,Vb,kl,O⟩:=O;have ho:=O.o;have m1:=O.m1;have k1:=O.f1.at_ leaf;rw[xw,hc]at k1;simp only[Qd jv]at k1;refine Q6 Qi 200 func112 rfl ntmps112 results112 rfl λbase w pl hb=>?_;have Qg:=Qc ho;have xy:=Qc m1;simp only[go_sem,Qa,ho,Qg,m1,xy,k1,Go.undef]
def QlM{T2}{a}:∀(l A:List Int),a∈l.foldl (xK T2) A->a∈l\/a∈A
 | [],A,h=>.inr h
 | id::l,A,h=>by
  rw[Ba]at h;rcases QlM l _ h with h|h
  ·exact .inl (KI _ h)
  ·unfold xK at h;split at h
   ·rcases QM.1 h with h|h
    ·exact .inl (h▸Vn)
    ·exact .inr h
   ·exact .inr h
def QCv{l:List Int}(h:l.Nodup){k}(hk:k<l.length):l.getD k 0 ∉ l.take k:=λh2=>by
 rw[<- HE k l,Km]at h;refine h.2.2 _ h2 (l.getD k 0) ?_ rfl;rw[Ze,QW hk,Tl hk];exact Vn
def QCw{M:Qq}{id}(h:id∈V6 M):id∈wH M.T:=by unfold V6 xF at h;exact(J8.1 h).1
def QCx{T:List Qw}(h:XD T):(wH T).Nodup:=by
 unfold wH;have h2:(T.filter (·.leaf)).Pairwise (λa b=>a.iD<b.iD):=ON _ h;rw[Tv,Ml];exact h2.imp λVo=>by omega
def QCy{M:Qq}(I:Qy M):(V6 M).Nodup:=ON _ (QCx I.tree.rising)
def QCz{own}{h}{p}{L}{M:Qq}(C:ZS own h p L M)(I:Qy M)(K:XK M.lk)(b)(l:List JH)(hc:∀c∈l,JH.Ok c)(hl:l.length<1000000)
  (Ca:∀x∈M.Lv,x.ki∈V6 M) (Si:∀id,∀x∈M.KT id,∃n∈V6 M,x.ki∈up M.T n) :
  QK prog 59 h [.ptr p 0 0 0,QJ b,aV l] (λd h'=>∃own' L' M',ZS own' h' p L' M'/\Qy M'/\ZO own h own' h' /\
   d=.tup [Qb (AQ M l),Qb (zX M b l)]/\M'=Ke M b l):=by
 have ho:=C.ob;refine Q6 Qi 200 func59 rfl ntmps59 results59 rfl λbase w pl hb=>?_;have Qg:=Qc ho;simp only[go_sem,Qa,ho,Qg];apply Va [10] hb [0,1,2,3,4,5,6,7,8,9,1010,11,12,13,14,15,16,17] [];simp only[go_sem,Qa,ho,Qg];have hT:=Qc C.ob;refine xv hb QuR (QA3 C.tr I.tree I.yN M.lk.t K.t1 K.t2 l hc hl) λd h1 hR=>?_;obtain⟨t2,rfl,Hb,g,rfl⟩:=hR;obtain⟨Ji,N6⟩:∃o,o=QX own h .tree:=⟨_,rfl⟩;have C1:ZS Ji (h++g) p L M:=by rw[N6];exact C.step λl hl _=>⟨Js hl,Qx hl⟩
 have D1:ZO own h Ji (h++g):=by rw[N6];exact ZO.app own h g .tree
 apply XF hb;by_cases hE:B1 M.T M.lk.t l=0;case neg=>
  have dE:(B1 M.T M.lk.t l != 0)=true:=by simpa using hE
  have e1:zX M b l=B1 M.T M.lk.t l:=by unfold zX;rw[Qf hE]
  have e2:AQ M l=RU M.T l:=by unfold AQ;rw[Qf hE]
  have e3:Ke M b l=M:=by unfold Ke;rw[e1,Qd hE]
  simp only[go_sem,Qa,dE];exact⟨Ji,L,M,C1,I,D1,by rw[e1,e2],e3.symm⟩
 have dE:(B1 M.T M.lk.t l != 0)=false:=by simpa using hE
 have VN:RU M.T l=0\/True:=.inr trivial;have R2:Wv (λl=>Ji l=.tree) (h++g) t2 (JM M.T l):=(Hb hE).step λl _ h1=>⟨by rw[N6];unfold QX;rw[Qf h1],rfl⟩;obtain⟨T2,Fl⟩:∃T2,T2=JM M.T l:=⟨_,rfl⟩;rw[<- Fl]at R2;obtain⟨I2,K2⟩:=RV I.tree I.yN hc;rw[<- Fl]at I2 K2;have ZI:=C1.ob;have KP:=Qc ZI;have hlen:=I.tree.len;have Sd:=I2.len;simp only[go_sem,Qa,dE,ZI,KP,Qf hE];have R1:=C1.tr.toR;have Sj:(Ko M.T T2).length<1000000:=by have:=QCo M.T T2;omega
 refine ZN hb QhG (QkW R1 R2.toR (by omega) (by omega)) λd hR=>?_;subst hR;refine Ye Qi hb 2 ?_;simp only[go_sem,Qa];first|refine Yu ?_|skip
 refine Lb (λst=>kf M T2 b=false/\st=⟨[(0,.ptr p 0 0 0),(1,QJ b),(6,Qb 0),(7,Qb 0),(8,.ptr t2 0 0 0),(11,ints (Ko M.T T2))],h++g⟩) ?_ ?_
 ·refine Qe hb ?_;simp only[go_sem,Qa,ZI,KP];refine ZN hb UD (QbR (h++g) (Ko M.T T2) Sj (.clo 107 1 [.ptr p 0 0 0]) 107 1 [.ptr p 0 0 0] QuS rfl (yS M) (λh' n hm hx=>?_)) λd hR=>?_
  ·have key:∀(l:Nat) (o:Ob),((h++g).map Ob.ro)[l]? = some o->(h'.map Ob.ro)[l]? = some o:=λl o e=>by
    obtain⟨g2,rfl⟩:=hx;have e2:=Z3 ((Qx (Qc e)).trans e:((h++g).map Ob.ro++g2)[l]? = some o);rw[e2];rw[KG]at e;obtain⟨o2,h2,rfl⟩:=Xv.1 e;rw[ro_ro]
   exact QCc (C1.ro.more key) I n
  subst hR;rw[UL];refine Qe hb ?_;obtain⟨own',QMi⟩:∃o,o=Ji:=⟨_,rfl⟩;have S7:kf M T2 b=true->∃own' L' M',ZS own' (h++g) p L' M'/\Qy M'/\ZO own h own' (h++g)/\D.tup [Qb 0,Qb 24]=.tup [Qb (AQ M l),Qb (zX M b l)]/\M'=Ke M b l:=λhB=>by
   have e1:zX M b l=24:=by unfold zX;rw[Qd (by rw[hE];simp),<- Fl,Qf hB]
   have e2:AQ M l=0:=by unfold AQ;rw[Qd (by rw[hE];simp)]
   have e3:Ke M b l=M:=by unfold Ke;rw[e1];rfl
   exact⟨Ji,L,M,C1,I,D1,by rw[e1,e2];rfl,e3.symm⟩
  cases KL:(Ko M.T T2).any (yS M) with
  | true=>
   simp only[go_sem,Qa];exact S7 (by unfold kf;rw[KL];rfl)
  | false=>
   simp only[go_sem,Qa,ZI,KP];cases yd:m9 M.T T2 with
   | false=>
    refine Z8 hb sZ rfl ?_ (QbT R1 R2.toR (by omega) (by omega) Sj) rfl λd hR=>?_
    ·simp only[go_sem,Qa,ZI,KP,yd]
    subst hR;refine Qe hb ?_;simp only[go_sem,Qa,ZI,KP,yd];refine⟨_,⟨by unfold kf;rw[KL,yd];rfl,rfl⟩,?_⟩;exact QQ
   | true=>
    cases b with
    | false=>
     refine Z8 hb sZ rfl ?_ (QbT R1 R2.toR (by omega) (by omega) Sj) rfl λd hR=>?_
     ·simp only[go_sem,Qa,ZI,KP,yd]
     subst hR;refine Qe hb ?_;simp only[go_sem,Qa,ZI,KP,yd];exact S7 (by unfold kf;rw[yd];simp)
    | true=>
     refine Z8 hb sZ rfl ?_ (QbT R1 R2.toR (by omega) (by omega) Sj) rfl λd hR=>?_
     ·simp only[go_sem,Qa,ZI,KP,yd]
     subst hR;refine Qe hb ?_;simp only[go_sem,Qa,ZI,KP,yd];refine ZN hb td (QbS C1.ro I) λd hR=>?_;subst hR;refine Qe hb ?_;simp only[go_sem,Qa,ZI,KP];cases hd:decide ((0:Int)<((V6 M).length:Int)) with
     | true=>
      simp only[go_sem,Qa,hd];exact S7 (by unfold kf;rw[yd];simp;right;simpa using hd)
     | false=>
      simp only[go_sem,Qa,hd];refine⟨_,⟨by unfold kf;rw[KL,yd];simp;simpa using hd,rfl⟩,?_⟩;exact QQ
 rintro st ⟨Yv,rfl⟩;have C2:=C1.QCh R2;have D2:=D1.trans (ZO.set (own:=Ji) (h:=h++g) (l:=p) (vp M.lk t2 L.b L.o L.v L.m M.Qh M.acc) (by rw[C1.op];decide));generalize hH2:(h++g).set p (vp M.lk t2 L.b L.o L.v L.m M.Qh M.acc)=H2 at C2 D2;have QCB:(h++g).set p ⟨.one,0,9,1,λ_=>[.raw (.int .i64 M.lk.t),.raw (.int .i64 M.lk.JK),.ptr t2 0 0 0,.mref L.b 0,.ptr L.o 0 0 0,.ptr L.v 0 0 0,.mref L.m 0,.raw (.int .u64 (M.Qh:Nat)),.raw (.int .u64 (M.acc:Nat))]⟩=H2:=hH2;refine Qe hb ?_;simp only[go_sem,Qa,ZI,KP,QCB];obtain⟨tl,QbX⟩:∃tl,tl=Ko M.T T2:=⟨_,rfl⟩;rw[<- QbX]at Sj;rw[<- QbX];refine Jg (λk st=>∃JC H L2,ZS JC H p L2 ((tl.take k).foldl (Ki T2) { M with T:=T2 })/\L2.t=t2/\ZO own h JC H/\st=⟨[(0,.ptr p 0 0 0),(6,Qb 0),(7,Qb 0),(8,.ptr t2 0 0 0),(71,ints tl),(72,Qb tl.length),(73,Qb k)],H⟩) tl.length (s0:=⟨[(0,.ptr p 0 0 0),(6,Qb 0),(7,Qb 0),(8,.ptr t2 0 0 0),(71,ints tl),(72,Qb tl.length),(73,Qb 0)],H2⟩) QQ ⟨Ji,H2,_,C2,rfl,D2,rfl⟩ ?_;rintro k st hk ⟨JC,H,L2,Ck,wa,Dk,rfl⟩;by_cases Qj:k<tl.length
 ·have dk:=Q5 Qj;obtain⟨id,Zg⟩:∃id,id=tl.getD k 0:=⟨_,rfl⟩;obtain⟨Mk,G1⟩:∃Mk,Mk=(tl.take k).foldl (Ki T2) { M with T:=T2 }:=⟨_,rfl⟩;have Jo:(tl.take (k+1)).foldl (Ki T2) { M with T:=T2 }=Ki T2 Mk id:=by
   rw[Ed,QW Qj,kz,<- G1,Zg,Ze,QW Qj];rfl
  have Sk:Mk.T=T2:=by rw[G1];exact QbV _ _ _
  rw[<- G1]at Ck;have QT:=JX (show k<4611686018427387904 by omega);have RT:XY H t2 T2:=by have:=Ck.tr.toR;rwa [wa,Sk]at this
  obtain⟨x,hx⟩:∃x,x=(QF T2 id).getD default:=⟨_,rfl⟩;have qQ:=Rs RT id;rw[<- hx]at qQ;have KJ:=Ck.ob;have YH:=Qc KJ;have jR:=Ck.VD;have QbY:=Qc jR;have Xk:=Ck.Wj;have EP:=Qc Xk;have Ia:L2.b≠L2.m:=λe=>by have:=Ck.ow;rw[e,Ck.om]at this;cases this
  have qV:L2.b≠p:=λe=>by have:=Ck.ow;rw[e,Ck.op]at this;cases this
  have hmp:L2.m≠p:=λe=>by have:=Ck.om;rw[e,Ck.op]at this;cases this
  refine Qe hb ?_;simp only[go_sem,Qa,dk,Qj,<- Zg];refine Z8 hb xo rfl ?_ qQ rfl λd hR=>?_
  ·simp only[go_sem,Qa,KJ,YH,jR,QbY,Xk,EP,Qk Ia,Qk qV]
  subst hR;refine Qe hb ?_;simp only[go_sem,Qa,KJ,YH,jR,QbY,Xk,EP,Qk Ia,Qk qV];have C3:=Ck.QCj id;have D3:=Dk.trans (ZO.set (own:=JC) (h:=H) (l:=L2.b) (QS .i64 L2.cb (Kg L2.eb id)) (by rw[Ck.ow];decide));have C4:=C3.QCk id;have D4:=D3.trans (ZO.set (own:=JC) (h:=H.set L2.b (QS .i64 L2.cb (Kg L2.eb id))) (l:=L2.m) (QS .i64 L2.cm (Kg L2.em id)) (by rw[Ck.om];decide));have C5:=C4.RW [⟨.one,0,14,1,λ_=>x.cells⟩];have D5:=D4.trans (ZO.app JC _ [⟨.one,0,14,1,λ_=>x.cells⟩] .no);have kX:((H.set L2.b (QS .i64 L2.cb (Kg L2.eb id))).set L2.m (QS .i64 L2.cm (Kg L2.em id))).length=H.length:=by simp
  generalize Lu:(H.set L2.b (QS .i64 L2.cb (Kg L2.eb id))).set L2.m (QS .i64 L2.cm (Kg L2.em id))++[⟨.one,0,14,1,λ_=>x.cells⟩]=H5 at C5 D5;have QbZ:=Lu;simp only[go_sem]at QbZ;have Vu:H5[H.length]? = some ⟨.one,0,14,1,λ_=>x.cells⟩:=by rw[<- Lu,<- kX,Kx rfl];rfl
  have Xs:=Qc Vu;generalize QX JC ((H.set L2.b (QS .i64 L2.cb (Kg L2.eb id))).set L2.m (QS .i64 L2.cm (Kg L2.em id))) .no=xI at C5 D5;have Fj:=C5.ob;have Sb:=Qc Fj;have bx:=C5.VD;have nG:=Qc bx;have hm5:=C5.Wj;have QMj:=Qc hm5;cases hf:QF T2 id with
  | none=>
   have e1:Ki T2 Mk id={ Mk with N:=kb Mk.N id,ks:=λj=>if j=id then false else Mk.ks j }:=by unfold Ki;rw[hf]
   have C5s:ZS xI H5 p { L2 with eb:=Kg L2.eb id,em:=Kg L2.em id } (Ki T2 Mk id):=by rw[e1];exact C5
   rw[hf]at qQ;simp only[go_sem,Qa,hf,xW,QbZ];exact⟨Qj,_,Qp.frame (by simp only[go_sem,QT]),xI,H5,{ L2 with eb:=Kg L2.eb id,em:=Kg L2.em id },(by rw[Jo];exact C5s),wa,D5,rfl⟩
  | some c=>
   have lD:x=c:=by rw[hx,hf];rfl
   obtain⟨Xn,nU⟩:=(Vs I2.rising).1 hf;subst lD;have CT:=QCs (I2.right x Xn);have qR:=QCn H5 x CT;simp only[go_sem,Qa,hf,wV,QbZ];apply QH hb [0,1,2,3,4,5,1006,1007];simp only[go_sem,Qa,Fj,Sb,Vu,Xs];refine Gl hb QuT rfl ?_ qR rfl λd g7 hR=>?_
   ·simp only[go_sem]
   obtain⟨rfl,g8,lq,hg8,QMk,E7,QCE⟩:=hR;obtain rfl:g7=g8:=List.append_cancel_left hg8;subst nU;obtain⟨jA,Qb0⟩:∃o:Nat->Tag,o=λl=>if l<H5.length then xI l else if l=H5.length then .no else if l=H5.length+1 then .yu x.iD else .zS x.iD:=⟨_,rfl⟩;have w7:∀l,l<H5.length->jA l=xI l:=λl hl=>by rw[Qb0];exact Qf hl
   have we:jA (H5.length+1)=.yu x.iD:=by rw[Qb0];dsimp only;rw[Qd (by omega),Qd (by omega),Qf rfl]
   have wq:∀l,H5.length+2<=l->jA l=.zS x.iD:=λl hl=>by rw[Qb0];dsimp only;rw[Qd (by omega),Qd (by omega),Qd (by omega)]
   have C7:=C5.step (own':=jA) (h':=H5++g7) λl hl _=>⟨w7 l hl,Qx hl⟩;have D7:ZO own h jA (H5++g7):=D5.trans ⟨w7,λl hl _=>Qx hl,by simp⟩;obtain⟨c8,es8,hm8,C8⟩:=C7.QCm (n:=X0 x) (e:=H5.length+1) (q:=lq) (by dsimp only;rw[G9];exact Qf rfl) E7 we (λwj=>by
    obtain⟨k8,N9,F0⟩:=QCE wj;exact⟨k8,N9,F0.step λl _ hl=>⟨wq l hl,rfl⟩⟩) (QlH (K2 x Xn))
   obtain⟨M8,T7⟩:∃M8,M8={ Mk with N:=X0 x::kb Mk.N x.iD,ks:=λj=>if j=x.iD then false else Mk.ks j }:=⟨_,rfl⟩;obtain⟨L8,tt⟩:∃L8:Loc,L8={ L2 with em:=Kg L2.em x.iD,cb:=c8,eb:=es8,le:=λj=>if j=x.iD then H5.length+1 else L2.le j,lq:=λj=>if j=x.iD then lq else L2.lq j }:=⟨_,rfl⟩;have C8:ZS jA ((H5++g7).set L2.b (J2 .i64 L2.cb (Kg L2.eb x.iD) x.iD (.ptr (H5.length+1) 0 0 0))) p L8 M8:=by rw[tt,T7];exact C8
   have l8t:L8.t=t2:=by rw[tt];exact wa
   have l8m:L8.m=L2.m:=by rw[tt]
   have D8:=D7.trans (ZO.set (own:=jA) (h:=H5++g7) (l:=L2.b) (J2 .i64 L2.cb (Kg L2.eb x.iD) x.iD (.ptr (H5.length+1) 0 0 0)) (by rw[C7.ow];decide));have eH:(H5++g7).set L2.b (J2 .i64 L2.cb (Kg L2.eb x.iD) x.iD (.ptr (H5.length+1) 0 0 0))=H5.set L2.b (J2 .i64 L2.cb (Kg L2.eb x.iD) x.iD (.ptr (H5.length+1) 0 0 0))++g7:=eI _ _ nG;have QCG:L2.b≠H.length:=λe=>by
    have h1:=Qc Ck.VD;omega
   have bJ:((H5++g7).set L2.b (J2 .i64 L2.cb (Kg L2.eb x.iD) x.iD (.ptr (H5.length+1) 0 0 0)))[H.length]? = some ⟨.one,0,14,1,λ_=>x.cells⟩:=(Qk QCG).trans ((Qx Xs).trans Vu);rw[eH]at bJ C8 D8;generalize hH8:H5.set L2.b (J2 .i64 L2.cb (Kg L2.eb x.iD) x.iD (.ptr (H5.length+1) 0 0 0))++g7=H8 at bJ C8 D8;have QlP:=Qc bJ;have ho8:=C8.ob;have QCI:=Qc ho8;have QlR:=C8.Wj;have QlS:=Qc QlR;refine Zr hb ?_;simp only[go_sem,Qa,bx,nG,hH8];cases wj:x.leaf with
   | true=>
    simp only[go_sem,Qa,bJ,QlP,wj];have e1:Ki T2 Mk x.iD=M8:=by unfold Ki;rw[hf,T7];dsimp only;rw[Qf wj]
    exact⟨Qj,_,Qp.frame (by simp only[go_sem,QT]),jA,H8,L8,(by rw[Jo,e1];exact C8),l8t,D8,rfl⟩
   | false=>
    simp only[go_sem,Qa,bJ,QlP,wj];have C9:=C8.step (own':=QX jA H8 (.YE x.iD)) (h':=H8++xJ H8.length) λl hl _=>⟨Js hl,Qx hl⟩;have D9:ZO own h (QX jA H8 (.YE x.iD)) (H8++xJ H8.length):=D8.trans (ZO.app jA H8 (xJ H8.length) (.YE x.iD));have un:∀l,H8.length<=l->QX jA H8 (.YE x.iD) l=.YE x.iD:=λl hl=>by unfold QX;rw[Qf hl]
    obtain⟨c10,QCK,QMn,AL⟩:=C9.QCl x.iD (k:=H8.length+2) (QbM (S:=λl=>QX jA H8 (.YE x.iD) l=.YE x.iD) (by rw[Kx rfl];rfl) (by rw[Vr (k:=1) rfl];rfl) (by rw[Vr (k:=2) rfl];rfl) (un _ (by omega)) (un _ (by omega)) (un _ (by omega)));have Lk:=D9.trans (ZO.set (own:=QX jA H8 (.YE x.iD)) (h:=H8++xJ H8.length) (l:=L8.m) (J2 .i64 L8.cm L8.em x.iD (.ptr (H8.length+2) 0 0 0)) (by rw[C9.om];decide));have eH2:(H8++xJ H8.length).set L8.m (J2 .i64 L8.cm L8.em x.iD (.ptr (H8.length+2) 0 0 0))=H8.set L8.m (J2 .i64 L8.cm L8.em x.iD (.ptr (H8.length+2) 0 0 0))++xJ H8.length:=eI _ _ QlS;rw[eH2]at AL Lk;generalize QCM:H8.set L8.m (J2 .i64 L8.cm L8.em x.iD (.ptr (H8.length+2) 0 0 0))++xJ H8.length=H10 at AL Lk;apply QH hb [0,1,2,3,4,1005,1006];simp only[go_sem,Qa,ho8,QCI];refine Gl hb QhC rfl ?_ (Qlz H8) rfl λd g9 hR=>?_
    ·simp only[go_sem]
    obtain⟨rfl,rfl⟩:=hR;refine Zr hb ?_;simp only[go_sem,Qa,QlR,QlS,QCM];have e1:Ki T2 Mk x.iD={ M8 with ks:=λj=>if j=x.iD then true else M8.ks j,KT:=λj=>if j=x.iD then [] else M8.KT j }:=by
     unfold Ki;rw[hf,T7];dsimp only;rw[Qd (by rw[wj];exact ky)];congr 1;funext j;by_cases e:j=x.iD
     ·rw[Qf e,Qf e]
     ·rw[Qd e,Qd e,Qd e]
    exact⟨Qj,_,Qp.frame (by simp only[go_sem,QT]),QX jA H8 (.YE x.iD),H10,{ L8 with cm:=c10,em:=QCK,lk:=λj=>if j=x.iD then H8.length+2 else L8.lk j },(by rw[Jo,e1];exact AL),l8t,Lk,rfl⟩
 ·have Ju:k=tl.length:=by omega
  subst Ju;have hTl:(tl.take tl.length).foldl (Ki T2) { M with T:=T2 }=VK M T2:=by rw[YO,QbX];rfl
  rw[hTl]at Ck;have Sk:(VK M T2).T=T2:=QbV _ _ _;have RT:XY H t2 T2:=by have:=Ck.tr.toR;rwa [wa,Sk]at this
  have dk:decide (tl.length<tl.length)=false:=QN (by omega);refine Qe hb ?_;simp only[go_sem,Qa,dk];apply QC hb;refine Jh hb QhD (Qjp RT I2) λd O5 hR=>?_;obtain⟨rfl,hO,g11,rfl⟩:=hR;have C11:=Ck.step (own':=QX JC H .on) (h':=H++g11) λl hl _=>⟨Js hl,Qx hl⟩;have D11:=Dk.trans (ZO.app JC H g11 .on);have MN:j4 (λl=>QX JC H .on l=.on) (H++g11) (H.length+3) T2 []:=hO.step λl _ hl=>⟨by unfold QX;rw[Qf hl],rfl⟩;have C12:=C11.QCi MN;have bK:=D11.trans (ZO.set (own:=QX JC H .on) (h:=H++g11) (l:=p) (vp (VK M T2).lk L2.t L2.b (H.length+3) L2.v L2.m (VK M T2).Qh (VK M T2).acc) (by rw[C11.op];decide));have Sl:ZS _ _ p { L2 with o:=H.length+3 } (ze M T2):=C12.congrN (N:=X1 M T2) (Ls I I2);have Sm:Qy (ze M T2):=bH I I2 K2 Yv Ca Si;have bL:=C11.ob;have QCQ:=Qc bL;generalize Wi:(VK M T2).lk=lk9 at Sl bK bL;generalize QMo:(VK M T2).Qh=QlT at Sl bK bL;generalize QBH:(VK M T2).acc=QlU at Sl bK bL;generalize QCR:(H++g11).set p (vp lk9 L2.t L2.b (H.length+3) L2.v L2.m QlT QlU)=H12 at Sl bK;have QCS:(H++g11).set p ⟨.one,0,9,1,λ_=>[.raw (.int .i64 lk9.t),.raw (.int .i64 lk9.JK),.ptr L2.t 0 0 0,.mref L2.b 0,.ptr (H.length+3) 0 0 0,.ptr L2.v 0 0 0,.mref L2.m 0,.raw (.int .u64 (QlT:Nat)),.raw (.int .u64 (QlU:Nat))]⟩=H12:=QCR;refine Qe hb ?_;simp only[go_sem,Qa,bL,QCQ,QCS];refine ZN hb td (QbS Sl.ro Sm) λd hR=>?_;subst hR;apply QC hb;obtain⟨ll,qi⟩:∃ll,ll=V6 (ze M T2):=⟨_,rfl⟩;have QMp:ll.length<=64:=by rw[qi];exact QlC Sm
  rw[<- qi];refine Jg (λk st=>∃YI H3,ZS YI H3 p { L2 with o:=H.length+3 } { ze M T2 with A:=(ll.take k).foldl (xK T2) [] }/\Qy { ze M T2 with A:=(ll.take k).foldl (xK T2) [] }/\ZO own h YI H3/\st=⟨[(0,.ptr p 0 0 0),(6,Qb 0),(7,Qb 0),(122,ints ll),(123,Qb ll.length),(124,Qb k)],H3⟩) ll.length (s0:=⟨[(0,.ptr p 0 0 0),(6,Qb 0),(7,Qb 0),(122,ints ll),(123,Qb ll.length),(124,Qb 0)],H12⟩) QQ ⟨_,H12,Sl,Sm,bK,rfl⟩ ?_;rintro k st hk ⟨YI,H3,Lw,Oa,Dk3,rfl⟩;by_cases jW:k<ll.length
  ·have o4:=Q5 jW;obtain⟨id,Zg⟩:∃id,id=ll.getD k 0:=⟨_,rfl⟩;have QT:=JX (show k<4611686018427387904 by omega);obtain⟨Ak,o6⟩:∃Ak,Ak=(ll.take k).foldl (xK T2) []:=⟨_,rfl⟩;have Jo:(ll.take (k+1)).foldl (xK T2) []=xK T2 Ak id:=by
    rw[Ed,QW jW,kz,<- o6,Zg,Ze,QW jW];rfl
   rw[<- o6]at Lw Oa;have QCT:id∈V6 (ze M T2):=by rw[<- qi,Zg];exact nQ jW
   obtain⟨nd,hn,wj,PB⟩:=nR Sm (id:=id) (QCw QCT);have WZ:QF T2 id=some nd.c:=by have:=Sm.some hn;rwa [show (ze M T2).T=T2 from Sk]at this
   have jv:xK T2 Ak id=if 1<Q7 nd.c.ls then id::Ak else Ak:=by unfold xK;rw[WZ];rfl
   have Jy:JB T2 Ak id=false:=by
    rw[jK];intro h9;have h8:=(nA I2 WZ wj Ak).1 h9;rw[o6]at h8;rcases QlM _ _ h8 with h7|h7
    ·have ZY:ll.Nodup:=by rw[qi];exact QCy Sm
     rw[Zg]at h7;exact QCv ZY jW h7
    ·cases h7
   have XJ:=Lw.ob;have j9:=Qc XJ;refine Qe hb ?_;simp only[go_sem,Qa,o4,jW,<- Zg,XJ,j9];by_cases hs:1<Q7 nd.c.ls
   ·rw[Qf hs]at jv;refine Jh hb te (Qjk Lw.q8 I2 (by have:=Oa.Yl;rwa [show ({ ze M T2 with A:=Ak }:Qq).T=T2 from Sk]at this) id nd.c WZ wj hs Jy) λd h4 hR=>?_;obtain⟨d1,rfl,yh,O4,s4⟩:=hR;have C4:=Lw.act O4 s4;have I4:Qy { ze M T2 with A:=id::Ak }:=Oa.act (λa ha=>by
     rcases QM.1 ha with e|e
     ·exact⟨nd.c,by rw[e,show ({ ze M T2 with A:=Ak }:Qq).T=T2 from Sk];exact WZ,wj,hs⟩
     ·exact Oa.Yl a e)
    have D4:=Dk3.trans (ZO.of (t:=.on) (by simp) s4);apply QC hb;exact⟨jW,_,Qp.frame (by simp only[go_sem,QT]),_,h4,by rw[Jo,jv];exact C4,by rw[Jo,jv];exact I4,D4,rfl⟩
   ·rw[Qd hs]at jv;refine Jh hb te (QCu Lw.q8 id nd.c WZ hs) λd h4 hR=>?_;obtain⟨rfl,rfl⟩:=hR;apply QC hb;exact⟨jW,_,Qp.frame (by simp only[go_sem,QT]),YI,h4,by rw[Jo,jv];exact Lw,by rw[Jo,jv];exact Oa,Dk3,rfl⟩
  ·have Ew:k=ll.length:=by omega
   subst Ew;have o4:decide (ll.length<ll.length)=false:=QN (by omega);have e1:zX M b l=0:=by unfold zX;rw[Qd (by rw[hE];simp),<- Fl,Qd (by rw[Yv];exact ky)]
   have e2:AQ M l=0:=by unfold AQ;rw[Qd (by rw[hE];simp)]
   have e3:Ke M b l={ ze M T2 with A:=ll.foldl (xK T2) [] }:=by unfold Ke;rw[Qf e1,<- Fl,qi];rfl
   rw[YO,<- e3]at Lw Oa;refine Qe hb ?_;simp only[go_sem,Qa,o4];apply QC hb;exact⟨YI,_,_,Lw,Oa,Dk3,by rw[e1,e2];rfl,rfl⟩
section
variable {h:List Ob}{p:Nat}{L:Loc}{M:Qq}(C:Yn h p L M)
include C
def bM(L:List It):Nat:=match L.head? with
 | some x=>min x.ka never
 | none=>never
def KQ(M:Qq):Nat:=min (bM M.Lv) (xA (M.KT 0))
theorem QlV(I:Qy M):QV prog 135 h [.ptr p 0 0 0] (λd=>d=u64 (KQ M)):=by
 have ho:=C.ob;have hm:=C.Wj;have Eu:M.ks 0=true:=(I.ks 0).2 (.inl rfl);have za:=C.Yk.at_ 0;rw[Qf Eu]at za;have hK:=C.kids 0 Eu;refine Zq Qi 200 func135 rfl ntmps135 results135 rfl λbase w pl F hF Q3 hb=>?_;rw[<- hF]at ho hm;have Qg:=Qc ho;have QG:=Qc hm;simp only[go_sem,Qa,ho,Qg,hm,QG,za];apply QH hb [0,1,2,3,5,6,7,8,9,1004,1010,11,12];simp only[go_sem,Qa,ho,Qg,hm,QG,za];have hN:QV prog 175 F [.ptr L.v 0 0 0] (λd=>d=u64 (bM M.Lv)):=Qx7 (C.YF.more (Kh hF));refine Yh hb Qvu hN λd hR=>?_;subst hR;refine Zr hb ?_;simp only[go_sem,Qa,ho,Qg];refine Yh hb th (u7 (hK.more (Kh hF)) (I.wD 0)) λd hR=>?_;subst hR;refine Zr hb ?_;simp only[go_sem,Qa,ho,Qg];refine⟨[],(QU F).symm,?_⟩;unfold KQ;rw[Nat.min_def,Int.min_def];congr 2;split<;>split<;>omega
end
def QCU{own}{h:List Ob}{p}{L}{M:Qq}(C:ZS own h p L M):QK prog 70 h [.ptr p 0 0 0] (λd h'=>d=.ptr (h.length+1) 0 0 0/\Wv (λl=>h.length<=l) h' (h.length+1) M.T/\∃g,h'=h++g/\g.length=2):=by
 have ho:=C.ob;refine Q6 Qi 200 func70 rfl ntmps70 results70 rfl λbase w pl hb=>?_;have Qg:=Qc ho;simp only[go_sem,Qa,ho,Qg];refine Jh hb QhJ (Qj4 C.tr) λd h2 hR=>?_;obtain⟨rfl,R,g,rfl,hg⟩:=hR;apply QC hb;exact⟨R,g,rfl,hg⟩
def Yn.nW{h}{p}{L:Loc}{M:Qq}(C:Yn h p L M)(I:Qy M):IM h L.o M.T M.A:=by
 have:=C.q8;rwa [I.to]at this
def QCV{h}{p}{L:Loc}{M:Qq}(C:Yn h p L M)(I:Qy M){id}{n}(hn:Ql M.N id=some n):QV prog 138 h [.ptr p 0 0 0,.ptr (L.le id) 0 0 0] (λd=>d=u64 (VE M id n)):=by
 have ho:=C.ob;have he:=C.JF id n hn;have hm:=C.Wj;have Zg:=Qy.id hn;have Am:=EX (C.nW I) I.tree I.Yl id (I.Li hn);unfold VE;cases hl:n.c.leaf with
 | true=>
  rw[Qf (.inl rfl)];refine Zq Qi 200 func138 rfl ntmps138 results138 rfl λbase w pl F hF Q3 hb=>?_;rw[<- hF]at ho he;have Qg:=Qc ho;have ZZ:=Qc he;simp only[go_sem,Qa,ho,Qg,he,ZZ];apply QH hb [0,1,2,3,4,5,6,7,8,9,10,11,12,13,14,1015,16,17];simp only[go_sem,Qa,ho,Qg,he,ZZ,hl,Go.undef];all_goals first|exact⟨_,rfl,rfl⟩|exact⟨_,rfl⟩|rfl|exact⟨[],(QU _).symm⟩|exact⟨[],(QU _).symm,rfl⟩
 | false=>
  have qB:M.ks id=true:=(I.ks id).2 (.inr ⟨n,hn,hl⟩);have za:=C.Yk.at_ id;rw[Qf qB]at za;have hT:=C.kids id qB;have jX:JB M.T M.A id=JR M id:=rfl;rw[jX]at Am;cases ha:JR M id with
  | false=>
   rw[ha]at Am;rw[Qf (.inr rfl)];refine Zq Qi 200 func138 rfl ntmps138 results138 rfl λbase w pl F hF Q3 hb=>?_;rw[<- hF]at ho he;have Qg:=Qc ho;have ZZ:=Qc he;simp only[go_sem,Qa,ho,Qg,he,ZZ];apply QH hb [0,1,2,3,4,5,6,7,8,9,10,11,12,13,14,1015,16,17];simp only[go_sem,Qa,ho,Qg,he,ZZ,hl,Go.undef];have yO:JB M.T M.A id=false:=ha;refine Xj hb Ix rfl ?_ (EX ((C.nW I).more (Kh hF)) I.tree I.Yl id (I.Li hn)) rfl λd hR=>?_
   ·simp only[go_sem,Qa,ho,Qg,he,ZZ,hl,Go.undef,Zg,yO]
   subst hR;refine Zr hb ?_;simp only[go_sem,Qa,ho,Qg,he,ZZ,hl,Go.undef,Zg,yO];all_goals first|exact⟨_,rfl,rfl⟩|exact⟨_,rfl⟩|rfl|exact⟨[],(QU _).symm⟩|exact⟨[],(QU _).symm,rfl⟩
  | true=>
   rw[ha]at Am;rw[Qd (by simp)];have yO:JB M.T M.A id=true:=ha;refine Zq Qi 200 func138 rfl ntmps138 results138 rfl λbase w pl F hF Q3 hb=>?_;rw[<- hF]at ho he hm;have Qg:=Qc ho;have ZZ:=Qc he;have QG:=Qc hm;simp only[go_sem,Qa,ho,Qg,he,ZZ,hm,QG];apply QH hb [0,1,2,3,4,5,6,7,8,9,10,11,12,13,14,1015,16,17];simp only[go_sem,Qa,ho,Qg,he,ZZ,hl,Go.undef];refine Xj hb Ix rfl ?_ (EX ((C.nW I).more (Kh hF)) I.tree I.Yl id (I.Li hn)) rfl λd hR=>?_
   ·simp only[go_sem,Qa,ho,Qg,he,ZZ,hl,Go.undef,Zg,yO]
   subst hR;refine Zr hb ?_;simp only[go_sem,Qa,ho,Qg,he,ZZ,hl,Go.undef,Zg,yO];apply QH hb [0,1,2,3,4,5,6,7,8,9,10,11,12,13,14,1015,1016,17];simp only[go_sem,Qa,ho,Qg,he,ZZ,hm,QG,za,Zg];refine Yh hb th (u7 (hT.more (Kh hF)) (I.wD id)) λd hR=>?_;subst hR;refine Zr hb ?_;simp only[go_sem,Qa,ho,Qg,he,ZZ,hm,QG];refine Rp hb QhQ (Qj3 n.cp.fit (xA (M.KT id))) (Qn.flat rfl) λd h hR=>?_;obtain⟨rfl,rfl⟩:=hR;apply XF hb;all_goals first|exact⟨_,rfl,rfl⟩|exact⟨_,rfl⟩|rfl|exact⟨[],(QU _).symm⟩|exact⟨[],(QU _).symm,rfl⟩
def QCW(h):QV prog 139 h [.raw (.pointer none)] (λd=>d=.agg (⟨[],0,0,0,0,0,0⟩:Qu).ay):=by
 refine Zq Qi 200 func139 rfl ntmps139 results139 rfl λbase w pl F hF Q3 hb=>?_;simp only[go_sem,Qa];exact⟨_,rfl⟩
def QlW(M:Qq)(id:Int)(n:Nd):List D:=n.c.cells++(QJ (JR M id)::u64 n.Jz::(n.du.cells++(n.sh.cells++(n.cp.cells++(u64 (VE M id n)::n.q.ay)))))
def QCX{h}{p}{L}{M:Qq}(C:Yn h p L M)(I:Qy M){id}{n:Nd}(hn:Ql M.N id=some n)(hq:n.c.leaf=false->n.q=⟨[],0,0,0,0,0,0⟩):
  QV prog 84 h [.ptr p 0 0 0,Qb id] (λd=>d=.tup [.agg (QlW M id n),Qb 0]):=by
 have ho:=C.ob;have hy:=C.VD;have he:=C.JF id n hn;have Wi:=C.look hn;have Zg:=Qy.id hn;refine jT Qi 200 func84 rfl ntmps84 results84 rfl λbase w pl F hF Q3 hb=>?_;rw[<- hF]at ho hy he;have Qg:=Qc ho;have Wt:=Qc hy;have ZZ:=Qc he;simp only[go_sem,Qa,ho,Qg,hy,Wt,he,ZZ,Wi];apply QH hb [0,1,2,3,4,5,6,7,8,10,11,12,13,14,15,16,17,18,19,20,21,22,23,24,25,26,27,29,30,31,32,1009,1028,1033,34,1035,36];simp only[go_sem,Qa,ho,Qg,hy,Wt,he,ZZ,Wi];have CF:=λG:List Ob=>(C.more (Kh hF)).more (yE (g:=G));refine Yh hb Ix (EX ((CF _).nW I) I.tree I.Yl id (I.Li hn)) λd hR=>?_;subst hR;refine Zr hb ?_;simp only[go_sem,Qa,ho,Qg,he,ZZ];refine Yh hb QhL (QCV (CF _) I hn) λd hR=>?_;subst hR;refine Zr hb ?_;simp only[go_sem,Qa,ho,Qg,he,ZZ];have hC:∀G:List Ob,QV prog 139 (F++G) [qD L.lq n] (λd=>d=.agg n.q.ay):=λG=>by
  unfold qD;cases hl:n.c.leaf with
  | true=>
   obtain⟨k,_,Q⟩:=(CF G).Wy id n hn hl;rw[Qf rfl,Zg];exact QyO Q
  | false=>
   rw[Qd ky,hq hl];exact QCW _
 refine Xj hb Qva rfl ?_ (hC _) rfl λd hR=>?_
 ·simp only[go_sem,Qa];exact Df _
 subst hR;refine Zr hb ?_;simp only[go_sem,Qa,ho,Qg,he,ZZ];exact⟨_,rfl,rfl⟩
end Go.Fg.X
namespace Go.Fg.X
open Go.Proofs Go.Fg
end Go.Fg.X
namespace Go.Fg.X
open Go.Proofs Go.Fg
open Go.Proofs.Tryz
def jD(l:List Pk):D:=.imm 6 l.length (Pk.rows l)
def Oc(n:Nat)(H:List Ob)(d:D)(L:List Pk):Prop:=(d=.nil/\L=[])\/∃lo g row,d=.ref lo g 0 L.length/\n<=lo/\H[lo]? = some ⟨.arr,g,6,L.length,row⟩/\∀i,i<L.length->row i=(L.getD i default).cells
def Oc.closed{P}{f}{h:List Ob}{args}{L}(H:Wf P f h args (λd g=>Oc h.length (h++g) d L)):QV P f h args (λd=>d=jD L):=by
 refine uM (jD L) (λ_=>rfl) ?_ H;rintro d g (⟨rfl,h3⟩|⟨lo,gn,row,rfl,Zm,ho,hr⟩)
 ·subst h3;exact .inl rfl
 ·refine .inr ⟨lo,gn,6,_,row,Zm,ho,λi hi=>?_,?_⟩
  ·rw[hr i hi];rfl
  ·have e1:D.fz lo gn L.length 6 row (.ref lo gn 0 L.length)=.imm 6 L.length (rowFrom 0 row):=by simp[D.fz,Gf]
   rw[e1];simp only[jD];rw[Uy];refine⟨rfl,rfl,λi hi=>?_⟩;rw[Ip,JV,hr i hi,Pk.yn];exact BD (kP _) _
def QCY{dn:List Pk}{row}{v:Pk}(hr:∀i,i<dn.length->row i=(dn.getD i default).cells):∀i,i<(dn++[v]).length->J1 dn.length 0 row (λ_=>v.cells) i=((dn++[v]).getD i default).cells:=λi hi=>by
 simp at hi;by_cases h1:i<dn.length
 ·rw[Ad h1,JV,hr i h1];simp[Ze,h1,JD h1]
 ·have:i=dn.length:=by omega
  subst this;rw[vL (QB _)];simp[Ze]
def QCZ{h:List Ob}{p Z5}{room}{q:Qu}(Q:IY h p Z5 room q):Wf prog 121 h [.ptr p 0 0 0] (λd g=>Oc h.length (h++g) d q.l):=by
 have Q0:=Q;obtain⟨r,ho,hr⟩:=Q;have hlen:q.l.length<=64:=by
  obtain⟨a,f,row,T⟩:=hr;have:=T.len;have:=T.yG;omega
 refine jT Qi 200 func121 rfl ntmps121 results121 rfl λbase w pl F hF Q3 hb=>?_;rw[<- hF]at ho;have Qg:=Qc ho;simp only[go_sem,Qa,ho,Qg];refine ZN hb Gm (IZ (Q0.more (Kh hF))) λd hR=>?_;subst hR;apply QC hb;refine Jg (λk st=>∃d H,Oc F.length H d (q.l.take k)/\Vt F H/\st=⟨[(0,.ptr p 0 0 0),(3,d),(8,Qb q.l.length),(9,Qb k)],H⟩) q.l.length (s0:=⟨[(0,.ptr p 0 0 0),(3,.nil),(8,Qb q.l.length),(9,Qb 0)],F⟩) QQ ⟨.nil,F,.inl ⟨rfl,rfl⟩,Vt.refl F,rfl⟩ ?_;rintro k st hk ⟨d,H,hs,hx,rfl⟩;by_cases Qj:k<q.l.length
 ·have dk:=Q5 Qj;have QT:=JX (show k<4611686018427387904 by omega);obtain⟨x,hxk⟩:∃x,x=q.l.getD k default:=⟨_,rfl⟩;have Jo:q.l.take (k+1)=q.l.take k++[x]:=by rw[getD_take q.l default k Qj,<- hxk]
  have hRH:Rz H r Z5 q.l:=by
   obtain⟨g,rfl⟩:=hx;exact(hr.more (Kh hF)).more yE
  have VN:=u9 hRH.choose_spec.choose_spec.choose_spec k Qj;rw[<- hxk]at VN;have KJ:=hx.get ho;have YH:=Qc KJ;refine Qe hb ?_;simp only[go_sem,Qa,dk,Qj,KJ,YH];refine ZN hb tf VN λd hR=>?_;subst hR;refine Qe hb ?_;simp only[go_sem,Qa,KJ,YH];rcases hs with ⟨rfl,XZ⟩|⟨lo,g,row,rfl,Zm,Aq,BR⟩
  ·simp only[go_sem,Qa,Go.undef];refine⟨Qj,_,Qp.frame (fr':=[(0,.ptr p 0 0 0),(3,.ref (H.length+2) 0 0 1),(8,Qb q.l.length),(9,Qb (k+1:Nat))]) (by simp only[go_sem,QT]),.ref (H.length+2) 0 0 1,_,.inr ⟨H.length+2,0,λ_=>x.cells,?_,?_,?_,?_⟩,hx.app _,rfl⟩
   ·rw[Jo,XZ];rfl
   ·have:=hx.len;omega
   ·rw[Jo,XZ,Vr (k:=2) rfl];rfl
   ·rw[Jo,XZ];intro i hi;obtain rfl:i=0:=by simp at hi;omega
    rfl
  ·have Qca:=Qc Aq;simp only[go_sem,Qa,Go.undef,Aq,Qca];have YT:(q.l.take k).length=k:=by rw[FL];omega
   refine⟨by omega,Qj,_,Qp.frame (fr':=[(0,.ptr p 0 0 0),(3,.ref lo (g+1) 0 ((q.l.take k).length+1)),(8,Qb q.l.length),(9,Qb (k+1:Nat))]) (by simp only[go_sem,QT]),.ref lo (g+1) 0 ((q.l.take k).length+1),_,.inr ⟨lo,g+1,J1 (q.l.take k).length 0 row (λ_=>x.cells),?_,Zm,?_,?_⟩,(hx.set Zm _).app _,rfl⟩
   ·rw[Jo];simp
   ·rw[Jo,Qx (by simpa using Qca),Qs Qca];simp;rfl
   ·rw[Jo];exact QCY BR
 ·have Ju:k=q.l.length:=by omega
  subst Ju;have dk:decide (q.l.length<q.l.length)=false:=QN (by omega);rw[YO]at hs;refine Qe hb ?_;simp only[go_sem,Qa,dk];apply QC hb;obtain⟨g,rfl⟩:=hx;refine⟨g,rfl,?_⟩;rcases hs with x|⟨lo,gg,row,h1,h2,h3,h4⟩
  ·exact .inl x
  ·refine .inr ⟨lo,gg,row,h1,by omega,?_,h4⟩;rw[Kf (by omega)]at h3 ⊢;rw[<- Q3];exact h3
def QC1{h}{p Z5}{room}{q:Qu}(Q:IY h p Z5 room q):QV prog 121 h [.ptr p 0 0 0] (λd=>d=jD q.l):=Oc.closed (QCZ Q)
def QC2(h):QV prog 121 h [.raw (.pointer none)] (λd=>d=.nil):=by
 refine jT Qi 200 func121 rfl ntmps121 results121 rfl λbase w pl F hF Q3 hb=>?_;simp only[go_sem,Qa];have hL:QV prog 118 F [.raw (.pointer none)] (λd=>d=Qb 0):=by
  clear Q3 hF;generalize F=h;refine Zq Qi 200 func118 rfl ntmps118 results118 rfl λbase w pl F hF Q3 hb=>?_;simp only[go_sem,Qa];exact⟨[],(QU F).symm⟩
 refine ZN hb Gm hL λd hR=>?_;subst hR;apply QC hb;refine xu 1 ?_;apply Zi hb;apply QC hb;exact⟨[],(QU F).symm⟩
def QC3{h}{p}{L}{M:Qq}(C:Yn h p L M){id}(hn:Ql M.N id=none):QV prog 71 h [.ptr p 0 0 0,Qb id] (λd=>d=.nil):=by
 have ho:=C.ob;have hy:=C.VD;have Wi:=C.XI.at_ id;rw[hn,zq]at Wi;refine jT Qi 200 func71 rfl ntmps71 results71 rfl λbase w pl F hF Q3 hb=>?_;rw[<- hF]at ho hy;have Qg:=Qc ho;have Wt:=Qc hy;simp only[go_sem,Qa,ho,Qg,hy,Wt,Wi];exact⟨[],(QU F).symm⟩
def QC4{h}{p}{L}{M:Qq}(C:Yn h p L M){id}{n:Nd}(hn:Ql M.N id=some n):QV prog 71 h [.ptr p 0 0 0,Qb id] (λd=>d=if n.c.leaf=true then jD n.q.l else .nil):=by
 have ho:=C.ob;have hy:=C.VD;have he:=C.JF id n hn;have Wi:=C.look hn;have Zg:=Qy.id hn;refine jT Qi 200 func71 rfl ntmps71 results71 rfl λbase w pl F hF Q3 hb=>?_;rw[<- hF]at ho hy he;have Qg:=Qc ho;have Wt:=Qc hy;have ZZ:=Qc he;simp only[go_sem,Qa,ho,Qg,hy,Wt,he,ZZ,Wi];have CF:=C.more (Kh hF);have hC:QV prog 121 F [qD L.lq n] (λd=>d=if n.c.leaf=true then jD n.q.l else .nil):=by
  unfold qD;cases hl:n.c.leaf with
  | true=>
   obtain⟨k,_,Q⟩:=CF.Wy id n hn hl;rw[Qf rfl,Qf rfl,Zg];exact QC1 Q
  | false=>
   rw[Qd ky,Qd ky];exact QC2 _
 refine Z8 hb QuX rfl ?_ hC rfl λd hR=>?_
 ·simp only[go_sem,Qa];exact Df _
 subst hR;apply QC hb;exact⟨[],(QU F).symm,by split<;>rfl⟩
def yT(M:Qq)(id:Int):Nat:=(QD M id).q.l.length
def xM(M:Qq)(id:Int):Nat:=Wa (QD M id).q.l
def X2(f:Int->Nat)(l:List Int):Nat:=(l.map f).sum
structure QC7 (p m c:Nat) (es:List ZU) (M:Qq) (F:List Ob) (n:Nat) (s:St):Prop where
 ex:∃seen out H,xq es seen=n/\Vt F H/\out.Perm ((es.filter λe=>seen.contains e.b&&true).map (·.k))/\H[F.length]? = some (XO m c c seen) /\
  s=⟨[(0,.ptr p 0 0 0),(4,Qb (X2 (yT M) out)),(5,Qb (X2 (xM M) out)),(14,.mref F.length 0)],H⟩
structure Good (M:Qq):Prop where
 lv:∀x∈M.Lv,∃n,Ql M.N x.ki=some n/\n.c.leaf=true/\n.q.l≠[]
 kt:∀id,∀x∈M.KT id,JR M x.ki=true
 act:∀id,id∈M.A↔∃n,Ql M.N id=some n/\n.c.leaf=true/\n.q.l≠[]/\1<Q7 n.c.ls
section
variable {M:Qq}(I:Qy M)(G:Good M)
include I G
theorem Good.Ql1{id}{n:Nd}(hn:Ql M.N id=some n)(hl:n.c.leaf=true)(hq:n.q.l≠[]):id∈V6 M:=by
 have hc:=I.some hn;obtain⟨h1,h2⟩:=(Vs I.tree.rising).1 hc;refine J8.2 ⟨Jk.2 ⟨n.c,J8.2 ⟨h1,hl⟩,h2⟩,?_⟩;unfold G8 QD;rw[hn];cases BW:n.q.l with
 | nil=>exact absurd BW hq
 | cons x l=>simp[BW]
theorem Good.hA(cls):∀n,Ql M.N cls=some n->n.c.leaf=true->n.q.l=[]->cls ∉ M.A:=λn hn hl hq ha=>by
 obtain⟨m,hm,_,h3,_⟩:=(G.act cls).1 ha;rw[hn]at hm;cases hm;exact h3 hq
theorem Good.Ca:∀x∈M.Lv,x.ki∈V6 M:=λx hx=>by
 obtain⟨n,h1,h2,h3⟩:=G.lv x hx;exact Good.Ql1 I G h1 h2 h3
theorem Good.Si:∀id,∀x∈M.KT id,∃n∈V6 M,x.ki∈up M.T n:=λid x hx=>by
 obtain⟨a,ha,hu⟩:=qw.1 (G.kt id x hx);obtain⟨n,h1,h2,h3,_⟩:=(G.act a).1 ha;exact⟨a,Good.Ql1 I G h1 h2 h3,hu⟩
theorem Good.leaf{id}{n:Nd}(hn:Ql M.N id=some n)(hl:n.c.leaf=true)(ha:JR M id=true):n.q.l≠[]/\id∈M.A:=by
 have h1:=(nA I.tree (I.some hn) hl M.A).1 ha;obtain⟨m,hm,_,h3,_⟩:=(G.act id).1 h1;rw[hn]at hm;cases hm;exact⟨h3,h1⟩
theorem Good.share(now):∀k p id,B3 M now k p=some id->∃n,Ql M.N id=some n/\n.c.leaf=true/\JR M id=true
 | 0,_,_,h=>by cases h
 | k+1,p,id,h=>by
  unfold B3 at h;cases hf:firstM M now p with
  | none=>rw[hf]at h;cases h
  | some x=>
   rw[hf]at h;dsimp only at h;have hm:x∈M.KT p:=wS hf;split at h
   ·rename_i hl;cases h;have hs:=I.CH p x hm;rw[I.find]at hs;cases hn:Ql M.N x.ki with
    | none=>rw[hn]at hs;cases hs
    | some n=>exact⟨n,rfl,by unfold QD at hl;rw[hn]at hl;exact hl,G.kt p x hm⟩
   ·exact Good.share now k x.ki id h
theorem Good.Qbz(now):∀o id r,yR M now o->VO M now o=some (id,r)->∃n,Ql M.N id=some n/\n.c.leaf=true/\n.q.l≠[]/\(1<Q7 n.c.ls->id∈M.A):=λo id r ho hp=>by
 cases o with
 | some x=>
  simp only[VO,Za,Zp]at hp;obtain⟨rfl,rfl⟩:=hp;have hx:x∈M.Lv:=(J8.1 ho.1).1;obtain⟨n,h1,h2,h3⟩:=G.lv x hx;exact⟨n,h1,h2,h3,λh4=>(G.act x.ki).2 ⟨n,h1,h2,h3,h4⟩⟩
 | none=>
  simp only[VO,Xv]at hp;obtain⟨i,hi,he⟩:=hp;cases he;obtain⟨n,h1,h2,h3⟩:=Good.share I G now 17 0 _ hi;obtain⟨h4,h5⟩:=Good.leaf I G h1 h2 h3;exact⟨n,h1,h2,h4,λ_=>h5⟩
omit I in
end
end Go.Fg.X
namespace Go.Fg.X
open Go.Proofs Go.Fg
end Go.Fg.X
namespace Go.Fg.X
open Go.Proofs Go.Fg
end Go.Fg.X
namespace Go.Fg.X
open Go.Proofs Go.Fg
end Go.Fg.X
namespace Go.Fg.X
open Go.Proofs Go.Fg
end Go.Fg.X
namespace Go.Fg.X
open Go.Proofs Go.Fg
open Go.Proofs.Tryz
def zY(M:Qq)(p:Int)(x:It):Prop:=∃n,Ql M.N x.ki=some n/\n.c.parent=p/\JR M x.ki=true/\x=⟨n.sh.time,x.ki,VE M x.ki n,x.ki⟩
def DO(M:Qq)(x:It):Prop:=∃n,Ql M.N x.ki=some n/\n.c.leaf=true/\n.q.l≠[]/\1<Q7 n.c.rt/\x=⟨n.du.YY,x.ki,n.du.dead,x.ki⟩
def Fo(M:Qq):Prop:=∀x,x∈M.Lv↔DO M x
def Sn(M:Qq):Prop:=∀p x,x∈M.KT p↔zY M p x
def Lx(M:Qq):Prop:=∀id,id∈M.A↔∃n,Ql M.N id=some n/\n.c.leaf=true/\n.q.l≠[]/\1<Q7 n.c.ls
def Fp(M:Qq):Prop:=∀id n,Ql M.N id=some n->n.c.leaf=false->n.q=⟨[],0,0,0,0,0,0⟩
def Wb(M:Qq):Prop:=∀id n,Ql M.N id=some n->n.Ok
def Hc(M:Qq):Prop:=VB M.Lv/\∀p,VB (M.KT p)
structure Inv (M:Qq):Prop where
 lv:Fo M
 kt:Sn M
 act:Lx M
 wJ:Fp M
 zZ:Hc M
 ok:Wb M
def Inv.rb{M}(V:Inv M):Good M:=
 ⟨λx hx=>by
  obtain⟨n,h1,h2,h3,_⟩:=(V.lv x).1 hx;exact⟨n,h1,h2,h3⟩,λp x hx=>by
  obtain⟨n,_,_,h,_⟩:=(V.kt p x).1 hx;exact h,V.act⟩
def Ql2(c):Inv (M0 c):=by
 refine⟨λx=>?_,λp x=>?_,λid=>by simp[M0,Ql],λid n h=>by simp[M0,Ql]at h,⟨by simp[M0,VB],λp=>by simp[M0,VB]⟩,λid n h=>by simp[M0,Ql]at h⟩
 ·simp[M0,DO,Ql]
 ·simp[M0,zY,Ql]
def QDb{a}{i}{L}(h:∀x∈L,x.ki≠i):qx a i L=none:=by
 unfold qx;rw[vE];intro x hx hk;exact h x hx (yz.1 hk).2
def Qcd{id}{L}(h:VB L):VB (VC id L):=ON _ h
def bN{id}{L}{x:It}:x∈VC id L↔x∈L/\x.ki≠id:=by simp[VC]
def nX{id}{a b}{L}(h:VB L):VB (YX id a b L):=
 uk (Qcd h) (QDb λx hx=>(bN.1 hx).2)
def Lz{id}{a b}{L}{x:It}:x∈YX id a b L↔x=⟨a,id,b,id⟩\/(x∈L/\x.ki≠id):=by
 unfold YX;rw[IK,bN]
structure Part (M:Qq) (U:List Int):Prop where
 lv:Fo M
 kt:∀p x,x.ki ∉ U->(x∈M.KT p↔zY M p x)
 ka:∀p x,x∈M.KT p->x.ki∈U->JR M x.ki=true
 act:Lx M
 wJ:Fp M
 zZ:Hc M
 ok:Wb M
def QDc{M}{id j:Int}{m}(h:(QD M id).c.parent≠j):VE (VJ M id) j m=VE M j m:=by
 have h2:JR (VJ M id) j=JR M j:=by
  obtain⟨_,s2,_,s4,_⟩:=RX M id;unfold JR;rw[s2,s4]
 unfold VE;rw[h2];have h3:(VJ M id).KT j=M.KT j:=by
  unfold VJ;split
  ·dsimp only;rw[Qd (λe=>h e.symm)]
  ·rfl
 rw[h3]
def Part.step{M:Qq}(I:Qy M){id}{n:Nd}(hn:Ql M.N id=some n)(V:Part M (id::up M.T n.c.parent)):Part (VJ M id) (up M.T n.c.parent):=by
 obtain⟨s1,s2,s3,s4,s5,s6,s7,s8,s9⟩:=RX M id;have ZY:QD M id=n:=by unfold QD;rw[hn];rfl
 have hA:∀j,JR (VJ M id) j=JR M j:=λj=>by unfold JR;rw[s2,s4]
 have WZ:=I.some hn;have Jy:id ∉ up M.T n.c.parent:=by
  have:=UO I.tree id;rw[Vz I.tree WZ,Jf]at this;exact this.1
 have HU:∀j m,Ql M.N j=some m->j ∉ up M.T n.c.parent->VE (VJ M id) j m=VE M j m:=λj m hm hj=>QDc λe=>by
  rw[ZY]at e;refine hj ?_;rw[e];exact YA I.tree (I.some hm)
 have Qce:∀p x,x.ki ∉ up M.T n.c.parent->(zY (VJ M id) p x↔zY M p x):=λp x hx=>by
  unfold zY;rw[s1];constructor
  ·rintro⟨m,h1,h2,h3,h4⟩;exact⟨m,h1,h2,by rw[<- hA];exact h3,by rw[<- HU _ m h1 hx];exact h4⟩
  ·rintro⟨m,h1,h2,h3,h4⟩;exact⟨m,h1,h2,by rw[hA];exact h3,by rw[HU _ m h1 hx];exact h4⟩
 have Qcf:∀p x,x∈M.KT p->x.ki=id->n.c.parent=p:=λp x hx e=>by
  obtain⟨c,h1,h2⟩:=I.wC p x hx;rw[e,WZ]at h1;cases h1;exact h2
 refine⟨?_,λp x hx=>?_,λp x hx He=>?_,?_,?_,?_,by unfold Wb;rw[s1];exact V.ok⟩
 ·intro x;unfold DO;rw[s1,s5];exact V.lv x
 ·rw[Qce p x hx];by_cases e:x.ki=id
  ·cases ha:JR M id with
   | true=>
    have hK:(VJ M id).KT=λj=>if j=n.c.parent then YX id n.sh.time (VE M id n) (M.KT n.c.parent) else M.KT j:=by
     unfold VJ;rw[Qf ha,ZY]
    rw[hK];dsimp only;split
    ·rename_i hp;subst hp;rw[Lz];unfold zY;rw[e,hn];constructor
     ·rintro (h|h)
      ·exact⟨n,rfl,rfl,ha,h⟩
      ·exact absurd rfl h.2
     ·rintro⟨m,h1,_,_,h4⟩;cases h1;exact .inl h4
    ·rename_i hp;constructor
     ·intro h;exact absurd (Qcf p x h e).symm hp
     ·rintro⟨m,h1,h2,_⟩;rw[e,hn]at h1;cases h1;exact absurd h2.symm hp
   | false=>
    have hK:VJ M id=M:=by unfold VJ;rw[Qd (by rw[ha];exact ky)]
    rw[hK];constructor
    ·intro h;have:=V.ka p x h (by rw[e];exact Vn);rw[e,ha]at this;cases this
    ·rintro⟨m,_,_,h3,_⟩;rw[e,ha]at h3;cases h3
  ·have He:x.ki ∉ id::up M.T n.c.parent:=λh=>(QM.1 h).elim e hx;rw[<- V.kt p x He];unfold VJ;split
   ·dsimp only;split
    ·rename_i hp;rw[Lz,hp];constructor
     ·rintro (h|h)
      ·exact absurd (congrArg It.ki h) e
      ·exact h.1
     ·intro h;exact .inr ⟨h,e⟩
    ·exact Iff.rfl
   ·exact Iff.rfl
 ·rw[hA];have Qz:x.ki≠id:=λe=>Jy (e▸He);refine V.ka p x ?_ (KI _ He);unfold VJ at hx;split at hx
  ·dsimp only at hx;split at hx
   ·rename_i hp;rcases Lz.1 hx with h|h
    ·exact absurd (congrArg It.ki h) Qz
    ·rw[hp];exact h.1
   ·exact hx
  ·exact hx
 ·intro j;rw[s1,s4];exact V.act j
 ·unfold Fp;rw[s1];exact V.wJ
 ·refine⟨by rw[s5];exact V.zZ.1,λp=>?_⟩;unfold VJ;split
  ·dsimp only;split
   ·exact nX (V.zZ.2 _)
   ·exact V.zZ.2 p
  ·exact V.zZ.2 p
def Part.settle:∀(k:Nat) {M:Qq} (id:Int),Qy M->(up M.T id).length=k->Part M (up M.T id)->Inv (Wl M (up M.T id)):=by
 intro k;induction k with
 | zero=>
  intro M id I hk V;have e:=Mj.1 hk;rw[e]at V ⊢;exact⟨V.lv,λp x=>V.kt p x (by simp),V.act,V.wJ,V.zZ,V.ok⟩
 | succ k ih=>
  intro M id I hk V;cases hf:QF M.T id with
  | none=>rw[UN I.tree hf]at hk;cases hk
  | some c=>
   obtain⟨n,hn,rfl⟩:=I.NV hf;have e:=Vz I.tree hf;rw[e]at hk V ⊢;obtain⟨s1,s2,_⟩:=RX M id;have V2:=V.step I hn;have I2:=Qbh I hn (V.ok _ _ hn);show Inv (Wl (VJ M id) (up M.T n.c.parent));rw[<- s2]at V2 ⊢;exact ih n.c.parent I2 (by rw[s2];simpa using hk) V2
def Fq{α:Type}{key:Nd->α}{N N':List Nd}{id:Int}(e:(Ql N' id).map key=(Ql N id).map key){n:Nd}(h:Ql N id=some n):∃m,Ql N' id=some m/\key m=key n:=by
 rw[h]at e;exact Xv.1 e
def AR(n:Nd):Qw × Nat × Nat:=(n.c,n.sh.time,n.cp.fit)
def LA(n:Nd):Qw × Bool × Nat × Nat:=(n.c,n.q.l.isEmpty,n.du.YY,n.du.dead)
def AS(n:Nd):Qw × Bool:=(n.c,n.q.l.isEmpty)
def Sq{l:List Pk}:l≠[]↔l.isEmpty=false:=by cases l<;>simp
def DO.to{M M':Qq}{x:It}(h:(Ql M'.N x.ki).map LA=(Ql M.N x.ki).map LA):DO M x->DO M' x:=λ⟨n,h1,h2,h3,h4,h5⟩=>by
 obtain⟨m,k1,k2⟩:=Fq h h1;simp only[LA,Zp]at k2;obtain⟨e1,e2,e3,e4⟩:=k2;exact⟨m,k1,by rw[e1];exact h2,Sq.2 (by rw[e2];exact Sq.1 h3),by rw[e1];exact h4,by rw[e3,e4];exact h5⟩
def Fo.of{M M':Qq}(V:Fo M)(hL:M'.Lv=M.Lv)(hN:∀id,(Ql M'.N id).map LA=(Ql M.N id).map LA):Fo M':=λx=>by
 rw[hL,V x];exact⟨DO.to (hN _),DO.to (hN _).symm⟩
def Fo.at_{M M':Qq}(V:Fo M){id}{m}(hm:Ql M'.N id=some m)(hN:∀j,j≠id->(Ql M'.N j).map LA=(Ql M.N j).map LA)
  (hL:∀y:It,y.ki≠id->(y∈M'.Lv↔y∈M.Lv)) (hI:∀y:It,y.ki=id->(y∈M'.Lv↔(m.c.leaf=true/\m.q.l≠[]/\1<Q7 m.c.rt/\y=⟨m.du.YY,id,m.du.dead,id⟩))):Fo M':=λx=>by
 by_cases e:x.ki=id
 ·rw[hI x e];unfold DO;rw[e,hm];constructor
  ·rintro⟨h1,h2,h3,h4⟩;exact⟨m,rfl,h1,h2,h3,h4⟩
  ·rintro⟨m2,h0,h1,h2,h3,h4⟩;cases h0;exact⟨h1,h2,h3,h4⟩
 ·rw[hL x e,V x];exact⟨DO.to (hN _ e),DO.to (hN _ e).symm⟩
def Lx.at_{M M':Qq}(V:Lx M){id}{m}(hm:Ql M'.N id=some m)(hN:∀j,j≠id->(Ql M'.N j).map AS=(Ql M.N j).map AS)
  (hA:∀j,j≠id->(j∈M'.A↔j∈M.A)) (hI:id∈M'.A↔(m.c.leaf=true/\m.q.l≠[]/\1<Q7 m.c.ls)):Lx M':=λj=>by
 by_cases e:j=id
 ·subst e;rw[hI,hm];constructor
  ·rintro⟨h1,h2,h3⟩;exact⟨m,rfl,h1,h2,h3⟩
  ·rintro⟨m2,h0,h1,h2,h3⟩;cases h0;exact⟨h1,h2,h3⟩
 ·rw[hA j e,V j];have go:∀{N N':List Nd},(Ql N' j).map AS=(Ql N j).map AS->(∃n,Ql N j=some n/\n.c.leaf=true/\n.q.l≠[]/\1<Q7 n.c.ls)->∃n,Ql N' j=some n/\n.c.leaf=true/\n.q.l≠[]/\1<Q7 n.c.ls:=λ{N N'} h ⟨n,h1,h2,h3,h4⟩=>by
   obtain⟨m2,k1,k2⟩:=Fq h h1;simp only[AS,Zp]at k2;obtain⟨e1,e2⟩:=k2;exact⟨m2,k1,by rw[e1];exact h2,Sq.2 (by rw[e2];exact Sq.1 h3),by rw[e1];exact h4⟩
  exact⟨go (hN _ e),go (hN _ e).symm⟩
def Lx.of{M M':Qq}(V:Lx M)(hA:M'.A=M.A)(hN:∀id,(Ql M'.N id).map AS=(Ql M.N id).map AS):Lx M':=λj=>by
 rw[hA,V j];have go:∀{N N':List Nd},(Ql N' j).map AS=(Ql N j).map AS->(∃n,Ql N j=some n/\n.c.leaf=true/\n.q.l≠[]/\1<Q7 n.c.ls)->∃n,Ql N' j=some n/\n.c.leaf=true/\n.q.l≠[]/\1<Q7 n.c.ls:=λ{N N'} h ⟨n,h1,h2,h3,h4⟩=>by
  obtain⟨m2,k1,k2⟩:=Fq h h1;simp only[AS,Zp]at k2;obtain⟨e1,e2⟩:=k2;exact⟨m2,k1,by rw[e1];exact h2,Sq.2 (by rw[e2];exact Sq.1 h3),by rw[e1];exact h4⟩
 exact⟨go (hN _),go (hN _).symm⟩
def Qcg{M M':Qq}{j}{n m}(e:AR m=AR n)(ha:JR M' j=JR M j)(hK:M'.KT j=M.KT j):VE M' j m=VE M j n:=by
 simp only[AR,Zp]at e;unfold VE;rw[ha,hK,e.1,e.2.2]
def zY.to{M M':Qq}{p}{x:It}(h:(Ql M'.N x.ki).map AR=(Ql M.N x.ki).map AR)(ha:JR M' x.ki=JR M x.ki)(hK:M'.KT x.ki=M.KT x.ki):zY M p x->zY M' p x:=λ⟨n,h1,h2,h3,h4⟩=>by
 obtain⟨m,k1,k2⟩:=Fq h h1;have e:=Qcg k2 ha hK;simp only[AR,Zp]at k2;obtain⟨e1,e2,e3⟩:=k2;exact⟨m,k1,by rw[e1];exact h2,by rw[ha];exact h3,by rw[e,e2];exact h4⟩
def Sn.part{M M':Qq}(V:Sn M){U:List Int}(hK:M'.KT=M.KT)(jX:∀j,j ∉ U->JR M' j=JR M j)(hN:∀j,j ∉ U->(Ql M'.N j).map AR=(Ql M.N j).map AR):
  ∀p x,x.ki ∉ U->(x∈M'.KT p↔zY M' p x):=λp x hx=>by
 rw[hK,V p x];exact⟨zY.to (hN _ hx) (jX _ hx) (by rw[hK]),zY.to (hN _ hx).symm (jX _ hx).symm (by rw[hK])⟩
def Sn.of{M M':Qq}(V:Sn M)(hK:M'.KT=M.KT)(jX:∀j,JR M' j=JR M j)(hN:∀j,(Ql M'.N j).map AR=(Ql M.N j).map AR):Sn M':=λp x=>by
 rw[hK,V p x];exact⟨zY.to (hN _) (jX _) (by rw[hK]),zY.to (hN _).symm (jX _).symm (by rw[hK])⟩
def Qch(n:Nd):Qw × Bool × Du × Sh × Cp:=(n.c,n.q.l.isEmpty,n.du,n.sh,n.cp)
def LB{α β:Type}{key}(f:α->β){N N'}{id:Int}(e:(Ql N' id).map key=(Ql N id).map key):(Ql N' id).map (λn=>f (key n))=(Ql N id).map λn=>f (key n):=by
 have:=congrArg (Option.map f) e;rwa [TF,TF]at this
def Inv.num{M M':Qq}(V:Inv M)(hL:M'.Lv=M.Lv)(hK:M'.KT=M.KT)(hT:M'.T=M.T)(hA:M'.A=M.A)(hN:∀id,(Ql M'.N id).map Qch=(Ql M.N id).map Qch)(hq:Fp M')(ho:Wb M'):Inv M':=
 ⟨V.lv.of hL λid=>LB (λk=>(k.1,k.2.1,k.2.2.1.YY,k.2.2.1.dead)) (hN id),V.kt.of hK (λj=>by unfold JR;rw[hT,hA]) λid=>LB (λk=>(k.1,k.2.2.2.1.time,k.2.2.2.2.fit)) (hN id),V.act.of hA λid=>LB (λk=>(k.1,k.2.1)) (hN id),hq,⟨by rw[hL];exact V.zZ.1,λp=>by rw[hK];exact V.zZ.2 p⟩,ho⟩
def Inv.told{M}(V:Inv M)(now):Inv (Z1 M now):=by
 unfold Z1;split
 ·exact⟨V.lv,V.kt,V.act,V.wJ,V.zZ,V.ok⟩
 ·exact V
def Inv.acc{M}(V:Inv M)(a):Inv (vv M a):=⟨V.lv,V.kt,V.act,V.wJ,V.zZ,V.ok⟩
def AT{α:Type}{key:Nd->α}{step:Qq->Int->Qq}(hs:∀M j id,(Ql (step M j).N id).map key=(Ql M.N id).map key):∀(l:List Int) (M:Qq) (id:Int),(Ql (l.foldl step M).N id).map key=(Ql M.N id).map key
 | [],M,id=>rfl
 | j::l,M,id=>(AT hs l (step M j) id).trans (hs M j id)
def nY{step}(hs:∀M j id,id≠j->Ql (step M j).N id=Ql M.N id):∀(l:List Int) (M:Qq) (id:Int),id ∉ l->Ql (l.foldl step M).N id=Ql M.N id
 | [],M,id,_=>rfl
 | j::l,M,id,h=>by
  rw[QM,zw]at h;exact(nY hs l (step M j) id h.2).trans (hs M j id h.1)
def Qci{α:Type}{key:Nd->α}{N:List Nd}{j:Int}{f:Nd->Nd}(hc:∀n,(f n).c=n.c)(hk:∀n,key (f n)=key n)(id:Int):(Ql (Vm N j f) id).map key=(Ql N id).map key:=by
 rw[vq (λn=>by rw[hc])];split
 ·rw[TF];congr 1;funext n;exact hk n
 ·rfl
def Qcj{N}{j}{f}(hc:∀n,(f n).c=n.c)(id)(h:id≠j):Ql (Vm N j f) id=Ql N id:=by
 rw[vq (λn=>by rw[hc]),Qd h]
def LC{N}{j}{f}(hc:∀n,(f n).c=n.c)(hf:∀n,Ql N j=some n->n.Ok->(f n).Ok)(h:∀id n,Ql N id=some n->n.Ok):∀id n,Ql (Vm N j f) id=some n->n.Ok:=λid n hn=>by
 rw[vq (λn=>by rw[hc])]at hn;split at hn
 ·rename_i e;subst e;obtain⟨m,h1,rfl⟩:=Xv.1 hn;exact hf m h1 (h _ _ h1)
 ·exact h _ _ hn
def Ql3{M M':Qq}(V:Fp M)(hN:∀id,(Ql M'.N id).map (λn=>(n.c,n.q))=(Ql M.N id).map λn=>(n.c,n.q)):Fp M':=λid n hn hl=>by
 obtain⟨m,h1,h2⟩:=Fq (hN id).symm hn;have e1:m.c=n.c:=congrArg Prod.fst h2;have e2:m.q=n.q:=congrArg Prod.snd h2;rw[<- e2];exact V id m h1 (by rw[e1];exact hl)
def LD(M:Qq)(id:Int)(x:Pk)(j:Int):Ql (Ve M id x).N j=if j=id then (Ql M.N j).map (λm=>{ m with q:=Yj (QD M id).c.Z5 (QD M id).c.bytes (QD M id).q x }) else Ql M.N j:=
 vq (f:=λm:Nd=>{ m with q:=Yj (QD M id).c.Z5 (QD M id).c.bytes (QD M id).q x }) (λ_=>rfl) j
def Ql4{p b}{q:Qu}{x:Pk}(h:wv p b q x=false):(Yj p b q x).l=q.l++[x]:=by
 unfold Yj;rw[Qd (by rw[h];exact ky)]
def Qck{M}(V:Wb M)(id)(x):Wb (Ve M id x):=
 LC (f:=λm:Nd=>{ m with q:=Yj (QD M id).c.Z5 (QD M id).c.bytes (QD M id).q x }) (λ_=>rfl) (λn _ h=>⟨h.Jz,h.du,h.sh,h.cp,h.c⟩) V
def QDd{M:Qq}(V:Fp M){id}{n:Nd}(hn:Ql M.N id=some n)(hl:n.c.leaf=true)(x):Fp (Ve M id x):=λj m hm Bp=>by
 rw[LD]at hm;split at hm
 ·rename_i e;subst e;rw[hn]at hm;cases hm;rw[hl]at Bp;cases Bp
 ·exact V j m hm Bp
def Inv.push{M:Qq}(V:Inv M){id}{n:Nd}(hn:Ql M.N id=some n)(hl:n.c.leaf=true)(x)(h:wv n.c.Z5 n.c.bytes n.q x=true\/n.q.l≠[]):Inv (Ve M id x):=by
 refine V.num rfl rfl rfl rfl (λj=>?_) (QDd V.wJ hn hl x) (Qck V.ok id x);have ZY:QD M id=n:=by unfold QD;rw[hn];rfl
 rw[LD,ZY];split
 ·rename_i e;subst e;rw[hn];have e:(Yj n.c.Z5 n.c.bytes n.q x).l.isEmpty=n.q.l.isEmpty:=by
   unfold Yj;rcases h with h|h
   ·rw[Qf h]
   ·split
    ·rfl
    ·cases hq:n.q.l with
     | nil=>exact absurd hq h
     | cons y l=>simp
  simp only[K0,Qch];rw[e]
 ·rfl
def Qcl(M:Qq)(now)(id:Int)(head:Int)(j:Int):Ql (VZ M now id head).N j=if j=id/\1<Q7 (QD M id).c.rt then (Ql M.N j).map (λn=>{ n with du:=kY (QD M id).du (KC (QD M id).c.rt) now head }) else Ql M.N j:=by
 unfold VZ;by_cases h:1<Q7 (QD M id).c.rt
 ·rw[Qf h];dsimp only;rw[vq (f:=λn:Nd=>{ n with du:=kY (QD M id).du (KC (QD M id).c.rt) now head }) (λ_=>rfl)];simp[h]
 ·rw[Qd h,Qd (λe=>h e.2)]
def Ql5(now:Nat){α:Type}{key:Nd->α}(hk:∀M n,key (DJ M now n)=key n)(M:Qq)(j id:Int):(Ql (W9 now M j).N id).map key=(Ql M.N id).map key:=
 Qci (f:=DJ M now) (λ_=>rfl) (hk M) id
def Ql6(now):∀(l:List Int) (M:Qq),(l.foldl (W9 now) M).Lv=M.Lv
 | [],M=>rfl
 | j::l,M=>Ql6 now l (W9 now M j)
def Inv.Qcm{M M1:Qq}(I1:Qy M1)(V:Inv M){id}{n n1:Nd}(hn:Ql M.N id=some n)(KX:Ql M1.N id=some n1)(hl:n.c.leaf=true)(CS:n.q.l=[])(hq:n1.q.l≠[])(x7:(n1.c,n1.du,n1.sh,n1.cp)=(n.c,n.du,n.sh,n.cp))
  (Bn:∀j,j≠id->Ql M1.N j=Ql M.N j) (hL:M1.Lv=M.Lv) (hK:M1.KT=M.KT) (hT:M1.T=M.T) (hA:M1.A=M.A) (ho:Wb M1) (now:Nat) (WK:now<18446744073709551616) (head:Int):Inv (YG M1 now id head):=by
 simp only[Zp]at x7;obtain⟨ec,ed,es,ep⟩:=x7;have ZY:QD M1 id=n1:=by unfold QD;rw[KX];rfl
 have ZB:n1.c.leaf=true:=by rw[ec];exact hl
 have Jy:id ∉ M.A:=λh=>by
  obtain⟨m,h1,_,h3,_⟩:=(V.act id).1 h;rw[hn]at h1;cases h1;exact h3 CS
 have hnl:∀y∈M.Lv,y.ki≠id:=λy hy e=>by
  obtain⟨m,h1,_,h3,_⟩:=(V.lv y).1 hy;rw[e,hn]at h1;cases h1;exact h3 CS
 obtain⟨M2,jB⟩:∃M2,M2=VZ M1 now id head:=⟨_,rfl⟩;have I2:Qy M2:=by rw[jB];exact I1.VZ KX now head
 obtain⟨w1,w2,w3,w4⟩:=NY (M:=M1) (now:=now) (id:=id) (head:=head);rw[<- jB]at w1 w2 w3 w4;have hF:∀j,Ql M2.N j=if j=id/\1<Q7 n1.c.rt then (Ql M1.N j).map (λn=>{ n with du:=kY n1.du (KC n1.c.rt) now head }) else Ql M1.N j:=λj=>by
  rw[jB,Qcl,ZY]
 have MA:∀j,j≠id->Ql M2.N j=Ql M.N j:=λj hj=>by rw[hF,Qd (λe=>hj e.1),Bn j hj]
 have bO:M2.Lv=if 1<Q7 n1.c.rt then YX id (kY n1.du (KC n1.c.rt) now head).YY (kY n1.du (KC n1.c.rt) now head).dead M.Lv else M.Lv:=by
  rw[jB];unfold VZ;rw[ZY];split
  ·dsimp only;rw[hL]
  ·exact hL
 obtain⟨m,hm,AF,Oe,hms,hmp,mS⟩:∃m,Ql M2.N id=some m/\m.c=n.c/\m.q=n1.q/\m.sh=n.sh/\m.cp=n.cp/\(1<Q7 n1.c.rt->m.du=kY n1.du (KC n1.c.rt) now head):=by
  rw[hF,KX];by_cases h:1<Q7 n1.c.rt
  ·rw[Qf ⟨rfl,h⟩];exact⟨_,rfl,ec,rfl,es,ep,λ_=>rfl⟩
  ·rw[Qd (λe=>h e.2)];exact⟨_,rfl,ec,rfl,es,ep,λe=>absurd e h⟩
 have Ca:Fo M2:=V.lv.at_ hm (λj hj=>by rw[MA j hj]) (λy hy=>by
   rw[bO];split
   ·rw[Lz];exact⟨λh=>h.elim (λe=>absurd (congrArg It.ki e) hy) (·.1),λh=>.inr ⟨h,hy⟩⟩
   ·exact Iff.rfl) λy hy=>by
   rw[bO,AF,Oe];by_cases h:1<Q7 n1.c.rt
   ·rw[Qf h,Lz,mS h];rw[<- ec];exact⟨λe=>e.elim (λe=>⟨ZB,hq,h,e⟩) λe=>absurd hy e.2,λe=>.inl e.2.2.2⟩
   ·rw[Qd h];rw[<- ec];exact⟨λe=>absurd hy (hnl y e),λe=>absurd e.2.2.1 h⟩
 have Ju:∀j,(Ql M2.N j).map AR=(Ql M.N j).map AR:=λj=>by
  by_cases e:j=id
  ·subst e;rw[hm,hn];simp only[K0,AR,AF,hms,hmp]
  ·rw[MA j e]
 have Ql7:Fp M2:=λj k hj B9=>by
  by_cases e:j=id
  ·subst e;rw[hm]at hj;cases hj;rw[AF,hl]at B9;cases B9
  ·rw[MA j e]at hj;exact V.wJ j k hj B9
 have Ql8:Wb M2:=λj k hj=>by
  rw[hF]at hj;split at hj
  ·obtain⟨k0,h1,rfl⟩:=Xv.1 hj;have h2:=ho j k0 h1;exact⟨h2.Jz,Qav (ho id n1 KX).du (ho id n1 KX).c.2.2.2.1.lt WK head,h2.sh,h2.cp,h2.c⟩
  ·exact ho j k hj
 have Ql9:VB M2.Lv:=by
  rw[bO];split
  ·exact nX V.zZ.1
  ·exact V.zZ.1
 unfold YG;rw[ZY,<- jB];by_cases hs:1<Q7 n1.c.ls
 ·rw[Qf hs];obtain⟨M3,jz⟩:∃M3,M3=(XE M1.T M1.A id).foldl (W9 now) { M2 with A:=id::M1.A }:=⟨_,rfl⟩;rw[<- jz];obtain⟨t1,t2,t3,t4,t5,t6⟩:=Lj now (XE M1.T M1.A id) { M2 with A:=id::M1.A };rw[<- jz]at t1 t2 t3 t4 t5 t6;dsimp only at t1 t2 t3;have tL:=Ql6 now (XE M1.T M1.A id) { M2 with A:=id::M1.A };rw[<- jz]at tL;have WZ:QF M1.T id=some n1.c:=I1.some KX;have hUp:M1.T=M3.T:=by rw[t1,w1]
  have I3:Qy M3:=by
   rw[jz];refine Qy.aZ _ (I2.act λa ha=>?_);rw[w1];rcases QM.1 ha with rfl|ha
   ·exact⟨n1.c,WZ,ZB,hs⟩
   ·exact I1.Yl a ha
  rw[hUp];have BC:∀j,j ∉ up M1.T id->j ∉ XE M1.T M1.A id:=λj hj h=>hj (List.takeWhile_subset _ h);have nZ:∀j,(Ql M3.N j).map (λn=>(n.c,n.q,n.du))=(Ql M2.N j).map λn=>(n.c,n.q,n.du):=λj=>by
   rw[jz];exact AT (key:=λn:Nd=>(n.c,n.q,n.du)) (λM j id=>Ql5 now (λ_ _=>rfl) M j id) _ _ j
  have bT:∀j,j ∉ up M1.T id->Ql M3.N j=Ql M.N j:=λj hj=>by
   have h1:Ql M3.N j=Ql M2.N j:=by
    rw[jz];exact nY (λM i id h=>Qcj (f:=DJ M now) (λ_=>rfl) id h) _ _ j (BC j hj)
   rw[h1];exact MA j λe=>hj (by rw[e];exact YA I1.tree WZ)
  have Qmb:∀j,JR M3 j=true↔j∈up M1.T id\/JR M j=true:=λj=>by
   unfold JR;rw[t1,t2,w1,hA,hT,qw,qw];simp
  refine Part.settle _ id I3 rfl ?_;rw[<- hUp];refine⟨?_,?_,λp x hx He=>(Qmb _).2 (.inl He),?_,?_,⟨by rw[tL];exact Ql9,λp=>by rw[t3,w3,hK];exact V.zZ.2 p⟩,?_⟩
  ·exact Ca.of tL λj=>LB (λk=>(k.1,k.2.1.l.isEmpty,k.2.2.YY,k.2.2.dead)) (nZ j)
  ·refine V.kt.part (by rw[t3,w3,hK]) (λj hj=>?_) λj hj=>by rw[bT j hj]
   rw[kx,Qmb];exact⟨λh=>h.resolve_left hj,.inr⟩
  ·obtain⟨m3,g1,g2⟩:=Fq (nZ id) hm;simp only[Zp]at g2;obtain⟨g3,g4,g5⟩:=g2;refine V.act.at_ g1 (λj hj=>?_) (λj hj=>?_) ?_
   ·rw[<- MA j hj];exact LB (λk=>(k.1,k.2.1.l.isEmpty)) (nZ j)
   ·rw[t2,hA];simp[hj]
   ·rw[t2,g3,g4,AF,Oe,<- ec];exact⟨λ_=>⟨ZB,hq,hs⟩,λ_=>Vn⟩
  ·exact Ql3 Ql7 λj=>LB (λk=>(k.1,k.2.1)) (nZ j)
  ·rw[jz];have:∀(l:List Int) (M:Qq),Qy M->Wb M->Wb (l.foldl (W9 now) M):=by
    intro l;induction l with
    | nil=>intro M _ h;exact h
    | cons j l ih=>
     intro M I h;refine ih _ (I.W9 now j) ?_;exact LC (f:=DJ M now) (λ_=>rfl) (λn _ hn=>Qbo I WK hn) h
   refine this _ _ (I2.act λa ha=>?_) Ql8;rw[w1];rcases QM.1 ha with rfl|ha
   ·exact⟨n1.c,WZ,ZB,hs⟩
   ·exact I1.Yl a ha
 ·rw[Qd hs];refine⟨Ca,V.kt.of (by rw[w3,hK]) (λj=>by unfold JR;rw[w1,w2,hT,hA]) Ju,?_,Ql7,⟨Ql9,λp=>by rw[w3,hK];exact V.zZ.2 p⟩,Ql8⟩;refine V.act.at_ hm (λj hj=>by rw[MA j hj]) (λj hj=>by rw[w2,hA]) ?_;rw[w2,hA,AF,Oe,<- ec];exact⟨λh=>absurd h Jy,λh=>absurd h.2.2 hs⟩
def Qmc{M:Qq}{cls}{x:Pk}{n:Nd}(hn:Ql M.N cls=some n):V5 M cls x=if n.c.leaf=false then 29 else if x.len<1\/M.lk.JK<x.len then 26 else if 1099511627776<M.acc+x.len.toNat then 28
   else if wv n.c.Z5 n.c.bytes n.q x=true then 30 else 0:=by unfold V5;rw[hn]
def Qcn{M:Qq}{cls}{x}{n:Nd}(hn:Ql M.N cls=some n)(h:V5 M cls x=30):n.c.leaf=true/\wv n.c.Z5 n.c.bytes n.q x=true:=by
 rw[Qmc hn]at h;split at h
 ·cases h
 ·rename_i h1;split at h
  ·cases h
  ·split at h
   ·cases h
   ·split at h
    ·rename_i h4;exact⟨by simpa using h1,h4⟩
    ·cases h
def Qco{M:Qq}{cls}{x:Pk}{n:Nd}(hn:Ql M.N cls=some n)(h:V5 M cls x=0):n.c.leaf=true/\wv n.c.Z5 n.c.bytes n.q x=false/\1<=x.len/\x.len<=M.lk.JK/\M.acc+x.len.toNat<=1099511627776:=by
 rw[Qmc hn]at h;split at h
 ·cases h
 ·rename_i h1;split at h
  ·cases h
  ·rename_i h2;split at h
   ·cases h
   ·rename_i h3;split at h
    ·cases h
    ·rename_i h4;exact⟨by simpa using h1,by simpa using h4,by omega,by omega,by omega⟩
def Inv.put{M}(I:Qy M)(V:Inv M)(now)(WK:now<18446744073709551616)(cls)(x):Inv (VT M now cls x):=by
 unfold VT;cases hn:Ql M.N cls with
 | none=>
  have e:V5 M cls x=23:=by unfold V5;rw[hn]
  rw[e,Qd (by decide),Qd (by decide)];exact V
 | some n=>
  have ZY:QD M cls=n:=by unfold QD;rw[hn];rfl
  by_cases wK:V5 M cls x=30
  ·rw[Qf wK];obtain⟨h1,h2⟩:=Qcn hn wK;exact V.push hn h1 x (.inl h2)
  ·rw[Qd wK];by_cases h0:V5 M cls x=0
   ·rw[Qf h0,ZY];obtain⟨h1,h2,h3,h4,h5⟩:=Qco hn h0;by_cases hq:n.q.l=[]
    ·rw[Qf hq];have KX:Ql (vv (Ve M cls x) (M.acc+x.len.toNat)).N cls=some { n with q:=Yj n.c.Z5 n.c.bytes n.q x }:=by
      show Ql (Ve M cls x).N cls=_;rw[LD,Qf rfl,hn,ZY];rfl
     refine Inv.Qcm ((I.Ve cls x).vv h5) V hn KX h1 hq ?_ rfl (λj hj=>?_) rfl rfl rfl rfl (Qck V.ok cls x) now WK x.len
     ·dsimp only;rw[Ql4 h2];simp
     ·show Ql (Ve M cls x).N j=_;rw[LD,Qd hj]
    ·rw[Qd hq];exact(V.push hn h1 x (.inr hq)).acc _
   ·rw[Qd h0];exact V
def Inv.Jr{M}(I:Qy M)(V:Inv M)(now)(WK:now<18446744073709551616)(cls)(x):Inv (Jr M now cls x):=by
 unfold X.Jr;split
 ·exact Inv.put (B5 I now) (V.told now) now WK cls x
 ·exact V
def QDg{T}(hr:XD T){p j}:j∈Xl T p↔∃c,QF T j=some c/\c.parent=p:=by
 unfold Xl;constructor
 ·intro h;obtain⟨c,h1,rfl⟩:=Jk.1 h;obtain⟨h2,h3⟩:=J8.1 h1;exact⟨c,(Vs hr).2 ⟨h2,rfl⟩,by simpa using h3⟩
 ·rintro⟨c,h1,h2⟩;obtain⟨h3,rfl⟩:=(Vs hr).1 h1;exact Jk.2 ⟨c,J8.2 ⟨h3,by simpa using h2⟩,rfl⟩
def QDh(M:Qq)(j id:Int)(h:id≠j):Ql (Ym M j).N id=Ql M.N id:=Qcj (f:=λn:Nd=>{ n with sh:=AN }) (λ_=>rfl) id h
def QDi{α:Type}{key:Nd->α}(hk:∀n:Nd,key { n with sh:=AN }=key n)(M:Qq)(j id:Int):(Ql (Ym M j).N id).map key=(Ql M.N id).map key:=
 Qci (f:=λn:Nd=>{ n with sh:=AN }) (λ_=>rfl) hk id
def LF{α:Type}{key:Nd->α}(hk:∀n:Nd,key { n with sh:=AN }=key n)(M:Qq)(j id:Int):(Ql (Ka M j).N id).map key=(Ql M.N id).map key:=by
 unfold Ka;split
 ·exact AT (QDi hk) _ (Wz M j) id
 ·rfl
def n8(M)(j:Int):(Ka M j).KT=(Wz M j).KT:=by
 unfold Ka;split
 ·exact(nw _ (Wz M j)).2.2.1
 ·rfl
def Qmd{M:Qq}(I:Qy M){j:Int}{c}(h:QF M.T j=some c):(QD M j).c=c:=by
 obtain⟨n,h1,h2⟩:=I.NV h;unfold QD;rw[h1];exact h2
def Qme{M:Qq}(I:Qy M)(j p:Int)(x:It):x∈(Ka M j).KT p↔x∈M.KT p/\x.ki≠j:=by
 rw[n8];unfold Wz;dsimp only;split
 ·rename_i e;rw[bN,e]
 ·rename_i e;refine⟨λh=>⟨h,λej=>?_⟩,(·.1)⟩;obtain⟨c,h1,h2⟩:=I.wC p x h;rw[ej]at h1;rw[Qmd I h1]at e;exact e h2.symm
def Qcp:∀(l:List Int) {M:Qq},Qy M->∀(p:Int) (x:It),x∈(l.foldl Ka M).KT p↔x∈M.KT p/\x.ki ∉ l
 | [],M,I,p,x=>by simp
 | j::l,M,I,p,x=>by
  rw[Ba,Qcp l (I.Ka j) p x,Qme I];simp[and_assoc]
def QDj{M:Qq}(I:Qy M){j p:Int}{x:It}(h:x∈(Ka M j).KT p):Ql (Ka M j).N x.ki=Ql M.N x.ki:=by
 have h2:=h;rw[n8]at h2;obtain⟨hx,Qz⟩:=(Qme I j p x).1 h;obtain⟨c,h3,h4⟩:=I.wC p x hx;unfold Ka;split
 ·rename_i e;refine nY QDh _ (Wz M j) x.ki λhc=>?_;obtain⟨c2,h5,h6⟩:=(QDg I.tree.rising).1 hc;rw[h3]at h5;cases h5;unfold Wz at h2;dsimp only at h2;rw[Qf (h4.symm.trans h6),e]at h2;cases h2
 ·rfl
def Qmf:∀(l:List Int) {M:Qq},Qy M->∀{p:Int} {x:It},x∈(l.foldl Ka M).KT p->Ql (l.foldl Ka M).N x.ki=Ql M.N x.ki
 | [],M,I,p,x,h=>rfl
 | j::l,M,I,p,x,h=>by
  have h1:=Qmf l (I.Ka j) h;exact h1.trans (QDj I (p:=p) ((Qcp l (I.Ka j) p x).1 h).1)
def Qmg:∀(l:List Int) {M:Qq},Qy M->∀(i:Int),(∀j∈l,(QD M j).c.parent≠i)->(l.foldl Ka M).KT i=M.KT i
 | [],M,I,i,h=>rfl
 | j::l,M,I,i,h=>by
  have e:(Ka M j).KT i=M.KT i:=by
   rw[n8];unfold Wz;dsimp only;rw[Qd (λe=>h j Vn e.symm)]
  rw[Ba,Qmg l (I.Ka j) i,e];intro k hk;have h1:=LF (key:=λn:Nd=>n.c.parent) (λ_=>rfl) M j k;have h2:(QD (Ka M j) k).c.parent=(QD M k).c.parent:=by
   unfold QD;cases h3:Ql M.N k with
   | none=>
    rw[h3,zq,pM]at h1;rw[h1]
   | some n=>
    rw[h3]at h1;obtain⟨m,h4,h5⟩:=Xv.1 h1;rw[h4];exact h5
  rw[h2];exact h k (KI _ hk)
def QDk{M}(V:Wb M)(j):Wb (Ka M j):=by
 have go:∀(l:List Int) (M:Qq),Wb M->Wb (l.foldl Ym M):=by
  intro l;induction l with
  | nil=>intro M h;exact h
  | cons j l ih=>
   intro M h;exact ih _ (LC (f:=λn:Nd=>{ n with sh:=AN }) (λ_=>rfl) (λn _ h=>⟨h.Jz,h.du,Qk5,h.cp,h.c⟩) h)
 unfold Ka;split
 ·exact go _ (Wz M j) V
 ·exact V
def Qcq:∀(l:List Int) {M:Qq},Wb M->Wb (l.foldl Ka M)
 | [],M,h=>h
 | j::l,M,h=>Qcq l (QDk h j)
def Qmh:∀(l:List Int) {M:Qq},Hc M->Hc (l.foldl Ka M)
 | [],M,h=>h
 | j::l,M,h=>by
  refine Qmh l ⟨?_,λp=>?_⟩
  ·rw[(Qk6 M j).2.2.2.2.2];exact h.1
  ·rw[n8];unfold Wz;dsimp only;split
   ·exact Qcd (h.2 _)
   ·exact h.2 p
def QDl(len)(M:Qq)(j id:Int)(h:id≠j):Ql (V0 len M j).N id=Ql M.N id:=Qcj (f:=DN len) (λ_=>rfl) id h
def Qmi(len:Nat){α:Type}{key:Nd->α}(hk:∀n:Nd,key (DN len n)=key n)(M:Qq)(j id:Int):(Ql (V0 len M j).N id).map key=(Ql M.N id).map key:=
 Qci (f:=DN len) (λ_=>rfl) hk id
def Qcr(len):∀(l:List Int) {M:Qq},Wb M->Wb (l.foldl (V0 len) M)
 | [],M,h=>h
 | j::l,M,h=>Qcr len l (LC (f:=DN len) (λ_=>rfl) (λn _ hn=>Qlf hn len) h)
def Qmj(M:Qq)(id:Int)(JY)(r:Bool)(j:Int):Ql (VS M id JY r).N j=if j=id/\1<Q7 (QD M id).c.rt then (Ql M.N j).map (λn=>{ n with du:=zT (QD M id) JY r }) else Ql M.N j:=by
 unfold VS;by_cases h:1<Q7 (QD M id).c.rt
 ·rw[Qf h];dsimp only;rw[vq (f:=λn:Nd=>{ n with du:=zT (QD M id) JY r }) (λ_=>rfl)];simp[h]
 ·rw[Qd h,Qd (λe=>h e.2)]
def Inv.take{M:Qq}(I:Qy M)(V:Inv M){id}{n:Nd}(hn:Ql M.N id=some n)(hl:n.c.leaf=true)(hq:n.q.l≠[])(r):Inv (Xr M id r):=by
 have ZY:QD M id=n:=by unfold QD;rw[hn];rfl
 have WZ:=I.some hn;have x5:id∈up M.T id:=YA I.tree WZ;have Sr:∀j,Ql (Xq M id).N j=if j=id then (Ql M.N j).map (λn=>{ n with q:=XG (QD M id).q }) else Ql M.N j:=λj=>
  vq (f:=λn:Nd=>{ n with q:=XG (QD M id).q }) (λ_=>rfl) j
 unfold Xr;dsimp only;rw[ZY];generalize hlen:(n.q.l.headD default).len=len;obtain⟨M2,jB⟩:∃M2,M2=(up M.T id).foldl (V0 len.toNat) (Xq M id):=⟨_,rfl⟩;rw[<- jB];have I2:Qy M2:=by rw[jB];exact Qy.nB _ (I.Xq id)
 obtain⟨b1,b2,b3,b4,b5,b6,b7⟩:=N5 len.toNat (up M.T id) (Xq M id);rw[<- jB]at b1 b2 b3 b4 b5 b6 b7;have QDm:∀j,j ∉ up M.T id->Ql M2.N j=Ql M.N j:=λj hj=>by
  rw[jB,nY (QDl len.toNat) _ _ j hj,Sr,Qd (λe=>hj (by rw[e];exact x5))]
 have Ju:∀j,(Ql M2.N j).map (λn=>(n.c,n.q,n.du))=(Ql (Xq M id).N j).map λn=>(n.c,n.q,n.du):=λj=>by
  rw[jB];exact AT (key:=λn:Nd=>(n.c,n.q,n.du)) (λM j id=>Qmi len.toNat (λ_=>rfl) M j id) _ _ j
 have QDn:(Ql M2.N id).map (λn=>(n.c,n.q,n.du))=some (n.c,XG n.q,n.du):=by
  rw[Ju,Sr,Qf rfl,hn,ZY];rfl
 have Dt:∀j,j≠id->(Ql M2.N j).map (λn=>(n.c,n.q,n.du))=(Ql M.N j).map λn=>(n.c,n.q,n.du):=λj hj=>by
  rw[Ju,Sr,Qd hj]
 obtain⟨m2,Xk,e2⟩:=Xv.1 QDn;simp only[Zp]at e2;obtain⟨c2,q2,d2⟩:=e2;have Qmk:QD M2 id=m2:=by unfold QD;rw[Xk];rfl
 have Qcs:Wb M2:=by
  rw[jB];exact Qcr _ _ (LC (f:=λn:Nd=>{ n with q:=XG (QD M id).q }) (λ_=>rfl) (λn _ h=>⟨h.Jz,h.du,h.sh,h.cp,h.c⟩) V.ok)
 obtain⟨M3,jz⟩:∃M3,M3=VS M2 id len r:=⟨_,rfl⟩;rw[<- jz];have I3:Qy M3:=by rw[jz];exact I2.VS Xk len r
 obtain⟨a1,a2,a3,a4,a5,a6⟩:=Se M2 id len r;rw[<- jz]at a1 a2 a3 a4 a5 a6;have hF:∀j,Ql M3.N j=if j=id/\1<Q7 n.c.rt then (Ql M2.N j).map (λn=>{ n with du:=zT m2 len r }) else Ql M2.N j:=λj=>by
  rw[jz,Qmj,Qmk,c2]
 have bT:∀j,j ∉ up M.T id->Ql M3.N j=Ql M.N j:=λj hj=>by
  rw[hF,Qd (λe=>hj (by rw[e.1];exact x5)),QDm j hj]
 have Qct:∀j,j≠id->Ql M3.N j=Ql M2.N j:=λj hj=>by rw[hF,Qd (λe=>hj e.1)]
 obtain⟨m,hm,AF,Oe,mS⟩:∃m,Ql M3.N id=some m/\m.c=n.c/\m.q=XG n.q/\(1<Q7 n.c.rt->m.du=zT m2 len r):=by
  rw[hF,Xk];by_cases h:1<Q7 n.c.rt
  ·rw[Qf ⟨rfl,h⟩];exact⟨_,rfl,c2,q2,λ_=>rfl⟩
  ·rw[Qd (λe=>h e.2)];exact⟨_,rfl,c2,q2,λe=>absurd e h⟩
 have Qml:Wb M3:=λj k hj=>by
  rw[hF]at hj;split at hj
  ·obtain⟨k0,h1,rfl⟩:=Xv.1 hj;have h2:=Qcs j k0 h1;exact⟨h2.Jz,Qbl (Qcs id m2 Xk) len r,h2.sh,h2.cp,h2.c⟩
  ·exact Qcs j k hj
 have bU:M3.Lv=if 1<Q7 n.c.rt then (if (XG n.q).l=[] then VC id (YX id (zT m2 len r).YY (zT m2 len r).dead M.Lv) else YX id (zT m2 len r).YY (zT m2 len r).dead M.Lv) else M.Lv:=by
  rw[jz];unfold VS;rw[Qmk,c2,q2];split
  ·dsimp only;rw[b7];rfl
  ·exact b7
 have Ca:Fo M3:=V.lv.at_ hm (λj hj=>by
   rw[Qct j hj];exact LB (λk=>(k.1,k.2.1.l.isEmpty,k.2.2.YY,k.2.2.dead)) (Dt j hj)) (λy hy=>by
   rw[bU];split
   ·split
    ·rw[bN,Lz];exact⟨λh=>h.1.elim (λe=>absurd (congrArg It.ki e) hy) (·.1),λh=>⟨.inr ⟨h,hy⟩,hy⟩⟩
    ·rw[Lz];exact⟨λh=>h.elim (λe=>absurd (congrArg It.ki e) hy) (·.1),λh=>.inr ⟨h,hy⟩⟩
   ·exact Iff.rfl) λy hy=>by
   rw[bU,AF,Oe];by_cases h:1<Q7 n.c.rt
   ·rw[Qf h,mS h];split
    ·rename_i he;rw[bN];exact⟨λe=>absurd hy e.2,λe=>absurd he e.2.1⟩
    ·rename_i he;rw[Lz];exact⟨λe=>e.elim (λe=>⟨hl,he,h,e⟩) λe=>absurd hy e.2,λe=>.inl e.2.2.2⟩
   ·rw[Qd h];refine⟨λe=>?_,λe=>absurd e.2.2.1 h⟩;obtain⟨k,h1,_,_,h4,_⟩:=(V.lv y).1 e;rw[hy,hn]at h1;cases h1;exact absurd h4 h
 have Qmm:Hc M3:=⟨by
   rw[bU];split
   ·split
    ·exact Qcd (nX V.zZ.1)
    ·exact nX V.zZ.1
   ·exact V.zZ.1,λp=>by rw[a3,b3];exact V.zZ.2 p⟩
 have Qmn:Fp M3:=λj k hj B9=>by
  by_cases e:j=id
  ·subst e;rw[hm]at hj;cases hj;rw[AF,hl]at B9;cases B9
  ·rw[Qct j e]at hj;obtain⟨k0,h1,h2⟩:=Fq (Dt j e).symm hj;simp only[Zp]at h2;rw[<- h2.2.1];exact V.wJ j k0 h1 (by rw[h2.1];exact B9)
 have vr:M3.T=M.T:=by rw[a1,b1];rfl
 have Ss:M3.A=M.A:=by rw[a2,b2];rfl
 have o8:M3.KT=M.KT:=by rw[a3,b3];rfl
 have Qbk:∀p x,x.ki ∉ up M.T id->(x∈M3.KT p↔zY M3 p x):=V.kt.part o8 (λj _=>by unfold JR;rw[vr,Ss]) λj hj=>by rw[bT j hj]
 have Qmo:∀j,j≠id->(Ql M3.N j).map AS=(Ql M.N j).map AS:=λj hj=>by
  rw[Qct j hj];exact LB (λk=>(k.1,k.2.1.l.isEmpty)) (Dt j hj)
 have stay:(id∈M.A↔(XG n.q).l≠[]/\1<Q7 n.c.ls)->Inv (Wl M3 (up M.T id)):=λZF=>by
  rw[<- vr];refine Part.settle _ id I3 rfl ?_;rw[vr];refine⟨Ca,Qbk,λp x hx He=>?_,V.act.at_ hm Qmo (λj _=>by rw[Ss]) ?_,Qmn,Qmm,Qml⟩
  ·rw[o8]at hx;obtain⟨_,_,_,h,_⟩:=(V.kt p x).1 hx;show JB M3.T M3.A x.ki=true;rw[vr,Ss];exact h
  ·rw[Ss,AF,Oe,ZF];exact⟨λh=>⟨hl,h⟩,λh=>h.2⟩
 have Xi:id∈M.A↔1<Q7 n.c.ls:=by
  rw[V.act id,hn];constructor
  ·rintro⟨k,h1,_,_,h4⟩;cases h1;exact h4
  ·intro h;exact⟨n,rfl,hl,hq,h⟩
 by_cases n9:(XG n.q).l=[]
 ·rw[Qf n9];have QDo:QD M3 id=m:=by unfold QD;rw[hm];rfl
  unfold Xa;rw[QDo,AF];by_cases hs:1<Q7 n.c.ls
  ·rw[Qf hs];have QDp:=Xi.2 hs;obtain⟨Mo,Fs⟩:∃Mo,Mo={ M3 with A:=Kt M3.A id }:=⟨_,rfl⟩;have Io:Qy Mo:=by rw[Fs];exact I3.act (I3.Yl.off id)
   rw[<- Fs];obtain⟨U,hU⟩:∃U,U=XE M3.T (Kt M3.A id) id:=⟨_,rfl⟩;rw[<- hU];obtain⟨M4,xN⟩:∃M4,M4=U.foldl Ka Mo:=⟨_,rfl⟩;rw[<- xN];have I4:Qy M4:=by rw[xN];exact Qy.bk _ Io
   obtain⟨s1,s2,s3,s4,s5,s6⟩:=Ll U Mo;rw[<- xN]at s1 s2 s3 s4 s5 s6;have Lo:M4.T=M.T:=by rw[s1,Fs];exact vr
   have oc:M4.A=Kt M.A id:=by rw[s2,Fs];dsimp only;rw[Ss]
   have GL:Mo.N=M3.N:=by rw[Fs]
   have hoK:Mo.KT=M.KT:=by rw[Fs];exact o8
   have Qcv:∀j∈U,j∈up M.T id:=λj hj=>by
    rw[hU,vr]at hj;exact List.takeWhile_subset _ hj
   have Xn:∀p x,x∈M4.KT p↔x∈M.KT p/\x.ki ∉ U:=λp x=>by
    rw[xN,Qcp U Io p x,hoK]
   have jX:∀j,JR M j=true↔j∈up M.T id\/JR M4 j=true:=λj=>by
    unfold JR;rw[Lo,oc];exact Ns QDp j
   have QDq:∀j,j∈up M.T id->j ∉ U->JR M4 j=true:=λj hj G4=>by
    rw[hU,vr,Ss]at G4;unfold JR;rw[Lo,oc];unfold XE at G4;have od:=List.takeWhile_append_dropWhile (p:=λi=>!JB M.T (Kt M.A id) i) (l:=up M.T id);rw[<- od]at hj;rcases Q9.1 hj with hj|hj
    ·exact absurd hj G4
    ·cases hd:(up M.T id).dropWhile (λi=>!JB M.T (Kt M.A id) i) with
     | nil=>rw[hd]at hj;cases hj
     | cons k rest=>
      have hk:JB M.T (Kt M.A id) k=true:=by
       have:=List.head_dropWhile_not (λi=>!JB M.T (Kt M.A id) i) (l:=up M.T id) (by rw[hd];simp);simp only[hd,List.head_cons]at this;simpa using this
      rw[hd]at hj od;have QDr:k∈up M.T id:=by rw[<- od];simp
      obtain⟨ck,Cb⟩:=FO.1 (IE QDr);have Bn:rest=up M.T ck.parent:=QwZ I.tree (od.symm) Cb;rcases QM.1 hj with rfl|hj
      ·exact hk
      ·refine Nr I.tree hk ?_;rw[Vz I.tree Cb,<- Bn];exact KI _ hj
   have fwd:∀p x,x.ki ∉ up M.T id->x∈M4.KT p->zY M4 p x:=λp x hx h=>by
    have hxM:=((Xn p x).1 h).1;obtain⟨n0,h1,h2,h3,h4⟩:=(V.kt p x).1 hxM;have bV:Ql M4.N x.ki=some n0:=by
     have h5:Ql M4.N x.ki=Ql Mo.N x.ki:=by
      rw[xN];rw[xN]at h;exact Qmf U Io h
     rw[h5,GL,bT _ hx,h1]
    have ha4:JR M4 x.ki=true:=((jX _).1 h3).resolve_left hx;refine⟨n0,bV,h2,ha4,?_⟩;have hK4:M4.KT x.ki=M.KT x.ki:=by
     rw[xN,Qmg U Io x.ki,hoK];intro j hj e;obtain⟨cj,hcj⟩:=FO.1 (IE (Qcv j hj));have QDu:QF Mo.T j=some cj:=by rw[Fs];dsimp only;rw[vr];exact hcj
     rw[Qmd Io QDu]at e;refine hx (up_sub I.tree (Qcv j hj) ?_);rw[Vz I.tree hcj,e];exact KI _ (YA I.tree (I.some h1))
    rw[Qcg (n:=n0) rfl (by rw[ha4,h3]) hK4];exact h4
   rw[<- Lo];refine Part.settle _ id I4 rfl ?_;rw[Lo];refine⟨?_,λp x hx=>⟨fwd p x hx,λhd=>?_⟩,λp x h He=>QDq _ He ((Xn p x).1 h).2,?_,?_,?_,?_⟩
   ·refine Ca.of (by rw[s6,Fs]) λj=>?_;rw[xN,AT (LF (key:=LA) (λ_=>rfl)) U Mo j,GL]
   ·obtain⟨k,h1,h2,h3,h4⟩:=hd;have x7:(Ql M4.N x.ki).map (λn=>n.c)=(Ql M3.N x.ki).map λn=>n.c:=by
     rw[xN,AT (LF (key:=λn:Nd=>n.c) (λ_=>rfl)) U Mo x.ki,GL]
    obtain⟨n0,h5,h6⟩:=Fq x7.symm h1;rw[bT _ hx]at h5;have QDv:(⟨n0.sh.time,x.ki,VE M x.ki n0,x.ki⟩:It)∈M.KT p:=(V.kt p _).2 ⟨n0,h5,by rw[h6];exact h2,(jX _).2 (.inr h3),rfl⟩;have Qms:=(Xn p _).2 ⟨QDv,λhU2=>hx (Qcv _ hU2)⟩;obtain⟨k2,g1,g2,g3,g4⟩:=fwd p ⟨n0.sh.time,x.ki,VE M x.ki n0,x.ki⟩ hx Qms;dsimp only at g1 g4;rw[h1]at g1;cases g1;rw[<- g4]at h4;rw[h4];exact Qms
   ·refine V.act.at_ (id:=id) (m:=(QD M4 id)) ?_ (λj hj=>?_) (λj hj=>?_) ?_
    ·have x7:(Ql M4.N id).map (λn=>n.c)=(Ql M3.N id).map λn=>n.c:=by
      rw[xN,AT (LF (key:=λn:Nd=>n.c) (λ_=>rfl)) U Mo id,GL]
     obtain⟨k,h5,_⟩:=Fq x7 hm;unfold QD;rw[h5];rfl
    ·rw[xN,AT (LF (key:=AS) (λ_=>rfl)) U Mo j,GL];exact Qmo j hj
    ·rw[oc];simp[Kt,hj]
    ·have x7:(Ql M4.N id).map (λn=>n.q)=(Ql M3.N id).map λn=>n.q:=by
      rw[xN,AT (LF (key:=λn:Nd=>n.q) (λ_=>rfl)) U Mo id,GL]
     obtain⟨k,h5,h6⟩:=Fq x7 hm;have hk:QD M4 id=k:=by unfold QD;rw[h5];rfl
     rw[hk,h6,Oe,oc];simp[Kt,n9]
   ·refine Ql3 Qmn λj=>?_;rw[xN,AT (LF (key:=λn:Nd=>(n.c,n.q)) (λ_=>rfl)) U Mo j,GL]
   ·rw[xN];refine Qmh U ?_;rw[Fs];exact Qmm
   ·rw[xN];refine Qcq U ?_;rw[Fs];exact Qml
  ·rw[Qd hs];exact stay ⟨λh=>absurd (Xi.1 h) hs,λh=>absurd h.2 hs⟩
 ·rw[Qd n9];exact stay (Xi.trans ⟨λh=>⟨n9,h⟩,(·.2)⟩)
def WU(T2:List Qw)(j:Int):Bool:=match QF T2 j with
 | some c=>!c.leaf
 | none=>false
def Qmt{T2}(M:Qq)(j id:Int):(Ki T2 M j).KT id=if id=j/\WU T2 j=true then [] else M.KT id:=by
 unfold Ki WU;cases hf:QF T2 j with
 | none=>simp
 | some c=>
  dsimp only;by_cases hl:c.leaf=true
  ·rw[Qf hl,Qd (λe=>by rw[hl]at e;exact absurd e.2 (by decide))]
  ·rw[Qd hl];dsimp only;by_cases e:id=j
   ·rw[Qf e,Qf ⟨e,by simpa using hl⟩]
   ·rw[Qd e,Qd (λh=>e h.1)]
def Qcw{T2}(id):∀(l:List Int) (M:Qq),id ∉ l->(l.foldl (Ki T2) M).KT id=M.KT id
 | [],M,_=>rfl
 | j::l,M,h=>by
  rw[QM,zw]at h;rw[Ba,Qcw id l _ h.2,Qmt,Qd (λe=>h.1 e.1)]
def QDx{T2}{M}(V:Hc M)(j):Hc (Ki T2 M j):=by
 refine⟨by rw[(QlJ (T2:=T2) M j).2.1];exact V.1,λp=>?_⟩;rw[Qmt];split
 ·simp[VB]
 ·exact V.2 p
def Qmu{T2}:∀(l:List Int) {M:Qq},Hc M->Hc (l.foldl (Ki T2) M)
 | [],M,h=>h
 | j::l,M,h=>Qmu l (QDx h j)
def Qcx(T2)(id:Int):∀(l:List Int) (A:List Int),id∈l.foldl (xK T2) A↔id∈A\/(id∈l/\1<Q7 ((QF T2 id).getD default).ls)
 | [],A=>by simp
 | j::l,A=>by
  rw[Ba,Qcx T2 id l];unfold xK;constructor
  ·rintro (h|⟨h,h2⟩)
   ·split at h
    ·rename_i h3;rcases QM.1 h with rfl|h
     ·exact .inr ⟨Vn,h3⟩
     ·exact .inl h
    ·exact .inl h
   ·exact .inr ⟨KI _ h,h2⟩
  ·rintro (h|⟨h,h2⟩)
   ·refine .inl ?_;split
    ·exact KI _ h
    ·exact h
   ·rcases QM.1 h with rfl|h
    ·refine .inl ?_;rw[Qf h2];exact Vn
    ·exact .inr ⟨h,h2⟩
def Ft{M:Qq}(I:Qy M){id}:id∈V6 M↔∃n,Ql M.N id=some n/\n.c.leaf=true/\n.q.l≠[]:=by
 constructor
 ·intro h;obtain⟨h1,h2⟩:=J8.1 (show id∈(wH M.T).filter _ from h);obtain⟨n,h3,h4,h5⟩:=nR I h1;refine⟨n,h3,h4,λe=>?_⟩;unfold G8 QD at h2;rw[h3]at h2;simp[e]at h2
 ·rintro⟨n,hn,hl,hq⟩;have hc:=I.some hn;obtain⟨h1,h2⟩:=(Vs I.tree.rising).1 hc;refine J8.2 ⟨Jk.2 ⟨n.c,J8.2 ⟨h1,hl⟩,h2⟩,?_⟩;unfold G8 QD;rw[hn];cases BW:n.q.l with
  | nil=>exact absurd BW hq
  | cons x l=>simp[BW]
section
variable {M:Qq}(I:Qy M)(V:Inv M){T2:List Qw}(I2:VR T2)(K2:yM T2){b:Bool}(hb:kf M T2 b=false)
include I V I2 K2 hb
theorem Inv.bH:Qy (ze M T2):=X.bH I I2 K2 hb (Good.Ca I V.rb) (Good.Si I V.rb)
omit I V I2 K2 in
theorem Su{id}(bI:yS M id=true):id ∉ Ko M.T T2:=λhm=>by
 unfold kf at hb;rw[show (Ko M.T T2).any (yS M)=true from Eb.2 ⟨id,hm,bI⟩]at hb;cases hb
omit V K2 in
theorem oe{id}(bI:yS M id=true):Ql (X1 M T2) id=Ql M.N id:=by
 rw[Ls I I2];unfold VK;rw[Ha I2.rising,Qd (Su hb bI)]
omit I V I2 K2 hb in
theorem Sv{a x}(h1:a∈V6 M)(h2:x∈up M.T a):yS M x=true:=Eb.2 ⟨a,h1,by simpa using h2⟩
omit V K2 in
theorem QDy{a}(h1:a∈V6 M):∀(k:Nat) (x:Int),(up M.T x).length=k->(x=0\/x∈up M.T a)->up T2 x=up M.T x:=by
 intro k;induction k using Nat.strongRecOn with
 | ind k ih=>
  intro x hk hx;rcases hx with rfl|hx
  ·rw[Nq I2,Nq I.tree]
  ·obtain⟨c,hc⟩:=FO.1 (IE hx);have h2:QF T2 x=some c:=by
    refine jM λe=>?_;exact Su hb (Sv h1 hx) (Le.2 (by rw[hc];exact λe2=>e e2.symm))
   rw[Vz I2 h2,Vz I.tree hc];rw[Vz I.tree hc,Vh]at hk;congr 1;refine ih _ (by omega) c.parent rfl ?_;by_cases h0:c.parent=0
   ·exact .inl h0
   ·obtain⟨d,hd,_⟩:=I.tree.J4 c (As I.tree hc) h0;refine .inr (up_sub I.tree hx ?_);rw[Vz I.tree hc];exact KI _ (YA I.tree hd)
omit V K2 in
theorem Qmv{a}(h1:a∈V6 M):up T2 a=up M.T a:=by
 obtain⟨n,hn,_⟩:=(Ft I).1 h1;exact QDy I I2 hb h1 _ a rfl (.inr (YA I.tree (I.some hn)))
theorem QDz{id}:id∈V6 (ze M T2)↔id∈V6 M:=by
 have I1:=V.bH I I2 K2 hb;rw[Ft I1];constructor
 ·rintro⟨n,h1,h2,h3⟩;have JE:Ql (X1 M T2) id=some n:=h1;rw[Ls I I2]at JE;unfold VK at JE;rw[Ha I2.rising]at JE;split at JE
  ·obtain⟨c,_,rfl⟩:=Xv.1 JE;exact absurd rfl h3
  ·exact(Ft I).2 ⟨n,JE,h2,h3⟩
 ·intro h;obtain⟨n,h1,h2,h3⟩:=(Ft I).1 h;refine⟨n,?_,h2,h3⟩;show Ql (X1 M T2) id=some n;rw[oe I I2 hb (Sv h (YA I.tree (I.some h1)))];exact h1
theorem Qcy{id}:id∈(xL M T2).A↔id∈M.A:=by
 show id∈(V6 (ze M T2)).foldl (xK T2) []↔_;rw[Qcx,QDz I V I2 K2 hb,V.act id];constructor
 ·rintro (h|⟨h1,h2⟩)
  ·cases h
  ·obtain⟨n,h3,h4,h5⟩:=(Ft I).1 h1;refine⟨n,h3,h4,h5,?_⟩;have hs:id ∉ Ko M.T T2:=Su hb (Sv h1 (YA I.tree (I.some h3)));have h6:QF T2 id=QF M.T id:=jM λe=>hs (Le.2 λe2=>e e2.symm);rw[h6,I.some h3]at h2;exact h2
 ·rintro⟨n,h3,h4,h5,h6⟩;have h1:id∈V6 M:=(Ft I).2 ⟨n,h3,h4,h5⟩;refine .inr ⟨h1,?_⟩;have hs:id ∉ Ko M.T T2:=Su hb (Sv h1 (YA I.tree (I.some h3)));have h7:QF T2 id=QF M.T id:=jM λe=>hs (Le.2 λe2=>e e2.symm);rw[h7,I.some h3];exact h6
theorem Qcz(id):JR (xL M T2) id=JR M id:=by
 have hT:(xL M T2).T=T2:=(Lr (T2:=T2) (Ko M.T T2) { M with T:=T2 }).1;rw[kx];unfold JR;rw[hT,qw,qw];have hl:∀a∈M.A,a∈V6 M:=λa ha=>by
  obtain⟨n,h1,h2,h3,_⟩:=(V.act a).1 ha;exact(Ft I).2 ⟨n,h1,h2,h3⟩
 constructor
 ·rintro⟨a,ha,hu⟩;have yO:=(Qcy I V I2 K2 hb).1 ha;exact⟨a,yO,by rw[<- Qmv I I2 hb (hl a yO)];exact hu⟩
 ·rintro⟨a,ha,hu⟩;exact⟨a,(Qcy I V I2 K2 hb).2 ha,by rw[Qmv I I2 hb (hl a ha)];exact hu⟩
theorem Inv.change:Inv (xL M T2):=by
 obtain⟨f1,f2,f3,f4,f5⟩:=Lr (T2:=T2) (Ko M.T T2) { M with T:=T2 };have hL:(xL M T2).Lv=M.Lv:=f2;have h0:(0:Int) ∉ Ko M.T T2:=λh=>Le.1 h (by rw[Gy I.tree,Gy I2]);have fZ:∀{id:Int} {n:Nd},Ql M.N id=some n->n.c.leaf=true->n.q.l≠[]->Ql (xL M T2).N id=some n:=λ{id n} h1 h2 h3=>by
  show Ql (X1 M T2) id=some n;rw[oe I I2 hb (Sv ((Ft I).2 ⟨n,h1,h2,h3⟩) (YA I.tree (I.some h1)))];exact h1
 have Gi:∀{id:Int} {n:Nd},Ql (xL M T2).N id=some n->n.q.l≠[]->Ql M.N id=some n:=λ{id n} h1 h3=>by
  have JE:Ql (X1 M T2) id=some n:=h1;rw[Ls I I2]at JE;unfold VK at JE;rw[Ha I2.rising]at JE;split at JE
  ·obtain⟨c,_,rfl⟩:=Xv.1 JE;exact absurd rfl h3
  ·exact JE
 have Vo:∀{id:Int},JR M id=true->yS M id=true:=λ{id} h=>by
  obtain⟨a,ha,hu⟩:=qw.1 h;obtain⟨n,h1,h2,h3,_⟩:=(V.act a).1 ha;exact Sv ((Ft I).2 ⟨n,h1,h2,h3⟩) hu
 have Qmw:∀{id:Int},id ∉ Ko M.T T2->(xL M T2).KT id=M.KT id:=λ{id} h=>Qcw id (Ko M.T T2) { M with T:=T2 } h;have HU:∀{id:Int} {n:Nd},JR M id=true->VE (xL M T2) id n=VE M id n:=λ{id n} h=>Qcg rfl (Qcz I V I2 K2 hb id) (Qmw (Su hb (Vo h)));have Qce:∀p x,zY (xL M T2) p x↔zY M p x:=λp x=>by
  constructor
  ·rintro⟨n,h1,h2,h3,h4⟩;rw[Qcz I V I2 K2 hb]at h3;have h5:Ql M.N x.ki=some n:=by
    have:Ql (X1 M T2) x.ki=some n:=h1;rwa [oe I I2 hb (Vo h3)]at this
   exact⟨n,h5,h2,h3,by rw[<- HU h3];exact h4⟩
  ·rintro⟨n,h1,h2,h3,h4⟩;refine⟨n,?_,h2,by rw[Qcz I V I2 K2 hb];exact h3,by rw[HU h3];exact h4⟩;show Ql (X1 M T2) x.ki=some n;rw[oe I I2 hb (Vo h3)];exact h1
 have Qcf:∀{p:Int} {x:It},zY M p x->p ∉ Ko M.T T2:=λ{p x} ⟨n,h1,h2,h3,_⟩=>by
  by_cases hp:p=0
  ·rw[hp];exact h0
  ·refine Su hb (Vo (Nr I.tree h3 ?_));have WZ:=I.some h1;obtain⟨d,hd,_⟩:=I.tree.J4 n.c (As I.tree WZ) (by rw[h2];exact hp);rw[Vz I.tree WZ,<- h2];exact KI _ (YA I.tree hd)
 refine⟨λx=>?_,λp x=>?_,λid=>?_,λid n h hl=>?_,Qmu _ V.zZ,λid n h=>?_⟩
 ·rw[hL,V.lv x];constructor
  ·rintro⟨n,h1,h2,h3,h4,h5⟩;exact⟨n,fZ h1 h2 h3,h2,h3,h4,h5⟩
  ·rintro⟨n,h1,h2,h3,h4,h5⟩;exact⟨n,Gi h1 h3,h2,h3,h4,h5⟩
 ·rw[Qce];constructor
  ·intro h;have h2:x∈M.KT p:=nV p (Ko M.T T2) { M with T:=T2 } h;exact(V.kt p x).1 h2
  ·intro h;rw[Qmw (Qcf h)];exact(V.kt p x).2 h
 ·rw[Qcy I V I2 K2 hb,V.act id];constructor
  ·rintro⟨n,h1,h2,h3,h4⟩;exact⟨n,fZ h1 h2 h3,h2,h3,h4⟩
  ·rintro⟨n,h1,h2,h3,h4⟩;exact⟨n,Gi h1 h3,h2,h3,h4⟩
 ·have JE:Ql (X1 M T2) id=some n:=h;rw[Ls I I2]at JE;unfold VK at JE;rw[Ha I2.rising]at JE;split at JE
  ·obtain⟨c,_,rfl⟩:=Xv.1 JE;rfl
  ·exact V.wJ id n JE hl
 ·have JE:Ql (X1 M T2) id=some n:=h;rw[Ls I I2]at JE;unfold VK at JE;rw[Ha I2.rising]at JE;split at JE
  ·obtain⟨c,hc,rfl⟩:=Xv.1 JE;exact QlH (K2 c (As I2 hc))
  ·exact V.ok id n JE
end
def yR.uniq{M}{now}{o o'}(a:yR M now o)(b:yR M now o'):o=o':=by
 unfold yR at a b;cases o with
 | none=>
  cases o' with
  | none=>rfl
  | some y=>
   have h1:_=[]:=a;have h2:=Wh.mem b;rw[h1]at h2;cases h2
 | some x=>
  cases o' with
  | none=>
   have h1:_=[]:=b;have h2:=Wh.mem a;rw[h1]at h2;cases h2
  | some y=>exact congrArg some (Wh.uniq a b)
def yR.QDA{M:Qq}{now}{o:Option It}(h:yR M now o)(hn:now<=4611686018427387904):o.isSome=true↔∃x∈M.Lv,x.ka<=now:=by
 have e:min now 9223372036854775807=now:=by omega
 unfold yR at h;rw[e]at h;cases o with
 | none=>
  have h1:M.Lv.filter (λx=>decide (x.ka<=now))=[]:=h;constructor
  ·intro h;cases h
  ·rintro⟨x,hx,h2⟩;have:x∈M.Lv.filter (λx=>decide (x.ka<=now)):=J8.2 ⟨hx,by simpa using h2⟩;rw[h1]at this;cases this
 | some x=>
  refine⟨λ_=>?_,λ_=>rfl⟩;obtain⟨h1,h2⟩:=J8.1 (Wh.mem h);exact⟨x,h1,by simpa using h2⟩
def QDB{L}(hs:VB L){now}(hn:now<=4611686018427387904):bM L<=now↔∃x∈L,x.ka<=now:=by
 unfold bM;cases L with
 | nil=>simp[never];omega
 | cons y L=>
  simp only[List.head?_cons];have hnv:never=9223372036854775808:=rfl;constructor
  ·intro h;exact⟨y,Vn,by omega⟩
  ·rintro⟨x,hx,h⟩;have h2:y.ka<=x.ka:=by
    rcases QM.1 hx with rfl|hx
    ·exact QB _
    ·have h3:y.lt x:=(Ct.1 hs).1 x hx;unfold It.lt KB at h3;omega
   omega
def Qmx{L}{now}(hn:now<=4611686018427387904):xA L<=now↔∃x∈L,x.va<=now:=by
 obtain⟨h1,h2,h3⟩:=mA L never;have hnv:never=9223372036854775808:=rfl;unfold xA;constructor
 ·intro h;rcases h3 with h3|⟨x,hx,h3⟩
  ·omega
  ·exact⟨x,hx,by omega⟩
 ·rintro⟨x,hx,h⟩;have:=h2 x hx;omega
def Qmy{M:Qq}{now}(hn:now<=4611686018427387904){p:Int}:(firstM M now p).isSome=true↔∃x∈M.KT p,x.va<=now:=by
 unfold firstM;rw[List.find?_isSome];have e:min now 9223372036854775807=now:=by omega
 simp[e]
def QDD(T)(id:Int):(up T id).length<=16:=Dj
def Qmz{M:Qq}(I:Qy M)(V:Inv M){now}(hn:now<=4611686018427387904):∀(k:Nat) (p:Int),17<=k+(up M.T p).length->(∃x∈M.KT p,x.va<=now)->(B3 M now k p).isSome=true
 | 0,p,hk,_=>by
  have:=QDD M.T p;omega
 | k+1,p,hk,h=>by
  have h1:=(Qmy hn).2 h;unfold B3;cases hf:firstM M now p with
  | none=>rw[hf]at h1;cases h1
  | some x=>
   dsimp only;have hx:x∈M.KT p:=wS hf;have hv:x.va<=now:=by
    have:=y8 hf;simp only[XM]at this;omega
   obtain⟨n,h2,h3,h4,h5⟩:=(V.kt p x).1 hx;have ZY:QD M x.ki=n:=by unfold QD;rw[h2];rfl
   rw[ZY];by_cases hl:n.c.leaf=true
   ·rw[Qf hl];rfl
   ·rw[Qd hl];have h6:x.va=VE M x.ki n:=congrArg It.va h5;unfold VE at h6;rw[Qd (by rw[h4];simp[hl])]at h6;have h7:xA (M.KT x.ki)<=now:=by omega
    refine Qmz I V hn k x.ki ?_ ((Qmx hn).1 h7);rw[Vz I.tree (I.some h2),h3,Vh];omega
def QDE{M}(I:Qy M)(V:Inv M){now}(hn:now<=4611686018427387904){o:Option It}(ho:yR M now o):(VO M now o).isSome=true↔KQ M<=now:=by
 have h1:=ho.QDA hn;have h2:=QDB V.zZ.1 hn;have h3:=Qmx (L:=M.KT 0) hn;have h4:KQ M<=now↔bM M.Lv<=now\/xA (M.KT 0)<=now:=by unfold KQ;omega
 rw[h4,h2,h3];cases o with
 | some x=>simp only[VO,wV,true_iff];exact .inl (h1.1 rfl)
 | none=>
  have h5:¬ ∃x∈M.Lv,x.ka<=now:=λh=>by cases h1.2 h
  simp only[VO,Option.isSome_map];constructor
  ·intro h;refine .inr ?_;unfold B3 at h;cases hf:firstM M now 0 with
   | none=>rw[hf]at h;cases h
   | some x=>exact(Qmy hn).1 (by rw[hf];rfl)
  ·rintro (h|h)
   ·exact absurd h h5
   ·exact Qmz I V hn 17 0 (by rw[Nq I.tree];simp) h
def Fu(c:Cf):Bool:=decide (1<=c.t)&&decide (c.t<=65536)&&decide (1<=c.JK)&&decide (c.JK<=16384)
def Sx(c:Cf):Q4 prog 12 [.agg c.cells] (Qn (QJ (Fu c))):=by
 unfold Fu;refine ZA 0 Qi 200 func12 rfl ntmps12 results12 rfl λbase w hb=>?_;simp only[go_sem];all_goals (cases h1:decide (1<=c.t)<;>cases h2:decide (c.t<=65536)<;>cases h3:decide (1<=c.JK)<;>cases h4:decide (c.JK<=16384)<;>simp only[go_sem,h1,h2,h3,h4])
def bW:List It->Option It
 | []=>none
 | x::l=>match bW l with
  | none=>some x
  | some y=>some (kU x y)
def QmA:∀L:List It,Av (bW L) L
 | []=>rfl
 | x::l=>by
  have h:=QmA l;unfold bW;cases hb:bW l with
  | none=>
   rw[hb]at h;have h2:l=[]:=h;subst h2;exact Wh.one x
  | some y=>
   rw[hb]at h;exact Wh.join (Wh.one x) h
def QmB(M:Qq)(now:Nat):Option It:=bW (M.Lv.filter λx=>decide (x.ka<=min now 9223372036854775807))
def bX(M)(now):yR M now (QmB M now):=QmA _
def vw(M:Qq)(now:Nat):Option (Int × Bool):=if xG M now=true then VO (Z1 M now) now (QmB (Z1 M now) now) else none
def takeN(M:Qq)(now:Nat):Qq:=match vw M now with
 | none=>Z1 M now
 | some x=>Xr (Z1 M now) x.1 x.2
def WL(M:Qq)(now:Nat):Int:=match vw M now with
 | none=>0
 | some x=>x.1
def Vf(M:Qq)(now:Nat):Pk:=match vw M now with
 | none=>default
 | some x=>(QD M x.1).q.l.headD default
def Cc(M:Qq)(now:Nat):Bool:=match vw M now with
 | none=>false
 | some x=>x.2
def Xt(M:Qq)(now:Nat):Bool:=(vw M now).isSome
def QDF{M M'}{now}{d}(h:bw M now d M'):M'=takeN M now/\d=.tup [.agg (zV (WL M now) (Vf M now) (Cc M now)),QJ (Xt M now)]:=by
 rcases h with ⟨h1,rfl,rfl⟩|⟨h1,o,h2,h3⟩
 ·have e:vw M' now=none:=by unfold vw;rw[Qd (by rw[h1];exact ky)]
  have e2:Z1 M' now=M':=by unfold Z1;rw[Qd (by rw[h1];exact ky)]
  unfold takeN WL Vf Cc Xt;rw[e];exact⟨e2.symm,rfl⟩
 ·have e:vw M now=VO (Z1 M now) now o:=by unfold vw;rw[Qf h1,(bX (Z1 M now) now).uniq h2]
  unfold takeN WL Vf Cc Xt;rw[e];cases hp:VO (Z1 M now) now o with
  | none=>
   rw[hp]at h3;exact⟨h3.2,h3.1⟩
  | some x=>
   rw[hp]at h3;exact⟨h3.2,h3.1⟩
structure z6 (own:Nat->Tag) (h:List Ob) (p:Nat) (M:Qq):Prop where
 ex:∃L,ZS own h p L M
 I:Qy M
 V:Inv M
 K:XK M.lk
def z6.step{own own'}{h h':List Ob}{p}{M}(C:z6 own h p M)(e:∀l,l<h.length->Live (own l)->own' l=own l/\h'[l]? = h[l]?):z6 own' h' p M:=
 ⟨C.ex.imp λ_ c=>c.step e,C.I,C.V,C.K⟩
def z6.RW{own}{h}{p}{M}(C:z6 own h p M)(g):z6 (QX own h .no) (h++g) p M:=C.step λl hl _=>⟨Js hl,Qx hl⟩
def QmC(l:List Int)(M:Qq):(Wl M l).lk=M.lk:=(G0 l M).2.2.2.2.2.2.2.2
def QDG(M:Qq)(id:Int):(Xa M id).lk=M.lk:=by
 unfold Xa;split
 ·exact(Ll _ _).2.2.1
 ·rfl
def QDH(M:Qq)(id)(r:Bool):(Xr M id r).lk=M.lk:=by
 unfold Xr;dsimp only;rw[QmC];have h1:(VS ((up M.T id).foldl (V0 ((QD M id).q.l.headD default).len.toNat) (Xq M id)) id ((QD M id).q.l.headD default).len r).lk=M.lk:=by
  rw[(Se _ _ _ _).2.2.2.1,(N5 _ _ _).2.2.2.1];rfl
 split
 ·rw[QDG,h1]
 ·exact h1
def QDI(M:Qq)(now)(id)(head:Int):(YG M now id head).lk=M.lk:=by
 unfold YG;split
 ·rw[QmC,(Lj _ _ _).2.2.2.1];exact NY.2.2.2
 ·exact NY.2.2.2
def og(M:Qq)(now:Nat):(Z1 M now).lk=M.lk:=(Qly M now).1
def QDJ(M:Qq)(now)(cls)(x:Pk):(VT M now cls x).lk=M.lk:=by
 unfold VT;split
 ·rfl
 ·split
  ·split
   ·rw[QDI];rfl
   ·rfl
  ·rfl
def LG(M:Qq)(now)(cls)(x:Pk):(Jr M now cls x).lk=M.lk:=by
 unfold Jr;split
 ·rw[QDJ,og]
 ·rfl
def QmD(M:Qq)(now:Nat):(takeN M now).lk=M.lk:=by
 unfold takeN;split
 ·exact og M now
 ·rw[QDH,og]
def Sy(M:Qq)(b)(l:List JH):(Ke M b l).lk=M.lk:=by
 unfold Ke;split
 ·exact(Lr _ _).2.2.1
 ·rfl
def QDK{M:Qq}{now}(h:xG M now=true):M.Qh<=now/\now<=4611686018427387904:=by
 unfold xG at h;simp only[jL,Hy,TG]at h;omega
def Inv.pick{M:Qq}(I:Qy M)(V:Inv M){now}{o}(ho:yR M now o){id}{r}(hp:VO M now o=some (id,r)):∃n,Ql M.N id=some n/\n.c.leaf=true/\n.q.l≠[]/\(1<Q7 n.c.ls->id∈M.A):=Good.Qbz I V.rb now o id r ho hp
def Inv.takeN{M}(I:Qy M)(V:Inv M)(now):Inv (takeN M now):=by
 unfold X.takeN;cases hp:vw M now with
 | none=>exact V.told now
 | some x=>
  unfold vw at hp;split at hp
  ·obtain⟨n,h1,h2,h3,_⟩:=(V.told now).pick (B5 I now) (bX _ _) hp;exact(V.told now).take (B5 I now) h1 h2 h3 x.2
  ·cases hp
def Inv.Ke{M}(I:Qy M)(V:Inv M)(b)(l)(hc:∀c∈l,JH.Ok c):Inv (Ke M b l):=by
 unfold X.Ke;split
 ·rename_i h;have h2:kf M (JM M.T l) b=false:=by
   unfold zX at h;split at h
   ·rename_i h3;exact absurd h h3
   ·split at h
    ·cases h
    ·rename_i h4;simpa using h4
  obtain⟨h3,h4⟩:=RV I.tree I.yN hc;exact V.change I h3 h4 h2
 ·exact V
def Sz{c}:Fu c=true↔XK c:=by
 unfold Fu;simp only[Z9,XM];exact⟨λh=>⟨h.1.1.1,h.1.1.2,h.1.2,h.2⟩,λh=>⟨⟨⟨h.t1,h.t2⟩,h.l1⟩,h.l2⟩⟩
section
variable {own:Nat->Tag}{h:List Ob}{p:Nat}{M:Qq}(C:z6 own h p M)
include C
theorem QDL(now)(WK:now<18446744073709551616)(cls)(x):
  QK prog 114 h [.ptr p 0 0 0,u64 now,Qb cls,.agg x.cells] (λd h'=>d=Qb (Y3 M now cls x)/\∃own',z6 own' h' p (Jr M now cls x)/\ZO own h own' h'):=by
 obtain⟨L,c⟩:=C.ex;refine QK.mono (QBG c C.I C.K now WK cls x (Good.hA C.I C.V.rb cls)) ?_;rintro d h' ⟨own',M',c',I',D,hd,rfl⟩;exact⟨hd,own',⟨⟨L,c'⟩,I',C.V.Jr C.I now WK cls x,by rw[LG];exact C.K⟩,D⟩
theorem QDM(now):
  QK prog 165 h [.ptr p 0 0 0,u64 now] (λd h'=>d=.tup [.agg (zV (WL M now) (Vf M now) (Cc M now)),QJ (Xt M now)]/\∃own',z6 own' h' p (takeN M now)/\ZO own h own' h'):=by
 obtain⟨L,c⟩:=C.ex;refine QK.mono (QBq c C.I now λo id r ho hp=>?_) ?_
 ·obtain⟨n,h1,h2,h3,h4⟩:=(C.V.told now).pick (B5 C.I now) ho hp;exact⟨n,by rw[<- (G6 M now).1];exact h1,h2,h3,by rw[<- (G6 M now).2.2];exact h4⟩
 ·rintro d h' ⟨own',M',c',I',D,hR⟩;obtain⟨rfl,hd⟩:=QDF hR;exact⟨hd,own',⟨⟨L,c'⟩,I',C.V.takeN C.I now,by rw[QmD];exact C.K⟩,D⟩
theorem QDN(b)(l:List JH)(hc:∀c∈l,JH.Ok c)(hl:l.length<1000000):
  QK prog 59 h [.ptr p 0 0 0,QJ b,aV l] (λd h'=>d=.tup [Qb (AQ M l),Qb (zX M b l)]/\∃own',z6 own' h' p (Ke M b l)/\ZO own h own' h'):=by
 obtain⟨L,c⟩:=C.ex;refine QK.mono (QCz c C.I C.K b l hc hl (Good.Ca C.I C.V.rb) (Good.Si C.I C.V.rb)) ?_;rintro d h' ⟨own',L',M',c',I',D,hd,rfl⟩;exact⟨hd,own',⟨⟨L',c'⟩,I',C.V.Ke C.I b l hc,by rw[Sy];exact C.K⟩,D⟩
end
def QDO(own)(h){c}(K:XK c):
  QK prog 54 h [.agg c.cells] (λd h'=>∃own' p,d=.tup [.ptr p 0 0 0,Qb 0]/\z6 own' h' p (M0 c)/\ZO own h own' h'):=by
 refine QK.mono (QBQ (own:=own) c) ?_;rintro d h' (⟨_,own',L,p,hd,c',I',D⟩|⟨hk,_⟩)
 ·exact⟨own',p,hd,⟨⟨L,c'⟩,I',Ql2 c,K⟩,D⟩
 ·exact absurd K hk
end Go.Fg.X
namespace Go.Fg
open Go.RowKit (Below)
def Qp.bY{w0}{fr}{h}(t sz)(ht:get fr t=.nil):
  Qp w0 ⟨fr,h⟩ ⟨put fr t (.ref h.length 0 0 0),h++[(⟨.arr,0,sz,0,λ_=>[]⟩:Ob)]⟩:=by
 intro Z z base nt pl a w r b;have hlen:pl.length=h.length:=r.o.len;have R1:=r.o.Bh ⟨.arr,0,sz,0,λ_=>[]⟩ rfl;have T1:Tr h pl w (h++[(⟨.arr,0,sz,0,λ_=>[]⟩:Ob)]) (pl++[none]) w:=Tr.push r.o (λ_ _=>rfl) _ _ (by intro b q e;simp at e);have hph:(h++[(⟨.arr,0,sz,0,λ_=>[]⟩:Ob)])[h.length]? = some ⟨.arr,0,sz,0,λ_=>[]⟩:=by simp
 have k2:=r.fr t;rw[show get (St.fr ⟨fr,h⟩) t=.nil from ht]at k2;obtain⟨a0,hv⟩:=Ei k2;have r2:Rel Z base nt ⟨fr,h++[⟨.arr,0,sz,0,λ_=>[]⟩]⟩ (pl++[none]) a w:=⟨r.nt,r.defers,λu=>(r.fr u).tr T1,R1⟩;refine⟨pl++[none],r2.tell (t:=t) ?_,b.step T1 (Below.refl _ _)⟩;rw[hv];refine .ref _ _ _ _ ⟨.arr,0,sz,0,λ_=>[]⟩ none a0 0 hph ?_ rfl (QB _) (λ_=>.inl ⟨rfl,rfl⟩);rw[<- hlen];simp
end Go.Fg
namespace Go.Fg.X
open Go.Proofs Go.Fg
open Go.Proofs.Tryz
def Zn(M:Qq)(id:Int):List Pk:=(QD M id).q.l
def DP(n:Nd):List Pk:=n.q.l
def bZ{M M':Qq}{id:Int}(h:(Ql M'.N id).map DP=(Ql M.N id).map DP):Zn M' id=Zn M id:=by
 unfold Zn QD;cases h1:Ql M.N id with
 | none=>
  rw[h1,zq,pM]at h;rw[h]
 | some n=>
  rw[h1]at h;obtain⟨m,h2,h3⟩:=Xv.1 h;rw[h2];exact h3
def QDQ(M:Qq)(now)(id)(head:Int)(j:Int):(Ql (YG M now id head).N j).map DP=(Ql M.N j).map DP:=by
 have h1:(Ql (VZ M now id head).N j).map DP=(Ql M.N j).map DP:=by
  rw[Qcl];split
  ·cases Ql M.N j<;>rfl
  ·rfl
 unfold YG;split
 ·rw[(G0 _ _).1,AT (key:=DP) (λM j id=>Ql5 now (λ_ _=>rfl) M j id)];exact h1
 ·exact h1
def QDR{M}(now)(cls)(x)(leaf):Zn (VT M now cls x) leaf=if V5 M cls x=0/\cls=leaf then Zn M leaf++[x] else Zn M leaf:=by
 have push:∀j,j≠cls->Zn (Ve M cls x) j=Zn M j:=λj hj=>bZ (by rw[LD,Qd hj]);cases hn:Ql M.N cls with
 | none=>
  have e:V5 M cls x=23:=by unfold V5;rw[hn]
  unfold VT;rw[e,Qd (by decide),Qd (by decide),Qd (λh=>absurd h.1 (by decide))]
 | some n=>
  have ZY:QD M cls=n:=by unfold QD;rw[hn];rfl
  have at_:Zn (Ve M cls x) cls=(Yj n.c.Z5 n.c.bytes n.q x).l:=by
   unfold Zn QD;rw[LD,Qf rfl,hn,ZY];rfl
  have q0:Zn M cls=n.q.l:=by unfold Zn;rw[ZY]
  by_cases wK:V5 M cls x=30
  ·obtain⟨_,h2⟩:=Qcn hn wK;unfold VT;rw[Qf wK,Qd (λh=>by rw[wK]at h;exact absurd h.1 (by decide))];by_cases e:leaf=cls
   ·rw[e,at_,q0];unfold Yj;rw[Qf h2]
   ·exact push leaf e
  ·by_cases h0:V5 M cls x=0
   ·obtain⟨_,h2,_⟩:=Qco hn h0;have h3:Zn (VT M now cls x) leaf=Zn (Ve M cls x) leaf:=by
     unfold VT;rw[Qd wK,Qf h0];split
     ·exact bZ (QDQ _ _ _ _ _)
     ·rfl
    rw[h3];by_cases e:leaf=cls
    ·rw[Qf ⟨h0,e.symm⟩,e,at_,q0,Ql4 h2]
    ·rw[Qd (λh=>e h.2.symm)];exact push leaf e
   ·unfold VT;rw[Qd wK,Qd h0,Qd (λh=>h0 h.1)]
def QcA(M)(now:Nat)(id):Zn (Z1 M now) id=Zn M id:=bZ (by rw[(G6 M now).1])
def SA(M)(now)(cls)(x)(leaf):Zn (Jr M now cls x) leaf=if Y3 M now cls x=0/\cls=leaf then Zn M leaf++[x] else Zn M leaf:=by
 unfold Jr Y3;split
 ·rw[QDR,QcA]
 ·rw[Qd (λh=>absurd h.1 (by decide))]
def QDS(M)(id)(r)(j:Int):Zn (Xr M id r) j=if j=id then (Zn M j).tail else Zn M j:=by
 have h1:Zn (Xr M id r) j=Zn (Xq M id) j:=by
  refine bZ ?_;unfold Xr;dsimp only;rw[(G0 _ _).1];have h2:(Ql (VS ((up M.T id).foldl (V0 ((QD M id).q.l.headD default).len.toNat) (Xq M id)) id ((QD M id).q.l.headD default).len r).N j).map DP=(Ql (Xq M id).N j).map DP:=by
   rw[Qmj];have h4:=AT (key:=DP) (step:=V0 ((QD M id).q.l.headD default).len.toNat) (λM2 j id2=>Qmi _ (λ_=>rfl) M2 j id2) (up M.T id) (Xq M id) j;rw[<- h4];split
   ·cases Ql ((up M.T id).foldl (V0 ((QD M id).q.l.headD default).len.toNat) (Xq M id)).N j<;>rfl
   ·rfl
  split
  ·unfold Xa;split
   ·rw[AT (key:=DP) (LF (λ_=>rfl))];exact h2
   ·exact h2
  ·exact h2
 rw[h1];have Sr:Ql (Xq M id).N j=if j=id then (Ql M.N j).map (λn=>{ n with q:=XG (QD M id).q }) else Ql M.N j:=
  vq (f:=λn:Nd=>{ n with q:=XG (QD M id).q }) (λ_=>rfl) j
 by_cases e:j=id
 ·rw[Qf e];unfold Zn QD;rw[Sr,Qf e,e];unfold QD;cases h5:Ql M.N id<;>rfl
 ·rw[Qd e];exact bZ (by rw[Sr,Qd e])
def Hf(M)(now)(j:Int):Zn (takeN M now) j=if Xt M now=true/\WL M now=j then (Zn M j).tail else Zn M j:=by
 unfold takeN Xt WL;cases hp:vw M now with
 | none=>rw[Qd (λh=>by cases h.1)];exact QcA M now j
 | some x=>
  dsimp only;rw[QDS,QcA];by_cases e:j=x.1
  ·rw[Qf e,Qf ⟨rfl,e.symm⟩]
  ·rw[Qd e,Qd (λh=>e h.2.symm)]
def oh{M}(I:Qy M)(V:Inv M){now}(h:Xt M now=true):∃x l,Zn M (WL M now)=x::l/\Vf M now=x:=by
 unfold Xt at h;obtain⟨y,hp⟩:=FO.1 h;have hj:WL M now=y.1:=by unfold WL;rw[hp]
 have hk:Vf M now=(Zn M y.1).headD default:=by unfold Vf;rw[hp];rfl
 unfold vw at hp;split at hp
 ·obtain⟨n,h1,h2,h3,_⟩:=(V.told now).pick (B5 I now) (bX _ _) hp;rw[(G6 M now).1]at h1;have hq:Zn M y.1=n.q.l:=by unfold Zn QD;rw[h1];rfl
  cases hl:n.q.l with
  | nil=>exact absurd hl h3
  | cons x l=>exact⟨x,l,by rw[hj,hq,hl],by rw[hk,hq,hl];rfl⟩
 ·cases hp
end Go.Fg.X
namespace Go.Fg.X
open Go.Proofs Go.Fg
end Go.Fg.X
namespace Go.Fg.X
open Go.Proofs Go.Fg
open Go.Proofs.Tryz
def c6:Cf:=⟨1,100⟩
end Go.Fg.X
namespace Go.Fg.X
open Go.Proofs Go.Fg
end Go.Fg.X
namespace Go.Fg.X
open Go.Proofs Go.Fg
end Go.Fg.X
namespace Go.Fg.X
open Go.Proofs Go.Fg
open Go.Proofs.Tryz
def QDW(M:Qq)(l:List Int):Nat:=(l.map λj=>(QD M j).Jz).sum
structure QMr (M:Qq):Prop where
 leaf:∀id n,Ql M.N id=some n->n.c.leaf=true->n.Jz=n.q.bo
 inner:∀id n,Ql M.N id=some n->n.c.leaf=false->n.Jz=WY (QDW M (Xl M.T id))
def QMs(n:Nd):Qw × Nat × Nat:=(n.c,n.Jz,n.q.bo)
def QDY(M:Qq)(id)(r:Bool):(Xr M id r).T=M.T:=by
 unfold Xr;dsimp only;rw[(G0 _ _).2.1];have h1:(VS ((up M.T id).foldl (V0 ((QD M id).q.l.headD default).len.toNat) (Xq M id)) id ((QD M id).q.l.headD default).len r).T=M.T:=by
  rw[(Se _ _ _ _).1,(N5 _ _ _).1];rfl
 split
 ·unfold Xa;split
  ·rw[(Ll _ _).1];exact h1
  ·exact h1
 ·exact h1
def Qy.up{M:Qq}(I:Qy M){id j}(h:j∈X.up M.T id):∃n,Ql M.N j=Option.some n:=by
 obtain⟨c,hc⟩:=FO.1 (IE h);obtain⟨n,h1,_⟩:=I.NV hc;exact⟨n,h1⟩
def Qy.oq:∀(l:List Int) {M:Qq},Qy M->Wb M->(∀j∈l,∃n,Ql M.N j=Option.some n)->Qy (Wl M l)
 | [],M,I,_,_=>I
 | id::l,M,I,V,h=>by
  obtain⟨n,hn⟩:=h id Vn;have s1:=(RX M id).1;exact Qy.oq l (Qbh I hn (V id n hn)) (by unfold Wb;rw[s1];exact V) (by rw[s1];exact λj hj=>h j (KI _ hj))
def QDZ{M:Qq}(V:Wb M){id}{n}(hn:Ql M.N id=some n)(JY)(r):Wb (VS M id JY r):=by
 have ZY:QD M id=n:=by unfold QD;rw[hn];rfl
 unfold VS;split
 ·exact LC (f:=λm:Nd=>{ m with du:=zT (QD M id) JY r }) (λ_=>rfl) (λm _ h=>⟨h.Jz,by rw[ZY];exact Qbl (V id n hn) JY r,h.sh,h.cp,h.c⟩) V
 ·exact V
def QD0{M}(V:Wb M)(id):Wb (Xa M id):=by
 unfold Xa;split
 ·exact Qcq _ (M:={ M with A:=Kt M.A id }) V
 ·exact V
def Qy.Xr{M:Qq}(I:Qy M)(V:Wb M){id}{n}(hn:Ql M.N id=Option.some n)(r):Qy (Xr M id r):=by
 unfold X.Xr;dsimp only;generalize ((QD M id).q.l.headD default).len=len;obtain⟨M2,jB⟩:∃M2,M2=(X.up M.T id).foldl (X.V0 len.toNat) (X.Xq M id):=⟨_,rfl⟩;rw[<- jB];have I2:Qy M2:=by rw[jB];exact Qy.nB _ (I.Xq id)
 obtain⟨b1,_⟩:=N5 len.toNat (X.up M.T id) (X.Xq M id);rw[<- jB]at b1;have V2:Wb M2:=by
  rw[jB];exact Qcr _ _ (LC (f:=λn:Nd=>{ n with q:=XG (QD M id).q }) (λ_=>rfl) (λn _ h=>⟨h.Jz,h.du,h.sh,h.cp,h.c⟩) V)
 have Fl:M2.T=M.T:=b1;obtain⟨n2,VQ⟩:=I2.up (id:=id) (j:=id) (by rw[Fl];exact YA I.tree (I.some hn));have I3:=I2.VS VQ len r;have V3:=QDZ V2 VQ len r;have vr:(X.VS M2 id len r).T=M.T:=(Se M2 id len r).1.trans Fl;split
 ·have I4:=I3.Xa id;have Lo:(X.Xa (X.VS M2 id len r) id).T=M.T:=by
   unfold X.Xa;split
   ·rw[(Ll _ _).1];exact vr
   ·exact vr
  exact I4.oq _ (QD0 V3 id) λj hj=>I4.up (id:=id) (by rw[Lo];exact hj)
 ·exact I3.oq _ V3 λj hj=>I3.up (id:=id) (by rw[vr];exact hj)
def QD1{M:Qq}(V:Wb M){id}{n}(hn:Ql M.N id=some n)(now)(WK:now<18446744073709551616)(head):Wb (VZ M now id head):=λj k hj=>by
 have ZY:QD M id=n:=by unfold QD;rw[hn];rfl
 rw[Qcl,ZY]at hj;split at hj
 ·obtain⟨k0,h1,rfl⟩:=Xv.1 hj;have h2:=V j k0 h1;exact⟨h2.Jz,Qav (V id n hn).du (V id n hn).c.2.2.2.1.lt WK head,h2.sh,h2.cp,h2.c⟩
 ·exact V j k hj
def QmG{now}(WK:now<18446744073709551616):∀(l:List Int) (M:Qq),Qy M->Wb M->Wb (l.foldl (W9 now) M)
 | [],M,_,V=>V
 | j::l,M,I,V=>QmG WK l _ (I.W9 now j) (LC (f:=DJ M now) (λ_=>rfl) (λn _ hn=>Qbo I WK hn) V)
def Qy.YG{M:Qq}(I:Qy M)(V:Wb M){id}{n:Nd}(hn:Ql M.N id=Option.some n)(hl:n.c.leaf=true)(now)(WK:now<18446744073709551616)(head):Qy (YG M now id head):=by
 have ZY:QD M id=n:=by unfold QD;rw[hn];rfl
 have I2:=I.VZ hn now head;have V2:=QD1 V hn now WK head;obtain⟨w1,w2,w3,w4⟩:=NY (M:=M) (now:=now) (id:=id) (head:=head);unfold X.YG;rw[ZY];split
 ·rename_i hs;have I3:Qy { X.VZ M now id head with A:=id::M.A }:=I2.act λa ha=>by
   rw[w1];rcases QM.1 ha with rfl|ha
   ·exact⟨n.c,I.some hn,hl,hs⟩
   ·exact I.Yl a ha
  have I4:=Qy.aZ (now:=now) (XE M.T M.A id) I3;have V4:=QmG WK (XE M.T M.A id) _ I3 V2;obtain⟨t1,_⟩:=Lj now (XE M.T M.A id) { X.VZ M now id head with A:=id::M.A };exact I4.oq _ V4 λj hj=>I4.up (id:=id) (by rw[t1];show j∈X.up (X.VZ M now id head).T id;rw[w1];exact hj)
 ·exact I2
def Qy.VT{M}(I:Qy M)(V:Wb M)(now)(WK:now<18446744073709551616)(cls)(x):Qy (VT M now cls x):=by
 unfold X.VT;cases hn:Ql M.N cls with
 | none=>
  have e:V5 M cls x=23:=by unfold V5;rw[hn]
  rw[e,Qd (by decide),Qd (by decide)];exact I
 | some n=>
  have ZY:QD M cls=n:=by unfold QD;rw[hn];rfl
  by_cases wK:V5 M cls x=30
  ·rw[Qf wK];exact I.Ve cls x
  ·rw[Qd wK];by_cases h0:V5 M cls x=0
   ·rw[Qf h0,ZY];obtain⟨h1,h2,h3,h4,h5⟩:=Qco hn h0;have I2:=(I.Ve cls x).vv h5;split
    ·refine I2.YG (Qck V cls x) (n:={ n with q:=Yj n.c.Z5 n.c.bytes n.q x }) ?_ h1 now WK x.len;show Ql (X.Ve M cls x).N cls=_;rw[LD,Qf rfl,hn,ZY];rfl
    ·exact I2
   ·rw[Qd h0];exact I
def Qy.Jr{M}(I:Qy M)(V:Inv M)(now)(WK:now<18446744073709551616)(cls)(x):Qy (Jr M now cls x):=by
 unfold X.Jr;split
 ·exact(B5 I now).VT (V.told now).ok now WK cls x
 ·exact I
def Qy.takeN{M}(I:Qy M)(V:Inv M)(now):Qy (takeN M now):=by
 unfold X.takeN;cases hp:vw M now with
 | none=>exact B5 I now
 | some x=>
  unfold vw at hp;split at hp
  ·obtain⟨n,h1,h2,h3,_⟩:=(V.told now).pick (B5 I now) (bX _ _) hp;exact(B5 I now).Xr (V.told now).ok h1 x.2
  ·cases hp
def Qy.Ke{M}(I:Qy M)(V:Inv M)(b)(l)(hc:∀c∈l,JH.Ok c):Qy (Ke M b l):=by
 unfold X.Ke;split
 ·rename_i h;have h2:kf M (JM M.T l) b=false:=by
   unfold zX at h;split at h
   ·rename_i h3;exact absurd h h3
   ·split at h
    ·cases h
    ·rename_i h4;simpa using h4
  obtain⟨h3,h4⟩:=RV I.tree I.yN hc;have I1:=V.bH I h3 h4 h2;have hT:(ze M (JM M.T l)).T=JM M.T l:=(Lr (T2:=JM M.T l) (Ko M.T (JM M.T l)) { M with T:=JM M.T l }).1;refine I1.act λa ha=>?_;rcases (Qcx (JM M.T l) a (V6 (ze M (JM M.T l))) []).1 ha with h5|⟨h5,h6⟩
  ·cases h5
  ·obtain⟨n,h7,h8,h9⟩:=(Ft I1).1 h5;have jh:=I1.some h7;refine⟨n.c,jh,h8,?_⟩;rw[hT]at jh;rw[jh]at h6;exact h6
 ·exact I
def QmH(l:List Int)(M:Qq):(Wl M l).Qh=M.Qh:=(G0 l M).2.2.2.2.2.2.1
def QD2(M:Qq)(id:Int):(Xa M id).Qh=M.Qh:=by
 unfold Xa;split
 ·exact(Ll _ _).2.2.2.1
 ·rfl
def QD3(M:Qq)(id)(r:Bool):(Xr M id r).Qh=M.Qh:=by
 unfold Xr;dsimp only;rw[QmH];have h1:(VS ((up M.T id).foldl (V0 ((QD M id).q.l.headD default).len.toNat) (Xq M id)) id ((QD M id).q.l.headD default).len r).Qh=M.Qh:=by
  rw[(Se _ _ _ _).2.2.2.2.1,(N5 _ _ _).2.2.2.2.1];rfl
 split
 ·rw[QD2,h1]
 ·exact h1
def QmI(M:Qq)(now)(id)(head:Int):(VZ M now id head).Qh=M.Qh:=by
 unfold VZ;split<;>rfl
def QD4(M:Qq)(now)(id)(head:Int):(YG M now id head).Qh=M.Qh:=by
 unfold YG;split
 ·rw[QmH,(Lj _ _ _).2.2.2.2.1];exact QmI M now id head
 ·exact QmI M now id head
def QD5(M:Qq)(now)(cls)(x:Pk):(VT M now cls x).Qh=M.Qh:=by
 unfold VT;split
 ·rfl
 ·split
  ·split
   ·rw[QD4];rfl
   ·rfl
  ·rfl
def QcB(M:Qq)(now:Nat):(Z1 M now).Qh=M.Qh\/((Z1 M now).Qh=now/\now<=4611686018427387904):=by
 unfold Z1;split
 ·rename_i h;exact .inr ⟨rfl,(QDK h).2⟩
 ·exact .inl rfl
def QcC{M:Qq}(I:Qy M)(V:Inv M){now}(hn:now<=4611686018427387904)(hc:M.Qh<=now):Xt M now=decide (KQ M<=now/\KQ M<9223372036854775808):=by
 have ht:xG M now=true:=by
  unfold xG;simp only[jL,Hy,TG];omega
 have h1:=QDE (B5 I now) (V.told now) hn (bX (Z1 M now) now);have h2:KQ (Z1 M now)=KQ M:=by unfold Z1;split<;>rfl
 rw[h2]at h1;unfold Xt vw;rw[Qf ht,kx,h1,XM];omega
def Zo(M:Qq):Nat:=(M.T.map λc=>(Zn M c.iD).length).sum
def QcD{f f':Int->Nat}{q:Int}:∀{l:List Qw},(l.map (·.iD)).Nodup->q∈l.map (·.iD)->f' q+1=f q->(∀j,j≠q->f' j=f j)->(l.map λc=>f' c.iD).sum+1=(l.map λc=>f c.iD).sum
 | [],_,h,_,_=>by cases h
 | a::l,hn,h,h1,h2=>by
  simp only[J7,Jf,List.sum_cons]at hn ⊢;by_cases e:a.iD=q
  ·have e2:(l.map λc=>f' c.iD)=l.map λc=>f c.iD:=Ec λc hc=>h2 _ λe3=>hn.1 (by rw[e,<- e3];exact Jk.2 ⟨c,hc,rfl⟩);rw[e2,e];omega
  ·have h3:=QcD hn.2 ((QM.1 h).resolve_left λe2=>e e2.symm) h1 h2;rw[h2 _ e];omega
def cn(M:Qq)(now:Nat):(takeN M now).T=M.T:=by
 unfold takeN;split
 ·exact(G6 M now).2.1
 ·rw[QDY];exact(G6 M now).2.1
def QmJ{M}(I:Qy M)(V:Inv M){now}(h:Xt M now=true):Zo (takeN M now)+1=Zo M:=by
 obtain⟨x,l,h1,h2⟩:=oh I V h;unfold Zo;rw[cn];have ZY:(M.T.map (·.iD)).Nodup:=by
  have h:M.T.Pairwise (λa b=>a.iD<b.iD):=I.tree.rising;rw[Tv,Ml];exact h.imp λVo=>by omega
 refine QcD (q:=WL M now) (f:=λj=>(Zn M j).length) (f':=λj=>(Zn (takeN M now) j).length) ZY ?_ ?_ λj hj=>?_
 ·unfold Zn QD at h1;cases hf:Ql M.N (WL M now) with
  | none=>rw[hf]at h1;cases h1
  | some n=>
   obtain⟨h3,h4⟩:=(Vs I.tree.rising).1 (I.some hf);exact Jk.2 ⟨n.c,h3,h4⟩
 ·rw[Hf,Qf ⟨h,rfl⟩,h1];simp
 ·rw[Hf,Qd λe=>hj e.2.symm]
def XL(now until_ due:Nat):Nat:=min (max (max now until_) due) 9223372036854775808
def QmK{M:Qq}(I:Qy M)(V:Inv M){Qh until_ end_}(hc:M.Qh<=Qh)(he:end_<=4611686018427387904)(h:XL Qh until_ (KQ M)<=end_):
  Xt M (XL Qh until_ (KQ M))=true/\until_<=XL Qh until_ (KQ M)/\Qh<=XL Qh until_ (KQ M):=by
 have h1:XL Qh until_ (KQ M)=max (max Qh until_) (KQ M):=by unfold XL at h ⊢;omega
 have h2:=QcC I V (now:=XL Qh until_ (KQ M)) (by omega) (by omega);rw[h2];refine⟨Q5 ⟨by omega,by omega⟩,by omega,by omega⟩
end Go.Fg.X
