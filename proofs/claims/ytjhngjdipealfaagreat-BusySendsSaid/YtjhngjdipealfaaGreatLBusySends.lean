/- The statement BusySends is proved. No conditions. -/
import Derived.Test.YtjhngjdipealfaaGreatTB5
import Derived.Test.YtjhngjdipealfaaGreatFgHx
import Derived.Test.YtjhngjdipealfaaGreatRows
set_option maxRecDepth 100000
set_option maxHeartbeats 16000000
set_option linter.unusedVariables false
set_option linter.unusedSimpArgs false
set_option linter.unusedSectionVars false
set_option linter.defProp false
namespace Go.Fg.X
open Go.Proofs Go.Fg
open Go.Proofs.Tryz
def Qgk(t:Int):Int->List Ev->Prop
 | _,[]=>True
 | u,v::l=>if v.X9=true then Qgk t u l else u<=v.at_/\1<=v.len/\v.len<=16384/\0<=v.at_/\v.at_<=4611686018427387904/\v.done=v.at_+v.len*t/\Qgk t v.done l
def Qgj:Int->List Ev->Int
 | u,[]=>u
 | u,v::l=>if v.X9=true then Qgj u l else Qgj v.done l
def QgU(t):∀(a b:List Ev) (u:Int),Qgk t u a->Qgk t (Qgj u a) b->Qgk t u (a++b)
 | [],b,u,_,h=>h
 | v::a,b,u,h1,h2=>by
  show if v.X9=true then Qgk t u (a++b) else _;unfold Qgk at h1;unfold Qgj at h2;split
  ·rename_i hi;rw[Qg hi]at h1 h2;exact QgU t a b u h1 h2
  ·rename_i hi;rw[Qd hi]at h1 h2;exact⟨h1.1,h1.2.1,h1.2.2.1,h1.2.2.2.1,h1.2.2.2.2.1,h1.2.2.2.2.2.1,QgU t a b _ h1.2.2.2.2.2.2 h2⟩
def QgV:∀(a b:List Ev) (u:Int),Qgj u (a++b)=Qgj (Qgj u a) b
 | [],b,u=>rfl
 | v::a,b,u=>by
  show (if v.X9=true then Qgj u (a++b) else Qgj v.done (a++b))=Qgj (if v.X9=true then Qgj u a else Qgj v.done a) b;split
  ·exact QgV a b u
  ·exact QgV a b _
structure PkR (c:Cf) (S S':ZH) (l:List Ev):Prop where
 ok:Qgk c.t S.YR l
 un:Qgj S.YR l=S'.YR
 lk:S'.M.lk=c
def Qnz{c}{S:ZH}(T:Jh S)(hc:S.M.lk=c)(op):PkR c S (J5 S op S.Ql).1 (J5 S op S.Ql).2:=by
 unfold J5;split
 ·exact⟨trivial,rfl,hc⟩
 ·rename_i hu;split
  ·rename_i h;have hl:=T.take_len h;have h1:=bY T.K hl;have hK:=T.K;have k1:=hK.t1;have k2:=hK.l2;have Z6:=T.cl;have ht:((B6 S.M.lk (qs S.M S.Ql).len:Nat):Int)=(qs S.M S.Ql).len*c.t:=by
    unfold B6;rw[<- hc,Se,Gc (by omega),Gc (by omega)]
   refine⟨?_,rfl,(bX _ _).trans hc⟩;show (S.YR:Int)<=(S.Ql:Nat)/\1<=(qs S.M S.Ql).len/\(qs S.M S.Ql).len<=16384/\(0:Int)<=(S.Ql:Nat)/\((S.Ql:Nat):Int)<=4611686018427387904/\((S.Ql+B6 S.M.lk (qs S.M S.Ql).len:Nat):Int)=(S.Ql:Nat)+(qs S.M S.Ql).len*c.t/\True;refine⟨by omega,by omega,by omega,by omega,by omega,?_,trivial⟩;rw[<- ht];rfl
  ·exact⟨trivial,rfl,(bX _ _).trans hc⟩
def QnA{c}{op e}(he:e<=4611686018427387904):∀(n:Nat) {S:ZH},Jh S->S.Ql<=e->S.M.lk=c->PkR c S (WR op e n S).1 (WR op e n S).2
 | 0,S,T,h,hc=>⟨trivial,rfl,hc⟩
 | n+1,S,T,h,hc=>by
  unfold WR;split
  ·exact⟨trivial,rfl,hc⟩
  ·rename_i h2;have T1:=T.at_ (oW S T.cl) (show ZL S<=4611686018427387904 by omega);have P1:=Qnz (S:={ S with Ql:=ZL S }) T1 hc op;have T2:=T1.oV op;have P2:=QnA (op:=op) he n T2 (by
    have:=(RL { S with Ql:=ZL S } op (ZL S)).1;rw[this];show ZL S<=e;omega) P1.lk
   have u1:Qgj (S.YR:Int) (J5 { S with Ql:=ZL S } op (ZL S)).2=_:=P1.un;refine⟨QgU _ _ _ _ P1.ok ?_,?_,P2.lk⟩
   ·rw[u1];exact P2.ok
   ·rw[QgV,u1];exact P2.un
def QHE{c}{S:ZH}(T:Jh S)(hc:S.M.lk=c){o:JC}:PkR c S (qV S o).S (qV S o).l:=by
 have same:∀S':ZH,S'.YR=S.YR->S'.M.lk=c->PkR c S S' []:=λS' h1 h2=>⟨trivial,by rw[h1];rfl,h2⟩;show PkR c S (Xo { S with ops:=S.ops+1 } S.ops o).S (Xo { S with ops:=S.ops+1 } S.ops o).l;unfold Xo;split
 ·exact same _ rfl ((bV _ _ _).trans hc)
 ·split
  ·split<;>exact same _ rfl hc
  ·split
   ·unfold zP;split
    ·exact same _ rfl hc
    ·split
     ·have T2:=((T.ops (S.ops+1)).put (Wn S.R (Jc o.Xc)) o.Xc).ZV (Wn S.R (Jc o.Xc)) S.Ql (by have:=T.cl;omega);have P:=Qnz T2 (show (KO S.M S.Ql (Wn S.R (Jc o.Xc)) o.Xc).lk=c from (bU _ _ _ _).trans hc) S.ops;exact⟨P.ok,P.un,P.lk⟩
     ·exact same _ rfl ((bU _ _ _ _).trans hc)
   ·split
    ·unfold kF;split
     ·exact same _ rfl hc
     ·rename_i Qc;have:=T.cl;have Qc:¬(4611686018427387904 - S.Ql<o.Ww.toNat):=Qc;have P:=QnA (S:={ S with ops:=S.ops+1 }) (op:=S.ops) (e:=S.Ql+o.Ww.toNat) (by omega) (VQ S.M+1) (T.ops _) (by show S.Ql<=S.Ql+_;omega) hc;exact⟨P.ok,P.un,P.lk⟩
    ·exact same _ rfl hc
def QnB{c}:∀(l:List JC) {S:ZH},Jh S->S.M.lk=c->(∀o∈l,JC.Ok o)->PkR c S (Xp S l).1 (Xp S l).2.2
 | [],S,T,hc,hl=>⟨trivial,rfl,hc⟩
 | o::l,S,T,hc,hl=>by
  have P1:=QHE (o:=o) T hc;have P2:=QnB l (T.do (hl o Va).2.1.2) P1.lk λa ha=>hl a (Ks _ ha);refine⟨QgU _ _ _ _ P1.ok ?_,?_,P2.lk⟩
  ·rw[P1.un];exact P2.ok
  ·show Qgj _ ((qV S o).l++_)=_;rw[QgV,P1.un];exact P2.un
def QnC(d:D)(hs:List Ob):D->List Ob->Prop:=λd' h=>d'=d/\h=hs
attribute [go_sem] QnC
structure Kz9 where
 til:Int
 since:Int
 work:Nat
@[go_sem] def Kz9.cells(k:Kz9):List D:=[.raw (.int .u64 k.til),.raw (.int .u64 k.since),.raw (.int .i64 k.work)]
def Kz9.next(k:Kz9)(e:Ev):Kz9:=
 if e.X9=true then ⟨k.til,if k.work=0 then e.at_ else k.since,k.work+1⟩ else ⟨max k.til e.done,k.since,k.work - 1⟩
def Kz9.late(k:Kz9)(e:Ev):Bool:=!e.X9&&(decide (0<k.work)&&decide (max k.til k.since<e.at_))
@[go_sem] def QgE(k:Kz9):Ob:=⟨.one,0,3,1,λ_=>k.cells⟩
def QnD(k:Kz9)(e:Ev)(hk:k.work<4611686018427387904):Go.Fg.QL prog 104 [QgE k] [.ptr 0 0 0 0,.agg e.cells] (QnC (QY (k.late e)) [QgE (k.next e)]):=by
 refine QhK 1 Qh 200 func104 rfl rfl ntmps104 results104 rfl λbase w pl hb=>?_;simp only[go_sem];have Zq:=Vp hk;cases hi:e.X9
 ·simp only[go_sem];by_cases hw:k.work=0
  ·have d1:decide (0<k.work)=false:=QQ (by omega);have d2:decide ((0:Int)<k.work)=false:=QQ (by omega);have w1:IntKind.i64.wrap ((k.work:Int) - 1)=-1:=by rw[wrap64 (by omega) (by omega)];omega
   apply QH hb [0,1,2,3,4,5,6,7,8,9,10,11,12,13,14,15,16,17,18,19];simp only[go_sem,d1,d2];apply QH hb [0,1,2,3,4,5,6,7,8,9,1010];simp only[go_sem,w1];have e1:k.late e=false:=by simp[Kz9.late,hw]
   have e2:k.next e=⟨max k.til e.done,k.since,0⟩:=by simp[Kz9.next,hi,hw]
   have e3:max (-1:Int) 0=0:=rfl;rw[e1,e2,e3];simp
  ·have d1:decide (0<k.work)=true:=Q7 (by omega);have d2:decide ((0:Int)<k.work)=true:=Q7 (by omega);have w1:IntKind.i64.wrap ((k.work:Int) - 1)=((k.work - 1:Nat):Int):=by rw[wrap64 (by omega) (by omega)];omega
   apply QH hb [0,1,2,3,4,5,6,7,8,9,10,11,12,13,14,15,16,17,18,19];simp only[go_sem,d1,d2];apply QH hb [0,1,2,3,4,5,6,7,8,9,1010];simp only[go_sem,w1];have e2:k.next e=⟨max k.til e.done,k.since,k.work - 1⟩:=by simp[Kz9.next,hi]
   have e3:max ((k.work - 1:Nat):Int) 0=((k.work - 1:Nat):Int):=by omega
   have e1:k.late e=decide (max k.til k.since<e.at_):=by simp only[Kz9.late,hi,d1,Gb,Iq]
   rw[e1,e2,e3];simp
 ·simp only[go_sem];have e1:k.late e=false:=by simp[Kz9.late,hi]
  first|refine EX (λhw=>?_) (λhw=>?_)|refine EY (λhw=>?_) (λhw=>?_)|refine EZ (λhw=>?_) (λhw=>?_)|refine vg (λhw=>?_) (λhw=>?_)|refine E0 (λhw=>?_) (λhw=>?_)|refine E6 (λhw=>?_) (λhw=>?_)|refine E7 (λhw=>?_) (λhw=>?_)|refine ET (λhw=>?_) (λhw=>?_)
  ·simp only[go_sem,Zq];have e2:k.next e=⟨k.til,e.at_,k.work+1⟩:=by simp[Kz9.next,hi,show k.work=0 by omega]
   rw[e1,e2];simp
  ·simp only[go_sem,Zq];have e2:k.next e=⟨k.til,k.since,k.work+1⟩:=by simp[Kz9.next,hi,show ¬ k.work=0 by omega]
   rw[e1,e2];simp
def Qai(l:List Ev):Nat->Kz9
 | 0=>⟨0,0,0⟩
 | k+1=>(Qai l k).next (l.getD k default)
def Qhq(l:List Ev):∀k,(Qai l k).work<=k
 | 0=>QD _
 | k+1=>by have:=Qhq l k;simp only[Qai,Kz9.next];split<;>simp only<;>omega
def QnE(l:List Ev)(hl:l.length<2147483648):Zh prog 105 [OP l] (Qo (.agg (Qai l l.length).cells)):=by
 refine Zy 0 Qh 200 func105 rfl ntmps105 results105 rfl λbase w hb=>?_;simp only[go_sem];refine tI (G:=Nat) [2,3,6,7] (λk=>True) (λk γ=>[(8,Qb k)]) (λk γ=>[⟨.one,0,3,1,λ_=>[.raw (.int .u64 0),.raw (.int .u64 0),.raw (.int .i64 0)]⟩,QgE (Qai l k)]) (l.length) (0) rfl (QI.to 2 (by (simp only[go_sem,Qai])<;>simp)) trivial ?_;intro k γ hk _;apply ZC hb;have Zq:=Vp (show k<4611686018427387904 by omega);have hw:=Qhq l k;first|refine Ad hk (λQs=>?_) (λQs=>?_)|refine Ae hk (λQs=>?_) (λQs=>?_)
 ·simp only[go_sem,Qs];refine xM hb [1] Qjy rfl ?_ (QnD (Qai l k) (l.getD k default) (by omega)) rfl λd h hR=>?_
  ·simp only[go_sem]
  obtain⟨rfl,rfl⟩:=hR;simp only[go_sem];apply ZC hb;have e5:Qai l (k+1)=(Qai l k).next (l.getD k default):=rfl;repeat (refine And.intro (by first|assumption|omega) ?_)
  refine⟨_,QI.to 2 (by (simp only[go_sem,Zq,e5])<;>simp),EW.mk (γ) (trivial)⟩
 ·simp only[go_sem];apply ZC hb;subst Qs;rfl
def QHF(l:List Ev)(hl:l.length<2147483648):Zh prog 62 [OP l] (Qo (Qb (Qai l l.length).work)):=by
 refine Zy 0 Qh 200 func62 rfl ntmps62 results62 rfl λbase w hb=>?_;simp only[go_sem];refine xM hb [] Qjz rfl ?_ (QnE l hl) rfl λd h hR=>?_
 ·simp only[go_sem]
 obtain⟨rfl,rfl⟩:=hR;simp only[go_sem];exact xY hb
def QHG(l:List Ev)(hl:l.length<2147483648):Zh prog 63 [OP l] (Qo (.raw (.int .u64 (Qai l l.length).til))):=by
 refine Zy 0 Qh 200 func63 rfl ntmps63 results63 rfl λbase w hb=>?_;simp only[go_sem];refine xM hb [] Qjz rfl ?_ (QnE l hl) rfl λd h hR=>?_
 ·simp only[go_sem]
 obtain⟨rfl,rfl⟩:=hR;simp only[go_sem];exact xY hb
def Vz9(l:List Ev)(k:Nat):Bool:=(Qai l k).late (l.getD k default)
def Qgy(l:List Ev)(k:Nat):Prop:=k<l.length/\Vz9 l k=true/\∀j,j<k->Vz9 l j=false
def QgY(l:List Ev):Prop:=∀j,j<l.length->Vz9 l j=false
def QHH(l:List Ev)(hl:l.length<2147483648):Go.Fg.QL prog 103 [QgE (Qai l 0)] [OP l,.clo 104 1 [.ptr 0 0 0 0]]
  (λd h=>(∃kn,h=[QgE kn])/\((∃k,Qgy l k/\d=Qb k)\/(QgY l/\d=Qb (-1)))):=by
 refine QhK 1 Qh 200 func103 rfl rfl ntmps103 results103 rfl λbase w pl hb=>?_;simp only[go_sem];refine tI (G:=Nat) [0,1,6,7] (λk=>∀j,j<k->Vz9 l j=false) (λk γ=>[(8,Qb k)]) (λk γ=>[QgE (Qai l k)]) (l.length) (0) rfl (QI.to 1 (by (simp only[go_sem])<;>simp)) ?_ ?_
 ·intro j hj;omega
 intro k γ hk Jw;apply ZC hb;have Zq:=Vp (show k<4611686018427387904 by omega);have hw:=Qhq l k;first|refine Ad hk (λQs=>?_) (λQs=>?_)|refine Ae hk (λQs=>?_) (λQs=>?_)
 ·simp only[go_sem,Qs];refine xM hb [0] Qjy rfl ?_ (QnD (Qai l k) (l.getD k default) (by omega)) rfl λd h hR=>?_
  ·simp only[go_sem]
  obtain⟨rfl,rfl⟩:=hR;simp only[go_sem];apply ZC hb;have e5:Qai l (k+1)=(Qai l k).next (l.getD k default):=rfl;first|refine EX (λHt=>?_) (λHt=>?_)|refine EY (λHt=>?_) (λHt=>?_)|refine EZ (λHt=>?_) (λHt=>?_)|refine vg (λHt=>?_) (λHt=>?_)|refine E0 (λHt=>?_) (λHt=>?_)|refine E6 (λHt=>?_) (λHt=>?_)|refine E7 (λHt=>?_) (λHt=>?_)|refine ET (λHt=>?_) (λHt=>?_)
  ·simp only[go_sem];exact⟨⟨_,rfl⟩,.inl ⟨k,⟨Qs,Ht,Jw⟩,rfl⟩⟩
  ·simp only[go_sem];repeat (refine And.intro (by first|assumption|omega) ?_)
   refine⟨_,QI.to 1 (by (simp only[go_sem,Zq,e5])<;>simp),EW.mk (0) (?_)⟩;intro j hj;rcases Cb.1 hj with h|rfl
   ·exact Jw j h
   ·exact Ht
 ·simp only[go_sem];apply ZC hb;subst Qs;exact⟨⟨_,rfl⟩,.inr Jw⟩
def QnF(l:List Ev)(hl:l.length<2147483648):Zh prog 61 [OP l]
  (λd h=>h=[]/\((∃k,Qgy l k/\d=.tup [Qb k,QY true])\/(QgY l/\d=.tup [Qb 0,QY false]))):=by
 refine Zy 0 Qh 200 func61 rfl ntmps61 results61 rfl λbase w hb=>?_;simp only[go_sem];refine xM hb [0] Qhm rfl ?_ (QHH l hl) rfl λd h hR=>?_
 ·simp only[go_sem];simp[Qai]
 obtain⟨⟨kn,rfl⟩,⟨k,hk,rfl⟩|⟨Jw,rfl⟩⟩:=hR
 ·simp only[go_sem];apply ZC hb;have d1:decide ((k:Int)<0)=false:=QQ (by omega);simp only[go_sem,d1];exact .inl ⟨k,hk,rfl⟩
 ·simp only[go_sem];apply ZC hb;exact .inr Jw
structure Str where
 frm:Int
 to:Int
instance:Inhabited Str:=⟨⟨0,0⟩⟩
@[go_sem] def Str.cells(s:Str):List D:=[.raw (.int .u64 s.frm),.raw (.int .u64 s.to)]
def Str.rows(l:List Str):Nat->List D:=λi=>(l.getD i default).cells
@[go_sem] theorem Str.xO(l:List Str)(i):Str.rows l i=(l.getD i default).cells:=rfl
@[go_sem] def strs(l:List Str):D:=.imm 2 l.length (Str.rows l)
structure StS where
 l:List Str
 til:Int
def Qao(s:StS)(e:Ev):StS:=
 if e.X9=true then s
 else if s.l.length=0\/s.til<e.at_ then ⟨s.l++[⟨e.at_,e.done⟩],max s.til e.done⟩
 else ⟨s.l.set (s.l.length - 1) ⟨(s.l.getD (s.l.length - 1) default).frm,max (s.l.getD (s.l.length - 1) default).to e.done⟩,max s.til e.done⟩
def Qaf(l:List Ev):Nat->StS
 | 0=>⟨[],0⟩
 | k+1=>Qao (Qaf l k) (l.getD k default)
def Qhr(l:List Ev):∀k,(Qaf l k).l.length<=k
 | 0=>QD _
 | k+1=>by
  have:=Qhr l k;simp only[Qaf,Qao];split
  ·omega
  ·split
   ·simp;omega
   ·simp;omega
def QHI{α:Type}[Inhabited α]{n}{l:List α}{o:α}(i)(hi:i<l.length):(l.set n o).getD i default=bif (i==n) then o else l.getD i default:=by
 by_cases h:i=n
 ·subst h;rw[QDV _ _ _ _ hi];simp
 ·rw[QDX _ _ _ _ _ (Q3 h),zX.2 h];rfl
def QnG(l:List Ev)(hl:l.length<2147483648):Zh prog 60 [OP l] (Qo (strs (Qaf l l.length).l)):=by
 refine Zy 0 Qh 200 func60 rfl ntmps60 results60 rfl λbase w hb=>?_;simp only[go_sem];refine EO (QI.Ch 3 2 (Str.rows []) rfl) ?_;simp only[go_sem];refine tI (G:=Nat) [8,9] (λk=>True) (λk γ=>[(3,.ref 0 (Qaf l k).l.length 0 (Qaf l k).l.length),(4,.raw (.int .u64 (Qaf l k).til)),(10,Qb k)]) (λk γ=>[⟨.arr,(Qaf l k).l.length,2,(Qaf l k).l.length,Str.rows (Qaf l k).l⟩]) (l.length) (0) rfl (QI.to 1 (by (simp only[go_sem,Qaf])<;>simp)) trivial ?_;intro k γ hk _;apply ZC hb;have Zq:=Vp (show k<4611686018427387904 by omega);have hlen:=Qhr l k;first|refine Ad hk (λQs=>?_) (λQs=>?_)|refine Ae hk (λQs=>?_) (λQs=>?_)
 ·have e5:Qaf l (k+1)=Qao (Qaf l k) (l.getD k default):=rfl;generalize hee:l.getD k default=e at *;generalize hse:Qaf l k=s at *;cases hi:e.X9;case true=>
   rw[Qao,Qg hi]at e5;simp only[go_sem,Qs,hee,hi];repeat (refine And.intro (by first|assumption|omega) ?_)
   refine⟨_,QI.to 1 (by (simp only[go_sem,Zq,e5])<;>simp),EW.mk (γ) (trivial)⟩
  have QJf:∀(x:Str),(s.l++[x]).length=s.l.length+1:=λx=>by simp
  by_cases c1:s.l.length=0\/s.til<e.at_
  ·rw[Qao,Qd (by rw[hi];simp),Qg c1]at e5;have w1:IntKind.i64.wrap (((s.l.length+1:Nat):Int) - 1)=(s.l.length:Int):=by rw[wrap64 (by omega) (by omega)];omega
   have d3:s.l.length<s.l.length+1:=by omega
   by_cases c2:s.l.length=0;case pos=>
    simp only[go_sem,Qs,hee,hi,bz c2,w1,d3];refine⟨by omega,?_⟩;apply QH hb [0,1,2,3,4,5,6,7,8,9,1010];simp only[go_sem,w1,d3,Gj];repeat (refine And.intro (by first|assumption|omega) ?_)
    refine⟨_,QI.to 1 ⟨?_,?_,?_,?_⟩,EW.mk γ trivial⟩
    ·simp only[go_sem,Zq,e5,ZX]
    ·simp only[go_sem]
    ·simp only[go_sem]
    ·simp only[go_sem,e5,ZX,Int.max_self];intro i hi;rw[Qy5 _ _ _ _ hi];rcases Cb.1 hi with h|h
     ·have hb:(i==s.l.length)=false:=by simp;omega
      simp only[h,hb,decide_true,jQ,qB]
     ·subst h;simp only[ID,Gj,decide_false,jQ,qB]
   case neg=>
    have c3:s.til<e.at_:=by omega
    simp only[go_sem,Qs,hee,hi,bnz c2,w1,d3,Q7 c3];refine⟨by omega,?_⟩;apply QH hb [0,1,2,3,4,5,6,7,8,9,1010];simp only[go_sem,w1,d3,Gj];repeat (refine And.intro (by first|assumption|omega) ?_)
    refine⟨_,QI.to 1 ⟨?_,?_,?_,?_⟩,EW.mk γ trivial⟩
    ·simp only[go_sem,Zq,e5,ZX]
    ·simp only[go_sem]
    ·simp only[go_sem]
    ·simp only[go_sem,e5,ZX,Int.max_self];intro i hi;rw[Qy5 _ _ _ _ hi];rcases Cb.1 hi with h|h
     ·have hb:(i==s.l.length)=false:=by simp;omega
      simp only[h,hb,decide_true,jQ,qB]
     ·subst h;simp only[ID,Gj,decide_false,jQ,qB]
  ·rw[Qao,Qd (by rw[hi];simp),Qd c1]at e5;have c2:s.l.length≠0:=by omega
   have c3:¬ s.til<e.at_:=by omega
   have w1:IntKind.i64.wrap ((s.l.length:Int) - 1)=((s.l.length - 1:Nat):Int):=by rw[wrap64 (by omega) (by omega)];omega
   have d3:s.l.length - 1<s.l.length:=by omega
   simp only[go_sem,Qs,hee,hi,bnz c2,w1,d3,QQ c3];apply QH hb [0,1,2,3,4,5,6,7,8,9,1010];simp only[go_sem,w1,d3];repeat (refine And.intro (by first|assumption|omega) ?_)
   refine⟨_,QI.to 1 ⟨?_,?_,?_,?_⟩,EW.mk γ trivial⟩
   ·simp only[go_sem,Zq,e5,Ki]
   ·simp only[go_sem]
   ·simp only[go_sem]
   ·simp only[go_sem,e5,Ki];intro i hi;rw[QHI _ hi];cases (i==s.l.length - 1)<;>rfl
 ·simp only[go_sem];subst Qs;refine EO (QI.freeze rfl 0 rfl rfl (λi hi=>by simp only[go_sem])) ?_;simp only[go_sem];exact xY hb
def rw_(l:List Ev):Nat->Nat
 | 0=>0
 | k+1=>if (l.getD k default).X9=true then rw_ l k+1 else rw_ l k - 1
@[simp] theorem QJg(l:List Ev):rw_ l 0=0:=rfl
def QHJ(a b c):IntKind.u64.wrap (a+IntKind.u64.wrap (b - c))=IntKind.u64.wrap (IntKind.u64.wrap (a+b) - c):=by
 simp only[IntKind.wrap_u64];omega
def Qgo(L:List Str):Nat->Int
 | 0=>0
 | k+1=>if (L.getD k default).frm<(L.getD k default).to then IntKind.u64.wrap (IntKind.u64.wrap (Qgo L k+(L.getD k default).to) - (L.getD k default).frm) else Qgo L k
def QnH(l:List Ev)(hl:l.length<2147483648):Zh prog 32 [OP l] (Qo (.raw (.int .u64 (Qgo (Qaf l l.length).l (Qaf l l.length).l.length)))):=by
 refine Zy 0 Qh 200 func32 rfl ntmps32 results32 rfl λbase w hb=>?_;simp only[go_sem];refine xM hb [] Qjq rfl ?_ (QnG l hl) rfl λd h hR=>?_
 ·simp only[go_sem]
 obtain⟨rfl,rfl⟩:=hR;simp only[go_sem];apply ZC hb;have hL:=Qhr l l.length;generalize (Qaf l l.length).l=L at *;refine tI (G:=Nat) [7,8] (λk=>True) (λk γ=>[(3,.raw (.int .u64 (Qgo L k))),(9,Qb k)]) (λk γ=>[]) (L.length) (0) rfl (QI.to 0 (by (simp only[go_sem,Qgo])<;>simp)) trivial ?_;intro k γ hk _;apply ZC hb;have Zq:=Vp (show k<4611686018427387904 by omega);first|refine Ad hk (λQs=>?_) (λQs=>?_)|refine Ae hk (λQs=>?_) (λQs=>?_)
 ·have e5:Qgo L (k+1)=if (L.getD k default).frm<(L.getD k default).to then IntKind.u64.wrap (IntKind.u64.wrap (Qgo L k+(L.getD k default).to) - (L.getD k default).frm) else Qgo L k:=rfl;simp only[go_sem,Qs];first|refine EX (λc1=>?_) (λc1=>?_)|refine EY (λc1=>?_) (λc1=>?_)|refine EZ (λc1=>?_) (λc1=>?_)|refine vg (λc1=>?_) (λc1=>?_)|refine E0 (λc1=>?_) (λc1=>?_)|refine E6 (λc1=>?_) (λc1=>?_)|refine E7 (λc1=>?_) (λc1=>?_)|refine ET (λc1=>?_) (λc1=>?_)
  ·simp only[go_sem,QHJ];rw[Qg c1]at e5;repeat (refine And.intro (by first|assumption|omega) ?_)
   refine⟨_,QI.to 0 (by (simp only[go_sem,Zq,e5])<;>simp),EW.mk (γ) (trivial)⟩
  ·simp only[go_sem];rw[Qd c1]at e5;repeat (refine And.intro (by first|assumption|omega) ?_)
   refine⟨_,QI.to 0 (by (simp only[go_sem,Zq,e5])<;>simp),EW.mk (γ) (trivial)⟩
 ·simp only[go_sem];subst Qs;exact xY hb
def QfR(t:Int):List Ev->Int
 | []=>0
 | v::l=>(if v.X9=true then 0 else v.len*t)+QfR t l
def QnJ(t):∀a b:List Ev,QfR t (a++b)=QfR t a+QfR t b
 | [],b=>by simp[QfR]
 | v::a,b=>by rw[XW,QfR,QfR,QnJ t a b];omega
def Qf3:List Str->Int
 | []=>0
 | x::l=>(x.to - x.frm)+Qf3 l
def QgP:∀a b:List Str,Qf3 (a++b)=Qf3 a+Qf3 b
 | [],b=>by simp[Qf3]
 | v::a,b=>by rw[XW,Qf3,Qf3,QgP a b];omega
structure StI (s:StS):Prop where
 lt:∀x∈s.l,x.frm<x.to
 last:s.l=[]\/∃L y,s.l=L++[y]/\y.to=s.til
def QnK(l:List Ev):∀k,k<=l.length->Qaf l k=(l.take k).foldl Qao ⟨[],0⟩
 | 0,_=>rfl
 | k+1,h=>by
  rw[getD_take _ default _ (by omega),Gf,<- QnK l k (by omega)];rfl
def Qhw{t}(ht:1<=t):∀(l:List Ev) (s:StS),StI s->Qgk t s.til l->StI (l.foldl Qao s)/\Qf3 (l.foldl Qao s).l=Qf3 s.l+QfR t l
 | [],s,I,_=>⟨I,by simp[QfR]⟩
 | v::l,s,I,h=>by
  rw[xj,QfR];unfold Qgk at h;by_cases hi:v.X9=true
  ·rw[Qg hi]at h;rw[Qg hi,show Qao s v=s by unfold Qao;rw[Qg hi],Int.zero_add];exact Qhw ht l s I h
  ·rw[Qd hi]at h;rw[Qd hi];obtain⟨h1,h2,h2b,h3,h4,h5,h6⟩:=h;have yR:1<=v.len*t:=by
    have:=Int.mul_le_mul h2 ht (by decide) (by omega);simpa using this
   have hm:max s.til v.done=v.done:=by omega
   have fin:∀s':StS,s'.til=v.done->StI s'->Qf3 s'.l=Qf3 s.l+v.len*t->Qao s v=s'->StI (l.foldl Qao (Qao s v))/\Qf3 (l.foldl Qao (Qao s v)).l=Qf3 s.l+(v.len*t+QfR t l):=by
    intro s' e1 I' e2 e3;rw[e3];obtain⟨r1,r2⟩:=Qhw ht l s' I' (by rw[e1];exact h6);exact⟨r1,by rw[r2,e2];omega⟩
   rcases I.last with e0|⟨L,y,e0,e1⟩
   ·refine fin ⟨[⟨v.at_,v.done⟩],v.done⟩ rfl ⟨λx hx=>?_,.inr ⟨[],_,rfl,rfl⟩⟩ ?_ ?_
    ·simp only[qA]at hx;subst hx;show v.at_<v.done;omega
    ·rw[e0];show v.done - v.at_+0=0+_;omega
    ·unfold Qao;rw[Qd hi,e0,Qg (.inl rfl),hm];rfl
   ·have hlen:s.l.length=L.length+1:=by rw[e0];simp
    by_cases hc:s.til<v.at_
    ·refine fin ⟨s.l++[⟨v.at_,v.done⟩],v.done⟩ rfl ⟨λx hx=>?_,.inr ⟨s.l,_,rfl,rfl⟩⟩ ?_ ?_
     ·rcases QT.1 hx with h|h
      ·exact I.lt x h
      ·simp only[qA]at h;subst h;show v.at_<v.done;omega
     ·rw[QgP];show _+(v.done - v.at_+0)=_;omega
     ·unfold Qao;rw[Qd hi,Qg (.inr hc),hm]
    ·have ea:v.at_=s.til:=by omega
     have hg:s.l.getD (s.l.length - 1) default=y:=by
      rw[hlen,e0];simp
     have qC:s.l.set (s.l.length - 1) ⟨y.frm,v.done⟩=L++[⟨y.frm,v.done⟩]:=by
      rw[hlen,e0];simp
     have hy:=I.lt y (by rw[e0];simp);refine fin ⟨L++[⟨y.frm,v.done⟩],v.done⟩ rfl ⟨λx hx=>?_,.inr ⟨L,_,rfl,rfl⟩⟩ ?_ ?_
     ·rcases QT.1 hx with h|h
      ·exact I.lt x (by rw[e0];exact Sl _ h)
      ·simp only[qA]at h;subst h;show y.frm<v.done;omega
     ·rw[e0,QgP,QgP];show Qf3 L+(v.done - y.frm+0)=Qf3 L+(y.to - y.frm+0)+_;omega
     ·unfold Qao;rw[Qd hi,Qd (by omega),hg,hm,show max y.to v.done=v.done by omega,qC]
def QnL(L:List Str)(h:∀x∈L,x.frm<x.to):∀k,k<=L.length->Qgo L k=IntKind.u64.wrap (Qf3 (L.take k))
 | 0,_=>rfl
 | k+1,hk=>by
  have ih:=QnL L h k (by omega);have hx:=h _ (jq L default k (by omega));unfold Qgo;rw[Qg hx,ih,getD_take _ default _ (by omega),QgP];show _=IntKind.u64.wrap (Qf3 (L.take k)+((L.getD k default).to - (L.getD k default).frm+0));simp only[IntKind.wrap_u64];omega
def QHK{t}(ht:1<=t){l:List Ev}(h:Qgk t 0 l):Qgo (Qaf l l.length).l (Qaf l l.length).l.length=IntKind.u64.wrap (QfR t l):=by
 obtain⟨I,e⟩:=Qhw ht l ⟨[],0⟩ ⟨λx hx=>(by cases hx),.inl rfl⟩ h;rw[QnK l _ (QD _),zW,QnL _ I.lt _ (QD _),zW,e];show IntKind.u64.wrap (0+_)=_;rw[Int.zero_add]
def Qhy{t}:∀(l:List Ev) (u:Int),Qgk t u l->∀v∈l,v.X9=false->1<=v.len/\v.len<=16384
 | [],_,_,v,hv,_=>by cases hv
 | w::l,u,h,v,hv,hi=>by
  unfold Qgk at h;by_cases hw:w.X9=true
  ·rw[Qg hw]at h;rcases QF.1 hv with rfl|hv
   ·rw[hi]at hw;cases hw
   ·exact Qhy l u h v hv hi
  ·rw[Qd hw]at h;rcases QF.1 hv with rfl|hv
   ·exact⟨h.2.1,h.2.2.1⟩
   ·exact Qhy l _ h.2.2.2.2.2.2 v hv hi
def QHL(t)(l:List Ev)(k)(h:k<l.length):QfR t (l.take (k+1))=QfR t (l.take k)+if (l.getD k default).X9=true then 0 else (l.getD k default).len*t:=by
 rw[getD_take _ default _ h,QnJ];show _+(_+0)=_;rw[Int.add_zero]
def Qgy.uniq{l}{j k}(a:Qgy l j)(b:Qgy l k):j=k:=by
 rcases Nat.lt_trichotomy j k with h|h|h
 ·have:=b.2.2 j h;rw[a.2.1]at this;cases this
 ·exact h
 ·have:=a.2.2 k h;rw[b.2.1]at this;cases this
def Qgy.not{l}{k}(a:Qgy l k)(h:QgY l):False:=by
 have:=h k a.1;rw[a.2.1]at this;cases this
def ev(X9:Bool)(a d:Int):Ev:=⟨0,X9,false,a,d,0,0,0,0,0,0,0⟩
def EL3:List Ev:=[ev false 0 100,ev false 100 150,ev false 200 250]
def EM4:List Ev:=[ev true 5 0,ev true 9 0,ev false 5 15,ev false 16 20]
def R5{i}(h:i<3):i=0\/i=1\/i=2:=by omega
def lt4{i}(h:i<4):i=0\/i=1\/i=2\/i=3:=by omega
def QHM:QgY EL3:=λj hj=>by
 have hj:j<3:=hj;obtain rfl|rfl|rfl:=R5 hj<;>rfl
def QnN:Qgy EM4 3:=⟨by decide,by rfl,λj hj=>by obtain rfl|rfl|rfl:=R5 hj<;>rfl⟩
def QHN:Zh prog 61 [OP EL3] (Qo (.tup [Qb 0,QY false])):=(QnF EL3 (by decide)).mono λd h ⟨h1,h2⟩=>by
 rcases h2 with ⟨k,hk,_⟩|⟨_,h2⟩
 ·exact(hk.not QHM).elim
 ·exact⟨h2,h1⟩
def QHO:Zh prog 61 [OP EM4] (Qo (.tup [Qb 3,QY true])):=(QnF EM4 (by decide)).mono λd h ⟨h1,h2⟩=>by
 rcases h2 with ⟨k,hk,h2⟩|⟨h2,_⟩
 ·have:=hk.uniq QnN;subst this;exact⟨h2,h1⟩
 ·exact(QnN.not h2).elim
def Qhz:Zh prog 31 [] (Qo (QY true)):=by
 refine Zy 0 Qh 200 func31 rfl ntmps31 results31 rfl λbase w hb=>?_;simp only[go_sem];refine GW (s':=⟨[(0,.raw (.bool false)),(1,OP EL3),(2,OP EM4),(17,OP EL3)],[⟨.arr,1,12,0,λ_=>[]⟩,⟨.arr,1,12,0,λ_=>[]⟩]⟩) (QI.trans (QI.freeze rfl 0 rfl rfl (λi hi=>?_)) (QI.trans (QI.freeze rfl 1 rfl rfl (λi hi=>?_)) (QI.toT 2 ?_))) ?_
 ·obtain rfl|rfl|rfl:=R5 hi<;>rfl
 ·obtain rfl|rfl|rfl|rfl:=lt4 hi<;>rfl
 ·simp only[go_sem,EL3,EM4];refine⟨λi hi=>?_,λi hi=>?_,λi hi=>?_⟩
  ·obtain rfl|rfl|rfl:=R5 hi;all_goals (simp only[go_sem,ev])<;>simp
  ·obtain rfl|rfl|rfl|rfl:=lt4 hi;all_goals (simp only[go_sem,ev])<;>simp
  ·obtain rfl|rfl|rfl:=R5 hi;all_goals (simp only[go_sem,ev])<;>simp
 have s1:=QnG EL3 (by decide);rw[show (Qaf EL3 EL3.length).l=[⟨0,150⟩,⟨200,250⟩] from rfl]at s1;have s2:=QnH EL3 (by decide);rw[show Qgo (Qaf EL3 EL3.length).l (Qaf EL3 EL3.length).l.length=200 from rfl]at s2;have s3:=QHF (EM4.take 3) (by decide);rw[show (Qai (EM4.take 3) (EM4.take 3).length).work=1 from rfl]at s3;have s4:=QHG EM4 (by decide);rw[show (Qai EM4 EM4.length).til=20 from rfl]at s4;refine xM hb [] Qjq rfl ?_ s1 rfl λd h hR=>?_
 ·simp only[go_sem]
 obtain⟨rfl,rfl⟩:=hR;simp only[go_sem];apply ZC hb;refine xM hb [] Qjv rfl ?_ QHO rfl λd h hR=>?_
 ·simp only[go_sem]
 obtain⟨rfl,rfl⟩:=hR;simp only[go_sem];apply ZC hb;refine xM hb [] Qjv rfl ?_ QHN rfl λd h hR=>?_
 ·simp only[go_sem]
 obtain⟨rfl,rfl⟩:=hR;simp only[go_sem];apply ZC hb;refine xM hb [] Qji rfl ?_ s2 rfl λd h hR=>?_
 ·simp only[go_sem]
 obtain⟨rfl,rfl⟩:=hR;simp only[go_sem];apply ZC hb;have hM:EM4.length=4:=rfl;simp only[go_sem,hM];refine ZA hb QB9 rfl ?_ s3 (Qo.flat rfl) rfl λd h hR=>?_
 ·simp only[go_sem,EM4,List.take_succ_cons,List.take_zero];intro i hi;obtain rfl|rfl|rfl:=R5 hi<;>rfl
 obtain⟨rfl,rfl⟩:=hR;apply ZC hb;refine xM hb [] QCc rfl ?_ s4 rfl λd h hR=>?_
 ·simp only[go_sem,hM]
 obtain⟨rfl,rfl⟩:=hR;simp only[go_sem,hM];refine Qf hb ?_;simp only[go_sem,hM]
def QHP(x:Yw)(hx:∀a∈x.ops,JC.Ok a):Zh prog 7 [.agg x.cells] (Qo (QY true)):=by
 have hF:=QBA x 200 (by decide);have hM:=QzR x.config;by_cases Sa:DY x 200=true
 ·rw[Sa]at hF;simp only[DY,ZJ,Yq]at Sa;obtain⟨hlen,Vo⟩:=Sa;have Js:∀o∈x.ops,JC.Ok o/\JC.Small o:=λo ho=>by
   have:=jN.1 Vo o ho;simp only[Ij,ZJ,Yq]at this;exact⟨hx o ho,by omega,by omega⟩
  by_cases dc:RG x.config=true
  ·rw[dc]at hM;have K:=QzY.1 dc;have hA:=QBv x K (by omega) Js;have J3:=QGE (m:=200) K hlen (by decide) hx;have hP:Qgk x.config.t 0 (Xp (S0 x.config) x.ops).2.2:=(QnB x.ops (Jh.QGC K) rfl hx).ok;generalize Xp (S0 x.config) x.ops=Z at *;obtain⟨Z0,RR,EE⟩:=Z;dsimp only at hA J3 hP;have hS:=QnH EE (by omega);rw[QHK K.t1 hP]at hS;have k1:=K.t1;have k2:=K.t2;refine Zy 0 Qh 200 func7 rfl ntmps7 results7 rfl λbase w hb=>?_;simp only[go_sem];refine xM hb [] fC rfl ?_ hF rfl λd h hR=>?_
   ·simp only[go_sem]
   obtain⟨rfl,rfl⟩:=hR;simp only[go_sem];apply ZC hb;refine xM hb [] Qdr rfl ?_ hM rfl λd h hR=>?_
   ·simp only[go_sem,Go.undef]
   obtain⟨rfl,rfl⟩:=hR;simp only[go_sem,Go.undef];refine Qf hb ?_;simp only[go_sem,Go.undef];refine xM hb [] QqY rfl ?_ hA rfl λd h hR=>?_
   ·simp only[go_sem,Go.undef]
   obtain⟨rfl,rfl⟩:=hR;simp only[go_sem,Go.undef];refine Qf hb ?_;simp only[go_sem,Go.undef];have af:IntKind.u64.wrap (QfR x.config.t [])=0:=rfl;have Wo:=Qhy EE 0 hP;refine tI (G:=Nat) [1,3,4,24,25] (λk=>True) (λk γ=>[(5,.raw (.int .u64 (IntKind.u64.wrap (QfR x.config.t (EE.take k))))),(26,Qb k)]) (λk γ=>[⟨.one,0,3,1,λ_=>x.cells⟩,⟨.one,0,2,1,λ_=>[RZ RR,OP EE]⟩]) (EE.length) (0) rfl (QI.to 2 (by (simp only[go_sem,af])<;>simp)) trivial ?_;intro k γ hk _;apply ZC hb;have Zq:=Vp (show k<4611686018427387904 by omega);first|refine Ad hk (λQs=>?_) (λQs=>?_)|refine Ae hk (λQs=>?_) (λQs=>?_)
   ·have e5:=QHL x.config.t EE k Qs;have QHQ:=Wo _ (jq EE default k Qs);simp only[go_sem,Qs];generalize EE.getD k default=v at *;cases hi:v.X9
    ·rw[hi,Qd (by decide)]at e5;obtain⟨a1,a2⟩:=QHQ hi;have hm:IntKind.u64.wrap (IntKind.u64.wrap (QfR x.config.t (EE.take k))+IntKind.u64.wrap (IntKind.u64.wrap v.len*IntKind.u64.wrap x.config.t))=IntKind.u64.wrap (QfR x.config.t (EE.take (k+1))):=by
      have w1:IntKind.u64.wrap v.len=v.len:=by rw[IntKind.wrap_u64];omega
      have w2:IntKind.u64.wrap x.config.t=x.config.t:=by rw[IntKind.wrap_u64];omega
      rw[w1,w2,e5];generalize v.len*x.config.t=p;simp only[IntKind.wrap_u64];omega
     simp only[go_sem,hi];repeat (refine And.intro (by first|assumption|omega) ?_)
     refine⟨_,QI.to 2 (by (simp only[go_sem,Zq,hm])<;>simp),EW.mk (γ) (trivial)⟩
    ·rw[hi,Qg rfl,Int.add_zero]at e5;simp only[go_sem,hi];repeat (refine And.intro (by first|assumption|omega) ?_)
     refine⟨_,QI.to 2 (by (simp only[go_sem,Zq,e5])<;>simp),EW.mk (γ) (trivial)⟩
   ·subst Qs;rw[zW];simp only[go_sem];refine Qf hb ?_;simp only[go_sem,Go.undef];refine ZA hb Qji rfl ?_ hS (Qo.flat rfl) rfl λd h hR=>?_
    ·simp only[go_sem,ID,Go.undef]
    obtain⟨rfl,rfl⟩:=hR;refine Qf hb ?_;simp only[go_sem,ID,Go.undef];refine Wj hb Qho Qhz (Qo.flat rfl) λd h hR=>?_;obtain⟨rfl,rfl⟩:=hR;exact xY hb
  ·have dc:RG x.config=false:=by simpa using dc
   rw[dc]at hM;refine Zy 0 Qh 200 func7 rfl ntmps7 results7 rfl λbase w hb=>?_;simp only[go_sem];refine xM hb [] fC rfl ?_ hF rfl λd h hR=>?_
   ·simp only[go_sem]
   obtain⟨rfl,rfl⟩:=hR;simp only[go_sem];apply ZC hb;refine xM hb [] Qdr rfl ?_ hM rfl λd h hR=>?_
   ·simp only[go_sem,Go.undef]
   obtain⟨rfl,rfl⟩:=hR;simp only[go_sem,Go.undef];refine Qf hb ?_;simp only[go_sem,Go.undef];refine Wj hb Qho Qhz (Qo.flat rfl) λd h hR=>?_;obtain⟨rfl,rfl⟩:=hR;exact xY hb
 ·have Sa:DY x 200=false:=by simpa using Sa
  rw[Sa]at hF;refine Zy 0 Qh 200 func7 rfl ntmps7 results7 rfl λbase w hb=>?_;simp only[go_sem];refine xM hb [] fC rfl ?_ hF rfl λd h hR=>?_
  ·simp only[go_sem,Go.undef]
  obtain⟨rfl,rfl⟩:=hR;simp only[go_sem,Go.undef];refine Qf hb ?_;simp only[go_sem,Go.undef];refine Wj hb Qho Qhz (Qo.flat rfl) λd h hR=>?_;obtain⟨rfl,rfl⟩:=hR;exact xY hb
end Go.Fg.X
namespace Go.Fg.X
open Go.Proofs Go.Fg Go.Proofs.YtjhngjdipealfaaGreat
open Go.ChangeShapes Go.RowKit
open Go.Proofs.Tryz
def QHR:laidOutB prog=true:=by kernel_rfl
def QHS:mapsRowed prog=true:=by kernel_rfl
def QHT:prog.stopsHeard=true:=by kernel_rfl
def QHU:prog.mayEnter=true:=by kernel_rfl
def QHV:(Rows.busySendsRow.lifted==prog.liftsFinal)=true:=by kernel_rfl
def QHW:(prog.make==some Rows.busySendsRow.make)=true:=by kernel_rfl
end Go.Fg.X
namespace Go.Fg.X
open Go.Proofs Go.Fg Go.Proofs.YtjhngjdipealfaaGreat
open Go.ChangeShapes Go.WideShapes Go.ChangeAt Go.RowKit
open Go.Proofs.Tryz
def QHX:ownKnob prog.godebug=none:=by kernel_rfl
def QHY:laidOutB prog=true:=by kernel_rfl
def QHZ(os:Os)(started:os.Started)(H:Type)(enc:TypeId × Value->H):
  ReturnsInHanded {} checked os 7 .any (Rows.busySendsSpec.pre6 enc prog f7 Rows.busySendsRow.domain false) (Rows.busySendsSpec.post enc prog f7 false true false false):=by
 refine returnsInHanded_of_change (C:=checked) QHX started (by kernel_rfl) func7
  (ChangeSpec.witness6 (enc:=enc) (C:=checked) false ⟨#[],#[.agg #[.int .i64 0,.int .i64 0,.slice none 0 0]],[]⟩ 12 (by kernel_rfl) (by kernel_rfl) (by kernel_rfl) (by kernel_rfl)) ?_
 intro W base args ds gs before QjJ hW QFX _;have QjK:∀(j:Nat) t v,f7.params[j]? = some t->args[j]? = some v->Value.okWide prog W .any base t v:=QjJ;have hW':=hW;obtain⟨p,q,hA0,hV,rfl,LY,Z2⟩:=hW;have hA:DataW.TrodAll enc prog W 0 (λ_=>true) true f7.params.toList args.toList ds p:=hA0;rw[params7]at hA QjK;obtain⟨v0,vs0,d0,ds0,p0,q0,Um,rfl,rfl,h0,r0⟩:=trodAll_cons hA;obtain⟨rfl,rfl,rfl⟩:=trodAll_nil r0;obtain rfl:args=#[v0]:=by cases args;simp_all
 obtain⟨rfl,rfl⟩:=trodVars_none hV;obtain⟨cs0,rfl,_⟩:=okWide_struct underlying26 (QjK 0 26 v0 rfl rfl);have t0:=h0;have lt0:∀x∈p0,x.block<W.heap.size:=by obtain⟨m,hm⟩:=t0;exact DataW.trod_lt m _ _ _ hm
 obtain⟨x0,k0,c0⟩:=Rd.many QsM h0;clear hA0 QjJ;have walk:Calls prog 7 #[.agg cs0] W λe W'=>e=.returned (.bool true)/\Below W.heap.size W W':=QsE (QHP x0 k0.2.1.2) W [_] rfl (λi hi=>match i,hi with
  | 0,_=>c0)
 refine walk.mono λe W' ⟨he,qJ⟩=>?_;subst he;exact⟨_,rfl,_,_,_,[],_,[],hW',trodAll_mk1 (shut_bool underlying4 _),(trodAll_cons_mk (Below.trod QHY (by kernel_rfl) (YV (by kernel_rfl)) t0 qJ lt0) trodAll_mk0),rfl,qJ.frame _,λh=>by cases h⟩
def jn{a b}(ha:a=true)(hb:b=true):(a&&b)=true:=by rw[ha,hb];rfl
def QH3:(Rows.busySendsRow.inPlace==prog.inPlace 7)=true:=by kernel_rfl
def QH4:(Rows.busySendsRow.unfollowed==prog.unfollowed 7)=true:=by kernel_rfl
def QH5:(Rows.busySendsRow.recurses==prog.recurses 7)=true:=by kernel_rfl
def QH6:(Rows.busySendsRow.named==prog.varsNamed 7)=true:=by kernel_rfl
def QH7:(Rows.busySendsRow.maps==(f7.params.toList++Rows.busySendsSpec.plain.varTypes prog).any (prog.mapsRec ·))=true:=by kernel_rfl
def QH8:(Rows.busySendsRow.ifaces==(f7.params.toList++Rows.busySendsSpec.plain.varTypes prog).any (prog.ifacesRec ·))=true:=by kernel_rfl
def QH9:(Rows.busySendsRow.loops==(f7.params.toList++Rows.busySendsSpec.plain.varTypes prog).any (prog.loopsFrom ·))=true:=by kernel_rfl
def QIa:joinedFacts prog 7 f7 Rows.busySendsSpec Rows.busySendsRow=true:=by
 unfold joinedFacts;refine(jn (jn (jn (jn (jn (jn (jn (jn (jn (jn (jn (jn (jn (jn (jn (jn (jn (jn (jn (jn (jn (jn (jn (jn (jn (jn (jn (jn (jn (jn (jn ?_ QHR) QHS) ?_) ?_) ?_) ?_) ?_) ?_) QH3) QH4) QH5) QH6) QH7) QH8) ?_) QH9) ?_) ?_) ?_) ?_) ?_) ?_) ?_) QHT) QHU) QHV) QHW) ?_) ?_) ?_) ?_);all_goals kernel_rfl
def QIb:prog.funcNamed Rows.busySendsRow.func=some 7:=by kernel_rfl
theorem provedBusySends:Rows.BusySendsSaid:=
 OpenClaim.holds_of_wide 7 f7 rfl rfl rfl rfl rfl rfl rfl ⟨rfl,rfl,rfl,rfl,rfl⟩ rfl rfl rfl rfl rfl QIb func7 QIa
  (YV (by kernel_rfl)) (by unfold Func.isWrapper;first|(rw[Qg (by decide +kernel)];kernel_rfl)|(rw[Qd (by decide +kernel)];exact⟨rfl,rfl⟩))
  (λos started H enc _=>QHZ os started H enc)
end Go.Fg.X
namespace Go.Proofs.YtjhngjdipealfaaGreat
theorem busySends_done: Rows.BusySendsSaid := Go.Fg.X.provedBusySends
end Go.Proofs.YtjhngjdipealfaaGreat
