/- Contracts and laws on the way to the statement. No conditions. -/
import Derived.Test.YtagebhlinnibkaaGreatTP1E
import Derived.Test.YtagebhlinnibkaaGreatCA3E
import Derived.Test.YtagebhlinnibkaaGreatSC4E
import Derived.Test.YtagebhlinnibkaaGreatNA4E
set_option maxRecDepth 100000
set_option maxHeartbeats 16000000
set_option linter.unusedVariables false
set_option linter.unusedSimpArgs false
set_option linter.unusedSectionVars false
set_option linter.defProp false
namespace Go.Fg.X
open Go.Proofs Go.Fg
open Go.Proofs.Tryz
structure z7 where
 p:Nat
 b:Nat
 r:Nat
 w:Nat
 l:Nat
instance:Inhabited z7:=⟨⟨0,0,0,0,0⟩⟩
def z7.Ok(r:z7):Prop:=r.p<18446744073709551616/\r.b<18446744073709551616/\r.r<18446744073709551616/\r.w<18446744073709551616/\r.l<18446744073709551616
structure Fv where
 Jv:Int->List Nat
 rows:Int->z7
def kg(s:Fv)(cls:Int)(at_:Nat):Fv:={ s with Jv:=λk=>if k=cls then s.Jv k++[at_] else s.Jv k }
def AU(r:z7)(a done:Nat)(bytes:Int)(real:Bool):z7:=
 ⟨(r.p+1) % 18446744073709551616,(r.b+bytes.toNat) % 18446744073709551616,if real=true then (r.r+1) % 18446744073709551616 else r.r,(r.w+(done - a)) % 18446744073709551616,max r.l (done - a)⟩
def qC(s:Fv)(cls:Int)(done:Nat)(bytes:Int)(real:Bool):Fv:=match s.Jv cls with
 | []=>s
 | a::l=>if bytes<1 then s else if done<a then s else
  ⟨λk=>if k=cls then l else s.Jv k,λk=>if k=cls then AU (s.rows k) a done bytes real else s.rows k⟩
def Zy(x:Pk):List Int:=[x.yo,x.yp,x.yq,x.yr]
def JU.mask(r:JU):List Int:=[r.BG,r.BH,r.Gq,r.EN]
def JU.want(r:JU):List Int:=[r.Nh,r.Ni,r.Nj,r.Gr]
def xO(a b:Int):Int:=bits .and .u16 a b
def cr(h m:List Int):List Int:=List.zipWith xO h m
def jE(r:JU)(h:List Int):Bool:=cr h r.mask==r.want
def AV(r:JU):Bool:=decide (1<=r.cls)&&decide (r.cls<=65536)&&(cr r.want r.mask==r.want)
def Jj(R:List JU)(h:List Int):Int:=match R.find? λr=>jE r h with
 | some r=>r.cls
 | none=>0
def qE(R:List JU):Int:=if 32<R.length then 2 else if R.all AV=true then 0 else 1
structure Zf where
 M:Qq
 JI:Nat
 R:List JU
 st:Fv
 Qh:Nat
 ops:Nat
def YJ(c:Cf)(len:Int):Nat:=len.toNat*c.t.toNat
def AW(op at_:Nat)(cls:Int)(x:Pk):Ev:=⟨op,true,false,at_,0,cls,x.iD,x.len,x.yo,x.yp,x.yq,x.yr⟩
def Hh(op:Nat)(real:Bool)(at_ done:Nat)(cls:Int)(x:Pk):Ev:=⟨op,false,real,at_,done,cls,x.iD,x.len,x.yo,x.yp,x.yq,x.yr⟩
def Z2(S:Zf)(op now:Nat):Zf × List Ev:=
 if now<S.JI then (S,[]) else
 if Xt S.M now=true then
  ({ S with M:=takeN S.M now,JI:=now+YJ S.M.lk (Vf S.M now).len,st:=qC S.st (WL S.M now) (now+YJ S.M.lk (Vf S.M now).len) (Vf S.M now).len (Cc S.M now) },
   [Hh op (Cc S.M now) now (now+YJ S.M.lk (Vf S.M now).len) (WL S.M now) (Vf S.M now)])
 else ({ S with M:=takeN S.M now },[])
def QP(S:Zf):Nat:=XL S.Qh S.JI (KQ S.M)
def Zz(op e:Nat):Nat->Zf->Zf × List Ev
 | 0,S=>({ S with Qh:=e },[])
 | n+1,S=>if e<QP S then ({ S with Qh:=e },[]) else
  let a:=Z2 { S with Qh:=QP S } op (QP S);let b:=Zz op e n a.1
  (b.1,a.2++b.2)
structure qF where
 err:Int
 place:Int
 cls:Int
instance:Inhabited qF:=⟨⟨0,0,0⟩⟩
structure Fw where
 S:Zf
 r:qF
 l:List Ev
def Yo(S:Zf)(op Jn:Nat):Fw:=
 if 4611686018427387904 - S.Qh<Jn then ⟨S,⟨27,0,0⟩,[]⟩ else
 ⟨(Zz op (S.Qh+Jn) (Zo S.M+1) S).1,⟨0,0,0⟩,(Zz op (S.Qh+Jn) (Zo S.M+1) S).2⟩
def X3(S:Zf)(op:Nat)(x:Pk):Fw:=
 if Jj S.R (Zy x)=0 then ⟨S,⟨31,0,0⟩,[]⟩ else
 if Y3 S.M S.Qh (Jj S.R (Zy x)) x=0 then
  let a:=Z2 { S with M:=Jr S.M S.Qh (Jj S.R (Zy x)) x,st:=kg S.st (Jj S.R (Zy x)) S.Qh } op S.Qh
  ⟨a.1,⟨0,0,Jj S.R (Zy x)⟩,AW op S.Qh (Jj S.R (Zy x)) x::a.2⟩
 else ⟨{ S with M:=Jr S.M S.Qh (Jj S.R (Zy x)) x },⟨Y3 S.M S.Qh (Jj S.R (Zy x)) x,0,Jj S.R (Zy x)⟩,[]⟩
def JA(S:Zf)(op:Nat)(o:QZ):Fw:=
 if o.kind=1 then ⟨{ S with M:=Ke S.M (decide (S.JI<=S.Qh)) o.changes },⟨zX S.M (decide (S.JI<=S.Qh)) o.changes,AQ S.M o.changes,0⟩,[]⟩
 else if o.kind=2 then (if qE o.rules=0 then ⟨{ S with R:=o.rules },⟨0,0,0⟩,[]⟩ else ⟨S,⟨qE o.rules,0,0⟩,[]⟩)
 else if o.kind=3 then X3 S op o.Zw
 else if o.kind=4 then Yo S op o.Jn.toNat
 else ⟨S,⟨1,0,0⟩,[]⟩
def QY(S:Zf)(o:QZ):Fw:=JA { S with ops:=S.ops+1 } S.ops o
def S0(c:Cf):Zf:=⟨M0 c,0,[],⟨λ_=>[],λ_=>default⟩,0,0⟩
def Zh(S:Zf):List QZ->Zf × List qF × List Ev
 | []=>(S,[],[])
 | o::l=>((Zh (QY S o).S l).1,(QY S o).r::(Zh (QY S o).S l).2.1,(QY S o).l++(Zh (QY S o).S l).2.2)
def ot:∀(l m:List QZ) (S:Zf),Zh S (l++m)=((Zh (Zh S l).1 m).1,(Zh S l).2.1++(Zh (Zh S l).1 m).2.1,(Zh S l).2.2++(Zh (Zh S l).1 m).2.2)
 | [],m,S=>rfl
 | o::l,m,S=>by simp only[qJ,Zh,ot l m,WC]
structure ZV (S:Zf):Prop where
 I:Qy S.M
 V:Inv S.M
 K:XK S.M.lk
 len:∀j,∀x∈Zn S.M j,1<=x.len/\x.len<=S.M.lk.JK
 mc:S.M.Qh<=S.Qh
 cl:S.Qh<=4611686018427387904
 un:S.JI<=4611686018427387904+1073741824
 st:∀k,(S.st.rows k).Ok
 ca:∀k,∀a∈S.st.Jv k,a<18446744073709551616
def QmL{P:List Pk->Prop}(h0:P [])(T2:List Qw)(id:Int):∀(L:List Int) (M:Qq),(∀n,Ql M.N id=some n->P n.q.l)->∀n,Ql (L.foldl (Ki T2) M).N id=some n->P n.q.l
 | [],M,h=>h
 | i::L,M,h=>QmL h0 T2 id L _ λn hn=>by
  have go:∀(k:Qw),Ql (X0 k::kb M.N i) id=some n->P n.q.l:=λk hn=>by
   unfold Ql at hn;rw[wR]at hn;split at hn
   ·cases hn;exact h0
   ·have VQ:Ql (kb M.N i) id=some n:=hn;rw[G9]at VQ;split at VQ
    ·cases VQ
    ·exact h n VQ
  unfold Ki at hn;split at hn
  ·rw[G9]at hn;split at hn
   ·cases hn
   ·exact h n hn
  ·split at hn
   ·exact go _ hn
   ·exact go _ hn
def QD7{P:List Pk->Prop}(h0:P []){M:Qq}{j:Int}(h:P (Zn M j))(n:Nd)(hn:Ql M.N j=some n):P n.q.l:=by
 unfold Zn QD at h;rw[hn]at h;exact h
def QmM{P:List Pk->Prop}(h0:P []){M:Qq}(b:Bool)(l:List JH){j:Int}(h:P (Zn M j)):P (Zn (Ke M b l) j):=by
 unfold Ke;split
 ·have h2:∀id,P (Zn M id)->P (QD (VK M (JM M.T l)) id).q.l:=λid Zg=>by
   unfold QD VK;cases hf:Ql ((Ko M.T (JM M.T l)).foldl (Ki (JM M.T l)) { M with T:=JM M.T l }).N id with
   | none=>exact h0
   | some n=>exact QmL h0 _ id _ { M with T:=JM M.T l } (QD7 h0 Zg) n hf
  unfold Zn QD;show P ((Ql (X1 M (JM M.T l)) j).getD default).q.l;cases hf:Ql (X1 M (JM M.T l)) j with
  | none=>exact h0
  | some n=>
   have hm:n∈X1 M (JM M.T l):=wS hf;have hi:=y8 hf;obtain⟨k,hk,rfl⟩:=Jk.1 hm;have hj:k.iD=j\/(QD (VK M (JM M.T l)) k.iD).q.l=[]:=by
    by_cases e:(QD (VK M (JM M.T l)) k.iD).c.iD=k.iD
    ·left;rw[<- e];simpa using hi
    ·right;unfold QD at e ⊢;cases jV:Ql (VK M (JM M.T l)).N k.iD with
     | none=>rfl
     | some n=>
      rw[jV]at e;have:=y8 jV;exact absurd (by simpa using this) e
   rcases hj with rfl|hj
   ·exact h2 _ h
   ·show P (QD (VK M (JM M.T l)) k.iD).q.l;rw[hj];exact h0
 ·exact h
def QD8{r:z7}(h:r.Ok){a done}(hd:done<18446744073709551616)(bytes)(real:Bool):(AU r a done bytes real).Ok:=by
 obtain⟨h1,h2,h3,h4,h5⟩:=h;unfold AU;refine⟨qM _ (by decide),qM _ (by decide),?_,qM _ (by decide),?_⟩
 ·dsimp only;split
  ·exact qM _ (by decide)
  ·exact h3
 ·dsimp only;omega
def LH(M:Qq)(now:Nat):(takeN M now).lk=M.lk:=QmD M now
def QD9(M:Qq)(now:Nat):(takeN M now).Qh=M.Qh\/((takeN M now).Qh=now/\now<=4611686018427387904):=by
 unfold takeN;split
 ·exact QcB M _
 ·rw[QD3];exact QcB M _
def QEa(M:Qq)(now)(cls)(x:Pk):(Jr M now cls x).Qh=M.Qh\/((Jr M now cls x).Qh=now/\now<=4611686018427387904):=by
 unfold Jr;split
 ·rw[QD5];exact QcB M _
 ·exact .inl rfl
def QEb(M:Qq)(b)(l:List JH):(Ke M b l).Qh=M.Qh:=by
 unfold Ke;split
 ·exact(Lr _ _).2.2.2.1
 ·rfl
def QmN{M:Qq}{now}{cls}{x:Pk}(h:Y3 M now cls x=0):1<=x.len/\x.len<=M.lk.JK:=by
 unfold Y3 at h;split at h
 ·have hl:(Z1 M now).lk=M.lk:=og M now;unfold V5 at h;split at h
  ·cases h
  ·split at h
   ·cases h
   ·split at h
    ·cases h
    ·rename_i h2;rw[hl]at h2;omega
 ·cases h
def QEc{s:Fv}(h:(∀k,(s.rows k).Ok)/\∀k,∀a∈s.Jv k,a<18446744073709551616)(cls){done}(hd:done<18446744073709551616)(bytes)(real:Bool):(∀k,((qC s cls done bytes real).rows k).Ok)/\∀k,∀a∈(qC s cls done bytes real).Jv k,a<18446744073709551616:=by
 unfold qC;cases hc:s.Jv cls with
 | nil=>exact h
 | cons a l=>
  dsimp only;split
  ·exact h
  ·split
   ·exact h
   ·refine⟨λk=>?_,λk x hx=>?_⟩
    ·dsimp only;split
     ·exact QD8 (h.1 k) hd _ _
     ·exact h.1 k
    ·dsimp only at hx;split at hx
     ·rename_i e;exact h.2 cls x (by rw[hc];exact KI _ hx)
     ·exact h.2 k x hx
def Of{c:Cf}(K:XK c){len}(h:1<=len/\len<=c.JK):1<=YJ c len/\YJ c len<=1073741824:=by
 have h1:=K.t1;have h2:=K.t2;have h3:=K.l2;unfold YJ;have a1:1<=len.toNat:=by omega
 have a2:len.toNat<=16384:=by omega
 have a3:1<=c.t.toNat:=by omega
 have a4:c.t.toNat<=65536:=by omega
 exact⟨vF a1 a3,vF a2 a4⟩
def ZV.take_len{S:Zf}(T:ZV S){now:Nat}(h:Xt S.M now=true):1<=(Vf S.M now).len/\(Vf S.M now).len<=S.M.lk.JK:=by
 obtain⟨x,l,h1,h2⟩:=oh T.I T.V h;rw[h2];exact T.len _ x (by rw[h1];exact Vn)
def ZV.takeN{S:Zf}(T:ZV S):ZV { S with M:=takeN S.M S.Qh } where
 I:=T.I.takeN T.V _
 V:=T.V.takeN T.I _
 K:=by show XK (X.takeN S.M S.Qh).lk;rw[LH];exact T.K
 len:=λj x hx=>by
  have hx:x∈Zn (X.takeN S.M S.Qh) j:=hx;show 1<=x.len/\x.len<=(X.takeN S.M S.Qh).lk.JK;rw[LH];rw[Hf]at hx;split at hx
  ·exact T.len j x (List.mem_of_mem_tail hx)
  ·exact T.len j x hx
 mc:=by
  show (X.takeN S.M S.Qh).Qh<=S.Qh;have:=T.mc;rcases QD9 S.M S.Qh with h|h<;>omega
 cl:=T.cl
 un:=T.un
 st:=T.st
 ca:=T.ca
def ZV.Og{S:Zf}(T:ZV S)(op):ZV (Z2 S op S.Qh).1:=by
 unfold Z2;split
 ·exact T
 ·split
  ·rename_i h;have h1:=Of T.K (T.take_len h);have h2:=T.cl;have T2:=T.takeN;have h3:=QEc ⟨T.st,T.ca⟩ (WL S.M S.Qh) (done:=S.Qh+YJ S.M.lk (Vf S.M S.Qh).len) (by omega) (Vf S.M S.Qh).len (Cc S.M S.Qh);exact⟨T2.I,T2.V,T2.K,T2.len,T2.mc,T.cl,by dsimp only;omega,h3.1,h3.2⟩
  ·exact T.takeN
def ZV.at_{S:Zf}(T:ZV S){e}(h1:S.Qh<=e)(h2:e<=4611686018427387904):ZV { S with Qh:=e }:=
 ⟨T.I,T.V,T.K,T.len,KZ T.mc h1,h2,T.un,T.st,T.ca⟩
def Oh(S:Zf)(op now:Nat):(Z2 S op now).1.Qh=S.Qh/\(Z2 S op now).1.ops=S.ops/\(Z2 S op now).1.R=S.R:=by
 unfold Z2;split
 ·exact⟨rfl,rfl,rfl⟩
 ·split<;>exact⟨rfl,rfl,rfl⟩
def SB(S:Zf)(h:S.Qh<=4611686018427387904):S.Qh<=QP S:=by
 unfold QP XL;omega
def ZV.go{op e}(he:e<=4611686018427387904):∀(n:Nat) {S:Zf},ZV S->S.Qh<=e->ZV (Zz op e n S).1
 | 0,S,T,h=>T.at_ h he
 | n+1,S,T,h=>by
  unfold Zz;split
  ·exact T.at_ h he
  ·rename_i h2;have T2:=(T.at_ (SB S T.cl) (show QP S<=4611686018427387904 by omega)).Og op;refine ZV.go he n T2 ?_;have:=(Oh { S with Qh:=QP S } op (QP S)).1;rw[this];show QP S<=e;omega
def ZV.put{S:Zf}(T:ZV S)(cls)(x):ZV { S with M:=Jr S.M S.Qh cls x } where
 I:=T.I.Jr T.V _ (by have:=T.cl;omega) _ _
 V:=T.V.Jr T.I _ (by have:=T.cl;omega) _ _
 K:=by show XK (Jr S.M S.Qh cls x).lk;rw[LG];exact T.K
 len:=λj y hy=>by
  have hy:y∈Zn (Jr S.M S.Qh cls x) j:=hy;show 1<=y.len/\y.len<=(Jr S.M S.Qh cls x).lk.JK;rw[LG];rw[SA]at hy;split at hy
  ·rename_i h;rcases Q9.1 hy with h2|h2
   ·exact T.len j y h2
   ·simp only[zn]at h2;subst h2;exact QmN h.1
  ·exact T.len j y hy
 mc:=by
  show (Jr S.M S.Qh cls x).Qh<=S.Qh;have:=T.mc;rcases QEa S.M S.Qh cls x with h|h<;>omega
 cl:=T.cl
 un:=T.un
 st:=T.st
 ca:=T.ca
def ZV.Jv{S:Zf}(T:ZV S)(cls)(a)(ha:a<18446744073709551616):ZV { S with st:=kg S.st cls a }:=
 ⟨T.I,T.V,T.K,T.len,T.mc,T.cl,T.un,T.st,λk b hb=>by
  have hb:b∈(if k=cls then S.st.Jv k++[a] else S.st.Jv k):=hb;split at hb
  ·rcases Q9.1 hb with h|h
   ·exact T.ca k b h
   ·simp only[zn]at h;omega
  ·exact T.ca k b hb⟩
def ZV.change{S:Zf}(T:ZV S)(b){l}(hl:∀c∈l,JH.Ok c):ZV { S with M:=Ke S.M b l } where
 I:=T.I.Ke T.V b l hl
 V:=T.V.Ke T.I b l hl
 K:=by show XK (Ke S.M b l).lk;rw[Sy];exact T.K
 len:=λj=>by
  show ∀x∈Zn (Ke S.M b l) j,1<=x.len/\x.len<=(Ke S.M b l).lk.JK;rw[Sy];exact QmM (P:=λq=>∀x∈q,1<=x.len/\x.len<=S.M.lk.JK) (λx hx=>by cases hx) b l (T.len j)
 mc:=by show (Ke S.M b l).Qh<=S.Qh;rw[QEb];exact T.mc
 cl:=T.cl
 un:=T.un
 st:=T.st
 ca:=T.ca
def ZV.one{S}(T:ZV S)(op){o:QZ}(ho:∀c∈o.changes,JH.Ok c):ZV (JA S op o).S:=by
 unfold JA;split
 ·exact T.change _ ho
 ·split
  ·split
   ·exact⟨T.I,T.V,T.K,T.len,T.mc,T.cl,T.un,T.st,T.ca⟩
   ·exact T
  ·split
   ·unfold X3;split
    ·exact T
    ·split
     ·exact ZV.Og (S:={ S with M:=Jr S.M S.Qh (Jj S.R (Zy o.Zw)) o.Zw,st:=kg S.st (Jj S.R (Zy o.Zw)) S.Qh }) ((T.put _ _).Jv _ _ (by have:=T.cl;show S.Qh<_;omega)) op
     ·exact T.put _ _
   ·split
    ·unfold Yo;split
     ·exact T
     ·have:=T.cl;exact T.go (by omega) _ (by omega)
    ·exact T
def ZV.ops{S}(T:ZV S)(n):ZV { S with ops:=n }:=⟨T.I,T.V,T.K,T.len,T.mc,T.cl,T.un,T.st,T.ca⟩
def ZV.do{S}(T:ZV S){o:QZ}(ho:∀c∈o.changes,JH.Ok c):ZV (QY S o).S:=(T.ops _).one _ ho
def Hi(op e):∀(n:Nat) (S:Zf),(Zz op e n S).1.ops=S.ops/\(Zz op e n S).1.Qh=e
 | 0,S=>⟨rfl,rfl⟩
 | n+1,S=>by
  unfold Zz;split
  ·exact⟨rfl,rfl⟩
  ·obtain⟨h1,h2⟩:=Hi op e n (Z2 { S with Qh:=QP S } op (QP S)).1;exact⟨h1.trans (Oh _ _ _).2.1,h2⟩
def QEd(S:Zf)(op)(o:QZ):(JA S op o).S.ops=S.ops:=by
 unfold JA;split
 ·rfl
 ·split
  ·split<;>rfl
  ·split
   ·unfold X3;split
    ·rfl
    ·split
     ·exact(Oh _ _ _).2.1
     ·rfl
   ·split
    ·unfold Yo;split
     ·rfl
     ·exact(Hi _ _ _ _).1
    ·rfl
def Oi(S:Zf)(o:QZ):(QY S o).S.ops=S.ops+1:=QEd _ _ _
def ahead(hi:Int):Int->List Ev->Prop
 | _,[]=>True
 | a,v::l=>a<=v.at_/\v.at_<=hi/\(v.J4=true->v.done=0)/\(v.J4=false->v.at_<v.done)/\ahead hi v.at_ l
def Oj{S}(T:ZV S)(op){e}(he:e<=4611686018427387904)(h:QP S<=e):
  ZV (Z2 { S with Qh:=QP S } op (QP S)).1/\Zo (Z2 { S with Qh:=QP S } op (QP S)).1.M+1=Zo S.M/\S.Qh<=QP S/\(Z2 { S with Qh:=QP S } op (QP S)).1.Qh=QP S:=by
 obtain⟨h1,h2,h3⟩:=QmK T.I T.V (until_:=S.JI) T.mc he h;have T2:=(T.at_ (SB S T.cl) (show QP S<=4611686018427387904 by omega));refine⟨T2.Og op,?_,h3,(Oh _ _ _).1⟩;have h1:Xt S.M (QP S)=true:=h1;have h2:S.JI<=QP S:=h2;unfold Z2;rw[Qd (show ¬QP S<S.JI by omega)];show Zo (if Xt S.M (QP S)=true then _ else _:Zf × List Ev).1.M+1=Zo S.M;rw[Qf h1];exact QmJ T.I T.V h1
structure QcE (S:Zf) (D:Fw):Prop where
 next:D.S.Qh<QP D.S
 Qh:S.Qh<=D.S.Qh
 ev:ahead D.S.Qh S.Qh D.l
def z8(r:JU):Bool:=r.BG==65535&&(r.BH==65535&&(r.Gq==65535&&r.EN==65535))
def ct(n:Int):Prop:=0<=n/\n<65536
def ou{a}(h:ct a):xO a 65535=a:=by
 obtain⟨n,rfl⟩:∃n:Nat,a=n:=⟨a.toNat,by have:=h.1;omega⟩;have hn:n<65536:=by have:=h.2;omega
 have h1:(BitVec.ofInt 16 (n:Int)).toNat=n:=by
  rw[BitVec.ofInt_natCast,BitVec.toNat_ofNat];exact Cu (by omega)
 show IntKind.u16.wrap ((BitVec.ofInt 16 (n:Int) &&& BitVec.ofInt 16 65535).toNat:Int)=_;rw[BitVec.toNat_and,h1,show (BitVec.ofInt 16 65535).toNat=2 ^ 16 - 1 from rfl,Nat.and_two_pow_sub_one_eq_mod];rw[show IntKind.u16.wrap ((n % 2 ^ 16:Nat):Int)=((n % 2 ^ 16:Nat):Int) % 65536 by simp[IntKind.wrap,IntKind.bits,IntKind.signed]];omega
def JZ(R:List JU)(i:Nat):JU:=R.getD i default
def QcF(p:JU->Bool):∀(R:List JU) (i:Nat),i<R.length->p (JZ R i)=true->(∀j,j<i->p (JZ R j)=false)->R.find? p=some (JZ R i)
 | [],i,hi,_,_=>by simp at hi
 | r::R,0,hi,hp,_=>by
  have hp:p r=true:=hp;rw[wR,hp];rfl
 | r::R,i+1,hi,hp,hn=>by
  have h0:p r=false:=hn 0 (by omega);rw[wR,h0];exact QcF p R i (by simpa using hi) hp λj hj=>hn (j+1) (by omega)
def QmS(p:JU->Bool):∀(R:List JU),(∀j,j<R.length->p (JZ R j)=false)->R.find? p=none
 | [],_=>rfl
 | r::R,hn=>by
  have h0:p r=false:=hn 0 (by simp);rw[wR,h0];exact QmS p R λj hj=>hn (j+1) (by simpa using hj)
structure qG (R:List JU) (n:Nat) (es:List X7) (ms:List Nat):Prop where
 yes:∀k d,XA es k=some d->∃i:Nat,d=Qb i/\i<n/\z8 (JZ R i)=true/\(JZ R i).want=k/\∀j,j<i->¬(z8 (JZ R j)=true/\(JZ R j).want=k)
 no:∀k,XA es k=none->∀j,j<n->¬(z8 (JZ R j)=true/\(JZ R j).want=k)
 mem:∀j,j∈ms↔j<n/\z8 (JZ R j)=false
 inc:ms.Pairwise (·<·)
 four:∀e∈es,e.k.length=4
def qG.nil(R:List JU):qG R 0 [] []:=⟨λk d h=>(by cases h),λk h j hj=>absurd hj (Vw j),λj=>(by simp),.nil,λe h=>(by cases h)⟩
def QcG:∀(es:List X7) (e:X7) (k:List Int),XA (es++[e]) k=match XA es k with
  | some d=>some d
  | none=>if e.k=k then some e.v else none
 | [],e,k=>by simp[XA]
 | x::es,e,k=>by
  simp only[qJ,XA];split
  ·rfl
  ·exact QcG es e k
def qG.mask{R}{n}{es}{ms}(T:qG R n es ms)(h:z8 (JZ R n)=false):qG R (n+1) es (ms++[n]) where
 yes:=λk d hd=>by
  obtain⟨i,h1,h2,h3⟩:=T.yes k d hd;exact⟨i,h1,by omega,h3⟩
 no:=λk hk j hj=>by
  rcases qc.1 hj with h1|rfl
  ·exact T.no k hk j h1
  ·exact λh2=>by rw[h]at h2;cases h2.1
 mem:=λj=>by
  rw[Q9,T.mem j,zn];constructor
  ·rintro (h1|rfl)
   ·exact⟨by omega,h1.2⟩
   ·exact⟨by omega,h⟩
  ·rintro⟨h1,h2⟩;rcases qc.1 h1 with h3|rfl
   ·exact .inl ⟨h3,h2⟩
   ·exact .inr rfl
 inc:=by
  rw[eF];exact⟨T.inc,List.pairwise_singleton _ _,λa ha b hb=>by
   simp only[zn]at hb;have:=((T.mem a).1 ha).1;omega⟩
 four:=T.four
def qG.QmT{R}{n}{es}{ms}(T:qG R n es ms)(h:z8 (JZ R n)=true):∀j,j∈ms↔j<n+1/\z8 (JZ R j)=false:=λj=>by
 rw[T.mem j];constructor
 ·rintro⟨h1,h3⟩;exact⟨by omega,h3⟩
 ·rintro⟨h1,h3⟩;rcases qc.1 h1 with h4|rfl
  ·exact⟨h4,h3⟩
  ·rw[h]at h3;cases h3
def qG.there{R}{n:Nat}{es}{ms}(T:qG R n es ms)(h:z8 (JZ R n)=true)(h2:(XA es (JZ R n).want).isSome=true):qG R (n+1) es ms where
 yes:=λk d hd=>by
  obtain⟨i,h1,h2,h3⟩:=T.yes k d hd;exact⟨i,h1,by omega,h3⟩
 no:=λk hk j hj=>by
  rcases qc.1 hj with h1|rfl
  ·exact T.no k hk j h1
  ·exact λh3=>by rw[h3.2,hk]at h2;cases h2
 mem:=T.QmT h
 inc:=T.inc
 four:=T.four
def qG.new{R}{n:Nat}{es}{ms}(T:qG R n es ms)(h:z8 (JZ R n)=true)(h2:XA es (JZ R n).want=none)(c):qG R (n+1) (es++[⟨(JZ R n).want,Qb n,c⟩]) ms where
 yes:=λk d hd=>by
  rw[QcG]at hd;cases hk:XA es k with
  | some d2=>
   rw[hk]at hd;cases hd;obtain⟨i,h1,h2,h3⟩:=T.yes k d hk;exact⟨i,h1,by omega,h3⟩
  | none=>
   rw[hk]at hd;dsimp only at hd;split at hd
   ·rename_i e;cases hd;exact⟨n,rfl,by omega,h,e,λj hj=>T.no k hk j hj⟩
   ·cases hd
 no:=λk hk j hj=>by
  rw[QcG]at hk;cases Ju:XA es k with
  | some d2=>rw[Ju]at hk;cases hk
  | none=>
   rw[Ju]at hk;dsimp only at hk;split at hk
   ·cases hk
   ·rename_i e;rcases qc.1 hj with h1|rfl
    ·exact T.no k Ju j h1
    ·exact λh3=>e h3.2
 mem:=(T.QmT h)
 inc:=T.inc
 four:=λe he=>by
  rcases Q9.1 he with h1|h1
  ·exact T.four e h1
  ·simp only[zn]at h1;subst h1;rfl
def cu(x:Pk):Prop:=ct x.yo/\ct x.yp/\ct x.yq/\ct x.yr
def ov{r:JU}{x}(hx:cu x)(h:z8 r=true):jE r (Zy x)=(r.want==Zy x):=by
 unfold z8 at h;simp only[Z9,vG]at h;obtain⟨h0,h1,h2,h3⟩:=h;unfold jE cr Zy JU.mask;rw[h0,h1,h2,h3];simp only[List.zipWith_cons_cons,List.zipWith_nil_right,ou hx.1,ou hx.2.1,ou hx.2.2.1,ou hx.2.2.2];rw[kx];simp only[vG];exact eq_comm
section
variable {R:List JU}{es:List X7}{ms:List Nat}(T:qG R R.length es ms){x:Pk}(hx:cu x)
include T hx
theorem qG.Xh{i}(hi:i<R.length)(hw:z8 (JZ R i)=false)(hm:jE (JZ R i) (Zy x)=true)(Jy:∀j∈ms,j<i->jE (JZ R j) (Zy x)=false)
  (VN:∀a:Nat,XA es (Zy x)=some (Qb a)->¬a<i):R.find? (λr=>jE r (Zy x))=some (JZ R i):=
 QcF _ R i hi hm λj hj=>by
  cases Ws:z8 (JZ R j) with
  | false=>exact Jy j ((T.mem j).2 ⟨by omega,Ws⟩) hj
  | true=>
   rw[ov hx Ws,jO];intro e;cases hl:XA es (Zy x) with
   | none=>exact T.no _ hl j (by omega) ⟨Ws,e⟩
   | some d=>
    obtain⟨a,rfl,h1,h2,h3,h4⟩:=T.yes _ _ hl;have:=VN a hl;exact h4 j (by omega) ⟨Ws,e⟩
theorem qG.whole{a:Nat}(ha:XA es (Zy x)=some (Qb a))(Jy:∀j∈ms,j<a->jE (JZ R j) (Zy x)=false):a<R.length/\R.find? (λr=>jE r (Zy x))=some (JZ R a):=by
 obtain⟨i,e,h1,h2,h3,h4⟩:=T.yes _ _ ha;have e:a=i:=by
  unfold Qb at e;simp only[D.raw.injEq,Value.int.injEq,Bd]at e;omega
 subst e;refine⟨h1,QcF _ R a h1 (by rw[ov hx h2,h3];simp) λj hj=>?_⟩;cases Ws:z8 (JZ R j) with
 | false=>exact Jy j ((T.mem j).2 ⟨by omega,Ws⟩) hj
 | true=>
  rw[ov hx Ws,jO];exact λe=>h4 j hj ⟨Ws,e⟩
theorem qG.none(hl:XA es (Zy x)=Option.none)(Jy:∀j∈ms,jE (JZ R j) (Zy x)=false):R.find? (λr=>jE r (Zy x))=Option.none:=
 QmS _ R λj hj=>by
  cases Ws:z8 (JZ R j) with
  | false=>exact Jy j ((T.mem j).2 ⟨hj,Ws⟩)
  | true=>
   rw[ov hx Ws,jO];exact λe=>T.no _ hl j hj ⟨Ws,e⟩
end
@[go_sem] def z7.cells(r:z7):List D:=[u64 r.p,u64 r.b,u64 r.r,u64 r.w,u64 r.l]
@[go_sem] def kh(a b c d Qh ops:Nat):Ob:=⟨.one,0,6,1,λ_=>[.ptr a 0 0 0,.ptr b 0 0 0,.ptr c 0 0 0,.ptr d 0 0 0,u64 Qh,Qb ops]⟩
@[go_sem] def kj(a b c:Nat)(t:Int)(u:Nat):Ob:=⟨.one,0,5,1,λ_=>[u64 a,u64 b,u64 c,Qb t,u64 u]⟩
@[go_sem] def ox(c r:Nat):Ob:=⟨.one,0,2,1,λ_=>[.mref c 0,.mref r 0]⟩
@[go_sem] def Ol(d:D)(e:Nat)(m:D):Ob:=⟨.one,0,3,1,λ_=>[d,.mref e 0,m]⟩
inductive TT where
 | no|sys|ln|LI|st|my
deriving DecidableEq
def ZX(tw:Nat->TT)(h:List Ob)(t:TT):Nat->TT:=λl=>if h.length<=l then t else tw l
def JN{tw}{h:List Ob}{t}{l}(hl:l<h.length):ZX tw h t l=tw l:=by unfold ZX;rw[Qd (by omega)]
def zf{tw}{h:List Ob}{t}{l}(hl:h.length<=l):ZX tw h t l=t:=by unfold ZX;rw[Qf hl]
def Xb{own}{h:List Ob}{t}{l}(hl:h.length<=l):QX own h t l=t:=by unfold QX;rw[Qf hl]
def WA{α:Type}[Inhabited α](S:Nat->Prop)(h:List Ob)(sz:Nat)(f:α->List D)(d:D)(l:List α):Prop:=
 (d=.nil/\l=[])\/∃lo g row,d=.ref lo g 0 l.length/\S lo/\h[lo]? = some ⟨.arr,g,sz,l.length,row⟩/\∀i,i<l.length->row i=f (l.getD i default)
def WA.step{α:Type}[Inhabited α]{S S':Nat->Prop}{h h':List Ob}{sz:Nat}{f:α->List D}{d:D}{l:List α}(e:∀j,j<h.length->S j->S' j/\h'[j]? = h[j]?):WA S h sz f d l->WA S' h' sz f d l:=λH=>
 H.imp id λ⟨lo,g,row,h1,h2,h3,h4⟩=>⟨lo,g,row,h1,(e lo (Qc h3) h2).1,by rw[(e lo (Qc h3) h2).2];exact h3,h4⟩
def Om(S:Nat->Prop)(h:List Ob)(d:D)(l:List Nat):Prop:=
 (d=.nil/\l=[])\/∃lo g off row,d=.ref lo g off l.length/\S lo/\h[lo]? = some ⟨.arr,g,1,off+l.length,row⟩/\∀i,i<l.length->row (off+i)=[u64 (l.getD i 0)]
def Om.step{S S'}{h h':List Ob}{d}{l}(e:∀j,j<h.length->S j->S' j/\h'[j]? = h[j]?):Om S h d l->Om S' h' d l:=λH=>
 H.imp id λ⟨lo,g,off,row,h1,h2,h3,h4⟩=>⟨lo,g,off,row,h1,(e lo (Qc h3) h2).1,by rw[(e lo (Qc h3) h2).2];exact h3,h4⟩
def Om.nil{S}{h}{l}(H:Om S h .nil l):l=[]:=by
 rcases H with h1|⟨_,_,_,_,h1,_⟩
 ·exact h1.2
 ·cases h1
structure Hj (S:Nat->Prop) (h:List Ob) (p cm rm c1:Nat) (Z4:List ZU) (c2:Nat) (Je:List ZU) (s:Fv):Prop where
 o:h[p]? = some (ox cm rm)
 co:h[cm]? = some (QS .i64 c1 Z4)
 ro:h[rm]? = some (QS .i64 c2 Je)
 ne:cm≠rm
 sp:S p
 sc:S cm
 sr:S rm
 ca:∀k,Om S h ((ZJ Z4 k).getD .nil) (s.Jv k)
 sep:∀k k' lo g off n g' jg n',ZJ Z4 k=some (.ref lo g off n)->ZJ Z4 k'=some (.ref lo g' jg n')->k=k'
 rw_:∀k,(ZJ Je k).getD (.agg (default:z7).cells)=.agg (s.rows k).cells
def zg(S:Nat->Prop)(h:List Ob)(p:Nat)(s:Fv):Prop:=∃cm rm c1 Z4 c2 Je,Hj S h p cm rm c1 Z4 c2 Je s
def Hj.step{S S'}{h h':List Ob}{p cm rm c1}{Z4}{c2}{Je}{s}(e:∀j,j<h.length->S j->S' j/\h'[j]? = h[j]?)(T:Hj S h p cm rm c1 Z4 c2 Je s):Hj S' h' p cm rm c1 Z4 c2 Je s:=
 have k:∀l o,S l->h[l]? = some o->S' l/\h'[l]? = some o:=λl o h1 h2=>⟨(e l (Qc h2) h1).1,(e l (Qc h2) h1).2.trans h2⟩
 ⟨(k _ _ T.sp T.o).2,(k _ _ T.sc T.co).2,(k _ _ T.sr T.ro).2,T.ne,(k _ _ T.sp T.o).1,(k _ _ T.sc T.co).1,(k _ _ T.sr T.ro).1,λj=>(T.ca j).step e,T.sep,T.rw_⟩
def zg.step{S S'}{h h':List Ob}{p}{s}(e:∀j,j<h.length->S j->S' j/\h'[j]? = h[j]?):zg S h p s->zg S' h' p s:=λ⟨a,b,c,d,f,g,T⟩=>⟨a,b,c,d,f,g,T.step e⟩
structure QcH (S:Nat->Prop) (h:List Ob) (p:Nat) (dr:D) (le:Nat) (dm:D) (c:Nat) (es:List X7) (ms:List Nat) (R:List JU):Prop where
 o:h[p]? = some (Ol dr le dm)
 eo:h[le]? = some (xj c es)
 rs:WA S h 9 JU.cells dr R
 mo:WA S h 1 (λi:Nat=>[Qb i]) dm ms
 sp:S p
 se:S le
 I:qG R R.length es ms
 ok:qE R=0
def LJ(S:Nat->Prop)(h:List Ob)(p:Nat)(R:List JU):Prop:=∃dr le dm c es ms,QcH S h p dr le dm c es ms R
def LJ.step{S S'}{h h':List Ob}{p}{R}(e:∀j,j<h.length->S j->S' j/\h'[j]? = h[j]?):LJ S h p R->LJ S' h' p R:=λ⟨dr,le,dm,c,es,ms,T⟩=>
 have k:∀l o,S l->h[l]? = some o->S' l/\h'[l]? = some o:=λl o h1 h2=>⟨(e l (Qc h2) h1).1,(e l (Qc h2) h1).2.trans h2⟩
 ⟨dr,le,dm,c,es,ms,(k _ _ T.sp T.o).2,(k _ _ T.se T.eo).2,T.rs.step e,T.mo.step e,(k _ _ T.sp T.o).1,(k _ _ T.se T.eo).1,T.I,T.ok⟩
structure WM (own:Nat->Tag) (tw:Nat->TT) (h:List Ob) (p ps pl pr pt:Nat) (S:Zf):Prop where
 o:h[p]? = some (kh ps pl pr pt S.Qh S.ops)
 tp:tw p=.sys
 co:z6 own h ps S.M
 ln:∃a b c,h[pl]? = some (kj a b c S.M.lk.t S.JI)
 tl:tw pl=.ln
 tb:LJ (λl=>tw l=.LI) h pr S.R
 st:zg (λl=>tw l=.st) h pt S.st
 ap:∀l,tw l≠.no->own l=.no
def Kj(own:Nat->Tag)(tw:Nat->TT)(h:List Ob)(p:Nat)(S:Zf):Prop:=∃ps pl pr pt,WM own tw h p ps pl pr pt S
def oy(own:Nat->Tag)(tw:Nat->TT)(h:List Ob)(own':Nat->Tag)(ZK:Nat->TT)(h':List Ob):Prop:=
 ∀l,l<h.length->(Live (own l)->own' l=own l/\h'[l]? = h[l]?)/\(tw l≠.no->tw l≠.my->ZK l=tw l/\h'[l]? = h[l]?)
def WM.step{own own'}{tw ZK}{h h'}{p ps pl pr pt}{S}(T:WM own tw h p ps pl pr pt S)(e:oy own tw h own' ZK h')(ap:∀l,ZK l≠.no->own' l=.no):WM own' ZK h' p ps pl pr pt S:=by
 have k:∀l o t,tw l=t->t≠.no/\t≠.my->h[l]? = some o->ZK l=t/\h'[l]? = some o:=λl o t h1 h2 h3=>by
  obtain⟨a,b⟩:=(e l (Qc h3)).2 (by rw[h1];exact h2.1) (by rw[h1];exact h2.2);exact⟨by rw[a,h1],b.trans h3⟩
 have s:∀t,t≠.no/\t≠.my->∀l,l<h.length->tw l=t->ZK l=t/\h'[l]? = h[l]? := λt h2 l hl h1=>by
  obtain⟨a,b⟩:=(e l hl).2 (by rw[h1];exact h2.1) (by rw[h1];exact h2.2);exact⟨by rw[a,h1],b⟩
 obtain⟨a,b,c,hl⟩:=T.ln;exact⟨(k _ _ _ T.tp (by simp) T.o).2,(k _ _ _ T.tp (by simp) T.o).1,T.co.step λl hl hv=>(e l hl).1 hv,⟨a,b,c,(k _ _ _ T.tl (by simp) hl).2⟩,(k _ _ _ T.tl (by simp) hl).1,T.tb.step (s _ (by simp)),T.st.step (s _ (by simp)),ap⟩
structure Jw (n:Nat) (own:Nat->Tag) (tw:Nat->TT) (h:List Ob) (own':Nat->Tag) (ZK:Nat->TT) (h':List Ob):Prop where
 s1:∀l,l<h.length->own' l=own l
 s2:∀l,l<h.length->ZK l=tw l
 keep:∀l,l<n->own l=Tag.no->tw l=TT.no->h'[l]? = h[l]?
 my:∀l,l<h.length->tw l=TT.my->h'[l]? = h[l]?
 len:h.length<=h'.length
def Jw.refl(n)(own)(tw:Nat->TT)(h):Jw n own tw h own tw h:=⟨λ_ _=>rfl,λ_ _=>rfl,λ_ _ _ _=>rfl,λ_ _ _=>rfl,QB _⟩
def Jw.trans{n}{own own' aX}{tw ZK QmU}{h h' qO:List Ob}(hn:n<=h.length)(a:Jw n own tw h own' ZK h')(b:Jw n own' ZK h' aX QmU qO):Jw n own tw h aX QmU qO:=
 ⟨λl hl=>(b.s1 l (wU hl a.len)).trans (a.s1 l hl),λl hl=>(b.s2 l (wU hl a.len)).trans (a.s2 l hl),
  λl hl h1 h2=>(b.keep l hl ((a.s1 l (wU hl hn)).trans h1) ((a.s2 l (wU hl hn)).trans h2)).trans (a.keep l hl h1 h2),λl hl h1=>(b.my l (wU hl a.len) ((a.s2 l hl).trans h1)).trans (a.my l hl h1),KZ a.len b.len⟩
def Jw.core{n}{own own'}{tw}{h h':List Ob}(ap:∀l,tw l≠.no->own l=.no)(hn:n<=h.length)(D:ZO own h own' h'):Jw n own tw h own' (ZX tw h .no) h':=
 ⟨D.same,λl hl=>JN hl,λl hl h1 _=>D.keep l (by omega) h1,λl hl h1=>D.keep l hl (ap l (by rw[h1];simp)),D.len⟩
def WM.core{own own'}{tw}{h h'}{p ps pl pr pt}{S:Zf}(T:WM own tw h p ps pl pr pt S)(D:ZO own h own' h'){M:Qq}(C:z6 own' h' ps M)(hk:M.lk=S.M.lk):WM own' (ZX tw h .no) h' p ps pl pr pt { S with M:=M }:=by
 have k:∀l o t,tw l=t->t≠.no->h[l]? = some o->ZX tw h .no l=t/\h'[l]? = some o:=λl o t h1 h2 h3=>
  ⟨by rw[JN (Qc h3),h1],(D.keep l (Qc h3) (T.ap l (by rw[h1];exact h2))).trans h3⟩
 have s:∀t,t≠.no->∀l,l<h.length->tw l=t->ZX tw h .no l=t/\h'[l]? = h[l]? := λt h2 l hl h1=>
  ⟨by rw[JN hl,h1],D.keep l hl (T.ap l (by rw[h1];exact h2))⟩
 obtain⟨a,b,c,hl⟩:=T.ln;refine⟨(k _ _ _ T.tp (by simp) T.o).2,(k _ _ _ T.tp (by simp) T.o).1,C,⟨a,b,c,?_⟩,(k _ _ _ T.tl (by simp) hl).1,T.tb.step (s _ (by simp)),T.st.step (s _ (by simp)),λl hl=>?_⟩
 ·show h'[pl]? = some (kj a b c M.lk.t S.JI);rw[hk];exact(k _ _ _ T.tl (by simp) hl).2
 ·by_cases h1:l<h.length
  ·rw[JN h1]at hl;rw[D.same l h1];exact T.ap l hl
  ·rw[zf (by omega)]at hl;exact absurd rfl hl
def WM.app{own}{tw}{h}{p ps pl pr pt}{S}(T:WM own tw h p ps pl pr pt S)(g):WM (QX own h .no) (ZX tw h .no) (h++g) p ps pl pr pt S:=
 T.core (ZO.app own h g .no) (T.co.RW g) rfl
def Jw.app{n}(own)(tw:Nat->TT)(h g:List Ob)(t:TT)(hn:n<=h.length):Jw n own tw h (QX own h .no) (ZX tw h t) (h++g):=
 ⟨λl hl=>Js hl,λl hl=>JN hl,λl hl _ _=>Qx (by omega),λl hl _=>Qx hl,by simp⟩
def WM.YK{own}{tw}{h}{p ps pl pr pt}{S}(T:WM own tw h p ps pl pr pt S)(g):WM (QX own h .no) (ZX tw h .my) (h++g) p ps pl pr pt S:=
 T.step (λl hl=>⟨λ_=>⟨Js hl,Qx hl⟩,λ_ _=>⟨JN hl,Qx hl⟩⟩) λl hl=>by
  by_cases h1:l<h.length
  ·rw[JN h1]at hl;rw[Js h1];exact T.ap l hl
  ·exact Xb (by omega)
def WM.loc{own}{tw}{h:List Ob}{p ps pl pr pt}{S}(T:WM own tw h p ps pl pr pt S){l}(h1:own l=.no)(h2:tw l=.no\/tw l=.my)(o):WM own tw (h.set l o) p ps pl pr pt S:=
 T.step (λj _=>⟨λhj=>⟨rfl,Qk (λe=>hj.1 (by rw[<- e,h1]))⟩,λhj hm=>⟨rfl,Qk (λe=>h2.elim (λh3=>hj (by rw[<- e,h3])) (λh3=>hm (by rw[<- e,h3])))⟩⟩) T.ap
def WM.part{own}{tw}{h h'}{p ps pl pr pt}{S}(T:WM own tw h p ps pl pr pt S){t}(ht:t≠.no)(s:Step (λl=>tw l=t) h h'):
  z6 (QX own h .no) h' ps S.M/\(∀u,u≠.no->u≠t->∀l,l<h.length->tw l=u->ZX tw h t l=u/\h'[l]? = h[l]?)/\(∀l,ZX tw h t l≠.no->QX own h .no l=.no):=by
 refine⟨T.co.step λl hl hv=>⟨Js hl,s.keep l hl λe=>hv.1 (T.ap l (by rw[e];exact ht))⟩,λu hu hn l hl h1=>⟨by rw[JN hl,h1],s.keep l hl λe=>hn (by rw[<- h1,e])⟩,λl hl=>?_⟩;by_cases h1:l<h.length
 ·rw[JN h1]at hl;rw[Js h1];exact T.ap l hl
 ·exact Xb (by omega)
def Jw.part{n}{own}{tw}{h h':List Ob}{t}(ht:t≠.no/\t≠.my)(hn:n<=h.length)(s:Step (λl=>tw l=t) h h'):Jw n own tw h (QX own h .no) (ZX tw h t) h':=
 ⟨λl hl=>Js hl,λl hl=>JN hl,λl hl _ h2=>s.keep l (by omega) λe=>ht.1 (by rw[<- e,h2]),λl hl h2=>s.keep l hl λe=>ht.2 (by rw[<- e,h2]),s.len⟩
def QEi{tw}{h}{t}(l):more (λl=>tw l=t) h l->ZX tw h t l=t:=λhl=>by
 unfold ZX;split
 ·rfl
 ·rcases hl with hl|hl
  ·exact hl
  ·omega
section
variable {own:Nat->Tag}{tw:Nat->TT}{h h':List Ob}{p ps pl pr pt:Nat}{S:Zf}(T:WM own tw h p ps pl pr pt S)
include T
theorem WM.link{u a b c}(s:Step (λl=>tw l=.ln) h h')(hl:h'[pl]? = some (kj a b c S.M.lk.t u)):WM (QX own h .no) (ZX tw h .ln) h' p ps pl pr pt { S with JI:=u }:=by
 obtain⟨C,r,ap⟩:=T.part (by simp) s;have k:∀l o t,tw l=t->t≠.no->t≠.ln->h[l]? = some o->ZX tw h .ln l=t/\h'[l]? = some o:=λl o t h1 h2 h3 h4=>by
  obtain⟨a,b⟩:=r t h2 h3 l (Qc h4) h1;exact⟨a,b.trans h4⟩
 obtain⟨_,_,_,XX⟩:=T.ln;exact⟨(k _ _ _ T.tp (by simp) (by simp) T.o).2,(k _ _ _ T.tp (by simp) (by simp) T.o).1,C,⟨a,b,c,hl⟩,by rw[JN (Qc XX)];exact T.tl,T.tb.step (r _ (by simp) (by simp)),T.st.step (r _ (by simp) (by simp)),ap⟩
theorem WM.stat{st}(s:Step (λl=>tw l=.st) h h')(hs:zg (more (λl=>tw l=.st) h) h' pt st):WM (QX own h .no) (ZX tw h .st) h' p ps pl pr pt { S with st:=st }:=by
 obtain⟨C,r,ap⟩:=T.part (by simp) s;have k:∀l o t,tw l=t->t≠.no->t≠.st->h[l]? = some o->ZX tw h .st l=t/\h'[l]? = some o:=λl o t h1 h2 h3 h4=>by
  obtain⟨a,b⟩:=r t h2 h3 l (Qc h4) h1;exact⟨a,b.trans h4⟩
 obtain⟨a,b,c,hl⟩:=T.ln;exact⟨(k _ _ _ T.tp (by simp) (by simp) T.o).2,(k _ _ _ T.tp (by simp) (by simp) T.o).1,C,⟨a,b,c,(k _ _ _ T.tl (by simp) (by simp) hl).2⟩,(k _ _ _ T.tl (by simp) (by simp) hl).1,T.tb.step (r _ (by simp) (by simp)),hs.step λl _ hl=>⟨QEi l hl,rfl⟩,ap⟩
theorem WM.clock(c o):WM own tw (h.set p (kh ps pl pr pt c o)) p ps pl pr pt { S with Qh:=c,ops:=o }:=by
 have k:∀l x t,tw l=t->t≠.sys->h[l]? = some x->(h.set p (kh ps pl pr pt c o))[l]? = some x:=λl x t h1 h2 h3=>by
  rw[Qk (λe=>h2 (by rw[<- h1,<- e,T.tp]))];exact h3
 have s:∀t,t≠.sys->∀l,l<h.length->tw l=t->tw l=t/\(h.set p (kh ps pl pr pt c o))[l]? = h[l]? := λt h2 l hl h1=>
  ⟨h1,Qk (λe=>h2 (by rw[<- h1,<- e,T.tp]))⟩
 obtain⟨a,b,d,hl⟩:=T.ln;exact⟨Qs (Qc T.o),T.tp,T.co.step λl _ hv=>⟨rfl,Qk (λe=>hv.1 (T.ap l (by rw[<- e,T.tp];simp)))⟩,⟨a,b,d,k _ _ _ T.tl (by simp) hl⟩,T.tl,T.tb.step (s _ (by simp)),T.st.step (s _ (by simp)),T.ap⟩
theorem WM.rules{g}{cv}{R}(hb:LJ (λl=>h.length<=l) (h++g) cv R):
  WM (QX own h .no) (ZX tw h .LI) ((h++g).set p (kh ps pl cv pt S.Qh S.ops)) p ps pl cv pt { S with R:=R }:=by
 have hp:=Qc T.o;have k:∀l x t,tw l=t->t≠.no->t≠.sys->h[l]? = some x->ZX tw h .LI l=t/\((h++g).set p (kh ps pl cv pt S.Qh S.ops))[l]? = some x:=λl x t h1 h2 h3 h4=>by
  refine⟨by rw[JN (Qc h4),h1],?_⟩;rw[Qk (λe=>h3 (by rw[<- h1,<- e,T.tp])),Qx (Qc h4)];exact h4
 have s:∀t,t≠.no->t≠.sys->∀l,l<h.length->tw l=t->ZX tw h .LI l=t/\((h++g).set p (kh ps pl cv pt S.Qh S.ops))[l]? = h[l]? := λt h2 h3 l hl h1=>
  ⟨by rw[JN hl,h1],by rw[Qk (λe=>h3 (by rw[<- h1,<- e,T.tp])),Qx hl]⟩
 obtain⟨a,b,d,hl⟩:=T.ln;refine⟨Qs (by simp;omega),by rw[JN hp];exact T.tp,T.co.step λl hl hv=>⟨Js hl,by rw[Qk (λe=>hv.1 (T.ap l (by rw[<- e,T.tp];simp))),Qx hl]⟩,⟨a,b,d,(k _ _ _ T.tl (by simp) (by simp) hl).2⟩,(k _ _ _ T.tl (by simp) (by simp) hl).1,
  hb.step λl hl h1=>⟨zf h1,Qk (λe=>by omega)⟩,T.st.step (s _ (by simp) (by simp)),λl hl=>?_⟩
 by_cases h1:l<h.length
 ·rw[JN h1]at hl;rw[Js h1];exact T.ap l hl
 ·exact Xb (by omega)
end
@[go_sem] def cw(n:Int):D:=.raw (.int .u64 n)
def oz(n m):Q4 prog 171 [Qb n,Qb m] (Qn (QJ (decide (1<=n/\n<=m)))):=by
 refine ZA 0 Qi 200 func171 rfl ntmps171 results171 rfl λbase w hb=>?_;simp only[go_sem];first|refine zE (λh=>?_) (λh=>?_)|refine zF (λh=>?_) (λh=>?_)|refine zG (λh=>?_) (λh=>?_)|refine XS (λh=>?_) (λh=>?_)|refine zH (λh=>?_) (λh=>?_)|refine zI (λh=>?_) (λh=>?_)|refine zJ (λh=>?_) (λh=>?_)|refine zD (λh=>?_) (λh=>?_)
 all_goals (simp only[go_sem];congr 2;rw[kx];simp only[XM,qa,false_iff];omega)
def Cd(p:Pk)(m:Int):Int:=if ¬(1<=m/\m<=16384) then 1 else if ¬ (1<=p.len/\p.len<=m) then 26 else 0
def QmV(p:Pk)(m):Q4 prog 127 [.agg p.cells,Qb m] (Qn (Qb (Cd p m))):=by
 refine ZA 0 Qi 200 func127 rfl ntmps127 results127 rfl λbase w hb=>?_;simp only[go_sem];refine Wu hb iZ (oz m 16384) (Qn.flat rfl) λd h hR=>?_;obtain⟨rfl,rfl⟩:=hR;apply Zi hb;by_cases h:1<=m/\m<=16384
 ·simp only[go_sem,Q5 h];refine Wu hb iZ (oz p.len m) (Qn.flat rfl) λd h hR=>?_;obtain⟨rfl,rfl⟩:=hR;apply Zi hb;by_cases h2:1<=p.len/\p.len<=m
  ·simp only[go_sem,Q5 h2];simp[Cd,h,h2]
  ·simp only[go_sem,QN h2];simp[Cd,h,h2]
 ·simp only[go_sem,QN h];simp[Cd,h]
def DQ(p:Pk)(t:Int):Int:=if (1<=t/\t<=65536)/\(1<=p.len/\p.len<=16384) then IntKind.u64.wrap (p.len*t) else 0
def SC(p:Pk)(t:Int):Int:=if (1<=t/\t<=65536)/\(1<=p.len/\p.len<=16384) then 0 else 1
def QmW(p:Pk)(t):Q4 prog 172 [.agg p.cells,Qb t] (Qn (.tup [cw (DQ p t),Qb (SC p t)])):=by
 refine ZA 0 Qi 200 func172 rfl ntmps172 results172 rfl λbase w hb=>?_;simp only[go_sem];refine Wu hb iZ (oz t 65536) (Qn.flat rfl) λd h hR=>?_;obtain⟨rfl,rfl⟩:=hR;apply Zi hb;by_cases h:1<=t/\t<=65536
 ·simp only[go_sem,Q5 h];refine Wu hb iZ (oz p.len 16384) (Qn.flat rfl) λd h hR=>?_;obtain⟨rfl,rfl⟩:=hR;apply Zi hb;by_cases h2:1<=p.len/\p.len<=16384
  ·simp only[go_sem,Q5 h2];have e1:IntKind.u64.wrap p.len=p.len:=lG (by omega) (by omega);have e2:IntKind.u64.wrap t=t:=lG (by omega) (by omega);simp[e1,e2,DQ,SC,h,h2]
  ·simp only[go_sem,QN h2];simp[DQ,SC,h,h2]
 ·simp only[go_sem,QN h];simp[DQ,SC,h]
def QEj(h:List Ob){t}(h1:1<=t)(h2:t<=65536):QK prog 55 h [Qb t] (λd h'=>d=.tup [.ptr h.length 0 0 0,Qb 0]/\h'=h++[kj 0 0 0 t 0]):=by
 have d1:decide (t<1)=false:=QN (by omega);have d2:decide (65536<t)=false:=QN (by omega);refine Q6 Qi 200 func55 rfl ntmps55 results55 rfl λbase w pl hb=>?_;simp only[go_sem,Qa,d1,d2]
section
variable {h:List Ob}{lp a b c:Nat}{t:Int}{u:Nat}(ho:(h.map Ob.ro)[lp]? = some (kj a b c t u).ro)
include ho
theorem QcI(now):QV prog 60 h [.ptr lp 0 0 0,u64 now] (λd=>d=QJ (decide (u<=now))):=by
 refine Zq Qi 200 func60 rfl ntmps60 results60 rfl λbase w pl F hF Q3 hb=>?_;rw[<- hF]at ho;have Qg:=Qc ho;simp only[go_sem,Qa,ho,Qg];all_goals first|exact⟨_,rfl,rfl⟩|exact⟨_,rfl⟩|rfl|exact⟨[],(QU _).symm⟩|exact⟨[],(QU _).symm,rfl⟩
theorem QmX:QV prog 67 h [.ptr lp 0 0 0] (λd=>d=u64 u):=by
 refine Zq Qi 200 func67 rfl ntmps67 results67 rfl λbase w pl F hF Q3 hb=>?_;rw[<- hF]at ho;have Qg:=Qc ho;simp only[go_sem,Qa,ho,Qg];all_goals first|exact⟨_,rfl,rfl⟩|exact⟨_,rfl⟩|rfl|exact⟨[],(QU _).symm⟩|exact⟨[],(QU _).symm,rfl⟩
end
def QEk(h:List Ob){lp a b c}{t}{u}(ho:h[lp]? = some (kj a b c t u))(n)(k):QK prog 205 h [.ptr lp 0 0 0,Qb n,u64 k] (λd h'=>∃a' b' c',h'=h.set lp (kj a' b' c' t u)):=by
 have e:∀(x y:Nat),∃z:Nat,IntKind.u64.wrap ((x:Int)+y)=z:=λx y=>⟨(IntKind.u64.wrap ((x:Int)+y)).toNat,by rw[IntKind.wrap_u64];omega⟩;have e1:∀(x:Nat) (y:Int),∃z:Nat,IntKind.u64.wrap ((x:Int)+y)=z:=λx y=>⟨(IntKind.u64.wrap ((x:Int)+y)).toNat,by rw[IntKind.wrap_u64];omega⟩;obtain⟨z1,hz1⟩:=e1 a 1;obtain⟨z2,UY⟩:=e1 b (IntKind.u64.wrap n);obtain⟨z3,hz3⟩:=e c k;have hl:=Qc ho;refine Q6 Qi 200 func205 rfl ntmps205 results205 rfl λbase w pl hb=>?_;have Qg:=Qc ho;simp only[go_sem,Qa,ho,Qg,hz1,UY,hz3,Qs hl];exact⟨z1,z2,z3,rfl⟩
def QEn(h:List Ob){lp a b c}{t}{u}(ho:h[lp]? = some (kj a b c t u))(h1:1<=t)(h2:t<=65536){now}(hn:now<=4611686018427387904)(hu:u<=now)(x:Pk)(hx:1<=x.len/\x.len<=16384):
  QK prog 166 h [.ptr lp 0 0 0,u64 now,.agg x.cells] (λd h'=>d=.tup [u64 (now+x.len.toNat*t.toNat),Qb 0]/\∃a' b' c' g,h'=h.set lp (kj a' b' c' t (now+x.len.toNat*t.toNat))++g):=by
 have hl:=Qc ho;have dn:decide ((4611686018427387904:Int)<(now:Int))=false:=QN (by omega);have e1:Cd x 16384=0:=by unfold Cd;rw[Qd (by simp),Qd (by simp;omega)]
 have k1:x.len.toNat*t.toNat<=1073741824:=vF (show x.len.toNat<=16384 by omega) (show t.toNat<=65536 by omega);have e2:DQ x t=((x.len.toNat*t.toNat:Nat):Int):=by
  have k2:x.len*t=((x.len.toNat*t.toNat:Nat):Int):=by
   rw[OM,Ea (by omega),Ea (by omega)]
  unfold DQ;rw[Qf ⟨⟨h1,h2⟩,hx⟩,k2];exact lG (by omega) (by omega)
 obtain⟨k,hk⟩:∃k,k=x.len.toNat*t.toNat:=⟨_,rfl⟩;rw[<- hk]at k1 e2 ⊢;have e3:IntKind.u64.wrap ((now:Int)+(k:Int))=((now+k:Nat):Int):=by rw[lG (by omega) (by omega)];omega
 have hT:=QmW x t;have dE:SC x t=0:=by unfold SC;rw[Qf ⟨⟨h1,h2⟩,hx⟩]
 rw[e2,dE]at hT;have hM:=QmV x 16384;rw[e1]at hM;refine Q6 Qi 200 func166 rfl ntmps166 results166 rfl λbase w pl hb=>?_;have Qg:=Qc ho;simp only[go_sem,Qa,ho,Qg,dn];refine ZW hb QhK rfl ?_ hM (Qn.flat rfl) rfl λd h hR=>?_
 ·simp only[go_sem,Qa,ho,Qg]
 obtain⟨rfl,rfl⟩:=hR;refine Qe hb ?_;simp only[go_sem,Qa,ho,Qg];refine ZN hb iP (QcI (u:=u) (Z3 (by rw[Qx hl];exact ho)) now) λd hR=>?_;subst hR;refine Qe hb ?_;simp only[go_sem,Qa,Q5 hu,ho,Qg];apply QH hb [0,1,2,3,4,1005,6,7,8,9,10];simp only[go_sem,Qa,ho,Qg];refine Vj hb QhP rfl ?_ hT (Qn.flat rfl) rfl λd h hR=>?_
 ·simp only[go_sem,Qa,ho,Qg,e3,Qs hl]
 obtain⟨rfl,rfl⟩:=hR;refine Zr hb ?_;simp only[go_sem,Qa,ho,Qg,e3,Qs hl];apply Va [6] hb [0,1,2,3,4,5,1006] [];simp only[go_sem,Qa,ho,Qg,Qs hl];obtain⟨H,hH⟩:∃H,H=h.set lp (kj a b c t (now+k))++[(⟨.one,0,6,1,λ_=>x.cells⟩:Ob)]:=⟨_,rfl⟩;have KJ:H[lp]? = some (kj a b c t (now+k)):=by rw[hH,Qx (by simpa using hl),Qs hl]
 have YH:=Qc KJ;have hf:∀o:Ob,H.set lp o=h.set lp o++[(⟨.one,0,6,1,λ_=>x.cells⟩:Ob)]:=λo=>by rw[hH,EJ (by simpa using hl),JS]
 simp only[go_sem]at hH;rw[<- hH];refine xv hb QvJ (QEk H KJ x.len k) λd h6 hR=>?_;obtain⟨a',b',c',rfl⟩:=hR;refine Zr hb ?_;simp only[go_sem,Qs YH];exact⟨a',b',c',_,hf _⟩
def QEo(a):Q4 prog 265 [u64 a] (Qn (QJ false)):=by
 have e:((a:Int) != (a:Int))=false:=by simp
 refine ZA 0 Qi 200 func265 rfl ntmps265 results265 rfl λbase w hb=>?_;simp only[go_sem];simp only[go_sem,e]
def QmY(a b):Q4 prog 208 [u64 a,u64 b] (Qn (QJ (decide (a<b)))):=by
 refine ZA 0 Qi 200 func208 rfl ntmps208 results208 rfl λbase w hb=>?_;simp only[go_sem];refine ZW hb Qh5 rfl ?_ (QEo a) (Qn.flat rfl) rfl λd h hR=>?_
 ·simp only[go_sem,Go.undef]
 obtain⟨rfl,rfl⟩:=hR;refine Qe hb ?_;simp only[go_sem,Go.undef]
def QEp(h:List Ob)(a b c lo)(row)(ho:(h.map Ob.ro)[lo]? = some ⟨.Be,0,1,2,row⟩)(h0:row 0=[u64 b])(h1:row 1=[u64 c]):
  QV prog 174 h [u64 a,.ref lo 0 0 2] (λd=>d=u64 (max (max a b) c)):=by
 simp only[go_sem]at h0 h1;refine Zq Qi 200 func174 rfl ntmps174 results174 rfl λbase w pl F hF Q3 hb=>?_;rw[<- hF]at ho;have Qg:=Qc ho;simp only[go_sem,Qa,ho,Qg];have w1:IntKind.i64.wrap 1=1:=rfl;have w2:IntKind.i64.wrap 2=2:=rfl;have key:∀m k:Nat,∃d:Bool,d=decide (m<k)/\max m k=bif d then k else m:=λm k=>⟨_,rfl,by
  by_cases e:m<k
  ·rw[Q5 e];show _=k;omega
  ·rw[QN e];show _=m;omega⟩
 obtain⟨d1,e1,m1⟩:=key a b;have L1:=QmY a b;rw[<- e1]at L1;obtain⟨d2,e2,m2⟩:=key (max a b) c;have L2:=QmY (max a b) c;rw[<- e2]at L2;rw[m2];rw[m1]at L2 ⊢;clear e1 e2 m1 m2 key;cases d1<;>cases d2;all_goals
  simp only[Yr,Xw]at L2 ⊢;refine xu 2 ?_;refine Qe hb ?_;simp only[go_sem,Qa,ho,Qg,h0];refine Ax hb kQ L1 (Qn.flat rfl) λd h hR=>?_;obtain⟨rfl,rfl⟩:=hR;apply QC hb;refine Qe hb ?_;simp only[go_sem,Qa,ho,Qg,h1,w1];refine Ax hb kQ L2 (Qn.flat rfl) λd h hR=>?_;obtain⟨rfl,rfl⟩:=hR;apply QC hb;refine Qe hb ?_;simp only[go_sem,Qa,ho,Qg,h1,w2];refine Qe hb ?_;simp only[go_sem,Qa,ho,Qg,h1,w2];all_goals first|exact⟨_,rfl,rfl⟩|exact⟨_,rfl⟩|rfl|exact⟨[],(QU _).symm⟩|exact⟨[],(QU _).symm,rfl⟩
def QEq(h:List Ob)(a lo)(row)(ho:(h.map Ob.ro)[lo]? = some ⟨.Be,0,1,1,row⟩)(h0:row 0=[u64 a]):
  QV prog 173 h [.ref lo 0 0 1] (λd=>d=u64 (min 9223372036854775808 a)):=by
 simp only[go_sem]at h0;have e:min (9223372036854775808:Int) (a:Int)=((min 9223372036854775808 a:Nat):Int):=by omega
 have w1:IntKind.i64.wrap 1=1:=rfl;refine Zq Qi 200 func173 rfl ntmps173 results173 rfl λbase w pl F hF Q3 hb=>?_;rw[<- hF]at ho;have Qg:=Qc ho;simp only[go_sem,Qa,ho,Qg];refine xu 1 ?_;refine Qe hb ?_;simp only[go_sem,Qa,ho,Qg,h0,e,w1];refine Qe hb ?_;simp only[go_sem,Qa,ho,Qg,h0,e,w1];refine Qe hb ?_;simp only[go_sem,Qa,ho,Qg,h0,e,w1];all_goals first|exact⟨_,rfl,rfl⟩|exact⟨_,rfl⟩|rfl|exact⟨[],(QU _).symm⟩|exact⟨[],(QU _).symm,rfl⟩
def QEr(a b c):Q4 prog 134 [u64 a,u64 b,u64 c] (Qn (u64 (XL a b c))):=by
 have e:XL a b c=min 9223372036854775808 (max (max a b) c):=by unfold XL;omega
 rw[e];refine ZA 0 Qi 200 func134 rfl ntmps134 results134 rfl λbase w hb=>?_;simp only[go_sem];refine ZN hb Qvt (QEp _ a b c 0 _ (Z3 (o:=⟨.arr,0,1,2,_⟩) rfl) rfl rfl) λd hR=>?_;subst hR;apply QC hb;obtain⟨m,hm⟩:∃m,m=max (max a b) c:=⟨_,rfl⟩;rw[<- hm];refine ZN hb Qvs (QEq _ m 1 _ (Z3 (o:=⟨.arr,0,1,1,_⟩) rfl) rfl) λd hR=>?_;subst hR;exact V9 hb
def QEs(h:List Ob):QK prog 57 h [] (λd h'=>d=.ptr (h.length+2) 0 0 0/\h'=h++[QS .i64 0 [],QS .i64 0 [],ox h.length (h.length+1)]):=by
 refine Q6 Qi 200 func57 rfl ntmps57 results57 rfl λbase w pl hb=>?_;simp only[go_sem,Qa]
def Hj.put{S}{h h'}{p cm rm c1}{Z4}{c2}{Je}{s}(T:Hj S h p cm rm c1 Z4 c2 Je s){cls}{d}{l}(lo)
  (hc:h'[cm]? = some (J2 .i64 c1 Z4 cls d)) (ho:∀j o,h[j]? = some o->j≠cm->j≠lo->h'[j]? = some o) (hd:Om (more S h) h' d l) (hl:∀j g off n,d=.ref j g off n->j=lo)
  (hs:∀k j g off n,k≠cls->ZJ Z4 k=some (.ref j g off n)->j≠lo) (hp:p≠lo) (hr:rm≠lo) :
  zg (more S h) h' p { s with Jv:=λk=>if k=cls then l else s.Jv k }:=by
 obtain⟨c',es',h3,h4⟩:=rO .i64 c1 Z4 cls d;have kJ:p≠cm:=λe=>by have:=T.o;rw[e,T.co]at this;cases this
 refine⟨cm,rm,c',es',c2,Je,ho _ _ T.o kJ hp,by rw[hc,h3],ho _ _ T.ro (Q8 T.ne) hr,T.ne,.inl T.sp,.inl T.sc,.inl T.sr,λk=>?_,λk1 k2 j g off n g' jg n' h1 h2=>?_,T.rw_⟩
 ·rw[h4 k];by_cases hk:k=cls
  ·rw[Qf hk];dsimp only;rw[Qf hk];exact hd
  ·rw[Qd hk];dsimp only;rw[Qd hk];rcases T.ca k with ⟨h1,h2⟩|⟨j,g,off,row,h1,h2,h5,h6⟩
   ·exact .inl ⟨h1,h2⟩
   ·have Ju:ZJ Z4 k=some (.ref j g off (s.Jv k).length):=by
     cases ha:ZJ Z4 k with
     | none=>rw[ha]at h1;cases h1
     | some d'=>rw[ha]at h1;exact congrArg some h1
    refine .inr ⟨j,g,off,row,h1,.inl h2,ho j _ h5 (λe=>?_) (hs k _ _ _ _ hk Ju),h6⟩;rw[e,T.co]at h5;cases h5
 ·rw[h4 k1]at h1;rw[h4 k2]at h2;by_cases a1:k1=cls<;>by_cases a2:k2=cls
  ·rw[a1,a2]
  ·rw[Qf a1]at h1;rw[Qd a2]at h2;exact absurd (hl _ _ _ _ (FP h1)) (hs k2 _ _ _ _ a2 h2)
  ·rw[Qd a1]at h1;rw[Qf a2]at h2;exact absurd (hl _ _ _ _ (FP h2)) (hs k1 _ _ _ _ a1 h1)
  ·rw[Qd a1]at h1;rw[Qd a2]at h2;exact T.sep k1 k2 j g off n g' jg n' h1 h2
def QEt{S}{h}{p}{s:Fv}(T:zg S h p s)(cls:Int)(a)(hb:(s.Jv cls).length<1000000):
  QK prog 115 h [.ptr p 0 0 0,Qb cls,u64 a] (λd h'=>d=Qb 0/\Step S h h'/\zg (more S h) h' p (kg s cls a)):=by
 obtain⟨cm,rm,c1,Z4,c2,Je,T⟩:=T;have ho:=T.o;have hm:=T.co;have Qg:=Qc ho;have QG:=Qc hm;have hp:=T.ca cls;have kJ:p≠cm:=λe=>by rw[e,hm]at ho;cases ho
 have ZF:kg s cls a={ s with Jv:=λk=>if k=cls then s.Jv cls++[a] else s.Jv k }:=by
  unfold kg;congr 1;funext k;by_cases hk:k=cls
  ·rw[Qf hk,Qf hk,hk]
  ·rw[Qd hk,Qd hk]
 rw[ZF];have TS:∀k j g off n,ZJ Z4 k=some (.ref j g off n)->j<h.length:=λk j g off n hk=>by
  rcases T.ca k with ⟨h1,_⟩|⟨j',_,_,_,h1,_,h3,_⟩
  ·rw[hk]at h1;cases h1
  ·rw[hk]at h1;cases h1;exact Qc h3
 have new:(ZJ Z4 cls=none\/ZJ Z4 cls=some .nil)->s.Jv cls=[]->Step S h (h.set cm (J2 .i64 c1 Z4 cls (.ref (h.length+1) 0 0 1))++[⟨.arr,0,1,1,λ_=>[u64 a]⟩,⟨.arr,0,1,1,λ_=>[u64 a]⟩]) /\
   zg (more S h) (h.set cm (J2 .i64 c1 Z4 cls (.ref (h.length+1) 0 0 1))++[⟨.arr,0,1,1,λ_=>[u64 a]⟩,⟨.arr,0,1,1,λ_=>[u64 a]⟩]) p { s with Jv:=λk=>if k=cls then s.Jv cls++[a] else s.Jv k }:=λhk hw=>by
  refine⟨⟨λl hl hn=>?_,by simp⟩,T.put (d:=.ref (h.length+1) 0 0 1) (h.length+1) ?_ (λj o hj h1 h2=>?_) (.inr ⟨h.length+1,0,0,λ_=>[u64 a],by simp[hw],.inr (by omega),?_,λi hi=>?_⟩) (λj g off n e=>by cases e;rfl) (λk j g off n _ Ju=>by have:=TS k _ _ _ _ Ju;omega) (by omega) (by have:=Qc T.ro;omega)⟩
  ·rw[Qx (by simpa using hl),Qk (λe=>hn (by rw[<- e];exact T.sc))]
  ·rw[Qx (by simpa using QG),Qs QG]
  ·rw[Qx (by simpa using Qc hj),Qk (Q8 h1),hj]
  ·rw[Vr (k:=1) (by simp),hw];rfl
  ·rw[hw]at hi ⊢;simp at hi;subst hi;rfl
 cases hk:ZJ Z4 cls with
 | none=>
  rw[hk]at hp;have fin:=new (.inl hk) hp.nil;refine Q6 Qi 200 func115 rfl ntmps115 results115 rfl λbase w pl hb=>?_;have Qg:=Qc ho;have QG:=Qc hm;simp only[go_sem,Qa,ho,Qg,hm,QG,kJ,kJ.symm,hk];apply Va [] hb [0,1,2,4,5,6,7,8,9,10,11] [3,12,13,14];simp only[go_sem,Qa,ho,Qg,hm,QG,kJ,kJ.symm,hk,Qs,Qk,↓reduceIte];simp only[go_sem]at fin ⊢
  repeat' apply And.intro
  all_goals first|exact fin.1|exact fin.2
 | some d=>
  rw[hk]at hp;rcases hp with ⟨h2,h3⟩|⟨lo,g,off,row,h2,hS,h3,h4⟩
  ·simp only[KA]at h2;subst h2;have fin:=new (.inr hk) h3;refine Q6 Qi 200 func115 rfl ntmps115 results115 rfl λbase w pl hb=>?_;have Qg:=Qc ho;have QG:=Qc hm;simp only[go_sem,Qa,ho,Qg,hm,QG,kJ,kJ.symm,hk];apply Va [] hb [0,1,2,4,5,6,7,8,9,10,11] [3,12,13,14];simp only[go_sem,Qa,ho,Qg,hm,QG,kJ,kJ.symm,hk,Qs,Qk,↓reduceIte];simp only[go_sem]at fin ⊢
   repeat' apply And.intro
   all_goals first|exact fin.1|exact fin.2
  ·simp only[KA]at h2;subst h2;have n1:lo≠p:=λe=>by rw[e,ho]at h3;cases h3
   have n2:lo≠cm:=λe=>by rw[e,hm]at h3;cases h3
   have n3:lo≠rm:=λe=>by rw[e,T.ro]at h3;cases h3
   have wz:(s.Jv cls).length<=4294967295:=by omega
   have h9:(s.Jv cls).length+1<=4294967295:=by omega
   have ZR:=Qc h3;have fin:Step S h ((h.set lo ⟨.arr,g+1,1,(s.Jv cls).length+1,J1 (s.Jv cls).length off row λ_=>[u64 a]⟩).set cm (J2 .i64 c1 Z4 cls (.ref lo (g+1) 0 ((s.Jv cls).length+1)))++[⟨.arr,0,1,1,λ_=>[u64 a]⟩]) /\
     zg (more S h) ((h.set lo ⟨.arr,g+1,1,(s.Jv cls).length+1,J1 (s.Jv cls).length off row λ_=>[u64 a]⟩).set cm (J2 .i64 c1 Z4 cls (.ref lo (g+1) 0 ((s.Jv cls).length+1)))++[⟨.arr,0,1,1,λ_=>[u64 a]⟩]) p { s with Jv:=λk=>if k=cls then s.Jv cls++[a] else s.Jv k }:=by
    refine⟨⟨λl hl hn=>?_,by simp⟩,T.put (d:=.ref lo (g+1) 0 ((s.Jv cls).length+1)) lo ?_ (λj o hj h1 h2=>?_) (.inr ⟨lo,g+1,0,J1 (s.Jv cls).length off row λ_=>[u64 a],by simp,.inl hS,?_,λi hi=>?_⟩) (λj g off n e=>by cases e;rfl) (λk j g' jg n' Qz ZE e=>?_) (Q8 n1) (Q8 n3)⟩
    ·rw[Qx (by simpa using hl),Qk (λe=>hn (by rw[<- e];exact T.sc)),Qk (λe=>hn (by rw[<- e];exact hS))]
    ·rw[Qx (by simpa using QG),Qs (by simpa using QG)]
    ·rw[Qx (by simpa using Qc hj),Qk (Q8 h1),Qk (Q8 h2),hj]
    ·rw[Qx (by simpa using ZR),Qk (Q8 n2),Qs ZR];simp
    ·simp at hi;rw[JV];by_cases XU:i<(s.Jv cls).length
     ·rw[Ad XU,h4 i XU];simp[XU,JD XU]
     ·have:i=(s.Jv cls).length:=by omega
      subst this;rw[vL (QB _)];simp
    ·subst e;exact Qz (T.sep _ _ _ _ _ _ _ _ _ ZE hk)
   refine Q6 Qi 200 func115 rfl ntmps115 results115 rfl λbase w pl hb=>?_;have Qg:=Qc ho;have QG:=Qc hm;have ZR:=Qc h3;simp only[go_sem,Qa,ho,Qg,hm,QG,h3,ZR,kJ,kJ.symm,hk,n1,n2,n1.symm,n2.symm];apply Va [] hb [0,1,2,4,5,6,7,8,9,10,11] [3,12,13,14];simp only[go_sem,Qa,ho,Qg,hm,QG,kJ,kJ.symm,hk,Qs,Qk,h3,ZR,n1,n2,n1.symm,n2.symm,↓reduceIte,wz,h9];simp only[go_sem]at fin ⊢
   repeat' apply And.intro
   all_goals first|exact fin.1|exact fin.2
def Hj.row{S}{h h'}{p cm rm c1}{Z4}{c2}{Je}{s}(T:Hj S h p cm rm c1 Z4 c2 Je s){cls}{r}
  (hr:h'[rm]? = some (J2 .i64 c2 Je cls (.agg r.cells))) (ho:∀j o,h[j]? = some o->j≠rm->h'[j]? = some o) :
  ∃c2' GI,Hj S h' p cm rm c1 Z4 c2' GI { s with rows:=λk=>if k=cls then r else s.rows k }:=by
 obtain⟨c',es',h3,h4⟩:=rO .i64 c2 Je cls (.agg r.cells);have Fx:p≠rm:=λe=>by have:=T.o;rw[e,T.ro]at this;cases this
 refine⟨c',es',ho _ _ T.o Fx,ho _ _ T.co T.ne,by rw[hr,h3],T.ne,T.sp,T.sc,T.sr,λk=>?_,T.sep,λk=>?_⟩
 ·rcases T.ca k with h1|⟨j,g,off,row,h1,h2,h5,h6⟩
  ·exact .inl h1
  ·refine .inr ⟨j,g,off,row,h1,h2,ho j _ h5 (λe=>?_),h6⟩;rw[e,T.ro]at h5;cases h5
 ·rw[h4 k];dsimp only;by_cases hk:k=cls
  ·rw[Qf hk,Qf hk];rfl
  ·rw[Qd hk,Qd hk];exact T.rw_ k
def z7.QEu{a b:z7}(h:a.cells=b.cells):a=b:=by
 obtain⟨a1,a2,a3,a4,a5⟩:=a;obtain⟨b1,b2,b3,b4,b5⟩:=b;simp only[z7.cells,u64,Mh,D.raw.injEq,Value.int.injEq,Bd,and_true]at h;obtain⟨h1,h2,h3,h4,h5⟩:=h;congr 1<;>omega
def SD(a b:Nat):IntKind.u64.wrap ((a:Int)+(b:Int))=(((a+b) % 18446744073709551616:Nat):Int):=by
 rw[IntKind.wrap_u64];omega
def QEv{S}{h}{p}{s}(T:zg S h p s)(cls){done}(hd:done<18446744073709551616){bytes}(KL:1<=bytes)(Jb:bytes<=16384)(real):
  QK prog 167 h [.ptr p 0 0 0,Qb cls,u64 done,Qb bytes,QJ real] (λd h'=>Step S h h'/\zg (more S h) h' p (qC s cls done bytes real)):=by
 obtain⟨cm,rm,c1,Z4,c2,Je,T⟩:=T;have ho:=T.o;have hm:=T.co;have hr:=T.ro;have Qz:=T.ne;have Qg:=Qc ho;have QG:=Qc hm;have Vg:=Qc hr;have hp:=T.ca cls;have kJ:p≠cm:=λe=>by rw[e,hm]at ho;cases ho
 have Fx:p≠rm:=λe=>by rw[e,hr]at ho;cases ho
 have same:∀g:List Ob,qC s cls done bytes real=s->Step S h (h++g)/\zg (more S h) (h++g) p (qC s cls done bytes real):=λg e=>by
  rw[e];exact⟨Step.app S h g,zg.step (λj hj h1=>⟨.inl h1,Qx hj⟩) ⟨cm,rm,c1,Z4,c2,Je,T⟩⟩
 have oD:qC s cls done bytes real=s->Step S h h/\zg (more S h) h p (qC s cls done bytes real):=λe=>by
  have:=same [] e;rwa [QU]at this
 obtain⟨r,Bf⟩:∃r,r=s.rows cls:=⟨_,rfl⟩;have ZH:=T.rw_ cls;rw[<- Bf]at ZH;cases hk:ZJ Z4 cls with
 | none=>
  rw[hk]at hp;have h0:=hp.nil;have fin:=oD (by unfold qC;rw[h0]);refine Q6 Qi 200 func167 rfl ntmps167 results167 rfl λbase w pl hb=>?_;have Qg:=Qc ho;have QG:=Qc hm;simp only[go_sem,Qa,ho,Qg,hm,QG,hk];exact fin
 | some d=>
  rw[hk]at hp;rcases hp with ⟨h2,h3⟩|⟨lo,g,off,row,h2,hS,h3,h4⟩
  ·simp only[KA]at h2;subst h2;have fin:=oD (by unfold qC;rw[h3]);refine Q6 Qi 200 func167 rfl ntmps167 results167 rfl λbase w pl hb=>?_;have Qg:=Qc ho;have QG:=Qc hm;simp only[go_sem,Qa,ho,Qg,hm,QG,hk];exact fin
  ·simp only[KA]at h2;subst h2;have ZR:=Qc h3;cases hc:s.Jv cls with
   | nil=>
    have fin:=oD (by unfold qC;rw[hc]);rw[hc]at hk;refine Q6 Qi 200 func167 rfl ntmps167 results167 rfl λbase w pl hb=>?_;have Qg:=Qc ho;have QG:=Qc hm;simp only[go_sem,Qa,ho,Qg,hm,QG,hk];exact fin
   | cons a l=>
    rw[hc]at hk h3 h4;have ha:=h4 0 (by simp);simp only[go_sem,FM,List.getD_cons_zero]at ha;have d1:decide (bytes<1)=false:=QN (by omega);have d0:(((l.length+1:Nat):Int)==0)=false:=by simp;omega
    have g1:(0:Int)<((l.length+1:Nat):Int):=by omega
    have g2:off<off+(l.length+1):=by omega
    have n1:lo≠p:=λe=>by rw[e,ho]at h3;cases h3
    have n2:lo≠cm:=λe=>by rw[e,hm]at h3;cases h3
    have n3:rm≠lo:=λe=>by rw[<- e,hr]at h3;cases h3
    have TS:∀k j g off n,ZJ Z4 k=some (.ref j g off n)->j<h.length:=λk j g off n hk=>by
     rcases T.ca k with ⟨h1,_⟩|⟨j',_,_,_,h1,_,h3,_⟩
     ·rw[hk]at h1;cases h1
     ·rw[hk]at h1;cases h1;exact Qc h3
    have QbB:∀(R2:z7) (o:Ob),qC s cls done bytes real=⟨λk=>if k=cls then l else s.Jv k,λk=>if k=cls then R2 else s.rows k⟩ ->
      Step S h ((h.set rm (J2 .i64 c2 Je cls (.agg R2.cells))).set cm (J2 .i64 c1 Z4 cls (.ref lo g (off+1) l.length))++[o])/\zg (more S h) ((h.set rm (J2 .i64 c2 Je cls (.agg R2.cells))).set cm (J2 .i64 c1 Z4 cls (.ref lo g (off+1) l.length))++[o]) p (qC s cls done bytes real):=λR2 o e=>by
     rw[e];obtain⟨c2',GI,T1⟩:=T.row (h':=h.set rm (J2 .i64 c2 Je cls (.agg R2.cells))) (r:=R2) (cls:=cls) (Qs Vg) (λj o hj h1=>by rw[Qk (Q8 h1)];exact hj);have hlen:(h.set rm (J2 .i64 c2 Je cls (.agg R2.cells))).length=h.length:=by simp
     have aR:more S (h.set rm (J2 .i64 c2 Je cls (.agg R2.cells)))=more S h:=by unfold more;rw[hlen]
     refine⟨⟨λj hj hn=>?_,by simp⟩,?_⟩
     ·rw[Qx (by simpa using hj),Qk (λe=>hn (by rw[<- e];exact T.sc)),Qk (λe=>hn (by rw[<- e];exact T.sr))]
     ·rw[<- aR];refine T1.put (d:=.ref lo g (off+1) l.length) lo ?_ (λj o hj h1 h2=>?_) (.inr ⟨lo,g,off+1,row,rfl,.inl hS,?_,λi hi=>?_⟩) (λj g off n e=>by cases e;rfl) (λk j g' jg n' Qz ZE e=>?_) (Q8 n1) n3
      ·rw[Qx (by simpa using QG),Qs (by simpa using QG)]
      ·rw[Qx (by have:=Qc hj;simpa using this),Qk (Q8 h1),hj]
      ·rw[Qx (by simpa using ZR),Qk (Q8 n2),Qk n3,h3];simp only[Vh,Za,Ob.mk.injEq,Bd,and_true];omega
      ·rw[show off+1+i=off+(i+1) by omega,h4 (i+1) (by simpa using hi)];simp
      ·subst e;exact Qz (T.sep _ _ _ _ _ _ _ _ _ ZE hk)
    by_cases h5:done<a
    ·have d2:=Q5 h5;have fin:=oD (by unfold qC;rw[hc];dsimp only;rw[Qd (by omega),Qf h5]);refine Q6 Qi 200 func167 rfl ntmps167 results167 rfl λbase w pl hb=>?_;have Qg:=Qc ho;have QG:=Qc hm;have ZR:=Qc h3;simp only[go_sem,Qa,ho,Qg,hm,QG,h3,ZR,hk,d0,d1,d2,ha];exact⟨g1,g2,fin⟩
    ·have d2:=QN h5;have e0:qC s cls done bytes real=⟨λk=>if k=cls then l else s.Jv k,λk=>if k=cls then AU r a done bytes real else s.rows k⟩:=by
      unfold qC;rw[hc];dsimp only;rw[Qd (by omega),Qd h5];congr 1;funext k;by_cases jW:k=cls
      ·rw[Qf jW,Qf jW,jW,<- Bf]
      ·rw[Qd jW,Qd jW]
     have fin:∀(o:Ob) (R2:z7),R2=AU r a done bytes real->∀n,n=l.length->Step S h ((h.set rm (J2 .i64 c2 Je cls (.agg R2.cells))).set cm (J2 .i64 c1 Z4 cls (.ref lo g (off+1) n))++[o])/\zg (more S h) ((h.set rm (J2 .i64 c2 Je cls (.agg R2.cells))).set cm (J2 .i64 c1 Z4 cls (.ref lo g (off+1) n))++[o]) p (qC s cls done bytes real):=λo R2 Hb n hn=>by
      subst hn;exact QbB R2 o (by rw[e0,Hb])
     have w1:IntKind.u64.wrap ((r.p:Int)+1)=(((r.p+1) % 18446744073709551616:Nat):Int):=SD r.p 1;have w2:IntKind.u64.wrap bytes=((bytes.toNat:Nat):Int):=by rw[IntKind.wrap_u64];omega
     have w3:=SD r.b bytes.toNat
     have w4:IntKind.u64.wrap ((r.r:Int)+1)=(((r.r+1) % 18446744073709551616:Nat):Int):=SD r.r 1;have w5:IntKind.u64.wrap ((done:Int) - (a:Int))=((done - a:Nat):Int):=by rw[IntKind.wrap_u64];omega
     have w6:=SD r.w (done - a);have w7:max ((r.l:Nat):Int) ((done - a:Nat):Int)=((max r.l (done - a):Nat):Int):=by omega
     have w8:(((l.length+1:Nat):Int) - 1).toNat=l.length:=by omega
     have Ju:(ZJ Je cls=some (.agg r.cells))\/(ZJ Je cls=none/\r=default):=by
      cases hh:ZJ Je cls with
      | some d=>rw[hh]at ZH;exact .inl (congrArg some ZH)
      | none=>
       rw[hh]at ZH;have ZH:D.agg (default:z7).cells=D.agg r.cells:=ZH;exact .inr ⟨rfl,(z7.QEu (D.agg.inj ZH)).symm⟩
     rcases Ju with Ju|⟨Ju,Xx⟩
     ·refine Q6 Qi 200 func167 rfl ntmps167 results167 rfl λbase w pl hb=>?_;have Qg:=Qc ho;have QG:=Qc hm;have ZR:=Qc h3;have Vg:=Qc hr;simp only[go_sem,Qa,ho,Qg,hm,QG,h3,ZR,hr,Vg,hk,d0,d1,d2,ha,Ju,w1,w2,w3];cases real with
      | true=>
       have AP:=fin ⟨.one,0,5,1,λ_=>(AU r a done bytes true).cells⟩ _ rfl _ w8;simp only[go_sem,AU,↓reduceIte,w8,qa]at AP;simp only[go_sem,Qa,w4];repeat (refine And.intro (by first|exact g1|exact g2|omega) ?_)
       apply QH hb [0,1,2,3,4,5,6,7,8,1009];simp only[go_sem,Qa,ho,Qg,h3,ZR,ha,w5,w6];repeat (refine And.intro (by first|exact g1|exact g2|omega) ?_)
       apply QH hb [0,1,2,3,4,5,6,7,8,1009];simp only[go_sem,Qa,ho,Qg,h3,ZR,ha,w5,w7];repeat (refine And.intro (by first|exact g1|exact g2|omega) ?_)
       apply QH hb [0,1,2,3,4,5,1006];simp only[go_sem,Qa,ho,Qg,h3,ZR,hr,Vg,Qk];repeat (refine And.intro (by first|exact g1|exact g2|omega) ?_)
       apply QH hb [0,1,2,3,4,5,6,1007];simp only[go_sem,Qa,ho,Qg,h3,ZR,hm,QG,Vg,Qk Fx.symm,Qk Qz.symm,Qk n3];repeat (refine And.intro (by first|exact g1|exact g2|omega) ?_)
       simp only[go_sem,w8,Qk n3,h3,OS];exact AP
      | false=>
       have AP:=fin ⟨.one,0,5,1,λ_=>(AU r a done bytes false).cells⟩ _ rfl _ w8;simp only[go_sem,AU,↓reduceIte,w8,qa]at AP;simp only[go_sem,Qa];repeat (refine And.intro (by first|exact g1|exact g2|omega) ?_)
       apply QH hb [0,1,2,3,4,5,6,7,8,1009];simp only[go_sem,Qa,ho,Qg,h3,ZR,ha,w5,w6];repeat (refine And.intro (by first|exact g1|exact g2|omega) ?_)
       apply QH hb [0,1,2,3,4,5,6,7,8,1009];simp only[go_sem,Qa,ho,Qg,h3,ZR,ha,w5,w7];repeat (refine And.intro (by first|exact g1|exact g2|omega) ?_)
       apply QH hb [0,1,2,3,4,5,1006];simp only[go_sem,Qa,ho,Qg,h3,ZR,hr,Vg,Qk];repeat (refine And.intro (by first|exact g1|exact g2|omega) ?_)
       apply QH hb [0,1,2,3,4,5,6,1007];simp only[go_sem,Qa,ho,Qg,h3,ZR,hm,QG,Vg,Qk Fx.symm,Qk Qz.symm,Qk n3];repeat (refine And.intro (by first|exact g1|exact g2|omega) ?_)
       simp only[go_sem,w8,Qk n3,h3,OS];exact AP
     ·have Xx:r=⟨0,0,0,0,0⟩:=Xx;subst Xx;have v1:IntKind.u64.wrap 1=1:=rfl;have v3:IntKind.u64.wrap (0+((bytes.toNat:Nat):Int))=(((0+bytes.toNat) % 18446744073709551616:Nat):Int):=SD 0 bytes.toNat
      have v6:IntKind.u64.wrap (0+((done - a:Nat):Int))=(((0+(done - a)) % 18446744073709551616:Nat):Int):=SD 0 (done - a);have v7:max (0:Int) ((done - a:Nat):Int)=((max 0 (done - a):Nat):Int):=by omega
      refine Q6 Qi 200 func167 rfl ntmps167 results167 rfl λbase w pl hb=>?_;have Qg:=Qc ho;have QG:=Qc hm;have ZR:=Qc h3;have Vg:=Qc hr;simp only[go_sem,Qa,ho,Qg,hm,QG,h3,ZR,hr,Vg,hk,d0,d1,d2,ha,Ju,w2,v1,v3];cases real with
      | true=>
       have AP:=fin ⟨.one,0,5,1,λ_=>(AU ⟨0,0,0,0,0⟩ a done bytes true).cells⟩ _ rfl _ w8;simp only[go_sem,AU,↓reduceIte,w8,qa]at AP;simp only[go_sem,Qa,v1];repeat (refine And.intro (by first|exact g1|exact g2|omega) ?_)
       apply QH hb [0,1,2,3,4,5,6,7,8,1009];simp only[go_sem,Qa,ho,Qg,h3,ZR,ha,w5,v6];repeat (refine And.intro (by first|exact g1|exact g2|omega) ?_)
       apply QH hb [0,1,2,3,4,5,6,7,8,1009];simp only[go_sem,Qa,ho,Qg,h3,ZR,ha,w5,v7];repeat (refine And.intro (by first|exact g1|exact g2|omega) ?_)
       apply QH hb [0,1,2,3,4,5,1006];simp only[go_sem,Qa,ho,Qg,h3,ZR,hr,Vg,Qk];repeat (refine And.intro (by first|exact g1|exact g2|omega) ?_)
       apply QH hb [0,1,2,3,4,5,6,1007];simp only[go_sem,Qa,ho,Qg,h3,ZR,hm,QG,Vg,Qk Fx.symm,Qk Qz.symm,Qk n3];repeat (refine And.intro (by first|exact g1|exact g2|omega) ?_)
       simp only[go_sem,w8,Qk n3,h3,OS];exact AP
      | false=>
       have AP:=fin ⟨.one,0,5,1,λ_=>(AU ⟨0,0,0,0,0⟩ a done bytes false).cells⟩ _ rfl _ w8;simp only[go_sem,AU,↓reduceIte,w8,qa]at AP;simp only[go_sem,Qa];repeat (refine And.intro (by first|exact g1|exact g2|omega) ?_)
       apply QH hb [0,1,2,3,4,5,6,7,8,1009];simp only[go_sem,Qa,ho,Qg,h3,ZR,ha,w5,v6];repeat (refine And.intro (by first|exact g1|exact g2|omega) ?_)
       apply QH hb [0,1,2,3,4,5,6,7,8,1009];simp only[go_sem,Qa,ho,Qg,h3,ZR,ha,w5,v7];repeat (refine And.intro (by first|exact g1|exact g2|omega) ?_)
       apply QH hb [0,1,2,3,4,5,1006];simp only[go_sem,Qa,ho,Qg,h3,ZR,hr,Vg,Qk];repeat (refine And.intro (by first|exact g1|exact g2|omega) ?_)
       apply QH hb [0,1,2,3,4,5,6,1007];simp only[go_sem,Qa,ho,Qg,h3,ZR,hm,QG,Vg,Qk Fx.symm,Qk Qz.symm,Qk n3];repeat (refine And.intro (by first|exact g1|exact g2|omega) ?_)
       simp only[go_sem,w8,Qk n3,h3,OS];exact AP
@[go_sem] def QMt(k:List Int):List D:=k.map λn=>.raw (.int .u16 n)
def QmZ:Q4 prog 103 [] (Qn (.agg [.raw (.int .u16 65535),.raw (.int .u16 65535),.raw (.int .u16 65535),.raw (.int .u16 65535)])):=by
 refine ZA 0 Qi 200 func103 rfl ntmps103 results103 rfl λbase w hb=>?_;simp only[go_sem]
def Qm0(a0 a1 a2 a3 b0 b1 b2 b3):Q4 prog 102 [.agg [.raw (.int .u16 a0),.raw (.int .u16 a1),.raw (.int .u16 a2),.raw (.int .u16 a3)],.agg [.raw (.int .u16 b0),.raw (.int .u16 b1),.raw (.int .u16 b2),.raw (.int .u16 b3)]]
  (Qn (.agg [.raw (.int .u16 (xO a0 b0)),.raw (.int .u16 (xO a1 b1)),.raw (.int .u16 (xO a2 b2)),.raw (.int .u16 (xO a3 b3))])):=by
 refine ZA 0 Qi 200 func102 rfl ntmps102 results102 rfl λbase w hb=>?_;simp only[go_sem];have w1:IntKind.i64.wrap 1=1:=rfl;have w2:IntKind.i64.wrap 2=2:=rfl;have w3:IntKind.i64.wrap 3=3:=rfl;have w4:IntKind.i64.wrap 4=4:=rfl;refine xu 4 ?_;apply QC hb;apply QH hb [0,1,2,3,4,5,6,7,1008];simp only[go_sem];refine Qe hb ?_;simp only[go_sem,Qa,w1];apply QH hb [0,1,2,3,4,5,6,7,1008];simp only[go_sem];refine Qe hb ?_;simp only[go_sem,Qa,w2];apply QH hb [0,1,2,3,4,5,6,7,1008];simp only[go_sem];refine Qe hb ?_;simp only[go_sem,Qa,w3];apply QH hb [0,1,2,3,4,5,6,7,1008];simp only[go_sem];refine Qe hb ?_;simp only[go_sem,Qa,w4];refine Qe hb ?_;simp only[go_sem,Qa,w4];rfl
theorem QEw(r:JU)(x:Pk):jE r (Zy x)=(xO x.yo r.BG==r.Nh&&(xO x.yp r.BH==r.Ni&&(xO x.yq r.Gq==r.Nj&&(xO x.yr r.EN==r.Gr&&true)))):=rfl
@[go_sem] def oF(x:Pk):List D:=[.raw (.int .u16 x.yo),.raw (.int .u16 x.yp),.raw (.int .u16 x.yq),.raw (.int .u16 x.yr)]
def Qm1(r:JU)(x):Q4 prog 161 [.agg r.cells,.agg (oF x)] (Qn (QJ (jE r (Zy x)))):=by
 rw[QEw];refine ZA 0 Qi 200 func161 rfl ntmps161 results161 rfl λbase w hb=>?_;simp only[go_sem];apply QH hb [0,1,2,4,5,1003,6,7];simp only[go_sem];refine VX hb sY (Qm0 x.yo x.yp x.yq x.yr r.BG r.BH r.Gq r.EN) (Qn.flat rfl) λd h hR=>?_;obtain⟨rfl,rfl⟩:=hR;exact Ro hb
structure Qm2 (h:List Ob) (p:Nat) (dr:D) (le:Nat) (dm:D) (c:Nat) (es:List X7) (ms:List Nat) (R:List JU):Prop where
 o:(h.map Ob.ro)[p]? = some (Ol dr le dm).ro
 eo:(h.map Ob.ro)[le]? = some (xj c es).ro
 rs:(dr=.nil/\R=[])\/∃lo g row,dr=.ref lo g 0 R.length/\(h.map Ob.ro)[lo]? = some ⟨.Be,g,9,R.length,row⟩/\∀i,i<R.length->row i=(R.getD i default).cells
 mo:(dm=.nil/\ms=[])\/∃lo g row,dm=.ref lo g 0 ms.length/\(h.map Ob.ro)[lo]? = some ⟨.Be,g,1,ms.length,row⟩/\∀i,i<ms.length->row i=[Qb ((ms.getD i 0:Nat):Int)]
 I:qG R R.length es ms
 ok:qE R=0
def QcH.toR{S}{h}{p}{dr}{le}{dm}{c}{es}{ms}{R}(T:QcH S h p dr le dm c es ms R):Qm2 h p dr le dm c es ms R:=
 ⟨Z3 T.o,Z3 T.eo,T.rs.imp id λ⟨lo,g,row,h1,_,h3,h4⟩=>⟨lo,g,row,h1,Z3 h3,h4⟩,T.mo.imp id λ⟨lo,g,row,h1,_,h3,h4⟩=>⟨lo,g,row,h1,Z3 h3,h4⟩,T.I,T.ok⟩
def QcJ{R}(h:qE R=0):∀r∈R,1<=r.cls:=λr hr=>by
 unfold qE at h;split at h
 ·cases h
 ·split at h
  ·rename_i h2;have:=X6.1 h2 r hr;unfold AV at this;simp only[Z9,XM]at this;exact this.1.1
  ·cases h
def inc_le:∀(ms:List Nat) (n b:Nat),ms.Pairwise (·<·)->(∀j∈ms,b<=j/\j<n)->ms.length<=n - b
 | [],n,b,_,_=>Z7 _
 | a::ms,n,b,hi,h=>by
  rw[Ct]at hi;have h1:=h a (by simp);have:=inc_le ms n (a+1) hi.2 λj hj=>⟨hi.1 j hj,(h j (by simp[hj])).2⟩;simp only[Vh];omega
def QEx{h}{p}{dr}{le}{dm}{c}{es}{ms}{R}(T:Qm2 h p dr le dm c es ms R)(x)(hx:cu x):
  QV prog 113 h [.ptr p 0 0 0,.agg (oF x)] (λd=>d=.tup [Qb (Jj R (Zy x)),Qb (if Jj R (Zy x)=0 then 31 else 0)]):=by
 have ho:=T.o;have he:=T.eo;have h4:=T.I.four;obtain⟨q,hq⟩:∃q,q=XA es (Zy x):=⟨_,rfl⟩;have Fy:=hq;simp only[Zy]at Fy;have ms0:∀j,j<ms.length->ms.getD j 0∈ms:=λj hj=>WI ms 0 j hj;have cz:∀i∈ms,∃j,j<ms.length/\ms.getD j 0=i:=λi hi=>by
  obtain⟨j,hj,e⟩:=y9 hi;exact⟨j,hj,by rw[Ze,QW hj];exact e⟩
 have Bp:ms.length<=32:=by
  have h1:=inc_le ms R.length 0 T.I.inc λj hj=>⟨Z7 j,((T.I.mem j).1 hj).1⟩;have h2:R.length<=32:=by
   have:=T.ok;unfold qE at this;split at this
   ·cases this
   ·omega
  omega
 have QEy:∀j k,j<k->k<ms.length->ms.getD j 0<ms.getD k 0:=λj k V7 hk=>by
  have:=List.pairwise_iff_getElem.1 T.I.inc j k (by omega) hk V7;rw[Ze,Ze,QW hk,QW (show j<ms.length by omega)];exact this
 have QcK:∀j k,j<ms.length->ms.getD j 0<ms.getD k 0->j<k:=λj k hj h=>jM λhc=>by
  rcases Nat.lt_or_eq_of_le (Nat.le_of_not_lt hc) with h2|h2
  ·have:=QEy k j h2 hj;omega
  ·rw[h2]at h;omega
 cases q with
 | none=>
  have out:(∀j∈ms,jE (JZ R j) (Zy x)=false)->Jj R (Zy x)=0:=λJy=>by
   unfold Jj;rw[T.I.none hx hq.symm Jy]
  rcases T.mo with ⟨rfl,rfl⟩|⟨lm,gm,QcL,rfl,hm,zN⟩
  ·rw[out (λj hj=>by cases hj),Qf rfl];refine Zq Qi 200 func113 rfl ntmps113 results113 rfl λbase w pl F hF Q3 hb=>?_;rw[<- hF]at ho he;have Qg:=Qc ho;have ZZ:=Qc he;simp only[go_sem,Qa,ho,Qg,he,ZZ];apply QH hb [0,1,2,3,4,5,6,7,8,9,10];simp only[go_sem,Qa,ho,Qg,he,ZZ,<- Fy];refine⟨h4,?_⟩;refine xu 0 ?_;apply QC hb;apply QC hb;all_goals first|exact⟨_,rfl,rfl⟩|exact⟨_,rfl⟩|rfl|exact⟨[],(QU _).symm⟩|exact⟨[],(QU _).symm,rfl⟩
  ·refine Zq Qi 200 func113 rfl ntmps113 results113 rfl λbase w pl F hF Q3 hb=>?_;rw[<- hF]at ho he hm;have Qg:=Qc ho;have ZZ:=Qc he;have QG:=Qc hm;simp only[go_sem,Qa,ho,Qg,he,ZZ,hm,QG];apply QH hb [0,1,2,3,4,5,6,7,8,9,10];simp only[go_sem,Qa,ho,Qg,he,ZZ,<- Fy];refine⟨h4,?_⟩;refine Jg (λk s=>(∀j,j<k->jE (JZ R (ms.getD j 0)) (Zy x)=false)/\s=⟨[(0,.ptr p 0 0 0),(3,.ptr F.length 0 0 0),(6,Qb 0),(7,QJ false),(24,.ref lm gm 0 ms.length),(25,Qb ms.length),(26,Qb k)],F++[(⟨.one,0,4,1,λ_=>oF x⟩:Ob)]⟩) ms.length QQ ⟨λj hj=>absurd hj (Vw j),rfl⟩ ?_;rintro k _ hk ⟨Jy,rfl⟩;by_cases Qj:k<ms.length
   ·have dk:=Q5 Qj;have QT:=JX (show k<4611686018427387904 by omega);obtain⟨i,hi⟩:∃i,i=ms.getD k 0:=⟨_,rfl⟩;have Nw:=ms0 k Qj;rw[<- hi]at Nw;obtain⟨zj,hiw⟩:=(T.I.mem i).1 Nw;have yw:=zN k Qj;rw[<- hi]at yw;rcases T.rs with ⟨h1,h2⟩|⟨lr,gr,oG,rfl,hr,Bf⟩
    ·rw[h2]at zj;simp at zj
    rw[<- hF]at hr;have Vg:=Qc hr;have zR:oG i=(JZ R i).cells:=Bf i zj;obtain⟨r,Xx⟩:∃r,r=JZ R i:=⟨_,rfl⟩;rw[<- Xx]at zR;have M:=Qm1 r x;simp only[go_sem]at zR yw;cases E8:jE r (Zy x) with
    | false=>
     rw[E8]at M;refine Qe hb ?_;simp only[go_sem,Qa,dk,Qj,hm,QG,yw,Go.undef];apply QH hb [0,1,2,3,4,5,6,7,1008];simp only[go_sem,Qa,ho,Qg,hr,Vg,zR,zj];refine Vj hb iY rfl ?_ M (Qn.flat rfl) rfl λd h hR=>?_
     ·simp only[go_sem,Qa,ho,Qg,hr,Vg,zR,zj]
     obtain⟨rfl,rfl⟩:=hR;refine Zr hb ?_;simp only[go_sem,Qa,ho,Qg,hr,Vg,zR,zj];repeat (refine And.intro (by first|assumption|omega) ?_)
     refine⟨_,Qp.frame (fr':=[(0,.ptr p 0 0 0),(3,.ptr F.length 0 0 0),(6,Qb 0),(7,QJ false),(24,.ref lm gm 0 ms.length),(25,Qb ms.length),(26,Qb (k+1:Nat))]) (by simp only[go_sem,QT]),λj hj=>?_,rfl⟩;rcases qc.1 hj with h5|rfl
     ·exact Jy j h5
     ·rw[<- hi,<- Xx];exact E8
    | true=>
     rw[E8]at M;have e0:Jj R (Zy x)=r.cls:=by
      unfold Jj;rw[T.I.Xh hx zj hiw (by rw[<- Xx];exact E8) (λj hj xl=>?_) (λa' We=>?_),<- Xx]
      ·obtain⟨j2,e1,e2⟩:=cz j hj;rw[<- e2];exact Jy j2 (QcK j2 k e1 (by omega))
      ·rw[<- hq]at We;cases We
     have Ep:=QcJ T.ok r (by rw[Xx];exact WI R default i zj);rw[e0,Qd (by omega)];refine Qe hb ?_;simp only[go_sem,Qa,dk,Qj,hm,QG,yw,Go.undef];apply QH hb [0,1,2,3,4,5,6,7,1008];simp only[go_sem,Qa,ho,Qg,hr,Vg,zR,zj];refine Vj hb iY rfl ?_ M (Qn.flat rfl) rfl λd h hR=>?_
     ·simp only[go_sem,Qa,ho,Qg,hr,Vg,zR,zj]
     obtain⟨rfl,rfl⟩:=hR;refine Zr hb ?_;simp only[go_sem,Qa,ho,Qg,hr,Vg,zR,zj];all_goals first|exact⟨_,rfl,rfl⟩|exact⟨_,rfl⟩|rfl|exact⟨[],(QU _).symm⟩|exact⟨[],(QU _).symm,rfl⟩
   ·have Ju:k=ms.length:=by omega
    have dk:=QN Qj;subst Ju;have KS:∀j∈ms,jE (JZ R j) (Zy x)=false:=λj hj=>by
     obtain⟨j2,e1,e2⟩:=cz j hj;rw[<- e2];exact Jy j2 e1
    rw[out KS,Qf rfl];refine Qe hb ?_;simp only[go_sem,Qa,dk];apply QC hb;all_goals first|exact⟨_,rfl,rfl⟩|exact⟨_,rfl⟩|rfl|exact⟨[],(QU _).symm⟩|exact⟨[],(QU _).symm,rfl⟩
 | some d=>
  obtain⟨a,rfl,LK,Px,aW,han⟩:=T.I.yes _ _ hq.symm;rcases T.rs with ⟨h1,h2⟩|⟨lr,gr,oG,rfl,hr,Bf⟩
  ·rw[h2]at LK;simp at LK
  have SE:oG a=(JZ R a).cells:=Bf a LK;obtain⟨ra,QcN⟩:∃r,r=JZ R a:=⟨_,rfl⟩;rw[<- QcN]at SE;have oH:=QcJ T.ok ra (by rw[QcN];exact WI R default a LK);have out:(∀j∈ms,j<a->jE (JZ R j) (Zy x)=false)->Jj R (Zy x)=ra.cls:=λJy=>by
   unfold Jj;rw[(T.I.whole hx hq.symm Jy).2,<- QcN]
  simp only[go_sem]at SE;rcases T.mo with ⟨rfl,rfl⟩|⟨lm,gm,QcL,rfl,hm,zN⟩
  ·rw[out (λj hj=>by cases hj),Qd (by omega)];refine Zq Qi 200 func113 rfl ntmps113 results113 rfl λbase w pl F hF Q3 hb=>?_;rw[<- hF]at ho he hr;have Qg:=Qc ho;have ZZ:=Qc he;have Vg:=Qc hr;simp only[go_sem,Qa,ho,Qg,he,ZZ,hr,Vg];apply QH hb [0,1,2,3,4,5,6,7,8,9,10];simp only[go_sem,Qa,ho,Qg,he,ZZ,<- Fy];refine⟨h4,?_⟩;refine xu 0 ?_;refine Qe hb ?_;simp only[go_sem,Qa,ho,Qg,hr,Vg,SE,LK];refine Qe hb ?_;simp only[go_sem,Qa,ho,Qg,hr,Vg,SE,LK];all_goals first|exact⟨_,rfl,rfl⟩|exact⟨_,rfl⟩|rfl|exact⟨[],(QU _).symm⟩|exact⟨[],(QU _).symm,rfl⟩
  ·refine Zq Qi 200 func113 rfl ntmps113 results113 rfl λbase w pl F hF Q3 hb=>?_;rw[<- hF]at ho he hr hm;have Qg:=Qc ho;have ZZ:=Qc he;have Vg:=Qc hr;have QG:=Qc hm;simp only[go_sem,Qa,ho,Qg,he,ZZ,hr,Vg,hm,QG];apply QH hb [0,1,2,3,4,5,6,7,8,9,10];simp only[go_sem,Qa,ho,Qg,he,ZZ,<- Fy];refine⟨h4,?_⟩;refine Jg (λk s=>(∀j,j<k->jE (JZ R (ms.getD j 0)) (Zy x)=false)/\s=⟨[(0,.ptr p 0 0 0),(3,.ptr F.length 0 0 0),(6,Qb a),(7,QJ true),(24,.ref lm gm 0 ms.length),(25,Qb ms.length),(26,Qb k)],F++[(⟨.one,0,4,1,λ_=>oF x⟩:Ob)]⟩) ms.length QQ ⟨λj hj=>absurd hj (Vw j),rfl⟩ ?_;rintro k _ hk ⟨Jy,rfl⟩;by_cases Qj:k<ms.length
   ·have dk:=Q5 Qj;have QT:=JX (show k<4611686018427387904 by omega);obtain⟨i,hi⟩:∃i,i=ms.getD k 0:=⟨_,rfl⟩;have Nw:=ms0 k Qj;rw[<- hi]at Nw;obtain⟨zj,hiw⟩:=(T.I.mem i).1 Nw;have yw:=zN k Qj;rw[<- hi]at yw;have zR:oG i=(JZ R i).cells:=Bf i zj;obtain⟨r,Xx⟩:∃r,r=JZ R i:=⟨_,rfl⟩;rw[<- Xx]at zR;have M:=Qm1 r x;simp only[go_sem]at zR yw;by_cases RJ:a<i
    ·have da:=Q5 RJ;rw[out (λj hj hja=>by
      obtain⟨j2,e1,e2⟩:=cz j hj;rw[<- e2];exact Jy j2 (QcK j2 k e1 (by omega))),Qd (by omega)]
     refine Qe hb ?_;simp only[go_sem,Qa,dk,Qj,hm,QG,yw,da];refine Qe hb ?_;simp only[go_sem,Qa,ho,Qg,hr,Vg,SE,LK];all_goals first|exact⟨_,rfl,rfl⟩|exact⟨_,rfl⟩|rfl|exact⟨[],(QU _).symm⟩|exact⟨[],(QU _).symm,rfl⟩
    ·have da:=QN RJ;cases E8:jE r (Zy x) with
     | false=>
      rw[E8]at M;refine Qe hb ?_;simp only[go_sem,Qa,dk,Qj,hm,QG,yw,da];apply QH hb [0,1,2,3,4,5,6,7,1008];simp only[go_sem,Qa,ho,Qg,hr,Vg,zR,zj];refine Vj hb iY rfl ?_ M (Qn.flat rfl) rfl λd h hR=>?_
      ·simp only[go_sem,Qa,ho,Qg,hr,Vg,zR,zj]
      obtain⟨rfl,rfl⟩:=hR;refine Zr hb ?_;simp only[go_sem,Qa,ho,Qg,hr,Vg,zR,zj];repeat (refine And.intro (by first|assumption|omega) ?_)
      refine⟨_,Qp.frame (fr':=[(0,.ptr p 0 0 0),(3,.ptr F.length 0 0 0),(6,Qb a),(7,QJ true),(24,.ref lm gm 0 ms.length),(25,Qb ms.length),(26,Qb (k+1:Nat))]) (by simp only[go_sem,QT]),λj hj=>?_,rfl⟩;rcases qc.1 hj with h5|rfl
      ·exact Jy j h5
      ·rw[<- hi,<- Xx];exact E8
     | true=>
      rw[E8]at M;have e0:Jj R (Zy x)=r.cls:=by
       unfold Jj;rw[T.I.Xh hx zj hiw (by rw[<- Xx];exact E8) (λj hj xl=>?_) (λa' We=>?_),<- Xx]
       ·obtain⟨j2,e1,e2⟩:=cz j hj;rw[<- e2];exact Jy j2 (QcK j2 k e1 (by omega))
       ·rw[<- hq]at We;have:=FP We;simp only[Qb,D.raw.injEq,Value.int.injEq,Bd]at this;omega
      have Ep:=QcJ T.ok r (by rw[Xx];exact WI R default i zj);rw[e0,Qd (by omega)];refine Qe hb ?_;simp only[go_sem,Qa,dk,Qj,hm,QG,yw,da];apply QH hb [0,1,2,3,4,5,6,7,1008];simp only[go_sem,Qa,ho,Qg,hr,Vg,zR,zj];refine Vj hb iY rfl ?_ M (Qn.flat rfl) rfl λd h hR=>?_
      ·simp only[go_sem,Qa,ho,Qg,hr,Vg,zR,zj]
      obtain⟨rfl,rfl⟩:=hR;refine Zr hb ?_;simp only[go_sem,Qa,ho,Qg,hr,Vg,zR,zj];all_goals first|exact⟨_,rfl,rfl⟩|exact⟨_,rfl⟩|rfl|exact⟨[],(QU _).symm⟩|exact⟨[],(QU _).symm,rfl⟩
   ·have Ju:k=ms.length:=by omega
    have dk:=QN Qj;subst Ju;rw[out (λj hj _=>by
     obtain⟨j2,e1,e2⟩:=cz j hj;rw[<- e2];exact Jy j2 e1),Qd (by omega)]
    refine Qe hb ?_;simp only[go_sem,Qa,dk];refine Qe hb ?_;simp only[go_sem,Qa,ho,Qg,hr,Vg,SE,LK];all_goals first|exact⟨_,rfl,rfl⟩|exact⟨_,rfl⟩|rfl|exact⟨[],(QU _).symm⟩|exact⟨[],(QU _).symm,rfl⟩
end Go.Fg.X
namespace Go.Fg
open Go.RowKit (Below)
variable {Z:Nat->Prop}
section
variable {P:Program}{L:Jt}{base nt:Nat}{s:St}{o:Oper}
end
section
variable {P:Program}{L:Jt}{base nt:Nat}{w0:Start}{Q:Exit->St->Prop}
end
def oI:D->Bool
 | .imm _ _ _=>true
 | .ref _ _ _ _=>true
 | .nil=>true
 | _=>false
section
variable {P:Program}{L:Jt}{base nt:Nat}{s:St}{o:Oper}
end
section
variable {P:Program}{L:Jt}{base nt:Nat}{w0:Start}{Q:Exit->St->Prop}
end
def cA:D->Nat
 | .imm _ n _=>n
 | _=>0
def QEz{h}{pl}{w}{d}{v}(r:QE Z h pl w d v)(hd:oI d=true):∃a n cap,v=.slice a n cap/\(a.isNone=true->cA d=0):=by
 cases d<;>simp only[oI,qa]at hd;all_goals first
  | (obtain⟨a,e⟩:=Ei r;exact⟨_,_,_,e,λ_=>rfl⟩)
  | (obtain⟨a,cap,_,_,_,e,h0,_⟩:=TL r;refine⟨_,_,_,e,λhn=>Nat.eq_zero_of_not_pos λhp=>?_⟩;have hq:0<_:=hp;simp only[cA]at hq;rw[h0 hq]at hn;cases hn)
  | (obtain⟨_,_,a,cap,e,_⟩:=Cw r;exact⟨_,_,_,e,λ_=>rfl⟩)
section
variable {P:Program}{L:Jt}{base nt:Nat}{w0:Start}{Q:Exit->St->Prop}
def QEA(hL:Jq P L){Q:Exit->St->Prop}{o:Oper}{rest:List (Oper × G)}{s:St}{t t' e a b:Nat}{x:Operand}{zt:List Value}(ho:o.op=.binOp .eql t x (.const (.slice none 0 0)) t')(hx:oI (Qt s.fr x)=true)(ht:ty L t=some ⟨.slice e,a,b,zt⟩)(hd:ZQ nt o.dst=true)
  (hk:∀b:Bool,(b=true->cA (Qt s.fr x)=0)->AG P base nt w0 rest Q ⟨ZC s.fr o.dst (.raw (.bool b)),s.h⟩):AG P base nt w0 ((o,none)::rest) Q s:=by
 intro Z z pl ac w r b;obtain⟨ad,n,cap,hv,hb⟩:=QEz (r.eval x) hx;have hc:ac.eval (.const (.slice none 0 0))=.slice none 0 0:=rfl;have Zl:(execOp ac.eval o).run P w=.ok (.value (.bool ad.isNone)) w:=by
  have hu:=xZ (hL _ _ ht) rfl;have he:(Op.equal t (.slice ad n cap) (.slice none 0 0)).run P w=.ok ad.isNone w:=fh λm=>by
   cases ad<;>simp[Op.equalIn,run_underlying hu]
  have hq:(eqGuard .eql t x (.const (.slice none 0 0)) (.slice ad n cap) (.slice none 0 0)).run P w=.ok () w:=by simp[eqGuard]
  simp[execOp,ho,hv,hc,Go.binOp,he,hq]
 simp only[qn,XB,K6];unfold Oper.wp;rw[Zl];simp only[Oper.upon_value];refine hk _ hb Z z pl _ w ?_ b;cases hdd:o.dst with
 | none=>exact r
 | some t=>rw[hdd]at hd;exact r.to (Tr.ext r.o λ_ _=>rfl) r.o (kI hd) (.cl _ _ (.raw _))
def QEB(hL:Jq P L){k:List Item}{dst:Option Nat}{BM:TypeId}{pos:String}{after:Array Edge}{gd:Option (Nat × Bool)}{r:List (Oper × G)}{s:St}{t t' e a b:Nat}{x:Operand}{zt:List Value}
  (hx:oI (Qt s.fr x)=true) (ht:ty L t=some ⟨.slice e,a,b,zt⟩) (hd:ZQ nt dst=true) (h1:∀b:Bool,(b=true->cA (Qt s.fr x)=0)->QA P base nt w0 Q (.ops r::k) .normal ⟨ZC s.fr dst (.raw (.bool b)),s.h⟩) :
  QA P base nt w0 Q (.ops ((⟨dst,.binOp .eql t x (.const (.slice none 0 0)) t',BM,pos,after,gd⟩,none)::r)::k) .normal s:=by
 simp only[QA]at h1 ⊢;exact QEA hL rfl hx ht hd h1
end
end Go.Fg
namespace Go.Fg.X
open Go.Proofs Go.Fg
open Go.Proofs.Tryz
@[go_sem] def yU(l:List JU):D:=.imm 9 l.length (JU.rows l)
def Qm4(h:List Ob)(l:List JU)(hl:l.length<1000000):QK prog 101 h [yU l] (λd h'=>∃g,h'=h++g/\WA (λj=>h.length<=j) (h++g) 9 JU.cells d l):=by
 refine Q6 Qi 200 func101 rfl ntmps101 results101 rfl λbase w pl hb=>?_;simp only[go_sem,Qa];refine QEB BE (by simp only[go_sem];rfl) rfl rfl λb ZG=>?_;cases b with
 | true=>
  have h0:=ZG rfl;simp only[go_sem,cA]at h0;apply QC hb;exact⟨[],(QU h).symm,.inl ⟨rfl,Mj.1 h0⟩⟩
 | false=>
  apply QC hb;refine⟨by omega,_,rfl,.inr ⟨h.length,_,_,rfl,QB _,Kx rfl,λi hi=>?_⟩⟩;rw[vL (Z7 _)];rfl
def QEC(r:JU):(cr r.want r.mask==r.want)=(xO r.Nh r.BG==r.Nh&&(xO r.Ni r.BH==r.Ni&&(xO r.Nj r.Gq==r.Nj&&xO r.Gr r.EN==r.Gr))):=by
 rw[<- Bool.and_true (xO r.Gr r.EN==r.Gr)];rfl
structure km (h H:List Ob) (l:List JU) (k p:Nat) (dr:D) (le:Nat) (dm:D) (c:Nat) (es:List X7) (ms:List Nat):Prop where
 ex:Vt h H
 o:H[p]? = some (Ol dr le dm)
 eo:H[le]? = some (xj c es)
 rs:WA (λj=>h.length<=j) H 9 JU.cells dr l
 mo:WA (λj=>h.length<=j) H 1 (λi:Nat=>[Qb i]) dm ms
 hp:h.length<=p
 he:h.length<=le
 I:qG l k es ms
 ok:∀j,j<k->AV (JZ l j)=true
def km.app{h H}{l}{k p}{dr}{le}{dm}{c}{es}{ms}(N:km h H l k p dr le dm c es ms)(g):km h (H++g) l k p dr le dm c es ms:=
 ⟨N.ex.app g,(Qx (Qc N.o)).trans N.o,(Qx (Qc N.eo)).trans N.eo,N.rs.step λj hj h1=>⟨h1,Qx hj⟩,N.mo.step λj hj h1=>⟨h1,Qx hj⟩,N.hp,N.he,N.I,N.ok⟩
def km.next{h H}{l}{k p}{dr}{le}{dm}{c}{es}{ms}(N:km h H l k p dr le dm c es ms){H':List Ob}{dm'}{c'}{es'}{ms'}(hx:Vt h H')(ho:H'[p]? = some (Ol dr le dm'))(he:H'[le]? = some (xj c' es'))
  (hk:∀(j:Nat) (o:Ob),H[j]? = some o->o.kd=.arr->o.sz=9->H'[j]? = some o) (hm:WA (λj=>h.length<=j) H' 1 (λi:Nat=>[Qb i]) dm' ms') (I:qG l (k+1) es' ms') (Ja:∀j,j<k+1->AV (JZ l j)=true):km h H' l (k+1) p dr le dm' c' es' ms':=
 ⟨hx,ho,he,N.rs.imp id λ⟨lo,g,row,h1,h2,h3,h4⟩=>⟨lo,g,row,h1,h2,hk lo _ h3 rfl rfl,h4⟩,hm,N.hp,N.he,I,Ja⟩
def X4{H:List Ob}{a b:Nat}{o o':Ob}(h1:H[a]? = some o)(h2:H[b]? = some o')(h:o.kd≠o'.kd\/o.sz≠o'.sz):a≠b:=λe=>by
 rw[e,h2]at h1;cases h1;rcases h with h|h<;>exact h rfl
def km.BG{h H}{l}{k p}{dr}{le}{c}{es}(N:km h H l k p dr le .nil c es [])(hw:z8 (JZ l k)=false)(Ja:∀j,j<k+1->AV (JZ l j)=true)(o):
  km h (H.set p (Ol dr le (.ref (H.length+2) 0 0 1))++[o,⟨.arr,0,1,1,λ_=>[Qb k]⟩,⟨.arr,0,1,1,λ_=>[Qb k]⟩]) l (k+1) p dr le (.ref (H.length+2) 0 0 1) c es ([]++[k]):=by
 have hp:=Qc N.o;have Qz:p≠le:=X4 N.o N.eo (.inl nofun);refine N.next ((N.ex.set N.hp _).app _) ?_ ?_ (λj o hj h1 h2=>?_) (.inr ⟨H.length+2,0,λ_=>[Qb k],rfl,by have:=N.ex.len;omega,Vr (k:=2) (by simp),λi hi=>?_⟩) (N.I.mask hw) Ja
 ·rw[Qx (by simpa using hp),Qs hp]
 ·rw[Qx (by simpa using Qc N.eo),Qk Qz];exact N.eo
 ·rw[Qx (by simpa using Qc hj),Qk (X4 N.o hj (.inl (by rw[h1];nofun)))];exact hj
 ·simp at hi;subst hi;rfl
def km.BH{h H:List Ob}{l}{k p}{dr}{le}{c}{es}{ms:List Nat}{lo g}{row}(N:km h H l k p dr le (.ref lo g 0 ms.length) c es ms)(Zm:h.length<=lo)(hl:H[lo]? = some ⟨.arr,g,1,ms.length,row⟩)(ZH:∀i,i<ms.length->row i=[Qb ((ms.getD i default:Nat):Int)])
  (hw:z8 (JZ l k)=false) (Ja:∀j,j<k+1->AV (JZ l j)=true) (o o':Ob) :
  km h ((H.set lo ⟨.arr,g+1,1,ms.length+1,J1 ms.length 0 row λ_=>[Qb k]⟩).set p (Ol dr le (.ref lo (g+1) 0 (ms.length+1)))++[o,o']) l (k+1) p dr le (.ref lo (g+1) 0 (ms.length+1)) c es (ms++[k]):=by
 have hp:=Qc N.o;have qi:=Qc hl;have Qz:p≠le:=X4 N.o N.eo (.inl nofun);have KX:lo≠p:=X4 hl N.o (.inl nofun);have VQ:lo≠le:=X4 hl N.eo (.inl nofun);refine N.next (((N.ex.set Zm _).set N.hp _).app _) ?_ ?_ (λj o hj h1 h2=>?_) (.inr ⟨lo,g+1,J1 ms.length 0 row λ_=>[Qb k],by simp,Zm,?_,λi hi=>?_⟩) (N.I.mask hw) Ja
 ·rw[Qx (by simpa using hp),Qs (by simpa using hp)]
 ·rw[Qx (by simpa using Qc N.eo),Qk Qz,Qk VQ];exact N.eo
 ·rw[Qx (by simpa using Qc hj),Qk (X4 N.o hj (.inl (by rw[h1];nofun))),Qk (X4 hl hj (.inr (by rw[h2];show (1:Nat)≠9;decide)))];exact hj
 ·rw[Qx (by simpa using qi),Qk (Q8 KX),Qs qi];simp
 ·simp at hi;by_cases XU:i<ms.length
  ·rw[Ad XU,JV,ZH i XU];simp[XU,JD XU]
  ·have:i=ms.length:=by omega
   subst this;rw[vL (QB _)];simp
def km.new{h H}{l}{k p:Nat}{dr}{le}{dm}{c}{es}{ms}(N:km h H l k p dr le dm c es ms)(hw:z8 (JZ l k)=true)(hn:XA es (JZ l k).want=none)(Ja:∀j,j<k+1->AV (JZ l j)=true)(o):
  km h (H.set le (xj (c+1) (es++[⟨(JZ l k).want,Qb k,c⟩]))++[o]) l (k+1) p dr le dm (c+1) (es++[⟨(JZ l k).want,Qb k,c⟩]) ms:=by
 have hl:=Qc N.eo;have keep:∀(j:Nat) (o':Ob),H[j]? = some o'->o'.kd≠.map->(H.set le (xj (c+1) (es++[⟨(JZ l k).want,Qb k,c⟩]))++[o])[j]? = some o':=λj o' hj h1=>by
  rw[Qx (by simpa using Qc hj),Qk (X4 N.eo hj (.inl (Q8 h1)))];exact hj
 refine N.next ((N.ex.set N.he _).app _) (keep _ _ N.o nofun) ?_ (λj o' hj h1 h2=>keep j o' hj (by rw[h1];nofun)) (N.mo.imp id λ⟨lo,g,row,h1,h2,h3,h4⟩=>⟨lo,g,row,h1,h2,keep _ _ h3 nofun,h4⟩) (N.I.new hw hn c) Ja;rw[Qx (by simpa using hl),Qs hl]
def Qm5(h)(l:List JU)(hl:l.length<1000000):
  QK prog 56 h [yU l] (λd h'=>∃g,h'=h++g/\(qE l=0->∃p,d=.tup [.ptr p 0 0 0,Qb 0]/\LJ (λj=>h.length<=j) (h++g) p l)/\(qE l≠0->d=.tup [.raw (.pointer none),Qb (qE l)])):=by
 by_cases Lf:32<l.length
 ·have d0:decide ((32:Int)<(l.length:Int))=true:=Q5 (by omega);have e:qE l=2:=by unfold qE;rw[Qf Lf]
  rw[e];refine Q6 Qi 200 func56 rfl ntmps56 results56 rfl λbase w pl hb=>?_;simp only[go_sem,Qa,d0];exact⟨[],(QU h).symm⟩
 ·have d0:decide ((32:Int)<(l.length:Int))=false:=QN (by omega);refine Q6 Qi 200 func56 rfl ntmps56 results56 rfl λbase w pl hb=>?_;simp only[go_sem,Qa,d0];refine Jh hb QhE (Qm4 h l hl) λd h1 hR=>?_;obtain⟨g1,rfl,qs⟩:=hR;have e0:=QeV .i64;simp only[QS]at e0;have hcd:YR d=some [d]:=by rcases qs with ⟨rfl,_⟩|⟨_,_,_,rfl,_⟩<;>rfl
  have hod:d.KK=true:=by rcases qs with ⟨rfl,_⟩|⟨_,_,_,rfl,_⟩<;>rfl
  refine Qe hb ?_;simp only[go_sem,Qa,hcd,hod];obtain⟨H,hH⟩:∃H,H=h++(g1++[QS .i64 0 [],Ol d (h.length+g1.length) .nil]):=⟨_,rfl⟩;have N0:km h H l 0 (h.length+(g1.length+1)) d (h.length+g1.length) .nil 0 [] []:=by
   rw[<- WC]at hH;subst hH;refine⟨((Vt.refl h).app g1).app _,?_,?_,qs.step λj hj h1=>⟨h1,Qx hj⟩,.inl ⟨rfl,rfl⟩,by omega,by omega,qG.nil l,λj hj=>absurd hj (Vw j)⟩
   ·rw[show h.length+(g1.length+1)=(h++g1).length+1 by simp;omega];exact Vr (k:=1) rfl
   ·rw[<- QeV .i64,show h.length+g1.length=(h++g1).length by simp];exact Kx rfl
  simp only[go_sem]at hH;rw[<- hH];obtain⟨p,hp⟩:∃p,p=h.length+(g1.length+1):=⟨_,rfl⟩;rw[<- hp]at N0 ⊢;clear hH;refine Jg (λk s=>∃H dr le dm c es ms,km h H l k p dr le dm c es ms/\s=⟨[(4,.ptr p 0 0 0),(17,yU l),(18,Qb l.length),(19,Qb k)],H⟩) l.length QQ ⟨H,_,_,_,_,_,_,N0,rfl⟩ ?_;clear N0 qs hcd hod e0 H hp d g1;rintro k _ hk ⟨H,dr,le,dm,c,es,ms,N,rfl⟩;by_cases Qj:k<l.length
  ·have dk:=Q5 Qj;obtain⟨r,hr⟩:∃r,r=JZ l k:=⟨_,rfl⟩;have Jp:l.getD k default=r:=hr.symm;have Xn:r∈l:=by rw[hr];exact WI l default k Qj
   have QT:=JX (show k<4611686018427387904 by omega);have ho:=N.o;have Qg:=Qc ho;have he:=N.eo;have ZZ:=Qc he;have h4:=N.I.four;have hu:=QEC r;have bad:AV r=false->qE l=1:=λhb=>by
    unfold qE;rw[Qd Lf,Qd];intro KS;have:=X6.1 KS r Xn;rw[hb]at this;cases this
   have U:=Qm0 r.Nh r.Ni r.Nj r.Gr r.BG r.BH r.Gq r.EN;by_cases c1:r.cls<1
   ·have d1:=Q5 c1;rw[bad (by unfold AV;rw[QN (show ¬1<=r.cls by omega)];rfl)];refine Qe hb ?_;simp only[go_sem,Qa,dk,Qj,Jp];apply QH hb [0,1,2,3,4,5,6,7,8,9,10,11,12,14,15,1013,16,17];simp only[go_sem,Qa,d1,Go.undef];exact N.ex.app _
   have d1:=QN c1;by_cases c2:65536<r.cls
   ·have d2:=Q5 c2;rw[bad (by unfold AV;rw[QN (show ¬r.cls<=65536 by omega),Bool.and_false];rfl)];refine Qe hb ?_;simp only[go_sem,Qa,dk,Qj,Jp];apply QH hb [0,1,2,3,4,5,6,7,8,9,10,11,12,14,15,1013,16,17];simp only[go_sem,Qa,d1,d2,Go.undef];exact N.ex.app _
   have d2:=QN c2;cases zC:cr r.want r.mask==r.want with
   | false=>
    rw[bad (by unfold AV;rw[zC,Bool.and_false])];rw[zC]at hu;refine Qe hb ?_;simp only[go_sem,Qa,dk,Qj,Jp];apply QH hb [0,1,2,3,4,5,6,7,8,9,10,11,12,14,15,1013,16,17];simp only[go_sem,Qa,d1,d2,Go.undef];refine Vj hb sY rfl ?_ U (Qn.flat rfl) rfl λd h hR=>?_
    ·simp only[go_sem,Qa,d1,d2,<- hu]
    obtain⟨rfl,rfl⟩:=hR;refine Zr hb ?_;simp only[go_sem,Qa,d1,d2,<- hu];exact N.ex.app _
   | true=>
    rw[zC]at hu;have Ja:∀j,j<k+1->AV (JZ l j)=true:=λj hj=>by
     rcases qc.1 hj with h5|rfl
     ·exact N.ok j h5
     ·rw[<- hr];unfold AV;rw[zC,Q5 (show 1<=r.cls by omega),Q5 (show r.cls<=65536 by omega)];rfl
    obtain⟨q,hq⟩:∃q,q=XA es r.want:=⟨_,rfl⟩;have Fy:=hq;simp only[JU.want]at Fy;have hw:z8 r=(r.BG==65535&&(r.BH==65535&&(r.Gq==65535&&r.EN==65535))):=rfl;obtain⟨b,Jb⟩:∃b,b=z8 r:=⟨_,rfl⟩;rw[<- Jb]at hw;refine Qe hb ?_;simp only[go_sem,Qa,dk,Qj,Jp];apply QH hb [0,1,2,3,4,5,6,7,8,9,10,11,12,14,15,1013,16,17];simp only[go_sem,Qa,d1,d2,Go.undef];refine Vj hb sY rfl ?_ U (Qn.flat rfl) rfl λd h hR=>?_
    ·simp only[go_sem,Qa,d1,d2,<- hu]
    obtain⟨rfl,rfl⟩:=hR;refine Zr hb ?_;simp only[go_sem,Qa,d1,d2,<- hu];cases q with
    | none=>
     apply QH hb [0,1,2,3,4,5,6,7,8,9,10,11];simp only[go_sem,Qa,ho,Qg,he,ZZ,<- Fy];refine⟨h4,?_⟩;apply QH hb [0,1,1002,3,4];simp only[go_sem,Qa];refine Vj hb QhF rfl ?_ QmZ (Qn.flat rfl) rfl λd h hR=>?_
     ·simp only[go_sem,Qa,<- hw]
     obtain⟨rfl,rfl⟩:=hR;refine Zr hb ?_;simp only[go_sem,Qa,<- hw];cases b with
     | false=>
      rcases N.mo with ⟨rfl,rfl⟩|⟨lm,gm,QcL,rfl,Fc,hm,zN⟩
      ·have N2:=N.BG (by rw[<- hr,<- Jb]) Ja ⟨.one,0,9,1,λ_=>r.cells⟩;simp only[go_sem,Qa,ho,Qg];refine⟨Qj,_,Qp.frame (fr':=[(4,.ptr p 0 0 0),(17,yU l),(18,Qb l.length),(19,Qb (k+1:Nat))]) (by simp only[go_sem,QT]),_,_,_,_,_,_,_,N2,rfl⟩
      ·have N2:=N.BH Fc hm zN (by rw[<- hr,<- Jb]) Ja ⟨.one,0,9,1,λ_=>r.cells⟩ ⟨.arr,0,1,1,λ_=>[Qb k]⟩;have QG:=Qc hm;have Dt:lm≠p:=X4 hm ho (.inl nofun);have QcR:ms.length<=4294967295:=by
        have:=inc_le ms k 0 N.I.inc λj hj=>⟨Z7 j,((N.I.mem j).1 hj).1⟩;omega
       have QcS:ms.length+1<=4294967295:=by
        have:=inc_le ms k 0 N.I.inc λj hj=>⟨Z7 j,((N.I.mem j).1 hj).1⟩;omega
       simp only[go_sem,Qa,ho,Qg,hm,QG,Qk Dt,QcR,QcS];repeat (refine And.intro (by first|assumption|omega) ?_)
       refine⟨_,Qp.frame (fr':=[(4,.ptr p 0 0 0),(17,yU l),(18,Qb l.length),(19,Qb (k+1:Nat))]) (by simp only[go_sem,QT]),_,_,_,_,_,_,_,N2,rfl⟩
     | true=>
      simp only[go_sem,Qa,ho,Qg];apply QH hb [0,1,2,3,4,5,6,1007];simp only[go_sem,Qa,ho,Qg,he,ZZ,<- Fy];have N2:=N.new (by rw[<- hr,<- Jb]) (by rw[<- hr];exact hq.symm) Ja ⟨.one,0,9,1,λ_=>r.cells⟩;rw[<- hr]at N2;refine⟨h4,Qj,_,Qp.frame (fr':=[(4,.ptr p 0 0 0),(17,yU l),(18,Qb l.length),(19,Qb (k+1:Nat))]) (by simp only[go_sem,QT]),_,_,_,_,_,_,_,N2,rfl⟩
    | some d=>
     apply QH hb [0,1,2,3,4,5,6,7,8,9,10,11];simp only[go_sem,Qa,ho,Qg,he,ZZ,<- Fy];refine⟨h4,?_⟩;apply QH hb [0,1,1002,3,4];simp only[go_sem,Qa];refine Vj hb QhF rfl ?_ QmZ (Qn.flat rfl) rfl λd h hR=>?_
     ·simp only[go_sem,Qa,<- hw]
     obtain⟨rfl,rfl⟩:=hR;refine Zr hb ?_;simp only[go_sem,Qa,<- hw];cases b with
     | false=>
      rcases N.mo with ⟨rfl,rfl⟩|⟨lm,gm,QcL,rfl,Fc,hm,zN⟩
      ·have N2:=N.BG (by rw[<- hr,<- Jb]) Ja ⟨.one,0,9,1,λ_=>r.cells⟩;simp only[go_sem,Qa,ho,Qg];refine⟨Qj,_,Qp.frame (fr':=[(4,.ptr p 0 0 0),(17,yU l),(18,Qb l.length),(19,Qb (k+1:Nat))]) (by simp only[go_sem,QT]),_,_,_,_,_,_,_,N2,rfl⟩
      ·have N2:=N.BH Fc hm zN (by rw[<- hr,<- Jb]) Ja ⟨.one,0,9,1,λ_=>r.cells⟩ ⟨.arr,0,1,1,λ_=>[Qb k]⟩;have QG:=Qc hm;have Dt:lm≠p:=X4 hm ho (.inl nofun);have QcR:ms.length<=4294967295:=by
        have:=inc_le ms k 0 N.I.inc λj hj=>⟨Z7 j,((N.I.mem j).1 hj).1⟩;omega
       have QcS:ms.length+1<=4294967295:=by
        have:=inc_le ms k 0 N.I.inc λj hj=>⟨Z7 j,((N.I.mem j).1 hj).1⟩;omega
       simp only[go_sem,Qa,ho,Qg,hm,QG,Qk Dt,QcR,QcS];repeat (refine And.intro (by first|assumption|omega) ?_)
       refine⟨_,Qp.frame (fr':=[(4,.ptr p 0 0 0),(17,yU l),(18,Qb l.length),(19,Qb (k+1:Nat))]) (by simp only[go_sem,QT]),_,_,_,_,_,_,_,N2,rfl⟩
     | true=>
      simp only[go_sem,Qa,ho,Qg];have N1:=N.app [⟨.one,0,9,1,λ_=>r.cells⟩];have N2:km h (H++[⟨.one,0,9,1,λ_=>r.cells⟩]) l (k+1) p dr le dm c es ms:=⟨N1.ex,N1.o,N1.eo,N1.rs,N1.mo,N1.hp,N1.he,N.I.there (by rw[<- hr,<- Jb]) (by rw[<- hr,<- hq];rfl),Ja⟩;refine⟨Qj,_,Qp.frame (fr':=[(4,.ptr p 0 0 0),(17,yU l),(18,Qb l.length),(19,Qb (k+1:Nat))]) (by simp only[go_sem,QT]),_,_,_,_,_,_,_,N2,rfl⟩
  ·have Ju:k=l.length:=by omega
   have dk:=QN Qj;subst Ju;have e0:qE l=0:=by
    unfold qE;rw[Qd Lf,Qf];rw[X6];intro r hr;obtain⟨j,hj,e⟩:=y9 hr;have:=N.ok j hj;unfold JZ at this;rw[Ze,QW hj]at this;rw[<- e];exact this
   refine Qe hb ?_;simp only[go_sem,Qa,dk];apply QC hb;obtain⟨g,rfl⟩:=N.ex;refine⟨g,rfl,λ_=>⟨p,rfl,dr,le,dm,c,es,ms,N.o,N.eo,N.rs,N.mo,N.hp,N.he,N.I,e0⟩,λh=>absurd e0 h⟩
@[go_sem] def Ce(d:D):Ob:=⟨.one,0,1,1,λ_=>[d]⟩
structure jF (n:Nat) (own:Nat->Tag) (tw:Nat->TT) (h:List Ob) (bp bo op:Nat) (L:List Ev):Prop where
 hp:h[bp]? = some (Ce (Qb op))
 ho:∃d,h[bo]? = some (Ce d)/\WA (λl=>n<=l/\own l=.no/\tw l=.no/\l≠bp/\l≠bo) h 12 Ev.cells d L
 np:n<=bp
 no:n<=bo
 op:own bp=.no
 oo:own bo=.no
 tp:tw bp=.no
 to:tw bo=.no
 ne:bp≠bo
def jF.AY{n}{own own'}{tw ZK}{h h':List Ob}{bp bo op}{L}(E:jF n own tw h bp bo op L)(D:Jw h.length own tw h own' ZK h'):jF n own' ZK h' bp bo op L:=by
 obtain⟨d,h1,h2⟩:=E.ho;have lp:=Qc E.hp;have lo:=Qc h1;exact⟨(D.keep _ lp E.op E.tp).trans E.hp,⟨d,(D.keep _ lo E.oo E.to).trans h1,h2.step λj hj ⟨a,b,c,e,f⟩=>⟨⟨a,(D.s1 j hj).trans b,(D.s2 j hj).trans c,e,f⟩,D.keep j hj b c⟩⟩,E.np,E.no,(D.s1 _ lp).trans E.op,(D.s1 _ lo).trans E.oo,(D.s2 _ lp).trans E.tp,(D.s2 _ lo).trans E.to,E.ne⟩
def Jw.X8{m n}{own own'}{tw ZK}{h h'}(hm:m<=n)(D:Jw n own tw h own' ZK h'):Jw m own tw h own' ZK h':=⟨D.s1,D.s2,λl hl=>D.keep l (wU hl hm),D.my,D.len⟩
def QED{n}{own}{tw}{h h':List Ob}{bo lo}(hn:n<=bo)(h1:own bo=.no)(h2:tw bo=.no)(hl:lo<h.length->n<=lo/\own lo=.no/\tw lo=.no)(hh:n<=h.length)(len:h.length<=h'.length)
  (k:∀j,j<h.length->j≠bo->j≠lo->h'[j]? = h[j]?):Jw n own tw h (QX own h .no) (ZX tw h .no) h'/\oy own tw h (QX own h .no) (ZX tw h .no) h':=by
 refine⟨⟨λl hl=>Js hl,λl hl=>JN hl,λl Jx _ _=>k l (by omega) (by omega) λe=>?_,λl Qc hm=>k l Qc (λe=>by rw[e,h2]at hm;cases hm) λe=>?_,len⟩,λl Qc=>⟨λhv=>⟨Js Qc,k l Qc (λe=>hv.1 (by rw[e,h1])) λe=>?_⟩,λhv _=>⟨JN Qc,k l Qc (λe=>hv (by rw[e,h2])) λe=>?_⟩⟩⟩
 ·have:=(hl (by omega)).1;omega
 ·rw[e,(hl (by omega)).2.2]at hm;cases hm
 ·exact hv.1 (by rw[e];exact(hl (by omega)).2.1)
 ·exact hv (by rw[e];exact(hl (by omega)).2.2)
def oJ{own}{tw}{h}(ap:∀l,tw l≠.no->own l=.no):∀l,ZX tw h .no l≠.no->QX own h .no l=.no:=λl hl=>by
 by_cases h1:l<h.length
 ·rw[JN h1]at hl;rw[Js h1];exact ap l hl
 ·exact Xb (by omega)
def Qm8{n}{own}{tw}{h:List Ob}{bp bo op}{L:List Ev}(E:jF n own tw h bp bo op L)(hn:n<=h.length)(hL:L.length<1000000000)(e:Ev):
  QK prog 58 h [.agg e.cells,.ptr bp 0 0 0,.ptr bo 0 0 0] (λd h'=>d=.tup []/\jF n (QX own h .no) (ZX tw h .no) h' bp bo op (L++[{ e with op:=op }])/\Jw n own tw h (QX own h .no) (ZX tw h .no) h'/\oy own tw h (QX own h .no) (ZX tw h .no) h'):=by
 have hp:=E.hp;obtain⟨d,ho,hd⟩:=E.ho;have Qz:=E.ne;have lp:=Qc hp;have lo:=Qc ho;have fin:∀(h':List Ob) (d':D) (sl:Nat),h'[bp]? = some (Ce (Qb op))->h'[bo]? = some (Ce d')->WA (λl=>n<=l/\QX own h .no l=.no/\ZX tw h .no l=.no/\l≠bp/\l≠bo) h' 12 Ev.cells d' (L++[{ e with op:=op }])->(sl<h.length->n<=sl/\own sl=.no/\tw sl=.no)->h.length<=h'.length ->
   (∀j,j<h.length->j≠bo->j≠sl->h'[j]? = h[j]?)->jF n (QX own h .no) (ZX tw h .no) h' bp bo op (L++[{ e with op:=op }])/\Jw n own tw h (QX own h .no) (ZX tw h .no) h'/\oy own tw h (QX own h .no) (ZX tw h .no) h':=λh' d' sl a1 a2 a3 a4 a5 a6=>
  ⟨⟨a1,⟨d',a2,a3⟩,E.np,E.no,(Js lp).trans E.op,(Js lo).trans E.oo,(JN lp).trans E.tp,(JN lo).trans E.to,E.ne⟩,QED E.no E.oo E.to a4 hn a5 a6⟩
 rcases hd with ⟨rfl,rfl⟩|⟨sl,g,row,rfl,⟨s1,s2,s3,s4,s5⟩,hs,hr⟩
 ·have fin:=fin (h.set bo (Ce (.ref (h.length+2) 0 0 1))++[⟨.one,0,12,1,λ_=>({ e with op:=op }:Ev).cells⟩,⟨.arr,0,12,1,λ_=>({ e with op:=op }:Ev).cells⟩,⟨.arr,0,12,1,λ_=>({ e with op:=op }:Ev).cells⟩]) (.ref (h.length+2) 0 0 1) h.length
   (by rw[Qx (by simpa using lp),Qk Qz.symm];exact hp) (by rw[Qx (by simpa using lo),Qs lo])
   (.inr ⟨h.length+2,0,λ_=>({ e with op:=op }:Ev).cells,rfl,⟨by omega,Xb (by omega),zf (by omega),by omega,by omega⟩,Vr (k:=2) (by simp),λi hi=>by
    simp at hi;subst hi;rfl⟩) (λh=>absurd h (YP _)) (by simp) (λj hj h1 h2=>by rw[Qx (by simpa using hj),Qk (Q8 h1)])
  refine Q6 Qi 200 func58 rfl ntmps58 results58 rfl λbase w pl hb=>?_;have SF:=Qc hp;have Qg:=Qc ho;simp only[go_sem,Qa,hp,SF,ho,Qg,Qz,Qz.symm];simp only[go_sem]at fin ⊢;exact fin
 ·have Lq:=Qc hs;have bO:L.length<=4294967295:=by omega
  have bU:L.length+1<=4294967295:=by omega
  have fin:=fin ((h.set sl ⟨.arr,g+1,12,L.length+1,J1 L.length 0 row λ_=>({ e with op:=op }:Ev).cells⟩).set bo (Ce (.ref sl (g+1) 0 (L.length+1)))++[⟨.one,0,12,1,λ_=>({ e with op:=op }:Ev).cells⟩,⟨.arr,0,12,1,λ_=>({ e with op:=op }:Ev).cells⟩]) (.ref sl (g+1) 0 (L.length+1)) sl
   (by rw[Qx (by simpa using lp),Qk Qz.symm,Qk s4];exact hp) (by rw[Qx (by simpa using lo),Qs (by simpa using lo)])
   (.inr ⟨sl,g+1,J1 L.length 0 row λ_=>({ e with op:=op }:Ev).cells,by simp,⟨s1,(Js Lq).trans s2,(JN Lq).trans s3,s4,s5⟩,by rw[Qx (by simpa using Lq),Qk s5.symm,Qs Lq];simp,λi hi=>by
    simp at hi;by_cases XU:i<L.length
    ·rw[Ad XU,JV,hr i XU];simp[XU,JD XU]
    ·have:i=L.length:=by omega
     subst this;rw[vL (QB _)];simp⟩) (λ_=>⟨s1,s2,s3⟩) (by simp) (λj hj h1 h2=>by rw[Qx (by simpa using hj),Qk (Q8 h1),Qk (Q8 h2)])
  refine Q6 Qi 200 func58 rfl ntmps58 results58 rfl λbase w pl hb=>?_;have SF:=Qc hp;have Qg:=Qc ho;have Lq:=Qc hs;simp only[go_sem,Qa,hp,SF,ho,Qg,hs,Lq,Qz,Qz.symm,s4,s5,Qk s5,bO,bU];simp only[go_sem]at fin ⊢;repeat (refine And.intro (by first|assumption|omega) ?_)
  exact fin
def QcT{own}{tw}{h}{p}{S}(T:Kj own tw h p S):QV prog 77 h [.ptr p 0 0 0] (λd=>d=u64 (QP S)):=by
 obtain⟨ps,pl,pr,pt,T⟩:=T;have ho:=Z3 T.o;obtain⟨a,b,c,hl⟩:=T.ln;have hl:=Z3 hl;obtain⟨L,C⟩:=T.co.ex;have hD:=QlV C.ro T.co.I;have hU:=λ(F:List Ob) (hF:F=h.map Ob.ro)=>QmX (h:=F) (Kh hF _ _ hl);have hD:=λ(F:List Ob) (hF:F=h.map Ob.ro)=>QlV (C.ro.more (Kh hF)) T.co.I;clear T C;unfold QP;obtain⟨v,hv⟩:∃v,v=KQ S.M:=⟨_,rfl⟩;rw[<- hv]at hD ⊢;refine Zq Qi 200 func77 rfl ntmps77 results77 rfl λbase w pl F hF Q3 hb=>?_;rw[<- hF]at ho hl;have Qg:=Qc ho;have IC:=Qc hl;simp only[go_sem,Qa,ho,Qg,hl,IC];apply QH hb [0,1,2,3,4,5,6,7,9,10,11,12,1008,1013,1014,15];simp only[go_sem,Qa,ho,Qg];refine Yh hb Qhw (hU F hF) λd hR=>?_;subst hR;refine Zr hb ?_;simp only[go_sem,Qa,ho,Qg];refine Yh hb Qu8 (hD F hF) λd hR=>?_;subst hR;refine Zr hb ?_;simp only[go_sem,Qa,ho,Qg];refine Rp hb Qu7 (QEr S.Qh S.JI v) (Qn.flat rfl) λd h hR=>?_;obtain⟨rfl,rfl⟩:=hR;apply XF hb;all_goals first|exact⟨_,rfl,rfl⟩|exact⟨_,rfl⟩|rfl|exact⟨[],(QU _).symm⟩|exact⟨[],(QU _).symm,rfl⟩
def Qm9{n}{own}{tw}{h:List Ob}{p}{S}(T:Kj own tw h p S)(V:ZV S){bp bo op}{L:List Ev}(E:jF n own tw h bp bo op L)(hn:n<=h.length)(hL:L.length<100000000):
  QK prog 116 h [.ptr p 0 0 0,u64 S.Qh,.clo 58 0 [.ptr bp 0 0 0,.ptr bo 0 0 0]] (λd h'=>d=.tup []/\∃own' ZK,Kj own' ZK h' p (Z2 S op S.Qh).1/\jF n own' ZK h' bp bo op (L++(Z2 S op S.Qh).2)/\Jw n own tw h own' ZK h'):=by
 obtain⟨ps,lp,pr,pt,T⟩:=T;have ho:=T.o;obtain⟨a,b,c,hl⟩:=T.ln;have oK:=QcI (Z3 hl) S.Qh;by_cases hu:S.JI<=S.Qh
 ·have du:=Q5 hu;rw[du]at oK;refine Q6 Qi 200 func116 rfl ntmps116 results116 rfl λbase w pl hb=>?_;have Qg:=Qc ho;simp only[go_sem,Qa,ho,Qg];refine ZN hb iP oK λd hR=>?_;subst hR;refine Qe hb ?_;simp only[go_sem,Qa,ho,Qg];refine qZ hb Qvn (QDM T.co S.Qh) λd h1 hR=>?_;obtain⟨rfl,Ji,C1,D1⟩:=hR;have T1:=T.core D1 C1 (LH S.M S.Qh);have K1:Jw h.length own tw h Ji (ZX tw h .no) h1:=Jw.core T.ap (QB _) D1;obtain⟨Kw,QEE⟩:∃t,t=ZX tw h .no:=⟨_,rfl⟩;rw[<- QEE]at T1 K1;have E1:=E.AY K1;have bE:=K1.len;obtain⟨j,hj⟩:∃j,j=WL S.M S.Qh:=⟨_,rfl⟩;obtain⟨k,hk⟩:∃k,k=Vf S.M S.Qh:=⟨_,rfl⟩;obtain⟨b,Bi⟩:∃b,b=Cc S.M S.Qh:=⟨_,rfl⟩;cases ht:Xt S.M S.Qh with
  | false=>
   have e:Z2 S op S.Qh=({ S with M:=takeN S.M S.Qh },[]):=by unfold Z2;rw[Qd (by omega),Qd (by rw[ht];exact ky)]
   rw[e,<- hj,<- hk,<- Bi];apply QC hb;have T2:=T1.YK [⟨.one,0,8,1,λ_=>zV j k b⟩];have K2:=Jw.app (n:=h1.length) Ji Kw h1 [⟨.one,0,8,1,λ_=>zV j k b⟩] .my (QB _);exact⟨_,_,⟨_,_,_,_,T2⟩,E1.AY K2,(K1.X8 hn).trans hn (K2.X8 (by omega))⟩
  | true=>
   have hlen:=V.take_len ht;have YT:=Of V.K hlen;rw[<- hk]at hlen YT;have Fc:=V.K.l2;have ZP:=V.cl;obtain⟨done,Qna⟩:∃d,d=S.Qh+YJ S.M.lk k.len:=⟨_,rfl⟩;have e:Z2 S op S.Qh=({ S with M:=takeN S.M S.Qh,JI:=done,st:=qC S.st j done k.len b },[Hh op b S.Qh done j k]):=by
    unfold Z2;rw[Qd (by omega),Qf ht,<- hk,<- Qna,<- hj,<- Bi]
   rw[e,<- hj,<- hk,<- Bi];have T2:=T1.YK [⟨.one,0,8,1,λ_=>zV j k b⟩];have K2:=K1.trans (QB _) ((Jw.app (n:=h1.length) Ji Kw h1 [⟨.one,0,8,1,λ_=>zV j k b⟩] .my (QB _)).X8 bE);have E2:=E.AY K2;have Jb:(h1++[(⟨.one,0,8,1,λ_=>zV j k b⟩:Ob)])[h1.length]? = some ⟨.one,0,8,1,λ_=>zV j k b⟩:=Kx rfl;have n2:QX Ji h1 .no h1.length=.no:=Xb (QB _);have m2:ZX Kw h1 .my h1.length=.my:=zf (QB _);apply QC hb;obtain⟨h2,SG⟩:∃h2,h2=h1++[(⟨.one,0,8,1,λ_=>zV j k b⟩:Ob)]:=⟨_,rfl⟩;rw[<- SG]at T2 K2 E2 Jb;simp only[go_sem,zV]at SG;rw[<- SG];clear SG;generalize QX Ji h1 .no=JC at T2 K2 E2 n2;generalize ZX Kw h1 .my=Vv at T2 K2 E2 m2;have KJ:=T2.o;have YH:=Qc KJ;have wG:=Qc Jb;obtain⟨a2,b2,c2,Jx⟩:=T2.ln;have Wi:(takeN S.M S.Qh).lk=S.M.lk:=LH S.M S.Qh;have oL:=QEn h2 Jx (by show 1<=(takeN S.M S.Qh).lk.t;rw[Wi];exact V.K.t1) (by show (takeN S.M S.Qh).lk.t<=65536;rw[Wi];exact V.K.t2) ZP hu k ⟨hlen.1,by omega⟩;have QEF:S.Qh+k.len.toNat*(takeN S.M S.Qh).lk.t.toNat=done:=by rw[Wi,Qna];rfl
   have oL:QK prog 166 h2 [.ptr lp 0 0 0,u64 S.Qh,.agg k.cells] (λd h'=>d=.tup [u64 done,Qb 0]/\∃a' b' c' g,h'=h2.set lp (kj a' b' c' (takeN S.M S.Qh).lk.t done)++g):=by
    rw[<- QEF];exact oL
   simp only[go_sem,zV]at Jb;apply Va [7] hb [0,1,2,3,4,5,6,1007,8,9,10,11,12] [];simp only[go_sem,Qa,KJ,YH,Jb,wG];refine xv hb Qvo oL λd h3 hR=>?_;obtain⟨rfl,a3,b3,c3,g3,cB⟩:=hR;have t2l:=T2.tl;have s3:Step (λl=>Vv l=.ln) h2 h3:=by
    rw[cB];exact⟨λl hl Qz=>by rw[Qx (by simpa using hl),Qk (λe=>Qz (by rw[<- e];exact t2l))],by simp⟩
   have xz:h3[lp]? = some (kj a3 b3 c3 (takeN S.M S.Qh).lk.t done):=by rw[cB,Qx (by simpa using Qc Jx),Qs (Qc Jx)]
   have T3:=T2.link s3 xz;have K3:=K2.trans (QB _) ((Jw.part (n:=h2.length) (own:=JC) (t:=.ln) ⟨by simp,by simp⟩ (QB _) s3).X8 K2.len);have E3:=E.AY K3;have zU:h3[h1.length]? = some _:=(s3.keep _ wG (by rw[m2];simp)).trans Jb;have n3:QX JC h2 .no h1.length=.no:=(Js wG).trans n2;have m3:ZX Vv h2 .ln h1.length=.my:=(JN wG).trans m2;clear cB oL;generalize QX JC h2 .no=YI at T3 K3 E3 n3;generalize ZX Vv h2 .ln=wL at T3 K3 E3 m3;have XJ:=T3.o;have j9:=Qc XJ;have DL:=Qc zU;apply XF hb;have QEH:=QEv T3.st j (done:=done) (by omega) (bytes:=k.len) hlen.1 (by omega) b;apply Va [12] hb [0,1,2,3,4,5,6,7,8,9,10,11,1012] [];simp only[go_sem,Qa,XJ,j9,zU,DL];refine xv hb Qvp QEH λd h4 hR=>?_;obtain⟨s4,st4⟩:=hR;have T4:=T3.stat s4 st4;have K4:=K3.trans (QB _) ((Jw.part (n:=h3.length) (own:=YI) (t:=.st) ⟨by simp,by simp⟩ (QB _) s4).X8 K3.len);have E4:=E.AY K4;have wz:h4[h1.length]? = some _:=(s4.keep _ DL (by rw[m3];simp)).trans zU;generalize QX YI h3 .no=W3 at T4 K4 E4;generalize ZX wL h3 .st=W6 at T4 K4 E4;have QEI:=Qc wz;refine Zr hb ?_;simp only[go_sem,Qa,wz,QEI];have bV:n<=h4.length:=KZ hn K4.len;refine VH hb Qhu rfl ?_ (Qm8 E4 bV (by omega) (Hh 0 b S.Qh done j k)) rfl λd h5 hR=>?_
   ·simp only[go_sem,Hh]
   obtain⟨rfl,E5,K5,st5⟩:=hR;have T5:=T4.step st5 (oJ T4.ap);have WG:({ Hh 0 b S.Qh done j k with op:=(op:Int) }:Ev)=Hh op b S.Qh done j k:=rfl;rw[WG]at E5;apply QC hb;exact⟨_,_,⟨_,_,_,_,T5⟩,E5,(K4.X8 hn).trans hn K5⟩
 ·have du:=QN hu;rw[du]at oK;have e:Z2 S op S.Qh=(S,[]):=by unfold Z2;rw[Qf (by omega)]
  rw[e];refine Q6 Qi 200 func116 rfl ntmps116 results116 rfl λbase w pl hb=>?_;have Qg:=Qc ho;simp only[go_sem,Qa,ho,Qg];refine ZN hb iP oK λd hR=>?_;subst hR;refine Qe hb ?_;simp only[go_sem,Qa,ho,Qg];exact⟨own,tw,⟨_,_,_,_,T⟩,E,Jw.refl n own tw h⟩
@[go_sem] def qF.cells(r:qF):List D:=[Qb r.err,Qb r.place,Qb r.cls]
def jF.loc{n}{own}{tw}{h:List Ob}{bp bo op}{L}(E:jF n own tw h bp bo op L){l}{o1:Ob}(hl:h[l]? = some o1)(hk:o1.kd≠.arr)(h1:l≠bp)(h2:l≠bo)(o):jF n own tw (h.set l o) bp bo op L:=by
 obtain⟨d,a1,a2⟩:=E.ho;exact⟨by rw[Qk h1];exact E.hp,⟨d,by rw[Qk h2];exact a1,a2.imp id λ⟨lo,g,row,b1,b2,b3,b4⟩=>⟨lo,g,row,b1,b2,by rw[Qk (X4 hl b3 (.inl hk))];exact b3,b4⟩⟩,E.np,E.no,E.op,E.oo,E.tp,E.to,E.ne⟩
def Jw.Fi{n}{own own'}{tw ZK}{h H:List Ob}(D:Jw n own tw h own' ZK H){l}(hl:n<=l)(hm:h.length<=l)(o):Jw n own tw h own' ZK (H.set l o):=⟨D.s1,D.s2,λj h1 h2 h3=>by rw[Qk (by omega)];exact D.keep j h1 h2 h3,λj h1 h2=>by rw[Qk (by omega)];exact D.my j h1 h2,by simpa using D.len⟩
def QEK{n}{own}{tw}{h:List Ob}{p}{S:Zf}(T:Kj own tw h p S)(V:ZV S){bp bo op}{L:List Ev}(E:jF n own tw h bp bo op L)(hn:n<=h.length)(hL:L.length<10000000)(oH:∀k,(S.st.Jv k).length<1000000)(x)(hx:cu x):
  QK prog 61 h [.ptr p 0 0 0,.agg x.cells,.clo 58 0 [.ptr bp 0 0 0,.ptr bo 0 0 0]] (λd h'=>d=.agg (X3 S op x).r.cells/\∃own' ZK,Kj own' ZK h' p (X3 S op x).S/\jF n own' ZK h' bp bo op (L++(X3 S op x).l)/\Jw n own tw h own' ZK h'):=by
 obtain⟨ps,lp,pr,pt,T⟩:=T;have ZP:=V.cl;have T1:=T.YK [⟨.one,0,6,1,λ_=>x.cells⟩,⟨.one,0,3,1,λ_=>[Qb 0,Qb 0,Qb 0]⟩];have K1:=Jw.app (n:=h.length) own tw h [⟨.one,0,6,1,λ_=>x.cells⟩,⟨.one,0,3,1,λ_=>[Qb 0,Qb 0,Qb 0]⟩] .my (QB _);have E1:=E.AY K1;have Kc:(h++[(⟨.one,0,6,1,λ_=>x.cells⟩:Ob),⟨.one,0,3,1,λ_=>[Qb 0,Qb 0,Qb 0]⟩])[h.length]? = some ⟨.one,0,6,1,λ_=>x.cells⟩:=Kx rfl;have Vx:(h++[(⟨.one,0,6,1,λ_=>x.cells⟩:Ob),⟨.one,0,3,1,λ_=>[Qb 0,Qb 0,Qb 0]⟩])[h.length+1]? = some ⟨.one,0,3,1,λ_=>[Qb 0,Qb 0,Qb 0]⟩:=Vr (k:=1) rfl;have n1:∀i,h.length<=i->QX own h .no i=.no:=λi hi=>Xb hi;have m1:∀i,h.length<=i->ZX tw h .my i=.my:=λi hi=>zf hi;have bE:h.length+2=(h++[(⟨.one,0,6,1,λ_=>x.cells⟩:Ob),⟨.one,0,3,1,λ_=>[Qb 0,Qb 0,Qb 0]⟩]).length:=by simp
 refine Q6 Qi 200 func61 rfl ntmps61 results61 rfl λbase w pl hb=>?_;simp only[go_sem,Qa];obtain⟨h1,DS⟩:∃h1,h1=h++[(⟨.one,0,6,1,λ_=>x.cells⟩:Ob),⟨.one,0,3,1,λ_=>[Qb 0,Qb 0,Qb 0]⟩]:=⟨_,rfl⟩;rw[<- DS]at T1 K1 E1 Kc Vx bE;simp only[go_sem]at DS;rw[<- DS];clear DS;generalize QX own h .no=Ji at T1 K1 E1 n1;generalize ZX tw h .my=Kw at T1 K1 E1 m1;have ZI:=T1.o;have KP:=Qc ZI;have VU:=Qc Kc;have EA:=Qc Vx;obtain⟨dr,le,dm,cc,es,ms,Tb⟩:=T1.tb;have F:=QEx Tb.toR x hx;obtain⟨cls,LL⟩:∃c,c=Jj S.R (Zy x):=⟨_,rfl⟩;rw[<- LL]at F;by_cases h0:cls=0
 ·have e:X3 S op x=⟨S,⟨31,0,0⟩,[]⟩:=by unfold X3;rw[Qf (by rw[<- LL];exact h0)]
  rw[e];rw[Qf h0,h0]at F;simp only[go_sem]at Kc;apply QH hb [0,1,2,3,4,5,1006,7,8,9,10,11];simp only[go_sem,Qa,ZI,KP,Kc,VU];refine Xj hb QhH rfl ?_ F rfl λd hR=>?_
  ·simp only[go_sem,Qa,ZI,KP,Kc,VU,Vx,EA,Qs EA]
  subst hR;refine Zr hb ?_;simp only[go_sem,Qa,ZI,KP,Kc,VU,Vx,EA,Qs EA];exact⟨Ji,Kw,⟨_,_,_,_,T1.loc (n1 _ (by omega)) (.inr (m1 _ (by omega))) _⟩,E1.loc Vx nofun (by have:=Qc E.hp;omega) (by obtain⟨d,h1,_⟩:=E.ho;have:=Qc h1;omega) _,(K1.X8 hn).Fi (by omega) (by omega) _⟩
 ·have nb:h.length+1≠bp/\h.length+1≠bo:=by
   obtain⟨d,h1,_⟩:=E.ho;have:=Qc h1;have:=Qc E.hp;omega
  rw[Qd h0]at F;have P:=QDL T1.co S.Qh (by omega) cls x;simp only[go_sem]at Kc;obtain⟨err,SH⟩:∃e,e=Y3 S.M S.Qh cls x:=⟨_,rfl⟩;rw[<- SH]at P;apply QH hb [0,1,2,3,4,5,1006,7,8,9,10,11];simp only[go_sem,Qa,ZI,KP,Kc,VU];refine Xj hb QhH rfl ?_ F rfl λd hR=>?_
  ·simp only[go_sem,Qa,ZI,KP,Kc,VU,Vx,EA,Qs EA]
  subst hR;refine Zr hb ?_;simp only[go_sem,Qa,ZI,KP,Kc,VU,Vx,EA,Qs EA];apply Va [10] hb [0,1,2,3,4,5,6,7,8,9,1010,11] [];simp only[go_sem,Qa,ZI,KP,Kc,VU];refine xv hb QuU P λd h2 hR=>?_;obtain⟨rfl,JC,C2,D2⟩:=hR;have T2:=T1.core D2 C2 (LG S.M S.Qh cls x);have K2':Jw h1.length Ji Kw h1 JC (ZX Kw h1 .no) h2:=Jw.core T1.ap (QB _) D2;have K2:=K1.trans (QB _) (K2'.X8 K1.len);have E2:=E1.AY K2';have Xg:h2[h.length]? = some _:=(D2.keep _ VU (n1 _ (QB _))).trans Kc;have Jp:h2[h.length+1]? = some _:=(D2.keep _ EA (n1 _ (by omega))).trans Vx;have n2:JC (h.length+1)=.no:=(D2.same _ EA).trans (n1 _ (by omega));have n2x:JC h.length=.no:=(D2.same _ VU).trans (n1 _ (by omega));have m2:ZX Kw h1 .no (h.length+1)=.my:=(JN EA).trans (m1 _ (by omega));have m2x:ZX Kw h1 .no h.length=.my:=(JN VU).trans (m1 _ (by omega));generalize ZX Kw h1 .no=Vv at T2 K2 E2 m2 m2x;have KJ:=T2.o;have YH:=Qc KJ;have Qnd:=Qc Xg;have Yp:=Qc Jp;refine Zr hb ?_;simp only[go_sem,Qa,KJ,YH,Xg,Qnd];by_cases he:err=0
  ·have R5:(err != 0)=false:=by simpa using he
   have hS':ZV { S with M:=Jr S.M S.Qh cls x,st:=kg S.st cls S.Qh }:=(V.put cls x).Jv cls S.Qh (by show S.Qh<_;omega);have e:X3 S op x=⟨(Z2 { S with M:=Jr S.M S.Qh cls x,st:=kg S.st cls S.Qh } op S.Qh).1,⟨0,0,cls⟩,AW op S.Qh cls x::(Z2 { S with M:=Jr S.M S.Qh cls x,st:=kg S.st cls S.Qh } op S.Qh).2⟩:=by
    unfold X3;rw[Qd (by rw[<- LL];exact h0),Qf (by rw[<- LL,<- SH];exact he),<- LL]
   rw[e];have QEM:=QEt T2.st cls S.Qh (oH cls);simp only[go_sem,Qa,R5];apply Va [9] hb [0,1,2,3,4,5,6,7,8,1009] [];simp only[go_sem,Qa,KJ,YH];refine xv hb QuV QEM λd h3 hR=>?_;obtain⟨rfl,s3,st3⟩:=hR;have T3:=T2.stat s3 st3;have K3':Jw h2.length JC Vv h2 (QX JC h2 .no) (ZX Vv h2 .st) h3:=Jw.part ⟨by simp,by simp⟩ (QB _) s3;have K3:=K2.trans (QB _) (K3'.X8 K2.len);have E3:=E2.AY K3';have NG:h3[h.length]? = some _:=(s3.keep _ Qnd (by rw[m2x];simp)).trans Xg;have j7:h3[h.length+1]? = some _:=(s3.keep _ Yp (by rw[m2];simp)).trans Jp;have n3:QX JC h2 .no (h.length+1)=.no:=(Js Yp).trans n2;have m3:ZX Vv h2 .st (h.length+1)=.my:=(JN Yp).trans m2;generalize QX JC h2 .no=YI at T3 K3 E3 n3;generalize ZX Vv h2 .st=wL at T3 K3 E3 m3;have XJ:=T3.o;have j9:=Qc XJ;have QEO:=Qc NG;have DT:=Qc j7;have BN:n<=h3.length:=KZ hn K3.len;apply XF hb;apply Va [8] hb [0,1,2,3,4,5,6,7,1008] [];simp only[go_sem,Qa,XJ,j9,NG,QEO];refine Aw hb Qhu rfl ?_ (Qm8 E3 BN (by omega) (AW 0 S.Qh cls x)) rfl λd h4 hR=>?_
   ·simp only[go_sem,AW]
   obtain⟨rfl,E4,oM,st4⟩:=hR;have T4:=T3.step st4 (oJ T3.ap);have K4:=(K3.X8 hn).trans hn oM;have RI:h4[h.length+1]? = some _:=(oM.my _ DT m3).trans j7;have n4:QX YI h3 .no (h.length+1)=.no:=(Js DT).trans n3;have m4:ZX wL h3 .no (h.length+1)=.my:=(JN DT).trans m3;have WG:({ AW 0 S.Qh cls x with op:=(op:Int) }:Ev)=AW op S.Qh cls x:=rfl;rw[WG]at E4;generalize QX YI h3 .no=W3 at T4 E4 K4 oM n4;generalize ZX wL h3 .no=W6 at T4 E4 K4 oM m4;have Lm:=T4.o;have R9:=Qc Lm;have QcV:=Qc RI;have bV:n<=h4.length:=KZ hn K4.len;refine Zr hb ?_;simp only[go_sem,Qa,Lm,R9];have QEP:=Qm9 (T:=⟨_,_,_,_,T4⟩) hS' E4 bV (by simp;omega);refine Jh hb QhI QEP λd h5 hR=>?_;obtain⟨rfl,xI,SI,⟨_,_,_,_,T5⟩,E5,K5⟩:=hR;have hr5:h5[h.length+1]? = some _:=(K5.my _ QcV m4).trans RI;have n5:=(K5.s1 _ QcV).trans n4;have m5:=(K5.s2 _ QcV).trans m4;have Qnf:=Qc hr5;rw[WC]at E5;refine Qe hb ?_;simp only[go_sem,Qa,hr5,Qnf,Qs Qnf];exact⟨xI,SI,⟨_,_,_,_,T5.loc n5 (.inr m5) _⟩,E5.loc hr5 nofun nb.1 nb.2 _,(K4.trans hn K5).Fi (by omega) (by omega) _⟩
  ·have e:X3 S op x=⟨{ S with M:=Jr S.M S.Qh cls x },⟨err,0,cls⟩,[]⟩:=by unfold X3;rw[Qd (by rw[<- LL];exact h0),Qd (by rw[<- LL,<- SH];exact he),<- LL,<- SH]
   have R5:(err != 0)=true:=by simpa using he
   rw[e];simp only[go_sem,Qa,R5,Jp,Yp,Qs Yp];exact⟨JC,Vv,⟨_,_,_,_,T2.loc n2 (.inr m2) _⟩,E2.loc Jp nofun nb.1 nb.2 _,(K2.X8 hn).Fi (by omega) (by omega) _⟩
def z6.cC{own}{h}{p}{M}(C:z6 own h p M)(j:Int):(Zn M j).length<=64:=by
 unfold Zn QD;cases hn:Ql M.N j with
 | none=>exact Z7 _
 | some n=>
  show n.q.l.length<=64;cases hl:n.c.leaf with
  | true=>
   obtain⟨L,c⟩:=C.ex;obtain⟨k,hk,r,Q⟩:=c.Wy j n hn hl;have:=Q.ring.Qat
   omega
  | false=>rw[C.V.wJ j n hn hl];exact Z7 _
def SJ(f:Qw->Nat)(b):∀l:List Qw,(∀c∈l,f c<=b)->(l.map f).sum<=l.length*b
 | [],_=>by simp
 | c::l,h=>by
  have h1:=h c (by simp);have h2:=SJ f b l λd hd=>h d (by simp[hd]);simp only[J7,List.sum_cons,Vh,VL,Nat.one_mul];omega
def z6.LM{own}{h}{p}{M}(C:z6 own h p M):Zo M<=4096:=by
 have h1:=SJ (λc=>(Zn M c.iD).length) 64 M.T λc _=>C.cC c.iD;have h2:=C.I.tree.len;unfold Zo;have h3:M.T.length*64<=64*64:=qN 64 h2;omega
def cD(S:Zf)(op now:Nat):(Z2 S op now).2.length<=1:=by
 unfold Z2;split
 ·exact Z7 _
 ·split
  ·exact QB _
  ·exact Z7 _
def Jw.QcX{n}{own own'}{tw ZK}{h H:List Ob}(D:Jw n own tw h own' ZK H){p}(hp:tw p=.sys)(o):Jw n own tw h own' ZK (H.set p o):=
 ⟨D.s1,D.s2,λj h1 h2 h3=>by rw[Qk (λe=>by rw[<- e,hp]at h3;cases h3)];exact D.keep j h1 h2 h3,λj h1 h2=>by rw[Qk (λe=>by rw[<- e,hp]at h2;cases h2)];exact D.my j h1 h2,by simpa using D.len⟩
structure Qng (n:Nat) (own:Nat->Tag) (tw:Nat->TT) (h:List Ob) (p:Nat) (S:Zf) (bp bo op e:Nat) (L:List Ev) (r k:Nat) (own':Nat->Tag) (ZK:Nat->TT) (H:List Ob) (S':Zf) (L':List Ev):Prop where
 T:Kj own' ZK H p S'
 V:ZV S'
 E:jF n own' ZK H bp bo op (L++L')
 K:Jw n own tw h own' ZK H
 hr:H[r]? = some ⟨.one,0,3,1,λ_=>[Qb 0,Qb 0,Qb 0]⟩
 nr:own' r=.no
 mr:ZK r=.my
 hk:Zo S'.M+k=Zo S.M
 cl:S'.Qh<=e
 go:Zz op e (Zo S.M+1) S=((Zz op e (Zo S'.M+1) S').1,L'++(Zz op e (Zo S'.M+1) S').2)
 ln:L'.length<=k
def QEQ{n}{own}{tw}{h:List Ob}{p}{S}(T:Kj own tw h p S)(V:ZV S){bp bo op}{L:List Ev}(E:jF n own tw h bp bo op L)(hn:n<=h.length)(hL:L.length<10000000)(Jn)(YT:Jn<18446744073709551616):
  QK prog 62 h [.ptr p 0 0 0,u64 Jn,.clo 58 0 [.ptr bp 0 0 0,.ptr bo 0 0 0]] (λd h'=>d=.agg (Yo S op Jn).r.cells/\∃own' ZK,Kj own' ZK h' p (Yo S op Jn).S/\jF n own' ZK h' bp bo op (L++(Yo S op Jn).l)/\Jw n own tw h own' ZK h'):=by
 obtain⟨ps,lp,pr,pt,T⟩:=T;have ZP:=V.cl;have nb:h.length≠bp/\h.length≠bo:=by
  obtain⟨d,h1,_⟩:=E.ho;have:=Qc h1;have:=Qc E.hp;omega
 have T1:=T.YK [⟨.one,0,3,1,λ_=>[Qb 0,Qb 0,Qb 0]⟩];have K1:=Jw.app (n:=h.length) own tw h [⟨.one,0,3,1,λ_=>[Qb 0,Qb 0,Qb 0]⟩] .my (QB _);have E1:=E.AY K1;have Vx:(h++[(⟨.one,0,3,1,λ_=>[Qb 0,Qb 0,Qb 0]⟩:Ob)])[h.length]? = some ⟨.one,0,3,1,λ_=>[Qb 0,Qb 0,Qb 0]⟩:=Kx rfl;have n1:QX own h .no h.length=.no:=Xb (QB _);have m1:ZX tw h .my h.length=.my:=zf (QB _);have ho:=T.o;have Qg:=Qc ho;have w1:IntKind.u64.wrap ((4611686018427387904:Int) - (S.Qh:Int))=((4611686018427387904 - S.Qh:Nat):Int):=by rw[IntKind.wrap_u64];omega
 by_cases h0:4611686018427387904 - S.Qh<Jn
 ·have e:Yo S op Jn=⟨S,⟨27,0,0⟩,[]⟩:=by unfold Yo;rw[Qf h0]
  rw[e];have d0:=Q5 h0;refine Q6 Qi 200 func62 rfl ntmps62 results62 rfl λbase w pl hb=>?_;have Qg:=Qc ho;simp only[go_sem,Qa,ho,Qg,w1,d0];exact⟨_,_,⟨_,_,_,_,T.YK _⟩,E.AY (Jw.app own tw h _ .my (QB _)),(Jw.app own tw h _ .my (QB _)).X8 hn⟩
 ·have d0:=QN h0;obtain⟨e,he⟩:∃e,e=S.Qh+Jn:=⟨_,rfl⟩;have w2:IntKind.u64.wrap ((S.Qh:Int)+(Jn:Int))=((e:Nat):Int):=by rw[IntKind.wrap_u64];omega
  have hA:Yo S op Jn=⟨(Zz op e (Zo S.M+1) S).1,⟨0,0,0⟩,(Zz op e (Zo S.M+1) S).2⟩:=by unfold Yo;rw[Qd h0,<- he]
  rw[hA];refine Q6 Qi 200 func62 rfl ntmps62 results62 rfl λbase w pl hb=>?_;have Qg:=Qc ho;simp only[go_sem,Qa,ho,Qg,w1,d0,w2];have A0:Qng n own tw h p S bp bo op e L h.length 0 (QX own h .no) (ZX tw h .my) (h++[(⟨.one,0,3,1,λ_=>[Qb 0,Qb 0,Qb 0]⟩:Ob)]) S []:=
   ⟨⟨_,_,_,_,T1⟩,V,by rw[QU];exact E1,K1.X8 hn,Vx,n1,m1,by omega,by omega,rfl,QB _⟩
  have QMx:=T.co.LM;refine Jg (λk s=>∃own' ZK H S' L',Qng n own tw h p S bp bo op e L h.length k own' ZK H S' L'/\s=⟨[(0,.ptr p 0 0 0),(2,.clo 58 0 [.ptr bp 0 0 0,.ptr bo 0 0 0]),(6,.ptr h.length 0 0 0),(7,u64 e)],H⟩) (Zo S.M) QQ ⟨_,_,_,S,[],A0,rfl⟩ ?_;clear A0 T1 K1 E1 Vx n1 m1;rintro k _ hk ⟨JC,Vv,H,S2,L2,A,rfl⟩;obtain⟨SK,SL,SM,SN,T2⟩:=A.T;have KJ:=T2.o;have YH:=Qc KJ;have N:=QcT ⟨SK,SL,SM,SN,T2⟩;obtain⟨nx,zd⟩:∃nx,nx=QP S2:=⟨_,rfl⟩;rw[<- zd]at N;have Jp:=A.hr;have Yp:=Qc Jp;have pb:p≠bp/\p≠bo:=⟨λe=>(by have h1:=T2.tp;rw[e,A.E.tp]at h1;cases h1),λe=>(by have h1:=T2.tp;rw[e,A.E.to]at h1;cases h1)⟩;have Fx:p≠h.length:=λe=>by have:=T.o;have:=Qc this;omega
  apply QC hb;refine ZN hb sW N λd hR=>?_;subst hR;refine Qe hb ?_;simp only[go_sem,Qa,KJ,YH];by_cases Qz:e<nx
  ·have d1:=Q5 Qz;have yf:Zz op e (Zo S2.M+1) S2=({ S2 with Qh:=e },[]):=by
    unfold Zz;rw[Qf (by rw[<- zd];exact Qz)]
   have hg:=A.go;rw[yf,QU]at hg;rw[hg];simp only[go_sem,Qa,d1,KJ,YH,Qk Fx,Jp,Yp,Qs];have hr9:(H.set p (kh SK SL SM SN e S2.ops))[h.length]? = some ⟨.one,0,3,1,λ_=>[Qb 0,Qb 0,Qb 0]⟩:=(Qk Fx).trans Jp;exact⟨JC,Vv,⟨_,_,_,_,(T2.clock e S2.ops).loc A.nr (.inr A.mr) _⟩,(A.E.loc KJ nofun pb.1 pb.2 _).loc hr9 nofun nb.1 nb.2 _,(A.K.QcX T.tp _).Fi hn (QB _) _⟩
  ·have d1:=QN Qz;have hle:QP S2<=e:=by omega
   obtain⟨V3,c1,c2,c3⟩:=Oj A.V op (by omega) hle;have yf:Zz op e (Zo S2.M+1) S2=((Zz op e (Zo S2.M) (Z2 { S2 with Qh:=QP S2 } op (QP S2)).1).1,(Z2 { S2 with Qh:=QP S2 } op (QP S2)).2++(Zz op e (Zo S2.M) (Z2 { S2 with Qh:=QP S2 } op (QP S2)).1).2):=by
    conv=>lhs;unfold Zz
    rw[Qd (by rw[<- zd];exact Qz)]
   have hg:=A.go;rw[yf,<- c1,<- WC]at hg;have Zk:=cD { S2 with Qh:=QP S2 } op (QP S2);subst zd;have T3:=T2.clock (QP S2) S2.ops;have V2:ZV { S2 with Qh:=QP S2,ops:=S2.ops }:=A.V.at_ c2 (by omega);have E3:=A.E.loc KJ nofun pb.1 pb.2 (kh SK SL SM SN (QP S2) S2.ops);have j7:(H.set p (kh SK SL SM SN (QP S2) S2.ops))[h.length]? = some _:=(Qk Fx).trans Jp;have K3:=A.K.QcX T.tp (kh SK SL SM SN (QP S2) S2.ops);have BN:n<=(H.set p (kh SK SL SM SN (QP S2) S2.ops)).length:=KZ hn K3.len;have Bx:=A.ln;have Ah:=A.hk;have P:=Qm9 (T:=⟨_,_,_,_,T3⟩) V2 E3 BN (by rw[Zj];omega);simp only[go_sem,Qa,d1,KJ,YH];refine Jh hb QhI P λd h5 hR=>?_;obtain⟨rfl,xI,SI,T5,E5,K5⟩:=hR;have DT:=Qc j7;apply QC hb;have QES:Zo (Z2 { S2 with Qh:=QP S2 } op (QP S2)).1.M+(k+1)=Zo S.M:=by omega
   have QET:(L2++(Z2 { S2 with Qh:=QP S2 } op (QP S2)).2).length<=k+1:=by rw[Zj];omega
   refine⟨by omega,_,Qp.frame (fr':=[(0,.ptr p 0 0 0),(2,.clo 58 0 [.ptr bp 0 0 0,.ptr bo 0 0 0]),(6,.ptr h.length 0 0 0),(7,u64 e)]) (by simp only[go_sem]),xI,SI,h5,_,L2++(Z2 { S2 with Qh:=QP S2 } op (QP S2)).2,⟨T5,V3,by rw[<- WC];exact E5,K3.trans hn K5,(K5.my _ DT A.mr).trans j7,(K5.s1 _ DT).trans A.nr,(K5.s2 _ DT).trans A.mr,QES,by rw[c3];exact hle,hg,QET⟩,rfl⟩
def Cg(tw:Nat->TT)(n:Nat):Nat->TT:=λl=>if l=n+2\/l=n+3 then .no else if n<=l then .my else tw l
def oN{tw}{n l}(h:l<n):Cg tw n l=tw l:=by unfold Cg;rw[Qd (by omega),Qd (by omega)]
def Qnh{tw}{n l}(h:l=n+2\/l=n+3):Cg tw n l=.no:=by unfold Cg;rw[Qf h]
def QEU{tw}{n l}(h:n<=l)(h2:l≠n+2)(h3:l≠n+3):Cg tw n l=.my:=by unfold Cg;rw[Qd (by omega),Qf h]
structure LN (S:Zf):Prop where
 ca:∀k,(S.st.Jv k).length<=S.ops
structure Hl (own:Nat->Tag) (tw:Nat->TT) (h:List Ob) (p:Nat) (op:Nat) (S':Zf) (L:List Ev) (r:qF) (own':Nat->Tag) (ZK:Nat->TT) (H:List Ob) (d:D):Prop where
 T:Kj own' ZK H p S'
 E:jF h.length own' ZK H (h.length+3) (h.length+2) op L
 K:Jw h.length own tw h own' ZK H
 CN:H[h.length+1]? = some ⟨.one,0,3,1,λ_=>[Qb 0,Qb 0,Qb 0]⟩
 hr:H[h.length+4]? = some ⟨.one,0,3,1,λ_=>r.cells⟩
 ho:H[h.length+2]? = some (Ce d)
 hs:WA (λl=>h.length<=l/\own' l=.no/\ZK l=.no/\l≠h.length+3/\l≠h.length+2) H 12 Ev.cells d L
 n1:own' (h.length+1)=.no
 m1:ZK (h.length+1)=.my
 n4:own' (h.length+4)=.no
 m4:ZK (h.length+4)=.my
def DoR(own:Nat->Tag)(tw:Nat->TT)(h:List Ob)(p:Nat)(Y:Fw)(d:D)(h':List Ob):Prop:=
 ∃dl own' ZK,d=.tup [.agg Y.r.cells,dl]/\Kj own' ZK h' p Y.S/\WA (λl=>h.length<=l/\own' l=.no/\ZK l=.no) h' 12 Ev.cells dl Y.l/\Jw h.length own tw h own' ZK h'
def Hl.done{own}{tw}{h}{p op}{S'}{L}{r}{own'}{ZK}{H}{d}(I:Hl own tw h p op S' L r own' ZK H d)(o):
  DoR own tw h p ⟨S',r,L⟩ (.tup [.agg r.cells,d]) (H.set (h.length+1) o):=by
 obtain⟨ps,lp,pr,pt,T⟩:=I.T;refine⟨d,own',ZK,rfl,⟨_,_,_,_,T.loc I.n1 (.inr I.m1) o⟩,I.hs.imp id λ⟨lo,g,row,h1,h2,h3,h4⟩=>⟨lo,g,row,h1,⟨h2.1,h2.2.1,h2.2.2.1⟩,by rw[Qk (X4 I.CN h3 (.inl nofun))];exact h3,h4⟩,I.K.Fi (by omega) (by omega) o⟩
def Hl.next{own}{tw}{h}{p op}{S'}{L}{r}{Ji}{Kw}{H}{d}(I:Hl own tw h p op S' L r Ji Kw H d){S2}{L2}{JC}{Vv}{H2}
  (T2:Kj JC Vv H2 p S2) (E2:jF h.length JC Vv H2 (h.length+3) (h.length+2) op L2) (K2:Jw h.length Ji Kw H JC Vv H2):∃d2,Hl own tw h p op S2 L2 r JC Vv H2 d2:=by
 obtain⟨d2,a1,a2⟩:=E2.ho;have l1:=Qc I.CN;have l4:=Qc I.hr;exact⟨d2,T2,E2,I.K.trans (QB _) K2,(K2.my _ l1 I.m1).trans I.CN,(K2.my _ l4 I.m4).trans I.hr,a1,a2,(K2.s1 _ l1).trans I.n1,(K2.s2 _ l1).trans I.m1,(K2.s1 _ l4).trans I.n4,(K2.s2 _ l4).trans I.m4⟩
def Hl.cE{own}{tw}{h:List Ob}{p op}{S'}{L}{r}{Ji}{Kw}{H:List Ob}{d}(I:Hl own tw h p op S' L r Ji Kw H d)(r2:qF):Hl own tw h p op S' L r2 Ji Kw (H.set (h.length+4) ⟨.one,0,3,1,λ_=>r2.cells⟩) d:=by
 obtain⟨ps,lp,pr,pt,T⟩:=I.T;exact⟨⟨_,_,_,_,T.loc I.n4 (.inr I.m4) _⟩,I.E.loc I.hr nofun (by omega) (by omega) _,I.K.Fi (by omega) (by omega) _,by rw[Qk (by omega)];exact I.CN,Qs (Qc I.hr),by rw[Qk (by omega)];exact I.ho,
  I.hs.imp id λ⟨lo,g,row,h1,h2,h3,h4⟩=>⟨lo,g,row,h1,h2,by rw[Qk (X4 I.hr h3 (.inl nofun))];exact h3,h4⟩,I.n1,I.m1,I.n4,I.m4⟩
def Fz{own}{tw}{h}{p}{S:Zf}(T:Kj own tw h p S)(V:ZV S)(hC:LN S)(jG:S.ops<1000000)(o:QZ)(ho:QZ.Ok o)(hc:o.changes.length<1000000)(Ku:o.rules.length<1000000):
  QK prog 16 h [.ptr p 0 0 0,.agg o.cells] (λd h'=>DoR own tw h p (QY S o) d h'):=by
 obtain⟨ps,lp,pr,pt,T⟩:=T;have hp:=T.o;have SF:=Qc hp;have QT:=JX (show S.ops<4611686018427387904 by omega);have eS:QY S o=JA { S with ops:=S.ops+1 } S.ops o:=rfl;rw[eS];obtain⟨S1,RK⟩:∃S1,S1={ S with ops:=S.ops+1 }:=⟨_,rfl⟩;have T0:WM own tw (h.set p (kh ps lp pr pt S.Qh (S.ops+1))) p ps lp pr pt { S with ops:=S.ops+1 }:=T.clock S.Qh (S.ops+1);rw[<- RK]at T0 ⊢;obtain⟨H,hH⟩:∃H,H=h.set p (kh ps lp pr pt S.Qh (S.ops+1))++[(⟨.one,0,10,1,λ_=>o.cells⟩:Ob),⟨.one,0,3,1,λ_=>[Qb 0,Qb 0,Qb 0]⟩,Ce .nil,Ce (Qb S.ops),⟨.one,0,3,1,λ_=>[Qb 1,Qb 0,Qb 0]⟩]:=⟨_,rfl⟩;have XX:(h.set p (kh ps lp pr pt S.Qh (S.ops+1))).length=h.length:=by simp
 have ne:∀l,l<h.length->(Cg tw h.length l)=tw l:=λl hl=>oN hl;have T1:WM (QX own h .no) (Cg tw h.length) H p ps lp pr pt S1:=by
  rw[hH];refine T0.step (λl hl=>⟨λ_=>⟨Js (by rw[<- XX];exact hl),Qx hl⟩,λ_ _=>⟨oN (by rw[<- XX];exact hl),Qx hl⟩⟩) λl hl=>?_;by_cases h1:l<h.length
  ·rw[oN h1]at hl;rw[Js h1];exact T.ap l hl
  ·exact Xb (by omega)
 have K1:Jw h.length own tw h (QX own h .no) (Cg tw h.length) H:=by
  rw[hH];refine⟨λl hl=>Js hl,λl hl=>oN hl,λl hl h1 h2=>?_,λl hl h1=>?_,by simp⟩
  ·rw[Qx (by rw[XX];exact hl),Qk (λe=>by rw[<- e,T.tp]at h2;cases h2)]
  ·rw[Qx (by rw[XX];exact hl),Qk (λe=>by rw[<- e,T.tp]at h1;cases h1)]
 have at_:∀k x,[(⟨.one,0,10,1,λ_=>o.cells⟩:Ob),⟨.one,0,3,1,λ_=>[Qb 0,Qb 0,Qb 0]⟩,Ce .nil,Ce (Qb S.ops),⟨.one,0,3,1,λ_=>[Qb 1,Qb 0,Qb 0]⟩][k]? = some x->H[h.length+k]? = some x:=λk x hk=>by
  rw[hH,Vr (k:=k) XX];exact hk
 have E1:jF h.length (QX own h .no) (Cg tw h.length) H (h.length+3) (h.length+2) S.ops []:=
  ⟨at_ 3 _ rfl,⟨.nil,at_ 2 _ rfl,.inl ⟨rfl,rfl⟩⟩,by omega,by omega,Xb (by omega),Xb (by omega),Qnh (.inr rfl),Qnh (.inl rfl),by omega⟩
 have ZI:H[h.length]? = some ⟨.one,0,10,1,λ_=>o.cells⟩:=at_ 0 _ rfl;have cF:=at_ 1 _ rfl;have cG:=at_ 2 _ rfl;have Vx:=at_ 4 _ rfl;have n1:∀i,h.length<=i->QX own h .no i=.no:=λi hi=>Xb hi;have m1:∀i,h.length<=i->i≠h.length+2->i≠h.length+3->Cg tw h.length i=.my:=λi hi h2 h3=>QEU hi h2 h3;clear at_ ne XX;generalize Gk:QX own h .no=Ji at T1 K1 E1 n1;generalize SO:Cg tw h.length=Kw at T1 K1 E1 m1;have Ys:=T1.o;have QcY:=Qc Ys;have KP:=Qc ZI;have Qnj:=Qc cF;have Qnk:=Qc cG;have EA:=Qc Vx;have QMy:S1.Qh=S.Qh:=by rw[RK]
 have V1:ZV S1:=by rw[RK];exact V.ops _
 have KX:h.length<=H.length:=K1.len;refine Q6 Qi 200 func16 rfl ntmps16 results16 rfl λbase w pl hb=>?_;have SF:=Qc hp;simp only[go_sem,Qa,hp,SF,QT];simp only[go_sem]at hH ZI Vx cF cG;rw[<- hH];clear hH;have tn:h.length+1≠h.length+2:=by omega
 have cH:h.length+4≠h.length+2:=by omega
 have cI:h.length+4≠h.length+1:=by omega
 have I0:Hl own tw h p S.ops S1 [] ⟨1,0,0⟩ Ji Kw H .nil:=⟨⟨_,_,_,_,T1⟩,E1,K1,cF,Vx,cG,.inl ⟨rfl,rfl⟩,n1 _ (by omega),m1 _ (by omega) (by omega) (by omega),n1 _ (by omega),m1 _ (by omega) (by omega) (by omega)⟩;obtain⟨Eu,⟨_,B4⟩,⟨_,hru⟩,hpk,YT,_⟩:=ho;by_cases k1:o.kind=1
 ·have b1:(o.kind==1)=true:=by simpa using k1
  obtain⟨la,lb,lc,ZB⟩:=T1.ln;have F:=QcI (Z3 ZB) S1.Qh;obtain⟨bf,hbf⟩:∃b,b=decide (S1.JI<=S1.Qh):=⟨_,rfl⟩;have e:JA S1 S.ops o=⟨{ S1 with M:=Ke S1.M bf o.changes },⟨zX S1.M bf o.changes,AQ S1.M o.changes,0⟩,[]⟩:=by unfold JA;rw[Qf k1,<- hbf]
  rw[e];rw[<- hbf]at F;have C:=QDN T1.co bf o.changes B4 hc;obtain⟨ce,hce⟩:∃x,x=zX S1.M bf o.changes:=⟨_,rfl⟩;obtain⟨ca,oH⟩:∃x,x=AQ S1.M o.changes:=⟨_,rfl⟩;rw[<- hce,<- oH]at C ⊢;simp only[go_sem,Qa,b1];apply Va [15] hb [0,1,2,3,4,5,6,7,8,9,10,11,13,14,1012,1015,16,17,18,19,20] [];simp only[go_sem,Qa,Ys,QcY,ZI,KP];refine Yh hb iP F λd hR=>?_;subst hR;refine Zr hb ?_;simp only[go_sem,Qa,Ys,QcY,ZI,KP];refine xv hb QuA C λd h2 hR=>?_;obtain⟨rfl,JC,C2,D2⟩:=hR;have T2:=T1.core D2 C2 (Sy S1.M bf o.changes);have K2:Jw H.length Ji Kw H JC (ZX Kw H .no) h2:=Jw.core T1.ap (QB _) D2;obtain⟨d2,I2⟩:=I0.next ⟨_,_,_,_,T2⟩ (E1.AY K2) (K2.X8 KX);have I:=I2.cE ⟨ce,ca,0⟩;have Jp:=I2.hr;have Yp:=Qc Jp;have Jb:=I2.ho;have wG:=Qc Jb;have JL:=I2.CN;have B8:=Qc JL;refine Zr hb ?_;simp only[go_sem,Qa,Jp,Yp];apply Va [] hb [0] [1,2,3];simp only[go_sem,Qa,Jp,Yp,Jb,wG,JL,B8,Qs,Qk tn,Qk cH,Qk cI];exact⟨I.done _,I.done _⟩
 have b1:(o.kind==1)=false:=by simpa using k1
 by_cases k2:o.kind=2
 ·have b2:(o.kind==2)=true:=by simpa using k2
  have R:=Qm5 H o.rules Ku;by_cases Lg:qE o.rules=0
  ·have e:JA S1 S.ops o=⟨{ S1 with R:=o.rules },⟨0,0,0⟩,[]⟩:=by unfold JA;rw[Qd k1,Qf k2,Qf Lg]
   rw[e];simp only[go_sem,Qa,b1,b2,ZI,KP];refine Jh hb sU R λd h2 hR=>?_;obtain⟨g,rfl,On,_⟩:=hR;obtain⟨p2,rfl,hT⟩:=On Lg;have T2:=T1.rules hT;have oO:(H++g)[p]? = some _:=(Qx QcY).trans Ys;have Qnn:=Qc oO;have K2:Jw H.length Ji Kw H (QX Ji H .no) (ZX Kw H .LI) (H++g):=Jw.app Ji Kw H g .LI (QB _);have E2:=(E1.AY K2).loc oO nofun (by have:=Qc T.o;omega) (by have:=Qc T.o;omega) (kh ps lp p2 pt S1.Qh S1.ops);obtain⟨d2,I2⟩:=I0.next ⟨_,_,_,_,T2⟩ E2 ((K2.X8 KX).QcX T1.tp _);have I:=I2.cE ⟨0,0,0⟩;have Jp:=I2.hr;have Yp:=Qc Jp;have Jb:=I2.ho;have wG:=Qc Jb;have JL:=I2.CN;have B8:=Qc JL;have Zk:=Qc T.o;have p4:p≠h.length+4:=by omega
   have p2':p≠h.length+2:=by omega
   have p1':p≠h.length+1:=by omega
   have hrg:(H++g)[h.length+4]? = some _:=(Qx EA).trans Vx;have hbg:(H++g)[h.length+2]? = some _:=(Qx Qnk).trans cG;have hsg:(H++g)[h.length+1]? = some _:=(Qx Qnj).trans cF;have Qc1:=Qc hrg;have Qnq:=Qc hbg;have Qnr:=Qc hsg;have KN:d2=.nil:=by
    have h5:=I2.ho;rw[Qk p2',hbg]at h5;simp only[Ce,Za,Ob.mk.injEq,Bd]at h5;have:=congrFun h5 0;simp only[Mh,and_true]at this;exact this.symm
   rw[KN]at I;have x4:h.length+4<H.length+g.length:=by have:=Qc1;simpa using this
   have x2:h.length+2<H.length+g.length:=by have:=Qnq;simpa using this
   have x1:h.length+1<H.length+g.length:=by have:=Qnr;simpa using this
   refine Qe hb ?_;simp only[go_sem,Qa,oO,Qnn,Qk p4,hrg,Qc1,Qs];apply Va [] hb [0] [1,2,3];simp only[go_sem,Qa,x4,x2,x1,oO,Qnn,Qk p4,Qk p2',Qk p1',hrg,Qc1,hbg,Qnq,hsg,Qnr,Qs,Qk tn,Qk cH,Qk cI];exact⟨I.done _,I.done _⟩
  ·have e:JA S1 S.ops o=⟨S1,⟨qE o.rules,0,0⟩,[]⟩:=by unfold JA;rw[Qd k1,Qf k2,Qd Lg]
   have Qns:(qE o.rules==0)=false:=by simpa using Lg
   rw[e];obtain⟨re,QEY⟩:∃x,x=qE o.rules:=⟨_,rfl⟩;rw[<- QEY]at R Qns Lg ⊢;simp only[go_sem,Qa,b1,b2,ZI,KP];refine Jh hb sU R λd h2 hR=>?_;obtain⟨g,rfl,_,On⟩:=hR;have hd:=On Lg;subst hd;have K2:Jw H.length Ji Kw H (QX Ji H .no) (ZX Kw H .my) (H++g):=Jw.app Ji Kw H g .my (QB _);obtain⟨d2,I2⟩:=I0.next ⟨_,_,_,_,T1.YK g⟩ (E1.AY K2) (K2.X8 KX);have I:=I2.cE ⟨re,0,0⟩;have Jp:=I2.hr;have Yp:=Qc Jp;have Jb:=I2.ho;have wG:=Qc Jb;have JL:=I2.CN;have B8:=Qc JL;have x4:h.length+4<H.length+g.length:=by have:=Yp;simpa using this
   have x2:h.length+2<H.length+g.length:=by have:=wG;simpa using this
   have x1:h.length+1<H.length+g.length:=by have:=B8;simpa using this
   refine Qe hb ?_;simp only[go_sem,Qa,Qns,Jp,Yp];apply Va [] hb [0] [1,2,3];simp only[go_sem,Qa,x4,x2,x1,Jp,Yp,Jb,wG,JL,B8,Qs,Qk tn,Qk cH,Qk cI];exact⟨I.done _,I.done _⟩
 have b2:(o.kind==2)=false:=by simpa using k2
 by_cases k3:o.kind=3
 ·have b3:(o.kind==3)=true:=by simpa using k3
  have e:JA S1 S.ops o=X3 S1 S.ops o.Zw:=by unfold JA;rw[Qd k1,Qd k2,Qf k3]
  rw[e];obtain⟨DS,SG,cB,LO⟩:cu o.Zw:=by
   obtain⟨_,_,a0,a1,a2,a3,_⟩:=hpk;have:=wf_u16 a0;have:=wf_u16 a1;have:=wf_u16 a2;have:=wf_u16 a3;exact⟨⟨by omega,by omega⟩,⟨by omega,by omega⟩,⟨by omega,by omega⟩,⟨by omega,by omega⟩⟩
  have P:=QEK ⟨_,_,_,_,T1⟩ V1 E1 KX (by simp) (λk=>by rw[RK];have:=hC.ca k;show (S.st.Jv k).length<1000000;omega) o.Zw ⟨DS,SG,cB,LO⟩;obtain⟨Y,hY⟩:∃Y,Y=X3 S1 S.ops o.Zw:=⟨_,rfl⟩;rw[<- hY]at P ⊢;simp only[go_sem,Qa,b1,b2,b3,ZI,KP];refine Jh hb QuB P λd h2 hR=>?_;obtain⟨rfl,JC,Vv,T2,E2,K2⟩:=hR;rw[zo]at E2;obtain⟨d2,I2⟩:=I0.next T2 E2 K2;have I:=I2.cE Y.r;have Jp:=I2.hr;have Yp:=Qc Jp;have Jb:=I2.ho;have wG:=Qc Jb;have JL:=I2.CN;have B8:=Qc JL;refine Qe hb ?_;simp only[go_sem,Qa,Jp,Yp];apply Va [] hb [0] [1,2,3];simp only[go_sem,Qa,Jp,Yp,Jb,wG,JL,B8,Qs,Qk tn,Qk cH,Qk cI];exact⟨I.done _,I.done _⟩
 have b3:(o.kind==3)=false:=by simpa using k3
 by_cases k4:o.kind=4
 ·have b4:(o.kind==4)=true:=by simpa using k4
  have e:JA S1 S.ops o=Yo S1 S.ops o.Jn.toNat:=by unfold JA;rw[Qd k1,Qd k2,Qd k3,Qf k4]
  rw[e];have hw:=wf_u64 YT;have P:=QEQ ⟨_,_,_,_,T1⟩ V1 E1 KX (by simp) o.Jn.toNat (by omega);obtain⟨Y,hY⟩:∃Y,Y=Yo S1 S.ops o.Jn.toNat:=⟨_,rfl⟩;rw[<- hY,show u64 o.Jn.toNat=.raw (.int .u64 o.Jn) by show D.raw (.int .u64 (o.Jn.toNat:Int))=_;rw[Ea hw.1]]at P;rw[<- hY];simp only[go_sem,Qa,b1,b2,b3,b4,ZI,KP];refine Jh hb QuC P λd h2 hR=>?_;obtain⟨rfl,JC,Vv,T2,E2,K2⟩:=hR;rw[zo]at E2;obtain⟨d2,I2⟩:=I0.next T2 E2 K2;have I:=I2.cE Y.r;have Jp:=I2.hr;have Yp:=Qc Jp;have Jb:=I2.ho;have wG:=Qc Jb;have JL:=I2.CN;have B8:=Qc JL;refine Qe hb ?_;simp only[go_sem,Qa,Jp,Yp];apply Va [] hb [0] [1,2,3];simp only[go_sem,Qa,Jp,Yp,Jb,wG,JL,B8,Qs,Qk tn,Qk cH,Qk cI];exact⟨I.done _,I.done _⟩
 have b4:(o.kind==4)=false:=by simpa using k4
 have e:JA S1 S.ops o=⟨S1,⟨1,0,0⟩,[]⟩:=by unfold JA;rw[Qd k1,Qd k2,Qd k3,Qd k4]
 rw[e];simp only[go_sem,Qa,b1,b2,b3,b4];apply Va [] hb [0] [1,2,3];simp only[go_sem,Qa,Vx,EA,cG,Qnk,cF,Qnj,Qs,Qk tn];exact⟨I0.done _,I0.done _⟩
def QEZ(h:List Ob):QK prog 56 h [.nil] (λd h'=>∃g p,h'=h++g/\d=.tup [.ptr p 0 0 0,Qb 0]/\LJ (λj=>h.length<=j) (h++g) p []):=
 (QK.PQ (cs':=[.nil]) (Qm5 h [] (by decide)) ⟨rfl,trivial⟩).mono λd h' ⟨g,h1,h2,_⟩=>by
  obtain⟨p,h3,h4⟩:=h2 rfl;exact⟨g,p,h1,h3,h4⟩
def zg.fresh(h:List Ob)(S)(hS:∀j,h.length<=j->S j):zg S (h++[QS .i64 0 [],QS .i64 0 [],ox h.length (h.length+1)]) (h.length+2) ⟨λ_=>[],λ_=>default⟩:=
 ⟨h.length,h.length+1,0,[],0,[],Vr (k:=2) rfl,Kx rfl,Vr (k:=1) rfl,by omega,hS _ (by omega),hS _ (by omega),hS _ (by omega),λk=>.inl ⟨rfl,rfl⟩,λk k' lo g off n g' jg n' h1=>(by cases h1),λk=>rfl⟩
def cJ{own}{tw}(ap:∀l,tw l≠.no->own l=.no)(h){c}(K:XK c):
  QK prog 15 h [.agg c.cells] (λd h'=>∃own' ZK p,d=.tup [.ptr p 0 0 0,Qb 0]/\Kj own' ZK h' p (S0 c)/\Jw h.length own tw h own' ZK h'):=by
 have ZI:(h++[(⟨.one,0,2,1,λ_=>c.cells⟩:Ob)])[h.length]? = some ⟨.one,0,2,1,λ_=>c.cells⟩:=Kx rfl;have hN:=QDO (QX own h .no) (h++[(⟨.one,0,2,1,λ_=>c.cells⟩:Ob)]) K;have K1:=Jw.app own tw h [(⟨.one,0,2,1,λ_=>c.cells⟩:Ob)] .no (QB _);have SQ:=oJ (h:=h) ap;have n1:QX own h .no h.length=.no:=Xb (QB _);refine Q6 Qi 200 func15 rfl ntmps15 results15 rfl λbase w pl hb=>?_;simp only[go_sem,Qa];obtain⟨h1,DS⟩:∃x,x=h++[(⟨.one,0,2,1,λ_=>c.cells⟩:Ob)]:=⟨_,rfl⟩;rw[<- DS]at ZI hN K1;simp only[go_sem]at DS;rw[<- DS];clear DS;have KP:=Qc ZI;generalize QX own h .no=Ji at hN K1 SQ n1;generalize ZX tw h .no=Kw at K1 SQ;refine Jh hb Qux hN λd h2 hR=>?_;obtain⟨JC,ps,rfl,C2,D2⟩:=hR;have K2:=K1.trans (QB _) ((Jw.core SQ (QB _) D2).X8 K1.len);have KJ:h2[h.length]? = some _:=(D2.keep _ KP n1).trans ZI;have YH:=Qc KJ;refine Qe hb ?_;simp only[go_sem,Qa,KJ,YH];refine qZ hb Quy (QEj h2 K.t1 K.t2) λd h hR=>?_;obtain⟨rfl,rfl⟩:=hR;apply QC hb;refine Jh hb sU (QEZ _) λd h4 hR=>?_;obtain⟨g,pr,LO,rfl,Tb⟩:=hR;apply QC hb;refine Jh hb Quz (QEs h4) λd h5 hR=>?_;obtain⟨rfl,hh5⟩:=hR;apply QC hb;have LO:h4=(h2++[kj 0 0 0 c.t 0])++g:=LO;have Tb:LJ (λj=>(h2++[kj 0 0 0 c.t 0]).length<=j) ((h2++[kj 0 0 0 c.t 0])++g) pr []:=Tb;rw[<- LO]at Tb;have l3:(h2++[kj 0 0 0 c.t 0]).length=h2.length+1:=by simp
 rw[l3]at Tb;have l4:h2.length+1<=h4.length:=by rw[LO,Zj,l3];omega
 have l5:h5.length=h4.length+3:=by rw[hh5];simp
 have e4:∀l,l<h2.length->h4[l]? = h2[l]? := λl hl=>by rw[LO,WC,Qx hl]
 have e5:∀l,l<h4.length->h5[l]? = h4[l]? := λl hl=>by rw[hh5,Qx hl]
 have Bx:h4[h2.length]? = some (kj 0 0 0 c.t 0):=by rw[LO,WC];exact Kx rfl
 have ZF:zg (λl=>h4.length<=l) h5 (h4.length+2) ⟨λ_=>[],λ_=>default⟩:=by rw[hh5];exact zg.fresh h4 _ λ_ h=>h
 obtain⟨H,hH⟩:∃H,H=h5++[kh ps h2.length pr (h4.length+2) 0 0]:=⟨_,rfl⟩;have e6:∀l,l<h5.length->H[l]? = h5[l]? := λl hl=>by rw[hH,Qx hl]
 have hp:H[h5.length]? = some (kh ps h2.length pr (h4.length+2) 0 0):=by rw[hH];exact Kx rfl
 obtain⟨LP,SO⟩:∃t:Nat->TT,t=λl=>if l<h2.length then ZX Kw h1 .no l else if l=h2.length then .ln else if l<h4.length then .LI else if l<h5.length then .st else if l=h5.length then .sys else .no:=⟨_,rfl⟩;have t0:∀l,l<h2.length->LP l=ZX Kw h1 .no l:=λl hl=>by rw[SO];dsimp only;rw[Qf hl]
 have t1:LP h2.length=.ln:=by rw[SO];dsimp only;rw[Qd (by omega),Qf rfl]
 have t2:∀l,h2.length+1<=l->l<h4.length->LP l=.LI:=λl h1 h2=>by rw[SO];dsimp only;rw[Qd (by omega),Qd (by omega),Qf h2]
 have t3:∀l,h4.length<=l->l<h5.length->LP l=.st:=λl h1 h2=>by rw[SO];dsimp only;rw[Qd (by omega),Qd (by omega),Qd (by omega),Qf h2]
 have t4:LP h5.length=.sys:=by rw[SO];dsimp only;rw[Qd (by omega),Qd (by omega),Qd (by omega),Qd (by omega),Qf rfl]
 have X:WM (QX JC h2 .no) LP H h5.length ps h2.length pr (h4.length+2) (S0 c):=by
  refine⟨hp,t4,C2.step λl hl _=>⟨Js hl,by rw[e6 l (by omega),e5 l (by omega),e4 l hl]⟩,⟨0,0,0,?_⟩,t1,Tb.step λj hj h1=>⟨t2 j h1 hj,by rw[e6 j (by omega),e5 j hj]⟩,ZF.step λj hj h1=>⟨t3 j h1 hj,e6 j hj⟩,λl hl=>?_⟩
  ·rw[e6 _ (by omega),e5 _ (by omega)];exact Bx
  ·by_cases h6:l<h2.length
   ·rw[t0 l h6]at hl;rw[Js h6];by_cases h7:l<h1.length
    ·rw[JN h7]at hl;rw[D2.same l h7];exact SQ l hl
    ·rw[zf (by omega)]at hl;exact absurd rfl hl
   ·exact Xb (by omega)
 have KH:Jw h.length own tw h (QX JC h2 .no) LP H:=by
  have hle:=K2.len;exact⟨λl hl=>by rw[Js (by omega)];exact K2.s1 l hl,λl hl=>by rw[t0 l (by omega)];exact K2.s2 l hl,λl hl h1 h2=>by rw[e6 l (by omega),e5 l (by omega),e4 l (by omega)];exact K2.keep l hl h1 h2,λl hl h1=>by rw[e6 l (by omega),e5 l (by omega),e4 l (by omega)];exact K2.my l hl h1,by rw[hH];simp;omega⟩
 subst hH;exact⟨_,LP,_,rfl,⟨_,_,_,_,X⟩,KH⟩
end Go.Fg.X
namespace Go.Fg.X
open Go.Proofs Go.Fg
open Go.RowKit (Below)
open Go.Proofs.Tryz
def Oo{P}{f}{args}{R}(d2:D)(hu:d2.upto 0=true)
  (hd:∀d hh,R d hh->J3 6 d d2\/(∃lo g sz n row,hh[lo]? = some ⟨.arr,g,sz,n,row⟩/\(∀i,i<n->(row i).all D.WS=true)/\J3 6 (D.fz lo g n sz row d) d2) \/
   ∃lo g sz n row DU g' Oq n' KO,hh[lo]? = some ⟨.arr,g,sz,n,row⟩/\hh[DU]? = some ⟨.arr,g',Oq,n',KO⟩/\DU≠lo/\(∀i,i<n->(row i).all D.WS=true)/\(∀i,i<n'->(KO i).all D.WS=true)/\J3 6 (D.fz DU g' n' Oq KO (D.fz lo g n sz row d)) d2) (h:Q4 P f args R):Q4 P f args (Qn d2):=by
 intro Z base w pl vs h1 h2 h3 hl hc;have Zk:pl=[]:=by have:=h3.len;simpa using this
 subst Zk;refine(h Z base w [] vs h1 h2 h3 hl hc).mono λe w' he=>?_;obtain⟨v,d,hh,Qm,rfl,hR,hO,hV,hT,hB⟩:=he;suffices fin:QE Z [] [] w' d2 v by
  exact⟨v,_,[],[],rfl,⟨rfl,rfl⟩,Zv.nil,fin,⟨λb hb Qc=>⟨hb,(hT.KE b hb Qc).2⟩,λl o p e=>by simp at e,λl o o' b q e=>by simp at e⟩,hB⟩
 rcases hd _ _ hR with hle|⟨lo,g,sz,n,row,Zm,ZP,hle⟩|⟨lo,g,sz,n,row,DU,g',Oq,n',KO,Zm,Qc3,QE0,ZP,Qnt,hle⟩
 ·exact(yj 6 hle hV).take hu
 ·have Qc:lo<Qm.length:=by rw[hO.len];exact(Xd.1 Zm).1
  obtain⟨p,hp⟩:∃p,Qm[lo]? = some p:=⟨_,QW Qc⟩;have yD:=hV.fz (l:=lo) (o:=⟨.arr,g,sz,n,row⟩) (p:=p) Zm hp rfl (λb q e=>by
   subst e;refine⟨h2 b ?_,λl' q' e'=>?_,(hO.at_ lo _ b q Zm hp).2.cells rfl⟩
   ·rcases Bb b w.heap.size with Qc|XP
    ·exact absurd hp ((hT.KE b (λi q e=>by simp at e) Qc).1 lo q)
    ·exact XP
   ·exact hO.inj _ _ _ _ _ e' hp) ZP (h':=hh.set lo (Ob.gone ⟨.arr,g,sz,n,row⟩)) (λl' o' Qz e=>by
   exact⟨o',by rw[JJ (Q8 Qz)];exact e,rfl,rfl,rfl⟩)
  exact(yj 6 hle yD).take hu
 ·have pos:∀{lo:Nat} {o:Ob},hh[lo]? = some o->∃p,Qm[lo]? = some p:=λ{lo o} Zm=>by
   have Qc:lo<Qm.length:=by rw[hO.len];exact(Xd.1 Zm).1
   exact⟨_,QW Qc⟩
  have zb:∀{lo b q:Nat},Qm[lo]? = some (some (b,q))->Z b:=λ{lo b q} hp=>h2 b (by
   rcases Bb b w.heap.size with Qc|XP
   ·exact absurd hp ((hT.KE b (λi q e=>by simp at e) Qc).1 lo q)
   ·exact XP)
  obtain⟨p,hp⟩:=pos Zm;obtain⟨p',Jl⟩:=pos Qc3;have r1:=hV.fz (l:=lo) (o:=⟨.arr,g,sz,n,row⟩) (p:=p) Zm hp rfl (λb q e=>by
   subst e;exact⟨zb hp,λl' q' e'=>hO.inj _ _ _ _ _ e' hp,(hO.at_ lo _ b q Zm hp).2.cells rfl⟩) ZP (h':=hh) (λl' o' Qz e=>⟨o',e,rfl,rfl,rfl⟩)
  have Zk:∀(l':Nat),l'≠lo->(Qm.set lo none)[l']? = Qm[l']? := λl' qh=>by rw[JJ (Q8 qh)]
  have Qz:DU≠lo:=QE0;have r2:=r1.fz (l:=DU) (o:=⟨.arr,g',Oq,n',KO⟩) (p:=p') Qc3 ((Zk _ Qz).trans Jl) rfl (λb q e=>by
   subst e;refine⟨zb Jl,λl' q' e'=>?_,?_⟩
   ·by_cases e1:l'=lo
    ·subst e1;rw[Wm (Wq hp)]at e';cases e'
    ·rw[Zk _ e1]at e';exact hO.inj _ _ _ _ _ e' Jl
   ·obtain⟨c,el,c1,c2,c3,c4⟩:=(hO.at_ DU _ b q Qc3 Jl).2.cells rfl;refine⟨c,el,c1,c2,c3,λi j hi hj=>?_⟩;obtain⟨v,hv,hr⟩:=c4 i j hi hj;have h5:=Qnt i hi;rw[X6]at h5;have h6:j<(KO i).length:=by rw[c3 i hi];exact hj
    have h7:(nth (KO i) j).WS=true:=h5 _ (by
     simp only[nth,Ze,QW h6,KA];exact qK h6)
    exact⟨v,hv,.cl _ _ ((CO hr h7).mono (N':=free Z (Qm.set lo none)) (w':=w') λb hb _=>⟨⟨hb.1,λl q e=>by
     by_cases e1:l=lo
     ·subst e1;rw[Wm (Wq hp)]at e;cases e
     ·rw[Zk _ e1]at e;exact hb.2 l q e⟩,rfl⟩)⟩) Qnt (h':=hh) (λl' o' Qz e=>⟨o',e,rfl,rfl,rfl⟩)
  exact(yj 6 hle r2).take hu
end Go.Fg.X
namespace Go.Fg.X
open Go.Proofs Go.Fg
open Go.Proofs.Tryz
def Qc4(u)(a b):∀fr:List (Nat × D),put (put fr u a) u b=put fr u b
 | []=>by simp[put]
 | (t,e)::r=>by
  cases h:Nat.beq t u with
  | true=>simp[put,h]
  | false=>simp[put,h,Qc4 u a b r]
def Qnu{α:Type}[Inhabited α]{w0:Start}(hF:w0.F=[])(hp:w0.pl=[]){S:Nat->Prop}{sz:Nat}{f:α->List D}(hf:∀a,(f a).all D.WS=true){fr:List (Nat × D)}{h:List Ob}{d:D}{L:List α}(t:Nat)(ht:get fr t=d)(hS:WA S h sz f d L):
  ∃row h',Qp w0 ⟨fr,h⟩ ⟨put fr t (.imm sz L.length row),h'⟩/\(∀i,i<L.length->row i=f (L.getD i default))/\h.length<=h'.length/\∀l,l<h.length->¬S l->h'[l]? = h[l]? := by
 have XX:w0.pl.length=w0.F.length:=by rw[hF,hp];rfl
 have hg:∀h:List Ob,l9 w0.F h:=λh l o e=>by rw[hF]at e;simp at e
 have hz:∀n,w0.F.length<=n:=λn=>by rw[hF];exact Z7 _
 rcases hS with ⟨rfl,rfl⟩|⟨lo,g,row,rfl,Qc5,Aq,BR⟩
 ·refine⟨rowFrom 0 (λ_=>[]),h++[(⟨.arr,0,sz,0,λ_=>[]⟩:Ob).gone],?_,λi hi=>absurd hi (Vw i),by simp,λl hl Qz=>Qx hl⟩;have W1:=Qp.bY (w0:=w0) (h:=h) t sz ht;have W2:=Qp.IL XX (hg _) t h.length (hz _) (fr:=put fr t (.ref h.length 0 0 0)) (h:=h++[(⟨.arr,0,sz,0,λ_=>[]⟩:Ob)]) (o:=⟨.arr,0,sz,0,λ_=>[]⟩) (off:=0) (len:=0) (by rw[FT,Qf rfl]) (Kx rfl) (QB 0) rfl (λi hi=>absurd hi (Vw i));rw[Qc4,UA rfl]at W2;exact Qp.trans W1 W2
 ·refine⟨rowFrom 0 row,_,Qp.IL XX (hg _) t lo (hz _) ht Aq (by show 0+L.length<=L.length;omega) rfl (λi hi=>?_),λi hi=>?_,by simp,λl hl Qz=>?_⟩
  ·show (row i).all D.WS=true;rw[BR i hi];exact hf _
  ·rw[Ip,JV,BR i hi]
  ·exact Qk λe=>Qz (by rw[<- e];exact Qc5)
def Kj.cK{own}{tw}{h h':List Ob}{p}{S}(T:Kj own tw h p S)(hl:h.length<=h'.length)(e:∀l,l<h.length->¬(own l=.no/\tw l=.no)->h'[l]? = h[l]?):Kj (QX own h .no) (ZX tw h .no) h' p S:=by
 obtain⟨ps,lp,pr,pt,T⟩:=T;exact⟨_,_,_,_,T.step (λl Qc=>⟨λhv=>⟨Js Qc,e l Qc λh1=>hv.1 h1.1⟩,λhv _=>⟨JN Qc,e l Qc λh1=>hv h1.2⟩⟩) (oJ T.ap)⟩
structure QZ.Small (o:QZ):Prop where
 c:o.changes.length<1000000
 r:o.rules.length<1000000
def Qnv(S:Zf)(op now:Nat)(k:Int):((Z2 S op now).1.st.Jv k).length<=(S.st.Jv k).length:=by
 have hw:∀(s:Fv) (cls:Int) (done:Nat) (bytes:Int) (real:Bool),((qC s cls done bytes real).Jv k).length<=(s.Jv k).length:=λs cls done bytes real=>by
  unfold qC;cases hc:s.Jv cls with
  | nil=>exact QB _
  | cons a l=>
   dsimp only;split
   ·exact QB _
   ·split
    ·exact QB _
    ·dsimp only;split
     ·rename_i e;rw[e,hc];simp
     ·exact QB _
 unfold Z2;split
 ·exact QB _
 ·split
  ·exact hw _ _ _ _ _
  ·exact QB _
def Qnw(op e)(k:Int):∀(n:Nat) (S:Zf),((Zz op e n S).1.st.Jv k).length<=(S.st.Jv k).length
 | 0,S=>QB _
 | n+1,S=>by
  unfold Zz;split
  ·exact QB _
  ·exact KZ (Qnw op e k n _) (Qnv { S with Qh:=QP S } op (QP S) k)
def LN.do{S}(C:LN S)(o:QZ):LN (QY S o).S:=by
 refine⟨λk=>?_⟩;rw[Oi];have hk:=C.ca k;show ((JA { S with ops:=S.ops+1 } S.ops o).S.st.Jv k).length<=S.ops+1;unfold JA;split
 ·show (S.st.Jv k).length<=_;omega
 ·split
  ·split<;>(show (S.st.Jv k).length<=_;omega)
  ·split
   ·unfold X3;split
    ·show (S.st.Jv k).length<=_;omega
    ·split
     ·refine KZ (Qnv _ _ _ k) ?_;show (if k=_ then S.st.Jv k++[S.Qh] else S.st.Jv k).length<=_;split
      ·rw[Zj];show _+1<=_;omega
      ·omega
     ·show (S.st.Jv k).length<=_;omega
   ·split
    ·unfold Yo;split
     ·show (S.st.Jv k).length<=_;omega
     ·exact KZ (Qnw _ _ k _ _) (by show (S.st.Jv k).length<=_;omega)
    ·show (S.st.Jv k).length<=_;omega
def Kj.Ot{own}{tw}{h h':List Ob}{p}{S}(T:Kj own tw h p S)(e:∀l,l<h.length->¬(own l=.no/\(tw l=.no\/tw l=.my))->h'[l]? = h[l]?):Kj (QX own h .no) (ZX tw h .my) h' p S:=by
 obtain⟨ps,lp,pr,pt,T⟩:=T;refine⟨_,_,_,_,T.step (λl Qc=>⟨λhv=>⟨Js Qc,e l Qc λh1=>hv.1 h1.1⟩,λhv hm=>⟨JN Qc,e l Qc λh1=>h1.2.elim hv hm⟩⟩) λl hl=>?_⟩;by_cases h1:l<h.length
 ·rw[JN h1]at hl;rw[Js h1];exact T.ap l hl
 ·exact Xb (by omega)
def qF.rows(l:List qF):Nat->List D:=λi=>(l.getD i default).cells
@[go_sem] theorem qF.yn(l:List qF)(i):qF.rows l i=(l.getD i default).cells:=rfl
@[go_sem] def Hm(l:List qF):D:=.imm 3 l.length (qF.rows l)
structure cM (x:KW) (p q k:Nat) (own:Nat->Tag) (tw:Nat->TT) (H:List Ob) (S:Zf) (R:List qF) (E:List Ev) (dR dE:D):Prop where
 T:Kj own tw H p S
 V:ZV S
 C:LN S
 ops:S.ops=k
 hx:H[0]? = some ⟨.one,0,3,1,λ_=>x.cells⟩
 hr:H[1]? = some ⟨.one,0,2,1,λ_=>[.nil,.nil]⟩
 hq:H[q]? = some ⟨.one,0,2,1,λ_=>[dR,dE]⟩
 q2:2<=q
 my:∀l,l=0\/l=1\/l=q->own l=.no/\tw l=.my
 sR:WA (λl=>own l=.no/\tw l=.my) H 3 qF.cells dR R
 sE:WA (λl=>own l=.no/\tw l=.my) H 12 Ev.cells dE E
 run:Zh (S0 x.config) (x.ops.take k)=(S,R,E)
 lR:R.length=k
 lE:E.length<=5000*k
def cO(S:Zf)(o:QZ)(h:Zo S.M<=4096):(QY S o).l.length<=5000:=by
 have hg:∀(op e n:Nat) (S:Zf),(Zz op e n S).2.length<=n:=by
  intro op e n;induction n with
  | zero=>exact λS=>QB _
  | succ n ih=>
   intro S;unfold Zz;split
   ·exact Z7 _
   ·have h1:=ih (Z2 { S with Qh:=QP S } op (QP S)).1;have h2:=cD { S with Qh:=QP S } op (QP S);dsimp only;rw[Zj];omega
 show (JA { S with ops:=S.ops+1 } S.ops o).l.length<=5000;unfold JA;split
 ·exact Z7 _
 ·split
  ·split<;>exact Z7 _
  ·split
   ·unfold X3;split
    ·exact Z7 _
    ·split
     ·have h2:=cD { { S with ops:=S.ops+1 } with M:=Jr S.M S.Qh (Jj S.R (Zy o.Zw)) o.Zw,st:=kg S.st (Jj S.R (Zy o.Zw)) S.Qh } S.ops S.Qh;show (_::_:List Ev).length<=5000;rw[Vh];exact KZ (Nat.succ_le_succ h2) (by decide)
     ·exact Z7 _
   ·split
    ·unfold Yo;split
     ·exact Z7 _
     ·have:=hg S.ops (S.Qh+o.Jn.toNat) (Zo S.M+1) { S with ops:=S.ops+1 };exact KZ this (by omega)
    ·exact Z7 _
def ZV.start{own}{tw}{h}{p}{c}(T:Kj own tw h p (S0 c)):ZV (S0 c):=by
 obtain⟨_,_,_,_,T⟩:=T;exact⟨T.co.I,T.co.V,T.co.K,λj x hx=>(by cases hx),QB _,Z7 _,Z7 _,λk=>⟨xV _,xV _,xV _,xV _,xV _⟩,λk a ha=>(by cases ha)⟩
def cP{α:Type}[Inhabited α]{f:α->List D}{L M:List α}{r1 r2:Nat->List D}(h1:∀i,i<L.length->r1 i=f (L.getD i default))(h2:∀i,i<M.length->r2 i=f (M.getD i default)):∀i,i<(L++M).length->J1 L.length 0 r1 r2 i=f ((L++M).getD i default):=by
 intro i hi;rw[Zj]at hi;rw[Ze];by_cases hl:i<L.length
 ·rw[Ad hl,JV,h1 i hl,JD hl,Ze]
 ·rw[vL (by omega),h2 _ (by omega),Kf (by omega),Ze]
def LR(o:QZ):Bool:=decide (o.changes.length<=40)&&decide (o.rules.length<=40)
def wN(x:KW)(m:Nat):Bool:=decide (x.ops.length<=m)&&x.ops.all LR
def QnE{α:Type}(l:List α)(d:α)(f):l.all f=true↔∀j,j<l.length->f (l.getD j d)=true:=by
 rw[X6];constructor
 ·intro h j hj;exact h _ (WI l d j hj)
 ·intro h a ha;obtain⟨i,hi,rfl⟩:=y9 ha;have:=h i hi;simpa[Ze,hi] using this
def SU(x:KW)(m:Nat)(hm:m<1000000):Q4 prog 11 [.agg x.cells,Qb m] (Qn (QJ (wN x m))):=by
 refine ZA 0 Qi 200 func11 rfl ntmps11 results11 rfl λbase w hb=>?_;simp only[go_sem];by_cases h1:m<x.ops.length
 ·simp only[go_sem,h1,decide_true];have:wN x m=false:=by simp[wN];omega
  rw[this]
 ·have JE:decide (m<x.ops.length)=false:=by simp;omega
  simp only[go_sem,JE];refine BB (G:=Nat) [13,14] (λk=>∀j,j<k->LR (x.ops.getD j default)=true) (λk γ=>[(15,Qb k)]) (λk γ=>[]) (x.ops.length) (0) rfl (Qp.to 0 (by (simp only[go_sem])<;>simp)) ?_ ?_
  ·intro j hj;omega
  intro k γ hk KS;apply Zi hb;have QT:=JX (show k<4611686018427387904 by omega);first|refine YU hk (λQj=>?_) (λQj=>?_)|refine qu hk (λQj=>?_) (λQj=>?_)
  ·simp only[go_sem,Qj];have ff:¬ (∀j,j<x.ops.length->LR (x.ops.getD j default)=true)->wN x m=false:=λhn=>by
    rw[jK];intro hf;simp only[wN,Z9]at hf;exact hn ((QnE _ default _).1 hf.2)
   first|refine zE (λh2=>?_) (λh2=>?_)|refine zF (λh2=>?_) (λh2=>?_)|refine zG (λh2=>?_) (λh2=>?_)|refine XS (λh2=>?_) (λh2=>?_)|refine zH (λh2=>?_) (λh2=>?_)|refine zI (λh2=>?_) (λh2=>?_)|refine zJ (λh2=>?_) (λh2=>?_)|refine zD (λh2=>?_) (λh2=>?_)
   ·simp only[go_sem];rw[ff (λhn=>by have:=hn k Qj;simp only[LR,Z9,XM]at this;omega)]
   ·simp only[go_sem];first|refine zE (λh3=>?_) (λh3=>?_)|refine zF (λh3=>?_) (λh3=>?_)|refine zG (λh3=>?_) (λh3=>?_)|refine XS (λh3=>?_) (λh3=>?_)|refine zH (λh3=>?_) (λh3=>?_)|refine zI (λh3=>?_) (λh3=>?_)|refine zJ (λh3=>?_) (λh3=>?_)|refine zD (λh3=>?_) (λh3=>?_)
    ·simp only[go_sem];rw[ff (λhn=>by have:=hn k Qj;simp only[LR,Z9,XM]at this;omega)]
    ·simp only[go_sem];repeat (refine And.intro (by first|assumption|omega) ?_)
     refine⟨_,Qp.to 0 (by (simp only[go_sem,QT])<;>simp),VG.mk (0) (?_)⟩;intro j hj;rcases qc.1 hj with h|rfl
     ·exact KS j h
     ·simp only[LR,Z9,XM];omega
  ·simp only[go_sem];apply Zi hb;subst Qj;have:wN x m=true:=by
    simp only[wN,Z9];exact⟨by simp;omega,(QnE _ default _).2 KS⟩
   rw[this]
def qH(n:Nd)(a:Bool)(f:Nat):List D:=n.c.cells++(QJ a::u64 n.Jz::(n.du.cells++(n.sh.cells++(n.cp.cells++(u64 f::n.q.ay)))))
theorem QFa(M)(id)(n):QlW M id n=qH n (JR M id) (VE M id n):=rfl
section
variable (n:Nd)(a:Bool)(f:Nat)
@[go_sem] theorem QMz:(qH n a f).length=67:=rfl
@[go_sem] theorem QMA:(qH n a f).all D.KK=true:=rfl
@[go_sem] theorem QMB:(List.drop 15 (qH n a f)).getD 0 D.undef=u64 n.Jz:=rfl
@[go_sem] theorem QMC:(List.drop 2 (qH n a f)).getD 0 D.undef=QJ n.c.leaf:=rfl
@[go_sem] theorem QMD:(List.drop 63 (qH n a f)).getD 0 D.undef=u64 n.q.cd:=rfl
@[go_sem] theorem QME:(List.drop 65 (qH n a f)).getD 0 D.undef=u64 n.q.bo:=rfl
@[go_sem] theorem QMF:(List.drop 66 (qH n a f)).getD 0 D.undef=u64 n.q.bd:=rfl
@[go_sem] theorem QMG(v):List.take 63 (qH n a f)++(.raw (.int .u64 ((v:Nat):Int))::List.drop 64 (qH n a f))=qH { n with q:={ n.q with cd:=v } } a f:=rfl
@[go_sem] theorem QMH(v):List.take 66 (qH n a f)++[.raw (.int .u64 ((v:Nat):Int))]=qH { n with q:={ n.q with bd:=v } } a f:=rfl
end
@[go_sem] def SV(n:Nd)(a:Bool)(f:Nat):Ob:=⟨.one,0,67,1,λ_=>qH n a f⟩
def QFb{h}{p}{L}{M}(c:Yn h p L M)(V:Inv M)(id):QV prog 71 h [.ptr p 0 0 0,Qb id] (λd=>d=jD (Zn M id)):=by
 cases hn:Ql M.N id with
 | none=>
  have e:Zn M id=[]:=by unfold Zn QD;rw[hn];rfl
  rw[e];exact Oc.closed (Wf.mono (QC3 c hn) λd g h=>.inl ⟨h.2,rfl⟩)
 | some n=>
  have e:Zn M id=n.q.l:=by unfold Zn QD;rw[hn];rfl
  have h1:=QC4 c hn;cases hl:n.c.leaf with
  | true=>
   rw[e];exact QV.mono h1 λd h=>by rw[h,Qf hl]
  | false=>
   rw[e,V.wJ id n hn hl];exact Oc.closed (Wf.mono h1 λd g h=>.inl ⟨by rw[h.2,Qd (by rw[hl];exact ky)],rfl⟩)
def Qdg{own}{tw}{h}{p}{S:Zf}(T:Kj own tw h p S)(id):QV prog 28 h [.ptr p 0 0 0,Qb id] (λd=>d=jD (Zn S.M id)):=by
 obtain⟨ps,pl,pr,pt,T⟩:=T;have ho:=Z3 T.o;obtain⟨L,C⟩:=T.co.ex;have hP:=λ(F:List Ob) (hF:F=h.map Ob.ro)=>QFb (C.ro.more (Kh hF)) T.co.V id;clear C T;refine Zq Qi 200 func28 rfl ntmps28 results28 rfl λbase w pl F hF Q3 hb=>?_;rw[<- hF]at ho;have Qg:=Qc ho;simp only[go_sem,Qa,ho,Qg];refine ZN hb QuG (hP F hF) λd hR=>?_;subst hR;apply QC hb;all_goals first|exact⟨_,rfl,rfl⟩|exact⟨_,rfl⟩|rfl|exact⟨[],(QU _).symm⟩|exact⟨[],(QU _).symm,rfl⟩
def Qdh{own}{tw}{h}{p}{S:Zf}(T:Kj own tw h p S){id}{n}(hn:Ql S.M.N id=some n):QV prog 40 h [.ptr p 0 0 0,Qb id] (λd=>d=.tup [.agg (qH n (JR S.M id) (VE S.M id n)),Qb 0]):=by
 obtain⟨ps,pl,pr,pt,T⟩:=T;have ho:=Z3 T.o;obtain⟨L,C⟩:=T.co.ex;have hP:=λ(F:List Ob) (hF:F=h.map Ob.ro) (G:List Ob)=>QCX ((C.ro.more (Kh hF)).more (yE (g:=G))) T.co.I hn (T.co.V.wJ id n hn);clear C T;rw[QFa]at hP;refine Zq Qi 200 func40 rfl ntmps40 results40 rfl λbase w pl F hF Q3 hb=>?_;rw[<- hF]at ho;have Qg:=Qc ho;simp only[go_sem,Qa,ho,Qg];refine ZN hb QuM (hP F hF _) λd hR=>?_;subst hR;apply QC hb;exact⟨_,rfl,rfl,rfl⟩
def oV{own}{tw}{h}{p}{S:Zf}(T:Kj own tw h p S):QK prog 25 h [.ptr p 0 0 0] (λd h'=>d=ints (S.M.T.map (·.iD))/\∃g,h'=h++g):=by
 obtain⟨ps,pl,pr,pt,T⟩:=T;have ho:=T.o;obtain⟨L,C⟩:=T.co.ex;have hT:=QCU C;have hl:=T.co.I.tree.len;refine Q6 Qi 200 func25 rfl ntmps25 results25 rfl λbase w pl hb=>?_;have Qg:=Qc ho;simp only[go_sem,Qa,ho,Qg];refine qZ hb QuF hT λd h2 hR=>?_;obtain⟨rfl,hS,g,rfl,hg⟩:=hR;apply QC hb;refine ZN hb iO (mn hS.toR (by omega)) λd hR=>?_;subst hR;apply QC hb;exact⟨_,rfl⟩
end Go.Fg.X
namespace Go.Fg.X
open Go.Proofs Go.Fg
end Go.Fg.X
namespace Go.Fg.X
open Go.Proofs Go.Fg
open Go.Proofs.Tryz
def QFd(l:List QZ){k}(hk:k<l.length):l.take (k+1)=l.take k++[l.getD k default]:=by
 rw[Ed,QW hk,Ze,QW hk];rfl
def oW(S:Zf)(l:List QZ){k}(hk:k<l.length):(Zh S (l.take (k+1))).1=(QY (Zh S (l.take k)).1 (l.getD k default)).S/\(Zh S (l.take (k+1))).2.2=(Zh S (l.take k)).2.2++(QY (Zh S (l.take k)).1 (l.getD k default)).l:=by
 rw[QFd l hk,ot];exact⟨rfl,by simp only[Zh,QU]⟩
structure jH (c:Cf) (ops:List QZ) (p k lo g:Nat) (h0:List Ob) (Kp:Nat->Prop) (own:Nat->Tag) (tw:Nat->TT) (H:List Ob) (S:Zf) (E:List Ev) (row:Nat->List D):Prop where
 T:Kj own tw H p S
 V:ZV S
 C:LN S
 jG:S.ops=k
 kp:∀l,l<h0.length->Kp l->H[l]? = h0[l]?/\own l=.no/\tw l=.my
 Zm:H[lo]? = some ⟨.arr,g,12,E.length,row⟩
 rw_:∀i,i<E.length->row i=Ev.cells (E.getD i default)
 my:own lo=.no/\tw lo=.my
 nk:lo<h0.length->¬Kp lo
 S_:S=(Zh (S0 c) (ops.take k)).1
 E_:E=(Zh (S0 c) (ops.take k)).2.2
 lE:E.length<=5000*k
section
variable {c:Cf}{ops:List QZ}{p k lo g:Nat}{h0:List Ob}{Kp:Nat->Prop}{own:Nat->Tag}{tw:Nat->TT}{H:List Ob}{S:Zf}{E:List Ev}{row:Nat->List D}
def jH.start{Ji}{Kw}{h1:List Ob}(T:Kj Ji Kw h1 p (S0 c))(kp:∀l,l<h0.length->Kp l->l<h1.length/\h1[l]? = h0[l]?/\Ji l=.no/\Kw l=.my)(hl:h0.length<=h1.length):
  jH c ops p 0 h1.length 0 h0 Kp (QX Ji h1 .no) (ZX Kw h1 .my) (h1++[(⟨.arr,0,12,0,λ_=>[]⟩:Ob)]) (S0 c) [] (λ_=>[]):=by
 have T':=T;obtain⟨_,_,_,_,Tx⟩:=T';refine⟨⟨_,_,_,_,Tx.YK _⟩,ZV.start T,⟨λk=>Z7 _⟩,rfl,λl hl hk=>?_,Kx rfl,λi hi=>absurd hi (Vw i),⟨Xb (QB _),zf (QB _)⟩,λh=>absurd h (by omega),rfl,rfl,Z7 _⟩;obtain⟨a,b,d,e⟩:=kp l hl hk;exact⟨(Qx a).trans b,(Js a).trans d,(JN a).trans e⟩
def jH.close(I:jH c ops p k lo g h0 Kp own tw H S E row){w0:Start}(hF:w0.F=[])(hp:w0.pl=[]){fr}(t)(ht:get fr t=.ref lo g 0 E.length):
  ∃h' own' ZK,Qp w0 ⟨fr,H⟩ ⟨put fr t (Kv E),h'⟩/\Kj own' ZK h' p S/\∀l,l<h0.length->Kp l->h'[l]? = h0[l]?/\own' l=.no/\ZK l=.my:=by
 have XX:w0.pl.length=w0.F.length:=by rw[hF,hp];rfl
 have hg:∀h:List Ob,l9 w0.F h:=λh l o e=>by rw[hF]at e;simp at e
 have hz:∀n,w0.F.length<=n:=λn=>by rw[hF];exact Z7 _
 have W1:=Qp.rows (w0:=w0) (fr:=fr) lo (Ev.rows E) I.Zm λi hi=>I.rw_ i hi;have h1:(H.set lo ⟨.arr,g,12,E.length,Ev.rows E⟩)[lo]? = some ⟨.arr,g,12,E.length,Ev.rows E⟩:=Qs (Qc I.Zm);have W2:=Qp.IL XX (hg _) t lo (hz _) ht h1 (by show 0+E.length<=E.length;omega) rfl (λi hi=>rfl);rw[ie]at W2;refine⟨_,_,_,Qp.trans W1 W2,I.T.Ot λl hl hn=>?_,λl hl hk=>?_⟩
 ·have Qz:lo≠l:=λe=>hn (by rw[<- e];exact⟨I.my.1,.inr I.my.2⟩);rw[Qk Qz,Qk Qz]
 ·obtain⟨a,b,d⟩:=I.kp l hl hk;have Qz:lo≠l:=λe=>I.nk (by rw[e];exact hl) (by rw[e];exact hk);have LU:l<H.length:=by
   have:(H[l]?).isSome=true:=by rw[a,QW hl];rfl
   exact Nat.lt_of_not_le λhle=>by rw[Cs hle]at this;cases this
  exact⟨by rw[Qk Qz,Qk Qz];exact a,(Js LU).trans b,(JN LU).trans d⟩
def jH.step(I:jH c ops p k lo g h0 Kp own tw H S E row)(hk:k<ops.length)(ho:∀q∈(ops.getD k default).changes,JH.Ok q){G}{JC}{Vv}{h2}{dl}(T2:Kj JC Vv h2 p (QY S (ops.getD k default)).S)
  (s2:WA (λl=>(H++G).length<=l/\JC l=.no/\Vv l=.no) h2 12 Ev.cells dl (QY S (ops.getD k default)).l) (K2:Jw (H++G).length (QX own H .no) (ZX tw H .my) (H++G) JC Vv h2) (G2:List Ob) {w0:Start} (hF:w0.F=[]) (hp:w0.pl=[]) {fr:List (Nat × D)} (t:Nat) (ht:get fr t=dl) :
  ∃ko h4 W3 W6,Qp w0 ⟨fr,h2++G2⟩ ⟨put fr t (.imm 12 (QY S (ops.getD k default)).l.length ko),h4⟩/\(∀i,i<(QY S (ops.getD k default)).l.length->ko i=Ev.cells ((QY S (ops.getD k default)).l.getD i default))/\h4[lo]? = some ⟨.arr,g,12,E.length,row⟩ /\
   jH c ops p (k+1) lo (g+1) h0 Kp W3 W6 (h4.set lo ⟨.arr,g+1,12,E.length+(QY S (ops.getD k default)).l.length,J1 E.length 0 row ko⟩) (QY S (ops.getD k default)).S (E++(QY S (ops.getD k default)).l) (J1 E.length 0 row ko):=by
 have hV:=I.V.do ho;have hC:=I.C.do (ops.getD k default);have hO:=Oi S (ops.getD k default);obtain⟨nS,nE⟩:=oW (S0 c) ops hk;rw[<- I.S_]at nS nE;rw[<- I.E_]at nE;obtain⟨_,_,_,_,Tc⟩:=I.T;have hlY:=cO S (ops.getD k default) Tc.co.LM;generalize QY S (ops.getD k default)=Y at *;obtain⟨_,_,_,_,T2x⟩:=T2;have T3:=T2x.YK G2;have F3:H.length<=h2.length:=by have:=K2.len;rw[Zj]at this;omega
 have s3:WA (λl=>l<h2.length/\JC l=.no/\Vv l=.no) (h2++G2) 12 Ev.cells dl Y.l:=s2.step λj hj h1=>⟨⟨hj,h1.2⟩,Qx hj⟩;have my2:∀l,l<H.length->own l=.no->tw l=.my->JC l=.no/\Vv l=.my/\h2[l]? = H[l]? := λl hl h1 h2=>by
  have ZB:l<(H++G).length:=by rw[Zj];omega
  have a1:QX own H .no l=.no:=(Js hl).trans h1;have a2:ZX tw H .my l=.my:=(JN hl).trans h2;exact⟨(K2.s1 l ZB).trans a1,(K2.s2 l ZB).trans a2,(K2.my l ZB a2).trans (Qx hl)⟩
 obtain⟨ko,h4,W4,ZH,wk,k4⟩:=Qnu hF hp (λa=>rfl) (h:=h2++G2) t ht s3;have xz:(h2++G2).length<=h4.length:=wk;obtain⟨W3,cR⟩:∃f,f=QX (QX JC h2 .no) (h2++G2) .no:=⟨_,rfl⟩;obtain⟨W6,cS⟩:∃f,f=ZX (ZX Vv h2 .my) (h2++G2) .no:=⟨_,rfl⟩;have T4:Kj W3 W6 h4 p Y.S:=by
  rw[cR,cS];refine Kj.cK ⟨_,_,_,_,T3⟩ wk λl hl hn=>k4 l hl λhh=>hn ?_;exact⟨(Js hh.1).trans hh.2.1,(JN hh.1).trans hh.2.2⟩
 have Ci:∀l,l<H.length->own l=.no->tw l=.my->W3 l=.no/\W6 l=.my/\h4[l]? = H[l]? := λl hl h1 YQ=>by
  obtain⟨b1,b2,b3⟩:=my2 l hl h1 YQ;have Jx:l<h2.length:=by omega
  have xz:l<(h2++G2).length:=by rw[Zj];omega
  refine⟨by rw[cR,Js xz,Js Jx];exact b1,by rw[cS,JN xz,JN Jx];exact b2,?_⟩;rw[k4 l xz λh=>(by rw[b2]at h;cases h.2.2),Qx Jx];exact b3
 have Zm:=Qc I.Zm;obtain⟨m1,m2,m3⟩:=Ci lo Zm I.my.1 I.my.2;have yW:h4[lo]? = some ⟨.arr,g,12,E.length,row⟩:=m3.trans I.Zm;refine⟨ko,h4,W3,W6,W4,ZH,yW,?_⟩;obtain⟨_,_,_,_,T4x⟩:=T4;refine⟨⟨_,_,_,_,T4x.loc m1 (.inr m2) _⟩,hV,hC,by rw[hO,I.jG],λl hl hkp=>?_,?_,cP I.rw_ ZH,⟨m1,m2⟩,I.nk,nS.symm,nE.symm,?_⟩
 ·obtain⟨a,b,d⟩:=I.kp l hl hkp;have LU:l<H.length:=by
   have:(H[l]?).isSome=true:=by rw[a,QW hl];rfl
   exact Nat.lt_of_not_le λhle=>by rw[Cs hle]at this;cases this
  obtain⟨b1,b2,b3⟩:=Ci l LU b d;exact⟨by rw[Qk (λe=>I.nk (by rw[e];exact hl) (by rw[e];exact hkp)),b3,a],b1,b2⟩
 ·rw[Qs (Qc yW),Zj]
 ·have:=I.lE;rw[Zj];omega
end
def Qdk(S:Zf)(op now:Nat):∀e∈(Z2 S op now).2,e.op=op:=by
 unfold Z2;split
 ·intro e he;cases he
 ·split
  ·intro e he;simp only[zn]at he;rw[he];rfl
  ·intro e he;cases he
def QL(S:Zf)(n:Nat):Prop:=∀j,(Zn S.M j).length<=n
def ZV.SW{c}(K:XK c):ZV (S0 c):=⟨QbN c,Ql2 c,K,λj x hx=>(by cases hx),QB _,Z7 _,Z7 _,λk=>⟨xV _,xV _,xV _,xV _,xV _⟩,λk a ha=>(by cases ha)⟩
def Qdm(t:Int):Int->List Ev->Prop
 | _,[]=>True
 | u,v::l=>if v.J4=true then Qdm t u l else u<=v.at_/\1<=v.len/\v.len<=16384/\0<=v.at_/\v.at_<=4611686018427387904/\v.done=v.at_+v.len*t/\Qdm t v.done l
def Qdn:Int->List Ev->Int
 | u,[]=>u
 | u,v::l=>if v.J4=true then Qdn u l else Qdn v.done l
structure PkR (c:Cf) (S S':Zf) (l:List Ev):Prop where
 ok:Qdm c.t S.JI l
 un:Qdn S.JI l=S'.JI
 lk:S'.M.lk=c
def yX(n:Nd):Prop:=n.c.ul.Nn/\(¬1<Q7 n.c.ul->n.cp.has=false/\n.cp.fit=0)
def JO(M:Qq):Prop:=∀n∈M.N,yX n
def QnP(d:D)(hs:List Ob):D->List Ob->Prop:=λd' h=>d'=d/\h=hs
attribute [go_sem] QnP
structure Kn where
 Xu:Int
 since:Int
 work:Nat
@[go_sem] def Kn.cells(k:Kn):List D:=[.raw (.int .u64 k.Xu),.raw (.int .u64 k.since),.raw (.int .i64 k.work)]
def Kn.next(k:Kn)(e:Ev):Kn:=
 if e.J4=true then ⟨k.Xu,if k.work=0 then e.at_ else k.since,k.work+1⟩ else ⟨max k.Xu e.done,k.since,k.work - 1⟩
def Kn.late(k:Kn)(e:Ev):Bool:=!e.J4&&(decide (0<k.work)&&decide (max k.Xu k.since<e.at_))
@[go_sem] def SX(k:Kn):Ob:=⟨.one,0,3,1,λ_=>k.cells⟩
def qI(l:List Ev):Nat->Kn
 | 0=>⟨0,0,0⟩
 | k+1=>(qI l k).next (l.getD k default)
def VV(l:List Ev)(k:Nat):Bool:=(qI l k).late (l.getD k default)
structure AZ (T:List Qw):Prop where
 ul:∀c∈T,¬1<Q7 c.ul
 ls:∀c∈T,c.leaf=true->1<Q7 c.ls
section
variable {M:Qq}(I:Qy M)(V:Inv M)(F:JO M)(P:AZ M.T)
include I V F P
end
structure dc (k:Kn) (S:Zf):Prop where
 w:k.work=Zo S.M
 u:k.Xu=S.JI
 s:k.since<=S.Qh
 F:JO S.M
 P:AZ S.M.T
structure yY (k:Kn) (S:Zf):Prop extends dc k S where
 b:0<Zo S.M->S.Qh<S.JI
structure xP where
 SZ:Int
 to:Int
instance:Inhabited xP:=⟨⟨0,0⟩⟩
@[go_sem] def xP.cells(s:xP):List D:=[.raw (.int .u64 s.SZ),.raw (.int .u64 s.to)]
def xP.rows(l:List xP):Nat->List D:=λi=>(l.getD i default).cells
@[go_sem] theorem xP.yn(l:List xP)(i):xP.rows l i=(l.getD i default).cells:=rfl
@[go_sem] def strs(l:List xP):D:=.imm 2 l.length (xP.rows l)
structure StS where
 l:List xP
 Xu:Int
def rw_(l:List Ev):Nat->Nat
 | 0=>0
 | k+1=>if (l.getD k default).J4=true then rw_ l k+1 else rw_ l k - 1
@[simp] theorem QMK(l:List Ev):rw_ l 0=0:=rfl
end Go.Fg.X
namespace Go.Fg.X
open Go.Proofs Go.Fg
end Go.Fg.X
namespace Go.Fg.X
open Go.Proofs Go.Fg
end Go.Fg.X
namespace Go.Fg.X
open Go.Proofs Go.Fg
end Go.Fg.X
namespace Go.Fg.X
open Go.Proofs Go.Fg
end Go.Fg.X
namespace Go.Fg.X
open Go.Proofs Go.Fg
open Go.Proofs.Tryz
section
variable (n:Nd)(a:Bool)(f:Nat)
@[go_sem] theorem QMM:List.take 14 (qH n a f)=n.c.cells:=rfl
end
def QGC{M:Qq}(I:Qy M)(V:Inv M){j}(h:Zn M j≠[]):j∈V6 M/\j∈up M.T j:=by
 unfold Zn QD at h;cases hn:Ql M.N j with
 | none=>rw[hn]at h;exact absurd rfl h
 | some n=>
  have hl:n.c.leaf=true:=by
   cases hl:n.c.leaf with
   | true=>rfl
   | false=>
    have:=V.wJ j n hn hl;rw[hn]at h;refine absurd ?_ h;show n.q.l=[];rw[this]
  have Zg:=Qy.id (M:=M) hn;refine⟨J8.2 ⟨Jk.2 ⟨n.c,J8.2 ⟨((Vs I.tree.rising).1 (I.some hn)).1,hl⟩,Zg⟩,?_⟩,?_⟩
  ·show (!(QD M j).q.l.isEmpty)=true;unfold QD;rw[hn];rw[hn]at h;cases hq:n.q.l with
   | nil=>exact absurd hq h
   | cons a b=>show (!((some n).getD default).q.l.isEmpty)=true;show (!n.q.l.isEmpty)=true;rw[hq];rfl
  ·rw[lT I.tree,I.some hn];exact Vn
def QGD{M}(I:Qy M)(V:Inv M)(b){l}(hl:∀c∈l,JH.Ok c)(j):Zn (Ke M b l) j=Zn M j:=by
 unfold Ke;split
 ·rename_i he;have I2:=(RV I.tree I.yN hl).1;have hb:kf M (JM M.T l) b=false:=by
   unfold zX at he;split at he
   ·rename_i h;exact absurd he h
   ·split at he
    ·cases he
    ·rename_i h;simpa using h
  have hf:Ql (xL M (JM M.T l)).N j=if j∈Ko M.T (JM M.T l) then (QF (JM M.T l) j).map X0 else Ql M.N j:=by
   show Ql (X1 M (JM M.T l)) j=_;rw[Ls I I2];exact Ha I2.rising j _ _
  by_cases ht:j∈Ko M.T (JM M.T l)
  ·rw[Qf ht]at hf;have h0:Zn M j=[]:=jM λh=>by
    obtain⟨h1,h2⟩:=QGC I V h;have:yS M j=true:=Eb.2 ⟨j,h1,by simpa using h2⟩;unfold kf at hb;rw[show (Ko M.T (JM M.T l)).any (yS M)=true from Eb.2 ⟨j,ht,this⟩]at hb;cases hb
   rw[h0];unfold Zn QD;rw[hf];cases QF (JM M.T l) j<;>rfl
  ·rw[Qd ht]at hf;unfold Zn QD;rw[hf]
 ·rfl
def QoB{M}(I:Qy M){j}(h:Zn M j≠[]):1<=j:=by
 unfold Zn QD at h;cases hn:Ql M.N j with
 | none=>rw[hn]at h;exact absurd rfl h
 | some n=>
  have Zg:=Qy.id (M:=M) hn;have:=I.tree.ids n.c ((Vs I.tree.rising).1 (I.some hn)).1;omega
def Ev.pk(e:Ev):Pk:=⟨e.id,e.len,e.h0,e.h1,e.h2,e.h3⟩
def OE(a b:Pk):Bool:=a.iD==b.iD&&(a.len==b.len&&(a.yo==b.yo&&(a.yp==b.yp&&(a.yq==b.yq&&a.yr==b.yr))))
def QGE(a b):OE a b=true↔a=b:=by
 obtain⟨a1,a2,a3,a4,a5,a6⟩:=a;obtain⟨b1,b2,b3,b4,b5,b6⟩:=b;simp[OE]
@[go_sem] def Hr(x:Cf)(lm:Nat)(l:Ev)(done:Int)(q:D):List D:=[Qb x.t,Qb x.JK,.mref lm 0,Qb l.op,QJ l.J4,QJ l.real,cw l.at_,cw l.done,Qb l.cls,cw l.id,Qb l.len,.raw (.int .u16 l.h0),.raw (.int .u16 l.h1),.raw (.int .u16 l.h2),.raw (.int .u16 l.h3),cw done,q]
section
variable (h:List Ob)(lb la lm:Nat)(x:Cf)(l:Ev)(done:Int)(q:D)(e:Ev)
 (Vu:(h.map Ob.ro)[lb]? = some ⟨.Wn,0,1,1,λ_=>[.ptr la 0 0 0]⟩) (ha:(h.map Ob.ro)[la]? = some ⟨.Wn,0,17,1,λ_=>Hr x lm l done q⟩)
include Vu ha
def A5(f:Ob->Ob)(h:List Ob)(d:D)(p:List Pk):Prop:=(d=.nil/\p=[])\/∃lo g off row,d=.ref lo g off p.length/\h[lo]? = some (f ⟨.arr,g,6,off+p.length,row⟩)/\∀i,i<p.length->row (off+i)=(p.getD i default).cells
variable {es:List ZU}{c:Nat}{p:List Pk}(hm:(h.map Ob.ro)[lm]? = some (QS .i64 c es).ro)
include hm
end
section
variable (h:List Ob)(lw:Nat)(e:Ev)(f:FuncId)(lc:Nat)(B:Bool)
end
structure L6 (h:List Ob) (es:List ZU) (W:Int->List Pk):Prop where
 at_:∀k,A5 id h ((ZJ es k).getD .nil) (W k)
 sep:∀k k' lo g off n g' jg n',ZJ es k=some (.ref lo g off n)->ZJ es k'=some (.ref lo g' jg n')->k=k'
def QGO(h h':List Ob):Prop:=∀(l:Nat) (o:Ob),h[l]? = some o->o.kd.ty=0->o.sz≠17->o.sz≠6->h'[l]? = some o
def jd(W:Int->List Pk)(e:Ev):Int->List Pk:=λk=>if k=e.cls then (if e.J4 then W k++[e.pk] else (W k).tail) else W k
structure dL (h:List Ob) (la lm:Nat) (x:Cf) (e:Ev) (done:Int) (q:D) (W:Int->List Pk) (h':List Ob):Prop where
 a:h'[la]? = some ⟨.one,0,17,1,λ_=>Hr x lm e done q⟩
 m:∃c' es',h'[lm]? = some (QS .i64 c' es')/\L6 h' es' W
 s:QGO h h'
def OG:Ev:=⟨0,false,false,0,0,0,0,0,0,0,0,0⟩
def L7(f:FuncId)(nf l:Nat):Ob:=⟨.one,0,1,1,λ_=>[.clo f nf [.ptr l 0 0 0]]⟩
def dM(l:Nat):D:=.clo 123 0 [.ptr l 0 0 0]
structure QGT (n:Nat) (x:Cf) (row:Nat->List D) (g:List Ob):Prop where
 g:g=[⟨.one,0,2,1,λ_=>x.cells⟩,QS .i64 0 [],⟨.one,0,17,1,λ_=>Hr x (n+1) OG 0 (.ref (n+8) 0 0 8)⟩,⟨.one,0,1,1,λ_=>[.ptr (n+2) 0 0 0]⟩,L7 129 0 (n+3),L7 130 0 (n+3),L7 131 0 (n+3),L7 132 1 (n+2),⟨.arr,0,2,8,row⟩]
 r0:row 0=[Qb 1,.clo 124 0 [.ptr (n+3) 0 0 0]]
 r1:row 1=[Qb 27,.clo 125 0 [.ptr (n+3) 0 0 0]]
 r2:row 2=[Qb 26,.clo 126 0 [.ptr (n+3) 0 0 0]]
 r3:row 3=[Qb 4,.raw (.func (.func 128) #[] #[])]
 r4:row 4=[Qb 6,dM (n+4)]
 r5:row 5=[Qb 8,dM (n+5)]
 r6:row 6=[Qb 24,dM (n+6)]
 r7:row 7=[Qb 20,dM (n+7)]
def YN(l:List Ev):Nat->Int->List Pk
 | 0=>λ_=>[]
 | i+1=>jd (YN l i) (l.getD i default)
def QdU(l:List Ev):Nat->Ev
 | 0=>OG
 | i+1=>l.getD i default
def pz(l:List Ev):Nat->Int
 | 0=>0
 | i+1=>if (l.getD i default).J4 then pz l i else (l.getD i default).done
def S9(x:Cf)(W:Int->List Pk)(last:Ev)(done:Int)(e:Ev):Nat->Bool
 | 0=>decide (e.op<0\/e.op<last.op\/e.cls<1)
 | 1=>decide (e.at_<last.at_\/4611686018427387904<e.at_)
 | 2=>Cd e.pk x.JK != 0
 | 3=>e.J4&&(e.done != 0 || e.real)
 | 4=>!e.J4&&(W e.cls).length==0
 | 5=>!e.J4&&!OE ((W e.cls).getD 0 default) e.pk
 | 6=>!e.J4&&decide (e.at_<done)
 | _=>!e.J4&&e.done != IntKind.u64.wrap (e.at_+DQ e.pk x.t)
def Xc(x:Cf)(l:List Ev)(i k:Nat):Bool:=S9 x (YN l i) (QdU l i) (pz l i) (l.getD i default) k
def QdV:Nat->Int
 | 0=>1
 | 1=>27
 | 2=>26
 | 3=>4
 | 4=>6
 | 5=>8
 | 6=>24
 | _=>20
structure Ma (x:Cf) (l:List Ev) (row:Nat->List D) (i:Nat) (H:List Ob):Prop where
 f:H[1]? = some ⟨.one,0,2,1,λ_=>[Qb 0,Qb 0]⟩
 a:H[4]? = some ⟨.one,0,17,1,λ_=>Hr x 3 (QdU l i) (pz l i) (.ref 10 0 0 8)⟩
 m:∃c es,H[3]? = some (QS .i64 c es)/\L6 H es (YN l i)
 b:H[5]? = some ⟨.one,0,1,1,λ_=>[.ptr 4 0 0 0]⟩
 p5:H[6]? = some (L7 129 0 5)
 p6:H[7]? = some (L7 130 0 5)
 p7:H[8]? = some (L7 131 0 5)
 p8:H[9]? = some (L7 132 1 4)
 q:H[10]? = some ⟨.arr,0,2,8,row⟩
section
variable {x:Cf}{l:List Ev}{row:Nat->List D}{i:Nat}{H t:List Ob}(I:Ma x l row i H)
include I
end
end Go.Fg.X
namespace Go.Fg.X
open Go.Proofs Go.Fg
end Go.Fg.X
namespace Go.Fg.X
open Go.Proofs Go.Fg
open Go.Proofs.Tryz
def QG8(l:List Pk):D:=.imm 6 l.length (Pk.rows l)
attribute [go_sem] QG8
end Go.Fg.X
namespace Go.Fg.X
open Go.Proofs Go.Fg
end Go.Fg.X
namespace Go.Fg.X
open Go.Proofs Go.Fg
open Go.Proofs.Tryz
def Td(x:Cf)(l:List Ev)(i:Nat):Option Nat:=(List.range 8).find? (Xc x l i)
def pA(x:Cf)(l:List Ev):Option Nat:=(List.range l.length).find? λi=>(Td x l i).isSome
def DZ(x:Cf)(l:List Ev):Int × Int:=if 1<=x.t/\x.t<=65536/\1<=x.JK/\x.JK<=16384 then (match pA x l with
 | some i=>(i,match Td x l i with
  | some k=>QdV k
  | none=>0)
 | none=>(0,0)) else (0,7)
def lA:Ev:=⟨0,true,false,5,0,3,7,100,0,0,0,0⟩
def lB:Ev:=⟨0,false,false,5,105,3,7,100,0,0,0,0⟩
def lC:Ev:=⟨0,false,false,5,104,3,7,100,0,0,0,0⟩
def lX:Cf:=⟨1,100⟩
def v1:DZ lX [lA,lB]=(0,0):=by decide
def v2:DZ lX [lA,lC]=(1,20):=by decide
def v3:DZ lX [lB]=(0,6):=by decide
def Hs(d:Int)(e:Ev):Int:=if e.J4=true then d else e.done
def Ht(x:Cf):(Int->List Pk)->Ev->Int->List Ev->Prop
 | _,_,_,[]=>True
 | W,a,d,e::l=>(∀k,k<8->S9 x W a d e k=false)/\Ht x (jd W e) e (Hs d e) l
def QoF(x):∀(l m:List Ev) (W:Int->List Pk) (a:Ev) (d:Int),Ht x W a d l->Ht x (l.foldl jd W) (l.foldl (λ_ e=>e) a) (l.foldl Hs d) m->Ht x W a d (l++m)
 | [],m,W,a,d,_,h=>h
 | e::l,m,W,a,d,h1,h2=>⟨h1.1,QoF x l m _ _ _ h1.2 h2⟩
structure Hu (x:Cf) (W:Int->List Pk) (a:Ev) (d:Int) (S:Zf):Prop where
 w:∀j,W j=Zn S.M j
 d:d=S.JI
 at_:a.at_<=S.Qh
 o0:a.op<=S.ops
 lk:S.M.lk=x
structure FE (x:Cf) (W:Int->List Pk) (a:Ev) (d:Int) (l:List Ev) (S':Zf):Prop where
 ok:Ht x W a d l
 st:Hu x (l.foldl jd W) (l.foldl (λ_ e=>e) a) (l.foldl Hs d) S'
def QHc(p:Pk):OE p p=true:=(QGE p p).2 rfl
def QoH{x:Cf}(K:XK x){p:Pk}(h:1<=p.len/\p.len<=x.JK):Cd p x.JK=0:=by
 have:=K.l1;have:=K.l2;unfold Cd;rw[Qd (by omega),Qd (by omega)]
def QHd{x:Cf}(K:XK x){p:Pk}(h:1<=p.len/\p.len<=x.JK):DQ p x.t=YJ x p.len:=by
 have k1:=K.t1;have k2:=K.t2;have k3:=K.l2;have h1:=Of K h;have ht:((YJ x p.len:Nat):Int)=p.len*x.t:=by
  unfold YJ;rw[OM,Ea (by omega),Ea (by omega)]
 unfold DQ;rw[Qf (by omega),<- ht,IntKind.wrap_u64];omega
def QoI{x}{S:Zf}(T:ZV S){W}{a:Ev}{d}(A:Hu x W a d S){op}(ho:op<=S.ops)(dP:a.op<=op):FE x W a d (Z2 S op S.Qh).2 (Z2 S op S.Qh).1/\(∀e∈(Z2 S op S.Qh).2,e.op=op):=by
 refine⟨?_,Qdk S op S.Qh⟩;unfold Z2;split
 ·exact⟨trivial,A⟩
 ·rename_i hu;split
  ·rename_i h;have hl:=T.take_len h;obtain⟨y,L,hq,hk⟩:=oh T.I T.V h;have hK:XK x:=A.lk▸T.K;rw[A.lk]at hl;have ht:=Of hK hl;have ZP:=T.cl;have zC:=T.un;have qk:=QoB T.I (j:=WL S.M S.Qh) (by rw[hq];exact List.cons_ne_nil _ _);have hw:=A.w (WL S.M S.Qh);rw[hq]at hw;rw[<- hk]at hw;have VN:=A.at_;have hd:=A.d;refine⟨⟨λk N9=>?_,trivial⟩,?_,?_,?_,?_,?_⟩
   ·have hW:W (WL S.M S.Qh)=Vf S.M S.Qh::L:=hw;match k,N9 with
    | 0,_=>exact QN (by show ¬((op:Int)<0\/(op:Int)<a.op\/WL S.M S.Qh<1);omega)
    | 1,_=>exact QN (by show ¬((S.Qh:Int)<a.at_\/4611686018427387904<(S.Qh:Int));omega)
    | 2,_=>show (Cd (Vf S.M S.Qh) x.JK != 0)=false;rw[QoH hK hl];rfl
    | 3,_=>rfl
    | 4,_=>show ((W (WL S.M S.Qh)).length==0)=false;rw[hW];rfl
    | 5,_=>show (!OE ((W (WL S.M S.Qh)).getD 0 default) (Vf S.M S.Qh))=false;rw[hW];show (!OE (Vf S.M S.Qh) (Vf S.M S.Qh))=false;rw[QHc];rfl
    | 6,_=>exact QN (by show ¬((S.Qh:Int)<d);omega)
    | 7,_=>
     show (((S.Qh+YJ S.M.lk (Vf S.M S.Qh).len:Nat):Int) != IntKind.u64.wrap ((S.Qh:Int)+DQ (Vf S.M S.Qh) x.t))=false;rw[QHd hK hl,A.lk,IntKind.wrap_u64];refine tP ?_;omega
    | n+8,h=>exact absurd h (by omega)
   ·intro j;show jd W (Hh op (Cc S.M S.Qh) S.Qh (S.Qh+YJ S.M.lk (Vf S.M S.Qh).len) (WL S.M S.Qh) (Vf S.M S.Qh)) j=Zn (takeN S.M S.Qh) j;rw[Hf];unfold jd;by_cases e:j=WL S.M S.Qh
    ·rw[Qf (show j=(Hh op (Cc S.M S.Qh) S.Qh (S.Qh+YJ S.M.lk (Vf S.M S.Qh).len) (WL S.M S.Qh) (Vf S.M S.Qh)).cls from e),Qf (show Xt S.M S.Qh=true/\WL S.M S.Qh=j from ⟨h,e.symm⟩),A.w j];rfl
    ·rw[Qd (show ¬j=(Hh op (Cc S.M S.Qh) S.Qh (S.Qh+YJ S.M.lk (Vf S.M S.Qh).len) (WL S.M S.Qh) (Vf S.M S.Qh)).cls from e),Qd (show ¬(Xt S.M S.Qh=true/\WL S.M S.Qh=j) from λh2=>e h2.2.symm)];exact A.w j
   ·rfl
   ·show ((S.Qh:Nat):Int)<=(S.Qh:Nat);omega
   ·show ((op:Nat):Int)<=(S.ops:Nat);omega
   ·exact(LH _ _).trans A.lk
  ·rename_i h;refine⟨trivial,⟨λj=>?_,A.d,A.at_,A.o0,(LH _ _).trans A.lk⟩⟩;show W j=Zn (takeN S.M S.Qh) j;rw[Hf,Qd λh2=>h h2.1];exact A.w j
def QHe{l:List Ev}{a:Ev}{op:Nat}(h:∀e∈l,e.op=op)(ha:a.op<=op):(l.foldl (λ_ e=>e) a).op<=op:=by
 induction l generalizing a with
 | nil=>exact ha
 | cons e l ih=>exact ih (λb hb=>h b (KI _ hb)) (Int.le_of_eq (h e Vn))
def FE.app{x}{W}{a}{d}{l m:List Ev}{S1 S2}(A:FE x W a d l S1)(B:FE x (l.foldl jd W) (l.foldl (λ_ e=>e) a) (l.foldl Hs d) m S2):FE x W a d (l++m) S2:=
 ⟨QoF x l m W a d A.ok B.ok,by rw[kz,kz,kz];exact B.st⟩
def QoJ{x}{op e}(he:e<=4611686018427387904):∀(n:Nat) {S:Zf} {W:Int->List Pk} {a:Ev} {d:Int},ZV S->S.Qh<=e->Hu x W a d S->op<=S.ops->a.op<=op->FE x W a d (Zz op e n S).2 (Zz op e n S).1
 | 0,S,W,a,d,T,h,A,_,_=>⟨trivial,⟨A.w,A.d,by have:=A.at_;show a.at_<=(e:Nat);omega,A.o0,A.lk⟩⟩
 | n+1,S,W,a,d,T,h,A,ho,dP=>by
  have VN:=A.at_;unfold Zz;split
  ·exact⟨trivial,⟨A.w,A.d,by show a.at_<=(e:Nat);omega,A.o0,A.lk⟩⟩
  ·rename_i h2;have XP:=SB S T.cl;have T1:=T.at_ XP (show QP S<=4611686018427387904 by omega);have A1:Hu x W a d { S with Qh:=QP S }:=⟨A.w,A.d,by show a.at_<=(QP S:Nat);omega,A.o0,A.lk⟩;obtain⟨P1,P2⟩:=QoI T1 A1 ho dP;have T2:=T1.Og op;have hc:=Oh { S with Qh:=QP S } op (QP S);have R:=QoJ he n T2 (by
    have:=hc.1;show (Z2 { S with Qh:=QP S } op (QP S)).1.Qh<=e;rw[this];show QP S<=e;omega) P1.st (by show op<=(Z2 { S with Qh:=QP S } op (QP S)).1.ops;rw[hc.2.1];exact ho) (QHe P2 dP)
   exact P1.app R
def QHf{x}{S}(T:ZV S){W}{a}{d}(A:Hu x W a d S){o:QZ}(ho:∀c∈o.changes,JH.Ok c):FE x W a d (QY S o).l (QY S o).S:=by
 have A0:Hu x W a d { S with ops:=S.ops+1 }:=⟨A.w,A.d,A.at_,by have:=A.o0;show a.op<=((S.ops+1:Nat):Int);omega,A.lk⟩;have dP:=A.o0;show FE x W a d (JA { S with ops:=S.ops+1 } S.ops o).l (JA { S with ops:=S.ops+1 } S.ops o).S;unfold JA;split
 ·exact⟨trivial,⟨λj=>(A.w j).trans (QGD T.I T.V _ ho j).symm,A0.d,A0.at_,A0.o0,(Sy _ _ _).trans A.lk⟩⟩
 ·split
  ·split
   ·exact⟨trivial,⟨A0.w,A0.d,A0.at_,A0.o0,A0.lk⟩⟩
   ·exact⟨trivial,A0⟩
  ·split
   ·unfold X3;split
    ·exact⟨trivial,A0⟩
    ·split
     ·rename_i hp;have hp:Y3 S.M S.Qh (Jj S.R (Zy o.Zw)) o.Zw=0:=hp;have T1:=(T.ops (S.ops+1)).put (Jj S.R (Zy o.Zw)) o.Zw;have T2:=T1.Jv (Jj S.R (Zy o.Zw)) S.Qh (by have:=T.cl;omega);have hl:=QmN hp;rw[A.lk]at hl;have hK:XK x:=A.lk▸T.K;have ZP:=T.cl;have VN:=A.at_;have hq:∀j,Zn (Jr S.M S.Qh (Jj S.R (Zy o.Zw)) o.Zw) j=if Jj S.R (Zy o.Zw)=j then Zn S.M j++[o.Zw] else Zn S.M j:=λj=>by
       rw[SA];by_cases e:Jj S.R (Zy o.Zw)=j
       ·rw[Qf ⟨hp,e⟩,Qf e]
       ·rw[Qd λh=>e h.2,Qd e]
      have qk:=QoB T1.I (j:=Jj S.R (Zy o.Zw)) (by show Zn (Jr S.M S.Qh (Jj S.R (Zy o.Zw)) o.Zw) _≠[];rw[hq,Qf rfl];simp);obtain⟨E,hE⟩:∃E,E=AW S.ops S.Qh (Jj S.R (Zy o.Zw)) o.Zw:=⟨_,rfl⟩;have A2:Hu x (jd W E) E d { { S with ops:=S.ops+1 } with M:=Jr S.M S.Qh (Jj S.R (Zy o.Zw)) o.Zw,st:=kg S.st (Jj S.R (Zy o.Zw)) S.Qh }:=by
       refine⟨λj=>?_,A.d,?_,?_,(LG _ _ _ _).trans A.lk⟩
       ·show jd W E j=Zn (Jr S.M S.Qh (Jj S.R (Zy o.Zw)) o.Zw) j;rw[hq];unfold jd;subst hE;by_cases e:Jj S.R (Zy o.Zw)=j
        ·rw[Qf e,Qf (show j=(AW S.ops S.Qh (Jj S.R (Zy o.Zw)) o.Zw).cls from e.symm),A.w j];rfl
        ·rw[Qd e,Qd (show ¬j=(AW S.ops S.Qh (Jj S.R (Zy o.Zw)) o.Zw).cls from λh=>e h.symm)];exact A.w j
       ·subst hE;show ((S.Qh:Nat):Int)<=(S.Qh:Nat);omega
       ·subst hE;show ((S.ops:Nat):Int)<=((S.ops+1:Nat):Int);omega
      obtain⟨P1,_⟩:=QoI T2 A2 (op:=S.ops) (Nat.le_succ _) (by subst hE;exact Int.le_refl _);have Xi:∀k,k<8->S9 x W a d E k=false:=λk N9=>by
       subst hE;match k,N9 with
       | 0,_=>exact QN (by show ¬((S.ops:Int)<0\/(S.ops:Int)<a.op\/Jj S.R (Zy o.Zw)<1);omega)
       | 1,_=>exact QN (by show ¬((S.Qh:Int)<a.at_\/4611686018427387904<(S.Qh:Int));omega)
       | 2,_=>show (Cd o.Zw x.JK != 0)=false;rw[QoH hK hl];rfl
       | 3,_=>rfl
       | 4,_=>rfl
       | 5,_=>rfl
       | 6,_=>rfl
       | 7,_=>rfl
       | n+8,h=>exact absurd h (by omega)
      have hd:Hs d E=d:=by subst hE;rfl
      rw[<- hE];refine⟨⟨Xi,?_⟩,?_⟩
      ·rw[hd];exact P1.ok
      ·show Hu x (List.foldl jd (jd W E) _) (List.foldl _ E _) (List.foldl Hs (Hs d E) _) _;rw[hd];exact P1.st
     ·rename_i hp;refine⟨trivial,⟨λj=>?_,A0.d,A0.at_,A0.o0,(LG _ _ _ _).trans A.lk⟩⟩;show W j=Zn (Jr S.M S.Qh (Jj S.R (Zy o.Zw)) o.Zw) j;rw[SA,Qd λh=>hp h.1];exact A.w j
   ·split
    ·unfold Yo;split
     ·exact⟨trivial,A0⟩
     ·rename_i Qc;have:=T.cl;have Qc:¬(4611686018427387904 - S.Qh<o.Jn.toNat):=Qc;exact QoJ (S:={ S with ops:=S.ops+1 }) (by show S.Qh+o.Jn.toNat<=_;omega) _ (T.ops _) (by show S.Qh<=S.Qh+_;omega) A0 (Nat.le_succ _) dP
    ·exact⟨trivial,A0⟩
def Qd0{x}:∀(l:List QZ) {S:Zf} {W:Int->List Pk} {a:Ev} {d:Int},ZV S->Hu x W a d S->(∀o∈l,QZ.Ok o)->FE x W a d (Zh S l).2.2 (Zh S l).1
 | [],S,W,a,d,T,A,hl=>⟨trivial,A⟩
 | o::l,S,W,a,d,T,A,hl=>by
  have ho:=(hl o Vn).2.1.2;have P1:=QHf T A ho;exact P1.app (Qd0 l (T.do ho) P1.st λb hb=>hl b (KI _ hb))
def Qaj(lv:List Int)(n:Nat)(e:Ev):Nat:=if lv.contains e.cls then (if e.J4 then n+1 else n - 1) else n
def q4(W:Int->List Pk)(lv:List Int):Nat:=(lv.map λn=>(W n).length).sum
def Qk7{W W'}{lv}(h:∀n∈lv,W' n=W n):q4 W' lv=q4 W lv:=by
 unfold q4;congr 1;exact Ec λn hn=>by rw[h n hn]
def QbE{W W'}{q:Int}{a b}:∀{lv:List Int},lv.Nodup->q∈lv->(W' q).length+a=(W q).length+b->(∀n,n≠q->W' n=W n)->q4 W' lv+a=q4 W lv+b
 | [],_,h,_,_=>by cases h
 | x::lv,hn,h,h1,h2=>by
  rw[Jf]at hn;have e1:q4 W' (x::lv)=(W' x).length+q4 W' lv:=by simp[q4]
  have e2:q4 W (x::lv)=(W x).length+q4 W lv:=by simp[q4]
  rw[e1,e2];by_cases e:x=q
  ·subst e;rw[Qk7 λn hm=>h2 n λe=>hn.1 (e▸hm)];omega
  ·have h3:=QbE hn.2 ((QM.1 h).resolve_left λe2=>e e2.symm) h1 h2;rw[h2 x e];omega
def QBZ{W}{lv:List Int}(hn:lv.Nodup){e:Ev}(hq:e.J4=false->W e.cls≠[]):q4 (jd W e) lv=Qaj lv (q4 W lv) e:=by
 have off:∀n,n≠e.cls->jd W e n=W n:=λn h=>by unfold jd;rw[Qd h]
 unfold Qaj;by_cases hc:lv.contains e.cls=true
 ·rw[Qf hc];have hm:e.cls∈lv:=by simpa using hc
  cases hi:e.J4 with
  | true=>
   have:=QbE (W:=W) (W':=jd W e) (a:=0) (b:=1) hn hm (by unfold jd;rw[Qf rfl,hi,Qf rfl,Zj];rfl) off;rw[Qf rfl];omega
  | false=>
   have h0:=hq hi;have hp:0<(W e.cls).length:=List.length_pos_iff.2 h0;have:=QbE (W:=W) (W':=jd W e) (a:=1) (b:=0) hn hm (by unfold jd;rw[Qf rfl,hi,Qd ky,List.length_tail];omega) off;rw[Qd ky];omega
 ·rw[Qd hc];refine Qk7 λn hm=>off n λe2=>hc ?_;rw[<- e2];simpa using hm
def Qk9{x}{lv:List Int}(hn:lv.Nodup):∀(l:List Ev) (W:Int->List Pk) (a:Ev) (d:Int),Ht x W a d l->l.foldl (Qaj lv) (q4 W lv)=q4 (l.foldl jd W) lv
 | [],W,a,d,_=>rfl
 | e::l,W,a,d,h=>by
  have h4:=h.1 4 (by decide);have hq:e.J4=false->W e.cls≠[]:=λhi h0=>by
   have h4:(!e.J4&&(W e.cls).length==0)=false:=h4;rw[hi,h0]at h4;cases h4
  rw[Ba,Ba,<- QBZ hn hq];exact Qk9 hn l _ _ _ h.2
def Qld:∀lv:List Int,q4 (λ_=>[]) lv=0
 | []=>rfl
 | a::l=>by
  have:=Qld l;show ([]:List Pk).length+q4 (λ_=>[]) l=0;rw[this];rfl
def QB5{c}(K:XK c)(l:List QZ)(hl:∀o∈l,QZ.Ok o){lv:List Int}(hn:lv.Nodup):(Zh (S0 c) l).2.2.foldl (Qaj lv) 0=(lv.map λn=>(Zn (Zh (S0 c) l).1.M n).length).sum:=by
 have A:=Qd0 (x:=c) l (ZV.SW K) (W:=λ_=>[]) (a:=OG) (d:=0) ⟨λj=>rfl,rfl,Int.le_refl _,Int.le_refl _,rfl⟩ hl;have h:=Qk9 hn _ _ _ _ A.ok;rw[Qld lv]at h;rw[h];unfold q4;congr 1;exact Ec λn _=>by rw[A.st.w n]
def Qlk{α:Type}[DecidableEq α]:∀{l m:List α},l.Nodup->l ⊆ m->l.length<=m.length
 | [],_,_,_=>Z7 _
 | a::l,m,h,hs=>by
  rw[Jf]at h;have hm:a∈m:=hs Vn;have JL:l ⊆ m.erase a:=λx hx=>by
   have Qz:x≠a:=λe=>h.1 (e▸hx);exact(List.mem_erase_of_ne Qz).2 (hs (KI _ hx))
  have:=Qlk h.2 JL;rw[List.length_erase_of_mem hm]at this;have hp:0<m.length:=List.length_pos_of_mem hm;rw[Vh];omega
def B0(L:List Qw)(x:Qw):List Qw:=if Dg L x (up L x.parent).length=0 then WJ L x else L
structure EE (L T:List Qw):Prop where
 ok:VR L
 sub:∀c∈L,c∈T
section
variable {T:List Qw}(I:VR T)
include I
theorem EE.find{L}(P:EE L T){id}{c}(h:QF L id=some c):QF T id=some c:=by
 obtain⟨h1,h2⟩:=(Vs P.ok.rising).1 h;exact(Vs I.rising).2 ⟨P.sub c h1,h2⟩
theorem EE.up{L}(P:EE L T):∀(n:Nat) (id:Int),(X.up T id).length=n->(id=0\/(QF L id).isSome=true)->X.up L id=X.up T id
 | n,id,hn,h=>by
  cases hf:QF L id with
  | none=>
   rcases h with rfl|h
   ·have f0:QF T 0=none:=by
     rw[IB];intro c hc e;have:=I.ids c hc;omega
    rw[UN P.ok hf,UN I f0]
   ·rw[hf]at h;cases h
  | some c=>
   have hT:=P.find I hf;rw[Vz P.ok hf,Vz I hT];rw[Vz I hT]at hn;have Qcf:=P.ok.par c ((Vs P.ok.rising).1 hf).1;rw[EE.up P (X.up T c.parent).length c.parent rfl Qcf]
 termination_by n=>n
 decreasing_by
  simp only[<- hn];rw[Vz I hT,Vh];exact Bc _
theorem EE.add{L}(P:EE L T){x:Qw}(hx:x∈T):EE (B0 L x) T/\(∀c∈L,c∈B0 L x)/\((x.parent=0\/(QF L x.parent).isSome=true)->x∈B0 L x):=by
 unfold B0;by_cases h0:Dg L x (X.up L x.parent).length=0
 ·rw[Qf h0];have Jy:QF L x.iD=none:=by
   unfold Dg at h0;by_cases hr:VP x≠0
   ·rw[Qf hr]at h0;exact absurd h0 hr
   ·rw[Qd hr]at h0;cases hf:QF L x.iD with
    | none=>rfl
    | some y=>rw[hf]at h0;simp at h0
  have hm:∀c,c∈WJ L x↔c=x\/c∈L:=λc=>by
   rw[(Nk x P.ok.rising).mem_iff,QM];have:∀c∈L,c.iD≠x.iD:=λc hc e=>IB.1 Jy c hc e;unfold XT;rw[J8];constructor
   ·rintro (h|h)
    ·exact .inl h
    ·exact .inr h.1
   ·rintro (h|h)
    ·exact .inl h
    ·exact .inr ⟨h,by simpa using this c h⟩
  refine⟨⟨P.ok.add h0,λc hc=>?_⟩,λc hc=>(hm c).2 (.inr hc),λ_=>(hm x).2 (.inl rfl)⟩;rcases (hm c).1 hc with rfl|h
  ·exact hx
  ·exact P.sub c h
 ·rw[Qd h0];refine⟨P,λc hc=>hc,λhp=>jM λhn=>h0 ?_⟩;have Jy:QF L x.iD=none:=by
   cases hf:QF L x.iD with
   | none=>rfl
   | some y=>
    have h1:=P.find I hf;rw[(Vs I.rising).2 ⟨hx,rfl⟩]at h1;cases h1;exact absurd ((Vs P.ok.rising).1 hf).1 hn
  have IF:=P.up I _ x.parent rfl hp;have hlen:L.length<T.length:=by
   have ZY:∀{A:List Qw},VR A->(A.map (·.iD)).Nodup:=λ{A} J=>by
    have h:A.Pairwise (λa b=>a.iD<b.iD):=J.rising;rw[Tv,Ml];exact h.imp λVo=>by omega
   have h1:((x::L).map (·.iD)).Nodup:=by
    rw[J7,Jf];refine⟨λhm=>?_,ZY P.ok⟩;obtain⟨c,hc,e⟩:=Jk.1 hm;exact IB.1 Jy c hc e
   have h2:(x::L).map (·.iD) ⊆ T.map (·.iD):=λi hi=>by
    obtain⟨c,hc,rfl⟩:=Jk.1 hi;rcases QM.1 hc with rfl|hc
    ·exact Jk.2 ⟨c,hx,rfl⟩
    ·exact Jk.2 ⟨c,P.sub c hc,rfl⟩
   have h3:=Qlk h1 h2;rw[Kl,Vh,Kl]at h3;omega
  have QLv:=I.len;unfold Dg;rw[Qd (by rw[I.right x hx];decide),Jy,Qd (by simp),Qd (by omega)];rcases hp with hp|hp
  ·have f0:QF L 0=none:=by
    rw[IB];intro c hc e;have:=P.ok.ids c hc;omega
   rw[hp,f0,Qd (by simp),Qd (by unfold qv;simp),UN P.ok f0];rfl
  ·obtain⟨d,hd⟩:=FO.1 hp;have hdT:=P.find I hd;have hpz:x.parent≠0:=λe=>by
    rw[e]at hd;have h1:=(Vs P.ok.rising).1 hd;have:=P.ok.ids d h1.1;omega
   obtain⟨d',hd',wj⟩:=I.J4 x hx hpz;rw[hdT]at hd';cases hd';have Ks:1<Q7 x.ls->qv L x.parent=true:=λhs=>by
    have:=I.lS x hx hs hpz;unfold yx at this;unfold qv;rw[hd];rw[hdT]at this;rw[this,Bool.or_true]
   have hux:X.up T x.iD=x.iD::X.up T x.parent:=Vz I ((Vs I.rising).2 ⟨hx,rfl⟩);have h16:(X.up T x.iD).length<=16:=QDD T x.iD;rw[hd,Qd (by simp[wj]),Qd (λh=>by rw[Ks h.1]at h;cases h.2),IF];rw[hux,Vh]at h16;rw[Qd (by omega)]
end
def Qlp:∀{A B:List Qw},A.Pairwise (λa b=>a.iD<b.iD)->B.Pairwise (λa b=>a.iD<b.iD)->(∀c,c∈A↔c∈B)->A=B
 | [],[],_,_,_=>rfl
 | [],b::B,_,_,h=>absurd ((h b).2 Vn) (by simp)
 | a::A,[],_,_,h=>absurd ((h a).1 Vn) (by simp)
 | a::A,b::B,hA,hB,h=>by
  rw[Ct]at hA hB;have e:a=b:=by
   rcases QM.1 ((h a).1 Vn) with e|h1
   ·exact e
   ·rcases QM.1 ((h b).2 Vn) with e|h2
    ·exact e.symm
    ·have:=hB.1 a h1;have:=hA.1 b h2;omega
  subst e;congr 1;refine Qlp hA.2 hB.2 λc=>⟨λhc=>?_,λhc=>?_⟩
  ·rcases QM.1 ((h c).1 (KI _ hc)) with rfl|h1
   ·have:=hA.1 c hc;omega
   ·exact h1
  ·rcases QM.1 ((h c).2 (KI _ hc)) with rfl|h1
   ·have:=hB.1 c hc;omega
   ·exact h1
section
variable {T:List Qw}(I:VR T)
include I
theorem QbI:∀(l:List Qw) (L:List Qw),(∀c∈l,c∈T)->EE L T->EE (l.foldl B0 L) T/\(∀c∈L,c∈l.foldl B0 L)/\∀x∈l,(x.parent=0\/(QF L x.parent).isSome=true)->x∈l.foldl B0 L
 | [],L,_,P=>⟨P,λc hc=>hc,λx hx=>by cases hx⟩
 | a::l,L,hl,P=>by
  obtain⟨P1,s1,a1⟩:=P.add I (hl a Vn);obtain⟨P2,s2,a2⟩:=QbI l (B0 L a) (λc hc=>hl c (KI _ hc)) P1;refine⟨P2,λc hc=>s2 c (s1 c hc),λx hx hp=>?_⟩;rcases QM.1 hx with rfl|hx
  ·exact s2 x (a1 hp)
  ·refine a2 x hx (hp.imp id λhs=>?_);obtain⟨d,hd⟩:=FO.1 hs;obtain⟨h1,h2⟩:=(Vs P.ok.rising).1 hd;rw[(Vs P1.ok.rising).2 ⟨s1 d h1,h2⟩];rfl
def rounds(T:List Qw):Nat->List Qw
 | 0=>[]
 | r+1=>T.foldl B0 (rounds T r)
theorem QbL:∀r,EE (rounds T r) T/\∀x∈T,(up T x.iD).length<=r->x∈rounds T r
 | 0=>⟨⟨VR.nil,λc hc=>by cases hc⟩,λx hx h=>by
  have:=Vz I ((Vs I.rising).2 ⟨hx,rfl⟩);rw[this]at h;simp at h⟩
 | r+1=>by
  obtain⟨P,KS⟩:=QbL r;obtain⟨P2,s2,a2⟩:=QbI I T (rounds T r) (λc hc=>hc) P;refine⟨P2,λx hx hlen=>a2 x hx ?_⟩;by_cases hp:x.parent=0
  ·exact .inl hp
  ·obtain⟨d,hd,_⟩:=I.J4 x hx hp;obtain⟨h1,h2⟩:=(Vs I.rising).1 hd;have hu:=Vz I ((Vs I.rising).2 ⟨hx,rfl⟩);rw[hu,Vh]at hlen;have Xi:=KS d h1 (by rw[h2];omega);refine .inr ?_;rw[(Vs P.ok.rising).2 ⟨Xi,h2⟩];rfl
theorem QCf(r)(h:16<=r):rounds T r=T:=by
 obtain⟨P,KS⟩:=QbL I r;exact Qlp P.ok.rising I.rising λc=>⟨P.sub c,λhc=>KS c hc (KZ (QDD T c.iD) h)⟩
end
end Go.Fg.X
namespace Go.Fg.X.SP
open Go.Proofs Go.Fg
open Go.Proofs.Tryz
def TA(n:Nat)(e:Ev)(lv:List Int):Nat:=if lv.contains e.cls then (if e.J4 then n+1 else n - 1) else n
def qo(lv:List Int)(l:List Ev):Nat->Nat
 | 0=>0
 | k+1=>TA (qo lv l k) (l.getD k default) lv
def QaR(lv)(l:List Ev):∀k,qo lv l k<=k
 | 0=>QB _
 | k+1=>by have:=QaR lv l k;simp only[qo,TA];split<;>(try split)<;>omega
structure Sp where
 SZ:Int
 to:Int
 fst:Int
 lst:Int
 opn:Bool
instance:Inhabited Sp:=⟨⟨0,0,0,0,false⟩⟩
@[go_sem] def Sp.cells(s:Sp):List D:=[.raw (.int .u64 s.SZ),.raw (.int .u64 s.to),.raw (.int .i64 s.fst),.raw (.int .i64 s.lst),.raw (.bool s.opn)]
def gE(lv:List Int)(i:Nat)(e:Ev)(n:Nat)(out:List Sp):List Sp:=
 if n=0/\0<TA n e lv then out++[⟨e.at_,0,i,0,true⟩]
 else if 0<n/\TA n e lv=0 then out.set (out.length - 1) { out.getD (out.length - 1) default with to:=e.at_,lst:=i,opn:=false }
 else out
def X5(lv:List Int)(l:List Ev):Nat->List Sp
 | 0=>[]
 | k+1=>gE lv k (l.getD k default) (qo lv l k) (X5 lv l k)
def Qlr(lv)(l:List Ev):∀k,(X5 lv l k).length<=k
 | 0=>QB _
 | k+1=>by have:=Qlr lv l k;simp only[X5,gE];split<;>(try split)<;>simp<;>omega
def Qls(lv)(l:List Ev):∀k,0<qo lv l k->0<(X5 lv l k).length
 | 0,h=>by simp[qo]at h
 | k+1,h=>by
  have:=Qls lv l k;simp only[qo]at h;simp only[X5,gE];split<;>(try split)<;>simp<;>omega
def indexOf(l:List Int)(v:Int):Int:=if l.contains v then (l.idxOf v:Nat) else -1
def Qpp(l:List Int)(id)(hl:l.length<2147483648):Q4 prog 146 [ints l,Qb id] (Qn (Qb (indexOf l id))):=by
 refine ZA 0 Qi 200 func146 rfl ntmps146 results146 rfl λbase w hb=>?_;simp only[go_sem];refine Jg (λk s=>(l.take k).contains id=false/\s=⟨[(0,ints l),(1,Qb id),(6,ints l),(7,Qb l.length),(8,Qb k)],[]⟩) l.length (s0:=⟨[(0,ints l),(1,Qb id),(6,ints l),(7,Qb l.length),(8,Qb 0)],[]⟩) QQ ⟨by simp,rfl⟩ ?_;rintro k s hk ⟨Jy,rfl⟩;apply Zi hb;refine XS (λh=>?_) (λh=>?_)
 ·have Qj:k<l.length:=by simpa using h
  have e1:=getD_take l 0 k Qj;simp only[go_sem,Qj];refine XS (λh2=>?_) (λh2=>?_)
  ·simp only[go_sem];have h3:l=l.take k++id::l.drop (k+1):=by
    conv=>lhs;rw[<- HE (k+1) l,e1]
    simp at h2;simp[h2]
   have:indexOf l id=k:=by
    have hc:l.contains id=true:=by rw[h3];simp
    have h4:¬ id∈l.take k:=by simpa using Jy
    rw[indexOf,hc];simp only[K6];rw[h3,List.idxOf_append,Qd h4];simp;omega
   rw[this]
  ·simp only[go_sem];refine⟨by omega,_,Qp.frame (by simp only[go_sem,JX (show k<4611686018427387904 by omega)]),?_,rfl⟩;rw[e1];simp at Jy h2 ⊢;exact⟨Jy,h2⟩
 ·have Qj:k=l.length:=by simp at h;omega
  simp only[go_sem];apply Zi hb;subst Qj;simp at Jy;simp[indexOf,Jy]
def QbW(l:List Int)(id)(hl:l.length<2147483648):Q4 prog 91 [ints l,Qb id] (Qn (QJ (l.contains id))):=by
 refine ZA 0 Qi 200 func91 rfl ntmps91 results91 rfl λbase w hb=>?_;simp only[go_sem];refine Wu hb Qvc (Qpp l id hl) (Qn.flat rfl) λd h hR=>?_;obtain⟨rfl,rfl⟩:=hR;apply Zi hb;unfold indexOf;cases l.contains id<;>simp
def Qlt(n:Nat)(e:Ev)(lv:List Int)(hl:lv.length<2147483648)(hn:n<2147483648):Q4 prog 95 [Qb n,.agg e.cells,ints lv] (Qn (Qb (TA n e lv))):=by
 refine ZA 0 Qi 200 func95 rfl ntmps95 results95 rfl λbase w hb=>?_;simp only[go_sem];refine Wu hb QuO (QbW lv e.cls hl) (Qn.flat rfl) λd h hR=>?_;obtain⟨rfl,rfl⟩:=hR;apply Zi hb;refine XS (λh=>?_) (λh=>?_)
 ·simp only[go_sem];simp only[TA];simp at h;simp[h]
 ·simp only[go_sem];refine XS (λh2=>?_) (λh2=>?_)
  ·simp only[go_sem,JX (show n<4611686018427387904 by omega)];simp only[TA];simp at h;simp[h,h2]
  ·simp only[go_sem];rw[wrap64 (by omega) (by omega)];have:max ((n:Int) - 1) 0=((n - 1:Nat):Int):=by omega
   rw[this];simp only[TA];simp at h;simp[h,h2]
def Qb1(l:List Ev)(lv:List Int)(hl:l.length<2147483648)(hv:lv.length<2147483648):Q4 prog 44 [Kv l,ints lv] (Qn (QJ (decide (0<qo lv l l.length)))):=by
 refine ZA 0 Qi 200 func44 rfl ntmps44 results44 rfl λbase w hb=>?_;simp only[go_sem];refine Jg (λk s=>s=⟨[(1,ints lv),(5,Qb (qo lv l k)),(8,Kv l),(9,Qb l.length),(10,Qb k)],[]⟩) l.length (s0:=⟨[(1,ints lv),(5,Qb 0),(8,Kv l),(9,Qb l.length),(10,Qb 0)],[]⟩) QQ rfl ?_;rintro k s hk rfl;have hle:=QaR lv l k;apply Zi hb;refine XS (λh=>?_) (λh=>?_)
 ·have Qj:k<l.length:=by simpa using h
  simp only[go_sem,Qj];refine Wu hb QdP (Qlt (qo lv l k) (l.getD k default) lv hv (by omega)) (Qn.flat rfl) λd h hR=>?_;obtain⟨rfl,rfl⟩:=hR;apply Zi hb;refine⟨by omega,_,Qp.to 0 (by simp only[go_sem,JX (show k<4611686018427387904 by omega),qo]),rfl⟩
 ·have Qj:k=l.length:=by simp at h;omega
  simp only[go_sem];apply Zi hb;subst Qj;simp
set_option maxRecDepth 4000 in
def QjE(l:List Ev)(lv:List Int)(hl:l.length<2147483648)(hv:lv.length<2147483648):Q4 prog 83 [Kv l,ints lv] (QJy 5 Sp.cells (X5 lv l l.length)):=by
 refine ZA 1 Qi 200 func83 rfl ntmps83 results83 rfl λbase w hb=>?_;simp only[go_sem];refine Jg (λk s=>∃g,s=⟨[(1,ints lv),(5,.ref 0 g 0 (X5 lv l k).length),(6,Qb (qo lv l k)),(11,Kv l),(12,Qb l.length),(13,Qb k)],[⟨.arr,g,5,(X5 lv l k).length,λi=>((X5 lv l k).getD i default).cells⟩]⟩) l.length
  (s0:=⟨[(1,ints lv),(5,.ref 0 0 0 0),(6,Qb 0),(11,Kv l),(12,Qb l.length),(13,Qb 0)],[⟨.arr,0,5,0,λi=>(([]:List Sp).getD i default).cells⟩]⟩)
  (Qp.trans (Qp.Bh 5 5 (λi=>(([]:List Sp).getD i default).cells) rfl) QQ) ⟨0,rfl⟩ ?_
 rintro k s hk ⟨g,rfl⟩;have hle:=QaR lv l k;apply Zi hb;refine XS (λh=>?_) (λh=>?_)
 ·have Qj:k<l.length:=by simpa using h
  simp only[go_sem,Qj];refine Wu hb QdP (Qlt (qo lv l k) (l.getD k default) lv hv (by omega)) (Qn.flat rfl) λd h hR=>?_;obtain⟨rfl,rfl⟩:=hR;apply Zi hb;have QCg:=QaR lv l (k+1);simp only[qo]at QCg;have hlen:=Qlr lv l k;have QT:=JX (show k<4611686018427387904 by omega);by_cases hn:qo lv l k=0<;>by_cases hm:TA (qo lv l k) (l.getD k default) lv=0
  ·have e5:X5 lv l (k+1)=X5 lv l k:=by simp only[X5,gE];rw[Qd (by omega),Qd (by omega)]
   simp only[go_sem,bz hn,dnp hm,dnp hn,bz hm];exact⟨Qj,_,Qp.to 1 (by simp only[go_sem,QT,qo,e5]),g,rfl⟩
  ·have e5:X5 lv l (k+1)=X5 lv l k++[⟨(l.getD k default).at_,0,k,0,true⟩]:=by simp only[X5,gE];rw[Qf (by omega)]
   simp only[go_sem,bz hn,dp hm,dnp hn,tO hm];refine⟨by omega,Qj,_,Qp.to 1 ⟨?_,by simp only[go_sem],by simp only[go_sem],?_⟩,g+1,rfl⟩
   ·simp only[go_sem,QT,qo,e5,Zj]
   ·simp only[go_sem,e5,Zj];intro i hi;by_cases h:i<(X5 lv l k).length
    ·simp[h,JD h]
    ·have:i=(X5 lv l k).length:=by omega
     subst this;simp
  ·have e5:X5 lv l (k+1)=(X5 lv l k).set ((X5 lv l k).length - 1) { (X5 lv l k).getD ((X5 lv l k).length - 1) default with to:=(l.getD k default).at_,lst:=k,opn:=false }:=by simp only[X5,gE];rw[Qd (by omega),Qf (by omega)]
   have qk:=Qls lv l k (by omega);have e6:IntKind.i64.wrap (((X5 lv l k).length:Int) - 1)=(((X5 lv l k).length - 1:Nat):Int):=by rw[wrap64 (by omega) (by omega)];omega
   have e7:(X5 lv l k).length - 1<(X5 lv l k).length:=by omega
   simp only[go_sem,tO hn,dnp hm,dp hn,bz hm,e6,e7];refine⟨Qj,_,Qp.to 1 ⟨?_,by simp only[go_sem],by simp only[go_sem],?_⟩,g,rfl⟩
   ·simp only[go_sem,QT,qo,e5,KD]
   ·simp only[go_sem,e5,KD];intro i hi;by_cases h:i=(X5 lv l k).length - 1
    ·subst h;simp[e7]
    ·simp[h,jO.2 h,JJ (Q8 h)]
  ·have e5:X5 lv l (k+1)=X5 lv l k:=by simp only[X5,gE];rw[Qd (by omega),Qd (by omega)]
   simp only[go_sem,tO hn,dp hm,dp hn,tO hm];exact⟨Qj,_,Qp.to 1 (by simp only[go_sem,QT,qo,e5]),g,rfl⟩
 ·have Qj:k=l.length:=by simp at h;omega
  simp only[go_sem];apply Zi hb;subst Qj;exact⟨g,rfl,rfl⟩
end Go.Fg.X.SP
namespace Go.Fg.X
open Go.Proofs Go.Fg
open Go.Proofs.Tryz
def Tm(L:List Qw)(id n:Int):Bool:=!(id==0)&&!(J6 L 16 n).contains id
section
variable (h:List Ob)(t m c:Nat){es:List ZU}{L:List Qw}(T:VW es L)(hE:∀n,Ends L 16 n)
 (ht:(h.map Ob.ro)[t]? = some ⟨.Wn,0,1,1,λ_=>[.mref m 0]⟩) (hm:(h.map Ob.ro)[m]? = some (QS .i64 c es).ro)
include T ht hm hE
theorem QCA(b1 b2)(id n)(h1:(h.map Ob.ro)[b1]? = some ⟨.Wn,0,1,1,λ_=>[Qb id]⟩)(h2:(h.map Ob.ro)[b2]? = some ⟨.Wn,0,1,1,λ_=>[.ptr t 0 0 0]⟩):
  QV prog 90 h [Qb n,.ptr b1 0 0 0,.ptr b2 0 0 0] (λd=>d=QJ (Tm L id n)):=by
 refine Zq Qi 200 func90 rfl ntmps90 results90 rfl λbase w pl F hF Q3 hb=>?_;rw[<- hF]at ht hm h1 h2;have ZD:=Qc ht;have QG:=Qc hm;have QO:=Qc h1;have K9:=Qc h2;simp only[go_sem,Qa,ht,ZD,hm,QG,h1,QO,h2,K9];by_cases h0:id=0
 ·have e:Tm L id n=false:=by simp[Tm,h0]
  rw[e];apply QH hb [0,1,2,3,4,6,1005,1007,8,9,10];simp only[go_sem,Qa,h1,h2,QO,K9,Wg h0,bne,Go.undef];exact⟨[],(QU F).symm⟩
 ·have e:Tm L id n=!(J6 L 16 n).contains id:=by simp[Tm,h0]
  rw[e];apply QH hb [0,1,2,3,4,6,1005,1007,8,9,10];simp only[go_sem,Qa,h1,h2,QO,K9,J5 h0,bne,Go.undef];refine Gl hb iR rfl ?_ (QiA F t m c T (Z3 ht) (Np hm) n 16 (by omega) (hE n)) rfl λd g hs=>?_
  ·simp only[go_sem]
  have xg:=Dj (L:=L) (n:=16) (id:=n);rcases hs with ⟨rfl,h3⟩|⟨lo,gn,off,row,rfl,Zm,ho,hr⟩
  ·refine Zr hb ?_;rw[h3];simp only[go_sem,Qa,h1,h2,QO,K9];have hc:Q4 prog 91 [.nil,Qb id] (Qn (QJ (([]:List Int).contains id))):=QK.PQ (SP.QbW [] id (by decide)) ⟨rfl,rfl,trivial⟩;refine Rp hb QuO hc (Qn.flat rfl) λd h hR=>?_;obtain⟨rfl,rfl⟩:=hR;apply XF hb;exact⟨_,rfl⟩
  ·refine Zr hb ?_;simp only[go_sem,Qa,h1,h2,QO,K9];have Qg:=Qc ho;refine Vj hb QuO rfl ?_ (SP.QbW (J6 L 16 n) id (by omega)) (Qn.flat rfl) rfl λd h hR=>?_
   ·simp only[go_sem,Qa,ho,Qg];exact⟨λi hi=>by rw[hr i hi];rfl,hr⟩
   obtain⟨rfl,rfl⟩:=hR;refine Zr hb ?_;simp only[go_sem,Qa,ho,Qg];exact⟨_,rfl⟩
end
def QCC(h)(so):QV prog 88 h [.nil,so] (λd=>d=.nil):=by
 refine Zq Qi 200 func88 rfl ntmps88 results88 rfl λbase w pl F hF Q3 hb=>?_;simp only[go_sem,Qa];refine Z8 hb UE rfl ?_ (QiH F so) rfl λd2 hR=>?_
 ·simp only[go_sem];exact Df so
 subst hR;apply QC hb;exact⟨[],(QU F).symm⟩
def Sw(L:List Qw):List Int:=(L.filter (·.leaf)).map (·.iD)
def TD(L:List Qw)(id:Int):List Int:=xF (Tm L id) (Sw L)
section
variable (h:List Ob)(t m c:Nat){es:List ZU}{L:List Qw}(T:VW es L)(hlen:L.length<1000000)(hE:∀n,Ends L 16 n)
 (ht:(h.map Ob.ro)[t]? = some ⟨.Wn,0,1,1,λ_=>[.mref m 0]⟩) (hm:(h.map Ob.ro)[m]? = some (QS .i64 c es).ro)
include T ht hm hE hlen
theorem QCD(id):Wf prog 42 h [.ptr t 0 0 0,Qb id] (λd g=>Ky h.length (h++g) d (TD L id)):=by
 have qi:(Sw L).length<1000000:=by
  have:=qL (λc:Qw=>c.leaf) L;simp only[Sw,Kl];omega
 refine jT Qi 200 func42 rfl ntmps42 results42 rfl λbase w pl F hF Q3 hb=>?_;rw[<- hF]at ht hm;have ZD:=Qc ht;have QG:=Qc hm;simp only[go_sem,Qa,ht,ZD,hm,QG];obtain⟨B,hB⟩:∃B:List Ob,B=[⟨.one,0,1,1,λ_=>[.ptr t 0 0 0]⟩,⟨.one,0,1,1,λ_=>[Qb id]⟩]:=⟨_,rfl⟩;have hx:Vt F (F++B):=⟨_,rfl⟩;have hBl:B.length=2:=by rw[hB];rfl
 have ZG:B[0]? = some ⟨.one,0,1,1,λ_=>[.ptr t 0 0 0]⟩:=by rw[hB];rfl
 have KL:B[1]? = some ⟨.one,0,1,1,λ_=>[Qb id]⟩:=by rw[hB];rfl
 have nT:=hB;simp only[go_sem]at nT;rw[<- nT];refine Is hb QuN rfl ?_ (QxJ _ t m c T hlen (Z3 (hx.get ht)) (Np (hx.get hm))) rfl λd g hs=>?_
 ·simp only[go_sem]
 rw[show (L.filter (·.leaf)).map (·.iD)=Sw L from rfl]at hs;rcases hs with ⟨rfl,h3⟩|⟨lo,gn,off,row,rfl,Zm,ho,hr⟩
 ·apply QC hb;refine Z8 hb QhB rfl ?_ (QCC _ (.clo 90 0 [.ptr (F.length+1) 0 0 0,.ptr F.length 0 0 0])) rfl λd2 hR=>?_
  ·simp only[go_sem,Qa]
  subst hR;apply QC hb;refine⟨_,rfl,.inl ⟨rfl,?_⟩⟩;rw[TD,h3];rfl
 ·apply QC hb;have Az:F.length+2<=lo:=by
   have h4:(F++B).length<=lo:=Zm.1;rw[Zj,hBl]at h4;exact h4
  obtain⟨H,hH⟩:∃H,H=F++(B++g):=⟨_,rfl⟩;have hHF:∀x:Nat,x<F.length->H[x]? = F[x]? := λx hx=>by rw[hH];exact Qx hx
  have KJ:H[lo]? = some ⟨.arr,gn,1,off+(Sw L).length,row⟩:=by rw[hH,<- WC];exact ho
  have hHb:F.length+2<=H.length:=by rw[hH];simp[hBl]
  have QB6:H[F.length]? = some ⟨.one,0,1,1,λ_=>[.ptr t 0 0 0]⟩:=by rw[hH,Kx rfl,Qx (by omega)];exact ZG
  have QCF:H[F.length+1]? = some ⟨.one,0,1,1,λ_=>[Qb id]⟩:=by rw[hH,Vr rfl,Qx (by omega)];exact KL
  rw[<- hH];have tell:∀H2:List Ob,(∀x:Nat,H[x]? = H2[x]?\/(H2[x]? = (H[x]?).map Ob.ro))->H2.length=H.length->Qac H2 lo 90 0 [.ptr (F.length+1) 0 0 0,.ptr F.length 0 0 0] (Tm L id):=by
   intro H2 h2 Jx h' n hle hag;have key:∀(x:Nat) (o:Ob),x<F.length+2->H[x]? = some o->(h'.map Ob.ro)[x]? = some o.ro:=λx o hx e=>by
    have e1:=hag x (by omega) (by omega);rcases h2 x with e2|e2
    ·exact Z3 (by rw[e1,<- e2,e])
    ·have:=Z3 (by rw[e1,e2,e];rfl:h'[x]? = some o.ro);rw[ro_ro]at this;exact this
   exact QCA h' t m c T hE (key t ⟨.Wn,0,1,1,λ_=>[.mref m 0]⟩ (by omega) (by rw[hHF t ZD];exact ht)) (by have:=key m _ (by omega) (by rw[hHF m QG];exact hm);rw[ro_ro]at this;exact this) (F.length+1) F.length id n (key _ ⟨.one,0,1,1,λ_=>[Qb id]⟩ (by omega) QCF) (key _ ⟨.one,0,1,1,λ_=>[.ptr t 0 0 0]⟩ (by omega) QB6)
  refine qZ hb QhB (Qxh H (Sw L) lo gn off row qi KJ hr (.clo 90 0 [.ptr (F.length+1) 0 0 0,.ptr F.length 0 0 0]) 90 0 [.ptr (F.length+1) 0 0 0,.ptr F.length 0 0 0] Qso rfl (Tm L id) (tell H (λx=>.inl rfl) rfl) (tell (H.map Ob.ro) (λx=>.inr (by rw[KG])) (by simp))) λd h2 hR=>?_;obtain⟨rfl,KO,rfl,aU⟩:=hR;apply QC hb;refine Ky.done Q3 ⟨(B++g).set (lo - F.length) ⟨.arr,gn,1,off+(xF (Tm L id) (Sw L)).length,KO⟩,?_⟩ (.inr ⟨lo,gn,off,KO,rfl,by omega,?_,aU⟩)
  ·rw[hH,OR _ _ (by omega:F.length<=lo)]
  ·exact Qs (Qc KJ)
end
end Go.Fg.X
namespace Go.Fg.X.SP
open Go.Proofs Go.Fg
open Go.Proofs.Tryz
@[go_sem] def QLw(n:Int):List D:=[.raw (.int .u64 n)]
@[go_sem] def QLx(n:Int):List D:=[.raw (.int .i64 n)]
def lens(lv:List Int)(l:List Ev)(k:Nat):List Int:=(List.range (k+1)).map λj=>(qo lv l j:Int)
def eIn(t:Int):Ev:=⟨0,true,false,t,0,3,0,0,0,0,0,0⟩
def Qb2(t:Int):Ev:=⟨0,false,false,t,0,3,0,0,0,0,0,0⟩
def Qb3(t:Int):Q4 prog 81 [.raw (.int .u64 t)] (Qn (.agg (eIn t).cells)):=by
 refine ZA 0 Qi 200 func81 rfl ntmps81 results81 rfl λbase w hb=>?_;simp only[go_sem];rfl
def Qlu(t:Int):Q4 prog 82 [.raw (.int .u64 t)] (Qn (.agg (Qb2 t).cells)):=by
 refine ZA 0 Qi 200 func82 rfl ntmps82 results82 rfl λbase w hb=>?_;simp only[go_sem];rfl
theorem c2:((2:Nat):Int)=2:=rfl
def Ts:List Ev:=[eIn 5,Qb2 5,eIn 9,eIn 9,Qb2 20]
def QCH:Q4 prog 38 [] (Qn (QJ true)):=by
 refine ZA 0 Qi 200 func38 rfl ntmps38 results38 rfl λbase w hb=>?_;simp only[go_sem];refine Wu hb QaY (Qb3 5) (Qn.flat rfl) λd h hR=>?_;obtain⟨rfl,rfl⟩:=hR;apply Zi hb;refine Wu hb QdN (Qlu 5) (Qn.flat rfl) λd h hR=>?_;obtain⟨rfl,rfl⟩:=hR;apply Zi hb;refine Wu hb QaY (Qb3 9) (Qn.flat rfl) λd h hR=>?_;obtain⟨rfl,rfl⟩:=hR;apply Zi hb;refine Wu hb QaY (Qb3 9) (Qn.flat rfl) λd h hR=>?_;obtain⟨rfl,rfl⟩:=hR;apply Zi hb;refine Wu hb QdN (Qlu 20) (Qn.flat rfl) λd h hR=>?_;obtain⟨rfl,rfl⟩:=hR;apply Zi hb;refine kO (s':=⟨[(3,.ref 0 0 0 5),(16,.ref 0 0 0 5),(17,.ref 1 0 0 1)],[⟨.arr,0,12,5,λi=>(Ts.getD i default).cells⟩,⟨.arr,0,1,1,λi=>[Qb (([3]:List Int).getD i 0)]⟩]⟩) (Qp.to 2 ⟨by simp only[go_sem],by simp only[go_sem],by simp only[go_sem],?_⟩) ?_
 ·simp only[go_sem];refine⟨λi hi=>?_,λi hi=>?_⟩
  ·obtain rfl|rfl|rfl|rfl|rfl:i=0\/i=1\/i=2\/i=3\/i=4:=by omega
   all_goals rfl
  ·obtain rfl:i=0:=by omega
   rfl
 have e1:=QjE Ts [3] (by decide) (by decide);rw[show X5 [3] Ts Ts.length=[⟨5,5,0,1,false⟩,⟨9,0,2,0,true⟩] by rfl]at e1;have e2:=Qb1 Ts [3] (by decide) (by decide);rw[show decide (0<qo [3] Ts Ts.length)=true by rfl]at e2;have e3:=Qb1 Ts [4] (by decide) (by decide);rw[show decide (0<qo [4] Ts Ts.length)=false by rfl]at e3;refine ZW hb Qsn rfl ?_ e1 (QJy.flat λx=>rfl) rfl λd h hR=>?_
 ·simp only[go_sem];rfl
 obtain⟨g,rfl,rfl⟩:=hR;refine Qe hb ?_;simp only[go_sem,c2];refine ZW hb QaI rfl ?_ e2 (Qn.flat rfl) rfl λd h hR=>?_
 ·simp only[go_sem];refine⟨rfl,λi (hi:i<1)=>?_⟩;obtain rfl:i=0:=by omega
  rfl
 obtain⟨rfl,rfl⟩:=hR;refine Qe hb ?_;simp only[go_sem,c2];refine ZW hb QaI rfl ?_ e3 (Qn.flat rfl) rfl λd h hR=>?_
 ·simp only[go_sem];refine⟨rfl,λi (hi:i<1)=>?_⟩;obtain rfl:i=0:=by omega
  rfl
 obtain⟨rfl,rfl⟩:=hR;refine Qe hb ?_;simp only[go_sem,c2]
end Go.Fg.X.SP
namespace Go.Fg.X
open Go.Proofs Go.Fg
end Go.Fg.X
namespace Go.Fg.X
open Go.Proofs Go.Fg
open Go.Proofs.Tryz
def S5{x:KW}{m}(h:wN x m=true)(hx:∀a∈x.ops,QZ.Ok a):x.ops.length<=m/\∀o∈x.ops,QZ.Ok o/\QZ.Small o:=by
 simp only[wN,Z9,XM]at h;obtain⟨hlen,KS⟩:=h;refine⟨hlen,λo ho=>?_⟩;have:=X6.1 KS o ho;simp only[LR,Z9,XM]at this;exact⟨hx o ho,by omega,by omega⟩
def Qlv(lv)(l:List Ev):∀k,k<=l.length->SP.qo lv l k=(l.take k).foldl (Qaj lv) 0
 | 0,_=>rfl
 | k+1,h=>by
  rw[getD_take _ default _ (by omega),kz,<- Qlv lv l k (by omega)];rfl
def QCJ{T}(hr:XD T)(id:Int):(TD T id).Nodup:=by
 unfold TD Sw xF;refine List.Nodup.sublist List.filter_sublist ?_;have h1:(T.map (·.iD)).Nodup:=by
  unfold List.Nodup;rw[Ml];exact hr.imp λh e=>by omega
 exact List.Nodup.sublist (List.Sublist.map _ (List.filter_sublist)) h1
def Qlw{T:List Qw}(h:T.length<=64)(id:Int):(TD T id).length<=64:=by
 have h1:=QCb (Tm T id) (Sw T);have h2:=qL (λc:Qw=>c.leaf) T;unfold Sw at h1;rw[Kl]at h1;unfold TD Sw;omega
def QCL{h}{t}{T}(R:XY h t T)(I:VR T)(id):QV prog 42 h [.ptr t 0 0 0,Qb id] (λd=>d=ints (TD T id)):=by
 obtain⟨m,c,es,ht,hm,hT⟩:=R;have:=I.len;exact Ky.closed (QCD h t m c hT (by omega) I.ends ht hm id)
structure Ta (q:Nat) (own:Nat->Tag) (tw:Nat->TT) (H:List Ob) (p:Nat) (S:Zf) (L:List Qw):Prop where
 T:Kj own tw H p S
 R:Wv (λl=>l=q\/l=q+1) H (q+1) L
 my:∀l,(l=q\/l=q+1)->own l=.no/\tw l=.my
def Ta.lt{q}{own}{tw}{H:List Ob}{p}{S}{L}(Y:Ta q own tw H p S L):q+1<H.length:=by
 obtain⟨m,c,es,h1,_⟩:=Y.R;exact Qc h1
def Ta.app{q}{own}{tw}{H}{p}{S}{L}(Y:Ta q own tw H p S L)(G):Ta q (QX own H .no) (ZX tw H .my) (H++G) p S L:=by
 obtain⟨_,_,_,_,Tx⟩:=Y.T;have hl:=Y.lt;refine⟨⟨_,_,_,_,Tx.YK G⟩,Y.R.step λl hl h=>⟨h,Qx hl⟩,λl hs=>?_⟩;have h1:l<H.length:=by omega
 rw[Js h1,JN h1];exact Y.my l hs
def Ta.stp{q}{own}{tw}{H H'}{p}{S}{L L'}(Y:Ta q own tw H p S L)(R:Wv (λl=>l=q\/l=q+1) H' (q+1) L')(s:Step (λl=>l=q\/l=q+1) H H'):Ta q (QX own H .no) (ZX tw H .my) H' p S L':=by
 have hl:=Y.lt;refine⟨Y.T.Ot λl hl hn=>s.keep l hl λhs=>hn ⟨(Y.my l hs).1,.inr (Y.my l hs).2⟩,R,λl hs=>?_⟩;have h1:l<H.length:=by omega
 rw[Js h1,JN h1];exact Y.my l hs
def EB(S:Zf)(lv:List Int)(j:Nat):Nat:=((lv.take j).map λn=>(Zn S.M n).length).sum
def QlB(S:Zf)(lv:List Int){j}(h:j<lv.length):EB S lv (j+1)=EB S lv j+(Zn S.M (lv.getD j 0)).length:=by
 unfold EB;rw[getD_take _ 0 _ h,jN,List.sum_append];simp
def QlD{own}{h}{p}{S:Zf}(C:z6 own h p S.M)(lv:List Int):∀j,j<=lv.length->EB S lv j<=j*64
 | 0,_=>QB _
 | j+1,hj=>by
  rw[QlB S lv (by omega)];have h1:=QlD C lv j (by omega);have h2:(Zn S.M (lv.getD j 0)).length<=64:=C.cC _;omega
def QCN(x:KW)(id)(hx:∀a∈x.ops,QZ.Ok a):Q4 prog 9 [.agg x.cells,Qb id] (Qn (QJ true)):=by
 refine Oo (R:=λd hh=>d=QJ true) _ rfl (λd hh h=>.inl (h▸kP _ _)) ?_;have hF:=SU x 200 (by decide);have hM:=Sx x.config;have xQ:=SP.QCH;refine Il Qi 200 func9 rfl ntmps9 results9 rfl λbase w hb=>?_;simp only[go_sem,Qa];cases YM:wN x 200 with
 | false=>
  rw[YM]at hF;refine Zu hb [] Yf rfl ?_ hF rfl λd h hR=>?_
  ·simp only[go_sem,Qa,Go.undef]
  obtain⟨rfl,rfl⟩:=hR;simp only[go_sem,Qa,Go.undef];refine Qe hb ?_;simp only[go_sem,Qa,Go.undef];refine Zu hb [] QaB rfl ?_ xQ rfl λd h hR=>?_
  ·simp only[go_sem,Qa]
  obtain⟨rfl,rfl⟩:=hR;simp only[go_sem,Qa];exact V9 hb
 | true=>
 rw[YM]at hF;cases Qb4:Fu x.config with
 | false=>
  rw[Qb4]at hM;refine Zu hb [] Yf rfl ?_ hF rfl λd h hR=>?_
  ·simp only[go_sem,Qa,Go.undef]
  obtain⟨rfl,rfl⟩:=hR;simp only[go_sem,Qa,Go.undef];refine Qe hb ?_;simp only[go_sem,Qa,Go.undef];refine Zu hb [] jr rfl ?_ hM rfl λd h hR=>?_
  ·simp only[go_sem,Qa,Go.undef]
  obtain⟨rfl,rfl⟩:=hR;simp only[go_sem,Qa,Go.undef];refine Qe hb ?_;simp only[go_sem,Qa,Go.undef];refine Zu hb [] QaB rfl ?_ xQ rfl λd h hR=>?_
  ·simp only[go_sem,Qa]
  obtain⟨rfl,rfl⟩:=hR;simp only[go_sem,Qa];exact V9 hb
 | true=>
 rw[Qb4]at hM;have K:=Sz.1 Qb4;obtain⟨hlen,Ja⟩:=S5 YM hx;refine Zu hb [] Yf rfl ?_ hF rfl λd h hR=>?_
 ·simp only[go_sem,Qa,Go.undef]
 obtain⟨rfl,rfl⟩:=hR;simp only[go_sem,Qa,Go.undef];refine Qe hb ?_;simp only[go_sem,Qa,Go.undef];refine Zu hb [] jr rfl ?_ hM rfl λd h hR=>?_
 ·simp only[go_sem,Qa,Go.undef]
 obtain⟨rfl,rfl⟩:=hR;simp only[go_sem,Qa,Go.undef];refine Qe hb ?_;simp only[go_sem,Qa,Go.undef];have hN:=cJ (own:=λ_=>.no) (tw:=λ_=>.my) (λ_ _=>rfl) [(⟨.one,0,3,1,λ_=>x.cells⟩:Ob)] K;refine qZ hb UC hN λd h1 hR=>?_;obtain⟨Ji,Kw,p,rfl,T1,K1⟩:=hR;have Kc:h1[0]? = some _:=K1.my 0 (by simp) rfl;have VU:=Qc Kc;refine Qe hb ?_;simp only[go_sem,Qa,Kc,VU];refine Is hb Quu rfl ?_ (QBO _) rfl λd h hR=>?_
 ·simp only[go_sem,Qa,Qx VU,Kc,VU]
 obtain⟨rfl,rfl⟩:=hR;refine Qe hb ?_;simp only[go_sem,Qa,Qx VU,Kc,VU];obtain⟨q,hq⟩:∃q,q=h1.length:=⟨_,rfl⟩;obtain⟨H0,gR⟩:∃H0,H0=h1++[(QS .i64 0 []:Ob),⟨.one,0,1,1,λ_=>[.mref q 0]⟩]:=⟨_,rfl⟩;rw[<- hq,<- gR];have XX:H0.length=q+2:=by rw[gR,hq];simp
 have t0:H0[q]? = some (QS .i64 0 []):=by rw[gR];exact Kx hq.symm
 have t1:H0[q+1]? = some ⟨.one,0,1,1,λ_=>[.mref q 0]⟩:=by rw[gR];exact Vr (k:=1) hq.symm
 have w9:H0[0]? = some ⟨.one,0,3,1,λ_=>x.cells⟩:=by rw[gR];exact(Qx VU).trans Kc
 obtain⟨_,_,_,_,T1x⟩:=T1;have T1':Kj (QX Ji h1 .no) (ZX Kw h1 .my) H0 p (S0 x.config):=by rw[gR];exact⟨_,_,_,_,T1x.YK _⟩
 have LY:∀l,l<H0.length->(l=0\/q<=l)->l<H0.length/\H0[l]? = H0[l]?/\QX Ji h1 .no l=.no/\ZX Kw h1 .my l=.my:=λl hl hk=>by
  refine⟨hl,rfl,?_⟩;rcases hk with rfl|hk
  ·rw[Js VU,JN VU];exact⟨K1.s1 0 (by simp),K1.s2 0 (by simp)⟩
  ·exact⟨Xb (by omega),zf (by omega)⟩
 have I0:=jH.start (ops:=x.ops) (Kp:=λl=>l=0\/q<=l) T1' LY (QB _);obtain⟨lo,Zm⟩:∃lo,lo=H0.length:=⟨_,rfl⟩;refine qS (Qp.bY 7 12 (by simp only[go_sem])) ?_;simp only[go_sem];rw[<- Zm]at I0 ⊢;refine Jg (λk s=>∃g own tw H S E row,jH x.config x.ops p k lo g H0 (λl=>l=0\/q<=l) own tw H S E row/\s=⟨[(1,Qb id),(2,.ptr 0 0 0 0),(5,.ptr p 0 0 0),(6,Qb 0),(7,.ref lo g 0 E.length),(8,.ptr (q+1) 0 0 0),(39,.imm 10 x.ops.length (QZ.rows x.ops)),(40,Qb x.ops.length),(41,Qb k)],H⟩) x.ops.length QQ ⟨_,_,_,_,_,_,_,I0,rfl⟩ ?_;clear I0 T1x T1' K1 Kc VU hN LY Zm gR hq;rintro k _ hk ⟨g,own,tw,H,S,E,row,I,rfl⟩;by_cases Qj:k<x.ops.length
 ·have dk:=Q5 Qj;have QT:=JX (show k<4611686018427387904 by omega);obtain⟨o,ho⟩:∃o,o=x.ops.getD k default:=⟨_,rfl⟩;have YL:o∈x.ops:=by rw[ho];exact WI x.ops default k Qj
  obtain⟨⟨_,_,_,_,Tx⟩,hV,hC,jG⟩:=And.intro I.T (And.intro I.V (And.intro I.C I.jG));have Ch:=Fz ⟨_,_,_,_,Tx.YK [⟨.one,0,10,1,λ_=>o.cells⟩]⟩ hV hC (by omega) o (Ja o YL).1 (Ja o YL).2.c (Ja o YL).2.r;refine Qe hb ?_;simp only[go_sem,Qa,dk,Qj,<- ho];refine Jh hb EK Ch λd h2 hR=>?_;obtain⟨dl,JC,Vv,rfl,T2,s2,K2⟩:=hR;refine Ye Qi hb 8 ?_;simp only[go_sem,Qa];obtain⟨ko,h4,W3,W6,W4,ZH,yW,I4⟩:=I.step Qj (ho▸(Ja o YL).1.2.1.2) (ho▸T2) (ho▸s2) K2 [⟨.one,0,3,1,λ_=>(QY S o).r.cells⟩] (w0:=⟨w,[],[]⟩) rfl rfl (fr:=[(1,Qb id),(2,.ptr 0 0 0 0),(5,.ptr p 0 0 0),(6,Qb 0),(7,.ref lo g 0 E.length),(12,dl),(8,.ptr (q+1) 0 0 0),(39,.imm 10 x.ops.length (QZ.rows x.ops)),(40,Qb x.ops.length),(41,Qb k)]) 12 rfl;rw[<- ho]at W4 ZH I4;refine kO (Qp.trans (Qp.frame (fr':=[(1,Qb id),(2,.ptr 0 0 0 0),(5,.ptr p 0 0 0),(6,Qb 0),(7,.ref lo g 0 E.length),(12,dl),(8,.ptr (q+1) 0 0 0),(39,.imm 10 x.ops.length (QZ.rows x.ops)),(40,Qb x.ops.length),(41,Qb k)]) (by simp only[go_sem])) W4) ?_;have OC:=Qc yW;have ZP:∀i,i<(QY S o).l.length->(ko i).all D.KK=true:=λi hi=>by rw[ZH i hi];rfl
  have lE:=I4.lE;rw[Zj]at lE;refine Qe hb ?_;simp only[go_sem,Qa,yW,OC,ZP];refine⟨⟨by omega,ZP⟩,?_⟩;have OD:E.length+(QY S o).l.length=(E++(QY S o).l).length:=(Zj).symm;rw[OD]at I4 lE ⊢;obtain⟨E5,LZ⟩:∃E5,E5=E++(QY S o).l:=⟨_,rfl⟩;rw[<- LZ]at I4 lE ⊢;rw[LZ]at I4 ⊢;exact⟨Qj,_,Qp.frame (by simp only[go_sem,QT]),_,_,_,_,_,_,_,I4,rfl⟩
 ·obtain rfl:k=x.ops.length:=by omega
  have dk:=QN Qj;have lE:=I.lE;have eS:=I.S_;have eE:=I.E_;rw[YO]at eS eE;refine Qe hb ?_;simp only[go_sem,Qa,dk,Qj];obtain⟨h5,xI,SI,W5,T5,k5⟩:=I.close (w0:=⟨w,[],[]⟩) rfl rfl (fr:=[(1,Qb id),(5,.ptr p 0 0 0),(6,Qb 0),(7,.ref lo g 0 E.length),(8,.ptr (q+1) 0 0 0)]) 7 rfl;refine qS (Qp.trans (Qp.frame (fr':=[(1,Qb id),(5,.ptr p 0 0 0),(6,Qb 0),(7,.ref lo g 0 E.length),(8,.ptr (q+1) 0 0 0)]) (by simp only[go_sem])) W5) ?_;have Y0:Ta q xI SI h5 p S (rounds S.M.T 0):=by
   have a0:=k5 q (by omega) (.inr (QB _));have a1:=k5 (q+1) (by omega) (.inr (by omega));refine⟨T5,⟨q,0,[],a1.1.trans t1,a0.1.trans t0,VW.nil,.inr rfl,.inl rfl⟩,λl hl=>?_⟩;rcases hl with rfl|rfl
   ·exact a0.2
   ·exact a1.2
  clear W5 T5 k5;have IT:VR S.M.T:=I.V.I.tree;have hTl:=IT.len;have back:=QB5 K x.ops hx (QCJ IT.rising id);rw[<- eS,<- eE]at back;have mq:=SP.Qb1 E (TD S.M.T id) (by omega) (by have:=Qlw hTl id;omega);rw[Qlv _ _ _ (QB _),YO]at mq;obtain⟨ids,FA⟩:∃ids,ids=S.M.T.map (·.iD):=⟨_,rfl⟩;have hil:ids.length=S.M.T.length:=by rw[FA,Kl]
  clear I;apply QC hb;refine Jg (λr s=>∃own tw H,Ta q own tw H p S (rounds S.M.T r)/\s=⟨[(1,Qb id),(5,.ptr p 0 0 0),(6,Qb 0),(7,Kv E),(8,.ptr (q+1) 0 0 0),(55,Qb r)],H⟩) 17 QQ ⟨_,_,_,Y0,rfl⟩ ?_;clear Y0;rintro r _ hr ⟨own,tw,H,Y,rfl⟩;by_cases Vx:r<17
  ·have dr:=Q5 (show (r:Int)<17 by omega);have QT:=JX (show r<4611686018427387904 by omega);have hC:=oV Y.T;rw[<- FA]at hC;refine Qe hb ?_;simp only[go_sem,Qa,dr];refine Jh hb iL hC λd h6 hR=>?_;obtain⟨rfl,g6,rfl⟩:=hR;have Y6:=Y.app g6;apply QC hb;refine Jg (λj s=>∃own tw H,Ta q own tw H p S ((S.M.T.take j).foldl B0 (rounds S.M.T r))/\s=⟨[(1,Qb id),(5,.ptr p 0 0 0),(6,Qb 0),(7,Kv E),(8,.ptr (q+1) 0 0 0),(55,Qb r),(58,ints ids),(59,Qb ids.length),(60,Qb j)],H⟩) ids.length QQ ⟨_,_,_,Y6,rfl⟩ ?_;clear Y6 Y hC;rintro j _ hj ⟨own,tw,H,Y,rfl⟩;by_cases dQ:j<ids.length
   ·have dj:=Q5 dQ;have hwj:=JX (show j<4611686018427387904 by omega);obtain⟨i,hi⟩:∃i,i=ids.getD j 0:=⟨_,rfl⟩;obtain⟨c,hc⟩:∃c,c=S.M.T.getD j default:=⟨_,rfl⟩;have gz:c∈S.M.T:=by rw[hc];exact WI _ default j (by omega)
    have gw:c.iD=i:=by rw[hi,FA,hc,getD_map (λc:Qw=>c.iD) S.M.T default 0 j (by omega)]
    have V:=Y.T;obtain⟨_,_,_,_,Tx⟩:=V;obtain⟨n,hn,rK⟩:=Tx.co.I.NV ((Vs IT.rising).2 ⟨gz,gw⟩);have hG:=Qdh Y.T hn;have hP:=(QbI IT (S.M.T.take j) (rounds S.M.T r) (λc hc=>List.mem_of_mem_take hc) (QbL IT r).1).1;have Y7:=Y.app [SV n (JR S.M i) (VE S.M i n)];have hA:=Qzb Y7.R hP.ok n.c;have zd:(S.M.T.take (j+1)).foldl B0 (rounds S.M.T r)=B0 ((S.M.T.take j).foldl B0 (rounds S.M.T r)) n.c:=by
     rw[getD_take _ default _ (by omega),kz,<- hc,<- rK];rfl
    refine Qe hb ?_;simp only[go_sem,Qa,dj,dQ,<- hi];refine ZN hb sT hG λd hR=>?_;subst hR;apply QC hb;refine qZ hb Quv hA λd h8 hR=>?_;obtain⟨rfl,R8,s8⟩:=hR;have Y8:=Y7.stp R8 s8;apply QC hb;rw[show (if (Dg ((S.M.T.take j).foldl B0 (rounds S.M.T r)) n.c (up ((S.M.T.take j).foldl B0 (rounds S.M.T r)) n.c.parent).length)=0 then WJ ((S.M.T.take j).foldl B0 (rounds S.M.T r)) n.c else (S.M.T.take j).foldl B0 (rounds S.M.T r))=(S.M.T.take (j+1)).foldl B0 (rounds S.M.T r) from zd.symm]at Y8;exact⟨dQ,_,Qp.frame (by simp only[go_sem,hwj]),_,_,_,Y8,rfl⟩
   ·obtain rfl:j=ids.length:=by omega
    have dj:=QN dQ;rw[hil,YO]at Y;refine Qe hb ?_;simp only[go_sem,Qa,dj,dQ];apply QC hb;exact⟨by omega,_,Qp.frame (by simp only[go_sem,QT]),_,_,_,Y,rfl⟩
  ·obtain rfl:r=17:=by omega
   have dr:=QN (show ¬((17:Nat):Int)<17 by omega);rw[QCf IT 17 (by omega)]at Y;have hBe:=QCL Y.R.toR IT id;obtain⟨lv,hlv⟩:∃lv,lv=TD S.M.T id:=⟨_,rfl⟩;have QCP:=Qlw hTl id;rw[<- hlv]at hBe mq back QCP;rw[back]at mq;have hP:=λi=>Qdg Y.T i;have hI:=mn Y.R.toR (by omega);have hC:=oV Y.T;rw[<- FA]at hC hI;have V:=Y.T;obtain⟨_,_,_,_,Tx⟩:=V;have QC0:=QlD Tx.co lv;refine Qe hb ?_;simp only[go_sem,Qa,dr];apply QC hb;refine ZN hb Qsm hBe λd hR=>?_;subst hR;apply QC hb;have QDe:EB S lv 0=0:=by simp[EB]
   have QDf:∀j,j<=lv.length->EB S lv j<=4096:=λj h=>by have:=QC0 j h;omega
   refine Jg (λj s=>s=⟨[(1,Qb id),(5,.ptr p 0 0 0),(6,Qb 0),(7,Kv E),(8,.ptr (q+1) 0 0 0),(17,ints lv),(18,Qb (EB S lv j)),(81,ints lv),(82,Qb lv.length),(83,Qb j)],H⟩) lv.length (Qp.frame (by simp only[go_sem,QDe])) rfl ?_;rintro j _ hj rfl;by_cases dQ:j<lv.length
   ·have dj:=Q5 dQ;have hwj:=JX (show j<4611686018427387904 by omega);obtain⟨i,hi⟩:∃i,i=lv.getD j 0:=⟨_,rfl⟩;have hPi:=hP i;have Jd:=QDf (j+1) (by omega);have zd:=QlB S lv dQ;rw[<- hi]at zd;obtain⟨m,hm⟩:∃m,m=EB S lv j:=⟨_,rfl⟩;rw[<- hm]at zd ⊢;unfold jD at hPi;generalize Zn S.M i=Q at *;have hwm:(IntKind.i64).wrap ((m:Int)+(Q.length:Int))=((m+Q.length:Nat):Int):=by
     rw[wrap64 (by omega) (by omega)];omega
    refine Qe hb ?_;simp only[go_sem,Qa,dj,dQ,<- hi];refine ZN hb sP hPi λd hR=>?_;subst hR;apply QC hb;exact⟨dQ,_,Qp.frame (by simp only[go_sem,hwj,hwm,zd]),rfl⟩
   ·obtain rfl:j=lv.length:=by omega
    have dj:=QN dQ;have hNe:EB S lv lv.length=(lv.map λn=>(Zn S.M n).length).sum:=by unfold EB;rw[YO]
    rw[<- hNe]at mq;generalize EB S lv lv.length=N at *;have sf:decide ((ids.length:Int)=(ids.length:Int))=true:=by simp
    rcases Nat.eq_zero_or_pos N with h0|h0
    ·subst h0;refine Qe hb ?_;simp only[go_sem,Qa,dj,dQ];apply QC hb;refine ZN hb iO hI λd hR=>?_;subst hR;apply QC hb;refine Jh hb iL hC λd h6 hR=>?_;obtain⟨rfl,g6,rfl⟩:=hR;refine Qe hb ?_;simp only[go_sem,Qa,Aa];refine Zu hb [] QaI rfl ?_ mq rfl λd h hR=>?_
     ·simp only[go_sem,Qa,Aa]
     obtain⟨rfl,rfl⟩:=hR;simp only[go_sem,Qa,Aa];refine Qe hb ?_;simp only[go_sem,Qa,Aa];refine Zu hb [] QaB rfl ?_ xQ rfl λd h hR=>?_
     ·simp only[go_sem,Qa]
     obtain⟨rfl,rfl⟩:=hR;simp only[go_sem,Qa];exact V9 hb
    ·have d1:=Q5 h0;have d2:decide ((0:Int)<(N:Int))=true:=Q5 (by omega);rw[d1]at mq;refine Qe hb ?_;simp only[go_sem,Qa,dj,dQ];apply QC hb;refine ZN hb iO hI λd hR=>?_;subst hR;apply QC hb;refine Jh hb iL hC λd h6 hR=>?_;obtain⟨rfl,g6,rfl⟩:=hR;refine Qe hb ?_;simp only[go_sem,Qa,Aa];refine Zu hb [] QaI rfl ?_ mq rfl λd h hR=>?_
     ·simp only[go_sem,Qa,Aa,d2]
     obtain⟨rfl,rfl⟩:=hR;simp only[go_sem,Qa,Aa,d2];refine Qe hb ?_;simp only[go_sem,Qa,Aa,d2];refine Zu hb [] QaB rfl ?_ xQ rfl λd h hR=>?_
     ·simp only[go_sem,Qa]
     obtain⟨rfl,rfl⟩:=hR;simp only[go_sem,Qa];exact V9 hb
end Go.Fg.X
