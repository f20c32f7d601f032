/- Contracts and laws on the way to the statement. No conditions. -/
import Derived.Test.YtmkmaijnnmaaoaaGreatTP1G
import Derived.Test.YtmkmaijnnmaaoaaGreatPA3G
import Derived.Test.YtmkmaijnnmaaoaaGreatSC7G
set_option maxRecDepth 100000
set_option maxHeartbeats 16000000
set_option linter.unusedVariables false
set_option linter.unusedSimpArgs false
set_option linter.unusedSectionVars false
set_option linter.defProp false
namespace Go.Fg.X
open Go.Proofs Go.Fg
open Go.Proofs.Tryz
structure kW where
 p:Nat
 b:Nat
 r:Nat
 w:Nat
 l:Nat
instance:Inhabited kW:=⟨⟨0,0,0,0,0⟩⟩
def kW.Ok(r:kW):Prop:=r.p<18446744073709551616/\r.b<18446744073709551616/\r.r<18446744073709551616/\r.w<18446744073709551616/\r.l<18446744073709551616
structure EL where
 Jp:Int->List Nat
 rows:Int->kW
def wh(s:EL)(a:Int)(b:Nat):EL:={ s with Jp:=λk=>if k=a then s.Jp k++[b] else s.Jp k }
def AA(r:kW)(a done:Nat)(b:Int)(c:Bool):kW:=
 ⟨(r.p+1) % 18446744073709551616,(r.b+b.toNat) % 18446744073709551616,if c=true then (r.r+1) % 18446744073709551616 else r.r,(r.w+(done - a)) % 18446744073709551616,max r.l (done - a)⟩
def qL(s:EL)(c:Int)(done:Nat)(b:Int)(d:Bool):EL:=match s.Jp c with
 | []=>s
 | a::l=>if b<1 then s else if done<a then s else
  ⟨λk=>if k=c then l else s.Jp k,λk=>if k=c then AA (s.rows k) a done b d else s.rows k⟩
def ZZ(x:Pk):List Int:=[x.xZ,x.x5,x.x6,x.x7]
def Ke.mask(r:Ke):List Int:=[r.Bo,r.Bp,r.FN,r.DW]
def Ke.want(r:Ke):List Int:=[r.Mg,r.Mh,r.Mi,r.FO]
def xv(a b:Int):Int:=bits .and .u16 a b
def aJ(h m:List Int):List Int:=List.zipWith xv h m
def jg(r:Ke)(h:List Int):Bool:=aJ h r.mask==r.want
def AB(r:Ke):Bool:=decide (1<=r.cls)&&decide (r.cls<=65536)&&(aJ r.want r.mask==r.want)
def Kj(R:List Ke)(h:List Int):Int:=match R.find? λr=>jg r h with
 | some r=>r.cls
 | none=>0
def zz(R:List Ke):Int:=if 32<R.length then 2 else if R.all AB=true then 0 else 1
structure Zj where
 M:Ql
 ZR:Nat
 R:List Ke
 st:EL
 Qd:Nat
 ops:Nat
def VN(c:Cf)(a:Int):Nat:=a.toNat*c.t.toNat
def Vz(c b:Nat)(a:Int)(x:Pk):Ev:=⟨c,true,false,b,0,a,x.iD,x.len,x.xZ,x.x5,x.x6,x.x7⟩
def AD(d:Nat)(a:Bool)(c done:Nat)(b:Int)(x:Pk):Ev:=⟨d,false,a,c,done,b,x.iD,x.len,x.xZ,x.x5,x.x6,x.x7⟩
def ZB(S:Zj)(b a:Nat):Zj × List Ev:=
 if a<S.ZR then (S,[]) else
 if V9 S.M a=true then
  ({ S with M:=takeN S.M a,ZR:=a+VN S.M.lk (Jd S.M a).len,st:=qL S.st (ZP S.M a) (a+VN S.M.lk (Jd S.M a).len) (Jd S.M a).len (V8 S.M a) },
   [AD b (V8 S.M a) a (a+VN S.M.lk (Jd S.M a).len) (ZP S.M a) (Jd S.M a)])
 else ({ S with M:=takeN S.M a },[])
def Zb(S:Zj):Nat:=Yq S.Qd S.ZR (Ve S.M)
def Vf(c e:Nat):Nat->Zj->Zj × List Ev
 | 0,S=>({ S with Qd:=e },[])
 | n+1,S=>if e<Zb S then ({ S with Qd:=e },[]) else
  let a:=ZB { S with Qd:=Zb S } c (Zb S);let b:=Vf c e n a.1
  (b.1,a.2++b.2)
structure wi where
 err:Int
 place:Int
 cls:Int
instance:Inhabited wi:=⟨⟨0,0,0⟩⟩
structure Ry where
 S:Zj
 r:wi
 l:List Ev
def zA(S:Zj)(b a:Nat):Ry:=
 if 4611686018427387904 - S.Qd<a then ⟨S,⟨27,0,0⟩,[]⟩ else
 ⟨(Vf b (S.Qd+a) (Vy S.M+1) S).1,⟨0,0,0⟩,(Vf b (S.Qd+a) (Vy S.M+1) S).2⟩
def qh(S:Zj)(b:Nat)(x:Pk):Ry:=
 if Kj S.R (ZZ x)=0 then ⟨S,⟨31,0,0⟩,[]⟩ else
 if Yp S.M S.Qd (Kj S.R (ZZ x)) x=0 then
  let a:=ZB { S with M:=Zr S.M S.Qd (Kj S.R (ZZ x)) x,st:=wh S.st (Kj S.R (ZZ x)) S.Qd } b S.Qd
  ⟨a.1,⟨0,0,Kj S.R (ZZ x)⟩,Vz b S.Qd (Kj S.R (ZZ x)) x::a.2⟩
 else ⟨{ S with M:=Zr S.M S.Qd (Kj S.R (ZZ x)) x },⟨Yp S.M S.Qd (Kj S.R (ZZ x)) x,0,Kj S.R (ZZ x)⟩,[]⟩
def Wa(S:Zj)(a:Nat)(o:Je):Ry:=
 if o.kind=1 then ⟨{ S with M:=KO S.M (decide (S.ZR<=S.Qd)) o.changes },⟨jM S.M (decide (S.ZR<=S.Qd)) o.changes,Aw S.M o.changes,0⟩,[]⟩
 else if o.kind=2 then (if zz o.rules=0 then ⟨{ S with R:=o.rules },⟨0,0,0⟩,[]⟩ else ⟨S,⟨zz o.rules,0,0⟩,[]⟩)
 else if o.kind=3 then qh S a o.ZG
 else if o.kind=4 then zA S a o.Wn.toNat
 else ⟨S,⟨1,0,0⟩,[]⟩
def Kb(S:Zj)(o:Je):Ry:=Wa { S with ops:=S.ops+1 } S.ops o
def S0(c:Cf):Zj:=⟨M0 c,0,[],⟨λ_=>[],λ_=>default⟩,0,0⟩
def Zz(S:Zj):List Je->Zj × List wi × List Ev
 | []=>(S,[],[])
 | o::l=>((Zz (Kb S o).S l).1,(Kb S o).r::(Zz (Kb S o).S l).2.1,(Kb S o).l++(Zz (Kb S o).S l).2.2)
def Qkw:∀(l m:List Je) (S:Zj),Zz S (l++m)=((Zz (Zz S l).1 m).1,(Zz S l).2.1++(Zz (Zz S l).1 m).2.1,(Zz S l).2.2++(Zz (Zz S l).1 m).2.2)
 | [],m,S=>rfl
 | o::l,m,S=>by simp only[YG,Zz,Qkw l m,Wu]
structure ZC (S:Zj):Prop where
 I:Qz S.M
 V:Inv S.M
 K:Xp S.M.lk
 len:∀j,∀x∈QW S.M j,1<=x.len/\x.len<=S.M.lk.ZJ
 mc:S.M.Qd<=S.Qd
 cl:S.Qd<=4611686018427387904
 un:S.ZR<=4611686018427387904+1073741824
 st:∀k,(S.st.rows k).Ok
 ca:∀k,∀a∈S.st.Jp k,a<18446744073709551616
def Qkx{P:List Pk->Prop}(d:P [])(f:List Qq)(b:Int):∀(L:List Int) (M:Ql),(∀n,Qj M.N b=some n->P n.q.l)->∀n,Qj (L.foldl (Ka f) M).N b=some n->P n.q.l
 | [],M,h=>h
 | i::L,M,h=>Qkx d f b L _ λn a=>by
  have e:∀(k:Qq),Qj (X4 k::jL M.N i) b=some n->P n.q.l:=λk a=>by
   unfold Qj at a;rw[vg]at a;split at a
   .cases a;exact d
   .have c:Qj (jL M.N i) b=some n:=a;rw[Dg]at c;split at c
    .cases c
    .exact h n c
  unfold Ka at a;split at a
  .rw[Dg]at a;split at a
   .cases a
   .exact h n a
  .split at a
   .exact e _ a
   .exact e _ a
def QBu{P:List Pk->Prop}(b:P []){M:Ql}{j:Int}(h:P (QW M j))(n:Nd)(a:Qj M.N j=some n):P n.q.l:=by
 unfold QW Qv at h;rw[a]at h;exact h
def Qky{P:List Pk->Prop}(a:P []){M:Ql}(b:Bool)(l:List JV){j:Int}(h:P (QW M j)):P (QW (KO M b l) j):=by
 unfold KO;split
 .have m:∀id,P (QW M id)->P (Qv (VM M (Jy M.T l)) id).q.l:=λid o=>by
   unfold Qv VM;cases c:Qj ((Kq M.T (Jy M.T l)).foldl (Ka (Jy M.T l)) { M with T:=Jy M.T l }).N id with
   | none=>exact a
   | some n=>exact Qkx a _ id _ { M with T:=Jy M.T l } (QBu a o) n c
  unfold QW Qv;show P ((Qj (XV M (Jy M.T l)) j).getD default).q.l;cases c:Qj (XV M (Jy M.T l)) j with
  | none=>exact a
  | some n=>
   have g:n∈XV M (Jy M.T l):=xF c;have i:=yJ c;obtain⟨k,p,rfl⟩:=JA.1 g;have d:k.iD=j\/(Qv (VM M (Jy M.T l)) k.iD).q.l=[]:=by
    by_cases e:(Qv (VM M (Jy M.T l)) k.iD).c.iD=k.iD
    .left;rw[<- e];simpa using i
    .right;unfold Qv at e ⊢;cases f:Qj (VM M (Jy M.T l)).N k.iD with
     | none=>rfl
     | some n=>
      rw[f]at e;have:=yJ f;exact absurd (by simpa using this) e
   rcases d with rfl|d
   .exact m _ h
   .show P (Qv (VM M (Jy M.T l)) k.iD).q.l;rw[d];exact a
 .exact h
def QBv{r:kW}(h:r.Ok){a done}(e:done<18446744073709551616)(b)(c:Bool):(AA r a done b c).Ok:=by
 obtain⟨j,i,d,g,f⟩:=h;unfold AA;refine⟨YI _ π,YI _ π,?_,YI _ π,?_⟩
 .dsimp only;split
  .exact YI _ π
  .exact d
 .dsimp only;omega
def yA(M:Ql)(a:Nat):(takeN M a).lk=M.lk:=Qkp M a
def QBw(M:Ql)(a:Nat):(takeN M a).Qd=M.Qd\/((takeN M a).Qd=a/\a<=4611686018427387904):=by
 unfold takeN;split
 .exact QaV M _
 .rw[QBo];exact QaV M _
def QBx(M:Ql)(a)(b)(x:Pk):(Zr M a b x).Qd=M.Qd\/((Zr M a b x).Qd=a/\a<=4611686018427387904):=by
 unfold Zr;split
 .rw[QBq];exact QaV M _
 .exact .inl rfl
def QBy(M:Ql)(b)(l:List JV):(KO M b l).Qd=M.Qd:=by
 unfold KO;split
 .exact(Gt _ _).2.2.2.1
 .rfl
def QaW{M:Ql}{a}{b}{x:Pk}(h:Yp M a b x=0):1<=x.len/\x.len<=M.lk.ZJ:=by
 unfold Yp at h;split at h
 .have c:(ZA M a).lk=M.lk:=mu M a;unfold VH at h;split at h
  .cases h
  .split at h
   .cases h
   .split at h
    .cases h
    .rename_i d;rw[c]at d;omega
 .cases h
def QBz{s:EL}(h:(∀k,(s.rows k).Ok)/\∀k,∀a∈s.Jp k,a<18446744073709551616)(c){done}(f:done<18446744073709551616)(b)(d:Bool):(∀k,((qL s c done b d).rows k).Ok)/\∀k,∀a∈(qL s c done b d).Jp k,a<18446744073709551616:=by
 unfold qL;cases g:s.Jp c with
 | nil=>exact h
 | cons a l=>
  dsimp only;split
  .exact h
  .split
   .exact h
   .refine⟨λk=>?_,λk x hx=>?_⟩
    .dsimp only;split
     .exact QBv (h.1 k) f _ _
     .exact h.1 k
    .dsimp only at hx;split at hx
     .rename_i e;exact h.2 c x (by rw[g];exact Jw _ hx)
     .exact h.2 k x hx
def II{c:Cf}(K:Xp c){a}(h:1<=a/\a<=c.ZJ):1<=VN c a/\VN c a<=1073741824:=by
 have j:=K.t1;have i:=K.t2;have g:=K.l2;unfold VN;have f:1<=a.toNat:=ω;have e:a.toNat<=16384:=ω;have d:1<=c.t.toNat:=ω;have b:c.t.toNat<=65536:=ω;exact⟨X8 f d,X8 e b⟩
def ZC.take_len{S:Zj}(T:ZC S){a:Nat}(h:V9 S.M a=true):1<=(Jd S.M a).len/\(Jd S.M a).len<=S.M.lk.ZJ:=by
 obtain⟨x,l,c,b⟩:=GA T.I T.V h;rw[b];exact T.len _ x (by rw[c];exact Z3)
def ZC.takeN{S:Zj}(T:ZC S):ZC { S with M:=takeN S.M S.Qd } where
 I:=T.I.takeN T.V _
 V:=T.V.takeN T.I _
 K:=by show Xp (X.takeN S.M S.Qd).lk;rw[yA];exact T.K
 len:=λj x hx=>by
  have hx:x∈QW (X.takeN S.M S.Qd) j:=hx;show 1<=x.len/\x.len<=(X.takeN S.M S.Qd).lk.ZJ;rw[yA];rw[Az]at hx;split at hx
  .exact T.len j x (List.mem_of_mem_tail hx)
  .exact T.len j x hx
 mc:=by
  show (X.takeN S.M S.Qd).Qd<=S.Qd;have:=T.mc;rcases QBw S.M S.Qd with h|h<;>omega
 cl:=T.cl
 un:=T.un
 st:=T.st
 ca:=T.ca
def ZC.IK{S:Zj}(T:ZC S)(c):ZC (ZB S c S.Qd).1:=by
 unfold ZB;split
 .exact T
 .split
  .rename_i h;have e:=II T.K (T.take_len h);have d:=T.cl;have a:=T.takeN;have b:=QBz ⟨T.st,T.ca⟩ (ZP S.M S.Qd) (done:=S.Qd+VN S.M.lk (Jd S.M S.Qd).len) ω (Jd S.M S.Qd).len (V8 S.M S.Qd);exact⟨a.I,a.V,a.K,a.len,a.mc,T.cl,by dsimp only;omega,b.1,b.2⟩
  .exact T.takeN
def ZC.at_{S:Zj}(T:ZC S){e}(b:S.Qd<=e)(a:e<=4611686018427387904):ZC { S with Qd:=e }:=
 ⟨T.I,T.V,T.K,T.len,JL T.mc b,a,T.un,T.st,T.ca⟩
def Nq(S:Zj)(b a:Nat):(ZB S b a).1.Qd=S.Qd/\(ZB S b a).1.ops=S.ops/\(ZB S b a).1.R=S.R:=by
 unfold ZB;split
 .exact⟨rfl,rfl,rfl⟩
 .split<;>exact⟨rfl,rfl,rfl⟩
def aK(S:Zj)(h:S.Qd<=4611686018427387904):S.Qd<=Zb S:=by
 unfold Zb Yq;omega
def ZC.go{a e}(b:e<=4611686018427387904):∀(n:Nat) {S:Zj},ZC S->S.Qd<=e->ZC (Vf a e n S).1
 | 0,S,T,h=>T.at_ h b
 | n+1,S,T,h=>by
  unfold Vf;split
  .exact T.at_ h b
  .rename_i d;have c:=(T.at_ (aK S T.cl) (show Zb S<=4611686018427387904 from ω)).IK a;refine ZC.go b n c ?_;have:=(Nq { S with Qd:=Zb S } a (Zb S)).1;rw[this];show Zb S<=e;omega
def ZC.put{S:Zj}(T:ZC S)(a)(x):ZC { S with M:=Zr S.M S.Qd a x } where
 I:=T.I.Zr T.V _ (by have:=T.cl;omega) _ _
 V:=T.V.Zr T.I _ (by have:=T.cl;omega) _ _
 K:=by show Xp (Zr S.M S.Qd a x).lk;rw[BV];exact T.K
 len:=λj y b=>by
  have b:y∈QW (Zr S.M S.Qd a x) j:=b;show 1<=y.len/\y.len<=(Zr S.M S.Qd a x).lk.ZJ;rw[BV];rw[IG]at b;split at b
  .rename_i h;rcases QX.1 b with h2|h2
   .exact T.len j y h2
   .simp only[Xq]at h2;subst h2;exact QaW h.1
  .exact T.len j y b
 mc:=by
  show (Zr S.M S.Qd a x).Qd<=S.Qd;have:=T.mc;rcases QBx S.M S.Qd a x with h|h<;>omega
 cl:=T.cl
 un:=T.un
 st:=T.st
 ca:=T.ca
def ZC.Jp{S:Zj}(T:ZC S)(d)(a)(e:a<18446744073709551616):ZC { S with st:=wh S.st d a }:=
 ⟨T.I,T.V,T.K,T.len,T.mc,T.cl,T.un,T.st,λk b c=>by
  have c:b∈(if k=d then S.st.Jp k++[a] else S.st.Jp k):=c;split at c
  .rcases QX.1 c with h|h
   .exact T.ca k b h
   .simp only[Xq]at h;omega
  .exact T.ca k b c⟩
def ZC.change{S:Zj}(T:ZC S)(b){l}(a:∀c∈l,JV.Ok c):ZC { S with M:=KO S.M b l } where
 I:=T.I.KO T.V b l a
 V:=T.V.KO T.I b l a
 K:=by show Xp (KO S.M b l).lk;rw[Rw];exact T.K
 len:=λj=>by
  show ∀x∈QW (KO S.M b l) j,1<=x.len/\x.len<=(KO S.M b l).lk.ZJ;rw[Rw];exact Qky (P:=λq=>∀x∈q,1<=x.len/\x.len<=S.M.lk.ZJ) (λx hx=>by cases hx) b l (T.len j)
 mc:=by show (KO S.M b l).Qd<=S.Qd;rw[QBy];exact T.mc
 cl:=T.cl
 un:=T.un
 st:=T.st
 ca:=T.ca
def ZC.one{S}(T:ZC S)(a){o:Je}(b:∀c∈o.changes,JV.Ok c):ZC (Wa S a o).S:=by
 unfold Wa;split
 .exact T.change _ b
 .split
  .split
   .exact⟨T.I,T.V,T.K,T.len,T.mc,T.cl,T.un,T.st,T.ca⟩
   .exact T
  .split
   .unfold qh;split
    .exact T
    .split
     .exact ZC.IK (S:={ S with M:=Zr S.M S.Qd (Kj S.R (ZZ o.ZG)) o.ZG,st:=wh S.st (Kj S.R (ZZ o.ZG)) S.Qd }) ((T.put _ _).Jp _ _ (by have:=T.cl;show S.Qd<_;omega)) a
     .exact T.put _ _
   .split
    .unfold zA;split
     .exact T
     .have:=T.cl;exact T.go ω _ ω
    .exact T
def ZC.ops{S}(T:ZC S)(n):ZC { S with ops:=n }:=⟨T.I,T.V,T.K,T.len,T.mc,T.cl,T.un,T.st,T.ca⟩
def ZC.do{S}(T:ZC S){o:Je}(a:∀c∈o.changes,JV.Ok c):ZC (Kb S o).S:=(T.ops _).one _ a
def QaX(a e):∀(n:Nat) (S:Zj),(Vf a e n S).1.ops=S.ops/\(Vf a e n S).1.Qd=e
 | 0,S=>⟨rfl,rfl⟩
 | n+1,S=>by
  unfold Vf;split
  .exact⟨rfl,rfl⟩
  .obtain⟨c,b⟩:=QaX a e n (ZB { S with Qd:=Zb S } a (Zb S)).1;exact⟨c.trans (Nq _ _ _).2.1,b⟩
def QBA(S:Zj)(a)(o:Je):(Wa S a o).S.ops=S.ops:=by
 unfold Wa;split
 .rfl
 .split
  .split<;>rfl
  .split
   .unfold qh;split
    .rfl
    .split
     .exact(Nq _ _ _).2.1
     .rfl
   .split
    .unfold zA;split
     .rfl
     .exact(QaX _ _ _ _).1
    .rfl
def Qkz(S:Zj)(o:Je):(Kb S o).S.ops=S.ops+1:=QBA _ _ _
def ahead(b:Int):Int->List Ev->Prop
 | _,[]=>True
 | a,v::l=>a<=v.at_/\v.at_<=b/\(v.Zy=true->v.done=0)/\(v.Zy=false->v.at_<v.done)/\ahead b v.at_ l
def ahead.lo{c a b}(h:b<=a):∀{l:List Ev},ahead c a l->ahead c b l
 | [],_=>trivial
 | _::_,⟨e,d⟩=>⟨ω,d⟩
def QkA{S:Zj}(T:ZC S)(a):(ZB S a S.Qd).2=[]\/∃v,(ZB S a S.Qd).2=[v]/\v.at_=S.Qd/\v.Zy=false/\v.at_<v.done:=by
 unfold ZB;split
 .exact .inl rfl
 .split
  .rename_i h;have b:=II T.K (T.take_len h);refine .inr ⟨_,rfl,rfl,rfl,?_⟩;show ((S.Qd:Nat):Int)<((S.Qd+VN S.M.lk (Jd S.M S.Qd).len:Nat):Int);omega
  .exact .inl rfl
def QBB{M}{a}(h:V9 M a=false):Ve (takeN M a)=Ve M:=by
 unfold takeN;unfold V9 at h;cases b:XE M a with
 | none=>
  show Ve (ZA M a)=Ve M;unfold ZA;split<;>rfl
 | some x=>rw[b]at h;cases h
def QkB{S:Zj}(T:ZC S)(c):S.Qd<Zb (ZB S c S.Qd).1:=by
 have e:=T.cl;have d:=T.un;unfold ZB;split
 .show S.Qd<Yq S.Qd S.ZR (Ve S.M);unfold Yq;omega
 .split
  .rename_i h;have g:=II T.K (T.take_len h);show S.Qd<Yq S.Qd (S.Qd+VN S.M.lk (Jd S.M S.Qd).len) _;unfold Yq;omega
  .rename_i h;have b:V9 S.M S.Qd=false:=by simpa using h
   have a:=Qku T.I T.V (now:=S.Qd) ω T.mc;rw[b]at a;have f:¬(Ve S.M<=S.Qd/\Ve S.M<9223372036854775808):=by simpa using a
   show S.Qd<Yq S.Qd S.ZR (Ve (takeN S.M S.Qd));rw[QBB b];unfold Yq;omega
def QkC{S}(T:ZC S)(a){e}(d:e<=4611686018427387904)(h:Zb S<=e):
  ZC (ZB { S with Qd:=Zb S } a (Zb S)).1/\Vy (ZB { S with Qd:=Zb S } a (Zb S)).1.M+1=Vy S.M/\S.Qd<=Zb S/\(ZB { S with Qd:=Zb S } a (Zb S)).1.Qd=Zb S:=by
 obtain⟨b,c,f⟩:=QBs T.I T.V (until_:=S.ZR) T.mc d h;have g:=(T.at_ (aK S T.cl) (show Zb S<=4611686018427387904 from ω));refine⟨g.IK a,?_,f,(Nq _ _ _).1⟩;have b:V9 S.M (Zb S)=true:=b;have c:S.ZR<=Zb S:=c;unfold ZB;rw[Qe (show ¬Zb S<S.ZR from ω)];show Vy (if V9 S.M (Zb S)=true then _ else _:Zj × List Ev).1.M+1=Vy S.M;rw[Qf b];exact QBr T.I T.V b
def QkD{op e}(i:e<=4611686018427387904):∀(n:Nat) {S:Zj},ZC S->S.Qd<=e->Vy S.M<n->e<Zb (Vf op e n S).1/\ahead e S.Qd (Vf op e n S).2
 | 0,S,T,h,f=>absurd f (Xc _)
 | n+1,S,T,h,f=>by
  unfold Vf;split
  .rename_i b;refine⟨?_,trivial⟩;unfold Zb Yq at b ⊢;dsimp only;omega
  .rename_i b;have b:Zb S<=e:=ω;dsimp only;obtain⟨o,q,c2,j⟩:=QkC T op i b;obtain⟨k,c⟩:=QkD i n o (by rw[j];exact b) ω;refine⟨k,?_⟩;rw[j]at c;have p:=(T.at_ (aK S T.cl) (show Zb S<=4611686018427387904 from ω));rcases QkA p op with a|⟨v,a,d,m,l⟩
   .have a:(ZB { S with Qd:=Zb S } op (Zb S)).2=[]:=a;rw[a,Yr];exact c.lo ω
   .have a:(ZB { S with Qd:=Zb S } op (Zb S)).2=[v]:=a;have d:v.at_=((Zb S:Nat):Int):=d;rw[a,YG,Yr];refine⟨ω,ω,λg=>(by rw[m]at g;cases g),λ_=>l,?_⟩;show ahead e v.at_ _;rw[d];exact c
def QkE(M)(a):Ve (ZA M a)=Ve M:=by
 unfold ZA;split<;>rfl
def QBC{M}{a}{b}{x}(h:¬Yp M a b x=0):Ve (Zr M a b x)=Ve M:=by
 unfold Yp at h;unfold Zr;split
 .rename_i c;rw[Qf c]at h;unfold Vx;split
  .exact QkE M a
  .exact QkE M a
 .rfl
structure QaY (S:Zj) (D:Ry):Prop where
 next:D.S.Qd<Zb D.S
 Qd:S.Qd<=D.S.Qd
 ev:ahead D.S.Qd S.Qd D.l
def QBD{S:Zj}(T:ZC S)(f:S.Qd<Zb S)(b){o:Je}(m:∀c∈o.changes,JV.Ok c):QaY S (Wa S b o):=by
 have a:∀r,QaY S ⟨S,r,[]⟩:=λr=>⟨f,Qs _,trivial⟩;unfold Wa;split
 .refine⟨?_,Qs _,trivial⟩;show S.Qd<Yq S.Qd S.ZR (Ve (KO S.M _ _));rw[QBt T.I m];exact f
 .split
  .split
   .exact⟨f,Qs _,trivial⟩
   .exact a _
  .split
   .unfold qh;split
    .exact a _
    .split
     .have l:=(T.put (Kj S.R (ZZ o.ZG)) o.ZG).Jp (Kj S.R (ZZ o.ZG)) S.Qd (by have:=T.cl;omega);have j:=QkB l b;have d:=(Nq { S with M:=Zr S.M S.Qd (Kj S.R (ZZ o.ZG)) o.ZG,st:=wh S.st (Kj S.R (ZZ o.ZG)) S.Qd } b S.Qd).1;refine⟨?_,?_,?_⟩
      .dsimp only;rw[d];exact j
      .dsimp only;rw[d];exact Qs _
      .dsimp only;rw[d];refine⟨qR _,qR _,λ_=>rfl,λh=>(by cases h),?_⟩;rcases QkA l b with g|⟨v,g,k,q,p⟩
       .rw[show (ZB _ b S.Qd).2=[] from g];trivial
       .rw[show (ZB _ b S.Qd).2=[v] from g];have k:v.at_=((S.Qd:Nat):Int):=k;exact⟨by show (S.Qd:Int)<=_;omega,by show _<=(S.Qd:Int);omega,λi=>(by rw[q]at i;cases i),λ_=>p,trivial⟩
     .rename_i j n;refine⟨?_,Qs _,trivial⟩;show S.Qd<Yq S.Qd S.ZR (Ve (Zr S.M S.Qd _ _));rw[QBC n];exact f
   .split
    .unfold zA;split
     .exact a _
     .have s:=T.cl;have:=QkD (op:=b) (e:=S.Qd+o.Wn.toNat) ω (Vy S.M+1) T ω ω;have d:=(QaX b (S.Qd+o.Wn.toNat) (Vy S.M+1) S).2;refine⟨?_,?_,?_⟩
      .dsimp only;rw[d];exact this.1
      .dsimp only;rw[d];omega
      .dsimp only;rw[d];exact this.2
    .exact a _
def QkF{S:Zj}(T:ZC S)(a:S.Qd<Zb S){o:Je}(b:∀c∈o.changes,JV.Ok c):QaY S (Kb S o):=by
 have:=QBD (T.ops (S.ops+1)) a S.ops b;exact⟨this.next,this.Qd,this.ev⟩
def QCG(S:Zj)(c b:Nat):∀e∈(ZB S c b).2,e.op=c:=by
 unfold ZB;split
 .intro e a;cases a
 .split
  .intro e a;simp only[Xq]at a;rw[a];rfl
  .intro e a;cases a
def zB(r:Ke):Bool:=r.Bo==65535&&(r.Bp==65535&&(r.FN==65535&&r.DW==65535))
def aL(n:Int):Prop:=0<=n/\n<65536
def mw{a}(h:aL a):xv a 65535=a:=by
 obtain⟨n,rfl⟩:∃n:Nat,a=n:=⟨a.toNat,by have:=h.1;omega⟩;have c:n<65536:=by have:=h.2;omega
 have b:(BitVec.ofInt 16 (n:Int)).toNat=n:=by
  rw[BitVec.ofInt_natCast,BitVec.toNat_ofNat];exact jq ω
 show IntKind.u16.wrap ((BitVec.ofInt 16 (n:Int) &&& BitVec.ofInt 16 65535).toNat:Int)=_;rw[BitVec.toNat_and,b,show (BitVec.ofInt 16 65535).toNat=2 ^ 16 - 1 from rfl,Nat.and_two_pow_sub_one_eq_mod];rw[show IntKind.u16.wrap ((n % 2 ^ 16:Nat):Int)=((n % 2 ^ 16:Nat):Int) % 65536 by simp[IntKind.wrap,IntKind.bits,IntKind.signed]];omega
def JX(R:List Ke)(i:Nat):Ke:=R.getD i default
def QaZ(p:Ke->Bool):∀(R:List Ke) (i:Nat),i<R.length->p (JX R i)=true->(∀j,j<i->p (JX R j)=false)->R.find? p=some (JX R i)
 | [],i,b,_,_=>by simp at b
 | r::R,0,b,a,_=>by
  have a:p r=true:=a;rw[vg,a];rfl
 | r::R,i+1,b,a,c=>by
  have d:p r=false:=c 0 ω;rw[vg,d];exact QaZ p R i (by simpa using b) a λj e=>c (j+1) ω
def QkG(p:Ke->Bool):∀(R:List Ke),(∀j,j<R.length->p (JX R j)=false)->R.find? p=none
 | [],_=>rfl
 | r::R,a=>by
  have c:p r=false:=a 0 σ;rw[vg,c];exact QkG p R λj b=>a (j+1) (by simpa using b)
structure qi (R:List Ke) (n:Nat) (es:List XX) (ms:List Nat):Prop where
 yes:∀k d,Xt es k=some d->∃i:Nat,d=Qb i/\i<n/\zB (JX R i)=true/\(JX R i).want=k/\∀j,j<i->¬(zB (JX R j)=true/\(JX R j).want=k)
 no:∀k,Xt es k=none->∀j,j<n->¬(zB (JX R j)=true/\(JX R j).want=k)
 mem:∀j,j∈ms↔j<n/\zB (JX R j)=false
 inc:ms.Pairwise (·<·)
 four:∀e∈es,e.k.length=4
def qi.nil(R:List Ke):qi R 0 [] []:=⟨λk d h=>(by cases h),λk h j a=>absurd a (Xc j),λj=>σ,.nil,λe h=>(by cases h)⟩
def Qa0:∀(a:List XX) (e:XX) (k:List Int),Xt (a++[e]) k=match Xt a k with
  | some d=>some d
  | none=>if e.k=k then some e.v else none
 | [],e,k=>by simp[Xt]
 | x::a,e,k=>by
  simp only[YG,Xt];split
  .rfl
  .exact Qa0 a e k
def qi.mask{R}{n}{l}{g}(T:qi R n l g)(h:zB (JX R n)=false):qi R (n+1) l (g++[n]) where
 yes:=λk d p=>by
  obtain⟨i,c,e,f⟩:=T.yes k d p;exact⟨i,c,ω,f⟩
 no:=λk m j o=>by
  rcases AR.1 o with c|rfl
  .exact T.no k m j c
  .exact λe=>by rw[h]at e;cases e.1
 mem:=λj=>by
  rw[QX,T.mem j,Xq];constructor
  .rintro (c|rfl)
   .exact⟨ω,c.2⟩
   .exact⟨ω,h⟩
  .rintro⟨c,e⟩;rcases AR.1 c with f|rfl
   .exact .inl ⟨f,e⟩
   .exact .inr rfl
 inc:=by
  rw[bM];exact⟨T.inc,List.pairwise_singleton _ _,λa r b q=>by
   simp only[Xq]at q;have:=((T.mem a).1 r).1;omega⟩
 four:=T.four
def qi.QkH{R}{n}{e}{b}(T:qi R n e b)(h:zB (JX R n)=true):∀j,j∈b↔j<n+1/\zB (JX R j)=false:=λj=>by
 rw[T.mem j];constructor
 .rintro⟨c,a⟩;exact⟨ω,a⟩
 .rintro⟨c,a⟩;rcases AR.1 c with d|rfl
  .exact⟨d,a⟩
  .rw[h]at a;cases a
def qi.there{R}{n:Nat}{e}{f}(T:qi R n e f)(h:zB (JX R n)=true)(b:(Xt e (JX R n).want).isSome=true):qi R (n+1) e f where
 yes:=λk d m=>by
  obtain⟨i,c,b,a⟩:=T.yes k d m;exact⟨i,c,ω,a⟩
 no:=λk g j l=>by
  rcases AR.1 l with c|rfl
  .exact T.no k g j c
  .exact λa=>by rw[a.2,g]at b;cases b
 mem:=T.QkH h
 inc:=T.inc
 four:=T.four
def qi.new{R}{n:Nat}{f}{o}(T:qi R n f o)(h:zB (JX R n)=true)(q:Xt f (JX R n).want=none)(c):qi R (n+1) (f++[⟨(JX R n).want,Qb n,c⟩]) o where
 yes:=λk d b=>by
  rw[Qa0]at b;cases a:Xt f k with
  | some d2=>
   rw[a]at b;cases b;obtain⟨i,h1,q,l⟩:=T.yes k d a;exact⟨i,h1,ω,l⟩
  | none=>
   rw[a]at b;dsimp only at b;split at b
   .rename_i e;cases b;exact⟨n,rfl,ω,h,e,λj g=>T.no k a j g⟩
   .cases b
 no:=λk a j g=>by
  rw[Qa0]at a;cases m:Xt f k with
  | some d2=>rw[m]at a;cases a
  | none=>
   rw[m]at a;dsimp only at a;split at a
   .cases a
   .rename_i e;rcases AR.1 g with h1|rfl
    .exact T.no k m j h1
    .exact λl=>e l.2
 mem:=(T.QkH h)
 inc:=T.inc
 four:=λe p=>by
  rcases QX.1 p with h1|h1
  .exact T.four e h1
  .simp only[Xq]at h1;subst h1;rfl
def aM(x:Pk):Prop:=aL x.xZ/\aL x.x5/\aL x.x6/\aL x.x7
def mz{r:Ke}{x}(a:aM x)(h:zB r=true):jg r (ZZ x)=(r.want==ZZ x):=by
 unfold zB at h;simp only[ZX,jr]at h;obtain⟨e,d,c,b⟩:=h;unfold jg aJ ZZ Ke.mask;rw[e,d,c,b];simp only[List.zipWith_cons_cons,List.zipWith_nil_right,mw a.1,mw a.2.1,mw a.2.2.1,mw a.2.2.2];rw[wx];simp only[jr];exact eq_comm
section
variable {R:List Ke}{es:List XX}{ms:List Nat}(T:qi R R.length es ms){x:Pk}(hx:aM x)
include T hx
theorem qi.XW{i}(h:i<R.length)(n:zB (JX R i)=false)(f:jg (JX R i) (ZZ x)=true)(m:∀j∈ms,j<i->jg (JX R j) (ZZ x)=false)
  (l:∀a:Nat,Xt es (ZZ x)=some (Qb a)->¬a<i):R.find? (λr=>jg r (ZZ x))=some (JX R i):=
 QaZ _ R i h f λj g=>by
  cases b:zB (JX R j) with
  | false=>exact m j ((T.mem j).2 ⟨ω,b⟩) g
  | true=>
   rw[mz hx b,j5];intro e;cases c:Xt es (ZZ x) with
   | none=>exact T.no _ c j ω ⟨b,e⟩
   | some d=>
    obtain⟨a,rfl,q,p,o,k⟩:=T.yes _ _ c;have:=l a c;exact k j ω ⟨b,e⟩
theorem qi.whole{a:Nat}(f:Xt es (ZZ x)=some (Qb a))(l:∀j∈ms,j<a->jg (JX R j) (ZZ x)=false):a<R.length/\R.find? (λr=>jg r (ZZ x))=some (JX R a):=by
 obtain⟨i,e,d,k,h,g⟩:=T.yes _ _ f;have e:a=i:=by
  unfold Qb at e;simp only[D.raw.injEq,Value.int.injEq,AT]at e;omega
 subst e;refine⟨d,QaZ _ R a d (by rw[mz hx k,h];simp) λj c=>?_⟩;cases b:zB (JX R j) with
 | false=>exact l j ((T.mem j).2 ⟨ω,b⟩) c
 | true=>
  rw[mz hx b,j5];exact λe=>g j c ⟨b,e⟩
theorem qi.none(c:Xt es (ZZ x)=Option.none)(d:∀j∈ms,jg (JX R j) (ZZ x)=false):R.find? (λr=>jg r (ZZ x))=Option.none:=
 QkG _ R λj b=>by
  cases a:zB (JX R j) with
  | false=>exact d j ((T.mem j).2 ⟨b,a⟩)
  | true=>
   rw[mz hx a,j5];exact λe=>T.no _ c j b ⟨a,e⟩
end
@[go_sem] def kW.cells(r:kW):List D:=[u64 r.p,u64 r.b,u64 r.r,u64 r.w,u64 r.l]
@[go_sem] def jO(a b c d f e:Nat):Ob:=⟨.one,0,6,1,λ_=>[.ptr a 0 0 0,.ptr b 0 0 0,.ptr c 0 0 0,.ptr d 0 0 0,u64 f,Qb e]⟩
@[go_sem] def jP(a b c:Nat)(t:Int)(u:Nat):Ob:=⟨.one,0,5,1,λ_=>[u64 a,u64 b,u64 c,Qb t,u64 u]⟩
@[go_sem] def stO(c r:Nat):Ob:=⟨.one,0,2,1,λ_=>[.mref c 0,.mref r 0]⟩
@[go_sem] def Nr(d:D)(e:Nat)(m:D):Ob:=⟨.one,0,3,1,λ_=>[d,.mref e 0,m]⟩
inductive TT where
 | no|sys|ln|IL|st|my
deriving DecidableEq
def Jn(a:Nat->TT)(h:List Ob)(t:TT):Nat->TT:=λl=>if h.length<=l then t else a l
def VA{a}{h:List Ob}{t}{l}(b:l<h.length):Jn a h t l=a l:=by unfold Jn;rw[Qe ω]
def IM{a}{h:List Ob}{t}{l}(b:h.length<=l):Jn a h t l=t:=by unfold Jn;rw[Qf b]
def wj{a}{h:List Ob}{t}{l}(b:h.length<=l):QY a h t l=t:=by unfold QY;rw[Qf b]
def jQ{b:Type}[Inhabited b](S:Nat->Prop)(h:List Ob)(e:Nat)(f:b->List D)(d:D)(l:List b):Prop:=
 (d=.nil/\l=[])\/∃c g a,d=.ref c g 0 l.length/\S c/\h[c]? = some ⟨.arr,g,e,l.length,a⟩/\∀i,i<l.length->a i=f (l.getD i default)
def jQ.step{a:Type}[Inhabited a]{S S':Nat->Prop}{h h':List Ob}{k:Nat}{f:a->List D}{d:D}{l:List a}(e:∀j,j<h.length->S j->S' j/\h'[j]? = h[j]?):jQ S h k f d l->jQ S' h' k f d l:=λH=>
 H.imp id λ⟨b,g,i,o,m,c,n⟩=>⟨b,g,i,o,(e b (Qc c) m).1,by rw[(e b (Qc c) m).2];exact c,n⟩
def Ns(S:Nat->Prop)(h:List Ob)(d:D)(l:List Nat):Prop:=
 (d=.nil/\l=[])\/∃c g a b,d=.ref c g a l.length/\S c/\h[c]? = some ⟨.arr,g,1,a+l.length,b⟩/\∀i,i<l.length->b (a+i)=[u64 (l.getD i 0)]
def Ns.step{S S'}{h h':List Ob}{d}{l}(e:∀j,j<h.length->S j->S' j/\h'[j]? = h[j]?):Ns S h d l->Ns S' h' d l:=λH=>
 H.imp id λ⟨a,g,f,c,m,i,b,k⟩=>⟨a,g,f,c,m,(e a (Qc b) i).1,by rw[(e a (Qc b) i).2];exact b,k⟩
def Ns.nil{S}{h}{l}(H:Ns S h .nil l):l=[]:=by
 rcases H with a|⟨_,_,_,_,a,_⟩
 .exact a.2
 .cases a
structure GB (S:Nat->Prop) (h:List Ob) (p cm rm c1:Nat) (ZV:List ZQ) (c2:Nat) (Jj:List ZQ) (s:EL):Prop where
 o:h[p]? = some (stO cm rm)
 co:h[cm]? = some (QR .i64 c1 ZV)
 ro:h[rm]? = some (QR .i64 c2 Jj)
 ne:cm≠rm
 sp:S p
 sc:S cm
 sr:S rm
 ca:∀k,Ns S h ((Ja ZV k).getD .nil) (s.Jp k)
 sep:∀k k' lo g off n g' xL n',Ja ZV k=some (.ref lo g off n)->Ja ZV k'=some (.ref lo g' xL n')->k=k'
 rw_:∀k,(Ja Jj k).getD (.agg (default:kW).cells)=.agg (s.rows k).cells
def qM(S:Nat->Prop)(h:List Ob)(p:Nat)(s:EL):Prop:=∃b a c d c2 e,GB S h p b a c d c2 e s
def GB.step{S S'}{h h':List Ob}{p d b g}{i}{f}{m}{s}(e:∀j,j<h.length->S j->S' j/\h'[j]? = h[j]?)(T:GB S h p d b g i f m s):GB S' h' p d b g i f m s:=
 have k:∀l o,S l->h[l]? = some o->S' l/\h'[l]? = some o:=λl o c a=>⟨(e l (Qc a) c).1,(e l (Qc a) c).2.trans a⟩
 ⟨(k _ _ T.sp T.o).2,(k _ _ T.sc T.co).2,(k _ _ T.sr T.ro).2,T.ne,(k _ _ T.sp T.o).1,(k _ _ T.sc T.co).1,(k _ _ T.sr T.ro).1,λj=>(T.ca j).step e,T.sep,T.rw_⟩
def qM.step{S S'}{h h':List Ob}{p}{s}(e:∀j,j<h.length->S j->S' j/\h'[j]? = h[j]?):qM S h p s->qM S' h' p s:=λ⟨a,b,c,d,f,g,T⟩=>⟨a,b,c,d,f,g,T.step e⟩
structure Qa2 (S:Nat->Prop) (h:List Ob) (p:Nat) (dr:D) (le:Nat) (dm:D) (c:Nat) (es:List XX) (ms:List Nat) (R:List Ke):Prop where
 o:h[p]? = some (Nr dr le dm)
 eo:h[le]? = some (wN c es)
 rs:jQ S h 9 Ke.cells dr R
 mo:jQ S h 1 (λi:Nat=>[Qb i]) dm ms
 sp:S p
 se:S le
 I:qi R R.length es ms
 ok:zz R=0
def IN(S:Nat->Prop)(h:List Ob)(p:Nat)(R:List Ke):Prop:=∃e b f c d a,Qa2 S h p e b f c d a R
def IN.step{S S'}{h h':List Ob}{p}{R}(e:∀j,j<h.length->S j->S' j/\h'[j]? = h[j]?):IN S h p R->IN S' h' p R:=λ⟨i,f,m,c,g,d,T⟩=>
 have k:∀l o,S l->h[l]? = some o->S' l/\h'[l]? = some o:=λl o b a=>⟨(e l (Qc a) b).1,(e l (Qc a) b).2.trans a⟩
 ⟨i,f,m,c,g,d,(k _ _ T.sp T.o).2,(k _ _ T.se T.eo).2,T.rs.step e,T.mo.step e,(k _ _ T.sp T.o).1,(k _ _ T.se T.eo).1,T.I,T.ok⟩
structure WN (own:Nat->Tag) (tw:Nat->TT) (h:List Ob) (p ps pl pr pt:Nat) (S:Zj):Prop where
 o:h[p]? = some (jO ps pl pr pt S.Qd S.ops)
 tp:tw p=.sys
 co:jN own h ps S.M
 ln:∃a b c,h[pl]? = some (jP a b c S.M.lk.t S.ZR)
 tl:tw pl=.ln
 tb:IN (λl=>tw l=.IL) h pr S.R
 st:qM (λl=>tw l=.st) h pt S.st
 ap:∀l,tw l≠.no->own l=.no
def Wt(a:Nat->Tag)(b:Nat->TT)(h:List Ob)(p:Nat)(S:Zj):Prop:=∃d f e c,WN a b h p d f e c S
def mA(a:Nat->Tag)(c:Nat->TT)(h:List Ob)(b:Nat->Tag)(e:Nat->TT)(d:List Ob):Prop:=
 ∀l,l<h.length->(Live (a l)->b l=a l/\d[l]? = h[l]?)/\(c l≠.no->c l≠.my->e l=c l/\d[l]? = h[l]?)
def WN.step{j own'}{m i}{h h'}{p q u r n}{S}(T:WN j m h p q u r n S)(e:mA j m h own' i h')(x:∀l,i l≠.no->own' l=.no):WN own' i h' p q u r n S:=by
 have k:∀l o t,m l=t->t≠.no/\t≠.my->h[l]? = some o->i l=t/\h'[l]? = some o:=λl o t d g v=>by
  obtain⟨a,b⟩:=(e l (Qc v)).2 (by rw[d];exact g.1) (by rw[d];exact g.2);exact⟨by rw[a,d],b.trans v⟩
 have s:∀t,t≠.no/\t≠.my->∀l,l<h.length->m l=t->i l=t/\h'[l]? = h[l]? := λt g l f d=>by
  obtain⟨a,b⟩:=(e l f).2 (by rw[d];exact g.1) (by rw[d];exact g.2);exact⟨by rw[a,d],b⟩
 obtain⟨a,b,c,f⟩:=T.ln;exact⟨(k _ _ _ T.tp σ T.o).2,(k _ _ _ T.tp σ T.o).1,T.co.step λl f w=>(e l f).1 w,⟨a,b,c,(k _ _ _ T.tl σ f).2⟩,(k _ _ _ T.tl σ f).1,T.tb.step (s _ σ),T.st.step (s _ σ),x⟩
structure JK (n:Nat) (own:Nat->Tag) (tw:Nat->TT) (h:List Ob) (own':Nat->Tag) (Jq:Nat->TT) (h':List Ob):Prop where
 s1:∀l,l<h.length->own' l=own l
 s2:∀l,l<h.length->Jq l=tw l
 keep:∀l,l<n->own l=Tag.no->tw l=TT.no->h'[l]? = h[l]?
 my:∀l,l<h.length->tw l=TT.my->h'[l]? = h[l]?
 len:h.length<=h'.length
def JK.refl(n)(a)(b:Nat->TT)(h):JK n a b h a b h:=⟨λ_ _=>rfl,λ_ _=>rfl,λ_ _ _ _=>rfl,λ_ _ _=>rfl,Qs _⟩
def JK.trans{n}{f d o}{i p g}{h h' j:List Ob}(k:n<=h.length)(a:JK n f i h d p h')(b:JK n d p h' o g j):JK n f i h o g j:=
 ⟨λl c=>(b.s1 l (wy c a.len)).trans (a.s1 l c),λl c=>(b.s2 l (wy c a.len)).trans (a.s2 l c),
  λl c e m=>(b.keep l c ((a.s1 l (wy c k)).trans e) ((a.s2 l (wy c k)).trans m)).trans (a.keep l c e m),λl c e=>(b.my l (wy c a.len) ((a.s2 l c).trans e)).trans (a.my l c e),JL a.len b.len⟩
def JK.core{n}{b a}{d}{h f:List Ob}(g:∀l,d l≠.no->b l=.no)(i:n<=h.length)(D:ZE b h a f):JK n b d h a (Jn d h .no) f:=
 ⟨D.same,λl c=>VA c,λl c e _=>D.keep l ω e,λl c e=>D.keep l c (g l (by rw[e];simp)),D.len⟩
def WN.core{j d}{g}{h i}{p m n v u}{S:Zj}(T:WN j g h p m n v u S)(D:ZE j h d i){M:Ql}(C:jN d i m M)(w:M.lk=S.M.lk):WN d (Jn g h .no) i p m n v u { S with M:=M }:=by
 have k:∀l o t,g l=t->t≠.no->h[l]? = some o->Jn g h .no l=t/\i[l]? = some o:=λl o t f r q=>
  ⟨by rw[VA (Qc q),f],(D.keep l (Qc q) (T.ap l (by rw[f];exact r))).trans q⟩
 have s:∀t,t≠.no->∀l,l<h.length->g l=t->Jn g h .no l=t/\i[l]? = h[l]? := λt r l e f=>
  ⟨by rw[VA e,f],D.keep l e (T.ap l (by rw[f];exact r))⟩
 obtain⟨a,b,c,e⟩:=T.ln;refine⟨(k _ _ _ T.tp σ T.o).2,(k _ _ _ T.tp σ T.o).1,C,⟨a,b,c,?_⟩,(k _ _ _ T.tl σ e).1,T.tb.step (s _ σ),T.st.step (s _ σ),λl e=>?_⟩
 .show i[n]? = some (jP a b c M.lk.t S.ZR);rw[w];exact(k _ _ _ T.tl σ e).2
 .by_cases f:l<h.length
  .rw[VA f]at e;rw[D.same l f];exact T.ap l e
  .rw[IM ω]at e;exact absurd rfl e
def WN.app{a}{b}{h}{p d f e c}{S}(T:WN a b h p d f e c S)(g):WN (QY a h .no) (Jn b h .no) (h++g) p d f e c S:=
 T.core (ZE.app a h g .no) (T.co.PZ g) rfl
def JK.app{n}(b)(c:Nat->TT)(h g:List Ob)(t:TT)(d:n<=h.length):JK n b c h (QY b h .no) (Jn c h t) (h++g):=
 ⟨λl a=>Kz a,λl a=>VA a,λl a _ _=>QJ ω,λl a _=>QJ a,σ⟩
def WN.EM{b}{c}{h}{p e i f d}{S}(T:WN b c h p e i f d S)(g):WN (QY b h .no) (Jn c h .my) (h++g) p e i f d S:=
 T.step (λl a=>⟨λ_=>⟨Kz a,QJ a⟩,λ_ _=>⟨VA a,QJ a⟩⟩) λl a=>by
  by_cases j:l<h.length
  .rw[VA j]at a;rw[Kz j];exact T.ap l a
  .exact wj ω
def WN.loc{a}{b}{h:List Ob}{p g k i f}{S}(T:WN a b h p g k i f S){l}(q:a l=.no)(n:b l=.no\/b l=.my)(o):WN a b (h.set l o) p g k i f S:=
 T.step (λj _=>⟨λc=>⟨rfl,Qm (λe=>c.1 (by rw[<- e,q]))⟩,λc m=>⟨rfl,Qm (λe=>n.elim (λd=>c (by rw[<- e,d])) (λd=>m (by rw[<- e,d])))⟩⟩) T.ap
def WN.part{own}{b}{h d}{p f j i g}{S}(T:WN own b h p f j i g S){t}(m:t≠.no)(s:Step (λl=>b l=t) h d):
  jN (QY own h .no) d f S.M/\(∀u,u≠.no->u≠t->∀l,l<h.length->b l=u->Jn b h t l=u/\d[l]? = h[l]?)/\(∀l,Jn b h t l≠.no->QY own h .no l=.no):=by
 refine⟨T.co.step λl a k=>⟨Kz a,s.keep l a λe=>k.1 (T.ap l (by rw[e];exact m))⟩,λu q n l a c=>⟨by rw[VA a,c],s.keep l a λe=>n (by rw[<- c,e])⟩,λl a=>?_⟩;by_cases c:l<h.length
 .rw[VA c]at a;rw[Kz c];exact T.ap l a
 .exact wj ω
def JK.part{n}{own}{b}{h f:List Ob}{t}(d:t≠.no/\t≠.my)(g:n<=h.length)(s:Step (λl=>b l=t) h f):JK n own b h (QY own h .no) (Jn b h t) f:=
 ⟨λl a=>Kz a,λl a=>VA a,λl a _ c=>s.keep l ω λe=>d.1 (by rw[<- e,c]),λl a c=>s.keep l a λe=>d.2 (by rw[<- e,c]),s.len⟩
def QBE{b}{h}{t}(l):more (λl=>b l=t) h l->Jn b h t l=t:=λa=>by
 unfold Jn;split
 .rfl
 .rcases a with a|a
  .exact a
  .omega
section
variable {own:Nat->Tag}{tw:Nat->TT}{h h':List Ob}{p ps pl pr pt:Nat}{S:Zj}(T:WN own tw h p ps pl pr pt S)
include T
theorem WN.link{u a b c}(s:Step (λl=>tw l=.ln) h h')(f:h'[pl]? = some (jP a b c S.M.lk.t u)):WN (QY own h .no) (Jn tw h .ln) h' p ps pl pr pt { S with ZR:=u }:=by
 obtain⟨C,r,ap⟩:=T.part σ s;have k:∀l o t,tw l=t->t≠.no->t≠.ln->h[l]? = some o->Jn tw h .ln l=t/\h'[l]? = some o:=λl o t j i g d=>by
  obtain⟨a,b⟩:=r t i g l (Qc d) j;exact⟨a,b.trans d⟩
 obtain⟨_,_,_,e⟩:=T.ln;exact⟨(k _ _ _ T.tp σ σ T.o).2,(k _ _ _ T.tp σ σ T.o).1,C,⟨a,b,c,f⟩,by rw[VA (Qc e)];exact T.tl,T.tb.step (r _ σ σ),T.st.step (r _ σ σ),ap⟩
theorem WN.stat{e}(s:Step (λl=>tw l=.st) h h')(g:qM (more (λl=>tw l=.st) h) h' pt e):WN (QY own h .no) (Jn tw h .st) h' p ps pl pr pt { S with st:=e }:=by
 obtain⟨C,r,ap⟩:=T.part σ s;have k:∀l o t,tw l=t->t≠.no->t≠.st->h[l]? = some o->Jn tw h .st l=t/\h'[l]? = some o:=λl o t m j i f=>by
  obtain⟨a,b⟩:=r t j i l (Qc f) m;exact⟨a,b.trans f⟩
 obtain⟨a,b,c,d⟩:=T.ln;exact⟨(k _ _ _ T.tp σ σ T.o).2,(k _ _ _ T.tp σ σ T.o).1,C,⟨a,b,c,(k _ _ _ T.tl σ σ d).2⟩,(k _ _ _ T.tl σ σ d).1,T.tb.step (r _ σ σ),g.step λl _ d=>⟨QBE l d,rfl⟩,ap⟩
theorem WN.clock(c o):WN own tw (h.set p (jO ps pl pr pt c o)) p ps pl pr pt { S with Qd:=c,ops:=o }:=by
 have k:∀l x t,tw l=t->t≠.sys->h[l]? = some x->(h.set p (jO ps pl pr pt c o))[l]? = some x:=λl x t f g m=>by
  rw[Qm (λe=>g (by rw[<- f,<- e,T.tp]))];exact m
 have s:∀t,t≠.sys->∀l,l<h.length->tw l=t->tw l=t/\(h.set p (jO ps pl pr pt c o))[l]? = h[l]? := λt g l i f=>
  ⟨f,Qm (λe=>g (by rw[<- f,<- e,T.tp]))⟩
 obtain⟨a,b,d,i⟩:=T.ln;exact⟨Qy (Qc T.o),T.tp,T.co.step λl _ j=>⟨rfl,Qm (λe=>j.1 (T.ap l (by rw[<- e,T.tp];simp)))⟩,⟨a,b,d,k _ _ _ T.tl σ i⟩,T.tl,T.tb.step (s _ σ),T.st.step (s _ σ),T.ap⟩
theorem WN.rules{g}{i}{R}(r:IN (λl=>h.length<=l) (h++g) i R):
  WN (QY own h .no) (Jn tw h .IL) ((h++g).set p (jO ps pl i pt S.Qd S.ops)) p ps pl i pt { S with R:=R }:=by
 have q:=Qc T.o;have k:∀l x t,tw l=t->t≠.no->t≠.sys->h[l]? = some x->Jn tw h .IL l=t/\((h++g).set p (jO ps pl i pt S.Qd S.ops))[l]? = some x:=λl x t f u m j=>by
  refine⟨by rw[VA (Qc j),f],?_⟩;rw[Qm (λe=>m (by rw[<- f,<- e,T.tp])),QJ (Qc j)];exact j
 have s:∀t,t≠.no->t≠.sys->∀l,l<h.length->tw l=t->Jn tw h .IL l=t/\((h++g).set p (jO ps pl i pt S.Qd S.ops))[l]? = h[l]? := λt u m l c f=>
  ⟨by rw[VA c,f],by rw[Qm (λe=>m (by rw[<- f,<- e,T.tp])),QJ c]⟩
 obtain⟨a,b,d,c⟩:=T.ln;refine⟨Qy ξ,by rw[VA q];exact T.tp,T.co.step λl c n=>⟨Kz c,by rw[Qm (λe=>n.1 (T.ap l (by rw[<- e,T.tp];simp))),QJ c]⟩,⟨a,b,d,(k _ _ _ T.tl σ σ c).2⟩,(k _ _ _ T.tl σ σ c).1,
  r.step λl c f=>⟨IM f,Qm (λe=>ω)⟩,T.st.step (s _ σ σ),λl c=>?_⟩
 by_cases f:l<h.length
 .rw[VA f]at c;rw[Kz f];exact T.ap l c
 .exact wj ω
end
@[go_sem] def aO(n:Int):D:=.raw (.int .u64 n)
def mB(n m):Q9 prog 225 [Qb n,Qb m] (Zp (QZ (decide (1<=n/\n<=m)))):=by
 refine ZH 0 func225 ntmps225 results225 λa w b=>?_;simp only[go_sem];first|refine FF (λh=>?_) (λh=>?_)|refine FG (λh=>?_) (λh=>?_)|refine FH (λh=>?_) (λh=>?_)|refine q7 (λh=>?_) (λh=>?_)|refine FI (λh=>?_) (λh=>?_)|refine FJ (λh=>?_) (λh=>?_)|refine FK (λh=>?_) (λh=>?_)|refine FC (λh=>?_) (λh=>?_)
 all_goals (simp only[go_sem];congr 2;rw[wx];simp only[Xd,YF,false_iff];omega)
def wm(p:Pk)(m:Int):Int:=if ¬(1<=m/\m<=16384) then 1 else if ¬ (1<=p.len/\p.len<=m) then 26 else 0
def QBF(p:Pk)(m):Q9 prog 167 [.agg p.cells,Qb m] (Zp (Qb (wm p m))):=by
 refine ZH 0 func167 ntmps167 results167 λc w a=>?_;simp only[go_sem];apply JW a gh (mB m 16384);apply Za a;by_cases h:1<=m/\m<=16384
 .simp only[go_sem,Q1 h];apply JW a gh (mB p.len m);apply Za a;by_cases b:1<=p.len/\p.len<=m
  .simp only[go_sem,Q1 b];simp[wm,h,b]
  .simp only[go_sem,QU b];simp[wm,h,b]
 .simp only[go_sem,QU h];simp[wm,h]
def xw(p:Pk)(t:Int):Int:=if (1<=t/\t<=65536)/\(1<=p.len/\p.len<=16384) then IntKind.u64.wrap (p.len*t) else 0
def Rz(p:Pk)(t:Int):Int:=if (1<=t/\t<=65536)/\(1<=p.len/\p.len<=16384) then 0 else 1
def QBG(p:Pk)(t):Q9 prog 168 [.agg p.cells,Qb t] (Zp (.tup [aO (xw p t),Qb (Rz p t)])):=by
 refine ZH 0 func168 ntmps168 results168 λc w a=>?_;simp only[go_sem];apply JW a gh (mB t 65536);apply Za a;by_cases h:1<=t/\t<=65536
 .simp only[go_sem,Q1 h];apply JW a gh (mB p.len 16384);apply Za a;by_cases b:1<=p.len/\p.len<=16384
  .simp only[go_sem,Q1 b];have e:IntKind.u64.wrap p.len=p.len:=gv ω ω;have d:IntKind.u64.wrap t=t:=gv ω ω;simp[e,d,xw,Rz,h,b]
  .simp only[go_sem,QU b];simp[xw,Rz,h,b]
 .simp only[go_sem,QU h];simp[xw,Rz,h]
def QBH(h:List Ob){t}(g:1<=t)(f:t<=65536):QI prog 26 h [Qb t] (λd b=>d=.tup [.ptr h.length 0 0 0,Qb 0]/\b=h++[jP 0 0 0 t 0]):=by
 have d1:decide (t<1)=false:=QU ω;have d2:decide (65536<t)=false:=QU ω;refine Q3 func26 ntmps26 results26 λa w c e=>?_;simp only[go_sem,Qa,d1,d2]
section
variable {h:List Ob}{lp a b c:Nat}{t:Int}{u:Nat}(ho:(h.map Ob.ro)[lp]? = some (jP a b c t u).ro)
include ho
theorem Qa3(e):Zf prog 31 h [.ptr lp 0 0 0,u64 e] (λd=>d=QZ (decide (u<=e))):=by
 refine ZD func31 ntmps31 results31 λf w j F g l k=>?_;rw[<- g]at ho;have i:=Qc ho;simp only[go_sem,Qa,ho,i];all_goals exact Wo
theorem QBI:Zf prog 130 h [.ptr lp 0 0 0] (λd=>d=u64 u):=by
 refine ZD func130 ntmps130 results130 λe w i F f k j=>?_;rw[<- f]at ho;have g:=Qc ho;simp only[go_sem,Qa,ho,g];all_goals exact Wo
end
def QBJ(h:List Ob){f a b c}{t}{u}(g:h[f]? = some (jP a b c t u))(n)(k):QI prog 169 h [.ptr f 0 0 0,Qb n,u64 k] (λd s=>∃C B v,s=h.set f (jP C B v t u)):=by
 have e:∀(x y:Nat),∃z:Nat,IntKind.u64.wrap ((x:Int)+y)=z:=λx y=>⟨(IntKind.u64.wrap ((x:Int)+y)).toNat,κ⟩;have l:∀(x:Nat) (y:Int),∃z:Nat,IntKind.u64.wrap ((x:Int)+y)=z:=λx y=>⟨(IntKind.u64.wrap ((x:Int)+y)).toNat,κ⟩;obtain⟨q,j⟩:=l a 1;obtain⟨p,E⟩:=l b (IntKind.u64.wrap n);obtain⟨o,i⟩:=e c k;have r:=Qc g;refine Q3 func169 ntmps169 results169 λm w H I=>?_;have F:=Qc g;simp only[go_sem,Qa,g,F,j,E,i,Qy r];exact⟨q,p,o,rfl⟩
def QBM(h:List Ob){l a b c}{t}{u}(f:h[l]? = some (jP a b c t u))(B:1<=t)(z:t<=65536){e}(V:e<=4611686018427387904)(M:u<=e)(x:Pk)(s:1<=x.len/\x.len<=16384):
  QI prog 127 h [.ptr l 0 0 0,u64 e,.agg x.cells] (λd Q=>d=.tup [u64 (e+x.len.toNat*t.toNat),Qb 0]/\∃r q p g,Q=h.set l (jP r q p t (e+x.len.toNat*t.toNat))++g):=by
 have m:=Qc f;have S:decide ((4611686018427387904:Int)<(e:Int))=false:=QU ω;have R:wm x 16384=0:=by unfold wm;rw[Qe σ,Qe ξ]
 have K:x.len.toNat*t.toNat<=1073741824:=X8 (show x.len.toNat<=16384 from ω) (show t.toNat<=65536 from ω);have E:xw x t=((x.len.toNat*t.toNat:Nat):Int):=by
  have J:x.len*t=((x.len.toNat*t.toNat:Nat):Int):=by
   rw[jm,EW ω,EW ω]
  unfold xw;rw[Qf ⟨⟨B,z⟩,s⟩,J];exact gv ω ω
 obtain⟨k,N⟩:∃k,k=x.len.toNat*t.toNat:=⟨_,rfl⟩;rw[<- N]at K E ⊢;have C:IntKind.u64.wrap ((e:Int)+(k:Int))=((e+k:Nat):Int):=by rw[gv ω ω];omega
 have v:=QBG x t;have T:Rz x t=0:=by unfold Rz;rw[Qf ⟨⟨B,z⟩,s⟩]
 rw[E,T]at v;have y:=QBF x 16384;rw[R]at y;refine Q3 func127 ntmps127 results127 λI w U i=>?_;have j:=Qc f;simp only[go_sem,Qa,f,j,S];refine JG i Qtj ?_ y ?_
 .simp only[go_sem,Qa,f,j]
 apply Qh i;simp only[go_sem,Qa,f,j];apply JD i fK (Qa3 (u:=u) (Jc (by rw[QJ m];exact f)) e);apply Qh i;simp only[go_sem,Qa,Q1 M,f,j];apply QB i [0,1,2,3,4,1005,6,7,8,9,10];simp only[go_sem,Qa,f,j];refine KJ i Qtk ?_ v ?_
 .simp only[go_sem,Qa,f,j,C,Qy m]
 apply Zd i;simp only[go_sem,Qa,f,j,C,Qy m];apply VD [6] i [0,1,2,3,4,5,1006] [];simp only[go_sem,Qa,f,j,Qy m];obtain⟨H,n⟩:∃H,H=h.set l (jP a b c t (e+k))++[(⟨.one,0,6,1,λ_=>x.cells⟩:Ob)]:=⟨_,rfl⟩;have F:H[l]? = some (jP a b c t (e+k)):=by rw[n,QJ (by simpa using m),Qy m]
 have L:=Qc F;have O:∀o:Ob,H.set l o=h.set l o++[(⟨.one,0,6,1,λ_=>x.cells⟩:Ob)]:=λo=>by rw[n,DT (by simpa using m),JS]
 simp only[go_sem]at n;rw[<- n];refine wV i Qtl (QBJ H F x.len k) λd W P=>?_;obtain⟨r,q,p,rfl⟩:=P;apply Zd i;simp only[go_sem,Qy L];exact⟨r,q,p,_,O _⟩
def QBN(a):Q9 prog 253 [u64 a] (Zp (QZ false)):=by
 have e:((a:Int) != (a:Int))=false:=σ;refine ZH 0 func253 ntmps253 results253 λb w c=>?_;simp only[go_sem];simp only[go_sem,e]
def QkJ(a b):Q9 prog 226 [u64 a,u64 b] (Zp (QZ (decide (a<b)))):=by
 refine ZH 0 func226 ntmps226 results226 λd w c=>?_;simp only[go_sem];refine JG c Qf3 ?_ (QBN a) ?_
 .simp only[go_sem,Go.undef]
 apply Qh c;simp only[go_sem,Go.undef]
def QBO(h:List Ob)(a b c r)(i)(g:(h.map Ob.ro)[r]? = some ⟨.AU,0,1,2,i⟩)(s:i 0=[u64 b])(n:i 1=[u64 c]):
  Zf prog 171 h [u64 a,.ref r 0 0 2] (λd=>d=u64 (max (max a b) c)):=by
 simp only[go_sem]at s n;refine ZD func171 ntmps171 results171 λv w z F y B f=>?_;rw[<- y]at g;have l:=Qc g;simp only[go_sem,Qa,g,l];have x:IntKind.i64.wrap 1=1:=rfl;have o:IntKind.i64.wrap 2=2:=rfl;have j:∀m k:Nat,∃d:Bool,d=decide (m<k)/\max m k=bif d then k else m:=λm k=>⟨_,rfl,by
  by_cases e:m<k
  .rw[Q1 e];show _=k;omega
  .rw[QU e];show _=m;omega⟩
 obtain⟨d1,u,q⟩:=j a b;have L1:=QkJ a b;rw[<- u]at L1;obtain⟨d2,t,p⟩:=j (max a b) c;have L2:=QkJ (max a b) c;rw[<- t]at L2;rw[p];rw[q]at L2 ⊢;clear u t q p j;cases d1<;>cases d2;all_goals
  simp only[wB,js]at L2 ⊢;refine x8 2 ?_;apply Qh f;simp only[go_sem,Qa,g,l,s];apply qy f kx L1;apply QM f;apply Qh f;simp only[go_sem,Qa,g,l,n,x];apply qy f kx L2;apply QM f;apply Qh f;simp only[go_sem,Qa,g,l,n,o];apply Qh f;simp only[go_sem,Qa,g,l,n,o];all_goals exact Wo
def QBP(h:List Ob)(a k)(c)(b:(h.map Ob.ro)[k]? = some ⟨.AU,0,1,1,c⟩)(f:c 0=[u64 a]):
  Zf prog 170 h [.ref k 0 0 1] (λd=>d=u64 (min 9223372036854775808 a)):=by
 simp only[go_sem]at f;have e:min (9223372036854775808:Int) (a:Int)=((min 9223372036854775808 a:Nat):Int):=ω;have i:IntKind.i64.wrap 1=1:=rfl;refine ZD func170 ntmps170 results170 λl w n F m o j=>?_;rw[<- m]at b;have g:=Qc b;simp only[go_sem,Qa,b,g];refine x8 1 ?_;apply Qh j;simp only[go_sem,Qa,b,g,f,e,i];apply Qh j;simp only[go_sem,Qa,b,g,f,e,i];apply Qh j;simp only[go_sem,Qa,b,g,f,e,i];all_goals exact Wo
def QBQ(a b c):Q9 prog 129 [u64 a,u64 b,u64 c] (Zp (u64 (Yq a b c))):=by
 have e:Yq a b c=min 9223372036854775808 (max (max a b) c):=by unfold Yq;omega
 rw[e];refine ZH 0 func129 ntmps129 results129 λf w d=>?_;simp only[go_sem];apply JD d Qtn (QBO _ a b c 0 _ (Jc (o:=⟨.arr,0,1,2,_⟩) rfl) rfl rfl);apply QM d;obtain⟨m,g⟩:∃m,m=max (max a b) c:=⟨_,rfl⟩;rw[<- g];apply JD d Qtm (QBP _ m 1 _ (Jc (o:=⟨.arr,0,1,1,_⟩) rfl) rfl);exact Mj d
def QBR(h:List Ob):QI prog 28 h [] (λd b=>d=.ptr (h.length+2) 0 0 0/\b=h++[QR .i64 0 [],QR .i64 0 [],stO h.length (h.length+1)]):=by
 refine Q3 func28 ntmps28 results28 λa w c e=>?_;simp only[go_sem,Qa]
def GB.put{S}{h w}{p q x E}{f}{J}{K}{s}(T:GB S h p q x E f J K s){b}{d}{l}(i)
  (R:w[q]? = some (Ki .i64 E f b d)) (z:∀j o,h[j]? = some o->j≠q->j≠i->w[j]? = some o) (Q:Ns (more S h) w d l) (H:∀j g off n,d=.ref j g off n->j=i)
  (y:∀k j g off n,k≠b->Ja f k=some (.ref j g off n)->j≠i) (P:p≠i) (O:x≠i) :
  qM (more S h) w p { s with Jp:=λk=>if k=b then l else s.Jp k }:=by
 obtain⟨Y,F,V,C⟩:=QcP .i64 E f b d;have N:p≠q:=λe=>by have:=T.o;rw[e,T.co]at this;cases this
 refine⟨q,x,Y,F,J,K,z _ _ T.o N P,by rw[R,V],z _ _ T.ro (Q8 T.ne) O,T.ne,.inl T.sp,.inl T.sc,.inl T.sr,λk=>?_,λv u j g off n W L M a c=>?_,T.rw_⟩
 .rw[C k];by_cases m:k=b
  .rw[Qf m];dsimp only;rw[Qf m];exact Q
  .rw[Qe m];dsimp only;rw[Qe m];rcases T.ca k with ⟨a,c⟩|⟨j,g,off,row,a,c,B,U⟩
   .exact .inl ⟨a,c⟩
   .have Z:Ja f k=some (.ref j g off (s.Jp k).length):=by
     cases I:Ja f k with
     | none=>rw[I]at a;cases a
     | some d'=>rw[I]at a;exact congrArg some a
    refine .inr ⟨j,g,off,row,a,.inl c,z j _ B (λe=>?_) (y k _ _ _ _ m Z),U⟩;rw[e,T.co]at B;cases B
 .rw[C v]at a;rw[C u]at c;by_cases t:v=b<;>by_cases r:u=b
  .rw[t,r]
  .rw[Qf t]at a;rw[Qe r]at c;exact absurd (H _ _ _ _ (N4 a)) (y u _ _ _ _ r c)
  .rw[Qe t]at a;rw[Qf r]at c;exact absurd (H _ _ _ _ (N4 c)) (y v _ _ _ _ t a)
  .rw[Qe t]at a;rw[Qe r]at c;exact T.sep v u j g off n W L M a c
def QBS{S}{h}{p}{s:EL}(T:qM S h p s)(b:Int)(a)(H:(s.Jp b).length<1000000):
  QI prog 82 h [.ptr p 0 0 0,Qb b,u64 a] (λd h'=>d=Qb 0/\Step S h h'/\qM (more S h) h' p (wh s b a)):=by
 obtain⟨I,rm,U,C,c2,Jj,T⟩:=T;have r:=T.o;have v:=T.co;have z:=Qc r;have t:=Qc v;have Q:=T.ca b;have u:p≠I:=λe=>by rw[e,v]at r;cases r
 have JB:wh s b a={ s with Jp:=λk=>if k=b then s.Jp b++[a] else s.Jp k }:=by
  unfold wh;congr 1;funext k;by_cases f:k=b
  .rw[Qf f,Qf f,f]
  .rw[Qe f,Qe f]
 rw[JB];have SH:∀k j g m n,Ja C k=some (.ref j g m n)->j<h.length:=λk j g m n f=>by
  rcases T.ca k with ⟨y,_⟩|⟨j',_,_,_,y,_,q,_⟩
  .rw[f]at y;cases y
  .rw[f]at y;cases y;exact Qc q
 have O:(Ja C b=none\/Ja C b=some .nil)->s.Jp b=[]->Step S h (h.set I (Ki .i64 U C b (.ref (h.length+1) 0 0 1))++[⟨.arr,0,1,1,λ_=>[u64 a]⟩,⟨.arr,0,1,1,λ_=>[u64 a]⟩]) /\
   qM (more S h) (h.set I (Ki .i64 U C b (.ref (h.length+1) 0 0 1))++[⟨.arr,0,1,1,λ_=>[u64 a]⟩,⟨.arr,0,1,1,λ_=>[u64 a]⟩]) p { s with Jp:=λk=>if k=b then s.Jp b++[a] else s.Jp k }:=λf V=>by
  refine⟨⟨λl W R=>?_,σ⟩,T.put (d:=.ref (h.length+1) 0 0 1) (h.length+1) ?_ (λj o L y B=>?_) (.inr ⟨h.length+1,0,0,λ_=>[u64 a],by simp[V],.inr ω,?_,λi M=>?_⟩) (λj g m n e=>by cases e;rfl) (λk j g m n _ Jt=>by have:=SH k _ _ _ _ Jt;omega) ω (by have:=Qc T.ro;omega)⟩
  .rw[QJ (by simpa using W),Qm (λe=>R (by rw[<- e];exact T.sc))]
  .rw[QJ (by simpa using t),Qy t]
  .rw[QJ (by simpa using Qc L),Qm (Q8 y),L]
  .rw[Wm (k:=1) σ,V];rfl
  .rw[V]at M ⊢;simp at M;subst M;rfl
 cases f:Ja C b with
 | none=>
  rw[f]at Q;have c:=O (.inl f) Q.nil;refine Q3 func82 ntmps82 results82 λE w Y H=>?_;have z:=Qc r;have t:=Qc v;simp only[go_sem,Qa,r,z,v,t,u,u.symm,f];apply VD [] H [0,1,2,4,5,6,7,8,9,10,11] [3,12,13,14];simp only[go_sem,Qa,r,z,v,t,u,u.symm,f,Qy,Qm,↓reduceIte];simp only[go_sem]at c ⊢
  repeat' apply And.intro
  all_goals first|exact c.1|exact c.2
 | some d=>
  rw[f]at Q;rcases Q with ⟨B,q⟩|⟨x,g,m,F,B,Z,q,h4⟩
  .simp only[Vn]at B;subst B;have c:=O (.inr f) q;refine Q3 func82 ntmps82 results82 λE w Y H=>?_;have z:=Qc r;have t:=Qc v;simp only[go_sem,Qa,r,z,v,t,u,u.symm,f];apply VD [] H [0,1,2,4,5,6,7,8,9,10,11] [3,12,13,14];simp only[go_sem,Qa,r,z,v,t,u,u.symm,f,Qy,Qm,↓reduceIte];simp only[go_sem]at c ⊢
   repeat' apply And.intro
   all_goals first|exact c.1|exact c.2
  .simp only[Vn]at B;subst B;have K:x≠p:=λe=>by rw[e,r]at q;cases q
   have J:x≠I:=λe=>by rw[e,v]at q;cases q
   have n3:x≠rm:=λe=>by rw[e,T.ro]at q;cases q
   have BE:(s.Jp b).length<=4294967295:=ω;have h9:(s.Jp b).length+1<=4294967295:=ω;have N:=Qc q;have c:Step S h ((h.set x ⟨.arr,g+1,1,(s.Jp b).length+1,KB (s.Jp b).length m F λ_=>[u64 a]⟩).set I (Ki .i64 U C b (.ref x (g+1) 0 ((s.Jp b).length+1)))++[⟨.arr,0,1,1,λ_=>[u64 a]⟩]) /\
     qM (more S h) ((h.set x ⟨.arr,g+1,1,(s.Jp b).length+1,KB (s.Jp b).length m F λ_=>[u64 a]⟩).set I (Ki .i64 U C b (.ref x (g+1) 0 ((s.Jp b).length+1)))++[⟨.arr,0,1,1,λ_=>[u64 a]⟩]) p { s with Jp:=λk=>if k=b then s.Jp b++[a] else s.Jp k }:=by
    refine⟨⟨λl W R=>?_,σ⟩,T.put (d:=.ref x (g+1) 0 ((s.Jp b).length+1)) x ?_ (λj o L y B=>?_) (.inr ⟨x,g+1,0,KB (s.Jp b).length m F λ_=>[u64 a],σ,.inl Z,?_,λi M=>?_⟩) (λj g m n e=>by cases e;rfl) (λk j g' xL n' QE Z5 e=>?_) (Q8 K) (Q8 n3)⟩
    .rw[QJ (by simpa using W),Qm (λe=>R (by rw[<- e];exact T.sc)),Qm (λe=>R (by rw[<- e];exact Z))]
    .rw[QJ (by simpa using t),Qy (by simpa using t)]
    .rw[QJ (by simpa using Qc L),Qm (Q8 y),Qm (Q8 B),L]
    .rw[QJ (by simpa using N),Qm (Q8 J),Qy N];simp
    .simp at M;rw[JM];by_cases P:i<(s.Jp b).length
     .rw[A4 P,h4 i P];simp[P,JY P]
     .have:i=(s.Jp b).length:=ω;subst this;rw[xM (Qs _)];simp
    .subst e;exact QE (T.sep _ _ _ _ _ _ _ _ _ Z5 f)
   refine Q3 func82 ntmps82 results82 λE w Y H=>?_;have z:=Qc r;have t:=Qc v;have N:=Qc q;simp only[go_sem,Qa,r,z,v,t,q,N,u,u.symm,f,K,J,K.symm,J.symm];apply VD [] H [0,1,2,4,5,6,7,8,9,10,11] [3,12,13,14];simp only[go_sem,Qa,r,z,v,t,u,u.symm,f,Qy,Qm,q,N,K,J,K.symm,J.symm,↓reduceIte,BE,h9];simp only[go_sem]at c ⊢
   repeat' apply And.intro
   all_goals first|exact c.1|exact c.2
def GB.row{S}{h h'}{p t a u}{v}{i}{l}{s}(T:GB S h p t a u v i l s){cls}{r}
  (w:h'[a]? = some (Ki .i64 i l cls (.agg r.cells))) (c:∀j o,h[j]? = some o->j≠a->h'[j]? = some o) :
  ∃q E,GB S h' p t a u v q E { s with rows:=λk=>if k=cls then r else s.rows k }:=by
 obtain⟨C,n,z,y⟩:=QcP .i64 i l cls (.agg r.cells);have F:p≠a:=λe=>by have:=T.o;rw[e,T.ro]at this;cases this
 refine⟨C,n,c _ _ T.o F,c _ _ T.co T.ne,by rw[w,z],T.ne,T.sp,T.sc,T.sr,λk=>?_,T.sep,λk=>?_⟩
 .rcases T.ca k with f|⟨j,g,m,row,f,B,d,x⟩
  .exact .inl f
  .refine .inr ⟨j,g,m,row,f,B,c j _ d (λe=>?_),x⟩;rw[e,T.ro]at d;cases d
 .rw[y k];dsimp only;by_cases b:k=cls
  .rw[Qf b,Qf b];rfl
  .rw[Qe b,Qe b];exact T.rw_ k
def kW.QBT{a b:kW}(h:a.cells=b.cells):a=b:=by
 obtain⟨u,t,s,q,o⟩:=a;obtain⟨n,m,k,j,i⟩:=b;simp only[kW.cells,u64,yI,D.raw.injEq,Value.int.injEq,AT,and_true]at h;obtain⟨g,f,e,d,c⟩:=h;congr 1<;>omega
def RC(a b:Nat):IntKind.u64.wrap ((a:Int)+(b:Int))=(((a+b) % 18446744073709551616:Nat):Int):=by
 rw[IntKind.wrap_u64];omega
def QBU{S}{h}{p}{s}(T:qM S h p s)(b){done}(hd:done<18446744073709551616){bytes}(KF:1<=bytes)(ZW:bytes<=16384)(c):
  QI prog 128 h [.ptr p 0 0 0,Qb b,u64 done,Qb bytes,QZ c] (λd h'=>Step S h h'/\qM (more S h) h' p (qL s b done bytes c)):=by
 obtain⟨W,P,c1,Y,c2,N,T⟩:=T;have m:=T.o;have B:=T.co;have L:=T.ro;have QE:=T.ne;have t:=Qc m;have C:=Qc B;have I:=Qc L;have hp:=T.ca b;have kr:p≠W:=λe=>by rw[e,B]at m;cases m
 have EN:p≠P:=λe=>by rw[e,L]at m;cases m
 have a0:∀g:List Ob,qL s b done bytes c=s->Step S h (h++g)/\qM (more S h) (h++g) p (qL s b done bytes c):=λg e=>by
  rw[e];exact⟨Step.app S h g,qM.step (λj V M=>⟨.inl M,QJ V⟩) ⟨W,P,c1,Y,c2,N,T⟩⟩
 have mC:qL s b done bytes c=s->Step S h h/\qM (more S h) h p (qL s b done bytes c):=λe=>by
  have:=a0 [] e;rwa [Jv]at this
 obtain⟨r,AV⟩:∃r,r=s.rows b:=⟨_,rfl⟩;have ZN:=T.rw_ b;rw[<- AV]at ZN;cases F:Ja Y b with
 | none=>
  rw[F]at hp;have h0:=hp.nil;have u:=mC (by unfold qL;rw[h0]);refine Q3 func128 ntmps128 results128 λE w pl x=>?_;have t:=Qc m;have C:=Qc B;simp only[go_sem,Qa,m,t,B,C,F];exact u
 | some d=>
  rw[F]at hp;rcases hp with ⟨Z,f⟩|⟨R,g,q,a2,Z,hS,f,h4⟩
  .simp only[Vn]at Z;subst Z;have u:=mC (by unfold qL;rw[f]);refine Q3 func128 ntmps128 results128 λE w pl x=>?_;have t:=Qc m;have C:=Qc B;simp only[go_sem,Qa,m,t,B,C,F];exact u
  .simp only[Vn]at Z;subst Z;have v:=Qc f;cases hc:s.Jp b with
   | nil=>
    have u:=mC (by unfold qL;rw[hc]);rw[hc]at F;refine Q3 func128 ntmps128 results128 λE w pl x=>?_;have t:=Qc m;have C:=Qc B;simp only[go_sem,Qa,m,t,B,C,F];exact u
   | cons a l=>
    rw[hc]at F f h4;have K:=h4 0 σ;simp only[go_sem,xG,List.getD_cons_zero]at K;have d1:decide (bytes<1)=false:=QU ω;have d0:(((l.length+1:Nat):Int)==0)=false:=ξ;have z:(0:Int)<((l.length+1:Nat):Int):=ω;have y:q<q+(l.length+1):=ω;have n1:R≠p:=λe=>by rw[e,m]at f;cases f
    have n2:R≠W:=λe=>by rw[e,B]at f;cases f
    have Q:P≠R:=λe=>by rw[<- e,L]at f;cases f
    have SH:∀k j g q n,Ja Y k=some (.ref j g q n)->j<h.length:=λk j g q n F=>by
     rcases T.ca k with ⟨M,_⟩|⟨j',_,_,_,M,_,f,_⟩
     .rw[F]at M;cases M
     .rw[F]at M;cases M;exact Qc f
    have uS:∀(H:kW) (o:Ob),qL s b done bytes c=⟨λk=>if k=b then l else s.Jp k,λk=>if k=b then H else s.rows k⟩ ->
      Step S h ((h.set P (Ki .i64 c2 N b (.agg H.cells))).set W (Ki .i64 c1 Y b (.ref R g (q+1) l.length))++[o])/\qM (more S h) ((h.set P (Ki .i64 c2 N b (.agg H.cells))).set W (Ki .i64 c1 Y b (.ref R g (q+1) l.length))++[o]) p (qL s b done bytes c):=λH o e=>by
     rw[e];obtain⟨a4,F3,T1⟩:=T.row (h':=h.set P (Ki .i64 c2 N b (.agg H.cells))) (r:=H) (cls:=b) (Qy I) (λj o V M=>by rw[Qm (Q8 M)];exact V);have a1:(h.set P (Ki .i64 c2 N b (.agg H.cells))).length=h.length:=σ;have Ib:more S (h.set P (Ki .i64 c2 N b (.agg H.cells)))=more S h:=by unfold more;rw[a1]
     refine⟨⟨λj V hn=>?_,σ⟩,?_⟩
     .rw[QJ (by simpa using V),Qm (λe=>hn (by rw[<- e];exact T.sc)),Qm (λe=>hn (by rw[<- e];exact T.sr))]
     .rw[<- Ib];refine T1.put (d:=.ref R g (q+1) l.length) R ?_ (λj o V M Z=>?_) (.inr ⟨R,g,q+1,a2,rfl,.inl hS,?_,λi hi=>?_⟩) (λj g q n e=>by cases e;rfl) (λk j g' xL n' QE Z5 e=>?_) (Q8 n1) Q
      .rw[QJ (by simpa using C),Qy (by simpa using C)]
      .rw[QJ (by have:=Qc V;simpa using this),Qm (Q8 M),V]
      .rw[QJ (by simpa using v),Qm (Q8 n2),Qm Q,f];simp only[VQ,Q4,Ob.mk.injEq,AT,and_true];omega
      .rw[show q+1+i=q+(i+1) by omega,h4 (i+1) (by simpa using hi)];simp
      .subst e;exact QE (T.sep _ _ _ _ _ _ _ _ _ Z5 F)
    by_cases h5:done<a
    .have d2:=Q1 h5;have u:=mC (by unfold qL;rw[hc];dsimp only;rw[Qe ω,Qf h5]);refine Q3 func128 ntmps128 results128 λE w pl x=>?_;have t:=Qc m;have C:=Qc B;have v:=Qc f;simp only[go_sem,Qa,m,t,B,C,f,v,F,d0,d1,d2,K];exact⟨z,y,u⟩
    .have d2:=QU h5;have e0:qL s b done bytes c=⟨λk=>if k=b then l else s.Jp k,λk=>if k=b then AA r a done bytes c else s.rows k⟩:=by
      unfold qL;rw[hc];dsimp only;rw[Qe ω,Qe h5];congr 1;funext k;by_cases jy:k=b
      .rw[Qf jy,Qf jy,jy,<- AV]
      .rw[Qe jy,Qe jy]
     have u:∀(o:Ob) (H:kW),H=AA r a done bytes c->∀n,n=l.length->Step S h ((h.set P (Ki .i64 c2 N b (.agg H.cells))).set W (Ki .i64 c1 Y b (.ref R g (q+1) n))++[o])/\qM (more S h) ((h.set P (Ki .i64 c2 N b (.agg H.cells))).set W (Ki .i64 c1 Y b (.ref R g (q+1) n))++[o]) p (qL s b done bytes c):=λo H a3 n hn=>by
      subst hn;exact uS H o (by rw[e0,a3])
     have w1:IntKind.u64.wrap ((r.p:Int)+1)=(((r.p+1) % 18446744073709551616:Nat):Int):=RC r.p 1;have w2:IntKind.u64.wrap bytes=((bytes.toNat:Nat):Int):=κ;have w3:=RC r.b bytes.toNat
     have w4:IntKind.u64.wrap ((r.r:Int)+1)=(((r.r+1) % 18446744073709551616:Nat):Int):=RC r.r 1;have U:IntKind.u64.wrap ((done:Int) - (a:Int))=((done - a:Nat):Int):=κ;have w6:=RC r.w (done - a);have w7:max ((r.l:Nat):Int) ((done - a:Nat):Int)=((max r.l (done - a):Nat):Int):=ω;have J:(((l.length+1:Nat):Int) - 1).toNat=l.length:=ω;have Jt:(Ja N b=some (.agg r.cells))\/(Ja N b=none/\r=default):=by
      cases hh:Ja N b with
      | some d=>rw[hh]at ZN;exact .inl (congrArg some ZN)
      | none=>
       rw[hh]at ZN;have ZN:D.agg (default:kW).cells=D.agg r.cells:=ZN;exact .inr ⟨rfl,(kW.QBT (D.agg.inj ZN)).symm⟩
     rcases Jt with Jt|⟨Jt,Wv⟩
     .refine Q3 func128 ntmps128 results128 λE w pl x=>?_;have t:=Qc m;have C:=Qc B;have v:=Qc f;have I:=Qc L;simp only[go_sem,Qa,m,t,B,C,f,v,L,I,F,d0,d1,d2,K,Jt,w1,w2,w3];cases c with
      | true=>
       have O:=u ⟨.one,0,5,1,λ_=>(AA r a done bytes true).cells⟩ _ rfl _ J;simp only[go_sem,AA,↓reduceIte,J,YF]at O;simp only[go_sem,Qa,w4];repeat (refine And.intro (by first|exact z|exact y|omega) ?_)
       apply QB x Ei;simp only[go_sem,Qa,m,t,f,v,K,U,w6];repeat (refine And.intro (by first|exact z|exact y|omega) ?_)
       apply QB x Ei;simp only[go_sem,Qa,m,t,f,v,K,U,w7];repeat (refine And.intro (by first|exact z|exact y|omega) ?_)
       apply QB x i6;simp only[go_sem,Qa,m,t,f,v,L,I,Qm];repeat (refine And.intro (by first|exact z|exact y|omega) ?_)
       apply QB x ut;simp only[go_sem,Qa,m,t,f,v,B,C,I,Qm EN.symm,Qm QE.symm,Qm Q];repeat (refine And.intro (by first|exact z|exact y|omega) ?_)
       simp only[go_sem,J,Qm Q,f,Lj];exact O
      | false=>
       have O:=u ⟨.one,0,5,1,λ_=>(AA r a done bytes false).cells⟩ _ rfl _ J;simp only[go_sem,AA,↓reduceIte,J,YF]at O;simp only[go_sem,Qa];repeat (refine And.intro (by first|exact z|exact y|omega) ?_)
       apply QB x Ei;simp only[go_sem,Qa,m,t,f,v,K,U,w6];repeat (refine And.intro (by first|exact z|exact y|omega) ?_)
       apply QB x Ei;simp only[go_sem,Qa,m,t,f,v,K,U,w7];repeat (refine And.intro (by first|exact z|exact y|omega) ?_)
       apply QB x i6;simp only[go_sem,Qa,m,t,f,v,L,I,Qm];repeat (refine And.intro (by first|exact z|exact y|omega) ?_)
       apply QB x ut;simp only[go_sem,Qa,m,t,f,v,B,C,I,Qm EN.symm,Qm QE.symm,Qm Q];repeat (refine And.intro (by first|exact z|exact y|omega) ?_)
       simp only[go_sem,J,Qm Q,f,Lj];exact O
     .have Wv:r=⟨0,0,0,0,0⟩:=Wv;subst Wv;have v1:IntKind.u64.wrap 1=1:=rfl;have v3:IntKind.u64.wrap (0+((bytes.toNat:Nat):Int))=(((0+bytes.toNat) % 18446744073709551616:Nat):Int):=RC 0 bytes.toNat
      have v6:IntKind.u64.wrap (0+((done - a:Nat):Int))=(((0+(done - a)) % 18446744073709551616:Nat):Int):=RC 0 (done - a);have v7:max (0:Int) ((done - a:Nat):Int)=((max 0 (done - a):Nat):Int):=ω;refine Q3 func128 ntmps128 results128 λE w pl x=>?_;have t:=Qc m;have C:=Qc B;have v:=Qc f;have I:=Qc L;simp only[go_sem,Qa,m,t,B,C,f,v,L,I,F,d0,d1,d2,K,Jt,w2,v1,v3];cases c with
      | true=>
       have O:=u ⟨.one,0,5,1,λ_=>(AA ⟨0,0,0,0,0⟩ a done bytes true).cells⟩ _ rfl _ J;simp only[go_sem,AA,↓reduceIte,J,YF]at O;simp only[go_sem,Qa,v1];repeat (refine And.intro (by first|exact z|exact y|omega) ?_)
       apply QB x Ei;simp only[go_sem,Qa,m,t,f,v,K,U,v6];repeat (refine And.intro (by first|exact z|exact y|omega) ?_)
       apply QB x Ei;simp only[go_sem,Qa,m,t,f,v,K,U,v7];repeat (refine And.intro (by first|exact z|exact y|omega) ?_)
       apply QB x i6;simp only[go_sem,Qa,m,t,f,v,L,I,Qm];repeat (refine And.intro (by first|exact z|exact y|omega) ?_)
       apply QB x ut;simp only[go_sem,Qa,m,t,f,v,B,C,I,Qm EN.symm,Qm QE.symm,Qm Q];repeat (refine And.intro (by first|exact z|exact y|omega) ?_)
       simp only[go_sem,J,Qm Q,f,Lj];exact O
      | false=>
       have O:=u ⟨.one,0,5,1,λ_=>(AA ⟨0,0,0,0,0⟩ a done bytes false).cells⟩ _ rfl _ J;simp only[go_sem,AA,↓reduceIte,J,YF]at O;simp only[go_sem,Qa];repeat (refine And.intro (by first|exact z|exact y|omega) ?_)
       apply QB x Ei;simp only[go_sem,Qa,m,t,f,v,K,U,v6];repeat (refine And.intro (by first|exact z|exact y|omega) ?_)
       apply QB x Ei;simp only[go_sem,Qa,m,t,f,v,K,U,v7];repeat (refine And.intro (by first|exact z|exact y|omega) ?_)
       apply QB x i6;simp only[go_sem,Qa,m,t,f,v,L,I,Qm];repeat (refine And.intro (by first|exact z|exact y|omega) ?_)
       apply QB x ut;simp only[go_sem,Qa,m,t,f,v,B,C,I,Qm EN.symm,Qm QE.symm,Qm Q];repeat (refine And.intro (by first|exact z|exact y|omega) ?_)
       simp only[go_sem,J,Qm Q,f,Lj];exact O
@[go_sem] def QIU(k:List Int):List D:=k.map λn=>.raw (.int .u16 n)
def QkK:Q9 prog 70 [] (Zp (.agg [.raw (.int .u16 65535),.raw (.int .u16 65535),.raw (.int .u16 65535),.raw (.int .u16 65535)])):=by
 refine ZH 0 func70 ntmps70 results70 λa w b=>?_;simp only[go_sem]
def QkL(j i h g f e d c):Q9 prog 69 [.agg [.raw (.int .u16 j),.raw (.int .u16 i),.raw (.int .u16 h),.raw (.int .u16 g)],.agg [.raw (.int .u16 f),.raw (.int .u16 e),.raw (.int .u16 d),.raw (.int .u16 c)]]
  (Zp (.agg [.raw (.int .u16 (xv j f)),.raw (.int .u16 (xv i e)),.raw (.int .u16 (xv h d)),.raw (.int .u16 (xv g c))])):=by
 refine ZH 0 func69 ntmps69 results69 λk w a=>?_;simp only[go_sem];have n:IntKind.i64.wrap 1=1:=rfl;have m:IntKind.i64.wrap 2=2:=rfl;have l:IntKind.i64.wrap 3=3:=rfl;have b:IntKind.i64.wrap 4=4:=rfl;refine x8 4 ?_;apply QM a;apply QB a Eq;simp only[go_sem];apply Qh a;simp only[go_sem,Qa,n];apply QB a Eq;simp only[go_sem];apply Qh a;simp only[go_sem,Qa,m];apply QB a Eq;simp only[go_sem];apply Qh a;simp only[go_sem,Qa,l];apply QB a Eq;simp only[go_sem];apply Qh a;simp only[go_sem,Qa,b];apply Qh a;simp only[go_sem,Qa,b];rfl
theorem QBV(r:Ke)(x:Pk):jg r (ZZ x)=(xv x.xZ r.Bo==r.Mg&&(xv x.x5 r.Bp==r.Mh&&(xv x.x6 r.FN==r.Mi&&(xv x.x7 r.DW==r.FO&&true)))):=rfl
@[go_sem] def mD(x:Pk):List D:=[.raw (.int .u16 x.xZ),.raw (.int .u16 x.x5),.raw (.int .u16 x.x6),.raw (.int .u16 x.x7)]
def QkM(r:Ke)(x):Q9 prog 122 [.agg r.cells,.agg (mD x)] (Zp (QZ (jg r (ZZ x)))):=by
 rw[QBV];refine ZH 0 func122 ntmps122 results122 λb w a=>?_;simp only[go_sem];apply QB a [0,1,2,4,5,1003,6,7];simp only[go_sem];apply VR a pS (QkL x.xZ x.x5 x.x6 x.x7 r.Bo r.Bp r.FN r.DW);exact O8 a
structure QkN (h:List Ob) (p:Nat) (dr:D) (le:Nat) (dm:D) (c:Nat) (es:List XX) (ms:List Nat) (R:List Ke):Prop where
 o:(h.map Ob.ro)[p]? = some (Nr dr le dm).ro
 eo:(h.map Ob.ro)[le]? = some (wN c es).ro
 rs:(dr=.nil/\R=[])\/∃lo g row,dr=.ref lo g 0 R.length/\(h.map Ob.ro)[lo]? = some ⟨.AU,g,9,R.length,row⟩/\∀i,i<R.length->row i=(R.getD i default).cells
 mo:(dm=.nil/\ms=[])\/∃lo g row,dm=.ref lo g 0 ms.length/\(h.map Ob.ro)[lo]? = some ⟨.AU,g,1,ms.length,row⟩/\∀i,i<ms.length->row i=[Qb ((ms.getD i 0:Nat):Int)]
 I:qi R R.length es ms
 ok:zz R=0
def Qa2.toR{S}{h}{p}{l}{j}{m}{c}{k}{i}{R}(T:Qa2 S h p l j m c k i R):QkN h p l j m c k i R:=
 ⟨Jc T.o,Jc T.eo,T.rs.imp id λ⟨b,g,a,f,_,e,d⟩=>⟨b,g,a,f,Jc e,d⟩,T.mo.imp id λ⟨b,g,a,f,_,e,d⟩=>⟨b,g,a,f,Jc e,d⟩,T.I,T.ok⟩
def Qa4{R}(h:zz R=0):∀r∈R,1<=r.cls:=λr a=>by
 unfold zz at h;split at h
 .cases h
 .split at h
  .rename_i b;have:=jo.1 b r a;unfold AB at this;simp only[ZX,Xd]at this;exact this.1.1
  .cases h
def inc_le:∀(c:List Nat) (n b:Nat),c.Pairwise (·<·)->(∀j∈c,b<=j/\j<n)->c.length<=n - b
 | [],n,b,_,_=>Z9 _
 | a::c,n,b,d,h=>by
  rw[B5]at d;have f:=h a σ;have:=inc_le c n (a+1) d.2 λj e=>⟨d.1 j e,(h j (by simp[e])).2⟩;simp only[VQ];omega
def QBW{h}{p}{dr}{le}{dm}{c}{es}{b}{R}(T:QkN h p dr le dm c es b R)(x)(hx:aM x):
  Zf prog 80 h [.ptr p 0 0 0,.agg (mD x)] (λd=>d=.tup [Qb (Kj R (ZZ x)),Qb (if Kj R (ZZ x)=0 then 31 else 0)]):=by
 have g:=T.o;have v:=T.eo;have h4:=T.I.four;obtain⟨q,hq⟩:∃q,q=Xt es (ZZ x):=⟨_,rfl⟩;have yB:=hq;simp only[ZZ]at yB;have a0:∀j,j<b.length->b.getD j 0∈b:=λj l=>zR b 0 j l;have aP:∀i∈b,∃j,j<b.length/\b.getD j 0=i:=λi N=>by
  obtain⟨j,l,e⟩:=AQ N;exact⟨j,l,by rw[Q7,QT l];exact e⟩
 have A9:b.length<=32:=by
  have h1:=inc_le b R.length 0 T.I.inc λj l=>⟨Z9 j,((T.I.mem j).1 l).1⟩;have h2:R.length<=32:=by
   have:=T.ok;unfold zz at this;split at this
   .cases this
   .omega
  omega
 have a2:∀j k,j<k->k<b.length->b.getD j 0<b.getD k 0:=λj k Wx hk=>by
  have:=List.pairwise_iff_getElem.1 T.I.inc j k ω hk Wx;rw[Q7,Q7,QT hk,QT (show j<b.length from ω)];exact this
 have Z:∀j k,j<b.length->b.getD j 0<b.getD k 0->j<k:=λj k l h=>jX λhc=>by
  rcases Nat.lt_or_eq_of_le (GS hc) with h2|h2
  .have:=a2 k j h2 l;omega
  .rw[h2]at h;omega
 cases q with
 | none=>
  have z:(∀j∈b,jg (JX R j) (ZZ x)=false)->Kj R (ZZ x)=0:=λE=>by
   unfold Kj;rw[T.I.none hx hq.symm E]
  rcases T.mo with ⟨rfl,rfl⟩|⟨lm,gm,a1,rfl,C,zf⟩
  .rw[z (λj l=>by cases l),Qf rfl];refine ZD func80 ntmps80 results80 λJ w pl F S Ze f=>?_;rw[<- S]at g v;have m:=Qc g;have H:=Qc v;simp only[go_sem,Qa,g,m,v,H];apply QB f i5;simp only[go_sem,Qa,g,m,v,H,<- yB];refine⟨h4,?_⟩;refine x8 0 ?_;apply QM f;apply QM f;all_goals exact Wo
  .refine ZD func80 ntmps80 results80 λJ w pl F S Ze f=>?_;rw[<- S]at g v C;have m:=Qc g;have H:=Qc v;have U:=Qc C;simp only[go_sem,Qa,g,m,v,H,C,U];apply QB f i5;simp only[go_sem,Qa,g,m,v,H,<- yB];refine⟨h4,?_⟩;refine Js (λk s=>(∀j,j<k->jg (JX R (b.getD j 0)) (ZZ x)=false)/\s=⟨[(0,.ptr p 0 0 0),(3,.ptr F.length 0 0 0),(6,Qb 0),(7,QZ false),(24,.ref lm gm 0 b.length),(25,Qb b.length),(26,Qb k)],F++[(⟨.one,0,4,1,λ_=>mD x⟩:Ob)]⟩) b.length QQ ⟨λj l=>absurd l (Xc j),rfl⟩ ?_;rintro k _ hk ⟨E,rfl⟩;by_cases y:k<b.length
   .have L:=Q1 y;have Zs:=Vl (show k<4611686018427387904 from ω);obtain⟨i,N⟩:∃i,i=b.getD k 0:=⟨_,rfl⟩;have Mx:=a0 k y;rw[<- N]at Mx;obtain⟨o,W⟩:=(T.I.mem i).1 Mx;have K:=zf k y;rw[<- N]at K;rcases T.rs with ⟨h1,h2⟩|⟨lr,gr,mE,rfl,n,AV⟩
    .rw[h2]at o;simp at o
    rw[<- S]at n;have t:=Qc n;have u:mE i=(JX R i).cells:=AV i o;obtain⟨r,I⟩:∃r,r=JX R i:=⟨_,rfl⟩;rw[<- I]at u;have M:=QkM r x;simp only[go_sem]at u K;cases Q:jg r (ZZ x) with
    | false=>
     rw[Q]at M;apply Qh f;simp only[go_sem,Qa,L,y,C,U,K,Go.undef];apply QB f Eq;simp only[go_sem,Qa,g,m,n,t,u,o];refine KJ f fU ?_ M ?_
     .simp only[go_sem,Qa,g,m,n,t,u,o]
     apply Zd f;simp only[go_sem,Qa,g,m,n,t,u,o];repeat (refine And.intro η ?_)
     refine⟨_,QH.frame (fr':=[(0,.ptr p 0 0 0),(3,.ptr F.length 0 0 0),(6,Qb 0),(7,QZ false),(24,.ref lm gm 0 b.length),(25,Qb b.length),(26,Qb (k+1:Nat))]) (by simp only[go_sem,Zs]),λj l=>?_,rfl⟩;rcases AR.1 l with h5|rfl
     .exact E j h5
     .rw[<- N,<- I];exact Q
    | true=>
     rw[Q]at M;have e0:Kj R (ZZ x)=r.cls:=by
      unfold Kj;rw[T.I.XW hx o W (by rw[<- I];exact Q) (λj l vB=>?_) (λa' We=>?_),<- I]
      .obtain⟨B,P,O⟩:=aP j l;rw[<- O];exact E B (Z B k P ω)
      .rw[<- hq]at We;cases We
     have vq:=Qa4 T.ok r (by rw[I];exact zR R default i o);rw[e0,Qe ω];apply Qh f;simp only[go_sem,Qa,L,y,C,U,K,Go.undef];apply QB f Eq;simp only[go_sem,Qa,g,m,n,t,u,o];refine KJ f fU ?_ M ?_
     .simp only[go_sem,Qa,g,m,n,t,u,o]
     apply Zd f;simp only[go_sem,Qa,g,m,n,t,u,o];all_goals exact Wo
   .have Jt:k=b.length:=ω;have L:=QU y;subst Jt;have KI:∀j∈b,jg (JX R j) (ZZ x)=false:=λj l=>by
     obtain⟨B,P,O⟩:=aP j l;rw[<- O];exact E B P
    rw[z KI,Qf rfl];apply Qh f;simp only[go_sem,Qa,L];apply QM f;all_goals exact Wo
 | some d=>
  obtain⟨a,rfl,V,OD,UQ,a4⟩:=T.I.yes _ _ hq.symm;rcases T.rs with ⟨h1,h2⟩|⟨lr,gr,mE,rfl,n,AV⟩
  .rw[h2]at V;simp at V
  have RD:mE a=(JX R a).cells:=AV a V;obtain⟨ra,Y⟩:∃r,r=JX R a:=⟨_,rfl⟩;rw[<- Y]at RD;have mF:=Qa4 T.ok ra (by rw[Y];exact zR R default a V);have z:(∀j∈b,j<a->jg (JX R j) (ZZ x)=false)->Kj R (ZZ x)=ra.cls:=λE=>by
   unfold Kj;rw[(T.I.whole hx hq.symm E).2,<- Y]
  simp only[go_sem]at RD;rcases T.mo with ⟨rfl,rfl⟩|⟨lm,gm,a1,rfl,C,zf⟩
  .rw[z (λj l=>by cases l),Qe ω];refine ZD func80 ntmps80 results80 λJ w pl F S Ze f=>?_;rw[<- S]at g v n;have m:=Qc g;have H:=Qc v;have t:=Qc n;simp only[go_sem,Qa,g,m,v,H,n,t];apply QB f i5;simp only[go_sem,Qa,g,m,v,H,<- yB];refine⟨h4,?_⟩;refine x8 0 ?_;apply Qh f;simp only[go_sem,Qa,g,m,n,t,RD,V];apply Qh f;simp only[go_sem,Qa,g,m,n,t,RD,V];all_goals exact Wo
  .refine ZD func80 ntmps80 results80 λJ w pl F S Ze f=>?_;rw[<- S]at g v n C;have m:=Qc g;have H:=Qc v;have t:=Qc n;have U:=Qc C;simp only[go_sem,Qa,g,m,v,H,n,t,C,U];apply QB f i5;simp only[go_sem,Qa,g,m,v,H,<- yB];refine⟨h4,?_⟩;refine Js (λk s=>(∀j,j<k->jg (JX R (b.getD j 0)) (ZZ x)=false)/\s=⟨[(0,.ptr p 0 0 0),(3,.ptr F.length 0 0 0),(6,Qb a),(7,QZ true),(24,.ref lm gm 0 b.length),(25,Qb b.length),(26,Qb k)],F++[(⟨.one,0,4,1,λ_=>mD x⟩:Ob)]⟩) b.length QQ ⟨λj l=>absurd l (Xc j),rfl⟩ ?_;rintro k _ hk ⟨E,rfl⟩;by_cases y:k<b.length
   .have L:=Q1 y;have Zs:=Vl (show k<4611686018427387904 from ω);obtain⟨i,N⟩:∃i,i=b.getD k 0:=⟨_,rfl⟩;have Mx:=a0 k y;rw[<- N]at Mx;obtain⟨o,W⟩:=(T.I.mem i).1 Mx;have K:=zf k y;rw[<- N]at K;have u:mE i=(JX R i).cells:=AV i o;obtain⟨r,I⟩:∃r,r=JX R i:=⟨_,rfl⟩;rw[<- I]at u;have M:=QkM r x;simp only[go_sem]at u K;by_cases PM:a<i
    .have da:=Q1 PM;rw[z (λj l a3=>by
      obtain⟨B,P,O⟩:=aP j l;rw[<- O];exact E B (Z B k P ω)),Qe ω]
     apply Qh f;simp only[go_sem,Qa,L,y,C,U,K,da];apply Qh f;simp only[go_sem,Qa,g,m,n,t,RD,V];all_goals exact Wo
    .have da:=QU PM;cases Q:jg r (ZZ x) with
     | false=>
      rw[Q]at M;apply Qh f;simp only[go_sem,Qa,L,y,C,U,K,da];apply QB f Eq;simp only[go_sem,Qa,g,m,n,t,u,o];refine KJ f fU ?_ M ?_
      .simp only[go_sem,Qa,g,m,n,t,u,o]
      apply Zd f;simp only[go_sem,Qa,g,m,n,t,u,o];repeat (refine And.intro η ?_)
      refine⟨_,QH.frame (fr':=[(0,.ptr p 0 0 0),(3,.ptr F.length 0 0 0),(6,Qb a),(7,QZ true),(24,.ref lm gm 0 b.length),(25,Qb b.length),(26,Qb (k+1:Nat))]) (by simp only[go_sem,Zs]),λj l=>?_,rfl⟩;rcases AR.1 l with h5|rfl
      .exact E j h5
      .rw[<- N,<- I];exact Q
     | true=>
      rw[Q]at M;have e0:Kj R (ZZ x)=r.cls:=by
       unfold Kj;rw[T.I.XW hx o W (by rw[<- I];exact Q) (λj l vB=>?_) (λa' We=>?_),<- I]
       .obtain⟨B,P,O⟩:=aP j l;rw[<- O];exact E B (Z B k P ω)
       .rw[<- hq]at We;have:=N4 We;simp only[Qb,D.raw.injEq,Value.int.injEq,AT]at this;omega
      have vq:=Qa4 T.ok r (by rw[I];exact zR R default i o);rw[e0,Qe ω];apply Qh f;simp only[go_sem,Qa,L,y,C,U,K,da];apply QB f Eq;simp only[go_sem,Qa,g,m,n,t,u,o];refine KJ f fU ?_ M ?_
      .simp only[go_sem,Qa,g,m,n,t,u,o]
      apply Zd f;simp only[go_sem,Qa,g,m,n,t,u,o];all_goals exact Wo
   .have Jt:k=b.length:=ω;have L:=QU y;subst Jt;rw[z (λj l _=>by
     obtain⟨B,P,O⟩:=aP j l;rw[<- O];exact E B P),Qe ω]
    apply Qh f;simp only[go_sem,Qa,L];apply Qh f;simp only[go_sem,Qa,g,m,n,t,RD,V];all_goals exact Wo
end Go.Fg.X
namespace Go.Fg
open Go.RowKit (Below)
variable {Z:Nat->Prop}
section
variable {P:Program}{L:Jr}{base nt:Nat}{s:St}{o:Oper}
end
section
variable {P:Program}{L:Jr}{base nt:Nat}{w0:Start}{Q:Exit->St->Prop}
end
def mG:D->Bool
 | .imm _ _ _=>true
 | .ref _ _ _ _=>true
 | .nil=>true
 | _=>false
section
variable {P:Program}{L:Jr}{base nt:Nat}{s:St}{o:Oper}
end
section
variable {P:Program}{L:Jr}{base nt:Nat}{w0:Start}{Q:Exit->St->Prop}
end
def aQ:D->Nat
 | .imm _ n _=>n
 | _=>0
def QBY{h}{g}{w}{d}{v}(r:QF Z h g w d v)(j:mG d=true):∃a n b,v=.slice a n b/\(a.isNone=true->aQ d=0):=by
 cases d<;>simp only[mG,YF]at j;all_goals first
  | (obtain⟨a,e⟩:=Ff r;exact⟨_,_,_,e,λ_=>rfl⟩)
  | (obtain⟨a,b,_,_,_,e,k,_⟩:=SB r;refine⟨_,_,_,e,λf=>Nat.eq_zero_of_not_pos λi=>?_⟩;have c:0<_:=i;simp only[aQ]at c;rw[k c]at f;cases f)
  | (obtain⟨_,_,a,b,e,_⟩:=Fh r;exact⟨_,_,_,e,λ_=>rfl⟩)
section
variable {P:Program}{L:Jr}{base nt:Nat}{w0:Start}{Q:Exit->St->Prop}
def QBZ(I:Jl P L){Q:Exit->St->Prop}{o:Oper}{c:List (Oper × G)}{s:St}{t k e a b:Nat}{x:Operand}{j:List Value}(B:o.op=.binOp .eql t x (.const (.slice none 0 0)) k)(p:mG (Qp s.fr x)=true)(v:ty L t=some ⟨.slice e,a,b,j⟩)(h:Zt nt o.dst=true)
  (C:∀b:Bool,(b=true->aQ (Qp s.fr x)=0)->AG P base nt w0 c Q ⟨Zk s.fr o.dst (.raw (.bool b)),s.h⟩):AG P base nt w0 ((o,none)::c) Q s:=by
 intro Z z l i w r b;obtain⟨d,n,f,q,H⟩:=QBY (r.eval x) p;have F:i.eval (.const (.slice none 0 0))=.slice none 0 0:=rfl;have J:(execOp i.eval o).run P w=.ok (.value (.bool d.isNone)) w:=by
  have u:=yM (I _ _ v) rfl;have E:(Op.equal t (.slice d n f) (.slice none 0 0)).run P w=.ok d.isNone w:=oc λm=>by
   cases d<;>simp[Op.equalIn,run_underlying u]
  have y:(eqGuard .eql t x (.const (.slice none 0 0)) (.slice d n f) (.slice none 0 0)).run P w=.ok () w:=by simp[eqGuard]
  simp[execOp,B,q,F,Go.binOp,E,y]
 simp only[qp,XK,VB];unfold Oper.wp;rw[J];simp only[Oper.upon_value];refine C _ H Z z l _ w ?_ b;cases g:o.dst with
 | none=>exact r
 | some t=>rw[g]at h;exact r.to (Tr.ext r.o λ_ _=>rfl) r.o (vz h) (.cl _ _ (.raw _))
def QB0(m:Jl P L){k:List Item}{c:Option Nat}{o:TypeId}{pos:String}{d:Array Edge}{n:Option (Nat × Bool)}{r:List (Oper × G)}{s:St}{t h e a b:Nat}{x:Operand}{g:List Value}
  (i:mG (Qp s.fr x)=true) (j:ty L t=some ⟨.slice e,a,b,g⟩) (l:Zt nt c=true) (f:∀b:Bool,(b=true->aQ (Qp s.fr x)=0)->Qw P base nt w0 Q (.ops r::k) .normal ⟨Zk s.fr c (.raw (.bool b)),s.h⟩) :
  Qw P base nt w0 Q (.ops ((⟨c,.binOp .eql t x (.const (.slice none 0 0)) h,o,pos,d,n⟩,none)::r)::k) .normal s:=by
 simp only[Qw]at f ⊢;exact QBZ m rfl i j l f
end
end Go.Fg
namespace Go.Fg.X
open Go.Proofs Go.Fg
open Go.Proofs.Tryz
@[go_sem] def GC(l:List Ke):D:=.imm 9 l.length (Ke.rows l)
def QB1(h:List Ob)(l:List Ke)(n:l.length<1000000):QI prog 68 h [GC l] (λd f=>∃g,f=h++g/\jQ (λj=>h.length<=j) (h++g) 9 Ke.cells d l):=by
 refine Q3 func68 ntmps68 results68 λe w m a=>?_;simp only[go_sem,Qa];refine QB0 CH (by simp only[go_sem];rfl) rfl rfl λb k=>?_;cases b with
 | true=>
  have c:=k rfl;simp only[go_sem,aQ]at c;apply QM a;exact⟨[],(Jv h).symm,.inl ⟨rfl,NO.1 c⟩⟩
 | false=>
  apply QM a;refine⟨ω,_,rfl,.inr ⟨h.length,_,_,rfl,Qs _,Vq rfl,λi o=>?_⟩⟩;rw[xM (Z9 _)];rfl
def QB2(r:Ke):(aJ r.want r.mask==r.want)=(xv r.Mg r.Bo==r.Mg&&(xv r.Mh r.Bp==r.Mh&&(xv r.Mi r.FN==r.Mi&&xv r.FO r.DW==r.FO))):=by
 rw[<- Bool.and_true (xv r.FO r.DW==r.FO)];rfl
structure jR (h H:List Ob) (l:List Ke) (k p:Nat) (dr:D) (le:Nat) (dm:D) (c:Nat) (es:List XX) (ms:List Nat):Prop where
 ex:VE h H
 o:H[p]? = some (Nr dr le dm)
 eo:H[le]? = some (wN c es)
 rs:jQ (λj=>h.length<=j) H 9 Ke.cells dr l
 mo:jQ (λj=>h.length<=j) H 1 (λi:Nat=>[Qb i]) dm ms
 hp:h.length<=p
 he:h.length<=le
 I:qi l k es ms
 ok:∀j,j<k->AB (JX l j)=true
def jR.app{h H}{l}{k p}{i}{e}{m}{c}{f}{d}(N:jR h H l k p i e m c f d)(g):jR h (H++g) l k p i e m c f d:=
 ⟨N.ex.app g,(QJ (Qc N.o)).trans N.o,(QJ (Qc N.eo)).trans N.eo,N.rs.step λj a b=>⟨b,QJ a⟩,N.mo.step λj a b=>⟨b,QJ a⟩,N.hp,N.he,N.I,N.ok⟩
def jR.next{h H}{l}{k p}{m}{f}{F}{c}{E}{s}(N:jR h H l k p m f F c E s){e:List Ob}{d}{r}{b}{a}(t:VE h e)(u:e[p]? = some (Nr m f d))(x:e[f]? = some (wN r b))
  (w:∀(j:Nat) (o:Ob),H[j]? = some o->o.kd=.arr->o.sz=9->e[j]? = some o) (v:jQ (λj=>h.length<=j) e 1 (λi:Nat=>[Qb i]) d a) (I:qi l (k+1) b a) (J:∀j,j<k+1->AB (JX l j)=true):jR h e l (k+1) p m f d r b a:=
 ⟨t,u,x,N.rs.imp id λ⟨q,g,n,C,B,z,y⟩=>⟨q,g,n,C,B,w q _ z rfl rfl,y⟩,v,N.hp,N.he,I,J⟩
def AF{H:List Ob}{a b:Nat}{o c:Ob}(d:H[a]? = some o)(f:H[b]? = some c)(h:o.kd≠c.kd\/o.sz≠c.sz):a≠b:=λe=>by
 rw[e,f]at d;cases d;rcases h with h|h<;>exact h rfl
def jR.Bo{h H}{l}{k p}{d}{a}{c}{f}(N:jR h H l k p d a .nil c f [])(g:zB (JX l k)=false)(q:∀j,j<k+1->AB (JX l j)=true)(o):
  jR h (H.set p (Nr d a (.ref (H.length+2) 0 0 1))++[o,⟨.arr,0,1,1,λ_=>[Qb k]⟩,⟨.arr,0,1,1,λ_=>[Qb k]⟩]) l (k+1) p d a (.ref (H.length+2) 0 0 1) c f ([]++[k]):=by
 have hp:=Qc N.o;have n:p≠a:=AF N.o N.eo (.inl nofun);refine N.next ((N.ex.set N.hp _).app _) ?_ ?_ (λj o b m r=>?_) (.inr ⟨H.length+2,0,λ_=>[Qb k],rfl,by have:=N.ex.len;omega,Wm (k:=2) σ,λi e=>?_⟩) (N.I.mask g) q
 .rw[QJ (by simpa using hp),Qy hp]
 .rw[QJ (by simpa using Qc N.eo),Qm n];exact N.eo
 .rw[QJ (by simpa using Qc b),Qm (AF N.o b (.inl (by rw[m];nofun)))];exact b
 .simp at e;subst e;rfl
def jR.Bp{h H:List Ob}{l}{k p}{q}{e}{c}{r}{a:List Nat}{b g}{d}(N:jR h H l k p q e (.ref b g 0 a.length) c r a)(s:h.length<=b)(m:H[b]? = some ⟨.arr,g,1,a.length,d⟩)(z:∀i,i<a.length->d i=[Qb ((a.getD i default:Nat):Int)])
  (v:zB (JX l k)=false) (F:∀j,j<k+1->AB (JX l j)=true) (o u:Ob) :
  jR h ((H.set b ⟨.arr,g+1,1,a.length+1,KB a.length 0 d λ_=>[Qb k]⟩).set p (Nr q e (.ref b (g+1) 0 (a.length+1)))++[o,u]) l (k+1) p q e (.ref b (g+1) 0 (a.length+1)) c r (a++[k]):=by
 have hp:=Qc N.o;have t:=Qc m;have B:p≠e:=AF N.o N.eo (.inl nofun);have C:b≠p:=AF m N.o (.inl nofun);have E:b≠e:=AF m N.eo (.inl nofun);refine N.next (((N.ex.set s _).set N.hp _).app _) ?_ ?_ (λj o n y x=>?_) (.inr ⟨b,g+1,KB a.length 0 d λ_=>[Qb k],σ,s,?_,λi w=>?_⟩) (N.I.mask v) F
 .rw[QJ (by simpa using hp),Qy (by simpa using hp)]
 .rw[QJ (by simpa using Qc N.eo),Qm B,Qm E];exact N.eo
 .rw[QJ (by simpa using Qc n),Qm (AF N.o n (.inl (by rw[y];nofun))),Qm (AF m n (.inr (by rw[x];show (1:Nat)≠9;decide)))];exact n
 .rw[QJ (by simpa using t),Qm (Q8 C),Qy t];simp
 .simp at w;by_cases f:i<a.length
  .rw[A4 f,JM,z i f];simp[f,JY f]
  .have:i=a.length:=ω;subst this;rw[xM (Qs _)];simp
def jR.new{h H}{l}{k p:Nat}{r}{f}{s}{c}{e}{m}(N:jR h H l k p r f s c e m)(u:zB (JX l k)=true)(v:Xt e (JX l k).want=none)(y:∀j,j<k+1->AB (JX l j)=true)(o):
  jR h (H.set f (wN (c+1) (e++[⟨(JX l k).want,Qb k,c⟩]))++[o]) l (k+1) p r f s (c+1) (e++[⟨(JX l k).want,Qb k,c⟩]) m:=by
 have n:=Qc N.eo;have keep:∀(j:Nat) (a:Ob),H[j]? = some a->a.kd≠.map->(H.set f (wN (c+1) (e++[⟨(JX l k).want,Qb k,c⟩]))++[o])[j]? = some a:=λj a b d=>by
  rw[QJ (by simpa using Qc b),Qm (AF N.eo b (.inl (Q8 d)))];exact b
 refine N.next ((N.ex.set N.he _).app _) (keep _ _ N.o nofun) ?_ (λj a b d q=>keep j a b (by rw[d];nofun)) (N.mo.imp id λ⟨t,g,i,d,q,x,w⟩=>⟨t,g,i,d,q,keep _ _ x nofun,w⟩) (N.I.new u v c) y;rw[QJ (by simpa using n),Qy n]
def QkP(h)(l:List Ke)(hl:l.length<1000000):
  QI prog 27 h [GC l] (λd h'=>∃g,h'=h++g/\(zz l=0->∃p,d=.tup [.ptr p 0 0 0,Qb 0]/\IN (λj=>h.length<=j) (h++g) p l)/\(zz l≠0->d=.tup [.raw (.pointer none),Qb (zz l)])):=by
 by_cases If:32<l.length
 .have d0:decide ((32:Int)<(l.length:Int))=true:=Q1 ω;have e:zz l=2:=by unfold zz;rw[Qf If]
  rw[e];refine Q3 func27 ntmps27 results27 λR w pl a=>?_;simp only[go_sem,Qa,d0];exact⟨[],(Jv h).symm⟩
 .have d0:decide ((32:Int)<(l.length:Int))=false:=QU ω;refine Q3 func27 ntmps27 results27 λR w pl a=>?_;simp only[go_sem,Qa,d0];refine JO a Qsv (QB1 h l hl) λd h1 hR=>?_;obtain⟨t,rfl,Z⟩:=hR;have O:=QcZ .i64;simp only[QR]at O;have Q:Yu d=some [d]:=by rcases Z with ⟨rfl,_⟩|⟨_,_,_,rfl,_⟩<;>rfl
  have P:d.VI=true:=by rcases Z with ⟨rfl,_⟩|⟨_,_,_,rfl,_⟩<;>rfl
  apply Qh a;simp only[go_sem,Qa,Q,P];obtain⟨H,L⟩:∃H,H=h++(t++[QR .i64 0 [],Nr d (h.length+t.length) .nil]):=⟨_,rfl⟩;have N0:jR h H l 0 (h.length+(t.length+1)) d (h.length+t.length) .nil 0 [] []:=by
   rw[<- Wu]at L;subst L;refine⟨((VE.refl h).app t).app _,?_,?_,Z.step λj f h1=>⟨h1,QJ f⟩,.inl ⟨rfl,rfl⟩,ω,ω,qi.nil l,λj f=>absurd f (Xc j)⟩
   .rw[show h.length+(t.length+1)=(h++t).length+1 by simp;omega];exact Wm (k:=1) rfl
   .rw[<- QcZ .i64,show h.length+t.length=(h++t).length by simp];exact Vq rfl
  simp only[go_sem]at L;rw[<- L];obtain⟨p,hp⟩:∃p,p=h.length+(t.length+1):=⟨_,rfl⟩;rw[<- hp]at N0 ⊢;clear L;refine Js (λk s=>∃H W T Y c M m,jR h H l k p W T Y c M m/\s=⟨[(4,.ptr p 0 0 0),(17,GC l),(18,Qb l.length),(19,Qb k)],H⟩) l.length QQ ⟨H,_,_,_,_,_,_,N0,rfl⟩ ?_;clear N0 Z Q P O H hp d t;rintro k _ hk ⟨H,W,T,Y,c,M,m,N,rfl⟩;by_cases u:k<l.length
  .have I:=Q1 u;obtain⟨r,i⟩:∃r,r=JX l k:=⟨_,rfl⟩;have J4:l.getD k default=r:=i.symm;have Xj:r∈l:=by rw[i];exact zR l default k u
   have J:=Vl (show k<4611686018427387904 from ω);have n:=N.o;have x:=Qc n;have V:=N.eo;have ZS:=Qc V;have h4:=N.I.four;have F:=QB2 r;have B:AB r=false->zz l=1:=λa=>by
    unfold zz;rw[Qe If,Qe];intro KI;have:=jo.1 KI r Xj;rw[a]at this;cases this
   have U:=QkL r.Mg r.Mh r.Mi r.FO r.Bo r.Bp r.FN r.DW;by_cases c1:r.cls<1
   .have d1:=Q1 c1;rw[B (by unfold AB;rw[QU (show ¬1<=r.cls from ω)];rfl)];apply Qh a;simp only[go_sem,Qa,I,u,J4];apply QB a o04;simp only[go_sem,Qa,d1,Go.undef];exact N.ex.app _
   have d1:=QU c1;by_cases c2:65536<r.cls
   .have d2:=Q1 c2;rw[B (by unfold AB;rw[QU (show ¬r.cls<=65536 from ω),Bool.and_false];rfl)];apply Qh a;simp only[go_sem,Qa,I,u,J4];apply QB a o04;simp only[go_sem,Qa,d1,d2,Go.undef];exact N.ex.app _
   have d2:=QU c2;cases Bi:aJ r.want r.mask==r.want with
   | false=>
    rw[B (by unfold AB;rw[Bi,Bool.and_false])];rw[Bi]at F;apply Qh a;simp only[go_sem,Qa,I,u,J4];apply QB a o04;simp only[go_sem,Qa,d1,d2,Go.undef];refine KJ a pS ?_ U ?_
    .simp only[go_sem,Qa,d1,d2,<- F]
    apply Zd a;simp only[go_sem,Qa,d1,d2,<- F];exact N.ex.app _
   | true=>
    rw[Bi]at F;have Ji:∀j,j<k+1->AB (JX l j)=true:=λj f=>by
     rcases AR.1 f with h5|rfl
     .exact N.ok j h5
     .rw[<- i];unfold AB;rw[Bi,Q1 (show 1<=r.cls from ω),Q1 (show r.cls<=65536 from ω)];rfl
    obtain⟨q,hq⟩:∃q,q=Xt M r.want:=⟨_,rfl⟩;have S:=hq;simp only[Ke.want]at S;have K:zB r=(r.Bo==65535&&(r.Bp==65535&&(r.FN==65535&&r.DW==65535))):=rfl;obtain⟨b,y⟩:∃b,b=zB r:=⟨_,rfl⟩;rw[<- y]at K;apply Qh a;simp only[go_sem,Qa,I,u,J4];apply QB a o04;simp only[go_sem,Qa,d1,d2,Go.undef];refine KJ a pS ?_ U ?_
    .simp only[go_sem,Qa,d1,d2,<- F]
    apply Zd a;simp only[go_sem,Qa,d1,d2,<- F];cases q with
    | none=>
     apply QB a [0,1,2,3,4,5,6,7,8,9,10,11];simp only[go_sem,Qa,n,x,V,ZS,<- S];refine⟨h4,?_⟩;apply QB a [0,1,1002,3,4];simp only[go_sem,Qa];refine KJ a Qfr ?_ QkK ?_
     .simp only[go_sem,Qa,<- K]
     apply Zd a;simp only[go_sem,Qa,<- K];cases b with
     | false=>
      rcases N.mo with ⟨rfl,rfl⟩|⟨lm,gm,a0,rfl,vU,v,zf⟩
      .have o:=N.Bo (by rw[<- i,<- y]) Ji ⟨.one,0,9,1,λ_=>r.cells⟩;simp only[go_sem,Qa,n,x];refine⟨u,_,QH.frame (fr':=[(4,.ptr p 0 0 0),(17,GC l),(18,Qb l.length),(19,Qb (k+1:Nat))]) (by simp only[go_sem,J]),_,_,_,_,_,_,_,o,rfl⟩
      .have o:=N.Bp vU v zf (by rw[<- i,<- y]) Ji ⟨.one,0,9,1,λ_=>r.cells⟩ ⟨.arr,0,1,1,λ_=>[Qb k]⟩;have QO:=Qc v;have F5:lm≠p:=AF v n (.inl nofun);have E:m.length<=4294967295:=by
        have:=inc_le m k 0 N.I.inc λj f=>⟨Z9 j,((N.I.mem j).1 f).1⟩;omega
       have C:m.length+1<=4294967295:=by
        have:=inc_le m k 0 N.I.inc λj f=>⟨Z9 j,((N.I.mem j).1 f).1⟩;omega
       simp only[go_sem,Qa,n,x,v,QO,Qm F5,E,C];repeat (refine And.intro η ?_)
       refine⟨_,QH.frame (fr':=[(4,.ptr p 0 0 0),(17,GC l),(18,Qb l.length),(19,Qb (k+1:Nat))]) (by simp only[go_sem,J]),_,_,_,_,_,_,_,o,rfl⟩
     | true=>
      simp only[go_sem,Qa,n,x];apply QB a ut;simp only[go_sem,Qa,n,x,V,ZS,<- S];have o:=N.new (by rw[<- i,<- y]) (by rw[<- i];exact hq.symm) Ji ⟨.one,0,9,1,λ_=>r.cells⟩;rw[<- i]at o;refine⟨h4,u,_,QH.frame (fr':=[(4,.ptr p 0 0 0),(17,GC l),(18,Qb l.length),(19,Qb (k+1:Nat))]) (by simp only[go_sem,J]),_,_,_,_,_,_,_,o,rfl⟩
    | some d=>
     apply QB a [0,1,2,3,4,5,6,7,8,9,10,11];simp only[go_sem,Qa,n,x,V,ZS,<- S];refine⟨h4,?_⟩;apply QB a [0,1,1002,3,4];simp only[go_sem,Qa];refine KJ a Qfr ?_ QkK ?_
     .simp only[go_sem,Qa,<- K]
     apply Zd a;simp only[go_sem,Qa,<- K];cases b with
     | false=>
      rcases N.mo with ⟨rfl,rfl⟩|⟨lm,gm,a0,rfl,vU,v,zf⟩
      .have o:=N.Bo (by rw[<- i,<- y]) Ji ⟨.one,0,9,1,λ_=>r.cells⟩;simp only[go_sem,Qa,n,x];refine⟨u,_,QH.frame (fr':=[(4,.ptr p 0 0 0),(17,GC l),(18,Qb l.length),(19,Qb (k+1:Nat))]) (by simp only[go_sem,J]),_,_,_,_,_,_,_,o,rfl⟩
      .have o:=N.Bp vU v zf (by rw[<- i,<- y]) Ji ⟨.one,0,9,1,λ_=>r.cells⟩ ⟨.arr,0,1,1,λ_=>[Qb k]⟩;have QO:=Qc v;have F5:lm≠p:=AF v n (.inl nofun);have E:m.length<=4294967295:=by
        have:=inc_le m k 0 N.I.inc λj f=>⟨Z9 j,((N.I.mem j).1 f).1⟩;omega
       have C:m.length+1<=4294967295:=by
        have:=inc_le m k 0 N.I.inc λj f=>⟨Z9 j,((N.I.mem j).1 f).1⟩;omega
       simp only[go_sem,Qa,n,x,v,QO,Qm F5,E,C];repeat (refine And.intro η ?_)
       refine⟨_,QH.frame (fr':=[(4,.ptr p 0 0 0),(17,GC l),(18,Qb l.length),(19,Qb (k+1:Nat))]) (by simp only[go_sem,J]),_,_,_,_,_,_,_,o,rfl⟩
     | true=>
      simp only[go_sem,Qa,n,x];have z:=N.app [⟨.one,0,9,1,λ_=>r.cells⟩];have o:jR h (H++[⟨.one,0,9,1,λ_=>r.cells⟩]) l (k+1) p W T Y c M m:=⟨z.ex,z.o,z.eo,z.rs,z.mo,z.hp,z.he,N.I.there (by rw[<- i,<- y]) (by rw[<- i,<- hq];rfl),Ji⟩;refine⟨u,_,QH.frame (fr':=[(4,.ptr p 0 0 0),(17,GC l),(18,Qb l.length),(19,Qb (k+1:Nat))]) (by simp only[go_sem,J]),_,_,_,_,_,_,_,o,rfl⟩
  .have Jt:k=l.length:=ω;have I:=QU u;subst Jt;have O:zz l=0:=by
    unfold zz;rw[Qe If,Qf];rw[jo];intro r i;obtain⟨j,f,e⟩:=AQ i;have:=N.ok j f;unfold JX at this;rw[Q7,QT f]at this;rw[<- e];exact this
   apply Qh a;simp only[go_sem,Qa,I];apply QM a;obtain⟨g,rfl⟩:=N.ex;refine⟨g,rfl,λ_=>⟨p,rfl,W,T,Y,c,M,m,N.o,N.eo,N.rs,N.mo,N.hp,N.he,N.I,O⟩,λh=>absurd O h⟩
@[go_sem] def BW(d:D):Ob:=⟨.one,0,1,1,λ_=>[d]⟩
structure jh (n:Nat) (own:Nat->Tag) (tw:Nat->TT) (h:List Ob) (bp bo op:Nat) (L:List Ev):Prop where
 hp:h[bp]? = some (BW (Qb op))
 ho:∃d,h[bo]? = some (BW d)/\jQ (λl=>n<=l/\own l=.no/\tw l=.no/\l≠bp/\l≠bo) h 12 Ev.cells d L
 np:n<=bp
 no:n<=bo
 op:own bp=.no
 oo:own bo=.no
 tp:tw bp=.no
 to:tw bo=.no
 ne:bp≠bo
def jh.AH{n}{i g}{o u}{h r:List Ob}{s t p}{L}(E:jh n i o h s t p L)(D:JK h.length i o h g u r):jh n g u r s t p L:=by
 obtain⟨d,q,v⟩:=E.ho;have k:=Qc E.hp;have l:=Qc q;exact⟨(D.keep _ k E.op E.tp).trans E.hp,⟨d,(D.keep _ l E.oo E.to).trans q,v.step λj m ⟨a,b,c,e,f⟩=>⟨⟨a,(D.s1 j m).trans b,(D.s2 j m).trans c,e,f⟩,D.keep j m b c⟩⟩,E.np,E.no,(D.s1 _ k).trans E.op,(D.s1 _ l).trans E.oo,(D.s2 _ k).trans E.tp,(D.s2 _ l).trans E.to,E.ne⟩
def JK.YQ{m n}{b a}{c e}{h d}(f:m<=n)(D:JK n b c h a e d):JK m b c h a e d:=⟨D.s1,D.s2,λl g=>D.keep l (wy g f),D.my,D.len⟩
def QB3{n}{a}{c}{h i:List Ob}{m d}(r:n<=m)(q:a m=.no)(p:c m=.no)(b:d<h.length->n<=d/\a d=.no/\c d=.no)(s:n<=h.length)(o:h.length<=i.length)
  (k:∀j,j<h.length->j≠m->j≠d->i[j]? = h[j]?):JK n a c h (QY a h .no) (Jn c h .no) i/\mA a c h (QY a h .no) (Jn c h .no) i:=by
 refine⟨⟨λl b=>Kz b,λl b=>VA b,λl t _ _=>k l ω ω λe=>?_,λl Qc g=>k l Qc (λe=>by rw[e,p]at g;cases g) λe=>?_,o⟩,λl Qc=>⟨λf=>⟨Kz Qc,k l Qc (λe=>f.1 (by rw[e,q])) λe=>?_⟩,λf _=>⟨VA Qc,k l Qc (λe=>f (by rw[e,p])) λe=>?_⟩⟩⟩
 .have:=(b ω).1;omega
 .rw[e,(b ω).2.2]at g;cases g
 .exact f.1 (by rw[e];exact(b ω).2.1)
 .exact f (by rw[e];exact(b ω).2.2)
def mH{a}{b}{h}(e:∀l,b l≠.no->a l=.no):∀l,Jn b h .no l≠.no->QY a h .no l=.no:=λl c=>by
 by_cases d:l<h.length
 .rw[VA d]at c;rw[Kz d];exact e l c
 .exact wj ω
def QkR{n}{a}{f}{h:List Ob}{s p c}{L:List Ev}(E:jh n a f h s p c L)(V:n<=h.length)(hL:L.length<1000000000)(e:Ev):
  QI prog 29 h [.agg e.cells,.ptr s 0 0 0,.ptr p 0 0 0] (λd m=>d=.tup []/\jh n (QY a h .no) (Jn f h .no) m s p c (L++[{ e with op:=c }])/\JK n a f h (QY a h .no) (Jn f h .no) m/\mA a f h (QY a h .no) (Jn f h .no) m):=by
 have q:=E.hp;obtain⟨d,v,W⟩:=E.ho;have t:=E.ne;have C:=Qc q;have r:=Qc v;have b:∀(m:List Ob) (H:D) (o:Nat),m[s]? = some (BW (Qb c))->m[p]? = some (BW H)->jQ (λl=>n<=l/\QY a h .no l=.no/\Jn f h .no l=.no/\l≠s/\l≠p) m 12 Ev.cells H (L++[{ e with op:=c }])->(o<h.length->n<=o/\a o=.no/\f o=.no)->h.length<=m.length ->
   (∀j,j<h.length->j≠p->j≠o->m[j]? = h[j]?)->jh n (QY a h .no) (Jn f h .no) m s p c (L++[{ e with op:=c }])/\JK n a f h (QY a h .no) (Jn f h .no) m/\mA a f h (QY a h .no) (Jn f h .no) m:=λm H o a1 a2 a3 a4 a5 a6=>
  ⟨⟨a1,⟨H,a2,a3⟩,E.np,E.no,(Kz C).trans E.op,(Kz r).trans E.oo,(VA C).trans E.tp,(VA r).trans E.to,E.ne⟩,QB3 E.no E.oo E.to a4 V a5 a6⟩
 rcases W with ⟨rfl,rfl⟩|⟨o,g,x,rfl,⟨R,Q,P,I,B⟩,J,U⟩
 .have b:=b (h.set p (BW (.ref (h.length+2) 0 0 1))++[⟨.one,0,12,1,λ_=>({ e with op:=c }:Ev).cells⟩,⟨.arr,0,12,1,λ_=>({ e with op:=c }:Ev).cells⟩,⟨.arr,0,12,1,λ_=>({ e with op:=c }:Ev).cells⟩]) (.ref (h.length+2) 0 0 1) h.length
   (by rw[QJ (by simpa using C),Qm t.symm];exact q) (by rw[QJ (by simpa using r),Qy r])
   (.inr ⟨h.length+2,0,λ_=>({ e with op:=c }:Ev).cells,rfl,⟨ω,wj ω,IM ω,ω,ω⟩,Wm (k:=2) σ,λi F=>by
    simp at F;subst F;rfl⟩) (λh=>absurd h (B6 _)) σ (λj K M S=>by rw[QJ (by simpa using K),Qm (Q8 M)])
  refine Q3 func29 ntmps29 results29 λy w T Y=>?_;have N:=Qc q;have O:=Qc v;simp only[go_sem,Qa,q,N,v,O,t,t.symm];simp only[go_sem]at b ⊢;exact b
 .have u:=Qc J;have aC:L.length<=4294967295:=ω;have Z:L.length+1<=4294967295:=ω;have b:=b ((h.set o ⟨.arr,g+1,12,L.length+1,KB L.length 0 x λ_=>({ e with op:=c }:Ev).cells⟩).set p (BW (.ref o (g+1) 0 (L.length+1)))++[⟨.one,0,12,1,λ_=>({ e with op:=c }:Ev).cells⟩,⟨.arr,0,12,1,λ_=>({ e with op:=c }:Ev).cells⟩]) (.ref o (g+1) 0 (L.length+1)) o
   (by rw[QJ (by simpa using C),Qm t.symm,Qm I];exact q) (by rw[QJ (by simpa using r),Qy (by simpa using r)])
   (.inr ⟨o,g+1,KB L.length 0 x λ_=>({ e with op:=c }:Ev).cells,σ,⟨R,(Kz u).trans Q,(VA u).trans P,I,B⟩,by rw[QJ (by simpa using u),Qm B.symm,Qy u];simp,λi F=>by
    simp at F;by_cases z:i<L.length
    .rw[A4 z,JM,U i z];simp[z,JY z]
    .have:i=L.length:=ω;subst this;rw[xM (Qs _)];simp⟩) (λ_=>⟨R,Q,P⟩) σ (λj K M S=>by rw[QJ (by simpa using K),Qm (Q8 M),Qm (Q8 S)])
  refine Q3 func29 ntmps29 results29 λy w T Y=>?_;have N:=Qc q;have O:=Qc v;have u:=Qc J;simp only[go_sem,Qa,q,N,v,O,J,u,t,t.symm,I,B,Qm B,aC,Z];simp only[go_sem]at b ⊢;repeat (refine And.intro η ?_)
  exact b
def QB4{l}{n}{h}{p}{S}(T:Wt l n h p S):Zf prog 84 h [.ptr p 0 0 0] (λd=>d=u64 (Zb S)):=by
 obtain⟨u,o,x,t,T⟩:=T;have g:=Jc T.o;obtain⟨a,b,c,i⟩:=T.ln;have i:=Jc i;obtain⟨L,C⟩:=T.co.ex;have k:=QjM C.ro T.co.I;have r:=λ(F:List Ob) (f:F=h.map Ob.ro)=>QBI (h:=F) (KV f _ _ i);have k:=λ(F:List Ob) (f:F=h.map Ob.ro)=>QjM (C.ro.more (KV f)) T.co.I;clear T C;unfold Zb;obtain⟨v,q⟩:∃v,v=Ve S.M:=⟨_,rfl⟩;rw[<- q]at k ⊢;refine ZD func84 ntmps84 results84 λm w o F f y e=>?_;rw[<- f]at g i;have j:=Qc g;have s:=Qc i;simp only[go_sem,Qa,g,j,i,s];apply QB e [0,1,2,3,4,5,6,7,9,10,11,12,1008,1013,1014,15];simp only[go_sem,Qa,g,j];apply WZ e QsW (r F f);apply Zd e;simp only[go_sem,Qa,g,j];apply WZ e QsX (k F f);apply Zd e;simp only[go_sem,Qa,g,j];apply Pa e QsV (QBQ S.Qd S.ZR v);apply Yx e;all_goals exact Wo
def QkS{n}{o}{x}{h:List Ob}{p}{S}(T:Wt o x h p S)(V:ZC S){bp bo s}{L:List Ev}(E:jh n o x h bp bo s L)(C:n<=h.length)(hL:L.length<100000000):
  QI prog 83 h [.ptr p 0 0 0,u64 S.Qd,.clo 29 0 [.ptr bp 0 0 0,.ptr bo 0 0 0]] (λd F=>d=.tup []/\∃r Jq,Wt r Jq F p (ZB S s S.Qd).1/\jh n r Jq F bp bo s (L++(ZB S s S.Qd).2)/\JK n o x h r Jq F):=by
 obtain⟨ps,lp,pr,pt,T⟩:=T;have z:=T.o;obtain⟨a,b,c,hl⟩:=T.ln;have Y:=Qa3 (Jc hl) S.Qd;by_cases hu:S.ZR<=S.Qd
 .have du:=Q1 hu;rw[du]at Y;refine Q3 func83 ntmps83 results83 λR w pl i=>?_;have J:=Qc z;simp only[go_sem,Qa,z,J];apply JD i fK Y;apply Qh i;simp only[go_sem,Qa,z,J];refine DX i QsS (QA9 T.co S.Qd) λd f y=>?_;obtain⟨rfl,P,C1,D1⟩:=y;have T1:=T.core D1 C1 (yA S.M S.Qd);have O:JK h.length o x h P (Jn x h .no) f:=JK.core T.ap (Qs _) D1;obtain⟨VO,a8⟩:∃t,t=Jn x h .no:=⟨_,rfl⟩;rw[<- a8]at T1 O;have E1:=E.AH O;have lP:=O.len;obtain⟨j,hj⟩:∃j,j=ZP S.M S.Qd:=⟨_,rfl⟩;obtain⟨k,Z⟩:∃k,k=Jd S.M S.Qd:=⟨_,rfl⟩;obtain⟨b,Yt⟩:∃b,b=V8 S.M S.Qd:=⟨_,rfl⟩;cases ht:V9 S.M S.Qd with
  | false=>
   have e:ZB S s S.Qd=({ S with M:=takeN S.M S.Qd },[]):=by unfold ZB;rw[Qe ω,Qe (by rw[ht];exact k9)]
   rw[e,<- hj,<- Z,<- Yt];apply QM i;have u:=T1.EM [⟨.one,0,8,1,λ_=>zw j k b⟩];have v:=JK.app (n:=f.length) P VO f [⟨.one,0,8,1,λ_=>zw j k b⟩] .my (Qs _);exact⟨_,_,⟨_,_,_,_,u⟩,E1.AH v,(O.YQ C).trans C (v.YQ ω)⟩
  | true=>
   have m:=V.take_len ht;have qZ:=II V.K m;rw[<- Z]at m qZ;have vU:=V.K.l2;have Z1:=V.cl;obtain⟨done,Q⟩:∃d,d=S.Qd+VN S.M.lk k.len:=⟨_,rfl⟩;have e:ZB S s S.Qd=({ S with M:=takeN S.M S.Qd,ZR:=done,st:=qL S.st j done k.len b },[AD s b S.Qd done j k]):=by
    unfold ZB;rw[Qe ω,Qf ht,<- Z,<- Q,<- hj,<- Yt]
   rw[e,<- hj,<- Z,<- Yt];have u:=T1.EM [⟨.one,0,8,1,λ_=>zw j k b⟩];have v:=O.trans (Qs _) ((JK.app (n:=f.length) P VO f [⟨.one,0,8,1,λ_=>zw j k b⟩] .my (Qs _)).YQ lP);have E2:=E.AH v;have H:(f++[(⟨.one,0,8,1,λ_=>zw j k b⟩:Ob)])[f.length]? = some ⟨.one,0,8,1,λ_=>zw j k b⟩:=Vq rfl;have n2:QY P f .no f.length=.no:=wj (Qs _);have m2:Jn VO f .my f.length=.my:=IM (Qs _);apply QM i;obtain⟨q,RF⟩:∃q,q=f++[(⟨.one,0,8,1,λ_=>zw j k b⟩:Ob)]:=⟨_,rfl⟩;rw[<- RF]at u v E2 H;simp only[go_sem,zw]at RF;rw[<- RF];clear RF;generalize QY P f .no=J9 at u v E2 n2;generalize Jn VO f .my=XF at u v E2 m2;have Vg:=u.o;have ja:=Qc Vg;have U:=Qc H;obtain⟨a2,b2,c2,J7⟩:=u.ln;have Xn:(takeN S.M S.Qd).lk=S.M.lk:=yA S.M S.Qd;have W:=QBM q J7 (by show 1<=(takeN S.M S.Qd).lk.t;rw[Xn];exact V.K.t1) (by show (takeN S.M S.Qd).lk.t<=65536;rw[Xn];exact V.K.t2) Z1 hu k ⟨m.1,ω⟩;have a7:S.Qd+k.len.toNat*(takeN S.M S.Qd).lk.t.toNat=done:=by rw[Xn,Q];rfl
   have W:QI prog 127 q [.ptr lp 0 0 0,u64 S.Qd,.agg k.cells] (λd F=>d=.tup [u64 done,Qb 0]/\∃a' b' c' g,F=q.set lp (jP a' b' c' (takeN S.M S.Qd).lk.t done)++g):=by
    rw[<- a7];exact W
   simp only[go_sem,zw]at H;apply VD [7] i [0,1,2,3,4,5,6,1007,8,9,10,11,12] [];simp only[go_sem,Qa,Vg,ja,H,U];refine wV i QsT W λd B y=>?_;obtain⟨rfl,a3,b3,c3,g3,aR⟩:=y;have a0:=u.tl;have s3:Step (λl=>XF l=.ln) q B:=by
    rw[aR];exact⟨λl hl QE=>by rw[QJ (by simpa using hl),Qm (λe=>QE (by rw[<- e];exact a0))],σ⟩
   have Eg:B[lp]? = some (jP a3 b3 c3 (takeN S.M S.Qd).lk.t done):=by rw[aR,QJ (by simpa using Qc J7),Qy (Qc J7)]
   have I:=u.link s3 Eg;have N:=v.trans (Qs _) ((JK.part (n:=q.length) (own:=J9) (t:=.ln) ⟨σ,σ⟩ (Qs _) s3).YQ v.len);have E3:=E.AH N;have zq:B[f.length]? = some _:=(s3.keep _ U (by rw[m2];simp)).trans H;have n3:QY J9 q .no f.length=.no:=(Kz U).trans n2;have m3:Jn XF q .ln f.length=.my:=(VA U).trans m2;clear aR W;generalize QY J9 q .no=BL at I N E3 n3;generalize Jn XF q .ln=mK at I N E3 m3;have XD:=I.o;have jH:=Qc XD;have De:=Qc zq;apply Yx i;have a6:=QBU I.st j (done:=done) ω (bytes:=k.len) m.1 ω b;apply VD [12] i [0,1,2,3,4,5,6,7,8,9,10,11,1012] [];simp only[go_sem,Qa,XD,jH,zq,De];refine wV i QsU a6 λd h4 y=>?_;obtain⟨s4,a4⟩:=y;have T4:=I.stat s4 a4;have K:=N.trans (Qs _) ((JK.part (n:=B.length) (own:=BL) (t:=.st) ⟨σ,σ⟩ (Qs _) s4).YQ N.len);have E4:=E.AH K;have BE:h4[f.length]? = some _:=(s4.keep _ De (by rw[m3];simp)).trans zq;generalize QY BL B .no=EE at T4 K E4;generalize Jn mK B .st=IQ at T4 K E4;have a5:=Qc BE;apply Zd i;simp only[go_sem,Qa,BE,a5];have aF:n<=h4.length:=JL C K.len;refine VY i Qfn rfl ?_ (QkR E4 aF ω (AD 0 b S.Qd done j k)) rfl λd h5 y=>?_
   .simp only[go_sem,AD]
   obtain⟨rfl,E5,K5,a1⟩:=y;have T5:=T4.step a1 (mH T4.ap);have wF:({ AD 0 b S.Qd done j k with op:=(s:Int) }:Ev)=AD s b S.Qd done j k:=rfl;rw[wF]at E5;apply QM i;exact⟨_,_,⟨_,_,_,_,T5⟩,E5,(K.YQ C).trans C K5⟩
 .have du:=QU hu;rw[du]at Y;have e:ZB S s S.Qd=(S,[]):=by unfold ZB;rw[Qf ω]
  rw[e];refine Q3 func83 ntmps83 results83 λR w pl i=>?_;have J:=Qc z;simp only[go_sem,Qa,z,J];apply JD i fK Y;apply Qh i;simp only[go_sem,Qa,z,J];exact⟨o,x,⟨_,_,_,_,T⟩,E,JK.refl n o x h⟩
@[go_sem] def wi.cells(r:wi):List D:=[Qb r.err,Qb r.place,Qb r.cls]
def jh.loc{n}{a}{f}{h:List Ob}{b c i}{L}(E:jh n a f h b c i L){l}{j:Ob}(p:h[l]? = some j)(q:j.kd≠.arr)(s:l≠b)(r:l≠c)(o):jh n a f (h.set l o) b c i L:=by
 obtain⟨d,x,w⟩:=E.ho;exact⟨by rw[Qm s];exact E.hp,⟨d,by rw[Qm r];exact x,w.imp id λ⟨m,g,e,v,u,k,t⟩=>⟨m,g,e,v,u,by rw[Qm (AF p k (.inl q))];exact k,t⟩⟩,E.np,E.no,E.op,E.oo,E.tp,E.to,E.ne⟩
def JK.Ey{n}{b a}{e f}{h H:List Ob}(D:JK n b e h a f H){l}(k:n<=l)(i:h.length<=l)(o):JK n b e h a f (H.set l o):=⟨D.s1,D.s2,λj d c g=>by rw[Qm ω];exact D.keep j d c g,λj d c=>by rw[Qm ω];exact D.my j d c,by simpa using D.len⟩
def QCb{n}{g}{O}{h:List Ob}{p}{S:Zj}(T:Wt g O h p S)(V:ZC S){bp bo f}{L:List Ev}(E:jh n g O h bp bo f L)(C:n<=h.length)(hL:L.length<10000000)(mF:∀k,(S.st.Jp k).length<1000000)(x)(hx:aM x):
  QI prog 32 h [.ptr p 0 0 0,.agg x.cells,.clo 29 0 [.ptr bp 0 0 0,.ptr bo 0 0 0]] (λd h'=>d=.agg (qh S f x).r.cells/\∃q Jq,Wt q Jq h' p (qh S f x).S/\jh n q Jq h' bp bo f (L++(qh S f x).l)/\JK n g O h q Jq h'):=by
 obtain⟨ps,lp,pr,pt,T⟩:=T;have Z1:=V.cl;have s:=T.EM [⟨.one,0,6,1,λ_=>x.cells⟩,⟨.one,0,3,1,λ_=>[Qb 0,Qb 0,Qb 0]⟩];have J:=JK.app (n:=h.length) g O h [⟨.one,0,6,1,λ_=>x.cells⟩,⟨.one,0,3,1,λ_=>[Qb 0,Qb 0,Qb 0]⟩] .my (Qs _);have E1:=E.AH J;have l:(h++[(⟨.one,0,6,1,λ_=>x.cells⟩:Ob),⟨.one,0,3,1,λ_=>[Qb 0,Qb 0,Qb 0]⟩])[h.length]? = some ⟨.one,0,6,1,λ_=>x.cells⟩:=Vq rfl;have y:(h++[(⟨.one,0,6,1,λ_=>x.cells⟩:Ob),⟨.one,0,3,1,λ_=>[Qb 0,Qb 0,Qb 0]⟩])[h.length+1]? = some ⟨.one,0,3,1,λ_=>[Qb 0,Qb 0,Qb 0]⟩:=Wm (k:=1) rfl;have Q:∀i,h.length<=i->QY g h .no i=.no:=λi hi=>wj hi;have m1:∀i,h.length<=i->Jn O h .my i=.my:=λi hi=>IM hi;have lP:h.length+2=(h++[(⟨.one,0,6,1,λ_=>x.cells⟩:Ob),⟨.one,0,3,1,λ_=>[Qb 0,Qb 0,Qb 0]⟩]).length:=σ;refine Q3 func32 ntmps32 results32 λb1 w pl b=>?_;simp only[go_sem,Qa];obtain⟨j,Dj⟩:∃j,j=h++[(⟨.one,0,6,1,λ_=>x.cells⟩:Ob),⟨.one,0,3,1,λ_=>[Qb 0,Qb 0,Qb 0]⟩]:=⟨_,rfl⟩;rw[<- Dj]at s J E1 l y lP;simp only[go_sem]at Dj;rw[<- Dj];clear Dj;generalize QY g h .no=JF at s J E1 Q;generalize Jn O h .my=U at s J E1 m1;have v:=s.o;have I:=Qc v;have r:=Qc l;have m:=Qc y;obtain⟨dr,le,dm,cc,es,ms,Tb⟩:=s.tb;have F:=QBW Tb.toR x hx;obtain⟨a,B⟩:∃c,c=Kj S.R (ZZ x):=⟨_,rfl⟩;rw[<- B]at F;by_cases R:a=0
 .have e:qh S f x=⟨S,⟨31,0,0⟩,[]⟩:=by unfold qh;rw[Qf (by rw[<- B];exact R)]
  rw[e];rw[Qf R,R]at F;simp only[go_sem]at l;apply QB b [0,1,2,3,4,5,1006,7,8,9,10,11];simp only[go_sem,Qa,v,I,l,r];refine qz b Qft ?_ F ?_
  .simp only[go_sem,Qa,v,I,l,r,y,m,Qy m]
  apply Zd b;simp only[go_sem,Qa,v,I,l,r,y,m,Qy m];exact⟨JF,U,⟨_,_,_,_,s.loc (Q _ ω) (.inr (m1 _ ω)) _⟩,E1.loc y nofun (by have:=Qc E.hp;omega) (by obtain⟨d,j,_⟩:=E.ho;have:=Qc j;omega) _,(J.YQ C).Ey ω ω _⟩
 .have nb:h.length+1≠bp/\h.length+1≠bo:=by
   obtain⟨d,j,_⟩:=E.ho;have:=Qc j;have:=Qc E.hp;omega
  rw[Qe R]at F;have P:=QA8 s.co S.Qd ω a x;simp only[go_sem]at l;obtain⟨t,mL⟩:∃e,e=Yp S.M S.Qd a x:=⟨_,rfl⟩;rw[<- mL]at P;apply QB b [0,1,2,3,4,5,1006,7,8,9,10,11];simp only[go_sem,Qa,v,I,l,r];refine qz b Qft ?_ F ?_
  .simp only[go_sem,Qa,v,I,l,r,y,m,Qy m]
  apply Zd b;simp only[go_sem,Qa,v,I,l,r,y,m,Qy m];apply VD [10] b [0,1,2,3,4,5,6,7,8,9,1010,11] [];simp only[go_sem,Qa,v,I,l,r];refine wV b Qsz P λd o H=>?_;obtain⟨rfl,z,C2,W⟩:=H;have T2:=s.core W C2 (BV S.M S.Qd a x);have a4:JK j.length JF U j z (Jn U j .no) o:=JK.core s.ap (Qs _) W;have K2:=J.trans (Qs _) (a4.YQ J.len);have E2:=E1.AH a4;have VJ:o[h.length]? = some _:=(W.keep _ r (Q _ (Qs _))).trans l;have J4:o[h.length+1]? = some _:=(W.keep _ m (Q _ ω)).trans y;have n2:z (h.length+1)=.no:=(W.same _ m).trans (Q _ ω);have b2:z h.length=.no:=(W.same _ r).trans (Q _ ω);have m2:Jn U j .no (h.length+1)=.my:=(VA m).trans (m1 _ ω);have a0:Jn U j .no h.length=.my:=(VA r).trans (m1 _ ω);generalize Jn U j .no=Z at T2 K2 E2 m2 a0;have Vg:=T2.o;have ja:=Qc Vg;have a2:=Qc VJ;have Y:=Qc J4;apply Zd b;simp only[go_sem,Qa,Vg,ja,VJ,a2];by_cases he:t=0
  .have P8:(t != 0)=false:=by simpa using he
   have a7:ZC { S with M:=Zr S.M S.Qd a x,st:=wh S.st a S.Qd }:=(V.put a x).Jp a S.Qd (by show S.Qd<_;omega);have e:qh S f x=⟨(ZB { S with M:=Zr S.M S.Qd a x,st:=wh S.st a S.Qd } f S.Qd).1,⟨0,0,a⟩,Vz f S.Qd a x::(ZB { S with M:=Zr S.M S.Qd a x,st:=wh S.st a S.Qd } f S.Qd).2⟩:=by
    unfold qh;rw[Qe (by rw[<- B];exact R),Qf (by rw[<- B,<- mL];exact he),<- B]
   rw[e];have b0:=QBS T2.st a S.Qd (mF a);simp only[go_sem,Qa,P8];apply VD [9] b [0,1,2,3,4,5,6,7,8,1009] [];simp only[go_sem,Qa,Vg,ja];refine wV b QsA b0 λd u H=>?_;obtain⟨rfl,s3,a6⟩:=H;have T3:=T2.stat s3 a6;have a3:JK o.length z Z o (QY z o .no) (Jn Z o .st) u:=JK.part ⟨σ,σ⟩ (Qs _) s3;have K3:=K2.trans (Qs _) (a3.YQ K2.len);have E3:=E2.AH a3;have MH:u[h.length]? = some _:=(s3.keep _ a2 (by rw[a0];simp)).trans VJ;have An:u[h.length+1]? = some _:=(s3.keep _ Y (by rw[m2];simp)).trans J4;have n3:QY z o .no (h.length+1)=.no:=(Kz Y).trans n2;have m3:Jn Z o .st (h.length+1)=.my:=(VA Y).trans m2;generalize QY z o .no=BL at T3 K3 E3 n3;generalize Jn Z o .st=mK at T3 K3 E3 m3;have XD:=T3.o;have jH:=Qc XD;have a9:=Qc MH;have Nt:=Qc An;have Bv:n<=u.length:=JL C K3.len;apply Yx b;apply VD [8] b [0,1,2,3,4,5,6,7,1008] [];simp only[go_sem,Qa,XD,jH,MH,a9];refine y6 b Qfn rfl ?_ (QkR E3 Bv ω (Vz 0 S.Qd a x)) rfl λd h4 H=>?_
   .simp only[go_sem,Vz]
   obtain⟨rfl,E4,mM,a5⟩:=H;have T4:=T3.step a5 (mH T3.ap);have K4:=(K3.YQ C).trans C mM;have PL:h4[h.length+1]? = some _:=(mM.my _ Nt m3).trans An;have n4:QY BL u .no (h.length+1)=.no:=(Kz Nt).trans n3;have m4:Jn mK u .no (h.length+1)=.my:=(VA Nt).trans m3;have wF:({ Vz 0 S.Qd a x with op:=(f:Int) }:Ev)=Vz f S.Qd a x:=rfl;rw[wF]at E4;generalize QY BL u .no=EE at T4 E4 K4 mM n4;generalize Jn mK u .no=IQ at T4 E4 K4 mM m4;have Iu:=T4.o;have Ra:=Qc Iu;have N:=Qc PL;have aF:n<=h4.length:=JL C K4.len;apply Zd b;simp only[go_sem,Qa,Iu,Ra];have a8:=QkS (T:=⟨_,_,_,_,T4⟩) a7 E4 aF ξ;refine JO b Qfu a8 λd h5 H=>?_;obtain⟨rfl,Ar,mN,⟨_,_,_,_,T5⟩,E5,K5⟩:=H;have K:h5[h.length+1]? = some _:=(K5.my _ N m4).trans PL;have n5:=(K5.s1 _ N).trans n4;have m5:=(K5.s2 _ N).trans m4;have a1:=Qc K;rw[Wu]at E5;apply Qh b;simp only[go_sem,Qa,K,a1,Qy a1];exact⟨Ar,mN,⟨_,_,_,_,T5.loc n5 (.inr m5) _⟩,E5.loc K nofun nb.1 nb.2 _,(K4.trans C K5).Ey ω ω _⟩
  .have e:qh S f x=⟨{ S with M:=Zr S.M S.Qd a x },⟨t,0,a⟩,[]⟩:=by unfold qh;rw[Qe (by rw[<- B];exact R),Qe (by rw[<- B,<- mL];exact he),<- B,<- mL]
   have P8:(t != 0)=true:=by simpa using he
   rw[e];simp only[go_sem,Qa,P8,J4,Y,Qy Y];exact⟨z,Z,⟨_,_,_,_,T2.loc n2 (.inr m2) _⟩,E2.loc J4 nofun nb.1 nb.2 _,(K2.YQ C).Ey ω ω _⟩
def jN.q64{a}{h}{p}{M}(C:jN a h p M)(j:Int):(QW M j).length<=64:=by
 unfold QW Qv;cases b:Qj M.N j with
 | none=>exact Z9 _
 | some n=>
  show n.q.l.length<=64;cases d:n.c.leaf with
  | true=>
   obtain⟨L,c⟩:=C.ex;obtain⟨k,e,r,Q⟩:=c.XB j n b d;have:=Q.ring.tt;omega
  | false=>rw[C.V.BS j n b d];exact Z9 _
def Qbi(f:Qq->Nat)(b):∀l:List Qq,(∀c∈l,f c<=b)->(l.map f).sum<=l.length*b
 | [],_=>σ
 | c::l,h=>by
  have g:=h c σ;have e:=Qbi f b l λd a=>h d (by simp[a]);simp only[Jo,vj,VQ,Kh,Ll];omega
def jN.mO{a}{h}{p}{M}(C:jN a h p M):Vy M<=4096:=by
 have e:=Qbi (λc=>(QW M c.iD).length) 64 M.T λc _=>C.q64 c.iD;have b:=C.I.tree.len;unfold Vy;have d:M.T.length*64<=64*64:=Vm 64 b;omega
def aS(S:Zj)(b a:Nat):(ZB S b a).2.length<=1:=by
 unfold ZB;split
 .exact Z9 _
 .split
  .exact Qs _
  .exact Z9 _
def JK.Qbj{n}{c a}{d k}{h H:List Ob}(D:JK n c d h a k H){p}(i:d p=.sys)(o):JK n c d h a k (H.set p o):=
 ⟨D.s1,D.s2,λj g b f=>by rw[Qm (λe=>by rw[<- e,i]at f;cases f)];exact D.keep j g b f,λj g b=>by rw[Qm (λe=>by rw[<- e,i]at b;cases b)];exact D.my j g b,by simpa using D.len⟩
structure QkZ (n:Nat) (own:Nat->Tag) (tw:Nat->TT) (h:List Ob) (p:Nat) (S:Zj) (bp bo op e:Nat) (L:List Ev) (r k:Nat) (own':Nat->Tag) (Jq:Nat->TT) (H:List Ob) (S':Zj) (L':List Ev):Prop where
 T:Wt own' Jq H p S'
 V:ZC S'
 E:jh n own' Jq H bp bo op (L++L')
 K:JK n own tw h own' Jq H
 hr:H[r]? = some ⟨.one,0,3,1,λ_=>[Qb 0,Qb 0,Qb 0]⟩
 nr:own' r=.no
 mr:Jq r=.my
 hk:Vy S'.M+k=Vy S.M
 cl:S'.Qd<=e
 go:Vf op e (Vy S.M+1) S=((Vf op e (Vy S'.M+1) S').1,L'++(Vf op e (Vy S'.M+1) S').2)
 ln:L'.length<=k
def QCi{n}{c}{g}{h:List Ob}{p}{S}(T:Wt c g h p S)(V:ZC S){j l b}{L:List Ev}(E:jh n c g h j l b L)(z:n<=h.length)(hL:L.length<10000000)(i)(qZ:i<18446744073709551616):
  QI prog 33 h [.ptr p 0 0 0,u64 i,.clo 29 0 [.ptr j 0 0 0,.ptr l 0 0 0]] (λd h'=>d=.agg (zA S b i).r.cells/\∃f C,Wt f C h' p (zA S b i).S/\jh n f C h' j l b (L++(zA S b i).l)/\JK n c g h f C h'):=by
 obtain⟨ps,lp,pr,pt,T⟩:=T;have Z1:=V.cl;have nb:h.length≠j/\h.length≠l:=by
  obtain⟨d,m,_⟩:=E.ho;have:=Qc m;have:=Qc E.hp;omega
 have T1:=T.EM [⟨.one,0,3,1,λ_=>[Qb 0,Qb 0,Qb 0]⟩];have K1:=JK.app (n:=h.length) c g h [⟨.one,0,3,1,λ_=>[Qb 0,Qb 0,Qb 0]⟩] .my (Qs _);have E1:=E.AH K1;have WS:(h++[(⟨.one,0,3,1,λ_=>[Qb 0,Qb 0,Qb 0]⟩:Ob)])[h.length]? = some ⟨.one,0,3,1,λ_=>[Qb 0,Qb 0,Qb 0]⟩:=Vq rfl;have n1:QY c h .no h.length=.no:=wj (Qs _);have m1:Jn g h .my h.length=.my:=IM (Qs _);have y:=T.o;have M:=Qc y;have w1:IntKind.u64.wrap ((4611686018427387904:Int) - (S.Qd:Int))=((4611686018427387904 - S.Qd:Nat):Int):=κ;by_cases K:4611686018427387904 - S.Qd<i
 .have e:zA S b i=⟨S,⟨27,0,0⟩,[]⟩:=by unfold zA;rw[Qf K]
  rw[e];have d0:=Q1 K;refine Q3 func33 ntmps33 results33 λI w pl o=>?_;have M:=Qc y;simp only[go_sem,Qa,y,M,w1,d0];exact⟨_,_,⟨_,_,_,_,T.EM _⟩,E.AH (JK.app c g h _ .my (Qs _)),(JK.app c g h _ .my (Qs _)).YQ z⟩
 .have d0:=QU K;obtain⟨e,he⟩:∃e,e=S.Qd+i:=⟨_,rfl⟩;have w2:IntKind.u64.wrap ((S.Qd:Int)+(i:Int))=((e:Nat):Int):=κ;have hA:zA S b i=⟨(Vf b e (Vy S.M+1) S).1,⟨0,0,0⟩,(Vf b e (Vy S.M+1) S).2⟩:=by unfold zA;rw[Qe K,<- he]
  rw[hA];refine Q3 func33 ntmps33 results33 λI w pl o=>?_;have M:=Qc y;simp only[go_sem,Qa,y,M,w1,d0,w2];have A0:QkZ n c g h p S j l b e L h.length 0 (QY c h .no) (Jn g h .my) (h++[(⟨.one,0,3,1,λ_=>[Qb 0,Qb 0,Qb 0]⟩:Ob)]) S []:=
   ⟨⟨_,_,_,_,T1⟩,V,by rw[Jv];exact E1,K1.YQ z,WS,n1,m1,ω,ω,rfl,Qs _⟩
  have a3:=T.co.mO;refine Js (λk s=>∃f C H S' L',QkZ n c g h p S j l b e L h.length k f C H S' L'/\s=⟨[(0,.ptr p 0 0 0),(2,.clo 29 0 [.ptr j 0 0 0,.ptr l 0 0 0]),(6,.ptr h.length 0 0 0),(7,u64 e)],H⟩) (Vy S.M) QQ ⟨_,_,_,S,[],A0,rfl⟩ ?_;clear A0 T1 K1 E1 WS n1 m1;rintro k _ hk ⟨J9,XF,H,a,L2,A,rfl⟩;obtain⟨x,v,u,t,r⟩:=A.T;have q:=r.o;have Z:=Qc q;have N:=QB4 ⟨x,v,u,t,r⟩;obtain⟨Y,Q⟩:∃Y,Y=Zb a:=⟨_,rfl⟩;rw[<- Q]at N;have U:=A.hr;have qO:=Qc U;have J:p≠j/\p≠l:=⟨λe=>(by have m:=r.tp;rw[e,A.E.tp]at m;cases m),λe=>(by have m:=r.tp;rw[e,A.E.to]at m;cases m)⟩;have EN:p≠h.length:=λe=>by have:=T.o;have:=Qc this;omega
  apply QM o;apply JD o QsB N;apply Qh o;simp only[go_sem,Qa,q,Z];by_cases O:e<Y
  .have d1:=Q1 O;have W:Vf b e (Vy a.M+1) a=({ a with Qd:=e },[]):=by
    unfold Vf;rw[Qf (by rw[<- Q];exact O)]
   have B:=A.go;rw[W,Jv]at B;rw[B];simp only[go_sem,Qa,d1,q,Z,Qm EN,U,qO,Qy];have a0:(H.set p (jO x v u t e a.ops))[h.length]? = some ⟨.one,0,3,1,λ_=>[Qb 0,Qb 0,Qb 0]⟩:=(Qm EN).trans U;exact⟨J9,XF,⟨_,_,_,_,(r.clock e a.ops).loc A.nr (.inr A.mr) _⟩,(A.E.loc q nofun J.1 J.2 _).loc a0 nofun nb.1 nb.2 _,(A.K.Qbj T.tp _).Ey z (Qs _) _⟩
  .have d1:=QU O;have F:Zb a<=e:=ω;obtain⟨V3,c1,c2,c3⟩:=QkC A.V b ω F;have W:Vf b e (Vy a.M+1) a=((Vf b e (Vy a.M) (ZB { a with Qd:=Zb a } b (Zb a)).1).1,(ZB { a with Qd:=Zb a } b (Zb a)).2++(Vf b e (Vy a.M) (ZB { a with Qd:=Zb a } b (Zb a)).1).2):=by
    conv=>lhs;unfold Vf
    rw[Qe (by rw[<- Q];exact O)]
   have B:=A.go;rw[W,<- c1,<- Wu]at B;have Zn:=aS { a with Qd:=Zb a } b (Zb a);subst Q;have T3:=r.clock (Zb a) a.ops;have V2:ZC { a with Qd:=Zb a,ops:=a.ops }:=A.V.at_ c2 ω;have E3:=A.E.loc q nofun J.1 J.2 (jO x v u t (Zb a) a.ops);have An:(H.set p (jO x v u t (Zb a) a.ops))[h.length]? = some _:=(Qm EN).trans U;have K3:=A.K.Qbj T.tp (jO x v u t (Zb a) a.ops);have Bv:n<=(H.set p (jO x v u t (Zb a) a.ops)).length:=JL z K3.len;have FA:=A.ln;have yQ:=A.hk;have P:=QkS (T:=⟨_,_,_,_,T3⟩) V2 E3 Bv (by rw[ZT];omega);simp only[go_sem,Qa,d1,q,Z];refine JO o Qfu P λd h5 hR=>?_;obtain⟨rfl,Ar,mN,T5,E5,R⟩:=hR;have Nt:=Qc An;apply QM o;have a2:Vy (ZB { a with Qd:=Zb a } b (Zb a)).1.M+(k+1)=Vy S.M:=ω;have a1:(L2++(ZB { a with Qd:=Zb a } b (Zb a)).2).length<=k+1:=by rw[ZT];omega
   refine⟨ω,_,QH.frame (fr':=[(0,.ptr p 0 0 0),(2,.clo 29 0 [.ptr j 0 0 0,.ptr l 0 0 0]),(6,.ptr h.length 0 0 0),(7,u64 e)]) (by simp only[go_sem]),Ar,mN,h5,_,L2++(ZB { a with Qd:=Zb a } b (Zb a)).2,⟨T5,V3,by rw[<- Wu];exact E5,K3.trans z R,(R.my _ Nt A.mr).trans An,(R.s1 _ Nt).trans A.nr,(R.s2 _ Nt).trans A.mr,a2,by rw[c3];exact F,B,a1⟩,rfl⟩
def BX(a:Nat->TT)(n:Nat):Nat->TT:=λl=>if l=n+2\/l=n+3 then .no else if n<=l then .my else a l
def mP{a}{n l}(h:l<n):BX a n l=a l:=by unfold BX;rw[Qe ω,Qe ω]
def Qk0{a}{n l}(h:l=n+2\/l=n+3):BX a n l=.no:=by unfold BX;rw[Qf h]
def QCm{a}{n l}(h:n<=l)(c:l≠n+2)(b:l≠n+3):BX a n l=.my:=by unfold BX;rw[Qe ω,Qf h]
structure Nu (S:Zj):Prop where
 ca:∀k,(S.st.Jp k).length<=S.ops
structure GD (own:Nat->Tag) (tw:Nat->TT) (h:List Ob) (p:Nat) (op:Nat) (S':Zj) (L:List Ev) (r:wi) (own':Nat->Tag) (Jq:Nat->TT) (H:List Ob) (d:D):Prop where
 T:Wt own' Jq H p S'
 E:jh h.length own' Jq H (h.length+3) (h.length+2) op L
 K:JK h.length own tw h own' Jq H
 Cr:H[h.length+1]? = some ⟨.one,0,3,1,λ_=>[Qb 0,Qb 0,Qb 0]⟩
 hr:H[h.length+4]? = some ⟨.one,0,3,1,λ_=>r.cells⟩
 ho:H[h.length+2]? = some (BW d)
 hs:jQ (λl=>h.length<=l/\own' l=.no/\Jq l=.no/\l≠h.length+3/\l≠h.length+2) H 12 Ev.cells d L
 n1:own' (h.length+1)=.no
 m1:Jq (h.length+1)=.my
 n4:own' (h.length+4)=.no
 m4:Jq (h.length+4)=.my
def DoR(e:Nat->Tag)(g:Nat->TT)(h:List Ob)(p:Nat)(Y:Ry)(d:D)(b:List Ob):Prop:=
 ∃f a c,d=.tup [.agg Y.r.cells,f]/\Wt a c b p Y.S/\jQ (λl=>h.length<=l/\a l=.no/\c l=.no) b 12 Ev.cells f Y.l/\JK h.length e g h a c b
def GD.done{b}{f}{h}{p l}{j}{L}{r}{a}{k}{H}{d}(I:GD b f h p l j L r a k H d)(o):
  DoR b f h p ⟨j,r,L⟩ (.tup [.agg r.cells,d]) (H.set (h.length+1) o):=by
 obtain⟨t,v,u,s,T⟩:=I.T;refine⟨d,a,k,rfl,⟨_,_,_,_,T.loc I.n1 (.inr I.m1) o⟩,I.hs.imp id λ⟨m,g,e,q,c,i,n⟩=>⟨m,g,e,q,⟨c.1,c.2.1,c.2.2.1⟩,by rw[Qm (AF I.Cr i (.inl nofun))];exact i,n⟩,I.K.Ey ω ω o⟩
def GD.next{b}{k}{h}{p g}{v}{L}{r}{o}{l}{H}{d}(I:GD b k h p g v L r o l H d){m}{n}{e}{c}{f}
  (u:Wt e c f p m) (q:jh h.length e c f (h.length+3) (h.length+2) g n) (a:JK h.length o l H e c f):∃d2,GD b k h p g m n r e c f d2:=by
 obtain⟨d2,t,s⟩:=q.ho;have j:=Qc I.Cr;have i:=Qc I.hr;exact⟨d2,u,q,I.K.trans (Qs _) a,(a.my _ j I.m1).trans I.Cr,(a.my _ i I.m4).trans I.hr,t,s,(a.s1 _ j).trans I.n1,(a.s2 _ j).trans I.m1,(a.s1 _ i).trans I.n4,(a.s2 _ i).trans I.m4⟩
def GD.aT{a}{c}{h:List Ob}{p f}{k}{L}{r}{l}{j}{H:List Ob}{d}(I:GD a c h p f k L r l j H d)(e:wi):GD a c h p f k L e l j (H.set (h.length+4) ⟨.one,0,3,1,λ_=>e.cells⟩) d:=by
 obtain⟨t,v,u,s,T⟩:=I.T;exact⟨⟨_,_,_,_,T.loc I.n4 (.inr I.m4) _⟩,I.E.loc I.hr nofun ω ω _,I.K.Ey ω ω _,by rw[Qm ω];exact I.Cr,Qy (Qc I.hr),by rw[Qm ω];exact I.ho,
  I.hs.imp id λ⟨m,g,b,q,o,i,n⟩=>⟨m,g,b,q,o,by rw[Qm (AF I.hr i (.inl nofun))];exact i,n⟩,I.n1,I.m1,I.n4,I.m4⟩
def QCn{f}{v}{h}{p}{S:Zj}(T:Wt f v h p S)(V:ZC S)(hC:Nu S)(mQ:S.ops<1000000)(o:Je)(ho:Je.Ok o)(hc:o.changes.length<1000000)(Kx:o.rules.length<1000000):
  QI prog 11 h [.ptr p 0 0 0,.agg o.cells] (λd h'=>DoR f v h p (Kb S o) d h'):=by
 obtain⟨ps,lp,pr,pt,T⟩:=T;have hp:=T.o;have RE:=Qc hp;have Zs:=Vl (show S.ops<4611686018427387904 from ω);have eS:Kb S o=Wa { S with ops:=S.ops+1 } S.ops o:=rfl;rw[eS];obtain⟨a,yo⟩:∃a,a={ S with ops:=S.ops+1 }:=⟨_,rfl⟩;have T0:WN f v (h.set p (jO ps lp pr pt S.Qd (S.ops+1))) p ps lp pr pt { S with ops:=S.ops+1 }:=T.clock S.Qd (S.ops+1);rw[<- yo]at T0 ⊢;obtain⟨H,hH⟩:∃H,H=h.set p (jO ps lp pr pt S.Qd (S.ops+1))++[(⟨.one,0,10,1,λ_=>o.cells⟩:Ob),⟨.one,0,3,1,λ_=>[Qb 0,Qb 0,Qb 0]⟩,BW .nil,BW (Qb S.ops),⟨.one,0,3,1,λ_=>[Qb 1,Qb 0,Qb 0]⟩]:=⟨_,rfl⟩;have q9:(h.set p (jO ps lp pr pt S.Qd (S.ops+1))).length=h.length:=σ;have ne:∀l,l<h.length->(BX v h.length l)=v l:=λl m=>mP m;have t:WN (QY f h .no) (BX v h.length) H p ps lp pr pt a:=by
  rw[hH];refine T0.step (λl m=>⟨λ_=>⟨Kz (by rw[<- q9];exact m),QJ m⟩,λ_ _=>⟨mP (by rw[<- q9];exact m),QJ m⟩⟩) λl m=>?_;by_cases h1:l<h.length
  .rw[mP h1]at m;rw[Kz h1];exact T.ap l m
  .exact wj ω
 have K1:JK h.length f v h (QY f h .no) (BX v h.length) H:=by
  rw[hH];refine⟨λl m=>Kz m,λl m=>mP m,λl m h1 z=>?_,λl m h1=>?_,σ⟩
  .rw[QJ (by rw[q9];exact m),Qm (λe=>by rw[<- e,T.tp]at z;cases z)]
  .rw[QJ (by rw[q9];exact m),Qm (λe=>by rw[<- e,T.tp]at h1;cases h1)]
 have q:∀k x,[(⟨.one,0,10,1,λ_=>o.cells⟩:Ob),⟨.one,0,3,1,λ_=>[Qb 0,Qb 0,Qb 0]⟩,BW .nil,BW (Qb S.ops),⟨.one,0,3,1,λ_=>[Qb 1,Qb 0,Qb 0]⟩][k]? = some x->H[h.length+k]? = some x:=λk x hk=>by
  rw[hH,Wm (k:=k) q9];exact hk
 have Q:jh h.length (QY f h .no) (BX v h.length) H (h.length+3) (h.length+2) S.ops []:=
  ⟨q 3 _ rfl,⟨.nil,q 2 _ rfl,.inl ⟨rfl,rfl⟩⟩,ω,ω,wj ω,wj ω,Qk0 (.inr rfl),Qk0 (.inl rfl),ω⟩
 have N:H[h.length]? = some ⟨.one,0,10,1,λ_=>o.cells⟩:=q 0 _ rfl;have aU:=q 1 _ rfl;have aV:=q 2 _ rfl;have WS:=q 4 _ rfl;have n1:∀i,h.length<=i->QY f h .no i=.no:=λi hi=>wj hi;have m1:∀i,h.length<=i->i≠h.length+2->i≠h.length+3->BX v h.length i=.my:=λi hi z h3=>QCm hi z h3;clear q ne q9;generalize Y8:QY f h .no=O at t K1 Q n1;generalize RK:BX v h.length=J at t K1 Q m1;have Ya:=t.o;have a8:=Qc Ya;have K9:=Qc N;have c1:=Qc aU;have c0:=Qc aV;have yD:=Qc WS;have c9:a.Qd=S.Qd:=by rw[yo]
 have V1:ZC a:=by rw[yo];exact V.ops _
 have KS:h.length<=H.length:=K1.len;refine Q3 func11 ntmps11 results11 λc7 w pl j=>?_;have RE:=Qc hp;simp only[go_sem,Qa,hp,RE,Zs];simp only[go_sem]at hH N WS aU aV;rw[<- hH];clear hH;have RL:h.length+1≠h.length+2:=ω;have aW:h.length+4≠h.length+2:=ω;have aX:h.length+4≠h.length+1:=ω;have I0:GD f v h p S.ops a [] ⟨1,0,0⟩ O J H .nil:=⟨⟨_,_,_,_,t⟩,Q,K1,aU,WS,aV,.inl ⟨rfl,rfl⟩,n1 _ ω,m1 _ ω ω ω,n1 _ ω,m1 _ ω ω ω⟩;obtain⟨Bc,⟨_,BK⟩,⟨_,c8⟩,ji,qZ,_⟩:=ho;by_cases L:o.kind=1
 .have W:(o.kind==1)=true:=by simpa using L
  obtain⟨la,lb,lc,ZO⟩:=t.ln;have F:=Qa3 (Jc ZO) a.Qd;obtain⟨bf,b5⟩:∃b,b=decide (a.ZR<=a.Qd):=⟨_,rfl⟩;have e:Wa a S.ops o=⟨{ a with M:=KO a.M bf o.changes },⟨jM a.M bf o.changes,Aw a.M o.changes,0⟩,[]⟩:=by unfold Wa;rw[Qf L,<- b5]
  rw[e];rw[<- b5]at F;have C:=QBa t.co bf o.changes BK hc;obtain⟨ce,c4⟩:∃x,x=jM a.M bf o.changes:=⟨_,rfl⟩;obtain⟨ca,mF⟩:∃x,x=Aw a.M o.changes:=⟨_,rfl⟩;rw[<- c4,<- mF]at C ⊢;simp only[go_sem,Qa,W];apply VD [15] j [0,1,2,3,4,5,6,7,8,9,10,11,13,14,1012,1015,16,17,18,19,20] [];simp only[go_sem,Qa,Ya,a8,N,K9];apply WZ j fK F;apply Zd j;simp only[go_sem,Qa,Ya,a8,N,K9];refine wV j Qsl C λd z E=>?_;obtain⟨rfl,J9,C2,D2⟩:=E;have Z:=t.core D2 C2 (Rw a.M bf o.changes);have y:JK H.length O J H J9 (Jn J H .no) z:=JK.core t.ap (Qs _) D2;obtain⟨d2,c⟩:=I0.next ⟨_,_,_,_,Z⟩ (Q.AH y) (y.YQ KS);have I:=c.aT ⟨ce,ca,0⟩;have n:=c.hr;have r:=Qc n;have s:=c.ho;have B:=Qc s;have u:=c.Cr;have K:=Qc u;apply Zd j;simp only[go_sem,Qa,n,r];apply VD [] j [0] [1,2,3];simp only[go_sem,Qa,n,r,s,B,u,K,Qy,Qm RL,Qm aW,Qm aX];exact⟨I.done _,I.done _⟩
 have W:(o.kind==1)=false:=by simpa using L
 by_cases U:o.kind=2
 .have b2:(o.kind==2)=true:=by simpa using U
  have R:=QkP H o.rules Kx;by_cases Ig:zz o.rules=0
  .have e:Wa a S.ops o=⟨{ a with R:=o.rules },⟨0,0,0⟩,[]⟩:=by unfold Wa;rw[Qe L,Qf U,Qf Ig]
   rw[e];simp only[go_sem,Qa,W,b2,N,K9];refine JO j pQ R λd z E=>?_;obtain⟨g,rfl,a6,_⟩:=E;obtain⟨p2,rfl,hT⟩:=a6 Ig;have Z:=t.rules hT;have mR:(H++g)[p]? = some _:=(QJ a8).trans Ya;have b9:=Qc mR;have y:JK H.length O J H (QY O H .no) (Jn J H .IL) (H++g):=JK.app O J H g .IL (Qs _);have E2:=(Q.AH y).loc mR nofun (by have:=Qc T.o;omega) (by have:=Qc T.o;omega) (jO ps lp p2 pt a.Qd a.ops);obtain⟨d2,c⟩:=I0.next ⟨_,_,_,_,Z⟩ E2 ((y.YQ KS).Qbj t.tp _);have I:=c.aT ⟨0,0,0⟩;have n:=c.hr;have r:=Qc n;have s:=c.ho;have B:=Qc s;have u:=c.Cr;have K:=Qc u;have Zn:=Qc T.o;have p4:p≠h.length+4:=ω;have a9:p≠h.length+2:=ω;have c3:p≠h.length+1:=ω;have a4:(H++g)[h.length+4]? = some _:=(QJ yD).trans WS;have a5:(H++g)[h.length+2]? = some _:=(QJ c0).trans aV;have b0:(H++g)[h.length+1]? = some _:=(QJ c1).trans aU;have a7:=Qc a4;have b8:=Qc a5;have b7:=Qc b0;have Kt:d2=.nil:=by
    have h5:=c.ho;rw[Qm a9,a5]at h5;simp only[BW,Q4,Ob.mk.injEq,AT]at h5;have:=congrFun h5 0;simp only[yI,and_true]at this;exact this.symm
   rw[Kt]at I;have x4:h.length+4<H.length+g.length:=by have:=a7;simpa using this
   have x2:h.length+2<H.length+g.length:=by have:=b8;simpa using this
   have x1:h.length+1<H.length+g.length:=by have:=b7;simpa using this
   apply Qh j;simp only[go_sem,Qa,mR,b9,Qm p4,a4,a7,Qy];apply VD [] j [0] [1,2,3];simp only[go_sem,Qa,x4,x2,x1,mR,b9,Qm p4,Qm a9,Qm c3,a4,a7,a5,b8,b0,b7,Qy,Qm RL,Qm aW,Qm aX];exact⟨I.done _,I.done _⟩
  .have e:Wa a S.ops o=⟨a,⟨zz o.rules,0,0⟩,[]⟩:=by unfold Wa;rw[Qe L,Qf U,Qe Ig]
   have b6:(zz o.rules==0)=false:=by simpa using Ig
   rw[e];obtain⟨re,c5⟩:∃x,x=zz o.rules:=⟨_,rfl⟩;rw[<- c5]at R b6 Ig ⊢;simp only[go_sem,Qa,W,b2,N,K9];refine JO j pQ R λd z E=>?_;obtain⟨g,rfl,_,a6⟩:=E;have hd:=a6 Ig;subst hd;have y:JK H.length O J H (QY O H .no) (Jn J H .my) (H++g):=JK.app O J H g .my (Qs _);obtain⟨d2,c⟩:=I0.next ⟨_,_,_,_,t.EM g⟩ (Q.AH y) (y.YQ KS);have I:=c.aT ⟨re,0,0⟩;have n:=c.hr;have r:=Qc n;have s:=c.ho;have B:=Qc s;have u:=c.Cr;have K:=Qc u;have x4:h.length+4<H.length+g.length:=by have:=r;simpa using this
   have x2:h.length+2<H.length+g.length:=by have:=B;simpa using this
   have x1:h.length+1<H.length+g.length:=by have:=K;simpa using this
   apply Qh j;simp only[go_sem,Qa,b6,n,r];apply VD [] j [0] [1,2,3];simp only[go_sem,Qa,x4,x2,x1,n,r,s,B,u,K,Qy,Qm RL,Qm aW,Qm aX];exact⟨I.done _,I.done _⟩
 have b2:(o.kind==2)=false:=by simpa using U
 by_cases k3:o.kind=3
 .have b3:(o.kind==3)=true:=by simpa using k3
  have e:Wa a S.ops o=qh a S.ops o.ZG:=by unfold Wa;rw[Qe L,Qe U,Qf k3]
  rw[e];obtain⟨Dj,RF,aR,IU⟩:aM o.ZG:=by
   obtain⟨_,_,a0,a1,a2,a3,_⟩:=ji;have:=wf_u16 a0;have:=wf_u16 a1;have:=wf_u16 a2;have:=wf_u16 a3;exact⟨⟨ω,ω⟩,⟨ω,ω⟩,⟨ω,ω⟩,⟨ω,ω⟩⟩
  have P:=QCb ⟨_,_,_,_,t⟩ V1 Q KS σ (λk=>by rw[yo];have:=hC.ca k;show (S.st.Jp k).length<1000000;omega) o.ZG ⟨Dj,RF,aR,IU⟩;obtain⟨Y,hY⟩:∃Y,Y=qh a S.ops o.ZG:=⟨_,rfl⟩;rw[<- hY]at P ⊢;simp only[go_sem,Qa,W,b2,b3,N,K9];refine JO j Qsm P λd z E=>?_;obtain⟨rfl,J9,XF,Z,E2,y⟩:=E;rw[Yr]at E2;obtain⟨d2,c⟩:=I0.next Z E2 y;have I:=c.aT Y.r;have n:=c.hr;have r:=Qc n;have s:=c.ho;have B:=Qc s;have u:=c.Cr;have K:=Qc u;apply Qh j;simp only[go_sem,Qa,n,r];apply VD [] j [0] [1,2,3];simp only[go_sem,Qa,n,r,s,B,u,K,Qy,Qm RL,Qm aW,Qm aX];exact⟨I.done _,I.done _⟩
 have b3:(o.kind==3)=false:=by simpa using k3
 by_cases k4:o.kind=4
 .have b4:(o.kind==4)=true:=by simpa using k4
  have e:Wa a S.ops o=zA a S.ops o.Wn.toNat:=by unfold Wa;rw[Qe L,Qe U,Qe k3,Qf k4]
  rw[e];have hw:=wf_u64 qZ;have P:=QCi ⟨_,_,_,_,t⟩ V1 Q KS σ o.Wn.toNat ω;obtain⟨Y,hY⟩:∃Y,Y=zA a S.ops o.Wn.toNat:=⟨_,rfl⟩;rw[<- hY,show u64 o.Wn.toNat=.raw (.int .u64 o.Wn) by show D.raw (.int .u64 (o.Wn.toNat:Int))=_;rw[EW hw.1]]at P;rw[<- hY];simp only[go_sem,Qa,W,b2,b3,b4,N,K9];refine JO j Qsn P λd z E=>?_;obtain⟨rfl,J9,XF,Z,E2,y⟩:=E;rw[Yr]at E2;obtain⟨d2,c⟩:=I0.next Z E2 y;have I:=c.aT Y.r;have n:=c.hr;have r:=Qc n;have s:=c.ho;have B:=Qc s;have u:=c.Cr;have K:=Qc u;apply Qh j;simp only[go_sem,Qa,n,r];apply VD [] j [0] [1,2,3];simp only[go_sem,Qa,n,r,s,B,u,K,Qy,Qm RL,Qm aW,Qm aX];exact⟨I.done _,I.done _⟩
 have b4:(o.kind==4)=false:=by simpa using k4
 have e:Wa a S.ops o=⟨a,⟨1,0,0⟩,[]⟩:=by unfold Wa;rw[Qe L,Qe U,Qe k3,Qe k4]
 rw[e];simp only[go_sem,Qa,W,b2,b3,b4];apply VD [] j [0] [1,2,3];simp only[go_sem,Qa,WS,yD,aV,c0,aU,c1,Qy,Qm RL];exact⟨I0.done _,I0.done _⟩
def QCr(h:List Ob):QI prog 27 h [.nil] (λd a=>∃g p,a=h++g/\d=.tup [.ptr p 0 0 0,Qb 0]/\IN (λj=>h.length<=j) (h++g) p []):=
 (QI.Qpz (cs':=[.nil]) (QkP h [] π) ⟨rfl,trivial⟩).mono λd a ⟨g,f,e,_⟩=>by
  obtain⟨p,c,b⟩:=e rfl;exact⟨g,p,f,c,b⟩
def qM.fresh(h:List Ob)(S)(a:∀j,h.length<=j->S j):qM S (h++[QR .i64 0 [],QR .i64 0 [],stO h.length (h.length+1)]) (h.length+2) ⟨λ_=>[],λ_=>default⟩:=
 ⟨h.length,h.length+1,0,[],0,[],Wm (k:=2) rfl,Vq rfl,Wm (k:=1) rfl,ω,a _ ω,a _ ω,a _ ω,λk=>.inl ⟨rfl,rfl⟩,λk i f g c n l d e b=>(by cases b),λk=>rfl⟩
def QCs{own}{tw}(ap:∀l,tw l≠.no->own l=.no)(h){c}(K:Xp c):
  QI prog 10 h [.agg c.cells] (λd U=>∃n Y p,d=.tup [.ptr p 0 0 0,Qb 0]/\Wt n Y U p (S0 c)/\JK h.length own tw h n Y U):=by
 have O:(h++[(⟨.one,0,2,1,λ_=>c.cells⟩:Ob)])[h.length]? = some ⟨.one,0,2,1,λ_=>c.cells⟩:=Vq rfl;have M:=QBb (QY own h .no) (h++[(⟨.one,0,2,1,λ_=>c.cells⟩:Ob)]) K;have C:=JK.app own tw h [(⟨.one,0,2,1,λ_=>c.cells⟩:Ob)] .no (Qs _);have F:=mH (h:=h) ap;have Q:QY own h .no h.length=.no:=wj (Qs _);refine Q3 func10 ntmps10 results10 λa0 w pl k=>?_;simp only[go_sem,Qa];obtain⟨f,J⟩:∃x,x=h++[(⟨.one,0,2,1,λ_=>c.cells⟩:Ob)]:=⟨_,rfl⟩;rw[<- J]at O M C;simp only[go_sem]at J;rw[<- J];clear J;have K9:=Qc O;generalize QY own h .no=JF at M C F Q;generalize Jn tw h .no=W at C F;refine JO k Qsi M λd a o=>?_;obtain⟨Z,L,rfl,C2,P⟩:=o;have B:=C.trans (Qs _) ((JK.core F (Qs _) P).YQ C.len);have V:a[h.length]? = some _:=(P.keep _ K9 Q).trans O;have ja:=Qc V;apply Qh k;simp only[go_sem,Qa,V,ja];refine DX k Qsj (QBH a K.t1 K.t2) λd h o=>?_;obtain⟨rfl,rfl⟩:=o;apply QM k;refine JO k pQ (QCr _) λd e o=>?_;obtain⟨g,E,s,rfl,y⟩:=o;apply QM k;refine JO k Qsk (QBR e) λd i o=>?_;obtain⟨rfl,q⟩:=o;apply QM k;have s:e=(a++[jP 0 0 0 c.t 0])++g:=s;have y:IN (λj=>(a++[jP 0 0 0 c.t 0]).length<=j) ((a++[jP 0 0 0 c.t 0])++g) E []:=y;rw[<- s]at y;have R:(a++[jP 0 0 0 c.t 0]).length=a.length+1:=σ;rw[R]at y;have l4:a.length+1<=e.length:=by rw[s,ZT,R];omega
 have l5:i.length=e.length+3:=by rw[q];simp
 have N:∀l,l<a.length->e[l]? = a[l]? := λl b=>by rw[s,Wu,QJ b]
 have v:∀l,l<e.length->i[l]? = e[l]? := λl b=>by rw[q,QJ b]
 have FA:e[a.length]? = some (jP 0 0 0 c.t 0):=by rw[s,Wu];exact Vq rfl
 have JB:qM (λl=>e.length<=l) i (e.length+2) ⟨λ_=>[],λ_=>default⟩:=by rw[q];exact qM.fresh e _ λ_ h=>h
 obtain⟨H,I⟩:∃H,H=i++[jO L a.length E (e.length+2) 0 0]:=⟨_,rfl⟩;have r:∀l,l<i.length->H[l]? = i[l]? := λl b=>by rw[I,QJ b]
 have hp:H[i.length]? = some (jO L a.length E (e.length+2) 0 0):=by rw[I];exact Vq rfl
 obtain⟨m,z⟩:∃t:Nat->TT,t=λl=>if l<a.length then Jn W f .no l else if l=a.length then .ln else if l<e.length then .IL else if l<i.length then .st else if l=i.length then .sys else .no:=⟨_,rfl⟩;have t0:∀l,l<a.length->m l=Jn W f .no l:=λl b=>by rw[z];dsimp only;rw[Qf b]
 have t1:m a.length=.ln:=by rw[z];dsimp only;rw[Qe ω,Qf rfl]
 have t2:∀l,a.length+1<=l->l<e.length->m l=.IL:=λl f a=>by rw[z];dsimp only;rw[Qe ω,Qe ω,Qf a]
 have t3:∀l,e.length<=l->l<i.length->m l=.st:=λl f a=>by rw[z];dsimp only;rw[Qe ω,Qe ω,Qe ω,Qf a]
 have t4:m i.length=.sys:=by rw[z];dsimp only;rw[Qe ω,Qe ω,Qe ω,Qe ω,Qf rfl]
 have X:WN (QY Z a .no) m H i.length L a.length E (e.length+2) (S0 c):=by
  refine⟨hp,t4,C2.step λl b _=>⟨Kz b,by rw[r l ω,v l ω,N l b]⟩,⟨0,0,0,?_⟩,t1,y.step λj u f=>⟨t2 j f u,by rw[r j ω,v j u]⟩,JB.step λj u f=>⟨t3 j f u,r j u⟩,λl b=>?_⟩
  .rw[r _ ω,v _ ω];exact FA
  .by_cases T:l<a.length
   .rw[t0 l T]at b;rw[Kz T];by_cases S:l<f.length
    .rw[VA S]at b;rw[P.same l S];exact F l b
    .rw[IM ω]at b;exact absurd rfl b
   .exact wj ω
 have KH:JK h.length own tw h (QY Z a .no) m H:=by
  have a1:=B.len;exact⟨λl b=>by rw[Kz ω];exact B.s1 l b,λl b=>by rw[t0 l ω];exact B.s2 l b,λl b f a=>by rw[r l ω,v l ω,N l ω];exact B.keep l b f a,λl b f=>by rw[r l ω,v l ω,N l ω];exact B.my l b f,by rw[I];simp;omega⟩
 subst I;exact⟨_,m,_,rfl,⟨_,_,_,_,X⟩,KH⟩
end Go.Fg.X
namespace Go.Fg.X
open Go.Proofs Go.Fg
open Go.RowKit (Below)
open Go.Proofs.Tryz
def QCt{P}{f}{C}{R}(J:D)(Y:J.upto 0=true)
  (hd:∀d u,R d u->Ky 6 d J\/(∃a g t n k,u[a]? = some ⟨.arr,g,t,n,k⟩/\(∀i,i<n->(k i).all D.ko=true)/\Ky 6 (D.fz a g n t k d) J) \/
   ∃a g t n k F U T K E,u[a]? = some ⟨.arr,g,t,n,k⟩/\u[F]? = some ⟨.arr,U,T,K,E⟩/\F≠a/\(∀i,i<n->(k i).all D.ko=true)/\(∀i,i<K->(E i).all D.ko=true)/\Ky 6 (D.fz F U K T E (D.fz a g n t k d)) J) (h:Q9 P f C R):Q9 P f C (Zp J):=by
 intro Z S w pl vs h1 h2 h3 hl hc;have N:pl=[]:=by have:=h3.len;simpa using this
 subst N;refine(h Z S w [] vs h1 h2 h3 hl hc).mono λe w' he=>?_;obtain⟨v,d,u,B,rfl,hR,y,hV,hT,hB⟩:=he;suffices a0:QF Z [] [] w' J v by
  exact⟨v,_,[],[],rfl,⟨rfl,rfl⟩,Zo.nil,a0,⟨λb L Qc=>⟨L,(hT.Kl b L Qc).2⟩,λl o p e=>by simp at e,λl o I b q e=>by simp at e⟩,hB⟩
 rcases hd _ _ hR with s|⟨a,g,t,n,k,x,Z1,s⟩|⟨a,g,t,n,k,F,U,T,K,E,x,H,a1,Z1,Q,s⟩
 .exact(xW 6 s hV).take Y
 .have Qc:a<B.length:=by rw[y.len];exact(Xa.1 x).1
  obtain⟨p,m⟩:∃p,B[a]? = some p:=⟨_,QT Qc⟩;have Pq:=hV.fz (l:=a) (o:=⟨.arr,g,t,n,k⟩) (p:=p) x m rfl (λb q e=>by
   subst e;refine⟨h2 b ?_,λr q' z=>?_,(y.at_ a _ b q x m).2.cells rfl⟩
   .rcases B7 b w.heap.size with Qc|W
    .exact absurd m ((hT.Kl b (λi q e=>by simp at e) Qc).1 a q)
    .exact W
   .exact y.inj _ _ _ _ _ z m) Z1 (h':=u.set a (Ob.gone ⟨.arr,g,t,n,k⟩)) (λr I O e=>by
   exact⟨I,by rw[JZ (Q8 O)];exact e,rfl,rfl,rfl⟩)
  exact(xW 6 s Pq).take Y
 .have pos:∀{a:Nat} {o:Ob},u[a]? = some o->∃p,B[a]? = some p:=λ{a o} x=>by
   have Qc:a<B.length:=by rw[y.len];exact(Xa.1 x).1
   exact⟨_,QT Qc⟩
  have zb:∀{a b q:Nat},B[a]? = some (some (b,q))->Z b:=λ{a b q} m=>h2 b (by
   rcases B7 b w.heap.size with Qc|W
   .exact absurd m ((hT.Kl b (λi q e=>by simp at e) Qc).1 a q)
   .exact W)
  obtain⟨p,m⟩:=pos x;obtain⟨p',V⟩:=pos H;have r1:=hV.fz (l:=a) (o:=⟨.arr,g,t,n,k⟩) (p:=p) x m rfl (λb q e=>by
   subst e;exact⟨zb m,λr q' z=>y.inj _ _ _ _ _ z m,(y.at_ a _ b q x m).2.cells rfl⟩) Z1 (h':=u) (λr I O e=>⟨I,e,rfl,rfl,rfl⟩)
  have N:∀(r:Nat),r≠a->(B.set a none)[r]? = B[r]? := λr Yv=>by rw[JZ (Q8 Yv)]
  have O:F≠a:=a1;have r2:=r1.fz (l:=F) (o:=⟨.arr,U,T,K,E⟩) (p:=p') H ((N _ O).trans V) rfl (λb q e=>by
   subst e;refine⟨zb V,λr q' z=>?_,?_⟩
   .by_cases M:r=a
    .subst M;rw[Xb (WR m)]at z;cases z
    .rw[N _ M]at z;exact y.inj _ _ _ _ _ z V
   .obtain⟨c,el,c1,c2,c3,c4⟩:=(y.at_ F _ b q H V).2.cells rfl;refine⟨c,el,c1,c2,c3,λi j hi hj=>?_⟩;obtain⟨v,hv,hr⟩:=c4 i j hi hj;have h5:=Q i hi;rw[jo]at h5;have h6:j<(E i).length:=by rw[c3 i hi];exact hj
    have h7:(nth (E i) j).ko=true:=h5 _ (by
     simp only[nth,Q7,QT h6,Vn];exact zF h6)
    exact⟨v,hv,.cl _ _ ((LK hr h7).mono (N':=free Z (B.set a none)) (w':=w') λb L _=>⟨⟨L.1,λl q e=>by
     by_cases M:l=a
     .subst M;rw[Xb (WR m)]at e;cases e
     .rw[N _ M]at e;exact L.2 l q e⟩,rfl⟩)⟩) Q (h':=u) (λr I O e=>⟨I,e,rfl,rfl,rfl⟩)
  exact(xW 6 s r2).take Y
end Go.Fg.X
namespace Go.Fg.X
open Go.Proofs Go.Fg
open Go.Proofs.Tryz
def Qlc(u)(a b):∀c:List (Nat × D),put (put c u a) u b=put c u b
 | []=>by simp[put]
 | (t,e)::r=>by
  cases h:Nat.beq t u with
  | true=>simp[put,h]
  | false=>simp[put,h,Qlc u a b r]
def QCv{p:Type}[Inhabited p]{c:Start}(q:c.F=[])(E:c.pl=[]){S:Nat->Prop}{k:Nat}{f:p->List D}(F:∀a,(f a).all D.ko=true){m:List (Nat × D)}{h:List Ob}{d:D}{L:List p}(t:Nat)(v:get m t=d)(H:jQ S h k f d L):
  ∃b r,QH c ⟨m,h⟩ ⟨put m t (.imm k L.length b),r⟩/\(∀i,i<L.length->b i=f (L.getD i default))/\h.length<=r.length/\∀l,l<h.length->¬S l->r[l]? = h[l]? := by
 have u:c.pl.length=c.F.length:=by rw[q,E];rfl
 have x:∀h:List Ob,rF c.F h:=λh l o e=>by rw[q]at e;simp at e
 have hz:∀n,c.F.length<=n:=λn=>by rw[q];exact Z9 _
 rcases H with ⟨rfl,rfl⟩|⟨C,g,b,rfl,s,I,B⟩
 .refine⟨rowFrom 0 (λ_=>[]),h++[(⟨.arr,0,k,0,λ_=>[]⟩:Ob).gone],?_,λi j=>absurd j (Xc i),σ,λl w z=>QJ w⟩;have J:=QH.QaS (w0:=c) (h:=h) t k v;have y:=QH.rG u (x _) t h.length (hz _) (fr:=put m t (.ref h.length 0 0 0)) (h:=h++[(⟨.arr,0,k,0,λ_=>[]⟩:Ob)]) (o:=⟨.arr,0,k,0,λ_=>[]⟩) (off:=0) (len:=0) (by rw[GV,Qf rfl]) (Vq rfl) (Qs 0) rfl (λi j=>absurd j (Xc i));rw[Qlc,ft rfl]at y;exact QH.trans J y
 .refine⟨rowFrom 0 b,_,QH.rG u (x _) t C (hz _) v I (by show 0+L.length<=L.length;omega) rfl (λi j=>?_),λi j=>?_,σ,λl w z=>?_⟩
  .show (b i).all D.ko=true;rw[B i j];exact F _
  .rw[Tp,JM,B i j]
  .exact Qm λe=>z (by rw[<- e];exact s)
def Wt.far{a}{b}{h f:List Ob}{p}{S}(T:Wt a b h p S)(m:h.length<=f.length)(e:∀l,l<h.length->¬(a l=.no/\b l=.no)->f[l]? = h[l]?):Wt (QY a h .no) (Jn b h .no) f p S:=by
 obtain⟨i,k,j,g,T⟩:=T;exact⟨_,_,_,_,T.step (λl Qc=>⟨λc=>⟨Kz Qc,e l Qc λd=>c.1 d.1⟩,λc _=>⟨VA Qc,e l Qc λd=>c d.2⟩⟩) (mH T.ap)⟩
structure Je.Small (o:Je):Prop where
 c:o.changes.length<1000000
 r:o.rules.length<1000000
def Qld(S:Zj)(f d:Nat)(k:Int):((ZB S f d).1.st.Jp k).length<=(S.st.Jp k).length:=by
 have g:∀(s:EL) (c:Int) (done:Nat) (bytes:Int) (b:Bool),((qL s c done bytes b).Jp k).length<=(s.Jp k).length:=λs c done bytes b=>by
  unfold qL;cases h:s.Jp c with
  | nil=>exact Qs _
  | cons a l=>
   dsimp only;split
   .exact Qs _
   .split
    .exact Qs _
    .dsimp only;split
     .rename_i e;rw[e,h];simp
     .exact Qs _
 unfold ZB;split
 .exact Qs _
 .split
  .exact g _ _ _ _ _
  .exact Qs _
def Qle(a e)(k:Int):∀(n:Nat) (S:Zj),((Vf a e n S).1.st.Jp k).length<=(S.st.Jp k).length
 | 0,S=>Qs _
 | n+1,S=>by
  unfold Vf;split
  .exact Qs _
  .exact JL (Qle a e k n _) (Qld { S with Qd:=Zb S } a (Zb S) k)
def Nu.do{S}(C:Nu S)(o:Je):Nu (Kb S o).S:=by
 refine⟨λk=>?_⟩;rw[Qkz];have a:=C.ca k;show ((Wa { S with ops:=S.ops+1 } S.ops o).S.st.Jp k).length<=S.ops+1;unfold Wa;split
 .show (S.st.Jp k).length<=_;omega
 .split
  .split<;>(show (S.st.Jp k).length<=_;omega)
  .split
   .unfold qh;split
    .show (S.st.Jp k).length<=_;omega
    .split
     .refine JL (Qld _ _ _ k) ?_;show (if k=_ then S.st.Jp k++[S.Qd] else S.st.Jp k).length<=_;split
      .rw[ZT];show _+1<=_;omega
      .omega
     .show (S.st.Jp k).length<=_;omega
   .split
    .unfold zA;split
     .show (S.st.Jp k).length<=_;omega
     .exact JL (Qle _ _ k _ _) (by show (S.st.Jp k).length<=_;omega)
    .show (S.st.Jp k).length<=_;omega
def wi.rows(l:List wi):Nat->List D:=λi=>(l.getD i default).cells
@[go_sem] theorem wi.xY(l:List wi)(i):wi.rows l i=(l.getD i default).cells:=rfl
@[go_sem] def QI1(l:List wi):D:=.imm 3 l.length (wi.rows l)
structure QI2 (x:YU) (p q k:Nat) (own:Nat->Tag) (tw:Nat->TT) (H:List Ob) (S:Zj) (R:List wi) (E:List Ev) (dR dE:D):Prop where
 T:Wt own tw H p S
 V:ZC S
 C:Nu S
 ops:S.ops=k
 hx:H[0]? = some ⟨.one,0,3,1,λ_=>x.cells⟩
 hr:H[1]? = some ⟨.one,0,2,1,λ_=>[.nil,.nil]⟩
 hq:H[q]? = some ⟨.one,0,2,1,λ_=>[dR,dE]⟩
 q2:2<=q
 my:∀l,l=0\/l=1\/l=q->own l=.no/\tw l=.my
 sR:jQ (λl=>own l=.no/\tw l=.my) H 3 wi.cells dR R
 sE:jQ (λl=>own l=.no/\tw l=.my) H 12 Ev.cells dE E
 run:Zz (S0 x.config) (x.ops.take k)=(S,R,E)
 lR:R.length=k
 lE:E.length<=5000*k
def QCz(S:Zj)(o:Je)(h:Vy S.M<=4096):(Kb S o).l.length<=5000:=by
 have d:∀(a e n:Nat) (S:Zj),(Vf a e n S).2.length<=n:=by
  intro a e n;induction n with
  | zero=>exact λS=>Qs _
  | succ n c=>
   intro S;unfold Vf;split
   .exact Z9 _
   .have f:=c (ZB { S with Qd:=Zb S } a (Zb S)).1;have b:=aS { S with Qd:=Zb S } a (Zb S);dsimp only;rw[ZT];omega
 show (Wa { S with ops:=S.ops+1 } S.ops o).l.length<=5000;unfold Wa;split
 .exact Z9 _
 .split
  .split<;>exact Z9 _
  .split
   .unfold qh;split
    .exact Z9 _
    .split
     .have b:=aS { { S with ops:=S.ops+1 } with M:=Zr S.M S.Qd (Kj S.R (ZZ o.ZG)) o.ZG,st:=wh S.st (Kj S.R (ZZ o.ZG)) S.Qd } S.ops S.Qd;show (_::_:List Ev).length<=5000;rw[VQ];exact JL (Nat.succ_le_succ b) π
     .exact Z9 _
   .split
    .unfold zA;split
     .exact Z9 _
     .have:=d S.ops (S.Qd+o.Wn.toNat) (Vy S.M+1) { S with ops:=S.ops+1 };exact JL this ω
    .exact Z9 _
def ZC.start{b}{d}{h}{p}{c}(T:Wt b d h p (S0 c)):ZC (S0 c):=by
 obtain⟨_,_,_,_,T⟩:=T;exact⟨T.co.I,T.co.V,T.co.K,λj x hx=>(by cases hx),Qs _,Z9 _,Z9 _,λk=>⟨B9 _,B9 _,B9 _,B9 _,B9 _⟩,λk a e=>(by cases e)⟩
def QCA{a:Type}[Inhabited a]{f:a->List D}{L M:List a}{d c:Nat->List D}(h:∀i,i<L.length->d i=f (L.getD i default))(g:∀i,i<M.length->c i=f (M.getD i default)):∀i,i<(L++M).length->KB L.length 0 d c i=f ((L++M).getD i default):=by
 intro i e;rw[ZT]at e;rw[Q7];by_cases b:i<L.length
 .rw[A4 b,JM,h i b,JY b,Q7]
 .rw[xM ω,g _ ω,Kw ω,Q7]
def QL(S:Zj)(n:Nat):Prop:=∀j,(QW S.M j).length<=n
def QL.take{S:Zj}{n}(h:QL S n)(a)(j:Int):(QW (takeN S.M a) j).length<=n:=by
 rw[Az];have:=h j;split
 .rw[List.length_tail];omega
 .exact this
def QL.put{S:Zj}{n}(h:QL S n)(a)(b)(x)(j:Int):(QW (Zr S.M a b x) j).length<=n+1:=by
 rw[IG];have:=h j;split
 .rw[ZT,qT];omega
 .omega
def QL.IK{S}{n}(h:QL S n)(b a:Nat):QL (ZB S b a).1 n:=by
 unfold ZB;split
 .exact h
 .split
  .exact h.take a
  .exact h.take a
def QL.go{a e n}:∀(k:Nat) {S:Zj},QL S n->QL (Vf a e k S).1 n
 | 0,S,h=>h
 | k+1,S,h=>by
  unfold Vf;split
  .exact h
  .exact QL.go k (QL.IK (S:={ S with Qd:=Zb S }) h a (Zb S))
def QL.do{S}{n}(h:QL S n)(o:Je):QL (Kb S o).S (n+1):=by
 have a:QL S (n+1):=λj=>Nat.le_succ_of_le (h j);show QL (Wa { S with ops:=S.ops+1 } S.ops o).S (n+1);unfold Wa;split
 .exact λj=>Qky (P:=λq=>q.length<=n+1) (Z9 _) _ _ (a j)
 .split
  .split<;>exact a
  .split
   .unfold qh;split
    .exact a
    .split
     .exact QL.IK (S:={ { S with ops:=S.ops+1 } with M:=Zr S.M S.Qd (Kj S.R (ZZ o.ZG)) o.ZG,st:=wh S.st (Kj S.R (ZZ o.ZG)) S.Qd }) (λj=>h.put _ _ _ j) _ _
     .exact λj=>h.put _ _ _ j
   .split
    .unfold zA;split
     .exact a
     .exact QL.go _ a
    .exact a
def ZC.Nx{c}(K:Xp c):ZC (S0 c):=⟨Qjm c,QjQ c,K,λj x hx=>(by cases hx),Qs _,Z9 _,Z9 _,λk=>⟨B9 _,B9 _,B9 _,B9 _,B9 _⟩,λk a b=>(by cases b)⟩
def QL.mO{S:Zj}{n}(h:QL S n)(I:Qz S.M):Vy S.M<=64*n:=by
 have d:=Qbi (λc=>(QW S.M c.iD).length) n S.M.T λc _=>h c.iD;have a:=I.tree.len;unfold Vy;have b:S.M.T.length*n<=64*n:=Vm n a;omega
def Qlh(a e):∀(n:Nat) (S:Zj),(Vf a e n S).2.length<=n
 | 0,S=>Qs _
 | n+1,S=>by
  unfold Vf;split
  .exact Z9 _
  .have c:=Qlh a e n (ZB { S with Qd:=Zb S } a (Zb S)).1;have b:=aS { S with Qd:=Zb S } a (Zb S);dsimp only;rw[ZT];omega
def QCH(S:Zj)(o:Je):(Kb S o).l.length<=Vy S.M+2:=by
 show (Wa { S with ops:=S.ops+1 } S.ops o).l.length<=_;unfold Wa;split
 .exact Z9 _
 .split
  .split<;>exact Z9 _
  .split
   .unfold qh;split
    .exact Z9 _
    .split
     .have a:=aS { { S with ops:=S.ops+1 } with M:=Zr S.M S.Qd (Kj S.R (ZZ o.ZG)) o.ZG,st:=wh S.st (Kj S.R (ZZ o.ZG)) S.Qd } S.ops S.Qd;show (_::_:List Ev).length<=_;rw[VQ];exact JL (Nat.succ_le_succ a) (Nat.le_add_left 2 _)
     .exact Z9 _
   .split
    .unfold zA;split
     .exact Z9 _
     .exact JL (Qlh S.ops (S.Qd+o.Wn.toNat) (Vy S.M+1) { S with ops:=S.ops+1 }) (Nat.le_succ _)
    .exact Z9 _
def Qli:∀(l:List Je) {S:Zj} {n:Nat},ZC S->QL S n->(∀o∈l,Je.Ok o)->(Zz S l).2.2.length<=l.length*(64*(n+l.length)+2)
 | [],S,n,T,h,b=>Z9 _
 | o::l,S,n,T,h,b=>by
  have c:=(b o Z3).2.1.2;have f:=Qli l (T.do c) (h.do o) λa d=>b a (Jw _ d);have j:=QCH S o;have i:=h.mO T.I;show ((Kb S o).l++(Zz (Kb S o).S l).2.2).length<=_;rw[ZT,VQ];have e:n+1+l.length=n+(l.length+1):=ω;rw[e]at f;rw[Kh,Ll];have g:64*n<=64*(n+(l.length+1)):=E7 64 (NX _ _);omega
def Qlj{x:YU}{m}(K:Xp x.config)(c:x.ops.length<=m)(b:m<=1000)(a:∀o∈x.ops,Je.Ok o):(Zz (S0 x.config) x.ops).2.2.length<100000000:=by
 have h:=Qli x.ops (ZC.Nx K) (n:=0) (λj=>Z9 _) a;have d:x.ops.length*(64*(0+x.ops.length)+2)<=1000*(64*1000+2):=X8 ω ω;omega
def Qbt(t:Int):Int->List Ev->Prop
 | _,[]=>True
 | u,v::l=>if v.Zy=true then Qbt t u l else u<=v.at_/\1<=v.len/\v.len<=16384/\0<=v.at_/\v.at_<=4611686018427387904/\v.done=v.at_+v.len*t/\Qbt t v.done l
def Qbu:Int->List Ev->Int
 | u,[]=>u
 | u,v::l=>if v.Zy=true then Qbu u l else Qbu v.done l
structure PkR (c:Cf) (S S':Zj) (l:List Ev):Prop where
 ok:Qbt c.t S.ZR l
 un:Qbu S.ZR l=S'.ZR
 lk:S'.M.lk=c
def QCI(L:List Qq)(x:Qq):List Qq:=if Br L x (up L x.parent).length=0 then Wz L x else L
structure QI6 (L T:List Qq):Prop where
 ok:KU L
 sub:∀c∈L,c∈T
section
variable {T:List Qq}(I:KU T)
include I
end
section
variable {T:List Qq}(I:KU T)
include I
def rounds(T:List Qq):Nat->List Qq
 | 0=>[]
 | r+1=>T.foldl QCI (rounds T r)
end
def Wc(l:Ln):Int:=l.y - (l.m:Int)*l.x
structure AI (m X:Nat) (l:Ln):Prop where
 m:l.m=m
 x:l.x<=X
 y:l.y<=1329227995784915872903807060280344576
def AI.le{m X Y}{l}(h:AI m X l)(e:X<=Y):AI m Y l:=⟨h.m,JL h.x e,h.y⟩
def Qlk{m d}(a:m<=4294967295)(b:d<=9223372036854775807):m*d<=39614081247908796759917199360:=JL (X8 a b) π
def Qbv{m X x}{l}(h:AI m X l)(a:m<=4294967295)(d:X<=x)(c:x<=9223372036854775807):(qC l x:Int)=Wc l+(m:Int)*x:=by
 have hx:=h.x;have b:=h.y;have e:qC l x=l.y+m*(x - l.x):=by
  unfold qC;split
  .rw[show x - l.x=0 by omega];rfl
  .have:=Qlk a (show x - l.x<=9223372036854775807 from ω);rw[h.m,jq ω]
 have f:((m*(x - l.x):Nat):Int)=(m:Int)*x - (m:Int)*l.x:=by
  rw[jm,bC ω,Int.mul_sub]
 unfold Wc;rw[e,h.m];omega
def Qll{m X}{a b}(d:AI m X a)(c:AI m X b)(e:m<=4294967295)(h:X<=9223372036854775807):AI m X (zY a b)/\Wc (zY a b)<=Wc a/\Wc (zY a b)<=Wc b:=by
 have j:=d.x;have i:=c.x;have g:=Qbv ⟨d.m,show a.x<=max a.x b.x by omega,d.y⟩ e (Qs _) ω;have f:=Qbv ⟨c.m,show b.x<=max a.x b.x by omega,c.y⟩ e (Qs _) ω;unfold zY;split
 .exact⟨c,ω,qR _⟩
 .exact⟨d,qR _,ω⟩
def QCJ{n m}(a:0<m):n<=m*cdiv n m:=by
 unfold cdiv;have:=NV (n+m - 1) m;have:=YI (n+m - 1) a;omega
def mU{m X a w}{l}(h:AI m X l)(c:m<=4294967295)(g:X<=a)(f:a<=9223372036854775807)(b:W3 l w<=a):(w:Int)<=Wc l+(m:Int)*a:=by
 have hx:=h.x;rw[<- Qbv h c g f];have e:qC l a=l.y+m*(a - l.x):=by
  unfold qC;have j:=h.y;split
  .rw[show a - l.x=0 by omega];rfl
  .have:=Qlk c (show a - l.x<=9223372036854775807 from ω);rw[h.m,jq ω]
 rw[e];unfold W3 at b;split at b
 .have:w<=l.y+m*(a - l.x):=ω
  exact_mod_cast this
 .split at b
  .unfold never at b;omega
  .rename_i d;rw[h.m]at b d;have k:=QCJ (n:=w - l.y) (m:=m) ω;have i:m*cdiv (w - l.y) m<=m*(a - l.x):=E7 m ω;have:w<=l.y+m*(a - l.x):=ω
   exact_mod_cast this
structure mV (c:Nc) (X:Nat) (r:Rn):Prop where
 b:r.b=decide (c.of=3)
 t:AI c.b X r.t
 f:c.of=3->AI c.a X r.f
structure QCK (c:Nc) (A base:Nat) (r:Rn):Prop where
 t:Wc r.t<=(base:Int)*65536+(if c.of=3 then ((c.a:Int) - c.b)*c.d else 0) - (c.b:Int)*A
 f:c.of=3->Wc r.f<=(base:Int)*65536 - (c.a:Int)*A
structure UlC (c:Nc):Prop where
 k:c.of=2\/c.of=3
 a:c.a<=4294967295
 b:c.b<=4294967295
 d:c.d<=1048576
 ba:c.of=3->c.b<c.a
 two:c.of=2->c.d=0
def mV.le{c}{X Y}{r}(h:mV c X r)(e:X<=Y):mV c Y r:=⟨h.b,h.t.le e,λk=>(h.f k).le e⟩
end Go.Fg.X
namespace Go.Fg.X
open Go.Proofs Go.Fg
open Go.Proofs.Tryz
def QCL{M:Ql}(V:Inv M){a}(c:V8 M a=true):∃n,Qj M.N (ZP M a)=some n/\1<QS n.c.rt:=by
 obtain⟨t1,_,_⟩:=xp M a;unfold V8 at c;unfold ZP;cases b:XE M a with
 | none=>rw[b]at c;cases c
 | some x=>
  rw[b]at c;dsimp only at c ⊢;unfold XE at b;split at b
  .unfold Vj at b;have d:=Gz (ZA M a) a;split at b
   .rename_i y f;cases b;rw[f]at d;have g:y∈(ZA M a).Lv:=(JI.1 d.1).1;obtain⟨n,e,_,_,h,_⟩:=((V.told a).lv y).1 g;exact⟨n,by rw[<- t1];exact e,h⟩
   .obtain⟨id,e,rfl⟩:=WH.1 b;cases c
  .cases b
def Qln{M:Ql}(I:Qz M)(V:Inv M){a}(h:V9 M a=true):∃n,Qj M.N (ZP M a)=some n/\n.c.leaf=true:=by
 obtain⟨t1,_,_⟩:=xp M a;unfold V9 at h;unfold ZP;cases b:XE M a with
 | none=>rw[b]at h;cases h
 | some x=>
  unfold XE at b;split at b
  .obtain⟨n,d,c,_⟩:=(V.told a).pick (As I a) (Gz _ _) b;exact⟨n,by rw[<- t1];exact d,c⟩
  .cases b
structure Gh where
 n:Nat
 g:List (Nat × Nat)
 k:Nat
def Gh.next(a:List Int)(s:Gh)(e:Ev):Gh:=
 if a.contains e.cls=true then (if e.Zy=true then ⟨s.n+1,if s.n=0 then (e.at_.toNat,0)::s.g else s.g,s.k⟩ else ⟨s.n - 1,s.g.map λx=>(x.1,x.2+e.len.toNat),s.k+1⟩) else s
def QCM(c:Nc)(b:Nat)(a:List Int)(s:Gh)(e:Ev):Prop:=
 a.contains e.cls=true->e.Zy=false->∀x∈(s.next a e).g,(x.1:Int)<=e.at_/\x.2<=Jk c.a c.d c.b (e.at_.toNat - x.1) / 65536+b
def Qlo(c:Nc)(b:Nat)(a:List Int):Gh->List Ev->Prop
 | _,[]=>True
 | s,e::l=>QCM c b a s e/\Qlo c b a (s.next a e) l
structure QCN (c:Nc) (g:List (Nat × Nat)) (k X Zw:Nat) (cp:Cp):Prop where
 tk:Zw<=16384*k
 has:g≠[]->cp.has=true
 run:cp.has=true->mV c X cp.run/\cp.fit=KD cp.run (Zw*65536)
 g:∀x∈g,x.1<=X/\x.2<=Zw/\QCK c x.1 (Zw - x.2) cp.run
def QCO{M:Ql}(I:Qz M)(V:Inv M){j}(h:QW M j≠[]):j∈V6 M/\j∈up M.T j:=by
 unfold QW Qv at h;cases c:Qj M.N j with
 | none=>rw[c]at h;exact absurd rfl h
 | some n=>
  have d:n.c.leaf=true:=by
   cases d:n.c.leaf with
   | true=>rfl
   | false=>
    have:=V.BS j n c d;rw[c]at h;refine absurd ?_ h;show n.q.l=[];rw[this]
  have f:=Qz.id (M:=M) c;refine⟨JI.2 ⟨JA.2 ⟨n.c,JI.2 ⟨((VL I.tree.rising).1 (I.some c)).1,d⟩,f⟩,?_⟩,?_⟩
  .show (!(Qv M j).q.l.isEmpty)=true;unfold Qv;rw[c];rw[c]at h;cases e:n.q.l with
   | nil=>exact absurd e h
   | cons a b=>show (!((some n).getD default).q.l.isEmpty)=true;show (!n.q.l.isEmpty)=true;rw[e];rfl
  .rw[gJ I.tree,I.some c];exact Z3
def QCP{M}(I:Qz M)(V:Inv M)(b){l}(i:∀c∈l,JV.Ok c)(j):QW (KO M b l) j=QW M j:=by
 unfold KO;split
 .rename_i a;have g:=(UR I.tree I.vW i).1;have f:wc M (Jy M.T l) b=false:=by
   unfold jM at a;split at a
   .rename_i h;exact absurd a h
   .split at a
    .cases a
    .rename_i h;simpa using h
  have d:Qj (xr M (Jy M.T l)).N j=if j∈Kq M.T (Jy M.T l) then (QC (Jy M.T l) j).map X4 else Qj M.N j:=by
   show Qj (XV M (Jy M.T l)) j=_;rw[Iy I g];exact Gs g.rising j _ _
  by_cases e:j∈Kq M.T (Jy M.T l)
  .rw[Qf e]at d;have n:QW M j=[]:=jX λh=>by
    obtain⟨m,k⟩:=QCO I V h;have:yy M j=true:=Dv.2 ⟨j,m,by simpa using k⟩;unfold wc at f;rw[show (Kq M.T (Jy M.T l)).any (yy M)=true from Dv.2 ⟨j,e,this⟩]at f;cases f
   rw[n];unfold QW Qv;rw[d];cases QC (Jy M.T l) j<;>rfl
  .rw[Qe e]at d;unfold QW Qv;rw[d]
 .rfl
def Qlp{M}(I:Qz M){j}(h:QW M j≠[]):1<=j:=by
 unfold QW Qv at h;cases a:Qj M.N j with
 | none=>rw[a]at h;exact absurd rfl h
 | some n=>
  have b:=Qz.id (M:=M) a;have:=I.tree.ids n.c ((VL I.tree.rising).1 (I.some a)).1;omega
def Ev.pk(e:Ev):Pk:=⟨e.id,e.len,e.h0,e.h1,e.h2,e.h3⟩
def IW(a b:Pk):Bool:=a.iD==b.iD&&(a.len==b.len&&(a.xZ==b.xZ&&(a.x5==b.x5&&(a.x6==b.x6&&a.x7==b.x7))))
def Qlq(a b):IW a b=true↔a=b:=by
 obtain⟨n,m,l,k,j,i⟩:=a;obtain⟨h,g,f,e,d,c⟩:=b;simp[IW]
@[go_sem] def Qlr(x:Cf)(a:Nat)(l:Ev)(done:Int)(q:D):List D:=[Qb x.t,Qb x.ZJ,.mref a 0,Qb l.op,QZ l.Zy,QZ l.real,aO l.at_,aO l.done,Qb l.cls,aO l.id,Qb l.len,.raw (.int .u16 l.h0),.raw (.int .u16 l.h1),.raw (.int .u16 l.h2),.raw (.int .u16 l.h3),aO done,q]
section
variable (h:List Ob)(lb la lm:Nat)(x:Cf)(l:Ev)(done:Int)(q:D)(e:Ev)
 (an:(h.map Ob.ro)[lb]? = some ⟨.WI,0,1,1,λ_=>[.ptr la 0 0 0]⟩) (ha:(h.map Ob.ro)[la]? = some ⟨.WI,0,17,1,λ_=>Qlr x lm l done q⟩)
include an ha
def QCQ(f:Ob->Ob)(h:List Ob)(d:D)(p:List Pk):Prop:=(d=.nil/\p=[])\/∃c g a b,d=.ref c g a p.length/\h[c]? = some (f ⟨.arr,g,6,a+p.length,b⟩)/\∀i,i<p.length->b (a+i)=(p.getD i default).cells
variable {es:List ZQ}{c:Nat}{p:List Pk}(hm:(h.map Ob.ro)[lm]? = some (QR .i64 c es).ro)
include hm
end
section
variable (h:List Ob)(lw:Nat)(e:Ev)(f:FuncId)(lc:Nat)(B:Bool)
end
structure QCR (h:List Ob) (es:List ZQ) (W:Int->List Pk):Prop where
 at_:∀k,QCQ id h ((Ja es k).getD .nil) (W k)
 sep:∀k k' lo g off n g' xL n',Ja es k=some (.ref lo g off n)->Ja es k'=some (.ref lo g' xL n')->k=k'
def QCS(h a:List Ob):Prop:=∀(l:Nat) (o:Ob),h[l]? = some o->o.kd.ty=0->o.sz≠17->o.sz≠6->a[l]? = some o
def xy(W:Int->List Pk)(e:Ev):Int->List Pk:=λk=>if k=e.cls then (if e.Zy then W k++[e.pk] else (W k).tail) else W k
structure QI7 (h:List Ob) (la lm:Nat) (x:Cf) (e:Ev) (done:Int) (q:D) (W:Int->List Pk) (h':List Ob):Prop where
 a:h'[la]? = some ⟨.one,0,17,1,λ_=>Qlr x lm e done q⟩
 m:∃c' es',h'[lm]? = some (QR .i64 c' es')/\QCR h' es' W
 s:QCS h h'
def IX:Ev:=⟨0,false,false,0,0,0,0,0,0,0,0,0⟩
def Ny(l:List Ev):Nat->Int->List Pk
 | 0=>λ_=>[]
 | i+1=>xy (Ny l i) (l.getD i default)
def RO(l:List Ev):Nat->Ev
 | 0=>IX
 | i+1=>l.getD i default
def Qbw(l:List Ev):Nat->Int
 | 0=>0
 | i+1=>if (l.getD i default).Zy then Qbw l i else (l.getD i default).done
def mW(x:Cf)(W:Int->List Pk)(a:Ev)(done:Int)(e:Ev):Nat->Bool
 | 0=>decide (e.op<0\/e.op<a.op\/e.cls<1)
 | 1=>decide (e.at_<a.at_\/4611686018427387904<e.at_)
 | 2=>wm e.pk x.ZJ != 0
 | 3=>e.Zy&&(e.done != 0 || e.real)
 | 4=>!e.Zy&&(W e.cls).length==0
 | 5=>!e.Zy&&!IW ((W e.cls).getD 0 default) e.pk
 | 6=>!e.Zy&&decide (e.at_<done)
 | _=>!e.Zy&&e.done != IntKind.u64.wrap (e.at_+xw e.pk x.t)
def qAt(x:Cf)(l:List Ev)(i k:Nat):Bool:=mW x (Ny l i) (RO l i) (Qbw l i) (l.getD i default) k
def QCT:Nat->Int
 | 0=>1
 | 1=>27
 | 2=>26
 | 3=>4
 | 4=>6
 | 5=>8
 | 6=>24
 | _=>20
section
end
end Go.Fg.X
namespace Go.Fg.X
open Go.Proofs Go.Fg
open Go.Proofs.Tryz
def QCU(l:List Pk):D:=.imm 6 l.length (Pk.rows l)
attribute [go_sem] QCU
end Go.Fg.X
namespace Go.Fg.X
open Go.Proofs Go.Fg
open Go.Proofs.Tryz
def Qls(x:Cf)(l:List Ev)(i:Nat):Option Nat:=(List.range 8).find? (qAt x l i)
def QCV(x:Cf)(l:List Ev):Option Nat:=(List.range l.length).find? λi=>(Qls x l i).isSome
def Qby(x:Cf)(l:List Ev):Int × Int:=if 1<=x.t/\x.t<=65536/\1<=x.ZJ/\x.ZJ<=16384 then (match QCV x l with
 | some i=>(i,match Qls x l i with
  | some k=>QCT k
  | none=>0)
 | none=>(0,0)) else (0,7)
def lA:Ev:=⟨0,true,false,5,0,3,7,100,0,0,0,0⟩
def lB:Ev:=⟨0,false,false,5,105,3,7,100,0,0,0,0⟩
def lC:Ev:=⟨0,false,false,5,104,3,7,100,0,0,0,0⟩
def lX:Cf:=⟨1,100⟩
def v1:Qby lX [lA,lB]=(0,0):=π
def v2:Qby lX [lA,lC]=(1,20):=π
def v3:Qby lX [lB]=(0,6):=π
def GF(d:Int)(e:Ev):Int:=if e.Zy=true then d else e.done
def IY(x:Cf):(Int->List Pk)->Ev->Int->List Ev->Prop
 | _,_,_,[]=>True
 | W,a,d,e::l=>(∀k,k<8->mW x W a d e k=false)/\IY x (xy W e) e (GF d e) l
def Qlt(x):∀(l m:List Ev) (W:Int->List Pk) (a:Ev) (d:Int),IY x W a d l->IY x (l.foldl xy W) (l.foldl (λ_ e=>e) a) (l.foldl GF d) m->IY x W a d (l++m)
 | [],m,W,a,d,_,h=>h
 | e::l,m,W,a,d,b,c=>⟨b.1,Qlt x l m _ _ _ b.2 c⟩
def Qlu(l:List Ev):∀k,k<=l.length->Ny l k=(l.take k).foldl xy (λ_=>[])/\RO l k=(l.take k).foldl (λ_ e=>e) IX/\Qbw l k=(l.take k).foldl GF 0
 | 0,_=>⟨rfl,rfl,rfl⟩
 | k+1,h=>by
  obtain⟨b,c,a⟩:=Qlu l k ω;rw[getD_take _ default _ ω,jY,jY,jY,<- b,<- a];exact⟨rfl,rfl,rfl⟩
def Qlv(x):∀(l:List Ev) (W:Int->List Pk) (a:Ev) (d:Int),IY x W a d l->∀i,i<l.length->∀k,k<8->mW x ((l.take i).foldl xy W) ((l.take i).foldl (λ_ e=>e) a) ((l.take i).foldl GF d) (l.getD i default) k=false
 | [],_,_,_,_,i,c,_,_=>absurd c (Xc i)
 | e::l,W,a,d,h,0,_,k,b=>h.1 k b
 | e::l,W,a,d,h,i+1,c,k,b=>Qlv x l _ _ _ h.2 i (by simpa using c) k b
def mX{x}{l:List Ev}(h:IY x (λ_=>[]) IX 0 l){i}(b:i<l.length){k}(a:k<8):qAt x l i k=false:=by
 obtain⟨e,d,c⟩:=Qlu l i ω;unfold qAt;rw[e,d,c];exact Qlv x l _ _ _ h i b k a
structure GG (x:Cf) (W:Int->List Pk) (a:Ev) (d:Int) (S:Zj):Prop where
 w:∀j,W j=QW S.M j
 d:d=S.ZR
 at_:a.at_<=S.Qd
 o0:a.op<=S.ops
 lk:S.M.lk=x
structure GH (x:Cf) (W:Int->List Pk) (a:Ev) (d:Int) (l:List Ev) (S':Zj):Prop where
 ok:IY x W a d l
 st:GG x (l.foldl xy W) (l.foldl (λ_ e=>e) a) (l.foldl GF d) S'
def QCW(p:Pk):IW p p=true:=(Qlq p p).2 rfl
def Qlw{x:Cf}(K:Xp x){p:Pk}(h:1<=p.len/\p.len<=x.ZJ):wm p x.ZJ=0:=by
 have:=K.l1;have:=K.l2;unfold wm;rw[Qe ω,Qe ω]
def QCX{x:Cf}(K:Xp x){p:Pk}(h:1<=p.len/\p.len<=x.ZJ):xw p x.t=VN x p.len:=by
 have d:=K.t1;have c:=K.t2;have b:=K.l2;have e:=II K h;have a:((VN x p.len:Nat):Int)=p.len*x.t:=by
  unfold VN;rw[jm,EW ω,EW ω]
 unfold xw;rw[Qf ω,<- a,IntKind.wrap_u64];omega
def Qlx{x}{S:Zj}(T:ZC S){W}{a:Ev}{d}(A:GG x W a d S){op}(r:op<=S.ops)(t:a.op<=op):GH x W a d (ZB S op S.Qd).2 (ZB S op S.Qd).1/\(∀e∈(ZB S op S.Qd).2,e.op=op):=by
 refine⟨?_,QCG S op S.Qd⟩;unfold ZB;split
 .exact⟨trivial,A⟩
 .rename_i p;split
  .rename_i h;have b:=T.take_len h;obtain⟨y,L,i,m⟩:=GA T.I T.V h;have f:Xp x:=A.lk▸T.K;rw[A.lk]at b;have q:=II f b;have u:=T.cl;have z:=T.un;have v:=Qlp T.I (j:=ZP S.M S.Qd) (by rw[i];exact bF _ _);have c:=A.w (ZP S.M S.Qd);rw[i]at c;rw[<- m]at c;have w:=A.at_;have s:=A.d;refine⟨⟨λk o=>?_,trivial⟩,?_,?_,?_,?_,?_⟩
   .have l:W (ZP S.M S.Qd)=Jd S.M S.Qd::L:=c;match k,o with
    | 0,_=>exact QU (by show ¬((op:Int)<0\/(op:Int)<a.op\/ZP S.M S.Qd<1);omega)
    | 1,_=>exact QU (by show ¬((S.Qd:Int)<a.at_\/4611686018427387904<(S.Qd:Int));omega)
    | 2,_=>show (wm (Jd S.M S.Qd) x.ZJ != 0)=false;rw[Qlw f b];rfl
    | 3,_=>rfl
    | 4,_=>show ((W (ZP S.M S.Qd)).length==0)=false;rw[l];rfl
    | 5,_=>show (!IW ((W (ZP S.M S.Qd)).getD 0 default) (Jd S.M S.Qd))=false;rw[l];show (!IW (Jd S.M S.Qd) (Jd S.M S.Qd))=false;rw[QCW];rfl
    | 6,_=>exact QU (by show ¬((S.Qd:Int)<d);omega)
    | 7,_=>
     show (((S.Qd+VN S.M.lk (Jd S.M S.Qd).len:Nat):Int) != IntKind.u64.wrap ((S.Qd:Int)+xw (Jd S.M S.Qd) x.t))=false;rw[QCX f b,A.lk,IntKind.wrap_u64];refine Qga ?_;omega
    | n+8,h=>exact absurd h ω
   .intro j;show xy W (AD op (V8 S.M S.Qd) S.Qd (S.Qd+VN S.M.lk (Jd S.M S.Qd).len) (ZP S.M S.Qd) (Jd S.M S.Qd)) j=QW (takeN S.M S.Qd) j;rw[Az];unfold xy;by_cases e:j=ZP S.M S.Qd
    .rw[Qf (show j=(AD op (V8 S.M S.Qd) S.Qd (S.Qd+VN S.M.lk (Jd S.M S.Qd).len) (ZP S.M S.Qd) (Jd S.M S.Qd)).cls from e),Qf (show V9 S.M S.Qd=true/\ZP S.M S.Qd=j from ⟨h,e.symm⟩),A.w j];rfl
    .rw[Qe (show ¬j=(AD op (V8 S.M S.Qd) S.Qd (S.Qd+VN S.M.lk (Jd S.M S.Qd).len) (ZP S.M S.Qd) (Jd S.M S.Qd)).cls from e),Qe (show ¬(V9 S.M S.Qd=true/\ZP S.M S.Qd=j) from λg=>e g.2.symm)];exact A.w j
   .rfl
   .show ((S.Qd:Nat):Int)<=(S.Qd:Nat);omega
   .show ((op:Nat):Int)<=(S.ops:Nat);omega
   .exact(yA _ _).trans A.lk
  .rename_i h;refine⟨trivial,⟨λj=>?_,A.d,A.at_,A.o0,(yA _ _).trans A.lk⟩⟩;show W j=QW (takeN S.M S.Qd) j;rw[Az,Qe λg=>h g.1];exact A.w j
def QCY{l:List Ev}{a:Ev}{c:Nat}(h:∀e∈l,e.op=c)(g:a.op<=c):(l.foldl (λ_ e=>e) a).op<=c:=by
 induction l generalizing a with
 | nil=>exact g
 | cons e l d=>exact d (λb f=>h b (Jw _ f)) (Int.le_of_eq (h e Z3))
def GH.app{x}{W}{a}{d}{l m:List Ev}{c b}(A:GH x W a d l c)(B:GH x (l.foldl xy W) (l.foldl (λ_ e=>e) a) (l.foldl GF d) m b):GH x W a d (l++m) b:=
 ⟨Qlt x l m W a d A.ok B.ok,by rw[jY,jY,jY];exact B.st⟩
def Qly{x}{b e}(l:e<=4611686018427387904):∀(n:Nat) {S:Zj} {W:Int->List Pk} {a:Ev} {d:Int},ZC S->S.Qd<=e->GG x W a d S->b<=S.ops->a.op<=b->GH x W a d (Vf b e n S).2 (Vf b e n S).1
 | 0,S,W,a,d,T,h,A,_,_=>⟨trivial,⟨A.w,A.d,by have:=A.at_;show a.at_<=(e:Nat);omega,A.o0,A.lk⟩⟩
 | n+1,S,W,a,d,T,h,A,c,g=>by
  have r:=A.at_;unfold Vf;split
  .exact⟨trivial,⟨A.w,A.d,by show a.at_<=(e:Nat);omega,A.o0,A.lk⟩⟩
  .rename_i q;have k:=aK S T.cl;have i:=T.at_ k (show Zb S<=4611686018427387904 from ω);have p:GG x W a d { S with Qd:=Zb S }:=⟨A.w,A.d,by show a.at_<=(Zb S:Nat);omega,A.o0,A.lk⟩;obtain⟨j,o⟩:=Qlx i p c g;have m:=i.IK b;have f:=Nq { S with Qd:=Zb S } b (Zb S);have R:=Qly l n m (by
    have:=f.1;show (ZB { S with Qd:=Zb S } b (Zb S)).1.Qd<=e;rw[this];show Zb S<=e;omega) j.st (by show b<=(ZB { S with Qd:=Zb S } b (Zb S)).1.ops;rw[f.2.1];exact c) (QCY o g)
   exact j.app R
def QCZ{x}{S}(T:ZC S){W}{a}{d}(A:GG x W a d S){o:Je}(r:∀c∈o.changes,JV.Ok c):GH x W a d (Kb S o).l (Kb S o).S:=by
 have b:GG x W a d { S with ops:=S.ops+1 }:=⟨A.w,A.d,A.at_,by have:=A.o0;show a.op<=((S.ops+1:Nat):Int);omega,A.lk⟩;have u:=A.o0;show GH x W a d (Wa { S with ops:=S.ops+1 } S.ops o).l (Wa { S with ops:=S.ops+1 } S.ops o).S;unfold Wa;split
 .exact⟨trivial,⟨λj=>(A.w j).trans (QCP T.I T.V _ r j).symm,b.d,b.at_,b.o0,(Rw _ _ _).trans A.lk⟩⟩
 .split
  .split
   .exact⟨trivial,⟨b.w,b.d,b.at_,b.o0,b.lk⟩⟩
   .exact⟨trivial,b⟩
  .split
   .unfold qh;split
    .exact⟨trivial,b⟩
    .split
     .rename_i g;have g:Yp S.M S.Qd (Kj S.R (ZZ o.ZG)) o.ZG=0:=g;have p:=(T.ops (S.ops+1)).put (Kj S.R (ZZ o.ZG)) o.ZG;have w:=p.Jp (Kj S.R (ZZ o.ZG)) S.Qd (by have:=T.cl;omega);have l:=QaW g;rw[A.lk]at l;have s:Xp x:=A.lk▸T.K;have z:=T.cl;have C:=A.at_;have i:∀j,QW (Zr S.M S.Qd (Kj S.R (ZZ o.ZG)) o.ZG) j=if Kj S.R (ZZ o.ZG)=j then QW S.M j++[o.ZG] else QW S.M j:=λj=>by
       rw[IG];by_cases e:Kj S.R (ZZ o.ZG)=j
       .rw[Qf ⟨g,e⟩,Qf e]
       .rw[Qe λh=>e h.2,Qe e]
      have B:=Qlp p.I (j:=Kj S.R (ZZ o.ZG)) (by show QW (Zr S.M S.Qd (Kj S.R (ZZ o.ZG)) o.ZG) _≠[];rw[i,Qf rfl];simp);obtain⟨E,f⟩:∃E,E=Vz S.ops S.Qd (Kj S.R (ZZ o.ZG)) o.ZG:=⟨_,rfl⟩;have y:GG x (xy W E) E d { { S with ops:=S.ops+1 } with M:=Zr S.M S.Qd (Kj S.R (ZZ o.ZG)) o.ZG,st:=wh S.st (Kj S.R (ZZ o.ZG)) S.Qd }:=by
       refine⟨λj=>?_,A.d,?_,?_,(BV _ _ _ _).trans A.lk⟩
       .show xy W E j=QW (Zr S.M S.Qd (Kj S.R (ZZ o.ZG)) o.ZG) j;rw[i];unfold xy;subst f;by_cases e:Kj S.R (ZZ o.ZG)=j
        .rw[Qf e,Qf (show j=(Vz S.ops S.Qd (Kj S.R (ZZ o.ZG)) o.ZG).cls from e.symm),A.w j];rfl
        .rw[Qe e,Qe (show ¬j=(Vz S.ops S.Qd (Kj S.R (ZZ o.ZG)) o.ZG).cls from λh=>e h.symm)];exact A.w j
       .subst f;show ((S.Qd:Nat):Int)<=(S.Qd:Nat);omega
       .subst f;show ((S.ops:Nat):Int)<=((S.ops+1:Nat):Int);omega
      obtain⟨q,_⟩:=Qlx w y (op:=S.ops) (Nat.le_succ _) (by subst f;exact qR _);have v:∀k,k<8->mW x W a d E k=false:=λk t=>by
       subst f;match k,t with
       | 0,_=>exact QU (by show ¬((S.ops:Int)<0\/(S.ops:Int)<a.op\/Kj S.R (ZZ o.ZG)<1);omega)
       | 1,_=>exact QU (by show ¬((S.Qd:Int)<a.at_\/4611686018427387904<(S.Qd:Int));omega)
       | 2,_=>show (wm o.ZG x.ZJ != 0)=false;rw[Qlw s l];rfl
       | 3,_=>rfl
       | 4,_=>rfl
       | 5,_=>rfl
       | 6,_=>rfl
       | 7,_=>rfl
       | n+8,h=>exact absurd h ω
      have m:GF d E=d:=by subst f;rfl
      rw[<- f];refine⟨⟨v,?_⟩,?_⟩
      .rw[m];exact q.ok
      .show GG x (List.foldl xy (xy W E) _) (List.foldl _ E _) (List.foldl GF (GF d E) _) _;rw[m];exact q.st
     .rename_i g;refine⟨trivial,⟨λj=>?_,b.d,b.at_,b.o0,(BV _ _ _ _).trans A.lk⟩⟩;show W j=QW (Zr S.M S.Qd (Kj S.R (ZZ o.ZG)) o.ZG) j;rw[IG,Qe λh=>g h.1];exact A.w j
   .split
    .unfold zA;split
     .exact⟨trivial,b⟩
     .rename_i Qc;have:=T.cl;have Qc:¬(4611686018427387904 - S.Qd<o.Wn.toNat):=Qc;exact Qly (S:={ S with ops:=S.ops+1 }) (by show S.Qd+o.Wn.toNat<=_;omega) _ (T.ops _) (by show S.Qd<=S.Qd+_;omega) b (Nat.le_succ _) u
    .exact⟨trivial,b⟩
def bc{x}:∀(l:List Je) {S:Zj} {W:Int->List Pk} {a:Ev} {d:Int},ZC S->GG x W a d S->(∀o∈l,Je.Ok o)->GH x W a d (Zz S l).2.2 (Zz S l).1
 | [],S,W,a,d,T,A,c=>⟨trivial,A⟩
 | o::l,S,W,a,d,T,A,c=>by
  have e:=(c o Z3).2.1.2;have f:=QCZ T A e;exact f.app (bc l (T.do e) f.st λb g=>c b (Jw _ g))
def Sl(a:List Int)(n:Nat)(e:Ev):Nat:=if a.contains e.cls then (if e.Zy then n+1 else n - 1) else n
def QC0(W:Int->List Pk)(a:List Int):Nat:=(a.map λn=>(W n).length).sum
def Qqg{W b}{a}(h:∀n∈a,b n=W n):QC0 b a=QC0 W a:=by
 unfold QC0;congr 1;exact EX λn c=>by rw[h n c]
def Qgr{W W'}{q:Int}{a b}:∀{c:List Int},c.Nodup->q∈c->(W' q).length+a=(W q).length+b->(∀n,n≠q->W' n=W n)->QC0 W' c+a=QC0 W c+b
 | [],_,h,_,_=>by cases h
 | x::c,d,h,j,f=>by
  rw[Z8]at d;have k:QC0 W' (x::c)=(W' x).length+QC0 W' c:=by simp[QC0]
  have g:QC0 W (x::c)=(W x).length+QC0 W c:=by simp[QC0]
  rw[k,g];by_cases e:x=q
  .subst e;rw[Qqg λn i=>f n λe=>d.1 (e▸i)];omega
  .have l:=Qgr d.2 ((QG.1 h).resolve_left λg=>e g.symm) j f;rw[f x e];omega
def QK9{W}{d:List Int}(j:d.Nodup){e:Ev}(k:e.Zy=false->W e.cls≠[]):QC0 (xy W e) d=Sl d (QC0 W d) e:=by
 have c:∀n,n≠e.cls->xy W e n=W n:=λn h=>by unfold xy;rw[Qe h]
 unfold Sl;by_cases g:d.contains e.cls=true
 .rw[Qf g];have f:e.cls∈d:=by simpa using g
  cases i:e.Zy with
  | true=>
   have:=Qgr (W:=W) (W':=xy W e) (a:=0) (b:=1) j f (by unfold xy;rw[Qf rfl,i,Qf rfl,ZT];rfl) c;rw[Qf rfl];omega
  | false=>
   have l:=k i;have o:0<(W e.cls).length:=List.length_pos_iff.2 l;have:=Qgr (W:=W) (W':=xy W e) (a:=1) (b:=0) j f (by unfold xy;rw[Qf rfl,i,Qe k9,List.length_tail];omega) c;rw[Qe k9];omega
 .rw[Qe g];refine Qqg λn f=>c n λm=>g ?_;rw[<- m];simpa using f
def Qqh{x}{b:List Int}(f:b.Nodup):∀(l:List Ev) (W:Int->List Pk) (a:Ev) (d:Int),IY x W a d l->l.foldl (Sl b) (QC0 W b)=QC0 (l.foldl xy W) b
 | [],W,a,d,_=>rfl
 | e::l,W,a,d,h=>by
  have c:=h.1 4 π;have g:e.Zy=false->W e.cls≠[]:=λi j=>by
   have c:(!e.Zy&&(W e.cls).length==0)=false:=c;rw[i,j]at c;cases c
  rw[xE,xE,<- QK9 f g];exact Qqh f l _ _ _ h.2
def Qqn:∀b:List Int,QC0 (λ_=>[]) b=0
 | []=>rfl
 | a::l=>by
  have:=Qqn l;show ([]:List Pk).length+QC0 (λ_=>[]) l=0;rw[this];rfl
def QLa{c}(K:Xp c)(l:List Je)(e:∀o∈l,Je.Ok o){lv:List Int}(b:lv.Nodup):(Zz (S0 c) l).2.2.foldl (Sl lv) 0=(lv.map λn=>(QW (Zz (S0 c) l).1.M n).length).sum:=by
 have A:=bc (x:=c) l (ZC.Nx K) (W:=λ_=>[]) (a:=IX) (d:=0) ⟨λj=>rfl,rfl,qR _,qR _,rfl⟩ e;have h:=Qqh b _ _ _ _ A.ok;rw[Qqn lv]at h;rw[h];unfold QC0;congr 1;exact EX λn _=>by rw[A.st.w n]
def QC1(n:Nd):Prop:=n.c.ul.Nn/\(¬1<QS n.c.ul->n.cp.has=false/\n.cp.fit=0)
def mY(M:Ql):Prop:=∀n∈M.N,QC1 n
def mZ(M:Ql)(a)(b)(x:Pk):(Zr M a b x).T=M.T:=by
 have h:=(xp M a).2.1;unfold Zr;split
 .unfold Vx;split
  .exact h
  .split
   .split
    .rw[QBi];exact h
    .exact h
   .exact h
 .rfl
structure QC2 (T:List Qq) (u:Int) (c:Nc) (lv:List Int):Prop where
 ul:UlC c
 XS:∀j k,QC T j=some k->k.leaf=true->(j∈lv↔u∈up T j)
 free:∀j∈lv,∀k,QC T j=some k->¬1<QS k.rt/\1<QS k.ls
 nd:lv.Nodup
structure QI8 (T:List Qq) (u:Int) (c:Nc) (lm:Nat) (lv:List Int) (s:Gh) (S:Zj):Prop where
 T:S.M.T=T
 n:s.n=QC0 (QW S.M) lv
 lm:S.M.lk.ZJ.toNat=lm
 S7:∃m,Qj S.M.N u=some m/\Zq m.c.ul=c/\QCN c s.g s.k S.Qd m.Zw m.cp
section
variable {T:List Qq}{u:Int}{c:Nc}{lm:Nat}{lv:List Int}(CT:QC2 T u c lv)
include CT
end
end Go.Fg.X
namespace Go.Fg.X
open Go.Proofs Go.Fg Go.Fg.X.SP
open Go.Proofs.Tryz
def QC4(a d b){t c}(h:t<=c):Jk a d b t<=Jk a d b c:=by
 unfold Jk;split
 .exact Qs _
 .by_cases f:c<=d
  .rw[yK f,yK ω,YJ,YJ];exact Nat.add_le_add_right (E7 a h) _
  .rw[AS (show d<=c from ω)];by_cases e:t<=d
   .rw[yK e,YJ,GU];exact JL (E7 a e) (NX _ _)
   .rw[AS ω];exact Nat.add_le_add_left (E7 b ω) _
def QLb{a:Type}[Inhabited a]{l:List a}{k}(h:k<l.length):l.getD k default∈l:=by
 rw[Q7,QT h];exact zF h
structure EvL (lv:List Int) (l:List Ev):Prop where
 at0:∀e∈l,0<=e.at_
 inc:∀i j,i<=j->j<l.length->(l.getD i default).at_<=(l.getD j default).at_
 len:∀e∈l,e.Zy=false->0<=e.len/\e.len<=16384
 Dm:l.length<100000000
def EO(a:List Int)(l:List Ev)(k:Nat):Gh:=(l.take k).foldl (Gh.next a) ⟨0,[],0⟩
def QlA(a)(l:List Ev){k:Nat}(h:k<l.length):EO a l (k+1)=(EO a l k).next a (l.getD k default):=by
 unfold EO;rw[getD_take l default k h,jY];rfl
def QlB(a)(l:List Ev):∀k,k<=l.length->(EO a l k).n=qP a l k
 | 0,_=>rfl
 | k+1,h=>by
  have b:=QlB a l k ω;rw[QlA a l ω];simp only[qP,Dl];rw[<- b];unfold Gh.next;split
  .split<;>rfl
  .rfl
section
variable {c:Nc}{lm:Nat}{lv:List Int}{l:List Ev}(E:EvL lv l)(H:Qlo c lm lv ⟨0,[],0⟩ l)
include E H
end
def QlC{S:Zj}{o:Je}(f:o.kind≠1):(Kb S o).S.M.T=S.M.T:=by
 have c:∀(S:Zj) (a b:Nat),(ZB S a b).1.M.T=S.M.T:=λS a b=>by
  unfold ZB;split
  .rfl
  .split
   .exact Rx _ _
   .exact Rx _ _
 have g:∀(a e n:Nat) (S:Zj),(Vf a e n S).1.M.T=S.M.T:=λa e n=>by
  induction n with
  | zero=>intro S;rfl
  | succ n d=>
   intro S;unfold Vf;split
   .rfl
   .exact(d _).trans (c _ _ _)
 unfold Kb Wa;rw[Qe f];split
 .split<;>rfl
 .split
  .unfold qh;split
   .rfl
   .split
    .exact(c _ _ _).trans (mZ _ _ _ _)
    .exact mZ _ _ _ _
  .split
   .unfold zA;split
    .rfl
    .exact g _ _ _ _
   .rfl
def QlD:∀(l:List Je) (S:Zj),(∀o∈l,o.kind≠1)->(Zz S l).1.M.T=S.M.T
 | [],S,_=>rfl
 | o::l,S,h=>(QlD l _ λb a=>h b (Jw _ a)).trans (QlC (h o Z3))
def QC5{c}(b)(l:List JV):∀id n,Qj (KO (M0 c) b l).N id=some n->n.Zw=0/\n.cp=default/\n.du=default:=by
 unfold KO;split
 .have p:∀(L:List Int) (f:List Qq) (M:Ql),(∀id n,Qj M.N id=some n->n.Zw=0/\n.cp=default/\n.du=default)->∀id n,Qj (L.foldl (Ka f) M).N id=some n->n.Zw=0/\n.cp=default/\n.du=default:=by
   intro L f;induction L with
   | nil=>intro M h;exact h
   | cons i L g=>
    intro M h;refine g _ λid n a=>?_;unfold Ka at a;split at a
    .rw[Dg]at a;split at a
     .cases a
     .exact h id n a
    .have e:∀(k:Qq) (N:List Nd),Qj (X4 k::jL N i) id=some n->(∀n,Qj N id=some n->n.Zw=0/\n.cp=default/\n.du=default)->n.Zw=0/\n.cp=default/\n.du=default:=λk N a h=>by
      unfold Qj at a;rw[vg]at a;split at a
      .cases a;exact⟨rfl,rfl,rfl⟩
      .have d:Qj (jL N i) id=some n:=a;rw[Dg]at d;split at d
       .cases d
       .exact h n d
     split at a
     .exact e _ _ a (h id)
     .exact e _ _ a (h id)
  have o:=p (Kq (M0 c).T (Jy (M0 c).T l)) (Jy (M0 c).T l) { M0 c with T:=Jy (M0 c).T l } (λid n a=>by simp[M0,Qj]at a);intro id n a;have j:n∈XV (M0 c) (Jy (M0 c).T l):=xF a;obtain⟨k,_,rfl⟩:=JA.1 j;unfold Qv VM;cases m:Qj ((Kq (M0 c).T (Jy (M0 c).T l)).foldl (Ka (Jy (M0 c).T l)) { M0 c with T:=Jy (M0 c).T l }).N k.iD with
  | none=>exact⟨rfl,rfl,rfl⟩
  | some n=>exact o k.iD n m
 .intro id n a;simp[M0,Qj]at a
def QC6{c}(K:Xp c)(b:List Je)(y:b.length<=1000)(v:∀o∈b,Je.Ok o)(w):EvL w (Zz (S0 c) b).2.2:=by
 have A:=bc (x:=c) b (ZC.Nx K) (W:=λ_=>[]) (a:=IX) (d:=0) ⟨λj=>rfl,rfl,qR _,qR _,rfl⟩ v;have n:=λ{i:Nat} (g:i<(Zz (S0 c) b).2.2.length) {k:Nat} (z:k<8)=>mX A.ok g z;have f:=Qlj (x:=⟨c,b⟩) K y (Qs _) v;have f:(Zz (S0 c) b).2.2.length<100000000:=f;obtain⟨l,s⟩:∃l,l=(Zz (S0 c) b).2.2:=⟨_,rfl⟩;rw[<- s]at n f ⊢;have r:∀i,i<l.length->(RO l i).at_<=(l.getD i default).at_:=λi g=>by
  have h:decide ((l.getD i default).at_<(RO l i).at_\/4611686018427387904<(l.getD i default).at_)=false:=n g (k:=1) π;rw[Fb]at h;omega
 have B:∀i,i<l.length->0<=(l.getD i default).at_:=λi=>by
  induction i with
  | zero=>intro g;exact r 0 g
  | succ i m=>
   intro g;have u:=m ω;have q:(l.getD i default).at_<=(l.getD (i+1) default).at_:=r (i+1) g;omega
 refine⟨λe p=>?_,λi j=>?_,λe p _=>?_,f⟩
 .obtain⟨i,g,rfl⟩:=NQ.1 p;have:=B i g;rw[Q7,QT g]at this;exact this
 .induction j with
  | zero=>intro u q;rw[show i=0 by omega];exact qR _
  | succ j m=>
   intro u q;by_cases e:i=j+1
   .rw[e];exact qR _
   .have E:=m ω ω;have C:(l.getD j default).at_<=(l.getD (j+1) default).at_:=r (j+1) q;omega
 .obtain⟨i,g,rfl⟩:=NQ.1 p;have h:(wm (l.getD i default).pk c.ZJ != 0)=false:=n g (k:=2) π;rw[Q7,QT g]at h;have h:(wm (l[i]).pk c.ZJ != 0)=false:=h;have F:=K.l2;unfold wm at h;split at h
  .cases h
  .split at h
   .cases h
   .rename_i t;have t:¬¬(1<=(l[i]).len/\(l[i]).len<=c.ZJ):=t;omega
end Go.Fg.X
namespace Go.Fg.X
open Go.Proofs Go.Fg
open Go.Proofs.Tryz
structure X5 (c:Nc):Prop where
 k:c.of=2\/c.of=3\/c.of=4
 a:c.a<=4294967295
 b:c.b<=4294967295
 d:c.d<=1048576
 ba:c.of=3->c.b<c.a
 two:c.of=2->c.d=0
 four:c.of=4->c.a=0
def m6{c:Cv}(b:c.Nn)(a:1<QS c):X5 (Zq c):=by
 obtain⟨k,j,i⟩:=b;have d:(Zq c).of=2/\c.d=0/\c.m1<=4294967295/\c.m2<=4294967295\/(Zq c).of=3/\c.m2<c.m1/\c.m1<=4294967295/\c.m2<=4294967295/\c.d<=1048576\/(Zq c).of=4/\c.m1=0/\c.m2<=4294967295/\c.d<=1048576:=by
  unfold QS at a;unfold Nc.of J5 Zq;dsimp only
  (repeat' split at a)<;>(try omega)<;>(repeat' split)<;>omega
 have g:(Zq c).a=c.m1.toNat:=rfl;have f:(Zq c).b=c.m2.toNat:=rfl;have e:(Zq c).d=c.d.toNat:=rfl;refine⟨ω,ω,ω,ω,λh=>ω,λh=>ω,λh=>ω⟩
def dX(c:Nc):Nat:=if c.of=4 then c.d else 0
def kX(c:Nc):Int:=if c.of=3 then ((c.a:Int) - c.b)*c.d else 0
def QlE{c}(C:X5 c):0<=kX c:=by
 unfold kX;split
 .rename_i h;have:=C.ba h;exact Int.mul_nonneg ω (Dt _)
 .exact qR _
def wo(c:Nc)(e:Nat)(p:Nat × Nat):Int:=(p.2:Int)*65536+kX c - (c.b:Int)*(p.1+e)
def IZ(c:Nc)(p:Nat × Nat):Int:=(p.2:Int)*65536 - (c.a:Int)*p.1
structure jj (c:Nc) (e lw:Nat) (W:List (Nat × Nat)) (r:Rn):Prop where
 b:r.b=decide (c.of=3)
 t:AI c.b (lw+e) r.t
 f:c.of=3->AI c.a lw r.f
 tl:∀p∈W,Wc r.t<=wo c e p
 te:∃p∈W,Wc r.t=wo c e p
 fl:c.of=3->∀p∈W,Wc r.f<=IZ c p
 fe:c.of=3->∃p∈W,Wc r.f=IZ c p
def QlF{a b}:zY a b=a\/zY a b=b:=by
 unfold zY;split
 .exact .inr rfl
 .exact .inl rfl
def QlG{c}(C:X5 c){a P e}(q:a<=4611686018427387904)(t:P<18446744073709551616){r}
  (h:(r=zZ c a (P*65536)/\e=0)\/(r=Vw c a (P*65536)/\e=dX c)):jj c e a [(a,P)] r:=by
 have s:=C.k;have m:=C.d;by_cases d:c.of=3
 .have g:e=0:=by
   rcases h with ⟨_,h⟩|⟨_,h⟩
   .exact h
   .rw[h];unfold dX;exact Qe ω
  have b:r=⟨⟨a,P*65536,c.a⟩,⟨a,(P*65536+(c.a - c.b)*c.d) % 2 ^ 128,c.b⟩,true⟩:=by
   rcases h with ⟨h,_⟩|⟨h,_⟩
   .rw[h,td d]
   .rw[h];unfold Vw;rw[Qe ω,td d]
  have o:=C.ba d;have l:(c.a - c.b)*c.d<=4503599626321920:=by
   have u:=C.a;exact JL (X8 (show c.a - c.b<=4294967295 from ω) m) π
  have em:(P*65536+(c.a - c.b)*c.d) % 2 ^ 128=P*65536+(c.a - c.b)*c.d:=jq ω;have n:(((c.a - c.b)*c.d:Nat):Int)=kX c:=by unfold kX;rw[Qf d,jm,bC ω]
  rw[em]at b;have i:Wc r.t=wo c e (a,P):=by
   rw[b,g];unfold Wc wo;rw[<- n];show ((P*65536+(c.a - c.b)*c.d:Nat):Int) - (c.b:Int)*a=(P:Int)*65536+(((c.a - c.b)*c.d:Nat):Int) - (c.b:Int)*((a:Int)+(0:Nat));rw[show ((a:Int)+(0:Nat))=(a:Int) by omega];omega
  have j:Wc r.f=IZ c (a,P):=by
   rw[b];unfold Wc IZ;show ((P*65536:Nat):Int) - (c.a:Int)*a=(P:Int)*65536 - (c.a:Int)*a;omega
  refine⟨by rw[b];exact(Q1 d).symm,?_,λ_=>?_,λp f=>?_,⟨_,Sk _,i⟩,λ_ p f=>?_,λ_=>⟨_,Sk _,j⟩⟩
  .rw[b];exact⟨rfl,NX _ _,by show P*65536+(c.a - c.b)*c.d<=_;omega⟩
  .rw[b];exact⟨rfl,Qs _,by show P*65536<=_;omega⟩
  .rw[Xq]at f;rw[f,i];exact qR _
  .rw[Xq]at f;rw[f,j];exact qR _
 .have b:r.b=false/\r.t=⟨a+e,P*65536,c.b⟩:=by
   rcases h with ⟨h,g⟩|⟨h,g⟩
   .rw[h,g,Us ω];exact⟨rfl,rfl⟩
   .rw[h,g];unfold Vw dX;split
    .rw[jq ω];exact⟨rfl,rfl⟩
    .rw[Us ω];exact⟨rfl,rfl⟩
  have i:Wc r.t=wo c e (a,P):=by
   rw[b.2];unfold Wc wo kX;rw[Qe d];show ((P*65536:Nat):Int) - (c.b:Int)*((a+e:Nat):Int)=(P:Int)*65536+0 - (c.b:Int)*((a:Int)+e);rw[Int.natCast_add];omega
  refine⟨by rw[b.1];exact(QU d).symm,?_,λk=>absurd k d,λp f=>?_,⟨_,Sk _,i⟩,λk=>absurd k d,λk=>absurd k d⟩
  .rw[b.2];exact⟨rfl,Qs _,by show P*65536<=_;omega⟩
  .rw[Xq]at f;rw[f,i];exact qR _
def QlH{c}(C:X5 c){e m d}{p}{W}{r s}(w:m<=d)(y:d<=4611686018427387904)(z:e<=1048576)(g:jj c e m W r)(l:jj c e d [p] s):jj c e d (p::W) (Y0 r s):=by
 have u:=g.t.le (show m+e<=d+e from ω);obtain⟨t1,t2,t3⟩:=Qll u l.t C.b ω;have v:=l.tl p (Sk _);have t:∃q∈p::W,Wc (zY r.t s.t)=wo c e q:=by
  rcases QlF (a:=r.t) (b:=s.t) with h|h
  .obtain⟨q,i,j⟩:=g.te;exact⟨q,Jw _ i,by rw[h,j]⟩
  .obtain⟨q,i,j⟩:=l.te;rw[Xq]at i;exact⟨p,Z3,by rw[h,j,i]⟩
 have o:∀q∈p::W,Wc (zY r.t s.t)<=wo c e q:=λq hq=>by
  rcases QG.1 hq with rfl|hq
  .exact Int.le_trans t3 v
  .exact Int.le_trans t2 (g.tl q hq)
 by_cases f:c.of=3
 .have x:r.b=true:=g.b.trans (Q1 f);have n:(Y0 r s).f=zY r.f s.f:=by unfold Y0;rw[x];rfl
  obtain⟨f1,f2,f3⟩:=Qll ((g.f f).le w) (l.f f) C.a ω;refine⟨g.b,t1,λ_=>by rw[n];exact f1,o,t,λ_ q hq=>?_,λ_=>?_⟩
  .rw[n];rcases QG.1 hq with rfl|hq
   .exact Int.le_trans f3 (l.fl f q (Sk _))
   .exact Int.le_trans f2 (g.fl f q hq)
  .rw[n];rcases QlF (a:=r.f) (b:=s.f) with h|h
   .obtain⟨q,i,j⟩:=g.fe f;exact⟨q,Jw _ i,by rw[h,j]⟩
   .obtain⟨q,i,j⟩:=l.fe f;rw[Xq]at i;exact⟨p,Z3,by rw[h,j,i]⟩
 .exact⟨g.b,t1,λk=>absurd k f,o,t,λk=>absurd k f,λk=>absurd k f⟩
def RP{m X x w}{l}(h:AI m X l)(i:m<=4294967295)(p:X<=x)(o:x<=4611686018428436480)(c:x<W3 l w):Wc l+(m:Int)*x<w:=by
 have hx:=h.x;have e:((m*(x - l.x):Nat):Int)=(m:Int)*x - (m:Int)*l.x:=by rw[jm,bC ω,Int.mul_sub]
 unfold Wc;rw[h.m];suffices l.y+m*(x - l.x)<w by omega
 have b:∀k,x - l.x<k->k<=cdiv (w - l.y) m->0<m->l.y<w->l.y+m*(x - l.x)<w:=λk j n d f=>by
  have:m*(x - l.x)<w - l.y:=by
   refine NZ λg=>?_;have:cdiv (w - l.y) m<=x - l.x:=by
    unfold cdiv;rw[Nat.div_le_iff_le_mul_add_pred d];omega
   omega
  omega
 unfold W3 at c;split at c
 .omega
 .rename_i f;rw[h.m]at c;by_cases d:m=0
  .rw[d,E9];omega
  .split at c
   .rename_i a;rcases a with a|a|a|a
    .exact absurd a d
    .exact b _ ω a ω ω
    .unfold never at a;omega
    .exact b (never - l.x) (by unfold never;omega) a ω ω
   .exact b (cdiv (w - l.y) m) ω (Qs _) ω ω
structure kY (c:Nc) (t0 base:Nat) (r:Rn):Prop where
 t:Wc r.t+(c.b:Int)*((t0:Int)+dX c)<=(base:Int)*65536+kX c
 f:c.of=3->Wc r.f+(c.a:Int)*t0<=(base:Int)*65536\/Wc r.t+(c.b:Int)*t0<=(base:Int)*65536
def AJ{c:Nc}(C:X5 c)(t):Jk c.a c.d c.b t=c.a*min t c.d+c.b*(t - min t c.d):=by
 have b:=C.k;have a:J5 c.a c.d c.b=c.of:=rfl;unfold Jk;rw[a,Qe ω]
def kY.ser{c}(C:X5 c){s a b V x}{W}{r}(l:kY c a b r)(j:jj c (dX c) s W r)(F:s+dX c<=x)(v:x<=9223372036854775807)(g:KD r (V*65536)<=x)(S:b<V):
  a<x/\V*65536<=b*65536+Jk c.a c.d c.b (x - a):=by
 have R:=C.k;have z:W3 r.t (V*65536)<=x:=by
  unfold KD at g;split at g<;>omega
 have P:=mU j.t C.b F v z;have n:=l.t;rw[AJ C];have M:=QlE C;have mono:∀(m y:Nat),y<=a->(m:Int)*y<=(m:Int)*a:=λm y h=>Sb ω (Dt _);have p:(c.b:Int)*((a:Int)+dX c)=(c.b:Int)*a+(c.b:Int)*dX c:=EV _ _ _;have K:(0:Int)<=(c.b:Int)*dX c:=Int.mul_nonneg (Dt _) (Dt _);by_cases e:c.of=3
 .have L:=C.ba e;have q:W3 r.f (V*65536)<=x:=by
   unfold KD at g;rw[Qf (j.b.trans (Q1 e))]at g;omega
  have Q:=mU (j.f e) C.a ω v q;have o:dX c=0:=Qe ω;have k:kX c=((c.a:Int) - c.b)*c.d:=Qf e;rw[o]at n p K;have w:a<x:=NZ λh=>by
   have E:=mono c.a x h;have O:=mono c.b x h;rcases l.f e with d|d<;>omega
  refine⟨w,?_⟩;obtain⟨t,u⟩:∃t,t=x - a:=⟨_,rfl⟩;have i:(x:Int)=a+t:=ω;have T:(c.a:Int)*x=(c.a:Int)*a+(c.a:Int)*t:=by rw[i,EV]
  have I:(c.b:Int)*x=(c.b:Int)*a+(c.b:Int)*t:=by rw[i,EV]
  have N:((c.a*t:Nat):Int)=(c.a:Int)*t:=jm _ _;have B:((c.b*t:Nat):Int)=(c.b:Int)*t:=jm _ _;have Z:c.b*t<=c.a*t:=Vm t ω;rw[<- u];by_cases H:t<=c.d
  .rw[yK H,YJ,GU,xG];rcases l.f e with d|d<;>omega
  .rw[AS ω];have Y:((c.a*c.d:Nat):Int)=(c.a:Int)*c.d:=jm _ _;have U:((c.b*(t - c.d):Nat):Int)=(c.b:Int)*t - (c.b:Int)*c.d:=by rw[jm,bC ω,Int.mul_sub]
   have J:((c.a:Int) - c.b)*c.d=(c.a:Int)*c.d - (c.b:Int)*c.d:=Int.sub_mul _ _ _;rw[k,J]at n;omega
 .have k:kX c=0:=Qe e;rw[k]at n;have w:a+dX c<x:=NZ λh=>by
   have E:(c.b:Int)*x<=(c.b:Int)*((a:Int)+dX c):=Sb ω (Dt _);omega
  refine⟨ω,?_⟩;obtain⟨t,u⟩:∃t,t=x - a - dX c:=⟨_,rfl⟩;have i:(x:Int)=(a:Int)+dX c+t:=ω;have I:(c.b:Int)*x=(c.b:Int)*((a:Int)+dX c)+(c.b:Int)*t:=by rw[i,EV]
  have B:((c.b*t:Nat):Int)=(c.b:Int)*t:=jm _ _;by_cases d:c.of=4
  .have o:dX c=c.d:=Qf d;rw[C.four d,E9,JM,AS ω,show x - a - c.d=t by omega];omega
  .have o:dX c=0:=Qe d;rw[C.two ω,Nat.min_zero,GU,JM,B8,show x - a=t by omega];omega
section
variable {c:Nc}(C:X5 c)
include C
theorem m7{a P V}{W}{r}(m:a<=4611686018427387904)(d:jj c (dX c) a W r)(g:(a,P)∈W)(o:P<V):a+dX c<KD r (V*65536):=NZ λh=>by
 have n:=C.d;have l:dX c<=1048576:=by unfold dX;split<;>omega
 by_cases e:c.of=3
 .have j:r.b=true:=d.b.trans (Q1 e);have p:dX c=0:=Qe ω;have f:W3 r.f (V*65536)<=a:=by
   unfold KD at h;rw[Qf j]at h;omega
  have k:=mU (d.f e) C.a (Qs _) ω f;have b:=d.fl e _ g;unfold IZ at b;dsimp only at b;omega
 .have i:W3 r.t (V*65536)<=a+dX c:=by
   unfold KD at h;split at h<;>omega
  have k:=mU d.t C.b (Qs _) ω i;have b:=d.tl _ g;unfold wo kX at b;rw[Qe e]at b;dsimp only at b;rw[Int.natCast_add]at k;omega
theorem QlI{g t P}{W}{i d}(b:jj c 0 g W d)(h:jj c (dX c) g W i)(v:∀p∈W,p.1<=g)(x:g<=t)(I:t<=4611686018427387904)(f:t<KD d (P*65536)):kY c t P i:=by
 have F:=QlE C;have B:Wc i.t=Wc d.t - (c.b:Int)*dX c:=by
  have o:∀p,wo c (dX c) p=wo c 0 p - (c.b:Int)*dX c:=λp=>by
   unfold wo;rw[show ((p.1:Int)+(0:Nat))=(p.1:Int) by omega,EV];omega
  obtain⟨p,e,m⟩:=b.te;obtain⟨q,l,r⟩:=h.te;have j:=b.tl q l;have s:=h.tl p e;rw[o]at s r;omega
 by_cases a:c.of=3
 .have z:d.b=true:=b.b.trans (Q1 a);have n:dX c=0:=Qe ω;have J:kX c=((c.a:Int) - c.b)*c.d:=Qf a;rw[n,show (((0:Nat):Int))=0 from rfl,Int.mul_zero]at B;have K:Wc i.f=Wc d.f:=by
   obtain⟨p,e,m⟩:=b.fe a;obtain⟨q,l,r⟩:=h.fe a;have j:=b.fl a q l;have s:=h.fl a p e;omega
  unfold KD at f;rw[Qf z]at f;by_cases y:t<W3 d.f (P*65536)
  .have k:=RP (b.f a) C.a x ω y;obtain⟨p,e,m⟩:=b.fe a;have j:=b.tl p e;have H:=v p e;have E:=C.ba a;have w:((c.a:Int) - c.b)*p.1<=((c.a:Int) - c.b)*t:=Sb ω ω;rw[Int.sub_mul,Int.sub_mul]at w;unfold wo at j;unfold IZ at m;rw[show ((p.1:Int)+(0:Nat))=(p.1:Int) by omega]at j;refine⟨?_,λ_=>.inl ω⟩;rw[n,show ((t:Int)+(0:Nat))=(t:Int) by omega];omega
  .have k:=RP b.t C.b ω ω (show t<W3 d.t (P*65536) from ω);refine⟨?_,λ_=>.inr ω⟩;rw[n,show ((t:Int)+(0:Nat))=(t:Int) by omega];omega
 .have u:t<W3 d.t (P*65536):=by
   unfold KD at f;rw[Qe (by rw[b.b,QU a];exact k9)]at f;exact f
  have k:=RP b.t C.b ω ω u;refine⟨?_,λk=>absurd k a⟩;rw[EV];omega
theorem QlJ{b a P}{W}{r}(d:jj c (dX c) a ((a,P)::W) r)(h:b<=a):kY c b P r:=by
 have f:=d.tl _ Z3;have j:(c.b:Int)*((b:Int)+dX c)<=(c.b:Int)*((a:Int)+dX c):=Sb ω (Dt _);have i:(c.a:Int)*b<=(c.a:Int)*a:=Sb ω (Dt _);unfold wo at f;dsimp only at f;refine⟨ω,λg=>.inl ?_⟩;have e:=d.fl g _ Z3;unfold IZ at e;dsimp only at e;omega
omit C in
theorem kY.mono{e s i j a}{W n}{r b}(m:kY c j a r)(l:jj c e s W r)(o:jj c e i n b)(k:∀p∈W,p∈n):kY c j a b:=by
 have u:Wc b.t<=Wc r.t:=by
  obtain⟨p,d,q⟩:=l.te;have:=o.tl p (k p d);omega
 have w:=m.t;refine⟨ω,λg=>?_⟩;have v:Wc b.f<=Wc r.f:=by
  obtain⟨p,d,q⟩:=l.fe g;have:=o.fl g p (k p d);omega
 rcases m.f g with h|h
 .exact .inl ω
 .exact .inr ω
theorem QbC{i x V}{W}{r}(b:jj c (dX c) i W r)(g:∀p∈W,p.1<=i)(q:i+dX c<=x)(n:x<=4611686018428436480)(h:x<KD r (V*65536)):
  ∃p∈W,p.1<=x/\p.2*65536+Jk c.a c.d c.b (x - p.1)<V*65536:=by
 have L:=C.k;by_cases e:c.of=3
 .have E:r.b=true:=b.b.trans (Q1 e);have J:=C.ba e;have m:dX c=0:=Qe ω;have s:kX c=((c.a:Int) - c.b)*c.d:=Qf e;rw[Int.sub_mul]at s;unfold KD at h;rw[Qf E]at h;have f:∀p∈W,∃t:Nat,t=x - p.1/\(x:Int)=p.1+t:=λp z=>⟨_,rfl,by have:=g p z;omega⟩;by_cases B:x<W3 r.f (V*65536)
  .have k:=RP (b.f e) C.a ω n B;obtain⟨p,a,d⟩:=b.fe e;obtain⟨t,t1,t2⟩:=f p a;have o:=g p a;refine⟨p,a,ω,?_⟩;rw[<- t1,AJ C];unfold IZ at d;have M:(c.a:Int)*x=(c.a:Int)*p.1+(c.a:Int)*t:=by rw[t2,EV]
   have y:c.a*min t c.d+c.b*(t - min t c.d)<=c.a*t:=by
    have u:c.b*(t - min t c.d)<=c.a*(t - min t c.d):=Vm _ ω;have H:c.a*min t c.d+c.a*(t - min t c.d)=c.a*t:=by rw[<- xI];congr 1;omega
    omega
   have K:((c.a*t:Nat):Int)=(c.a:Int)*t:=jm _ _;omega
  .have k:=RP b.t C.b q n (show x<W3 r.t (V*65536) from ω);obtain⟨p,a,d⟩:=b.te;obtain⟨t,t1,t2⟩:=f p a;have o:=g p a;refine⟨p,a,ω,?_⟩;rw[<- t1,AJ C];unfold wo at d;rw[m,show ((p.1:Int)+(0:Nat))=(p.1:Int) by omega,s]at d;have I:(c.b:Int)*x=(c.b:Int)*p.1+(c.b:Int)*t:=by rw[t2,EV]
   have N:((c.a*c.d:Nat):Int)=(c.a:Int)*c.d:=jm _ _;have O:((c.b*c.d:Nat):Int)=(c.b:Int)*c.d:=jm _ _;have w:((c.b*t:Nat):Int)=(c.b:Int)*t:=jm _ _;have y:c.a*min t c.d+c.b*(t - min t c.d)+c.b*c.d<=c.a*c.d+c.b*t:=by
    by_cases j:t<=c.d
    .rw[yK j,YJ,GU,xG];have u:c.b*(c.d - t)<=c.a*(c.d - t):=Vm _ ω;rw[Nat.mul_sub,Nat.mul_sub]at u;have H:c.a*t<=c.a*c.d:=E7 _ j;have F:c.b*t<=c.b*c.d:=E7 _ j;omega
    .rw[AS ω,Nat.mul_sub];have F:c.b*c.d<=c.b*t:=E7 _ ω;omega
   omega
 .have v:x<W3 r.t (V*65536):=by
   unfold KD at h;rw[Qe (by rw[b.b,QU e];exact k9)]at h;exact h
  have k:=RP b.t C.b q n v;obtain⟨p,a,d⟩:=b.te;have o:=g p a;obtain⟨t,t1⟩:∃t,t=x - p.1 - dX c:=⟨_,rfl⟩;have t2:(x:Int)=(p.1:Int)+dX c+t:=ω;refine⟨p,a,ω,?_⟩;unfold wo kX at d;rw[Qe e]at d;have I:(c.b:Int)*x=(c.b:Int)*((p.1:Int)+dX c)+(c.b:Int)*t:=by rw[t2,EV]
  have w:((c.b*t:Nat):Int)=(c.b:Int)*t:=jm _ _;rw[AJ C];by_cases l:c.of=4
  .have m:dX c=c.d:=Qf l;rw[C.four l,E9,JM,AS ω,show x - p.1 - c.d=t by omega];omega
  .have m:dX c=0:=Qe l;rw[C.two ω,Nat.min_zero,GU,JM,B8,show x - p.1=t by omega];omega
end
def QlK(l){w a}(h:w<=a):W3 l w<=W3 l a:=by
 by_cases b:w<=l.y
 .unfold W3;rw[Qf b];exact Z9 _
 .have d:cdiv (w - l.y) l.m<=cdiv (a - l.y) l.m:=Nat.div_le_div_right ω;unfold W3;rw[Qe b,Qe (show ¬a<=l.y from ω)];split
  .rename_i c;rw[Qf ω];exact Qs _
  .rename_i c;split
   .omega
   .omega
def QDb(r){w a}(h:w<=a):KD r w<=KD r a:=by
 have c:=QlK r.f h;have b:=QlK r.t h;unfold KD;split<;>omega
def QDc(c:Nc){t a}(h:t<=a):Jk c.a c.d c.b t<=Jk c.a c.d c.b a:=QC4 c.a c.d c.b h
structure W5 (c:Nc) (X:Nat) (W:List (Nat × Nat)) (u:Du) (h:Nat):Prop where
 has:u.has=true↔W≠[]
 none:W=[]->h=0
 run:∀lw P L,W=(lw,P)::L->lw<=X/\jj c (dX c) lw W u.dl/\jj c 0 lw W u.rd/\∀p∈W,p.1<=lw
 pk:∀p∈W,p.2<=u.QA
 hd:0<h->u.KN=KD u.rd (u.QA*65536)/\u.dead=KD u.dl ((u.QA+h)*65536)
section
variable (R:List Int)(cv:Int->Nc)(K T:Nat)
structure QD (d t0:Nat) (B:Int->Nat) (u:Int->Du) (h:Int->Nat) (ZR:Nat):Prop where
 bb:∀r∈R,B r<=(u r).QA/\((u r).QA - B r)*65536<=Jk (cv r).a (cv r).d (cv r).b (d - t0)/\(B r<(u r).QA->t0<d)
 un:ZR<=t0+K+(R.map λr=>(u r).QA - B r).sum*T
 q:∀r∈R,(0<h r/\d<(u r).dead)\/(h r=0/\(u r).QA=B r)\/kY (cv r) t0 (B r) (u r).dl
end
section
variable {R:List Int}{cv:Int->Nc}{K T:Nat}
def QlL(f:Int->Nat):∀(l:List Int),(∀r∈l,f r=0)->(l.map f).sum=0
 | [],_=>rfl
 | a::l,h=>by
  rw[Jo,vj,h a Z3,QlL f l λr b=>h r (Jw _ b)]
def QbD{f g:Int->Nat}{q}{n}:∀{l:List Int},l.Nodup->q∈l->g q=f q+n->(∀r∈l,r≠q->g r=f r)->(l.map g).sum=(l.map f).sum+n
 | [],_,h,_,_=>by cases h
 | a::l,c,h,i,d=>by
  rw[Z8]at c;rw[Jo,Jo,vj,vj];by_cases e:a=q
  .subst e;rw[i,show l.map g=l.map f from EX λr b=>d r (Jw _ b) λe=>c.1 (e▸b)];omega
  .rw[d a Z3 e,QbD c.2 ((QG.1 h).resolve_left λj=>e j.symm) i λr b=>d r (Jw _ b)];omega
def QlM{P n b c a}(h:(P+n)*65536<=b*65536+a)(d:a<=c):(P+n - b)*65536<=c:=by
 rw[Nat.sub_mul];omega
def QD.reset{d t ZR}{u}{h}(e:ZR<=t+K)(b:∀r∈R,h r=0\/d<(u r).dead\/kY (cv r) t (u r).QA (u r).dl):QD R cv K T d t (λr=>(u r).QA) u h ZR:=by
 refine⟨λr a=>⟨Qs _,?_,λh=>absurd h (B6 _)⟩,?_,λr a=>?_⟩
 .rw[YJ,E9];exact Z9 _
 .omega
 .rcases b r a with h1|h1|h1
  .exact .inr (.inl ⟨h1,rfl⟩)
  .by_cases c:h r=0
   .exact .inr (.inl ⟨c,rfl⟩)
   .exact .inl ⟨ω,h1⟩
  .exact .inr (.inr h1)
def QD.aB{d f l}{B}{u c}{h k}{q:Int}(Q:QD R cv K T d f B u h l)(s:h q=0)(j:∀r∈R,r≠q->c r=u r/\k r=h r)(m:(c q).QA=(u q).QA)
  (i:kY (cv q) f (u q).QA (c q).dl) (n:(u q).QA=0\/∀b,kY (cv q) f b (u q).dl->kY (cv q) f b (c q).dl):QD R cv K T d f B c k l:=by
 have g:∀r∈R,(c r).QA=(u r).QA:=λr a=>by
  by_cases e:r=q
  .rw[e,m]
  .rw[(j r a e).1]
 refine⟨λr a=>by rw[g r a];exact Q.bb r a,?_,λr a=>?_⟩
 .have:=Q.un;rw[show (R.map λr=>(c r).QA - B r)=R.map λr=>(u r).QA - B r from EX λr a=>by rw[g r a]];exact this
 .by_cases e:r=q
  .subst e;rcases Q.q r a with h1|h1|h1
   .omega
   .refine .inr (.inr ?_);rw[<- h1.2];exact i
   .refine .inr (.inr ?_);rcases n with h2|h2
    .have:=(Q.bb r a).1;rw[show B r=(u r).QA by omega];exact i
    .exact h2 _ h1
  .obtain⟨p,o⟩:=j r a e;rw[p,o];exact Q.q r a
def QD.pick{d c F j a}{B}{u i}{h s}{q}{m}{W}(Q:QD R cv K T d c B u h F)(w:R.Nodup)(k:q∈R)(C:X5 (cv q))
  (S:j<=c+K+(R.map λr=>(u r).QA - B r).sum*T) (b:jj (cv q) (dX (cv q)) m W (u q).dl) (t:m+dX (cv q)<=(u q).dead) (M:(u q).dead<=d) (H:(u q).dead<=9223372036854775807)
  (O:0<h q) (L:h q=a) (J:(u q).dead=KD (u q).dl (((u q).QA+a)*65536))
  (l:∀r∈R,r≠q->i r=u r/\s r=h r) (o:(i q).QA=(u q).QA+a) (I:(i q).dl=(u q).dl):QD R cv K T d c B i s (j+a*T):=by
 have N:=Q.bb q k;have p:kY (cv q) c (B q) (u q).dl:=by
  rcases Q.q q k with h1|h1|h1
  .omega
  .omega
  .exact h1
 obtain⟨P,y⟩:=p.ser C (V:=(u q).QA+a) b t H ω ω;have x:=QDc (cv q) (show (u q).dead - c<=d - c from ω);refine⟨λr b=>?_,?_,λr b=>?_⟩
 .by_cases e:r=q
  .subst e;rw[o];exact⟨ω,QlM y x,λ_=>ω⟩
  .rw[(l r b e).1];exact Q.bb r b
 .have v:=QbD (f:=λr=>(u r).QA - B r) (g:=λr=>(i r).QA - B r) (n:=a) w k (by rw[o];omega) λr b e=>by rw[(l r b e).1]
  rw[v,Kh];omega
 .by_cases e:r=q
  .subst e;rw[I];exact .inr (.inr p)
  .obtain⟨E,z⟩:=l r b e;rw[E,z];exact Q.q r b
def QlN{f g:Int->Nat}:∀(l:List Int),(∀r∈l,f r<=g r)->(l.map f).sum<=(l.map g).sum
 | [],_=>Qs _
 | a::l,h=>by
  have d:=h a Z3;have c:=QlN l λr b=>h r (Jw _ b);rw[Jo,Jo,vj,vj];omega
def QlO(f:Int->Nat)(n:Nat):∀l:List Int,(l.map λr=>f r*n).sum=(l.map f).sum*n
 | []=>σ
 | a::l=>by
  rw[Jo,Jo,vj,vj,QlO f n l,Kh]
def QD.done{d a j n}{B}{u}{h}{q}(Q:QD R cv K T d a B u h j)(m:R.Nodup)(l:q∈R)
  (x:∀t,(R.map λr=>Jk (cv r).a (cv r).d (cv r).b t).sum*T<=65536*t) (o:((u q).QA+n - B q)*65536<=Jk (cv q).a (cv q).d (cv q).b (d - a)) (y:a<=d):j+n*T<=d+K:=by
 have k:=QbD (f:=λr=>(u r).QA - B r) (g:=λr=>if r=q then (u r).QA - B r+n else (u r).QA - B r) (n:=n) m l (by rw[Qf rfl]) λr c e=>by rw[Qe e]
 have b:=QlN (f:=λr=>(if r=q then (u r).QA - B r+n else (u r).QA - B r)*65536) (g:=λr=>Jk (cv r).a (cv r).d (cv r).b (d - a)) R λr c=>by
  have:=Q.bb r c;by_cases e:r=q
  .subst e;rw[Qf rfl];have:(u r).QA - B r+n=(u r).QA+n - B r:=ω;rw[this];exact o
  .rw[Qe e];exact this.2.1
 rw[QlO,k]at b;have w:=x (d - a);have v:=Q.un;obtain⟨X,p⟩:∃X,X=(R.map λr=>(u r).QA - B r).sum:=⟨_,rfl⟩;rw[<- p]at b v;have i:(X+n)*65536*T<=65536*(d - a):=JL (Vm T b) w;have s:(X+n)*T<=d - a:=by
  rw[bZ,E6 _ 65536]at i;exact Nat.le_of_mul_le_mul_left i π
 rw[Kh]at s;omega
end
def zD(n:Nd):Qq × Du:=(n.c,n.du)
def QDd{M:Ql}{a}{n}(h:Qj M.N a=some n)(r)(j):
  (Qj (XU M a r).N j).map zD=(Qj M.N j).map λm=>(m.c,if j=a/\1<QS n.c.rt then (if r then kF m.du (n.q.l.headD default).len (Xk (Kv n.q)) else W6 m.du (Xk (Kv n.q))) else m.du):=by
 have s:Qv M a=n:=by unfold Qv;rw[h];rfl
 unfold XU;dsimp only;rw[(Ez _ _).1,s];generalize y:(n.q.l.headD default).len=b;have x:Qj (Ws M a).N a=some { n with q:=Kv n.q }:=by
  have:=QAz (f:=λm:Nd=>{ m with q:=Kv (Qv M a).q }) (λ_=>rfl) h;have e:(Ws M a).N=Wj M.N a λm:Nd=>{ m with q:=Kv (Qv M a).q }:=rfl;rw[e,this,s]
 obtain⟨c,p,g,k,i⟩:=uP b.toNat (up M.T a) (Ws M a) a x;have v:Qv ((up M.T a).foldl (VG b.toNat) (Ws M a)) a=c:=by unfold Qv;rw[p];rfl
 have o:(Qj (Wr ((up M.T a).foldl (VG b.toNat) (Ws M a)) a b r).N j).map zD=(Qj M.N j).map λm=>(m.c,if j=a/\1<QS n.c.rt then (if r then kF m.du b (Xk (Kv n.q)) else W6 m.du (Xk (Kv n.q))) else m.du):=by
  have g:c.c=n.c:=g;have k:c.q=Kv n.q:=k;have i:c.du=n.du:=i;have u:(Qj ((up M.T a).foldl (VG b.toNat) (Ws M a)).N j).map zD=(Qj M.N j).map zD:=by
   rw[wg (key:=zD) (step:=VG b.toNat) (λw j l=>QaG _ (λ_=>rfl) w j l)];exact aA (f:=λm:Nd=>{ m with q:=Kv (Qv M a).q }) (λ_=>rfl) (λ_=>rfl) j
  rw[QaI,v,g];by_cases d:j=a/\1<QS n.c.rt
  .rw[Qf d];obtain⟨rfl,t⟩:=d;rw[p,h];unfold zD qJ;rw[k,i];simp[t,g]
  .rw[Qe d,u];congr 1;funext m;rw[Qe d];rfl
 split
 .rw[<- o];unfold XT;split
  .rw[wg (key:=zD) (Gy (λ_=>rfl))]
  .rfl
 .exact o
def QDe(M)(b)(c a j:Int):(Qj (qf M b c a).N j).map zD=(Qj (WL M b c a).N j).map zD:=by
 unfold qf;split
 .rw[(Ez _ _).1,wg (key:=zD) (λM j c=>QaC b (λ_ _=>rfl) M j c)]
 .rfl
def QlP{M}(b)(a)(x)(j):
  (Qj (Vx M b a x).N j).map zD=(Qj M.N j).map λm=>(m.c,if VH M a x=0/\(Qv M a).q.l=[]/\j=a/\1<QS m.c.rt then Xl m.du (Zq m.c.rt) b x.len else m.du):=by
 have c:∀j,(Qj (KW M a x).N j).map zD=(Qj M.N j).map zD:=λj=>
  aA (f:=λm=>{ m with q:=X2 (Qv M a).c.Z4 (Qv M a).c.bytes (Qv M a).q x }) (λ_=>rfl) (λ_=>rfl) j
 have l:∀(_:¬(VH M a x=0/\(Qv M a).q.l=[])),(Qj M.N j).map zD=(Qj M.N j).map λm=>(m.c,if VH M a x=0/\(Qv M a).q.l=[]/\j=a/\1<QS m.c.rt then Xl m.du (Zq m.c.rt) b x.len else m.du):=λh=>by
  congr 1;funext m;rw[Qe λi=>h ⟨i.1,i.2.1⟩];rfl
 unfold Vx;split
 .rename_i h;rw[<- l λi=>by rw[i.1]at h;cases h];exact c j
 .split
  .rename_i r;split
   .rename_i g;rw[QDe,l9];have s:zD (Qv (jK (KW M a x) (M.acc+x.len.toNat)) a)=zD (Qv M a):=Qkq (c a);have v:(Qv (jK (KW M a x) (M.acc+x.len.toNat)) a).c=(Qv M a).c:=congrArg Prod.fst s;have u:(Qv (jK (KW M a x) (M.acc+x.len.toNat)) a).du=(Qv M a).du:=congrArg Prod.snd s;rw[v,u];show Option.map zD (if j=a/\1<QS (Qv M a).c.rt then (Qj (KW M a x).N j).map (λn=>{ n with du:=Xl (Qv M a).du (Zq (Qv M a).c.rt) b x.len }) else Qj (KW M a x).N j)=_;by_cases o:j=a
    .subst o;have d:=c j;cases p:Qj M.N j with
     | none=>
      rw[p]at d;have:Qj (KW M j x).N j=none:=by
       cases z:Qj (KW M j x).N j with
       | none=>rfl
       | some y=>rw[z]at d;cases d
      rw[this];split<;>rfl
     | some m=>
      have B:Qv M j=m:=by unfold Qv;rw[p];rfl
      rw[p]at d;obtain⟨y,w,k⟩:=WH.1 d;have t:y.c=m.c:=congrArg Prod.fst k;have C:y.du=m.du:=congrArg Prod.snd k;rw[w,KA];rw[B]at g ⊢;by_cases e:1<QS m.c.rt
      .rw[Qf ⟨rfl,e⟩,KA,KA,Qf ⟨r,g,rfl,e⟩];unfold zD;dsimp only;rw[t]
      .rw[Qe λh=>e h.2,KA,KA,Qe λh=>e h.2.2.2,k];rfl
    .rw[Qe λh=>o h.1,c j];congr 1;funext m;rw[Qe λh=>o h.2.2.1];rfl
   .rename_i g;rw[<- l λh=>g h.2];exact c j
  .rename_i r;rw[<- l λh=>r h.1]
def GI{n}(h:n<18446744073709551616):V5 n=n:=by unfold V5;exact jq h
def W5.Qd{c}{X Y h}{W}{u}(I:W5 c X W u h)(e:X<=Y):W5 c Y W u h:=
 ⟨I.has,I.none,λa P L b=>⟨JL (I.run a P L b).1 e,(I.run a P L b).2⟩,I.pk,I.hd⟩
def QlQ{c}(C:X5 c):dX c<=1048576:=by
 have:=C.d;unfold dX;split<;>omega
def W5.aB{c}(C:X5 c){X}{W}{u:Du}(I:W5 c X W u 0)(i:X<=4611686018427387904)(hp:u.QA<=1152921504606846976){a}(z:1<=a)(y:a<=16384):
  W5 c X ((X,u.QA)::W) (Xl u c X a) a.toNat/\(Xl u c X a).QA=u.QA/\(∀g L,jj c (dX c) g L u.dl->(∃P,∃n,W=(g,P)::n/\L=W)->u.has=true->∀t0 d,kY c t0 d u.dl->kY c t0 d (Xl u c X a).dl):=by
 have hd:=QlQ C;have e:Xl u c X a=⟨true,z6 u u.dl (Vw c X (u.QA*65536)),z6 u u.rd (zZ c X (u.QA*65536)),u.QA,KD (z6 u u.rd (zZ c X (u.QA*65536))) (u.QA*65536),KD (z6 u u.dl (Vw c X (u.QA*65536))) (V5 (u.QA+a.toNat)*65536)⟩:=by
  unfold Xl W6;rw[Qf ω]
 have m:=QlG C i (show u.QA<18446744073709551616 from ω) (r:=zZ c X (u.QA*65536)) (.inl ⟨rfl,rfl⟩);have l:=QlG C i (show u.QA<18446744073709551616 from ω) (r:=Vw c X (u.QA*65536)) (.inr ⟨rfl,rfl⟩);have b:jj c (dX c) X ((X,u.QA)::W) (z6 u u.dl (Vw c X (u.QA*65536)))/\jj c 0 X ((X,u.QA)::W) (z6 u u.rd (zZ c X (u.QA*65536))):=by
  unfold z6;cases k:u.has with
  | true=>
   have f:=I.has.1 k;cases W with
   | nil=>exact absurd rfl f
   | cons p L=>
    obtain⟨j,x,w,_⟩:=I.run p.1 p.2 L rfl;exact⟨QlH C j i hd x l,QlH C j i (Z9 _) w m⟩
  | false=>
   have f:W=[]:=jX λh=>by
    have:=I.has.2 h;rw[k]at this;cases this
   subst f;exact⟨l,m⟩
 rw[e];refine⟨⟨⟨λ_=>bF _ _,λ_=>rfl⟩,λh=>absurd h (bF _ _),λg P L f=>?_,λp hp=>?_,λ_=>⟨rfl,?_⟩⟩,rfl,λg L o s k t0 d t=>?_⟩
 .cases f;refine⟨Qs _,b.1,b.2,λp hp=>?_⟩;rcases QG.1 hp with rfl|hp
  .exact Qs _
  .cases W with
   | nil=>cases hp
   | cons q L=>
    obtain⟨j,_,_,v⟩:=I.run q.1 q.2 L rfl;exact JL (v p hp) j
 .rcases QG.1 hp with rfl|hp
  .exact Qs _
  .exact I.pk p hp
 .show KD _ (V5 (u.QA+a.toNat)*65536)=KD _ ((u.QA+a.toNat)*65536);rw[GI ω]
 .obtain⟨P,n,f,rfl⟩:=s;exact t.mono o b.1 λp hp=>Jw _ hp
def W5.head{c}{X h}{W}{u:Du}(I:W5 c X W u h)(a:W≠[])(d:u.QA<=1152921504606846976){h2:Int}(b:h2<=16384):W5 c X W (W6 u h2) h2.toNat/\(W6 u h2).QA=u.QA/\(W6 u h2).dl=u.dl:=by
 unfold W6;split
 .refine⟨⟨I.has,λh=>absurd h a,I.run,I.pk,λ_=>⟨rfl,?_⟩⟩,rfl,rfl⟩;show KD _ (V5 (u.QA+h2.toNat)*65536)=KD _ ((u.QA+h2.toNat)*65536);rw[GI ω]
 .refine⟨⟨I.has,λh=>absurd h a,I.run,I.pk,λh=>ω⟩,rfl,rfl⟩
def W5.QDf{c}{X h}{W}{u:Du}(I:W5 c X W u h)(e:W≠[])(d:u.QA<=1152921504606830592){len a}(l:len<=16384)(b:a<=16384):
  W5 c X W (kF u len a) a.toNat/\(kF u len a).QA=u.QA+len.toNat/\(kF u len a).dl=u.dl:=by
 have f:V5 (u.QA+len.toNat)=u.QA+len.toNat:=GI ω;have k:W5 c X W { u with QA:=V5 (u.QA+len.toNat) } 0:=
  ⟨I.has,λh=>absurd h e,I.run,λp d=>by show p.2<=V5 (u.QA+len.toNat);have:=I.pk p d;omega,λh=>absurd h (B6 0)⟩
 obtain⟨j,i,g⟩:=k.head e (h2:=a) (by show V5 (u.QA+len.toNat)<=_;omega) b;exact⟨j,i.trans f,g⟩
section
variable {R:List Int}{cv:Int->Nc}{K T:Nat}(hn:R.Nodup)(hC:∀r∈R,X5 (cv r)){t ZR:Nat}{W:Int->List (Nat × Nat)}{u:Int->Du}{h:Int->Nat}
 (hL:∀r∈R,W5 (cv r) t (W r) (u r) (h r)) (ht:t<=4611686018427387904)
include hC hL ht
theorem QbE{r:Int}(c:r∈R){x}(k:0<h r)(d:x<(u r).KN)(l:x<=t)(i:∀b P L,W r=(b,P)::L->b<=x):kY (cv r) x (u r).QA (u r).dl:=by
 have I:=hL r c;cases a:W r with
 | nil=>have:=I.none a;omega
 | cons p L=>
  obtain⟨m,g,f,e⟩:=I.run p.1 p.2 L a;have j:=I.hd k;rw[a]at e;rw[a]at g f;rw[j.1]at d;exact QlI (hC r c) f g e (i p.1 p.2 L a) ω d
theorem QDg(m:ZR<=t+K)(n:∀r∈R,0<h r->t<(u r).KN){a}{e}(k:∀r∈R,(a r).QA=(u r).QA/\(a r).dl=(u r).dl/\(0<e r->0<h r))(d):
  QD R cv K T d t (λr=>(a r).QA) a e ZR:=by
 refine QD.reset m λr b=>?_;obtain⟨i,g,f⟩:=k r b;by_cases c:e r=0
 .exact .inl c
 .have c:0<h r:=f ω;rw[i,g];exact .inr (.inr (QbE hC hL ht b c (n r b c) (Qs _) λj P L l=>((hL r b).run j P L l).1))
include hn
theorem QDh(a5:1<=K)(Bi:ZR<=t)(BY:ZR<t->∀r∈R,0<h r->∀c P L,W r=(c,P)::L->t<=(u r).KN\/c=t)(M:∀r∈R,∀c P L,W r=(c,P)::L->(u r).QA=P\/c<ZR)
  {q:Int} (i:q∈R) (F:0<h q) (y:∀r∈R,0<h r->(u r).KN<=t->(u q).dead<=(u r).dead) (J:h q*T<=K) {b:Int->Du} {k:Int->Nat}
  (E:∀r∈R,r≠q->b r=u r/\k r=h r) (N:(b q).QA=(u q).QA+h q) (Ad:(b q).dl=(u q).dl) (x:0<k q->(u q).dead<=(b q).dead)
  {d:Nat} (hd:d<=9223372036854775807) (l:∃t0 B,t0<=t/\QD R cv K T d t0 B u h ZR):∃t0 B,t0<=t/\QD R cv K T d t0 B b k (t+h q*T)/\((u q).dead<=d->B q<(b q).QA):=by
 by_cases Qc:d<(u q).dead
 .refine⟨t,_,Qs _,QD.reset ω (λr a=>?_),λh=>absurd h ω⟩;by_cases e:r=q
  .subst e;by_cases j:k r=0
   .exact .inl j
   .have:=x ω;exact .inr (.inl ω)
  .obtain⟨Z,Y⟩:=E r a e;rw[Z,Y];by_cases j:h r=0
   .exact .inl j
   .by_cases U:(u r).KN<=t
    .have:=y r a ω U;exact .inr (.inl ω)
    .exact .inr (.inr (QbE hC hL ht a ω ω (Qs _) λc P L n=>((hL r a).run c P L n).1))
 .have I:=hL q i;cases m:W q with
  | nil=>have:=I.none m;omega
  | cons p L=>
   obtain⟨a1,v,a3,a4⟩:=I.run p.1 p.2 L m;have VW:=I.pk p (by rw[m];exact Z3);rw[m]at v;have z:=(I.hd F).2;have O:=m7 (hC q i) (P:=p.2) (V:=(u q).QA+h q) ω v Z3 ω;rw[<- z]at O;have f:∀t0 B,t0<=t->t<=t0+K+(R.map λr=>(u r).QA - B r).sum*T->QD R cv K T d t0 B u h ZR->∃t0 B,t0<=t/\QD R cv K T d t0 B b k (t+h q*T)/\((u q).dead<=d->B q<(b q).QA):=λt0 B s o Q=>
    ⟨t0,B,s,Q.pick hn i (hC q i) o v ω ω ω F rfl z E N Ad,λ_=>by have:=(Q.bb q i).1;omega⟩
   by_cases C:ZR=t
   .obtain⟨t0,B,s,Q⟩:=l;have:=Q.un;exact f t0 B s ω Q
   .have C:ZR<t:=ω;refine f (t - 1) _ ω ?_ (QD.reset (ZR:=ZR) ω λr a=>?_)
    .have:(R.map λr=>(u r).QA - (u r).QA).sum=0:=QlL _ _ λr _=>YJ _;rw[this];omega
    .by_cases j:h r=0
     .exact .inl j
     .refine .inr (.inr ?_);have H:=hL r a;cases g:W r with
      | nil=>have:=H.none g;omega
      | cons p L=>
       obtain⟨s,o,b3,b4⟩:=H.run p.1 p.2 L g;by_cases w:p.1=t
       .have S:(u r).QA=p.2:=(M r a p.1 p.2 L g).resolve_right ω;rw[S];rw[g]at o;exact QlJ (hC r a) (W:=L) o ω
       .have a0:=(BY C r a ω p.1 p.2 L g).resolve_right w;exact QbE hC hL ht a ω ω ω λc P L' n=>by
         rw[g]at n;cases n;omega
end
def QK(M:Ql)(r:Int):Du:=(Qv M r).du
def GJ(l:List Pk):Nat:=match l with|[]=>0|p::_=>p.len.toNat
def Z7(M:Ql)(r:Int):Nat:=GJ (QW M r)
def QlS(q:Qu):(Xk q).toNat=GJ q.l:=by
 unfold Xk GJ;cases q.l<;>rfl
structure xz (T:List Qq) (R:List Int) (cv:Int->Nc):Prop where
 nd:R.Nodup
 mem:∀r,r∈R↔∃k,QC T r=some k/\k.leaf=true/\1<QS k.rt
 cv:∀r∈R,∀k,QC T r=some k->cv r=Zq k.rt/\X5 (cv r)
def Nz{M:Ql}{a}(h:V9 M a=true)(I:Qz M)(V:Inv M){r}{n}(e:Qj M.N r=some n):
  QK (takeN M a) r=if r=ZP M a/\1<QS n.c.rt then (if V8 M a then kF n.du (Jd M a).len (Xk (Kv n.q)) else W6 n.du (Xk (Kv n.q))) else n.du:=by
 obtain⟨m,b,_⟩:=Qln I V h;obtain⟨t1,_,_⟩:=xp M a;unfold V9 at h;unfold ZP at b;unfold takeN ZP Jd V8;cases f:XE M a with
 | none=>rw[f]at h;cases h
 | some x=>
  rw[f]at b;dsimp only at b ⊢;have o:Qv M x.1=m:=by unfold Qv;rw[b];rfl
  have l:Qj (ZA M a).N x.1=some m:=by rw[t1];exact b
  have c:=QDd l x.2 r;rw[t1,e,KA]at c;obtain⟨y,j,i⟩:=WH.1 c;have g:y.du=_:=congrArg Prod.snd i;unfold QK Qv;rw[j,Vn,g];dsimp only;by_cases d:r=x.1
  .subst d;rw[e]at b;cases b;have k:(Qj M.N x.1).getD default=n:=by rw[e];rfl
   rw[k]
  .rw[Qe λh=>d h.1,Qe λh=>d h.1]
def QlT(M)(a)(r:Int)(h:V9 M a=true):Z7 (takeN M a) r=if r=ZP M a then GJ (QW M r).tail else Z7 M r:=by
 unfold Z7;rw[Az];by_cases e:r=ZP M a
 .rw[Qf e,Qf ⟨h,e.symm⟩]
 .rw[Qe e,Qe λb=>e b.2.symm]
def ng{M}{a}(h:¬V9 M a=true)(r):QK (takeN M a) r=QK M r/\Z7 (takeN M a) r=Z7 M r:=by
 have e:takeN M a=ZA M a:=by
  unfold V9 at h;unfold takeN;cases b:XE M a with
  | none=>rfl
  | some x=>rw[b]at h;exact absurd rfl h
 refine⟨?_,?_⟩
 .unfold QK Qv;rw[e,(xp M a).1]
 .unfold Z7;rw[Az,Qe λc=>h c.1]
def bg{T}{R}{l}(G:xz T R l){M:Ql}(I:Qz M)(V:Inv M)(j:M.T=T){r:Int}(i:r∈R)(a:0<Z7 M r):(⟨(QK M r).KN,r,(QK M r).dead,r⟩:It)∈M.Lv:=by
 obtain⟨k,d,h,g⟩:=(G.mem r).1 i;rw[<- j]at d;obtain⟨n,c,b⟩:=I.Ij d;have f:Qv M r=n:=by unfold Qv;rw[c];rfl
 refine(V.lv _).2 ⟨n,c,by rw[b];exact h,?_,by rw[b];exact g,?_⟩
 .intro e;unfold Z7 QW at a;rw[f,e]at a;exact B6 0 a
 .unfold QK;rw[f]
def QbF{T}{R}{e}(G:xz T R e){M:Ql}(I:Qz M)(V:Inv M)(c:M.T=T){r:Int}(a:r∈R)(d:0<Z7 M r){t}(f:t<=4611686018427387904)(b:t<=Ve M):t<=(QK M r).KN:=GS λh=>by
 have hx:=bg G I V c a d;have g:=(QaR V.qg.1 (now:=(QK M r).KN) ω).2 ⟨_,hx,Qs _⟩;unfold Ve at b;omega
def QDk{M:Ql}{a}(c:V8 M a=true)(i:a<=4611686018427387904):∃y∈M.Lv,y.ki=ZP M a/\y.ka<=a/\∀x∈M.Lv,x.ka<=a->y.va<=x.va:=by
 have e:(ZA M a).Lv=M.Lv:=by unfold ZA;split<;>rfl
 unfold V8 at c;unfold ZP;cases b:XE M a with
 | none=>rw[b]at c;cases c
 | some x=>
  rw[b]at c;dsimp only at c ⊢;unfold XE at b;split at b
  .unfold Vj at b;have d:=Gz (ZA M a) a;split at b
   .rename_i y g;cases b;rw[g]at d;obtain⟨f,h⟩:=JI.1 d.1;simp only[Xd]at h;refine⟨y,by rw[<- e];exact f,rfl,ω,λx hx j=>?_⟩;exact V0.va d (JI.2 ⟨by rw[e];exact hx,by simp only[Xd];omega⟩)
   .obtain⟨id,f,rfl⟩:=WH.1 b;cases c
  .cases b
def QlU{M:Ql}{a}(h:V9 M a=true)(d:V8 M a=false)(g:a<=4611686018427387904):∀x∈M.Lv,a<x.ka:=by
 have f:(ZA M a).Lv=M.Lv:=by unfold ZA;split<;>rfl
 unfold V9 at h;unfold V8 at d;cases b:XE M a with
 | none=>rw[b]at h;cases h
 | some x=>
  rw[b]at d;dsimp only at d;unfold XE at b;split at b
  .unfold Vj at b;have c:=Gz (ZA M a) a;split at b
   .cases b;cases d
   .rename_i e;rw[e]at c;have c:(ZA M a).Lv.filter (λx=>decide (x.ka<=min a 9223372036854775807))=[]:=c;intro x hx;rw[List.filter_eq_nil_iff]at c;have:=c x (by rw[f];exact hx);simp only[Xd]at this;omega
  .cases b
end Go.Fg.X
