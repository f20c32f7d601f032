/- Contracts and laws on the way to the statement. No conditions. -/
import Derived.Test.YtmkmaijnnmaaoaaGreatTMzF
import Derived.Test.YtmkmaijnnmaaoaaGreatCA3F
import Derived.Test.YtmkmaijnnmaaoaaGreatTM2F
import Derived.Test.YtmkmaijnnmaaoaaGreatSC7F
import Derived.Test.YtmkmaijnnmaaoaaGreatTO1F
set_option maxRecDepth 100000
set_option maxHeartbeats 16000000
set_option linter.unusedVariables false
set_option linter.unusedSimpArgs false
set_option linter.unusedSectionVars false
set_option linter.defProp false
namespace Go.Fg.X
open Go.Proofs Go.Fg
open Go.Proofs.Tryz
def qQ(r:Int)(a:Nat)(l:List Ev):Nat:=(l.map λe=>if e.Zy=false/\e.cls=r/\e.real=true/\(a:Int)<e.done then e.len.toNat else 0).sum
def jS(r:Int)(b a:Nat)(l:List Ev):Nat:=(l.map λe=>if e.Zy=false/\e.cls=r/\(b:Int)<e.done/\e.done<=(a:Int) then e.len.toNat else 0).sum
def ni(r)(c)(a b:List Ev):qQ r c (a++b)=qQ r c a+qQ r c b:=by unfold qQ;rw[jZ,List.sum_append]
def QbK(r)(d c)(a b:List Ev):jS r d c (a++b)=jS r d c a+jS r d c b:=by unfold jS;rw[jZ,List.sum_append]
def QbL{f g:Ev->Nat}:∀(l:List Ev),(∀e∈l,f e<=g e)->(l.map f).sum<=(l.map g).sum
 | [],_=>Qs _
 | a::l,h=>by
  have d:=h a Z3;have c:=QbL l λr b=>h r (Jw _ b);rw[Jo,Jo,vj,vj];omega
def QDo(r)(d){a b}(h:a<=b)(l:List Ev):jS r d a l<=jS r d b l:=QbL l λe _=>by
 split
 .rename_i c;rw[Qf ⟨c.1,c.2.1,c.2.2.1,ω⟩];exact Qs _
 .exact Z9 _
def Ql1{r:Int}{Ju a:Nat}{l:List Ev}(h:∀e∈l,e.Zy=false->e.done<=(a:Int)):qQ r Ju l<=jS r Ju a l:=QbL l λe c=>by
 split
 .rename_i b;rw[Qf ⟨b.1,b.2.1,b.2.2.2,h e c b.1⟩];exact Qs _
 .exact Z9 _
structure RS (R:List Int) (cv:Int->Nc) (K:Nat) (W:Int->List (Nat × Nat)) (l:List Ev) (S:Zj):Prop where
 dn:∀e∈l,e.Zy=false->e.done<=(S.ZR:Int)
 fl:∀r∈R,∃n:Nat,(n:Int)<=S.M.lk.ZJ/\(∀Ju,qQ r Ju l<=jS r Ju S.Qd l+n)/\(n=0\/∃δ,∃p∈W r,S.ZR<=δ+K/\p.1<δ/\p.2*65536+Jk (cv r).a (cv r).d (cv r).b (δ - 1 - p.1)<(QK S.M r).QA*65536)
 sn:∀r∈R,∀p∈W r,(QK S.M r).QA<=p.2+qQ r p.1 l
def RS.Qd{R}{d}{K}{W}{l}{S:Zj}(h:RS R d K W l S){Y}(e:S.Qd<=Y):RS R d K W l { S with Qd:=Y }:=
 ⟨h.dn,λr f=>by
  obtain⟨n,j,i,g⟩:=h.fl r f;exact⟨n,j,λc=>by
   have a:=i c;have b:=QDo r c e l;show qQ r c l<=jS r c Y l+n;omega,g⟩,h.sn⟩
section
variable {T:List Qq}{R:List Int}{cv:Int->Nc}{K Tk:Nat}(G:xz T R cv)
include G
theorem QDp{W}{k}{S}{l}(I:ZC S)(h:AK T R cv K Tk W k S)(E:RS R cv K W l S)
  (J:Nat) (h':¬S.Qd<S.ZR->V9 S.M S.Qd=true->V8 S.M S.Qd=true->(QK S.M (ZP S.M S.Qd)).dead<=9223372036854775807->S.Qd+VN S.M.lk (Jd S.M S.Qd).len<=(QK S.M (ZP S.M S.Qd)).dead+K) (U:k+(ZB S J S.Qd).2.length<=1000000000) :
  RS R cv K W (l++(ZB S J S.Qd).2) (ZB S J S.Qd).1:=by
 have hT:=h.T;have Y:∀r∈R,X5 (cv r):=λr b=>by
  obtain⟨kk,k1,_⟩:=(G.mem r).1 b;exact(G.cv r b kk k1).2
 have Ew:=I.K;unfold ZB at U ⊢;split at U
 .rename_i O;rw[Qf O];rw[Jv];exact E
 .rename_i O;rw[Qe O];split at U
  .rename_i d;rw[Qf d];have Qr:k+1<=1000000000:=U;obtain⟨x,L,hq,hx⟩:=GA I.I I.V d;have H:=I.take_len d;have Qc:=II Ew H;have vU:=Ew.l2;have a0:VN S.M.lk (Jd S.M S.Qd).len<=K:=by
    rw[<- h.kk,<- h.tk];exact Vm _ ω
   have KI:∀e∈l,e.Zy=false->e.done<=(S.Qd:Int):=λe he hi=>by have:=E.dn e he hi;omega
   obtain⟨v,t⟩:∃v,v=AD J (V8 S.M S.Qd) S.Qd (S.Qd+VN S.M.lk (Jd S.M S.Qd).len) (ZP S.M S.Qd) (Jd S.M S.Qd):=⟨_,rfl⟩;have v1:v.Zy=false:=by rw[t];rfl
   have v2:v.cls=ZP S.M S.Qd:=by rw[t];rfl
   have v3:v.real=V8 S.M S.Qd:=by rw[t];rfl
   have v4:v.done=((S.Qd+VN S.M.lk (Jd S.M S.Qd).len:Nat):Int):=by rw[t];rfl
   have v5:v.len=(Jd S.M S.Qd).len:=by rw[t];rfl
   rw[<- t];have one:∀r c,qQ r c [v]=if v.Zy=false/\v.cls=r/\v.real=true/\(c:Int)<v.done then v.len.toNat else 0:=λr c=>by unfold qQ;simp
   have F:∀r c,jS r c S.Qd [v]=0:=λr c=>by
    unfold jS;simp only[Jo,Qa7,vj,List.sum_nil,xG];rw[Qe];rintro⟨_,_,_,h5⟩;rw[v4]at h5;omega
   have s:∀r∈R,¬(r=ZP S.M S.Qd/\V8 S.M S.Qd=true)->(QK (takeN S.M S.Qd) r).QA=(QK S.M r).QA:=λr b QE=>by
    obtain⟨n,m,j,M,y,n5⟩:=NA G I hT b;rw[Nz d I.I I.V m];have q:QK S.M r=n.du:=by unfold QK;rw[j]
    rw[q];by_cases e:r=ZP S.M S.Qd
    .have f:V8 S.M S.Qd=false:=by
      cases f:V8 S.M S.Qd with
      | false=>rfl
      | true=>exact absurd ⟨e,f⟩ QE
     rw[Qf ⟨e,y⟩,f];show (W6 n.du _).QA=n.du.QA;unfold W6;split<;>rfl
    .rw[Qe λh=>e h.1]
   refine⟨λe he hi=>?_,λr b=>?_,λr b p Q=>?_⟩
   .show e.done<=((S.Qd+VN S.M.lk (Jd S.M S.Qd).len:Nat):Int);rcases QX.1 he with he|he
    .have:=KI e he hi;omega
    .rw[Xq]at he;rw[he,v4];exact qR _
   .show ∃n:Nat,(n:Int)<=(takeN S.M S.Qd).lk.ZJ/\(∀c,qQ r c (l++[v])<=jS r c S.Qd (l++[v])+n)/\(n=0\/∃g,∃p∈W r,S.Qd+VN S.M.lk (Jd S.M S.Qd).len<=g+K/\p.1<g/\p.2*65536+Jk (cv r).a (cv r).d (cv r).b (g - 1 - p.1)<(QK (takeN S.M S.Qd) r).QA*65536);rw[yA];by_cases z:r=ZP S.M S.Qd/\V8 S.M S.Qd=true
    .obtain⟨e,f⟩:=z;refine⟨(Jd S.M S.Qd).len.toNat,ω,λc=>?_,.inr ?_⟩
     .rw[ni,QbK,F,one];have a:=Ql1 (r:=r) (Ju:=c) KI;have:(if v.Zy=false/\v.cls=r/\v.real=true/\(c:Int)<v.done then v.len.toNat else 0)<=(Jd S.M S.Qd).len.toNat:=by
       split
       .rw[v5];exact Qs _
       .exact Z9 _
      omega
     ·
      obtain⟨n,m,j,M,y,n5⟩:=NA G I hT b;have q:QK S.M r=n.du:=by unfold QK;rw[j]
      have u:=h.lf r b;have hh:Z7 S.M r=(Jd S.M S.Qd).len.toNat:=by
       unfold Z7;rw[e,hq,hx];rfl
      have ji:=h.pk r b;cases o:W r with
      | nil=>have:=u.none o;omega
      | cons i L0=>
       obtain⟨a1,C,a3,B⟩:=u.run i.1 i.2 L0 o;have VW:=u.pk i (by rw[o];exact Z3);have N:=(u.hd ω).2;rw[hh]at N;have JN:(QK (takeN S.M S.Qd) r).QA=(QK S.M r).QA+(Jd S.M S.Qd).len.toNat:=by
        rw[Nz d I.I I.V m,Qf ⟨e,y⟩,f,q];rw[q]at ji;show (kF n.du _ _).QA=_;unfold kF W6;split
        .exact GI ω
        .exact GI ω
       rw[JN];have Z1:=I.cl;rw[o]at C B;have hg:=m7 (Y r b) (P:=i.2) (V:=(QK S.M r).QA+(Jd S.M S.Qd).len.toNat) ω C Z3 ω;rw[<- N]at hg;have a5:=QlQ (Y r b);by_cases a6:(QK S.M r).dead<=4611686018428436480
       .obtain⟨w,w1,w2,Z⟩:=QbC (Y r b) (x:=(QK S.M r).dead - 1) C B ω ω (show (QK S.M r).dead - 1<KD (QK S.M r).dl (((QK S.M r).QA+(Jd S.M S.Qd).len.toNat)*65536) by rw[<- N];omega);refine⟨(QK S.M r).dead,w,w1,?_,ω,Z⟩;have:=h' O d f (by rw[<- e];omega);rw[<- e]at this;exact this
       .obtain⟨w,w1,w2,Z⟩:=QbC (Y r b) (x:=4611686018428436480) C B ω ω (show 4611686018428436480<KD (QK S.M r).dl (((QK S.M r).QA+(Jd S.M S.Qd).len.toNat)*65536) by rw[<- N];omega);exact⟨4611686018428436481,w,w1,ω,ω,Z⟩
    .refine⟨0,by have:=Ew.l1;omega,λc=>?_,.inl rfl⟩;rw[ni,QbK,F,one,Qe]
     .have:=Ql1 (r:=r) (Ju:=c) KI;omega
     .rintro⟨_,h5,h6,_⟩;exact z ⟨by rw[<- h5,v2],by rw[<- v3];exact h6⟩
   .show (QK (takeN S.M S.Qd) r).QA<=p.2+qQ r p.1 (l++[v]);have a:=E.sn r b p Q;rw[ni,one];by_cases z:r=ZP S.M S.Qd/\V8 S.M S.Qd=true
    .obtain⟨e,f⟩:=z;obtain⟨n,m,j,M,y,n5⟩:=NA G I hT b;have q:QK S.M r=n.du:=by unfold QK;rw[j]
     have ji:=h.pk r b;have JN:(QK (takeN S.M S.Qd) r).QA=(QK S.M r).QA+(Jd S.M S.Qd).len.toNat:=by
      rw[Nz d I.I I.V m,Qf ⟨e,y⟩,f,q];rw[q]at ji;show (kF n.du _ _).QA=_;unfold kF W6;split
      .exact GI ω
      .exact GI ω
     have m8:p.1<=S.Qd:=by
      have u:=h.lf r b;cases o:W r with
      | nil=>rw[o]at Q;cases Q
      | cons i L0=>
       obtain⟨a1,C,a3,B⟩:=u.run i.1 i.2 L0 o;have:=B p Q;omega
     rw[JN,Qf ⟨v1,by rw[v2,e],by rw[v3,f],by rw[v4];omega⟩,v5];omega
    .rw[s r b z];omega
  .rename_i d;rw[Qe d];have e1:QK (takeN S.M S.Qd)=QK S.M:=funext λr=>(ng d r).1;rw[Jv];refine⟨E.dn,λr b=>?_,λr b=>?_⟩
   .obtain⟨n,m,j,M⟩:=E.fl r b;refine⟨n,?_,j,?_⟩
    .show (n:Int)<=(takeN S.M S.Qd).lk.ZJ;rw[yA];exact m
    .show n=0\/∃g,∃p∈W r,S.ZR<=g+K/\p.1<g/\p.2*65536+Jk (cv r).a (cv r).d (cv r).b (g - 1 - p.1)<(QK (takeN S.M S.Qd) r).QA*65536;rw[e1];exact M
   .show ∀p∈W r,(QK (takeN S.M S.Qd) r).QA<=p.2+qQ r p.1 l;rw[e1];exact E.sn r b
end
def W9(r:Int)(l:List Ev):Gh:=l.foldl (Gh.next [r]) ⟨0,[],0⟩
structure NC (R:List Int) (W:Int->List (Nat × Nat)) (l:List Ev) (S:Zj):Prop where
 n:∀r∈R,(W9 r l).n=(QW S.M r).length
 g:∀r∈R,∀p∈W r,∃x∈(W9 r l).g,x.1=p.1
def QbM(r)(s:Gh)(e:Ev){a}(h:∃x∈s.g,x.1=a):∃x∈(s.next [r] e).g,x.1=a:=by
 obtain⟨x,c,b⟩:=h;unfold Gh.next;split
 .split
  .dsimp only;split
   .exact⟨x,Jw _ c,b⟩
   .exact⟨x,c,b⟩
  .exact⟨_,JA.2 ⟨x,c,rfl⟩,b⟩
 .exact⟨x,c,b⟩
def RU(r)(l:List Ev)(e:Ev):W9 r (l++[e])=(W9 r l).next [r] e:=by
 unfold W9;rw[jY];rfl
def NC.Qd{R}{W}{l}{S}(h:NC R W l S)(Y):NC R W l { S with Qd:=Y }:=⟨h.n,h.g⟩
def La(r q:Int):[r].contains q=true↔q=r:=σ
def QDq{R}{W}{l}{S:Zj}(I:ZC S)(h:NC R W l S)(d):NC R W (l++(ZB S d S.Qd).2) (ZB S d S.Qd).1:=by
 unfold ZB;split
 .rw[Jv];exact h
 .split
  .rename_i c;obtain⟨x,L,m,hx⟩:=GA I.I I.V c;refine⟨λr a=>?_,λr a p k=>?_⟩
   .rw[RU];show (Gh.next [r] (W9 r l) _).n=(QW (takeN S.M S.Qd) r).length;have j:=h.n r a;obtain⟨v,f⟩:∃v,v=AD d (V8 S.M S.Qd) S.Qd (S.Qd+VN S.M.lk (Jd S.M S.Qd).len) (ZP S.M S.Qd) (Jd S.M S.Qd):=⟨_,rfl⟩;have v1:v.Zy=false:=by rw[f];rfl
    have v2:v.cls=ZP S.M S.Qd:=by rw[f];rfl
    rw[<- f];by_cases e:ZP S.M S.Qd=r
    .have i:QW (takeN S.M S.Qd) r=(QW S.M r).tail:=by rw[Az,Qf ⟨c,e⟩]
     have g:(Gh.next [r] (W9 r l) v).n=(W9 r l).n - 1:=by
      unfold Gh.next;rw[Qf ((La r _).2 (v2.trans e)),Qe (by rw[v1];decide)]
     rw[i,g,j,List.length_tail]
    .have i:QW (takeN S.M S.Qd) r=QW S.M r:=by rw[Az,Qe λb=>e b.2]
     have g:Gh.next [r] (W9 r l) v=W9 r l:=by
      unfold Gh.next;rw[Qe λb=>e (v2.symm.trans ((La r _).1 b))]
     rw[i,g];exact j
   .rw[RU];exact QbM r _ _ (h.g r a p k)
  .rename_i c;rw[Jv];refine⟨λr a=>?_,h.g⟩;show (W9 r l).n=(QW (takeN S.M S.Qd) r).length;rw[Az,Qe λb=>c b.1];exact h.n r a
structure GK (T:List Qq) (R:List Int) (cv:Int->Nc) (K Tk:Nat) (W:Int->List (Nat × Nat)) (l:List Ev) (S:Zj):Prop where
 gu:AK T R cv K Tk W l.length S
 ge:RS R cv K W l S
 sp:NC R W l S
def GK.Qd{T}{R}{a}{K b}{W}{l}{S:Zj}(h:GK T R a K b W l S){Y}(e:S.Qd<=Y):GK T R a K b W l { S with Qd:=Y }:=⟨h.gu.Qd e,h.ge.Qd e,h.sp.Qd Y⟩
section
variable {T:List Qq}{R:List Int}{cv:Int->Nc}{K Tk:Nat}(G:xz T R cv)(Wd:∀t,(R.map λr=>Jk (cv r).a (cv r).d (cv r).b t).sum*Tk<=65536*t)
include G Wd
theorem QDr{W}{l}{S}(I:ZC S)(h:GK T R cv K Tk W l S)
  (j:S.ZR<S.Qd->∀r∈R,0<Z7 S.M r->∀e P L,W r=(e,P)::L->S.Qd<=(QK S.M r).KN\/e=S.Qd) (c:Nat) (f:l.length+(ZB S c S.Qd).2.length<=1000000000) :
  GK T R cv K Tk W (l++(ZB S c S.Qd).2) (ZB S c S.Qd).1:=by
 obtain⟨i,g⟩:=QlV G I h.gu j Wd c f;exact⟨by rw[ZT];exact i,QDp G I h.gu h.ge c g f,QDq I h.sp c⟩
theorem QDs{W}{l:List Ev}{S:Zj}(I:ZC S)(m:S.Qd<Zb S)(h:GK T R cv K Tk W l S){J}{x}(s:Yp S.M S.Qd J x=0)(U:l.length+1<=1000000000)(c):
  GK T R cv K Tk (λr=>if r=J/\QW S.M J=[] then (S.Qd,(QK S.M r).QA)::W r else W r) (l++[Vz c S.Qd J x]) { S with M:=Zr S.M S.Qd J x }:=by
 obtain⟨k,_⟩:=QlZ G I m h.gu s ω;have y:∀r,QW (Zr S.M S.Qd J x) r=if J=r then QW S.M r++[x] else QW S.M r:=λr=>by
  rw[IG];by_cases e:J=r
  .rw[Qf ⟨s,e⟩,Qf e]
  .rw[Qe λh=>e h.2,Qe e]
 have B:∀r∈R,(QK (Zr S.M S.Qd J x) r).QA=(QK S.M r).QA:=λr f=>by
  rw[QbI G I h.gu.T s f];split
  .unfold Xl W6;split<;>rfl
  .rfl
 have z:∀r i,qQ r i (l++[Vz c S.Qd J x])=qQ r i l:=λr i=>by
  rw[ni];show _+qQ r i [Vz c S.Qd J x]=_;unfold qQ;simp[Vz]
 have E:∀r i j,jS r i j (l++[Vz c S.Qd J x])=jS r i j l:=λr i j=>by
  rw[QbK];show _+jS r i j [Vz c S.Qd J x]=_;unfold jS;simp[Vz]
 have w:∀r p,p∈W r->p∈(if r=J/\QW S.M J=[] then (S.Qd,(QK S.M r).QA)::W r else W r):=λr p h=>by
  split
  .exact Jw _ h
  .exact h
 refine⟨⟨k.T,k.tk,k.kk,k.lf,λr f=>?_,k.nw,k.wk,k.inv⟩,⟨λe he u=>?_,λr f=>?_,λr f p g=>?_⟩,⟨λr f=>?_,λr f p g=>?_⟩⟩
 .have:=k.pk r f;rw[ZT];omega
 .rcases QX.1 he with he|he
  .exact h.ge.dn e he u
  .rw[Xq]at he;rw[he]at u;cases u
 .obtain⟨n,P,O,q⟩:=h.ge.fl r f;refine⟨n,?_,λi=>?_,?_⟩
  .show (n:Int)<=(Zr S.M S.Qd J x).lk.ZJ;rw[BV];exact P
  .show qQ r i (l++[Vz c S.Qd J x])<=jS r i S.Qd (l++[Vz c S.Qd J x])+n;rw[z,E];exact O i
  .rcases q with q|⟨C,p,N,L,H,F⟩
   .exact .inl q
   .refine .inr ⟨C,p,w r p N,L,H,?_⟩;show _<(QK (Zr S.M S.Qd J x) r).QA*65536;rw[B r f];exact F
 .show (QK (Zr S.M S.Qd J x) r).QA<=p.2+qQ r p.1 (l++[Vz c S.Qd J x]);rw[B r f,z];have g:p∈(if r=J/\QW S.M J=[] then (S.Qd,(QK S.M r).QA)::W r else W r):=g;split at g
  .rcases QG.1 g with rfl|g
   .exact NX _ _
   .exact h.ge.sn r f p g
  .exact h.ge.sn r f p g
 .show (W9 r (l++[Vz c S.Qd J x])).n=(QW (Zr S.M S.Qd J x) r).length;rw[RU,y];have m:=h.sp.n r f;by_cases e:J=r
  .have v:(Gh.next [r] (W9 r l) (Vz c S.Qd J x)).n=(W9 r l).n+1:=by
    unfold Gh.next;rw[Qf ((La r _).2 (show (Vz c S.Qd J x).cls=r from e)),Qf (show (Vz c S.Qd J x).Zy=true from rfl)]
   rw[v,Qf e,ZT,m];rfl
  .have v:Gh.next [r] (W9 r l) (Vz c S.Qd J x)=W9 r l:=by
    unfold Gh.next;rw[Qe (show ¬[r].contains (Vz c S.Qd J x).cls=true from λQ=>e ((La r _).1 Q))]
   rw[v,Qe e];exact m
 .rw[RU];have g:p∈(if r=J/\QW S.M J=[] then (S.Qd,(QK S.M r).QA)::W r else W r):=g;split at g
  .rename_i o;rcases QG.1 g with rfl|g
   .have m:=h.sp.n r f;rw[o.1,o.2]at m;unfold Gh.next;rw[Qf ((La r _).2 (show (Vz c S.Qd J x).cls=r from o.1.symm)),Qf (show (Vz c S.Qd J x).Zy=true from rfl)];dsimp only;rw[o.1,Qf (show (W9 J l).n=0 from m)];exact⟨_,Z3,rfl⟩
   .exact QbM r _ _ (h.sp.g r f p g)
  .exact QbM r _ _ (h.sp.g r f p g)
end
section
variable {T:List Qq}{R:List Int}{cv:Int->Nc}{K Tk:Nat}(G:xz T R cv)(Wd:∀t,(R.map λr=>Jk (cv r).a (cv r).d (cv r).b t).sum*Tk<=65536*t)
include G Wd
end
def QDt{S:Zj}(h:S.Qd<Zb S)(a:S.ZR<=S.Qd):S.Qd<Ve S.M:=by
 unfold Zb Yq at h;omega
def QDu(M:Ql):Ve M<=Rp M.Lv:=Nat.min_le_left _ _
section
variable {T:List Qq}{R:List Int}{cv:Int->Nc}{K Tk:Nat}(G:xz T R cv)(Wd:∀t,(R.map λr=>Jk (cv r).a (cv r).d (cv r).b t).sum*Tk<=65536*t)
include G Wd
end
def xA(l:List Nc)(x:Nat):Nat:=(l.map λc=>Jk c.a c.d c.b x).sum
def QDv{c:Nc}(C:X5 c){k p q}(h:qb c=true->c.d<=k\/k+p+q<=c.d):∃m,Jk c.a c.d c.b (k+p)=Jk c.a c.d c.b k+m*p/\Jk c.a c.d c.b (k+p+q)=Jk c.a c.d c.b k+m*(p+q)/\(c.d<=k->m=c.b):=by
 have b:=C.k;have a:c.d<=k->∃m,Jk c.a c.d c.b (k+p)=Jk c.a c.d c.b k+m*p/\Jk c.a c.d c.b (k+p+q)=Jk c.a c.d c.b k+m*(p+q)/\(c.d<=k->m=c.b):=λhd=>by
  refine⟨c.b,?_,?_,λ_=>rfl⟩
  .rw[AJ C,AJ C,AS hd,AS ω,show k+p - c.d=k - c.d+p by omega,xI];omega
  .rw[AJ C,AJ C,AS hd,AS ω,show k+p+q - c.d=k - c.d+(p+q) by omega,xI];omega
 by_cases d:c.of=2
 .exact a (by rw[C.two d];exact Z9 _)
 .rcases h (by unfold qb;rcases b with h|h|h<;>simp[h]<;>omega) with hd|hd
  .exact a hd
  .by_cases hz:c.d<=k
   .exact a hz
   .refine⟨c.a,?_,?_,λh=>absurd h hz⟩
    .rw[AJ C,AJ C,yK ω,yK ω,YJ,YJ,xI];omega
    .rw[AJ C,AJ C,yK ω,yK ω,YJ,YJ,show k+p+q=k+(p+q) by omega,xI];omega
def QbN{k p q}:∀(l:List Nc),(∀c∈l,X5 c)->(∀c∈l,qb c=true->c.d<=k\/k+p+q<=c.d)->∃M,xA l (k+p)=xA l k+M*p/\xA l (k+p+q)=xA l k+M*(p+q)/\((∀c∈l,c.d<=k)->M=(l.map λc=>c.b).sum)
 | [],_,_=>⟨0,by simp[xA],by simp[xA],λ_=>rfl⟩
 | c::l,d,h=>by
  obtain⟨m,i,g,f⟩:=QDv (d c Z3) (h c Z3);obtain⟨M,o,n,j⟩:=QbN l (λc a=>d c (Jw _ a)) λc a=>h c (Jw _ a);have e:∀x,xA (c::l) x=Jk c.a c.d c.b x+xA l x:=λx=>by unfold xA;rw[Jo,vj]
  refine⟨m+M,?_,?_,λb=>?_⟩
  .rw[e,e,i,o,Kh];omega
  .rw[e,e,g,n,Kh];omega
  .rw[Jo,vj,f (b c Z3),j λc a=>b c (Jw _ a)]
def Ql3(x):∀l:List Nc,∃k,k<=x/\(k=0\/∃c∈l,qb c=true/\c.d=k)/\∀c∈l,qb c=true->c.d<=x->c.d<=k
 | []=>⟨0,Z9 _,.inl rfl,λc m=>by cases m⟩
 | c::l=>by
  obtain⟨k,j,f,i⟩:=Ql3 x l;by_cases h:qb c=true/\c.d<=x/\k<c.d
  .refine⟨c.d,h.2.1,.inr ⟨c,Z3,h.1,rfl⟩,λg d e hx=>?_⟩;rcases QG.1 d with rfl|d
   .exact Qs _
   .have:=i g d e hx;omega
  .refine⟨k,j,?_,λg d e hx=>?_⟩
   .rcases f with f|⟨c2,a,b⟩
    .exact .inl f
    .exact .inr ⟨c2,Jw _ a,b⟩
   .rcases QG.1 d with rfl|d
    .exact GS λn=>h ⟨e,hx,n⟩
    .exact i g d e hx
def QbO(x):∀l:List Nc,(∀c∈l,qb c=true->c.d<=x)\/∃e∈l,qb e=true/\x<e.d/\∀c∈l,qb c=true->x<c.d->e.d<=c.d
 | []=>.inl λc n=>by cases n
 | c::l=>by
  by_cases h:qb c=true/\x<c.d
  .rcases QbO x l with g|⟨e,k,j,i,f⟩
   .refine .inr ⟨c,Z3,h.1,h.2,λd a b hx=>?_⟩;rcases QG.1 a with rfl|a
    .exact Qs _
    .have:=g d a b;omega
   .by_cases m:e.d<=c.d
    .refine .inr ⟨e,Jw _ k,j,i,λd a b hx=>?_⟩;rcases QG.1 a with rfl|a
     .exact m
     .exact f d a b hx
    .refine .inr ⟨c,Z3,h.1,h.2,λd a b hx=>?_⟩;rcases QG.1 a with rfl|a
     .exact Qs _
     .have:=f d a b hx;omega
  .rcases QbO x l with g|⟨e,k,j,i,f⟩
   .refine .inl λd a b=>?_;rcases QG.1 a with rfl|a
    .exact GS λo=>h ⟨b,o⟩
    .exact g d a b
   .refine .inr ⟨e,Jw _ k,j,i,λd a b hx=>?_⟩;rcases QG.1 a with rfl|a
    .exact absurd ⟨b,hx⟩ h
    .exact f d a b hx
def QDw{t F M k p q}(g:F*t<=65536*k)(c:(F+M*(p+q))*t<=65536*(k+p+q)):(F+M*p)*t<=65536*(k+p):=by
 refine GS λh=>?_;have e:(F+M*p)*t=F*t+M*t*p:=by rw[Kh,bZ]
 have d:(F+M*(p+q))*t=F*t+(M*t*p+M*t*q):=by rw[Kh,bZ,xI]
 rw[e]at h;rw[d]at c;have b:65536*p<M*t*p:=ω;have a:65536<M*t:=Nat.lt_of_mul_lt_mul_right b;have f:65536*q<=M*t*q:=Vm q (Nat.le_of_lt a);omega
def carried{l:List Nc}{t}(b:∀c∈l,X5 c)(n:∀c∈l,qb c=true->xA l c.d*t<=65536*c.d)(u:(l.map λc=>c.b).sum*t<=65536)(x):xA l x*t<=65536*x:=by
 obtain⟨k,J,f,j⟩:=Ql3 x l;have v:xA l k*t<=65536*k:=by
  rcases f with f|⟨c,B,c2,z⟩
  .have y:xA l 0=0:=by
    unfold xA;have:∀l:List Nc,(∀c∈l,X5 c)->(l.map λc=>Jk c.a c.d c.b 0).sum=0:=λl=>by
     induction l with
     | nil=>intro _;rfl
     | cons c l r=>
      intro b;rw[Jo,vj,r λc a=>b c (Jw _ a),AJ (b c Z3),Nat.zero_min,GU,YJ,GU]
    exact this l b
   rw[f,y,E9];exact Z9 _
  .rw[<- z];exact n c B c2
 obtain⟨p,m⟩:∃p,x=k+p:=⟨x - k,ω⟩;rcases QbO x l with w|⟨g,F,E,K,C⟩
 .have o:∀c∈l,c.d<=k:=λc a=>by
   by_cases e:c.of=2
   .rw[(b c a).two e];exact Z9 _
   .have d:qb c=true:=by unfold qb;rcases (b c a).k with h|h|h<;>simp[h]<;>omega
    exact j c a d (w c a d)
  obtain⟨M,i,_,H⟩:=QbN (k:=k) (p:=p) (q:=0) l b λc a _=>.inl (o c a);rw[m,i,H o,Kh,xI,bZ];have:=Vm p u;omega
 .obtain⟨q,s⟩:∃q,g.d=k+p+q:=⟨g.d - x,ω⟩;obtain⟨M,i,I,_⟩:=QbN (k:=k) (p:=p) (q:=q) l b λc a d=>by
   by_cases h:c.d<=x
   .exact .inl (j c a d h)
   .have:=C c a d ω;exact .inr ω
  have e:=n g F E;rw[s,I]at e;rw[m,i];exact QDw v e
def Ql4(g:Nc->Nat):∀(l:List Nc) (s:Nat),(∀c∈l,c.of≠0)->l.foldl (xh g) s=s+(l.map g).sum
 | [],s,_=>rfl
 | c::l,s,h=>by
  rw[xE,Ql4 g l _ λc a=>h c (Jw _ a),Jo,vj];unfold xh;rw[Qe (h c Z3)];omega
def QDx{t:Int}{l}(i:∀c∈l,X5 c)(h:yq t l=0)(x):xA l x*t.toNat<=65536*x:=by
 have n:∀c∈l,c.of≠0:=λc d=>by have:=(i c d).k;omega
 have f:∀g:Nc->Nat,BA g l=(l.map g).sum:=λg=>by unfold BA;rw[Ql4 g l 0 n];omega
 have b:PU t.toNat l=false:=by
  unfold yq at h;split at h
  .rename_i m;exact absurd h m
  .cases j:PU t.toNat l with
   | false=>rfl
   | true=>rw[j]at h;cases h
 unfold PU at b;rw[Ds]at b;refine carried i (λc d k=>?_) ?_ x
 .have a:=bD.1 b.1 (c.d:Int) ((QiA l _).2 ⟨c,d,k,rfl⟩);unfold BF PT at a;rw[f]at a;simp only[Xd,Qbh]at a;show (l.map λe=>Jk e.a e.d e.b c.d).sum*t.toNat<=_;omega
 .have a:=b.2;unfold iV at a;rw[f,Fb]at a;omega
end Go.Fg.X
namespace Go.Fg.X
open Go.Proofs Go.Fg Go.Fg.X.SP
open Go.Proofs.Tryz
def Ql5{c:Qq}(a:Vr c=0)(d:1<QS c.rt):c.leaf=true:=by
 cases b:c.leaf with
 | true=>rfl
 | false=>
  unfold Vr at a;split at a
  .cases a
  .split at a
   .cases a
   .split at a
    .cases a
    .rename_i h;rw[b]at h;simp[CI,d]at h
def EP(T:List Qq):List Int:=(T.filter UL).map (·.iD)
def yF(T:List Qq)(r:Int):Nc:=Zq ((QC T r).getD default).rt
def gut{T}(I:KU T)(m:vV T):xz T (EP T) (yF T):=by
 have f:∀r,r∈EP T↔∃k,QC T r=some k/\1<QS k.rt:=λr=>by
  unfold EP;constructor
  .intro h;obtain⟨k,c,rfl⟩:=JA.1 h;obtain⟨d,i⟩:=JI.1 c;exact⟨k,(VL I.rising).2 ⟨d,rfl⟩,X9 i⟩
  .rintro⟨k,c,d⟩;obtain⟨i,l⟩:=(VL I.rising).1 c;exact JA.2 ⟨k,JI.2 ⟨i,Q1 d⟩,l⟩
 refine⟨?_,λr=>?_,λr j k g=>?_⟩
 .have h:T.Pairwise (λa b=>a.iD<b.iD):=I.rising;unfold EP;rw[nU,Qa9];exact(h.filter _).imp λo=>ω
 .rw[f];constructor
  .rintro⟨k,c,d⟩;exact⟨k,c,Ql5 (I.right k ((VL I.rising).1 c).1) d,d⟩
  .rintro⟨k,c,_,d⟩;exact⟨k,c,d⟩
 .obtain⟨n,c,d⟩:=(f r).1 j;rw[g]at c;cases c;have e:yF T r=Zq k.rt:=by unfold yF;rw[g];rfl
  exact⟨e,by rw[e];exact m6 (m k ((VL I.rising).1 g).1).nn.1 d⟩
def QDz{T:List Qq}(I:KU T)(i:vV T){t:Int}(h:yq t (XA T)=0)(x:Nat):((EP T).map λr=>Jk (yF T r).a (yF T r).d (yF T r).b x).sum*t.toNat<=65536*x:=by
 have e:((EP T).map λr=>Jk (yF T r).a (yF T r).d (yF T r).b x)=(XA T).map λc=>Jk c.a c.d c.b x:=by
  unfold EP XA;rw[Dw,Dw];refine EX λk b=>?_;have j:=(VL I.rising).2 ⟨(JI.1 b).1,rfl⟩;have:yF T k.iD=Zq k.rt:=by unfold yF;rw[j];rfl
  simp only[Function.comp_apply,this]
 rw[e];refine QDx (λc a=>?_) h x;unfold XA at a;obtain⟨k,g,rfl⟩:=JA.1 a;obtain⟨f,d⟩:=JI.1 g;exact m6 (i k f).nn.1 (X9 d)
end Go.Fg.X
namespace Go.Fg.X
open Go.Proofs Go.Fg
open Go.Proofs.Tryz
def Ql6{c:Nc}(C:X5 c){a x V}{W}{r}(g:jj c (dX c) a W r)(f:∀p∈W,p.1<=a)(e:a+dX c<=x)(j:x<=4611686018428436480)(h:∀p∈W,V*65536<=p.2*65536+Jk c.a c.d c.b (x - p.1)):KD r (V*65536)<=x:=GS λi=>by
 obtain⟨p,d,_,b⟩:=QbC C g f e j i;have:=h p d;exact absurd b (Nat.not_lt.2 this)
section
variable {T:List Qq}{R:List Int}{cv:Int->Nc}{K Tk:Nat}(G:xz T R cv)(Wd:∀t,(R.map λr=>Jk (cv r).a (cv r).d (cv r).b t).sum*Tk<=65536*t)
include G
theorem Ql7{W}{k}{S:Zj}(I:ZC S)(h:AK T R cv K Tk W k S){r:Int}(g:r∈R)(m:0<Z7 S.M r)(l:S.Qd<(QK S.M r).KN)(u:(QK S.M r).dead<=9223372036854775807):S.Qd<(QK S.M r).dead:=by
 have i:X5 (cv r):=by
  obtain⟨p,q,_⟩:=(G.mem r).1 g;exact(G.cv r g p q).2
 have L:=h.lf r g;have y:=I.cl;cases e:W r with
 | nil=>have:=L.none e;omega
 | cons c z=>
  obtain⟨x,f,o,n⟩:=L.run c.1 c.2 z e;have B:=L.pk c (by rw[e];exact Z3);have j:=(L.hd m).2;rw[(L.hd m).1]at l;rw[e]at f o n;have s:=m7 i (P:=c.2) (V:=(QK S.M r).QA+Z7 S.M r) ω f Z3 ω;rw[<- j]at s;have v:=QlI i o f n x y l;obtain⟨w,_⟩:=v.ser i (V:=(QK S.M r).QA+Z7 S.M r) f ω u (by rw[<- j];exact Qs _) ω;exact w
include Wd
theorem QDA{W}{k}{S}(I:ZC S)(h:AK T R cv K Tk W k S)
  (s:S.ZR<S.Qd->∀r∈R,0<Z7 S.M r->∀f P L,W r=(f,P)::L->S.Qd<=(QK S.M r).KN\/f=S.Qd) (e:Nat) (p:k+(ZB S e S.Qd).2.length<=1000000000)
  (n:¬S.Qd<S.ZR) (c:V9 S.M S.Qd=true) (j:ZP S.M S.Qd∈R) (g:(QK S.M (ZP S.M S.Qd)).dead<=9223372036854775807):S.Qd+VN S.M.lk (Jd S.M S.Qd).len<=(QK S.M (ZP S.M S.Qd)).dead+K:=by
 cases i:V8 S.M S.Qd with
 | true=>exact(QlV G I h s Wd e p).2 n c i g
 | false=>
  obtain⟨x,L,o,hx⟩:=GA I.I I.V c;have m:=I.take_len c;have l:0<Z7 S.M (ZP S.M S.Qd):=by
   unfold Z7;rw[o];show 0<x.len.toNat
   rw[<- hx];omega
  have q:=QlU c i I.cl _ (bg G I.I I.V h.T j l);have v:=Ql7 G I h j l q g;have u:VN S.M.lk (Jd S.M S.Qd).len<=K:=by
   rw[<- h.kk,<- h.tk];exact Vm _ ω
  omega
end
end Go.Fg.X
namespace Go.Fg.X
open Go.Proofs Go.Fg Go.Fg.X.SP
open Go.Proofs.Tryz
def Jz(r:Int)(l:List Ev):Nat->List Nat
 | 0=>[]
 | k+1=>if (l.getD k default).cls=r then (if (l.getD k default).Zy=true then Jz r l k++[k] else (Jz r l k).tail) else Jz r l k
def YD(r:Int)(l:List Ev)(F:Nat):Nat->Nat
 | 0=>0
 | k+1=>if F<=k/\(l.getD k default).cls=r/\(l.getD k default).Zy=true then YD r l F k+(l.getD k default).len.toNat else YD r l F k
def AL(r:Int)(l:List Ev)(F:Nat):Nat->Nat
 | 0=>0
 | k+1=>if F<k/\(l.getD k default).cls=r/\(l.getD k default).Zy=false then AL r l F k+(l.getD k default).len.toNat else AL r l F k
def wu(l:List Ev)(q:List Nat):Nat:=(q.map λi=>(l.getD i default).len.toNat).sum
def RV(r:Int)(l:List Ev):Prop:=∀k,k<l.length->(l.getD k default).cls=r->(l.getD k default).Zy=false->∃a q,Jz r l k=a::q/\(l.getD k default).len=(l.getD a default).len
def B0(r)(l:List Ev):∀k,∀i∈Jz r l k,i<k
 | 0,i,h=>by cases h
 | k+1,i,h=>by
  have a:=B0 r l k;unfold Jz at h;split at h
  .split at h
   .rcases QX.1 h with h|h
    .have:=a i h;omega
    .rw[Xq]at h;omega
   .have:=a i (NS h);omega
  .have:=a i h;omega
def QbP(r)(l:List Ev)(F):∀k,k<=F->YD r l F k=0
 | 0,_=>rfl
 | k+1,h=>by
  unfold YD;rw[Qe ω];exact QbP r l F k ω
def QbQ(r)(l:List Ev)(F):∀k,k<=F+1->AL r l F k=0
 | 0,_=>rfl
 | k+1,h=>by
  unfold AL;rw[Qe ω];exact QbQ r l F k ω
def Ql8(r)(l:List Ev):∀k,(Jz r l k).length=qP [r] l k
 | 0=>rfl
 | k+1=>by
  have d:=Ql8 r l k;have c:[r].contains (l.getD k default).cls=true↔(l.getD k default).cls=r:=σ;unfold Jz;simp only[qP,Dl];rw[<- d];by_cases b:(l.getD k default).cls=r
  .rw[Qf b,Qf (c.2 b)];by_cases a:(l.getD k default).Zy=true
   .rw[Qf a,Qf a,ZT];rfl
   .rw[Qe a,Qe a,List.length_tail]
  .rw[Qe b,Qe λh=>b (c.1 h)]
def Dn(r:Int)(l:List Ev)(F:Nat):Prop:=F<l.length/\(l.getD F default).cls=r/\(l.getD F default).Zy=true/\Jz r l F=[]
def QbR{r}{l:List Ev}(t:RV r l){F}(v:Dn r l F):∀k,F<k->k<=l.length ->
  YD r l F k=AL r l F k+wu l (Jz r l k)/\∀a b i,Jz r l k=a++i::b->YD r l F (i+1)=AL r l F k+wu l (a++[i])
 | 0,h,_=>absurd h (Xc F)
 | k+1,h,H=>by
  by_cases C:k=F
  .subst C;obtain⟨_,f2,f3,f4⟩:=v;have w:Jz r l (k+1)=[k]:=by
    unfold Jz;rw[Qf f2,Qf f3,f4];rfl
   have u:YD r l k (k+1)=(l.getD k default).len.toNat:=by
    unfold YD;rw[Qf ⟨Qs _,f2,f3⟩,QbP r l k k (Qs _),JM]
   have y:AL r l k (k+1)=0:=QbQ r l k _ (Qs _);rw[w,y];refine⟨by rw[u];simp[wu],λa b i e=>?_⟩;have z:a=[]:=by
    cases a with
    | nil=>rfl
    | cons x a=>simp at e
   subst z;simp only[Yr,yI]at e;rw[<- e.1,u];simp[wu]
  .obtain⟨n,j⟩:=QbR t v k ω ω;have B:k<l.length:=ω;unfold YD AL Jz;by_cases d:(l.getD k default).cls=r
   .cases o:(l.getD k default).Zy with
    | true=>
     rw[Qf ⟨ω,d,rfl⟩,Qe (λh=>by cases h.2.2),Qf d,Qf rfl];have m:wu l (Jz r l k++[k])=wu l (Jz r l k)+(l.getD k default).len.toNat:=by simp[wu]
     refine⟨by rw[m,n];omega,λa b i e=>?_⟩;rcases List.append_eq_append_iff.1 e with ⟨c,g,f⟩|⟨c,g,f⟩
     ·
      cases c with
      | nil=>
       rw[Jv]at g;simp only[Yr,yI]at f;rw[<- f.1,g,m];rw[Qf ⟨ω,d,o⟩,n];omega
      | cons x c=>simp at f
     .cases c with
      | nil=>
       rw[Jv]at g;simp only[Yr,yI]at f;rw[f.1,<- g,m];rw[Qf ⟨ω,d,o⟩,n];omega
      | cons x c=>
       simp only[YG,yI]at f;rw[f.1]at *;exact j a c x g
    | false=>
     obtain⟨s,E,p,g⟩:=t k B d o;rw[Qe (λh=>by cases h.2.2),Qf ⟨ω,d,rfl⟩,Qf d,Qe k9,p,g];have m:∀q,wu l (s::q)=(l.getD s default).len.toNat+wu l q:=λq=>by simp[wu]
     refine⟨by rw[n,p,m,List.tail_cons];omega,λa b i e=>?_⟩;rw[List.tail_cons]at e;have:=j (s::a) b i (by rw[p,e];rfl);refine this.trans ?_;rw[YG,m];omega
   .rw[Qe λh=>d h.2.1,Qe λh=>d h.2.1,Qe d];exact⟨n,j⟩
def Ql9(r)(l:List Ev):∀k,Ny l k r=(Jz r l k).map λi=>(l.getD i default).pk
 | 0=>rfl
 | k+1=>by
  have c:=Ql9 r l k;unfold Ny xy Jz;by_cases b:(l.getD k default).cls=r
  .rw[Qf b.symm,Qf b];by_cases a:(l.getD k default).Zy=true
   .rw[Qf a,Qf a,c,jZ];rfl
   .rw[Qe a,Qe a,c,List.map_tail]
  .rw[Qe λh=>b h.symm,Qe b];exact c
def QDB{x}{l}(h:IY x (λ_=>[]) IX 0 l)(r):RV r l:=λk e g f=>by
 have c:(!(l.getD k default).Zy&&(Ny l k (l.getD k default).cls).length==0)=false:=mX h e (k:=4) π;have b:(!(l.getD k default).Zy&&!IW ((Ny l k (l.getD k default).cls).getD 0 default) (l.getD k default).pk)=false:=mX h e (k:=5) π;rw[g,f,Ql9]at c b;cases d:Jz r l k with
 | nil=>rw[d]at c;cases c
 | cons a q=>
  rw[d]at b;refine⟨a,q,rfl,?_⟩;have b:(!IW (l.getD a default).pk (l.getD k default).pk)=false:=b;rw[Bool.not_eq_false']at b;have:=(Qlq _ _).1 b;exact(congrArg Pk.len this).symm
theorem Qma(r)(l:List Ev)(F k):AL r l F (k+1)=if F<k/\(l.getD k default).cls=r/\(l.getD k default).Zy=false then AL r l F k+(l.getD k default).len.toNat else AL r l F k:=rfl
def QbT{r}{l:List Ev}:∀k,k<=l.length->∀x∈(EO [r] l k).g,∃F,Dn r l F/\F<k/\(l.getD F default).at_.toNat=x.1/\x.2=AL r l F k
 | 0,_,x,hx=>by cases hx
 | k+1,h,x,hx=>by
  have f:k<l.length:=ω;have e:=QbT (r:=r) (l:=l) k ω;have i:=QlB [r] l k ω;have d:[r].contains (l.getD k default).cls=true↔(l.getD k default).cls=r:=σ;rw[QlA [r] l f]at hx;have Kl:∀y:Nat × Nat,y∈(EO [r] l k).g->¬((l.getD k default).cls=r/\(l.getD k default).Zy=false)->∃F,Dn r l F/\F<k+1/\(l.getD F default).at_.toNat=y.1/\y.2=AL r l F (k+1):=λy c b=>by
   obtain⟨F,f1,f2,f3,f4⟩:=e y c;refine⟨F,f1,ω,f3,?_⟩;rw[Qma,Qe λh=>b h.2];exact f4
  unfold Gh.next at hx;split at hx
  .rename_i a;split at hx
   .rename_i c2;have b:¬((l.getD k default).cls=r/\(l.getD k default).Zy=false):=λh=>by rw[c2]at h;cases h.2
    dsimp only at hx;split at hx
    .rename_i g;rcases QG.1 hx with rfl|hx
     .rw[i,<- Ql8]at g;exact⟨k,⟨f,d.1 a,c2,NO.1 g⟩,ω,rfl,(QbQ r l k _ (Qs _)).symm⟩
     .exact Kl x hx b
    .exact Kl x hx b
   .rename_i c2;have c2:(l.getD k default).Zy=false:=by simpa using c2
    obtain⟨y,c,rfl⟩:=JA.1 hx;obtain⟨F,f1,f2,f3,f4⟩:=e y c;refine⟨F,f1,ω,f3,?_⟩;rw[Qma,Qf ⟨f2,d.1 a,c2⟩,<- f4]
  .rename_i a;exact Kl x hx λh=>a (d.2 h.1)
def Qqd{r}{l:List Ev}:∀k,k<=l.length->∀F,Dn r l F->F<k->∃s∈WD [r] l k,s.fst=F/\s.Ju=(l.getD F default).at_
 | 0,_,F,_,h=>absurd h (Xc F)
 | k+1,h,F,j,v=>by
  have a:∀(f:Int) (y:Int),(∃s∈WD [r] l k,s.fst=f/\s.Ju=y)->∃s∈WD [r] l (k+1),s.fst=f/\s.Ju=y:=λf y ⟨s,d,c,b⟩=>by
   unfold WD Nw;split
   .exact⟨s,bL _ d,c,b⟩
   .split
    .obtain⟨i,g,rfl⟩:=NQ.1 d;refine⟨_,NQ.2 ⟨i,by rw[XG];exact g,rfl⟩,?_⟩;by_cases e:i=(WD [r] l k).length - 1
     .rw[List.getElem_set,Qf e.symm];have p:(WD [r] l k).getD ((WD [r] l k).length - 1) default=(WD [r] l k)[i]:=by
       rw[<- e,Q7,QT g];rfl
      dsimp only;rw[p];exact⟨c,b⟩
     .rw[List.getElem_set,Qe λh=>e h.symm];exact⟨c,b⟩
    .exact⟨s,d,c,b⟩
  by_cases n:F=k
  .subst n;obtain⟨w,u,t,q⟩:=j;have m:qP [r] l F=0:=by rw[<- Ql8,q];rfl
   have o:[r].contains (l.getD F default).cls=true:=by rw[u];simp
   unfold WD Nw;rw[Qf ⟨m,by unfold Dl;rw[Qf o,Qf t];omega⟩];exact⟨_,NP _ (Sk _),rfl,rfl⟩
  .exact a _ _ (Qqd k ω F j ω)
structure GL (R:List Int) (W:Int->List (Nat × Nat)) (l:List Ev) (S:Zj):Prop where
 g:∀r∈R,∀p∈W r,∃x∈(W9 r l).g,x.1=p.1/\(QK S.M r).QA<=p.2+x.2
def GL.Qd{R}{W}{l}{S}(h:GL R W l S)(Y):GL R W l { S with Qd:=Y }:=⟨h.g⟩
def Qmb(r)(s:Gh)(e:Ev){a n m}(f:m=if e.cls=r/\e.Zy=false then e.len.toNat else 0)(h:∃x∈s.g,x.1=a/\n<=x.2):∃x∈(s.next [r] e).g,x.1=a/\n+m<=x.2:=by
 obtain⟨x,d,c,g⟩:=h;unfold Gh.next;split
 .rename_i b;have b:=(La r _).1 b;split
  .rename_i c2;rw[Qe (λh=>by rw[c2]at h;cases h.2)]at f;dsimp only;split
   .exact⟨x,Jw _ d,c,ω⟩
   .exact⟨x,d,c,ω⟩
  .rename_i c2;rw[Qf ⟨b,by simpa using c2⟩]at f;exact⟨_,JA.2 ⟨x,d,rfl⟩,c,by show n+m<=x.2+e.len.toNat;omega⟩
 .rename_i b;rw[Qe (λh=>b ((La r _).2 h.1))]at f;exact⟨x,d,c,ω⟩
section
variable {T:List Qq}{R:List Int}{cv:Int->Nc}{K Tk:Nat}(G:xz T R cv)
include G
theorem QDC{W}{k}{S:Zj}{l}(I:ZC S)(h:AK T R cv K Tk W k S)(Q:GL R W l S)(f)(N:k<=1000000000):GL R W (l++(ZB S f S.Qd).2) (ZB S f S.Qd).1:=by
 have F:=h.T;unfold ZB;split
 .rw[Jv];exact Q
 .split
  .rename_i d;obtain⟨v,c⟩:∃v,v=AD f (V8 S.M S.Qd) S.Qd (S.Qd+VN S.M.lk (Jd S.M S.Qd).len) (ZP S.M S.Qd) (Jd S.M S.Qd):=⟨_,rfl⟩;have v1:v.Zy=false:=by rw[c];rfl
   have v2:v.cls=ZP S.M S.Qd:=by rw[c];rfl
   have w:v.len=(Jd S.M S.Qd).len:=by rw[c];rfl
   have j:=I.take_len d;have J:=I.K.l2;rw[<- c];refine⟨λr b p g=>?_⟩;show ∃x∈(W9 r (l++[v])).g,x.1=p.1/\(QK (takeN S.M S.Qd) r).QA<=p.2+x.2;obtain⟨x,u,t,s⟩:=Q.g r b p g;obtain⟨y,q,o,m⟩:=Qmb r (W9 r l) v rfl (a:=p.1) (n:=x.2) ⟨x,u,t,Qs _⟩;rw[RU];refine⟨y,q,o,?_⟩;obtain⟨n,C,B,M,z,L⟩:=NA G I F b;have H:QK S.M r=n.du:=by unfold QK;rw[B]
   have E:=h.pk r b;rw[Nz d I.I I.V C];rw[H]at E s;by_cases e:r=ZP S.M S.Qd
   .rw[Qf ⟨v2.trans e.symm,v1⟩,w]at m;rw[Qf ⟨e,z⟩];cases V8 S.M S.Qd with
    | true=>
     have i:(kF n.du (Jd S.M S.Qd).len (Xk (Kv n.q))).QA=n.du.QA+(Jd S.M S.Qd).len.toNat:=by
      unfold kF W6;split
      .exact GI ω
      .exact GI ω
     rw[Qf rfl,i];omega
    | false=>
     have i:(W6 n.du (Xk (Kv n.q))).QA=n.du.QA:=by unfold W6;split<;>rfl
     rw[Qe k9,i];omega
   .rw[Qe λh=>e h.1];omega
  .rename_i d;rw[Jv];refine⟨λr b p g=>?_⟩;show ∃x∈(W9 r l).g,x.1=p.1/\(QK (takeN S.M S.Qd) r).QA<=p.2+x.2;rw[(ng d r).1];exact Q.g r b p g
theorem QDD{W}{l}{S:Zj}(I:ZC S)(s:S.M.T=T)(P:NC R W l S)(Q:GL R W l S){J}{x}(q:Yp S.M S.Qd J x=0)(b):
  GL R (λr=>if r=J/\QW S.M J=[] then (S.Qd,(QK S.M r).QA)::W r else W r) (l++[Vz b S.Qd J x]) { S with M:=Zr S.M S.Qd J x }:=by
 have o:∀r∈R,(QK (Zr S.M S.Qd J x) r).QA=(QK S.M r).QA:=λr d=>by
  rw[QbI G I s q d];split
  .unfold Xl W6;split<;>rfl
  .rfl
 refine⟨λr d p c=>?_⟩;show ∃y∈(W9 r (l++[Vz b S.Qd J x])).g,y.1=p.1/\(QK (Zr S.M S.Qd J x) r).QA<=p.2+y.2;rw[o r d,RU];have Kl:p∈W r->∃y∈(Gh.next [r] (W9 r l) (Vz b S.Qd J x)).g,y.1=p.1/\(QK S.M r).QA<=p.2+y.2:=λg=>by
  obtain⟨y,m,k,u⟩:=Q.g r d p g;obtain⟨z,j,i,t⟩:=Qmb r (W9 r l) (Vz b S.Qd J x) rfl (a:=p.1) (n:=y.2) ⟨y,m,k,Qs _⟩;exact⟨z,j,i,ω⟩
 have c:p∈(if r=J/\QW S.M J=[] then (S.Qd,(QK S.M r).QA)::W r else W r):=c;split at c
 .rename_i f;rcases QG.1 c with rfl|c
  .have h:=P.n r d;rw[f.1,f.2]at h;have e:(Gh.next [r] (W9 r l) (Vz b S.Qd J x)).g=(S.Qd,0)::(W9 r l).g:=by
    unfold Gh.next;rw[Qf ((La r _).2 (show (Vz b S.Qd J x).cls=r from f.1.symm)),Qf (show (Vz b S.Qd J x).Zy=true from rfl)];dsimp only;rw[f.1,Qf (show (W9 J l).n=0 from h)];rfl
   rw[e];exact⟨_,Z3,rfl,Qs _⟩
  .exact Kl c
 .exact Kl c
end
def ER{l m:List Ev}{k}(h:k<l.length):(l++m).getD k default=l.getD k default:=by
 rw[Q7,JY h,<- Q7]
def NF(r)(l m:List Ev):∀k,k<=l.length->Jz r (l++m) k=Jz r l k
 | 0,_=>rfl
 | k+1,h=>by
  have a:=NF r l m k ω;unfold Jz;rw[ER ω,a]
def bk(r)(l m:List Ev)(F):∀k,k<=l.length->YD r (l++m) F k=YD r l F k
 | 0,_=>rfl
 | k+1,h=>by
  have a:=bk r l m F k ω;unfold YD;rw[ER ω,a]
def Qmc{r}{l m:List Ev}{F}(h:F<l.length):Dn r (l++m) F↔Dn r l F:=by
 unfold Dn;rw[ER h,NF r l m F ω,ZT];constructor
 .rintro⟨_,c,b,a⟩;exact⟨h,c,b,a⟩
 .rintro⟨_,c,b,a⟩;exact⟨ω,c,b,a⟩
def NG(r:Int)(c:Nc)(K:Nat)(l:List Ev):Prop:=∀i,i<l.length->(l.getD i default).cls=r->(l.getD i default).Zy=false->∀X:Nat,X<=4611686018428436480 ->
 (∀F,Dn r l F->F<i->(l.getD F default).at_.toNat+dX c<=X/\YD r l F ((Jz r l i).headD 0+1)*65536<=Jk c.a c.d c.b (X - (l.getD F default).at_.toNat))->(l.getD i default).done<=((X+K:Nat):Int)
def NG.snoc{r}{c}{K}{l}(h:NG r c K l)(v:Ev)
  (p:v.cls=r->v.Zy=false->∀X:Nat,X<=4611686018428436480->(∀F,Dn r l F->(l.getD F default).at_.toNat+dX c<=X/\YD r l F ((Jz r l l.length).headD 0+1)*65536<=Jk c.a c.d c.b (X - (l.getD F default).at_.toNat))->v.done<=((X+K:Nat):Int)):NG r c K (l++[v]):=by
 intro i s j g X m n;rw[ZT,qT]at s;by_cases e:i<l.length
 .rw[ER e]at j g ⊢;refine h i e j g X m λF f o=>?_;have:=n F ((Qmc ω).2 f) o;rw[ER ω,NF r l [v] i ω]at this;by_cases b:Jz r l i=[]
  .rw[b]at this ⊢;rw[bk r l [v] F _ (by show 0+1<=l.length;omega)]at this;exact this
  .obtain⟨a,q,d⟩:=List.exists_cons_of_ne_nil b;have u:=B0 r l i a (by rw[d];exact Z3);rw[d]at this ⊢;rw[bk r l [v] F _ (by show a+1<=l.length;omega)]at this;exact this
 .have e:i=l.length:=ω;subst e;have t:(l++[v]).getD l.length default=v:=σ;rw[t]at j g ⊢;refine p j g X m λF f=>?_;have k:=f.1;have:=n F ((Qmc k).2 f) k;rw[ER k,NF r l [v] _ (Qs _)]at this;by_cases b:Jz r l l.length=[]
  .rw[b]at this ⊢;rw[bk r l [v] F _ (by show 0+1<=l.length;omega)]at this;exact this
  .obtain⟨a,q,d⟩:=List.exists_cons_of_ne_nil b;have u:=B0 r l l.length a (by rw[d];exact Z3);rw[d]at this ⊢;rw[bk r l [v] F _ (by show a+1<=l.length;omega)]at this;exact this
def QDF{P h p x Y}(b:P<=p+x)(a:(x+h)*65536<=Y):(P+h)*65536<=p*65536+Y:=
 JL (Vm 65536 (show P+h<=p+(x+h) from ω)) (by rw[Kh p];exact Nat.add_le_add_left a _)
section
variable {T:List Qq}{R:List Int}{cv:Int->Nc}{K Tk:Nat}(G:xz T R cv)(Wd:∀t,(R.map λr=>Jk (cv r).a (cv r).d (cv r).b t).sum*Tk<=65536*t)
include G Wd
theorem QDG{W}{k}{S}{l}(I:ZC S)(h:AK T R cv K Tk W k S)(Q:GL R W l S)
  (hw:∀r∈R,QW S.M r=(Jz r l l.length).map λi=>(l.getD i default).pk) (hf:∀r∈R,RV r l)
  (BY:S.ZR<S.Qd->∀r∈R,0<Z7 S.M r->∀J P L,W r=(J,P)::L->S.Qd<=(QK S.M r).KN\/J=S.Qd) (o:Nat) (hk:k+(ZB S o S.Qd).2.length<=1000000000)
  (H:∀r∈R,NG r (cv r) K l):∀r∈R,NG r (cv r) K (l++(ZB S o S.Qd).2):=by
 intro r c;have hT:=h.T;have hC:X5 (cv r):=by
  obtain⟨Z,k1,_⟩:=(G.mem r).1 c;exact(G.cv r c Z k1).2
 have g:=QDA G Wd I h BY o hk;unfold ZB;split
 .rw[Jv];exact H r c
 .rename_i hu;split
  .rename_i s;refine(H r c).snoc _ λv1 _ X hX hF=>?_;have v1:ZP S.M S.Qd=r:=v1;obtain⟨m,L,u,hx⟩:=GA I.I I.V s;have V:=I.take_len s;rw[v1]at u;have M:Z7 S.M r=m.len.toNat:=by unfold Z7;rw[u];rfl
   have h0:0<Z7 S.M r:=by rw[M,<- hx];omega
   have f:=hw r c;rw[u]at f;obtain⟨a,q,N,B⟩:∃a q,Jz r l l.length=a::q/\(l.getD a default).pk=m:=by
    cases U:Jz r l l.length with
    | nil=>rw[U]at f;cases f
    | cons a q=>
     rw[U,Jo,yI]at f;exact⟨a,q,rfl,f.1.symm⟩
   have RW:(l.getD a default).len=m.len:=congrArg Pk.len B;have y:=h.lf r c;cases w:W r with
   | nil=>have:=y.none w;omega
   | cons n L0=>
    obtain⟨a1,a2,a3,a4⟩:=y.run n.1 n.2 L0 w;have kZ:=(y.hd h0).2;have E:∀p∈W r,p.1+dX (cv r)<=X/\((QK S.M r).QA+Z7 S.M r)*65536<=p.2*65536+Jk (cv r).a (cv r).d (cv r).b (X - p.1):=λp v=>by
     obtain⟨x,j,C,Y⟩:=Q.g r c p v;have j:x∈(EO [r] l l.length).g:=by
      unfold EO;rw[YH];exact j
     obtain⟨F,f1,f2,f3,f4⟩:=QbT l.length (Qs _) x j;obtain⟨O,e⟩:=hF F f1;have c1:=(QbR (hf r c) f1 l.length f2 (Qs _)).2 [] q a (by rw[N];rfl);have c2:wu l ([]++[a])=Z7 S.M r:=by rw[M,<- RW];simp[wu]
     rw[N]at e;have e:YD r l F (a+1)*65536<=Jk (cv r).a (cv r).d (cv r).b (X - (l.getD F default).at_.toNat):=e;rw[c1,c2,<- f4,f3,C]at e;rw[f3,C]at O;refine⟨O,?_⟩;exact QDF Y e
    have z:=Ql6 hC a2 a4 (E n (by rw[w];exact Z3)).1 hX λp v=>(E p v).2;rw[<- kZ]at z;have hl:=g hu s (by rw[v1];exact c) (by rw[v1];omega);rw[v1]at hl;show ((S.Qd+VN S.M.lk (Jd S.M S.Qd).len:Nat):Int)<=((X+K:Nat):Int);omega
  .rw[Jv];exact H r c
end
structure bn (R:List Int) (l:List Ev) (S:Zj):Prop where
 w:∀r∈R,QW S.M r=(Jz r l l.length).map λi=>(l.getD i default).pk
 f:∀r∈R,RV r l
def Qmd(r)(l:List Ev)(v:Ev):Jz r (l++[v]) (l++[v]).length=if v.cls=r then (if v.Zy=true then Jz r l l.length++[l.length] else (Jz r l l.length).tail) else Jz r l l.length:=by
 have b:(l++[v]).getD l.length default=v:=σ;rw[ZT,qT];unfold Jz;rw[b,NF r l [v] l.length (Qs _)];cases l with
 | nil=>rfl
 | cons a l=>rfl
def nu(l m:List Ev){q:List Nat}(h:∀i∈q,i<l.length):(q.map λi=>((l++m).getD i default).pk)=q.map λi=>(l.getD i default).pk:=EX λi a=>by rw[ER (h i a)]
def Qme{r}{l:List Ev}(h:RV r l)(v:Ev)(i:v.cls=r->v.Zy=false->∃a q,Jz r l l.length=a::q/\v.len=(l.getD a default).len):RV r (l++[v]):=λk j d c=>by
 rw[ZT,qT]at j;by_cases e:k<l.length
 .rw[ER e]at d c ⊢;obtain⟨a,q,b,f⟩:=h k e d c;rw[NF r l [v] k ω];have g:=B0 r l k a (by rw[b];exact Z3);exact⟨a,q,b,by rw[ER ω];exact f⟩
 .have e:k=l.length:=ω;subst e;have m:(l++[v]).getD l.length default=v:=σ;rw[m]at d c ⊢;obtain⟨a,q,b,f⟩:=i d c;rw[NF r l [v] _ (Qs _)];have g:=B0 r l l.length a (by rw[b];exact Z3);exact⟨a,q,b,by rw[ER g];exact f⟩
def QDI{R}{l}{S:Zj}(I:ZC S)(Q:bn R l S)(g):bn R (l++(ZB S g S.Qd).2) (ZB S g S.Qd).1:=by
 unfold ZB;split
 .rw[Jv];exact Q
 .split
  .rename_i f;obtain⟨v,d⟩:∃v,v=AD g (V8 S.M S.Qd) S.Qd (S.Qd+VN S.M.lk (Jd S.M S.Qd).len) (ZP S.M S.Qd) (Jd S.M S.Qd):=⟨_,rfl⟩;have v1:v.Zy=false:=by rw[d];rfl
   have v2:v.cls=ZP S.M S.Qd:=by rw[d];rfl
   have n:v.len=(Jd S.M S.Qd).len:=by rw[d];rfl
   obtain⟨x,L,o,hx⟩:=GA I.I I.V f;rw[<- d];refine⟨λr c=>?_,λr c=>Qme (Q.f r c) v λk _=>?_⟩
   .show QW (takeN S.M S.Qd) r=_;rw[Qmd,Az,v2,v1];have b:=Q.w r c;by_cases e:ZP S.M S.Qd=r
    .rw[Qf ⟨f,e⟩,Qf e,Qe k9,b,nu l [v] λi j=>B0 r l _ i (NS j),List.map_tail]
    .rw[Qe λh=>e h.2,Qe e,b,nu l [v] λi j=>B0 r l _ i j]
   .rw[v2]at k;have b:=Q.w r c;rw[<- k,o]at b;cases m:Jz (ZP S.M S.Qd) l l.length with
    | nil=>rw[m]at b;cases b
    | cons a q=>
     rw[m,Jo,yI]at b;rw[<- k];refine⟨a,q,m,?_⟩;rw[n,hx,b.1];rfl
  .rename_i f;rw[Jv];refine⟨λr c=>?_,Q.f⟩;show QW (takeN S.M S.Qd) r=_;rw[Az,Qe λh=>f h.1];exact Q.w r c
def QDJ{R}{l}{S:Zj}(Q:bn R l S){J}{x}(g:Yp S.M S.Qd J x=0)(d):bn R (l++[Vz d S.Qd J x]) { S with M:=Zr S.M S.Qd J x }:=by
 refine⟨λr b=>?_,λr b=>Qme (Q.f r b) _ λ_ k=>by cases k⟩;show QW (Zr S.M S.Qd J x) r=_;have f:=Q.w r b;obtain⟨v,a⟩:∃v,v=Vz d S.Qd J x:=⟨_,rfl⟩;have v1:v.Zy=true:=by rw[a];rfl
 have v2:v.cls=J:=by rw[a];rfl
 have v3:v.pk=x:=by rw[a];rfl
 have j:(l++[v]).getD l.length default=v:=σ;rw[<- a,Qmd,IG,v2,v1];by_cases e:J=r
 .rw[Qf ⟨g,e⟩,Qf e,Qf rfl,jZ,nu l [v] λi c=>B0 r l _ i c,f,Jo,j,v3];rfl
 .rw[Qe λh=>e h.2,Qe e,f,nu l [v] λi c=>B0 r l _ i c]
structure X6 (T:List Qq) (R:List Int) (cv:Int->Nc) (K Tk:Nat) (W:Int->List (Nat × Nat)) (l:List Ev) (S:Zj):Prop where
 ga:GK T R cv K Tk W l S
 sq:GL R W l S
 qu:bn R l S
 lt:∀r∈R,NG r (cv r) K l
def X6.Qd{T}{R}{a}{K b}{W}{l}{S:Zj}(h:X6 T R a K b W l S){Y}(e:S.Qd<=Y):X6 T R a K b W l { S with Qd:=Y }:=⟨h.ga.Qd e,h.sq.Qd Y,⟨h.qu.w,h.qu.f⟩,h.lt⟩
section
variable {T:List Qq}{R:List Int}{cv:Int->Nc}{K Tk:Nat}(G:xz T R cv)(Wd:∀t,(R.map λr=>Jk (cv r).a (cv r).d (cv r).b t).sum*Tk<=65536*t)
include G Wd
theorem Qmf{W}{l}{S}(I:ZC S)(h:X6 T R cv K Tk W l S)
  (g:S.ZR<S.Qd->∀r∈R,0<Z7 S.M r->∀e P L,W r=(e,P)::L->S.Qd<=(QK S.M r).KN\/e=S.Qd) (c:Nat) (f:l.length+(ZB S c S.Qd).2.length<=1000000000) :
  X6 T R cv K Tk W (l++(ZB S c S.Qd).2) (ZB S c S.Qd).1:=
 ⟨QDr G Wd I h.ga g c f,QDC G I h.ga.gu h.sq c ω,QDI I h.qu c,QDG G Wd I h.ga.gu h.sq h.qu.w h.qu.f g c f h.lt⟩
theorem QDK{W}{l:List Ev}{S:Zj}(I:ZC S)(g:S.Qd<Zb S)(h:X6 T R cv K Tk W l S){J}{x}(e:Yp S.M S.Qd J x=0)(i:l.length+1<=1000000000)(c):
  X6 T R cv K Tk (λr=>if r=J/\QW S.M J=[] then (S.Qd,(QK S.M r).QA)::W r else W r) (l++[Vz c S.Qd J x]) { S with M:=Zr S.M S.Qd J x }:=
 ⟨QDs G Wd I g h.ga e i c,QDD G I h.ga.gu.T h.ga.sp h.sq e c,QDJ h.qu e c,λr f=>(h.lt r f).snoc _ λ_ j=>by cases j⟩
theorem Qmg{W}{c e}(u:e<=4611686018427387904):∀(n:Nat) {l:List Ev} {S:Zj},ZC S->S.Qd<=e->S.Qd<Zb S->X6 T R cv K Tk W l S->l.length+(Vf c e n S).2.length<=1000000000 ->
  X6 T R cv K Tk W (l++(Vf c e n S).2) (Vf c e n S).1
 | 0,l,S,I,j,o,h,f=>by
  show X6 T R cv K Tk W (l++[]) _;rw[Jv];exact h.Qd j
 | n+1,l,S,I,j,o,h,f=>by
  unfold Vf at f ⊢;split at f
  .rename_i g;rw[Qf g];show X6 T R cv K Tk W (l++[]) _;rw[Jv];exact h.Qd j
  .rename_i g;rw[Qe g];have g:Zb S<=e:=ω;have m:=aK S I.cl;have k:=I.at_ m (show Zb S<=4611686018427387904 from ω);have v:=h.Qd m;dsimp only at f ⊢;rw[ZT]at f;have P:=Qmf G Wd k v (λi r s w y P L z=>.inl (QbF (T:=T) G I.I I.V h.ga.gu.T s w (by show Zb S<=_;omega) (by
    have i:S.ZR<Zb S:=i;show Zb S<=Ve S.M;unfold Zb Yq at i o ⊢;omega))) c (by
    show l.length+(ZB { S with Qd:=Zb S } c (Zb S)).2.length<=_;omega)
   have p:=Nq { S with Qd:=Zb S } c (Zb S);have q:=QkB k c;have x:=Qmg u n (k.IK c) (by
    show (ZB { S with Qd:=Zb S } c (Zb S)).1.Qd<=e;rw[p.1];exact g) (by show (ZB { S with Qd:=Zb S } c (Zb S)).1.Qd<Zb (ZB { S with Qd:=Zb S } c (Zb S)).1;rw[p.1];exact q) P (by rw[ZT];show l.length+(ZB { S with Qd:=Zb S } c (Zb S)).2.length+(Vf c e n (ZB { S with Qd:=Zb S } c (Zb S)).1).2.length<=_;omega)
   rw[<- Wu];exact x
end
def X6.re{T}{R}{b}{K c}{W}{l}{S a:Zj}(h:X6 T R b K c W l S)(f:a.M=S.M)(e:a.Qd=S.Qd)(d:a.ZR=S.ZR):X6 T R b K c W l a:=by
 obtain⟨M,o,q,n,Qd,i⟩:=S;obtain⟨r,m,p,g,k,j⟩:=a;subst f e d;exact⟨⟨⟨h.ga.gu.T,h.ga.gu.tk,h.ga.gu.kk,h.ga.gu.lf,h.ga.gu.pk,h.ga.gu.nw,h.ga.gu.wk,h.ga.gu.inv⟩,⟨h.ga.ge.dn,h.ga.ge.fl,h.ga.ge.sn⟩,⟨h.ga.sp.n,h.ga.sp.g⟩⟩,⟨h.sq.g⟩,⟨h.qu.w,h.qu.f⟩,h.lt⟩
section
variable {T:List Qq}{R:List Int}{cv:Int->Nc}{K Tk:Nat}(G:xz T R cv)(Wd:∀t,(R.map λr=>Jk (cv r).a (cv r).d (cv r).b t).sum*Tk<=65536*t)
include G Wd
theorem QDL{W}{l:List Ev}{S:Zj}(I:ZC S)(z:S.Qd<Zb S)(h:X6 T R cv K Tk W l S){o:Je}(Y:o.kind≠1)(e:l.length+(Kb S o).l.length<=1000000000):
  ∃F,X6 T R cv K Tk F (l++(Kb S o).l) (Kb S o).S:=by
 have i:X6 T R cv K Tk W l { S with ops:=S.ops+1 }:=h.re rfl rfl rfl;have v:=I.ops (S.ops+1);have c:∀H,X6 T R cv K Tk W l H->∃F,X6 T R cv K Tk F (l++[]) H:=λH h=>⟨W,by rw[Jv];exact h⟩;unfold Kb Wa at e ⊢;rw[Qe Y]at e ⊢;split at e
 .rename_i E;rw[Qf E];split
  .exact c _ (i.re rfl rfl rfl)
  .exact c _ i
 .rename_i E;rw[Qe E];split at e
  .rename_i C;rw[Qf C];unfold qh at e ⊢;split at e
   .rename_i k;rw[Qf k];exact c _ i
   .rename_i k;rw[Qe k];dsimp only at e ⊢;obtain⟨J,hJ⟩:∃J,J=Kj S.R (ZZ o.ZG):=⟨_,rfl⟩;rw[<- hJ]at e ⊢;split at e
    .rename_i g;rw[Qf g];rw[VQ]at e;have P:=QDK G Wd v z i (J:=J) (x:=o.ZG) g ω S.ops;have P2:X6 T R cv K Tk (λr=>if r=J/\QW S.M J=[] then (S.Qd,(QK S.M r).QA)::W r else W r) (l++[Vz S.ops S.Qd J o.ZG]) { S with ops:=S.ops+1,M:=Zr S.M S.Qd J o.ZG,st:=wh S.st J S.Qd }:=
      P.re rfl rfl rfl
     have I2:=(v.put J o.ZG).Jp J S.Qd (by have:=I.cl;omega);have Zg:=(QlZ G v z i.ga.gu (J:=J) (x:=o.ZG) g ω).2;have Q:=Qmf G Wd I2 P2 Zg S.ops (by
      rw[ZT];show l.length+1+(ZB { S with ops:=S.ops+1,M:=Zr S.M S.Qd J o.ZG,st:=wh S.st J S.Qd } S.ops S.Qd).2.length<=_;omega)
     rw[Wu]at Q;exact⟨_,Q⟩
    .rename_i g;rw[Qe g];have u:¬Yp S.M S.Qd J o.ZG=0:=g;have y:∀r,QW (Zr S.M S.Qd J o.ZG) r=QW S.M r:=λr=>by rw[IG,Qe λh=>u h.1]
     have Z:∀r,QK (Zr S.M S.Qd J o.ZG) r=QK S.M r:=λr=>by
      obtain⟨t1,_,_⟩:=xp S.M S.Qd;unfold Yp at u;unfold QK Zr;split
      .rename_i V;rw[Qf V]at u;have f:=QlP (M:=ZA S.M S.Qd) S.Qd J o.ZG r;rw[t1]at f;have f:(Qj (Vx (ZA S.M S.Qd) S.Qd J o.ZG).N r).map zD=(Qj S.M.N r).map zD:=by
        rw[f];congr 1;funext m;rw[Qe λh=>u h.1];rfl
       exact congrArg Prod.snd (Qkq f)
      .rfl
     have j:QK (Zr S.M S.Qd J o.ZG)=QK S.M:=funext Z;have O:Z7 (Zr S.M S.Qd J o.ZG)=Z7 S.M:=funext λr=>by unfold Z7;rw[y]
     refine c _ ⟨⟨⟨(mZ _ _ _ _).trans h.ga.gu.T,by show (Zr S.M S.Qd J o.ZG).lk.t.toNat=_;rw[BV];exact h.ga.gu.tk,by show (Zr S.M S.Qd J o.ZG).lk.ZJ.toNat*_=_;rw[BV];exact h.ga.gu.kk,?_,?_,?_,?_,?_⟩,⟨h.ga.ge.dn,?_,?_⟩,⟨λr q=>?_,h.ga.sp.g⟩⟩,⟨λr q p g=>?_⟩,⟨λr q=>?_,h.qu.f⟩,h.lt⟩
     .show ∀r∈R,Cm (cv r) S.Qd (W r) (QK (Zr S.M S.Qd J o.ZG) r) (Z7 (Zr S.M S.Qd J o.ZG) r);rw[j,O];exact h.ga.gu.lf
     .show ∀r∈R,(QK (Zr S.M S.Qd J o.ZG) r).QA<=_;rw[j];exact h.ga.gu.pk
     .show ∀r∈R,W r=[]->(QK (Zr S.M S.Qd J o.ZG) r).QA=0;rw[j];exact h.ga.gu.nw
     .show ∀r∈R,∀N P L,W r=(N,P)::L->(QK (Zr S.M S.Qd J o.ZG) r).QA=P\/N<S.ZR;rw[j];exact h.ga.gu.wk
     .show ∀d,d<=9223372036854775807->∃t0 B,t0<=S.Qd/\QD R cv K Tk d t0 B (QK (Zr S.M S.Qd J o.ZG)) (Z7 (Zr S.M S.Qd J o.ZG)) S.ZR;rw[j,O];exact h.ga.gu.inv
     .show ∀r∈R,∃n:Nat,(n:Int)<=(Zr S.M S.Qd J o.ZG).lk.ZJ/\(∀U,qQ r U l<=jS r U S.Qd l+n)/\(n=0\/∃w,∃p∈W r,S.ZR<=w+K/\p.1<w/\p.2*65536+Jk (cv r).a (cv r).d (cv r).b (w - 1 - p.1)<(QK (Zr S.M S.Qd J o.ZG) r).QA*65536);rw[j,BV];exact h.ga.ge.fl
     .show ∀r∈R,∀p∈W r,(QK (Zr S.M S.Qd J o.ZG) r).QA<=p.2+qQ r p.1 l;rw[j];exact h.ga.ge.sn
     .show (W9 r l).n=(QW (Zr S.M S.Qd J o.ZG) r).length;rw[y];exact h.ga.sp.n r q
     .show ∃x∈(W9 r l).g,x.1=p.1/\(QK (Zr S.M S.Qd J o.ZG) r).QA<=p.2+x.2;rw[j];exact h.sq.g r q p g
     .show QW (Zr S.M S.Qd J o.ZG) r=_;rw[y];exact h.qu.w r q
  .rename_i C;rw[Qe C];split at e
   .rename_i k;rw[Qf k];unfold zA at e ⊢;split at e
    .rename_i s;rw[Qf s];exact c _ i
    .rename_i s;rw[Qe s];have:=I.cl;have s:¬(4611686018427387904 - S.Qd<o.Wn.toNat):=s;exact⟨W,Qmg G Wd (S:={ S with ops:=S.ops+1 }) (by show S.Qd+o.Wn.toNat<=_;omega) _ v (by show S.Qd<=S.Qd+_;omega) z i e⟩
   .rename_i k;rw[Qe k];exact c _ i
theorem Qmh:∀(c:List Je) {W:Int->List (Nat × Nat)} {l:List Ev} {S:Zj},ZC S->S.Qd<Zb S->X6 T R cv K Tk W l S->(∀o∈c,o.kind≠1/\Je.Ok o)->l.length+(Zz S c).2.2.length<=1000000000 ->
  ∃s,X6 T R cv K Tk s (l++(Zz S c).2.2) (Zz S c).1/\ZC (Zz S c).1/\(Zz S c).1.Qd<Zb (Zz S c).1
 | [],W,l,S,I,e,h,_,_=>⟨W,by show X6 T R cv K Tk W (l++[]) S;rw[Jv];exact h,I,e⟩
 | o::c,W,l,S,I,e,h,i,f=>by
  obtain⟨k,g⟩:=i o Z3;have f:l.length+((Kb S o).l++(Zz (Kb S o).S c).2.2).length<=1000000000:=f;rw[ZT]at f;obtain⟨u,p⟩:=QDL G Wd I e h k ω;have A:=QkF I e g.2.1.2;obtain⟨q,j,n⟩:=Qmh c (I.do g.2.1.2) A.1 p (λb m=>i b (Jw _ m)) (by rw[ZT];omega);rw[Wu]at j;exact⟨q,j,n⟩
end
def QDM{P h p x y Y}(c:P<=p+x)(b:h<=y)(a:(x+y)*65536<=Y):(P+h)*65536<=p*65536+Y:=
 JL (Vm 65536 (show P+h<=p+(x+y) from ω)) (by rw[Kh p];exact Nat.add_le_add_left a _)
section
variable {T:List Qq}{R:List Int}{cv:Int->Nc}{K Tk:Nat}(G:xz T R cv)(Wd:∀t,(R.map λr=>Jk (cv r).a (cv r).d (cv r).b t).sum*Tk<=65536*t)
include G Wd
theorem waits{W}{l:List Ev}{S:Zj}(I:ZC S)(hn:S.Qd<Zb S)(h:X6 T R cv K Tk W l S){r}(c:r∈R){i}(hi:i∈Jz r l l.length){X}(hX:X<=4611686018428436480)
  (hF:∀F,Dn r l F->(l.getD F default).at_.toNat+dX (cv r)<=X/\YD r l F (i+1)*65536<=Jk (cv r).a (cv r).d (cv r).b (X - (l.getD F default).at_.toNat)):S.Qd<X+K:=by
 have y:X5 (cv r):=by
  obtain⟨Z,k1,_⟩:=(G.mem r).1 c;exact(G.cv r c Z k1).2
 have U:=I.cl;have u:=h.qu.w r c;have L:=h.ga.gu.lf r c;obtain⟨j,b',C⟩:=List.append_of_mem hi;have hq:QW S.M r≠[]:=λe=>by
  rw[e,C]at u;simp at u
 have k:0<Z7 S.M r:=(QbG (I.len r)).2 hq;have H:Z7 S.M r<=wu l (j++[i]):=by
  unfold Z7;rw[u,C];cases j with
  | nil=>exact Nat.le_of_eq (by simp[wu,GJ,Ev.pk])
  | cons x j=>
   show (l.getD x default).len.toNat<=wu l (x::(j++[i]));simp[wu]
 cases g:W r with
 | nil=>have:=L.none g;omega
 | cons f L0=>
  obtain⟨a1,o,a3,O⟩:=L.run f.1 f.2 L0 g;have VW:=L.pk f (by rw[g];exact Z3);have s:=(L.hd k).2;have N:∀p∈W r,p.1+dX (cv r)<=X/\((QK S.M r).QA+Z7 S.M r)*65536<=p.2*65536+Jk (cv r).a (cv r).d (cv r).b (X - p.1):=λp v=>by
   obtain⟨x,q,M,Y⟩:=h.sq.g r c p v;have q:x∈(EO [r] l l.length).g:=by
    unfold EO;rw[YH];exact q
   obtain⟨F,f1,f2,f3,f4⟩:=QbT l.length (Qs _) x q;obtain⟨m,z⟩:=hF F f1;have c1:=(QbR (h.qu.f r c) f1 l.length f2 (Qs _)).2 j b' i C;rw[c1,<- f4,f3,M]at z;rw[f3,M]at m;exact⟨m,QDM Y H z⟩
  have E:=Ql6 y o O (N f (by rw[g];exact Z3)).1 hX λp v=>(N p v).2;rw[<- s]at E;have w:(QK S.M r).dead<=9223372036854775807:=ω;rw[g]at o a3 O;have hg:=m7 y (P:=f.2) (V:=(QK S.M r).QA+Z7 S.M r) ω o Z3 ω;rw[<- s]at hg;by_cases hu:S.Qd<S.ZR
  .obtain⟨t0,B,m,Q⟩:=h.ga.gu.inv (QK S.M r).dead w;have hB:kY (cv r) t0 (B r) (QK S.M r).dl:=by
    rcases Q.q r c with h1|h1|h1
    .omega
    .omega
    .exact h1
   obtain⟨m,z,b3⟩:=Q.bb r c;obtain⟨g1,g2⟩:=hB.ser y (V:=(QK S.M r).QA+Z7 S.M r) o ω w (by rw[<- s];exact Qs _) ω;have:=Q.done G.nd c (n:=Z7 S.M r) Wd (QlM g2 (Qs _)) ω;omega
  .have J:=QDt hn ω;have hE:S.Qd<(QK S.M r).KN:=by
    have:=QbF (T:=T) G I.I I.V h.ga.gu.T c k (t:=S.Qd) U (Nat.le_of_lt J);by_cases e:(QK S.M r).KN=S.Qd
    .exfalso;have hx:=bg G I.I I.V h.ga.gu.T c k;have h2:=(QaR I.V.qg.1 (now:=S.Qd) U).2 ⟨_,hx,by show (QK S.M r).KN<=_;omega⟩;have h3:=QDu S.M;omega
    .omega
   have:=Ql7 G I h.ga.gu c k hE w;omega
end
def QDP{c}(K:Xp c)(f:List Je)(hl:f.length<=1000)(C:∀o∈f,Je.Ok o)(y:∀o∈f.tail,o.kind≠1){r}{k}
  (g:QC (Zz (S0 c) f).1.M.T r=some k) (V:1<QS k.rt) :
  NG r (Zq k.rt) (c.ZJ.toNat*c.t.toNat) (Zz (S0 c) f).2.2/\∀i∈Jz r (Zz (S0 c) f).2.2 (Zz (S0 c) f).2.2.length,∀X:Nat,X<=4611686018428436480 ->
   (∀F,Dn r (Zz (S0 c) f).2.2 F->((Zz (S0 c) f).2.2.getD F default).at_.toNat+dX (Zq k.rt)<=X/\YD r (Zz (S0 c) f).2.2 F (i+1)*65536<=Jk (Zq k.rt).a (Zq k.rt).d (Zq k.rt).b (X - ((Zz (S0 c) f).2.2.getD F default).at_.toNat)) ->
   (Zz (S0 c) f).1.Qd<X+c.ZJ.toNat*c.t.toNat:=by
 cases f with
 | nil=>cases g
 | cons o l=>
  have y:∀b∈l,b.kind≠1:=y;have hT:(Zz (S0 c) (o::l)).1.M.T=(Kb (S0 c) o).S.M.T:=QlD l _ y;rw[hT]at g;have q:=Qlj (x:=⟨c,o::l⟩) K hl (Qs _) C;have q:((Kb (S0 c) o).l++(Zz (Kb (S0 c) o).S l).2.2).length<100000000:=q;rw[ZT]at q;by_cases Q:o.kind=1
  .have e:Kb (S0 c) o=⟨{ S0 c with ops:=1,M:=KO (M0 c) (decide ((S0 c).ZR<=(S0 c).Qd)) o.changes },⟨jM (M0 c) (decide ((S0 c).ZR<=(S0 c).Qd)) o.changes,Aw (M0 c) o.changes,0⟩,[]⟩:=by
    unfold Kb Wa;rw[Qf Q];rfl
   have Z:=(C o Z3).2.1.2;have I:=(ZC.Nx K).do (o:=o) Z;obtain⟨m,t⟩:∃m,m=(Kb (S0 c) o).S:=⟨_,rfl⟩;have z:m.M=KO (M0 c) (decide ((S0 c).ZR<=(S0 c).Qd)) o.changes:=by rw[t,e]
   have ay:m.Qd=0:=by rw[t,e];rfl
   have nh:m.ZR=0:=by rw[t,e];rfl
   have A:=QkF (S:=S0 c) (ZC.Nx K) (by show 0<min (max (max 0 0) (min never never)) 9223372036854775808;decide) (o:=o) Z;have U:=A.1;rw[<- t]at g I U;have G7:yq c.t (XA m.M.T)=0:=by
    rw[z]at g ⊢;unfold KO at g ⊢;split at g
    .rename_i B;rw[Qf B];unfold jM at B;split at B
     .rename_i s;exact absurd B s
     .rename_i s;have s:yr (M0 c).T (M0 c).lk.t o.changes=0:=jX s;unfold yr at s;split at s
      .cases s
      .split at s
       .rename_i h3;exact absurd s h3
       .rw[show (xr (M0 c) (Jy (M0 c).T o.changes)).T=Jy (M0 c).T o.changes from (Gt _ _).1];exact s
    .cases g
   have a0:(Zz (S0 c) (o::l)).1.M.lk=c:=(bc (x:=c) (o::l) (ZC.Nx K) (W:=λ_=>[]) (a:=IX) (d:=0) ⟨λj=>rfl,rfl,qR _,qR _,rfl⟩ C).st.lk;have G:=gut I.I.tree I.I.vW;have Y:=QDz I.I.tree I.I.vW G7;have O:∀j,QW m.M j=[]:=λj=>by rw[z];exact QBg _ _ j
   have w:∀j,Z7 m.M j=0:=λj=>by unfold Z7;rw[O];rfl
   have H:∀j,QK m.M j=default:=λj=>by
    unfold QK Qv;cases R:Qj m.M.N j with
    | none=>rfl
    | some n=>
     rw[z]at R;exact(QC5 _ _ _ _ R).2.2
   have J:m.M.lk=c:=by rw[z,Rw];rfl
   have g0:GK m.M.T (EP m.M.T) (yF m.M.T) (c.ZJ.toNat*c.t.toNat) c.t.toNat (λ_=>[]) [] m:=by
    refine⟨⟨rfl,by rw[J],by rw[J],λr g=>?_,λr g=>?_,λr g _=>?_,λr g lw P L h=>(by cases h),λd hd=>?_⟩,⟨λe he=>(by cases he),λr g=>⟨0,by rw[J];have:=K.l1;omega,λJu=>Qs _,.inl rfl⟩,λr g p u=>(by cases u)⟩,⟨λr g=>?_,λr g p u=>(by cases u)⟩⟩
    .rw[H,w];exact⟨⟨λh=>(by cases h),λh=>absurd rfl h⟩,λ_=>rfl,λlw P L h=>(by cases h),λp u=>(by cases u),λh=>absurd h (B6 0)⟩
    .rw[H];exact Z9 _
    .rw[H];rfl
    .rw[ay,nh];exact⟨0,_,Qs _,QD.reset (Z9 _) λr g=>.inl (w r)⟩
    .rw[O];rfl
   have wF:(Zz (S0 c) (o::l)).2.2=(Zz m l).2.2:=by
    show (Kb (S0 c) o).l++(Zz (Kb (S0 c) o).S l).2.2=_;rw[<- t,show (Kb (S0 c) o).l=[] by rw[e],Yr]
   have JB:(Zz (S0 c) (o::l)).1=(Zz m l).1:=by
    show (Zz (Kb (S0 c) o).S l).1=_;rw[<- t]
   rw[<- t]at q;have b0:X6 m.M.T (EP m.M.T) (yF m.M.T) (c.ZJ.toNat*c.t.toNat) c.t.toNat (λ_=>[]) [] m:=⟨g0,⟨λr g p u=>(by cases u)⟩,⟨λr g=>(by rw[O];rfl),λr g k hk=>absurd hk (Xc k)⟩,λr g i E=>absurd E (Xc i)⟩;obtain⟨W,N,R2,R3⟩:=Qmh G Y l I U b0 (λb T=>⟨y b T,C b (Jw _ T)⟩) (by rw[Qar];omega);rw[Yr]at N;rw[wF,JB];have v:r∈EP m.M.T:=(G.mem r).2 ⟨k,g,Ql5 (I.I.tree.right k ((VL I.I.tree.rising).1 g).1) V,V⟩;have TG:yF m.M.T r=Zq k.rt:=(G.cv r v k g).1;rw[<- TG];exact⟨N.lt r v,λi E X hX hF=>waits G Y R2 R3 N v E hX hF⟩
  .rw[QlC Q]at g;cases g
end Go.Fg.X
namespace Go.Fg.X
open Go.Proofs Go.Fg
open Go.Proofs.Tryz
def QDQ(d:D)(a:List Ob):D->List Ob->Prop:=λb h=>b=d/\h=a
attribute [go_sem] QDQ
structure Kn where
 RY:Int
 since:Int
 work:Nat
@[go_sem] def Kn.cells(k:Kn):List D:=[.raw (.int .u64 k.RY),.raw (.int .u64 k.since),.raw (.int .i64 k.work)]
def Kn.next(k:Kn)(e:Ev):Kn:=
 if e.Zy=true then ⟨k.RY,if k.work=0 then e.at_ else k.since,k.work+1⟩ else ⟨max k.RY e.done,k.since,k.work - 1⟩
def Kn.late(k:Kn)(e:Ev):Bool:=!e.Zy&&(decide (0<k.work)&&decide (max k.RY k.since<e.at_))
@[go_sem] def QJj(k:Kn):Ob:=⟨.one,0,3,1,λ_=>k.cells⟩
def Qmj(l:List Ev):Nat->Kn
 | 0=>⟨0,0,0⟩
 | k+1=>(Qmj l k).next (l.getD k default)
def WK(l:List Ev)(k:Nat):Bool:=(Qmj l k).late (l.getD k default)
structure Qmk (T:List Qq):Prop where
 ul:∀c∈T,¬1<QS c.ul
 ls:∀c∈T,c.leaf=true->1<QS c.ls
section
variable {M:Ql}(I:Qz M)(V:Inv M)(F:mY M)(P:Qmk M.T)
include I V F P
end
structure QDR (k:Kn) (S:Zj):Prop where
 w:k.work=Vy S.M
 u:k.RY=S.ZR
 s:k.since<=S.Qd
 F:mY S.M
 P:Qmk S.M.T
structure QJk (k:Kn) (S:Zj):Prop extends QDR k S where
 b:0<Vy S.M->S.Qd<S.ZR
structure Dp where
 Ju:Int
 to:Int
instance:Inhabited Dp:=⟨⟨0,0⟩⟩
@[go_sem] def Dp.cells(s:Dp):List D:=[.raw (.int .u64 s.Ju),.raw (.int .u64 s.to)]
def Dp.rows(l:List Dp):Nat->List D:=λi=>(l.getD i default).cells
@[go_sem] theorem Dp.xY(l:List Dp)(i):Dp.rows l i=(l.getD i default).cells:=rfl
@[go_sem] def strs(l:List Dp):D:=.imm 2 l.length (Dp.rows l)
structure StS where
 l:List Dp
 RY:Int
def rw_(l:List Ev):Nat->Nat
 | 0=>0
 | k+1=>if (l.getD k default).Zy=true then rw_ l k+1 else rw_ l k - 1
@[simp] theorem QJm(l:List Ev):rw_ l 0=0:=rfl
end Go.Fg.X
namespace Go.Fg.X
open Go.Proofs Go.Fg
open Go.Proofs.Tryz
def Lb(l:List Je):Bool:=(l.drop 1).all λo=>o.kind != 1
def still_at{l:List Je}(h:Lb l=true){k}(a:k<l.length)(c:0<k):(l.getD k default).kind≠1:=by
 have b:=jo.1 h (l.getD k default) (by
  rw[Q7,QT a];obtain⟨j,rfl⟩:∃j,k=j+1:=⟨k - 1,ω⟩;refine NR (i:=j) ?_;rw[GO,Sn,QT a];rfl)
 simpa using b
def QDS{l:List Je}(h:Lb l=true):∀o∈l.tail,o.kind≠1:=λo a=>by
 unfold Lb at h;rw[List.drop_one]at h;simpa using jo.1 h o a
def QDT{p:Pk}{c:Cf}(K:Xp c)(o:1<=p.len)(k:p.len<=c.ZJ):xw p c.t<=((c.ZJ.toNat*c.t.toNat:Nat):Int)/\0<=xw p c.t:=by
 have i:=K.l2;have h:=K.t2;have g:=K.t1;obtain⟨n,e⟩:∃n:Nat,p.len=n:=⟨p.len.toNat,ω⟩;obtain⟨T,f⟩:∃n:Nat,c.t=n:=⟨c.t.toNat,ω⟩;obtain⟨L,d⟩:∃n:Nat,c.ZJ=n:=⟨c.ZJ.toNat,ω⟩;rw[e,d]at k;rw[d]at i;rw[f]at h g;have m:n*T<=L*T:=Vm T ω;have l:L*T<=16384*65536:=X8 ω ω;have j:(n:Int)*(T:Int)=((n*T:Nat):Int):=rfl;unfold xw;rw[Qf ⟨ω,ω⟩,e,f,d,j,IntKind.wrap_u64];show _<=((L*T:Nat):Int)/\_;generalize n*T=a at *;generalize L*T=b at *;omega
def QbV{c}(K:Xp c)(b:List Je)(y:∀o∈b,Je.Ok o):∀i,i<(Zz (S0 c) b).2.2.length ->
  0<=((Zz (S0 c) b).2.2.getD i default).at_/\((Zz (S0 c) b).2.2.getD i default).at_<=4611686018427387904/\1<=((Zz (S0 c) b).2.2.getD i default).len/\((Zz (S0 c) b).2.2.getD i default).len<=c.ZJ /\
  (((Zz (S0 c) b).2.2.getD i default).Zy=false->((Zz (S0 c) b).2.2.getD i default).done<=((Zz (S0 c) b).2.2.getD i default).at_+((c.ZJ.toNat*c.t.toNat:Nat):Int)):=by
 have A:=bc (x:=c) b (ZC.Nx K) (W:=λ_=>[]) (a:=IX) (d:=0) ⟨λj=>rfl,rfl,qR _,qR _,rfl⟩ y;have f:=λ{i:Nat} (e:i<(Zz (S0 c) b).2.2.length) {k:Nat} (t:k<8)=>mX A.ok e t;obtain⟨l,q⟩:∃l,l=(Zz (S0 c) b).2.2:=⟨_,rfl⟩;rw[<- q]at f ⊢;have m:∀i,i<l.length->(RO l i).at_<=(l.getD i default).at_/\(l.getD i default).at_<=4611686018427387904:=λi e=>by
  have h:decide ((l.getD i default).at_<(RO l i).at_\/4611686018427387904<(l.getD i default).at_)=false:=f e (k:=1) π;rw[Fb]at h;omega
 have r:∀i,i<l.length->0<=(l.getD i default).at_:=λi=>by
  induction i with
  | zero=>intro e;exact(m 0 e).1
  | succ i s=>
   intro e;have v:=s ω;have u:(l.getD i default).at_<=(l.getD (i+1) default).at_:=(m (i+1) e).1;omega
 intro i e;have g:1<=(l.getD i default).len/\(l.getD i default).len<=c.ZJ:=by
  have h:(wm (l.getD i default).pk c.ZJ != 0)=false:=f e (k:=2) π;unfold wm at h;split at h
  .cases h
  .split at h
   .cases h
   .rename_i n;have n:¬¬(1<=(l.getD i default).len/\(l.getD i default).len<=c.ZJ):=n;omega
 refine⟨r i e,(m i e).2,g.1,g.2,λw=>?_⟩;have h:(!(l.getD i default).Zy&&(l.getD i default).done != IntKind.u64.wrap ((l.getD i default).at_+xw (l.getD i default).pk c.t))=false:=f e (k:=7) π;rw[w]at h;have h:(l.getD i default).done=IntKind.u64.wrap ((l.getD i default).at_+xw (l.getD i default).pk c.t):=by simpa using h
 have z:=QDT (p:=(l.getD i default).pk) K g.1 g.2;have v:=K.l2;have u:=K.t2;have C:c.ZJ.toNat*c.t.toNat<=16384*65536:=X8 ω ω;have B:=r i e;have n:=(m i e).2;rw[h,IntKind.wrap_u64];omega
def QDU{e:Ev}(h:0<=e.at_/\e.at_<=18446744073709551615)(a:-9223372036854775808<=e.len/\e.len<=9223372036854775807):e.yE:=by
 refine⟨?_,?_⟩
 .simp only[Lit.wf,ZX,Xd];exact h
 .simp only[Lit.wf,ZX,Xd];exact a
def QDV{c}(K:Xp c)(a:List Je)(l:∀o∈a,Je.Ok o):∀e∈(Zz (S0 c) a).2.2,e.yE:=λe k=>by
 obtain⟨i,b,rfl⟩:=NQ.1 k;have h:=QbV K a l i b;rw[Q7,QT b]at h;obtain⟨j,g,f,d,_⟩:=h;have j:0<=((Zz (S0 c) a).2.2[i]).at_:=j;have g:((Zz (S0 c) a).2.2[i]).at_<=4611686018427387904:=g;have f:1<=((Zz (S0 c) a).2.2[i]).len:=f;have d:((Zz (S0 c) a).2.2[i]).len<=c.ZJ:=d;have:=K.l2;exact QDU ω ω
structure ShL (m Zw:Nat) (x:Sh):Prop where
 b:x.run.b=false
 sl:x.run.t.m=m
 y:x.run.t.y<=Zw*65536
 t:x.time=x.run.t.x+cdiv (Zw*65536 - x.run.t.y) m
def nv(m a:Nat)(x:Sh):Nat:=m*x.run.t.x+(a*65536 - x.run.t.y)
end Go.Fg.X
namespace Go.Fg.X
open Go.Proofs Go.Fg
open Go.Proofs.Tryz
structure FaT (T:List Qq) (p:Int) (L:Nat):Prop where
 rt:∀c∈T,¬1<QS c.rt
 ul:∀c∈T,¬1<QS c.ul
 lin:∀c∈T,c.parent=p->1<QS c.ls->(Zq c.ls).of=2/\L<=(Zq c.ls).b/\UlC (Zq c.ls)
 l0:0<L
structure FaI (T:List Qq) (p:Int) (Gv B:Nat) (M:Ql):Prop where
 T_:M.T=T
 F:mY M
 none:M.KT p=[]->∀j n,Qj M.N j=some n->n.c.parent=p->n.sh.has=false
 has:∀j n,Qj M.N j=some n->n.c.parent=p->1<QS n.c.ls->n.sh.has=true->ShL (Zq n.c.ls).b n.Zw n.sh/\n.sh.time<=Gn (M.KT p)+Gv/\n.sh.time+Vy M*1073741824<=B*1073741824
 act:∀j n,Qj M.N j=some n->n.c.parent=p->JP M j=true->n.sh.has=true
 Zw:∀j n,Qj M.N j=some n->n.Zw+Vy M*16384<=B*16384
section
variable {M:Ql}(I:Qz M)(V:Inv M)(F:mY M)(SL:∀c∈M.T,¬1<QS c.ul)
include I V F SL
end
structure QJo (p:Int) (lo:Nat) (n m:Nd) (a a':Bool):Prop where
 c:m.c=n.c
 Zw:m.Zw=n.Zw
 st:(m.sh=n.sh/\a'=a)\/(a=false/\a'=true/\m.sh.has=true/\ShL (Zq n.c.ls).b n.Zw m.sh/\lo<=m.sh.time/\(n.sh.has=true->nv (Zq n.c.ls).b n.Zw n.sh<=nv (Zq n.c.ls).b n.Zw m.sh))
structure BhI (p i j:Int) (br ti tj P0:Nat) (M:Ql):Prop where
 i:∃n,Qj M.N i=some n/\n.c.parent=p/\1<QS n.c.ls/\JP M i=true/\ti<=n.Zw/\nv (Zq n.c.ls).b n.Zw n.sh+ti*65536=P0+n.Zw*65536
 low:br<=Gn (M.KT p)
 j:∃n,Qj M.N j=some n/\n.c.parent=p/\1<QS n.c.ls/\tj<=n.Zw/\((JP M j=false/\n.Zw=tj)\/(n.sh.has=true/\(n.Zw - tj)*65536+(Zq n.c.ls).b*br<=nv (Zq n.c.ls).b n.Zw n.sh+(Zq n.c.ls).b))
structure FaR (T:List Qq) (p:Int) (Gv B:Nat) (M M':Ql):Prop where
 I:FaI T p Gv B M'
 a:∀k,JP M' k=true->JP M k=true
 b:∀i j br ti tj P0,BhI p i j br ti tj P0 M->JP M' i=true->BhI p i j br ti tj P0 M'
section
variable {T:List Qq}{p:Int}{L lm Gv B:Nat}(G:FaT T p L)(hG:∀m n,L<=m->n<=lm->cdiv (n*65536) m<=Gv)(hB:B<=1000000)
include G hG hB
end
section
variable {c:Cf}(K:Xp c){l:List Je}(hl:∀o∈l,Je.Ok o)(hlen:l.length<=1000)(hs:∀k,k<l.length->0<k->(l.getD k default).kind≠1){T:List Qq}(hT:(Zz (S0 c) (l.take 1)).1.M.T=T){p:Int}{L lm Gv:Nat}(G:FaT T p L)(hG:∀m n,L<=m->n<=lm->cdiv (n*65536) m<=Gv)(vU:c.ZJ.toNat=lm)
include K hl hlen hs hT G hG vU
end
def ny{x d k}(a:0<d):cdiv x d<=k↔x<=k*d:=by
 unfold cdiv;rw[<- Nat.lt_succ_iff,Nat.div_lt_iff_lt_mul a,Nat.succ_mul];omega
end Go.Fg.X
namespace Go.Fg.X.SP
open Go.Proofs Go.Fg
open Go.Proofs.Tryz
@[go_sem] def QJq(n:Int):List D:=[.raw (.int .u64 n)]
@[go_sem] def QJr(n:Int):List D:=[.raw (.int .i64 n)]
def lens(a:List Int)(l:List Ev)(k:Nat):List Int:=(List.range (k+1)).map λj=>(qP a l j:Int)
theorem c2:((2:Nat):Int)=2:=rfl
structure Good (l:List Ev) (out:List Sp) (k n:Nat):Prop where
 a:∀i,i<out.length->∃f:Nat,(out.getD i default).fst=f/\f<k/\(out.getD i default).Ju=(l.getD f default).at_ /\
  ((out.getD i default).RN=false->∃t:Nat,(out.getD i default).aY=t/\f<t/\t<k/\(out.getD i default).to=(l.getD t default).at_)
 b:∀i,i+1<out.length->(out.getD i default).RN=false/\(out.getD i default).aY<(out.getD (i+1) default).fst
 c:0<n↔0<out.length/\(out.getD (out.length - 1) default).RN=true
def Rr(c)(l:List Ev):∀k,Good l (WD c l k) k (qP c l k)
 | 0=>⟨λi h=>by simp[WD]at h,λi h=>by simp[WD]at h,by simp[WD,qP]⟩
 | k+1=>by
  have G:=Rr c l k;have g:∀i,i<(WD c l k).length->∃f:Nat,((WD c l k).getD i default).fst=f/\f<k+1/\((WD c l k).getD i default).Ju=(l.getD f default).at_ /\
    (((WD c l k).getD i default).RN=false->∃t:Nat,((WD c l k).getD i default).aY=t/\f<t/\t<k+1/\((WD c l k).getD i default).to=(l.getD t default).at_):=λi d=>by
   obtain⟨f,j,o,q,p⟩:=G.a i d;exact⟨f,j,ω,q,λe=>let ⟨t,t1,t2,t3,t4⟩:=p e;⟨t,t1,t2,ω,t4⟩⟩
  have G:=G;simp only[WD,qP,Nw];generalize WD c l k=a at *;generalize qP c l k=n at *;generalize Dl n (l.getD k default) c=m at *;by_cases j:n=0/\0<m
  .rw[Qf j];have u:¬ (0<a.length/\(a.getD (a.length - 1) default).RN=true):=λh=>by have:=G.c.2 h;omega
   refine⟨λi d=>?_,λi d=>?_,?_⟩
   .by_cases b:i<a.length
    .rw[Qbp _ _ _ _ b];exact g i b
    .have:i=a.length:=by simp at d;omega
     subst this;rw[Qcd];exact⟨k,rfl,ω,rfl,λe=>by cases e⟩
   .simp only[ZT,VQ,Qar]at d;rw[Qbp _ _ _ _ ω];by_cases b:i+1<a.length
    .rw[Qbp _ _ _ _ b];exact G.b i b
    .have e:i+1=a.length:=ω;rw[e,Qcd];have r:(a.getD i default).RN=false:=by
      cases s:(a.getD i default).RN
      .rfl
      .exact absurd ⟨ω,by rw[show a.length - 1=i by omega];exact s⟩ u
     obtain⟨f,j,o,q,p⟩:=G.a i ω;obtain⟨t,t1,t2,t3,t4⟩:=p r;exact⟨r,by rw[t1];simp;omega⟩
   .simp only[ZT,VQ,Qar,Lj,JM];rw[Qcd];exact⟨λ_=>⟨ω,rfl⟩,λ_=>j.2⟩
  .rw[Qe j];by_cases o:0<n/\m=0
   .rw[Qf o];obtain⟨v,c2⟩:=G.c.1 o.1;obtain⟨f,f1,f2,f3,f4⟩:=G.a (a.length - 1) ω;refine⟨λi d=>?_,λi d=>?_,?_⟩
    .rw[XG]at d;by_cases b:i=a.length - 1
     .subst b;rw[Qce _ _ _ _ ω];exact⟨f,f1,ω,f3,λ_=>⟨k,rfl,f2,ω,rfl⟩⟩
     .rw[Qcf _ _ _ _ _ (Q8 b)];exact g i d
    .rw[XG]at d;rw[Qcf _ _ _ _ _ (show a.length - 1≠i from ω)];by_cases b:i+1=a.length - 1
     .rw[b,Qce _ _ _ _ ω];have:=G.b i d;rw[b]at this;exact this
     .rw[Qcf _ _ _ _ _ (Q8 b)];exact G.b i d
    .rw[XG,Qce _ _ _ _ ω];exact⟨λh=>ω,λh=>by cases h.2⟩
   .rw[Qe o];refine⟨g,G.b,?_⟩;rw[<- G.c];omega
def Qi(a:List Int)(l:List Ev)(i:Nat):Nat->Sp
 | 0=>⟨(l.getD i default).at_,0,i,0,true⟩
 | k+1=>if i<k/\(Qi a l i k).RN=true/\qP a l (k+1)=0 then ⟨(l.getD i default).at_,(l.getD k default).at_,i,k,false⟩ else Qi a l i k
def Qhe(a)(l:List Ev)(i):∀j,(Qi a l i j).Ju=(l.getD i default).at_/\(Qi a l i j).fst=i
 | 0=>⟨rfl,rfl⟩
 | j+1=>by simp only[Qi];split;exact⟨rfl,rfl⟩;exact Qhe a l i j
def Qqi(a)(l:List Ev)(i):∀j,j<=i+1->Qi a l i j=⟨(l.getD i default).at_,0,i,0,true⟩
 | 0,_=>rfl
 | j+1,h=>by simp only[Qi];rw[Qe ω];exact Qqi a l i j ω
def BU(a:List Int)(l:List Ev):Nat->List Nat
 | 0=>[]
 | i+1=>if 0<qP a l i\/qP a l (i+1)=0 then BU a l i else BU a l i++[i]
def QbA(b)(l:List Ev):∀k,∀a∈BU b l k,a<k
 | 0,a,h=>by simp[BU]at h
 | k+1,a,h=>by
  simp only[BU]at h;split at h
  .have:=QbA b l k a h;omega
  .rcases QX.1 h with h|h
   .have:=QbA b l k a h;omega
   .simp at h;omega
def Qqj(c)(l:List Ev):∀k,WD c l k=(BU c l k).map λa=>Qi c l a k
 | 0=>rfl
 | k+1=>by
  have n:=Qqj c l k;have G:=Rr c l k;rw[n]at G;have r:=QbA c l k;have d:(∀a∈BU c l k,(Qi c l a k).RN=true->qP c l (k+1)≠0)->(BU c l k).map (λa=>Qi c l a (k+1))=(BU c l k).map λa=>Qi c l a k:=λh=>by
   apply EX;intro a e;simp only[Qi];rw[Qe (λx=>h a e x.2.1 x.2.2)]
  simp only[WD,Nw,BU];rw[n];rw[show Dl (qP c l k) (l.getD k default) c=qP c l (k+1) from rfl];by_cases p:qP c l k=0/\0<qP c l (k+1)
  .rw[Qf p,Qe ω,jZ,d (λa _ _=>ω)];simp[Qqi c l k (k+1) ω]
  .rw[Qe p];by_cases g:0<qP c l k/\qP c l (k+1)=0
   .rw[Qf g,Qf ω];obtain⟨v,q⟩:=G.c.1 g.1;have w:=G.b;generalize B:BU c l k=L at *;rcases List.eq_nil_or_concat L with rfl|⟨I,a,rfl⟩
    .simp at v
    .simp only[List.concat_eq_append,jZ,Jo,Qa7,ZT,KK,VQ,Qar,Lj,JM]at *;have j:(I.map (λa=>Qi c l a k)++[Qi c l a k]).getD I.length default=Qi c l a k:=by
      simp
     rw[j]at q ⊢;have e:a<k:=r a σ;have t:I.map (λa=>Qi c l a (k+1))=I.map λa=>Qi c l a k:=by
      apply EX;intro b s;obtain⟨i,f,rfl⟩:=AQ s;have:=(w i ω).1;rw[Qbp _ _ _ _ (by simpa using f)]at this;simp only[Q7,KX,QT f,KA,Vn]at this;simp only[Qi];rw[Qe (λx=>by rw[this]at x;cases x.2.1)]
     rw[t,NT _ _ σ];obtain⟨f1,f2⟩:=Qhe c l a k;have y:Qi c l a (k+1)=⟨(l.getD a default).at_,(l.getD k default).at_,a,k,false⟩:=by
      simp only[Qi];rw[Qf ⟨e,q,g.2⟩]
     rw[y];simp[f1,f2]
   .rw[Qe g];by_cases u:qP c l (k+1)=0
    .rw[Qf ω];rw[d];intro a e o;exfalso;have z:qP c l k=0:=ω;obtain⟨i,f,rfl⟩:=AQ e;have j:((BU c l k).map λa=>Qi c l a k).getD i default=Qi c l (BU c l k)[i] k:=by
      simp[Q7,f]
     by_cases m:i+1<(BU c l k).length
     .have:=(G.b i (by simpa using m)).1;rw[j,o]at this;cases this
     .have:0<qP c l k:=G.c.2 ⟨ξ,by
       rw[show ((BU c l k).map λa=>Qi c l a k).length - 1=i by simp;omega,j];exact o⟩
      omega
    .rw[Qf ω,d (λ_ _ _=>u)]
end Go.Fg.X.SP
namespace Go.Fg.X
open Go.Proofs Go.Fg
open Go.Proofs.Tryz
@[go_sem] def dsp(s:SP.Sp):D:=.agg s.cells
def gB(T L:Int)(a d b:Nat)(u:List Ev)(c:Int)(s:SP.Sp):Nat:=Qao s.Ju.toNat (Qap T L a d b (Qbc (u.drop s.fst.toNat) [c] 0 18446744073709551615))
theorem QKa:(18446744073709551615:Int)=((18446744073709551615:Nat):Int):=rfl
def QKb(u:List Ev)(k):∀i,i<u.length - k->Ev.rows u (k+i)=Ev.rows (u.drop k) i:=λi a=>by
 simp only[Ev.xY,Q7,GO]
def QKc(h)(P O N M K)(T L)(a d b)(u:List Ev)(c)(s:SP.Sp)(m l)
  (y:(h.map Ob.ro)[P]? = some ⟨.WI,0,2,1,λ_=>[Qb T,Qb L]⟩) (x:(h.map Ob.ro)[O]? = some ⟨.WI,0,3,1,λ_=>[u64 a,u64 d,u64 b]⟩) (t:(h.map Ob.ro)[N]? = some ⟨.WI,0,1,1,λ_=>[.imm 12 u.length m]⟩) (r:(h.map Ob.ro)[M]? = some ⟨.WI,0,1,1,λ_=>[.ref K 0 0 1]⟩)
  (q:(h.map Ob.ro)[K]? = some ⟨.AU,0,1,1,l⟩) (An:∀i,i<u.length->m i=Ev.rows u i) (j:l 0=[Qb c])
  (Y:a<18446744073709551616) (W:d<18446744073709551616) (ZF:b<18446744073709551616) (U:Qba T L=true) (hu:u.length<2147483648) (R:∀e∈u,e.yE) (f0:0<=s.Ju/\s.Ju<=18446744073709551615) (k:Nat) (I:s.fst=k) (a0:k<=u.length) :
  Zf prog 61 h [dsp s,.ptr P 0 0 0,.ptr O 0 0 0,.ptr N 0 0 0,.ptr M 0 0 0] (λv=>v=u64 (gB T L a d b u c s)):=by
 obtain⟨J,p⟩:∃n:Nat,s.Ju=(n:Int):=⟨s.Ju.toNat,ω⟩;obtain⟨g,z⟩:∃g,g=Qbc (u.drop k) [c] 0 18446744073709551615:=⟨_,rfl⟩;have Z1:g<18446744073709551616:=by rw[z];exact QJT _ _ _ _
 have Ad:(u.drop k).length=u.length - k:=σ;have B:gB T L a d b u c s=Qao J (Qap T L a d b g):=by rw[gB,I,p,z];rfl
 have H:((k:Int)<=(u.length:Int)):=ω;have C:∀e∈u.drop k,e.yE:=λe V=>R e (List.mem_of_mem_drop V);rw[B];refine ZD func61 ntmps61 results61 λQ w pl F hF Ze f=>?_;rw[<- hF]at y x t r q;have QN:=Qc y;have Vu:=Qc x;have ZY:=Qc t;have eN:=Qc r;have E:=Qc q;simp only[go_sem];apply QB f [0,1,2,3,4,5,6,1007,1008,9,10,11,12,13];simp only[go_sem,Qa,y,x,t,r,QN,Vu,ZY,eN,I,H];have S:((u.length:Int) - (k:Int)).toNat=(u.drop k).length:=σ;refine Th f QB7 rfl ?_ (QJU (u.drop k) [c] 0 18446744073709551615 ω σ C) (Zp.flat rfl) rfl λv h' Z=>?_
 .simp only[go_sem,Qa,S,q,E,<- QKa];refine⟨λi o=>?_,λi o=>?_,λi o=>?_⟩
  .have:i=0:=ω;subst this;rw[j];rfl
  .rw[Ad]at o;rw[An (k+i) ω,QKb u k i o];rfl
  .have:i=0:=ω;subst this;rw[j];rfl
 obtain⟨rfl,rfl⟩:=Z;rw[<- z];apply Yx f;refine KJ f Qb6 ?_ (Qct T L a d b g Y W ZF Z1 U) ?_
 .simp only[go_sem,p]
 apply Zd f;simp only[go_sem,Qa,p];apply JW f QjB (Qk4 J (Qap T L a d b g) ω (by have:=QEK (S5 a d b (g*65536)) (T.toNat*L.toNat);unfold Qap;omega));apply QM f;exact⟨_,rfl⟩
@[go_sem] def sps(l:List SP.Sp):D:=.imm 5 l.length (λi=>(l.getD i default).cells)
def tN(T L:Int)(a d b:Nat)(u:List Ev)(c:Int):Nat:=(SP.WD [c] u u.length).foldl (λm s=>max m (gB T L a d b u c s)) 0
def Qqm(T L)(a d b)(l:List Ev)(c)(k)(y:a<18446744073709551616)(V:d<18446744073709551616)(Y:b<18446744073709551616)(hl:l.length<2147483648)(ho:∀e∈l,e.yE)(p:Qba T L=true)
  (hk:k<l.length) (g:(l.getD k default).Zy=true) (hc:(l.getD k default).cls=c) :
  Q9 prog 23 [cfg T L,iu a d b,wU l,Qb c,Qb k] (Zp (.tup [u64 (tN T L a d b (l.take (k+1)) c),Qb 0])):=by
 have h0:¬ ((k:Int)<0):=ω;have Jt:¬ ((k:Int) >= (l.length:Int)):=ω;have jy:(k:Int)+1<=(l.length:Int):=ω;have Zs:=Vl (show k<4611686018427387904 from ω);refine ZH 0 func23 ntmps23 results23 λa0 w h=>?_;simp only[go_sem];apply JW h Qb6 (Qct T L a d b 0 y V Y π p);apply Qh h;simp only[go_sem,QU h0,QU (show ¬ l.length<=k from ω),hk,g,zS hc,Zs,bne];have C:(l.take (k+1)).length=k+1:=ξ;have o:∀i,i<k+1->(l.take (k+1)).getD i default=l.getD i default:=λi g=>by simp only[Q7,X7,Qf g]
 obtain⟨u,q⟩:∃u,u=l.take (k+1):=⟨_,rfl⟩;rw[<- q]at C o ⊢;have r:∀e∈u,e.yE:=λe U=>ho e (by rw[q]at U;exact List.mem_of_mem_take U);refine And.intro ω ?_;refine OG h QCa rfl ?_ (SP.ij u [c] ω σ) (Qpm.flat λx=>rfl) rfl λv h' E=>?_
 .simp only[go_sem,C];refine⟨⟨ω,λi g=>by rw[o i g]⟩,λi g=>?_⟩;obtain rfl:i=0:=ω;rfl
 obtain⟨W,rfl,rfl⟩:=E;apply Za h;obtain⟨f,B⟩:∃f,f=SP.WD [c] u u.length:=⟨_,rfl⟩;have Q:=SP.Qlf [c] u u.length;rw[<- B]at Q ⊢;have N:tN T L a d b u c=f.foldl (λm s=>max m (gB T L a d b u c s)) 0:=by rw[B];rfl
 rw[N];obtain⟨t,H⟩:∃t:Nat->List D,t=λi=>(l.getD i default).cells:=⟨_,rfl⟩;have P:=H;simp only[go_sem]at P;refine Js (λi s=>s=⟨[(14,.ptr 3 0 0 0),(15,.ptr 4 0 0 0),(16,.clo 61 0 [.ptr 0 0 0 0,.ptr 1 0 0 0,.ptr 4 0 0 0,.ptr 3 0 0 0]),(17,u64 ((f.take i).foldl (λm s=>max m (gB T L a d b u c s)) 0)),(63,.ref 5 W 0 f.length),(64,Qb f.length),(65,Qb i)],
  [⟨.one,0,2,1,λ_=>[Qb T,Qb L]⟩,⟨.one,0,3,1,λ_=>[u64 a,u64 d,u64 b]⟩,⟨.arr,0,1,1,λ_=>[Qb c]⟩,⟨.one,0,1,1,λ_=>[.ref 2 0 0 1]⟩,⟨.one,0,1,1,λ_=>[.imm 12 u.length t]⟩,⟨.arr,W,5,f.length,λi=>(f.getD i default).cells⟩]⟩) f.length
  (QH.to 6 ⟨by simp only[go_sem,List.foldl_nil],by simp only[go_sem],by simp only[go_sem],by (simp only[go_sem,C,H]);intro i g;rfl⟩) rfl ?_
 rintro i s R rfl;have O:=Vl (show i<4611686018427387904 from ω);obtain⟨S,z⟩:∃S,S=(f.take i).foldl (λm s=>max m (gB T L a d b u c s)) 0:=⟨_,rfl⟩;rw[<- z];apply Za h;first|refine yX R (λn=>?_) (λn=>?_)|refine yY R (λn=>?_) (λn=>?_)
 .obtain⟨x,hx⟩:∃x,x=f.getD i default:=⟨_,rfl⟩;have Z:=foldl_succ (λm s=>max m (gB T L a d b u c s)) 0 f i n;rw[<- z,<- hx]at Z;obtain⟨j,hj,J,I⟩:∃j,j<u.length/\x.Ju=(u.getD j default).at_/\x.fst=(j:Int):=by
   have p:x∈SP.WD [c] u u.length:=by rw[hx,<- B];exact Qf7 n
   rw[SP.Qqj,JA]at p;obtain⟨a,y,K⟩:=p;have F:=SP.Qhe [c] u a u.length;rw[K]at F;exact⟨a,SP.QbA [c] u u.length a y,F.1,F.2⟩
  have KP:=wf_u64 (r _ (Qf7 hj)).1;simp only[go_sem,n,<- hx];refine X0 h QBL rfl ?_ (QKc _ 0 1 4 3 2 T L a d b u c x t (λ_=>[Qb c]) rfl rfl rfl rfl rfl (λi g=>?_) rfl y V Y p ω r (by rw[J];exact KP) j I ω) rfl λv E=>?_
  .simp only[go_sem]
  .rw[H,Ev.xY,o i ω]
  subst E;apply Za h;have M:(max (S:Int) ((gB T L a d b u c x:Nat):Int))=((max S (gB T L a d b u c x):Nat):Int):=ω;refine⟨n,_,QH.to 6 ⟨?_,by simp only[go_sem],by simp only[go_sem],?_⟩,rfl⟩
  .simp only[go_sem,O,Z,M]
  .simp only[go_sem]
 .subst n;rw[YH]at z;rw[<- z];exact zT h
end Go.Fg.X
namespace Go.Fg.X
open Go.Proofs Go.Fg Go.Fg.X.SP
open Go.Proofs.Tryz
def QDX{a d b t}(h:J5 a d b≠0):Jk a d b t=a*min t d+b*(t - min t d):=by unfold Jk;rw[Qe h]
def QKi{a d b w t}(h:S5 a d b w<9223372036854775808)(c:S5 a d b w<=t):w<=Jk a d b t:=by
 unfold S5 at h c;split at h
 .exact absurd h (B6 _)
 rename_i f;rw[Qe f]at c;split at h
 .rename_i k;rw[k];exact Z9 _
 rename_i k;rw[Qe k]at c;have l:=QDX (t:=d) f;rw[Nat.min_self,YJ,GU,xG]at l;split at h
 .rename_i e;rw[Qf e]at c;unfold Qab at h c;split at h
  .exact absurd h (B6 _)
  rename_i j;rw[Qe j]at c;have i:cdiv w a<=t:=ω;have g:=(ny ω).1 i;rw[QDX f];by_cases m:t<=d
  .rw[yK m,YJ,GU,xG,E6 a];exact g
  .rw[AS ω];rw[l]at e;omega
 .rename_i e;rw[Qe e]at c;unfold Qan at h c;split at h
  .exact absurd h (B6 _)
  rename_i j;rw[Qe j]at c;have i:cdiv (w - Jk a d b d) b<=t - d:=ω;have g:=(ny ω).1 i;rw[QDX f,AS ω,E6 b];rw[l]at g e;omega
def QKk{c:Nc}(C:X5 c){w}(g:0<w):dX c<=S5 c.a c.d c.b w:=by
 unfold dX;split
 .rename_i f;have d:=C.four f;have b:J5 c.a c.d c.b≠0:=λe=>by
   have:c.of=0:=by unfold Nc.of;exact e
   omega
  have a:=QDX (t:=c.d) b;rw[Nat.min_self,YJ,GU,xG]at a;have a:Jk c.a c.d c.b c.d=0:=by rw[a,d,E9]
  have h:=C.d;unfold S5;rw[Qe b,Qe ω,a,Qe ω];unfold Qan;split<;>omega
 .exact Z9 _
def Qqp{b:Type}(f:b->Nat):∀(L:List b) (m:Nat),m<=L.foldl (λm s=>max m (f s)) m/\∀s∈L,f s<=L.foldl (λm s=>max m (f s)) m
 | [],m=>⟨Qs _,λs h=>(by cases h)⟩
 | a::L,m=>by
  obtain⟨c,d⟩:=Qqp f L (max m (f a));refine⟨JL (Nat.le_max_left _ _) c,λs hs=>?_⟩;rcases QG.1 hs with rfl|hs
  .exact JL (Nat.le_max_right _ _) c
  .exact d s hs
def QKl{r}{l:List Ev}(o:∀e∈l,0<=e.at_/\e.at_<=18446744073709551615)(p:∀e∈l,e.Zy=true->0<=e.len/\e.len<=16384)(w:l.length<100000000)(F):∀k,F<=k->k<=l.length ->
  ((l.take k).drop F).foldl (qd [r] (Qaj 0 18446744073709551615)) 0=YD r l F k/\YD r l F k<=k*16384
 | k,y,x=>by
  induction k with
  | zero=>
   rw[show F=0 by omega];exact⟨rfl,Z9 _⟩
  | succ k m=>
   by_cases q:F=k+1
   .rw[q,QbP _ _ _ _ (Qs _)];have:(l.take (k+1)).drop (k+1)=[]:=by
     apply bG;rw[Qau];omega
    rw[this];exact⟨rfl,Z9 _⟩
   .obtain⟨n,v⟩:=m ω ω;have g:l.getD k default∈l:=zR l default k ω;have e:(l.take (k+1)).drop F=(l.take k).drop F++[l.getD k default]:=by
     rw[getD_take l default k ω,QbY (by rw[Qau];omega)]
    rw[e,jY,n];have i:=o _ g;have f:=p _ g;have s:YD r l F (k+1)=if F<=k/\(l.getD k default).cls=r/\(l.getD k default).Zy=true then YD r l F k+(l.getD k default).len.toNat else YD r l F k:=rfl;rw[s];show qd [r] (Qaj 0 18446744073709551615) (YD r l F k) (l.getD k default)=_/\_;generalize l.getD k default=a at *;have j:(Qaj 0 18446744073709551615 a&&[r].contains a.cls)=true↔F<=k/\a.cls=r/\a.Zy=true:=by
     unfold Qaj;have u:decide (((0:Nat):Int)<=a.at_)=true:=Q1 i.1;have t:decide (a.at_<=((18446744073709551615:Nat):Int))=true:=Q1 i.2;rw[u,t];simp only[Bool.and_true,ZX,List.contains_cons,List.contains_nil,Bool.or_false,jr];constructor
     .rintro⟨d,c⟩;exact⟨ω,c,d⟩
     .rintro⟨_,c,d⟩;exact⟨d,c⟩
    unfold qd;by_cases b:F<=k/\a.cls=r/\a.Zy=true
    .rw[Qf (j.2 b),Qf b];have:=f b.2.2;exact⟨ω,ω⟩
    .rw[Qe λh=>b (j.1 h),Qe b];exact⟨rfl,ω⟩
def Qmo{r}{l}:∀k,∀j∈Jz r l k,∀q,j<q->q<=k->j∈Jz r l q
 | 0,j,h,_,_,_=>by cases h
 | k+1,j,h,q,b,c=>by
  by_cases e:q=k+1
  .rw[e];exact h
  .have a:j∈Jz r l k:=by
    unfold Jz at h;split at h
    .split at h
     .rcases QX.1 h with h|h
      .exact h
      .rw[Xq]at h;omega
     .exact NS h
    .exact h
   exact Qmo k j a q b ω
def Qqq{r}{l:List Ev}{n}:∀k,k<=n->n<=l.length->Jz r (l.take n) k=Jz r l k
 | 0,_,_=>rfl
 | k+1,h,a=>by
  have e:(l.take n).getD k default=l.getD k default:=by
   rw[Q7,Q7,X7,Qf ω]
  unfold Jz;rw[e,Qqq k ω a]
def Qqr{r}{l:List Ev}:∀k,k<=l.length->Jz r l k≠[]->∃F,Dn r l F/\F<k
 | 0,_,h=>absurd rfl h
 | k+1,d,h=>by
  by_cases b:Jz r l k=[]
  .unfold Jz at h;rw[b]at h;split at h
   .rename_i a;split at h
    .rename_i c;exact⟨k,⟨ω,a,c,b⟩,ω⟩
    .exact absurd rfl h
   .exact absurd rfl h
  .obtain⟨F,a,c⟩:=Qqr k ω b;exact⟨F,a,ω⟩
def Qqs{r}{l:List Ev}{c}(C:X5 c){T L}(B:∀e∈l,0<=e.at_/\e.at_<=4611686018427387904)(E:∀e∈l,e.Zy=true->1<=e.len/\e.len<=16384)(N:l.length<100000000){j i}(m:j∈Jz r l i)(O:i<=l.length)
  (z:tN T L c.a c.d c.b (l.take (j+1)) r<9223372036854775808):∃X,tN T L c.a c.d c.b (l.take (j+1)) r=X+T.toNat*L.toNat /\
   ∀F,Dn r l F->F<i->(l.getD F default).at_.toNat+dX c<=X/\YD r l F (j+1)*65536<=Jk c.a c.d c.b (X - (l.getD F default).at_.toNat):=by
 have V:=B0 r l i j m;obtain⟨u,f⟩:∃u,u=l.take (j+1):=⟨_,rfl⟩;have SL:u.length=j+1:=by rw[f,Qau];omega
 have o:∀k,k<=j->u.getD k default=l.getD k default:=λk Z=>by
  rw[f,Q7,Q7,X7,Qf ω]
 rw[<- f]at z ⊢;obtain⟨_,d⟩:=Qqp (gB T L c.a c.d c.b u r) (WD [r] u u.length) 0;have d:∀s∈WD [r] u u.length,gB T L c.a c.d c.b u r s<=tN T L c.a c.d c.b u r:=d;generalize tN T L c.a c.d c.b u r=W at *;have Q:∀e∈l,0<=e.at_/\e.at_<=18446744073709551615:=λe p=>by have:=B e p;omega
 have t:∀e∈l,e.Zy=true->0<=e.len/\e.len<=16384:=λe p h=>by have:=E e p h;omega
 have g:∀F,Dn r l F->F<i->F<=j/\(l.getD F default).at_.toNat+S5 c.a c.d c.b (YD r l F (j+1)*65536)+T.toNat*L.toNat<=W/\0<YD r l F (j+1):=λF b H=>by
  have a:F<=j:=by
   apply jX;intro h;have:=Qmo i j m F ω ω;rw[b.2.2.2]at this;cases this
  have y:Dn r u F:=⟨ω,by rw[o F a];exact b.2.1,by rw[o F a];exact b.2.2.1,by rw[f,Qqq F ω ω];exact b.2.2.2⟩;obtain⟨s,M,J,I⟩:=Qqd u.length (Qs _) F y ω;have n:=d s M;unfold gB Qap Qbc byS at n;have P:=(QKl (r:=r) Q t N F (j+1) ω ω).1;rw[J,I,o F a,show ((F:Int)).toNat=F from rfl,f,P]at n;have Y:=B _ (zR l default F ω);unfold Qao at n;refine⟨a,ω,?_⟩;have R:∀k,F<k->k<=l.length->0<YD r l F k:=λk n h2=>by
   induction k with
   | zero=>omega
   | succ k K=>
    unfold YD;split
    .rename_i q;have:=E _ (zR l default k ω) q.2.2;omega
    .rename_i q;refine K ?_ ω;apply jX;intro h4;have:F=k:=ω;subst this;exact q ⟨Qs _,b.2.1,b.2.2.1⟩
  exact R (j+1) ω ω
 obtain⟨U,x,v⟩:=Qqr i O λe=>by rw[e]at m;cases m
 have h0:=(g U x v).2.1;generalize T.toNat*L.toNat=S at *;refine⟨W - S,ω,λF b H=>?_⟩;obtain⟨b1,b2,b3⟩:=g F b H;have hd:=QKk C (w:=YD r l F (j+1)*65536) ω;exact⟨ω,QKi ω ω⟩
def QKq{c}(K:Xp c)(b:List Je)(H:b.length<=1000)(p:∀o∈b,Je.Ok o)(O:∀o∈b.tail,o.kind≠1){r}{k}
  (P:QC (Zz (S0 c) b).1.M.T r=some k) (J:1<QS k.rt) (U:k.rt.Nn) (Z:(Zz (S0 c) b).1.Qd<=4611686018427387904) :
  (∀i,i<(Zz (S0 c) b).2.2.length->((Zz (S0 c) b).2.2.getD i default).cls=r->((Zz (S0 c) b).2.2.getD i default).Zy=false ->
   ∃j q,Jz r (Zz (S0 c) b).2.2 i=j::q/\((Zz (S0 c) b).2.2.getD i default).done<=(tN c.t c.ZJ (Zq k.rt).a (Zq k.rt).d (Zq k.rt).b ((Zz (S0 c) b).2.2.take (j+1)) r:Nat)) /\
  (∀j∈Jz r (Zz (S0 c) b).2.2 (Zz (S0 c) b).2.2.length,(Zz (S0 c) b).1.Qd<tN c.t c.ZJ (Zq k.rt).a (Zq k.rt).d (Zq k.rt).b ((Zz (S0 c) b).2.2.take (j+1)) r):=by
 obtain⟨A,B⟩:=QDP K b H p O P J;have F:=QbV K b p;have C:=m6 U J;have S:=QDB (bc (x:=c) b (ZC.Nx K) (W:=λ_=>[]) (a:=IX) (d:=0) ⟨λj=>rfl,rfl,qR _,qR _,rfl⟩ p).ok r;have f:=Qlj (x:=⟨c,b⟩) K H (Qs _) p;have f:(Zz (S0 c) b).2.2.length<100000000:=f;have N:=K.l2;have Y:=K.t2;have V:c.ZJ.toNat*c.t.toNat<=16384*65536:=X8 ω ω;have L:c.t.toNat*c.ZJ.toNat=c.ZJ.toNat*c.t.toNat:=E6 _ _;generalize (Zz (S0 c) b).2.2=l at *;generalize (Zz (S0 c) b).1.Qd=Qd at *;have z:∀e∈l,0<=e.at_/\e.at_<=4611686018427387904:=λe t=>by
  obtain⟨i,g,rfl⟩:=NQ.1 t;have:=F i g;rw[Q7,QT g]at this;exact⟨this.1,this.2.1⟩
 have E:∀e∈l,e.Zy=true->1<=e.len/\e.len<=16384:=λe t _=>by
  obtain⟨i,g,rfl⟩:=NQ.1 t;have:=F i g;rw[Q7,QT g]at this;obtain⟨_,_,R,Q,_⟩:=this;exact⟨R,Sa Q N⟩
 constructor
 .intro i g I y;obtain⟨j,q,s,_⟩:=S i g I y;refine⟨j,q,s,?_⟩;obtain⟨f1,f2,_,_,f5⟩:=F i g;have f5:=f5 y;have m:j∈Jz r l i:=by rw[s];exact Z3
  by_cases h:tN c.t c.ZJ (Zq k.rt).a (Zq k.rt).d (Zq k.rt).b (l.take (j+1)) r<9223372036854775808
  .obtain⟨X,v,w⟩:=Qqs C z E f m ω h;rw[v,L];by_cases u:X<=4611686018428436480
   .refine A i g I y X u λF n M=>?_;rw[s];exact w F n M
   .generalize c.ZJ.toNat*c.t.toNat=T at *;omega
  .generalize c.ZJ.toNat*c.t.toNat=T at *;omega
 .intro j m;by_cases h:tN c.t c.ZJ (Zq k.rt).a (Zq k.rt).d (Zq k.rt).b (l.take (j+1)) r<9223372036854775808
  .obtain⟨X,v,w⟩:=Qqs C z E f m (Qs _) h;rw[v,L];by_cases u:X<=4611686018428436480
   .exact B j m X u λF n=>w F n n.1
   .omega
  .omega
end Go.Fg.X
namespace Go.Fg.X
open Go.Proofs Go.Fg
open Go.Proofs.Tryz
def NH(o:Je):Bool:=decide (o.changes.length<=40)&&decide (o.rules.length<=40)
def Dm(x:YU)(m:Nat):Bool:=decide (x.ops.length<=m)&&x.ops.all NH
def Qmv{b:Type}(l:List b)(d:b)(f):l.all f=true↔∀j,j<l.length->f (l.getD j d)=true:=by
 rw[jo];constructor
 .intro h j e;exact h _ (zR l d j e)
 .intro h a g;obtain⟨i,c,rfl⟩:=AQ g;have:=h i c;simpa[Q7,c] using this
def QEl(x:YU)(m:Nat)(t:m<1000000):Q9 prog 6 [.agg x.cells,Qb m] (Zp (QZ (Dm x m))):=by
 refine ZH 0 func6 ntmps6 results6 λp w l=>?_;simp only[go_sem];by_cases q:m<x.ops.length
 .simp only[go_sem,q,decide_true];have:Dm x m=false:=by simp[Dm];omega
  rw[this]
 .have s:decide (m<x.ops.length)=false:=ξ;simp only[go_sem,s];refine fm (G:=Nat) [13,14] (λk=>∀j,j<k->NH (x.ops.getD j default)=true) (λk e=>[(15,Qb k)]) (λk e=>[]) (x.ops.length) (0) rfl (QH.to 0 (by (simp only[go_sem])<;>simp)) ?_ ?_
  .intro j g;omega
  intro k e f o;apply Za l;have r:=Vl (show k<4611686018427387904 from ω);first|refine yX f (λc=>?_) (λc=>?_)|refine yY f (λc=>?_) (λc=>?_)
  .simp only[go_sem,c];have n:¬ (∀j,j<x.ops.length->NH (x.ops.getD j default)=true)->Dm x m=false:=λd=>by
    rw[jW];intro i;simp only[Dm,ZX]at i;exact d ((Qmv _ default _).1 i.2)
   first|refine FF (λb=>?_) (λb=>?_)|refine FG (λb=>?_) (λb=>?_)|refine FH (λb=>?_) (λb=>?_)|refine q7 (λb=>?_) (λb=>?_)|refine FI (λb=>?_) (λb=>?_)|refine FJ (λb=>?_) (λb=>?_)|refine FK (λb=>?_) (λb=>?_)|refine FC (λb=>?_) (λb=>?_)
   .simp only[go_sem];rw[n (λd=>by have:=d k c;simp only[NH,ZX,Xd]at this;omega)]
   .simp only[go_sem];first|refine FF (λa=>?_) (λa=>?_)|refine FG (λa=>?_) (λa=>?_)|refine FH (λa=>?_) (λa=>?_)|refine q7 (λa=>?_) (λa=>?_)|refine FI (λa=>?_) (λa=>?_)|refine FJ (λa=>?_) (λa=>?_)|refine FK (λa=>?_) (λa=>?_)|refine FC (λa=>?_) (λa=>?_)
    .simp only[go_sem];rw[n (λd=>by have:=d k c;simp only[NH,ZX,Xd]at this;omega)]
    .simp only[go_sem];repeat (refine And.intro η ?_)
     refine⟨_,QH.to 0 (by (simp only[go_sem,r])<;>simp),yW.mk (0) (?_)⟩;intro j g;rcases AR.1 g with h|rfl
     .exact o j h
     .simp only[NH,ZX,Xd];omega
  .simp only[go_sem];apply Za l;subst c;have:Dm x m=true:=by
    simp only[Dm,ZX];exact⟨ξ,(Qmv _ default _).2 o⟩
   rw[this]
def Qmw{b}{e}{h}{p}{S:Zj}(T:Wt b e h p S):Zf prog 17 h [.ptr p 0 0 0] (λd=>d=u64 S.Qd):=by
 obtain⟨k,f,l,j,T⟩:=T;have a:=Jc T.o;refine ZD func17 ntmps17 results17 λc w f F g n m=>?_;rw[<- g]at a;have i:=Qc a;simp only[go_sem,Qa,a,i];exact⟨[],(Jv _).symm⟩
def jk(n:Nd)(a:Bool)(f:Nat):List D:=n.c.cells++(QZ a::u64 n.Zw::(n.du.cells++(n.sh.cells++(n.cp.cells++(u64 f::n.q.Uu)))))
theorem QEm(M)(a)(n):QjN M a n=jk n (JP M a) (Xo M a n):=rfl
section
variable (n:Nd)(a:Bool)(f:Nat)
@[go_sem] theorem QJx:(jk n a f).length=67:=rfl
@[go_sem] theorem QJy:(jk n a f).all D.VI=true:=rfl
@[go_sem] theorem QJz:(List.drop 15 (jk n a f)).getD 0 D.undef=u64 n.Zw:=rfl
@[go_sem] theorem QJA:(List.drop 2 (jk n a f)).getD 0 D.undef=QZ n.c.leaf:=rfl
@[go_sem] theorem QJB:(List.drop 63 (jk n a f)).getD 0 D.undef=u64 n.q.cd:=rfl
@[go_sem] theorem QJC:(List.drop 65 (jk n a f)).getD 0 D.undef=u64 n.q.bo:=rfl
@[go_sem] theorem QJD:(List.drop 66 (jk n a f)).getD 0 D.undef=u64 n.q.bd:=rfl
@[go_sem] theorem QJE(v):List.take 63 (jk n a f)++(.raw (.int .u64 ((v:Nat):Int))::List.drop 64 (jk n a f))=jk { n with q:={ n.q with cd:=v } } a f:=rfl
@[go_sem] theorem QJF(v):List.take 66 (jk n a f)++[.raw (.int .u64 ((v:Nat):Int))]=jk { n with q:={ n.q with bd:=v } } a f:=rfl
end
@[go_sem] def QEn(n:Nd)(a:Bool)(f:Nat):Ob:=⟨.one,0,67,1,λ_=>jk n a f⟩
def QEo{e}{l}{h}{p}{S:Zj}(T:Wt e l h p S){a}{n}(f:Qj S.M.N a=some n):Zf prog 13 h [.ptr p 0 0 0,Qb a] (λd=>d=.tup [.agg (jk n (JP S.M a) (Xo S.M a n)),Qb 0]):=by
 obtain⟨r,m,s,q,T⟩:=T;have c:=Jc T.o;obtain⟨L,C⟩:=T.co.ex;have j:=λ(F:List Ob) (b:F=h.map Ob.ro) (G:List Ob)=>QAu ((C.ro.more (KV b)).more (Ee (g:=G))) T.co.I f (T.co.V.BS a n f);clear C T;rw[QEm]at j;refine ZD func13 ntmps13 results13 λk w m F b t i=>?_;rw[<- b]at c;have o:=Qc c;simp only[go_sem,Qa,c,o];apply JD i Qsp (j F b _);apply QM i;exact⟨_,rfl,rfl,rfl⟩
def QEp{b}{f}{h}{p}{S:Zj}(T:Wt b f h p S):QI prog 12 h [.ptr p 0 0 0] (λd m=>d=ints (S.M.T.map (·.iD))/\∃g,m=h++g):=by
 obtain⟨q,i,r,o,T⟩:=T;have c:=T.o;obtain⟨L,C⟩:=T.co.ex;have j:=QAr C;have s:=T.co.I.tree.len;refine Q3 func12 ntmps12 results12 λe w i a=>?_;have n:=Qc c;simp only[go_sem,Qa,c,n];refine DX a Qso j λd u l=>?_;obtain⟨rfl,k,g,rfl,t⟩:=l;apply QM a;apply JD a fM (gU k.toR ω);apply QM a;exact⟨_,rfl⟩
end Go.Fg.X
namespace Go.Fg.X
open Go.Proofs Go.Fg
open Go.Proofs.Tryz
structure Dq (c:Cf) (ops:List Je) (p k lo g:Nat) (h0:List Ob) (Kp:Nat->Prop) (own:Nat->Tag) (tw:Nat->TT) (H:List Ob) (S:Zj) (E:List Ev) (row:Nat->List D):Prop where
 T:Wt own tw H p S
 V:ZC S
 C:Nu S
 mQ:S.ops=k
 kp:∀l,l<h0.length->Kp l->H[l]? = h0[l]?/\own l=.no/\tw l=.my
 ZM:H[lo]? = some ⟨.arr,g,12,E.length,row⟩
 rw_:∀i,i<E.length->row i=Ev.cells (E.getD i default)
 my:own lo=.no/\tw lo=.my
 nk:lo<h0.length->¬Kp lo
 S_:S=(Zz (S0 c) (ops.take k)).1
 E_:E=(Zz (S0 c) (ops.take k)).2.2
 lE:E.length<=5000*k
section
variable {c:Cf}{ops:List Je}{p k lo g:Nat}{h0:List Ob}{Kp:Nat->Prop}{own:Nat->Tag}{tw:Nat->TT}{H:List Ob}{S:Zj}{E:List Ev}{row:Nat->List D}
def Dq.start{m}{j}{f:List Ob}(T:Wt m j f p (S0 c))(o:∀l,l<h0.length->Kp l->l<f.length/\f[l]? = h0[l]?/\m l=.no/\j l=.my)(n:h0.length<=f.length):
  Dq c ops p 0 f.length 0 h0 Kp (QY m f .no) (Jn j f .my) (f++[(⟨.arr,0,12,0,λ_=>[]⟩:Ob)]) (S0 c) [] (λ_=>[]):=by
 have t:=T;obtain⟨_,_,_,_,s⟩:=t;refine⟨⟨_,_,_,_,s.EM _⟩,ZC.start T,⟨λk=>Z9 _⟩,rfl,λl n q=>?_,Vq rfl,λi r=>absurd r (Xc i),⟨wj (Qs _),IM (Qs _)⟩,λh=>absurd h ω,rfl,rfl,Z9 _⟩;obtain⟨a,b,d,e⟩:=o l n q;exact⟨(QJ a).trans b,(Kz a).trans d,(VA a).trans e⟩
def Dq.close(I:Dq c ops p k lo g h0 Kp own tw H S E row){w0:Start}(q:w0.F=[])(F:w0.pl=[]){fr}(t)(B:get fr t=.ref lo g 0 E.length):
  ∃r f y,QH w0 ⟨fr,H⟩ ⟨put fr t (wU E),r⟩/\Wt f y r p S/\∀l,l<h0.length->Kp l->r[l]? = h0[l]?/\f l=.no/\y l=.my:=by
 have z:w0.pl.length=w0.F.length:=by rw[q,F];rfl
 have K:∀h:List Ob,rF w0.F h:=λh l o e=>by rw[q]at e;simp at e
 have hz:∀n,w0.F.length<=n:=λn=>by rw[q];exact Z9 _
 have M:=QH.rows (w0:=w0) (fr:=fr) lo (Ev.rows E) I.ZM λi w=>I.rw_ i w;have L:(H.set lo ⟨.arr,g,12,E.length,Ev.rows E⟩)[lo]? = some ⟨.arr,g,12,E.length,Ev.rows E⟩:=Qy (Qc I.ZM);have x:=QH.rG z (K _) t lo (hz _) B L (by show 0+E.length<=E.length;omega) rfl (λi w=>rfl);rw[Qd7]at x;refine⟨_,_,_,QH.trans M x,I.T.QCy λl m J=>?_,λl m v=>?_⟩
 .have j:lo≠l:=λe=>J (by rw[<- e];exact⟨I.my.1,.inr I.my.2⟩);rw[Qm j,Qm j]
 .obtain⟨a,b,d⟩:=I.kp l m v;have j:lo≠l:=λe=>I.nk (by rw[e];exact m) (by rw[e];exact v);have u:l<H.length:=by
   have:(H[l]?).isSome=true:=by rw[a,QT m];rfl
   exact NZ λs=>by rw[B4 s]at this;cases this
  exact⟨by rw[Qm j,Qm j];exact a,(Kz u).trans b,(VA u).trans d⟩
def Dq.step(I:Dq c ops p k lo g h0 Kp own tw H S E row)(hk:k<ops.length)(ho:∀q∈(ops.getD k default).changes,JV.Ok q){G}{v}{s}{m}{P}(T2:Wt v s m p (Kb S (ops.getD k default)).S)
  (s2:jQ (λl=>(H++G).length<=l/\v l=.no/\s l=.no) m 12 Ev.cells P (Kb S (ops.getD k default)).l) (M:JK (H++G).length (QY own H .no) (Jn tw H .my) (H++G) v s m) (r:List Ob) {w0:Start} (hF:w0.F=[]) (hp:w0.pl=[]) {fr:List (Nat × D)} (t:Nat) (ht:get fr t=P) :
  ∃u o y x,QH w0 ⟨fr,m++r⟩ ⟨put fr t (.imm 12 (Kb S (ops.getD k default)).l.length u),o⟩/\(∀i,i<(Kb S (ops.getD k default)).l.length->u i=Ev.cells ((Kb S (ops.getD k default)).l.getD i default))/\o[lo]? = some ⟨.arr,g,12,E.length,row⟩ /\
   Dq c ops p (k+1) lo (g+1) h0 Kp y x (o.set lo ⟨.arr,g+1,12,E.length+(Kb S (ops.getD k default)).l.length,KB E.length 0 row u⟩) (Kb S (ops.getD k default)).S (E++(Kb S (ops.getD k default)).l) (KB E.length 0 row u):=by
 have hV:=I.V.do ho;have hC:=I.C.do (ops.getD k default);have hO:=Qkz S (ops.getD k default);obtain⟨nS,O⟩:=QCC (S0 c) ops hk;rw[<- I.S_]at nS O;rw[<- I.E_]at O;obtain⟨_,_,_,_,Tc⟩:=I.T;have a5:=QCz S (ops.getD k default) Tc.co.mO;generalize Kb S (ops.getD k default)=Y at *;obtain⟨_,_,_,_,a4⟩:=T2;have T3:=a4.EM r;have Hc:H.length<=m.length:=by have:=M.len;rw[ZT]at this;omega
 have s3:jQ (λl=>l<m.length/\v l=.no/\s l=.no) (m++r) 12 Ev.cells P Y.l:=s2.step λj hj w=>⟨⟨hj,w.2⟩,QJ hj⟩;have Z:∀l,l<H.length->own l=.no->tw l=.my->v l=.no/\s l=.my/\m[l]? = H[l]? := λl n w m=>by
  have U:l<(H++G).length:=by rw[ZT];omega
  have a1:QY own H .no l=.no:=(Kz n).trans w;have a2:Jn tw H .my l=.my:=(VA n).trans m;exact⟨(M.s1 l U).trans a1,(M.s2 l U).trans a2,(M.my l U a2).trans (QJ n)⟩
 obtain⟨u,o,W4,ZN,gX,k4⟩:=QCv hF hp (λa=>rfl) (h:=m++r) t ht s3;have N:(m++r).length<=o.length:=gX;obtain⟨y,J⟩:∃f,f=QY (QY v m .no) (m++r) .no:=⟨_,rfl⟩;obtain⟨x,F⟩:∃f,f=Jn (Jn s m .my) (m++r) .no:=⟨_,rfl⟩;have T4:Wt y x o p Y.S:=by
  rw[J,F];refine Wt.far ⟨_,_,_,_,T3⟩ gX λl n hn=>k4 l n λK=>hn ?_;exact⟨(Kz K.1).trans K.2.1,(VA K.1).trans K.2.2⟩
 have z:∀l,l<H.length->own l=.no->tw l=.my->y l=.no/\x l=.my/\o[l]? = H[l]? := λl n w qm=>by
  obtain⟨R,L,Q⟩:=Z l n w qm;have W:l<m.length:=ω;have N:l<(m++r).length:=by rw[ZT];omega
  refine⟨by rw[J,Kz N,Kz W];exact R,by rw[F,VA N,VA W];exact L,?_⟩;rw[k4 l N λh=>(by rw[L]at h;cases h.2.2),QJ W];exact Q
 have ZM:=Qc I.ZM;obtain⟨m1,m2,m3⟩:=z lo ZM I.my.1 I.my.2;have bu:o[lo]? = some ⟨.arr,g,12,E.length,row⟩:=m3.trans I.ZM;refine⟨u,o,y,x,W4,ZN,bu,?_⟩;obtain⟨_,_,_,_,a3⟩:=T4;refine⟨⟨_,_,_,_,a3.loc m1 (.inr m2) _⟩,hV,hC,by rw[hO,I.mQ],λl n B=>?_,?_,QCA I.rw_ ZN,⟨m1,m2⟩,I.nk,nS.symm,O.symm,?_⟩
 .obtain⟨a,b,d⟩:=I.kp l n B;have nB:l<H.length:=by
   have:(H[l]?).isSome=true:=by rw[a,QT n];rfl
   exact NZ λa0=>by rw[B4 a0]at this;cases this
  obtain⟨R,L,Q⟩:=z l nB b d;exact⟨by rw[Qm (λe=>I.nk (by rw[e];exact n) (by rw[e];exact B)),Q,a],R,L⟩
 .rw[Qy (Qc bu),ZT]
 .have:=I.lE;rw[ZT];omega
end
def QmB{l:List Je}:Lb l=true↔∀k,k<l.length->0<k->(l.getD k default).kind≠1:=by
 refine⟨λh k b d=>still_at h b d,λh=>?_⟩;unfold Lb;rw[jo];intro o a;obtain⟨i,c,rfl⟩:=AQ a;rw[bJ]at c;have:=h (i+1) ω ω;rw[List.getElem_drop];rw[Q7,QT ω]at this;have e:1+i=i+1:=Sn 1 i;simp only[e];simpa using this
section
variable (n:Nd)(a:Bool)(f:Nat)
@[go_sem] theorem QJH:List.take 14 (jk n a f)=n.c.cells:=rfl
end
def QEt{x:YU}{m}(h:Dm x m=true)(d:∀a∈x.ops,Je.Ok a):x.ops.length<=m/\∀o∈x.ops,Je.Ok o/\Je.Small o:=by
 simp only[Dm,ZX,Xd]at h;obtain⟨b,e⟩:=h;refine⟨b,λo c=>?_⟩;have:=jo.1 e o c;simp only[NH,ZX,Xd]at this;exact⟨d o c,ω,ω⟩
section
variable (h:List Ob)(t m c:Nat){es:List ZQ}(T:VS es [])
 (ht:(h.map Ob.ro)[t]? = some ⟨.WI,0,1,1,λ_=>[.mref m 0]⟩) (hm:(h.map Ob.ro)[m]? = some (QR .i64 c es).ro)
include T ht hm
theorem QhT:Zf prog 102 h [.ptr t 0 0 0] (λd=>d=.nil):=by
 refine ZD func102 ntmps102 results102 λb w f F e n a=>?_;rw[<- e]at ht hm;have C:=Qc ht;have H:=Qc hm;simp only[go_sem];have l:TJ (F.map Ob.ro) 14 0 [] (λx=>decide (1<QS x.rt)):=λz x q=>by
  refine ZD func14 ntmps14 results14 λb w f F e n a=>?_;simp only[go_sem,Qa];apply JW a fN (gA x.rt);apply QM a;exact⟨_,rfl⟩
 refine Hw a fQ rfl ?_ (gE _ t m c T σ (Jc ht) (Mn hm) (.raw (.func (.func 14) ⟨[]⟩ ⟨[]⟩)) 14 0 [] y0 rfl _ l) rfl λd g j=>?_
 .simp only[go_sem]
 rcases j with ⟨rfl,y⟩|⟨r,B,p,o,rfl,E,v,u⟩
 .apply Za a;refine Js (λi s=>s=⟨[(3,.nil),(8,Qb 0),(9,Qb 0)],F++g⟩) 0 QQ rfl ?_;rintro i s k rfl;apply Za a;apply Za a;exact⟨_,rfl⟩
 .apply Qh a;simp only[go_sem,List.filter_nil,Qa7,Qar];refine Js (λi s=>s=⟨[(3,.nil),(8,Qb 0),(9,Qb 0)],F++g⟩) 0 QQ rfl ?_;rintro i s k rfl;apply Za a;apply Za a;exact⟨_,rfl⟩
end
section
variable (h:List Ob)(t m c:Nat){es:List ZQ}(T:VS es [])
 (ht:(h.map Ob.ro)[t]? = some ⟨.WI,0,1,1,λ_=>[.mref m 0]⟩) (hm:(h.map Ob.ro)[m]? = some (QR .i64 c es).ro)
include T ht hm
theorem QKu(n):Zf prog 58 h [.ptr t 0 0 0,Qb n] (λd=>d=.tup [u64 (Qaq n []),Qb (FL n [])]):=by
 have e:Q9 prog 101 [Qb n,.nil] (Zp (.tup [u64 (Qaq n []),Qb (FL n [])])):=QI.Qpz (QHI n [] π σ σ) ⟨Hu _ _,rfl,trivial⟩;refine ZD func58 ntmps58 results58 λb w g F f j a=>?_;rw[<- f]at ht hm;have i:=Qc ht;have k:=Qc hm;simp only[go_sem];apply zC a QsH (QhT _ t m c T (Jc ht) (Mn hm));apply Za a;apply JW a QCh e;apply Za a;exact⟨[],(Jv F).symm⟩
theorem QKv(n)(x:Nc)(v:x.Lt)(y:x.of<3):Zf prog 60 h [.ptr t 0 0 0,Qb n,Ej x] (λd=>d=QZ (FL n [x]==0)):=by
 have r:=Qcy n [x] σ (by simpa using v) (by simpa using y);refine ZD func60 ntmps60 results60 λu w C F z H a=>?_;rw[<- z]at ht hm;have E:=Qc ht;have I:=Qc hm;simp only[go_sem];have q:VE F (F++([⟨.one,0,3,1,λ_=>x.cells⟩]:List Ob)):=⟨_,rfl⟩;have j:((F++([⟨.one,0,3,1,λ_=>x.cells⟩,⟨.arr,0,3,1,λ_=>x.cells⟩,⟨.arr,0,1,2,λk=>List.take 1 (List.drop (k*1) [D.nil,D.ref (F.length+1) 0 0 1])⟩]:List Ob)).map Ob.ro)[F.length+2]? = some ⟨.AU,0,1,2,λk=>List.take 1 (List.drop (k*1) [D.nil,D.ref (F.length+1) 0 0 1])⟩:=Jc (o:=⟨.arr,0,1,2,λk=>List.take 1 (List.drop (k*1) [D.nil,D.ref (F.length+1) 0 0 1])⟩) (by rw[Wm rfl];rfl);have l:((F++([⟨.one,0,3,1,λ_=>x.cells⟩,⟨.arr,0,3,1,λ_=>x.cells⟩,⟨.arr,0,1,2,λk=>List.take 1 (List.drop (k*1) [D.nil,D.ref (F.length+1) 0 0 1])⟩]:List Ob)).map Ob.ro)[F.length+1]? = some ⟨.AU,0,3,1,λ_=>x.cells⟩:=Jc (o:=⟨.arr,0,3,1,λ_=>x.cells⟩) (by rw[Wm rfl];rfl);apply VD [] a [0,1,2,3,4,6] [5,7,8,9,10,11,12,13];simp only[go_sem,Qa];constructor
 .apply Bu a QsH (QhT _ t m c T (Jc (q.get ht)) (Mn (q.get hm)));apply Yx a;refine Tt a QjC rfl ?_ (QoA (F++[⟨.one,0,3,1,λ_=>x.cells⟩,⟨.arr,0,3,1,λ_=>x.cells⟩,⟨.arr,0,1,2,λk=>List.take 1 (List.drop (k*1) [D.nil,D.ref (F.length+1) 0 0 1])⟩]) (F.length+2) (F.length+1) (λk=>List.take 1 (List.drop (k*1) [D.nil,D.ref (F.length+1) 0 0 1])) (λ_=>x.cells) x j l rfl rfl rfl) rfl λd g p=>?_
  .simp only[go_sem]
  obtain⟨B,e,rfl,rfl,ZN⟩:=p;apply Yx a;refine KJ a QsI ?_ r ?_
  .simp only[go_sem,Qa];have f:∀i,i<1->e i=x.cells:=λi b=>by
    obtain rfl:i=0:=ω;exact ZN
   exact⟨λi b=>by (rw[f i b];rfl),λi b=>by (obtain rfl:i=0:=by omega);exact ZN⟩
  apply Yx a;exact⟨_,rfl⟩
 .have s:VE F (F++([⟨.one,0,3,1,λ_=>x.cells⟩,⟨.arr,0,3,1,λ_=>x.cells⟩]:List Ob)):=⟨_,rfl⟩;apply Bu a QsH (QhT _ t m c T (Jc (s.get ht)) (Mn (s.get hm)));apply Yx a;refine Tt a QjC rfl ?_ (QoA (F++[⟨.one,0,3,1,λ_=>x.cells⟩,⟨.arr,0,3,1,λ_=>x.cells⟩,⟨.arr,0,1,2,λk=>List.take 1 (List.drop (k*1) [D.nil,D.ref (F.length+1) 0 0 1])⟩]) (F.length+2) (F.length+1) (λk=>List.take 1 (List.drop (k*1) [D.nil,D.ref (F.length+1) 0 0 1])) (λ_=>x.cells) x j l rfl rfl rfl) rfl λd g p=>?_
  .simp only[go_sem]
  obtain⟨B,e,rfl,rfl,ZN⟩:=p;apply Yx a;refine KJ a QsI ?_ r ?_
  .simp only[go_sem,Qa];have f:∀i,i<1->e i=x.cells:=λi b=>by
    obtain rfl:i=0:=ω;exact ZN
   exact⟨λi b=>by (rw[f i b];rfl),λi b=>by (obtain rfl:i=0:=by omega);exact ZN⟩
  apply Yx a;exact⟨_,rfl⟩
end
end Go.Fg.X
namespace Go.Fg.X
open Go.Proofs Go.Fg
open Go.Proofs.Tryz
def Qqx(h:List Ob):Xf prog 59 h [] (λd g=>d=.ptr (h.length+1) 0 0 0/\g=[QR .i64 0 [],⟨.one,0,1,1,λ_=>[.mref h.length 0]⟩]):=
 (Qwe (h.map Ob.ro)).mono λd c ⟨b,a⟩=>⟨_,a,by simpa using b,σ⟩
def Qqy:Nc:=⟨65536,0,65536⟩
def QbH:Ev:=⟨0,true,false,10,0,3,0,50,0,0,0,0⟩
def QKw:Qap 1 100 65536 0 65536 50=150:=by decide +kernel
def QKx:tN 1 100 65536 0 65536 [QbH] 3=160:=by decide +kernel
def QhU:Qaq 2 []=32768/\FL 2 []=0/\FL 1 [Qqy]=0:=by decide +kernel
def QKy:Q9 prog 22 [] (Zp (QZ true)):=by
 have l:=Qct 1 100 65536 0 65536 50 π π π π π;rw[QKw]at l;have k:=Qqm 1 100 65536 0 65536 [QbH] 3 0 π π π π (by
  intro e q;obtain rfl:=Xq.1 q;exact⟨rfl,rfl⟩) π π rfl rfl
 rw[show [QbH].take (0+1)=[QbH] from rfl,QKx]at k;refine ZH 0 func22 ntmps22 results22 λo w a=>?_;simp only[go_sem,-Nat.reducePow];refine JG a Qb6 ?_ l ?_
 .simp only[go_sem,-Nat.reducePow];all_goals first|exact⟨rfl,rfl⟩|rfl
 apply Qh a;simp only[go_sem,-Nat.reducePow];refine JG a Qb1 ?_ k ?_
 .simp only[go_sem,-Nat.reducePow];all_goals first|(refine⟨rfl,λi p=>?_⟩;obtain rfl:i=0:=ω;rfl)|(intro i p;obtain rfl:i=0:=ω;rfl)
 apply Qh a;simp only[go_sem,-Nat.reducePow];refine Hw a Qst rfl ?_ (Qqx _) rfl λd h g=>?_
 .simp only[go_sem,-Nat.reducePow]
 obtain⟨rfl,rfl⟩:=g;apply Qh a;simp only[go_sem,-Nat.reducePow];have j:=λh t m c (T:VS [] []) b f=>QKu h t m c T b f 2;rw[QhU.1,QhU.2.1]at j;refine Xg a QBc ?_ (j _ 4 3 0 VS.nil rfl rfl) ?_
 .simp only[go_sem,-Nat.reducePow]
 apply Qh a;simp only[go_sem,-Nat.reducePow];have s:(((150:Nat):Int)==150)=true:=π;have c2:(((160:Nat):Int)==160)=true:=π;have r:(((32768:Nat):Int)==32768)=true:=π;apply QB a [0,1,2,3,4,5,6,7,8,9,10,11,12,13,14,15,16,17,18,19,20,21,22,24,1023,1025,26,27];simp only[go_sem,-Nat.reducePow];refine Tt a Qst rfl ?_ (Qqx _) rfl λd h g=>?_
 .simp only[go_sem,-Nat.reducePow]
 obtain⟨rfl,rfl⟩:=g;apply Zd a;simp only[go_sem,-Nat.reducePow];have n:=λh t m c (T:VS [] []) b f=>QKv h t m c T b f 1 Qqy ⟨π,π,π⟩ π;rw[QhU.2.2]at n;refine qz a QBK ?_ (n _ 6 5 0 VS.nil rfl rfl) ?_
 .simp only[go_sem,-Nat.reducePow];all_goals rfl
 apply Zd a;simp only[go_sem,-Nat.reducePow]
end Go.Fg.X
