/- Contracts and laws on the way to the statement. No conditions. -/
import Derived.Test.YtmkmaijnnmaaoaaGreatTMxG
import Derived.Test.YtmkmaijnnmaaoaaGreatTC1G
import Derived.Test.YtmkmaijnnmaaoaaGreatPA3G
import Derived.Test.YtmkmaijnnmaaoaaGreatTP1G
import Derived.Test.YtmkmaijnnmaaoaaGreatFgTellG
set_option maxRecDepth 100000
set_option maxHeartbeats 16000000
set_option linter.unusedVariables false
set_option linter.unusedSimpArgs false
set_option linter.unusedSectionVars false
set_option linter.defProp false
namespace Go.Fg.X
open Go.Proofs Go.Fg
open Go.Proofs.Tryz
structure AK (T:List Qq) (R:List Int) (cv:Int->Nc) (K Tk:Nat) (W:Int->List (Nat × Nat)) (k:Nat) (S:Zj):Prop where
 T:S.M.T=T
 tk:S.M.lk.t.toNat=Tk
 kk:S.M.lk.ZJ.toNat*Tk=K
 lf:∀r∈R,W5 (cv r) S.Qd (W r) (QK S.M r) (Z7 S.M r)
 pk:∀r∈R,(QK S.M r).QA<=16384*k
 nw:∀r∈R,W r=[]->(QK S.M r).QA=0
 wk:∀r∈R,∀lw P L,W r=(lw,P)::L->(QK S.M r).QA=P\/lw<S.ZR
 inv:∀d,d<=9223372036854775807->∃t0 B,t0<=S.Qd/\QD R cv K Tk d t0 B (QK S.M) (Z7 S.M) S.ZR
def QbG{lm}{l}(h:∀x∈l,1<=x.len/\x.len<=lm):(GJ l:Int)<=max 0 lm/\(l≠[]->0<GJ l):=by
 cases l with
 | nil=>exact⟨by show ((0:Nat):Int)<=_;omega,λh=>absurd rfl h⟩
 | cons x l=>
  have:=h x Z3;exact⟨by show ((x.len.toNat:Nat):Int)<=_;omega,λ_=>by show 0<x.len.toNat;omega⟩
section
variable {T:List Qq}{R:List Int}{cv:Int->Nc}{K Tk:Nat}(G:xz T R cv)
include G
theorem NA{S:Zj}(I:ZC S)(h:S.M.T=T){r}(d:r∈R):∃n,Qj S.M.N r=some n/\Qv S.M r=n/\n.c.leaf=true/\1<QS n.c.rt/\cv r=Zq n.c.rt:=by
 obtain⟨k,b,f,e⟩:=(G.mem r).1 d;have g:=b;rw[<- h]at b;obtain⟨n,c,a⟩:=I.I.Ij b;exact⟨n,c,by unfold Qv;rw[c];rfl,by rw[a];exact f,by rw[a];exact e,by rw[a];exact(G.cv r d k g).1⟩
theorem QlV{W}{k}{S}(I:ZC S)(h:AK T R cv K Tk W k S)
  (BY:S.ZR<S.Qd->∀r∈R,0<Z7 S.M r->∀f P L,W r=(f,P)::L->S.Qd<=(QK S.M r).KN\/f=S.Qd) (Wd:∀t,(R.map λr=>Jk (cv r).a (cv r).d (cv r).b t).sum*Tk<=65536*t) (op:Nat) (Z:k+(ZB S op S.Qd).2.length<=1000000000) :
  AK T R cv K Tk W (k+(ZB S op S.Qd).2.length) (ZB S op S.Qd).1 /\
  (¬S.Qd<S.ZR->V9 S.M S.Qd=true->V8 S.M S.Qd=true->(QK S.M (ZP S.M S.Qd)).dead<=9223372036854775807->S.Qd+VN S.M.lk (Jd S.M S.Qd).len<=(QK S.M (ZP S.M S.Qd)).dead+K):=by
 have j:=h.T;have hC:∀r∈R,X5 (cv r):=λr a=>by
  obtain⟨kk,k1,_⟩:=(G.mem r).1 a;exact(G.cv r a kk k1).2
 have J:=I.K;have a3:1<=K:=by
  rw[<- h.kk,<- h.tk];exact X8 (show 1<=S.M.lk.ZJ.toNat by have:=J.l1;omega) (show 1<=S.M.lk.t.toNat by have:=J.t1;omega)
 have Im:∀r,(Z7 S.M r:Int)<=S.M.lk.ZJ/\(QW S.M r≠[]->0<Z7 S.M r):=λr=>by
  have h1:=QbG (I.len r);have:=J.l1;exact⟨by show (GJ (QW S.M r):Int)<=_;omega,h1.2⟩
 unfold ZB at Z ⊢;split at Z
 .rename_i Y;rw[Qf Y];exact⟨h,λp=>absurd Y p⟩
 .rename_i Y;rw[Qe Y];split at Z
  .rename_i b;rw[Qf b];have Qr:k+1<=1000000000:=Z;obtain⟨x,L,hq,hx⟩:=GA I.I I.V b;have V:=I.take_len b;have Qc:=II J V;have tO:Z7 S.M (ZP S.M S.Qd)=(Jd S.M S.Qd).len.toNat:=by
    unfold Z7;rw[hq,hx];rfl
   have XI:0<Z7 S.M (ZP S.M S.Qd):=ω;have vU:=J.l2;have nh:VN S.M.lk (Jd S.M S.Qd).len=Z7 S.M (ZP S.M S.Qd)*Tk:=by
    rw[tO,<- h.tk];rfl
   have a2:Z7 S.M (ZP S.M S.Qd)*Tk<=K:=by
    rw[<- h.kk];exact Vm Tk ω
   have vT:∀r,r≠ZP S.M S.Qd->Z7 (takeN S.M S.Qd) r=Z7 S.M r:=λr e=>by rw[QlT _ _ _ b,Qe e]
   have q:∀r∈R,r≠ZP S.M S.Qd->QK (takeN S.M S.Qd) r=QK S.M r:=λr a e=>by
    obtain⟨n,n1,u,_⟩:=NA G I j a;rw[Nz b I.I I.V n1,Qe λh=>e h.1];unfold QK;rw[u]
   have a0:∀r∈R,r≠ZP S.M S.Qd->W5 (cv r) S.Qd (W r) (QK (takeN S.M S.Qd) r) (Z7 (takeN S.M S.Qd) r):=λr a e=>by
    rw[q r a e,vT r e];exact h.lf r a
   have Gu:∀n,Qv S.M (ZP S.M S.Qd)=n->Z7 (takeN S.M S.Qd) (ZP S.M S.Qd)=(Xk (Kv n.q)).toNat/\Xk (Kv n.q)<=16384:=λn hn=>by
    have o:(Kv n.q).l=(QW S.M (ZP S.M S.Qd)).tail:=by unfold QW;rw[hn];rfl
    rw[QlT _ _ _ b,Qf rfl,QlS,o];refine⟨rfl,?_⟩;have p:=QbG (lm:=S.M.lk.ZJ) (l:=(QW S.M (ZP S.M S.Qd)).tail) λy hy=>I.len _ y (List.mem_of_mem_tail hy);have h3:(Xk (Kv n.q)).toNat=GJ (Kv n.q).l:=QlS _;rw[o]at h3;omega
   cases w:V8 S.M S.Qd with
   | false=>
    have Jf:∀r∈R,0<Z7 S.M r->S.Qd<(QK S.M r).KN:=λr a z=>QlU b w I.cl _ (bg G I.I I.V j a z);have i:∀r∈R,W5 (cv r) S.Qd (W r) (QK (takeN S.M S.Qd) r) (Z7 (takeN S.M S.Qd) r)/\(QK (takeN S.M S.Qd) r).QA=(QK S.M r).QA/\(QK (takeN S.M S.Qd) r).dl=(QK S.M r).dl/\(0<Z7 (takeN S.M S.Qd) r->0<Z7 S.M r):=λr a=>by
     by_cases e:r=ZP S.M S.Qd
     .obtain⟨n,n1,u,n3,n4,n5⟩:=NA G I j a;have c:W r≠[]:=λc=>by
       have:=(h.lf r a).none c;rw[e]at this;omega
      have W8:QK S.M r=n.du:=by unfold QK;rw[u]
      have ji:=h.pk r a;rw[e]at u;obtain⟨b1,F⟩:=Gu n u;obtain⟨E,c2,C⟩:=(h.lf r a).head c ω F;have H:QK (takeN S.M S.Qd) r=W6 (QK S.M r) (Xk (Kv n.q)):=by
       rw[Nz b I.I I.V n1,Qf ⟨e,n4⟩,w,W8];rfl
      rw[H,show Z7 (takeN S.M S.Qd) r=(Xk (Kv n.q)).toNat by rw[e];exact b1];exact⟨E,c2,C,λ_=>by rw[e];exact XI⟩
     .rw[q r a e,vT r e];exact⟨h.lf r a,rfl,rfl,id⟩
    refine⟨?_,λ_ _ p=>by cases p⟩;refine⟨(Rx _ _).trans j,by show (takeN S.M S.Qd).lk.t.toNat=_;rw[yA];exact h.tk,by show (takeN S.M S.Qd).lk.ZJ.toNat*_=_;rw[yA];exact h.kk,λr a=>(i r a).1,λr a=>?_,λr a c=>(i r a).2.1.trans (h.nw r a c),λr a f P L' c=>?_,λd g=>?_⟩
    .show (QK (takeN S.M S.Qd) r).QA<=16384*(k+1);rw[(i r a).2.1];have:=h.pk r a;omega
    .right;show f<S.Qd+VN S.M.lk (Jd S.M S.Qd).len;have:=((h.lf r a).run f P L' c).1;omega
    .show ∃t0 B,t0<=S.Qd/\QD R cv K Tk d t0 B (QK (takeN S.M S.Qd)) (Z7 (takeN S.M S.Qd)) (S.Qd+VN S.M.lk (Jd S.M S.Qd).len);exact⟨S.Qd,_,Qs _,QDg (t:=S.Qd) (ZR:=S.Qd+VN S.M.lk (Jd S.M S.Qd).len) hC h.lf I.cl ω Jf (λr a=>(i r a).2) d⟩
   | true=>
    obtain⟨s,v,j2⟩:=QCL I.V w;obtain⟨a4,j3,j4⟩:=Qln I.I I.V b;rw[v]at j3;cases j3;have M:ZP S.M S.Qd∈R:=(G.mem _).2 ⟨s.c,by rw[<- j];exact I.I.some v,j4,j2⟩;have U:Qv S.M (ZP S.M S.Qd)=s:=by unfold Qv;rw[v];rfl
    have NB:QK S.M (ZP S.M S.Qd)=s.du:=by unfold QK;rw[U]
    obtain⟨b1,F⟩:=Gu s U;have IJ:=h.lf _ M;have N:W (ZP S.M S.Qd)≠[]:=λc=>by have:=IJ.none c;omega
    have a5:=h.pk _ M;obtain⟨E,c2,C⟩:=IJ.QDf N ω (len:=(Jd S.M S.Qd).len) ω F;have H:QK (takeN S.M S.Qd) (ZP S.M S.Qd)=kF (QK S.M (ZP S.M S.Qd)) (Jd S.M S.Qd).len (Xk (Kv s.q)):=by
     rw[Nz b I.I I.V v,Qf ⟨rfl,j2⟩,w,NB];rfl
    rw[<- H,<- b1]at E;rw[<- H,<- tO]at c2;rw[<- H]at C;obtain⟨y,y1,y2,y3,y4⟩:=QDk w I.cl;have a1:y.va=(QK S.M (ZP S.M S.Qd)).dead:=by
     obtain⟨m,m1,_,_,_,m5⟩:=(I.V.lv y).1 y1;rw[y2,v]at m1;cases m1;rw[m5,NB]
    have O:=λd (g:d<=9223372036854775807)=>QDh (K:=K) (T:=Tk) (d:=d) G.nd hC h.lf I.cl a3 ω BY h.wk M XI (λr a z he=>by rw[<- a1];exact y4 _ (bg G I.I I.V j a z) he) a2 (λr a e=>⟨q r a e,vT r e⟩) c2 C (λz=>by rw[(IJ.hd XI).2,(E.hd z).2,c2,C];exact QDb _ (Vm _ ω)) g (h.inv d g);refine⟨?_,λ_ _ _ g=>?_⟩
    case' refine_2=>
     obtain⟨t0,B,q1,Q,q3⟩:=O _ g;obtain⟨b1,F,b3⟩:=Q.bb _ M;have:=Q.done G.nd M (n:=0) Wd F (Nat.le_of_lt (b3 (q3 (Qs _))));rw[nh];omega
    refine⟨(Rx _ _).trans j,by show (takeN S.M S.Qd).lk.t.toNat=_;rw[yA];exact h.tk,by show (takeN S.M S.Qd).lk.ZJ.toNat*_=_;rw[yA];exact h.kk,λr a=>?_,λr a=>?_,λr a c=>?_,λr a f P L' c=>?_,λd g=>?_⟩
    .by_cases e:r=ZP S.M S.Qd
     .subst e;exact E
     .exact a0 r a e
    .show (QK (takeN S.M S.Qd) r).QA<=16384*(k+1);have:=h.pk r a;by_cases e:r=ZP S.M S.Qd
     .subst e;rw[c2];omega
     .rw[q r a e];omega
    .show (QK (takeN S.M S.Qd) r).QA=0;rw[q r a λe=>N (e▸c)];exact h.nw r a c
    .right;show f<S.Qd+VN S.M.lk (Jd S.M S.Qd).len;have:=((h.lf r a).run f P L' c).1;omega
    .show ∃t0 B,t0<=S.Qd/\QD R cv K Tk d t0 B (QK (takeN S.M S.Qd)) (Z7 (takeN S.M S.Qd)) (S.Qd+VN S.M.lk (Jd S.M S.Qd).len);rw[nh];obtain⟨t0,B,q1,q2,_⟩:=O d g;exact⟨t0,B,q1,q2⟩
  .rename_i b;rw[Qe b];refine⟨?_,λ_ p=>absurd p b⟩;have o:QK (takeN S.M S.Qd)=QK S.M:=funext λr=>(ng b r).1;have e2:Z7 (takeN S.M S.Qd)=Z7 S.M:=funext λr=>(ng b r).2;refine⟨(Rx _ _).trans j,by show (takeN S.M S.Qd).lk.t.toNat=_;rw[yA];exact h.tk,by show (takeN S.M S.Qd).lk.ZJ.toNat*_=_;rw[yA];exact h.kk,λr a=>?_,λr a=>?_,λr a=>?_,λr a=>?_,λd g=>?_⟩
   .show W5 (cv r) S.Qd (W r) (QK (takeN S.M S.Qd) r) (Z7 (takeN S.M S.Qd) r);rw[o,e2];exact h.lf r a
   .show (QK (takeN S.M S.Qd) r).QA<=_;rw[o];exact h.pk r a
   .show W r=[]->(QK (takeN S.M S.Qd) r).QA=0;rw[o];exact h.nw r a
   .show ∀f P L,W r=(f,P)::L->(QK (takeN S.M S.Qd) r).QA=P\/f<S.ZR;rw[o];exact h.wk r a
   .show ∃t0 B,t0<=S.Qd/\QD R cv K Tk d t0 B (QK (takeN S.M S.Qd)) (Z7 (takeN S.M S.Qd)) S.ZR;rw[o,e2];exact h.inv d g
end
section
variable {T:List Qq}{R:List Int}{cv:Int->Nc}{K Tk:Nat}(G:xz T R cv)
def AK.Qd{W}{k}{S:Zj}(h:AK T R cv K Tk W k S){Y}(e:S.Qd<=Y):AK T R cv K Tk W k { S with Qd:=Y }:=
 ⟨h.T,h.tk,h.kk,λr a=>(h.lf r a).Qd e,h.pk,h.nw,h.wk,λd b=>by
  obtain⟨t0,B,f,c⟩:=h.inv d b;exact⟨t0,B,JL f e,c⟩⟩
include G
theorem QbI{S:Zj}(I:ZC S)(q:S.M.T=T){J}{x}(c:Yp S.M S.Qd J x=0){r}(o:r∈R):
  QK (Zr S.M S.Qd J x) r=if r=J/\QW S.M J=[] then Xl (QK S.M r) (cv r) S.Qd x.len else QK S.M r:=by
 obtain⟨n,l,k,t,j,i⟩:=NA G I q o;obtain⟨t1,_,_⟩:=xp S.M S.Qd;have s:QK S.M r=n.du:=by unfold QK;rw[k]
 rw[s];unfold Yp at c;unfold Zr;split at c
 .rename_i m;rw[Qf m];have b:=QlP (M:=ZA S.M S.Qd) S.Qd J x r;rw[t1,l,KA]at b;obtain⟨y,g,f⟩:=WH.1 b;have d:y.du=_:=congrArg Prod.snd f;have p:(Qv (ZA S.M S.Qd) J).q.l=QW S.M J:=by unfold QW Qv;rw[t1]
  rw[p]at d;have e:QK (Vx (ZA S.M S.Qd) S.Qd J x) r=y.du:=by unfold QK Qv;rw[g];rfl
  rw[e,d];dsimp only;by_cases a:r=J/\QW S.M J=[]
  .rw[Qf ⟨c,a.2,a.1,j⟩,Qf a,i]
  .rw[Qe λh=>a ⟨h.2.2.1,h.2.1⟩,Qe a]
 .cases c
theorem QlZ{W}{k}{S:Zj}(I:ZC S)(V:S.Qd<Zb S)(h:AK T R cv K Tk W k S){J}{x}(u:Yp S.M S.Qd J x=0)(hk:k<=1000000000):
  AK T R cv K Tk (λr=>if r=J/\QW S.M J=[] then (S.Qd,(QK S.M r).QA)::W r else W r) k { S with M:=Zr S.M S.Qd J x } /\
  (S.ZR<S.Qd->∀r∈R,0<Z7 (Zr S.M S.Qd J x) r->∀i P L,(if r=J/\QW S.M J=[] then (S.Qd,(QK S.M r).QA)::W r else W r)=(i,P)::L->S.Qd<=(QK (Zr S.M S.Qd J x) r).KN\/i=S.Qd):=by
 have z:∀r∈R,X5 (cv r):=λr b=>by
  obtain⟨O,U,_⟩:=(G.mem r).1 b;exact(G.cv r b O U).2
 have Y:=QaW u;have vU:=I.K.l2;have Z1:=I.cl;have w:∀r,QW (Zr S.M S.Qd J x) r=if J=r then QW S.M r++[x] else QW S.M r:=λr=>by
  rw[IG];by_cases e:J=r
  .rw[Qf ⟨u,e⟩,Qf e]
  .rw[Qe λh=>e h.2,Qe e]
 have g:=λ{r:Int} (b:r∈R)=>QbI G I h.T u b;have s:∀r,Z7 (Zr S.M S.Qd J x) r=if r=J/\QW S.M J=[] then x.len.toNat else Z7 S.M r:=λr=>by
  unfold Z7;rw[w];by_cases e:J=r
  .subst e;rw[Qf rfl];cases hq:QW S.M J with
   | nil=>rw[Qf ⟨rfl,rfl⟩];rfl
   | cons a L=>rw[Qe λh=>by cases h.2];rfl
  .rw[Qe e,Qe λh=>e h.1.symm]
 have n:=λ{r:Int} (b:r∈R) (c:r=J/\QW S.M J=[])=>by
  have l:Z7 S.M r=0:=by
   unfold Z7;rw[c.1,c.2];rfl
  have L:=h.lf r b;rw[l]at L;have ji:=h.pk r b;exact L.aB (z r b) I.cl ω Y.1 ω
 refine⟨⟨(mZ _ _ _ _).trans h.T,by show (Zr S.M S.Qd J x).lk.t.toNat=_;rw[BV];exact h.tk,by show (Zr S.M S.Qd J x).lk.ZJ.toNat*_=_;rw[BV];exact h.kk,λr b=>?_,λr b=>?_,λr b f=>?_,λr b i P L f=>?_,λd Z=>?_⟩,λhu r b l i P L f=>?_⟩
 .show W5 (cv r) S.Qd (if r=J/\QW S.M J=[] then (S.Qd,(QK S.M r).QA)::W r else W r) (QK (Zr S.M S.Qd J x) r) (Z7 (Zr S.M S.Qd J x) r);rw[g b,s];by_cases c:r=J/\QW S.M J=[]
  .rw[Qf c,Qf c,Qf c];exact(n b c).1
  .rw[Qe c,Qe c,Qe c];exact h.lf r b
 .show (QK (Zr S.M S.Qd J x) r).QA<=_;rw[g b];by_cases c:r=J/\QW S.M J=[]
  .rw[Qf c,(n b c).2.1];exact h.pk r b
  .rw[Qe c];exact h.pk r b
 .have f:(if r=J/\QW S.M J=[] then (S.Qd,(QK S.M r).QA)::W r else W r)=[]:=f;show (QK (Zr S.M S.Qd J x) r).QA=0;rw[g b];by_cases c:r=J/\QW S.M J=[]
  .rw[Qf c]at f;cases f
  .rw[Qe c]at f ⊢;exact h.nw r b f
 .have f:(if r=J/\QW S.M J=[] then (S.Qd,(QK S.M r).QA)::W r else W r)=(i,P)::L:=f;show (QK (Zr S.M S.Qd J x) r).QA=P\/i<S.ZR;rw[g b];by_cases c:r=J/\QW S.M J=[]
  .rw[Qf c]at f ⊢;cases f;left;exact(n b c).2.1
  .rw[Qe c]at f ⊢;exact h.wk r b i P L f
 .obtain⟨t0,B,C,Q⟩:=h.inv d Z;refine⟨t0,B,C,?_⟩;show QD R cv K Tk d t0 B (QK (Zr S.M S.Qd J x)) (Z7 (Zr S.M S.Qd J x)) S.ZR;by_cases y:J∈R/\QW S.M J=[]
  .obtain⟨j,E⟩:=y;have c:J=J/\QW S.M J=[]:=⟨rfl,E⟩;obtain⟨N,H,F⟩:=n j c;have o:=g j;rw[Qf c]at o;refine Q.aB (q:=J) (by unfold Z7;rw[E];rfl) (λr b e=>?_) (by rw[o,H]) ?_ ?_
   .rw[g b,s,Qe λh=>e h.1,Qe λh=>e h.1];exact⟨rfl,rfl⟩
   .rw[o];obtain⟨_,v,_,_⟩:=N.run _ _ _ rfl;exact QlJ (z J j) v C
   .rw[o];cases f:W J with
    | nil=>exact .inl (h.nw J j f)
    | cons p L=>
     obtain⟨a1,v,a3,a4⟩:=(h.lf J j).run p.1 p.2 L f;exact .inr λm hB=>F p.1 (W J) v ⟨p.2,L,f,rfl⟩ ((h.lf J j).has.2 (by rw[f];exact bF _ _)) t0 m hB
  .have t:∀r∈R,QK (Zr S.M S.Qd J x) r=QK S.M r/\Z7 (Zr S.M S.Qd J x) r=Z7 S.M r:=λr b=>by
    have c:¬(r=J/\QW S.M J=[]):=λc=>y ⟨c.1▸b,c.2⟩;rw[g b,s,Qe c,Qe c];exact⟨rfl,rfl⟩
   refine⟨λr b=>by rw[(t r b).1];exact Q.bb r b,?_,λr b=>by rw[(t r b).1,(t r b).2];exact Q.q r b⟩;rw[show (R.map λr=>(QK (Zr S.M S.Qd J x) r).QA - B r)=R.map λr=>(QK S.M r).QA - B r from EX λr b=>by rw[(t r b).1]];exact Q.un
 .rw[g b];rw[s]at l;by_cases c:r=J/\QW S.M J=[]
  .rw[Qf c]at f;cases f;exact .inr rfl
  .rw[Qe c]at l ⊢;refine .inl (QbF (T:=T) G I.I I.V h.T b l I.cl ?_);unfold Zb Yq at V;omega
end
def qQ(r:Int)(a:Nat)(l:List Ev):Nat:=(l.map λe=>if e.Zy=false/\e.cls=r/\e.real=true/\(a:Int)<e.done then e.len.toNat else 0).sum
def jS(r:Int)(b a:Nat)(l:List Ev):Nat:=(l.map λe=>if e.Zy=false/\e.cls=r/\(b:Int)<e.done/\e.done<=(a:Int) then e.len.toNat else 0).sum
def ni(r)(c)(a b:List Ev):qQ r c (a++b)=qQ r c a+qQ r c b:=by unfold qQ;rw[jZ,List.sum_append]
def QbK(r)(d c)(a b:List Ev):jS r d c (a++b)=jS r d c a+jS r d c b:=by unfold jS;rw[jZ,List.sum_append]
def QbL{f g:Ev->Nat}:∀(l:List Ev),(∀e∈l,f e<=g e)->(l.map f).sum<=(l.map g).sum
 | [],_=>Qs _
 | a::l,h=>by
  have d:=h a Z3;have c:=QbL l λr b=>h r (Jw _ b);rw[Jo,Jo,vj,vj];omega
def QDo(r)(d){a b}(h:a<=b)(l:List Ev):jS r d a l<=jS r d b l:=QbL l λe _=>by
 split
 .rename_i c;rw[Qf ⟨c.1,c.2.1,c.2.2.1,ω⟩];exact Qs _
 .exact Z9 _
def Ql1{r:Int}{Ju a:Nat}{l:List Ev}(h:∀e∈l,e.Zy=false->e.done<=(a:Int)):qQ r Ju l<=jS r Ju a l:=QbL l λe c=>by
 split
 .rename_i b;rw[Qf ⟨b.1,b.2.1,b.2.2.2,h e c b.1⟩];exact Qs _
 .exact Z9 _
structure RS (R:List Int) (cv:Int->Nc) (K:Nat) (W:Int->List (Nat × Nat)) (l:List Ev) (S:Zj):Prop where
 dn:∀e∈l,e.Zy=false->e.done<=(S.ZR:Int)
 fl:∀r∈R,∃n:Nat,(n:Int)<=S.M.lk.ZJ/\(∀Ju,qQ r Ju l<=jS r Ju S.Qd l+n)/\(n=0\/∃δ,∃p∈W r,S.ZR<=δ+K/\p.1<δ/\p.2*65536+Jk (cv r).a (cv r).d (cv r).b (δ - 1 - p.1)<(QK S.M r).QA*65536)
 sn:∀r∈R,∀p∈W r,(QK S.M r).QA<=p.2+qQ r p.1 l
def RS.Qd{R}{d}{K}{W}{l}{S:Zj}(h:RS R d K W l S){Y}(e:S.Qd<=Y):RS R d K W l { S with Qd:=Y }:=
 ⟨h.dn,λr f=>by
  obtain⟨n,j,i,g⟩:=h.fl r f;exact⟨n,j,λc=>by
   have a:=i c;have b:=QDo r c e l;show qQ r c l<=jS r c Y l+n;omega,g⟩,h.sn⟩
section
variable {T:List Qq}{R:List Int}{cv:Int->Nc}{K Tk:Nat}(G:xz T R cv)
include G
theorem QDp{W}{k}{S}{l}(I:ZC S)(h:AK T R cv K Tk W k S)(E:RS R cv K W l S)
  (J:Nat) (h':¬S.Qd<S.ZR->V9 S.M S.Qd=true->V8 S.M S.Qd=true->(QK S.M (ZP S.M S.Qd)).dead<=9223372036854775807->S.Qd+VN S.M.lk (Jd S.M S.Qd).len<=(QK S.M (ZP S.M S.Qd)).dead+K) (U:k+(ZB S J S.Qd).2.length<=1000000000) :
  RS R cv K W (l++(ZB S J S.Qd).2) (ZB S J S.Qd).1:=by
 have hT:=h.T;have Y:∀r∈R,X5 (cv r):=λr b=>by
  obtain⟨kk,k1,_⟩:=(G.mem r).1 b;exact(G.cv r b kk k1).2
 have Ew:=I.K;unfold ZB at U ⊢;split at U
 .rename_i O;rw[Qf O];rw[Jv];exact E
 .rename_i O;rw[Qe O];split at U
  .rename_i d;rw[Qf d];have Qr:k+1<=1000000000:=U;obtain⟨x,L,hq,hx⟩:=GA I.I I.V d;have H:=I.take_len d;have Qc:=II Ew H;have vU:=Ew.l2;have a0:VN S.M.lk (Jd S.M S.Qd).len<=K:=by
    rw[<- h.kk,<- h.tk];exact Vm _ ω
   have KI:∀e∈l,e.Zy=false->e.done<=(S.Qd:Int):=λe he hi=>by have:=E.dn e he hi;omega
   obtain⟨v,t⟩:∃v,v=AD J (V8 S.M S.Qd) S.Qd (S.Qd+VN S.M.lk (Jd S.M S.Qd).len) (ZP S.M S.Qd) (Jd S.M S.Qd):=⟨_,rfl⟩;have v1:v.Zy=false:=by rw[t];rfl
   have v2:v.cls=ZP S.M S.Qd:=by rw[t];rfl
   have v3:v.real=V8 S.M S.Qd:=by rw[t];rfl
   have v4:v.done=((S.Qd+VN S.M.lk (Jd S.M S.Qd).len:Nat):Int):=by rw[t];rfl
   have v5:v.len=(Jd S.M S.Qd).len:=by rw[t];rfl
   rw[<- t];have one:∀r c,qQ r c [v]=if v.Zy=false/\v.cls=r/\v.real=true/\(c:Int)<v.done then v.len.toNat else 0:=λr c=>by unfold qQ;simp
   have F:∀r c,jS r c S.Qd [v]=0:=λr c=>by
    unfold jS;simp only[Jo,List.map_nil,vj,List.sum_nil,xG];rw[Qe];rintro⟨_,_,_,h5⟩;rw[v4]at h5;omega
   have s:∀r∈R,¬(r=ZP S.M S.Qd/\V8 S.M S.Qd=true)->(QK (takeN S.M S.Qd) r).QA=(QK S.M r).QA:=λr b QE=>by
    obtain⟨n,m,j,M,y,n5⟩:=NA G I hT b;rw[Nz d I.I I.V m];have q:QK S.M r=n.du:=by unfold QK;rw[j]
    rw[q];by_cases e:r=ZP S.M S.Qd
    .have f:V8 S.M S.Qd=false:=by
      cases f:V8 S.M S.Qd with
      | false=>rfl
      | true=>exact absurd ⟨e,f⟩ QE
     rw[Qf ⟨e,y⟩,f];show (W6 n.du _).QA=n.du.QA;unfold W6;split<;>rfl
    .rw[Qe λh=>e h.1]
   refine⟨λe he hi=>?_,λr b=>?_,λr b p Q=>?_⟩
   .show e.done<=((S.Qd+VN S.M.lk (Jd S.M S.Qd).len:Nat):Int);rcases QX.1 he with he|he
    .have:=KI e he hi;omega
    .rw[Xq]at he;rw[he,v4];exact qR _
   .show ∃n:Nat,(n:Int)<=(takeN S.M S.Qd).lk.ZJ/\(∀c,qQ r c (l++[v])<=jS r c S.Qd (l++[v])+n)/\(n=0\/∃g,∃p∈W r,S.Qd+VN S.M.lk (Jd S.M S.Qd).len<=g+K/\p.1<g/\p.2*65536+Jk (cv r).a (cv r).d (cv r).b (g - 1 - p.1)<(QK (takeN S.M S.Qd) r).QA*65536);rw[yA];by_cases z:r=ZP S.M S.Qd/\V8 S.M S.Qd=true
    .obtain⟨e,f⟩:=z;refine⟨(Jd S.M S.Qd).len.toNat,ω,λc=>?_,.inr ?_⟩
     .rw[ni,QbK,F,one];have a:=Ql1 (r:=r) (Ju:=c) KI;have:(if v.Zy=false/\v.cls=r/\v.real=true/\(c:Int)<v.done then v.len.toNat else 0)<=(Jd S.M S.Qd).len.toNat:=by
       split
       .rw[v5];exact Qs _
       .exact Z9 _
      omega
     ·
      obtain⟨n,m,j,M,y,n5⟩:=NA G I hT b;have q:QK S.M r=n.du:=by unfold QK;rw[j]
      have u:=h.lf r b;have hh:Z7 S.M r=(Jd S.M S.Qd).len.toNat:=by
       unfold Z7;rw[e,hq,hx];rfl
      have ji:=h.pk r b;cases o:W r with
      | nil=>have:=u.none o;omega
      | cons i L0=>
       obtain⟨a1,C,a3,B⟩:=u.run i.1 i.2 L0 o;have VW:=u.pk i (by rw[o];exact Z3);have N:=(u.hd ω).2;rw[hh]at N;have JN:(QK (takeN S.M S.Qd) r).QA=(QK S.M r).QA+(Jd S.M S.Qd).len.toNat:=by
        rw[Nz d I.I I.V m,Qf ⟨e,y⟩,f,q];rw[q]at ji;show (kF n.du _ _).QA=_;unfold kF W6;split
        .exact GI ω
        .exact GI ω
       rw[JN];have Z1:=I.cl;rw[o]at C B;have hg:=m7 (Y r b) (P:=i.2) (V:=(QK S.M r).QA+(Jd S.M S.Qd).len.toNat) ω C Z3 ω;rw[<- N]at hg;have a5:=QlQ (Y r b);by_cases a6:(QK S.M r).dead<=4611686018428436480
       .obtain⟨w,w1,w2,Z⟩:=QbC (Y r b) (x:=(QK S.M r).dead - 1) C B ω ω (show (QK S.M r).dead - 1<KD (QK S.M r).dl (((QK S.M r).QA+(Jd S.M S.Qd).len.toNat)*65536) by rw[<- N];omega);refine⟨(QK S.M r).dead,w,w1,?_,ω,Z⟩;have:=h' O d f (by rw[<- e];omega);rw[<- e]at this;exact this
       .obtain⟨w,w1,w2,Z⟩:=QbC (Y r b) (x:=4611686018428436480) C B ω ω (show 4611686018428436480<KD (QK S.M r).dl (((QK S.M r).QA+(Jd S.M S.Qd).len.toNat)*65536) by rw[<- N];omega);exact⟨4611686018428436481,w,w1,ω,ω,Z⟩
    .refine⟨0,by have:=Ew.l1;omega,λc=>?_,.inl rfl⟩;rw[ni,QbK,F,one,Qe]
     .have:=Ql1 (r:=r) (Ju:=c) KI;omega
     .rintro⟨_,h5,h6,_⟩;exact z ⟨by rw[<- h5,v2],by rw[<- v3];exact h6⟩
   .show (QK (takeN S.M S.Qd) r).QA<=p.2+qQ r p.1 (l++[v]);have a:=E.sn r b p Q;rw[ni,one];by_cases z:r=ZP S.M S.Qd/\V8 S.M S.Qd=true
    .obtain⟨e,f⟩:=z;obtain⟨n,m,j,M,y,n5⟩:=NA G I hT b;have q:QK S.M r=n.du:=by unfold QK;rw[j]
     have ji:=h.pk r b;have JN:(QK (takeN S.M S.Qd) r).QA=(QK S.M r).QA+(Jd S.M S.Qd).len.toNat:=by
      rw[Nz d I.I I.V m,Qf ⟨e,y⟩,f,q];rw[q]at ji;show (kF n.du _ _).QA=_;unfold kF W6;split
      .exact GI ω
      .exact GI ω
     have m8:p.1<=S.Qd:=by
      have u:=h.lf r b;cases o:W r with
      | nil=>rw[o]at Q;cases Q
      | cons i L0=>
       obtain⟨a1,C,a3,B⟩:=u.run i.1 i.2 L0 o;have:=B p Q;omega
     rw[JN,Qf ⟨v1,by rw[v2,e],by rw[v3,f],by rw[v4];omega⟩,v5];omega
    .rw[s r b z];omega
  .rename_i d;rw[Qe d];have e1:QK (takeN S.M S.Qd)=QK S.M:=funext λr=>(ng d r).1;rw[Jv];refine⟨E.dn,λr b=>?_,λr b=>?_⟩
   .obtain⟨n,m,j,M⟩:=E.fl r b;refine⟨n,?_,j,?_⟩
    .show (n:Int)<=(takeN S.M S.Qd).lk.ZJ;rw[yA];exact m
    .show n=0\/∃g,∃p∈W r,S.ZR<=g+K/\p.1<g/\p.2*65536+Jk (cv r).a (cv r).d (cv r).b (g - 1 - p.1)<(QK (takeN S.M S.Qd) r).QA*65536;rw[e1];exact M
   .show ∀p∈W r,(QK (takeN S.M S.Qd) r).QA<=p.2+qQ r p.1 l;rw[e1];exact E.sn r b
end
def W9(r:Int)(l:List Ev):Gh:=l.foldl (Gh.next [r]) ⟨0,[],0⟩
structure NC (R:List Int) (W:Int->List (Nat × Nat)) (l:List Ev) (S:Zj):Prop where
 n:∀r∈R,(W9 r l).n=(QW S.M r).length
 g:∀r∈R,∀p∈W r,∃x∈(W9 r l).g,x.1=p.1
def QbM(r)(s:Gh)(e:Ev){a}(h:∃x∈s.g,x.1=a):∃x∈(s.next [r] e).g,x.1=a:=by
 obtain⟨x,c,b⟩:=h;unfold Gh.next;split
 .split
  .dsimp only;split
   .exact⟨x,Jw _ c,b⟩
   .exact⟨x,c,b⟩
  .exact⟨_,JA.2 ⟨x,c,rfl⟩,b⟩
 .exact⟨x,c,b⟩
def RU(r)(l:List Ev)(e:Ev):W9 r (l++[e])=(W9 r l).next [r] e:=by
 unfold W9;rw[jY];rfl
def NC.Qd{R}{W}{l}{S}(h:NC R W l S)(Y):NC R W l { S with Qd:=Y }:=⟨h.n,h.g⟩
def La(r q:Int):[r].contains q=true↔q=r:=σ
def QDq{R}{W}{l}{S:Zj}(I:ZC S)(h:NC R W l S)(d):NC R W (l++(ZB S d S.Qd).2) (ZB S d S.Qd).1:=by
 unfold ZB;split
 .rw[Jv];exact h
 .split
  .rename_i c;obtain⟨x,L,m,hx⟩:=GA I.I I.V c;refine⟨λr a=>?_,λr a p k=>?_⟩
   .rw[RU];show (Gh.next [r] (W9 r l) _).n=(QW (takeN S.M S.Qd) r).length;have j:=h.n r a;obtain⟨v,f⟩:∃v,v=AD d (V8 S.M S.Qd) S.Qd (S.Qd+VN S.M.lk (Jd S.M S.Qd).len) (ZP S.M S.Qd) (Jd S.M S.Qd):=⟨_,rfl⟩;have v1:v.Zy=false:=by rw[f];rfl
    have v2:v.cls=ZP S.M S.Qd:=by rw[f];rfl
    rw[<- f];by_cases e:ZP S.M S.Qd=r
    .have i:QW (takeN S.M S.Qd) r=(QW S.M r).tail:=by rw[Az,Qf ⟨c,e⟩]
     have g:(Gh.next [r] (W9 r l) v).n=(W9 r l).n - 1:=by
      unfold Gh.next;rw[Qf ((La r _).2 (v2.trans e)),Qe (by rw[v1];decide)]
     rw[i,g,j,List.length_tail]
    .have i:QW (takeN S.M S.Qd) r=QW S.M r:=by rw[Az,Qe λb=>e b.2]
     have g:Gh.next [r] (W9 r l) v=W9 r l:=by
      unfold Gh.next;rw[Qe λb=>e (v2.symm.trans ((La r _).1 b))]
     rw[i,g];exact j
   .rw[RU];exact QbM r _ _ (h.g r a p k)
  .rename_i c;rw[Jv];refine⟨λr a=>?_,h.g⟩;show (W9 r l).n=(QW (takeN S.M S.Qd) r).length;rw[Az,Qe λb=>c b.1];exact h.n r a
structure GK (T:List Qq) (R:List Int) (cv:Int->Nc) (K Tk:Nat) (W:Int->List (Nat × Nat)) (l:List Ev) (S:Zj):Prop where
 gu:AK T R cv K Tk W l.length S
 ge:RS R cv K W l S
 sp:NC R W l S
def GK.Qd{T}{R}{a}{K b}{W}{l}{S:Zj}(h:GK T R a K b W l S){Y}(e:S.Qd<=Y):GK T R a K b W l { S with Qd:=Y }:=⟨h.gu.Qd e,h.ge.Qd e,h.sp.Qd Y⟩
section
variable {T:List Qq}{R:List Int}{cv:Int->Nc}{K Tk:Nat}(G:xz T R cv)(Wd:∀t,(R.map λr=>Jk (cv r).a (cv r).d (cv r).b t).sum*Tk<=65536*t)
include G Wd
theorem QDr{W}{l}{S}(I:ZC S)(h:GK T R cv K Tk W l S)
  (j:S.ZR<S.Qd->∀r∈R,0<Z7 S.M r->∀e P L,W r=(e,P)::L->S.Qd<=(QK S.M r).KN\/e=S.Qd) (c:Nat) (f:l.length+(ZB S c S.Qd).2.length<=1000000000) :
  GK T R cv K Tk W (l++(ZB S c S.Qd).2) (ZB S c S.Qd).1:=by
 obtain⟨i,g⟩:=QlV G I h.gu j Wd c f;exact⟨by rw[ZT];exact i,QDp G I h.gu h.ge c g f,QDq I h.sp c⟩
theorem Qqw{W}{c e}(u:e<=4611686018427387904):∀(n:Nat) {l:List Ev} {S:Zj},ZC S->S.Qd<=e->S.Qd<Zb S->GK T R cv K Tk W l S->l.length+(Vf c e n S).2.length<=1000000000 ->
  GK T R cv K Tk W (l++(Vf c e n S).2) (Vf c e n S).1
 | 0,l,S,I,j,o,h,f=>by
  show GK T R cv K Tk W (l++[]) _;rw[Jv];exact h.Qd j
 | n+1,l,S,I,j,o,h,f=>by
  unfold Vf at f ⊢;split at f
  .rename_i g;rw[Qf g];show GK T R cv K Tk W (l++[]) _;rw[Jv];exact h.Qd j
  .rename_i g;rw[Qe g];have g:Zb S<=e:=ω;have m:=aK S I.cl;have k:=I.at_ m (show Zb S<=4611686018427387904 from ω);have v:=h.Qd m;dsimp only at f ⊢;rw[ZT]at f;have P:=QDr G Wd k v (λi r s w y P L z=>.inl (QbF (T:=T) G I.I I.V h.gu.T s w (by show Zb S<=_;omega) (by
    have i:S.ZR<Zb S:=i;show Zb S<=Ve S.M;unfold Zb Yq at i o ⊢;omega))) c (by
    show l.length+(ZB { S with Qd:=Zb S } c (Zb S)).2.length<=_;omega)
   have p:=Nq { S with Qd:=Zb S } c (Zb S);have q:=QkB k c;have x:=Qqw u n (k.IK c) (by
    show (ZB { S with Qd:=Zb S } c (Zb S)).1.Qd<=e;rw[p.1];exact g) (by show (ZB { S with Qd:=Zb S } c (Zb S)).1.Qd<Zb (ZB { S with Qd:=Zb S } c (Zb S)).1;rw[p.1];exact q) P (by rw[ZT];show l.length+(ZB { S with Qd:=Zb S } c (Zb S)).2.length+(Vf c e n (ZB { S with Qd:=Zb S } c (Zb S)).1).2.length<=_;omega)
   rw[<- Wu];exact x
theorem QDs{W}{l:List Ev}{S:Zj}(I:ZC S)(m:S.Qd<Zb S)(h:GK T R cv K Tk W l S){J}{x}(s:Yp S.M S.Qd J x=0)(U:l.length+1<=1000000000)(c):
  GK T R cv K Tk (λr=>if r=J/\QW S.M J=[] then (S.Qd,(QK S.M r).QA)::W r else W r) (l++[Vz c S.Qd J x]) { S with M:=Zr S.M S.Qd J x }:=by
 obtain⟨k,_⟩:=QlZ G I m h.gu s ω;have y:∀r,QW (Zr S.M S.Qd J x) r=if J=r then QW S.M r++[x] else QW S.M r:=λr=>by
  rw[IG];by_cases e:J=r
  .rw[Qf ⟨s,e⟩,Qf e]
  .rw[Qe λh=>e h.2,Qe e]
 have B:∀r∈R,(QK (Zr S.M S.Qd J x) r).QA=(QK S.M r).QA:=λr f=>by
  rw[QbI G I h.gu.T s f];split
  .unfold Xl W6;split<;>rfl
  .rfl
 have z:∀r i,qQ r i (l++[Vz c S.Qd J x])=qQ r i l:=λr i=>by
  rw[ni];show _+qQ r i [Vz c S.Qd J x]=_;unfold qQ;simp[Vz]
 have E:∀r i j,jS r i j (l++[Vz c S.Qd J x])=jS r i j l:=λr i j=>by
  rw[QbK];show _+jS r i j [Vz c S.Qd J x]=_;unfold jS;simp[Vz]
 have w:∀r p,p∈W r->p∈(if r=J/\QW S.M J=[] then (S.Qd,(QK S.M r).QA)::W r else W r):=λr p h=>by
  split
  .exact Jw _ h
  .exact h
 refine⟨⟨k.T,k.tk,k.kk,k.lf,λr f=>?_,k.nw,k.wk,k.inv⟩,⟨λe he u=>?_,λr f=>?_,λr f p g=>?_⟩,⟨λr f=>?_,λr f p g=>?_⟩⟩
 .have:=k.pk r f;rw[ZT];omega
 .rcases QX.1 he with he|he
  .exact h.ge.dn e he u
  .rw[Xq]at he;rw[he]at u;cases u
 .obtain⟨n,P,O,q⟩:=h.ge.fl r f;refine⟨n,?_,λi=>?_,?_⟩
  .show (n:Int)<=(Zr S.M S.Qd J x).lk.ZJ;rw[BV];exact P
  .show qQ r i (l++[Vz c S.Qd J x])<=jS r i S.Qd (l++[Vz c S.Qd J x])+n;rw[z,E];exact O i
  .rcases q with q|⟨C,p,N,L,H,F⟩
   .exact .inl q
   .refine .inr ⟨C,p,w r p N,L,H,?_⟩;show _<(QK (Zr S.M S.Qd J x) r).QA*65536;rw[B r f];exact F
 .show (QK (Zr S.M S.Qd J x) r).QA<=p.2+qQ r p.1 (l++[Vz c S.Qd J x]);rw[B r f,z];have g:p∈(if r=J/\QW S.M J=[] then (S.Qd,(QK S.M r).QA)::W r else W r):=g;split at g
  .rcases QG.1 g with rfl|g
   .exact NX _ _
   .exact h.ge.sn r f p g
  .exact h.ge.sn r f p g
 .show (W9 r (l++[Vz c S.Qd J x])).n=(QW (Zr S.M S.Qd J x) r).length;rw[RU,y];have m:=h.sp.n r f;by_cases e:J=r
  .have v:(Gh.next [r] (W9 r l) (Vz c S.Qd J x)).n=(W9 r l).n+1:=by
    unfold Gh.next;rw[Qf ((La r _).2 (show (Vz c S.Qd J x).cls=r from e)),Qf (show (Vz c S.Qd J x).Zy=true from rfl)]
   rw[v,Qf e,ZT,m];rfl
  .have v:Gh.next [r] (W9 r l) (Vz c S.Qd J x)=W9 r l:=by
    unfold Gh.next;rw[Qe (show ¬[r].contains (Vz c S.Qd J x).cls=true from λQ=>e ((La r _).1 Q))]
   rw[v,Qe e];exact m
 .rw[RU];have g:p∈(if r=J/\QW S.M J=[] then (S.Qd,(QK S.M r).QA)::W r else W r):=g;split at g
  .rename_i o;rcases QG.1 g with rfl|g
   .have m:=h.sp.n r f;rw[o.1,o.2]at m;unfold Gh.next;rw[Qf ((La r _).2 (show (Vz c S.Qd J x).cls=r from o.1.symm)),Qf (show (Vz c S.Qd J x).Zy=true from rfl)];dsimp only;rw[o.1,Qf (show (W9 J l).n=0 from m)];exact⟨_,Z3,rfl⟩
   .exact QbM r _ _ (h.sp.g r f p g)
  .exact QbM r _ _ (h.sp.g r f p g)
end
section
variable {T:List Qq}{R:List Int}{cv:Int->Nc}{K Tk:Nat}(G:xz T R cv)(Wd:∀t,(R.map λr=>Jk (cv r).a (cv r).d (cv r).b t).sum*Tk<=65536*t)
include G Wd
theorem QLj{W}{l:List Ev}{S:Zj}(I:ZC S)(w:S.Qd<Zb S)(h:GK T R cv K Tk W l S){o:Je}(Y:o.kind≠1)(f:l.length+(Kb S o).l.length<=1000000000):
  ∃C,GK T R cv K Tk C (l++(Kb S o).l) (Kb S o).S:=by
 have c:GK T R cv K Tk W l { S with ops:=S.ops+1 }:=⟨⟨h.gu.T,h.gu.tk,h.gu.kk,h.gu.lf,h.gu.pk,h.gu.nw,h.gu.wk,h.gu.inv⟩,⟨h.ge.dn,h.ge.fl,h.ge.sn⟩,⟨h.sp.n,h.sp.g⟩⟩;have u:=I.ops (S.ops+1);have e:∀E,GK T R cv K Tk W l E->∃C,GK T R cv K Tk C (l++[]) E:=λE h=>⟨W,by rw[Jv];exact h⟩;unfold Kb Wa at f ⊢;rw[Qe Y]at f ⊢;split at f
 .rename_i z;rw[Qf z];split
  .exact e _ ⟨⟨c.gu.T,c.gu.tk,c.gu.kk,c.gu.lf,c.gu.pk,c.gu.nw,c.gu.wk,c.gu.inv⟩,⟨c.ge.dn,c.ge.fl,c.ge.sn⟩,⟨c.sp.n,c.sp.g⟩⟩
  .exact e _ c
 .rename_i z;rw[Qe z];split at f
  .rename_i y;rw[Qf y];unfold qh at f ⊢;split at f
   .rename_i i;rw[Qf i];exact e _ c
   .rename_i i;rw[Qe i];dsimp only at f ⊢;obtain⟨J,hJ⟩:∃J,J=Kj S.R (ZZ o.ZG):=⟨_,rfl⟩;rw[<- hJ]at f ⊢;split at f
    .rename_i k;rw[Qf k];rw[VQ]at f;have P:=QDs G Wd u w c (J:=J) (x:=o.ZG) k ω S.ops;have P2:GK T R cv K Tk (λr=>if r=J/\QW S.M J=[] then (S.Qd,(QK S.M r).QA)::W r else W r) (l++[Vz S.ops S.Qd J o.ZG]) { S with ops:=S.ops+1,M:=Zr S.M S.Qd J o.ZG,st:=wh S.st J S.Qd }:=
      ⟨⟨P.gu.T,P.gu.tk,P.gu.kk,P.gu.lf,P.gu.pk,P.gu.nw,P.gu.wk,P.gu.inv⟩,⟨P.ge.dn,P.ge.fl,P.ge.sn⟩,⟨P.sp.n,P.sp.g⟩⟩
     have I2:=(u.put J o.ZG).Jp J S.Qd (by have:=I.cl;omega);have Zg:=(QlZ G u w c.gu (J:=J) (x:=o.ZG) k ω).2;have Q:=QDr G Wd I2 P2 Zg S.ops (by
      rw[ZT];show l.length+1+(ZB { S with ops:=S.ops+1,M:=Zr S.M S.Qd J o.ZG,st:=wh S.st J S.Qd } S.ops S.Qd).2.length<=_;omega)
     rw[Wu]at Q;exact⟨_,Q⟩
    .rename_i k;rw[Qe k];have s:¬Yp S.M S.Qd J o.ZG=0:=k;have H:∀r,QW (Zr S.M S.Qd J o.ZG) r=QW S.M r:=λr=>by rw[IG,Qe λh=>s h.1]
     have Z:∀r,QK (Zr S.M S.Qd J o.ZG) r=QK S.M r:=λr=>by
      obtain⟨t1,_,_⟩:=xp S.M S.Qd;unfold Yp at s;unfold QK Zr;split
      .rename_i U;rw[Qf U]at s;have g:=QlP (M:=ZA S.M S.Qd) S.Qd J o.ZG r;rw[t1]at g;have g:(Qj (Vx (ZA S.M S.Qd) S.Qd J o.ZG).N r).map zD=(Qj S.M.N r).map zD:=by
        rw[g];congr 1;funext m;rw[Qe λh=>s h.1];rfl
       exact congrArg Prod.snd (Qkq g)
      .rfl
     have j:QK (Zr S.M S.Qd J o.ZG)=QK S.M:=funext Z;have N:Z7 (Zr S.M S.Qd J o.ZG)=Z7 S.M:=funext λr=>by unfold Z7;rw[H]
     refine e _ ⟨⟨(mZ _ _ _ _).trans h.gu.T,by show (Zr S.M S.Qd J o.ZG).lk.t.toNat=_;rw[BV];exact h.gu.tk,by show (Zr S.M S.Qd J o.ZG).lk.ZJ.toNat*_=_;rw[BV];exact h.gu.kk,?_,?_,?_,?_,?_⟩,⟨h.ge.dn,?_,?_⟩,⟨λr V=>?_,h.sp.g⟩⟩
     .show ∀r∈R,W5 (cv r) S.Qd (W r) (QK (Zr S.M S.Qd J o.ZG) r) (Z7 (Zr S.M S.Qd J o.ZG) r);rw[j,N];exact h.gu.lf
     .show ∀r∈R,(QK (Zr S.M S.Qd J o.ZG) r).QA<=_;rw[j];exact h.gu.pk
     .show ∀r∈R,W r=[]->(QK (Zr S.M S.Qd J o.ZG) r).QA=0;rw[j];exact h.gu.nw
     .show ∀r∈R,∀F P L,W r=(F,P)::L->(QK (Zr S.M S.Qd J o.ZG) r).QA=P\/F<S.ZR;rw[j];exact h.gu.wk
     .show ∀d,d<=9223372036854775807->∃t0 B,t0<=S.Qd/\QD R cv K Tk d t0 B (QK (Zr S.M S.Qd J o.ZG)) (Z7 (Zr S.M S.Qd J o.ZG)) S.ZR;rw[j,N];exact h.gu.inv
     .show ∀r∈R,∃n:Nat,(n:Int)<=(Zr S.M S.Qd J o.ZG).lk.ZJ/\(∀O,qQ r O l<=jS r O S.Qd l+n)/\(n=0\/∃v,∃p∈W r,S.ZR<=v+K/\p.1<v/\p.2*65536+Jk (cv r).a (cv r).d (cv r).b (v - 1 - p.1)<(QK (Zr S.M S.Qd J o.ZG) r).QA*65536);rw[j,BV];exact h.ge.fl
     .show ∀r∈R,∀p∈W r,(QK (Zr S.M S.Qd J o.ZG) r).QA<=p.2+qQ r p.1 l;rw[j];exact h.ge.sn
     .show (W9 r l).n=(QW (Zr S.M S.Qd J o.ZG) r).length;rw[H];exact h.sp.n r V
  .rename_i y;rw[Qe y];split at f
   .rename_i i;rw[Qf i];unfold zA at f ⊢;split at f
    .rename_i q;rw[Qf q];exact e _ c
    .rename_i q;rw[Qe q];have:=I.cl;have q:¬(4611686018427387904 - S.Qd<o.Wn.toNat):=q;exact⟨W,Qqw G Wd (S:={ S with ops:=S.ops+1 }) (by show S.Qd+o.Wn.toNat<=_;omega) _ u (by show S.Qd<=S.Qd+_;omega) w c f⟩
   .rename_i i;rw[Qe i];exact e _ c
theorem Qqz:∀(c:List Je) {W:Int->List (Nat × Nat)} {l:List Ev} {S:Zj},ZC S->S.Qd<Zb S->GK T R cv K Tk W l S->(∀o∈c,o.kind≠1/\Je.Ok o)->l.length+(Zz S c).2.2.length<=1000000000 ->
  ∃s,GK T R cv K Tk s (l++(Zz S c).2.2) (Zz S c).1/\ZC (Zz S c).1/\(Zz S c).1.Qd<Zb (Zz S c).1
 | [],W,l,S,I,e,h,_,_=>⟨W,by show GK T R cv K Tk W (l++[]) S;rw[Jv];exact h,I,e⟩
 | o::c,W,l,S,I,e,h,i,f=>by
  obtain⟨k,g⟩:=i o Z3;have f:l.length+((Kb S o).l++(Zz (Kb S o).S c).2.2).length<=1000000000:=f;rw[ZT]at f;obtain⟨u,p⟩:=QLj G Wd I e h k ω;have A:=QkF I e g.2.1.2;obtain⟨q,j,n⟩:=Qqz c (I.do g.2.1.2) A.1 p (λb m=>i b (Jw _ m)) (by rw[ZT];omega);rw[Wu]at j;exact⟨q,j,n⟩
end
def QDt{S:Zj}(h:S.Qd<Zb S)(a:S.ZR<=S.Qd):S.Qd<Ve S.M:=by
 unfold Zb Yq at h;omega
def QDu(M:Ql):Ve M<=Rp M.Lv:=Nat.min_le_left _ _
def QqA(c:Nc){K t x}(h:t<=x+(K+1)):QI4 c K t<=Jk c.a c.d c.b x:=by
 unfold QI4;split
 .exact Z9 _
 .exact QC4 _ _ _ ω
section
variable {T:List Qq}{R:List Int}{cv:Int->Nc}{K Tk:Nat}(G:xz T R cv)(Wd:∀t,(R.map λr=>Jk (cv r).a (cv r).d (cv r).b t).sum*Tk<=65536*t)
include G Wd
theorem served{W}{l}{S:Zj}(I:ZC S)(hn:S.Qd<Zb S)(h:GK T R cv K Tk W l S){r}(c:r∈R)(q:0<Z7 S.M r):
  ∃p∈W r,p.1<=S.Qd/\QI4 (cv r) K (S.Qd - p.1)<(jS r p.1 S.Qd l+S.M.lk.ZJ.toNat)*65536:=by
 have i:∀r∈R,X5 (cv r):=λr c=>by
  obtain⟨kk,k1,_⟩:=(G.mem r).1 c;exact(G.cv r c kk k1).2
 have L:=h.gu.lf r c;have z:=I.cl;have a0:(Z7 S.M r:Int)<=S.M.lk.ZJ:=by
  have h1:=QbG (I.len r);have:=I.K.l1;show (GJ (QW S.M r):Int)<=_;omega
 cases f:W r with
 | nil=>have:=L.none f;omega
 | cons k L0=>
  obtain⟨a1,j,O,m⟩:=L.run k.1 k.2 L0 f;have VW:=L.pk k (by rw[f];exact Z3);obtain⟨n,n1,H,n3⟩:=h.ge.fl r c;rw[<- f];by_cases M:S.Qd<S.ZR/\n≠0
  .obtain⟨F,p,v,q2,q3,q4⟩:=n3.resolve_left M.2;have Ya:=m p v;have hs:=h.ge.sn r c p v;have JT:=H p.1;have g:=QqA (cv r) (K:=K) (t:=S.Qd - p.1) (x:=F - 1 - p.1) ω;refine⟨p,v,ω,?_⟩;generalize Jk (cv r).a (cv r).d (cv r).b (F - 1 - p.1)=Y at q4 g;omega
  .have Cn:∀s,qQ r s l<=jS r s S.Qd l:=λs=>by
    by_cases J:S.Qd<S.ZR
    .have:=H s;have:n=0:=jX λh=>M ⟨J,h⟩;omega
    .exact Ql1 λe he hi=>by have:=h.ge.dn e he hi;omega
   have o:=(L.hd q).2;have C:=(L.hd q).1;rw[f]at j O m;have hg:=m7 (i r c) (P:=k.2) (V:=(QK S.M r).QA+Z7 S.M r) ω j Z3 ω;rw[<- o]at hg;have a5:=QlQ (i r c);have pC:(QK S.M r).dead<=9223372036854775807->S.Qd<=(QK S.M r).dead+K:=λw=>by
    by_cases J:S.Qd<S.ZR
    .obtain⟨t0,B,b1,Q⟩:=h.gu.inv (QK S.M r).dead w;have y:kY (cv r) t0 (B r) (QK S.M r).dl:=by
      rcases Q.q r c with h1|h1|h1
      .omega
      .omega
      .exact h1
     obtain⟨b1,b2,b3⟩:=Q.bb r c;obtain⟨g1,g2⟩:=y.ser (i r c) (V:=(QK S.M r).QA+Z7 S.M r) j ω w (by rw[<- o];exact Qs _) ω;have:=Q.done G.nd c (n:=Z7 S.M r) Wd (QlM g2 (Qs _)) ω;omega
    .have N:S.Qd<(QK S.M r).KN:=by
      have E:=QDt hn ω;have:=QbF (T:=T) G I.I I.V h.gu.T c q (t:=S.Qd) z (Nat.le_of_lt E);by_cases e:(QK S.M r).KN=S.Qd
      .exfalso;have hx:=bg G I.I I.V h.gu.T c q;have h2:=(QaR I.V.qg.1 (now:=S.Qd) z).2 ⟨_,hx,by show (QK S.M r).KN<=_;omega⟩;have h3:=QDu S.M;omega
      .omega
     rw[C]at N;have y:=QlI (i r c) O j m a1 z N;obtain⟨g1,_⟩:=y.ser (i r c) (V:=(QK S.M r).QA+Z7 S.M r) j ω w (by rw[<- o];exact Qs _) ω;omega
   obtain⟨x,x1,Z,U,x4⟩:∃x,k.1+dX (cv r)<=x/\x<=4611686018428436480/\x<(QK S.M r).dead/\S.Qd<=x+(K+1):=by
    by_cases a6:(QK S.M r).dead<=4611686018428436480
    .have:=pC ω;exact⟨(QK S.M r).dead - 1,ω,ω,ω,ω⟩
    .exact⟨4611686018428436480,ω,Qs _,ω,ω⟩
   obtain⟨p,u,w2,w3⟩:=QbC (i r c) (V:=(QK S.M r).QA+Z7 S.M r) j m x1 Z (by rw[<- o];exact U);have Ya:=m p u;have hs:=h.ge.sn r c p (by rw[f];exact u);have JT:=Cn p.1;have g:=QqA (cv r) (K:=K) (t:=S.Qd - p.1) (x:=x - p.1) ω;refine⟨p,by rw[f];exact u,ω,?_⟩;generalize Jk (cv r).a (cv r).d (cv r).b (x - p.1)=Y at w3 g;omega
end
def xA(l:List Nc)(x:Nat):Nat:=(l.map λc=>Jk c.a c.d c.b x).sum
def QDv{c:Nc}(C:X5 c){k p q}(h:qb c=true->c.d<=k\/k+p+q<=c.d):∃m,Jk c.a c.d c.b (k+p)=Jk c.a c.d c.b k+m*p/\Jk c.a c.d c.b (k+p+q)=Jk c.a c.d c.b k+m*(p+q)/\(c.d<=k->m=c.b):=by
 have b:=C.k;have a:c.d<=k->∃m,Jk c.a c.d c.b (k+p)=Jk c.a c.d c.b k+m*p/\Jk c.a c.d c.b (k+p+q)=Jk c.a c.d c.b k+m*(p+q)/\(c.d<=k->m=c.b):=λhd=>by
  refine⟨c.b,?_,?_,λ_=>rfl⟩
  .rw[AJ C,AJ C,AS hd,AS ω,show k+p - c.d=k - c.d+p by omega,xI];omega
  .rw[AJ C,AJ C,AS hd,AS ω,show k+p+q - c.d=k - c.d+(p+q) by omega,xI];omega
 by_cases d:c.of=2
 .exact a (by rw[C.two d];exact Z9 _)
 .rcases h (by unfold qb;rcases b with h|h|h<;>simp[h]<;>omega) with hd|hd
  .exact a hd
  .by_cases hz:c.d<=k
   .exact a hz
   .refine⟨c.a,?_,?_,λh=>absurd h hz⟩
    .rw[AJ C,AJ C,yK ω,yK ω,YJ,YJ,xI];omega
    .rw[AJ C,AJ C,yK ω,yK ω,YJ,YJ,show k+p+q=k+(p+q) by omega,xI];omega
def QbN{k p q}:∀(l:List Nc),(∀c∈l,X5 c)->(∀c∈l,qb c=true->c.d<=k\/k+p+q<=c.d)->∃M,xA l (k+p)=xA l k+M*p/\xA l (k+p+q)=xA l k+M*(p+q)/\((∀c∈l,c.d<=k)->M=(l.map λc=>c.b).sum)
 | [],_,_=>⟨0,by simp[xA],by simp[xA],λ_=>rfl⟩
 | c::l,d,h=>by
  obtain⟨m,i,g,f⟩:=QDv (d c Z3) (h c Z3);obtain⟨M,o,n,j⟩:=QbN l (λc a=>d c (Jw _ a)) λc a=>h c (Jw _ a);have e:∀x,xA (c::l) x=Jk c.a c.d c.b x+xA l x:=λx=>by unfold xA;rw[Jo,vj]
  refine⟨m+M,?_,?_,λb=>?_⟩
  .rw[e,e,i,o,Kh];omega
  .rw[e,e,g,n,Kh];omega
  .rw[Jo,vj,f (b c Z3),j λc a=>b c (Jw _ a)]
def Ql3(x):∀l:List Nc,∃k,k<=x/\(k=0\/∃c∈l,qb c=true/\c.d=k)/\∀c∈l,qb c=true->c.d<=x->c.d<=k
 | []=>⟨0,Z9 _,.inl rfl,λc m=>by cases m⟩
 | c::l=>by
  obtain⟨k,j,f,i⟩:=Ql3 x l;by_cases h:qb c=true/\c.d<=x/\k<c.d
  .refine⟨c.d,h.2.1,.inr ⟨c,Z3,h.1,rfl⟩,λg d e hx=>?_⟩;rcases QG.1 d with rfl|d
   .exact Qs _
   .have:=i g d e hx;omega
  .refine⟨k,j,?_,λg d e hx=>?_⟩
   .rcases f with f|⟨c2,a,b⟩
    .exact .inl f
    .exact .inr ⟨c2,Jw _ a,b⟩
   .rcases QG.1 d with rfl|d
    .exact GS λn=>h ⟨e,hx,n⟩
    .exact i g d e hx
def QbO(x):∀l:List Nc,(∀c∈l,qb c=true->c.d<=x)\/∃e∈l,qb e=true/\x<e.d/\∀c∈l,qb c=true->x<c.d->e.d<=c.d
 | []=>.inl λc n=>by cases n
 | c::l=>by
  by_cases h:qb c=true/\x<c.d
  .rcases QbO x l with g|⟨e,k,j,i,f⟩
   .refine .inr ⟨c,Z3,h.1,h.2,λd a b hx=>?_⟩;rcases QG.1 a with rfl|a
    .exact Qs _
    .have:=g d a b;omega
   .by_cases m:e.d<=c.d
    .refine .inr ⟨e,Jw _ k,j,i,λd a b hx=>?_⟩;rcases QG.1 a with rfl|a
     .exact m
     .exact f d a b hx
    .refine .inr ⟨c,Z3,h.1,h.2,λd a b hx=>?_⟩;rcases QG.1 a with rfl|a
     .exact Qs _
     .have:=f d a b hx;omega
  .rcases QbO x l with g|⟨e,k,j,i,f⟩
   .refine .inl λd a b=>?_;rcases QG.1 a with rfl|a
    .exact GS λo=>h ⟨b,o⟩
    .exact g d a b
   .refine .inr ⟨e,Jw _ k,j,i,λd a b hx=>?_⟩;rcases QG.1 a with rfl|a
    .exact absurd ⟨b,hx⟩ h
    .exact f d a b hx
def QDw{t F M k p q}(g:F*t<=65536*k)(c:(F+M*(p+q))*t<=65536*(k+p+q)):(F+M*p)*t<=65536*(k+p):=by
 refine GS λh=>?_;have e:(F+M*p)*t=F*t+M*t*p:=by rw[Kh,bZ]
 have d:(F+M*(p+q))*t=F*t+(M*t*p+M*t*q):=by rw[Kh,bZ,xI]
 rw[e]at h;rw[d]at c;have b:65536*p<M*t*p:=ω;have a:65536<M*t:=Nat.lt_of_mul_lt_mul_right b;have f:65536*q<=M*t*q:=Vm q (Nat.le_of_lt a);omega
def carried{l:List Nc}{t}(b:∀c∈l,X5 c)(n:∀c∈l,qb c=true->xA l c.d*t<=65536*c.d)(u:(l.map λc=>c.b).sum*t<=65536)(x):xA l x*t<=65536*x:=by
 obtain⟨k,J,f,j⟩:=Ql3 x l;have v:xA l k*t<=65536*k:=by
  rcases f with f|⟨c,B,c2,z⟩
  .have y:xA l 0=0:=by
    unfold xA;have:∀l:List Nc,(∀c∈l,X5 c)->(l.map λc=>Jk c.a c.d c.b 0).sum=0:=λl=>by
     induction l with
     | nil=>intro _;rfl
     | cons c l r=>
      intro b;rw[Jo,vj,r λc a=>b c (Jw _ a),AJ (b c Z3),Nat.zero_min,GU,YJ,GU]
    exact this l b
   rw[f,y,E9];exact Z9 _
  .rw[<- z];exact n c B c2
 obtain⟨p,m⟩:∃p,x=k+p:=⟨x - k,ω⟩;rcases QbO x l with w|⟨g,F,E,K,C⟩
 .have o:∀c∈l,c.d<=k:=λc a=>by
   by_cases e:c.of=2
   .rw[(b c a).two e];exact Z9 _
   .have d:qb c=true:=by unfold qb;rcases (b c a).k with h|h|h<;>simp[h]<;>omega
    exact j c a d (w c a d)
  obtain⟨M,i,_,H⟩:=QbN (k:=k) (p:=p) (q:=0) l b λc a _=>.inl (o c a);rw[m,i,H o,Kh,xI,bZ];have:=Vm p u;omega
 .obtain⟨q,s⟩:∃q,g.d=k+p+q:=⟨g.d - x,ω⟩;obtain⟨M,i,I,_⟩:=QbN (k:=k) (p:=p) (q:=q) l b λc a d=>by
   by_cases h:c.d<=x
   .exact .inl (j c a d h)
   .have:=C c a d ω;exact .inr ω
  have e:=n g F E;rw[s,I]at e;rw[m,i];exact QDw v e
def Ql4(g:Nc->Nat):∀(l:List Nc) (s:Nat),(∀c∈l,c.of≠0)->l.foldl (xh g) s=s+(l.map g).sum
 | [],s,_=>rfl
 | c::l,s,h=>by
  rw[xE,Ql4 g l _ λc a=>h c (Jw _ a),Jo,vj];unfold xh;rw[Qe (h c Z3)];omega
def QDx{t:Int}{l}(i:∀c∈l,X5 c)(h:yq t l=0)(x):xA l x*t.toNat<=65536*x:=by
 have n:∀c∈l,c.of≠0:=λc d=>by have:=(i c d).k;omega
 have f:∀g:Nc->Nat,BA g l=(l.map g).sum:=λg=>by unfold BA;rw[Ql4 g l 0 n];omega
 have b:PU t.toNat l=false:=by
  unfold yq at h;split at h
  .rename_i m;exact absurd h m
  .cases j:PU t.toNat l with
   | false=>rfl
   | true=>rw[j]at h;cases h
 unfold PU at b;rw[Ds]at b;refine carried i (λc d k=>?_) ?_ x
 .have a:=bD.1 b.1 (c.d:Int) ((QiA l _).2 ⟨c,d,k,rfl⟩);unfold BF PT at a;rw[f]at a;simp only[Xd,Int.toNat_natCast]at a;show (l.map λe=>Jk e.a e.d e.b c.d).sum*t.toNat<=_;omega
 .have a:=b.2;unfold iV at a;rw[f,Fb]at a;omega
end Go.Fg.X
namespace Go.Fg.X
open Go.Proofs Go.Fg Go.Fg.X.SP
open Go.Proofs.Tryz
def QqB{b}{l:List Ev}(E:EvL b l):∀k,k<=l.length->∀x∈(EO b l k).g,∃s∈WD b l k,0<=s.Ju/\s.Ju.toNat=x.1
 | 0,_,x,hx=>by cases hx
 | k+1,h,x,hx=>by
  have m:k<l.length:=ω;have f:=QqB E k ω;have q:=E.at0 _ (QLb m);have p:=QlB b l k ω;have a:∀y:Nat,(∃s∈WD b l k,0<=s.Ju/\s.Ju.toNat=y)->∃s∈WD b l (k+1),0<=s.Ju/\s.Ju.toNat=y:=λy ⟨s,g,d,c⟩=>by
   unfold WD Nw;split
   .exact⟨s,bL _ g,d,c⟩
   .split
    .obtain⟨i,j,rfl⟩:=NQ.1 g;by_cases e:i=(WD b l k).length - 1
     .refine⟨_,NQ.2 ⟨i,by rw[XG];exact j,rfl⟩,?_⟩;rw[List.getElem_set,Qf e.symm];have r:(WD b l k).getD ((WD b l k).length - 1) default=(WD b l k)[i]:=by
       rw[<- e,Q7,QT j];rfl
      dsimp only;rw[r];exact⟨d,c⟩
     .refine⟨_,NQ.2 ⟨i,by rw[XG];exact j,rfl⟩,?_⟩;rw[List.getElem_set,Qe λh=>e h.symm];exact⟨d,c⟩
    .exact⟨s,g,d,c⟩
  rw[QlA b l m]at hx;unfold Gh.next at hx;split at hx
  .rename_i t;split at hx
   .rename_i c2;dsimp only at hx;split at hx
    .rename_i n;rcases QG.1 hx with rfl|hx
     .rw[p]at n;unfold WD Nw;rw[Qf ⟨n,by unfold Dl;rw[Qf t,Qf c2];omega⟩];exact⟨_,NP _ (Sk _),q,rfl⟩
     .exact a _ (f x hx)
    .exact a _ (f x hx)
   .obtain⟨y,o,rfl⟩:=JA.1 hx;exact a _ (f y o)
  .exact a _ (f x hx)
def Ql5{c:Qq}(a:Vr c=0)(d:1<QS c.rt):c.leaf=true:=by
 cases b:c.leaf with
 | true=>rfl
 | false=>
  unfold Vr at a;split at a
  .cases a
  .split at a
   .cases a
   .split at a
    .cases a
    .rename_i h;rw[b]at h;simp[CI,d]at h
def EP(T:List Qq):List Int:=(T.filter UL).map (·.iD)
def yF(T:List Qq)(r:Int):Nc:=Zq ((QC T r).getD default).rt
def gut{T}(I:KU T)(m:vV T):xz T (EP T) (yF T):=by
 have f:∀r,r∈EP T↔∃k,QC T r=some k/\1<QS k.rt:=λr=>by
  unfold EP;constructor
  .intro h;obtain⟨k,c,rfl⟩:=JA.1 h;obtain⟨d,i⟩:=JI.1 c;exact⟨k,(VL I.rising).2 ⟨d,rfl⟩,X9 i⟩
  .rintro⟨k,c,d⟩;obtain⟨i,l⟩:=(VL I.rising).1 c;exact JA.2 ⟨k,JI.2 ⟨i,Q1 d⟩,l⟩
 refine⟨?_,λr=>?_,λr j k g=>?_⟩
 .have h:T.Pairwise (λa b=>a.iD<b.iD):=I.rising;unfold EP;rw[nU,Qa9];exact(h.filter _).imp λo=>ω
 .rw[f];constructor
  .rintro⟨k,c,d⟩;exact⟨k,c,Ql5 (I.right k ((VL I.rising).1 c).1) d,d⟩
  .rintro⟨k,c,_,d⟩;exact⟨k,c,d⟩
 .obtain⟨n,c,d⟩:=(f r).1 j;rw[g]at c;cases c;have e:yF T r=Zq k.rt:=by unfold yF;rw[g];rfl
  exact⟨e,by rw[e];exact m6 (m k ((VL I.rising).1 g).1).nn.1 d⟩
def QDz{T:List Qq}(I:KU T)(i:vV T){t:Int}(h:yq t (XA T)=0)(x:Nat):((EP T).map λr=>Jk (yF T r).a (yF T r).d (yF T r).b x).sum*t.toNat<=65536*x:=by
 have e:((EP T).map λr=>Jk (yF T r).a (yF T r).d (yF T r).b x)=(XA T).map λc=>Jk c.a c.d c.b x:=by
  unfold EP XA;rw[Dw,Dw];refine EX λk b=>?_;have j:=(VL I.rising).2 ⟨(JI.1 b).1,rfl⟩;have:yF T k.iD=Zq k.rt:=by unfold yF;rw[j];rfl
  simp only[Function.comp_apply,this]
 rw[e];refine QDx (λc a=>?_) h x;unfold XA at a;obtain⟨k,g,rfl⟩:=JA.1 a;obtain⟨f,d⟩:=JI.1 g;exact m6 (i k f).nn.1 (X9 d)
def QLm{c}(K:Xp c)(f:List Je)(Y:f.length<=1000)(y:∀o∈f,Je.Ok o)(C:∀o∈f.tail,o.kind≠1){r}{k}
  (i:QC (Zz (S0 c) f).1.M.T r=some k) (h1:1<QS k.rt) (U:QW (Zz (S0 c) f).1.M r≠[]) :
  ∃s∈WD [r] (Zz (S0 c) f).2.2 (Zz (S0 c) f).2.2.length,0<=s.Ju/\s.Ju.toNat<=(Zz (S0 c) f).1.Qd /\
   QI4 (Zq k.rt) (c.ZJ.toNat*c.t.toNat) ((Zz (S0 c) f).1.Qd - s.Ju.toNat)<(jS r s.Ju.toNat (Zz (S0 c) f).1.Qd (Zz (S0 c) f).2.2+c.ZJ.toNat)*65536:=by
 have E:=QC6 K f Y y [r];cases f with
 | nil=>cases i
 | cons o l=>
  have C:∀b∈l,b.kind≠1:=C;have hT:(Zz (S0 c) (o::l)).1.M.T=(Kb (S0 c) o).S.M.T:=QlD l _ C;rw[hT]at i;have m:=Qlj (x:=⟨c,o::l⟩) K Y (Qs _) y;have m:((Kb (S0 c) o).l++(Zz (Kb (S0 c) o).S l).2.2).length<100000000:=m;rw[ZT]at m;by_cases V:o.kind=1
  .have e:Kb (S0 c) o=⟨{ S0 c with ops:=1,M:=KO (M0 c) (decide ((S0 c).ZR<=(S0 c).Qd)) o.changes },⟨jM (M0 c) (decide ((S0 c).ZR<=(S0 c).Qd)) o.changes,Aw (M0 c) o.changes,0⟩,[]⟩:=by
    unfold Kb Wa;rw[Qf V];rfl
   have Vg:=(y o Z3).2.1.2;have I:=(ZC.Nx K).do (o:=o) Vg;obtain⟨g,t⟩:∃g,g=(Kb (S0 c) o).S:=⟨_,rfl⟩;have F:g.M=KO (M0 c) (decide ((S0 c).ZR<=(S0 c).Qd)) o.changes:=by rw[t,e]
   have ay:g.Qd=0:=by rw[t,e];rfl
   have nh:g.ZR=0:=by rw[t,e];rfl
   have A:=QkF (S:=S0 c) (ZC.Nx K) (by show 0<min (max (max 0 0) (min never never)) 9223372036854775808;decide) (o:=o) Vg;have hA:=A.1;rw[<- t]at i I hA;have G7:yq c.t (XA g.M.T)=0:=by
    rw[F]at i ⊢;unfold KO at i ⊢;split at i
    .rename_i v;rw[Qf v];unfold jM at v;split at v
     .rename_i q;exact absurd v q
     .rename_i q;have q:yr (M0 c).T (M0 c).lk.t o.changes=0:=jX q;unfold yr at q;split at q
      .cases q
      .split at q
       .rename_i h3;exact absurd q h3
       .rw[show (xr (M0 c) (Jy (M0 c).T o.changes)).T=Jy (M0 c).T o.changes from (Gt _ _).1];exact q
    .cases i
   have B:(Zz (S0 c) (o::l)).1.M.lk=c:=(bc (x:=c) (o::l) (ZC.Nx K) (W:=λ_=>[]) (a:=IX) (d:=0) ⟨λj=>rfl,rfl,qR _,qR _,rfl⟩ y).st.lk;have G:=gut I.I.tree I.I.vW;have Wd:=QDz I.I.tree I.I.vW G7;have Em:∀j,QW g.M j=[]:=λj=>by rw[F];exact QBg _ _ j
   have z:∀j,Z7 g.M j=0:=λj=>by unfold Z7;rw[Em];rfl
   have N:∀j,QK g.M j=default:=λj=>by
    unfold QK Qv;cases Z:Qj g.M.N j with
    | none=>rfl
    | some n=>
     rw[F]at Z;exact(QC5 _ _ _ _ Z).2.2
   have O:g.M.lk=c:=by rw[F,Rw];rfl
   have g0:GK g.M.T (EP g.M.T) (yF g.M.T) (c.ZJ.toNat*c.t.toNat) c.t.toNat (λ_=>[]) [] g:=by
    refine⟨⟨rfl,by rw[O],by rw[O],λr i=>?_,λr i=>?_,λr i _=>?_,λr i lw P L h=>(by cases h),λd hd=>?_⟩,⟨λe he=>(by cases he),λr i=>⟨0,by rw[O];have:=K.l1;omega,λJu=>Qs _,.inl rfl⟩,λr i p w=>(by cases w)⟩,⟨λr i=>?_,λr i p w=>(by cases w)⟩⟩
    .rw[N,z];exact⟨⟨λh=>(by cases h),λh=>absurd rfl h⟩,λ_=>rfl,λlw P L h=>(by cases h),λp w=>(by cases w),λh=>absurd h (B6 0)⟩
    .rw[N];exact Z9 _
    .rw[N];rfl
    .rw[ay,nh];exact⟨0,_,Qs _,QD.reset (Z9 _) λr i=>.inl (z r)⟩
    .rw[Em];rfl
   have R:(Zz (S0 c) (o::l)).2.2=(Zz g l).2.2:=by
    show (Kb (S0 c) o).l++(Zz (Kb (S0 c) o).S l).2.2=_;rw[<- t,show (Kb (S0 c) o).l=[] by rw[e],Yr]
   have JB:(Zz (S0 c) (o::l)).1=(Zz g l).1:=by
    show (Zz (Kb (S0 c) o).S l).1=_;rw[<- t]
   rw[<- t]at m;obtain⟨W,Q,R2,R3⟩:=Qqz G Wd l I hA g0 (λb hb=>⟨C b hb,y b (Jw _ hb)⟩) (by rw[Qar];omega);rw[Yr]at Q;rw[JB]at U B;rw[R]at E;rw[R,JB];have u:r∈EP g.M.T:=(G.mem r).2 ⟨k,i,Ql5 (I.I.tree.right k ((VL I.I.tree.rising).1 i).1) h1,h1⟩;have TG:yF g.M.T r=Zq k.rt:=(G.cv r u k i).1;have v:0<Z7 (Zz g l).1.M r:=(QbG (R2.len r)).2 U;obtain⟨p,w1,T,J⟩:=served G Wd R2 R3 Q u v;obtain⟨x,H,x2⟩:=Q.sp.g r u p w1;have H:x∈(EO [r] (Zz g l).2.2 (Zz g l).2.2.length).g:=by
    unfold EO;rw[YH];exact H
   obtain⟨s,s1,s2,s3⟩:=QqB E _ (Qs _) x H;rw[TG,B]at J;rw[<- x2,<- s3]at T J;exact⟨s,s1,s2,T,J⟩
  .rw[QlC V]at i;cases i
def Qhb{r}{f t}:∀(l:List Ev) (s:Nat),(∀e∈l,e.Zy=false->0<=e.len/\e.len<=16384)->s+l.length*16384<18446744073709551616->l.foldl (qd [r] (Y7 f t)) s=s+jS r f t l
 | [],s,_,_=>rfl
 | e::l,s,h,k=>by
  have a:=h e Z3;rw[VQ,Kh,Ll]at k;have j:(Y7 f t e&&[r].contains e.cls)=true↔e.Zy=false/\e.cls=r/\(f:Int)<e.done/\e.done<=(t:Int):=by
   unfold Y7;simp only[ZX,List.contains_cons,List.contains_nil,Bool.or_false,jr,jl,Xd];constructor
   .rintro⟨⟨i,g,d⟩,c⟩;exact⟨i,c,g,d⟩
   .rintro⟨i,c,g,d⟩;exact⟨⟨i,g,d⟩,c⟩
  rw[xE];have m:jS r f t (e::l)=(if e.Zy=false/\e.cls=r/\(f:Int)<e.done/\e.done<=(t:Int) then e.len.toNat else 0)+jS r f t l:=by
   unfold jS;rw[Jo,vj]
  rw[m];unfold qd;by_cases b:e.Zy=false/\e.cls=r/\(f:Int)<e.done/\e.done<=(t:Int)
  .rw[Qf (j.2 b),Qf b];have n:=a b.1;have:=Qhb (r:=r) (f:=f) (t:=t) l ((s+e.len.toNat) % 18446744073709551616) (λe a=>h e (Jw _ a)) ω;unfold qd at this;rw[this];omega
  .rw[Qe λh=>b (j.1 h),Qe b];have:=Qhb (r:=r) (f:=f) (t:=t) l s (λe a=>h e (Jw _ a)) ω;unfold qd at this;rw[this];omega
def QLn{c}(K:Xp c)(a:List Je)(h:a.length<=1000)(g:∀o∈a,Je.Ok o)(l:∀o∈a.tail,o.kind≠1){r}{k}
  (m:QC (Zz (S0 c) a).1.M.T r=some k) (n:1<QS k.rt) (d:0<((Zz (S0 c) a).2.2.foldl (Sl [r]) 0)) :
  (WD [r] (Zz (S0 c) a).2.2 (Zz (S0 c) a).2.2.length).any (λs=>F0 (Zq k.rt) (c.ZJ.toNat*c.t.toNat) c.ZJ.toNat (Zz (S0 c) a).2.2 r (Zz (S0 c) a).1.Qd s.Ju.toNat)=true:=by
 have b:=QLa K a g (lv:=[r]) σ;rw[b]at d;have d:QW (Zz (S0 c) a).1.M r≠[]:=λe=>by
  simp[e]at d
 obtain⟨s,j,u,q,i⟩:=QLm K a h g l m n d;have E:=QC6 K a h g [r];have p:=E.Dm;have e:=Qhb (r:=r) (f:=s.Ju.toNat) (t:=(Zz (S0 c) a).1.Qd) (Zz (S0 c) a).2.2 0 E.len ω;rw[JM]at e;refine Dv.2 ⟨s,j,?_⟩;unfold F0 q5 eE;rw[e,QU ω,Q1 i];rfl
end Go.Fg.X
namespace Go.Fg.X
open Go.Proofs Go.Fg
open Go.Proofs.Tryz
def NH(o:Je):Bool:=decide (o.changes.length<=40)&&decide (o.rules.length<=40)
def Dm(x:YU)(m:Nat):Bool:=decide (x.ops.length<=m)&&x.ops.all NH
def Qmv{b:Type}(l:List b)(d:b)(f):l.all f=true↔∀j,j<l.length->f (l.getD j d)=true:=by
 rw[jo];constructor
 .intro h j e;exact h _ (zR l d j e)
 .intro h a g;obtain⟨i,c,rfl⟩:=AQ g;have:=h i c;simpa[Q7,c] using this
def QEl(x:YU)(m:Nat)(t:m<1000000):Q9 prog 6 [.agg x.cells,Qb m] (Zp (QZ (Dm x m))):=by
 refine ZH 0 func6 ntmps6 results6 λp w l=>?_;simp only[go_sem];by_cases q:m<x.ops.length
 .simp only[go_sem,q,decide_true];have:Dm x m=false:=by simp[Dm];omega
  rw[this]
 .have s:decide (m<x.ops.length)=false:=ξ;simp only[go_sem,s];refine fm (G:=Nat) [13,14] (λk=>∀j,j<k->NH (x.ops.getD j default)=true) (λk e=>[(15,Qb k)]) (λk e=>[]) (x.ops.length) (0) rfl (QH.to 0 (by (simp only[go_sem])<;>simp)) ?_ ?_
  .intro j g;omega
  intro k e f o;apply Za l;have r:=Vl (show k<4611686018427387904 from ω);first|refine yX f (λc=>?_) (λc=>?_)|refine yY f (λc=>?_) (λc=>?_)
  .simp only[go_sem,c];have n:¬ (∀j,j<x.ops.length->NH (x.ops.getD j default)=true)->Dm x m=false:=λd=>by
    rw[jW];intro i;simp only[Dm,ZX]at i;exact d ((Qmv _ default _).1 i.2)
   first|refine FF (λb=>?_) (λb=>?_)|refine FG (λb=>?_) (λb=>?_)|refine FH (λb=>?_) (λb=>?_)|refine q7 (λb=>?_) (λb=>?_)|refine FI (λb=>?_) (λb=>?_)|refine FJ (λb=>?_) (λb=>?_)|refine FK (λb=>?_) (λb=>?_)|refine FC (λb=>?_) (λb=>?_)
   .simp only[go_sem];rw[n (λd=>by have:=d k c;simp only[NH,ZX,Xd]at this;omega)]
   .simp only[go_sem];first|refine FF (λa=>?_) (λa=>?_)|refine FG (λa=>?_) (λa=>?_)|refine FH (λa=>?_) (λa=>?_)|refine q7 (λa=>?_) (λa=>?_)|refine FI (λa=>?_) (λa=>?_)|refine FJ (λa=>?_) (λa=>?_)|refine FK (λa=>?_) (λa=>?_)|refine FC (λa=>?_) (λa=>?_)
    .simp only[go_sem];rw[n (λd=>by have:=d k c;simp only[NH,ZX,Xd]at this;omega)]
    .simp only[go_sem];repeat (refine And.intro η ?_)
     refine⟨_,QH.to 0 (by (simp only[go_sem,r])<;>simp),yW.mk (0) (?_)⟩;intro j g;rcases AR.1 g with h|rfl
     .exact o j h
     .simp only[NH,ZX,Xd];omega
  .simp only[go_sem];apply Za l;subst c;have:Dm x m=true:=by
    simp only[Dm,ZX];exact⟨ξ,(Qmv _ default _).2 o⟩
   rw[this]
def Qmw{b}{e}{h}{p}{S:Zj}(T:Wt b e h p S):Zf prog 17 h [.ptr p 0 0 0] (λd=>d=u64 S.Qd):=by
 obtain⟨k,f,l,j,T⟩:=T;have a:=Jc T.o;refine ZD func17 ntmps17 results17 λc w f F g n m=>?_;rw[<- g]at a;have i:=Qc a;simp only[go_sem,Qa,a,i];exact⟨[],(Jv _).symm⟩
def jk(n:Nd)(a:Bool)(f:Nat):List D:=n.c.cells++(QZ a::u64 n.Zw::(n.du.cells++(n.sh.cells++(n.cp.cells++(u64 f::n.q.Uu)))))
theorem QEm(M)(a)(n):QjN M a n=jk n (JP M a) (Xo M a n):=rfl
section
variable (n:Nd)(a:Bool)(f:Nat)
@[go_sem] theorem QJx:(jk n a f).length=67:=rfl
@[go_sem] theorem QJy:(jk n a f).all D.VI=true:=rfl
@[go_sem] theorem QJz:(List.drop 15 (jk n a f)).getD 0 D.undef=u64 n.Zw:=rfl
@[go_sem] theorem QJA:(List.drop 2 (jk n a f)).getD 0 D.undef=QZ n.c.leaf:=rfl
@[go_sem] theorem QJB:(List.drop 63 (jk n a f)).getD 0 D.undef=u64 n.q.cd:=rfl
@[go_sem] theorem QJC:(List.drop 65 (jk n a f)).getD 0 D.undef=u64 n.q.bo:=rfl
@[go_sem] theorem QJD:(List.drop 66 (jk n a f)).getD 0 D.undef=u64 n.q.bd:=rfl
@[go_sem] theorem QJE(v):List.take 63 (jk n a f)++(.raw (.int .u64 ((v:Nat):Int))::List.drop 64 (jk n a f))=jk { n with q:={ n.q with cd:=v } } a f:=rfl
@[go_sem] theorem QJF(v):List.take 66 (jk n a f)++[.raw (.int .u64 ((v:Nat):Int))]=jk { n with q:={ n.q with bd:=v } } a f:=rfl
end
@[go_sem] def QEn(n:Nd)(a:Bool)(f:Nat):Ob:=⟨.one,0,67,1,λ_=>jk n a f⟩
def QEo{e}{l}{h}{p}{S:Zj}(T:Wt e l h p S){a}{n}(f:Qj S.M.N a=some n):Zf prog 13 h [.ptr p 0 0 0,Qb a] (λd=>d=.tup [.agg (jk n (JP S.M a) (Xo S.M a n)),Qb 0]):=by
 obtain⟨r,m,s,q,T⟩:=T;have c:=Jc T.o;obtain⟨L,C⟩:=T.co.ex;have j:=λ(F:List Ob) (b:F=h.map Ob.ro) (G:List Ob)=>QAu ((C.ro.more (KV b)).more (Ee (g:=G))) T.co.I f (T.co.V.BS a n f);clear C T;rw[QEm]at j;refine ZD func13 ntmps13 results13 λk w m F b t i=>?_;rw[<- b]at c;have o:=Qc c;simp only[go_sem,Qa,c,o];apply JD i Qsp (j F b _);apply QM i;exact⟨_,rfl,rfl,rfl⟩
def QEp{b}{f}{h}{p}{S:Zj}(T:Wt b f h p S):QI prog 12 h [.ptr p 0 0 0] (λd m=>d=ints (S.M.T.map (·.iD))/\∃g,m=h++g):=by
 obtain⟨q,i,r,o,T⟩:=T;have c:=T.o;obtain⟨L,C⟩:=T.co.ex;have j:=QAr C;have s:=T.co.I.tree.len;refine Q3 func12 ntmps12 results12 λe w i a=>?_;have n:=Qc c;simp only[go_sem,Qa,c,n];refine DX a Qso j λd u l=>?_;obtain⟨rfl,k,g,rfl,t⟩:=l;apply QM a;apply JD a fM (gU k.toR ω);apply QM a;exact⟨_,rfl⟩
end Go.Fg.X
namespace Go.Fg.X
open Go.Proofs Go.Fg
open Go.Proofs.Tryz
def QCB(l:List Je){k}(a:k<l.length):l.take (k+1)=l.take k++[l.getD k default]:=by
 rw[GR,QT a,Q7,QT a];rfl
def QCC(S:Zj)(l:List Je){k}(a:k<l.length):(Zz S (l.take (k+1))).1=(Kb (Zz S (l.take k)).1 (l.getD k default)).S/\(Zz S (l.take (k+1))).2.2=(Zz S (l.take k)).2.2++(Kb (Zz S (l.take k)).1 (l.getD k default)).l:=by
 rw[QCB l a,Qkw];exact⟨rfl,by simp only[Zz,Jv]⟩
structure Dq (c:Cf) (ops:List Je) (p k lo g:Nat) (h0:List Ob) (Kp:Nat->Prop) (own:Nat->Tag) (tw:Nat->TT) (H:List Ob) (S:Zj) (E:List Ev) (row:Nat->List D):Prop where
 T:Wt own tw H p S
 V:ZC S
 C:Nu S
 mQ:S.ops=k
 kp:∀l,l<h0.length->Kp l->H[l]? = h0[l]?/\own l=.no/\tw l=.my
 ZM:H[lo]? = some ⟨.arr,g,12,E.length,row⟩
 rw_:∀i,i<E.length->row i=Ev.cells (E.getD i default)
 my:own lo=.no/\tw lo=.my
 nk:lo<h0.length->¬Kp lo
 S_:S=(Zz (S0 c) (ops.take k)).1
 E_:E=(Zz (S0 c) (ops.take k)).2.2
 lE:E.length<=5000*k
section
variable {c:Cf}{ops:List Je}{p k lo g:Nat}{h0:List Ob}{Kp:Nat->Prop}{own:Nat->Tag}{tw:Nat->TT}{H:List Ob}{S:Zj}{E:List Ev}{row:Nat->List D}
def Dq.start{m}{j}{f:List Ob}(T:Wt m j f p (S0 c))(o:∀l,l<h0.length->Kp l->l<f.length/\f[l]? = h0[l]?/\m l=.no/\j l=.my)(n:h0.length<=f.length):
  Dq c ops p 0 f.length 0 h0 Kp (QY m f .no) (Jn j f .my) (f++[(⟨.arr,0,12,0,λ_=>[]⟩:Ob)]) (S0 c) [] (λ_=>[]):=by
 have t:=T;obtain⟨_,_,_,_,s⟩:=t;refine⟨⟨_,_,_,_,s.EM _⟩,ZC.start T,⟨λk=>Z9 _⟩,rfl,λl n q=>?_,Vq rfl,λi r=>absurd r (Xc i),⟨wj (Qs _),IM (Qs _)⟩,λh=>absurd h ω,rfl,rfl,Z9 _⟩;obtain⟨a,b,d,e⟩:=o l n q;exact⟨(QJ a).trans b,(Kz a).trans d,(VA a).trans e⟩
def Dq.app(I:Dq c ops p k lo g h0 Kp own tw H S E row)(G):Dq c ops p k lo g h0 Kp (QY own H .no) (Jn tw H .my) (H++G) S E row:=by
 obtain⟨_,_,_,_,j⟩:=I.T;have e:=Qc I.ZM;refine⟨⟨_,_,_,_,j.EM G⟩,I.V,I.C,I.mQ,λl e i=>?_,(QJ e).trans I.ZM,I.rw_,⟨(Kz e).trans I.my.1,(VA e).trans I.my.2⟩,I.nk,I.S_,I.E_,I.lE⟩;obtain⟨a,b,d⟩:=I.kp l e i;have f:l<H.length:=by
  have:(H[l]?).isSome=true:=by rw[a,QT e];rfl
  exact NZ λh=>by rw[B4 h]at this;cases this
 exact⟨(QJ f).trans a,(Kz f).trans b,(VA f).trans d⟩
def Dq.step(I:Dq c ops p k lo g h0 Kp own tw H S E row)(hk:k<ops.length)(ho:∀q∈(ops.getD k default).changes,JV.Ok q){G}{v}{s}{m}{O}(T2:Wt v s m p (Kb S (ops.getD k default)).S)
  (s2:jQ (λl=>(H++G).length<=l/\v l=.no/\s l=.no) m 12 Ev.cells O (Kb S (ops.getD k default)).l) (L:JK (H++G).length (QY own H .no) (Jn tw H .my) (H++G) v s m) (r:List Ob) {w0:Start} (hF:w0.F=[]) (hp:w0.pl=[]) {fr:List (Nat × D)} (t:Nat) (ht:get fr t=O) :
  ∃u o y x,QH w0 ⟨fr,m++r⟩ ⟨put fr t (.imm 12 (Kb S (ops.getD k default)).l.length u),o⟩/\(∀i,i<(Kb S (ops.getD k default)).l.length->u i=Ev.cells ((Kb S (ops.getD k default)).l.getD i default))/\o[lo]? = some ⟨.arr,g,12,E.length,row⟩ /\
   Dq c ops p (k+1) lo (g+1) h0 Kp y x (o.set lo ⟨.arr,g+1,12,E.length+(Kb S (ops.getD k default)).l.length,KB E.length 0 row u⟩) (Kb S (ops.getD k default)).S (E++(Kb S (ops.getD k default)).l) (KB E.length 0 row u):=by
 have hV:=I.V.do ho;have hC:=I.C.do (ops.getD k default);have hO:=Qkz S (ops.getD k default);obtain⟨nS,N⟩:=QCC (S0 c) ops hk;rw[<- I.S_]at nS N;rw[<- I.E_]at N;obtain⟨_,_,_,_,Tc⟩:=I.T;have a4:=QCz S (ops.getD k default) Tc.co.mO;generalize Kb S (ops.getD k default)=Y at *;obtain⟨_,_,_,_,a3⟩:=T2;have T3:=a3.EM r;have Hc:H.length<=m.length:=by have:=L.len;rw[ZT]at this;omega
 have s3:jQ (λl=>l<m.length/\v l=.no/\s l=.no) (m++r) 12 Ev.cells O Y.l:=s2.step λj hj w=>⟨⟨hj,w.2⟩,QJ hj⟩;have W:∀l,l<H.length->own l=.no->tw l=.my->v l=.no/\s l=.my/\m[l]? = H[l]? := λl n w m=>by
  have R:l<(H++G).length:=by rw[ZT];omega
  have a1:QY own H .no l=.no:=(Kz n).trans w;have a2:Jn tw H .my l=.my:=(VA n).trans m;exact⟨(L.s1 l R).trans a1,(L.s2 l R).trans a2,(L.my l R a2).trans (QJ n)⟩
 obtain⟨u,o,W4,ZN,gX,k4⟩:=QCv hF hp (λa=>rfl) (h:=m++r) t ht s3;have M:(m++r).length<=o.length:=gX;obtain⟨y,F⟩:∃f,f=QY (QY v m .no) (m++r) .no:=⟨_,rfl⟩;obtain⟨x,B⟩:∃f,f=Jn (Jn s m .my) (m++r) .no:=⟨_,rfl⟩;have T4:Wt y x o p Y.S:=by
  rw[F,B];refine Wt.far ⟨_,_,_,_,T3⟩ gX λl n hn=>k4 l n λJ=>hn ?_;exact⟨(Kz J.1).trans J.2.1,(VA J.1).trans J.2.2⟩
 have z:∀l,l<H.length->own l=.no->tw l=.my->y l=.no/\x l=.my/\o[l]? = H[l]? := λl n w qm=>by
  obtain⟨Q,K,P⟩:=W l n w qm;have U:l<m.length:=ω;have M:l<(m++r).length:=by rw[ZT];omega
  refine⟨by rw[F,Kz M,Kz U];exact Q,by rw[B,VA M,VA U];exact K,?_⟩;rw[k4 l M λh=>(by rw[K]at h;cases h.2.2),QJ U];exact P
 have ZM:=Qc I.ZM;obtain⟨m1,m2,m3⟩:=z lo ZM I.my.1 I.my.2;have bu:o[lo]? = some ⟨.arr,g,12,E.length,row⟩:=m3.trans I.ZM;refine⟨u,o,y,x,W4,ZN,bu,?_⟩;obtain⟨_,_,_,_,a0⟩:=T4;refine⟨⟨_,_,_,_,a0.loc m1 (.inr m2) _⟩,hV,hC,by rw[hO,I.mQ],λl n qu=>?_,?_,QCA I.rw_ ZN,⟨m1,m2⟩,I.nk,nS.symm,N.symm,?_⟩
 .obtain⟨a,b,d⟩:=I.kp l n qu;have nB:l<H.length:=by
   have:(H[l]?).isSome=true:=by rw[a,QT n];rfl
   exact NZ λZ=>by rw[B4 Z]at this;cases this
  obtain⟨Q,K,P⟩:=z l nB b d;exact⟨by rw[Qm (λe=>I.nk (by rw[e];exact n) (by rw[e];exact qu)),P,a],Q,K⟩
 .rw[Qy (Qc bu),ZT]
 .have:=I.lE;rw[ZT];omega
end
def QDQ(d:D)(a:List Ob):D->List Ob->Prop:=λb h=>b=d/\h=a
attribute [go_sem] QDQ
structure Kn where
 RY:Int
 since:Int
 work:Nat
@[go_sem] def Kn.cells(k:Kn):List D:=[.raw (.int .u64 k.RY),.raw (.int .u64 k.since),.raw (.int .i64 k.work)]
def Kn.next(k:Kn)(e:Ev):Kn:=
 if e.Zy=true then ⟨k.RY,if k.work=0 then e.at_ else k.since,k.work+1⟩ else ⟨max k.RY e.done,k.since,k.work - 1⟩
def Kn.late(k:Kn)(e:Ev):Bool:=!e.Zy&&(decide (0<k.work)&&decide (max k.RY k.since<e.at_))
@[go_sem] def QJj(k:Kn):Ob:=⟨.one,0,3,1,λ_=>k.cells⟩
def Qmj(l:List Ev):Nat->Kn
 | 0=>⟨0,0,0⟩
 | k+1=>(Qmj l k).next (l.getD k default)
def WK(l:List Ev)(k:Nat):Bool:=(Qmj l k).late (l.getD k default)
structure Qmk (T:List Qq):Prop where
 ul:∀c∈T,¬1<QS c.ul
 ls:∀c∈T,c.leaf=true->1<QS c.ls
section
variable {M:Ql}(I:Qz M)(V:Inv M)(F:mY M)(P:Qmk M.T)
include I V F P
end
structure QDR (k:Kn) (S:Zj):Prop where
 w:k.work=Vy S.M
 u:k.RY=S.ZR
 s:k.since<=S.Qd
 F:mY S.M
 P:Qmk S.M.T
structure QJk (k:Kn) (S:Zj):Prop extends QDR k S where
 b:0<Vy S.M->S.Qd<S.ZR
structure Dp where
 Ju:Int
 to:Int
instance:Inhabited Dp:=⟨⟨0,0⟩⟩
@[go_sem] def Dp.cells(s:Dp):List D:=[.raw (.int .u64 s.Ju),.raw (.int .u64 s.to)]
def Dp.rows(l:List Dp):Nat->List D:=λi=>(l.getD i default).cells
@[go_sem] theorem Dp.xY(l:List Dp)(i):Dp.rows l i=(l.getD i default).cells:=rfl
@[go_sem] def strs(l:List Dp):D:=.imm 2 l.length (Dp.rows l)
structure StS where
 l:List Dp
 RY:Int
def rw_(l:List Ev):Nat->Nat
 | 0=>0
 | k+1=>if (l.getD k default).Zy=true then rw_ l k+1 else rw_ l k - 1
@[simp] theorem QJm(l:List Ev):rw_ l 0=0:=rfl
end Go.Fg.X
namespace Go.Fg.X
open Go.Proofs Go.Fg
open Go.Proofs.Tryz
def Lb(l:List Je):Bool:=(l.drop 1).all λo=>o.kind != 1
def still_at{l:List Je}(h:Lb l=true){k}(a:k<l.length)(c:0<k):(l.getD k default).kind≠1:=by
 have b:=jo.1 h (l.getD k default) (by
  rw[Q7,QT a];obtain⟨j,rfl⟩:∃j,k=j+1:=⟨k - 1,ω⟩;refine NR (i:=j) ?_;rw[GO,Sn,QT a];rfl)
 simpa using b
def QmB{l:List Je}:Lb l=true↔∀k,k<l.length->0<k->(l.getD k default).kind≠1:=by
 refine⟨λh k b d=>still_at h b d,λh=>?_⟩;unfold Lb;rw[jo];intro o a;obtain⟨i,c,rfl⟩:=AQ a;rw[bJ]at c;have:=h (i+1) ω ω;rw[List.getElem_drop];rw[Q7,QT ω]at this;have e:1+i=i+1:=Sn 1 i;simp only[e];simpa using this
section
variable (n:Nd)(a:Bool)(f:Nat)
@[go_sem] theorem QJH:List.take 14 (jk n a f)=n.c.cells:=rfl
end
def QEt{x:YU}{m}(h:Dm x m=true)(d:∀a∈x.ops,Je.Ok a):x.ops.length<=m/\∀o∈x.ops,Je.Ok o/\Je.Small o:=by
 simp only[Dm,ZX,Xd]at h;obtain⟨b,e⟩:=h;refine⟨b,λo c=>?_⟩;have:=jo.1 e o c;simp only[NH,ZX,Xd]at this;exact⟨d o c,ω,ω⟩
def QDS{l:List Je}(h:Lb l=true):∀o∈l.tail,o.kind≠1:=λo a=>by
 unfold Lb at h;rw[List.drop_one]at h;simpa using jo.1 h o a
def QDT{p:Pk}{c:Cf}(K:Xp c)(o:1<=p.len)(k:p.len<=c.ZJ):xw p c.t<=((c.ZJ.toNat*c.t.toNat:Nat):Int)/\0<=xw p c.t:=by
 have i:=K.l2;have h:=K.t2;have g:=K.t1;obtain⟨n,e⟩:∃n:Nat,p.len=n:=⟨p.len.toNat,ω⟩;obtain⟨T,f⟩:∃n:Nat,c.t=n:=⟨c.t.toNat,ω⟩;obtain⟨L,d⟩:∃n:Nat,c.ZJ=n:=⟨c.ZJ.toNat,ω⟩;rw[e,d]at k;rw[d]at i;rw[f]at h g;have m:n*T<=L*T:=Vm T ω;have l:L*T<=16384*65536:=X8 ω ω;have j:(n:Int)*(T:Int)=((n*T:Nat):Int):=rfl;unfold xw;rw[Qf ⟨ω,ω⟩,e,f,d,j,IntKind.wrap_u64];show _<=((L*T:Nat):Int)/\_;generalize n*T=a at *;generalize L*T=b at *;omega
def QbV{c}(K:Xp c)(b:List Je)(y:∀o∈b,Je.Ok o):∀i,i<(Zz (S0 c) b).2.2.length ->
  0<=((Zz (S0 c) b).2.2.getD i default).at_/\((Zz (S0 c) b).2.2.getD i default).at_<=4611686018427387904/\1<=((Zz (S0 c) b).2.2.getD i default).len/\((Zz (S0 c) b).2.2.getD i default).len<=c.ZJ /\
  (((Zz (S0 c) b).2.2.getD i default).Zy=false->((Zz (S0 c) b).2.2.getD i default).done<=((Zz (S0 c) b).2.2.getD i default).at_+((c.ZJ.toNat*c.t.toNat:Nat):Int)):=by
 have A:=bc (x:=c) b (ZC.Nx K) (W:=λ_=>[]) (a:=IX) (d:=0) ⟨λj=>rfl,rfl,qR _,qR _,rfl⟩ y;have f:=λ{i:Nat} (e:i<(Zz (S0 c) b).2.2.length) {k:Nat} (t:k<8)=>mX A.ok e t;obtain⟨l,q⟩:∃l,l=(Zz (S0 c) b).2.2:=⟨_,rfl⟩;rw[<- q]at f ⊢;have m:∀i,i<l.length->(RO l i).at_<=(l.getD i default).at_/\(l.getD i default).at_<=4611686018427387904:=λi e=>by
  have h:decide ((l.getD i default).at_<(RO l i).at_\/4611686018427387904<(l.getD i default).at_)=false:=f e (k:=1) π;rw[Fb]at h;omega
 have r:∀i,i<l.length->0<=(l.getD i default).at_:=λi=>by
  induction i with
  | zero=>intro e;exact(m 0 e).1
  | succ i s=>
   intro e;have v:=s ω;have u:(l.getD i default).at_<=(l.getD (i+1) default).at_:=(m (i+1) e).1;omega
 intro i e;have g:1<=(l.getD i default).len/\(l.getD i default).len<=c.ZJ:=by
  have h:(wm (l.getD i default).pk c.ZJ != 0)=false:=f e (k:=2) π;unfold wm at h;split at h
  .cases h
  .split at h
   .cases h
   .rename_i n;have n:¬¬(1<=(l.getD i default).len/\(l.getD i default).len<=c.ZJ):=n;omega
 refine⟨r i e,(m i e).2,g.1,g.2,λw=>?_⟩;have h:(!(l.getD i default).Zy&&(l.getD i default).done != IntKind.u64.wrap ((l.getD i default).at_+xw (l.getD i default).pk c.t))=false:=f e (k:=7) π;rw[w]at h;have h:(l.getD i default).done=IntKind.u64.wrap ((l.getD i default).at_+xw (l.getD i default).pk c.t):=by simpa using h
 have z:=QDT (p:=(l.getD i default).pk) K g.1 g.2;have v:=K.l2;have u:=K.t2;have C:c.ZJ.toNat*c.t.toNat<=16384*65536:=X8 ω ω;have B:=r i e;have n:=(m i e).2;rw[h,IntKind.wrap_u64];omega
def QDU{e:Ev}(h:0<=e.at_/\e.at_<=18446744073709551615)(a:-9223372036854775808<=e.len/\e.len<=9223372036854775807):e.yE:=by
 refine⟨?_,?_⟩
 .simp only[Lit.wf,ZX,Xd];exact h
 .simp only[Lit.wf,ZX,Xd];exact a
def QDV{c}(K:Xp c)(a:List Je)(l:∀o∈a,Je.Ok o):∀e∈(Zz (S0 c) a).2.2,e.yE:=λe k=>by
 obtain⟨i,b,rfl⟩:=NQ.1 k;have h:=QbV K a l i b;rw[Q7,QT b]at h;obtain⟨j,g,f,d,_⟩:=h;have j:0<=((Zz (S0 c) a).2.2[i]).at_:=j;have g:((Zz (S0 c) a).2.2[i]).at_<=4611686018427387904:=g;have f:1<=((Zz (S0 c) a).2.2[i]).len:=f;have d:((Zz (S0 c) a).2.2[i]).len<=c.ZJ:=d;have:=K.l2;exact QDU ω ω
end Go.Fg.X
namespace Go.Fg
open Go.RowKit (Below)
inductive TL (h:List Ob):D->D->Prop
 | cl (d:D) (hc:d.ko=true):TL h d d
 | agg (cs:List D) (hc:cs.all D.ko=true):TL h (.agg cs) (.agg cs)
 | ref (lo off n:Nat) (o:Ob) (row:Nat->List D) (ho:h[lo]? = some o) (hk:o.kd.ty=0) (hn:off+n<=o.n) (hc:∀i,i<o.n->(o.row i).all D.ko=true) (hr:∀i,i<n->row i=o.row (off+i)):TL h (.ref lo o.gen off n) (.imm o.sz n row)
def D.plain:D->Bool
 | .raw _=>true
 | .tup a=>a.all λc=>match c with | .raw _=>true|_=>false
 | .agg a=>a.all λc=>match c with | .raw _=>true|_=>false
 | _=>false
section
variable {Z:Nat->Prop}
def QqF{h}{k}{w}{a:List D}(m:(a.all λc=>match c with | .raw _=>true|_=>false)=true){f}(l:∀i,i<a.length->QF Z h k w (nth a i) (Q5 f i)){N}{j}:∀i,i<a.length->Cl N j (nth a i) (Q5 f i):=λi b=>by
 have g:=jo.1 m a[i] (zF b);have d:=l i b;have e:nth a i=a[i]:=by simp[nth,Q7,b]
 rw[e]at d ⊢;generalize a[i]=c at g d;cases c with
 | raw v=>rw[JJ d];exact .raw v
 | _=>cases g
def QLr{h}{i}{w}{d:D}{v}(e:d.plain=true)(r:QF Z h i w d v){N}{g}:Cl N g d v:=by
 cases d with
 | raw u=>rw[JJ r];exact .raw u
 | tup f=>
  obtain⟨a,rfl,c,b⟩:=Qna r;exact .tup f a c (QqF e b)
 | agg f=>
  obtain⟨a,rfl,c,b⟩:=Lq r;exact .agg f a c (QqF e b)
 | _=>cases e
def TL.ok{h}{E}{w}{t}(R:Zo Z t h E w){M d}{v}(L:TL h M d)(r:QF Z h E w M v):Cl (free (λ_=>True) []) w d v:=by
 have K:∀b,free (λ_=>True) [] b:=λb=>⟨trivial,λl q e=>by simp at e⟩;have up:∀{N:Nat->Prop} {d:D} {v:Value},Cl N w d v->Cl (free (λ_=>True) []) w d v:=λc=>c.mono λb _ _=>⟨K b,rfl⟩;cases L with
 | cl _ m=>exact up (LK r m)
 | agg y m=>
  obtain⟨P,rfl,W,x⟩:=Lq r;refine .agg y P W λi g=>up (LK (x i g) ?_);have e:nth y i=y[i]:=by simp[nth,Q7,g]
  rw[e];exact jo.1 m y[i] (zF g)
 | ref Q f n o B I Y hn m x=>
  obtain⟨o',p,a,a0,rfl,O,V,_,_,U⟩:=Fh r;rw[I]at O;cases O;rcases U rfl with ⟨h1,h2⟩|⟨b,q,c,el,rfl,ha,Hs,J2,DC⟩
  .subst h1;subst h2;exact .imm _ _ _ _ _ 0 0 (λ_ _=>Go.undef) (λh=>ω) ω (λi g=>ω) (λi j g=>ω) (λi j g=>ω)
  .obtain⟨z,cT,T,_,F,S⟩:=(R.at_ Q o b q I V).2.cells Y;have s:∀i j,i<n->j<o.sz->w.cell? ⟨b,q+f*o.sz+(i*o.sz+j),none⟩=some ((z[q+((f+i)*o.sz+j)]?).getD Go.undef)/\Cl (free (λ_=>True) []) w (nth (B i) j) ((z[q+((f+i)*o.sz+j)]?).getD Go.undef):=λi j g k=>by
    obtain⟨u,H,C⟩:=S (f+i) j ω k;have ea:q+f*o.sz+(i*o.sz+j)=q+((f+i)*o.sz+j):=by rw[Kh];omega
    refine⟨by rw[ea,cell_of_row w b _ z cT (0,0) T,H];simp,?_⟩;simp only[H,Vn];rw[x i g];have J:j<(o.row (f+i)).length:=by rw[F _ ω];exact k
    have h7:(nth (o.row (f+i)) j).ko=true:=jo.1 (m (f+i) ω) _ (by simp only[nth,Q7,QT J,Vn];exact zF J);exact up (LK C h7)
   exact .imm _ _ _ _ _ b (q+f*o.sz) (λi j=>(z[q+((f+i)*o.sz+j)]?).getD Go.undef) (λ_=>ha) DC (λi g=>by rw[x i g];exact F _ ω) (λi j g k=>⟨K b,(s i j g k).1⟩) (λi j g k=>(s i j g k).2)
def Q9.QLt{P}{f}{a args':List D}{R}(J:Q9 P f a R){h:List Ob}{g:D}(E:g.plain=true)(B:g.upto h.length=true)(H:∀d j,R d j->d=g)(r:args'.length=a.length)(I:∀i,i<a.length->TL (h.map Ob.ro) (nth args' i) (nth a i)):
  Zf P f h args' (λd=>d=g):=by
 intro Z s w x u M S k Q z;have n:=J (λ_=>True) w.heap.size w [] u (Qs _) (λ_ _=>trivial) ⟨rfl,λl O b q N e=>by simp at e,λl o e=>by simp at e,λl o b q e=>by simp at e⟩ ω (λi C=>.cl _ _ ((I i C).ok k (z i ω)));refine n.mono λe t j=>?_;obtain⟨v,d,L,T,rfl,m,_,y,_,p⟩:=j;have K:=H d L m;subst K;have c:∀b,b<w.heap.size->t.heap[b]? = w.heap[b]? := λb F=>p.block b F;exact⟨v,d,h.map Ob.ro,x,rfl,⟨[],(Jv _).symm,B,rfl⟩,k.ext c,.cl _ _ (QLr E y),Tr.ext k c,p.mono M⟩
end
end Go.Fg
