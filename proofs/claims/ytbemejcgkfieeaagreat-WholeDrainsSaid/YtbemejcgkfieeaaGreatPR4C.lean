/- Contracts and laws on the way to the statement. No conditions. -/
import Derived.Test.YtbemejcgkfieeaaGreatNA3C
import Derived.Shelf.SlMaps.Clone
import Derived.Test.YtbemejcgkfieeaaGreatCA2C
import Derived.Sort.AssemblyPlain
import Derived.Sort.LotD5
import Derived.Sort.Walk13a
set_option maxRecDepth 100000
set_option maxHeartbeats 16000000
set_option linter.unusedVariables false
set_option linter.unusedSimpArgs false
set_option linter.unusedSectionVars false
set_option linter.defProp false
namespace Go.Fg.X
open Go.Proofs Go.Fg
open Go.Proofs.Tryz
structure Qu where
 l:List Pk
 ci:Nat
 co:Nat
 cd:Nat
 bi:Nat
 bo:Nat
 bd:Nat
instance:Inhabited Qu:=⟨⟨[],0,0,0,0,0,0⟩⟩
def V8:List Pk->Nat
 | []=>0
 | p::l=>p.len.toNat+V8 l
def Qhx(l m):V8 (l++m)=V8 l+V8 m:=by
 induction l with
 | nil=>simp[V8]
 | cons p l a=>simp only[qc,V8,a];omega
def Pn(p:Pk):Prop:=1<=p.len/\p.len<=16384
def Qhy{l:List Pk}(h:∀p∈l,Pn p):V8 l<=16384*l.length:=by
 induction l with
 | nil=>simp[V8]
 | cons p l a=>
  have c:=h p σ;have d:=a λq b=>h q (by simp[b]);unfold Pn at c;simp only[V8,Vo];omega
@[go_sem] def Qu.cts(q:Qu):List D:=[u64 q.ci,u64 q.co,u64 q.cd,u64 q.bi,u64 q.bo,u64 q.bd]
def vI(b a:Int)(q:Qu)(p:Pk):Bool:=decide (a<V8 q.l+p.len) || decide ((q.l.length:Int)=b)
def Yh(b a:Int)(q:Qu)(p:Pk):Qu:=
 if vI b a q p then { q with cd:=Xt (q.cd+1),bd:=Xt (q.bd+p.len.toNat) }
 else { q with l:=q.l++[p],ci:=Xt (q.ci+1),bi:=Xt (q.bi+p.len.toNat) }
def Xu(q:Qu):Qu:={ q with l:=q.l.tail,co:=Xt (q.co+1),bo:=Xt (q.bo+(q.l.headD default).len.toNat) }
def Bi(q:Qu):Int:=match q.l with|[]=>0|p::_=>p.len
@[go_sem] def Po(r:Nat)(a:Int)(q:Qu):Ob:=⟨.one,0,9,1,λ_=>[.ptr r 0 0 0,Qb a,Qb (V8 q.l:Nat),u64 q.ci,u64 q.co,u64 q.cd,u64 q.bi,u64 q.bo,u64 q.bd]⟩
structure su (S:Nat->Prop) (h:List Ob) (p r ZR:Nat) (room:Int) (q:Qu):Prop where
 o:h[p]? = some (Po r room q)
 ring:vF (λl=>S l/\l≠p) h r ZR q.l
 rp:r≠p
 sp:S p
 lens:∀x∈q.l,Pn x
 r0:0<=room
 r1:room<=1048576
def wL(S:Nat->Prop)(h:List Ob)(p b:Nat)(a:Int)(q:Qu):Prop:=∃r,su S h p r b a q
def vF.step{S S'}{h h':List Ob}{r b}{L}(e:∀l,l<h.length->S l->S' l/\h'[l]? = h[l]?):vF S h r b L->vF S' h' r b L:=λ⟨a,f,c,T⟩=>
 ⟨a,f,c,((e _ (Qc T.o) T.sr).2).trans T.o,((e _ (Qc T.ao) T.sa).2).trans T.ao,T.ra,T.fl,T.len,T.yO,T.rows,T.lens,(e _ (Qc T.o) T.sr).1,(e _ (Qc T.ao) T.sa).1⟩
def vF.sv{S}{h}{r b}{L:List Pk}:vF S h r b L->L.length<=b/\b<=64:=λ⟨a,f,c,T⟩=>⟨T.len,T.yO⟩
def wL.step{S S'}{h h':List Ob}{p d}{a}{q}(e:∀l,l<h.length->S l->S' l/\h'[l]? = h[l]?):wL S h p d a q->wL S' h' p d a q:=λ⟨r,Q⟩=>
 ⟨r,((e _ (Qc Q.o) Q.sp).2).trans Q.o,Q.ring.step λl b ⟨c,f⟩=>⟨⟨(e l b c).1,f⟩,(e l b c).2⟩,Q.rp,(e _ (Qc Q.o) Q.sp).1,Q.lens,Q.r0,Q.r1⟩
structure Qwl (h:List Ob) (p r ZR:Nat) (room:Int) (q:Qu):Prop where
 o:(h.map Ob.ro)[p]? = some (Po r room q).ro
 ring:TI h r ZR q.l
def Pp(h:List Ob)(p b:Nat)(a:Int)(q:Qu):Prop:=∃r,Qwl h p r b a q
def wL.toR{S}{h}{p b}{a}{q}:wL S h p b a q->Pp h p b a q:=λ⟨r,Q⟩=>⟨r,Z3 Q.o,Q.ring.toR⟩
def Pp.more{h h':List Ob}{p b}{a}{q}(e:∀(l:Nat) (o:Ob),(h.map Ob.ro)[l]? = some o->(h'.map Ob.ro)[l]? = some o):Pp h p b a q->Pp h' p b a q:=λ⟨r,Q⟩=>⟨r,e _ _ Q.o,Q.ring.more e⟩
section
variable {h:List Ob}{p ZR:Nat}{room:Int}{q:Qu}(Q:Pp h p ZR room q)
include Q
theorem Pq:Zi prog 111 h [.ptr p 0 0 0] (λd=>d=Qb q.l.length):=by
 obtain⟨r,b,j⟩:=Q;refine ZJ func111 ntmps111 results111 λi w l F e m c=>?_;rw[<- e]at b;have g:=Qc b;simp only[go_sem,Qa,b,g];obtain⟨a,f,k,T⟩:=j;apply Ju c QsH (QvB (T.more (VI e)));apply Qf c;simp only[go_sem,Qa,b,g];all_goals exact Xg
theorem Qhz:Zi prog 212 h [.ptr p 0 0 0] (λd=>d=Qb (Bi q)):=by
 have k:=Q;obtain⟨r,b,n⟩:=Q;obtain⟨a,f,s,T⟩:=n;unfold Bi;cases e:q.l with
 | nil=>
  refine ZJ func212 ntmps212 results212 λj w m F i o g=>?_;rw[<- i]at b;have c:=Qc b;simp only[go_sem,Qa,b,c];refine Xr g OF ?_ (Pq (k.more (VI i))) ?_
  .simp only[go_sem,Qa,b,c,e]
  apply Qf g;simp only[go_sem,Qa,b,c,e];all_goals exact Xg
 | cons x l=>
  have d0:(((l.length+1:Nat):Int)==0)=false:=ξ;refine ZJ func212 ntmps212 results212 λj w m F i o g=>?_;rw[<- i]at b;have c:=Qc b;simp only[go_sem,Qa,b,c];refine Xr g OF ?_ (Pq (k.more (VI i))) ?_
  .simp only[go_sem,Qa,b,c,e,d0]
  apply Qf g;simp only[go_sem,Qa,b,c,e,d0];refine Xr g Qfs ?_ (QgU (T.more (VI i)) 0 (by rw[e];simp)) ?_
  .simp only[go_sem,Qa,b,c,e]
  apply Qf g;simp only[go_sem,Qa,b,c,e];all_goals exact Xg
end
def Qwm(h:List Ob)(n:Nat)(a:Int)(k:1<=n)(j:n<=64)(s:1<=a)(r:a<=1048576):QM prog 112 h [Qb n,Qb a] (λd e=>d=.tup [.ptr (h.length+2) 0 0 0,Qb 0]/\wL (λl=>h.length<=l) e (h.length+2) n a ⟨[],0,0,0,0,0,0⟩/\∃g,e=h++g/\g.length=3):=by
 have d1:decide (a<1)=false:=QH ω;have d2:decide (1048576<a)=false:=QH ω;refine Q8 func112 ntmps112 results112 λf w p c=>?_;simp only[go_sem,Qa];refine V5 c QsI rfl ?_ (QvF h n k j) rfl λd h i=>?_
 .simp only[go_sem,Qa,d1,d2]
 obtain⟨rfl,R,g,rfl,b⟩:=i;apply Qf c;simp only[go_sem,Qa,d1,d2];have q:(h++g).length=h.length+2:=by rw[Zo,b]
 refine⟨by rw[b],⟨h.length+1,?_,?_,ω,by show h.length<=_;omega,σ,ω,ω⟩,g++[Po (h.length+1) a ⟨[],0,0,0,0,0,0⟩],by rfl,by simp[b]⟩
 .rw[show h.length+2=(h++g).length by omega];rw[<- W9,Kh (QB _),Df];rfl
 .rw[<- W9];refine R.step λl m o=>⟨⟨o,ω⟩,JO m⟩
def Mv(a b:Nat):IntKind.u64.wrap ((a:Int)+(b:Int))=((Xt (a+b):Nat):Int):=Ci a b
def Mw(a:Nat):IntKind.u64.wrap ((a:Int)+1)=((Xt (a+1):Nat):Int):=Ci a 1
def su.fin{S}{h H:List Ob}{p r f}{a}{q q':Qu}(Q:su S h p r f a q)(g:H[p]? = some (Po r a q'))(d:∀l,l<h.length->l≠p->H[l]? = h[l]?)(i:h.length<=H.length)(e:q'.l=q.l):wL S H p f a q'/\Step S h H:=
 ⟨⟨r,g,by rw[e];exact Q.ring.step λl c b=>⟨b,d l c b.2⟩,Q.rp,Q.sp,by rw[e];exact Q.lens,Q.r0,Q.r1⟩,⟨λl c b=>d l c λj=>b (j▸Q.sp),i⟩⟩
def Qwn{S}{h}{p i}{a}{q}(Q:wL S h p i a q)(x)(C:Pn x):
  QM prog 116 h [.ptr p 0 0 0,.agg x.cells] (λd J=>d=Qb (if vI i a q x then 30 else 0)/\wL S J p i a (Yh i a q x)/\Step S h J):=by
 obtain⟨r,Q⟩:=Q;have m:=Q.o;have I:=Q.ring;have U:=C.1;have W:=C.2;have R:=I.sv;have T:=Qhy Q.lens;have V:=Q.r0;have Y:=Q.r1;have d1:decide (x.len<1)=false:=QH ω;have d2:decide (16384<x.len)=false:=QH ω;have L:IntKind.i64.wrap (a - (V8 q.l:Nat))=a - (V8 q.l:Nat):=wrap64 ω ω;have z:IntKind.u64.wrap x.len=((x.len.toNat:Nat):Int):=Mu ω ω;by_cases M:a<V8 q.l+x.len
 .have d3:decide (a - (V8 q.l:Nat)<x.len)=true:=QT ω;have t:vI i a q x=true:=by unfold vI;rw[QT M];rfl
  unfold Yh;rw[t];refine Q8 func116 ntmps116 results116 λu w O k=>?_;have j:=Qc m;simp only[go_sem,Qa,m,j,d1,d2];apply Qx k [0,1,2,3,4,5,6,7,8,9,10,11,12,13,14,15,16,17,1018,19,20,21];simp only[go_sem,Qa,m,j,L,d3,Mw];apply Qx k i5;simp only[go_sem,Qa,m,j,z,Qt j,Mv];refine Q.fin (q':={ q with cd:=Xt (q.cd+1),bd:=Xt (q.bd+x.len.toNat) }) ?_ ?_ ?_ rfl
  .rw[QE (by simpa using j),Qt j];rfl
  .intro l f b;rw[QE (by simpa using f),Ql (Q9 b)]
  .simp
 .have d3:decide (a - (V8 q.l:Nat)<x.len)=false:=QH ω;refine Q8 func116 ntmps116 results116 λu w O k=>?_;have j:=Qc m;simp only[go_sem,Qa,m,j,d1,d2];apply VE [18] k [0,1,2,3,4,5,6,7,8,9,10,11,12,13,14,15,16,17,1018,19,20,21] [];simp only[go_sem,Qa,m,j,L,d3];have P:=I.step (S':=λl=>S l/\l≠p/\l<h.length) (h':=h++[⟨.one,0,6,1,λ_=>x.cells⟩]) λl f b=>⟨⟨b.1,b.2,f⟩,QE f⟩;refine xH1 k QsJ (QvC P x) λd E N=>?_;obtain⟨rfl,B,v⟩:=N;have H:h.length<E.length:=by have:=v.len;simp only[Zo,Kc]at this;omega
  have n:E[p]? = some (Po r a q):=(v.keep p ξ (λh=>h.2.1 rfl)).trans ((QE j).trans m);have g:=Qc n;have o:=(v.keep h.length σ (λh=>by have:=h.2.2;omega)).trans (Vj rfl);have keep:∀l,l<h.length->¬ S l->E[l]? = h[l]? := λl f b=>(v.keep l ξ (λh=>b h.1)).trans (QE f);have F:p≠h.length:=ω;apply Zk k;by_cases c:q.l.length=i
  .have t:vI i a q x=true:=by unfold vI;rw[QT (show (q.l.length:Int)=(i:Int) from ω)];simp
   rw[Qe c]at B;simp only[go_sem,Qa,Qe c,n,g,o,Mw];apply Qx k i5;simp only[go_sem,Qa,n,g,z,Qt g,Mv,o,H,Ql F];unfold Yh;rw[t];refine⟨by rfl,⟨r,?_,B.step λl f b=>⟨⟨b.1,b.2.1⟩,?_⟩,Q.rp,Q.sp,Q.lens,Q.r0,Q.r1⟩,⟨λl f b=>?_,?_⟩⟩
   .rw[Qt g];rfl
   .rw[Ql (Q9 b.2.1)]
   .rw[Ql (λ(e:p=l)=>b (e▸Q.sp))];exact keep l f b
   .simp;omega
  .have t:vI i a q x=false:=by unfold vI;rw[QH M,QH (show ¬ (q.l.length:Int)=(i:Int) from ω)];rfl
   have K:IntKind.i64.wrap (((V8 q.l:Nat):Int)+x.len)=((V8 (q.l++[x]):Nat):Int):=by
    rw[Qhx];simp only[V8];rw[wrap64 ω ω];omega
   rw[Qd c]at B;simp only[go_sem,Qa,Qd c,n,g,o,Mw];apply Qx k i4;simp only[go_sem,Qa,n,g,z,Qt g,Mv,Mw,o,H,Ql F,K];apply Qx k i5;simp only[go_sem,Qa,n,g,z,Qt g,Mv,Mw,o,H,Ql F,K];unfold Yh;rw[t];refine⟨by rfl,⟨r,?_,B.step λl f b=>⟨⟨b.1,b.2.1⟩,?_⟩,Q.rp,Q.sp,?_,Q.r0,Q.r1⟩,⟨λl f b=>?_,?_⟩⟩
   .rw[Qt g];rfl
   .rw[Ql (Q9 b.2.1)]
   .intro y s;rcases Q3.1 s with s|s
    .exact Q.lens y s
    .rw[X1.1 s];exact C
   .rw[Ql (λ(e:p=l)=>b (e▸Q.sp))];exact keep l f b
   .simp;omega
def Qwo{S}{h}{p J}{b}{q:Qu}{x}{L}(Q:wL S h p J b q)(g:q.l=x::L):
  QM prog 152 h [.ptr p 0 0 0] (λd z=>d=.tup [.agg x.cells,Qb 0]/\wL S z p J b (Xu q)/\Step S h z):=by
 obtain⟨r,Q⟩:=Q;have s:=Q.o;have v:=Q.ring;have hx:=Q.lens x (by rw[g];simp);have W:=hx.1;have Y:=hx.2;have R:=v.sv;have T:=Qhy Q.lens;have I:IntKind.u64.wrap x.len=((x.len.toNat:Nat):Int):=Mu ω ω;have H:IntKind.i64.wrap (((V8 q.l:Nat):Int) - x.len)=((V8 L:Nat):Int):=by
  have V:V8 q.l=x.len.toNat+V8 L:=by rw[g];rfl
  rw[wrap64 ω ω];omega
 refine Q8 func152 ntmps152 results152 λN w U n=>?_;have t:=Qc s;simp only[go_sem,Qa,s,t];have E:=v.step (S':=λl=>S l/\l≠p/\l<h.length) (h':=h++[⟨.one,0,6,1,λ_=>(default:Pk).cells⟩]) λl c a=>⟨⟨a.1,a.2,c⟩,QE c⟩;rw[g]at E;refine Fu n Qtd (QvD E) λd j O=>?_;obtain⟨rfl,P,m⟩:=O;have M:h.length<j.length:=by have:=m.len;simp only[Zo,Kc]at this;omega
 have k:j[p]? = some (Po r b q):=(m.keep p ξ (λh=>h.2.1 rfl)).trans ((QE t).trans s);have i:=Qc k;have o:=(m.keep h.length σ (λh=>by have:=h.2.2;omega)).trans (Vj rfl);have keep:∀l,l<h.length->¬ S l->j[l]? = h[l]? := λl c a=>(m.keep l ξ (λh=>a h.1)).trans (QE c);have K:p≠h.length:=ω;apply Qf n;simp only[go_sem,Qa,k,i,o];apply Qx n i4;simp only[go_sem,Qa,k,i,I,Qt i,Mv,Mw,o,M,Ql K,H];apply Qx n i5;simp only[go_sem,Qa,k,i,I,Qt,Mv,Mw,o,M,Ql K,H];have f:∀(A B C:Ob) (l:Nat),l<h.length->(((j.set p A).set h.length B)++[C])[l]? = (j.set p A)[l]? := λA B C l c=>by
  rw[QE ξ,Ql ω]
 have F:(Xu q).l=L:=by simp[Xu,g]
 refine⟨⟨r,?_,?_,Q.rp,Q.sp,?_,Q.r0,Q.r1⟩,⟨λl c a=>?_,?_⟩⟩
 .rw[f _ _ _ _ t,Qt i,Xu,g];rfl
 .rw[F];refine P.step λl c a=>⟨⟨a.1,a.2.1⟩,?_⟩;rw[f _ _ _ _ a.2.2,Ql (Q9 a.2.1)]
 .intro y u;rw[F]at u;exact Q.lens y (by rw[g];simp[u])
 .rw[f _ _ _ _ c,Ql (λ(e:p=l)=>a (e▸Q.sp))];exact keep l c a
 .simp;omega
def Bj(l:Du)(b a:Rn):Rn:=if l.has then zW b a else a
def gO{l}{b a:Rn}(d:b.Ok)(c:a.Ok):(Bj l b a).Ok:=by unfold Bj;split;exact si d c;exact c
def kh(l:Du)(c:Nc)(a:Nat)(b:Int):Du:=
 CC ⟨true,Bj l l.dl (Wx c a (l.JU*65536)),Bj l l.rd (xW c a (l.JU*65536)),l.JU,l.YC,l.dead⟩ b
section
variable {h:List Ob}{b1 b2 b3:Nat}(l:Du)(h3:l.JU<18446744073709551616)(c:Nc)(hc:c.Lt)(now:Nat)(hn:now<18446744073709551616)
 (o1:(h.map Ob.ro)[b1]? = some ⟨.Wh,0,3,1,λ_=>c.cells⟩) (o2:(h.map Ob.ro)[b2]? = some ⟨.Wh,0,1,1,λ_=>[u64 now]⟩) (o3:(h.map Ob.ro)[b3]? = some ⟨.Wh,0,22,1,λ_=>l.cells⟩)
include h3 hc hn o1 o2 o3
theorem Qwp(g:Rn)(k:g.Ok):Zi prog 194 h [.agg g.cells,.raw (.func (.func 197) #[] #[]),.ptr b1 0 0 0,.ptr b2 0 0 0,.ptr b3 0 0 0] (λd=>d=.agg (Bj l g (Wx c now (l.JU*65536))).cells):=by
 have m:=Ms hc hn (y:=l.JU*65536) ω;refine ZJ func194 ntmps194 results194 λj w o F n p f=>?_;rw[<- n]at o1 o2 o3;have e:=Qc o1;have b:=Qc o2;have a:=Qc o3;simp only[go_sem,Qa,o1,e,o2,b,o3,a];apply Qx f [0,1,2,3,4,1005,1006,1007,1008];simp only[go_sem,Qa,o1,e,o2,b,o3,a];refine Vb f fm ?_ (gL l.JU h3) ?_
 .simp only[go_sem,Qa,o1,e,o2,b,o3,a]
 apply Zk f;simp only[go_sem,Qa,o1,e,o2,b,o3,a];refine Vb f o6 ?_ (sg c hc now (l.JU*65536) hn ω) ?_
 .simp only[go_sem,Qa,o1,e,o2,b,o3,a]
 apply Zk f;simp only[go_sem,Qa,o1,e,o2,b,o3,a];unfold Bj;cases i:l.has with
 | true=>
  simp only[go_sem,Qa,i];refine ZO f fo ?_ (gJ g _ k m) ?_
  .simp only[go_sem,Qa,o1,e,o2,b,o3,a]
  apply Qf f;simp only[go_sem,Qa,o1,e,o2,b,o3,a];all_goals exact Xg
 | false=>
  simp only[go_sem,Qa,i];all_goals exact Xg
theorem Qwq(g:Rn)(k:g.Ok):Zi prog 194 h [.agg g.cells,.raw (.func (.func 198) #[] #[]),.ptr b1 0 0 0,.ptr b2 0 0 0,.ptr b3 0 0 0] (λd=>d=.agg (Bj l g (xW c now (l.JU*65536))).cells):=by
 have m:=gI hc hn (y:=l.JU*65536) ω;refine ZJ func194 ntmps194 results194 λj w o F n p f=>?_;rw[<- n]at o1 o2 o3;have e:=Qc o1;have b:=Qc o2;have a:=Qc o3;simp only[go_sem,Qa,o1,e,o2,b,o3,a];apply Qx f [0,1,2,3,4,1005,1006,1007,1008];simp only[go_sem,Qa,o1,e,o2,b,o3,a];refine Vb f fm ?_ (gL l.JU h3) ?_
 .simp only[go_sem,Qa,o1,e,o2,b,o3,a]
 apply Zk f;simp only[go_sem,Qa,o1,e,o2,b,o3,a];refine Vb f Qfe ?_ (Qhv c hc now (l.JU*65536) hn ω) ?_
 .simp only[go_sem,Qa,o1,e,o2,b,o3,a]
 apply Zk f;simp only[go_sem,Qa,o1,e,o2,b,o3,a];unfold Bj;cases i:l.has with
 | true=>
  simp only[go_sem,Qa,i];refine ZO f fo ?_ (gJ g _ k m) ?_
  .simp only[go_sem,Qa,o1,e,o2,b,o3,a]
  apply Qf f;simp only[go_sem,Qa,o1,e,o2,b,o3,a];all_goals exact Xg
 | false=>
  simp only[go_sem,Qa,i];all_goals exact Xg
end
def Qwr(l:Du)(e:l.Ok)(c:Nc)(g:c.Lt)(a)(f:a<18446744073709551616)(b:Int)(m:b<9223372036854775808):QI prog 145 [.agg l.cells,DS c,u64 a,Qb b] (QO (.agg (kh l c a b).cells)):=by
 have h:=e.JU;have j:=Ms g f (y:=l.JU*65536) ω;have k:=gI g f (y:=l.JU*65536) ω;refine QZ 0 func145 ntmps145 results145 λi w d=>?_;simp only[go_sem];apply Qx d [0,1,2,4,5,6,1003,8,1007,1009,10,1011];simp only[go_sem];apply XB d Qfd (Qwp (b1:=1) (b2:=2) (b3:=0) l h c g a f rfl rfl rfl l.dl e.dl);apply YQ d;apply XB d Qfd (Qwq (b1:=1) (b2:=2) (b3:=0) l h c g a f rfl rfl rfl l.rd e.rd);apply YQ d;apply Jp d o7 (ss ⟨true,Bj l l.dl (Wx c a (l.JU*65536)),Bj l l.rd (xW c a (l.JU*65536)),l.JU,l.YC,l.dead⟩ (gO e.dl j) (gO e.rd k) h b m);apply QV d;rfl
def sx{l:Du}(d:l.Ok){c:Nc}(f:c.Lt){a}(e:a<18446744073709551616)(b:Int):(kh l c a b).Ok:=by
 have g:=d.JU;exact sj (l:=⟨true,Bj l l.dl (Wx c a (l.JU*65536)),Bj l l.rd (xW c a (l.JU*65536)),l.JU,l.YC,l.dead⟩) (gO d.dl (Ms f e (y:=l.JU*65536) ω)) (gO d.rd (gI f e (y:=l.JU*65536) ω)) g b
structure Sh where
 has:Bool
 run:Rn
 time:Nat
deriving DecidableEq
instance:Inhabited Sh:=⟨⟨false,default,0⟩⟩
structure Sh.Ok (x:Sh):Prop where
 run:x.run.Ok
 time:x.time<18446744073709551616
@[go_sem] def Sh.cells(x:Sh):List D:=[QX x.has,u64 x.run.f.x,u64 (x.run.f.y / 18446744073709551616),u64 (x.run.f.y % 18446744073709551616),u64 x.run.f.m,u64 x.run.t.x,u64 (x.run.t.y / 18446744073709551616),u64 (x.run.t.y % 18446744073709551616),u64 x.run.t.m,QX x.run.b,u64 x.time]
def FO(r:Rn)(a:Nat):Nat:=if r.b then max (max (zX r (a*65536)) r.t.x) r.f.x else max (zX r (a*65536)) r.t.x
def QhA{r:Rn}(h:r.Ok)(a):FO r a<18446744073709551616:=by
 have b:=TS r (a*65536);have d:=h.t.x;have c:=h.f.x;unfold never at b;unfold FO;split<;>omega
def Ps(a b:Nat):max (a:Int) (b:Int)=((max a b:Nat):Int):=ω
def TU(a:Nat):max (0:Int) (a:Int)=(a:Int):=ω
def Qws{h:List Ob}{b g}{a}(o:(h.map Ob.ro)[b]? = some ⟨.As,g,1,2,a⟩)(x y)(i:a 0=[u64 x])(f:a 1=[u64 y]):Zi prog 248 h [.ref b g 0 2] (λd=>d=u64 (max x y)):=by
 refine ZJ func248 ntmps248 results248 λj w l F k m c=>?_;rw[<- k]at o;have e:=Qc o;simp only[go_sem,Qa,o,e];refine xJ 2 ?_;apply Qf c;simp only[go_sem,Qa,o,e,i,f];apply Qf c;simp only[go_sem,Qa,o,e,i,f,TU,Ps];apply Qf c;simp only[go_sem,Qa,o,e,i,f,TU,Ps];apply QP c;all_goals exact Xg
def Qwt{h:List Ob}{b g}{a}(o:(h.map Ob.ro)[b]? = some ⟨.As,g,1,3,a⟩)(x y z)(j:a 0=[u64 x])(i:a 1=[u64 y])(f:a 2=[u64 z]):Zi prog 248 h [.ref b g 0 3] (λd=>d=u64 (max (max x y) z)):=by
 refine ZJ func248 ntmps248 results248 λk w m F l n c=>?_;rw[<- l]at o;have e:=Qc o;simp only[go_sem,Qa,o,e];refine xJ 3 ?_;apply Qf c;simp only[go_sem,Qa,o,e,j,i,f];apply Qf c;simp only[go_sem,Qa,o,e,j,i,f,TU,Ps];apply Qf c;simp only[go_sem,Qa,o,e,j,i,f,TU,Ps];apply Qf c;simp only[go_sem,Qa,o,e,j,i,f,TU,Ps];apply QP c;all_goals exact Xg
def sy(r:Rn)(f:r.Ok)(a)(e:a<18446744073709551616):QI prog 204 [.agg r.cells,u64 a] (QO (u64 (FO r a))):=by
 unfold FO;refine QZ 0 func204 ntmps204 results204 λd w c=>?_;simp only[go_sem];apply Qx c [0,1,1002,1003,4];simp only[go_sem];apply Kw c Cb (Ct a 65536 e π);apply VD c;apply Kw c fp (gK r f (a*65536) ω);apply VD c;cases h:r.b with
 | true=>
  simp only[go_sem,h];apply Ju c Qfr (Qwt (b:=1) (g:=0) (by exact rfl) (zX r (a*65536)) r.t.x r.f.x (by exact rfl) (by exact rfl) (by exact rfl));exact Hm c
 | false=>
  simp only[go_sem,h];apply Ju c Qfr (Qws (b:=1) (g:=0) (by exact rfl) (zX r (a*65536)) r.t.x (by exact rfl) (by exact rfl));exact Hm c
def Mx(x:Sh)(c:Nc)(b a:Nat):Sh:=
 ⟨true,if x.has then zW x.run (Wx c b (a*65536)) else Wx c b (a*65536),FO (if x.has then zW x.run (Wx c b (a*65536)) else Wx c b (a*65536)) a⟩
def HJ(x:Sh)(a:Nat):Sh:=if x.has then ⟨true,x.run,FO x.run a⟩ else x
def sA{x:Sh}(e:x.Ok){c:Nc}(g:c.Lt){b a}(f:b<18446744073709551616)(h:a<18446744073709551616):(if x.has then zW x.run (Wx c b (a*65536)) else Wx c b (a*65536)).Ok:=by
 have d:=Ms g f (y:=a*65536) ω;split
 .exact si e.run d
 .exact d
def Qwu{x:Sh}(d:x.Ok){c:Nc}(g:c.Lt){b a:Nat}(f:b<18446744073709551616)(e:a<18446744073709551616):(Mx x c b a).Ok:=
 ⟨sA d g f e,QhA (sA d g f e) _⟩
def Qwv{x:Sh}(b:x.Ok)(a:Nat):(HJ x a).Ok:=by
 unfold HJ;split
 .exact⟨b.run,QhA b.run _⟩
 .exact b
def Qww(x:Sh)(i:x.Ok)(c:Nc)(g:c.Lt)(b a:Nat)(f:b<18446744073709551616)(e:a<18446744073709551616):QI prog 148 [.agg x.cells,DS c,u64 b,u64 a] (QO (.agg (Mx x c b a).cells)):=by
 have k:=Ms g f (y:=a*65536) ω;have j:=sA i g f e;refine QZ 0 func148 ntmps148 results148 λl w d=>?_;simp only[go_sem];apply Qx d [0,1,2,1003,1004,1005,1006];simp only[go_sem];apply Kw d Cb (Ct a 65536 e π);apply VD d;apply Kw d o6 (sg c g b (a*65536) f ω);apply VD d;cases h:x.has with
 | true=>
  rw[h,Qe rfl]at j;rw[show Mx x c b a=⟨true,zW x.run (Wx c b (a*65536)),FO (zW x.run (Wx c b (a*65536))) a⟩ from by unfold Mx;rw[h];rfl];simp only[go_sem,h];apply Jp d fo (gJ x.run _ i.run k);apply QV d;apply Qx d [0,1,2,1003,4,1005];simp only[go_sem];apply Kw d o9 (sy (zW x.run (Wx c b (a*65536))) j a e);exact Hn d
 | false=>
  rw[show Mx x c b a=⟨true,Wx c b (a*65536),FO (Wx c b (a*65536)) a⟩ from by unfold Mx;rw[h];rfl];simp only[go_sem,h];apply Qx d [0,1,2,1003,4,1005];simp only[go_sem];apply Kw d o9 (sy (Wx c b (a*65536)) k a e);exact Hn d
def Qwx(x:Sh)(d:x.Ok)(a:Nat)(e:a<18446744073709551616):QI prog 153 [.agg x.cells,u64 a] (QO (.agg (HJ x a).cells)):=by
 cases h:x.has with
 | true=>
  rw[show HJ x a=⟨true,x.run,FO x.run a⟩ from by unfold HJ;rw[h];rfl];refine QZ 0 func153 ntmps153 results153 λb w c=>?_;simp only[go_sem];simp only[go_sem,h];apply Jp c o9 (sy x.run d.run a e);exact Yc c
 | false=>
  rw[show HJ x a=x from by unfold HJ;rw[h];rfl];refine QZ 0 func153 ntmps153 results153 λb w c=>?_;simp only[go_sem];simp only[go_sem,h]
structure Cp where
 has:Bool
 run:Rn
 fit:Nat
deriving DecidableEq
instance:Inhabited Cp:=⟨⟨false,default,0⟩⟩
structure Cp.Ok (x:Cp):Prop where
 run:x.run.Ok
 fit:x.fit<=never
@[go_sem] def Cp.cells(x:Cp):List D:=[QX x.has,u64 x.run.f.x,u64 (x.run.f.y / 18446744073709551616),u64 (x.run.f.y % 18446744073709551616),u64 x.run.f.m,u64 x.run.t.x,u64 (x.run.t.y / 18446744073709551616),u64 (x.run.t.y % 18446744073709551616),u64 x.run.t.m,QX x.run.b,u64 x.fit]
def sB:Cp:=⟨false,⟨⟨0,0,0⟩,⟨0,0,0⟩,false⟩,0⟩
def yQ(x:Cp)(a:Nat):Cp:=if x.has then ⟨true,x.run,zX x.run (a*65536)⟩ else x
def Bk(x:Cp)(c:Nc)(b a:Nat):Cp:=
 if c.of=0\/c.of=1 then sB
 else ⟨true,if x.has then zW x.run (Wx c b (a*65536)) else Wx c b (a*65536),zX (if x.has then zW x.run (Wx c b (a*65536)) else Wx c b (a*65536)) (a*65536)⟩
def Qwy:sB.Ok:=⟨⟨Ln.vH,Ln.vH⟩,Jj _⟩
def Qwz{x:Cp}(b:x.Ok)(a:Nat):(yQ x a).Ok:=by
 unfold yQ;split
 .exact⟨b.run,TS _ _⟩
 .exact b
def QhB{x:Cp}(e:x.Ok){c:Nc}(g:c.Lt){b a}(f:b<18446744073709551616)(h:a<18446744073709551616):(if x.has then zW x.run (Wx c b (a*65536)) else Wx c b (a*65536)).Ok:=by
 have d:=Ms g f (y:=a*65536) ω;split
 .exact si e.run d
 .exact d
def QwA{x:Cp}(d:x.Ok){c:Nc}(g:c.Lt){b a:Nat}(f:b<18446744073709551616)(e:a<18446744073709551616):(Bk x c b a).Ok:=by
 unfold Bk;split
 .exact Qwy
 .exact⟨QhB d g f e,TS _ _⟩
def sC(x:Cp)(d:x.Ok)(a:Nat)(e:a<18446744073709551616):QI prog 154 [.agg x.cells,u64 a] (QO (.agg (yQ x a).cells)):=by
 cases h:x.has with
 | true=>
  rw[show yQ x a=⟨true,x.run,zX x.run (a*65536)⟩ from by unfold yQ;rw[h];rfl];refine QZ 0 func154 ntmps154 results154 λc w b=>?_;simp only[go_sem];simp only[go_sem,h];apply Qx b [0,1,2,1003,1004,5,1006];simp only[go_sem];apply Kw b Cb (Ct a 65536 e π);apply VD b;apply Kw b fp (gK x.run d.run (a*65536) ω);exact Hn b
 | false=>
  rw[show yQ x a=x from by unfold yQ;rw[h];rfl];refine QZ 0 func154 ntmps154 results154 λc w b=>?_;simp only[go_sem];simp only[go_sem,h]
def QwB(x:Cp)(k:x.Ok)(c:Nc)(j:c.Lt)(b a:Nat)(i:b<18446744073709551616)(g:a<18446744073709551616):QI prog 149 [.agg x.cells,DS c,u64 b,u64 a] (QO (.agg (Bk x c b a).cells)):=by
 have m:=Ms j i (y:=a*65536) ω;have l:=QhB k j i g;refine QZ 0 func149 ntmps149 results149 λn w d=>?_;simp only[go_sem];apply Qx d [0,1,2,1003,1004,1005,1006];simp only[go_sem];apply Kw d Cb (Ct a 65536 g π);apply VD d;apply Kw d o6 (sg c j b (a*65536) i ω);apply VD d;apply Jp d Fl (TP c.a c.d c.b);apply QV d;by_cases e:c.of=0\/c.of=1
 .rw[show Bk x c b a=sB from Qe e];have f:Kt c.a c.d c.b=0\/Kt c.a c.d c.b=1:=e;rcases f with f|f
  .simp only[go_sem,f];rfl
  .simp only[go_sem,f];rfl
 .have d0:(Kt c.a c.d c.b==0)=false:=by rw[jN];exact λh=>e (.inl h)
  have d1:(Kt c.a c.d c.b==1)=false:=by rw[jN];exact λh=>e (.inr h)
  cases h:x.has with
  | true=>
   rw[h,Qe rfl]at l;rw[show Bk x c b a=yQ ⟨true,zW x.run (Wx c b (a*65536)),0⟩ a from by unfold Bk;rw[Qd e,h];rfl];simp only[go_sem,d0,d1,h];apply Jp d fo (gJ x.run _ k.run m);apply QV d;apply Jp d oZ (sC ⟨true,zW x.run (Wx c b (a*65536)),0⟩ ⟨l,Jj _⟩ a g);exact Yc d
  | false=>
   rw[show Bk x c b a=yQ ⟨true,Wx c b (a*65536),0⟩ a from by unfold Bk;rw[Qd e,h];rfl];simp only[go_sem,d0,d1,h];apply Jp d oZ (sC ⟨true,Wx c b (a*65536),0⟩ ⟨m,Jj _⟩ a g);exact Yc d
def QwC(a b):QI prog 249 [u64 a,u64 b] (QO (u64 (max a b))):=by
 refine QZ 0 func249 ntmps249 results249 λc w d=>?_;simp only[go_sem];simp only[go_sem,Ps]
def sD:Go.Shelf.Ren:=⟨fun|5=>130|7=>166|n=>n,fun|23=>192|25=>3|3=>45|4=>4|20=>20|n=>n,fun|n=>n⟩
def QwD:SlLaysW.n5 prog sD:={
 mixed:=τ
 f5:=⟨f130.name,τ,func130.trans (congrArg some (show f130={ SlBodyW.n5 sD with name:=f130.name } from τ))⟩
 f7:=func166.trans (congrArg some (show f166=SlBodyW.n7 sD from τ))
 t4:=underlying4
 a4:=isAgg4
 z4:=sizeOf4
 v4:=zeroValue4
 t20:=underlying20
 a20:=isAgg20
 z20:=sizeOf20
 v20:=zeroValue20
 t23:=underlying192
 a23:=isAgg192
 z23:=sizeOf192
 v23:=zeroValue192 }
def QwE{h:List Ob}{m c}{f}(r:h[m]? = some (QS .i64 c f)):QM prog 130 h [.mref m 0] (λd J=>d=.mref h.length 0/\J=h++[QS .i64 c f]):=by
 intro Z u w g z t U R y B;match z,y with
 | [v],_=>
 obtain⟨o,p,b,s,I,H,V,F⟩:=GG (B 0 σ);rw[r]at s;cases s;have C:=F rfl;subst C;have P:v=.map (some b):=H.2;subst P;obtain⟨_,x⟩:=R.at_ m _ b 0 r I;obtain⟨S,O,j,a,n,E,N,K,l,M⟩:=x.map rfl;refine(AnyW.maps_Clone QwD b j a w n).mono ?_;rintro e Q ⟨rfl,rfl⟩;have e:∀b,b<w.heap.size->(w.alloc (.map j a)).heap[b]? = w.heap[b]? := λb n=>xq w _ b n;have T:Go.Fg.Tr h g w (h++[QS .i64 c f]) (g++[some (w.heap.size,0)]) (w.alloc (.map j a)):=Go.Fg.Tr.push R e _ _ (by intro b q h;simp at h;omega);have L:g.length=h.length:=R.len;refine⟨.map (some w.heap.size),.mref h.length 0,h++[QS .i64 c f],g++[some (w.heap.size,0)],rfl,⟨rfl,rfl⟩,Zl.RX R e _ (QB _) t ?_,?_,T,ER t _⟩
 .have hx:bF Z (h++[QS .i64 c f]) (g++[some (w.heap.size,0)]) (w.alloc (.map j a)) (QS .i64 c f) w.heap.size 0:=
   ⟨rfl,O,j,a,heap_alloc_new w _,E,N,K.tr T,λi e k=>⟨(l i e k).1,(l i e k).2.1.tr T,(l i e k).2.2.1.tr T,(l i e k).2.2.2.tr T⟩,M⟩
  exact hx
 .exact .mref _ _ (QS .i64 c f) (some (w.heap.size,0)) w.heap.size σ (by rw[<- L];simp) ⟨by simp[QS,Wr,Kd.ty],rfl⟩ (QB _) (λ_=>rfl)
def QwF{S}{h:List Ob}{t}{T}(R:WG S h t T):QM prog 95 h [.ptr t 0 0 0] (λd e=>d=.ptr (h.length+1) 0 0 0/\WG (λl=>h.length<=l) e (h.length+1) T/\∃g,e=h++g/\g.length=2):=by
 obtain⟨m,c,n,a,i,j,_,_⟩:=R;refine Q8 func95 ntmps95 results95 λf w p b=>?_;have o:=Qc a;simp only[go_sem,Qa,a,o];refine Fu b QsA (QwE i) λd h k=>?_;obtain⟨rfl,rfl⟩:=k;apply QP b;exact⟨⟨h.length,c,n,VP rfl,Vj rfl,j,by show h.length<=_;omega,QB _⟩,_,rfl,rfl⟩
def KF.nil:KF []:=⟨TreeInv.nil,σ,σ,σ,σ⟩
def QwG{T:List Qm}(h:Wv T){x:Qm}(a:Qy T x.iD=none):(Vt T x).length=T.length+1:=by
 rw[(Hq x h).length_eq,Vo];congr 1;unfold Ww;rw[An.2];intro c b;have:=Hp.1 a c b;simpa using this
def QwH{T:List Qm}(h:Wv T){x y:Qm}(a:Qy T x.iD=some y):(Vt T x).length<=T.length:=by
 rw[(Hq x h).length_eq,Vo];obtain⟨c,b⟩:=(VH h).1 a;have:(Ww T x.iD).length<T.length:=by
  unfold Ww;refine Nat.lt_of_le_of_ne (Yr _ _) λe=>?_;have:=(List.length_filter_eq_length_iff.1 e) y c;simp[b]at this
 omega
section
variable {T:List Qm}(I:KF T)
include I
theorem KF.add{x:Qm}(h:vw T x (up T x.parent).length=0):KF (Vt T x):=by
 unfold vw at h;by_cases l:Vk x=0;case neg=>rw[Qe l]at h;exact absurd h l
 rw[Qd (by simpa using l)]at h;cases k:Qy T x.iD with
 | some y=>rw[k]at h;simp at h
 | none=>
  rw[k,Qd σ]at h;by_cases r:T.length=64
  .rw[Qe r]at h;cases h
  rw[Qd r]at h;by_cases n:(x.parent≠0/\(Qy T x.parent).isNone)\/((Qy T x.parent).getD default).leaf=true
  .rw[Qe n]at h;cases h
  rw[Qd n]at h;by_cases o:1<QJ x.ls/\Vl T x.parent=false
  .rw[Qe o]at h;cases h
  rw[Qd o]at h;by_cases q:(up T x.parent).length=16
  .rw[Qe q]at h;cases h
  have s:=right_id l;have g:x.parent=0\/∃d,Qy T x.parent=some d/\d.leaf=false:=by
   by_cases g:x.parent=0
   .exact .inl g
   .cases m:Qy T x.parent with
    | none=>exact absurd (.inl ⟨g,by rw[m];rfl⟩) n
    | some d=>
     refine .inr ⟨d,rfl,?_⟩;rw[jj];exact λj=>n (.inr (by rw[m];exact j))
  have t:=I.toTreeInv.add l k (g.elim .inl λ⟨d,b,_⟩=>.inr (by rw[b];rfl)) q;refine⟨t,λc a=>?_,λc a i=>?_,λc a p i=>?_,?_⟩
  .rcases yI I.rising x a with rfl|a
   .exact l
   .exact I.right c a
  .rcases yI I.rising x a with rfl|a
   .rcases g with g|⟨d,b,j⟩
    .exact absurd g i
    .exact⟨d,by rw[A5 I.rising,Qd s.2.2];exact b,j⟩
   .obtain⟨d,b,j⟩:=I.J9 c a i;refine⟨d,?_,j⟩;rw[A5 I.rising,Qd (λe=>by rw[e,k]at b;cases b)];exact b
  .rcases yI I.rising x a with rfl|a
   .have f:Vl T c.parent=true:=by
     rw[<- Bool.not_eq_false];exact λm=>o ⟨p,m⟩
    unfold Vl at f;unfold vA;rw[A5 I.rising,Qd s.2.2];rw[yi]at f;rcases f with f|f
    .exact absurd (by simpa using f) i
    .exact f
   .have f:=I.fO c a p i;obtain⟨d,b,j⟩:=I.J9 c a i;unfold vA at f ⊢;rw[A5 I.rising,Qd (λe=>by rw[e,k]at b;cases b)];exact f
  .rw[QwG I.rising k];have:=I.len;omega
theorem KF.del{b}(h:KE T b=[]):KF (Ww T b):=by
 have l:=I.toTreeInv.del h;have g:∀c∈T,c.parent≠b:=λc a e=>by
  have:c.iD∈KE T b:=Jl.2 ⟨c,JH.2 ⟨a,by simpa using e⟩,rfl⟩;rw[h]at this;cases this
 refine⟨l,λc a=>I.right c (JH.1 a).1,λc a f=>?_,λc a i f=>?_,?_⟩
 .have a:=(JH.1 a).1;obtain⟨d,k,j⟩:=I.J9 c a f;exact⟨d,by rw[Td I.rising,Qd (g c a)];exact k,j⟩
 .have a:=(JH.1 a).1;have:=I.fO c a i f;unfold vA at this ⊢;rw[Td I.rising,Qd (g c a)];exact this
 .have:=Yr (λc:Qm=>c.iD != b) T;have:=I.len;unfold Ww;omega
theorem KF.set{x}(h:wH T x=0):KF (Vt T x):=by
 unfold wH at h;by_cases j:Vk x=0;case neg=>rw[Qe j]at h;exact absurd h j
 rw[Qd (by simpa using j)]at h;cases i:Qy T x.iD with
 | none=>rw[i,Qe (by rfl)]at h;cases h
 | some y=>
  rw[i,Qd σ]at h;simp only[Ky]at h;by_cases n:x.parent≠y.parent\/x.leaf≠y.leaf
  .rw[Qe n]at h;cases h
  rw[Qd n]at h;have l:x.parent=y.parent:=jk λe=>n (.inl e);have s:x.leaf=y.leaf:=jk λe=>n (.inr e);by_cases q:(1<QJ x.ls/\Vl T x.parent=false)\/(¬ 1<QJ x.ls/\(KE T x.iD).any (vA T)=true)
  .rw[Qe q]at h;cases h
  have C:=right_id j;have r:=(VH I.rising).1 i;have B:=I.toTreeInv.set j i l;have t:∀p d,Qy T p=some d->∃o,Qy (Vt T x) p=some o/\o.leaf=d.leaf:=λp d k=>by
   rw[A5 I.rising];by_cases b:p=x.iD
   .rw[Qe b];rw[b,i]at k;cases k;exact⟨x,rfl,s⟩
   .rw[Qd b];exact⟨d,k,rfl⟩
  refine⟨B,λc a=>?_,λc a g=>?_,λc a m g=>?_,?_⟩
  .rcases yI I.rising x a with rfl|a
   .exact j
   .exact I.right c a
  .have:∃d,Qy T c.parent=some d/\d.leaf=false:=by
    rcases yI I.rising x a with rfl|a
    .rw[l]at g ⊢;exact I.J9 y r.1 g
    .exact I.J9 c a g
   obtain⟨d,k,u⟩:=this;obtain⟨o,z,w⟩:=t _ d k;exact⟨o,z,by rw[w,u]⟩
  .unfold vA;rw[A5 I.rising];by_cases b:c.parent=x.iD
   .rw[Qe b];simp only[Ky,X4];refine jk λhx=>q (.inr ⟨hx,?_⟩);rcases yI I.rising x a with rfl|a
    .exact absurd m hx
    .rw[vY];refine⟨c.iD,Jl.2 ⟨c,JH.2 ⟨a,by simpa using b⟩,rfl⟩,?_⟩;unfold vA;rw[(VH I.rising).2 ⟨a,rfl⟩];simpa using m
   .rw[Qd b];rcases yI I.rising x a with rfl|a
    .have f:Vl T c.parent=true:=by
      rw[<- Bool.not_eq_false];exact λv=>q (.inl ⟨m,v⟩)
     unfold Vl at f;rw[yi]at f;rcases f with f|f
     .exact absurd (by simpa using f) g
     .exact f
    .exact I.fO c a m g
  .have:=QwH I.rising i;have:=I.len;omega
end
def qG(T:List Qm)(c:Z4):Int:=if c.kind=1 then vw T c.cls (up T c.cls.parent).length else if c.kind=3 then wH T c.cls else if c.kind=2 then wG T c.cls.iD else 1
def xX(T:List Qm)(c:Z4):List Qm:=if qG T c=0 then (if c.kind=2 then Ww T c.cls.iD else Vt T c.cls) else T
def KF.one{T}(I:KF T)(c):KF (xX T c):=by
 unfold xX;by_cases h:qG T c=0
 .rw[Qe h];unfold qG at h;by_cases d:c.kind=1
  .rw[Qe d]at h;rw[Qd ω];exact I.add h
  .rw[Qd d]at h;by_cases a:c.kind=3
   .rw[Qe a]at h;rw[Qd ω];exact I.set h
   .rw[Qd a]at h;by_cases b:c.kind=2
    .rw[Qe b]at h ⊢;unfold wG at h;by_cases f:(Qy T c.cls.iD).isNone=true
     .rw[Qe f]at h;cases h
     .rw[Qd f]at h;by_cases e:KE T c.cls.iD≠[]
      .rw[Qe e]at h;cases h
      .exact I.del (jk e)
    .rw[Qd b]at h;cases h
 .rw[Qd h];exact I
def Xh.toS{S}{h a}{t m}{L}(A:Xh h t m L a)(d:S t)(b:S m):WG S a t L/\Step S h a:=by
 obtain⟨⟨c,p,o,n,k⟩,g,f⟩:=A;exact⟨⟨m,c,p,o,n,k,d,b⟩,⟨λl j i=>f l j (λe=>i (e▸b)),g⟩⟩
section
variable {S:Nat->Prop}{h:List Ob}{t:Nat}{T:List Qm}(R:WG S h t T)(I:KF T)
include R I
theorem QwK(x:Qm):QM prog 131 h [.ptr t 0 0 0,WV x] (λd a=>d=Qb (vw T x (up T x.parent).length)/\WG S a t (if vw T x (up T x.parent).length=0 then Vt T x else T)/\Step S h a):=by
 obtain⟨m,c,k,j,i,g,f,b⟩:=R;have:=I.len;exact QM.mono (Quq h t m c g j i x 16 π (I.ends _)) λd a ⟨e,A⟩=>⟨e,A.toS f b⟩
theorem QwL(x):QM prog 132 h [.ptr t 0 0 0,WV x] (λd a=>d=Qb (wH T x)/\WG S a t (if wH T x=0 then Vt T x else T)/\Step S h a):=by
 obtain⟨m,c,k,j,i,g,f,b⟩:=R;have:=I.len;exact QM.mono (Quw h t m c g ω j i x) λd a ⟨e,A⟩=>⟨e,A.toS f b⟩
theorem QwM(a):QM prog 134 h [.ptr t 0 0 0,Qb a] (λd b=>d=Qb (wG T a)/\WG S b t (if wG T a=0 then Ww T a else T)/\Step S h b):=by
 obtain⟨m,c,l,k,j,i,g,f⟩:=R;have:=I.len;exact QM.mono (Qur h t m c i ω k j a) λd b ⟨e,A⟩=>⟨e,A.toS g f⟩
end
def WG.app{S}{h:List Ob}{t}{T}(R:WG S h t T)(g):WG (λl=>S l/\l<h.length) (h++g) t T:=R.step λl a b=>⟨⟨b,a⟩,QE a⟩
def QwN{S}{h:List Ob}{t tb}{T}(R:WG S h t T)(I:KF T)(x:Qm)(a:h[tb]? = some ⟨.one,0,1,1,λ_=>[.ptr t 0 0 0]⟩):QM prog 133 h [WV x,.ptr tb 0 0 0] (λd f=>d=Qb (wG T x.iD)/\WG S f t (if wG T x.iD=0 then Ww T x.iD else T)/\Step S h f):=by
 refine Q8 func133 ntmps133 results133 λg w p e=>?_;have b:=Qc a;simp only[go_sem,Qa,a,b];refine Fu e QsE (QwM (R.app _) I x.iD) λd h j=>?_;obtain⟨rfl,o,c⟩:=j;apply Qf e;simp only[go_sem,Qa,a,b];exact⟨o.step λl _ i=>⟨i.1,rfl⟩,⟨λl n m=>(c.keep l ξ (λk=>m k.1)).trans (QE n),by have:=c.len;simp at this;omega⟩⟩
def QwO{S}{h}{t}{T}(R:WG S h t T)(I:KF T)(x:Z4):QM prog 96 h [.ptr t 0 0 0,.agg x.cells] (λd r=>d=Qb (qG T x)/\WG S r t (xX T x)/\Step S h r):=by
 have f:∀{g j:List Ob} {q:List Qm},WG (λl=>S l/\l<h.length) j t q->Step (λl=>S l/\l<h.length) (h++g) j->WG S j t q/\Step S h j:=λ{g j q} e c=>
  ⟨e.step λl _ p=>⟨p.1,rfl⟩,⟨λl y v=>(c.keep l ξ (λu=>v u.1)).trans (QE y),by have:=c.len;simp at this;omega⟩⟩
 unfold xX qG;by_cases n:x.kind=1
 .have d1:(x.kind==1)=true:=by simpa using n
  simp only[Qe n,Qd (show ¬ x.kind=2 from ω)];refine Q8 func96 ntmps96 results96 λa w o b=>?_;simp only[go_sem,Qa,d1];refine JG b QsB (QwK (R.app _) I x.cls) λd h i=>?_;obtain⟨rfl,e,c⟩:=i;apply QV b;exact f e c
 .have d1:(x.kind==1)=false:=by simpa using n
  simp only[Qd n];by_cases k:x.kind=3
  .have d3:(x.kind==3)=true:=by simpa using k
   simp only[Qe k,Qd (show ¬ x.kind=2 from ω)];refine Q8 func96 ntmps96 results96 λa w o b=>?_;simp only[go_sem,Qa,d1,d3];refine JG b QsC (QwL (R.app _) I x.cls) λd h i=>?_;obtain⟨rfl,e,c⟩:=i;apply QV b;exact f e c
  .have d3:(x.kind==3)=false:=by simpa using k
   simp only[Qd k];by_cases m:x.kind=2
   .have d2:(x.kind==2)=true:=by simpa using m
    simp only[Qe m];refine Q8 func96 ntmps96 results96 λa w o b=>?_;simp only[go_sem,Qa,d1,d2,d3];refine JG b QsD (QwN (tb:=h.length) (R.app _) I x.cls (Vj rfl)) λd h i=>?_;obtain⟨rfl,e,c⟩:=i;apply QV b;exact f e c
   .have d2:(x.kind==2)=false:=by simpa using m
    simp only[Qd m];refine Q8 func96 ntmps96 results96 λa w o b=>?_;simp only[go_sem,Qa,d1,d2,d3];exact⟨R.step λl s p=>⟨p,QE s⟩,Step.app S h _⟩
end Go.Fg.X
namespace Go.Fg
open Go.RowKit (Below)
section
variable {P:Program}{L:Je}{base nt:Nat}{s:St}{o:Oper}{t:TypeId}{x i:Operand}
def Tu(m:Z9 P L){v}(k:o.op=.insert t x i v){p}{f}(h:GV L s.h t (Qq s.fr x) (Qq s.fr i) (Qq s.fr v)=some (p,f))(j:p):∀(Z:Nat->Prop) d a w,Rel Z base nt s d a w->base<=w.heap.size->∃v b c,((execOp a.eval o).run P w=.ok (.value v) b\/((execOp a.eval o).run P w=.ok .skip b/\v=Go.undef))/\Tr s.h d w f c b/\Zl Z base f c b/\QC Z f c b .undef v/\Below base w b/\jO w b:=by
 have q:=Qcd (P:=P) (base:=base) (nt:=nt) (o:=⟨o.dst,.mapUpdate t x i v,o.type,o.pos,o.after,o.guard⟩) m rfl h j;intro Z d a w r l;obtain⟨u,b,c,g,n⟩:=q Z d a w r l;have e:execOp a.eval ⟨o.dst,.mapUpdate t x i v,o.type,o.pos,o.after,o.guard⟩=execOp a.eval o:=by simp[execOp,k]
 rw[e]at g;exact⟨u,b,c,g,n⟩
end
section
variable {P:Program}{base nt:Nat}{w0:Start}{Q:Exit->St->Prop}{k:List Item}{s:St}{X:Cx}
def QwP{L}(E:Z9 P L)(F:base<=w0.w.heap.size){K}{g:TypeId}{pos}{c}{q}{r}{t:TypeId}{x i v}{p}{h'}
  (h:GV L s.h t (Qq s.fr x) (Qq s.fr i) (Qq s.fr v)=some (p,h')) (C:p) (j:AX P base nt w0 K r ⟨s.fr,h'⟩):AX P base nt w0 K ((false,⟨none,.insert t x i v,g,pos,c,q⟩,none)::r) s:=by
 simp only[AX,Xq,qV];intro Z z B a w f b;obtain⟨u,H,y,e,d,m,I,l,n⟩:=Tu (P:=P) (base:=base) (nt:=nt) (o:=⟨none,.insert t x i v,g,pos,c,q⟩) E rfl h C Z B a w f (Kv F b.1.size);unfold Oper.wp;rcases e with e|⟨e,J⟩
 .rw[e];simp only[Oper.upon_value];exact⟨n,.undef,_,y,u,j,f.Av d m u,b.step d l,d,rfl⟩
 .rw[e];simp only[Oper.upon_skip];exact⟨n,.undef,_,y,_,j,f.Av d m _,b.step d l,d,rfl⟩
def QwQ{L:Je}(B:Z9 P L)(I:base<=w0.w.heap.size){K:St->Prop}{g:TypeId}{pos:String}{d:Array Edge}{C:Option (Nat × Bool)}{r:List (Bool × Oper × G)}{t h E a b H F:Nat}{j f:List Value}{x i v:Operand}{q:IntKind}{l c:Nat}{e:List ZF}{n:Int}
  (u:ty L t=some ⟨.map h E,a,b,j⟩) (m:ty L h=some ⟨.int q,H,F,f⟩) (o:Qq s.fr x=.mref l 0) (z:Qq s.fr i=.raw (.int q n)) (w:s.h[l]? = some (QS q c e))
  (y:AX P base nt w0 K r ⟨s.fr,s.h.set l (J7 q c e n (Qq s.fr v))⟩):AX P base nt w0 K ((false,⟨none,.insert t x i v,g,pos,d,C⟩,none)::r) s:=by
 refine QwP B I (h':=s.h.set l (J7 q c e n (Qq s.fr v))) (p:=IsMap q (QS q c e)/\q=q/\0=0/\(QS q c e).kd.ro=false) ?_ ⟨?_,rfl,rfl,rfl⟩ y
 .rw[o,z];simp only[GV,u,m,w];rw[nI,nJ]
 .exact(Qb6 q c e).mpr trivial
def FP(f){g}{a}(d:qU P X)(c:base<=w0.w.heap.size)(i:P.follows .mixedOrders=true)(l)(R)(e:DB [] X.L a l R=true)(j:B3 a s.fr=true)
  (n:∀s,Qr w0 s f->Qw P base nt w0 Q k .normal s) (h:K9 P base w0 X nt (Fh P base w0 X nt (λs=>Qr w0 s f) R.length (jX [] a R) (l.map (·.1))) (VO [] a l) s):Qw P base nt w0 Q (.code (.region g a true)::k) .normal s:=by
 have m:R.Nodup:=by
  simp only[DB,ZL]at e;exact(dW e.1.2).1
 exact Qc9 d.L c i l R e j (AX.mono (λs b=>oD d c (λs b=>n s b) _ _ _ s m b) _ _ (Fe d c _ _ h))
end
section
variable {P:Program}{L:Je}{base nt:Nat}{w0:Start}{Q:Exit->St->Prop}
end
end Go.Fg
namespace Go.Fg
section
variable {P:Program}{base nt:Nat}{w0:Start}{Q:Exit->St->Prop}{k:List Item}{s:St}
def gP(P:Program)(base nt:Nat)(w0:Start)(Q:Exit->St->Prop)(k:List Item)(T:St->Prop):Exit->St->Prop
 | .normal,s=>∃a,T a/\Qr w0 s a
 | e,s=>Qw P base nt w0 Q k e s
variable {T:St->Prop}
@[go_sem] theorem QGV:gP P base nt w0 Q k T .normal s=∃a,T a/\Qr w0 s a:=Vh rfl
@[go_sem] theorem QGW{j}:gP P base nt w0 Q k T (.exit j) s=Qw P base nt w0 Q k (.exit j) s:=Vh rfl
@[go_sem] theorem QGX:gP P base nt w0 Q k T .ret s=Qw P base nt w0 Q k .ret s:=Vh rfl
def TW{x}{c}(T)(f:Qw P base nt w0 (gP P base nt w0 Q (.code c::k) T) [x] .normal s)(q:∀g,T g->Qw P base nt w0 Q (.code c::k) .normal g):Qw P base nt w0 Q (x::.code c::k) .normal s:=by
 have d:∀h,(∃g,T g/\Qr w0 h g)->Qw P base nt w0 Q (.code c::k) .normal h:=λh ⟨g,p,o⟩=>E0 o (q g p);cases x with
 | code x=>
  simp only[Qw]at f;show A P base nt w0 x _ s;refine f.mono λe h j=>?_;cases e with
  | normal=>exact d _ j
  | _=>exact j
 | ops l=>
  simp only[Qw]at f;show AG P base nt w0 l _ s;intro Z z n a w r b;refine fA (λe y v ⟨h,u,i,m,t⟩=>⟨h,u,?_,m,t⟩) _ _ _ (f Z z n a w r b);cases e with
  | normal=>exact d _ i
  | _=>exact i
 | inBlock id=>simp only[Qw]at f ⊢;exact d _ f
 | inScope=>simp only[Qw]at f ⊢;exact d _ f
end
def TX:List Item->Bool
 | .inBlock _::k=>TX k
 | .inScope::k=>TX k
 | .code _::_=>true
 | .ops _::_=>true
 | []=>false
def CE{P}{b g}{e}{Q}{s f}(h:Qr e s f):∀{k:List Item},TX k=true->Qw P b g e Q k .normal f->Qw P b g e Q k .normal s
 | [],d,_=>by cases d
 | .code c::k,_,a=>E0 h a
 | .ops l::k,_,a=>DD h a
 | .inBlock n::k,d,a=>by
  rw[TX]at d;simp only[Qw]at a ⊢;exact CE h d a
 | .inScope::k,d,a=>by
  rw[TX]at d;simp only[Qw]at a ⊢;exact CE h d a
end Go.Fg
namespace Go.Fg.X
open Go.Proofs Go.Fg
open Go.Proofs.Tryz
@[go_sem] def uI(n:Int):D:=.raw (.int .u64 n)
def Qs(x y:Int):Bool:=decide (x<y)
def CG(d:Array Int):Nat->List D:=λi=>[uI d[i]!]
@[go_sem] theorem QGY(d:Array Int)(i):CG d i=[uI d[i]!]:=rfl
@[go_sem] def Zh(g:Nat)(d:Array Int):Ob:=⟨.arr,g,1,d.size,CG d⟩
structure QGZ (h h':List Ob) (lo:Nat) (o:Ob):Prop where
 at_:h'[lo]? = some o
 Ko:∀l,l<h.length->l≠lo->h'[l]? = h[l]?
 len:h.length<=h'.length
def QwS(x):QI prog 254 [uI x] (QO (QX false)):=by
 refine QZ 0 func254 ntmps254 results254 λa w b=>?_;simp only[go_sem];simp only[go_sem,bne_self_eq_false]
def wN(x y):QI prog 218 [uI x,uI y] (QO (QX (Qs x y))):=by
 refine QZ 0 func218 ntmps218 results218 λb w a=>?_;simp only[go_sem];refine ZO a Qft ?_ (QwS x) ?_
 .simp only[go_sem,Go.undef]
 apply Qf a;simp only[go_sem,Go.undef];unfold Qs;rfl
def wO{h:List Ob}{l}{o}(e:h[l]? = some o):h.set l o=h:=Am λi=>by
 by_cases c:l=i
 .subst c;rw[Qt (Qc e),e]
 .rw[Ql c]
@[go_sem] def Pu(n:Nat):Ob:=⟨.one,0,1,1,λ_=>[Qb n]⟩
section
variable {h:List Ob}{lo g:Nat}{d:Array Int}(ho:h[lo]? = some (Zh g d))
include ho
theorem sG{c}(s)(e:h[c]? = some (Pu s))(u:c≠lo)(a b)(m:a<d.size)(p:b<d.size)(t:s<1000000):
  QM prog 285 h [.ref lo g 0 d.size,Qb a,Qb b,.ptr c 0 0 0] (λo n=>o=.tup [Qb (Sort.order2 Qs d a b s).1,Qb (Sort.order2 Qs d a b s).2.1]/\n=h.set c (Pu (Sort.order2 Qs d a b s).2.2)):=by
 have q:=JT (show s<4611686018427387904 from ω);unfold Sort.order2;refine Q8 func285 ntmps285 results285 λl w r f=>?_;have k:=Qc ho;have i:=Qc e;simp only[go_sem,Qa,ho,k,e,i];apply Qx f i9;simp only[go_sem,ho,k,m,p];apply Kw f jZ (wN d[b]! d[a]!);apply VD f;cases j:Qs d[b]! d[a]!
 .simp only[go_sem,j];exact(wO e).symm
 .simp only[go_sem,j,e,i,q]
theorem QhD(a b s:Nat)(e:a<d.size)(c:b<d.size):(Sort.order2 Qs d a b s).1<d.size/\(Sort.order2 Qs d a b s).2.1<d.size/\(Sort.order2 Qs d a b s).2.2<=s+1:=by
 have _hu:=ho;unfold Sort.order2;split<;>simp_all
theorem sH{e}(s)(j:h[e]? = some (Pu s))(k:e≠lo)(a b c)(n:a<d.size)(r:b<d.size)(t:c<d.size)(C:s<900000):
  QM prog 284 h [.ref lo g 0 d.size,Qb a,Qb b,Qb c,.ptr e 0 0 0] (λy x=>y=Qb (Sort.median Qs d a b c s).1/\x=h.set e (Pu (Sort.median Qs d a b c s).2)):=by
 have m:=QhD ho a b s n r;have v:=QhD ho (Sort.order2 Qs d a b s).2.1 c (Sort.order2 Qs d a b s).2.2 m.2.1 t;have l:=Qc j;have q:∀o,(h.set e o)[lo]? = some (Zh g d):=λo=>(Ql k).trans ho;have p:∀o,(h.set e o)[e]? = some o:=λo=>Qt l;unfold Sort.median;refine Q8 func284 ntmps284 results284 λu w B f=>?_;have z:=Qc ho;have l:=Qc j;simp only[go_sem,Qa,ho,z,j,l];refine JG f pz (sG ho s j k a b n r ω) λd h i=>?_;obtain⟨rfl,rfl⟩:=i;apply QV f;refine V5 f pz rfl ?_ (sG (q _) _ (p _) k _ c m.2.1 t ω) rfl λd h i=>?_
 .simp only[go_sem,JE]
 obtain⟨rfl,rfl⟩:=i;apply Qf f;simp only[go_sem,JE];refine V5 f pz rfl ?_ (sG (q _) _ (p _) k _ _ m.1 v.1 ω) rfl λd h i=>?_
 .simp only[go_sem,JE]
 obtain⟨rfl,rfl⟩:=i;apply Qf f;simp only[go_sem,JE]
theorem sI{b}(s)(c:h[b]? = some (Pu s))(q:b≠lo)(a)(u:1<=a)(v:a+1<d.size)(j:s<900000)(t:d.size<1000000000):
  QM prog 283 h [.ref lo g 0 d.size,Qb a,.ptr b 0 0 0] (λo l=>o=Qb (Sort.medianAdjacent Qs d a s).1/\l=h.set b (Pu (Sort.medianAdjacent Qs d a s).2)):=by
 have n:IntKind.i64.wrap ((a:Int) - 1)=((a - 1:Nat):Int):=ZB;have m:IntKind.i64.wrap ((a:Int)+1)=((a+1:Nat):Int):=ZB;unfold Sort.medianAdjacent;refine Q8 func283 ntmps283 results283 λf w r e=>?_;have p:=Qc ho;have i:=Qc c;simp only[go_sem,Qa,ho,p,c,i,n,m];refine JG e pw (sH ho s c q (a - 1) a (a+1) ω ω ω j) λd h k=>?_;obtain⟨rfl,rfl⟩:=k;exact Yc e
end
def sJ{d:Array Int}(a b c s:Nat)(g:a<d.size)(f:b<d.size)(e:c<d.size):(Sort.median Qs d a b c s).1<d.size/\(Sort.median Qs d a b c s).2<=s+3:=by
 unfold Sort.median Sort.order2;dsimp only
 repeat' split
 all_goals simp_all
def FQ:Sort.Hint->Nat
 | .unknown=>0
 | .increasing=>1
 | .decreasing=>2
def sK(r:Nat × Nat):Nat × Sort.Hint:=(r.1,if r.2=0 then .increasing else if r.2=12 then .decreasing else .unknown)
section
variable (d:Array Int)(a b:Nat)
def Kq(k:Nat):Nat:=a+(b - a) / 4*k
def FR:Nat × Nat:=Sort.medianAdjacent Qs d (Kq a b 1) 0
def FT:Nat × Nat:=Sort.medianAdjacent Qs d (Kq a b 2) (FR d a b).2
def Mz:Nat × Nat:=Sort.medianAdjacent Qs d (Kq a b 3) (FT d a b).2
def ch4:Nat × Nat:=Sort.median Qs d (FR d a b).1 (FT d a b).1 (Mz d a b).1 (Mz d a b).2
def ch5:Nat × Nat:=Sort.median Qs d (Kq a b 1) (Kq a b 2) (Kq a b 3) 0
def chP:Nat × Nat:=if b - a >= 8 then (if b - a >= 50 then ch4 d a b else ch5 d a b) else (Kq a b 2,0)
theorem QwT:Sort.choosePivot Qs d a b=sK (chP d a b):=rfl
end
section
variable {h:List Ob}{lo g:Nat}{d:Array Int}(ho:h[lo]? = some (Zh g d))
include ho
theorem QwU(a b)(S:a<b)(R:b<=d.size)(u:d.size<1000000000):
  QM prog 273 h [.ref lo g 0 d.size,Qb a,Qb b] (λN I=>N=.tup [Qb (Sort.choosePivot Qs d a b).1,Qb (FQ (Sort.choosePivot Qs d a b).2)]/\∃t,I=h++t):=by
 have M:IntKind.i64.wrap ((b:Int) - a)=((b - a:Nat):Int):=ZB;have O:∀n:Nat,n<1000000000->IntKind.i64.wrap (n:Int)=n:=λn Q=>wrap64 ω ω;have L:IntKind.i64.wrap (((b - a) / 4:Nat)*(1:Int))=(((b - a) / 4*1:Nat):Int):=ZB;have K:IntKind.i64.wrap (((b - a) / 4:Nat)*(2:Int))=(((b - a) / 4*2:Nat):Int):=ZB;have J:IntKind.i64.wrap (((b - a) / 4:Nat)*(3:Int))=(((b - a) / 4*3:Nat):Int):=ZB;have f1:IntKind.i64.wrap ((a:Int)+((b - a) / 4*1:Nat))=((Kq a b 1:Nat):Int):=by unfold Kq;rw[wrap64 ω ω];omega
 have f2:IntKind.i64.wrap ((a:Int)+((b - a) / 4*2:Nat))=((Kq a b 2:Nat):Int):=by unfold Kq;rw[wrap64 ω ω];omega
 have f3:IntKind.i64.wrap ((a:Int)+((b - a) / 4*3:Nat))=((Kq a b 3:Nat):Int):=by unfold Kq;rw[wrap64 ω ω];omega
 have f0:IntKind.i64.wrap (((b - a:Nat):Int).tdiv 4)=(((b - a) / 4:Nat):Int):=by rw[show ((b - a:Nat):Int).tdiv 4=(((b - a) / 4:Nat):Int) from rfl,wrap64 ω ω]
 refine Q8 func273 ntmps273 results273 λC w P e=>?_;have B:=Qc ho;simp only[go_sem,Qa,ho,B,M,f0,L,K,J,f1,f2,f3];have p:∀o:Ob,(h++[o])[lo]? = some (Zh g d):=λo=>by rw[JO B];exact ho
 have l:∀o:Ob,(h++[o])[h.length]? = some o:=λo=>σ;have f:∀o s:Ob,(h++[o]).set h.length s=h++[s]:=λo s=>by rw[eG rfl];rfl
 have q:h.length≠lo:=ω;rw[QwT];unfold chP;by_cases y:b - a >= 8
 .rw[Qe y];have d8:decide ((8:Int)<=(b - a:Nat))=true:=QT ω;by_cases z:b - a >= 50
  .rw[Qe z];have d50:decide ((50:Int)<=(b - a:Nat))=true:=QT ω;simp only[go_sem,d8,d50];have H:(FR d a b).1<d.size/\(FR d a b).2<=3:=by unfold FR;exact sJ _ _ _ _ (by unfold Kq;omega) (by unfold Kq;omega) (by unfold Kq;omega)
   have F:(FT d a b).1<d.size/\(FT d a b).2<=(FR d a b).2+3:=by unfold FT;exact sJ _ _ _ _ (by unfold Kq;omega) (by unfold Kq;omega) (by unfold Kq;omega)
   have E:(Mz d a b).1<d.size/\(Mz d a b).2<=(FT d a b).2+3:=by unfold Mz;exact sJ _ _ _ _ (by unfold Kq;omega) (by unfold Kq;omega) (by unfold Kq;omega)
   refine V5 e pq rfl ?_ (sI (p _) 0 (l _) q (Kq a b 1) (by unfold Kq;omega) (by unfold Kq;omega) ω u) rfl λd h k=>?_
   .simp only[go_sem,f]
   obtain⟨rfl,rfl⟩:=k;apply Qf e;simp only[go_sem,f];refine V5 e pq rfl ?_ (sI (p _) (FR d a b).2 (l _) q (Kq a b 2) (by unfold Kq;omega) (by unfold Kq;omega) ω u) rfl λd h k=>?_
   .simp only[go_sem,f]
   obtain⟨rfl,rfl⟩:=k;apply Qf e;simp only[go_sem,f];refine V5 e pq rfl ?_ (sI (p _) (FT d a b).2 (l _) q (Kq a b 3) (by unfold Kq;omega) (by unfold Kq;omega) ω u) rfl λd h k=>?_
   .simp only[go_sem,f]
   obtain⟨rfl,rfl⟩:=k;apply Qf e;simp only[go_sem,f];refine V5 e pw rfl ?_ (sH (p _) (Mz d a b).2 (l _) q (Sort.medianAdjacent Qs d (Kq a b 1) 0).1 (Sort.medianAdjacent Qs d (Kq a b 2) (FR d a b).2).1 (Sort.medianAdjacent Qs d (Kq a b 3) (FT d a b).2).1 H.1 F.1 E.1 ω) rfl λd h k=>?_
   .simp only[go_sem,f]
   obtain⟨rfl,rfl⟩:=k;apply Qf e;simp only[go_sem,f];generalize v:Sort.median Qs d (Sort.medianAdjacent Qs d (Kq a b 1) 0).1 (Sort.medianAdjacent Qs d (Kq a b 2) (FR d a b).2).1 (Sort.medianAdjacent Qs d (Kq a b 3) (FT d a b).2).1 (Mz d a b).2=r;have x:ch4 d a b=r:=v;rw[x];simp only[go_sem,l];unfold sK;by_cases j:r.2=0
   .have i:((r.2:Int)==0)=true:=by rw[j];rfl
    simp only[go_sem,i,j];exact⟨rfl,_,rfl⟩
   .have i:((r.2:Int)==0)=false:=beq_eq_false_iff_ne.mpr ω;by_cases c:r.2=12
    .have m:((r.2:Int)==12)=true:=by rw[c];rfl
     simp only[go_sem,i,m,j,c];exact⟨rfl,_,rfl⟩
    .have m:((r.2:Int)==12)=false:=beq_eq_false_iff_ne.mpr ω;simp only[go_sem,i,m,j,c];exact⟨rfl,_,rfl⟩
  .rw[Qd z];have d50:decide ((50:Int)<=(b - a:Nat))=false:=QH ω;simp only[go_sem,d8,d50];refine V5 e pw rfl ?_ (sH (p _) 0 (l _) q (Kq a b 1) (Kq a b 2) (Kq a b 3) (by unfold Kq;omega) (by unfold Kq;omega) (by unfold Kq;omega) ω) rfl λd h k=>?_
   .simp only[go_sem,f]
   obtain⟨rfl,rfl⟩:=k;apply Qf e;simp only[go_sem,f];generalize v:Sort.median Qs d (Kq a b 1) (Kq a b 2) (Kq a b 3) 0=r;have x:ch5 d a b=r:=v;rw[x];simp only[go_sem,l];unfold sK;by_cases j:r.2=0
   .have i:((r.2:Int)==0)=true:=by rw[j];rfl
    simp only[go_sem,i,j];exact⟨rfl,_,rfl⟩
   .have i:((r.2:Int)==0)=false:=beq_eq_false_iff_ne.mpr ω;by_cases c:r.2=12
    .have m:((r.2:Int)==12)=true:=by rw[c];rfl
     simp only[go_sem,i,m,j,c];exact⟨rfl,_,rfl⟩
    .have m:((r.2:Int)==12)=false:=beq_eq_false_iff_ne.mpr ω;simp only[go_sem,i,m,j,c];exact⟨rfl,_,rfl⟩
 .rw[Qd y];have d8:decide ((8:Int)<=(b - a:Nat))=false:=QH ω;simp only[go_sem,d8,l];exact⟨rfl,_,rfl⟩
end
def vK{h:List Ob}{a g}{d}(b:a<h.length):(h.set a (Zh g d))[a]? = some (Zh g d):=Qt b
def swp_size(d:Array Int)(i j:Nat):(Sort.swp d i j).size=d.size:=by simp[Sort.swp]
def kr(c:Bool)(x y:D):List.drop 1 (bif c then [x] else [y])=[]:=by cases c<;>rfl
def ku(g)(d:Array Int)(i j n)(l:d.size=n)(e:i<n)(h:j<n):
  (⟨.arr,g,1,n,λk=>bif k==j then [.raw (.int .u64 d[i]!)] else bif k==i then [.raw (.int .u64 d[j]!)] else [.raw (.int .u64 d[k]!)]⟩:Ob)=Zh g (Sort.swp d i j):=by
 subst l;unfold Zh;congr 1
 .exact(swp_size d i j).symm
 .funext k;unfold CG uI Sort.swp;by_cases b:k=j
  .subst b;have c:(k==k)=true:=NM k;by_cases a:k=i
   .subst a;simp[e]
   .simp[e,h,a,Q9 a]
  .by_cases a:k=i
   .subst a;have c:(k==j)=false:=beq_eq_false_iff_ne.mpr b;simp[e,h,b,Q9 b,c]
   .have c:(k==j)=false:=beq_eq_false_iff_ne.mpr b;have m:(k==i)=false:=beq_eq_false_iff_ne.mpr a;rw[c,m];by_cases f:k<d.size
    .simp[b,a,f,Q9 b,Q9 a,mI]
    .simp[b,a,f]
section
variable {h:List Ob}{lo g:Nat}{d:Array Int}(ho:h[lo]? = some (Zh g d))
include ho
theorem QwV(a b)(J:a<b)(I:b<=d.size)(C:d.size<1000000000):
  QM prog 274 h [.ref lo g 0 d.size,Qb a,Qb b] (λy u=>y=.tup []/\u=h.set lo (Zh g (Sort.reverseRange d a b))):=by
 have v:IntKind.i64.wrap ((b:Int) - 1)=((b - 1:Nat):Int):=ZB;refine Q8 func274 ntmps274 results274 λs w B m=>?_;have r:=Qc ho;simp only[go_sem,Qa,ho,r,v];refine ZW (λk t=>∃e:Array Int,e.size=d.size/\Sort.reverseLoop (a+k) (b - 1 - k) e=Sort.reverseRange d a b/\a+k<=b - k/\t=⟨[(0,.ref lo g 0 d.size),(6,Qb (a+k:Nat)),(7,Qb (b - 1 - k:Nat))],h.set lo (Zh g e)⟩) d.size (s0:=⟨[(0,.ref lo g 0 d.size),(6,Qb (a+0:Nat)),(7,Qb (b - 1 - 0:Nat))],h.set lo (Zh g d)⟩) ?_ ⟨d,rfl,rfl,ω,rfl⟩ ?_
 .rw[wO ho];exact Qr.frame (by simp only[go_sem,EJ])
 rintro k _ E ⟨e,j,l,F,rfl⟩;have f:=vK (g:=g) (d:=e) r;generalize o:h.set lo (Zh g e)=H at f;have i:=Qc f;by_cases c:a+k<b - 1 - k
 .have n:decide (a+k<b - 1 - k)=true:=QT c;have q:a+k<d.size:=ω;have p:b - 1 - k<d.size:=ω;apply Qf m;simp only[go_sem,Qa,f,i,n];apply Qx m ii;simp only[go_sem,Qa,f,i,j,q,p,Qt i,JE,kr];have v1:IntKind.i64.wrap (((a+k:Nat):Int)+1)=((a+(k+1):Nat):Int):=ZB;have v2:IntKind.i64.wrap (((b - 1 - k:Nat):Int) - 1)=((b - 1 - (k+1):Nat):Int):=ZB;rw[ku g e _ _ _ j q p,v1,v2];have z:Sort.reverseLoop (a+(k+1)) (b - 1 - (k+1)) (Sort.swp e (a+k) (b - 1 - k))=Sort.reverseRange d a b:=by
   rw[<- l]
   conv=>rhs;rw[Sort.reverseLoop,Qe c]
   congr 1
  refine⟨ω,_,?_,Sort.swp e (a+k) (b - 1 - k),by rw[swp_size,j],z,ω,rfl⟩;rw[<- o,JE];exact QQ
 .have n:decide (a+k<b - 1 - k)=false:=QH c;apply Qf m;simp only[go_sem,Qa,f,i,n];rw[Sort.reverseLoop,Qd c]at l;subst o;exact congrArg (λx=>h.set lo (Zh g x)) l
end
def QhH(a):∀(j:Nat) (d:Array Int),(Sort.insInner Qs a j d).size=d.size
 | 0,d=>rfl
 | j+1,d=>by rw[Sort.insInner];split;rw[QhH a j,swp_size];rfl
section
variable {h:List Ob}{lo g:Nat}{d:Array Int}(ho:h[lo]? = some (Zh g d))
include ho
theorem QwW(a b)(Z:a<=b)(Y:b<=d.size)(S:d.size<1000000000):
  QM prog 270 h [.ref lo g 0 d.size,Qb a,Qb b] (λP N=>P=.tup []/\N=h.set lo (Zh g (Sort.insertionSort Qs d a b))):=by
 have O:IntKind.i64.wrap ((a:Int)+1)=((a+1:Nat):Int):=ZB;refine Q8 func270 ntmps270 results270 λK w R e=>?_;have E:=Qc ho;simp only[go_sem,Qa,ho,E,O];refine ZW (λk v=>∃f:Array Int,f.size=d.size/\Sort.insOuter Qs a b (a+1+k) f=Sort.insertionSort Qs d a b/\a+1+k<=b+1/\v=⟨[(0,.ref lo g 0 d.size),(1,Qb a),(2,Qb b),(6,Qb (a+1+k:Nat))],h.set lo (Zh g f)⟩) d.size (s0:=⟨[(0,.ref lo g 0 d.size),(1,Qb a),(2,Qb b),(6,Qb (a+1+0:Nat))],h.set lo (Zh g d)⟩) ?_ ⟨d,rfl,rfl,ω,rfl⟩ ?_
 .rw[wO ho];exact QQ
 rintro k _ U ⟨f,M,r,W,rfl⟩;have J:=vK (g:=g) (d:=f) E;by_cases c:a+1+k<b
 .have C:decide (a+1+k<b)=true:=QT c;apply Qf e;simp only[go_sem,Qa,J,C];refine ZW (λm v=>∃(d1:Array Int) (j:Nat),d1.size=d.size/\j+m=a+1+k/\Sort.insInner Qs a j d1=Sort.insInner Qs a (a+1+k) f/\a<=j/\v=⟨[(0,.ref lo g 0 d.size),(1,Qb a),(2,Qb b),(6,Qb (a+1+k:Nat)),(7,Qb j)],h.set lo (Zh g d1)⟩) (a+1+k) (s0:=⟨[(0,.ref lo g 0 d.size),(1,Qb a),(2,Qb b),(6,Qb (a+1+k:Nat)),(7,Qb (a+1+k:Nat))],h.set lo (Zh g f)⟩) QQ ⟨f,_,M,rfl,rfl,Kv (IM a) (Nat.le_add_right _ _),rfl⟩ ?_;rintro m _ T ⟨d1,j,i,V,I,Q,rfl⟩;have l:=vK (g:=g) (d:=d1) E;generalize B:h.set lo (Zh g d1)=H at l;have p:=Qc l;by_cases u:a<j
  .have o:decide (a<j)=true:=QT u;have v1:IntKind.i64.wrap ((j:Int) - 1)=((j - 1:Nat):Int):=ZB;have z:j<d.size:=ω;have y:j - 1<d.size:=ω;apply Qf e;simp only[go_sem,Qa,l,p,o,v1];apply Qx e [0,1,2,3,4,5,6,7,8,9,10,11,12,1013,14];simp only[go_sem,Qa,l,p,o,v1,z,y,i];apply Kw e jZ (wN d1[j]! d1[j - 1]!);apply VD e;have n:Sort.insInner Qs a j d1=if Qs d1[j]! d1[j - 1]! then Sort.insInner Qs a (j - 1) (Sort.swp d1 j (j - 1)) else d1:=by
    obtain⟨q,rfl⟩:∃q,j=q+1:=⟨j - 1,ω⟩;rw[Sort.insInner];simp[show q+1 > a from u]
   cases t:Qs d1[j]! d1[j - 1]!
   .rw[t,Qd π]at n;simp only[go_sem,t];apply QP e;have v2:IntKind.i64.wrap (((a+1+k:Nat):Int)+1)=((a+1+(k+1):Nat):Int):=ZB;rw[v2];have F:Sort.insOuter Qs a b (a+1+(k+1)) d1=Sort.insertionSort Qs d a b:=by
     rw[<- r]
     conv=>rhs;rw[Sort.insOuter,Qe c]
     rw[<- I,n];rfl
    refine⟨ω,_,?_,d1,i,F,ω,rfl⟩;rw[<- B];exact QQ
   .rw[t,Qe rfl]at n;simp only[go_sem,t];refine FP (⟨[(0,.ref lo g 0 d.size),(1,Qb a),(2,Qb b),(6,Qb (a+1+k:Nat)),(7,Qb j)],h.set lo (Zh g (Sort.swp d1 j (j - 1)))⟩) KS e mixed [(0,true),(1,true),(2,true),(3,true),(5,true),(6,true),(7,true),(8,true),(9,true),(10,true),(11,true),(12,true),(13,true),(14,true)] [4,15,16,17] τ τ (λs L=>CE L rfl ?_) ?_
    rotate_left
    .simp only[go_sem,Qa,l,p,o,v1,z,y,i,Qt p,JE,kr];rw[ku g d1 _ _ _ i z y,<- B,JE]
     repeat' refine And.intro ?_ ?_
     all_goals exact QQ
    apply Qf e;simp only[go_sem,v1];refine⟨ω,_,?_,Sort.swp d1 j (j - 1),j - 1,by rw[swp_size,i],ω,by rw[<- n,I],ω,rfl⟩;exact QQ
  .have o:decide (a<j)=false:=QH u;have n:Sort.insInner Qs a j d1=d1:=by
    cases j with
    | zero=>rfl
    | succ q=>rw[Sort.insInner];simp[show ¬ q+1 > a from u]
   apply Qf e;simp only[go_sem,Qa,l,p,o];apply Qx e [0,1,2,3,4,5,6,7,8,9,10,11,12,1013,14];simp only[go_sem,Qa,l,p,o,i];apply QP e;have v2:IntKind.i64.wrap (((a+1+k:Nat):Int)+1)=((a+1+(k+1):Nat):Int):=ZB;rw[v2];have F:Sort.insOuter Qs a b (a+1+(k+1)) d1=Sort.insertionSort Qs d a b:=by
    rw[<- r]
    conv=>rhs;rw[Sort.insOuter,Qe c]
    rw[<- I,n];rfl
   refine⟨ω,_,?_,d1,i,F,ω,rfl⟩;rw[<- B];exact QQ
 .have C:decide (a+1+k<b)=false:=QH c;rw[Sort.insOuter,Qd c]at r;apply Qf e;simp only[go_sem,Qa,J,C];exact congrArg (λx=>h.set lo (Zh g x)) r
end
def sL(c first):∀(n a:Nat) (d:Array Int),c - a<=n->(Sort.siftDown Qs c first a d).size=d.size
 | n,a,d,e=>by
  rw[Sort.siftDown];split
  .rfl
  .rename_i f;split
   .split
    .rfl
    .split
     .obtain⟨b,rfl⟩:∃b,n=b+1:=⟨n - 1,ω⟩;rw[sL c first b _ _ ω,swp_size]
     .rfl
   .split
    .rfl
    .obtain⟨b,rfl⟩:∃b,n=b+1:=⟨n - 1,ω⟩;rw[sL c first b _ _ ω,swp_size]
section
variable {h:List Ob}{lo g:Nat}{d:Array Int}(ho:h[lo]? = some (Zh g d))
include ho
theorem QhI(b first a)(S:first+b<=d.size)(L:a<=d.size)(Q:d.size<1000000000):
  QM prog 282 h [.ref lo g 0 d.size,Qb a,Qb b,Qb first] (λN M=>N=.tup []/\M=h.set lo (Zh g (Sort.siftDown Qs b first a d))):=by
 refine Q8 func282 ntmps282 results282 λJ w P c=>?_;have I:=Qc ho;simp only[go_sem,Qa,ho,I];refine ZW (λm K=>∃(d1:Array Int) (r:Nat),d1.size=d.size/\m<=r/\r<=d.size/\Sort.siftDown Qs b first r d1=Sort.siftDown Qs b first a d/\K=⟨[(0,.ref lo g 0 d.size),(2,Qb b),(3,Qb first),(8,Qb r)],h.set lo (Zh g d1)⟩) (d.size) (s0:=⟨[(0,.ref lo g 0 d.size),(2,Qb b),(3,Qb first),(8,Qb a)],h.set lo (Zh g d)⟩) ?_ ⟨d,a,rfl,Jj _,L,rfl,rfl⟩ ?_
 .rw[wO ho];exact QQ
 rintro m _ R ⟨d1,r,f,U,T,e,rfl⟩;have i:=vK (g:=g) (d:=d1) I;generalize q:h.set lo (Zh g d1)=H at i;have j:=Qc i;have v1:IntKind.i64.wrap (2*(r:Int))=((2*r:Nat):Int):=ZB;have v2:IntKind.i64.wrap (((2*r:Nat):Int)+1)=((2*r+1:Nat):Int):=ZB;have v3:IntKind.i64.wrap (((2*r+1:Nat):Int)+1)=((2*r+1+1:Nat):Int):=ZB;rw[Sort.siftDown]at e;by_cases v:b<=2*r+1
 .have B:decide (b<=2*r+1)=true:=QT v;rw[dif_pos v]at e;apply Qf c;simp only[go_sem,Qa,i,j,v1,v2,B];exact q.symm.trans (congrArg (λx=>h.set lo (Zh g x)) e)
 .have B:decide (b<=2*r+1)=false:=QH v;rw[dif_neg v]at e;have l:first+r<d.size:=ω;have p:first+(2*r+1)<d.size:=ω;have u:IntKind.i64.wrap ((first:Int)+r)=((first+r:Nat):Int):=ZB;have t:IntKind.i64.wrap ((first:Int)+(2*r+1:Nat))=((first+(2*r+1):Nat):Int):=ZB;have E:IntKind.i64.wrap ((first:Int)+(2*r+1+1:Nat))=((first+(2*r+1+1):Nat):Int):=ZB;have C:IntKind.i64.wrap (((first+(2*r+1):Nat):Int)+1)=((first+(2*r+1)+1:Nat):Int):=ZB;apply Qf c;simp only[go_sem,Qa,i,j,v1,v2,B];first|refine ql ?_|skip
  refine Cc [0,2,3,8,9] [(36,QX (decide (2*r+1+1<b)&&Qs d1[first+(2*r+1)]! d1[first+(2*r+1)+1]!))] rfl ?_ ?_
  .by_cases F:2*r+1+1<b
   .have z:decide (2*r+1+1<b)=true:=QT F;have o:first+(2*r+1)+1<d.size:=ω;apply Qx c o10;simp only[go_sem,Qa,i,j,f,v3,z,t,C,p,o];apply Kw c jZ (wN d1[first+(2*r+1)]! d1[first+(2*r+1)+1]!);apply VD c;exact QQ
   .have z:decide (2*r+1+1<b)=false:=QH F;apply Qx c o10;simp only[go_sem,Qa,i,j,f,v3,z,t,C,p];exact QQ
  .cases n:(decide (2*r+1+1<b)&&Qs d1[first+(2*r+1)]! d1[first+(2*r+1)+1]!)
   .rw[n,Qd π]at e;apply Qf c;simp only[go_sem,n];apply Qx c Id;simp only[go_sem,Qa,i,j,f,u,t,l,p];apply Kw c jZ (wN d1[first+r]! d1[first+(2*r+1)]!);apply VD c;cases k:Qs d1[first+r]! d1[first+(2*r+1)]!
    .rw[k,Gx,Qe rfl]at e;simp only[go_sem,k];exact q.symm.trans (congrArg (λx=>h.set lo (Zh g x)) e)
    .rw[k,Da,Qd π]at e
     skip
     simp only[go_sem,k];refine FP (⟨[(0,.ref lo g 0 d.size),(2,Qb b),(3,Qb first),(9,Qb (2*r+1:Nat))],h.set lo (Zh g (Sort.swp d1 (first+r) (first+(2*r+1))))⟩) KS c mixed [(0,true),(1,true),(2,true),(3,true),(4,true),(5,true),(6,true),(8,true),(9,true),(10,true),(11,true),(12,true),(13,true),(14,true),(15,true),(16,true),(17,true),(18,true),(19,true),(20,true)] [7,21,22,23] τ τ (λs y=>CE y rfl ?_) ?_
     rotate_left
     .simp only[go_sem,Qa,i,j,u,t,l,p,f,Qt j,JE,kr];rw[ku g d1 _ _ _ f l p,<- q,JE]
      repeat' refine And.intro ?_ ?_
      all_goals exact QQ
     apply QV c;refine⟨ω,_,?_,Sort.swp d1 (first+r) (first+(2*r+1)),2*r+1,by rw[swp_size,f],ω,ω,e,rfl⟩;exact QQ
   .have O:2*r+1+1<b:=by
     rw[ZL]at n;exact qQ n.1
    rw[n,Qe rfl]at e;have o:first+(2*r+1+1)<d.size:=ω;apply Qf c;simp only[go_sem,n,v3];apply Qx c Id;simp only[go_sem,Qa,i,j,f,u,E,l,o];apply Kw c jZ (wN d1[first+r]! d1[first+(2*r+1+1)]!);apply VD c;cases k:Qs d1[first+r]! d1[first+(2*r+1+1)]!
    .rw[k,Gx,Qe rfl]at e;simp only[go_sem,k];exact q.symm.trans (congrArg (λx=>h.set lo (Zh g x)) e)
    .rw[k,Da,Qd π]at e;rw[dif_pos (show 2*r+2<b from O)]at e;simp only[go_sem,k];refine FP (⟨[(0,.ref lo g 0 d.size),(2,Qb b),(3,Qb first),(9,Qb (2*r+1+1:Nat))],h.set lo (Zh g (Sort.swp d1 (first+r) (first+(2*r+1+1))))⟩) KS c mixed [(0,true),(1,true),(2,true),(3,true),(4,true),(5,true),(6,true),(8,true),(9,true),(10,true),(11,true),(12,true),(13,true),(14,true),(15,true),(16,true),(17,true),(18,true),(19,true),(20,true)] [7,21,22,23] τ τ (λs y=>CE y rfl ?_) ?_
     rotate_left
     .simp only[go_sem,Qa,i,j,u,E,l,o,f,Qt j,JE,kr];rw[ku g d1 _ _ _ f l o,<- q,JE]
      repeat' refine And.intro ?_ ?_
      all_goals exact QQ
     apply QV c;refine⟨ω,_,?_,Sort.swp d1 (first+r) (first+(2*r+1+1)),2*r+1+1,by rw[swp_size,f],ω,ω,e,rfl⟩;exact QQ
end
def gS(b first a)(d:Array Int):(Sort.siftDown Qs b first a d).size=d.size:=sL b first _ a d (QB _)
def QhJ(a first):∀(k:Nat) (d:Array Int),(Sort.heapBuild Qs a first k d).size=d.size
 | 0,d=>rfl
 | k+1,d=>by rw[Sort.heapBuild,QhJ a first k,gS]
def QhK(n:Nat):decide ((0:Int)<=(n:Int))=true:=QT (Int.natCast_nonneg n)
section
variable {h:List Ob}{lo g:Nat}{d:Array Int}(ho:h[lo]? = some (Zh g d))
include ho
theorem QwX(a b)(V:a<b)(T:b<=d.size)(P:d.size<1000000000):
  QM prog 271 h [.ref lo g 0 d.size,Qb a,Qb b] (λM I=>M=.tup []/\I=h.set lo (Zh g (Sort.heapSort Qs d a b))):=by
 have L:IntKind.i64.wrap ((b:Int) - a)=((b - a:Nat):Int):=ZB;have r:IntKind.i64.wrap (((b - a:Nat):Int) - 1)=((b - a - 1:Nat):Int):=ZB;have K:((b - a - 1:Nat):Int).tdiv 2=(((b - a - 1) / 2:Nat):Int):=rfl;have J:IntKind.i64.wrap ((((b - a - 1) / 2:Nat):Int))=(((b - a - 1) / 2:Nat):Int):=by rw[wrap64 ω ω]
 have N:((0:Nat):Int)=0:=rfl;refine Q8 func271 ntmps271 results271 λE w O c=>?_;have i:=Qc ho;simp only[go_sem,Qa,ho,i,L,r,K,J];unfold Sort.heapSort;refine ZW (λm o=>∃(d1:Array Int) (k:Nat),d1.size=d.size/\k+m=(b - a - 1) / 2+1/\Sort.heapBuild Qs (b - a) a k d1=Sort.heapBuild Qs (b - a) a ((b - a - 1) / 2+1) d/\o=⟨[(0,.ref lo g 0 d.size),(6,Qb a),(7,Qb 0),(8,Qb (b - a:Nat)),(9,Qb ((k:Int) - 1))],h.set lo (Zh g d1)⟩) ((b - a - 1) / 2+1) (s0:=⟨[(0,.ref lo g 0 d.size),(6,Qb a),(7,Qb 0),(8,Qb (b - a:Nat)),(9,Qb ((((b - a - 1) / 2+1:Nat):Int) - 1))],h.set lo (Zh g d)⟩) ?_ ⟨d,_,rfl,rfl,rfl,rfl⟩ ?_
 .rw[wO ho,show ((((b - a - 1) / 2+1:Nat):Int) - 1)=(((b - a - 1) / 2:Nat):Int) by omega];exact QQ
 rintro m _ R ⟨d1,k,t,S,f,rfl⟩;have u:=vK (g:=g) (d:=d1) i;rcases k with _|k
 .rw[Sort.heapBuild]at f;apply Qf c;simp only[go_sem,Qa,u,show ((0:Nat):Int) - 1=-1 from rfl,show decide ((0:Int)<=-1)=false from rfl,r];apply Qf c;simp only[go_sem,Qa,r];rw[<- f];refine ZW (λm o=>∃(d2:Array Int) (k:Nat),d2.size=d.size/\k+m=b - a/\Sort.heapPop Qs a k d2=Sort.heapPop Qs a (b - a) d1/\o=⟨[(0,.ref lo g 0 d.size),(6,Qb a),(7,Qb 0),(10,Qb ((k:Int) - 1))],h.set lo (Zh g d2)⟩) (b - a) (s0:=⟨[(0,.ref lo g 0 d.size),(6,Qb a),(7,Qb 0),(10,Qb (((b - a:Nat):Int) - 1))],h.set lo (Zh g d1)⟩) ?_ ⟨d1,_,t,rfl,rfl,rfl⟩ ?_
  .rw[show (((b - a:Nat):Int) - 1)=((b - a - 1:Nat):Int) by omega];exact QQ
  rintro n _ Q ⟨d2,k,v,U,j,rfl⟩;have e:=vK (g:=g) (d:=d2) i;generalize B:h.set lo (Zh g d2)=H at e;have p:=Qc e;rcases k with _|k
  .rw[Sort.heapPop]at j;apply Qf c;simp only[go_sem,Qa,e,show ((0:Nat):Int) - 1=-1 from rfl,show decide ((0:Int)<=-1)=false from rfl];exact B.symm.trans (congrArg (λx=>h.set lo (Zh g x)) j)
  .rw[Sort.heapPop]at j;have l:(((k+1:Nat):Int) - 1)=(k:Int):=ω;have v1:IntKind.i64.wrap ((a:Int)+k)=((a+k:Nat):Int):=ZB;have v2:IntKind.i64.wrap ((k:Int) - 1)=(k:Int) - 1:=wrap64 ω ω;have z:a<d.size:=ω;have y:a+k<d.size:=ω;apply Qf c;simp only[go_sem,Qa,e,p,l,QhK];refine FP (⟨[(0,.ref lo g 0 d.size),(6,Qb a),(7,Qb 0),(10,Qb k)],h.set lo (Zh g (Sort.swp d2 a (a+k)))⟩) KS c mixed [(0,true),(1,true),(2,true),(3,true),(4,true),(6,true),(7,true),(8,true),(9,true),(10,true),(11,true),(12,true),(13,true),(14,true),(15,true),(16,true)] [5,17,18,19] τ τ (λs F=>CE F rfl ?_) ?_
   rotate_left
   .simp only[go_sem,Qa,e,p,v1,z,y,v,Qt p,JE,kr];rw[ku g d2 _ _ _ v z y,<- B,JE]
    repeat' refine And.intro ?_ ?_
    all_goals exact QQ
   apply QV c;have C:(Sort.swp d2 a (a+k)).size=d.size:=by rw[swp_size,v]
   refine V5 c QfC rfl ?_ (C▸QhI (vK (g:=g) (d:=Sort.swp d2 a (a+k)) i) k a 0 ω ω ω) rfl λd h q=>?_
   .simp only[go_sem,JE,v2]
   obtain⟨rfl,rfl⟩:=q;apply Qf c;simp only[go_sem,JE,v2];refine⟨ω,_,?_,Sort.siftDown Qs k a 0 (Sort.swp d2 a (a+k)),k,by rw[gS,C],ω,j,rfl⟩;exact QQ
 .rw[Sort.heapBuild]at f;have l:(((k+1:Nat):Int) - 1)=(k:Int):=ω;have v2:IntKind.i64.wrap ((k:Int) - 1)=(k:Int) - 1:=wrap64 ω ω;apply Qf c;simp only[go_sem,Qa,u,l,QhK];refine V5 c QfC rfl ?_ (t▸QhI u (b - a) a k ω ω ω) rfl λd h q=>?_
  .simp only[go_sem,JE,v2]
  obtain⟨rfl,rfl⟩:=q;apply Qf c;simp only[go_sem,JE,v2];refine⟨ω,_,?_,Sort.siftDown Qs (b - a) a k d1,k,by rw[gS,t],ω,f,rfl⟩;exact QQ
end
def sO(p)(d:Array Int)(i j)(a:0<i):Sort.scanDown p d i j=if i<=j&&p d[j]! then Sort.scanDown p d i (j - 1) else j:=by
 cases j with
 | zero=>
  rw[Sort.scanDown,Qd];simp;omega
 | succ j=>rw[Sort.scanDown];rfl
def gT(p q:Int->Bool)(f:∀x,q x=!p x)(d:Array Int)(i j:Nat)(m:0<i)(n:i<=j+1)(h:¬ Sort.scanUp p d j i > Sort.scanDown q d (Sort.scanUp p d j i) j):
  Sort.scanUp p d j i<Sort.scanDown q d (Sort.scanUp p d j i) j:=by
 obtain⟨l,k,g,c⟩:=Sort.scanUp_spec p d j _ i rfl;obtain⟨v1,v2,v3,b⟩:=Sort.scanDown_spec q d (Sort.scanUp p d j i) j;rcases xn (Sort.scanUp p d j i) (Sort.scanDown q d (Sort.scanUp p d j i) j) with a|a
 .exact a
 .have e:Sort.scanUp p d j i=Sort.scanDown q d (Sort.scanUp p d j i) j:=ω;have f1:=c ω;have f2:=b ω ω;rw[f,<- e,f1]at f2;cases f2
def QhL(a):∀(n i j:Nat) (d:Array Int),j+1 - i<=n->(Sort.partEqLoop Qs a i j d).2.size=d.size
 | n,i,j,d,c=>by
  rw[Sort.partEqLoop_eq];split
  .rfl
  .rename_i h;have:=Sort.partEqLoop_guard Qs a i j d h;obtain⟨b,rfl⟩:∃b,n=b+1:=⟨n - 1,ω⟩;rw[QhL a b _ _ _ ω,swp_size]
def QhM(a):∀(n i j:Nat) (d:Array Int),j+1 - i<=n->(Sort.partLoop Qs a i j d).2.size=d.size
 | n,i,j,d,c=>by
  rw[Sort.partLoop_eq];split
  .rfl
  .rename_i h;have:=Sort.partLoop_guard Qs a i j d h;obtain⟨b,rfl⟩:∃b,n=b+1:=⟨n - 1,ω⟩;rw[QhM a b _ _ _ ω,swp_size]
section
variable {h:List Ob}{lo g:Nat}{d:Array Int}(ho:h[lo]? = some (Zh g d))
include ho
theorem QwY(a b n)(Vf:a<b)(Zw:b<=d.size)(hp:a<=n)(ou:n<b)(hz:d.size<1000000000):
  QM prog 276 h [.ref lo g 0 d.size,Qb a,Qb b,Qb n] (λdd Z=>dd=Qb (Sort.partitionEqual Qs d a b n).1/\Z=h.set lo (Zh g (Sort.partitionEqual Qs d a b n).2)):=by
 have e0:IntKind.i64.wrap ((a:Int)+1)=((a+1:Nat):Int):=ZB;have e1:IntKind.i64.wrap ((b:Int) - 1)=((b - 1:Nat):Int):=ZB;have q:a<d.size:=ω;have N:n<d.size:=ω;have a5:d.size=d.size:=rfl;refine Q8 func276 ntmps276 results276 λQ w pl f=>?_;have y:=Qc ho;simp only[go_sem,Qa,ho,y];apply Qx f ii;simp only[go_sem,Qa,ho,y,q,N,Qt y,JE,kr];rw[ku g d _ _ _ rfl q N];apply Qf f;simp only[go_sem,e0,e1];unfold Sort.partitionEqual;refine ZW (λm r=>∃(d1:Array Int) (i j:Nat),d1.size=d.size/\a<i/\i<=j+1/\j<b/\m+(j+1 - i)<=b/\Sort.partEqLoop Qs a i j d1=Sort.partEqLoop Qs a (a+1) (b - 1) (Sort.swp d a n)/\r=⟨[(0,.ref lo g 0 d.size),(1,Qb a),(9,Qb i),(10,Qb j)],h.set lo (Zh g d1)⟩) b (s0:=⟨[(0,.ref lo g 0 d.size),(1,Qb a),(9,Qb (a+1:Nat)),(10,Qb (b - 1:Nat))],h.set lo (Zh g (Sort.swp d a n))⟩) QQ ⟨_,a+1,b - 1,swp_size d a n,ω,ω,ω,ω,rfl,rfl⟩ ?_;rintro m _ hm ⟨d1,i,j,p,Pw,P,a7,fv,t,rfl⟩;have l:=vK (g:=g) (d:=d1) y;generalize O:h.set lo (Zh g d1)=H at l;have o:=Qc l;rw[Sort.partEqLoop_eq]at t;have My:=gT (λx=>!Qs d1[a]! x) (λx=>Qs d1[a]! x) (λx=>σ) d1 i j ω P;obtain⟨u1,V,u3,u4⟩:=Sort.scanUp_spec (λx=>!Qs d1[a]! x) d1 j _ i rfl;have U:=V P;generalize W:Sort.scanUp (λx=>!Qs d1[a]! x) d1 j i=z at *;obtain⟨w1,R,w3,w4⟩:=Sort.scanDown_spec (λx=>Qs d1[a]! x) d1 z j;have w5:=R U;generalize Z1:Sort.scanDown (λx=>Qs d1[a]! x) d1 z j=Y at *;apply QP f;refine ZW (λm r=>∃c:Nat,c=i+m/\c<=j+1/\Sort.scanUp (λx=>!Qs d1[a]! x) d1 j c=z/\r=⟨[(0,.ref lo g 0 d.size),(1,Qb a),(9,Qb c),(10,Qb j)],H⟩) d.size (s0:=⟨[(0,.ref lo g 0 d.size),(1,Qb a),(9,Qb i),(10,Qb j)],H⟩) QQ ⟨i,rfl,ω,W,rfl⟩ ?_;rintro ma _ a6 ⟨c,a4,a3,v,rfl⟩;have ga:c<=j->c<d.size:=ω;rw[Sort.scanUp]at v;apply Qf f;simp only[go_sem,Qa,l,o];first|refine ql ?_|skip
 refine Cc [0,1,9,10] [(43,QX (decide (c<=j)&&!Qs d1[a]! d1[c]!))] rfl ?_ ?_
 .by_cases I:c<=j
  .have E:decide (c<=j)=true:=QT I;have K:=ga I;apply Qx f o00;simp only[go_sem,Qa,l,o,p,E,q,K];apply Kw f jZ (wN d1[a]! d1[c]!);apply VD f;exact QQ
  .have E:decide (c<=j)=false:=QH I;apply Qx f o00;simp only[go_sem,Qa,l,o,p,E,q];exact QQ
 cases k:(decide (c<=j)&&!Qs d1[a]! d1[c]!)
 .rw[k,Qd π]at v;apply Qf f;simp only[go_sem,Qa,k];subst v;apply QP f;refine ZW (λm r=>∃e:Nat,e+m=j/\c<=e+1/\Sort.scanDown (λx=>Qs d1[a]! x) d1 c e=Y/\r=⟨[(0,.ref lo g 0 d.size),(1,Qb a),(9,Qb c),(10,Qb e)],H⟩) d.size (s0:=⟨[(0,.ref lo g 0 d.size),(1,Qb a),(9,Qb c),(10,Qb j)],H⟩) QQ ⟨j,rfl,ω,Z1,rfl⟩ ?_;rintro mb _ DU ⟨e,Dv,a2,u,rfl⟩;have gb:c<=e->e<d.size:=ω;rw[sO _ _ _ _ ω]at u;apply Qf f;simp only[go_sem,Qa,l,o];first|refine ql ?_|skip
  refine Cc [0,1,9,10] [(59,QX (decide (c<=e)&&Qs d1[a]! d1[e]!))] rfl ?_ ?_
  .by_cases F:c<=e
   .have C:decide (c<=e)=true:=QT F;have J:=gb F;apply Qx f Id;simp only[go_sem,Qa,l,o,p,C,q,J];apply Kw f jZ (wN d1[a]! d1[e]!);apply VD f;exact QQ
   .have C:decide (c<=e)=false:=QH F;apply Qx f Id;simp only[go_sem,Qa,l,o,p,C,q];exact QQ
  cases k:(decide (c<=e)&&Qs d1[a]! d1[e]!)
  .rw[k,Qd π]at u;apply Qf f;simp only[go_sem,Qa,k];have DV:IntKind.i64.wrap ((c:Int)+1)=((c+1:Nat):Int):=ZB;subst u;by_cases s:e<c
   .have B:decide (e<c)=true:=QT s;rw[Qe s]at t;apply Qf f;simp only[go_sem,Qa,B];apply QP f;rw[<- t,<- O];first|exact⟨rfl,rfl⟩|rfl
   .have B:decide (e<c)=false:=QH s;have a8:=My s;have M:c<d.size:=ω;have L:e<d.size:=ω;have Ub:IntKind.i64.wrap ((e:Int) - 1)=((e - 1:Nat):Int):=ZB;rw[Qd s]at t;apply Qf f;simp only[go_sem,Qa,B];apply Qx f ii;simp only[go_sem,Qa,l,o,p,M,L,Qt o,JE,kr,DV,Ub];rw[ku g d1 _ _ _ p M L];refine⟨ω,_,?_,Sort.swp d1 c e,c+1,e - 1,by rw[swp_size,p],ω,ω,ω,ω,t,rfl⟩;rw[<- O,JE];exact QQ
  .rw[k,Qe rfl]at u;have a0:c<=e:=by
    rw[ZL]at k;exact qQ k.1
   have S:IntKind.i64.wrap ((e:Int) - 1)=((e - 1:Nat):Int):=ZB;apply Qf f;simp only[go_sem,Qa,k,S];refine⟨ω,_,?_,e - 1,ω,ω,u,rfl⟩;exact QQ
 .rw[k,Qe rfl]at v;have a1:c<=j:=by
   rw[ZL]at k;exact qQ k.1
  have T:IntKind.i64.wrap ((c:Int)+1)=((c+1:Nat):Int):=ZB;apply Qf f;simp only[go_sem,Qa,k,T];refine⟨ω,_,?_,c+1,ω,ω,v,rfl⟩;exact QQ
omit ho in
theorem Qw3(d)(a b c):Sort.partition Qs d a b c =
  if Sort.scanUp (λx=>Qs x (Sort.swp d a c)[a]!) (Sort.swp d a c) (b - 1) (a+1) > Sort.scanDown (λx=>!Qs x (Sort.swp d a c)[a]!) (Sort.swp d a c) (Sort.scanUp (λx=>Qs x (Sort.swp d a c)[a]!) (Sort.swp d a c) (b - 1) (a+1)) (b - 1) then
   (Sort.scanDown (λx=>!Qs x (Sort.swp d a c)[a]!) (Sort.swp d a c) (Sort.scanUp (λx=>Qs x (Sort.swp d a c)[a]!) (Sort.swp d a c) (b - 1) (a+1)) (b - 1),true,Sort.swp (Sort.swp d a c) (Sort.scanDown (λx=>!Qs x (Sort.swp d a c)[a]!) (Sort.swp d a c) (Sort.scanUp (λx=>Qs x (Sort.swp d a c)[a]!) (Sort.swp d a c) (b - 1) (a+1)) (b - 1)) a)
  else ((Sort.partLoop Qs a (Sort.scanUp (λx=>Qs x (Sort.swp d a c)[a]!) (Sort.swp d a c) (b - 1) (a+1)+1) (Sort.scanDown (λx=>!Qs x (Sort.swp d a c)[a]!) (Sort.swp d a c) (Sort.scanUp (λx=>Qs x (Sort.swp d a c)[a]!) (Sort.swp d a c) (b - 1) (a+1)) (b - 1) - 1) (Sort.swp (Sort.swp d a c) (Sort.scanUp (λx=>Qs x (Sort.swp d a c)[a]!) (Sort.swp d a c) (b - 1) (a+1)) (Sort.scanDown (λx=>!Qs x (Sort.swp d a c)[a]!) (Sort.swp d a c) (Sort.scanUp (λx=>Qs x (Sort.swp d a c)[a]!) (Sort.swp d a c) (b - 1) (a+1)) (b - 1)))).1,false,
   Sort.swp (Sort.partLoop Qs a (Sort.scanUp (λx=>Qs x (Sort.swp d a c)[a]!) (Sort.swp d a c) (b - 1) (a+1)+1) (Sort.scanDown (λx=>!Qs x (Sort.swp d a c)[a]!) (Sort.swp d a c) (Sort.scanUp (λx=>Qs x (Sort.swp d a c)[a]!) (Sort.swp d a c) (b - 1) (a+1)) (b - 1) - 1) (Sort.swp (Sort.swp d a c) (Sort.scanUp (λx=>Qs x (Sort.swp d a c)[a]!) (Sort.swp d a c) (b - 1) (a+1)) (Sort.scanDown (λx=>!Qs x (Sort.swp d a c)[a]!) (Sort.swp d a c) (Sort.scanUp (λx=>Qs x (Sort.swp d a c)[a]!) (Sort.swp d a c) (b - 1) (a+1)) (b - 1)))).2
    (Sort.partLoop Qs a (Sort.scanUp (λx=>Qs x (Sort.swp d a c)[a]!) (Sort.swp d a c) (b - 1) (a+1)+1) (Sort.scanDown (λx=>!Qs x (Sort.swp d a c)[a]!) (Sort.swp d a c) (Sort.scanUp (λx=>Qs x (Sort.swp d a c)[a]!) (Sort.swp d a c) (b - 1) (a+1)) (b - 1) - 1) (Sort.swp (Sort.swp d a c) (Sort.scanUp (λx=>Qs x (Sort.swp d a c)[a]!) (Sort.swp d a c) (b - 1) (a+1)) (Sort.scanDown (λx=>!Qs x (Sort.swp d a c)[a]!) (Sort.swp d a c) (Sort.scanUp (λx=>Qs x (Sort.swp d a c)[a]!) (Sort.swp d a c) (b - 1) (a+1)) (b - 1)))).1 a):=rfl
theorem Qw4(a b E)(Vf:a+1<b)(Zw:b<=d.size)(hp:a<=E)(ou:E<b)(hz:d.size<1000000000):
  QM prog 277 h [.ref lo g 0 d.size,Qb a,Qb b,Qb E] (λdd h'=>dd=.tup [Qb (Sort.partition Qs d a b E).1,QX (Sort.partition Qs d a b E).2.1]/\h'=h.set lo (Zh g (Sort.partition Qs d a b E).2.2)):=by
 have e0:IntKind.i64.wrap ((a:Int)+1)=((a+1:Nat):Int):=ZB;have e1:IntKind.i64.wrap ((b:Int) - 1)=((b - 1:Nat):Int):=ZB;have p:a<d.size:=ω;have pp:E<d.size:=ω;refine Q8 func277 ntmps277 results277 λa9 w pl c=>?_;have O:=Qc ho;simp only[go_sem,Qa,ho,O];apply Qx c ii;simp only[go_sem,Qa,ho,O,p,pp,Qt O,JE,kr];rw[ku g d _ _ _ rfl p pp,Qw3];apply Qf c;simp only[go_sem,e0,e1];generalize a2:Sort.swp d a E=k at *;have C:k.size=d.size:=by rw[<- a2,swp_size]
 have y:=vK (g:=g) (d:=k) O;generalize R:h.set lo (Zh g k)=P at y;have v:=Qc y;have a8:=gT (λx=>Qs x k[a]!) (λx=>!Qs x k[a]!) (λx=>rfl) k (a+1) (b - 1) ω ω;obtain⟨t1,t2,t3,t4⟩:=Sort.scanUp_spec (λx=>Qs x k[a]!) k (b - 1) _ (a+1) rfl;have t5:=t2 ω;generalize S:Sort.scanUp (λx=>Qs x k[a]!) k (b - 1) (a+1)=F at *;obtain⟨s1,s2,s3,s4⟩:=Sort.scanDown_spec (λx=>!Qs x k[a]!) k F (b - 1);have s5:=s2 t5;generalize Z1:Sort.scanDown (λx=>!Qs x k[a]!) k F (b - 1)=T at *;generalize c3:a+1=I0 at *;generalize c2:b - 1=q at *;rw[show h.set lo (⟨.arr,g,1,k.size,CG k⟩:Ob)=P from R];refine ZW (λm z=>∃e:Nat,e=I0+m/\e<=q+1/\Sort.scanUp (λx=>Qs x k[a]!) k q e=F/\z=⟨[(0,.ref lo g 0 d.size),(1,Qb a),(10,Qb e),(11,Qb q)],P⟩) d.size (s0:=⟨[(0,.ref lo g 0 d.size),(1,Qb a),(10,Qb I0),(11,Qb q)],P⟩) QQ ⟨I0,rfl,ω,S,rfl⟩ ?_;rintro me _ c0 ⟨e,b7,WM,N,rfl⟩;have ge:e<=q->e<d.size:=ω;rw[Sort.scanUp]at N;apply Qf c;simp only[go_sem,Qa,y,v];first|refine ql ?_|skip
 refine Cc [0,1,10,11] [(43,QX (decide (e<=q)&&Qs k[e]! k[a]!))] rfl ?_ ?_
 .by_cases ce:e<=q
  .have V:decide (e<=q)=true:=QT ce;have a4:=ge ce;apply Qx c Id;simp only[go_sem,Qa,y,v,C,V,p,a4];apply Kw c jZ (wN k[e]! k[a]!);apply VD c;exact QQ
  .have V:decide (e<=q)=false:=QH ce;apply Qx c Id;simp only[go_sem,Qa,y,v,C,V,p];exact QQ
 cases o:(decide (e<=q)&&Qs k[e]! k[a]!)
 .rw[o,Qd π]at N;apply Qf c;simp only[go_sem,Qa,o];subst N;apply QP c;refine ZW (λm z=>∃l:Nat,l+m=q/\e<=l+1/\Sort.scanDown (λx=>!Qs x k[a]!) k e l=T/\z=⟨[(0,.ref lo g 0 d.size),(1,Qb a),(10,Qb e),(11,Qb l)],P⟩) d.size (s0:=⟨[(0,.ref lo g 0 d.size),(1,Qb a),(10,Qb e),(11,Qb q)],P⟩) QQ ⟨q,rfl,ω,Z1,rfl⟩ ?_;rintro mf _ b9 ⟨l,b6,b4,M,rfl⟩;have gf:e<=l->l<d.size:=ω;rw[sO _ _ _ _ ω]at M;apply Qf c;simp only[go_sem,Qa,y,v];first|refine ql ?_|skip
  refine Cc [0,1,10,11] [(60,QX (decide (e<=l)&&!Qs k[l]! k[a]!))] rfl ?_ ?_
  .by_cases Z:e<=l
   .have U:decide (e<=l)=true:=QT Z;have a3:=gf Z;apply Qx c o00;simp only[go_sem,Qa,y,v,C,U,p,a3];apply Kw c jZ (wN k[l]! k[a]!);apply VD c;exact QQ
   .have U:decide (e<=l)=false:=QH Z;apply Qx c o00;simp only[go_sem,Qa,y,v,C,U,p];exact QQ
  cases o:(decide (e<=l)&&!Qs k[l]! k[a]!)
  .rw[o,Qd π]at M;apply Qf c;simp only[go_sem,Qa,o];subst M;have a1:IntKind.i64.wrap ((e:Int)+1)=((e+1:Nat):Int):=ZB;by_cases s:l<e
   .have I:decide (l<e)=true:=QT s;rw[Qe s];apply Qf c;simp only[go_sem,Qa,I];have r:l<d.size:=ω;apply Qx c ii;simp only[go_sem,Qa,y,v,C,r,p,Qt v,JE,kr];rw[ku g k _ _ _ C r p];rw[<- R,JE];first|exact⟨rfl,rfl⟩|rfl
   .have I:decide (l<e)=false:=QH s;have a7:=a8 s;have J:e<d.size:=ω;have r:l<d.size:=ω;have a0:IntKind.i64.wrap ((l:Int) - 1)=((l - 1:Nat):Int):=ZB;rw[Qd s];apply Qf c;simp only[go_sem,Qa,I];apply Qx c ii;simp only[go_sem,Qa,y,v,C,J,r,Qt v,JE,kr,a1,a0];rw[ku g k _ _ _ C J r,<- R,JE];refine ZW (λm z=>∃(d1:Array Int) (i j:Nat),d1.size=d.size/\a<i/\i<=j+1/\j<b/\m+(j+1 - i)<=b/\Sort.partLoop Qs a i j d1=Sort.partLoop Qs a (e+1) (l - 1) (Sort.swp k e l)/\z=⟨[(0,.ref lo g 0 d.size),(1,Qb a),(10,Qb i),(11,Qb j)],h.set lo (Zh g d1)⟩) b (s0:=⟨[(0,.ref lo g 0 d.size),(1,Qb a),(10,Qb (e+1:Nat)),(11,Qb (l - 1:Nat))],h.set lo (Zh g (Sort.swp k e l))⟩) QQ ⟨_,e+1,l - 1,by rw[swp_size,C],ω,ω,ω,ω,rfl,rfl⟩ ?_;rintro m _ hm ⟨d1,i,j,B,Pw,Vs,c1,fv,K,rfl⟩;have t:=vK (g:=g) (d:=d1) O;generalize hH:h.set lo (Zh g d1)=H at t;have u:=Qc t;rw[Sort.partLoop_eq]at K;have My:=gT (λx=>Qs x d1[a]!) (λx=>!Qs x d1[a]!) (λx=>rfl) d1 i j ω Vs;obtain⟨u1,u2,u3,u4⟩:=Sort.scanUp_spec (λx=>Qs x d1[a]!) d1 j _ i rfl;have u5:=u2 Vs;generalize S:Sort.scanUp (λx=>Qs x d1[a]!) d1 j i=F at *;obtain⟨w1,w2,w3,w4⟩:=Sort.scanDown_spec (λx=>!Qs x d1[a]!) d1 F j;have w5:=w2 u5;generalize Z1:Sort.scanDown (λx=>!Qs x d1[a]!) d1 F j=T at *;apply QP c;refine ZW (λm z=>∃f:Nat,f=i+m/\f<=j+1/\Sort.scanUp (λx=>Qs x d1[a]!) d1 j f=F/\z=⟨[(0,.ref lo g 0 d.size),(1,Qb a),(10,Qb f),(11,Qb j)],H⟩) d.size (s0:=⟨[(0,.ref lo g 0 d.size),(1,Qb a),(10,Qb i),(11,Qb j)],H⟩) QQ ⟨i,rfl,ω,S,rfl⟩ ?_;rintro mc _ yR ⟨f,fw,b5,Q,rfl⟩;have gc:f<=j->f<d.size:=ω;rw[Sort.scanUp]at Q;apply Qf c;simp only[go_sem,Qa,t,u];first|refine ql ?_|skip
    refine Cc [0,1,10,11] [(112,QX (decide (f<=j)&&Qs d1[f]! d1[a]!))] rfl ?_ ?_
    .by_cases cc:f<=j
     .have Y:decide (f<=j)=true:=QT cc;have a6:=gc cc;apply Qx c Id;simp only[go_sem,Qa,t,u,B,Y,p,a6];apply Kw c jZ (wN d1[f]! d1[a]!);apply VD c;exact QQ
     .have Y:decide (f<=j)=false:=QH cc;apply Qx c Id;simp only[go_sem,Qa,t,u,B,Y,p];exact QQ
    cases o:(decide (f<=j)&&Qs d1[f]! d1[a]!)
    .rw[o,Qd π]at Q;apply Qf c;simp only[go_sem,Qa,o];subst Q;apply QP c;refine ZW (λm z=>∃n:Nat,n+m=j/\f<=n+1/\Sort.scanDown (λx=>!Qs x d1[a]!) d1 f n=T/\z=⟨[(0,.ref lo g 0 d.size),(1,Qb a),(10,Qb f),(11,Qb n)],H⟩) d.size (s0:=⟨[(0,.ref lo g 0 d.size),(1,Qb a),(10,Qb f),(11,Qb j)],H⟩) QQ ⟨j,rfl,ω,Z1,rfl⟩ ?_;rintro md _ gU ⟨n,b8,Ue,L,rfl⟩;have gd:f<=n->n<d.size:=ω;rw[sO _ _ _ _ ω]at L;apply Qf c;simp only[go_sem,Qa,t,u];first|refine ql ?_|skip
     refine Cc [0,1,10,11] [(129,QX (decide (f<=n)&&!Qs d1[n]! d1[a]!))] rfl ?_ ?_
     .by_cases cd:f<=n
      .have W:decide (f<=n)=true:=QT cd;have a5:=gd cd;apply Qx c o00;simp only[go_sem,Qa,t,u,B,W,p,a5];apply Kw c jZ (wN d1[n]! d1[a]!);apply VD c;exact QQ
      .have W:decide (f<=n)=false:=QH cd;apply Qx c o00;simp only[go_sem,Qa,t,u,B,W,p];exact QQ
     cases o:(decide (f<=n)&&!Qs d1[n]! d1[a]!)
     .rw[o,Qd π]at L;apply Qf c;simp only[go_sem,Qa,o];have DV:IntKind.i64.wrap ((f:Int)+1)=((f+1:Nat):Int):=ZB;subst L;by_cases s:n<f
      .have I:decide (n<f)=true:=QT s;rw[Qe s]at K;apply Qf c;simp only[go_sem,Qa,I];apply QP c;have r:n<d.size:=ω;apply Qx c ii;simp only[go_sem,Qa,t,u,B,r,p,Qt u,JE,kr];rw[ku g d1 _ _ _ B r p];rw[<- K,<- hH,JE];first|exact⟨rfl,rfl⟩|rfl
      .have I:decide (n<f)=false:=QH s;have a7:=My s;have J:f<d.size:=ω;have r:n<d.size:=ω;have Ub:IntKind.i64.wrap ((n:Int) - 1)=((n - 1:Nat):Int):=ZB;rw[Qd s]at K;apply Qf c;simp only[go_sem,Qa,I];apply Qx c ii;simp only[go_sem,Qa,t,u,B,J,r,Qt u,JE,kr,DV,Ub];rw[ku g d1 _ _ _ B J r];refine⟨ω,_,?_,Sort.swp d1 f n,f+1,n - 1,by rw[swp_size,B],ω,ω,ω,ω,K,rfl⟩;rw[<- hH,JE];exact QQ
     .rw[o,Qe rfl]at L;have b2:f<=n:=by
       rw[ZL]at o;exact qQ o.1
      have vd:IntKind.i64.wrap ((n:Int) - 1)=((n - 1:Nat):Int):=ZB;apply Qf c;simp only[go_sem,Qa,o,vd];refine⟨ω,_,?_,n - 1,ω,ω,L,rfl⟩;exact QQ
    .rw[o,Qe rfl]at Q;have b3:f<=j:=by
      rw[ZL]at o;exact qQ o.1
     have vc:IntKind.i64.wrap ((f:Int)+1)=((f+1:Nat):Int):=ZB;apply Qf c;simp only[go_sem,Qa,o,vc];refine⟨ω,_,?_,f+1,ω,ω,Q,rfl⟩;exact QQ
  .rw[o,Qe rfl]at M;have b0:e<=l:=by
    rw[ZL]at o;exact qQ o.1
   have vf:IntKind.i64.wrap ((l:Int) - 1)=((l - 1:Nat):Int):=ZB;apply Qf c;simp only[go_sem,Qa,o,vf];refine⟨ω,_,?_,l - 1,ω,ω,M,rfl⟩;exact QQ
 .rw[o,Qe rfl]at N;have b1:e<=q:=by
   rw[ZL]at o;exact qQ o.1
  have ve:IntKind.i64.wrap ((e:Int)+1)=((e+1:Nat):Int):=ZB;apply Qf c;simp only[go_sem,Qa,o,ve];refine⟨ω,_,?_,e+1,ω,ω,N,rfl⟩;exact QQ
end
def sQ:∀(j:Nat) (d:Array Int),(Sort.shiftDown Qs j d).size=d.size
 | 0,d=>rfl
 | j+1,d=>by rw[Sort.shiftDown];split;rfl;rw[sQ j,swp_size]
def QhO(b):∀(n j:Nat) (d:Array Int),b - j<=n->(Sort.shiftUp Qs b j d).size=d.size
 | n,j,d,c=>by
  rw[Sort.shiftUp];split
  .split
   .rfl
   .obtain⟨a,rfl⟩:∃a,n=a+1:=⟨n - 1,ω⟩;rw[QhO b a _ _ ω,swp_size]
  .rfl
def QhP(d)(b):∀(n i:Nat),b - i<=n->i<=b->i<=Sort.scanSorted Qs d b i/\Sort.scanSorted Qs d b i<=b
 | n,i,e,f=>by
  rw[Sort.scanSorted];split
  .rename_i c;simp at c;obtain⟨a,rfl⟩:∃a,n=a+1:=⟨n - 1,ω⟩;have:=QhP d b a (i+1) ω ω;omega
  .omega
section
variable {h:List Ob}{lo g:Nat}{d:Array Int}(ho:h[lo]? = some (Zh g d))
include ho
theorem Qxe(a b)(Vf:a<b)(Zw:b<=d.size)(hz:d.size<1000000000):
  QM prog 275 h [.ref lo g 0 d.size,Qb a,Qb b] (λe h'=>e=QX (Sort.partialInsertionSort Qs d a b).2/\h'=h.set lo (Zh g (Sort.partialInsertionSort Qs d a b).1)):=by
 have e0:IntKind.i64.wrap ((a:Int)+1)=((a+1:Nat):Int):=ZB;have R:IntKind.i64.wrap ((b:Int) - a)=((b - a:Nat):Int):=ZB;unfold Sort.partialInsertionSort;refine Q8 func275 ntmps275 results275 λa2 w pl c=>?_;have N:=Qc ho;simp only[go_sem,Qa,ho,N,e0];refine ZW (λm u=>∃(d1:Array Int) (x:Nat),d1.size=d.size/\a+1<=x/\x<=b/\m<=5/\Sort.partialIns Qs a b (5 - m) x d1=Sort.partialIns Qs a b 5 (a+1) d/\u=⟨[(0,.ref lo g 0 d.size),(1,Qb a),(2,Qb b),(7,Qb x),(8,Qb m)],h.set lo (Zh g d1)⟩) 5 (s0:=⟨[(0,.ref lo g 0 d.size),(1,Qb a),(2,Qb b),(7,Qb (a+1:Nat)),(8,Qb 0)],h.set lo (Zh g d)⟩) ?_ ⟨d,a+1,rfl,ω,ω,ω,rfl,rfl⟩ ?_
 .rw[wO ho];exact QQ
 rintro m _ hm ⟨d1,i,J,Pw,O,a4,k,rfl⟩;have t:=vK (g:=g) (d:=d1) N;generalize U:h.set lo (Zh g d1)=H at t;have C:=Qc t;by_cases cm:m<5
 .have em:decide ((m:Int)<5)=true:=QT ω;obtain⟨sq,a0⟩:∃s,5 - m=s+1:=⟨5 - m - 1,ω⟩;have sS:4 - m=sq:=ω;rw[a0,Sort.partialIns]at k;dsimp only at k;obtain⟨k1,k2⟩:=QhP d1 b _ i (QB _) O;generalize hK:Sort.scanSorted Qs d1 b i=K at *;apply Qf c;simp only[go_sem,Qa,t,C,em];refine ZW (λn u=>∃x:Nat,x=i+n/\x<=b/\Sort.scanSorted Qs d1 b x=K/\u=⟨[(0,.ref lo g 0 d.size),(1,Qb a),(2,Qb b),(7,Qb x),(8,Qb m)],H⟩) d.size (s0:=⟨[(0,.ref lo g 0 d.size),(1,Qb a),(2,Qb b),(7,Qb i),(8,Qb m)],H⟩) QQ ⟨i,rfl,O,hK,rfl⟩ ?_;rintro n0 _ yS ⟨x,hx,Dv,M,rfl⟩;have sT:IntKind.i64.wrap ((x:Int) - 1)=((x - 1:Nat):Int):=ZB;have sU:x - 1<d.size:=ω;have gx:x<b->x<d.size:=ω;rw[Sort.scanSorted]at M;apply Qf c;simp only[go_sem,Qa,t,C];first|refine ql ?_|skip
  refine Cc [0,1,2,7,8] [(32,QX (decide (x<b)&&!Qs d1[x]! d1[x - 1]!))] rfl ?_ ?_
  .by_cases cx:x<b
   .have ex:decide (x<b)=true:=QT cx;have a1:=gx cx;apply Qx c [0,1,2,3,4,5,6,7,8,9,10,11,12,1013,14,15];simp only[go_sem,Qa,t,C,J,ex,sT,sU,a1];apply Kw c jZ (wN d1[x]! d1[x - 1]!);apply VD c;exact QQ
   .have ex:decide (x<b)=false:=QH cx;apply Qx c [0,1,2,3,4,5,6,7,8,9,10,11,12,1013,14,15];simp only[go_sem,Qa,t,C,J,ex];exact QQ
  cases E:(decide (x<b)&&!Qs d1[x]! d1[x - 1]!)
  .rw[E,Qd π]at M;subst M;apply Qf c;simp only[go_sem,Qa,E];by_cases cb:x=b
   .have V:((x:Int)==(b:Int))=true:=by rw[cb];exact NM _
    rw[Qe cb]at k;apply Qf c;simp only[go_sem,Qa,V];rw[<- k,<- U];first|exact⟨rfl,rfl⟩|rfl
   .have V:((x:Int)==(b:Int))=false:=beq_eq_false_iff_ne.mpr ω;rw[Qd cb]at k;by_cases TY:b - a<50
    .have sV:decide (((b - a:Nat):Int)<50)=true:=QT ω;rw[Qe TY]at k;apply Qf c;simp only[go_sem,Qa,V,R,sV];rw[<- k,<- U];first|exact⟨rfl,rfl⟩|rfl
    .have sV:decide (((b - a:Nat):Int)<50)=false:=QH ω;rw[Qd TY]at k;have px:x<d.size:=ω;apply Qf c;simp only[go_sem,Qa,V,R,sV];refine FP (⟨[(0,.ref lo g 0 d.size),(1,Qb a),(2,Qb b),(7,Qb x),(8,Qb m)],h.set lo (Zh g (Sort.swp d1 x (x - 1)))⟩) KS c mixed [(0,true),(1,true),(2,true),(3,true),(5,true),(6,true),(7,true),(8,true),(9,true),(10,true),(11,true),(12,true),(13,true),(14,true)] [4,15,16,17] τ τ (λs I=>CE I rfl ?_) ?_
     rotate_left
     .simp only[go_sem,Qa,t,C,sT,px,sU,J,Qt C,JE,kr];rw[ku g d1 _ _ _ J px sU,<- U,JE]
      repeat' refine And.intro ?_ ?_
      all_goals exact QQ
     generalize KD:Sort.swp d1 x (x - 1)=d2 at *;have ZC:d2.size=d.size:=by rw[<- KD,swp_size,J]
     have Jx:=vK (g:=g) (d:=d2) N;have P:IntKind.i64.wrap ((x:Int) - a)=((x - a:Nat):Int):=ZB;have Q:IntKind.i64.wrap ((b:Int) - x)=((b - x:Nat):Int):=ZB;have sW:IntKind.i64.wrap ((x:Int)+1)=((x+1:Nat):Int):=ZB;generalize L:(if x - a >= 2 then Sort.shiftDown Qs (x - 1) d2 else d2)=d3 at *;have TZ:d3.size=d.size:=by
      rw[<- L];split
      .rw[sQ,ZC]
      .exact ZC
     first|refine ql ?_|skip
     refine pK (⟨[(0,.ref lo g 0 d.size),(1,Qb a),(2,Qb b),(7,Qb x),(8,Qb m)],h.set lo (Zh g d3)⟩) ?_ ?_
     .by_cases S:x - a >= 2
      .have Z:decide ((2:Int)<=((x - a:Nat):Int))=true:=QT ω;rw[Qe S]at L;apply Qf c;simp only[go_sem,Qa,P,Z,sT];rw[<- L];refine ZW (λn u=>∃(e:Array Int) (y:Nat),e.size=d.size/\y+n=x - 1/\Sort.shiftDown Qs y e=Sort.shiftDown Qs (x - 1) d2/\u=⟨[(0,.ref lo g 0 d.size),(1,Qb a),(2,Qb b),(7,Qb x),(8,Qb m),(9,Qb y)],h.set lo (Zh g e)⟩) d.size (s0:=⟨[(0,.ref lo g 0 d.size),(1,Qb a),(2,Qb b),(7,Qb x),(8,Qb m),(9,Qb (x - 1:Nat))],h.set lo (Zh g d2)⟩) QQ ⟨d2,_,ZC,ω,rfl,rfl⟩ ?_;rintro n _ hn ⟨e,y,q,hy,f,rfl⟩;have l:=vK (g:=g) (d:=e) N;generalize p:h.set lo (Zh g e)=Hd at l;have o:=Qc l;by_cases cy:1<=y
       .have B:decide ((1:Int)<=(y:Int))=true:=QT ω;obtain⟨j,rfl⟩:∃j,y=j+1:=⟨y - 1,ω⟩;rw[Sort.shiftDown]at f;have F:IntKind.i64.wrap (((j+1:Nat):Int) - 1)=((j:Nat):Int):=ZB;have z:(j+1)<d.size:=ω;have v:j<d.size:=ω;apply Qf c;simp only[go_sem,Qa,l,o,B];apply Qx c [0,1,2,3,4,5,6,7,8,1009,10];simp only[go_sem,Qa,l,o,q,F,z,v];apply Kw c jZ (wN e[j+1]! e[j]!);apply VD c;cases r:Qs e[j+1]! e[j]!
        .rw[r,Gx,Qe rfl]at f;simp only[go_sem,r];try (apply Qf c;simp only[go_sem,Qa])
         first|rw[<- f,<- p]|rw[<- p]
         exact QQ
        .rw[r,Da,Qd π]at f;simp only[go_sem,r];refine FP (⟨[(0,.ref lo g 0 d.size),(1,Qb a),(2,Qb b),(7,Qb x),(8,Qb m),(9,Qb (j+1:Nat))],h.set lo (Zh g (Sort.swp e (j+1) j))⟩) KS c mixed [(0,true),(1,true),(2,true),(3,true),(5,true),(6,true),(7,true),(8,true),(9,true),(10,true),(11,true),(12,true),(13,true),(14,true)] [4,15,16,17] τ τ (λs I=>CE I rfl ?_) ?_
         rotate_left
         .simp only[go_sem,Qa,l,o,q,F,z,v,Qt o,JE,kr];rw[ku g e _ _ _ q z v,<- p,JE]
          repeat' refine And.intro ?_ ?_
          all_goals exact QQ
         apply Qf c;simp only[go_sem,F];refine⟨ω,_,?_,Sort.swp e (j+1) j,j,by rw[swp_size,q],ω,f,rfl⟩;exact QQ
       .have B:decide ((1:Int)<=(y:Int))=false:=QH ω;obtain rfl:y=0:=ω;rw[Sort.shiftDown]at f;apply Qf c;simp only[go_sem,Qa,l,o,B];try (apply Qf c;simp only[go_sem,Qa])
        first|rw[<- f,<- p]|rw[<- p]
        exact QQ
      .have Z:decide ((2:Int)<=((x - a:Nat):Int))=false:=QH ω;rw[Qd S]at L;apply Qf c;simp only[go_sem,Qa,P,Z];rw[<- L];exact QQ
     have Y:IntKind.i64.wrap ((m:Int)+1)=((m+1:Nat):Int):=ZB;by_cases T:b - x >= 2
     .have W:decide ((2:Int)<=((b - x:Nat):Int))=true:=QT ω;rw[Qe T]at k;apply Qf c;simp only[go_sem,Qa,Q,W,sW];refine ZW (λn u=>∃(e:Array Int) (y:Nat),e.size=d.size/\y=x+1+n/\y<=b/\Sort.shiftUp Qs b y e=Sort.shiftUp Qs b (x+1) d3/\u=⟨[(0,.ref lo g 0 d.size),(1,Qb a),(2,Qb b),(7,Qb x),(8,Qb m),(10,Qb y)],h.set lo (Zh g e)⟩) d.size (s0:=⟨[(0,.ref lo g 0 d.size),(1,Qb a),(2,Qb b),(7,Qb x),(8,Qb m),(10,Qb (x+1:Nat))],h.set lo (Zh g d3)⟩) QQ ⟨d3,_,TZ,ω,ω,rfl,rfl⟩ ?_;rintro n _ hn ⟨e,y,q,hy,a3,f,rfl⟩;have l:=vK (g:=g) (d:=e) N;generalize p:h.set lo (Zh g e)=Hd at l;have o:=Qc l;by_cases cy:y<b
      .have B:decide (y<b)=true:=QT ω;rw[Sort.shiftUp,Qe cy]at f;have F:IntKind.i64.wrap ((y:Int) - 1)=((y - 1:Nat):Int):=ZB;have Ub:IntKind.i64.wrap ((y:Int)+1)=((y+1:Nat):Int):=ZB;have z:y<d.size:=ω;have v:(y - 1)<d.size:=ω;apply Qf c;simp only[go_sem,Qa,l,o,B];apply Qx c [0,1,2,3,4,5,6,7,8,1009,10];simp only[go_sem,Qa,l,o,q,F,z,v];apply Kw c jZ (wN e[y]! e[y - 1]!);apply VD c;cases r:Qs e[y]! e[y - 1]!
       .rw[r,Gx,Qe rfl]at f;simp only[go_sem,r];try (apply Qf c;simp only[go_sem,Qa])
        first|rw[<- f,<- p]|rw[<- p]
        try simp only[Y]
        refine⟨ω,_,?_,e,x,q,ω,ω,ω,by rw[sS,f];exact k,rfl⟩;exact QQ
       .rw[r,Da,Qd π]at f;simp only[go_sem,r];refine FP (⟨[(0,.ref lo g 0 d.size),(1,Qb a),(2,Qb b),(7,Qb x),(8,Qb m),(10,Qb (y:Nat))],h.set lo (Zh g (Sort.swp e y (y - 1)))⟩) KS c mixed [(0,true),(1,true),(2,true),(3,true),(5,true),(6,true),(7,true),(8,true),(9,true),(10,true),(11,true),(12,true),(13,true),(14,true)] [4,15,16,17] τ τ (λs I=>CE I rfl ?_) ?_
        rotate_left
        .simp only[go_sem,Qa,l,o,q,F,z,v,Qt o,JE,kr];rw[ku g e _ _ _ q z v,<- p,JE]
         repeat' refine And.intro ?_ ?_
         all_goals exact QQ
        apply Qf c;simp only[go_sem,Ub];refine⟨ω,_,?_,Sort.swp e y (y - 1),y+1,by rw[swp_size,q],ω,ω,f,rfl⟩;exact QQ
      .have B:decide (y<b)=false:=QH ω;rw[Sort.shiftUp,Qd cy]at f;apply Qf c;simp only[go_sem,Qa,l,o,B];try (apply Qf c;simp only[go_sem,Qa])
       first|rw[<- f,<- p]|rw[<- p]
       try simp only[Y]
       refine⟨ω,_,?_,e,x,q,ω,ω,ω,by rw[sS,f];exact k,rfl⟩;exact QQ
     .have W:decide ((2:Int)<=((b - x:Nat):Int))=false:=QH ω;rw[Qd T]at k;apply Qf c;simp only[go_sem,Qa,Q,W,Y];refine⟨ω,_,?_,d3,x,TZ,ω,ω,ω,by rw[sS];exact k,rfl⟩;exact QQ
  .rw[E,Qe rfl]at M;have lq:x<b:=by
    rw[ZL]at E;exact qQ E.1
   have sW:IntKind.i64.wrap ((x:Int)+1)=((x+1:Nat):Int):=ZB;apply Qf c;simp only[go_sem,Qa,E,sW];refine⟨ω,_,?_,x+1,ω,ω,M,rfl⟩;exact QQ
 .have em:decide ((m:Int)<5)=false:=QH ω;obtain rfl:m=5:=ω;rw[Df,Sort.partialIns]at k;apply Qf c;simp only[go_sem,Qa,t,C,em];apply QP c;rw[<- k,<- U];first|exact⟨rfl,rfl⟩|rfl
end
def gW(n k)(h:2 ^ k<=n):Sort.bitsLen n=k+Sort.bitsLen (n / 2 ^ k):=by
 have e:∀m,Sort.bitsLen n<=m↔k+Sort.bitsLen (n / 2 ^ k)<=m:=by
  intro m;rw[Sort.bitsLen_le_iff];by_cases c:k<=m
  .obtain⟨j,rfl⟩:∃j,m=k+j:=⟨m - k,ω⟩;have a:=Sort.bitsLen_le_iff (n / 2 ^ k) j;rw[Nat.div_lt_iff_lt_mul (bC k),<- Nat.pow_add,NC j k]at a;rw[<- a];omega
  .have:2 ^ m<=2 ^ k:=Nat.pow_le_pow_right π ω;constructor
   .intro b;omega
   .intro b;omega
 have f:=(e (Sort.bitsLen n)).1 (QB _);have d:=(e (k+Sort.bitsLen (n / 2 ^ k))).2 (QB _);omega
def gX(t:Array UInt8)(c:(List.range 256).all (λi=>Nat.beq (t.getD i 0).toNat (Sort.bitsLen i))=true)(d:t.size=256)(k i n)(f:i<256)(g:k<1000)(e:Sort.bitsLen n=k+Sort.bitsLen i):
  IntKind.u8.wrap (i:Int)<(t.size:Int)/\D.raw (.int .i64 (IntKind.i64.wrap ((k:Int)+IntKind.i64.wrap ((t.getD (IntKind.u8.wrap (i:Int)).toNat 0).toNat:Int))))=D.raw (.int .i64 (Sort.bitsLen n)):=by
 have a:=zC.1 c i (RL.2 f);rw[Wo]at a;have w:IntKind.u8.wrap (i:Int)=i:=by rw[IntKind.wrap_u8];omega
 rw[w,d,show ((i:Int)).toNat=i from rfl,a,e];have h:Sort.bitsLen i<=8:=(Sort.bitsLen_le_iff i 8).2 ω;refine⟨ω,?_⟩;have b:IntKind.i64.wrap (Sort.bitsLen i:Int)=Sort.bitsLen i:=wrap64 ω ω;rw[b,wrap64 ω ω];congr 2
def Qxh(n)(i:n<4294967296):QI prog 191 [u64 n] (QO (Qb (Sort.bitsLen n))):=by
 have d:decide ((4294967296:Int)<=n)=false:=QH ω;refine QZ 0 func191 ntmps191 results191 λf w j=>?_;simp only[go_sem];have c:((n:Int).fdiv (2 ^ min 16 64))=((n / 65536:Nat):Int):=L6 n 16;have b:∀m:Nat,((m:Int).fdiv (2 ^ min 8 64))=((m / 256:Nat):Int):=λm=>L6 m 8;have a:IntKind.i64.wrap 16=16:=rfl;have e:IntKind.i64.wrap 24=24:=rfl;have g:IntKind.i64.wrap 8=8:=rfl;by_cases k:65536<=n
 .have d1:decide ((65536:Int)<=n)=true:=QT ω;by_cases h:256<=n / 65536
  .have d2:decide ((256:Int)<=(n / 65536:Nat))=true:=QT ω;simp only[go_sem,d,d1,c,d2,b,a,e];exact gX _ τ τ 24 (n / 65536 / 256) n ω π (by rw[gW n 16 ω,gW (n / 2 ^ 16) 8 ω,show n / 2 ^ 16 / 2 ^ 8=n / 65536 / 256 from rfl];omega)
  .have d2:decide ((256:Int)<=(n / 65536:Nat))=false:=QH ω;simp only[go_sem,d,d1,c,d2,b,a,e];exact gX _ τ τ 16 (n / 65536) n ω π (by rw[gW n 16 ω])
 .have d1:decide ((65536:Int)<=n)=false:=QH ω;by_cases h:256<=n
  .have d2:decide ((256:Int)<=n)=true:=QT ω;simp only[go_sem,d,d1,c,d2,b,g,e];exact gX _ τ τ 8 (n / 256) n ω π (by rw[gW n 8 ω])
  .have d2:decide ((256:Int)<=n)=false:=QH ω;simp only[go_sem,d,d1,c,d2,b];exact gX _ τ τ 0 n n ω π ω
def cn(n)(c:n<4294967296):QI prog 139 [u64 n] (QO (Qb (Sort.bitsLen n))):=by
 refine QZ 0 func139 ntmps139 results139 λb w a=>?_;simp only[go_sem];apply Jp a Qs8 (Qxh n c);exact Yc a
def Qxi(n:Nat)(f:n<1000000000):QI prog 235 [Qb n] (QO (u64 (2 ^ Sort.bitsLen n))):=by
 have d:IntKind.u64.wrap (n:Int)=(n:Int):=η;have a:=(Sort.bitsLen_le_iff n 30).2 ω;have e:2 ^ Sort.bitsLen n<=2 ^ 30:=Nat.pow_le_pow_right π a;have b:IntKind.u64.wrap (1*2 ^ min (Sort.bitsLen n) 64)=((2 ^ Sort.bitsLen n:Nat):Int):=by
  rw[NH ω,Int.one_mul,show (2:Int) ^ Sort.bitsLen n=((2 ^ Sort.bitsLen n:Nat):Int) by push_cast;rfl,IntKind.wrap_u64];generalize 2 ^ Sort.bitsLen n=p at *;omega
 refine QZ 0 func235 ntmps235 results235 λc w a=>?_;simp only[go_sem];simp only[go_sem,d];refine ZO a Qe7 ?_ (cn n ω) ?_
 .simp only[go_sem,b]
 apply Qf a;simp only[go_sem,b]
@[go_sem] def HL(n:Nat):Ob:=⟨.one,0,1,1,λ_=>[u64 n]⟩
def Qxj{h:List Ob}{d}(n)(f:h[d]? = some (HL n))(o:n<18446744073709551616):
  QM prog 236 h [.ptr d 0 0 0] (λq p=>q=u64 (Sort.xorNextN n)/\p=h.set d (HL (Sort.xorNextN n))):=by
 refine Q8 func236 ntmps236 results236 λi w s g=>?_;have c:=Qc f;simp only[go_sem,Qa,f,c];have l:∀a:Nat,a<18446744073709551616->bits .xor .u64 (a:Int) (IntKind.u64.wrap ((a:Int)*2 ^ min 13 64))=((a ^^^ (a*8192 % 18446744073709551616):Nat):Int):=λa b=>by
  rw[show IntKind.u64.wrap ((a:Int)*2 ^ min 13 64)=((a*8192 % 18446744073709551616:Nat):Int) from L0 a 8192];exact u64_xor_nat _ _ b (Xx _ π)
 have k:∀a:Nat,a<18446744073709551616->bits .xor .u64 (a:Int) ((a:Int).fdiv (2 ^ min 7 64))=((a ^^^ (a / 128):Nat):Int):=λa b=>by
  rw[show (a:Int).fdiv (2 ^ min 7 64)=((a / 128:Nat):Int) from L6 a 7];exact u64_xor_nat _ _ b ω
 have j:∀a:Nat,a<18446744073709551616->bits .xor .u64 (a:Int) (IntKind.u64.wrap ((a:Int)*2 ^ min 17 64))=((a ^^^ (a*131072 % 18446744073709551616):Nat):Int):=λa b=>by
  rw[show IntKind.u64.wrap ((a:Int)*2 ^ min 17 64)=((a*131072 % 18446744073709551616:Nat):Int) from L0 a 131072];exact u64_xor_nat _ _ b (Xx _ π)
 have b:n ^^^ (n*8192 % 18446744073709551616)<18446744073709551616:=RQ (n:=64) ω ω;have r:(n ^^^ (n*8192 % 18446744073709551616)) ^^^ ((n ^^^ (n*8192 % 18446744073709551616)) / 128)<18446744073709551616:=RQ (n:=64) b ω;unfold Sort.xorNextN;dsimp only;apply Qx g i4;simp only[go_sem,Qa,f,c,l n o];generalize n ^^^ (n*8192 % 18446744073709551616)=e at *;apply Qx g i4;simp only[go_sem,Qa,Qt c,JE,c,k e b];generalize e ^^^ (e / 128)=m at *;apply Qx g i4;simp only[go_sem,Qa,Qt c,JE,c,j m r];try exact⟨rfl,rfl⟩
def Bm(a L M b:Nat)(s0:UInt64 × Array Int):Nat->UInt64 × Array Int
 | 0=>s0
 | k+1=>Sort.breakStep a L M (Bm a L M b s0 k) (b+k)
def te(a L M b)(c:UInt64 × Array Int):∀k,(Bm a L M b c k).2.size=c.2.size
 | 0=>rfl
 | k+1=>by
  rw[Bm,Sort.breakStep];dsimp only;rw[swp_size,te a L M b c k]
def QhY(d)(a b)(h:b - a >= 8):Sort.breakPatterns d a b=(Bm a (b - a) (1 <<< Sort.bitsLen (b - a)) (a+(b - a) / 4*2 - 1) (UInt64.ofNat (b - a),d) 3).2:=by
 unfold Sort.breakPatterns;dsimp only;rw[Qe h];rfl
section
variable {h:List Ob}{lo g:Nat}{d:Array Int}(ho:h[lo]? = some (Zh g d))
include ho
theorem Qxk(a b)(Vf:a<b)(Zw:b<=d.size)(hz:d.size<1000000000):
  QM prog 272 h [.ref lo g 0 d.size,Qb a,Qb b] (λdd h'=>dd=.tup []/\∃t,h'=h.set lo (Zh g (Sort.breakPatterns d a b))++t):=by
 have V:IntKind.i64.wrap ((b:Int) - a)=((b - a:Nat):Int):=ZB;by_cases W:b - a >= 8
 .rw[QhY d a b W];have d8:decide ((8:Int)<=(b - a:Nat))=true:=QT ω;generalize hL:b - a=L at *;have a1:=Sort.two_pow_bitsLen_le (n:=L) ω;have a2:=bC (Sort.bitsLen L);rw[show 1 <<< Sort.bitsLen L=2 ^ Sort.bitsLen L by rw[Nat.shiftLeft_eq,NJ]];have f0:((L:Int)).tdiv 4=((L / 4:Nat):Int):=rfl;have f1:IntKind.i64.wrap (((L / 4:Nat):Int))=((L / 4:Nat):Int):=by rw[wrap64 ω ω]
  have f2:IntKind.i64.wrap (((L / 4:Nat):Int)*2)=((L / 4*2:Nat):Int):=ZB;have f3:IntKind.i64.wrap ((a:Int)+(L / 4*2:Nat))=((a+L / 4*2:Nat):Int):=ZB;have f4:IntKind.i64.wrap (((a+L / 4*2:Nat):Int) - 1)=((a+L / 4*2 - 1:Nat):Int):=ZB;have f5:IntKind.i64.wrap (((a+L / 4*2:Nat):Int)+1)=((a+L / 4*2+1:Nat):Int):=ZB;have f6:IntKind.u64.wrap (L:Int)=(L:Int):=η;refine Q8 func272 ntmps272 results272 λC w pl i=>?_;have z:=Qc ho;simp only[go_sem,Qa,ho,z,V,d8,f6];refine ZO i Qtp ?_ (Qxi L ω) ?_
  .simp only[go_sem,f0,f1,f2,f3,f4]
  apply Qf i;simp only[go_sem,f0,f1,f2,f3,f4];generalize hM:2 ^ Sort.bitsLen L=M at *;generalize N:(UInt64.ofNat L,d)=f;have YW:f.2.size=d.size:=by rw[<- N]
  have Px:f.1.toNat=L:=by rw[<- N];simp;omega
  have Mf:f.2=d:=by rw[<- N]
  refine ZW (λm st=>m<=3/\st=⟨[(0,.ref lo g 0 d.size),(1,Qb a),(6,Qb L),(7,.ptr h.length 0 0 0),(8,u64 M),(9,Qb (a+L / 4*2 - 1+m:Nat))],h.set lo (Zh g (Bm a L M (a+L / 4*2 - 1) f m).2)++[HL (Bm a L M (a+L / 4*2 - 1) f m).1.toNat]⟩) 3 (s0:=⟨[(0,.ref lo g 0 d.size),(1,Qb a),(6,Qb L),(7,.ptr h.length 0 0 0),(8,u64 M),(9,Qb (a+L / 4*2 - 1+0:Nat))],h.set lo (Zh g (Bm a L M (a+L / 4*2 - 1) f 0).2)++[HL (Bm a L M (a+L / 4*2 - 1) f 0).1.toNat]⟩) ?_ ⟨ω,rfl⟩ ?_
  .rw[Bm,Mf,Px,wO ho];exact QQ
  rintro m _ hm ⟨Fx,rfl⟩;have k:=te a L M (a+L / 4*2 - 1) f m;rw[YW]at k;by_cases cm:m<3
  .have B:Bm a L M (a+L / 4*2 - 1) f (m+1)=Sort.breakStep a L M (Bm a L M (a+L / 4*2 - 1) f m) (a+L / 4*2 - 1+m):=rfl;generalize Za:Bm a L M (a+L / 4*2 - 1) f m=sm at *;obtain⟨r,c⟩:=sm;dsimp only at k ⊢;have R:=vK (g:=g) (d:=c) z;have u:(h.set lo (Zh g c)).length=h.length:=K0;generalize E:h.set lo (Zh g c)=H at *;have j:=Qc R;have ZQ:lo<h.length:=z;rw[<- u];have g1:(H++[HL r.toNat])[H.length]? = some (HL r.toNat):=σ;have hx:=Sort.xorNext_toNat r;have Y:=r.toNat_lt;have jR:=Sort.xorNextN_lt r.toNat Y;have U:∀o F:Ob,(H++[o]).set H.length F=H++[F]:=λo F=>by rw[eG rfl];rfl
   have P:decide (a+L / 4*2 - 1+m<=a+L / 4*2+1)=true:=QT ω;apply Qf i;simp only[go_sem,Qa,f0,f1,f2,f3,f5,P];refine V5 i Qtq rfl ?_ (Qxj r.toNat g1 Y) rfl λd h hR=>?_
   .simp only[go_sem,U]
   obtain⟨rfl,rfl⟩:=hR;apply Qf i;simp only[go_sem,U];have Z:IntKind.u64.wrap ((M:Int) - 1)=((M - 1:Nat):Int):=η;generalize a0:Sort.xorNextN r.toNat=x at *;have wA:bits .and .u64 (x:Int) ((M - 1:Nat):Int)=((x &&& (M - 1):Nat):Int):=u64_and_nat x (M - 1) jR ω;have yb:x &&& (M - 1)<=M - 1:=Nat.and_le_right;generalize T:x &&& (M - 1)=y at *;have wI:IntKind.i64.wrap ((y:Nat):Int)=((y:Nat):Int):=by rw[wrap64 ω ω]
   have J:IntKind.i64.wrap (((y:Nat):Int) - L)=((y - L:Nat):Int)\/¬ L<=y:=by
    by_cases q:L<=y
    .left;rw[wrap64 ω ω];omega
    .right;exact q
   have S:IntKind.i64.wrap (((a+L / 4*2 - 1+m:Nat):Int)+1)=((a+L / 4*2 - 1+(m+1):Nat):Int):=ZB;simp only[go_sem,Z,wA,wI];by_cases v:L<=y
   .replace J:=J.resolve_right (λq=>q v);have O:decide (L<=y)=true:=QT v;have Q:Sort.breakStep a L M (r,c) (a+L / 4*2 - 1+m)=(Sort.xorNext r,Sort.swp c (a+L / 4*2 - 1+m) (a+(y - L))):=by
     unfold Sort.breakStep;dsimp only;rw[hx,T,Qe v]
    have p:a+L / 4*2 - 1+m<d.size:=ω;have l:a+(y - L)<d.size:=ω;have I:IntKind.i64.wrap ((a:Int)+((y - L):Nat))=((a+(y - L):Nat):Int):=ZB;simp only[go_sem,O,J];refine FP (⟨[(0,.ref lo g 0 d.size),(1,Qb a),(6,Qb L),(7,.ptr H.length 0 0 0),(8,u64 M),(9,Qb (a+L / 4*2 - 1+m:Nat))],H.set lo (Zh g (Sort.swp c (a+L / 4*2 - 1+m) (a+(y - L))))++[HL x]⟩) KS i mixed [(0,true),(1,true),(2,true),(3,true),(4,true),(6,true),(7,true),(8,true),(9,true),(10,true),(11,true),(12,true),(13,true),(14,true),(15,true),(16,true)] [5,17,18,19] τ τ (λs K=>CE K rfl ?_) ?_
    rotate_left
    .simp only[go_sem,Qa,R,j,k,p,l,I,QE j,DF j,Qt j,JE,kr,K0,QE (show lo<(H.set lo (Zh g c)).length by simp;exact j)];rw[ku g c _ _ _ k p l]
     repeat' refine And.intro ?_ ?_
     all_goals exact QQ
    apply Qf i;simp only[go_sem,S];refine⟨ω,_,?_,ω,rfl⟩;rw[B,Q,<- E,JE,hx];rw[<- E]at u;rw[u];exact QQ
   .have O:decide (L<=y)=false:=QH v;have Q:Sort.breakStep a L M (r,c) (a+L / 4*2 - 1+m)=(Sort.xorNext r,Sort.swp c (a+L / 4*2 - 1+m) (a+y)):=by
     unfold Sort.breakStep;dsimp only;rw[hx,T,Qd v]
    have p:a+L / 4*2 - 1+m<d.size:=ω;have l:a+y<d.size:=ω;have I:IntKind.i64.wrap ((a:Int)+(y:Nat))=((a+y:Nat):Int):=ZB;simp only[go_sem,O];refine FP (⟨[(0,.ref lo g 0 d.size),(1,Qb a),(6,Qb L),(7,.ptr H.length 0 0 0),(8,u64 M),(9,Qb (a+L / 4*2 - 1+m:Nat))],H.set lo (Zh g (Sort.swp c (a+L / 4*2 - 1+m) (a+y)))++[HL x]⟩) KS i mixed [(0,true),(1,true),(2,true),(3,true),(4,true),(6,true),(7,true),(8,true),(9,true),(10,true),(11,true),(12,true),(13,true),(14,true),(15,true),(16,true)] [5,17,18,19] τ τ (λs K=>CE K rfl ?_) ?_
    rotate_left
    .simp only[go_sem,Qa,R,j,k,p,l,I,QE j,DF j,Qt j,JE,kr,K0,QE (show lo<(H.set lo (Zh g c)).length by simp;exact j)];rw[ku g c _ _ _ k p l]
     repeat' refine And.intro ?_ ?_
     all_goals exact QQ
    apply Qf i;simp only[go_sem,S];refine⟨ω,_,?_,ω,rfl⟩;rw[B,Q,<- E,JE,hx];rw[<- E]at u;rw[u];exact QQ
  .obtain rfl:m=3:=ω;have P:decide (a+L / 4*2 - 1+2<=a+L / 4*2)=false:=QH ω;apply Qf i;simp only[go_sem,Qa,f0,f1,f2,f3,f5,P];try exact⟨_,rfl⟩
 .have d8:decide ((8:Int)<=(b - a:Nat))=false:=QH ω;have e:Sort.breakPatterns d a b=d:=by
   unfold Sort.breakPatterns;dsimp only;rw[Qd W]
  rw[e];refine Q8 func272 ntmps272 results272 λC w pl i=>?_;have z:=Qc ho;simp only[go_sem,Qa,ho,z,V,d8];exact⟨[],by rw[JZ];exact(wO ho).symm⟩
end
def Qh1(a b):∀(n i:Nat) (d:Array Int),b - i<=n->(Sort.insOuter Qs a b i d).size=d.size
 | n,i,d,e=>by
  rw[Sort.insOuter];split
  .obtain⟨c,rfl⟩:∃c,n=c+1:=⟨n - 1,ω⟩;rw[Qh1 a b c _ _ ω,QhH]
  .rfl
def Qxl(d:Array Int)(a b:Nat):(Sort.insertionSort Qs d a b).size=d.size:=Qh1 a b _ _ d (QB _)
def Qh2(first):∀(k:Nat) (d:Array Int),(Sort.heapPop Qs first k d).size=d.size
 | 0,d=>rfl
 | k+1,d=>by rw[Sort.heapPop,Qh2 first k,gS,swp_size]
def Qxm(d:Array Int)(a b:Nat):(Sort.heapSort Qs d a b).size=d.size:=by rw[Sort.heapSort,Qh2,QhJ]
def Qxn(d:Array Int)(a b:Nat):(Sort.breakPatterns d a b).size=d.size:=by
 by_cases c:b - a >= 8
 .rw[QhY d a b c,te]
 .unfold Sort.breakPatterns;dsimp only;rw[Qd c]
def Qh3:∀(n i j:Nat) (d:Array Int),j - i<=n->(Sort.reverseLoop i j d).size=d.size
 | n,i,j,d,b=>by
  rw[Sort.reverseLoop];split
  .obtain⟨a,rfl⟩:∃a,n=a+1:=⟨n - 1,ω⟩;rw[Qh3 a _ _ _ ω,swp_size]
  .rfl
def Qxo(d:Array Int)(a b:Nat):(Sort.reverseRange d a b).size=d.size:=Qh3 _ _ _ d (QB _)
def Qh4(a b):∀(s i:Nat) (d:Array Int),(Sort.partialIns Qs a b s i d).1.size=d.size
 | 0,i,d=>rfl
 | s+1,i,d=>by
  rw[Sort.partialIns];dsimp only;split
  .rfl
  .split
   .rfl
   .rw[Qh4 a b s];have e:∀c:Array Int,(if b - Sort.scanSorted Qs d b i >= 2 then Sort.shiftUp Qs b (Sort.scanSorted Qs d b i+1) c else c).size=c.size:=λc=>by
     split
     .exact QhO b _ _ _ (QB _)
     .rfl
    rw[e];split
    .rw[sQ,swp_size]
    .rw[swp_size]
def tf(d:Array Int)(a b p:Nat):(Sort.partitionEqual Qs d a b p).2.size=d.size:=by
 rw[Sort.partitionEqual,QhL a _ _ _ _ (QB _),swp_size]
def gY(d:Array Int)(a b p:Nat):(Sort.partition Qs d a b p).2.2.size=d.size:=by
 rw[Sort.partition_arr,swp_size,QhM a _ _ _ _ (QB _),swp_size]
def Qh5(d:Array Int)(a b l)(c e:Bool):(Sort.rd Qs d a b l c e).d1.size=d.size/\(Sort.rd Qs d a b l c e).d2.size=d.size/\(Sort.rd Qs d a b l c e).pi.1.size=d.size:=by
 have g:(Sort.rd Qs d a b l c e).d1.size=d.size:=by
  cases c
  .exact Qxn d a b
  .rfl
 have f:(Sort.rd Qs d a b l c e).d2.size=d.size:=by
  by_cases h:(Sort.rd Qs d a b l c e).c.2=.decreasing
  .rw[(Sort.rd_dec h).1,Qxo,g]
  .rw[(Sort.rd_not h).1,g]
 refine⟨g,f,?_⟩;cases i:(c&&e&&decide ((Sort.rd Qs d a b l c e).hint=.increasing))
 .rw[Sort.rd_pi_no i,f]
 .rw[Sort.rd_pi_yes i,Sort.partialInsertionSort,Qh4,f]
def Qh6(a):∀(n i j:Nat) (d:Array Int),j+1 - i<=n->a<i->i<=j+1->a<(Sort.partEqLoop Qs a i j d).1/\(Sort.partEqLoop Qs a i j d).1<=j+1
 | n,i,j,d,r,t,c=>by
  have k:=gT (λx=>!Qs d[a]! x) (λx=>Qs d[a]! x) (λx=>σ) d i j ω c;obtain⟨p,f,o,m⟩:=Sort.scanUp_spec (λx=>!Qs d[a]! x) d j _ i rfl;obtain⟨v1,v2,v3,l⟩:=Sort.scanDown_spec (λx=>Qs d[a]! x) d (Sort.scanUp (λx=>!Qs d[a]! x) d j i) j;have e:=f c;rw[Sort.partEqLoop_eq];split
  .exact⟨by dsimp only;omega,e⟩
  .rename_i h;have s:=k h;have:=Sort.partEqLoop_guard Qs a i j d h;obtain⟨b,rfl⟩:∃b,n=b+1:=⟨n - 1,ω⟩;obtain⟨g,q⟩:=Qh6 a b _ _ (Sort.swp d (Sort.scanUp (λx=>!Qs d[a]! x) d j i) (Sort.scanDown (λx=>Qs d[a]! x) d (Sort.scanUp (λx=>!Qs d[a]! x) d j i) j)) (show (Sort.scanDown (λx=>Qs d[a]! x) d (Sort.scanUp (λx=>!Qs d[a]! x) d j i) j - 1)+1 - (Sort.scanUp (λx=>!Qs d[a]! x) d j i+1)<=b by omega) ω ω;exact⟨g,ω⟩
def Qxp(d)(a b p:Nat)(c:a<b):a<(Sort.partitionEqual Qs d a b p).1/\(Sort.partitionEqual Qs d a b p).1<=b:=by
 have:=Qh6 a _ (a+1) (b - 1) (Sort.swp d a p) (QB _) ω ω;rw[Sort.partitionEqual];omega
def Qh7:Sort.SWO Qs:=⟨λx=>by simp[Qs],λx y z b a=>by simp[Qs]at *;omega,λx y z b a=>by simp[Qs]at *;omega⟩
def Qxq(d:Array Int)(a b p:Nat)(f:a<=p)(e:p<b)(c:b<=d.size):a<=(Sort.partition Qs d a b p).1/\(Sort.partition Qs d a b p).1<b:=by
 have:=Sort.partition_holds Qs Qh7 d a b p f e c;exact⟨this.1,this.2.1⟩
def Qxr(d)(a b l)(e c:Bool)(g:a<b):a<=(Sort.rd Qs d a b l e c).pivot/\(Sort.rd Qs d a b l e c).pivot<b:=by
 have h:=Sort.choosePivot_holds Qs (Sort.rd Qs d a b l e c).d1 a b g;rw[<- Sort.rd_c]at h;by_cases f:(Sort.rd Qs d a b l e c).c.2=.decreasing
 .rw[(Sort.rd_dec f).2.1];omega
 .rw[(Sort.rd_not f).2.1];exact h
def HM:∀(n:Nat) (d:Array Int) (a b l:Nat) (g f:Bool),b - a<=n->(Sort.pdq Qs d a b l g f).size=d.size
 | n,d,a,b,l,g,f,k=>by
  obtain⟨j,i,e⟩:=Qh5 d a b l g f;rw[Sort.pdq_unfold];split
  .exact Qxl d a b
  .split
   .exact Qxm d a b
   .obtain⟨c,rfl⟩:∃c,n=c+1:=⟨n - 1,ω⟩;split
    .exact e
    .split
     .split
      .rename_i h;rw[HM c _ _ _ _ _ _ ω,tf,e]
      .rw[tf,e]
     .split
      .rename_i h;split
       .rw[HM c _ _ _ _ _ _ ω,HM c _ _ _ _ _ _ ω,gY,e]
       .rw[HM c _ _ _ _ _ _ ω,HM c _ _ _ _ _ _ ω,gY,e]
      .rw[gY,e]
def Qh8(n:Nat):Prop:=∀(h:List Ob) (c g:Nat) (d:Array Int),h[c]? = some (Zh g d)->∀a b l:Nat,a<=b->b<=d.size->l<1000->d.size<1000000000->b - a<n ->
 QM prog 257 h [.ref c g 0 d.size,Qb a,Qb b,Qb l] (λf e=>f=.tup []/\∃t,e=h.set c (Zh g (Sort.pdq Qs d a b l true true))++t)
def FV{h t:List Ob}{a}{x y}(b:a<h.length):(h.set a x++t).set a y=h.set a y++t:=by
 rw[bn _ _ (by simpa using b),JE]
def Ui{h t:List Ob}{a}{x}(b:a<h.length):(h.set a x++t)[a]? = some x:=by
 rw[JO (by simpa using b),Qt b]
def Qh9(c:Sort.Hint)(k:Sort.Hint):((FQ c:Int)==(FQ k:Int))=decide (c=k):=by cases c<;>cases k<;>rfl
def Qxs(n:Nat)(IH:Qh8 n){h:List Ob}{j g:Nat}{d:Array Int}(ho:h[j]? = some (Zh g d))(a b l:Nat)(Vf:a<=b)(Zw:b<=d.size)(hl:l<1000)(hz:d.size<1000000000)(hn:b - a<n+1):
  QM prog 257 h [.ref j g 0 d.size,Qb a,Qb b,Qb l] (λdd h'=>dd=.tup []/\∃t,h'=h.set j (Zh g (Sort.pdq Qs d a b l true true))++t):=by
 refine Q8 func257 ntmps257 results257 λa5 w pl f=>?_;have v:=Qc ho;simp only[go_sem,Qa,ho,v];refine ZW (λm y=>∃(d1:Array Int) (c e p:Nat) (i k:Bool) (t:List Ob),d1.size=d.size/\c<=e/\e<=d.size/\p<1000/\m+(e - c)<=b - a/\Sort.pdq Qs d1 c e p i k=Sort.pdq Qs d a b l true true/\y=⟨[(0,.ref j g 0 d.size),(1,Qb c),(2,Qb e),(3,Qb p),(8,QX i),(9,QX k)],h.set j (Zh g d1)++t⟩) (b - a) (s0:=⟨[(0,.ref j g 0 d.size),(1,Qb a),(2,Qb b),(3,Qb l),(8,QX true),(9,QX true)],h.set j (Zh g d)++[]⟩) ?_ ⟨d,a,b,l,true,true,[],rfl,Vf,Zw,hl,ω,rfl,rfl⟩ ?_
 .rw[wO ho,JZ];exact QQ
 rintro m _ hm ⟨d1,c,e,p,i,k,t1,T,a8,a7,ZI,fv,r,rfl⟩;have e0:IntKind.i64.wrap ((e:Int) - c)=((e - c:Nat):Int):=ZB;have Z:(h.set j (Zh g d1)++t1)[j]? = some (Zh g d1):=Ui v;rw[Sort.pdq_unfold]at r;by_cases I:e - c<=12
 .have d12:decide (((e - c:Nat):Int)<=12)=true:=QT ω;rw[Qe I]at r;apply Qf f;simp only[go_sem,Qa,e0,d12];refine JG f Qtx (T▸QwW Z c e ω ω ω) λd h s=>?_;obtain⟨rfl,rfl⟩:=s;apply QV f;refine⟨t1,?_⟩;rw[<- r];exact FV v
 .have d12:decide (((e - c:Nat):Int)<=12)=false:=QH ω;rw[Qd I]at r;by_cases cl:p=0
  .have dl:((p:Int)==0)=true:=by rw[cl];rfl
   rw[Qe cl]at r;apply Qf f;simp only[go_sem,Qa,e0,d12,dl];refine JG f Qty (T▸QwX Z c e ω ω ω) λd h s=>?_;obtain⟨rfl,rfl⟩:=s;apply QV f;refine⟨t1,?_⟩;rw[<- r];exact FV v
  .have dl:((p:Int)==0)=false:=beq_eq_false_iff_ne.mpr ω;rw[Qd cl]at r;refine AU KS f 30 ?_;simp only[go_sem,Qa,e0,d12,dl];obtain⟨U,z2,B⟩:=Qh5 d1 c e p i k;have a6:=Sort.rd_lim_le (lt:=Qs) (d:=d1) (a:=c) (b:=e) (limit:=p) (wb:=i) (wp:=k);have F:=Qxr d1 c e p i k ω;rw[T]at U z2 B;first|refine ql ?_|skip
   refine TW (λy=>∃t,y=⟨[(0,.ref j g 0 d.size),(1,Qb c),(2,Qb e),(3,Qb (Sort.rd Qs d1 c e p i k).lim),(8,QX i),(9,QX k),(10,Qb (e - c:Nat))],h.set j (Zh g (Sort.rd Qs d1 c e p i k).d1)++t⟩) ?_ ?_
   .cases i
    .have vl:IntKind.i64.wrap ((p:Int) - 1)=((p - 1:Nat):Int):=ZB;rw[Sort.rd_false.1,Sort.rd_false.2];apply QV f;refine V5 f Qtz rfl ?_ (T▸Qxk Z c e ω ω ω) rfl λd h s=>?_
     .simp only[go_sem,vl]
     obtain⟨rfl,t2,rfl⟩:=s;apply Qf f;simp only[go_sem,vl];refine⟨_,⟨t1++t2,rfl⟩,?_⟩;rw[FV v,W9];exact QQ
    .rw[Sort.rd_true.1,Sort.rd_true.2];apply QV f;refine⟨_,⟨t1,rfl⟩,?_⟩;exact QQ
   have hc:=Sort.rd_c (lt:=Qs) (d:=d1) (a:=c) (b:=e) (limit:=p) (wb:=i) (wp:=k);have a4:=Sort.rd_dec (lt:=Qs) (d:=d1) (a:=c) (b:=e) (limit:=p) (wb:=i) (wp:=k);have a3:=Sort.rd_not (lt:=Qs) (d:=d1) (a:=c) (b:=e) (limit:=p) (wb:=i) (wp:=k);have a2:=Sort.rd_pi_yes (lt:=Qs) (d:=d1) (a:=c) (b:=e) (limit:=p) (wb:=i) (wp:=k);have Jc:=Sort.rd_pi_no (lt:=Qs) (d:=d1) (a:=c) (b:=e) (limit:=p) (wb:=i) (wp:=k);have qF:=Sort.choosePivot_holds Qs (Sort.rd Qs d1 c e p i k).d1 c e ω;rw[<- hc]at qF;generalize Sort.rd Qs d1 c e p i k=R at *;rintro _ ⟨t2,rfl⟩;apply QP f;refine V5 f QtA rfl ?_ (U▸QwU (Ui (x:=Zh g R.d1) v) c e ω ω ω) rfl λd h s=>?_
   .simp only[go_sem,W9]
   obtain⟨rfl,t3,rfl⟩:=s;refine AU KS f 12 ?_;simp only[go_sem,W9];rw[<- hc];first|refine ql ?_|skip
   refine TW (λy=>∃t,y=⟨[(0,.ref j g 0 d.size),(1,Qb c),(2,Qb e),(3,Qb R.lim),(8,QX i),(9,QX k),(10,Qb (e - c:Nat)),(11,Qb R.pivot),(12,Qb (FQ R.hint:Nat))],h.set j (Zh g R.d2)++t⟩) ?_ ?_
   .by_cases Q:R.c.2=.decreasing
    .obtain⟨r1,r2,r3⟩:=a4 Q;have b2:((FQ R.c.2:Int)==2)=true:=by rw[Q];rfl
     have v1:IntKind.i64.wrap ((e:Int) - 1)=((e - 1:Nat):Int):=ZB;have v2:IntKind.i64.wrap ((R.c.1:Int) - c)=((R.c.1 - c:Nat):Int):=ZB;have v3:IntKind.i64.wrap (((e - 1:Nat):Int) - (R.c.1 - c:Nat))=(((e - 1) - (R.c.1 - c):Nat):Int):=ZB;apply Qf f;simp only[go_sem,b2];refine V5 f QtB rfl ?_ (U▸QwV (Ui (x:=Zh g R.d1) v) c e ω ω ω) rfl λd h s=>?_
     .simp only[go_sem,v1,v2,v3]
     obtain⟨rfl,rfl⟩:=s;apply Qf f;simp only[go_sem,v1,v2,v3];rw[r1,r2,r3];refine⟨_,⟨t2++t3,rfl⟩,?_⟩;rw[FV v];exact Qr.frame (by simp only[go_sem];first|rfl|exact⟨rfl,rfl⟩)
    .obtain⟨r1,r2,r3⟩:=a3 Q;have b2:((FQ R.c.2:Int)==2)=false:=by rw[show (2:Int)=(FQ .decreasing:Int) from rfl,Qh9];exact QH Q
     apply Qf f;simp only[go_sem,b2];rw[r1,r2,r3];refine⟨_,⟨t2++t3,rfl⟩,?_⟩;exact QQ
   rintro _ ⟨t4,rfl⟩;refine ql ?_;first|refine ql ?_|skip
   refine pK (⟨[(0,.ref j g 0 d.size),(1,Qb c),(2,Qb e),(3,Qb R.lim),(8,QX i),(9,QX k),(10,Qb (e - c:Nat)),(11,Qb R.pivot),(12,Qb (FQ R.hint:Nat)),(68,QX (i&&k&&decide (R.hint=.increasing)))],h.set j (Zh g R.d2)++t4⟩) ?_ ?_
   .cases i
    .apply QP f;exact Qr.frame (by simp only[go_sem,Gw])
    .cases k
     .apply QP f;exact Qr.frame (by simp only[go_sem,Gw,IB])
     .have cT:((FQ R.hint:Int)==1)=decide (R.hint=.increasing):=Qh9 R.hint .increasing;apply Qf f;simp only[go_sem,Qa,cT];exact Qr.frame (by simp only[go_sem,Gw,IB])
   first|refine ql ?_|skip
   refine TW (λy=>R.pi.2=false/\∃t,y=⟨[(0,.ref j g 0 d.size),(1,Qb c),(2,Qb e),(3,Qb R.lim),(8,QX i),(9,QX k),(10,Qb (e - c:Nat)),(11,Qb R.pivot)],h.set j (Zh g R.pi.1)++t⟩) ?_ ?_
   .cases z:(i&&k&&decide (R.hint=.increasing))
    .have hp:=Jc z;apply QV f;rw[hp];refine⟨_,⟨rfl,t4,rfl⟩,?_⟩;exact QQ
    .have hp:=a2 z;apply QV f;refine JG f QtC (z2▸Qxe (Ui (x:=Zh g R.d2) v) c e ω ω ω) λd h s=>?_;obtain⟨rfl,rfl⟩:=s;apply QV f;rw[<- hp];cases ZN:R.pi.2
     .simp only[go_sem];refine⟨_,⟨t4,rfl⟩,?_⟩;rw[FV v];exact QQ
     .rw[Qe ZN]at r;simp only[go_sem];refine⟨t4,?_⟩;rw[<- r];exact FV v
   rintro _ ⟨a0,t5,rfl⟩;rw[Qd (by rw[a0];decide)]at r;generalize hD:R.pi.1=u at *;have C:(h.set j (Zh g u)++t5)[j]? = some (Zh g u):=Ui v;generalize Y:h.set j (Zh g u)++t5=HD at C;have W:=Qc C;have p2:R.pivot<d.size:=ω;have f1:c > 0->IntKind.i64.wrap ((c:Int) - 1)=((c - 1:Nat):Int):=λq=>by exact ZB
   have p1:c - 1<d.size:=ω;refine ql ?_;first|refine ql ?_|skip
   refine Cc [0,1,2,3,8,9,10,11] [(87,QX (decide (c > 0)&&!Qs u[c - 1]! u[R.pivot]!))] rfl ?_ ?_
   .by_cases ca:c > 0
    .have da:decide ((0:Int)<(c:Int))=true:=QT ω;have f2:=f1 ca;apply Qx f o00;simp only[go_sem,Qa,C,W,B,da,f2,p1,p2];apply Kw f jZ (wN u[c - 1]! u[R.pivot]!);apply VD f;exact Qr.frame (by simp only[go_sem,QT ca,IB])
    .have da:decide ((0:Int)<(c:Int))=false:=QH ω;apply Qx f o00;simp only[go_sem,Qa,C,W,B,da];exact Qr.frame (by simp only[go_sem,QH ca,Gw])
   cases z:(decide (c > 0)&&!Qs u[c - 1]! u[R.pivot]!)
   .rw[z,Qd π]at r;have hr:=Qxq u c e R.pivot F.1 F.2 ω;have JA:=gY u c e R.pivot;rw[Qe hr]at r;apply Qf f;simp only[go_sem,Qa,z];refine JG f QtE (B▸Qw4 C c e R.pivot ω ω F.1 F.2 ω) λd h s=>?_;obtain⟨rfl,rfl⟩:=s;apply QV f;generalize Sort.partition Qs u c e R.pivot=pt at *;obtain⟨o,K,E⟩:=pt;dsimp only at *;have O:IntKind.i64.wrap ((o:Int) - c)=((o - c:Nat):Int):=ZB;have N:IntKind.i64.wrap ((e:Int) - o)=((e - o:Nat):Int):=ZB;have M:((e - c:Nat):Int).tdiv 8=(((e - c) / 8:Nat):Int):=rfl;have L:IntKind.i64.wrap ((((e - c) / 8:Nat):Int))=(((e - c) / 8:Nat):Int):=by rw[wrap64 ω ω]
    have k5:IntKind.i64.wrap ((o:Int)+1)=((o+1:Nat):Int):=ZB;have S:E.size=d.size:=by rw[JA,B]
    have J:(HD.set j (Zh g E))[j]? = some (Zh g E):=Qt W;by_cases P:o - c<e - o
    .have H:decide (o - c<e - o)=true:=QT P;rw[Qe P]at r;simp only[go_sem,O,N,M,L,H];apply Qf f;simp only[go_sem,O,N,M,L,H];refine V5 f pg rfl ?_ (S▸IH _ j g E J c o R.lim ω ω ω ω ω) rfl λd h s=>?_
     .simp only[go_sem,k5]
     obtain⟨rfl,t6,rfl⟩:=s;apply Qf f;simp only[go_sem,k5];have V:=HM _ E c o R.lim true true (QB _);refine⟨ω,_,?_,Sort.pdq Qs E c o R.lim true true,o+1,e,R.lim,decide ((e - c) / 8<=o - c),K,t5++t6,by rw[V,S],ω,ω,ω,ω,r,rfl⟩;rw[JE,<- Y,FV v,W9];exact QQ
    .have H:decide (o - c<e - o)=false:=QH P;rw[Qd P]at r;simp only[go_sem,O,N,M,L,H];apply Qf f;simp only[go_sem,O,N,M,L,k5,H];refine JG f pg (S▸IH _ j g E J (o+1) e R.lim ω ω ω ω ω) λd h s=>?_;obtain⟨rfl,t6,rfl⟩:=s;apply QV f;have V:=HM _ E (o+1) e R.lim true true (QB _);refine⟨ω,_,?_,Sort.pdq Qs E (o+1) e R.lim true true,c,o,R.lim,decide ((e - c) / 8<=e - o),K,t5++t6,by rw[V,S],ω,ω,ω,ω,r,rfl⟩;rw[JE,<- Y,FV v,W9];exact QQ
   .rw[z,Qe rfl]at r;have hr:=Qxp u c e R.pivot ω;have JA:=tf u c e R.pivot;rw[Qe hr]at r;apply Qf f;simp only[go_sem,Qa,z];refine JG f QtD (B▸QwY C c e R.pivot ω ω F.1 F.2 ω) λd h s=>?_;obtain⟨rfl,rfl⟩:=s;apply QV f;refine⟨ω,_,?_,(Sort.partitionEqual Qs u c e R.pivot).2,(Sort.partitionEqual Qs u c e R.pivot).1,e,R.lim,i,k,t5,ω,ω,ω,ω,ω,r,rfl⟩;rw[<- Y,FV v];exact QQ
def Qid:∀n,Qh8 n
 | 0=>λ_ _ _ _ _ _ _ _ _ _ _ _ c=>absurd c (X2 _)
 | n+1=>λh k g d e a b l j i f hz c=>Qxs n (Qid n) e a b l j i f hz c
def Qxx(n)(h:n<1000000000):Sort.bitsLen n<=30:=(Sort.bitsLen_le_iff n 30).2 ω
def Qxy{h:List Ob}{lo g}{d:Array Int}(b:h[lo]? = some (Zh g d))(c:d.size<1000000000):
  QM prog 225 h [.ref lo g 0 d.size] (λk j=>k=.tup []/\∃t,j=h.set lo (Zh g (Sort.sort Qs d))++t):=by
 have n:=Qxx _ c;have f:IntKind.u64.wrap (d.size:Int)=d.size:=η;refine Q8 func225 ntmps225 results225 λe w m a=>?_;have l:=Qc b;simp only[go_sem,Qa,b,l,f];apply Jp a Qe7 (cn d.size ω);apply QV a;refine JG a pg (Qid (d.size+1) h lo g d b 0 d.size (Sort.bitsLen d.size) (Jj _) (QB _) ω c ω) λd h i=>?_;obtain⟨rfl,t,rfl⟩:=i;apply QV a;exact⟨t,rfl⟩
def cN(f:Nat->Int):Nat->List Int
 | 0=>[]
 | n+1=>if n≠0/\f n=f (n - 1) then cN f n else cN f n++[f n]
def PA(f):∀n,(cN f n).length<=n
 | 0=>QB _
 | n+1=>by
  have:=PA f n;rw[cN];split
  .omega
  .simp;omega
def tt(f)(x):∀n,x∈cN f n↔∃i,i<n/\f i=x
 | 0=>by simp[cN]
 | n+1=>by
  have d:=tt f x n;rw[cN];split
  .rename_i c;rw[d];constructor
   .rintro⟨i,b,a⟩;exact⟨i,ω,a⟩
   .rintro⟨i,b,a⟩;by_cases e:i=n
    .subst e;exact⟨i - 1,ω,by rw[<- c.2];exact a⟩
    .exact⟨i,ω,a⟩
  .rw[Q3,d];simp only[X1];constructor
   .rintro (⟨i,b,a⟩|h)
    .exact⟨i,ω,a⟩
    .exact⟨n,ω,h.symm⟩
   .rintro⟨i,b,a⟩;by_cases e:i=n
    .subst e;exact Or.inr a.symm
    .exact Or.inl ⟨i,ω,a⟩
def MA(f):∀n,(cN f n).length=n->∀i,i<n->(cN f n).getD i 0=f i
 | 0,_,i,a=>absurd a (X2 _)
 | n+1,h,i,a=>by
  have b:=PA f n;rw[cN]at h ⊢;split at h
  .omega
  .rename_i c;rw[Qd c];simp at h;by_cases e:i=n
   .subst e;rw[QY,Kh ω,h,Df];rfl
   .rw[QY,JO ω,<- QY];exact MA f n h i ω
def Qxz(g)(d:Array Int)(i n)(x)(c:d.size=n)(e:i<n):
  (⟨.arr,g,1,n,λk=>bif k==i then [.raw (.int .u64 x)] else [.raw (.int .u64 d[k]!)]⟩:Ob)=Zh g (d.setIfInBounds i x):=by
 subst c;unfold Zh;congr 1
 .simp
 .funext k;unfold CG uI;by_cases a:k=i
  .subst a;simp[e]
  .have f:(k==i)=false:=beq_eq_false_iff_ne.mpr a;rw[f];by_cases b:k<d.size
   .simp[a,b,Q9 a,mI]
   .simp[a,b]
def QxA{h:List Ob}{lo g}{d:Array Int}(a:h[lo]? = some (Zh g d))(hz:d.size<1000000000):
  QM prog 226 h [.ref lo g 0 d.size] (λdd h'=>dd=.ref lo g 0 (cN (λi=>d[i]!) d.size).length/\∃q,h'=h.set lo ⟨.arr,g,1,d.size,q⟩/\(∀i,i<(cN (λi=>d[i]!) d.size).length->q i=[uI ((cN (λi=>d[i]!) d.size).getD i 0)])/\∀i,∃x,q i=[uI x]):=by
 by_cases c2:d.size<2
 .have J:decide ((d.size:Int)<2)=true:=QT ω;have o:(cN (λi=>d[i]!) d.size).length=d.size:=by
   have:d.size=0\/d.size=1:=ω;rcases this with h0|h0<;>rw[h0]<;>rfl
  rw[o];refine Q8 func226 ntmps226 results226 λs w pl b=>?_;have n:=Qc a;simp only[go_sem,Qa,a,n,J];exact⟨CG d,(wO a).symm,λi c=>by rw[MA _ _ o i c];rfl,λi=>⟨_,rfl⟩⟩
 .have J:decide ((d.size:Int)<2)=false:=QH ω;refine Q8 func226 ntmps226 results226 λs w pl b=>?_;have n:=Qc a;simp only[go_sem,Qa,a,n,J];refine ZW (λk B=>k+1<=d.size/\(cN (λi=>d[i]!) (k+1)).length=k+1/\B=⟨[(0,.ref lo g 0 d.size),(3,Qb (k+1:Nat))],h⟩) d.size (s0:=⟨[(0,.ref lo g 0 d.size),(3,Qb (0+1:Nat))],h⟩) QQ ⟨ω,rfl,rfl⟩ ?_;rintro k _ hk ⟨Qi,r,rfl⟩;by_cases K:k+1<d.size
  .have I:decide (k+1<d.size)=true:=QT K;have v1:IntKind.i64.wrap (((k+1:Nat):Int) - 1)=((k:Nat):Int):=ZB;have v2:IntKind.i64.wrap (((k+1:Nat):Int)+1)=((k+1+1:Nat):Int):=ZB;have p0:k<d.size:=ω;apply Qf b;simp only[go_sem,Qa,a,n,I];apply Qx b Eq;simp only[go_sem,Qa,a,n,v1,K,p0];by_cases zK:d[k+1]! = d[k]!
   .have M:(d[k+1]! == d[k]!)=true:=beq_iff_eq.mpr zK;have U:(cN (λi=>d[i]!) (k+1+1)).length=k+1:=by
     rw[cN,Qe ⟨ω,by simpa using zK⟩,r]
    have q0:k+1<=d.size:=ω;generalize hN:d.size - (k+1)=N;have v3:((d.size:Int) - ((k+1:Nat):Int)).toNat=N:=ω;simp only[go_sem,M,q0,hN,Qa,a,n,v3];refine ZW (λm B=>∃(d1:Array Int),d1.size=d.size/\m+1<=N/\(cN (λi=>d[i]!) (k+1+(m+1))).length<=k+1+m/\(∀i,i<(cN (λi=>d[i]!) (k+1+(m+1))).length->d1[i]! = (cN (λi=>d[i]!) (k+1+(m+1))).getD i 0)/\(∀j,(cN (λi=>d[i]!) (k+1+(m+1))).length<=j->d1[j]! = d[j]!)/\B=⟨[(0,.ref lo g 0 d.size),(3,Qb (cN (λi=>d[i]!) (k+1+(m+1))).length),(4,.ref lo g (k+1) N),(5,Qb (m+1:Nat))],h.set lo (Zh g d1)⟩) N (s0:=⟨[(0,.ref lo g 0 d.size),(3,Qb (cN (λi=>d[i]!) (k+1+(0+1))).length),(4,.ref lo g (k+1) N),(5,Qb (0+1:Nat))],h.set lo (Zh g d)⟩) ?_ ⟨d,rfl,ω,Nat.le_of_eq U,λi c=>?_,λj R=>rfl,rfl⟩ ?_
    .rw[wO a,U];exact QQ
    .rw[cN,Qe ⟨ω,by simpa using zK⟩]at c ⊢;exact(MA _ _ r i ω).symm
    rintro m _ hm ⟨d1,f,a0,O1,L,y,rfl⟩;have l:=vK (g:=g) (d:=d1) n;have v:cN (λi=>d[i]!) (k+1+(m+1+1))=if d[k+1+(m+1)]! = d[k+1+m]! then cN (λi=>d[i]!) (k+1+(m+1)) else cN (λi=>d[i]!) (k+1+(m+1))++[d[k+1+(m+1)]!]:=by
     rw[show k+1+(m+1+1)=(k+1+(m+1))+1 by omega,cN];simp
    generalize S:cN (λi=>d[i]!) (k+1+(m+1))=C at *;generalize F:h.set lo (Zh g d1)=H at l;have p:=Qc l;by_cases u:m+1<N
    .have em:decide (m+1<N)=true:=QT u;have Q:=y (k+1+(m+1)) ω;have r2:=y (k+1+m) ω;have P:k+1+(m+1)<d.size:=ω;have Z:k+1+m<d.size:=ω;have Y:m<N:=ω;have W:IntKind.i64.wrap (((m+1:Nat):Int) - 1)=(m:Int):=ZB;have O:IntKind.i64.wrap (((m+1:Nat):Int)+1)=((m+1+1:Nat):Int):=ZB;have V:IntKind.i64.wrap ((C.length:Int)+1)=((C.length+1:Nat):Int):=ZB;apply Qf b;simp only[go_sem,Qa,l,p,em];apply Qx b Eq;simp only[go_sem,Qa,l,p,f,W,u,P,Z,Y,Q,r2];by_cases t:d[k+1+(m+1)]! = d[k+1+m]!
     .have E:(d[k+1+(m+1)]! != d[k+1+m]!)=false:=by rw[t];exact bne_self_eq_false _
      rw[Qe t]at v;simp only[go_sem,E,O];rw[v];refine⟨ω,_,?_,d1,f,ω,ω,L,y,rfl⟩;rw[<- F];exact QQ
     .have E:(d[k+1+(m+1)]! != d[k+1+m]!)=true:=bne_iff_ne.mpr t;have z:C.length<d.size:=ω;rw[Qd t]at v;simp only[go_sem,E,O,V,Qa,l,p,f,P,u,z,Q];rw[Qxz g d1 _ _ _ f z,v];refine⟨ω,_,?_,d1.setIfInBounds C.length d[k+1+(m+1)]!,by simp;exact f,ω,ξ,λi c=>?_,λj R=>?_,rfl⟩
      .rw[<- F,JE,Zo,Kc];exact QQ
      .simp only[Zo,Kc]at c;by_cases e:i=C.length
       .subst e;rw[QY,Kh (QB _),Df];simp[f,z]
       .rw[QY,JO ω,<- QY,<- L i ω];simp[Q9 e,Nu,yh,Al]
      .simp only[Zo,Kc]at R;rw[<- y j ω];simp[show C.length≠j by omega,Nu,yh,Al]
    .have em:decide (m+1<N)=false:=QH u;have tu:k+1+(m+1)=d.size:=ω;rw[tu]at S;rw[S];have T:C.length<=d.size:=ω;have g2:((d.size:Int) - (C.length:Int)).toNat=d.size - C.length:=ω;apply Qf b;simp only[go_sem,Qa,l,p,em];apply Qf b;simp only[go_sem,Qa,l,p,f,T,g2];refine pG Ca b rfl l rfl rfl rfl rfl (by dsimp only[Zh];omega) rfl rfl rfl rfl ?_;apply Qf b;simp only[go_sem,Qa,Qt p,p,f,T];refine⟨σ,qZ C.length (d.size - C.length) [D.raw (.int .u64 0)] (CG d1),?_,λi c=>?_,λi=>?_⟩
     .rw[<- F,JE]
     .rw[pE c];show [uI d1[i]!]=_;rw[L i c];rfl
     .unfold qZ;cases Nat.ble C.length i&&Nat.blt i (C.length+(d.size - C.length))
      .exact⟨d1[i]!,rfl⟩
      .exact⟨0,rfl⟩
   .have M:(d[k+1]! == d[k]!)=false:=beq_eq_false_iff_ne.mpr zK;simp only[go_sem,M,v2];refine⟨ω,_,?_,ω,?_,rfl⟩
    .exact QQ
    .rw[cN,Qd (by simpa using zK)];simp[r]
  .have I:decide (k+1<d.size)=false:=QH K;obtain JL:k+1=d.size:=ω;rw[JL]at r;apply Qf b;simp only[go_sem,Qa,a,n,I];apply QV b;rw[r];exact⟨rfl,CG d,(wO a).symm,λi c=>by rw[MA _ _ r i c];rfl,λi=>⟨_,rfl⟩⟩
def FY:IntKind.i64.wrap 1=1:=π
def Ea:IntKind.i64.wrap 0=0:=π
def Qie(F:List Ob)(f a:Nat)(b:List D)(g:Nc->Bool):Prop:=∀(h:List Ob) (c:Nc),VQ F h->Zi prog f h (Z6 a b [DS c]) (λd=>d=QX (g c))
def MD(g:Nc->Bool)(l:List Nc):Int:=match l.findIdx? g with
 | some i=>i
 | none=>-1
def QxC{g}{l:List Nc}{k}(a:k<l.length)(h:∀i,i<k->g (l.getD i default)=false)(c:g (l.getD k default)=true):MD g l=k:=by
 have e:l.findIdx? g=some k:=by
  rw[Dc];refine⟨a,by simpa[QY,a] using c,λi b=>?_⟩;have:=h i b;simpa[QY,show i<l.length by omega] using this
 rw[MD,e]
def QxD{g}{l:List Nc}(h:∀i,i<l.length->g (l.getD i default)=false):MD g l=-1:=by
 have e:l.findIdx? g=none:=by
  rw[EH];intro x hx;obtain⟨i,a,rfl⟩:=xl hx;have:=h i a;simpa[QY,a] using this
 rw[MD,e]
def QxE(g)(l:List Nc):decide (0<=MD g l)=l.any g:=by
 unfold MD;cases h:l.findIdx? g with
 | some i=>
  obtain⟨b,a,_⟩:=Dc.1 h;have e:l.any g=true:=vY.2 ⟨_,X0 b,a⟩;rw[e];simp
 | none=>
  have:=EH.1 h;have e:l.any g=false:=by rw[aU];intro x hx;simp[this x hx]
  rw[e];decide
section
variable (h:List Ob)(l:List Nc)(hlen:l.length<1048576)
include hlen
theorem QxF(b:D)(f j:Nat)(p:List D)(t:Qn prog f)(y:JF b=some (f,j,p))(e:Nc->Bool)(r:Qie (h.map Ob.ro) f j p e):
  Zi prog 224 h [KO l,b] (λd=>d=Qb (MD e l)):=by
 refine ZJ func224 ntmps224 results224 λq w B F v C c=>?_;simp only[go_sem,Qa];refine ZW (λk s=>(∀i,i<k->e (l.getD i default)=false)/\s=⟨[(0,KO l),(1,b),(7,Qb l.length),(8,Qb k)],F⟩) l.length QQ ⟨λi o=>absurd o ω,rfl⟩ ?_;rintro k s n ⟨g,rfl⟩;apply QP c;have z:=JT (show k<4611686018427387904 from ω);first|refine WS n (λa=>?_) (λa=>?_)|refine WT n (λa=>?_) (λa=>?_)
 .simp only[go_sem,Qa,a];refine XR c t y ?_ (r F (l.getD k default) (by rw[<- v];exact VQ.refl F)) rfl λd2 u=>?_
  .simp only[go_sem];exact DL _
  subst u;apply Qf c;cases m:e (l.getD k default)
  .simp only[go_sem,Qa];refine⟨a,_,Qr.frame (fr':=[(0,KO l),(1,b),(7,Qb l.length),(8,Qb (k+1:Nat))]) (by simp only[go_sem,z]),λi o=>?_,rfl⟩;by_cases x:i<k
   .exact g i x
   .have:i=k:=ω;subst this;exact m
  .rw[QxC a g m];simp only[go_sem,Qa];exact⟨[],(JZ F).symm⟩
 .have a:k=l.length:=ω;subst a;simp only[go_sem,GD];rw[QxD g];apply QP c;exact⟨[],(JZ F).symm⟩
theorem QxG(a:D)(f b:Nat)(e:List D)(k:Qn prog f)(q:JF a=some (f,b,e))(c:Nc->Bool)(j:Qie (h.map Ob.ro) f b e c):
  Zi prog 172 h [KO l,a] (λd=>d=QX (l.any c)):=by
 rw[<- QxE];refine ZJ func172 ntmps172 results172 λi w r F o s g=>?_;simp only[go_sem,Qa];refine XR g Qti rfl ?_ (QxF F l hlen a f b e k q c (λp n hx=>?_)) rfl λd2 m=>?_
 .simp only[go_sem];exact LV a
 .rw[o,pT]at hx;exact j p n hx
 subst m;apply QP g;exact⟨[],(JZ F).symm⟩
end
def QxH(h)(c:Nc):Zi prog 173 h [DS c] (λd=>d=QX (c.of==0)):=by
 refine ZJ func173 ntmps173 results173 λb w e F f g a=>?_;simp only[go_sem,Qa];apply Yy a OH (r8 c.a c.d c.b);apply QP a;refine⟨_,rfl,?_⟩;simp only[bne,Bool.not_not];rfl
def PB(l:List Nc):Bool:=l.any λc=>c.of==0
def XV(t:Int)(l:List Nc):Int:=if t<1\/65536<t then 1 else if PB l=true then 21 else 0
def ig(t)(l:List Nc)(f:l.length<1048576):QI prog 135 [Qb t,KO l] (QO (Qb (XV t l))):=by
 have a:=QxG [] l f (.raw (.func (.func 173) ⟨[]⟩ ⟨[]⟩)) 173 0 [] Qs2 rfl (λc=>c.of==0) (λi c _=>QxH i c);rw[show (l.any λc=>c.of==0)=PB l from rfl]at a;refine QZ 0 func135 ntmps135 results135 λe w b=>?_;simp only[go_sem]
 repeat' (first|((first|refine qu (λh=>?_) (λh=>?_)|refine qv (λh=>?_) (λh=>?_)|refine qw (λh=>?_) (λh=>?_)|refine Wu (λh=>?_) (λh=>?_)|refine qx (λh=>?_) (λh=>?_)|refine qy (λh=>?_) (λh=>?_)|refine qz (λh=>?_) (λh=>?_)|refine qp (λh=>?_) (λh=>?_))<;>(try simp only[go_sem,Go.undef]))|(refine And.intro δ ?_;try simp only[go_sem,Go.undef])|(refine XR b Qs1 rfl ?_ (a) rfl ?_;(· simp only[go_sem,Qa,Go.undef]);intro d g;subst g;apply Qf b;simp only[go_sem,Qa,Go.undef])|fail)
 all_goals (congr 2;unfold XV;simp_all;try omega)
end Go.Fg.X
namespace Go.Fg.X
open Go.Proofs Go.Fg
open Go.RowKit (Below)
open Go.Proofs.Tryz
def Zl.nil{Z}{a}{w}:Zl Z a [] [] w:=⟨rfl,λl f b q d c g=>by simp at c,λl o e=>by simp at e,λl o b q e=>by simp at e⟩
def QxI{P}{f}{c}{R}(s:D)(J:s.upto 0=true)
  (M:∀d r,R d r->∃g j n a,r=[⟨.arr,g,j,n,a⟩]/\(∀i,i<n->(a i).all D.XO=true)/\JD 6 (D.fz 0 g n j a d) s) (h:QI P f c R):QI P f c (QO s):=by
 intro Z m w F E U C B K N;have Y:F=[]:=by have:=B.len;simpa using this
 subst Y;refine(h Z m w [] E U C B K N).mono λe w' L=>?_;obtain⟨v,d,r,t,rfl,Q,z,O,y,S⟩:=L;obtain⟨g,j,n,a,rfl,W,u⟩:=M _ _ Q;have k:t.length=1:=by have:=z.len;simpa using this
 obtain⟨p,rfl⟩:∃p,t=[p]:=by
  match t,k with
  | [p],_=>exact⟨p,rfl⟩
 have Cr:=O.fz (l:=0) (o:=⟨.arr,g,j,n,a⟩) (p:=p) rfl rfl rfl (λb q e=>by
  subst e;refine⟨C b ?_,λI q' V=>?_,(z.at_ 0 _ b q rfl rfl).2.cells rfl⟩
  .rcases xn b w.heap.size with Qc|Xd
   .exact absurd rfl ((y.Ko b (λi q e=>by simp at e) Qc).1 0 q)
   .exact Xd
  .have:=Wp V;simp at this;exact this) W (h':=[Ob.gone ⟨.arr,g,j,n,a⟩]) (λI H QA e=>by
  have:=KA e;simp at this;exact absurd this QA)
 have T:=(vn 6 u Cr).take J;exact⟨v,_,[],[],rfl,⟨rfl,rfl⟩,Zl.nil,T,⟨λb x Qc=>⟨x,(y.Ko b x Qc).2⟩,λl o p e=>by simp at e,λl o H b q e=>by simp at e⟩,S⟩
def QxJ{P}{f}{j}{R}(r:D)(C:r.upto 0=true)
  (T:∀d u,R d u->JD 6 d r\/∃c g m n a,u[c]? = some ⟨.arr,g,m,n,a⟩/\(∀i,i<n->(a i).all D.XO=true)/\JD 6 (D.fz c g n m a d) r) (h:QI P f j R):QI P f j (QO r):=by
 intro Z s w N M Y J I Q U;have Zb:N=[]:=by have:=I.len;simpa using this
 subst Zb;refine(h Z s w [] M Y J I Q U).mono λe L S=>?_;obtain⟨v,d,u,K,rfl,V,x,F,H,W⟩:=S;suffices z:QC Z [] [] L r v by
  exact⟨v,_,[],[],rfl,⟨rfl,rfl⟩,Zl.nil,z,⟨λb E Qc=>⟨E,(H.Ko b E Qc).2⟩,λl o p e=>by simp at e,λl o B b q e=>by simp at e⟩,W⟩
 rcases T _ _ V with k|⟨c,g,m,n,a,y,Zx,k⟩
 .exact(vn 6 k F).take C
 have Qc:c<K.length:=by rw[x.len];exact(Xa.1 y).1
 obtain⟨p,t⟩:∃p,K[c]? = some p:=⟨_,QG Qc⟩;have Cr:=F.fz (l:=c) (o:=⟨.arr,g,m,n,a⟩) (p:=p) y t rfl (λb q e=>by
  subst e;refine⟨J b ?_,λO q' e'=>?_,(x.at_ c _ b q y t).2.cells rfl⟩
  .rcases xn b w.heap.size with Qc|Xd
   .exact absurd t ((H.Ko b (λi q e=>by simp at e) Qc).1 c q)
   .exact Xd
  .exact x.inj _ _ _ _ _ e' t) Zx (h':=u.set c (Ob.gone ⟨.arr,g,m,n,a⟩)) (λO B QA e=>by
  exact⟨B,by rw[JP (Q9 QA)];exact e,rfl,rfl,rfl⟩)
 exact(vn 6 k Cr).take C
end Go.Fg.X
namespace Go.Fg
def Kd.Qig(k:Kd):k.Lr k:=by cases k<;>simp[Kd.Lr,Kd.ty]
def Qih(o):N7 o o:=⟨rfl,rfl,rfl,Kd.Qig _,λ_ _=>rfl⟩
def Qii:∀h:List Ob,BZ h h
 | []=>trivial
 | o::r=>⟨Qih o,Qii r⟩
def Qij:∀{h:List Ob} {l:Nat} {o:Ob} (a:Nat->List D),h[l]? = some o->(∀i,i<o.n->o.row i=a i)->BZ h (h.set l ⟨o.kd,o.gen,o.sz,o.n,a⟩)
 | [],l,o,a,e,_=>by simp at e
 | x::r,0,o,a,e,b=>by
  simp only[List.getElem?_cons_zero,Q6]at e;subst e;exact⟨⟨rfl,rfl,rfl,Kd.Qig _,λi c=>(b i c).symm⟩,Qii r⟩
 | x::r,l+1,o,a,e,b=>⟨Qih x,Qij (h:=r) a (by simpa using e) b⟩
def Qr.rows{c}{b}{h:List Ob}(l){o:Ob}(a)(d:h[l]? = some o)(e:∀i,i<o.n->o.row i=a i):Qr c ⟨b,h⟩ ⟨b,h.set l ⟨o.kd,o.gen,o.sz,o.n,a⟩⟩:=(Wk.G8 (Qij a d e)).up
end Go.Fg
namespace Go.Fg.X
open Go.Proofs Go.Fg
open Go.Proofs.Tryz
def xY(c:Nc):Bool:=c.of==3 || c.of==4
def Xv(l:List Nc):List Int:=(l.filter xY).map λc=>(c.d:Int)
def QxK(l:List Nc)(i)(h:i<l.length):Xv (l.take (i+1))=if xY (l.getD i default)=true then Xv (l.take i)++[((l.getD i default).d:Int)] else Xv (l.take i):=by
 unfold Xv;rw[zD,QG h];simp only[BH,IE,QY,QG h,Ky,wa];by_cases a:xY l[i]=true
 .rw[Qe a,IG a];rfl
 .rw[Qd a,IF a];simp
def tv(l:List Nc)(i):(Xv (l.take i)).length<=i:=by
 have:=Yr xY (l.take i);simp only[Xv,KK];simp at this;omega
def kx(l:List Nc):Array Int:=Sort.sort Qs (Xv l).toArray
def WH(l:List Nc):List Int:=cN (λi=>(kx l)[i]!) (kx l).size
def tx(l:List Nc):(kx l).size=(Xv l).length:=by
 unfold kx Sort.sort;rw[HM _ _ _ _ _ _ _ (QB _)];rfl
def QxL(l:List Nc):(kx l).toList.Perm (Xv l):=by
 have h:=(Sort.sort_sorts Qs Qh7 (Xv l).toArray).1.2.2;have a:((Sort.sort Qs (Xv l).toArray).extract 0 (Xv l).toArray.size).toList=(kx l).toList:=by
  have:=tx l;unfold kx at this ⊢;rw[show (Xv l).toArray.size=(Sort.sort Qs (Xv l).toArray).size from this.symm];simp
 rw[a]at h;simpa using h
def Qik(l)(x):x∈WH l↔∃c,c∈l/\xY c=true/\(c.d:Int)=x:=by
 unfold WH;rw[tt];have d:(∃i,i<(kx l).size/\(kx l)[i]! = x)↔x∈(kx l).toList:=by
  rw[List.mem_iff_getElem];constructor
  .rintro⟨i,a,e⟩;exact⟨i,by simpa using a,by rw[<- e,Nu,yh,jK a];simp⟩
  .rintro⟨i,a,e⟩;have b:i<(kx l).size:=by simpa using a
   exact⟨i,b,by rw[<- e,Nu,yh,jK b];simp⟩
 rw[d,(QxL l).mem_iff];simp[Xv,and_assoc]
@[go_sem] def yU(K:List Int):D:=.imm 1 K.length λi=>[uI (K.getD i 0)]
def QxM{M:List Int}{a}(c:V7 (λn:Int=>[uI n]) M 0 a):∀i,i<M.length->a i=CG M.toArray i:=λi b=>by
 have:=c.at_ i b;rw[JR]at this;rw[this];unfold CG;simp[QY,QG b,b]
def QxN(l:List Nc)(S:l.length<1048576):QI prog 175 [KO l] (QO (yU (WH l))):=by
 refine QxJ (yU (WH l)) rfl (?_:∀d F,(∃g n b,d=.ref 0 g 0 (WH l).length/\F=[⟨.arr,g,1,n,b⟩]/\(∀i,i<n->(b i).all D.XO=true)/\(WH l).length<=n/\∀i,i<(WH l).length->b i=[uI ((WH l).getD i 0)])->_) ?_
 .rintro d F ⟨g,n,b,rfl,rfl,B,O,ZU⟩;right;refine⟨0,g,1,n,b,rfl,B,?_⟩;have Q:D.fz 0 g n 1 b (.ref 0 g 0 (WH l).length)=.imm 1 (WH l).length (rowFrom 0 b):=by simp[D.fz,Ff,O]
  rw[Q];simp only[yU];rw[SL];refine⟨rfl,rfl,λi k=>?_⟩;rw[He,JR,ZU i k];exact vm (qX _) _
 refine QZ 1 func175 ntmps175 results175 λL w f=>?_;simp only[go_sem];refine ZW (λi s=>∃g b,V7 (λn:Int=>[uI n]) (Xv (l.take i)) 0 b/\s=⟨[(3,.ref 0 g 0 (Xv (l.take i)).length),(7,KO l),(8,Qb l.length),(9,Qb i)],[⟨.arr,g,1,(Xv (l.take i)).length,b⟩]⟩) l.length
  (s0:=⟨[(3,.ref 0 0 0 0),(7,KO l),(8,Qb l.length),(9,Qb 0)],[⟨.arr,0,1,0,λ_=>[]⟩]⟩)
  (Qr.trans (Qr.kP 3 1 (λi=>[]) rfl) QQ) ⟨0,λ_=>[],.nil,rfl⟩ ?_
 rintro i s k ⟨g,b,o,rfl⟩;have B:=tv l i;have C:=JT (show i<4611686018427387904 from ω);apply QV f;first|refine WS k (λr=>?_) (λr=>?_)|refine WT k (λr=>?_) (λr=>?_)
 .obtain⟨M,I⟩:∃M,M=Xv (l.take i):=⟨_,rfl⟩;obtain⟨e,H⟩:∃e,e=l.getD i default:=⟨_,rfl⟩;have c:=QxK l i r;rw[<- I,<- H]at c;rw[<- I]at o B ⊢;have J:M.length<=4294967295:=ω;have v:V7 (λn:Int=>[uI n]) (M++[(e.d:Int)]) 0 (JC M.length 0 b λ_=>[uI e.d]):=o.app (e.d:Int) rfl;simp only[go_sem,r,<- H];apply Jp f Fl (TP e.a e.d e.b);apply QV f;cases p:Kt e.a e.d e.b==3
  .cases u:Kt e.a e.d e.b==4
   .have f:xY e=false:=by show (Kt e.a e.d e.b==3 || Kt e.a e.d e.b==4)=false;rw[p,u];rfl
    rw[f,Qd π]at c;simp only[go_sem,p,u,Go.undef];repeat (refine And.intro ω ?_)
    refine⟨_,Qr.to 1 ⟨?_,by simp only[go_sem],?_,?_⟩,g,b,by rw[c];exact o,rfl⟩
    .simp only[go_sem,C,c,Zo,Kc]
    .exact⟨λj q=>o.upto (λa=>rfl) j (by have m:=q;simp only[c]at m;simpa using m),trivial⟩
    .simp only[go_sem,c,Zo,Kc]
   .have f:xY e=true:=by show (Kt e.a e.d e.b==3 || Kt e.a e.d e.b==4)=true;rw[p,u];rfl
    rw[f,Qe rfl]at c;simp only[go_sem,p,u,Go.undef,J];repeat (refine And.intro ω ?_)
    refine⟨_,Qr.to 1 ⟨?_,by simp only[go_sem],?_,?_⟩,g+1,_,by rw[c];exact v,rfl⟩
    .simp only[go_sem,C,c,Zo,Kc]
    .exact⟨λj q=>v.upto (λa=>rfl) j (by have m:=q;simp only[c]at m;simpa using m),trivial⟩
    .simp only[go_sem,c,Zo,Kc]
  .have f:xY e=true:=by show (Kt e.a e.d e.b==3 || Kt e.a e.d e.b==4)=true;rw[p];rfl
   rw[f,Qe rfl]at c;simp only[go_sem,p,Go.undef,J];repeat (refine And.intro ω ?_)
   refine⟨_,Qr.to 1 ⟨?_,by simp only[go_sem],?_,?_⟩,g+1,_,by rw[c];exact v,rfl⟩
   .simp only[go_sem,C,c,Zo,Kc]
   .exact⟨λj q=>v.upto (λa=>rfl) j (by have m:=q;simp only[c]at m;simpa using m),trivial⟩
   .simp only[go_sem,c,Zo,Kc]
 .have P:i=l.length:=ω;subst P;rw[Wc]at o ⊢;have R:(Xv l).toArray.size=(Xv l).length:=rfl;have T:(Xv l).length<=l.length:=by have:=tv l l.length;rw[Wc]at this;exact this
  have y:=tx l;have U:=PA (λi=>(kx l)[i]!) (kx l).size;apply QV f;refine DD (Qr.rows 0 (CG (Xv l).toArray) (by exact rfl) ?_) ?_
  .intro i k;dsimp only at k ⊢;exact QxM o i k
  simp only[go_sem];refine V5 f Qtj rfl ?_ (Qxy (h:=[Zh g (Xv l).toArray]) (lo:=0) (g:=g) (d:=(Xv l).toArray) rfl (by rw[R];omega)) rfl λd h z=>?_
  .simp only[go_sem,GC]
  obtain⟨rfl,t,rfl⟩:=z;apply Qf f;simp only[go_sem,GC];refine JG f Qtk (y▸QxA (h:=[Zh g (Xv l).toArray].set 0 (Zh g (kx l))++t) (lo:=0) (g:=g) (d:=kx l) rfl ω) λd h z=>?_;obtain⟨rfl,N,rfl,E,K⟩:=z;apply QV f;refine⟨λi k=>?_,g,(Xv l).length,N,?_,rfl,λi k=>?_,?_,?_⟩
  .obtain⟨x,hx⟩:=K i;rw[hx];rfl
  .unfold WH;rw[y]
  .obtain⟨x,hx⟩:=K i;rw[hx];rfl
  .unfold WH;omega
  .intro i k;have:=E i (by unfold WH at k;rw[y]at k;exact k);rw[this];unfold WH;rw[y];rfl
def QxP(F:List Ob)(f a:Nat)(b:List D)(K:List Int)(g:Int->Bool):Prop:=∀(h:List Ob) (x:Int),x∈K->VQ F h->Zi prog f h (Z6 a b [uI x]) (λd=>d=QX (g x))
def wQ(g:Int->Bool)(l:List Int):Int:=match l.findIdx? g with
 | some i=>i
 | none=>-1
def Qil{g}{l:List Int}{k}(a:k<l.length)(h:∀i,i<k->g (l.getD i 0)=false)(c:g (l.getD k 0)=true):wQ g l=k:=by
 have e:l.findIdx? g=some k:=by
  rw[Dc];refine⟨a,by simpa[QY,a] using c,λi b=>?_⟩;have:=h i b;simpa[QY,show i<l.length by omega] using this
 rw[wQ,e]
def Qim{g}{l:List Int}(h:∀i,i<l.length->g (l.getD i 0)=false):wQ g l=-1:=by
 have e:l.findIdx? g=none:=by
  rw[EH];intro x hx;obtain⟨i,a,rfl⟩:=xl hx;have:=h i a;simpa[QY,a] using this
 rw[wQ,e]
def Qin(g)(l:List Int):decide (0<=wQ g l)=l.any g:=by
 unfold wQ;cases h:l.findIdx? g with
 | some i=>
  obtain⟨b,a,_⟩:=Dc.1 h;have e:l.any g=true:=vY.2 ⟨_,X0 b,a⟩;rw[e];simp
 | none=>
  have:=EH.1 h;have e:l.any g=false:=by rw[aU];intro x hx;simp[this x hx]
  rw[e];decide
def QxQ{g}{l:List Int}(h:0<=wQ g l):(wQ g l).toNat<l.length:=by
 unfold wQ at h ⊢;cases e:l.findIdx? g with
 | some i=>obtain⟨a,_⟩:=Dc.1 e;simpa using a
 | none=>rw[e]at h;simp at h
def tz{l:List Int}{i}(h:i<l.length):l.getD i 0∈l:=by
 rw[QY,QG h];exact X0 h
section
variable (h:List Ob)(K:List Int)(hlen:K.length<1048576)
include hlen
theorem QxR(b:D)(f j:Nat)(o:List D)(r:Qn prog f)(x:JF b=some (f,j,o))(e:Int->Bool)(q:QxP (h.map Ob.ro) f j o K e):
  Zi prog 176 h [yU K,b] (λd=>d=Qb (wQ e K)):=by
 refine ZJ func176 ntmps176 results176 λp w z F u B c=>?_;simp only[go_sem,Qa];refine ZW (λk s=>(∀i,i<k->e (K.getD i 0)=false)/\s=⟨[(0,yU K),(1,b),(7,Qb K.length),(8,Qb k)],F⟩) K.length QQ ⟨λi n=>absurd n ω,rfl⟩ ?_;rintro k s m ⟨g,rfl⟩;apply QP c;have y:=JT (show k<4611686018427387904 from ω);first|refine WS m (λa=>?_) (λa=>?_)|refine WT m (λa=>?_) (λa=>?_)
 .simp only[go_sem,Qa,a];refine XR c r x ?_ (q F (K.getD k 0) (tz a) (by rw[<- u];exact VQ.refl F)) rfl λd2 t=>?_
  .simp only[go_sem];exact DL _
  subst t;apply Qf c;cases l:e (K.getD k 0)
  .simp only[go_sem,Qa];refine⟨a,_,Qr.frame (fr':=[(0,yU K),(1,b),(7,Qb K.length),(8,Qb (k+1:Nat))]) (by simp only[go_sem,y]),λi n=>?_,rfl⟩;by_cases v:i<k
   .exact g i v
   .have:i=k:=ω;subst this;exact l
  .rw[Qil a g l];simp only[go_sem,Qa];exact⟨[],(JZ F).symm⟩
 .have a:k=K.length:=ω;subst a;simp only[go_sem,GD];rw[Qim g];apply QP c;exact⟨[],(JZ F).symm⟩
end
def QxS(l:List Nc):(WH l).length<=l.length:=by
 have c:=PA (λi=>(kx l)[i]!) (kx l).size;have b:=tx l;have a:=tv l l.length;rw[Wc]at a;unfold WH;omega
def Qio{l}{x}(b:x∈WH l):∃n:Nat,x=(n:Int)/\0<n/\n<=1048576:=by
 obtain⟨c,e,a,d⟩:=(Qik l x).1 b;refine⟨c.d,d.symm,?_⟩;unfold xY Nc.of Kt at a;simp only[yi,zF]at a
 repeat' split at a
 all_goals first|omega|(exfalso;revert a;decide)|skip
def FZ(l:List Nc)(k:Nat):Nat:=kf (λc=>Xi c.a c.d c.b k) l
def z6(t:Nat)(l:List Nc)(x:Int):Bool:=decide (65536*x.toNat<FZ l x.toNat*t)
def Qip{l:List Nc}(f:l.length<1048576)(a:∀c∈l,c.Lt){k}(i:k<=1048576):FZ l k<2 ^ 111:=by
 have m:=Pj (g:=λc=>Xi c.a c.d c.b k) (M:=2 ^ 60) (λc h=>by
  show Xi c.a c.d c.b k<=_;unfold Xi;split
  .decide
  .rename_i b;obtain⟨e,d,p⟩:=gF b;have o:c.a*min k c.d<=4294967295*1048576:=Ys e ω;have n:c.b*(k - min k c.d)<=4294967295*1048576:=Ys d ω;omega) (l:=l) (s:=0) a
 have j:=XL (2 ^ 60) (show l.length<=1048576 from ω);unfold FZ kf;omega
def PD(t:Nat)(l:List Nc):Bool:=decide (65536<kf (λc=>c.b) l*t)
def Uk(t:Nat)(l:List Nc):Bool:=(WH l).any (z6 t l) || PD t l
def tA(t:Nat)(l:List Nc):D:=if (WH l).any (z6 t l)=true then .tup [uI ((WH l).getD (wQ (z6 t l) (WH l)).toNat 0),QX true] else .tup [u64 0,QX (PD t l)]
def Qiq{l:List Nc}(b:l.length<1048576)(a:∀c∈l,c.Lt):kf (λc=>c.b) l<2 ^ 111:=by
 have e:=Pj (g:=λc=>c.b) (M:=2 ^ 64) (λc h=>by have:=h.2.2;omega) (l:=l) (s:=0) a;have d:=XL (2 ^ 64) (show l.length<=1048576 from ω);unfold kf;omega
def QxT(h:List Ob)(t:Nat)(l:List Nc)(i:l.length<1048576)(j:∀c∈l,c.Lt)(p:t<=65536)(m k:Nat)(b:(h.map Ob.ro)[m]? = some ⟨.Wh,0,1,1,λ_=>[KO l]⟩)(a:(h.map Ob.ro)[k]? = some ⟨.Wh,0,1,1,λ_=>[Qb t]⟩)(n:Nat)(r:n<=1048576):
  Zi prog 177 h [uI n,.ptr m 0 0 0,.ptr k 0 0 0] (λd=>d=QX (z6 t l n)):=by
 have q:QI prog 179 [KO l,u64 n] (QO (num (FZ l n))):=Qwf l n ω i j;have s:=Qhl (FZ l n) t n (Qip i j r) p ω;refine ZJ func177 ntmps177 results177 λo w v F u x e=>?_;rw[<- u]at b a;have g:=Qc b;have f:=Qc a;simp only[go_sem,Qa,b,g,a,f];apply Qx e [0,1,3,4,1002,1005,6];simp only[go_sem,Qa,b,g,a,f];refine Vb e Qs6 ?_ q ?_
 .simp only[go_sem,Qa,b,g,a,f]
 apply Zk e;simp only[go_sem,Qa,b,g,a,f];apply S3 e Qfb s;apply YQ e;exact⟨[],(JZ F).symm,rfl⟩
def QxU(t:Nat)(l:List Nc)(e:l.length<1048576)(g:∀c∈l,c.Lt)(f:XV t l=0):QI prog 136 [Qb t,KO l] (QO (tA t l)):=by
 have o:t<=65536:=by unfold XV at f;split at f;cases f;omega
 have y:=Qhl (kf (λc=>c.b) l) t 1 (Qiq e g) o π;have r:(XV t l != 0)=false:=by rw[f];rfl
 have F:=QxS l;refine QZ 0 func136 ntmps136 results136 λs w a=>?_;simp only[go_sem];refine ZO a fj ?_ (ig t l e) ?_
 .simp only[go_sem,r]
 apply Qf a;simp only[go_sem,r];refine Va a [] Qs3 rfl ?_ (QxN l e) rfl λd h i=>?_
 .simp only[go_sem]
 obtain⟨rfl,rfl⟩:=i;simp only[go_sem];apply QV a;have v:=QxR [⟨.one,0,1,1,λ_=>[Qb t]⟩,⟨.one,0,1,1,λ_=>[KO l]⟩] (WH l) ω (.clo 177 0 [.ptr 1 0 0 0,.ptr 0 0 0 0]) 177 0 [.ptr 1 0 0 0,.ptr 0 0 0 0] Qs5 rfl (z6 t l) (λC x hx m=>by
  obtain⟨n,rfl,B,z⟩:=Qio hx;obtain⟨E,rfl⟩:=m;exact QxT _ t l e g o 1 0 rfl rfl n z)
 refine XR a Qs4 rfl ?_ v rfl λd2 i=>?_
 .simp only[go_sem];try exact DL _
 subst i;have b:=Qin (z6 t l) (WH l);unfold tA;cases q:(WH l).any (z6 t l)
 .rw[q]at b;rw[Qd π];apply Qf a;simp only[go_sem,b];apply Qx a [0,2,1001,1003,4,5];simp only[go_sem];apply Kw a Qs7 (Qwd l e g);apply VD a;apply Kw a Qfb y;apply VD a;rfl
 .rw[q]at b;rw[Qe rfl];have u:0<=wQ (z6 t l) (WH l):=qQ b;have k:=QxQ u;obtain⟨j,p⟩:∃j:Nat,wQ (z6 t l) (WH l)=(j:Int):=⟨(wQ (z6 t l) (WH l)).toNat,ω⟩;rw[p]at b k ⊢;rw[IC]at k;apply Qf a;simp only[go_sem,b,p,k];first|rfl|exact⟨rfl,rfl⟩|trace_state
def vL(t:Int)(l:List Nc):Int:=if XV t l≠0 then XV t l else if Uk t.toNat l=true then 22 else 0
def QxW(t)(l:List Nc)(h:l.length<1048576)(k:∀c∈l,c.Lt):QI prog 97 [Qb t,KO l] (QO (Qb (vL t l))):=by
 by_cases b:XV t l=0
 .have j:∃n:Nat,t=(n:Int):=⟨t.toNat,by unfold XV at b;split at b;cases b;omega⟩;obtain⟨n,rfl⟩:=j;have f:(XV n l != 0)=false:=by rw[b];rfl
  have e:vL n l=if Uk n l=true then 22 else 0:=by rw[vL,Qd (by simpa using b)];rfl
  rw[e];have g:=QxU n l h k b;unfold tA at g;unfold Uk;cases i:(WH l).any (z6 n l)
  .rw[i,Qd π]at g;rw[IA];refine QZ 0 func97 ntmps97 results97 λd w a=>?_;simp only[go_sem];refine ZO a fj ?_ (ig n l h) ?_
   .simp only[go_sem,f]
   apply Qf a;simp only[go_sem,f];apply Jp a Qe5 g;apply QV a;cases PD n l
   .simp only[go_sem]
   .simp only[go_sem]
  .rw[i,Qe rfl]at g;rw[RH,Qe rfl];refine QZ 0 func97 ntmps97 results97 λd w a=>?_;simp only[go_sem];refine ZO a fj ?_ (ig n l h) ?_
   .simp only[go_sem,f]
   apply Qf a;simp only[go_sem,f];apply Jp a Qe5 g;exact Yc a
 .have f:(XV t l != 0)=true:=by simpa using b
  have e:vL t l=XV t l:=by rw[vL,Qe b]
  rw[e];refine QZ 0 func97 ntmps97 results97 λd w a=>?_;simp only[go_sem];refine ZO a fj ?_ (ig t l h) ?_
  .simp only[go_sem,f]
  apply Qf a;simp only[go_sem,f]
def Wl(x:Int)(s:List Int × Bool)(d:Int):List Int × Bool:=
 if s.2=false/\x<=d then (if d=x then (s.1++[x],true) else (s.1++[x]++[d],true)) else (if d=x then s else (s.1++[d],s.2))
def XW(x:Int)(s:List Int × Bool):List Int:=if s.2=true then s.1 else s.1++[x]
def HN(x:Int)(M:List Int):List Int:=XW x (M.foldl (Wl x) ([],false))
def QxX{x}{s:List Int × Bool}(h:s.2=true->x∈s.1)(d:Int):((Wl x s d).2=true->x∈(Wl x s d).1)/\(∀y,y∈XW x (Wl x s d)↔y∈XW x s\/y=d)/\(XW x (Wl x s d)).length<=(XW x s).length+1:=by
 obtain⟨m,p⟩:=s;cases p
 .by_cases c:x<=d
  .by_cases a:d=x
   .subst a;refine⟨λ_=>?_,λy=>?_,?_⟩<;>simp[Wl,XW]
   .refine⟨λ_=>?_,λy=>?_,?_⟩<;>simp[Wl,XW,c,a,or_assoc]
  .have a:d≠x:=ω;refine⟨λb=>?_,λy=>?_,?_⟩
   .simp[Wl,c,a]at b
   .simp only[Wl,XW,c,a,and_false,YF,XZ,Q3,X1,or_assoc];exact or_congr_right (Or.comm)
   .simp[Wl,XW,c,a]
 .have b:=h rfl;by_cases a:d=x
  .subst a;refine⟨λ_=>?_,λy=>?_,?_⟩
   .simpa[Wl] using b
   .simp only[Wl,XW,Bool.true_eq_false,false_and,YF,Vp];exact⟨λh=>.inl h,λh=>h.elim id λe=>e▸b⟩
   .simp[Wl,XW]
  .refine⟨λ_=>?_,λy=>?_,?_⟩
   .simp only[Wl,Bool.true_eq_false,false_and,YF,a];exact II _ b
   .simp[Wl,XW,a]
   .simp[Wl,XW,a]
def ij{x}:∀{M:List Int} {s:List Int × Bool},(s.2=true->x∈s.1)->(∀y,y∈XW x (M.foldl (Wl x) s)↔y∈XW x s\/y∈M)/\(XW x (M.foldl (Wl x) s)).length<=(XW x s).length+M.length
 | [],s,_=>σ
 | d::M,s,h=>by
  obtain⟨c,b,f⟩:=QxX h d;obtain⟨a,e⟩:=ij (M:=M) c;refine⟨λy=>?_,?_⟩
  .rw[v8,a,b,QF,or_assoc]
  .rw[v8,Vo];omega
def QxY(x)(M)(y):y∈HN x M↔y=x\/y∈M:=by
 have:=(ij (x:=x) (M:=M) (s:=([],false)) (λh=>by cases h)).1 y;unfold HN;rw[this];simp[XW]
def QxZ(x)(M:List Int):(HN x M).length<=M.length+1:=by
 have:=(ij (x:=x) (M:=M) (s:=([],false)) (λh=>by cases h)).2;unfold HN;simp[XW]at this ⊢;omega
def Qx0(x)(s:List Int × Bool):s.1.length<=(XW x s).length:=by
 unfold XW;split<;>simp
def Qx1(x)(M:List Int):(M.foldl (Wl x) ([],false)).1.length<=M.length+1:=by
 have b:=(ij (x:=x) (M:=M) (s:=([],false)) (λh=>by cases h)).2;have a:=Qx0 x (M.foldl (Wl x) ([],false));simp[XW]at b a ⊢;omega
def WY(l:List Nc):List Int:=l.foldl (λM c=>if c.of<3 then M else HN c.d M) []
def tB(l:List Nc){i}(a:i<l.length):WY (l.take (i+1))=if (l.getD i default).of<3 then WY (l.take i) else HN (l.getD i default).d (WY (l.take i)):=by
 unfold WY;rw[zD,QG a,BH,qd,QY,QG a];rfl
def Qx2(c:Nc):xY c=decide (¬ c.of<3):=by
 unfold xY;rcases Qha c.a c.d c.b with h|h|h|h|h<;>(have a:c.of=_:=h;rw[a];decide)
def Qir(l:List Nc)(x):∀i,i<=l.length->(x∈WY (l.take i)↔∃c,c∈l.take i/\xY c=true/\(c.d:Int)=x)
 | 0,_=>by simp[WY]
 | i+1,h=>by
  have j:i<l.length:=ω;have m:=Qir l x i ω;have e:l.take (i+1)=l.take i++[l.getD i default]:=by
   rw[zD,QG j,QY,QG j];rfl
  rw[tB l j,e];obtain⟨c,o⟩:∃c,c=l.getD i default:=⟨_,rfl⟩;rw[<- o];have n:=Qx2 c;by_cases g:c.of<3
  .rw[Qe g,m];have k:xY c=false:=by rw[n];simp[g]
   constructor
   .rintro⟨e,d,a⟩;exact⟨e,II _ d,a⟩
   .rintro⟨e,d,a,f⟩;rcases Q3.1 d with b|b
    .exact⟨e,b,a,f⟩
    .rw[X1.1 b,k]at a;cases a
  .rw[Qd g,QxY,m];have k:xY c=true:=by rw[n];simp[g]
   constructor
   .rintro (rfl|⟨e,d,a⟩)
    .exact⟨c,σ,k,rfl⟩
    .exact⟨e,II _ d,a⟩
   .rintro⟨e,d,a,f⟩;rcases Q3.1 d with b|b
    .exact .inr ⟨e,b,a,f⟩
    .left;rw[X1.1 b]at f;exact f.symm
def Qis(l)(x):x∈WY l↔x∈WH l:=by
 have:=Qir l x l.length (QB _);rw[Wc]at this;rw[this,Qik]
def tC(l:List Nc):∀i,i<=l.length->(WY (l.take i)).length<=i
 | 0,_=>by simp[WY]
 | i+1,h=>by
  have a:=tC l i ω;rw[tB l ω];split
  .omega
  .have:=QxZ (l.getD i default).d (WY (l.take i));omega
def YY(x:Int)(M:List Int)(j:Nat):List Int × Bool:=(M.take j).foldl (Wl x) ([],false)
def Qx3(x)(M:List Int){j}(a:j<M.length):YY x M (j+1)=Wl x (YY x M j) (M.getD j 0):=by
 unfold YY;rw[zD,QG a,BH,qd,QY,QG a];rfl
def Qx4(x)(M)(j:Nat):(YY x M j).1.length<=j+1:=by
 have b:=Qx1 x (M.take j);have a:(M.take j).length<=j:=ξ;unfold YY;omega
@[go_sem] def Eb(n:Nat):Ob:=⟨.one,0,4,1,λ_=>[u64 (d0 n),u64 (d1 n),u64 (d2 n),u64 (d3 n)]⟩
def Qit(g)(l:List Nc){i:Nat}(a:i<l.length):(l.take (i+1)).foldl (XF g) 0=XF g ((l.take i).foldl (XF g) 0) (l.getD i default):=by
 rw[zD,QG a,BH,qd,QY,QG a];rfl
def Qx5(l:List Nc)(t)(m:t<18446744073709551616)(F:l.length<1048576)(o:∀c∈l,c.Lt):QI prog 90 [KO l,u64 t] (QO (dg (kf (λc=>Xi c.a c.d c.b t) l))):=by
 obtain⟨g,f⟩:∃g:Nc->Nat,g=λc=>Xi c.a c.d c.b t:=⟨_,rfl⟩;have q:∀c:Nc,c.Lt->g c<=2 ^ 97:=λc _=>by rw[f];have:=Qhb c.a c.d c.b t m;dsimp only;omega
 rw[<- f];refine QZ 0 func90 ntmps90 results90 λr w b=>?_;simp only[go_sem];refine ZW (λi s=>s=⟨[(1,u64 t),(4,.ptr 0 0 0 0),(5,.ptr 1 0 0 0),(9,KO l),(10,Qb l.length),(11,Qb i)],[Eb 0,Eb ((l.take i).foldl (XF g) 0)]⟩) l.length (s0:=⟨[(1,u64 t),(4,.ptr 0 0 0 0),(5,.ptr 1 0 0 0),(9,KO l),(10,Qb l.length),(11,Qb 0)],[⟨.one,0,4,1,λ_=>[u64 0,u64 0,u64 0,u64 0]⟩,⟨.one,0,4,1,λ_=>[u64 0,u64 0,u64 0,u64 0]⟩]⟩) (Qr.to 2 (by (simp only[go_sem])<;>simp)) (by simp[Eb,dz0,dz1,dz2,dz3]) ?_;rintro i s n rfl;have B:=JT (show i<4611686018427387904 from ω);obtain⟨S,d⟩:∃S,S=(l.take i).foldl (XF g) 0:=⟨_,rfl⟩;have J:S<=2 ^ 117:=by
  have I:=Pj q (l:=l.take i) (s:=0) λx hx=>o x (bg hx);have u:(l.take i).length<=1048576:=ξ;have H:=XL (2 ^ 97) u;rw[d];omega
 rw[<- d];apply QV b;first|refine WS n (λa=>?_) (λa=>?_)|refine WT n (λa=>?_) (λa=>?_)
 .obtain⟨c,h⟩:∃c,c=l.getD i default:=⟨_,rfl⟩;have y:c.Lt:=o c (by rw[h,QY,QG a];exact X0 a);have p:=Qit g l a;rw[<- d,<- h]at p;have k:=q c y;have j:=Qv0 c.a c.d c.b t m;have z:XF g S c=S+Xi c.a c.d c.b t:=by
   unfold XF;rw[f];split
   .rename_i v;have:Xi c.a c.d c.b t=0:=by unfold Xi;exact Qe v
    omega
   .rfl
  have E:Xi c.a c.d c.b t<=2 ^ 97:=by rw[f]at k;exact k
  have C:=HG S (Xi c.a c.d c.b t) ω ω;simp only[go_sem,a,<- h,Eb];apply Qx b [0,1,2,1003,1004,1005];simp only[go_sem];apply Kw b QrX j;apply VD b;apply Kw b Hj C;apply VD b;refine⟨a,_,?_,rfl⟩;rw[p,z];exact Qr.to 2 (by (simp only[go_sem,B])<;>simp)
 .subst a;rw[Wc]at d;have e:kf g l=S:=d.symm;rw[e];apply Qf b;simp only[go_sem,Eb]
def Qx7(l:List Nc)(C:l.length<1048576)(q:∀c∈l,c.Lt):QI prog 91 [KO l,QX false] (QO (dg (kf (λc=>c.b) l))):=by
 refine QZ 0 func91 ntmps91 results91 λu w b=>?_;simp only[go_sem];refine ZW (λi s=>s=⟨[(1,QX false),(4,.ptr 0 0 0 0),(5,.ptr 1 0 0 0),(10,KO l),(11,Qb l.length),(12,Qb i)],[Eb 0,Eb ((l.take i).foldl (XF (λc=>c.b)) 0)]⟩) l.length (s0:=⟨[(1,QX false),(4,.ptr 0 0 0 0),(5,.ptr 1 0 0 0),(10,KO l),(11,Qb l.length),(12,Qb 0)],[⟨.one,0,4,1,λ_=>[u64 0,u64 0,u64 0,u64 0]⟩,⟨.one,0,4,1,λ_=>[u64 0,u64 0,u64 0,u64 0]⟩]⟩) (Qr.to 2 (by (simp only[go_sem])<;>simp)) (by simp[Eb,dz0,dz1,dz2,dz3]) ?_;rintro i s p rfl;have t:=JT (show i<4611686018427387904 from ω);obtain⟨S,d⟩:∃S,S=(l.take i).foldl (XF (λc=>c.b)) 0:=⟨_,rfl⟩;have B:∀c:Nc,c.Lt->c.b<=2 ^ 97:=λc h=>by have:=h.2.2;omega
 have F:S<=2 ^ 117:=by
  have y:=Pj (g:=λc=>c.b) B (l:=l.take i) (s:=0) λx hx=>q x (bg hx);have v:(l.take i).length<=1048576:=ξ;have E:=XL (2 ^ 97) v;rw[<- d]at y;omega
 rw[<- d];apply QV b;first|refine WS p (λa=>?_) (λa=>?_)|refine WT p (λa=>?_) (λa=>?_)
 .obtain⟨c,n⟩:∃c,c=l.getD i default:=⟨_,rfl⟩;have r:c.Lt:=q c (by rw[n,QY,QG a];exact X0 a);have k:=Qit (λc=>c.b) l a;rw[<- d,<- n]at k;have o:=r7 c.b r.2.2;have z:=HG S c.b ω (by have:=r.2.2;omega);simp only[go_sem,a,<- n,Eb];refine ZO b qY ?_ (gD c.a c.d c.b) ?_
  .simp only[go_sem,Go.undef]
  apply Qf b;simp only[go_sem,Go.undef];by_cases f:Kt c.a c.d c.b=0
  .have m:XF (λc=>c.b) S c=S:=by unfold XF;exact Qe f
   have j:(Kt c.a c.d c.b != 0)=false:=by rw[f];rfl
   simp only[go_sem,j];refine⟨a,_,?_,rfl⟩;rw[k,m];exact Qr.to 2 (by (simp only[go_sem,t])<;>simp)
  .have m:XF (λc=>c.b) S c=S+c.b:=by unfold XF;exact Qd f
   have j:(Kt c.a c.d c.b != 0)=true:=by simpa using f
   simp only[go_sem,j];apply Qx b [0,1,1002,1003,1004];simp only[go_sem];apply Kw b oO o;apply VD b;apply Kw b Hj z;apply VD b;refine⟨a,_,?_,rfl⟩;rw[k,m];exact Qr.to 2 (by (simp only[go_sem,t])<;>simp)
 .subst a;rw[Wc]at d;have e:kf (λc=>c.b) l=S:=d.symm;rw[e];apply Qf b;simp only[go_sem,Eb]
def Qx9(n t:Nat)(H:n<2 ^ 111)(p:t<=65536):QI prog 126 [dg n,Qb t] (QO (dg (n*t))):=by
 obtain⟨c,b,q,rfl⟩:∃c b,b<18446744073709551616/\n=c*18446744073709551616+b:=⟨n / 18446744073709551616,n % 18446744073709551616,Xx _ π,ω⟩;have v:c<140737488355328:=ω;have C:(c*18446744073709551616+b) / 18446744073709551616=c:=ω;have z:(c*18446744073709551616+b) % 18446744073709551616=b:=ω;obtain⟨A,h⟩:∃A,A=b*t:=⟨_,rfl⟩;obtain⟨B,g⟩:∃B,B=c*t:=⟨_,rfl⟩;have k:B<=9223372036854775808:=by rw[g];exact Kv (Ys (Nat.le_of_lt v) p) π
 have F:A<=1208925819614629174706176:=by rw[h];exact Kv (Ys (Nat.le_of_lt q) p) π
 have y:(c*18446744073709551616+b)*t=B*18446744073709551616+A:=by rw[h,g,VM,IN,IP 18446744073709551616 t,<- IN]
 have f:=Qg3 (c*18446744073709551616+b) ω;have e:=QvR (c*18446744073709551616+b) ω;have d:=Qhk t ω;have m:=Pf b t q ω;have l:=Pf c t ω ω;rw[<- h]at m;rw[<- g]at l;rw[C]at e;rw[z]at f;have o:=Qg3 B ω;rw[Aq (by omega:B<18446744073709551616)]at o;have s:=QvQ B 0 ω π;have j:B*18446744073709551616<=9223372036854775808*18446744073709551616:=XL _ k;have i:9223372036854775808*18446744073709551616<2 ^ 128:=π;have E:B*18446744073709551616+0<2 ^ 128:=by rw[Ap];exact NG j i
 have u:=HG A (B*18446744073709551616+0) ω E;rw[y,NC (B*18446744073709551616) A,<- Ap (B*18446744073709551616)];obtain⟨N,x⟩:∃N,N=c*18446744073709551616+b:=⟨_,rfl⟩;rw[<- x]at f e ⊢;refine QZ 0 func126 ntmps126 results126 λr w a=>?_;simp only[go_sem];refine ZO a QeS ?_ f ?_
 .simp only[go_sem,d]
 apply Qf a;simp only[go_sem,d];refine ZO a OE ?_ m ?_
 .simp only[go_sem,d]
 apply Qf a;simp only[go_sem,d];refine ZO a QrY ?_ e ?_
 .simp only[go_sem,d]
 apply Qf a;simp only[go_sem,d];refine ZO a OE ?_ l ?_
 .simp only[go_sem,d]
 apply Qf a;simp only[go_sem,d];apply Qx a [0,1,1002,1003,1004,1005];simp only[go_sem];apply Kw a QeS o;apply VD a;apply Kw a QsZ s;apply VD a;apply Kw a Hj u;exact Hn a
def Qiu(n t k:Nat)(e:n<2 ^ 111)(c:t<=65536)(g:k<18446744073709551616):QI prog 89 [dg n,Qb t,u64 k] (QO (QX (!decide (65536*k<n*t)))):=by
 have i:n*t<=n*65536:=Nat.mul_le_mul_left n c;have h:=Qx9 n t e c;have f:=Pf 65536 k π g;have b:=QvS (65536*k) (n*t) ω ω;refine QZ 0 func89 ntmps89 results89 λd w a=>?_;simp only[go_sem];apply Qx a [0,2,3,1001,1004,1005,6,7];simp only[go_sem];refine Vb a OE ?_ f ?_
 .simp only[go_sem,gC]
 apply Zk a;simp only[go_sem,gC];apply Kw a Qsy h;apply VD a;apply Kw a QrN b;exact Hn a
def ik(t)(l:List Nc)(q:l.length<1048576):QI prog 59 [Qb t,KO l] (QO (Qb (XV t l))):=by
 by_cases h1:t<1\/65536<t
 .have e:XV t l=1:=by rw[XV,Qe h1]
  rw[e];refine QZ 0 func59 ntmps59 results59 λd w b=>?_;simp only[go_sem];rcases h1 with h1|h1
  .simp only[QT h1,go_sem]
  .simp only[QH (show ¬ t<1 from ω),QT h1,go_sem]
 .have e:XV t l=if PB l=true then 21 else 0:=by rw[XV,Qd h1]
  have o:=QH (show ¬ t<1 from ω);have n:=QH (show ¬ 65536<t from ω);rw[e];refine QZ 0 func59 ntmps59 results59 λd w b=>?_;simp only[go_sem];simp only[o,n,go_sem];refine ZW (λi s=>(∀c∈l.take i,c.of≠0)/\s=⟨[(13,KO l),(14,Qb l.length),(15,Qb i)],[]⟩) l.length (Qr.to 0 (by (simp only[go_sem])<;>simp)) ⟨σ,rfl⟩ ?_;rintro i s k ⟨g,rfl⟩;have p:=JT (show i<4611686018427387904 from ω);apply QV b;first|refine WS k (λa=>?_) (λa=>?_)|refine WT k (λa=>?_) (λa=>?_)
  .obtain⟨c,j⟩:∃c,c=l.getD i default:=⟨_,rfl⟩;have m:c∈l:=by rw[j,QY,QG a];exact X0 a
   simp only[go_sem,a,<- j];apply Jp b qY (gD c.a c.d c.b);apply QV b;by_cases f:Kt c.a c.d c.b=0
   .have h:PB l=true:=vY.2 ⟨c,m,WC f⟩;rw[h,Qe rfl];simp only[go_sem,WC f]
   .simp only[go_sem,VU f];refine⟨a,_,Qr.to 0 (by (simp only[go_sem,p])<;>simp),?_,rfl⟩;rw[zD,QG a];intro x hx;rcases Q3.1 hx with h2|h2
    .exact g x h2
    .simp only[BH,X1]at h2;rw[h2,show l[i]=c by rw[j,QY,QG a];rfl];exact f
  .subst a;rw[Wc]at g;have h:PB l=false:=by
    unfold PB;rw[aU];intro x hx;simpa using g x hx
   rw[h,Qd π];exact Yc b
end Go.Fg.X
namespace Go.Fg.X
open Go.Proofs Go.Fg
open Go.Proofs.Tryz
def Qiv:IntKind.i64.wrap 2=2:=π
def Qyd(k:Kd):k.Lr k:=by cases k<;>simp[Kd.Lr]
def Qiw:∀h:List Ob,LM h h
 | []=>trivial
 | o::r=>⟨⟨rfl,rfl,rfl,Qyd _,λi _=>vm (qX _) _⟩,Qiw r⟩
def Qix{L:List Int}{a}(c:V7 (λn:Int=>[uI n]) L 0 a){k}(b:k<L.length):a k=[uI (L.getD k 0)]:=by
 have:=c.at_ k b;rw[JR]at this;rw[this];simp only[QY,QG b,Ky]
def Qye(l:List Nc)(hl:l.length<1048576):QI prog 88 [KO l] (QO (yU (WY l))):=by
 refine QZ 0 func88 ntmps88 results88 λY w C=>?_;simp only[go_sem];refine ZW (λi s=>s=⟨[(3,yU (WY (l.take i))),(10,KO l),(11,Qb l.length),(12,Qb i)],[]⟩) l.length (s0:=⟨[(3,yU []),(10,KO l),(11,Qb l.length),(12,Qb 0)],[]⟩)
  (Qr.tell ⟨by simp only[go_sem,LK],Qiw _⟩) (by simp[WY]) ?_
 rintro i s Q rfl;have Zx:=tC l i Q;have S:=JT (show i<4611686018427387904 from ω);apply QV C;first|refine WS Q (λt=>?_) (λt=>?_)|refine WT Q (λt=>?_) (λt=>?_)
 .obtain⟨e,U⟩:∃e,e=l.getD i default:=⟨_,rfl⟩;have E:=tB l t;have T:=t;obtain⟨M,W⟩:∃M,M=WY (l.take i):=⟨_,rfl⟩;rw[<- W,<- U]at E;rw[<- W]at Zx ⊢;simp only[go_sem,t,<- U];apply Jp C qY (gD e.a e.d e.b);apply QV C;by_cases N:Kt e.a e.d e.b<3
  .have P:e.of<3:=N;rw[Qe P]at E;simp only[go_sem,QT N,Go.undef];refine⟨t,_,?_,rfl⟩;rw[E];exact Qr.to 0 (by (simp only[go_sem,S])<;>simp)
  .have P:¬ e.of<3:=N;rw[Qd P]at E;simp only[go_sem,QH N,Go.undef];refine ZW (λj s=>∃g F,V7 (λn:Int=>[uI n]) (YY e.d M j).1 0 F/\s=⟨[(5,.ptr 0 0 0 0),(6,.ref 1 g 0 (YY e.d M j).1.length),(7,QX (YY e.d M j).2),(10,KO l),(11,Qb l.length),(12,Qb i),(19,yU M),(20,Qb M.length),(21,Qb j)],[⟨.one,0,3,1,λ_=>e.cells⟩,⟨.arr,g,1,(YY e.d M j).1.length,F⟩]⟩) M.length
    (s0:=⟨[(5,.ptr 0 0 0 0),(6,.ref 1 0 0 0),(7,QX false),(10,KO l),(11,Qb l.length),(12,Qb i),(19,yU M),(20,Qb M.length),(21,Qb 0)],[⟨.one,0,3,1,λ_=>e.cells⟩,⟨.arr,0,1,0,λ_=>[]⟩]⟩)
    (Qr.trans (Qr.kP 6 1 (λi=>[]) rfl) QQ) ⟨0,λ_=>[],.nil,rfl⟩ ?_
   rintro j s r ⟨g,F,u,rfl⟩;have K:=Qx4 e.d M j;have J:=JT (show j<4611686018427387904 from ω);apply QV C;have o:=r;first|refine WS r (λt=>?_) (λt=>?_)|refine WT r (λt=>?_) (λt=>?_)
   .have v:=Qx3 e.d M t;obtain⟨d,V⟩:∃d,d=M.getD j 0:=⟨_,rfl⟩;rw[<- V]at v;obtain⟨q,L⟩:∃q,q=YY e.d M j:=⟨_,rfl⟩;rw[<- L]at v u K ⊢;obtain⟨m,p⟩:=q;dsimp only at u K ⊢;have z:m.length<=4294967295:=ω;have Z:m.length+1<=4294967295:=ω;simp only[go_sem,t,<- V];cases p
    .by_cases h:(e.d:Int)<=d
     .have O:decide (d >= (e.d:Int))=true:=QT h;by_cases f:d=(e.d:Int)
      .have y:(d != (e.d:Int))=false:=by simpa using f
       have b:(YY e.d M (j+1)).1=m++[(e.d:Int)]:=by rw[v];simp[Wl,h,f]
       have x:(YY e.d M (j+1)).2=true:=by rw[v];simp[Wl,h,f]
       have c:=u.app (e.d:Int) (r2:=λ_=>[uI e.d]) rfl;simp only[go_sem,O,y,z,Go.undef];repeat (refine And.intro ω ?_)
       refine⟨_,Qr.to 2 ⟨?_,by simp only[go_sem],?_,?_⟩,g+1,_,by rw[b];exact c,rfl⟩
       .simp only[go_sem,J,b,x,Zo,Kc]
       .exact⟨λj _=>rfl,λj r=>c.upto (λa=>rfl) j (by have o:=r;simp only[b]at o;simpa using o),trivial⟩
       .simp only[go_sem,b,Zo,Kc]
      .have y:(d != (e.d:Int))=true:=by simpa using f
       have b:(YY e.d M (j+1)).1=m++[(e.d:Int)]++[d]:=by rw[v];simp[Wl,h,f]
       have x:(YY e.d M (j+1)).2=true:=by rw[v];simp[Wl,h,f]
       have c:=(u.app (e.d:Int) (r2:=λ_=>[uI e.d]) rfl).app d (r2:=λ_=>[uI d]) rfl;simp only[Zo,Kc]at c;simp only[go_sem,O,y,z,Z,Go.undef];repeat (refine And.intro ω ?_)
       refine⟨_,Qr.to 2 ⟨?_,by simp only[go_sem],?_,?_⟩,g+1+1,_,by rw[b];exact c,rfl⟩
       .simp only[go_sem,J,b,x,Zo,Kc]
       .exact⟨λj _=>rfl,λj r=>c.upto (λa=>rfl) j (by have o:=r;simp only[b]at o;simpa using o),trivial⟩
       .simp only[go_sem,b,Zo,Kc]
     .have O:decide (d >= (e.d:Int))=false:=QH h;have f:¬ d=(e.d:Int):=ω;have y:(d != (e.d:Int))=true:=by simpa using f
      have b:(YY e.d M (j+1)).1=m++[d]:=by rw[v];simp[Wl,h,f]
      have x:(YY e.d M (j+1)).2=false:=by rw[v];simp[Wl,h,f]
      have c:=u.app d (r2:=λ_=>[uI d]) rfl;simp only[go_sem,O,y,z,Go.undef];repeat (refine And.intro ω ?_)
      refine⟨_,Qr.to 2 ⟨?_,by simp only[go_sem],?_,?_⟩,g+1,_,by rw[b];exact c,rfl⟩
      .simp only[go_sem,J,b,x,Zo,Kc]
      .exact⟨λj _=>rfl,λj r=>c.upto (λa=>rfl) j (by have o:=r;simp only[b]at o;simpa using o),trivial⟩
      .simp only[go_sem,b,Zo,Kc]
    .have h:=True.intro;by_cases f:d=(e.d:Int)
     .have y:(d != (e.d:Int))=false:=by simpa using f
      have b:(YY e.d M (j+1)).1=m:=by rw[v];simp[Wl,h,f]
      have x:(YY e.d M (j+1)).2=true:=by rw[v];simp[Wl,h,f]
      have c:=u;simp only[go_sem,y,z,Go.undef];repeat (refine And.intro ω ?_)
      refine⟨_,Qr.to 2 ⟨?_,by simp only[go_sem],?_,?_⟩,g,_,by rw[b];exact c,rfl⟩
      .simp only[go_sem,J,b,x,Zo,Kc]
      .exact⟨λj _=>rfl,λj r=>c.upto (λa=>rfl) j (by have o:=r;simp only[b]at o;simpa using o),trivial⟩
      .simp only[go_sem,b,Zo,Kc]
     .have y:(d != (e.d:Int))=true:=by simpa using f
      have b:(YY e.d M (j+1)).1=m++[d]:=by rw[v];simp[Wl,h,f]
      have x:(YY e.d M (j+1)).2=true:=by rw[v];simp[Wl,h,f]
      have c:=u.app d (r2:=λ_=>[uI d]) rfl;simp only[go_sem,y,z,Go.undef];repeat (refine And.intro ω ?_)
      refine⟨_,Qr.to 2 ⟨?_,by simp only[go_sem],?_,?_⟩,g+1,_,by rw[b];exact c,rfl⟩
      .simp only[go_sem,J,b,x,Zo,Kc]
      .exact⟨λj _=>rfl,λj r=>c.upto (λa=>rfl) j (by have o:=r;simp only[b]at o;simpa using o),trivial⟩
      .simp only[go_sem,b,Zo,Kc]
   .have h:j=M.length:=ω;subst h;obtain⟨q,L⟩:∃q,q=YY e.d M M.length:=⟨_,rfl⟩;have dZ:HN e.d M=XW e.d q:=by rw[L];unfold HN YY;rw[Wc]
    rw[dZ]at E;rw[<- L]at u K ⊢;obtain⟨m,p⟩:=q;dsimp only at u K ⊢;have z:m.length<=4294967295:=ω;cases p
    .have R:XW e.d (m,false)=m++[(e.d:Int)]:=rfl;have c:=u.app (e.d:Int) (r2:=λ_=>[uI e.d]) rfl;apply Qf C;simp only[go_sem,z,Go.undef];refine⟨T,_,?_,rfl⟩;rw[E,R];refine Qr.trans (Qr.freeze rfl 1 rfl rfl (λk B=>?_)) (Qr.toT 0 ?_)
     .obtain⟨a,H⟩:=c.all k (by simpa using B);simp only[go_sem]at H ⊢;rw[H];rfl
     .simp only[go_sem,S,Zo,Kc];intro k B;have I:=Qix c (k:=k) (by simpa using B);simp only[go_sem]at I;rw[I];exact vm (qX _) _
    .have R:XW e.d (m,true)=m:=rfl;apply Qf C;simp only[go_sem,z,Go.undef];refine⟨T,_,?_,rfl⟩;rw[E,R];refine Qr.trans (Qr.freeze rfl 1 rfl rfl (λk B=>?_)) (Qr.toT 0 ?_)
     .obtain⟨a,H⟩:=u.all k (by simpa using B);simp only[go_sem]at H ⊢;rw[H];rfl
     .simp only[go_sem,S];intro k B;have I:=Qix u B;simp only[go_sem]at I;rw[I];exact vm (qX _) _
 .have h:i=l.length:=ω;subst h;rw[Wc];exact Yc C
def Qyf{A B:List Int}(h:∀x,x∈A↔x∈B)(p):A.any p=B.any p:=by
 rw[vX];simp[vY,h]
def iu(t:Nat)(l:List Nc):D:=if (WY l).any (z6 t l)=true then .agg [uI ((WY l).getD (wQ (z6 t l) (WY l)).toNat 0),QX true] else .agg [u64 0,QX (PD t l)]
def Qyg(t:Nat)(l:List Nc)(e:l.length<1048576)(m:∀c∈l,c.Lt)(g:XV t l=0):QI prog 60 [Qb t,KO l] (QO (iu t l)):=by
 have v:t<=65536:=by unfold XV at g;split at g;cases g;omega
 have z:(XV t l != 0)=false:=by rw[g];rfl
 have N:(WY l).length<=l.length:=by have:=tC l l.length (QB _);rwa [Wc]at this
 refine QZ 0 func60 ntmps60 results60 λC w a=>?_;simp only[go_sem];refine ZO a eZ ?_ (ik t l e) ?_
 .simp only[go_sem,z]
 apply Qf a;simp only[go_sem,z];refine Va a [] Qsc rfl ?_ (Qye l e) rfl λd h F=>?_
 .simp only[go_sem]
 obtain⟨rfl,rfl⟩:=F;simp only[go_sem];apply QV a;refine ZW (λi s=>(∀j,j<i->z6 t l ((WY l).getD j 0)=false)/\s=⟨[(0,Qb t),(1,KO l),(4,.ptr 0 0 0 0),(13,yU (WY l)),(14,Qb (WY l).length),(15,Qb i)],[⟨.one,0,2,1,λ_=>[u64 0,QX false]⟩]⟩) (WY l).length (s0:=⟨[(0,Qb t),(1,KO l),(4,.ptr 0 0 0 0),(13,yU (WY l)),(14,Qb (WY l).length),(15,Qb 0)],[⟨.one,0,2,1,λ_=>[u64 0,QX false]⟩]⟩) (Qr.to 1 (by (simp only[go_sem])<;>simp)) ⟨λj x=>absurd x (X2 j),rfl⟩ ?_;rintro i s y ⟨r,rfl⟩;have L:=JT (show i<4611686018427387904 from ω);apply QV a;first|refine WS y (λb=>?_) (λb=>?_)|refine WT y (λb=>?_) (λb=>?_)
 .obtain⟨k,u,M,E⟩:=Qio ((Qis l _).1 (tz b));have B:=Qx5 l k ω e m;have o:=Qiu (FZ l k) t k (Qip e m E) v ω;have q:z6 t l ((WY l).getD i 0)=decide (65536*k<FZ l k*t):=by rw[u];rfl
  have J:kf (λc=>Xi c.a c.d c.b k) l=FZ l k:=rfl;rw[J]at B;simp only[go_sem,b,u];apply Jp a Qsd B;apply QV a;apply Jp a Qe0 o;apply QV a;cases f:decide (65536*k<FZ l k*t)
  .simp only[go_sem,f];refine⟨b,_,Qr.to 1 (by (simp only[go_sem,L])<;>simp),λj x=>?_,rfl⟩;by_cases H:j<i
   .exact r j H
   .obtain rfl:j=i:=ω;rw[q,f]
  .have p:(WY l).any (z6 t l)=true:=vY.2 ⟨_,tz b,by rw[q,f]⟩;have K:=Qil b r (by rw[q,f]);rw[iu,Qe p,K,IC,u];simp only[go_sem,f]
 .have n:i=(WY l).length:=ω;subst n;have p:(WY l).any (z6 t l)=false:=by
   have n:=Qin (z6 t l) (WY l);rw[Qim r]at n;rw[<- n];decide
  have o:=Qiu (kf (λc=>c.b) l) t 1 (Qiq e m) v π;have I:decide (65536*1<kf (λc=>c.b) l*t)=PD t l:=rfl;rw[I]at o;rw[iu,p,Qd π];apply QV a;apply Jp a Qse (Qx7 l e m);apply QV a;apply Jp a Qe0 o;apply QV a;simp only[Bool.not_not,go_sem]
def Qyh(t)(l:List Nc)(h:l.length<1048576)(k:∀c∈l,c.Lt):QI prog 37 [Qb t,KO l] (QO (Qb (vL t l))):=by
 by_cases b:XV t l=0
 .have j:∃n:Nat,t=(n:Int):=⟨t.toNat,by unfold XV at b;split at b;cases b;omega⟩;obtain⟨n,rfl⟩:=j;have f:(XV n l != 0)=false:=by rw[b];rfl
  have e:vL n l=if Uk n l=true then 22 else 0:=by rw[vL,Qd (by simpa using b)];rfl
  rw[e];have g:=Qyg n l h k b;unfold iu at g;unfold Uk;rw[Qyf (Qis l)]at g;cases i:(WH l).any (z6 n l)
  .rw[i,Qd π]at g;rw[IA];refine QZ 0 func37 ntmps37 results37 λd w a=>?_;simp only[go_sem];refine ZO a eZ ?_ (ik n l h) ?_
   .simp only[go_sem,f]
   apply Qf a;simp only[go_sem,f];apply Jp a QeT g;apply QV a;cases PD n l
   .simp only[go_sem]
   .simp only[go_sem]
  .rw[i,Qe rfl]at g;rw[RH,Qe rfl];refine QZ 0 func37 ntmps37 results37 λd w a=>?_;simp only[go_sem];refine ZO a eZ ?_ (ik n l h) ?_
   .simp only[go_sem,f]
   apply Qf a;simp only[go_sem,f];apply Jp a QeT g;exact Yc a
 .have f:(XV t l != 0)=true:=by simpa using b
  have e:vL t l=XV t l:=by rw[vL,Qe b]
  rw[e];refine QZ 0 func37 ntmps37 results37 λd w a=>?_;simp only[go_sem];refine ZO a eZ ?_ (ik t l h) ?_
  .simp only[go_sem,f]
  apply Qf a;simp only[go_sem,f]
end Go.Fg.X
namespace Go.Fg.X
open Go.Proofs Go.Fg
open Go.RowKit (Below)
open Go.Proofs.Tryz
def Qyi{N}{w}{f n}{d g}{v}(h:Cl N w (.imm f n d) v)(e:∀i,i<n->d i=g i):Cl N w (.imm f n g) v:=by
 cases h with
 | imm _ _ _ a k b o l t q m s p=>exact .imm f n g a k b o l t q (λi c=>by rw[<- e i c];exact m i c) s (λi j c r=>by rw[<- e i c];exact p i j c r)
def iv{P:Program}{f:FuncId}{k:List D}{u:Type}[Inhabited u]{n:Nat}{m:u->List D}{L:List u}(K:∀a,(m a).all D.XO=true)(h:QI P f k (TQ n m L)):
  QI P f k (QO (.imm n L.length (λi=>m (L.getD i default)))):=by
 intro Z s w M J W F E Q S;have Zb:M=[]:=by have:=E.len;simpa using this
 subst Zb;refine(h Z s w [] J W F E Q S).mono λe I R=>?_;obtain⟨v,d,hh,y,rfl,⟨g,j,c,rfl,rfl,z⟩,C,U,B,V⟩:=R;have r:y.length=1:=by have:=C.len;simpa using this
 obtain⟨p,rfl⟩:∃p,y=[p]:=by
  match y,r with
  | [p],_=>exact⟨p,rfl⟩
 have H:=U.fz (l:=0) (o:=⟨.arr,g,n,j+L.length,c⟩) (p:=p) rfl rfl rfl (λb q e=>by
  subst e;refine⟨F b ?_,λO q' e'=>?_,(C.at_ 0 _ b q rfl rfl).2.cells rfl⟩
  .rcases xn b w.heap.size with Qc|Xd
   .exact absurd rfl ((B.Ko b (λi q e=>by simp at e) Qc).1 0 q)
   .exact Xd
  .have:=Wp e';simp at this;exact this) (λi x=>by
  obtain⟨a,T⟩:=z.all i x;show (c i).all D.XO=true;rw[T];exact K a) (h':=[Ob.gone ⟨.arr,g,n,j+L.length,c⟩]) (λO N QA e=>by
  have:=KA e;simp at this;exact absurd this QA)
 have Y:D.fz 0 g (j+L.length) n c (.ref 0 g j L.length)=.imm n L.length (rowFrom j c):=by simp[D.fz,Ff]
 simp only[Y]at H;have Zx:=(G4 H rfl).mono (N':=free Z []) (w':=I) λb t _=>⟨⟨t.1,λl q e=>by simp at e⟩,rfl⟩;refine⟨v,_,[],[],rfl,⟨rfl,rfl⟩,Zl.nil,.cl _ _ (Qyi Zx λi x=>z.at_ i x),⟨λb t Qc=>⟨t,(B.Ko b t Qc).2⟩,λl o p e=>by simp at e,λl o N b q e=>by simp at e⟩,V⟩
def Qyj{c:Type}[Inhabited c](f:Nat)(e:c->List D)(L:List c)(v:Value)(d:D)(h:List Ob):Prop:=∃g a b,d=.agg [.ref 0 g a L.length,.raw v]/\h=[⟨.arr,g,f,a+L.length,b⟩]/\V7 e L a b
def Qyk{P:Program}{f:FuncId}{b:List D}{j:Type}[Inhabited j]{sz:Nat}{enc:j->List D}{L:List j}{v:Value}(m:∀a,(enc a).all D.XO=true)(h:QI P f b (Qyj sz enc L v)):
  QI P f b (QO (.agg [.imm sz L.length (λi=>enc (L.getD i default)),.raw v])):=by
 refine QxI _ rfl ?_ h;rintro d p ⟨g,e,c,rfl,rfl,l⟩;refine⟨g,sz,_,c,rfl,λi k=>?_,?_⟩
 .obtain⟨a,n⟩:=l.all i k;rw[n];exact m a
 .have o:D.fz 0 g (e+L.length) sz c (.agg [.ref 0 g e L.length,.raw v])=.agg [.imm sz L.length (rowFrom e c),.raw v]:=by simp[D.fz,zQ,Ff]
  rw[o,Qdy,oK,oK,SL,Qdx];refine⟨⟨rfl,rfl,λi k=>?_⟩,rfl,Qdz▸trivial⟩;rw[He,l.at_ i k];exact vm (qX _) _
end Go.Fg.X
namespace Go.Fg.X
open Go.Proofs Go.Fg
open Go.Proofs.Tryz
theorem Ec(a:Qm):xy 2 a.cells=true:=rfl
def Qiy(L)(x):∀i,(putAt L x i).1.length<=2*i
 | 0=>QB _
 | i+1=>by
  have:=Qiy L x i;simp only[putAt];split<;>split<;>simp<;>omega
def V7.tF{L}{c}{b}(h:V7 Qm.cells L c b):V7 Qm.cells L c (λi=>zP [1] (b i)):=
 ⟨λi d=>by show zP [1] (b (c+i))=_;rw[h.at_ i d];rfl,λi d=>by obtain⟨a,e⟩:=h.all i d;exact⟨a,by show zP [1] (b i)=_;rw[e];rfl⟩⟩
def V7.tG{L:List Qm}{c}{b}(h:V7 Qm.cells L c b):∀i,i<c+L.length->yA [1] (b i)=true:=λi d=>by
 obtain⟨a,e⟩:=h.all i d;rw[e];rfl
def Qyl(L:List Qm)(x)(K:L.length<1000000):QI prog 86 [Vm L,WV x] (TQ 14 Qm.cells (CA L x)):=by
 refine Qdn [1] rfl KS 200 func86 rfl ntmps86 results86 rfl λF w B=>?_;simp only[go_sem];refine ZW (λi s=>∃g b d,V7 Qm.cells (putAt L x i).1 b d/\s=⟨[(3,.ptr 0 0 0 0),(5,.ref 1 g b (putAt L x i).1.length),(6,QX (putAt L x i).2),(9,Vm L),(10,Qb L.length),(11,Qb i)],[⟨.one,0,14,1,λ_=>x.cells⟩,⟨.arr,g,14,b+(putAt L x i).1.length,d⟩]⟩) L.length
  (s0:=⟨[(3,.ptr 0 0 0 0),(5,.ref 1 0 0 0),(6,QX false),(9,Vm L),(10,Qb L.length),(11,Qb 0)],[⟨.one,0,14,1,λ_=>x.cells⟩,⟨.arr,0,14,0,λ_=>[]⟩]⟩)
  (Qr.trans (Qr.kP 5 14 (λi=>[]) rfl) (Qr.to 2 (by (simp only[go_sem])<;>simp))) ⟨0,0,λ_=>[],.nil,rfl⟩ ?_
 rintro i s y ⟨g,b,d,l,rfl⟩;have J:=Qiy L x i;have q:=JT (show i<4611686018427387904 from ω);apply QV B;first|refine WS y (λt=>?_) (λt=>?_)|refine WT y (λt=>?_) (λt=>?_)
 .obtain⟨M,C⟩:∃M,M=(putAt L x i).1:=⟨_,rfl⟩;obtain⟨m,E⟩:∃m,m=(putAt L x i).2:=⟨_,rfl⟩;obtain⟨e,z⟩:∃e,e=L.getD i default:=⟨_,rfl⟩;have p:putAt L x (i+1)=(if e.iD≠x.iD then (if !m&&decide (x.iD<=e.iD) then M++[x] else M)++[e] else (if !m&&decide (x.iD<=e.iD) then M++[x] else M),m || decide (x.iD<=e.iD)):=by rw[C,E,z];rfl
  rw[<- C]at l J ⊢;rw[<- E];have n:M.length<=4294967295:=ω;have H:M.length+1<=4294967295:=ω;have o:V7 Qm.cells (M++[x]) 0 (JC M.length b d λ_=>x.cells):=l.app x rfl;have r:V7 Qm.cells (M++[e]) 0 (JC M.length b d λ_=>e.cells):=l.app e rfl;have u:V7 Qm.cells (M++[x]++[e]) 0 (JC (M++[x]).length 0 (JC M.length b d λ_=>x.cells) λ_=>e.cells):=o.app e rfl;have v:(M++[x]).length=M.length+1:=σ;simp only[go_sem,t,<- z];obtain rfl|rfl:m=true\/m=false:=by cases m<;>simp
  .simp only[go_sem];by_cases c:e.iD=x.iD
   .have a:putAt L x (i+1)=(M,true):=by rw[p];simp[c]
    simp only[go_sem,WC c,bne];repeat (refine And.intro ω ?_)
    refine⟨_,Qr.to 2 ⟨?_,by simp only[go_sem],?_,?_⟩,g,b,_,by rw[a];exact l,rfl⟩
    .simp only[go_sem,q,a,Zo,Kc]
    .exact⟨λj _=>Ec x,λj h=>(l).upto Ec j (by have f:=h;simp only[a]at f;simpa using f),trivial⟩
    .simp only[go_sem,a,Zo,Kc]
   .have a:putAt L x (i+1)=(M++[e],true):=by rw[p];simp[c]
    simp only[go_sem,VU c,bne,n];repeat (refine And.intro ω ?_)
    refine⟨_,Qr.to 2 ⟨?_,by simp only[go_sem],?_,?_⟩,(g+1),0,_,by rw[a];exact r,rfl⟩
    .simp only[go_sem,q,a,Zo,Kc]
    .exact⟨λj _=>Ec x,λj h=>(r).upto Ec j (by have f:=h;simp only[a]at f;simpa using f),trivial⟩
    .simp only[go_sem,a,Zo,Kc]
  .simp only[go_sem];by_cases k:x.iD<=e.iD
   .simp only[go_sem,QT k,n,k];by_cases c:e.iD=x.iD
    .have a:putAt L x (i+1)=(M++[x],true):=by rw[p];simp[c]
     simp only[go_sem,WC c,bne,n];repeat (refine And.intro ω ?_)
     refine⟨_,Qr.to 2 ⟨?_,by simp only[go_sem],?_,?_⟩,(g+1),0,_,by rw[a];exact o,rfl⟩
     .simp only[go_sem,q,a,Zo,Kc]
     .exact⟨λj _=>Ec x,λj h=>(o).upto Ec j (by have f:=h;simp only[a]at f;simpa using f),trivial⟩
     .simp only[go_sem,a,Zo,Kc]
    .have a:putAt L x (i+1)=(M++[x]++[e],true):=by rw[p];simp[c,k]
     simp only[go_sem,VU c,bne,n,H];rw[v]at u;repeat (refine And.intro ω ?_)
     refine⟨_,Qr.to 2 ⟨?_,by simp only[go_sem],?_,?_⟩,(g+1+1),0,_,by rw[a];exact u,rfl⟩
     .simp only[go_sem,q,a,Zo,Kc]
     .exact⟨λj _=>Ec x,λj h=>(u).upto Ec j (by have f:=h;simp only[a]at f;simpa using f),trivial⟩
     .simp only[go_sem,a,Zo,Kc]
   .simp only[go_sem,QH k,n,k];by_cases c:e.iD=x.iD
    .exact absurd ω k
    .have a:putAt L x (i+1)=(M++[e],false):=by rw[p];simp[c,k]
     simp only[go_sem,VU c,bne,n];repeat (refine And.intro ω ?_)
     refine⟨_,Qr.to 2 ⟨?_,by simp only[go_sem],?_,?_⟩,(g+1),0,_,by rw[a];exact r,rfl⟩
     .simp only[go_sem,q,a,Zo,Kc]
     .exact⟨λj _=>Ec x,λj h=>(r).upto Ec j (by have f:=h;simp only[a]at f;simpa using f),trivial⟩
     .simp only[go_sem,a,Zo,Kc]
 .have k:i=L.length:=ω;subst k;have n:(putAt L x L.length).1.length<=4294967295:=ω;have o:V7 Qm.cells ((putAt L x L.length).1++[x]) 0 (JC (putAt L x L.length).1.length b d λ_=>x.cells):=l.app x rfl;apply QV B;by_cases c:(putAt L x L.length).2=true
  .have e:CA L x=(putAt L x L.length).1:=by rw[CA,Qe c]
   simp only[go_sem,c];rw[e];exact⟨l.tG,g,b,_,rfl,rfl,l.tF⟩
  .have e:CA L x=(putAt L x L.length).1++[x]:=by rw[CA,Qd c]
   simp only[Yq]at c;simp only[go_sem,c,n];rw[e];refine⟨λj h=>(by have I:=o.tG j (by simpa using h);simpa only[go_sem] using I),g+1,0,_,?_,?_,o.tF⟩
   .simp
   .rw[JR,Zo,Kc];simp only[go_sem]
def tI(L:List Qm)(x)(a:L.length<1000000):QI prog 86 [Vm L,WV x] (QO (Vm (CA L x))):=iv (λ_=>rfl) (Qyl L x a)
def Qiz(L:List Qm)(a)(b:L.length<1000000):QI prog 32 [Vm L,Qb a] (QO (ints (ZT L 70 a))):=iv (λ_=>rfl) (Qv9 L a b)
def tJ(L:List Qm)(a)(b:L.length<1000000):QI prog 87 [Vm L,Qb a] (QO (ints (KE L a))):=iv (λ_=>rfl) (Qv8 L a b)
def F2(L:List Qm)(x:Qm):Int:=
 if Ce x≠0 then Ce x else if 0<=q8 L x.iD then 8 else if L.length=64 then 5
 else if x.parent≠0/\(q8 L x.parent<0\/((Qy L x.parent).getD default).leaf=true) then 23
 else if 1<QJ x.ls/\Vl L x.parent=false then 29 else if 16<=(ZT L 70 x.parent).length then 25 else 0
def Qyn(L:List Qm)(x:Qm)(g:L.length<1000000)(q:∀c∈L,c.Nn)(j:x.Nn):QI prog 56 [Vm L,WV x] (QO (.agg [Vm (if F2 L x=0 then CA L x else L),Qb (F2 L x)])):=by
 have s:Ce x≠0\/Ce x=0:=ω;have t:¬ ((-1:Int) >= 0):=ω;have p:True:=trivial;rcases TR L x.parent with ⟨m,a⟩|⟨i,f,a,m⟩
 .obtain⟨E,k⟩:∃E,E=F2 L x:=⟨_,rfl⟩;rw[<- k];rw[F2,m,a]at k;refine QZ 0 func56 ntmps56 results56 λl w b=>?_;simp only[go_sem]
  repeat' (first|((first|refine qu (λh=>?_) (λh=>?_)|refine qv (λh=>?_) (λh=>?_)|refine qw (λh=>?_) (λh=>?_)|refine Wu (λh=>?_) (λh=>?_)|refine qx (λh=>?_) (λh=>?_)|refine qy (λh=>?_) (λh=>?_)|refine qz (λh=>?_) (λh=>?_)|refine qp (λh=>?_) (λh=>?_))<;>(try simp only[go_sem,Go.undef,a]))|(refine And.intro δ ?_;try simp only[go_sem,Go.undef,a])|(refine Yw b fa rfl ?_ (fG x j) (QO.flat rfl) rfl ?_;(· simp only[go_sem,Go.undef,a]);intro d h e;obtain⟨rfl,rfl⟩:=e;apply Qf b;simp only[go_sem,Go.undef,a])|(refine Yw b AZ rfl ?_ (Bg L x.iD g) (QO.flat rfl) rfl ?_;(· simp only[go_sem,Go.undef,a]);intro d h e;obtain⟨rfl,rfl⟩:=e;apply Qf b;simp only[go_sem,Go.undef,a])|(refine Yw b AZ rfl ?_ (Bg L x.parent g) (QO.flat rfl) rfl ?_;(· simp only[go_sem,Go.undef,a]);intro d h e;obtain⟨rfl,rfl⟩:=e;apply Qf b;simp only[go_sem,Go.undef,a])|(refine Yw b qY rfl ?_ (DJ x.ls j.2.1.1 j.2.1.2.1 j.2.1.2.2) (QO.flat rfl) rfl ?_;(· simp only[go_sem,Go.undef,a]);intro d h e;obtain⟨rfl,rfl⟩:=e;apply Qf b;simp only[go_sem,Go.undef,a])|(refine Yw b fb rfl ?_ (gH L x.parent g q) (QO.flat rfl) rfl ?_;(· simp only[go_sem,Go.undef,a]);intro d h e;obtain⟨rfl,rfl⟩:=e;apply Qf b;simp only[go_sem,Go.undef,a])|(refine Va b [] QeQ rfl ?_ (Qiz L x.parent g) rfl ?_;(· simp only[go_sem,Go.undef,a]);intro d h e;obtain⟨rfl,rfl⟩:=e;(simp only[go_sem,Go.undef,a]);apply Qf b;simp only[go_sem,Go.undef,a])|(refine Va b [] oV rfl ?_ (tI L x g) rfl ?_;(· simp only[go_sem,Go.undef,a]);intro d h e;obtain⟨rfl,rfl⟩:=e;(simp only[go_sem,Go.undef,a]);apply Qf b;simp only[go_sem,Go.undef,a])|fail)
  all_goals (have r:((L.length:Int)=64↔L.length=64):=(by omega);have o : (((ZT L 70 x.parent).length : Int) >= 16 ↔ 16 <= (ZT L 70 x.parent).length) :=(by omega);have n : (((ZT L 70 x.parent).length : Int) < 16 ↔ (ZT L 70 x.parent).length < 16) :=(by omega);simp_all)
 .obtain⟨E,k⟩:∃E,E=F2 L x:=⟨_,rfl⟩;rw[<- k];rw[F2,m,a]at k;refine QZ 0 func56 ntmps56 results56 λl w b=>?_;simp only[go_sem]
  repeat' (first|((first|refine qu (λh=>?_) (λh=>?_)|refine qv (λh=>?_) (λh=>?_)|refine qw (λh=>?_) (λh=>?_)|refine Wu (λh=>?_) (λh=>?_)|refine qx (λh=>?_) (λh=>?_)|refine qy (λh=>?_) (λh=>?_)|refine qz (λh=>?_) (λh=>?_)|refine qp (λh=>?_) (λh=>?_))<;>(try simp only[go_sem,Go.undef,a,f]))|(refine And.intro δ ?_;try simp only[go_sem,Go.undef,a,f])|(refine Yw b fa rfl ?_ (fG x j) (QO.flat rfl) rfl ?_;(· simp only[go_sem,Go.undef,a,f]);intro d h e;obtain⟨rfl,rfl⟩:=e;apply Qf b;simp only[go_sem,Go.undef,a,f])|(refine Yw b AZ rfl ?_ (Bg L x.iD g) (QO.flat rfl) rfl ?_;(· simp only[go_sem,Go.undef,a,f]);intro d h e;obtain⟨rfl,rfl⟩:=e;apply Qf b;simp only[go_sem,Go.undef,a,f])|(refine Yw b AZ rfl ?_ (Bg L x.parent g) (QO.flat rfl) rfl ?_;(· simp only[go_sem,Go.undef,a,f]);intro d h e;obtain⟨rfl,rfl⟩:=e;apply Qf b;simp only[go_sem,Go.undef,a,f])|(refine Yw b qY rfl ?_ (DJ x.ls j.2.1.1 j.2.1.2.1 j.2.1.2.2) (QO.flat rfl) rfl ?_;(· simp only[go_sem,Go.undef,a,f]);intro d h e;obtain⟨rfl,rfl⟩:=e;apply Qf b;simp only[go_sem,Go.undef,a,f])|(refine Yw b fb rfl ?_ (gH L x.parent g q) (QO.flat rfl) rfl ?_;(· simp only[go_sem,Go.undef,a,f]);intro d h e;obtain⟨rfl,rfl⟩:=e;apply Qf b;simp only[go_sem,Go.undef,a,f])|(refine Va b [] QeQ rfl ?_ (Qiz L x.parent g) rfl ?_;(· simp only[go_sem,Go.undef,a,f]);intro d h e;obtain⟨rfl,rfl⟩:=e;(simp only[go_sem,Go.undef,a,f]);apply Qf b;simp only[go_sem,Go.undef,a,f])|(refine Va b [] oV rfl ?_ (tI L x g) rfl ?_;(· simp only[go_sem,Go.undef,a,f]);intro d h e;obtain⟨rfl,rfl⟩:=e;(simp only[go_sem,Go.undef,a,f]);apply Qf b;simp only[go_sem,Go.undef,a,f])|fail)
  all_goals (have r:((L.length:Int)=64↔L.length=64):=(by omega);have o : (((ZT L 70 x.parent).length : Int) >= 16 ↔ 16 <= (ZT L 70 x.parent).length) :=(by omega);have n : (((ZT L 70 x.parent).length : Int) < 16 ↔ (ZT L 70 x.parent).length < 16) :=(by omega);simp_all)
def CK(L:List Qm)(a:Int):Int:=if q8 L a<0 then 6 else if KE L a≠[] then 23 else 0
def tK{b:Type}[Inhabited b](L:List b)(g)(i:Nat)(h:i<L.length):(L.take (i+1)).filter g=if g (L.getD i default)=true then (L.take i).filter g++[L.getD i default] else (L.take i).filter g:=by
 rw[zD,QG h];simp only[BH,IE,QY,QG h,Ky];by_cases a:g L[i]=true
 .rw[Qe a,IG a];rfl
 .rw[Qd a,IF a];simp
def QiB{a:Type}(L:List a)(g:a->Bool)(i:Nat):((L.take i).filter g).length<=i:=by
 have:=Yr g (L.take i);simp at this;omega
def Qyp(L:List Qm)(b)(u:L.length<1000000):QI prog 57 [Vm L,Qb b] (QO (.agg [Vm (if CK L b=0 then Ww L b else L),Qb (CK L b)])):=by
 by_cases l:q8 L b<0
 .have e:CK L b=6:=by rw[CK,Qe l]
  rw[e];refine QZ 0 func57 ntmps57 results57 λo w k=>?_;simp only[go_sem,-Nat.reducePow];refine ZO k AZ ?_ (Bg L b u) ?_
  .simp only[go_sem,-Nat.reducePow,QT l]
  apply Qf k;simp only[go_sem,-Nat.reducePow,QT l];all_goals rfl
 .by_cases p:KE L b=[]
  .have e:CK L b=0:=by rw[CK,Qd l,Qd (by simpa using p)]
   rw[e];refine Qyk (sz:=14) (enc:=Qm.cells) (L:=if (0:Int)=0 then Ww L b else L) (v:=.int .i64 0) (λ_=>rfl) ?_;refine Qdn [1] rfl KS 200 func57 rfl ntmps57 results57 rfl λo w k=>?_;simp only[go_sem,-Nat.reducePow];refine ZO k AZ ?_ (Bg L b u) ?_
   .simp only[go_sem,-Nat.reducePow,QH l]
   apply Qf k;simp only[go_sem,-Nat.reducePow,QH l];refine Va k [] oW rfl ?_ (tJ L b u) rfl λd h F=>?_
   .simp only[go_sem,-Nat.reducePow,p]
   obtain⟨rfl,rfl⟩:=F;simp only[go_sem,-Nat.reducePow,p];apply Qf k;simp only[go_sem,-Nat.reducePow,p];obtain⟨g,E⟩:∃g:Qm->Bool,g=λc=>c.iD != b:=⟨_,rfl⟩;have Q:Ww L b=(L.take L.length).filter g:=by rw[Wc,E];rfl
   rw[Q];refine ZW (λi s=>∃r f n,V7 Qm.cells ((L.take i).filter g) f n/\s=⟨[(1,Qb b),(4,.ptr 0 0 0 0),(5,.ref 1 r f ((L.take i).filter g).length),(21,Vm L),(22,Qb L.length),(23,Qb i)],[⟨.one,0,2,1,λ_=>[.nil,Qb 0]⟩,⟨.arr,r,14,f+((L.take i).filter g).length,n⟩]⟩) L.length
    (s0:=⟨[(1,Qb b),(4,.ptr 0 0 0 0),(5,.ref 1 0 0 0),(21,Vm L),(22,Qb L.length),(23,Qb 0)],[⟨.one,0,2,1,λ_=>[.nil,Qb 0]⟩,⟨.arr,0,14,0,λ_=>[]⟩]⟩)
    (Qr.trans (Qr.kP 5 14 (λi=>[]) rfl) (Qr.to 2 (by (simp only[go_sem,-Nat.reducePow])<;>simp))) ⟨0,0,λ_=>[],.nil,rfl⟩ ?_
   rintro i s H ⟨r,f,n,q,rfl⟩;have O:=QiB L g i;have N:=JT (show i<4611686018427387904 from ω);apply Qf k;simp only[go_sem,-Nat.reducePow];first|refine WS H (λy=>?_) (λy=>?_)|refine WT H (λy=>?_) (λy=>?_)
   .have m:=tK L g i y;obtain⟨M,J⟩:∃M,M=(L.take i).filter g:=⟨_,rfl⟩;obtain⟨c,I⟩:∃e,e=L.getD i default:=⟨_,rfl⟩;rw[<- J,<- I]at m;rw[<- J]at q O ⊢;simp only[go_sem,-Nat.reducePow,y,<- I];by_cases z:c.iD=b
    .rw[Qd (by rw[E];simpa using z)]at m;simp only[go_sem,-Nat.reducePow,WC z,bne];repeat (refine And.intro ω ?_)
     refine⟨_,Qr.to 2 ⟨?_,by simp only[go_sem,-Nat.reducePow],?_,?_⟩,r,f,_,by rw[m];exact q,rfl⟩
     .simp only[go_sem,-Nat.reducePow,N,m,Zo,Kc]
     .exact⟨λj _=>rfl,λj C=>(q).upto (λa=>rfl) j (by have x:=C;simp only[m]at x;simpa using x),trivial⟩
     .simp only[go_sem,-Nat.reducePow,m,Zo,Kc]
    .rw[Qe (by rw[E];simpa using z)]at m;have P:M.length<=4294967295:=ω;have K:V7 Qm.cells (M++[c]) 0 (JC M.length f n λ_=>c.cells):=q.app c rfl;simp only[go_sem,-Nat.reducePow,VU z,bne,P];repeat (refine And.intro ω ?_)
     refine⟨_,Qr.to 2 ⟨?_,by simp only[go_sem,-Nat.reducePow],?_,?_⟩,(r+1),0,_,by rw[m];exact K,rfl⟩
     .simp only[go_sem,-Nat.reducePow,N,m,Zo,Kc]
     .exact⟨λj _=>rfl,λj C=>(K).upto (λa=>rfl) j (by have x:=C;simp only[m]at x;simpa using x),trivial⟩
     .simp only[go_sem,-Nat.reducePow,m,Zo,Kc]
   .have l:i=L.length:=ω;subst l;apply Qf k;simp only[go_sem,-Nat.reducePow];exact⟨q.tG,r,f,_,rfl,rfl,q.tF⟩
  .have e:CK L b=23:=by rw[CK,Qd l,Qe p]
   have B:(((KE L b).length:Int) > 0):=by have:=bc.2 p;omega
   have t:0<(KE L b).length:=bc.2 p;rw[e];refine QZ 0 func57 ntmps57 results57 λo w k=>?_;simp only[go_sem,-Nat.reducePow];refine ZO k AZ ?_ (Bg L b u) ?_
   .simp only[go_sem,-Nat.reducePow,QH l]
   apply Qf k;simp only[go_sem,-Nat.reducePow,QH l];refine Va k [] oW rfl ?_ (tJ L b u) rfl λd h F=>?_
   .simp only[go_sem,-Nat.reducePow,QT B,QT t,t]
   obtain⟨rfl,rfl⟩:=F;simp only[go_sem,-Nat.reducePow,QT B,QT t,t];apply Qf k;simp only[go_sem,-Nat.reducePow,QT B,QT t,t];all_goals rfl
def MG(L:List Qm)(x:Qm):Int:=
 if Ce x≠0 then Ce x else if q8 L x.iD<0 then 6
 else if ¬ (((Qy L x.iD).getD default).parent=x.parent/\((Qy L x.iD).getD default).leaf=x.leaf) then 1
 else if 1<QJ x.ls/\Vl L x.parent=false then 29
 else if ¬ 1<QJ x.ls/\((KE L x.iD).any λid=>Vl L id)=true then 29 else 0
def QiC(l:List Int)(p):∀i,i<=l.length->((∀k,k<i->p (l.getD k 0)=false)↔(l.take i).any p=false)
 | 0,_=>σ
 | i+1,h=>by
  have c:=QiC l p i ω;have b:i<l.length:=ω;rw[zD,QG b,List.any_append,Db,<- c];simp only[BH,List.any_cons,List.any_nil,Bool.or_false];constructor
  .intro a;refine⟨λk d=>a k ω,?_⟩;have:=a i ω;simpa[QY,b] using this
  .rintro⟨a,e⟩ k d;rcases xn k i with h3|h3
   .exact a k h3
   .have:k=i:=ω;subst this;simpa[QY,b] using e
def Qyq(L:List Qm)(x:Qm)(n:L.length<1000000)(F:∀c∈L,c.Nn)(p:x.Nn):QI prog 58 [Vm L,WV x] (QO (.agg [Vm (if MG L x=0 then CA L x else L),Qb (MG L x)])):=by
 obtain⟨E,r⟩:∃E,E=MG L x:=⟨_,rfl⟩;rw[<- r];obtain⟨f,y⟩:∃f,f=KE L x.iD:=⟨_,rfl⟩;have N:f.length<=L.length:=by rw[y,KE];simp;exact Yr _ _
 rw[MG,<- y]at r;rcases TR L x.iD with ⟨I,a⟩|⟨i,l,a,I⟩
 .rw[a]at r;refine QZ 0 func58 ntmps58 results58 λu w b=>?_;simp only[go_sem]
  repeat' (first|((first|refine qu (λh=>?_) (λh=>?_)|refine qv (λh=>?_) (λh=>?_)|refine qw (λh=>?_) (λh=>?_)|refine Wu (λh=>?_) (λh=>?_)|refine qx (λh=>?_) (λh=>?_)|refine qy (λh=>?_) (λh=>?_)|refine qz (λh=>?_) (λh=>?_)|refine qp (λh=>?_) (λh=>?_))<;>(try simp only[go_sem,Go.undef,a]))|(refine And.intro δ ?_;try simp only[go_sem,Go.undef,a])|(refine Yw b fa rfl ?_ (fG x p) (QO.flat rfl) rfl ?_;(· simp only[go_sem,Go.undef,a]);intro d h e;obtain⟨rfl,rfl⟩:=e;apply Qf b;simp only[go_sem,Go.undef,a])|(refine Yw b AZ rfl ?_ (Bg L x.iD n) (QO.flat rfl) rfl ?_;(· simp only[go_sem,Go.undef,a]);intro d h e;obtain⟨rfl,rfl⟩:=e;apply Qf b;simp only[go_sem,Go.undef,a])|fail)
  all_goals simp_all
 .rw[a,I]at r;obtain⟨C,g⟩:∃C,C=L.getD i default:=⟨_,rfl⟩;rw[<- g,Ky]at r;have B:∀j,j<f.length->Vl L (f.getD j 0)=true->(f.any λid=>Vl L id)=true:=λj q K=>vY.2 ⟨f.getD j 0,by rw[QY,QG q];exact X0 q,K⟩;have J:(∀k,k<f.length->(!decide (1<QJ x.ls)&&Vl L (f.getD k 0))=false)->¬ (¬ 1<QJ x.ls/\(f.any λid=>Vl L id)=true):=by
   rintro h ⟨t,m⟩;have H:=(QiC f (λid=>Vl L id) f.length (QB _)).1 λk v=>by
    have:=h k v;rw[QH t]at this;simpa using this
   rw[Wc,m]at H;cases H
  refine QZ 0 func58 ntmps58 results58 λu w b=>?_;simp only[go_sem]
  repeat' (first|((first|refine qu (λh=>?_) (λh=>?_)|refine qv (λh=>?_) (λh=>?_)|refine qw (λh=>?_) (λh=>?_)|refine Wu (λh=>?_) (λh=>?_)|refine qx (λh=>?_) (λh=>?_)|refine qy (λh=>?_) (λh=>?_)|refine qz (λh=>?_) (λh=>?_)|refine qp (λh=>?_) (λh=>?_))<;>(try simp only[go_sem,Go.undef,a,l,<- g]))|(refine And.intro δ ?_;try simp only[go_sem,Go.undef,a,l,<- g])|(refine Yw b fa rfl ?_ (fG x p) (QO.flat rfl) rfl ?_;(· simp only[go_sem,Go.undef,a,l,<- g]);intro d h e;obtain⟨rfl,rfl⟩:=e;apply Qf b;simp only[go_sem,Go.undef,a,l,<- g])|(refine Yw b AZ rfl ?_ (Bg L x.iD n) (QO.flat rfl) rfl ?_;(· simp only[go_sem,Go.undef,a,l,<- g]);intro d h e;obtain⟨rfl,rfl⟩:=e;apply Qf b;simp only[go_sem,Go.undef,a,l,<- g])|(refine Qdf KS b 200 mixed [(0,true),(1,true),(2,true),(3,true),(4,true),(5,true),(6,true),(7,true),(8,true),(9,true),(10,true),(11,true),(12,true),(13,true),(14,true),(15,true),(16,true),(17,true)] ?_ ?_ ?_;(· kernel_rfl);(· kernel_rfl);simp only[go_sem,Go.undef,a,l,<- g])|(refine Yw b qY rfl ?_ (DJ x.ls p.2.1.1 p.2.1.2.1 p.2.1.2.2) (QO.flat rfl) rfl ?_;(· simp only[go_sem,Go.undef,a,l,<- g]);intro d h e;obtain⟨rfl,rfl⟩:=e;apply Qf b;simp only[go_sem,Go.undef,a,l,<- g])|(refine Yw b fb rfl ?_ (gH L x.parent n F) (QO.flat rfl) rfl ?_;(· simp only[go_sem,Go.undef,a,l,<- g]);intro d h e;obtain⟨rfl,rfl⟩:=e;apply Qf b;simp only[go_sem,Go.undef,a,l,<- g])|(refine Va b [] oW rfl ?_ (y▸tJ L x.iD n) rfl ?_;(· simp only[go_sem,Go.undef,a,l,<- g]);intro d h e;obtain⟨rfl,rfl⟩:=e;(simp only[go_sem,Go.undef,a,l,<- g]);apply Qf b;simp only[go_sem,Go.undef,a,l,<- g])|fail)
  all_goals try (simp_all;done)
  all_goals
   refine ZW (λj s=>(∀k,k<j->(!decide (1<QJ x.ls)&&Vl L (f.getD k 0))=false)/\s=⟨[(0,Vm L),(3,.ptr 0 0 0 0),(4,.ptr 1 0 0 0),(7,QX (decide (1<QJ x.ls))),(62,ints f),(63,Qb f.length),(64,Qb j)],[⟨.one,0,14,1,λ_=>x.cells⟩,⟨.one,0,2,1,λ_=>[.nil,Qb 0]⟩]⟩) f.length (Qr.to 2 (by (simp only[go_sem])<;>simp)) ⟨λk v=>ω,rfl⟩ ?_;rintro j s q ⟨z,rfl⟩;have M:=JT (show j<4611686018427387904 from ω);apply QV b;first|refine WS q (λo=>?_) (λo=>?_)|refine WT q (λo=>?_) (λo=>?_)
   .simp only[go_sem,o]
    repeat' (first|((first|refine qu (λh=>?_) (λh=>?_)|refine qv (λh=>?_) (λh=>?_)|refine qw (λh=>?_) (λh=>?_)|refine Wu (λh=>?_) (λh=>?_)|refine qx (λh=>?_) (λh=>?_)|refine qy (λh=>?_) (λh=>?_)|refine qz (λh=>?_) (λh=>?_)|refine qp (λh=>?_) (λh=>?_))<;>(try simp only[go_sem,Go.undef]))|(refine And.intro δ ?_;try simp only[go_sem,Go.undef])|(refine Yw b fb rfl ?_ (gH L (f.getD j 0) n F) (QO.flat rfl) rfl ?_;(· simp only[go_sem,Go.undef]);intro d h e;obtain⟨rfl,rfl⟩:=e;apply Qf b;simp only[go_sem,Go.undef])|fail)
    all_goals first
     | (refine⟨_,Qr.to 2 (by (simp only[go_sem,M])<;>simp),λk v=>?_,rfl⟩;rcases xo.1 v with t|rfl;(· exact z k t);(· simp_all;done))
     | (have t:=B j o;simp_all;done)
   .subst o;have t:=J z;have m:E=0:=by simp_all
    clear J z B;apply QV b
    repeat' (first|((first|refine qu (λh=>?_) (λh=>?_)|refine qv (λh=>?_) (λh=>?_)|refine qw (λh=>?_) (λh=>?_)|refine Wu (λh=>?_) (λh=>?_)|refine qx (λh=>?_) (λh=>?_)|refine qy (λh=>?_) (λh=>?_)|refine qz (λh=>?_) (λh=>?_)|refine qp (λh=>?_) (λh=>?_))<;>(try simp only[go_sem,Go.undef,m]))|(refine And.intro δ ?_;try simp only[go_sem,Go.undef,m])|(refine Va b [] oV rfl ?_ (tI L x n) rfl ?_;(· simp only[go_sem,Go.undef,m]);intro d h e;obtain⟨rfl,rfl⟩:=e;(simp only[go_sem,Go.undef,m]);apply Qf b;simp only[go_sem,Go.undef,m])|fail)
    all_goals (first|rfl|(simp_all;done))
def wR(g:Int->Bool)(l:List Int):List Int:=l.filter λx=>!g x
def Qyr{g}{l:List Int}:(xL g l=-1/\wR g l=l)\/∃i,i<l.length/\xL g l=(i:Int)/\g (l.getD i 0)=true/\(l.take (i+1)).filter (λx=>!g x)=l.take i:=by
 unfold xL;cases h:l.findIdx? g with
 | none=>
  refine .inl ⟨rfl,An.2 λx hx=>?_⟩;simp[EH.1 h x hx]
 | some i=>
  obtain⟨a,b,d⟩:=Dc.1 h;refine .inr ⟨i,a,rfl,by simpa[QY,a] using b,?_⟩;rw[tK l _ i a,Qd (by simpa[QY,a] using b)];refine An.2 λx hx=>?_;obtain⟨j,c,rfl⟩:=xl hx;simp at c;simpa using d j ω
section
variable (h:List Ob)(l:List Int)(lo gn off:Nat)(row:Nat->List D)(hlen:l.length<1000000)(ho:h[lo]? = some ⟨.arr,gn,1,off+l.length,row⟩)(hr:∀i,i<l.length->row (off+i)=[Qb (l.getD i 0)])
include hlen ho hr
end
def Ka(c:Cv):Nc:=⟨c.m1.toNat,c.d.toNat,c.m2.toNat⟩
def Qys{c:Cv}(h:c.Nn):((Ka c).a:Int)=c.m1:=EG h.1
def Qyt{c:Cv}(h:c.Nn):((Ka c).d:Int)=c.d:=EG h.2.1
def Qyu{c:Cv}(h:c.Nn):((Ka c).b:Int)=c.m2:=EG h.2.2
def QiD{c:Cv}(h:c.Nn):(Ka c).cells=c.cells:=by simp only[Nc.cells,Cv.cells,u64,Qys h,Qyt h,Qyu h]
def F3(x:Qm):Bool:=decide (1<QJ x.rt)
def VV(L:List Qm):List Nc:=(L.filter F3).map λx=>Ka x.rt
def tN(L:List Qm):(VV L).length<=L.length:=by
 have:=Yr F3 L;unfold VV;rw[KK];exact this
def Qyv(L:List Qm){i}(b:i<L.length):VV (L.take (i+1))=if F3 (L.getD i default)=true then VV (L.take i)++[Ka (L.getD i default).rt] else VV (L.take i):=by
 unfold VV;rw[zD,QG b];simp only[BH,IE,wa,QY,QG b,Ky];by_cases a:F3 L[i]=true
 .rw[Qe a,IG a];rfl
 .rw[Qd a,IF a];simp
theorem tO(c:Nc):xy 1 c.cells=true:=rfl
def Qyw(L:List Qm)(E:L.length<1000000)(z:∀c∈L,c.Nn):QI prog 38 [Vm L] (TQ 3 Nc.cells (VV L)):=by
 refine QZ 1 func38 ntmps38 results38 λy w m=>?_;simp only[go_sem];refine ZW (λi s=>∃g a d,V7 Nc.cells (VV (L.take i)) a d/\s=⟨[(3,.ref 0 g a (VV (L.take i)).length),(6,Vm L),(7,Qb L.length),(8,Qb i)],[⟨.arr,g,3,a+(VV (L.take i)).length,d⟩]⟩) L.length
  (s0:=⟨[(3,.ref 0 0 0 0),(6,Vm L),(7,Qb L.length),(8,Qb 0)],[⟨.arr,0,3,0,λ_=>[]⟩]⟩)
  (Qr.trans (Qr.kP 3 3 (λi=>[]) rfl) QQ) ⟨0,0,λ_=>[],.nil,rfl⟩ ?_
 rintro i s t ⟨g,a,d,f,rfl⟩;have C:(VV (L.take i)).length<=i:=by have:=tN (L.take i);simp at this;omega
 have x:=JT (show i<4611686018427387904 from ω);apply QV m;first|refine WS t (λh=>?_) (λh=>?_)|refine WT t (λh=>?_) (λh=>?_)
 .obtain⟨M,u⟩:∃M,M=VV (L.take i):=⟨_,rfl⟩;obtain⟨e,q⟩:∃e,e=L.getD i default:=⟨_,rfl⟩;have n:e.Nn:=z e (by rw[q,QY,QG h];exact X0 h);have b:=Qyv L h;rw[<- u,<- q]at b;rw[<- u]at f C ⊢;have v:M.length<=4294967295:=ω;simp only[go_sem,h,<- q];apply Jp m qY (DJ e.rt n.1.1 n.1.2.1 n.1.2.2);apply QV m;by_cases l:1<QJ e.rt
  .have o:F3 e=true:=QT l;rw[Qe o]at b;have r:=f.app (Ka e.rt) (r2:=λ_=>(Ka e.rt).cells) rfl;rw[QiD n.1]at r;simp only[go_sem,QT l,v,Go.undef];repeat (refine And.intro ω ?_)
   refine⟨_,Qr.to 1 ⟨?_,by simp only[go_sem],?_,?_⟩,g+1,0,_,by rw[b];exact r,rfl⟩
   .simp only[go_sem,x,b,Zo,Kc]
   .exact⟨λj p=>r.upto tO j (by have k:=p;simp only[b]at k;simpa using k),trivial⟩
   .simp only[go_sem,b,Zo,Kc]
  .have o:¬ F3 e=true:=by unfold F3;simpa using l
   rw[Qd o]at b;simp only[go_sem,QH l,v,Go.undef];repeat (refine And.intro ω ?_)
   refine⟨_,Qr.to 1 ⟨?_,by simp only[go_sem],?_,?_⟩,g,a,_,by rw[b];exact f,rfl⟩
   .simp only[go_sem,x,b]
   .exact⟨λj p=>f.upto tO j (by have k:=p;simp only[b]at k;simpa using k),trivial⟩
   .simp only[go_sem,b]
 .have B:i=L.length:=ω;subst B;rw[Wc]at f ⊢;apply QV m;exact⟨f.upto tO,g,a,d,rfl,rfl,f⟩
def Qyx(L:List Qm)(d:L.length<1000000)(b:∀c∈L,c.Nn):QI prog 38 [Vm L] (QO (KO (VV L))):=iv (λa=>rfl) (Qyw L d b)
section
variable (h:List Ob)(t m c:Nat){es:List ZF}{L:List Qm}(T:VF es L)(hlen:L.length<1000000)
 (ht:(h.map Ob.ro)[t]? = some ⟨.Wh,0,1,1,λ_=>[.mref m 0]⟩) (hm:(h.map Ob.ro)[m]? = some (QS .i64 c es).ro)
include T ht hm hlen
theorem Qyy(hn:∀c∈L,c.Nn):Xf prog 98 h [.ptr t 0 0 0] (λd g=>(d=.nil/\VV L=[])\/∃f n k,d=.ref f n 0 (VV L).length/\h.length<=f/\(h++g)[f]? = some ⟨.arr,n,3,(VV L).length,k⟩/\V7 Nc.cells (VV L) 0 k):=by
 refine B9 KS 200 func98 rfl ntmps98 results98 rfl λz w pl F hF Zm b=>?_;rw[<- hF]at ht hm;have Zr:=Qc ht;have QR:=Qc hm;simp only[go_sem,Qa,ht,Zr,hm,QR];have hT:S6 (F.map Ob.ro) 107 0 [] F3:=λh' x yv=>by
  refine ZJ func107 ntmps107 results107 λz w pl F hF Zm b=>?_;simp only[go_sem,Qa];apply Yy b fi (fD x.rt);apply QP b;exact⟨_,rfl,rfl⟩
 obtain⟨K,B⟩:∃K,K=L.filter F3:=⟨_,rfl⟩;have a1:K.length<=L.length:=by rw[B];exact Yr _ _
 have u:VV L=K.map λx=>Ka x.rt:=by rw[B];rfl
 refine Hh b fh rfl ?_ (fI _ t m c T hlen (Z3 ht) (LS hm) (.raw (.func (.func 107) ⟨[]⟩ ⟨[]⟩)) 107 0 [] DG rfl _ hT) rfl λd g W=>?_
 .simp only[go_sem]
 rw[<- B]at W;rcases W with ⟨rfl,h3⟩|⟨f,n,l,k,rfl,ZQ,o,Y⟩
 .have Q:VV L=[]:=by
   rw[u];have:K=[]:=by simpa using h3
   rw[this];rfl
  apply QP b;refine ZW (λi s=>s=⟨[(3,.nil),(8,Qb 0),(9,Qb 0)],F++g⟩) 0 QQ rfl ?_;rintro i s N rfl;apply QP b;apply QP b;exact⟨_,rfl,.inl Q⟩
 .obtain⟨G,C⟩:∃G,G=F++g:=⟨_,rfl⟩;have J:VQ F G:=⟨g,C⟩;have I:=J.get ht;have H:=J.get hm;rw[<- C]at o ⊢;have y:=Qc I;have v:=Qc H;have Qg:=Qc o;rw[KK]at o Y;have PG:=J.len;apply QP b;refine ZW (λi s=>∃j p a,V7 Nc.cells ((K.take i).map λx=>Ka x.rt) 0 p/\s=⟨[(0,.ptr t 0 0 0),(3,.ref G.length j 0 ((K.take i).map λx=>Ka x.rt).length),(7,.ref f n l K.length),(8,Qb K.length),(9,Qb i)],G++(⟨.arr,j,3,((K.take i).map λx=>Ka x.rt).length,p⟩::a)⟩) K.length
   (s0:=⟨[(0,.ptr t 0 0 0),(3,.ref G.length 0 0 0),(7,.ref f n l K.length),(8,Qb K.length),(9,Qb 0)],G++[⟨.arr,0,3,0,λ_=>[]⟩]⟩)
   (Qr.trans (Qr.kP 3 3 (λi=>[]) rfl) (Qr.frame (by simp only[go_sem,KK]))) ⟨0,λ_=>[],[],.nil,rfl⟩ ?_
  rintro i s N ⟨j,p,a,E,rfl⟩;have QU:=JT (show i<4611686018427387904 from ω);apply Qf b;simp only[go_sem,Qa,I,H,y,v,o,Qg];first|refine WS N (λe=>?_) (λe=>?_)|refine WT N (λe=>?_) (λe=>?_)
  .obtain⟨x,hx⟩:∃x,x=K.getD i default:=⟨_,rfl⟩;have r:x∈K:=by rw[hx,QY,QG e];exact X0 e
   have q:x∈L:=by rw[B]at r;exact(JH.1 r).1
   have WZ:Qy L x.iD=some x:=(VH T.sorted).2 ⟨q,rfl⟩;have U:=T.look x.iD;rw[WZ,K6]at U;have S:=Y i (by simpa using e);have R:(K.map (·.iD)).getD i 0=x.iD:=by
    rw[hx,QY,QY,KP,QG e];rfl
   rw[R]at S;have O:(K.take (i+1)).map (λx=>Ka x.rt)=(K.take i).map (λx=>Ka x.rt)++[Ka x.rt]:=by
    rw[zD,QG e,hx,QY,QG e,wa];rfl
   obtain⟨M,Z⟩:∃M,M=(K.take i).map λx=>Ka x.rt:=⟨_,rfl⟩;have a0:M.length<=i:=by rw[Z,KK,be];omega
   have Vd:M.length<=4294967295:=ω;rw[<- Z]at O E ⊢;have V:=E.app (Ka x.rt) (r2:=λ_=>(Ka x.rt).cells) rfl;rw[QiD (hn x q).1]at V;simp only[go_sem,Qa,e,I,H,y,v,o,Qg,S,U,Vd];refine⟨ω,_,Qr.frame (fr':=[(0,.ptr t 0 0 0),(3,.ref G.length (j+1) 0 (M.length+1)),(7,.ref f n l K.length),(8,Qb K.length),(9,Qb (i+1:Nat))]) (by simp only[go_sem,QU]),j+1,_,a++[⟨.arr,0,3,1,λ_=>x.rt.cells⟩],by rw[O];exact V,?_⟩;rw[O,Zo];rfl
  .have h1:i=K.length:=ω;subst h1;rw[Wc,<- u]at E ⊢;apply QP b;refine⟨g++(⟨.arr,j,3,(VV L).length,p⟩::a),by rw[C,W9],.inr ⟨G.length,j,p,rfl,ω,?_,E⟩⟩;have P:G.length=(h++g).length:=by rw[C,Zo,Zo,Zm]
   rw[<- W9,P,Kh (QB _),Df];rfl
theorem QyB(p:∀c∈L,c.Nn):Zi prog 98 h [.ptr t 0 0 0] (λd=>d=KO (VV L)):=by
 refine Qgx (KO (VV L)) (λk=>rfl) ?_ (Qyy h t m c T hlen ht hm p);rintro d g (⟨rfl,r⟩|⟨e,j,b,rfl,u,o,l⟩)
 .left;rw[r];simp only[go_sem]
 .right;refine⟨e,j,3,_,b,u,o,λi f=>?_,?_⟩
  .obtain⟨a,q⟩:=l.all i (by simpa using f);rw[q];rfl
  .have s:D.fz e j (VV L).length 3 b (.ref e j 0 (VV L).length)=.imm 3 (VV L).length (rowFrom 0 b):=by simp[D.fz,Ff]
   rw[s];simp only[KO];rw[SL];refine⟨rfl,rfl,λi f=>?_⟩;have n:=l.at_ i f;rw[JR]at n;rw[He,JR,n,Nc.j4];exact vm (qX _) _
end
end Go.Fg.X
