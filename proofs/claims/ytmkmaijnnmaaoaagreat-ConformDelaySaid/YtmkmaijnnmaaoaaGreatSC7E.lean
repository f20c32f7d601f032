/- Contracts and laws on the way to the statement. No conditions. -/
import Derived.Test.YtmkmaijnnmaaoaaGreatCA2E
import Derived.Test.YtmkmaijnnmaaoaaGreatTC1E
import Derived.Sort.AssemblyPlain
import Derived.Sort.LotD5
import Derived.Sort.Walk13a
set_option maxRecDepth 100000
set_option maxHeartbeats 16000000
set_option linter.unusedVariables false
set_option linter.unusedSimpArgs false
set_option linter.unusedSectionVars false
set_option linter.defProp false
namespace Go.Fg.X
open Go.Proofs Go.Fg
open Go.Proofs.Tryz
def QwI{T:List Qq}(h:Xw T){x:Qq}(a:QC T x.iD=none):(Wz T x).length=T.length+1:=by
 rw[(Ml x h).length_eq,VQ];congr 1;unfold XN;rw[AP.2];intro c b;have:=HF.1 a c b;simpa using this
def QwJ{T:List Qq}(h:Xw T){x y:Qq}(a:QC T x.iD=some y):(Wz T x).length<=T.length:=by
 rw[(Ml x h).length_eq,VQ];obtain⟨c,b⟩:=(VL h).1 a;have:(XN T x.iD).length<T.length:=by
  unfold XN;refine Nat.lt_of_le_of_ne (qS _ _) λe=>?_;have:=(List.length_filter_eq_length_iff.1 e) y c;simp[b]at this
 omega
section
variable {T:List Qq}(I:KU T)
include I
theorem KU.add{x:Qq}(h:Br T x (up T x.parent).length=0):KU (Wz T x):=by
 unfold Br at h;by_cases l:Vr x=0;case neg=>rw[Qf l]at h;exact absurd h l
 rw[Qe (by simpa using l)]at h;cases k:QC T x.iD with
 | some y=>rw[k]at h;simp at h
 | none=>
  rw[k,Qe σ]at h;by_cases r:T.length=64
  .rw[Qf r]at h;cases h
  rw[Qe r]at h;by_cases n:(x.parent≠0/\(QC T x.parent).isNone)\/((QC T x.parent).getD default).leaf=true
  .rw[Qf n]at h;cases h
  rw[Qe n]at h;by_cases o:1<QS x.ls/\YW T x.parent=false
  .rw[Qf o]at h;cases h
  rw[Qe o]at h;by_cases q:(up T x.parent).length=16
  .rw[Qf q]at h;cases h
  have s:=right_id l;have g:x.parent=0\/∃d,QC T x.parent=some d/\d.leaf=false:=by
   by_cases g:x.parent=0
   .exact .inl g
   .cases m:QC T x.parent with
    | none=>exact absurd (.inl ⟨g,by rw[m];rfl⟩) n
    | some d=>
     refine .inr ⟨d,rfl,?_⟩;rw[jW];exact λj=>n (.inr (by rw[m];exact j))
  have t:=I.toTreeInv.add l k (g.elim .inl λ⟨d,b,_⟩=>.inr (by rw[b];rfl)) q;refine⟨t,λc a=>?_,λc a i=>?_,λc a p i=>?_,?_⟩
  .rcases Bt I.rising x a with rfl|a
   .exact l
   .exact I.right c a
  .rcases Bt I.rising x a with rfl|a
   .rcases g with g|⟨d,b,j⟩
    .exact absurd g i
    .exact⟨d,by rw[Bs I.rising,Qe s.2.2];exact b,j⟩
   .obtain⟨d,b,j⟩:=I.Zy c a i;refine⟨d,?_,j⟩;rw[Bs I.rising,Qe (λe=>by rw[e,k]at b;cases b)];exact b
  .rcases Bt I.rising x a with rfl|a
   .have f:YW T c.parent=true:=by
     rw[<- Bool.not_eq_false];exact λm=>o ⟨p,m⟩
    unfold YW at f;unfold yd;rw[Bs I.rising,Qe s.2.2];rw[B3]at f;rcases f with f|f
    .exact absurd (by simpa using f) i
    .exact f
   .have f:=I.gI c a p i;obtain⟨d,b,j⟩:=I.Zy c a i;unfold yd at f ⊢;rw[Bs I.rising,Qe (λe=>by rw[e,k]at b;cases b)];exact f
  .rw[QwI I.rising k];have:=I.len;omega
theorem KU.del{b}(h:Xh T b=[]):KU (XN T b):=by
 have l:=I.toTreeInv.del h;have g:∀c∈T,c.parent≠b:=λc a e=>by
  have:c.iD∈Xh T b:=JA.2 ⟨c,JI.2 ⟨a,by simpa using e⟩,rfl⟩;rw[h]at this;cases this
 refine⟨l,λc a=>I.right c (JI.1 a).1,λc a f=>?_,λc a i f=>?_,?_⟩
 .have a:=(JI.1 a).1;obtain⟨d,k,j⟩:=I.Zy c a f;exact⟨d,by rw[TN I.rising,Qe (g c a)];exact k,j⟩
 .have a:=(JI.1 a).1;have:=I.gI c a i f;unfold yd at this ⊢;rw[TN I.rising,Qe (g c a)];exact this
 .have:=qS (λc:Qq=>c.iD != b) T;have:=I.len;unfold XN;omega
theorem KU.set{x}(h:CL T x=0):KU (Wz T x):=by
 unfold CL at h;by_cases j:Vr x=0;case neg=>rw[Qf j]at h;exact absurd h j
 rw[Qe (by simpa using j)]at h;cases i:QC T x.iD with
 | none=>rw[i,Qf (by rfl)]at h;cases h
 | some y=>
  rw[i,Qe σ]at h;simp only[Vn]at h;by_cases n:x.parent≠y.parent\/x.leaf≠y.leaf
  .rw[Qf n]at h;cases h
  rw[Qe n]at h;have l:x.parent=y.parent:=jX λe=>n (.inl e);have s:x.leaf=y.leaf:=jX λe=>n (.inr e);by_cases q:(1<QS x.ls/\YW T x.parent=false)\/(¬ 1<QS x.ls/\(Xh T x.iD).any (yd T)=true)
  .rw[Qf q]at h;cases h
  have C:=right_id j;have r:=(VL I.rising).1 i;have B:=I.toTreeInv.set j i l;have t:∀p d,QC T p=some d->∃o,QC (Wz T x) p=some o/\o.leaf=d.leaf:=λp d k=>by
   rw[Bs I.rising];by_cases b:p=x.iD
   .rw[Qf b];rw[b,i]at k;cases k;exact⟨x,rfl,s⟩
   .rw[Qe b];exact⟨d,k,rfl⟩
  refine⟨B,λc a=>?_,λc a g=>?_,λc a m g=>?_,?_⟩
  .rcases Bt I.rising x a with rfl|a
   .exact j
   .exact I.right c a
  .have:∃d,QC T c.parent=some d/\d.leaf=false:=by
    rcases Bt I.rising x a with rfl|a
    .rw[l]at g ⊢;exact I.Zy y r.1 g
    .exact I.Zy c a g
   obtain⟨d,k,u⟩:=this;obtain⟨o,z,w⟩:=t _ d k;exact⟨o,z,by rw[w,u]⟩
  .unfold yd;rw[Bs I.rising];by_cases b:c.parent=x.iD
   .rw[Qf b];simp only[Vn,Xd];refine jX λhx=>q (.inr ⟨hx,?_⟩);rcases Bt I.rising x a with rfl|a
    .exact absurd m hx
    .rw[Dv];refine⟨c.iD,JA.2 ⟨c,JI.2 ⟨a,by simpa using b⟩,rfl⟩,?_⟩;unfold yd;rw[(VL I.rising).2 ⟨a,rfl⟩];simpa using m
   .rw[Qe b];rcases Bt I.rising x a with rfl|a
    .have f:YW T c.parent=true:=by
      rw[<- Bool.not_eq_false];exact λv=>q (.inl ⟨m,v⟩)
     unfold YW at f;rw[B3]at f;rcases f with f|f
     .exact absurd (by simpa using f) g
     .exact f
    .exact I.gI c a m g
  .have:=QwJ I.rising i;have:=I.len;omega
end
def yn(T:List Qq)(c:JV):Int:=if c.kind=1 then Br T c.cls (up T c.cls.parent).length else if c.kind=3 then CL T c.cls else if c.kind=2 then CK T c.cls.iD else 1
def CV(T:List Qq)(c:JV):List Qq:=if yn T c=0 then (if c.kind=2 then XN T c.cls.iD else Wz T c.cls) else T
def KU.one{T}(I:KU T)(c):KU (CV T c):=by
 unfold CV;by_cases h:yn T c=0
 .rw[Qf h];unfold yn at h;by_cases d:c.kind=1
  .rw[Qf d]at h;rw[Qe ω];exact I.add h
  .rw[Qe d]at h;by_cases a:c.kind=3
   .rw[Qf a]at h;rw[Qe ω];exact I.set h
   .rw[Qe a]at h;by_cases b:c.kind=2
    .rw[Qf b]at h ⊢;unfold CK at h;by_cases f:(QC T c.cls.iD).isNone=true
     .rw[Qf f]at h;cases h
     .rw[Qe f]at h;by_cases e:Xh T c.cls.iD≠[]
      .rw[Qf e]at h;cases h
      .exact I.del (jX e)
    .rw[Qe b]at h;cases h
 .rw[Qe h];exact I
def Xi.toS{S}{h a}{t m}{L}(A:Xi h t m L a)(d:S t)(b:S m):WA S a t L/\Step S h a:=by
 obtain⟨⟨c,p,o,n,k⟩,g,f⟩:=A;exact⟨⟨m,c,p,o,n,k,d,b⟩,⟨λl j i=>f l j (λe=>i (e▸b)),g⟩⟩
section
variable {S:Nat->Prop}{h:List Ob}{t:Nat}{T:List Qq}(R:WA S h t T)(I:KU T)
include R I
theorem QwM(x:Qq):QI prog 143 h [.ptr t 0 0 0,Yh x] (λd a=>d=Qb (Br T x (up T x.parent).length)/\WA S a t (if Br T x (up T x.parent).length=0 then Wz T x else T)/\Step S h a):=by
 obtain⟨m,c,k,j,i,g,f,b⟩:=R;have:=I.len;exact QI.mono (QuF h t m c g j i x 16 π (I.ends _)) λd a ⟨e,A⟩=>⟨e,A.toS f b⟩
theorem QwN(x):QI prog 144 h [.ptr t 0 0 0,Yh x] (λd a=>d=Qb (CL T x)/\WA S a t (if CL T x=0 then Wz T x else T)/\Step S h a):=by
 obtain⟨m,c,k,j,i,g,f,b⟩:=R;have:=I.len;exact QI.mono (QuM h t m c g ω j i x) λd a ⟨e,A⟩=>⟨e,A.toS f b⟩
theorem QwO(a):QI prog 146 h [.ptr t 0 0 0,Qb a] (λd b=>d=Qb (CK T a)/\WA S b t (if CK T a=0 then XN T a else T)/\Step S h b):=by
 obtain⟨m,c,l,k,j,i,g,f⟩:=R;have:=I.len;exact QI.mono (QuG h t m c i ω k j a) λd b ⟨e,A⟩=>⟨e,A.toS g f⟩
end
def WA.app{S}{h:List Ob}{t}{T}(R:WA S h t T)(g):WA (λl=>S l/\l<h.length) (h++g) t T:=R.step λl a b=>⟨⟨b,a⟩,QJ a⟩
def QwP{S}{h:List Ob}{t tb}{T}(R:WA S h t T)(I:KU T)(x:Qq)(a:h[tb]? = some ⟨.one,0,1,1,λ_=>[.ptr t 0 0 0]⟩):QI prog 145 h [Yh x,.ptr tb 0 0 0] (λd e=>d=Qb (CK T x.iD)/\WA S e t (if CK T x.iD=0 then XN T x.iD else T)/\Step S h e):=by
 refine Q3 func145 ntmps145 results145 λg w p c=>?_;have f:=Qc a;simp only[go_sem,Qa,a,f];refine DX c Qs5 (QwO (R.app _) I x.iD) λd h j=>?_;obtain⟨rfl,o,b⟩:=j;apply Qh c;simp only[go_sem,Qa,a,f];exact⟨o.step λl _ i=>⟨i.1,rfl⟩,⟨λl n m=>(b.keep l ξ (λk=>m k.1)).trans (QJ n),by have:=b.len;simp at this;omega⟩⟩
def QwQ{S}{h}{t}{T}(R:WA S h t T)(I:KU T)(x:JV):QI prog 108 h [.ptr t 0 0 0,.agg x.cells] (λd r=>d=Qb (yn T x)/\WA S r t (CV T x)/\Step S h r):=by
 have f:∀{g j:List Ob} {q:List Qq},WA (λl=>S l/\l<h.length) j t q->Step (λl=>S l/\l<h.length) (h++g) j->WA S j t q/\Step S h j:=λ{g j q} e c=>
  ⟨e.step λl _ p=>⟨p.1,rfl⟩,⟨λl y v=>(c.keep l ξ (λu=>v u.1)).trans (QJ y),by have:=c.len;simp at this;omega⟩⟩
 unfold CV yn;by_cases n:x.kind=1
 .have d1:(x.kind==1)=true:=by simpa using n
  simp only[Qf n,Qe (show ¬ x.kind=2 from ω)];refine Q3 func108 ntmps108 results108 λa w o b=>?_;simp only[go_sem,Qa,d1];refine JO b Qs2 (QwM (R.app _) I x.cls) λd h i=>?_;obtain⟨rfl,e,c⟩:=i;apply Za b;exact f e c
 .have d1:(x.kind==1)=false:=by simpa using n
  simp only[Qe n];by_cases k:x.kind=3
  .have d3:(x.kind==3)=true:=by simpa using k
   simp only[Qf k,Qe (show ¬ x.kind=2 from ω)];refine Q3 func108 ntmps108 results108 λa w o b=>?_;simp only[go_sem,Qa,d1,d3];refine JO b Qs3 (QwN (R.app _) I x.cls) λd h i=>?_;obtain⟨rfl,e,c⟩:=i;apply Za b;exact f e c
  .have d3:(x.kind==3)=false:=by simpa using k
   simp only[Qe k];by_cases m:x.kind=2
   .have d2:(x.kind==2)=true:=by simpa using m
    simp only[Qf m];refine Q3 func108 ntmps108 results108 λa w o b=>?_;simp only[go_sem,Qa,d1,d2,d3];refine JO b Qs4 (QwP (tb:=h.length) (R.app _) I x.cls (Vq rfl)) λd h i=>?_;obtain⟨rfl,e,c⟩:=i;apply Za b;exact f e c
   .have d2:(x.kind==2)=false:=by simpa using m
    simp only[Qe m];refine Q3 func108 ntmps108 results108 λa w o b=>?_;simp only[go_sem,Qa,d1,d2,d3];exact⟨R.step λl s p=>⟨p,QJ s⟩,Step.app S h _⟩
end Go.Fg.X
namespace Go.Fg
open Go.RowKit (Below)
section
variable {P:Program}{L:Jr}{base nt:Nat}{s:St}{o:Oper}{t:TypeId}{x i:Operand}
def Ub(m:Jl P L){v}(k:o.op=.insert t x i v){p}{f}(h:Ha L s.h t (Qp s.fr x) (Qp s.fr i) (Qp s.fr v)=some (p,f))(j:p):∀(Z:Nat->Prop) d a w,Rel Z base nt s d a w->base<=w.heap.size->∃v b c,((execOp a.eval o).run P w=.ok (.value v) b\/((execOp a.eval o).run P w=.ok .skip b/\v=Go.undef))/\Tr s.h d w f c b/\Zo Z base f c b/\QF Z f c b .undef v/\Below base w b/\j6 w b:=by
 have q:=QcS (P:=P) (base:=base) (nt:=nt) (o:=⟨o.dst,.mapUpdate t x i v,o.type,o.pos,o.after,o.guard⟩) m rfl h j;intro Z d a w r l;obtain⟨u,b,c,g,n⟩:=q Z d a w r l;have e:execOp a.eval ⟨o.dst,.mapUpdate t x i v,o.type,o.pos,o.after,o.guard⟩=execOp a.eval o:=by simp[execOp,k]
 rw[e]at g;exact⟨u,b,c,g,n⟩
end
section
variable {P:Program}{base nt:Nat}{w0:Start}{Q:Exit->St->Prop}{k:List Item}{s:St}{X:Cx}
def QwR{L}(E:Jl P L)(F:base<=w0.w.heap.size){K}{g:TypeId}{pos}{c}{q}{r}{t:TypeId}{x i v}{p}{h'}
  (h:Ha L s.h t (Qp s.fr x) (Qp s.fr i) (Qp s.fr v)=some (p,h')) (C:p) (j:AX P base nt w0 K r ⟨s.fr,h'⟩):AX P base nt w0 K ((false,⟨none,.insert t x i v,g,pos,c,q⟩,none)::r) s:=by
 simp only[AX,XL,zN];intro Z z B a w f b;obtain⟨u,H,y,e,d,m,I,l,n⟩:=Ub (P:=P) (base:=base) (nt:=nt) (o:=⟨none,.insert t x i v,g,pos,c,q⟩) E rfl h C Z B a w f (JL F b.1.size);unfold Oper.wp;rcases e with e|⟨e,J⟩
 .rw[e];simp only[Oper.upon_value];exact⟨n,.undef,_,y,u,j,f.AW d m u,b.step d l,d,rfl⟩
 .rw[e];simp only[Oper.upon_skip];exact⟨n,.undef,_,y,_,j,f.AW d m _,b.step d l,d,rfl⟩
def QwS{L:Jr}(B:Jl P L)(I:base<=w0.w.heap.size){K:St->Prop}{g:TypeId}{pos:String}{d:Array Edge}{C:Option (Nat × Bool)}{r:List (Bool × Oper × G)}{t h E a b H F:Nat}{j f:List Value}{x i v:Operand}{q:IntKind}{l c:Nat}{e:List ZQ}{n:Int}
  (u:ty L t=some ⟨.map h E,a,b,j⟩) (m:ty L h=some ⟨.int q,H,F,f⟩) (o:Qp s.fr x=.mref l 0) (z:Qp s.fr i=.raw (.int q n)) (w:s.h[l]? = some (QR q c e))
  (y:AX P base nt w0 K r ⟨s.fr,s.h.set l (Ki q c e n (Qp s.fr v))⟩):AX P base nt w0 K ((false,⟨none,.insert t x i v,g,pos,d,C⟩,none)::r) s:=by
 refine QwR B I (h':=s.h.set l (Ki q c e n (Qp s.fr v))) (p:=IsMap q (QR q c e)/\q=q/\0=0/\(QR q c e).kd.ro=false) ?_ ⟨?_,rfl,rfl,rfl⟩ y
 .rw[o,z];simp only[Ha,u,m,w];rw[oS,oT]
 .exact(QcL q c e).mpr trivial
def Ga(f){g}{a}(d:q6 P X)(c:base<=w0.w.heap.size)(i:P.follows .mixedOrders=true)(l)(R)(e:DP [] X.L a l R=true)(j:Cy a s.fr=true)
  (n:∀s,QH w0 s f->Qw P base nt w0 Q k .normal s) (h:Vc P base w0 X nt (FD P base w0 X nt (λs=>QH w0 s f) R.length (ku [] a R) (l.map (·.1))) (Vj [] a l) s):Qw P base nt w0 Q (.code (.region g a true)::k) .normal s:=by
 have m:R.Nodup:=by
  simp only[DP,ZX]at e;exact(eU e.1.2).1
 exact QdN d.L c i l R e j (AX.mono (λs b=>pJ d c (λs b=>n s b) _ _ _ s m b) _ _ (FB d c _ _ h))
end
section
variable {P:Program}{L:Jr}{base nt:Nat}{w0:Start}{Q:Exit->St->Prop}
end
end Go.Fg
namespace Go.Fg
section
variable {P:Program}{base nt:Nat}{w0:Start}{Q:Exit->St->Prop}{k:List Item}{s:St}
def iI(P:Program)(base nt:Nat)(w0:Start)(Q:Exit->St->Prop)(k:List Item)(T:St->Prop):Exit->St->Prop
 | .normal,s=>∃a,T a/\QH w0 s a
 | e,s=>Qw P base nt w0 Q k e s
variable {T:St->Prop}
@[go_sem] theorem QHz:iI P base nt w0 Q k T .normal s=∃a,T a/\QH w0 s a:=Vk rfl
@[go_sem] theorem QHA{j}:iI P base nt w0 Q k T (.exit j) s=Qw P base nt w0 Q k (.exit j) s:=Vk rfl
@[go_sem] theorem QHB:iI P base nt w0 Q k T .ret s=Qw P base nt w0 Q k .ret s:=Vk rfl
def iJ{x}{c}(T)(f:Qw P base nt w0 (iI P base nt w0 Q (.code c::k) T) [x] .normal s)(q:∀g,T g->Qw P base nt w0 Q (.code c::k) .normal g):Qw P base nt w0 Q (x::.code c::k) .normal s:=by
 have d:∀h,(∃g,T g/\QH w0 h g)->Qw P base nt w0 Q (.code c::k) .normal h:=λh ⟨g,p,o⟩=>DL o (q g p);cases x with
 | code x=>
  simp only[Qw]at f;show A P base nt w0 x _ s;refine f.mono λe h j=>?_;cases e with
  | normal=>exact d _ j
  | _=>exact j
 | ops l=>
  simp only[Qw]at f;show AG P base nt w0 l _ s;intro Z z n a w r b;refine gy (λe y v ⟨h,u,i,m,t⟩=>⟨h,u,?_,m,t⟩) _ _ _ (f Z z n a w r b);cases e with
  | normal=>exact d _ i
  | _=>exact i
 | inBlock id=>simp only[Qw]at f ⊢;exact d _ f
 | inScope=>simp only[Qw]at f ⊢;exact d _ f
end
def Ux:List Item->Bool
 | .inBlock _::k=>Ux k
 | .inScope::k=>Ux k
 | .code _::_=>true
 | .ops _::_=>true
 | []=>false
def CW{P}{b g}{e}{Q}{s f}(h:QH e s f):∀{k:List Item},Ux k=true->Qw P b g e Q k .normal f->Qw P b g e Q k .normal s
 | [],d,_=>by cases d
 | .code c::k,_,a=>DL h a
 | .ops l::k,_,a=>Tl h a
 | .inBlock n::k,d,a=>by
  rw[Ux]at d;simp only[Qw]at a ⊢;exact CW h d a
 | .inScope::k,d,a=>by
  rw[Ux]at d;simp only[Qw]at a ⊢;exact CW h d a
end Go.Fg
namespace Go.Fg.X
open Go.Proofs Go.Fg
open Go.Proofs.Tryz
@[go_sem] def uI(n:Int):D:=.raw (.int .u64 n)
def Qt(x y:Int):Bool:=decide (x<y)
def CX(d:Array Int):Nat->List D:=λi=>[uI d[i]!]
@[go_sem] theorem QHC(d:Array Int)(i):CX d i=[uI d[i]!]:=rfl
@[go_sem] def Zi(g:Nat)(d:Array Int):Ob:=⟨.arr,g,1,d.size,CX d⟩
structure QHD (h h':List Ob) (lo:Nat) (o:Ob):Prop where
 at_:h'[lo]? = some o
 Kl:∀l,l<h.length->l≠lo->h'[l]? = h[l]?
 len:h.length<=h'.length
def QwU(x):Q9 prog 253 [uI x] (Zp (QZ false)):=by
 refine ZH 0 func253 ntmps253 results253 λa w b=>?_;simp only[go_sem];simp only[go_sem,bne_self_eq_false]
def xj(x y):Q9 prog 226 [uI x,uI y] (Zp (QZ (Qt x y))):=by
 refine ZH 0 func226 ntmps226 results226 λb w a=>?_;simp only[go_sem];refine JG a Qf3 ?_ (QwU x) ?_
 .simp only[go_sem,Go.undef]
 apply Qh a;simp only[go_sem,Go.undef];unfold Qt;rfl
def xk{h:List Ob}{l}{o}(e:h[l]? = some o):h.set l o=h:=AO λi=>by
 by_cases c:l=i
 .subst c;rw[Qy (Qc e),e]
 .rw[Qm c]
@[go_sem] def PK(n:Nat):Ob:=⟨.one,0,1,1,λ_=>[Qb n]⟩
section
variable {h:List Ob}{lo g:Nat}{d:Array Int}(ho:h[lo]? = some (Zi g d))
include ho
theorem tD{c}(s)(e:h[c]? = some (PK s))(u:c≠lo)(a b)(m:a<d.size)(q:b<d.size)(t:s<1000000):
  QI prog 275 h [.ref lo g 0 d.size,Qb a,Qb b,.ptr c 0 0 0] (λo n=>o=.tup [Qb (Sort.order2 Qt d a b s).1,Qb (Sort.order2 Qt d a b s).2.1]/\n=h.set c (PK (Sort.order2 Qt d a b s).2.2)):=by
 have p:=Vl (show s<4611686018427387904 from ω);unfold Sort.order2;refine Q3 func275 ntmps275 results275 λl w r f=>?_;have k:=Qc ho;have i:=Qc e;simp only[go_sem,Qa,ho,k,e,i];apply QB f i4;simp only[go_sem,ho,k,m,q];apply VR f kx (xj d[b]! d[a]!);apply WY f;cases j:Qt d[b]! d[a]!
 .simp only[go_sem,j];exact(xk e).symm
 .simp only[go_sem,j,e,i,p]
theorem QhS(a b s:Nat)(e:a<d.size)(c:b<d.size):(Sort.order2 Qt d a b s).1<d.size/\(Sort.order2 Qt d a b s).2.1<d.size/\(Sort.order2 Qt d a b s).2.2<=s+1:=by
 have _hu:=ho;unfold Sort.order2;split<;>simp_all
theorem tE{e}(s)(j:h[e]? = some (PK s))(k:e≠lo)(a b c)(n:a<d.size)(r:b<d.size)(t:c<d.size)(C:s<900000):
  QI prog 273 h [.ref lo g 0 d.size,Qb a,Qb b,Qb c,.ptr e 0 0 0] (λy x=>y=Qb (Sort.median Qt d a b c s).1/\x=h.set e (PK (Sort.median Qt d a b c s).2)):=by
 have m:=QhS ho a b s n r;have v:=QhS ho (Sort.order2 Qt d a b s).2.1 c (Sort.order2 Qt d a b s).2.2 m.2.1 t;have l:=Qc j;have q:∀o,(h.set e o)[lo]? = some (Zi g d):=λo=>(Qm k).trans ho;have p:∀o,(h.set e o)[e]? = some o:=λo=>Qy l;unfold Sort.median;refine Q3 func273 ntmps273 results273 λu w B f=>?_;have z:=Qc ho;have l:=Qc j;simp only[go_sem,Qa,ho,z,j,l];refine JO f rv (tD ho s j k a b n r ω) λd h i=>?_;obtain⟨rfl,rfl⟩:=i;apply Za f;refine VY f rv rfl ?_ (tD (q _) _ (p _) k _ c m.2.1 t ω) rfl λd h i=>?_
 .simp only[go_sem,JS]
 obtain⟨rfl,rfl⟩:=i;apply Qh f;simp only[go_sem,JS];refine VY f rv rfl ?_ (tD (q _) _ (p _) k _ _ m.1 v.1 ω) rfl λd h i=>?_
 .simp only[go_sem,JS]
 obtain⟨rfl,rfl⟩:=i;apply Qh f;simp only[go_sem,JS]
theorem tF{b}(s)(c:h[b]? = some (PK s))(q:b≠lo)(a)(u:1<=a)(v:a+1<d.size)(j:s<900000)(t:d.size<1000000000):
  QI prog 272 h [.ref lo g 0 d.size,Qb a,.ptr b 0 0 0] (λo l=>o=Qb (Sort.medianAdjacent Qt d a s).1/\l=h.set b (PK (Sort.medianAdjacent Qt d a s).2)):=by
 have n:IntKind.i64.wrap ((a:Int) - 1)=((a - 1:Nat):Int):=ZK;have m:IntKind.i64.wrap ((a:Int)+1)=((a+1:Nat):Int):=ZK;unfold Sort.medianAdjacent;refine Q3 func272 ntmps272 results272 λf w r e=>?_;have p:=Qc ho;have i:=Qc c;simp only[go_sem,Qa,ho,p,c,i,n,m];refine JO e ru (tE ho s c q (a - 1) a (a+1) ω ω ω j) λd h k=>?_;obtain⟨rfl,rfl⟩:=k;exact zT e
end
def tG{d:Array Int}(a b c s:Nat)(g:a<d.size)(f:b<d.size)(e:c<d.size):(Sort.median Qt d a b c s).1<d.size/\(Sort.median Qt d a b c s).2<=s+3:=by
 unfold Sort.median Sort.order2;dsimp only
 repeat' split
 all_goals simp_all
def Gb:Sort.Hint->Nat
 | .unknown=>0
 | .increasing=>1
 | .decreasing=>2
def tH(r:Nat × Nat):Nat × Sort.Hint:=(r.1,if r.2=0 then .increasing else if r.2=12 then .decreasing else .unknown)
section
variable (d:Array Int)(a b:Nat)
def KE(k:Nat):Nat:=a+(b - a) / 4*k
def Gc:Nat × Nat:=Sort.medianAdjacent Qt d (KE a b 1) 0
def Gd:Nat × Nat:=Sort.medianAdjacent Qt d (KE a b 2) (Gc d a b).2
def MQ:Nat × Nat:=Sort.medianAdjacent Qt d (KE a b 3) (Gd d a b).2
def ch4:Nat × Nat:=Sort.median Qt d (Gc d a b).1 (Gd d a b).1 (MQ d a b).1 (MQ d a b).2
def ch5:Nat × Nat:=Sort.median Qt d (KE a b 1) (KE a b 2) (KE a b 3) 0
def chP:Nat × Nat:=if b - a >= 8 then (if b - a >= 50 then ch4 d a b else ch5 d a b) else (KE a b 2,0)
theorem QwV:Sort.choosePivot Qt d a b=tH (chP d a b):=rfl
end
section
variable {h:List Ob}{lo g:Nat}{d:Array Int}(ho:h[lo]? = some (Zi g d))
include ho
theorem QwW(a b)(S:a<b)(R:b<=d.size)(u:d.size<1000000000):
  QI prog 258 h [.ref lo g 0 d.size,Qb a,Qb b] (λN I=>N=.tup [Qb (Sort.choosePivot Qt d a b).1,Qb (Gb (Sort.choosePivot Qt d a b).2)]/\∃t,I=h++t):=by
 have M:IntKind.i64.wrap ((b:Int) - a)=((b - a:Nat):Int):=ZK;have O:∀n:Nat,n<1000000000->IntKind.i64.wrap (n:Int)=n:=λn Q=>wrap64 ω ω;have L:IntKind.i64.wrap (((b - a) / 4:Nat)*(1:Int))=(((b - a) / 4*1:Nat):Int):=ZK;have K:IntKind.i64.wrap (((b - a) / 4:Nat)*(2:Int))=(((b - a) / 4*2:Nat):Int):=ZK;have J:IntKind.i64.wrap (((b - a) / 4:Nat)*(3:Int))=(((b - a) / 4*3:Nat):Int):=ZK;have f1:IntKind.i64.wrap ((a:Int)+((b - a) / 4*1:Nat))=((KE a b 1:Nat):Int):=by unfold KE;rw[wrap64 ω ω];omega
 have f2:IntKind.i64.wrap ((a:Int)+((b - a) / 4*2:Nat))=((KE a b 2:Nat):Int):=by unfold KE;rw[wrap64 ω ω];omega
 have f3:IntKind.i64.wrap ((a:Int)+((b - a) / 4*3:Nat))=((KE a b 3:Nat):Int):=by unfold KE;rw[wrap64 ω ω];omega
 have f0:IntKind.i64.wrap (((b - a:Nat):Int).tdiv 4)=(((b - a) / 4:Nat):Int):=by rw[show ((b - a:Nat):Int).tdiv 4=(((b - a) / 4:Nat):Int) from rfl,wrap64 ω ω]
 refine Q3 func258 ntmps258 results258 λC w P e=>?_;have B:=Qc ho;simp only[go_sem,Qa,ho,B,M,f0,L,K,J,f1,f2,f3];have p:∀o:Ob,(h++[o])[lo]? = some (Zi g d):=λo=>by rw[JY B];exact ho
 have l:∀o:Ob,(h++[o])[h.length]? = some o:=λo=>σ;have f:∀o s:Ob,(h++[o]).set h.length s=h++[s]:=λo s=>by rw[ft rfl];rfl
 have q:h.length≠lo:=ω;rw[QwV];unfold chP;by_cases y:b - a >= 8
 .rw[Qf y];have d8:decide ((8:Int)<=(b - a:Nat))=true:=Q1 ω;by_cases z:b - a >= 50
  .rw[Qf z];have d50:decide ((50:Int)<=(b - a:Nat))=true:=Q1 ω;simp only[go_sem,d8,d50];have H:(Gc d a b).1<d.size/\(Gc d a b).2<=3:=by unfold Gc;exact tG _ _ _ _ (by unfold KE;omega) (by unfold KE;omega) (by unfold KE;omega)
   have F:(Gd d a b).1<d.size/\(Gd d a b).2<=(Gc d a b).2+3:=by unfold Gd;exact tG _ _ _ _ (by unfold KE;omega) (by unfold KE;omega) (by unfold KE;omega)
   have E:(MQ d a b).1<d.size/\(MQ d a b).2<=(Gd d a b).2+3:=by unfold MQ;exact tG _ _ _ _ (by unfold KE;omega) (by unfold KE;omega) (by unfold KE;omega)
   refine VY e rq rfl ?_ (tF (p _) 0 (l _) q (KE a b 1) (by unfold KE;omega) (by unfold KE;omega) ω u) rfl λd h k=>?_
   .simp only[go_sem,f]
   obtain⟨rfl,rfl⟩:=k;apply Qh e;simp only[go_sem,f];refine VY e rq rfl ?_ (tF (p _) (Gc d a b).2 (l _) q (KE a b 2) (by unfold KE;omega) (by unfold KE;omega) ω u) rfl λd h k=>?_
   .simp only[go_sem,f]
   obtain⟨rfl,rfl⟩:=k;apply Qh e;simp only[go_sem,f];refine VY e rq rfl ?_ (tF (p _) (Gd d a b).2 (l _) q (KE a b 3) (by unfold KE;omega) (by unfold KE;omega) ω u) rfl λd h k=>?_
   .simp only[go_sem,f]
   obtain⟨rfl,rfl⟩:=k;apply Qh e;simp only[go_sem,f];refine VY e ru rfl ?_ (tE (p _) (MQ d a b).2 (l _) q (Sort.medianAdjacent Qt d (KE a b 1) 0).1 (Sort.medianAdjacent Qt d (KE a b 2) (Gc d a b).2).1 (Sort.medianAdjacent Qt d (KE a b 3) (Gd d a b).2).1 H.1 F.1 E.1 ω) rfl λd h k=>?_
   .simp only[go_sem,f]
   obtain⟨rfl,rfl⟩:=k;apply Qh e;simp only[go_sem,f];generalize v:Sort.median Qt d (Sort.medianAdjacent Qt d (KE a b 1) 0).1 (Sort.medianAdjacent Qt d (KE a b 2) (Gc d a b).2).1 (Sort.medianAdjacent Qt d (KE a b 3) (Gd d a b).2).1 (MQ d a b).2=r;have x:ch4 d a b=r:=v;rw[x];simp only[go_sem,l];unfold tH;by_cases j:r.2=0
   .have i:((r.2:Int)==0)=true:=by rw[j];rfl
    simp only[go_sem,i,j];exact⟨rfl,_,rfl⟩
   .have i:((r.2:Int)==0)=false:=beq_eq_false_iff_ne.mpr ω;by_cases c:r.2=12
    .have m:((r.2:Int)==12)=true:=by rw[c];rfl
     simp only[go_sem,i,m,j,c];exact⟨rfl,_,rfl⟩
    .have m:((r.2:Int)==12)=false:=beq_eq_false_iff_ne.mpr ω;simp only[go_sem,i,m,j,c];exact⟨rfl,_,rfl⟩
  .rw[Qe z];have d50:decide ((50:Int)<=(b - a:Nat))=false:=QU ω;simp only[go_sem,d8,d50];refine VY e ru rfl ?_ (tE (p _) 0 (l _) q (KE a b 1) (KE a b 2) (KE a b 3) (by unfold KE;omega) (by unfold KE;omega) (by unfold KE;omega) ω) rfl λd h k=>?_
   .simp only[go_sem,f]
   obtain⟨rfl,rfl⟩:=k;apply Qh e;simp only[go_sem,f];generalize v:Sort.median Qt d (KE a b 1) (KE a b 2) (KE a b 3) 0=r;have x:ch5 d a b=r:=v;rw[x];simp only[go_sem,l];unfold tH;by_cases j:r.2=0
   .have i:((r.2:Int)==0)=true:=by rw[j];rfl
    simp only[go_sem,i,j];exact⟨rfl,_,rfl⟩
   .have i:((r.2:Int)==0)=false:=beq_eq_false_iff_ne.mpr ω;by_cases c:r.2=12
    .have m:((r.2:Int)==12)=true:=by rw[c];rfl
     simp only[go_sem,i,m,j,c];exact⟨rfl,_,rfl⟩
    .have m:((r.2:Int)==12)=false:=beq_eq_false_iff_ne.mpr ω;simp only[go_sem,i,m,j,c];exact⟨rfl,_,rfl⟩
 .rw[Qe y];have d8:decide ((8:Int)<=(b - a:Nat))=false:=QU ω;simp only[go_sem,d8,l];exact⟨rfl,_,rfl⟩
end
def vS{h:List Ob}{a g}{d}(b:a<h.length):(h.set a (Zi g d))[a]? = some (Zi g d):=Qy b
def swp_size(d:Array Int)(i j:Nat):(Sort.swp d i j).size=d.size:=by simp[Sort.swp]
def kN(c:Bool)(x y:D):List.drop 1 (bif c then [x] else [y])=[]:=by cases c<;>rfl
def kO(g)(d:Array Int)(i j n)(l:d.size=n)(e:i<n)(h:j<n):
  (⟨.arr,g,1,n,λk=>bif k==j then [.raw (.int .u64 d[i]!)] else bif k==i then [.raw (.int .u64 d[j]!)] else [.raw (.int .u64 d[k]!)]⟩:Ob)=Zi g (Sort.swp d i j):=by
 subst l;unfold Zi;congr 1
 .exact(swp_size d i j).symm
 .funext k;unfold CX uI Sort.swp;by_cases b:k=j
  .subst b;have c:(k==k)=true:=N5 k;by_cases a:k=i
   .subst a;simp[e]
   .simp[e,h,a,Q8 a]
  .by_cases a:k=i
   .subst a;have c:(k==j)=false:=beq_eq_false_iff_ne.mpr b;simp[e,h,b,Q8 b,c]
   .have c:(k==j)=false:=beq_eq_false_iff_ne.mpr b;have m:(k==i)=false:=beq_eq_false_iff_ne.mpr a;rw[c,m];by_cases f:k<d.size
    .simp[b,a,f,Q8 b,Q8 a,nR]
    .simp[b,a,f]
section
variable {h:List Ob}{lo g:Nat}{d:Array Int}(ho:h[lo]? = some (Zi g d))
include ho
theorem QwX(a b)(I:a<b)(F:b<=d.size)(B:d.size<1000000000):
  QI prog 259 h [.ref lo g 0 d.size,Qb a,Qb b] (λv t=>v=.tup []/\t=h.set lo (Zi g (Sort.reverseRange d a b))):=by
 have u:IntKind.i64.wrap ((b:Int) - 1)=((b - 1:Nat):Int):=ZK;refine Q3 func259 ntmps259 results259 λr w z m=>?_;have q:=Qc ho;simp only[go_sem,Qa,ho,q,u];refine Js (λk s=>∃e:Array Int,e.size=d.size/\Sort.reverseLoop (a+k) (b - 1 - k) e=Sort.reverseRange d a b/\a+k<=b - k/\s=⟨[(0,.ref lo g 0 d.size),(6,Qb (a+k:Nat)),(7,Qb (b - 1 - k:Nat))],h.set lo (Zi g e)⟩) d.size (s0:=⟨[(0,.ref lo g 0 d.size),(6,Qb (a+0:Nat)),(7,Qb (b - 1 - 0:Nat))],h.set lo (Zi g d)⟩) ?_ ⟨d,rfl,rfl,ω,rfl⟩ ?_
 .rw[xk ho];exact QH.frame (by simp only[go_sem,B8])
 rintro k _ C ⟨e,j,l,E,rfl⟩;have f:=vS (g:=g) (d:=e) q;generalize o:h.set lo (Zi g e)=H at f;have i:=Qc f;by_cases c:a+k<b - 1 - k
 .have n:decide (a+k<b - 1 - k)=true:=Q1 c;have c2:a+k<d.size:=ω;have p:b - 1 - k<d.size:=ω;apply Qh m;simp only[go_sem,Qa,f,i,n];apply QB m i9;simp only[go_sem,Qa,f,i,j,c2,p,Qy i,JS,kN];have v1:IntKind.i64.wrap (((a+k:Nat):Int)+1)=((a+(k+1):Nat):Int):=ZK;have v2:IntKind.i64.wrap (((b - 1 - k:Nat):Int) - 1)=((b - 1 - (k+1):Nat):Int):=ZK;rw[kO g e _ _ _ j c2 p,v1,v2];have y:Sort.reverseLoop (a+(k+1)) (b - 1 - (k+1)) (Sort.swp e (a+k) (b - 1 - k))=Sort.reverseRange d a b:=by
   rw[<- l]
   conv=>rhs;rw[Sort.reverseLoop,Qf c]
   congr 1
  refine⟨ω,_,?_,Sort.swp e (a+k) (b - 1 - k),by rw[swp_size,j],y,ω,rfl⟩;rw[<- o,JS];exact QQ
 .have n:decide (a+k<b - 1 - k)=false:=QU c;apply Qh m;simp only[go_sem,Qa,f,i,n];rw[Sort.reverseLoop,Qe c]at l;subst o;exact congrArg (λx=>h.set lo (Zi g x)) l
end
def QhW(a):∀(j:Nat) (d:Array Int),(Sort.insInner Qt a j d).size=d.size
 | 0,d=>rfl
 | j+1,d=>by rw[Sort.insInner];split;rw[QhW a j,swp_size];rfl
section
variable {h:List Ob}{lo g:Nat}{d:Array Int}(ho:h[lo]? = some (Zi g d))
include ho
theorem QwY(a b)(Y:a<=b)(W:b<=d.size)(R:d.size<1000000000):
  QI prog 255 h [.ref lo g 0 d.size,Qb a,Qb b] (λO M=>O=.tup []/\M=h.set lo (Zi g (Sort.insertionSort Qt d a b))):=by
 have N:IntKind.i64.wrap ((a:Int)+1)=((a+1:Nat):Int):=ZK;refine Q3 func255 ntmps255 results255 λJ w Q e=>?_;have E:=Qc ho;simp only[go_sem,Qa,ho,E,N];refine Js (λk u=>∃f:Array Int,f.size=d.size/\Sort.insOuter Qt a b (a+1+k) f=Sort.insertionSort Qt d a b/\a+1+k<=b+1/\u=⟨[(0,.ref lo g 0 d.size),(1,Qb a),(2,Qb b),(6,Qb (a+1+k:Nat))],h.set lo (Zi g f)⟩) d.size (s0:=⟨[(0,.ref lo g 0 d.size),(1,Qb a),(2,Qb b),(6,Qb (a+1+0:Nat))],h.set lo (Zi g d)⟩) ?_ ⟨d,rfl,rfl,ω,rfl⟩ ?_
 .rw[xk ho];exact QQ
 rintro k _ T ⟨f,L,t,V,rfl⟩;have I:=vS (g:=g) (d:=f) E;by_cases c:a+1+k<b
 .have B:decide (a+1+k<b)=true:=Q1 c;apply Qh e;simp only[go_sem,Qa,I,B];refine Js (λm u=>∃(d1:Array Int) (j:Nat),d1.size=d.size/\j+m=a+1+k/\Sort.insInner Qt a j d1=Sort.insInner Qt a (a+1+k) f/\a<=j/\u=⟨[(0,.ref lo g 0 d.size),(1,Qb a),(2,Qb b),(6,Qb (a+1+k:Nat)),(7,Qb j)],h.set lo (Zi g d1)⟩) (a+1+k) (s0:=⟨[(0,.ref lo g 0 d.size),(1,Qb a),(2,Qb b),(6,Qb (a+1+k:Nat)),(7,Qb (a+1+k:Nat))],h.set lo (Zi g f)⟩) QQ ⟨f,_,L,rfl,rfl,JL (Nat.le_succ a) (NX _ _),rfl⟩ ?_;rintro m _ S ⟨d1,j,l,U,C,P,rfl⟩;have i:=vS (g:=g) (d:=d1) E;generalize z:h.set lo (Zi g d1)=H at i;have p:=Qc i;by_cases c2:a<j
  .have o:decide (a<j)=true:=Q1 c2;have v1:IntKind.i64.wrap ((j:Int) - 1)=((j - 1:Nat):Int):=ZK;have y:j<d.size:=ω;have v:j - 1<d.size:=ω;apply Qh e;simp only[go_sem,Qa,i,p,o,v1];apply QB e [0,1,2,3,4,5,6,7,8,9,10,11,12,1013,14];simp only[go_sem,Qa,i,p,o,v1,y,v,l];apply VR e kx (xj d1[j]! d1[j - 1]!);apply WY e;have n:Sort.insInner Qt a j d1=if Qt d1[j]! d1[j - 1]! then Sort.insInner Qt a (j - 1) (Sort.swp d1 j (j - 1)) else d1:=by
    obtain⟨q,rfl⟩:∃q,j=q+1:=⟨j - 1,ω⟩;rw[Sort.insInner];simp[show q+1 > a from c2]
   cases r:Qt d1[j]! d1[j - 1]!
   .rw[r,Qe π]at n;simp only[go_sem,r];apply QM e;have v2:IntKind.i64.wrap (((a+1+k:Nat):Int)+1)=((a+1+(k+1):Nat):Int):=ZK;rw[v2];have F:Sort.insOuter Qt a b (a+1+(k+1)) d1=Sort.insertionSort Qt d a b:=by
     rw[<- t]
     conv=>rhs;rw[Sort.insOuter,Qf c]
     rw[<- C,n];rfl
    refine⟨ω,_,?_,d1,l,F,ω,rfl⟩;rw[<- z];exact QQ
   .rw[r,Qf rfl]at n;simp only[go_sem,r];refine Ga (⟨[(0,.ref lo g 0 d.size),(1,Qb a),(2,Qb b),(6,Qb (a+1+k:Nat)),(7,Qb j)],h.set lo (Zi g (Sort.swp d1 j (j - 1)))⟩) VK e mixed [(0,true),(1,true),(2,true),(3,true),(5,true),(6,true),(7,true),(8,true),(9,true),(10,true),(11,true),(12,true),(13,true),(14,true)] [4,15,16,17] τ τ (λs K=>CW K rfl ?_) ?_
    rotate_left
    .simp only[go_sem,Qa,i,p,o,v1,y,v,l,Qy p,JS,kN];rw[kO g d1 _ _ _ l y v,<- z,JS]
     repeat' refine And.intro ?_ ?_
     all_goals exact QQ
    apply Qh e;simp only[go_sem,v1];refine⟨ω,_,?_,Sort.swp d1 j (j - 1),j - 1,by rw[swp_size,l],ω,by rw[<- n,C],ω,rfl⟩;exact QQ
  .have o:decide (a<j)=false:=QU c2;have n:Sort.insInner Qt a j d1=d1:=by
    cases j with
    | zero=>rfl
    | succ q=>rw[Sort.insInner];simp[show ¬ q+1 > a from c2]
   apply Qh e;simp only[go_sem,Qa,i,p,o];apply QB e [0,1,2,3,4,5,6,7,8,9,10,11,12,1013,14];simp only[go_sem,Qa,i,p,o,l];apply QM e;have v2:IntKind.i64.wrap (((a+1+k:Nat):Int)+1)=((a+1+(k+1):Nat):Int):=ZK;rw[v2];have F:Sort.insOuter Qt a b (a+1+(k+1)) d1=Sort.insertionSort Qt d a b:=by
    rw[<- t]
    conv=>rhs;rw[Sort.insOuter,Qf c]
    rw[<- C,n];rfl
   refine⟨ω,_,?_,d1,l,F,ω,rfl⟩;rw[<- z];exact QQ
 .have B:decide (a+1+k<b)=false:=QU c;rw[Sort.insOuter,Qe c]at t;apply Qh e;simp only[go_sem,Qa,I,B];exact congrArg (λx=>h.set lo (Zi g x)) t
end
def tI(c first):∀(n a:Nat) (d:Array Int),c - a<=n->(Sort.siftDown Qt c first a d).size=d.size
 | n,a,d,e=>by
  rw[Sort.siftDown];split
  .rfl
  .rename_i f;split
   .split
    .rfl
    .split
     .obtain⟨b,rfl⟩:∃b,n=b+1:=⟨n - 1,ω⟩;rw[tI c first b _ _ ω,swp_size]
     .rfl
   .split
    .rfl
    .obtain⟨b,rfl⟩:∃b,n=b+1:=⟨n - 1,ω⟩;rw[tI c first b _ _ ω,swp_size]
section
variable {h:List Ob}{lo g:Nat}{d:Array Int}(ho:h[lo]? = some (Zi g d))
include ho
theorem QhX(b first a)(R:first+b<=d.size)(L:a<=d.size)(P:d.size<1000000000):
  QI prog 271 h [.ref lo g 0 d.size,Qb a,Qb b,Qb first] (λN M=>N=.tup []/\M=h.set lo (Zi g (Sort.siftDown Qt b first a d))):=by
 refine Q3 func271 ntmps271 results271 λI w O c=>?_;have F:=Qc ho;simp only[go_sem,Qa,ho,F];refine Js (λm K=>∃(d1:Array Int) (r:Nat),d1.size=d.size/\m<=r/\r<=d.size/\Sort.siftDown Qt b first r d1=Sort.siftDown Qt b first a d/\K=⟨[(0,.ref lo g 0 d.size),(2,Qb b),(3,Qb first),(8,Qb r)],h.set lo (Zi g d1)⟩) (d.size) (s0:=⟨[(0,.ref lo g 0 d.size),(2,Qb b),(3,Qb first),(8,Qb a)],h.set lo (Zi g d)⟩) ?_ ⟨d,a,rfl,Z9 _,L,rfl,rfl⟩ ?_
 .rw[xk ho];exact QQ
 rintro m _ Q ⟨d1,r,i,T,S,e,rfl⟩;have f:=vS (g:=g) (d:=d1) F;generalize q:h.set lo (Zi g d1)=H at f;have j:=Qc f;have v1:IntKind.i64.wrap (2*(r:Int))=((2*r:Nat):Int):=ZK;have v2:IntKind.i64.wrap (((2*r:Nat):Int)+1)=((2*r+1:Nat):Int):=ZK;have v3:IntKind.i64.wrap (((2*r+1:Nat):Int)+1)=((2*r+1+1:Nat):Int):=ZK;rw[Sort.siftDown]at e;by_cases v:b<=2*r+1
 .have B:decide (b<=2*r+1)=true:=Q1 v;rw[dif_pos v]at e;apply Qh c;simp only[go_sem,Qa,f,j,v1,v2,B];exact q.symm.trans (congrArg (λx=>h.set lo (Zi g x)) e)
 .have B:decide (b<=2*r+1)=false:=QU v;rw[dif_neg v]at e;have l:first+r<d.size:=ω;have p:first+(2*r+1)<d.size:=ω;have u:IntKind.i64.wrap ((first:Int)+r)=((first+r:Nat):Int):=ZK;have t:IntKind.i64.wrap ((first:Int)+(2*r+1:Nat))=((first+(2*r+1):Nat):Int):=ZK;have E:IntKind.i64.wrap ((first:Int)+(2*r+1+1:Nat))=((first+(2*r+1+1):Nat):Int):=ZK;have C:IntKind.i64.wrap (((first+(2*r+1):Nat):Int)+1)=((first+(2*r+1)+1:Nat):Int):=ZK;apply Qh c;simp only[go_sem,Qa,f,j,v1,v2,B];first|refine YO ?_|skip
  refine y7 [0,2,3,8,9] [(36,QZ (decide (2*r+1+1<b)&&Qt d1[first+(2*r+1)]! d1[first+(2*r+1)+1]!))] rfl ?_ ?_
  .by_cases c2:2*r+1+1<b
   .have z:decide (2*r+1+1<b)=true:=Q1 c2;have o:first+(2*r+1)+1<d.size:=ω;apply QB c o09;simp only[go_sem,Qa,f,j,i,v3,z,t,C,p,o];apply VR c kx (xj d1[first+(2*r+1)]! d1[first+(2*r+1)+1]!);apply WY c;exact QQ
   .have z:decide (2*r+1+1<b)=false:=QU c2;apply QB c o09;simp only[go_sem,Qa,f,j,i,v3,z,t,C,p];exact QQ
  .cases n:(decide (2*r+1+1<b)&&Qt d1[first+(2*r+1)]! d1[first+(2*r+1)+1]!)
   .rw[n,Qe π]at e;apply Qh c;simp only[go_sem,n];apply QB c ii;simp only[go_sem,Qa,f,j,i,u,t,l,p];apply VR c kx (xj d1[first+r]! d1[first+(2*r+1)]!);apply WY c;cases k:Qt d1[first+r]! d1[first+(2*r+1)]!
    .rw[k,Lh,Qf rfl]at e;simp only[go_sem,k];exact q.symm.trans (congrArg (λx=>h.set lo (Zi g x)) e)
    .rw[k,EU,Qe π]at e
     skip
     simp only[go_sem,k];refine Ga (⟨[(0,.ref lo g 0 d.size),(2,Qb b),(3,Qb first),(9,Qb (2*r+1:Nat))],h.set lo (Zi g (Sort.swp d1 (first+r) (first+(2*r+1))))⟩) VK c mixed [(0,true),(1,true),(2,true),(3,true),(4,true),(5,true),(6,true),(8,true),(9,true),(10,true),(11,true),(12,true),(13,true),(14,true),(15,true),(16,true),(17,true),(18,true),(19,true),(20,true)] [7,21,22,23] τ τ (λs y=>CW y rfl ?_) ?_
     rotate_left
     .simp only[go_sem,Qa,f,j,u,t,l,p,i,Qy j,JS,kN];rw[kO g d1 _ _ _ i l p,<- q,JS]
      repeat' refine And.intro ?_ ?_
      all_goals exact QQ
     apply Za c;refine⟨ω,_,?_,Sort.swp d1 (first+r) (first+(2*r+1)),2*r+1,by rw[swp_size,i],ω,ω,e,rfl⟩;exact QQ
   .have J:2*r+1+1<b:=by
     rw[ZX]at n;exact X9 n.1
    rw[n,Qf rfl]at e;have o:first+(2*r+1+1)<d.size:=ω;apply Qh c;simp only[go_sem,n,v3];apply QB c ii;simp only[go_sem,Qa,f,j,i,u,E,l,o];apply VR c kx (xj d1[first+r]! d1[first+(2*r+1+1)]!);apply WY c;cases k:Qt d1[first+r]! d1[first+(2*r+1+1)]!
    .rw[k,Lh,Qf rfl]at e;simp only[go_sem,k];exact q.symm.trans (congrArg (λx=>h.set lo (Zi g x)) e)
    .rw[k,EU,Qe π]at e;rw[dif_pos (show 2*r+2<b from J)]at e;simp only[go_sem,k];refine Ga (⟨[(0,.ref lo g 0 d.size),(2,Qb b),(3,Qb first),(9,Qb (2*r+1+1:Nat))],h.set lo (Zi g (Sort.swp d1 (first+r) (first+(2*r+1+1))))⟩) VK c mixed [(0,true),(1,true),(2,true),(3,true),(4,true),(5,true),(6,true),(8,true),(9,true),(10,true),(11,true),(12,true),(13,true),(14,true),(15,true),(16,true),(17,true),(18,true),(19,true),(20,true)] [7,21,22,23] τ τ (λs y=>CW y rfl ?_) ?_
     rotate_left
     .simp only[go_sem,Qa,f,j,u,E,l,o,i,Qy j,JS,kN];rw[kO g d1 _ _ _ i l o,<- q,JS]
      repeat' refine And.intro ?_ ?_
      all_goals exact QQ
     apply Za c;refine⟨ω,_,?_,Sort.swp d1 (first+r) (first+(2*r+1+1)),2*r+1+1,by rw[swp_size,i],ω,ω,e,rfl⟩;exact QQ
end
def iL(b first a)(d:Array Int):(Sort.siftDown Qt b first a d).size=d.size:=tI b first _ a d (Qs _)
def QhY(a first):∀(k:Nat) (d:Array Int),(Sort.heapBuild Qt a first k d).size=d.size
 | 0,d=>rfl
 | k+1,d=>by rw[Sort.heapBuild,QhY a first k,iL]
def QhZ(n:Nat):decide ((0:Int)<=(n:Int))=true:=Q1 (Dt n)
section
variable {h:List Ob}{lo g:Nat}{d:Array Int}(ho:h[lo]? = some (Zi g d))
include ho
theorem QwZ(a b)(U:a<b)(T:b<=d.size)(P:d.size<1000000000):
  QI prog 256 h [.ref lo g 0 d.size,Qb a,Qb b] (λM I=>M=.tup []/\I=h.set lo (Zi g (Sort.heapSort Qt d a b))):=by
 have L:IntKind.i64.wrap ((b:Int) - a)=((b - a:Nat):Int):=ZK;have r:IntKind.i64.wrap (((b - a:Nat):Int) - 1)=((b - a - 1:Nat):Int):=ZK;have K:((b - a - 1:Nat):Int).tdiv 2=(((b - a - 1) / 2:Nat):Int):=rfl;have J:IntKind.i64.wrap ((((b - a - 1) / 2:Nat):Int))=(((b - a - 1) / 2:Nat):Int):=by rw[wrap64 ω ω]
 have N:((0:Nat):Int)=0:=rfl;refine Q3 func256 ntmps256 results256 λE w O c=>?_;have i:=Qc ho;simp only[go_sem,Qa,ho,i,L,r,K,J];unfold Sort.heapSort;refine Js (λm p=>∃(d1:Array Int) (k:Nat),d1.size=d.size/\k+m=(b - a - 1) / 2+1/\Sort.heapBuild Qt (b - a) a k d1=Sort.heapBuild Qt (b - a) a ((b - a - 1) / 2+1) d/\p=⟨[(0,.ref lo g 0 d.size),(6,Qb a),(7,Qb 0),(8,Qb (b - a:Nat)),(9,Qb ((k:Int) - 1))],h.set lo (Zi g d1)⟩) ((b - a - 1) / 2+1) (s0:=⟨[(0,.ref lo g 0 d.size),(6,Qb a),(7,Qb 0),(8,Qb (b - a:Nat)),(9,Qb ((((b - a - 1) / 2+1:Nat):Int) - 1))],h.set lo (Zi g d)⟩) ?_ ⟨d,_,rfl,rfl,rfl,rfl⟩ ?_
 .rw[xk ho,show ((((b - a - 1) / 2+1:Nat):Int) - 1)=(((b - a - 1) / 2:Nat):Int) by omega];exact QQ
 rintro m _ R ⟨d1,k,u,S,f,rfl⟩;have t:=vS (g:=g) (d:=d1) i;rcases k with _|k
 .rw[Sort.heapBuild]at f;apply Qh c;simp only[go_sem,Qa,t,show ((0:Nat):Int) - 1=-1 from rfl,show decide ((0:Int)<=-1)=false from rfl,r];apply Qh c;simp only[go_sem,Qa,r];rw[<- f];refine Js (λm p=>∃(d2:Array Int) (k:Nat),d2.size=d.size/\k+m=b - a/\Sort.heapPop Qt a k d2=Sort.heapPop Qt a (b - a) d1/\p=⟨[(0,.ref lo g 0 d.size),(6,Qb a),(7,Qb 0),(10,Qb ((k:Int) - 1))],h.set lo (Zi g d2)⟩) (b - a) (s0:=⟨[(0,.ref lo g 0 d.size),(6,Qb a),(7,Qb 0),(10,Qb (((b - a:Nat):Int) - 1))],h.set lo (Zi g d1)⟩) ?_ ⟨d1,_,u,rfl,rfl,rfl⟩ ?_
  .rw[show (((b - a:Nat):Int) - 1)=((b - a - 1:Nat):Int) by omega];exact QQ
  rintro n _ Q ⟨d2,k,v,V,j,rfl⟩;have e:=vS (g:=g) (d:=d2) i;generalize B:h.set lo (Zi g d2)=H at e;have o:=Qc e;rcases k with _|k
  .rw[Sort.heapPop]at j;apply Qh c;simp only[go_sem,Qa,e,show ((0:Nat):Int) - 1=-1 from rfl,show decide ((0:Int)<=-1)=false from rfl];exact B.symm.trans (congrArg (λx=>h.set lo (Zi g x)) j)
  .rw[Sort.heapPop]at j;have l:(((k+1:Nat):Int) - 1)=(k:Int):=ω;have v1:IntKind.i64.wrap ((a:Int)+k)=((a+k:Nat):Int):=ZK;have v2:IntKind.i64.wrap ((k:Int) - 1)=(k:Int) - 1:=wrap64 ω ω;have z:a<d.size:=ω;have y:a+k<d.size:=ω;apply Qh c;simp only[go_sem,Qa,e,o,l,QhZ];refine Ga (⟨[(0,.ref lo g 0 d.size),(6,Qb a),(7,Qb 0),(10,Qb k)],h.set lo (Zi g (Sort.swp d2 a (a+k)))⟩) VK c mixed [(0,true),(1,true),(2,true),(3,true),(4,true),(6,true),(7,true),(8,true),(9,true),(10,true),(11,true),(12,true),(13,true),(14,true),(15,true),(16,true)] [5,17,18,19] τ τ (λs F=>CW F rfl ?_) ?_
   rotate_left
   .simp only[go_sem,Qa,e,o,v1,z,y,v,Qy o,JS,kN];rw[kO g d2 _ _ _ v z y,<- B,JS]
    repeat' refine And.intro ?_ ?_
    all_goals exact QQ
   apply Za c;have C:(Sort.swp d2 a (a+k)).size=d.size:=by rw[swp_size,v]
   refine VY c Qf6 rfl ?_ (C▸QhX (vS (g:=g) (d:=Sort.swp d2 a (a+k)) i) k a 0 ω ω ω) rfl λd h q=>?_
   .simp only[go_sem,JS,v2]
   obtain⟨rfl,rfl⟩:=q;apply Qh c;simp only[go_sem,JS,v2];refine⟨ω,_,?_,Sort.siftDown Qt k a 0 (Sort.swp d2 a (a+k)),k,by rw[iL,C],ω,j,rfl⟩;exact QQ
 .rw[Sort.heapBuild]at f;have l:(((k+1:Nat):Int) - 1)=(k:Int):=ω;have v2:IntKind.i64.wrap ((k:Int) - 1)=(k:Int) - 1:=wrap64 ω ω;apply Qh c;simp only[go_sem,Qa,t,l,QhZ];refine VY c Qf6 rfl ?_ (u▸QhX t (b - a) a k ω ω ω) rfl λd h q=>?_
  .simp only[go_sem,JS,v2]
  obtain⟨rfl,rfl⟩:=q;apply Qh c;simp only[go_sem,JS,v2];refine⟨ω,_,?_,Sort.siftDown Qt (b - a) a k d1,k,by rw[iL,u],ω,f,rfl⟩;exact QQ
end
def tK(p)(d:Array Int)(i j)(a:0<i):Sort.scanDown p d i j=if i<=j&&p d[j]! then Sort.scanDown p d i (j - 1) else j:=by
 cases j with
 | zero=>
  rw[Sort.scanDown,Qe];simp;omega
 | succ j=>rw[Sort.scanDown];rfl
def iM(p q:Int->Bool)(f:∀x,q x=!p x)(d:Array Int)(i j:Nat)(m:0<i)(n:i<=j+1)(h:¬ Sort.scanUp p d j i > Sort.scanDown q d (Sort.scanUp p d j i) j):
  Sort.scanUp p d j i<Sort.scanDown q d (Sort.scanUp p d j i) j:=by
 obtain⟨l,k,g,c⟩:=Sort.scanUp_spec p d j _ i rfl;obtain⟨v1,v2,v3,b⟩:=Sort.scanDown_spec q d (Sort.scanUp p d j i) j;rcases B7 (Sort.scanUp p d j i) (Sort.scanDown q d (Sort.scanUp p d j i) j) with a|a
 .exact a
 .have e:Sort.scanUp p d j i=Sort.scanDown q d (Sort.scanUp p d j i) j:=ω;have f1:=c ω;have f2:=b ω ω;rw[f,<- e,f1]at f2;cases f2
def Qh0(a):∀(n i j:Nat) (d:Array Int),j+1 - i<=n->(Sort.partEqLoop Qt a i j d).2.size=d.size
 | n,i,j,d,c=>by
  rw[Sort.partEqLoop_eq];split
  .rfl
  .rename_i h;have:=Sort.partEqLoop_guard Qt a i j d h;obtain⟨b,rfl⟩:∃b,n=b+1:=⟨n - 1,ω⟩;rw[Qh0 a b _ _ _ ω,swp_size]
def Qh1(a):∀(n i j:Nat) (d:Array Int),j+1 - i<=n->(Sort.partLoop Qt a i j d).2.size=d.size
 | n,i,j,d,c=>by
  rw[Sort.partLoop_eq];split
  .rfl
  .rename_i h;have:=Sort.partLoop_guard Qt a i j d h;obtain⟨b,rfl⟩:∃b,n=b+1:=⟨n - 1,ω⟩;rw[Qh1 a b _ _ _ ω,swp_size]
section
variable {h:List Ob}{lo g:Nat}{d:Array Int}(ho:h[lo]? = some (Zi g d))
include ho
theorem Qw0(a b n)(Vh:a<b)(ZF:b<=d.size)(hp:a<=n)(pD:n<b)(hz:d.size<1000000000):
  QI prog 261 h [.ref lo g 0 d.size,Qb a,Qb b,Qb n] (λdd Z=>dd=Qb (Sort.partitionEqual Qt d a b n).1/\Z=h.set lo (Zi g (Sort.partitionEqual Qt d a b n).2)):=by
 have e0:IntKind.i64.wrap ((a:Int)+1)=((a+1:Nat):Int):=ZK;have e1:IntKind.i64.wrap ((b:Int) - 1)=((b - 1:Nat):Int):=ZK;have q:a<d.size:=ω;have N:n<d.size:=ω;have a5:d.size=d.size:=rfl;refine Q3 func261 ntmps261 results261 λQ w pl f=>?_;have y:=Qc ho;simp only[go_sem,Qa,ho,y];apply QB f i9;simp only[go_sem,Qa,ho,y,q,N,Qy y,JS,kN];rw[kO g d _ _ _ rfl q N];apply Qh f;simp only[go_sem,e0,e1];unfold Sort.partitionEqual;refine Js (λm r=>∃(d1:Array Int) (i j:Nat),d1.size=d.size/\a<i/\i<=j+1/\j<b/\m+(j+1 - i)<=b/\Sort.partEqLoop Qt a i j d1=Sort.partEqLoop Qt a (a+1) (b - 1) (Sort.swp d a n)/\r=⟨[(0,.ref lo g 0 d.size),(1,Qb a),(9,Qb i),(10,Qb j)],h.set lo (Zi g d1)⟩) b (s0:=⟨[(0,.ref lo g 0 d.size),(1,Qb a),(9,Qb (a+1:Nat)),(10,Qb (b - 1:Nat))],h.set lo (Zi g (Sort.swp d a n))⟩) QQ ⟨_,a+1,b - 1,swp_size d a n,ω,ω,ω,ω,rfl,rfl⟩ ?_;rintro m _ hm ⟨d1,i,j,p,PM,P,a7,gl,t,rfl⟩;have l:=vS (g:=g) (d:=d1) y;generalize O:h.set lo (Zi g d1)=H at l;have o:=Qc l;rw[Sort.partEqLoop_eq]at t;have MP:=iM (λx=>!Qt d1[a]! x) (λx=>Qt d1[a]! x) (λx=>σ) d1 i j ω P;obtain⟨u1,V,u3,u4⟩:=Sort.scanUp_spec (λx=>!Qt d1[a]! x) d1 j _ i rfl;have U:=V P;generalize W:Sort.scanUp (λx=>!Qt d1[a]! x) d1 j i=z at *;obtain⟨w1,R,w3,w4⟩:=Sort.scanDown_spec (λx=>Qt d1[a]! x) d1 z j;have w5:=R U;generalize Wy:Sort.scanDown (λx=>Qt d1[a]! x) d1 z j=Y at *;apply QM f;refine Js (λm r=>∃c:Nat,c=i+m/\c<=j+1/\Sort.scanUp (λx=>!Qt d1[a]! x) d1 j c=z/\r=⟨[(0,.ref lo g 0 d.size),(1,Qb a),(9,Qb c),(10,Qb j)],H⟩) d.size (s0:=⟨[(0,.ref lo g 0 d.size),(1,Qb a),(9,Qb i),(10,Qb j)],H⟩) QQ ⟨i,rfl,ω,W,rfl⟩ ?_;rintro ma _ a6 ⟨c,a4,a3,v,rfl⟩;have ga:c<=j->c<d.size:=ω;rw[Sort.scanUp]at v;apply Qh f;simp only[go_sem,Qa,l,o];first|refine YO ?_|skip
 refine y7 [0,1,9,10] [(43,QZ (decide (c<=j)&&!Qt d1[a]! d1[c]!))] rfl ?_ ?_
 .by_cases I:c<=j
  .have E:decide (c<=j)=true:=Q1 I;have K:=ga I;apply QB f Id;simp only[go_sem,Qa,l,o,p,E,q,K];apply VR f kx (xj d1[a]! d1[c]!);apply WY f;exact QQ
  .have E:decide (c<=j)=false:=QU I;apply QB f Id;simp only[go_sem,Qa,l,o,p,E,q];exact QQ
 cases k:(decide (c<=j)&&!Qt d1[a]! d1[c]!)
 .rw[k,Qe π]at v;apply Qh f;simp only[go_sem,Qa,k];subst v;apply QM f;refine Js (λm r=>∃e:Nat,e+m=j/\c<=e+1/\Sort.scanDown (λx=>Qt d1[a]! x) d1 c e=Y/\r=⟨[(0,.ref lo g 0 d.size),(1,Qb a),(9,Qb c),(10,Qb e)],H⟩) d.size (s0:=⟨[(0,.ref lo g 0 d.size),(1,Qb a),(9,Qb c),(10,Qb j)],H⟩) QQ ⟨j,rfl,ω,Wy,rfl⟩ ?_;rintro mb _ Eo ⟨e,DJ,a2,u,rfl⟩;have gb:c<=e->e<d.size:=ω;rw[tK _ _ _ _ ω]at u;apply Qh f;simp only[go_sem,Qa,l,o];first|refine YO ?_|skip
  refine y7 [0,1,9,10] [(59,QZ (decide (c<=e)&&Qt d1[a]! d1[e]!))] rfl ?_ ?_
  .by_cases F:c<=e
   .have C:decide (c<=e)=true:=Q1 F;have J:=gb F;apply QB f ii;simp only[go_sem,Qa,l,o,p,C,q,J];apply VR f kx (xj d1[a]! d1[e]!);apply WY f;exact QQ
   .have C:decide (c<=e)=false:=QU F;apply QB f ii;simp only[go_sem,Qa,l,o,p,C,q];exact QQ
  cases k:(decide (c<=e)&&Qt d1[a]! d1[e]!)
  .rw[k,Qe π]at u;apply Qh f;simp only[go_sem,Qa,k];have Ep:IntKind.i64.wrap ((c:Int)+1)=((c+1:Nat):Int):=ZK;subst u;by_cases s:e<c
   .have B:decide (e<c)=true:=Q1 s;rw[Qf s]at t;apply Qh f;simp only[go_sem,Qa,B];apply QM f;rw[<- t,<- O];first|exact⟨rfl,rfl⟩|rfl
   .have B:decide (e<c)=false:=QU s;have a8:=MP s;have M:c<d.size:=ω;have L:e<d.size:=ω;have UC:IntKind.i64.wrap ((e:Int) - 1)=((e - 1:Nat):Int):=ZK;rw[Qe s]at t;apply Qh f;simp only[go_sem,Qa,B];apply QB f i9;simp only[go_sem,Qa,l,o,p,M,L,Qy o,JS,kN,Ep,UC];rw[kO g d1 _ _ _ p M L];refine⟨ω,_,?_,Sort.swp d1 c e,c+1,e - 1,by rw[swp_size,p],ω,ω,ω,ω,t,rfl⟩;rw[<- O,JS];exact QQ
  .rw[k,Qf rfl]at u;have a0:c<=e:=by
    rw[ZX]at k;exact X9 k.1
   have S:IntKind.i64.wrap ((e:Int) - 1)=((e - 1:Nat):Int):=ZK;apply Qh f;simp only[go_sem,Qa,k,S];refine⟨ω,_,?_,e - 1,ω,ω,u,rfl⟩;exact QQ
 .rw[k,Qf rfl]at v;have a1:c<=j:=by
   rw[ZX]at k;exact X9 k.1
  have T:IntKind.i64.wrap ((c:Int)+1)=((c+1:Nat):Int):=ZK;apply Qh f;simp only[go_sem,Qa,k,T];refine⟨ω,_,?_,c+1,ω,ω,v,rfl⟩;exact QQ
omit ho in
theorem Qw5(d)(a b c):Sort.partition Qt d a b c =
  if Sort.scanUp (λx=>Qt x (Sort.swp d a c)[a]!) (Sort.swp d a c) (b - 1) (a+1) > Sort.scanDown (λx=>!Qt x (Sort.swp d a c)[a]!) (Sort.swp d a c) (Sort.scanUp (λx=>Qt x (Sort.swp d a c)[a]!) (Sort.swp d a c) (b - 1) (a+1)) (b - 1) then
   (Sort.scanDown (λx=>!Qt x (Sort.swp d a c)[a]!) (Sort.swp d a c) (Sort.scanUp (λx=>Qt x (Sort.swp d a c)[a]!) (Sort.swp d a c) (b - 1) (a+1)) (b - 1),true,Sort.swp (Sort.swp d a c) (Sort.scanDown (λx=>!Qt x (Sort.swp d a c)[a]!) (Sort.swp d a c) (Sort.scanUp (λx=>Qt x (Sort.swp d a c)[a]!) (Sort.swp d a c) (b - 1) (a+1)) (b - 1)) a)
  else ((Sort.partLoop Qt a (Sort.scanUp (λx=>Qt x (Sort.swp d a c)[a]!) (Sort.swp d a c) (b - 1) (a+1)+1) (Sort.scanDown (λx=>!Qt x (Sort.swp d a c)[a]!) (Sort.swp d a c) (Sort.scanUp (λx=>Qt x (Sort.swp d a c)[a]!) (Sort.swp d a c) (b - 1) (a+1)) (b - 1) - 1) (Sort.swp (Sort.swp d a c) (Sort.scanUp (λx=>Qt x (Sort.swp d a c)[a]!) (Sort.swp d a c) (b - 1) (a+1)) (Sort.scanDown (λx=>!Qt x (Sort.swp d a c)[a]!) (Sort.swp d a c) (Sort.scanUp (λx=>Qt x (Sort.swp d a c)[a]!) (Sort.swp d a c) (b - 1) (a+1)) (b - 1)))).1,false,
   Sort.swp (Sort.partLoop Qt a (Sort.scanUp (λx=>Qt x (Sort.swp d a c)[a]!) (Sort.swp d a c) (b - 1) (a+1)+1) (Sort.scanDown (λx=>!Qt x (Sort.swp d a c)[a]!) (Sort.swp d a c) (Sort.scanUp (λx=>Qt x (Sort.swp d a c)[a]!) (Sort.swp d a c) (b - 1) (a+1)) (b - 1) - 1) (Sort.swp (Sort.swp d a c) (Sort.scanUp (λx=>Qt x (Sort.swp d a c)[a]!) (Sort.swp d a c) (b - 1) (a+1)) (Sort.scanDown (λx=>!Qt x (Sort.swp d a c)[a]!) (Sort.swp d a c) (Sort.scanUp (λx=>Qt x (Sort.swp d a c)[a]!) (Sort.swp d a c) (b - 1) (a+1)) (b - 1)))).2
    (Sort.partLoop Qt a (Sort.scanUp (λx=>Qt x (Sort.swp d a c)[a]!) (Sort.swp d a c) (b - 1) (a+1)+1) (Sort.scanDown (λx=>!Qt x (Sort.swp d a c)[a]!) (Sort.swp d a c) (Sort.scanUp (λx=>Qt x (Sort.swp d a c)[a]!) (Sort.swp d a c) (b - 1) (a+1)) (b - 1) - 1) (Sort.swp (Sort.swp d a c) (Sort.scanUp (λx=>Qt x (Sort.swp d a c)[a]!) (Sort.swp d a c) (b - 1) (a+1)) (Sort.scanDown (λx=>!Qt x (Sort.swp d a c)[a]!) (Sort.swp d a c) (Sort.scanUp (λx=>Qt x (Sort.swp d a c)[a]!) (Sort.swp d a c) (b - 1) (a+1)) (b - 1)))).1 a):=rfl
theorem Qw6(a b E)(Vh:a+1<b)(ZF:b<=d.size)(hp:a<=E)(pD:E<b)(hz:d.size<1000000000):
  QI prog 262 h [.ref lo g 0 d.size,Qb a,Qb b,Qb E] (λdd h'=>dd=.tup [Qb (Sort.partition Qt d a b E).1,QZ (Sort.partition Qt d a b E).2.1]/\h'=h.set lo (Zi g (Sort.partition Qt d a b E).2.2)):=by
 have e0:IntKind.i64.wrap ((a:Int)+1)=((a+1:Nat):Int):=ZK;have e1:IntKind.i64.wrap ((b:Int) - 1)=((b - 1:Nat):Int):=ZK;have p:a<d.size:=ω;have pp:E<d.size:=ω;refine Q3 func262 ntmps262 results262 λa9 w pl c=>?_;have O:=Qc ho;simp only[go_sem,Qa,ho,O];apply QB c i9;simp only[go_sem,Qa,ho,O,p,pp,Qy O,JS,kN];rw[kO g d _ _ _ rfl p pp,Qw5];apply Qh c;simp only[go_sem,e0,e1];generalize a2:Sort.swp d a E=k at *;have C:k.size=d.size:=by rw[<- a2,swp_size]
 have y:=vS (g:=g) (d:=k) O;generalize R:h.set lo (Zi g k)=P at y;have v:=Qc y;have a8:=iM (λx=>Qt x k[a]!) (λx=>!Qt x k[a]!) (λx=>rfl) k (a+1) (b - 1) ω ω;obtain⟨t1,t2,t3,t4⟩:=Sort.scanUp_spec (λx=>Qt x k[a]!) k (b - 1) _ (a+1) rfl;have t5:=t2 ω;generalize S:Sort.scanUp (λx=>Qt x k[a]!) k (b - 1) (a+1)=F at *;obtain⟨s1,s2,s3,s4⟩:=Sort.scanDown_spec (λx=>!Qt x k[a]!) k F (b - 1);have s5:=s2 t5;generalize Wy:Sort.scanDown (λx=>!Qt x k[a]!) k F (b - 1)=T at *;generalize c3:a+1=I0 at *;generalize tO:b - 1=q at *;rw[show h.set lo (⟨.arr,g,1,k.size,CX k⟩:Ob)=P from R];refine Js (λm z=>∃e:Nat,e=I0+m/\e<=q+1/\Sort.scanUp (λx=>Qt x k[a]!) k q e=F/\z=⟨[(0,.ref lo g 0 d.size),(1,Qb a),(10,Qb e),(11,Qb q)],P⟩) d.size (s0:=⟨[(0,.ref lo g 0 d.size),(1,Qb a),(10,Qb I0),(11,Qb q)],P⟩) QQ ⟨I0,rfl,ω,S,rfl⟩ ?_;rintro me _ c0 ⟨e,b7,WT,N,rfl⟩;have ge:e<=q->e<d.size:=ω;rw[Sort.scanUp]at N;apply Qh c;simp only[go_sem,Qa,y,v];first|refine YO ?_|skip
 refine y7 [0,1,10,11] [(43,QZ (decide (e<=q)&&Qt k[e]! k[a]!))] rfl ?_ ?_
 .by_cases ce:e<=q
  .have V:decide (e<=q)=true:=Q1 ce;have a4:=ge ce;apply QB c ii;simp only[go_sem,Qa,y,v,C,V,p,a4];apply VR c kx (xj k[e]! k[a]!);apply WY c;exact QQ
  .have V:decide (e<=q)=false:=QU ce;apply QB c ii;simp only[go_sem,Qa,y,v,C,V,p];exact QQ
 cases o:(decide (e<=q)&&Qt k[e]! k[a]!)
 .rw[o,Qe π]at N;apply Qh c;simp only[go_sem,Qa,o];subst N;apply QM c;refine Js (λm z=>∃l:Nat,l+m=q/\e<=l+1/\Sort.scanDown (λx=>!Qt x k[a]!) k e l=T/\z=⟨[(0,.ref lo g 0 d.size),(1,Qb a),(10,Qb e),(11,Qb l)],P⟩) d.size (s0:=⟨[(0,.ref lo g 0 d.size),(1,Qb a),(10,Qb e),(11,Qb q)],P⟩) QQ ⟨q,rfl,ω,Wy,rfl⟩ ?_;rintro mf _ b9 ⟨l,b6,b4,M,rfl⟩;have gf:e<=l->l<d.size:=ω;rw[tK _ _ _ _ ω]at M;apply Qh c;simp only[go_sem,Qa,y,v];first|refine YO ?_|skip
  refine y7 [0,1,10,11] [(60,QZ (decide (e<=l)&&!Qt k[l]! k[a]!))] rfl ?_ ?_
  .by_cases Z:e<=l
   .have U:decide (e<=l)=true:=Q1 Z;have a3:=gf Z;apply QB c Id;simp only[go_sem,Qa,y,v,C,U,p,a3];apply VR c kx (xj k[l]! k[a]!);apply WY c;exact QQ
   .have U:decide (e<=l)=false:=QU Z;apply QB c Id;simp only[go_sem,Qa,y,v,C,U,p];exact QQ
  cases o:(decide (e<=l)&&!Qt k[l]! k[a]!)
  .rw[o,Qe π]at M;apply Qh c;simp only[go_sem,Qa,o];subst M;have a1:IntKind.i64.wrap ((e:Int)+1)=((e+1:Nat):Int):=ZK;by_cases s:l<e
   .have I:decide (l<e)=true:=Q1 s;rw[Qf s];apply Qh c;simp only[go_sem,Qa,I];have r:l<d.size:=ω;apply QB c i9;simp only[go_sem,Qa,y,v,C,r,p,Qy v,JS,kN];rw[kO g k _ _ _ C r p];rw[<- R,JS];first|exact⟨rfl,rfl⟩|rfl
   .have I:decide (l<e)=false:=QU s;have a7:=a8 s;have J:e<d.size:=ω;have r:l<d.size:=ω;have a0:IntKind.i64.wrap ((l:Int) - 1)=((l - 1:Nat):Int):=ZK;rw[Qe s];apply Qh c;simp only[go_sem,Qa,I];apply QB c i9;simp only[go_sem,Qa,y,v,C,J,r,Qy v,JS,kN,a1,a0];rw[kO g k _ _ _ C J r,<- R,JS];refine Js (λm z=>∃(d1:Array Int) (i j:Nat),d1.size=d.size/\a<i/\i<=j+1/\j<b/\m+(j+1 - i)<=b/\Sort.partLoop Qt a i j d1=Sort.partLoop Qt a (e+1) (l - 1) (Sort.swp k e l)/\z=⟨[(0,.ref lo g 0 d.size),(1,Qb a),(10,Qb i),(11,Qb j)],h.set lo (Zi g d1)⟩) b (s0:=⟨[(0,.ref lo g 0 d.size),(1,Qb a),(10,Qb (e+1:Nat)),(11,Qb (l - 1:Nat))],h.set lo (Zi g (Sort.swp k e l))⟩) QQ ⟨_,e+1,l - 1,by rw[swp_size,C],ω,ω,ω,ω,rfl,rfl⟩ ?_;rintro m _ hm ⟨d1,i,j,B,PM,Vo,c1,gl,K,rfl⟩;have t:=vS (g:=g) (d:=d1) O;generalize hH:h.set lo (Zi g d1)=H at t;have u:=Qc t;rw[Sort.partLoop_eq]at K;have MP:=iM (λx=>Qt x d1[a]!) (λx=>!Qt x d1[a]!) (λx=>rfl) d1 i j ω Vo;obtain⟨u1,u2,u3,u4⟩:=Sort.scanUp_spec (λx=>Qt x d1[a]!) d1 j _ i rfl;have u5:=u2 Vo;generalize S:Sort.scanUp (λx=>Qt x d1[a]!) d1 j i=F at *;obtain⟨w1,w2,w3,w4⟩:=Sort.scanDown_spec (λx=>!Qt x d1[a]!) d1 F j;have w5:=w2 u5;generalize Wy:Sort.scanDown (λx=>!Qt x d1[a]!) d1 F j=T at *;apply QM c;refine Js (λm z=>∃f:Nat,f=i+m/\f<=j+1/\Sort.scanUp (λx=>Qt x d1[a]!) d1 j f=F/\z=⟨[(0,.ref lo g 0 d.size),(1,Qb a),(10,Qb f),(11,Qb j)],H⟩) d.size (s0:=⟨[(0,.ref lo g 0 d.size),(1,Qb a),(10,Qb i),(11,Qb j)],H⟩) QQ ⟨i,rfl,ω,S,rfl⟩ ?_;rintro mc _ Aj ⟨f,gp,b5,Q,rfl⟩;have gc:f<=j->f<d.size:=ω;rw[Sort.scanUp]at Q;apply Qh c;simp only[go_sem,Qa,t,u];first|refine YO ?_|skip
    refine y7 [0,1,10,11] [(112,QZ (decide (f<=j)&&Qt d1[f]! d1[a]!))] rfl ?_ ?_
    .by_cases cc:f<=j
     .have Y:decide (f<=j)=true:=Q1 cc;have a6:=gc cc;apply QB c ii;simp only[go_sem,Qa,t,u,B,Y,p,a6];apply VR c kx (xj d1[f]! d1[a]!);apply WY c;exact QQ
     .have Y:decide (f<=j)=false:=QU cc;apply QB c ii;simp only[go_sem,Qa,t,u,B,Y,p];exact QQ
    cases o:(decide (f<=j)&&Qt d1[f]! d1[a]!)
    .rw[o,Qe π]at Q;apply Qh c;simp only[go_sem,Qa,o];subst Q;apply QM c;refine Js (λm z=>∃n:Nat,n+m=j/\f<=n+1/\Sort.scanDown (λx=>!Qt x d1[a]!) d1 f n=T/\z=⟨[(0,.ref lo g 0 d.size),(1,Qb a),(10,Qb f),(11,Qb n)],H⟩) d.size (s0:=⟨[(0,.ref lo g 0 d.size),(1,Qb a),(10,Qb f),(11,Qb j)],H⟩) QQ ⟨j,rfl,ω,Wy,rfl⟩ ?_;rintro md _ iN ⟨n,b8,UF,L,rfl⟩;have gd:f<=n->n<d.size:=ω;rw[tK _ _ _ _ ω]at L;apply Qh c;simp only[go_sem,Qa,t,u];first|refine YO ?_|skip
     refine y7 [0,1,10,11] [(129,QZ (decide (f<=n)&&!Qt d1[n]! d1[a]!))] rfl ?_ ?_
     .by_cases cd:f<=n
      .have W:decide (f<=n)=true:=Q1 cd;have a5:=gd cd;apply QB c Id;simp only[go_sem,Qa,t,u,B,W,p,a5];apply VR c kx (xj d1[n]! d1[a]!);apply WY c;exact QQ
      .have W:decide (f<=n)=false:=QU cd;apply QB c Id;simp only[go_sem,Qa,t,u,B,W,p];exact QQ
     cases o:(decide (f<=n)&&!Qt d1[n]! d1[a]!)
     .rw[o,Qe π]at L;apply Qh c;simp only[go_sem,Qa,o];have Ep:IntKind.i64.wrap ((f:Int)+1)=((f+1:Nat):Int):=ZK;subst L;by_cases s:n<f
      .have I:decide (n<f)=true:=Q1 s;rw[Qf s]at K;apply Qh c;simp only[go_sem,Qa,I];apply QM c;have r:n<d.size:=ω;apply QB c i9;simp only[go_sem,Qa,t,u,B,r,p,Qy u,JS,kN];rw[kO g d1 _ _ _ B r p];rw[<- K,<- hH,JS];first|exact⟨rfl,rfl⟩|rfl
      .have I:decide (n<f)=false:=QU s;have a7:=MP s;have J:f<d.size:=ω;have r:n<d.size:=ω;have UC:IntKind.i64.wrap ((n:Int) - 1)=((n - 1:Nat):Int):=ZK;rw[Qe s]at K;apply Qh c;simp only[go_sem,Qa,I];apply QB c i9;simp only[go_sem,Qa,t,u,B,J,r,Qy u,JS,kN,Ep,UC];rw[kO g d1 _ _ _ B J r];refine⟨ω,_,?_,Sort.swp d1 f n,f+1,n - 1,by rw[swp_size,B],ω,ω,ω,ω,K,rfl⟩;rw[<- hH,JS];exact QQ
     .rw[o,Qf rfl]at L;have b2:f<=n:=by
       rw[ZX]at o;exact X9 o.1
      have vd:IntKind.i64.wrap ((n:Int) - 1)=((n - 1:Nat):Int):=ZK;apply Qh c;simp only[go_sem,Qa,o,vd];refine⟨ω,_,?_,n - 1,ω,ω,L,rfl⟩;exact QQ
    .rw[o,Qf rfl]at Q;have b3:f<=j:=by
      rw[ZX]at o;exact X9 o.1
     have vc:IntKind.i64.wrap ((f:Int)+1)=((f+1:Nat):Int):=ZK;apply Qh c;simp only[go_sem,Qa,o,vc];refine⟨ω,_,?_,f+1,ω,ω,Q,rfl⟩;exact QQ
  .rw[o,Qf rfl]at M;have b0:e<=l:=by
    rw[ZX]at o;exact X9 o.1
   have vf:IntKind.i64.wrap ((l:Int) - 1)=((l - 1:Nat):Int):=ZK;apply Qh c;simp only[go_sem,Qa,o,vf];refine⟨ω,_,?_,l - 1,ω,ω,M,rfl⟩;exact QQ
 .rw[o,Qf rfl]at N;have b1:e<=q:=by
   rw[ZX]at o;exact X9 o.1
  have ve:IntKind.i64.wrap ((e:Int)+1)=((e+1:Nat):Int):=ZK;apply Qh c;simp only[go_sem,Qa,o,ve];refine⟨ω,_,?_,e+1,ω,ω,N,rfl⟩;exact QQ
end
def tP:∀(j:Nat) (d:Array Int),(Sort.shiftDown Qt j d).size=d.size
 | 0,d=>rfl
 | j+1,d=>by rw[Sort.shiftDown];split;rfl;rw[tP j,swp_size]
def Qh3(b):∀(n j:Nat) (d:Array Int),b - j<=n->(Sort.shiftUp Qt b j d).size=d.size
 | n,j,d,c=>by
  rw[Sort.shiftUp];split
  .split
   .rfl
   .obtain⟨a,rfl⟩:∃a,n=a+1:=⟨n - 1,ω⟩;rw[Qh3 b a _ _ ω,swp_size]
  .rfl
def Qh4(d)(b):∀(n i:Nat),b - i<=n->i<=b->i<=Sort.scanSorted Qt d b i/\Sort.scanSorted Qt d b i<=b
 | n,i,e,f=>by
  rw[Sort.scanSorted];split
  .rename_i c;simp at c;obtain⟨a,rfl⟩:∃a,n=a+1:=⟨n - 1,ω⟩;have:=Qh4 d b a (i+1) ω ω;omega
  .omega
section
variable {h:List Ob}{lo g:Nat}{d:Array Int}(ho:h[lo]? = some (Zi g d))
include ho
theorem Qxg(a b)(Vh:a<b)(ZF:b<=d.size)(hz:d.size<1000000000):
  QI prog 260 h [.ref lo g 0 d.size,Qb a,Qb b] (λe h'=>e=QZ (Sort.partialInsertionSort Qt d a b).2/\h'=h.set lo (Zi g (Sort.partialInsertionSort Qt d a b).1)):=by
 have e0:IntKind.i64.wrap ((a:Int)+1)=((a+1:Nat):Int):=ZK;have R:IntKind.i64.wrap ((b:Int) - a)=((b - a:Nat):Int):=ZK;unfold Sort.partialInsertionSort;refine Q3 func260 ntmps260 results260 λa2 w pl c=>?_;have N:=Qc ho;simp only[go_sem,Qa,ho,N,e0];refine Js (λm u=>∃(d1:Array Int) (x:Nat),d1.size=d.size/\a+1<=x/\x<=b/\m<=5/\Sort.partialIns Qt a b (5 - m) x d1=Sort.partialIns Qt a b 5 (a+1) d/\u=⟨[(0,.ref lo g 0 d.size),(1,Qb a),(2,Qb b),(7,Qb x),(8,Qb m)],h.set lo (Zi g d1)⟩) 5 (s0:=⟨[(0,.ref lo g 0 d.size),(1,Qb a),(2,Qb b),(7,Qb (a+1:Nat)),(8,Qb 0)],h.set lo (Zi g d)⟩) ?_ ⟨d,a+1,rfl,ω,ω,ω,rfl,rfl⟩ ?_
 .rw[xk ho];exact QQ
 rintro m _ hm ⟨d1,i,J,PM,O,a4,k,rfl⟩;have t:=vS (g:=g) (d:=d1) N;generalize V:h.set lo (Zi g d1)=H at t;have C:=Qc t;by_cases cm:m<5
 .have em:decide ((m:Int)<5)=true:=Q1 ω;obtain⟨sq,a0⟩:∃s,5 - m=s+1:=⟨5 - m - 1,ω⟩;have tQ:4 - m=sq:=ω;rw[a0,Sort.partialIns]at k;dsimp only at k;obtain⟨k1,k2⟩:=Qh4 d1 b _ i (Qs _) O;generalize hK:Sort.scanSorted Qt d1 b i=K at *;apply Qh c;simp only[go_sem,Qa,t,C,em];refine Js (λn u=>∃x:Nat,x=i+n/\x<=b/\Sort.scanSorted Qt d1 b x=K/\u=⟨[(0,.ref lo g 0 d.size),(1,Qb a),(2,Qb b),(7,Qb x),(8,Qb m)],H⟩) d.size (s0:=⟨[(0,.ref lo g 0 d.size),(1,Qb a),(2,Qb b),(7,Qb i),(8,Qb m)],H⟩) QQ ⟨i,rfl,O,hK,rfl⟩ ?_;rintro n0 _ Al ⟨x,hx,DJ,M,rfl⟩;have tR:IntKind.i64.wrap ((x:Int) - 1)=((x - 1:Nat):Int):=ZK;have tS:x - 1<d.size:=ω;have gx:x<b->x<d.size:=ω;rw[Sort.scanSorted]at M;apply Qh c;simp only[go_sem,Qa,t,C];first|refine YO ?_|skip
  refine y7 [0,1,2,7,8] [(32,QZ (decide (x<b)&&!Qt d1[x]! d1[x - 1]!))] rfl ?_ ?_
  .by_cases cx:x<b
   .have ex:decide (x<b)=true:=Q1 cx;have a1:=gx cx;apply QB c [0,1,2,3,4,5,6,7,8,9,10,11,12,1013,14,15];simp only[go_sem,Qa,t,C,J,ex,tR,tS,a1];apply VR c kx (xj d1[x]! d1[x - 1]!);apply WY c;exact QQ
   .have ex:decide (x<b)=false:=QU cx;apply QB c [0,1,2,3,4,5,6,7,8,9,10,11,12,1013,14,15];simp only[go_sem,Qa,t,C,J,ex];exact QQ
  cases E:(decide (x<b)&&!Qt d1[x]! d1[x - 1]!)
  .rw[E,Qe π]at M;subst M;apply Qh c;simp only[go_sem,Qa,E];by_cases cb:x=b
   .have U:((x:Int)==(b:Int))=true:=by rw[cb];exact N5 _
    rw[Qf cb]at k;apply Qh c;simp only[go_sem,Qa,U];rw[<- k,<- V];first|exact⟨rfl,rfl⟩|rfl
   .have U:((x:Int)==(b:Int))=false:=beq_eq_false_iff_ne.mpr ω;rw[Qe cb]at k;by_cases Uy:b - a<50
    .have tT:decide (((b - a:Nat):Int)<50)=true:=Q1 ω;rw[Qf Uy]at k;apply Qh c;simp only[go_sem,Qa,U,R,tT];rw[<- k,<- V];first|exact⟨rfl,rfl⟩|rfl
    .have tT:decide (((b - a:Nat):Int)<50)=false:=QU ω;rw[Qe Uy]at k;have px:x<d.size:=ω;apply Qh c;simp only[go_sem,Qa,U,R,tT];refine Ga (⟨[(0,.ref lo g 0 d.size),(1,Qb a),(2,Qb b),(7,Qb x),(8,Qb m)],h.set lo (Zi g (Sort.swp d1 x (x - 1)))⟩) VK c mixed [(0,true),(1,true),(2,true),(3,true),(5,true),(6,true),(7,true),(8,true),(9,true),(10,true),(11,true),(12,true),(13,true),(14,true)] [4,15,16,17] τ τ (λs I=>CW I rfl ?_) ?_
     rotate_left
     .simp only[go_sem,Qa,t,C,tR,px,tS,J,Qy C,JS,kN];rw[kO g d1 _ _ _ J px tS,<- V,JS]
      repeat' refine And.intro ?_ ?_
      all_goals exact QQ
     generalize Kt:Sort.swp d1 x (x - 1)=d2 at *;have JT:d2.size=d.size:=by rw[<- Kt,swp_size,J]
     have J7:=vS (g:=g) (d:=d2) N;have P:IntKind.i64.wrap ((x:Int) - a)=((x - a:Nat):Int):=ZK;have Q:IntKind.i64.wrap ((b:Int) - x)=((b - x:Nat):Int):=ZK;have tU:IntKind.i64.wrap ((x:Int)+1)=((x+1:Nat):Int):=ZK;generalize L:(if x - a >= 2 then Sort.shiftDown Qt (x - 1) d2 else d2)=d3 at *;have Uz:d3.size=d.size:=by
      rw[<- L];split
      .rw[tP,JT]
      .exact JT
     first|refine YO ?_|skip
     refine rI (⟨[(0,.ref lo g 0 d.size),(1,Qb a),(2,Qb b),(7,Qb x),(8,Qb m)],h.set lo (Zi g d3)⟩) ?_ ?_
     .by_cases S:x - a >= 2
      .have Z:decide ((2:Int)<=((x - a:Nat):Int))=true:=Q1 ω;rw[Qf S]at L;apply Qh c;simp only[go_sem,Qa,P,Z,tR];rw[<- L];refine Js (λn u=>∃(e:Array Int) (y:Nat),e.size=d.size/\y+n=x - 1/\Sort.shiftDown Qt y e=Sort.shiftDown Qt (x - 1) d2/\u=⟨[(0,.ref lo g 0 d.size),(1,Qb a),(2,Qb b),(7,Qb x),(8,Qb m),(9,Qb y)],h.set lo (Zi g e)⟩) d.size (s0:=⟨[(0,.ref lo g 0 d.size),(1,Qb a),(2,Qb b),(7,Qb x),(8,Qb m),(9,Qb (x - 1:Nat))],h.set lo (Zi g d2)⟩) QQ ⟨d2,_,JT,ω,rfl,rfl⟩ ?_;rintro n _ hn ⟨e,y,q,hy,f,rfl⟩;have l:=vS (g:=g) (d:=e) N;generalize p:h.set lo (Zi g e)=Hd at l;have o:=Qc l;by_cases cy:1<=y
       .have B:decide ((1:Int)<=(y:Int))=true:=Q1 ω;obtain⟨j,rfl⟩:∃j,y=j+1:=⟨y - 1,ω⟩;rw[Sort.shiftDown]at f;have F:IntKind.i64.wrap (((j+1:Nat):Int) - 1)=((j:Nat):Int):=ZK;have z:(j+1)<d.size:=ω;have v:j<d.size:=ω;apply Qh c;simp only[go_sem,Qa,l,o,B];apply QB c [0,1,2,3,4,5,6,7,8,1009,10];simp only[go_sem,Qa,l,o,q,F,z,v];apply VR c kx (xj e[j+1]! e[j]!);apply WY c;cases r:Qt e[j+1]! e[j]!
        .rw[r,Lh,Qf rfl]at f;simp only[go_sem,r];try (apply Qh c;simp only[go_sem,Qa])
         first|rw[<- f,<- p]|rw[<- p]
         exact QQ
        .rw[r,EU,Qe π]at f;simp only[go_sem,r];refine Ga (⟨[(0,.ref lo g 0 d.size),(1,Qb a),(2,Qb b),(7,Qb x),(8,Qb m),(9,Qb (j+1:Nat))],h.set lo (Zi g (Sort.swp e (j+1) j))⟩) VK c mixed [(0,true),(1,true),(2,true),(3,true),(5,true),(6,true),(7,true),(8,true),(9,true),(10,true),(11,true),(12,true),(13,true),(14,true)] [4,15,16,17] τ τ (λs I=>CW I rfl ?_) ?_
         rotate_left
         .simp only[go_sem,Qa,l,o,q,F,z,v,Qy o,JS,kN];rw[kO g e _ _ _ q z v,<- p,JS]
          repeat' refine And.intro ?_ ?_
          all_goals exact QQ
         apply Qh c;simp only[go_sem,F];refine⟨ω,_,?_,Sort.swp e (j+1) j,j,by rw[swp_size,q],ω,f,rfl⟩;exact QQ
       .have B:decide ((1:Int)<=(y:Int))=false:=QU ω;obtain rfl:y=0:=ω;rw[Sort.shiftDown]at f;apply Qh c;simp only[go_sem,Qa,l,o,B];try (apply Qh c;simp only[go_sem,Qa])
        first|rw[<- f,<- p]|rw[<- p]
        exact QQ
      .have Z:decide ((2:Int)<=((x - a:Nat):Int))=false:=QU ω;rw[Qe S]at L;apply Qh c;simp only[go_sem,Qa,P,Z];rw[<- L];exact QQ
     have Y:IntKind.i64.wrap ((m:Int)+1)=((m+1:Nat):Int):=ZK;by_cases T:b - x >= 2
     .have W:decide ((2:Int)<=((b - x:Nat):Int))=true:=Q1 ω;rw[Qf T]at k;apply Qh c;simp only[go_sem,Qa,Q,W,tU];refine Js (λn u=>∃(e:Array Int) (y:Nat),e.size=d.size/\y=x+1+n/\y<=b/\Sort.shiftUp Qt b y e=Sort.shiftUp Qt b (x+1) d3/\u=⟨[(0,.ref lo g 0 d.size),(1,Qb a),(2,Qb b),(7,Qb x),(8,Qb m),(10,Qb y)],h.set lo (Zi g e)⟩) d.size (s0:=⟨[(0,.ref lo g 0 d.size),(1,Qb a),(2,Qb b),(7,Qb x),(8,Qb m),(10,Qb (x+1:Nat))],h.set lo (Zi g d3)⟩) QQ ⟨d3,_,Uz,ω,ω,rfl,rfl⟩ ?_;rintro n _ hn ⟨e,y,q,hy,a3,f,rfl⟩;have l:=vS (g:=g) (d:=e) N;generalize p:h.set lo (Zi g e)=Hd at l;have o:=Qc l;by_cases cy:y<b
      .have B:decide (y<b)=true:=Q1 ω;rw[Sort.shiftUp,Qf cy]at f;have F:IntKind.i64.wrap ((y:Int) - 1)=((y - 1:Nat):Int):=ZK;have UC:IntKind.i64.wrap ((y:Int)+1)=((y+1:Nat):Int):=ZK;have z:y<d.size:=ω;have v:(y - 1)<d.size:=ω;apply Qh c;simp only[go_sem,Qa,l,o,B];apply QB c [0,1,2,3,4,5,6,7,8,1009,10];simp only[go_sem,Qa,l,o,q,F,z,v];apply VR c kx (xj e[y]! e[y - 1]!);apply WY c;cases r:Qt e[y]! e[y - 1]!
       .rw[r,Lh,Qf rfl]at f;simp only[go_sem,r];try (apply Qh c;simp only[go_sem,Qa])
        first|rw[<- f,<- p]|rw[<- p]
        try simp only[Y]
        refine⟨ω,_,?_,e,x,q,ω,ω,ω,by rw[tQ,f];exact k,rfl⟩;exact QQ
       .rw[r,EU,Qe π]at f;simp only[go_sem,r];refine Ga (⟨[(0,.ref lo g 0 d.size),(1,Qb a),(2,Qb b),(7,Qb x),(8,Qb m),(10,Qb (y:Nat))],h.set lo (Zi g (Sort.swp e y (y - 1)))⟩) VK c mixed [(0,true),(1,true),(2,true),(3,true),(5,true),(6,true),(7,true),(8,true),(9,true),(10,true),(11,true),(12,true),(13,true),(14,true)] [4,15,16,17] τ τ (λs I=>CW I rfl ?_) ?_
        rotate_left
        .simp only[go_sem,Qa,l,o,q,F,z,v,Qy o,JS,kN];rw[kO g e _ _ _ q z v,<- p,JS]
         repeat' refine And.intro ?_ ?_
         all_goals exact QQ
        apply Qh c;simp only[go_sem,UC];refine⟨ω,_,?_,Sort.swp e y (y - 1),y+1,by rw[swp_size,q],ω,ω,f,rfl⟩;exact QQ
      .have B:decide (y<b)=false:=QU ω;rw[Sort.shiftUp,Qe cy]at f;apply Qh c;simp only[go_sem,Qa,l,o,B];try (apply Qh c;simp only[go_sem,Qa])
       first|rw[<- f,<- p]|rw[<- p]
       try simp only[Y]
       refine⟨ω,_,?_,e,x,q,ω,ω,ω,by rw[tQ,f];exact k,rfl⟩;exact QQ
     .have W:decide ((2:Int)<=((b - x:Nat):Int))=false:=QU ω;rw[Qe T]at k;apply Qh c;simp only[go_sem,Qa,Q,W,Y];refine⟨ω,_,?_,d3,x,Uz,ω,ω,ω,by rw[tQ];exact k,rfl⟩;exact QQ
  .rw[E,Qf rfl]at M;have lq:x<b:=by
    rw[ZX]at E;exact X9 E.1
   have tU:IntKind.i64.wrap ((x:Int)+1)=((x+1:Nat):Int):=ZK;apply Qh c;simp only[go_sem,Qa,E,tU];refine⟨ω,_,?_,x+1,ω,ω,M,rfl⟩;exact QQ
 .have em:decide ((m:Int)<5)=false:=QU ω;obtain rfl:m=5:=ω;rw[YJ,Sort.partialIns]at k;apply Qh c;simp only[go_sem,Qa,t,C,em];apply QM c;rw[<- k,<- V];first|exact⟨rfl,rfl⟩|rfl
end
def iP(n k)(h:2 ^ k<=n):Sort.bitsLen n=k+Sort.bitsLen (n / 2 ^ k):=by
 have e:∀m,Sort.bitsLen n<=m↔k+Sort.bitsLen (n / 2 ^ k)<=m:=by
  intro m;rw[Sort.bitsLen_le_iff];by_cases c:k<=m
  .obtain⟨j,rfl⟩:∃j,m=k+j:=⟨m - k,ω⟩;have a:=Sort.bitsLen_le_iff (n / 2 ^ k) j;rw[Nat.div_lt_iff_lt_mul (cn k),<- Nat.pow_add,Sn j k]at a;rw[<- a];omega
  .have:2 ^ m<=2 ^ k:=Nat.pow_le_pow_right π ω;constructor
   .intro b;omega
   .intro b;omega
 have f:=(e (Sort.bitsLen n)).1 (Qs _);have d:=(e (k+Sort.bitsLen (n / 2 ^ k))).2 (Qs _);omega
def iQ(t:Array UInt8)(c:(List.range 256).all (λi=>Nat.beq (t.getD i 0).toNat (Sort.bitsLen i))=true)(d:t.size=256)(k i n)(f:i<256)(g:k<1000)(e:Sort.bitsLen n=k+Sort.bitsLen i):
  IntKind.u8.wrap (i:Int)<(t.size:Int)/\D.raw (.int .i64 (IntKind.i64.wrap ((k:Int)+IntKind.i64.wrap ((t.getD (IntKind.u8.wrap (i:Int)).toNat 0).toNat:Int))))=D.raw (.int .i64 (Sort.bitsLen n)):=by
 have a:=jo.1 c i (Sj.2 f);rw[WG]at a;have w:IntKind.u8.wrap (i:Int)=i:=by rw[IntKind.wrap_u8];omega
 rw[w,d,show ((i:Int)).toNat=i from rfl,a,e];have h:Sort.bitsLen i<=8:=(Sort.bitsLen_le_iff i 8).2 ω;refine⟨ω,?_⟩;have b:IntKind.i64.wrap (Sort.bitsLen i:Int)=Sort.bitsLen i:=wrap64 ω ω;rw[b,wrap64 ω ω];congr 2
def Qxj(n)(h:n<4294967296):Q9 prog 202 [u64 n] (Zp (Qb (Sort.bitsLen n))):=by
 have d:decide ((4294967296:Int)<=n)=false:=QU ω;refine ZH 0 func202 ntmps202 results202 λf w i=>?_;simp only[go_sem];have c:((n:Int).fdiv (2 ^ min 16 64))=((n / 65536:Nat):Int):=Mv n 16;have b:∀m:Nat,((m:Int).fdiv (2 ^ min 8 64))=((m / 256:Nat):Int):=λm=>Mv m 8;have a:IntKind.i64.wrap 16=16:=rfl;have e:IntKind.i64.wrap 24=24:=rfl;have g:IntKind.i64.wrap 8=8:=rfl;by_cases j:65536<=n
 .have d1:decide ((65536:Int)<=n)=true:=Q1 ω;by_cases c2:256<=n / 65536
  .have d2:decide ((256:Int)<=(n / 65536:Nat))=true:=Q1 ω;simp only[go_sem,d,d1,c,d2,b,a,e];exact iQ _ τ τ 24 (n / 65536 / 256) n ω π (by rw[iP n 16 ω,iP (n / 2 ^ 16) 8 ω,show n / 2 ^ 16 / 2 ^ 8=n / 65536 / 256 from rfl];omega)
  .have d2:decide ((256:Int)<=(n / 65536:Nat))=false:=QU ω;simp only[go_sem,d,d1,c,d2,b,a,e];exact iQ _ τ τ 16 (n / 65536) n ω π (by rw[iP n 16 ω])
 .have d1:decide ((65536:Int)<=n)=false:=QU ω;by_cases c2:256<=n
  .have d2:decide ((256:Int)<=n)=true:=Q1 ω;simp only[go_sem,d,d1,c,d2,b,g,e];exact iQ _ τ τ 8 (n / 256) n ω π (by rw[iP n 8 ω])
  .have d2:decide ((256:Int)<=n)=false:=QU ω;simp only[go_sem,d,d1,c,d2,b];exact iQ _ τ τ 0 n n ω π ω
def cP(n)(c:n<4294967296):Q9 prog 149 [u64 n] (Zp (Qb (Sort.bitsLen n))):=by
 refine ZH 0 func149 ntmps149 results149 λb w a=>?_;simp only[go_sem];apply JW a Qty (Qxj n c);exact zT a
def Qxk(n:Nat)(f:n<1000000000):Q9 prog 236 [Qb n] (Zp (u64 (2 ^ Sort.bitsLen n))):=by
 have d:IntKind.u64.wrap (n:Int)=(n:Int):=κ;have a:=(Sort.bitsLen_le_iff n 30).2 ω;have e:2 ^ Sort.bitsLen n<=2 ^ 30:=Nat.pow_le_pow_right π a;have b:IntKind.u64.wrap (1*2 ^ min (Sort.bitsLen n) 64)=((2 ^ Sort.bitsLen n:Nat):Int):=by
  rw[yK ω,Int.one_mul,show (2:Int) ^ Sort.bitsLen n=((2 ^ Sort.bitsLen n:Nat):Int) by push_cast;rfl,IntKind.wrap_u64];generalize 2 ^ Sort.bitsLen n=p at *;omega
 refine ZH 0 func236 ntmps236 results236 λc w a=>?_;simp only[go_sem];simp only[go_sem,d];refine JG a QfH ?_ (cP n ω) ?_
 .simp only[go_sem,b]
 apply Qh a;simp only[go_sem,b]
@[go_sem] def H9(n:Nat):Ob:=⟨.one,0,1,1,λ_=>[u64 n]⟩
def Qxl{h:List Ob}{d}(n)(f:h[d]? = some (H9 n))(o:n<18446744073709551616):
  QI prog 237 h [.ptr d 0 0 0] (λq p=>q=u64 (Sort.xorNextN n)/\p=h.set d (H9 (Sort.xorNextN n))):=by
 refine Q3 func237 ntmps237 results237 λi w s g=>?_;have c:=Qc f;simp only[go_sem,Qa,f,c];have l:∀a:Nat,a<18446744073709551616->bits .xor .u64 (a:Int) (IntKind.u64.wrap ((a:Int)*2 ^ min 13 64))=((a ^^^ (a*8192 % 18446744073709551616):Nat):Int):=λa b=>by
  rw[show IntKind.u64.wrap ((a:Int)*2 ^ min 13 64)=((a*8192 % 18446744073709551616:Nat):Int) from TS a 8192];exact u64_xor_nat _ _ b (YI _ π)
 have k:∀a:Nat,a<18446744073709551616->bits .xor .u64 (a:Int) ((a:Int).fdiv (2 ^ min 7 64))=((a ^^^ (a / 128):Nat):Int):=λa b=>by
  rw[show (a:Int).fdiv (2 ^ min 7 64)=((a / 128:Nat):Int) from Mv a 7];exact u64_xor_nat _ _ b ω
 have j:∀a:Nat,a<18446744073709551616->bits .xor .u64 (a:Int) (IntKind.u64.wrap ((a:Int)*2 ^ min 17 64))=((a ^^^ (a*131072 % 18446744073709551616):Nat):Int):=λa b=>by
  rw[show IntKind.u64.wrap ((a:Int)*2 ^ min 17 64)=((a*131072 % 18446744073709551616:Nat):Int) from TS a 131072];exact u64_xor_nat _ _ b (YI _ π)
 have b:n ^^^ (n*8192 % 18446744073709551616)<18446744073709551616:=Su (n:=64) ω ω;have r:(n ^^^ (n*8192 % 18446744073709551616)) ^^^ ((n ^^^ (n*8192 % 18446744073709551616)) / 128)<18446744073709551616:=Su (n:=64) b ω;unfold Sort.xorNextN;dsimp only;apply QB g Eq;simp only[go_sem,Qa,f,c,l n o];generalize n ^^^ (n*8192 % 18446744073709551616)=e at *;apply QB g Eq;simp only[go_sem,Qa,Qy c,JS,c,k e b];generalize e ^^^ (e / 128)=m at *;apply QB g Eq;simp only[go_sem,Qa,Qy c,JS,c,j m r];try exact⟨rfl,rfl⟩
def BC(a L M b:Nat)(s0:UInt64 × Array Int):Nat->UInt64 × Array Int
 | 0=>s0
 | k+1=>Sort.breakStep a L M (BC a L M b s0 k) (b+k)
def tZ(a L M b)(c:UInt64 × Array Int):∀k,(BC a L M b c k).2.size=c.2.size
 | 0=>rfl
 | k+1=>by
  rw[BC,Sort.breakStep];dsimp only;rw[swp_size,tZ a L M b c k]
def Qid(d)(a b)(h:b - a >= 8):Sort.breakPatterns d a b=(BC a (b - a) (1 <<< Sort.bitsLen (b - a)) (a+(b - a) / 4*2 - 1) (UInt64.ofNat (b - a),d) 3).2:=by
 unfold Sort.breakPatterns;dsimp only;rw[Qf h];rfl
section
variable {h:List Ob}{lo g:Nat}{d:Array Int}(ho:h[lo]? = some (Zi g d))
include ho
theorem Qxm(a b)(Vh:a<b)(ZF:b<=d.size)(hz:d.size<1000000000):
  QI prog 257 h [.ref lo g 0 d.size,Qb a,Qb b] (λdd h'=>dd=.tup []/\∃t,h'=h.set lo (Zi g (Sort.breakPatterns d a b))++t):=by
 have U:IntKind.i64.wrap ((b:Int) - a)=((b - a:Nat):Int):=ZK;by_cases V:b - a >= 8
 .rw[Qid d a b V];have d8:decide ((8:Int)<=(b - a:Nat))=true:=Q1 ω;generalize hL:b - a=L at *;have a1:=Sort.two_pow_bitsLen_le (n:=L) ω;have a2:=cn (Sort.bitsLen L);rw[show 1 <<< Sort.bitsLen L=2 ^ Sort.bitsLen L by rw[Nat.shiftLeft_eq,Ll]];have f0:((L:Int)).tdiv 4=((L / 4:Nat):Int):=rfl;have f1:IntKind.i64.wrap (((L / 4:Nat):Int))=((L / 4:Nat):Int):=by rw[wrap64 ω ω]
  have f2:IntKind.i64.wrap (((L / 4:Nat):Int)*2)=((L / 4*2:Nat):Int):=ZK;have f3:IntKind.i64.wrap ((a:Int)+(L / 4*2:Nat))=((a+L / 4*2:Nat):Int):=ZK;have f4:IntKind.i64.wrap (((a+L / 4*2:Nat):Int) - 1)=((a+L / 4*2 - 1:Nat):Int):=ZK;have f5:IntKind.i64.wrap (((a+L / 4*2:Nat):Int)+1)=((a+L / 4*2+1:Nat):Int):=ZK;have f6:IntKind.u64.wrap (L:Int)=(L:Int):=κ;refine Q3 func257 ntmps257 results257 λC w pl i=>?_;have z:=Qc ho;simp only[go_sem,Qa,ho,z,U,d8,f6];refine JG i QtI ?_ (Qxk L ω) ?_
  .simp only[go_sem,f0,f1,f2,f3,f4]
  apply Qh i;simp only[go_sem,f0,f1,f2,f3,f4];generalize hM:2 ^ Sort.bitsLen L=M at *;generalize O:(UInt64.ofNat L,d)=f;have Y3:f.2.size=d.size:=by rw[<- O]
  have Z:f.1.toNat=L:=by rw[<- O];simp;omega
  have MB:f.2=d:=by rw[<- O]
  refine Js (λm st=>m<=3/\st=⟨[(0,.ref lo g 0 d.size),(1,Qb a),(6,Qb L),(7,.ptr h.length 0 0 0),(8,u64 M),(9,Qb (a+L / 4*2 - 1+m:Nat))],h.set lo (Zi g (BC a L M (a+L / 4*2 - 1) f m).2)++[H9 (BC a L M (a+L / 4*2 - 1) f m).1.toNat]⟩) 3 (s0:=⟨[(0,.ref lo g 0 d.size),(1,Qb a),(6,Qb L),(7,.ptr h.length 0 0 0),(8,u64 M),(9,Qb (a+L / 4*2 - 1+0:Nat))],h.set lo (Zi g (BC a L M (a+L / 4*2 - 1) f 0).2)++[H9 (BC a L M (a+L / 4*2 - 1) f 0).1.toNat]⟩) ?_ ⟨ω,rfl⟩ ?_
  .rw[BC,MB,Z,xk ho];exact QQ
  rintro m _ hm ⟨FR,rfl⟩;have k:=tZ a L M (a+L / 4*2 - 1) f m;rw[Y3]at k;by_cases cm:m<3
  .have B:BC a L M (a+L / 4*2 - 1) f (m+1)=Sort.breakStep a L M (BC a L M (a+L / 4*2 - 1) f m) (a+L / 4*2 - 1+m):=rfl;generalize JB:BC a L M (a+L / 4*2 - 1) f m=sm at *;obtain⟨r,c⟩:=sm;dsimp only at k ⊢;have F:=vS (g:=g) (d:=c) z;have l:(h.set lo (Zi g c)).length=h.length:=XG;generalize E:h.set lo (Zi g c)=H at *;have j:=Qc F;have ZM:lo<h.length:=z;rw[<- l];have g1:(H++[H9 r.toNat])[H.length]? = some (H9 r.toNat):=σ;have hx:=Sort.xorNext_toNat r;have W:=r.toNat_lt;have Y:=Sort.xorNextN_lt r.toNat W;have T:∀o I:Ob,(H++[o]).set H.length I=H++[I]:=λo I=>by rw[ft rfl];rfl
   have P:decide (a+L / 4*2 - 1+m<=a+L / 4*2+1)=true:=Q1 ω;apply Qh i;simp only[go_sem,Qa,f0,f1,f2,f3,f5,P];refine VY i QtJ rfl ?_ (Qxl r.toNat g1 W) rfl λd h hR=>?_
   .simp only[go_sem,T]
   obtain⟨rfl,rfl⟩:=hR;apply Qh i;simp only[go_sem,T];have wM:IntKind.u64.wrap ((M:Int) - 1)=((M - 1:Nat):Int):=κ;generalize a0:Sort.xorNextN r.toNat=x at *;have wA:bits .and .u64 (x:Int) ((M - 1:Nat):Int)=((x &&& (M - 1):Nat):Int):=u64_and_nat x (M - 1) Y ω;have yb:x &&& (M - 1)<=M - 1:=Nat.and_le_right;generalize S:x &&& (M - 1)=y at *;have wI:IntKind.i64.wrap ((y:Nat):Int)=((y:Nat):Int):=by rw[wrap64 ω ω]
   have K:IntKind.i64.wrap (((y:Nat):Int) - L)=((y - L:Nat):Int)\/¬ L<=y:=by
    by_cases q:L<=y
    .left;rw[wrap64 ω ω];omega
    .right;exact q
   have R:IntKind.i64.wrap (((a+L / 4*2 - 1+m:Nat):Int)+1)=((a+L / 4*2 - 1+(m+1):Nat):Int):=ZK;simp only[go_sem,wM,wA,wI];by_cases v:L<=y
   .replace K:=K.resolve_right (λq=>q v);have c2:decide (L<=y)=true:=Q1 v;have Q:Sort.breakStep a L M (r,c) (a+L / 4*2 - 1+m)=(Sort.xorNext r,Sort.swp c (a+L / 4*2 - 1+m) (a+(y - L))):=by
     unfold Sort.breakStep;dsimp only;rw[hx,S,Qf v]
    have u:a+L / 4*2 - 1+m<d.size:=ω;have p:a+(y - L)<d.size:=ω;have J:IntKind.i64.wrap ((a:Int)+((y - L):Nat))=((a+(y - L):Nat):Int):=ZK;simp only[go_sem,c2,K];refine Ga (⟨[(0,.ref lo g 0 d.size),(1,Qb a),(6,Qb L),(7,.ptr H.length 0 0 0),(8,u64 M),(9,Qb (a+L / 4*2 - 1+m:Nat))],H.set lo (Zi g (Sort.swp c (a+L / 4*2 - 1+m) (a+(y - L))))++[H9 x]⟩) VK i mixed [(0,true),(1,true),(2,true),(3,true),(4,true),(6,true),(7,true),(8,true),(9,true),(10,true),(11,true),(12,true),(13,true),(14,true),(15,true),(16,true)] [5,17,18,19] τ τ (λs N=>CW N rfl ?_) ?_
    rotate_left
    .simp only[go_sem,Qa,F,j,k,u,p,J,QJ j,DT j,Qy j,JS,kN,XG,QJ (show lo<(H.set lo (Zi g c)).length by simp;exact j)];rw[kO g c _ _ _ k u p]
     repeat' refine And.intro ?_ ?_
     all_goals exact QQ
    apply Qh i;simp only[go_sem,R];refine⟨ω,_,?_,ω,rfl⟩;rw[B,Q,<- E,JS,hx];rw[<- E]at l;rw[l];exact QQ
   .have c2:decide (L<=y)=false:=QU v;have Q:Sort.breakStep a L M (r,c) (a+L / 4*2 - 1+m)=(Sort.xorNext r,Sort.swp c (a+L / 4*2 - 1+m) (a+y)):=by
     unfold Sort.breakStep;dsimp only;rw[hx,S,Qe v]
    have u:a+L / 4*2 - 1+m<d.size:=ω;have p:a+y<d.size:=ω;have J:IntKind.i64.wrap ((a:Int)+(y:Nat))=((a+y:Nat):Int):=ZK;simp only[go_sem,c2];refine Ga (⟨[(0,.ref lo g 0 d.size),(1,Qb a),(6,Qb L),(7,.ptr H.length 0 0 0),(8,u64 M),(9,Qb (a+L / 4*2 - 1+m:Nat))],H.set lo (Zi g (Sort.swp c (a+L / 4*2 - 1+m) (a+y)))++[H9 x]⟩) VK i mixed [(0,true),(1,true),(2,true),(3,true),(4,true),(6,true),(7,true),(8,true),(9,true),(10,true),(11,true),(12,true),(13,true),(14,true),(15,true),(16,true)] [5,17,18,19] τ τ (λs N=>CW N rfl ?_) ?_
    rotate_left
    .simp only[go_sem,Qa,F,j,k,u,p,J,QJ j,DT j,Qy j,JS,kN,XG,QJ (show lo<(H.set lo (Zi g c)).length by simp;exact j)];rw[kO g c _ _ _ k u p]
     repeat' refine And.intro ?_ ?_
     all_goals exact QQ
    apply Qh i;simp only[go_sem,R];refine⟨ω,_,?_,ω,rfl⟩;rw[B,Q,<- E,JS,hx];rw[<- E]at l;rw[l];exact QQ
  .obtain rfl:m=3:=ω;have P:decide (a+L / 4*2 - 1+2<=a+L / 4*2)=false:=QU ω;apply Qh i;simp only[go_sem,Qa,f0,f1,f2,f3,f5,P];try exact⟨_,rfl⟩
 .have d8:decide ((8:Int)<=(b - a:Nat))=false:=QU ω;have e:Sort.breakPatterns d a b=d:=by
   unfold Sort.breakPatterns;dsimp only;rw[Qe V]
  rw[e];refine Q3 func257 ntmps257 results257 λC w pl i=>?_;have z:=Qc ho;simp only[go_sem,Qa,ho,z,U,d8];exact⟨[],by rw[Jv];exact(xk ho).symm⟩
end
def Qig(a b):∀(n i:Nat) (d:Array Int),b - i<=n->(Sort.insOuter Qt a b i d).size=d.size
 | n,i,d,e=>by
  rw[Sort.insOuter];split
  .obtain⟨c,rfl⟩:∃c,n=c+1:=⟨n - 1,ω⟩;rw[Qig a b c _ _ ω,QhW]
  .rfl
def Qxn(d:Array Int)(a b:Nat):(Sort.insertionSort Qt d a b).size=d.size:=Qig a b _ _ d (Qs _)
def Qih(first):∀(k:Nat) (d:Array Int),(Sort.heapPop Qt first k d).size=d.size
 | 0,d=>rfl
 | k+1,d=>by rw[Sort.heapPop,Qih first k,iL,swp_size]
def Qxo(d:Array Int)(a b:Nat):(Sort.heapSort Qt d a b).size=d.size:=by rw[Sort.heapSort,Qih,QhY]
def Qxp(d:Array Int)(a b:Nat):(Sort.breakPatterns d a b).size=d.size:=by
 by_cases c:b - a >= 8
 .rw[Qid d a b c,tZ]
 .unfold Sort.breakPatterns;dsimp only;rw[Qe c]
def Qii:∀(n i j:Nat) (d:Array Int),j - i<=n->(Sort.reverseLoop i j d).size=d.size
 | n,i,j,d,b=>by
  rw[Sort.reverseLoop];split
  .obtain⟨a,rfl⟩:∃a,n=a+1:=⟨n - 1,ω⟩;rw[Qii a _ _ _ ω,swp_size]
  .rfl
def Qxq(d:Array Int)(a b:Nat):(Sort.reverseRange d a b).size=d.size:=Qii _ _ _ d (Qs _)
def Qij(a b):∀(s i:Nat) (d:Array Int),(Sort.partialIns Qt a b s i d).1.size=d.size
 | 0,i,d=>rfl
 | s+1,i,d=>by
  rw[Sort.partialIns];dsimp only;split
  .rfl
  .split
   .rfl
   .rw[Qij a b s];have e:∀c:Array Int,(if b - Sort.scanSorted Qt d b i >= 2 then Sort.shiftUp Qt b (Sort.scanSorted Qt d b i+1) c else c).size=c.size:=λc=>by
     split
     .exact Qh3 b _ _ _ (Qs _)
     .rfl
    rw[e];split
    .rw[tP,swp_size]
    .rw[swp_size]
def ua(d:Array Int)(a b p:Nat):(Sort.partitionEqual Qt d a b p).2.size=d.size:=by
 rw[Sort.partitionEqual,Qh0 a _ _ _ _ (Qs _),swp_size]
def iR(d:Array Int)(a b p:Nat):(Sort.partition Qt d a b p).2.2.size=d.size:=by
 rw[Sort.partition_arr,swp_size,Qh1 a _ _ _ _ (Qs _),swp_size]
def Qik(d:Array Int)(a b l)(c e:Bool):(Sort.rd Qt d a b l c e).d1.size=d.size/\(Sort.rd Qt d a b l c e).d2.size=d.size/\(Sort.rd Qt d a b l c e).pi.1.size=d.size:=by
 have g:(Sort.rd Qt d a b l c e).d1.size=d.size:=by
  cases c
  .exact Qxp d a b
  .rfl
 have f:(Sort.rd Qt d a b l c e).d2.size=d.size:=by
  by_cases h:(Sort.rd Qt d a b l c e).c.2=.decreasing
  .rw[(Sort.rd_dec h).1,Qxq,g]
  .rw[(Sort.rd_not h).1,g]
 refine⟨g,f,?_⟩;cases i:(c&&e&&decide ((Sort.rd Qt d a b l c e).hint=.increasing))
 .rw[Sort.rd_pi_no i,f]
 .rw[Sort.rd_pi_yes i,Sort.partialInsertionSort,Qij,f]
def Qil(a):∀(n i j:Nat) (d:Array Int),j+1 - i<=n->a<i->i<=j+1->a<(Sort.partEqLoop Qt a i j d).1/\(Sort.partEqLoop Qt a i j d).1<=j+1
 | n,i,j,d,r,t,c=>by
  have k:=iM (λx=>!Qt d[a]! x) (λx=>Qt d[a]! x) (λx=>σ) d i j ω c;obtain⟨p,f,o,m⟩:=Sort.scanUp_spec (λx=>!Qt d[a]! x) d j _ i rfl;obtain⟨v1,v2,v3,l⟩:=Sort.scanDown_spec (λx=>Qt d[a]! x) d (Sort.scanUp (λx=>!Qt d[a]! x) d j i) j;have e:=f c;rw[Sort.partEqLoop_eq];split
  .exact⟨by dsimp only;omega,e⟩
  .rename_i h;have s:=k h;have:=Sort.partEqLoop_guard Qt a i j d h;obtain⟨b,rfl⟩:∃b,n=b+1:=⟨n - 1,ω⟩;obtain⟨g,q⟩:=Qil a b _ _ (Sort.swp d (Sort.scanUp (λx=>!Qt d[a]! x) d j i) (Sort.scanDown (λx=>Qt d[a]! x) d (Sort.scanUp (λx=>!Qt d[a]! x) d j i) j)) (show (Sort.scanDown (λx=>Qt d[a]! x) d (Sort.scanUp (λx=>!Qt d[a]! x) d j i) j - 1)+1 - (Sort.scanUp (λx=>!Qt d[a]! x) d j i+1)<=b by omega) ω ω;exact⟨g,ω⟩
def Qxr(d)(a b p:Nat)(c:a<b):a<(Sort.partitionEqual Qt d a b p).1/\(Sort.partitionEqual Qt d a b p).1<=b:=by
 have:=Qil a _ (a+1) (b - 1) (Sort.swp d a p) (Qs _) ω ω;rw[Sort.partitionEqual];omega
def Qim:Sort.SWO Qt:=⟨λx=>by simp[Qt],λx y z b a=>by simp[Qt]at *;omega,λx y z b a=>by simp[Qt]at *;omega⟩
def Qxs(d:Array Int)(a b p:Nat)(f:a<=p)(e:p<b)(c:b<=d.size):a<=(Sort.partition Qt d a b p).1/\(Sort.partition Qt d a b p).1<b:=by
 have:=Sort.partition_holds Qt Qim d a b p f e c;exact⟨this.1,this.2.1⟩
def Qxt(d)(a b l)(e c:Bool)(g:a<b):a<=(Sort.rd Qt d a b l e c).pivot/\(Sort.rd Qt d a b l e c).pivot<b:=by
 have h:=Sort.choosePivot_holds Qt (Sort.rd Qt d a b l e c).d1 a b g;rw[<- Sort.rd_c]at h;by_cases f:(Sort.rd Qt d a b l e c).c.2=.decreasing
 .rw[(Sort.rd_dec f).2.1];omega
 .rw[(Sort.rd_not f).2.1];exact h
def Ia:∀(n:Nat) (d:Array Int) (a b l:Nat) (g f:Bool),b - a<=n->(Sort.pdq Qt d a b l g f).size=d.size
 | n,d,a,b,l,g,f,k=>by
  obtain⟨j,i,e⟩:=Qik d a b l g f;rw[Sort.pdq_unfold];split
  .exact Qxn d a b
  .split
   .exact Qxo d a b
   .obtain⟨c,rfl⟩:∃c,n=c+1:=⟨n - 1,ω⟩;split
    .exact e
    .split
     .split
      .rename_i h;rw[Ia c _ _ _ _ _ _ ω,ua,e]
      .rw[ua,e]
     .split
      .rename_i h;split
       .rw[Ia c _ _ _ _ _ _ ω,Ia c _ _ _ _ _ _ ω,iR,e]
       .rw[Ia c _ _ _ _ _ _ ω,Ia c _ _ _ _ _ _ ω,iR,e]
      .rw[iR,e]
def Qin(n:Nat):Prop:=∀(h:List Ob) (c g:Nat) (d:Array Int),h[c]? = some (Zi g d)->∀a b l:Nat,a<=b->b<=d.size->l<1000->d.size<1000000000->b - a<n ->
 QI prog 230 h [.ref c g 0 d.size,Qb a,Qb b,Qb l] (λf e=>f=.tup []/\∃t,e=h.set c (Zi g (Sort.pdq Qt d a b l true true))++t)
def Gf{h t:List Ob}{a}{x y}(b:a<h.length):(h.set a x++t).set a y=h.set a y++t:=by
 rw[bT _ _ (by simpa using b),JS]
def UJ{h t:List Ob}{a}{x}(b:a<h.length):(h.set a x++t)[a]? = some x:=by
 rw[JY (by simpa using b),Qy b]
def Qio(c:Sort.Hint)(k:Sort.Hint):((Gb c:Int)==(Gb k:Int))=decide (c=k):=by cases c<;>cases k<;>rfl
def Qxu(n:Nat)(IH:Qin n){h:List Ob}{j g:Nat}{d:Array Int}(ho:h[j]? = some (Zi g d))(a b l:Nat)(Vh:a<=b)(ZF:b<=d.size)(hl:l<1000)(hz:d.size<1000000000)(hn:b - a<n+1):
  QI prog 230 h [.ref j g 0 d.size,Qb a,Qb b,Qb l] (λdd h'=>dd=.tup []/\∃t,h'=h.set j (Zi g (Sort.pdq Qt d a b l true true))++t):=by
 refine Q3 func230 ntmps230 results230 λa5 w pl f=>?_;have v:=Qc ho;simp only[go_sem,Qa,ho,v];refine Js (λm y=>∃(d1:Array Int) (c e p:Nat) (i k:Bool) (t:List Ob),d1.size=d.size/\c<=e/\e<=d.size/\p<1000/\m+(e - c)<=b - a/\Sort.pdq Qt d1 c e p i k=Sort.pdq Qt d a b l true true/\y=⟨[(0,.ref j g 0 d.size),(1,Qb c),(2,Qb e),(3,Qb p),(8,QZ i),(9,QZ k)],h.set j (Zi g d1)++t⟩) (b - a) (s0:=⟨[(0,.ref j g 0 d.size),(1,Qb a),(2,Qb b),(3,Qb l),(8,QZ true),(9,QZ true)],h.set j (Zi g d)++[]⟩) ?_ ⟨d,a,b,l,true,true,[],rfl,Vh,ZF,hl,ω,rfl,rfl⟩ ?_
 .rw[xk ho,Jv];exact QQ
 rintro m _ hm ⟨d1,c,e,p,i,k,t1,T,a7,a6,ZO,gl,r,rfl⟩;have e0:IntKind.i64.wrap ((e:Int) - c)=((e - c:Nat):Int):=ZK;have Z:(h.set j (Zi g d1)++t1)[j]? = some (Zi g d1):=UJ v;rw[Sort.pdq_unfold]at r;by_cases I:e - c<=12
 .have d12:decide (((e - c:Nat):Int)<=12)=true:=Q1 ω;rw[Qf I]at r;apply Qh f;simp only[go_sem,Qa,e0,d12];refine JO f QtN (T▸QwY Z c e ω ω ω) λd h s=>?_;obtain⟨rfl,rfl⟩:=s;apply Za f;refine⟨t1,?_⟩;rw[<- r];exact Gf v
 .have d12:decide (((e - c:Nat):Int)<=12)=false:=QU ω;rw[Qe I]at r;by_cases cl:p=0
  .have dl:((p:Int)==0)=true:=by rw[cl];rfl
   rw[Qf cl]at r;apply Qh f;simp only[go_sem,Qa,e0,d12,dl];refine JO f QtO (T▸QwZ Z c e ω ω ω) λd h s=>?_;obtain⟨rfl,rfl⟩:=s;apply Za f;refine⟨t1,?_⟩;rw[<- r];exact Gf v
  .have dl:((p:Int)==0)=false:=beq_eq_false_iff_ne.mpr ω;rw[Qe cl]at r;refine LZ VK f 30 ?_;simp only[go_sem,Qa,e0,d12,dl];obtain⟨U,z2,B⟩:=Qik d1 c e p i k;have a8:=Sort.rd_lim_le (lt:=Qt) (d:=d1) (a:=c) (b:=e) (limit:=p) (wb:=i) (wp:=k);have F:=Qxt d1 c e p i k ω;rw[T]at U z2 B;first|refine YO ?_|skip
   refine iJ (λy=>∃t,y=⟨[(0,.ref j g 0 d.size),(1,Qb c),(2,Qb e),(3,Qb (Sort.rd Qt d1 c e p i k).lim),(8,QZ i),(9,QZ k),(10,Qb (e - c:Nat))],h.set j (Zi g (Sort.rd Qt d1 c e p i k).d1)++t⟩) ?_ ?_
   .cases i
    .have vl:IntKind.i64.wrap ((p:Int) - 1)=((p - 1:Nat):Int):=ZK;rw[Sort.rd_false.1,Sort.rd_false.2];apply Za f;refine VY f QtP rfl ?_ (T▸Qxm Z c e ω ω ω) rfl λd h s=>?_
     .simp only[go_sem,vl]
     obtain⟨rfl,t2,rfl⟩:=s;apply Qh f;simp only[go_sem,vl];refine⟨_,⟨t1++t2,rfl⟩,?_⟩;rw[Gf v,Wu];exact QQ
    .rw[Sort.rd_true.1,Sort.rd_true.2];apply Za f;refine⟨_,⟨t1,rfl⟩,?_⟩;exact QQ
   have hc:=Sort.rd_c (lt:=Qt) (d:=d1) (a:=c) (b:=e) (limit:=p) (wb:=i) (wp:=k);have a4:=Sort.rd_dec (lt:=Qt) (d:=d1) (a:=c) (b:=e) (limit:=p) (wb:=i) (wp:=k);have a3:=Sort.rd_not (lt:=Qt) (d:=d1) (a:=c) (b:=e) (limit:=p) (wb:=i) (wp:=k);have a2:=Sort.rd_pi_yes (lt:=Qt) (d:=d1) (a:=c) (b:=e) (limit:=p) (wb:=i) (wp:=k);have Jf:=Sort.rd_pi_no (lt:=Qt) (d:=d1) (a:=c) (b:=e) (limit:=p) (wb:=i) (wp:=k);have qE:=Sort.choosePivot_holds Qt (Sort.rd Qt d1 c e p i k).d1 c e ω;rw[<- hc]at qE;generalize Sort.rd Qt d1 c e p i k=R at *;rintro _ ⟨t2,rfl⟩;apply QM f;refine VY f QtQ rfl ?_ (U▸QwW (UJ (x:=Zi g R.d1) v) c e ω ω ω) rfl λd h s=>?_
   .simp only[go_sem,Wu]
   obtain⟨rfl,t3,rfl⟩:=s;refine LZ VK f 12 ?_;simp only[go_sem,Wu];rw[<- hc];first|refine YO ?_|skip
   refine iJ (λy=>∃t,y=⟨[(0,.ref j g 0 d.size),(1,Qb c),(2,Qb e),(3,Qb R.lim),(8,QZ i),(9,QZ k),(10,Qb (e - c:Nat)),(11,Qb R.pivot),(12,Qb (Gb R.hint:Nat))],h.set j (Zi g R.d2)++t⟩) ?_ ?_
   .by_cases S:R.c.2=.decreasing
    .obtain⟨r1,r2,r3⟩:=a4 S;have b2:((Gb R.c.2:Int)==2)=true:=by rw[S];rfl
     have v1:IntKind.i64.wrap ((e:Int) - 1)=((e - 1:Nat):Int):=ZK;have v2:IntKind.i64.wrap ((R.c.1:Int) - c)=((R.c.1 - c:Nat):Int):=ZK;have v3:IntKind.i64.wrap (((e - 1:Nat):Int) - (R.c.1 - c:Nat))=(((e - 1) - (R.c.1 - c):Nat):Int):=ZK;apply Qh f;simp only[go_sem,b2];refine VY f QtR rfl ?_ (U▸QwX (UJ (x:=Zi g R.d1) v) c e ω ω ω) rfl λd h s=>?_
     .simp only[go_sem,v1,v2,v3]
     obtain⟨rfl,rfl⟩:=s;apply Qh f;simp only[go_sem,v1,v2,v3];rw[r1,r2,r3];refine⟨_,⟨t2++t3,rfl⟩,?_⟩;rw[Gf v];exact QH.frame (by simp only[go_sem];first|rfl|exact⟨rfl,rfl⟩)
    .obtain⟨r1,r2,r3⟩:=a3 S;have b2:((Gb R.c.2:Int)==2)=false:=by rw[show (2:Int)=(Gb .decreasing:Int) from rfl,Qio];exact QU S
     apply Qh f;simp only[go_sem,b2];rw[r1,r2,r3];refine⟨_,⟨t2++t3,rfl⟩,?_⟩;exact QQ
   rintro _ ⟨t4,rfl⟩;refine YO ?_;first|refine YO ?_|skip
   refine rI (⟨[(0,.ref j g 0 d.size),(1,Qb c),(2,Qb e),(3,Qb R.lim),(8,QZ i),(9,QZ k),(10,Qb (e - c:Nat)),(11,Qb R.pivot),(12,Qb (Gb R.hint:Nat)),(68,QZ (i&&k&&decide (R.hint=.increasing)))],h.set j (Zi g R.d2)++t4⟩) ?_ ?_
   .cases i
    .apply QM f;exact QH.frame (by simp only[go_sem,Lg])
    .cases k
     .apply QM f;exact QH.frame (by simp only[go_sem,Lg,NL])
     .have dL:((Gb R.hint:Int)==1)=decide (R.hint=.increasing):=Qio R.hint .increasing;apply Qh f;simp only[go_sem,Qa,dL];exact QH.frame (by simp only[go_sem,Lg,NL])
   first|refine YO ?_|skip
   refine iJ (λy=>R.pi.2=false/\∃t,y=⟨[(0,.ref j g 0 d.size),(1,Qb c),(2,Qb e),(3,Qb R.lim),(8,QZ i),(9,QZ k),(10,Qb (e - c:Nat)),(11,Qb R.pivot)],h.set j (Zi g R.pi.1)++t⟩) ?_ ?_
   .cases z:(i&&k&&decide (R.hint=.increasing))
    .have hp:=Jf z;apply Za f;rw[hp];refine⟨_,⟨rfl,t4,rfl⟩,?_⟩;exact QQ
    .have hp:=a2 z;apply Za f;refine JO f QtS (z2▸Qxg (UJ (x:=Zi g R.d2) v) c e ω ω ω) λd h s=>?_;obtain⟨rfl,rfl⟩:=s;apply Za f;rw[<- hp];cases ZW:R.pi.2
     .simp only[go_sem];refine⟨_,⟨t4,rfl⟩,?_⟩;rw[Gf v];exact QQ
     .rw[Qf ZW]at r;simp only[go_sem];refine⟨t4,?_⟩;rw[<- r];exact Gf v
   rintro _ ⟨a0,t5,rfl⟩;rw[Qe (by rw[a0];decide)]at r;generalize hD:R.pi.1=u at *;have C:(h.set j (Zi g u)++t5)[j]? = some (Zi g u):=UJ v;generalize Y:h.set j (Zi g u)++t5=HD at C;have W:=Qc C;have p2:R.pivot<d.size:=ω;have f1:c > 0->IntKind.i64.wrap ((c:Int) - 1)=((c - 1:Nat):Int):=λq=>by exact ZK
   have p1:c - 1<d.size:=ω;refine YO ?_;first|refine YO ?_|skip
   refine y7 [0,1,2,3,8,9,10,11] [(87,QZ (decide (c > 0)&&!Qt u[c - 1]! u[R.pivot]!))] rfl ?_ ?_
   .by_cases ca:c > 0
    .have da:decide ((0:Int)<(c:Int))=true:=Q1 ω;have f2:=f1 ca;apply QB f Id;simp only[go_sem,Qa,C,W,B,da,f2,p1,p2];apply VR f kx (xj u[c - 1]! u[R.pivot]!);apply WY f;exact QH.frame (by simp only[go_sem,Q1 ca,NL])
    .have da:decide ((0:Int)<(c:Int))=false:=QU ω;apply QB f Id;simp only[go_sem,Qa,C,W,B,da];exact QH.frame (by simp only[go_sem,QU ca,Lg])
   cases z:(decide (c > 0)&&!Qt u[c - 1]! u[R.pivot]!)
   .rw[z,Qe π]at r;have hr:=Qxs u c e R.pivot F.1 F.2 ω;have JQ:=iR u c e R.pivot;rw[Qf hr]at r;apply Qh f;simp only[go_sem,Qa,z];refine JO f QtU (B▸Qw6 C c e R.pivot ω ω F.1 F.2 ω) λd h s=>?_;obtain⟨rfl,rfl⟩:=s;apply Za f;generalize Sort.partition Qt u c e R.pivot=pt at *;obtain⟨o,K,E⟩:=pt;dsimp only at *;have O:IntKind.i64.wrap ((o:Int) - c)=((o - c:Nat):Int):=ZK;have N:IntKind.i64.wrap ((e:Int) - o)=((e - o:Nat):Int):=ZK;have M:((e - c:Nat):Int).tdiv 8=(((e - c) / 8:Nat):Int):=rfl;have L:IntKind.i64.wrap ((((e - c) / 8:Nat):Int))=(((e - c) / 8:Nat):Int):=by rw[wrap64 ω ω]
    have k5:IntKind.i64.wrap ((o:Int)+1)=((o+1:Nat):Int):=ZK;have Q:E.size=d.size:=by rw[JQ,B]
    have J:(HD.set j (Zi g E))[j]? = some (Zi g E):=Qy W;by_cases P:o - c<e - o
    .have H:decide (o - c<e - o)=true:=Q1 P;rw[Qf P]at r;simp only[go_sem,O,N,M,L,H];apply Qh f;simp only[go_sem,O,N,M,L,H];refine VY f rh rfl ?_ (Q▸IH _ j g E J c o R.lim ω ω ω ω ω) rfl λd h s=>?_
     .simp only[go_sem,k5]
     obtain⟨rfl,t6,rfl⟩:=s;apply Qh f;simp only[go_sem,k5];have V:=Ia _ E c o R.lim true true (Qs _);refine⟨ω,_,?_,Sort.pdq Qt E c o R.lim true true,o+1,e,R.lim,decide ((e - c) / 8<=o - c),K,t5++t6,by rw[V,Q],ω,ω,ω,ω,r,rfl⟩;rw[JS,<- Y,Gf v,Wu];exact QQ
    .have H:decide (o - c<e - o)=false:=QU P;rw[Qe P]at r;simp only[go_sem,O,N,M,L,H];apply Qh f;simp only[go_sem,O,N,M,L,k5,H];refine JO f rh (Q▸IH _ j g E J (o+1) e R.lim ω ω ω ω ω) λd h s=>?_;obtain⟨rfl,t6,rfl⟩:=s;apply Za f;have V:=Ia _ E (o+1) e R.lim true true (Qs _);refine⟨ω,_,?_,Sort.pdq Qt E (o+1) e R.lim true true,c,o,R.lim,decide ((e - c) / 8<=e - o),K,t5++t6,by rw[V,Q],ω,ω,ω,ω,r,rfl⟩;rw[JS,<- Y,Gf v,Wu];exact QQ
   .rw[z,Qf rfl]at r;have hr:=Qxr u c e R.pivot ω;have JQ:=ua u c e R.pivot;rw[Qf hr]at r;apply Qh f;simp only[go_sem,Qa,z];refine JO f QtT (B▸Qw0 C c e R.pivot ω ω F.1 F.2 ω) λd h s=>?_;obtain⟨rfl,rfl⟩:=s;apply Za f;refine⟨ω,_,?_,(Sort.partitionEqual Qt u c e R.pivot).2,(Sort.partitionEqual Qt u c e R.pivot).1,e,R.lim,i,k,t5,ω,ω,ω,ω,ω,r,rfl⟩;rw[<- Y,Gf v];exact QQ
def Qis:∀n,Qin n
 | 0=>λ_ _ _ _ _ _ _ _ _ _ _ _ c=>absurd c (Xc _)
 | n+1=>λh k g d e a b l j i f hz c=>Qxu n (Qis n) e a b l j i f hz c
def Qxz(n)(h:n<1000000000):Sort.bitsLen n<=30:=(Sort.bitsLen_le_iff n 30).2 ω
def QxA{h:List Ob}{lo g}{d:Array Int}(b:h[lo]? = some (Zi g d))(c:d.size<1000000000):
  QI prog 180 h [.ref lo g 0 d.size] (λk j=>k=.tup []/\∃t,j=h.set lo (Zi g (Sort.sort Qt d))++t):=by
 have n:=Qxz _ c;have f:IntKind.u64.wrap (d.size:Int)=d.size:=κ;refine Q3 func180 ntmps180 results180 λe w m a=>?_;have l:=Qc b;simp only[go_sem,Qa,b,l,f];apply JW a QfH (cP d.size ω);apply Za a;refine JO a rh (Qis (d.size+1) h lo g d b 0 d.size (Sort.bitsLen d.size) (Z9 _) (Qs _) ω c ω) λd h i=>?_;obtain⟨rfl,t,rfl⟩:=i;apply Za a;exact⟨t,rfl⟩
def cN(f:Nat->Int):Nat->List Int
 | 0=>[]
 | n+1=>if n≠0/\f n=f (n - 1) then cN f n else cN f n++[f n]
def PQ(f):∀n,(cN f n).length<=n
 | 0=>Qs _
 | n+1=>by
  have:=PQ f n;rw[cN];split
  .omega
  .simp;omega
def uf(f)(x):∀n,x∈cN f n↔∃i,i<n/\f i=x
 | 0=>by simp[cN]
 | n+1=>by
  have d:=uf f x n;rw[cN];split
  .rename_i c;rw[d];constructor
   .rintro⟨i,b,a⟩;exact⟨i,ω,a⟩
   .rintro⟨i,b,a⟩;by_cases e:i=n
    .subst e;exact⟨i - 1,ω,by rw[<- c.2];exact a⟩
    .exact⟨i,ω,a⟩
  .rw[QX,d];simp only[Xq];constructor
   .rintro (⟨i,b,a⟩|h)
    .exact⟨i,ω,a⟩
    .exact⟨n,ω,h.symm⟩
   .rintro⟨i,b,a⟩;by_cases e:i=n
    .subst e;exact Or.inr a.symm
    .exact Or.inl ⟨i,ω,a⟩
def MS(f):∀n,(cN f n).length=n->∀i,i<n->(cN f n).getD i 0=f i
 | 0,_,i,a=>absurd a (Xc _)
 | n+1,h,i,a=>by
  have b:=PQ f n;rw[cN]at h ⊢;split at h
  .omega
  .rename_i c;rw[Qe c];simp at h;by_cases e:i=n
   .subst e;rw[Q7,Kw ω,h,YJ];rfl
   .rw[Q7,JY ω,<- Q7];exact MS f n h i ω
def QxB(g)(d:Array Int)(i n)(x)(c:d.size=n)(e:i<n):
  (⟨.arr,g,1,n,λk=>bif k==i then [.raw (.int .u64 x)] else [.raw (.int .u64 d[k]!)]⟩:Ob)=Zi g (d.setIfInBounds i x):=by
 subst c;unfold Zi;congr 1
 .simp
 .funext k;unfold CX uI;by_cases a:k=i
  .subst a;simp[e]
  .have f:(k==i)=false:=beq_eq_false_iff_ne.mpr a;rw[f];by_cases b:k<d.size
   .simp[a,b,Q8 a,nR]
   .simp[a,b]
def QxC{h:List Ob}{lo g}{d:Array Int}(a:h[lo]? = some (Zi g d))(hz:d.size<1000000000):
  QI prog 181 h [.ref lo g 0 d.size] (λdd h'=>dd=.ref lo g 0 (cN (λi=>d[i]!) d.size).length/\∃q,h'=h.set lo ⟨.arr,g,1,d.size,q⟩/\(∀i,i<(cN (λi=>d[i]!) d.size).length->q i=[uI ((cN (λi=>d[i]!) d.size).getD i 0)])/\∀i,∃x,q i=[uI x]):=by
 by_cases c2:d.size<2
 .have J:decide ((d.size:Int)<2)=true:=Q1 ω;have o:(cN (λi=>d[i]!) d.size).length=d.size:=by
   have:d.size=0\/d.size=1:=ω;rcases this with h0|h0<;>rw[h0]<;>rfl
  rw[o];refine Q3 func181 ntmps181 results181 λs w pl b=>?_;have n:=Qc a;simp only[go_sem,Qa,a,n,J];exact⟨CX d,(xk a).symm,λi c=>by rw[MS _ _ o i c];rfl,λi=>⟨_,rfl⟩⟩
 .have J:decide ((d.size:Int)<2)=false:=QU ω;refine Q3 func181 ntmps181 results181 λs w pl b=>?_;have n:=Qc a;simp only[go_sem,Qa,a,n,J];refine Js (λk B=>k+1<=d.size/\(cN (λi=>d[i]!) (k+1)).length=k+1/\B=⟨[(0,.ref lo g 0 d.size),(3,Qb (k+1:Nat))],h⟩) d.size (s0:=⟨[(0,.ref lo g 0 d.size),(3,Qb (0+1:Nat))],h⟩) QQ ⟨ω,rfl,rfl⟩ ?_;rintro k _ hk ⟨Qr,r,rfl⟩;by_cases K:k+1<d.size
  .have I:decide (k+1<d.size)=true:=Q1 K;have v1:IntKind.i64.wrap (((k+1:Nat):Int) - 1)=((k:Nat):Int):=ZK;have v2:IntKind.i64.wrap (((k+1:Nat):Int)+1)=((k+1+1:Nat):Int):=ZK;have p0:k<d.size:=ω;apply Qh b;simp only[go_sem,Qa,a,n,I];apply QB b o00;simp only[go_sem,Qa,a,n,v1,K,p0];by_cases zJ:d[k+1]! = d[k]!
   .have M:(d[k+1]! == d[k]!)=true:=beq_iff_eq.mpr zJ;have U:(cN (λi=>d[i]!) (k+1+1)).length=k+1:=by
     rw[cN,Qf ⟨ω,by simpa using zJ⟩,r]
    have q0:k+1<=d.size:=ω;generalize hN:d.size - (k+1)=N;have v3:((d.size:Int) - ((k+1:Nat):Int)).toNat=N:=ω;simp only[go_sem,M,q0,hN,Qa,a,n,v3];refine Js (λm B=>∃(d1:Array Int),d1.size=d.size/\m+1<=N/\(cN (λi=>d[i]!) (k+1+(m+1))).length<=k+1+m/\(∀i,i<(cN (λi=>d[i]!) (k+1+(m+1))).length->d1[i]! = (cN (λi=>d[i]!) (k+1+(m+1))).getD i 0)/\(∀j,(cN (λi=>d[i]!) (k+1+(m+1))).length<=j->d1[j]! = d[j]!)/\B=⟨[(0,.ref lo g 0 d.size),(3,Qb (cN (λi=>d[i]!) (k+1+(m+1))).length),(4,.ref lo g (k+1) N),(5,Qb (m+1:Nat))],h.set lo (Zi g d1)⟩) N (s0:=⟨[(0,.ref lo g 0 d.size),(3,Qb (cN (λi=>d[i]!) (k+1+(0+1))).length),(4,.ref lo g (k+1) N),(5,Qb (0+1:Nat))],h.set lo (Zi g d)⟩) ?_ ⟨d,rfl,ω,Nat.le_of_eq U,λi c=>?_,λj R=>rfl,rfl⟩ ?_
    .rw[xk a,U];exact QQ
    .rw[cN,Qf ⟨ω,by simpa using zJ⟩]at c ⊢;exact(MS _ _ r i ω).symm
    rintro m _ hm ⟨d1,l,a0,T7,L,y,rfl⟩;have f:=vS (g:=g) (d:=d1) n;have v:cN (λi=>d[i]!) (k+1+(m+1+1))=if d[k+1+(m+1)]! = d[k+1+m]! then cN (λi=>d[i]!) (k+1+(m+1)) else cN (λi=>d[i]!) (k+1+(m+1))++[d[k+1+(m+1)]!]:=by
     rw[show k+1+(m+1+1)=(k+1+(m+1))+1 by omega,cN];simp
    generalize S:cN (λi=>d[i]!) (k+1+(m+1))=C at *;generalize F:h.set lo (Zi g d1)=H at f;have p:=Qc f;by_cases u:m+1<N
    .have em:decide (m+1<N)=true:=Q1 u;have Q:=y (k+1+(m+1)) ω;have r2:=y (k+1+m) ω;have P:k+1+(m+1)<d.size:=ω;have u2:k+1+m<d.size:=ω;have Z:m<N:=ω;have W:IntKind.i64.wrap (((m+1:Nat):Int) - 1)=(m:Int):=ZK;have O:IntKind.i64.wrap (((m+1:Nat):Int)+1)=((m+1+1:Nat):Int):=ZK;have V:IntKind.i64.wrap ((C.length:Int)+1)=((C.length+1:Nat):Int):=ZK;apply Qh b;simp only[go_sem,Qa,f,p,em];apply QB b o00;simp only[go_sem,Qa,f,p,l,W,u,P,u2,Z,Q,r2];by_cases t:d[k+1+(m+1)]! = d[k+1+m]!
     .have E:(d[k+1+(m+1)]! != d[k+1+m]!)=false:=by rw[t];exact bne_self_eq_false _
      rw[Qf t]at v;simp only[go_sem,E,O];rw[v];refine⟨ω,_,?_,d1,l,ω,ω,L,y,rfl⟩;rw[<- F];exact QQ
     .have E:(d[k+1+(m+1)]! != d[k+1+m]!)=true:=bne_iff_ne.mpr t;have z:C.length<d.size:=ω;rw[Qe t]at v;simp only[go_sem,E,O,V,Qa,f,p,l,P,u,z,Q];rw[QxB g d1 _ _ _ l z,v];refine⟨ω,_,?_,d1.setIfInBounds C.length d[k+1+(m+1)]!,by simp;exact l,ω,ξ,λi c=>?_,λj R=>?_,rfl⟩
      .rw[<- F,JS,ZT,qT];exact QQ
      .simp only[ZT,qT]at c;by_cases e:i=C.length
       .subst e;rw[Q7,Kw (Qs _),YJ];simp[l,z]
       .rw[Q7,JY ω,<- Q7,<- L i ω];simp[Q8 e,NJ,yH,AN]
      .simp only[ZT,qT]at R;rw[<- y j ω];simp[show C.length≠j by omega,NJ,yH,AN]
    .have em:decide (m+1<N)=false:=QU u;have Y:k+1+(m+1)=d.size:=ω;rw[Y]at S;rw[S];have T:C.length<=d.size:=ω;have g2:((d.size:Int) - (C.length:Int)).toNat=d.size - C.length:=ω;apply Qh b;simp only[go_sem,Qa,f,p,em];apply Qh b;simp only[go_sem,Qa,f,p,l,T,g2];refine rC CH b rfl f rfl rfl rfl rfl (by dsimp only[Zi];omega) rfl rfl rfl rfl ?_;apply Qh b;simp only[go_sem,Qa,Qy p,p,l,T];refine⟨σ,q8 C.length (d.size - C.length) [D.raw (.int .u64 0)] (CX d1),?_,λi c=>?_,λi=>?_⟩
     .rw[<- F,JS]
     .rw[rA c];show [uI d1[i]!]=_;rw[L i c];rfl
     .unfold q8;cases Nat.ble C.length i&&Nat.blt i (C.length+(d.size - C.length))
      .exact⟨d1[i]!,rfl⟩
      .exact⟨0,rfl⟩
   .have M:(d[k+1]! == d[k]!)=false:=beq_eq_false_iff_ne.mpr zJ;simp only[go_sem,M,v2];refine⟨ω,_,?_,ω,?_,rfl⟩
    .exact QQ
    .rw[cN,Qe (by simpa using zJ)];simp[r]
  .have I:decide (k+1<d.size)=false:=QU K;obtain J1:k+1=d.size:=ω;rw[J1]at r;apply Qh b;simp only[go_sem,Qa,a,n,I];apply Za b;rw[r];exact⟨rfl,CX d,(xk a).symm,λi c=>by rw[MS _ _ r i c];rfl,λi=>⟨_,rfl⟩⟩
def Gj:IntKind.i64.wrap 1=1:=π
def Eu:IntKind.i64.wrap 0=0:=π
def Qit(F:List Ob)(f a:Nat)(b:List D)(g:Nc->Bool):Prop:=∀(h:List Ob) (c:Nc),VE F h->Zf prog f h (Jm a b [Ej c]) (λd=>d=QZ (g c))
def MV(g:Nc->Bool)(l:List Nc):Int:=match l.findIdx? g with
 | some i=>i
 | none=>-1
def QxE{g}{l:List Nc}{k}(a:k<l.length)(h:∀i,i<k->g (l.getD i default)=false)(c:g (l.getD k default)=true):MV g l=k:=by
 have e:l.findIdx? g=some k:=by
  rw[GN];refine⟨a,by simpa[Q7,a] using c,λi b=>?_⟩;have:=h i b;simpa[Q7,show i<l.length by omega] using this
 rw[MV,e]
def QxF{g}{l:List Nc}(h:∀i,i<l.length->g (l.getD i default)=false):MV g l=-1:=by
 have e:l.findIdx? g=none:=by
  rw[Li];intro x hx;obtain⟨i,a,rfl⟩:=AQ hx;have:=h i a;simpa[Q7,a] using this
 rw[MV,e]
def QxG(g)(l:List Nc):decide (0<=MV g l)=l.any g:=by
 unfold MV;cases h:l.findIdx? g with
 | some i=>
  obtain⟨b,a,_⟩:=GN.1 h;have e:l.any g=true:=Dv.2 ⟨_,zF b,a⟩;rw[e];simp
 | none=>
  have:=Li.1 h;have e:l.any g=false:=by rw[bD];intro x hx;simp[this x hx]
  rw[e];decide
section
variable (h:List Ob)(l:List Nc)(hlen:l.length<1048576)
include hlen
theorem QxH(b:D)(f j:Nat)(p:List D)(t:Qn prog f)(z:JU b=some (f,j,p))(e:Nc->Bool)(r:Qit (h.map Ob.ro) f j p e):
  Zf prog 231 h [Yl l,b] (λd=>d=Qb (MV e l)):=by
 refine ZD func231 ntmps231 results231 λq w B F v C c=>?_;simp only[go_sem,Qa];refine Js (λk s=>(∀i,i<k->e (l.getD i default)=false)/\s=⟨[(0,Yl l),(1,b),(7,Qb l.length),(8,Qb k)],F⟩) l.length QQ ⟨λi o=>absurd o ω,rfl⟩ ?_;rintro k s n ⟨g,rfl⟩;apply QM c;have y:=Vl (show k<4611686018427387904 from ω);first|refine yX n (λa=>?_) (λa=>?_)|refine yY n (λa=>?_) (λa=>?_)
 .simp only[go_sem,Qa,a];refine X0 c t z ?_ (r F (l.getD k default) (by rw[<- v];exact VE.refl F)) rfl λd2 u=>?_
  .simp only[go_sem];exact DZ _
  subst u;apply Qh c;cases m:e (l.getD k default)
  .simp only[go_sem,Qa];refine⟨a,_,QH.frame (fr':=[(0,Yl l),(1,b),(7,Qb l.length),(8,Qb (k+1:Nat))]) (by simp only[go_sem,y]),λi o=>?_,rfl⟩;by_cases x:i<k
   .exact g i x
   .have:i=k:=ω;subst this;exact m
  .rw[QxE a g m];simp only[go_sem,Qa];exact⟨[],(Jv F).symm⟩
 .have a:k=l.length:=ω;subst a;simp only[go_sem,B6];rw[QxF g];apply QM c;exact⟨[],(Jv F).symm⟩
theorem QxI(a:D)(f b:Nat)(e:List D)(k:Qn prog f)(q:JU a=some (f,b,e))(c:Nc->Bool)(j:Qit (h.map Ob.ro) f b e c):
  Zf prog 183 h [Yl l,a] (λd=>d=QZ (l.any c)):=by
 rw[<- QxG];refine ZD func183 ntmps183 results183 λi w r F o s g=>?_;simp only[go_sem,Qa];refine X0 g QtG rfl ?_ (QxH F l hlen a f b e k q c (λp n hx=>?_)) rfl λd2 m=>?_
 .simp only[go_sem];exact HG a
 .rw[o,rS]at hx;exact j p n hx
 subst m;apply QM g;exact⟨[],(Jv F).symm⟩
end
def QxJ(h)(c:Nc):Zf prog 184 h [Ej c] (λd=>d=QZ (c.of==0)):=by
 refine ZD func184 ntmps184 results184 λb w e F f g a=>?_;simp only[go_sem,Qa];apply qy a Mf (iw c.a c.d c.b);apply QM a;refine⟨_,rfl,?_⟩;simp only[bne,Bool.not_not];rfl
def Qiu(l:List Nc):Bool:=l.any λc=>c.of==0
def BD(t:Int)(l:List Nc):Int:=if t<1\/65536<t then 1 else if Qiu l=true then 21 else 0
def iU(t)(l:List Nc)(f:l.length<1048576):Q9 prog 140 [Qb t,Yl l] (Zp (Qb (BD t l))):=by
 have a:=QxI [] l f (.raw (.func (.func 184) ⟨[]⟩ ⟨[]⟩)) 184 0 [] Qtv rfl (λc=>c.of==0) (λi c _=>QxJ i c);rw[show (l.any λc=>c.of==0)=Qiu l from rfl]at a;refine ZH 0 func140 ntmps140 results140 λe w b=>?_;simp only[go_sem]
 repeat' (first|((first|refine FF (λh=>?_) (λh=>?_)|refine FG (λh=>?_) (λh=>?_)|refine FH (λh=>?_) (λh=>?_)|refine q7 (λh=>?_) (λh=>?_)|refine FI (λh=>?_) (λh=>?_)|refine FJ (λh=>?_) (λh=>?_)|refine FK (λh=>?_) (λh=>?_)|refine FC (λh=>?_) (λh=>?_))<;>(try simp only[go_sem,Go.undef]))|(refine And.intro η ?_;try simp only[go_sem,Go.undef])|(refine X0 b Qtu rfl ?_ (a) rfl ?_;(· simp only[go_sem,Qa,Go.undef]);intro d g;subst g;apply Qh b;simp only[go_sem,Qa,Go.undef])|fail)
 all_goals (congr 2;unfold BD;simp_all;try omega)
end Go.Fg.X
namespace Go.Fg.X
open Go.Proofs Go.Fg
open Go.RowKit (Below)
open Go.Proofs.Tryz
def Zo.nil{Z}{a}{w}:Zo Z a [] [] w:=⟨rfl,λl f b q d c g=>by simp at c,λl o e=>by simp at e,λl o b q e=>by simp at e⟩
def QxK{P}{f}{j}{R}(r:D)(C:r.upto 0=true)
  (U:∀d u,R d u->Ky 6 d r\/∃c g m n a,u[c]? = some ⟨.arr,g,m,n,a⟩/\(∀i,i<n->(a i).all D.ko=true)/\Ky 6 (D.fz c g n m a d) r) (h:Q9 P f j R):Q9 P f j (Zp r):=by
 intro Z s w O M h1 J I S V;have Zn:O=[]:=by have:=I.len;simpa using this
 subst Zn;refine(h Z s w [] M h1 J I S V).mono λe L T=>?_;obtain⟨v,d,u,K,rfl,W,x,F,H,Y⟩:=T;suffices z:QF Z [] [] L r v by
  exact⟨v,_,[],[],rfl,⟨rfl,rfl⟩,Zo.nil,z,⟨λb E Qc=>⟨E,(H.Kl b E Qc).2⟩,λl o p e=>by simp at e,λl o B b q e=>by simp at e⟩,Y⟩
 rcases U _ _ W with k|⟨c,g,m,n,a,y,Z1,k⟩
 .exact(xW 6 k F).take C
 have Qc:c<K.length:=by rw[x.len];exact(Xa.1 y).1
 obtain⟨p,t⟩:∃p,K[c]? = some p:=⟨_,QT Qc⟩;have Pq:=F.fz (l:=c) (o:=⟨.arr,g,m,n,a⟩) (p:=p) y t rfl (λb q e=>by
  subst e;refine⟨J b ?_,λQ q' e'=>?_,(x.at_ c _ b q y t).2.cells rfl⟩
  .rcases B7 b w.heap.size with Qc|N
   .exact absurd t ((H.Kl b (λi q e=>by simp at e) Qc).1 c q)
   .exact N
  .exact x.inj _ _ _ _ _ e' t) Z1 (h':=u.set c (Ob.gone ⟨.arr,g,m,n,a⟩)) (λQ B QE e=>by
  exact⟨B,by rw[JZ (Q8 QE)];exact e,rfl,rfl,rfl⟩)
 exact(xW 6 k Pq).take C
end Go.Fg.X
namespace Go.Fg
def Kd.Qiw(k:Kd):k.S3 k:=by cases k<;>simp[Kd.S3,Kd.ty]
def Qix(o):Oo o o:=⟨rfl,rfl,rfl,Kd.Qiw _,λ_ _=>rfl⟩
def Qiy:∀h:List Ob,Cs h h
 | []=>trivial
 | o::r=>⟨Qix o,Qiy r⟩
def Qiz:∀{h:List Ob} {l:Nat} {o:Ob} (a:Nat->List D),h[l]? = some o->(∀i,i<o.n->o.row i=a i)->Cs h (h.set l ⟨o.kd,o.gen,o.sz,o.n,a⟩)
 | [],l,o,a,e,_=>by simp at e
 | x::r,0,o,a,e,b=>by
  simp only[List.getElem?_cons_zero,Q4]at e;subst e;exact⟨⟨rfl,rfl,rfl,Kd.Qiw _,λi c=>(b i c).symm⟩,Qiy r⟩
 | x::r,l+1,o,a,e,b=>⟨Qix x,Qiz (h:=r) a (by simpa using e) b⟩
def QH.rows{w0}{fr}{h:List Ob}(l){o:Ob}(a)(b:h[l]? = some o)(c:∀i,i<o.n->o.row i=a i):QH w0 ⟨fr,h⟩ ⟨fr,h.set l ⟨o.kd,o.gen,o.sz,o.n,a⟩⟩:=(Wk.Ho (Qiz a b c)).up
end Go.Fg
namespace Go.Fg.X
open Go.Proofs Go.Fg
open Go.Proofs.Tryz
def qb(c:Nc):Bool:=c.of==3 || c.of==4
def Xz(l:List Nc):List Int:=(l.filter qb).map λc=>(c.d:Int)
def QxL(l:List Nc)(i)(h:i<l.length):Xz (l.take (i+1))=if qb (l.getD i default)=true then Xz (l.take i)++[((l.getD i default).d:Int)] else Xz (l.take i):=by
 unfold Xz;rw[GR,QT h];simp only[Option.toList_some,Se,Q7,QT h,Vn,jZ];by_cases a:qb l[i]=true
 .rw[Qf a,Sg a];rfl
 .rw[Qe a,Sf a];simp
def uh(l:List Nc)(i):(Xz (l.take i)).length<=i:=by
 have:=qS qb (l.take i);simp only[Xz,KK];simp at this;omega
def kQ(l:List Nc):Array Int:=Sort.sort Qt (Xz l).toArray
def Xm(l:List Nc):List Int:=cN (λi=>(kQ l)[i]!) (kQ l).size
def ui(l:List Nc):(kQ l).size=(Xz l).length:=by
 unfold kQ Sort.sort;rw[Ia _ _ _ _ _ _ _ (Qs _)];rfl
def QxM(l:List Nc):(kQ l).toList.Perm (Xz l):=by
 have h:=(Sort.sort_sorts Qt Qim (Xz l).toArray).1.2.2;have a:((Sort.sort Qt (Xz l).toArray).extract 0 (Xz l).toArray.size).toList=(kQ l).toList:=by
  have:=ui l;unfold kQ at this ⊢;rw[show (Xz l).toArray.size=(Sort.sort Qt (Xz l).toArray).size from this.symm];simp
 rw[a]at h;simpa using h
def QiA(l)(x):x∈Xm l↔∃c,c∈l/\qb c=true/\(c.d:Int)=x:=by
 unfold Xm;rw[uf];have d:(∃i,i<(kQ l).size/\(kQ l)[i]! = x)↔x∈(kQ l).toList:=by
  rw[NQ];constructor
  .rintro⟨i,a,e⟩;exact⟨i,by simpa using a,by rw[<- e,NJ,yH,jV a];simp⟩
  .rintro⟨i,a,e⟩;have b:i<(kQ l).size:=by simpa using a
   exact⟨i,b,by rw[<- e,NJ,yH,jV b];simp⟩
 rw[d,(QxM l).mem_iff];simp[Xz,and_assoc]
@[go_sem] def PR(K:List Int):D:=.imm 1 K.length λi=>[uI (K.getD i 0)]
def QxN{M:List Int}{a}(c:Ah (λn:Int=>[uI n]) M 0 a):∀i,i<M.length->a i=CX M.toArray i:=λi b=>by
 have:=c.at_ i b;rw[JM]at this;rw[this];unfold CX;simp[Q7,QT b,b]
def QxO(l:List Nc)(T:l.length<1048576):Q9 prog 138 [Yl l] (Zp (PR (Xm l))):=by
 refine QxK (PR (Xm l)) rfl (?_:∀d F,(∃g n b,d=.ref 0 g 0 (Xm l).length/\F=[⟨.arr,g,1,n,b⟩]/\(∀i,i<n->(b i).all D.ko=true)/\(Xm l).length<=n/\∀i,i<(Xm l).length->b i=[uI ((Xm l).getD i 0)])->_) ?_
 .rintro d F ⟨g,n,b,rfl,rfl,C,O,ZN⟩;right;refine⟨0,g,1,n,b,rfl,C,?_⟩;have Q:D.fz 0 g n 1 b (.ref 0 g 0 (Xm l).length)=.imm 1 (Xm l).length (rowFrom 0 b):=by simp[D.fz,eX,O]
  rw[Q];simp only[PR];rw[fq];refine⟨rfl,rfl,λi k=>?_⟩;rw[Tp,JM,ZN i k];exact Md (Hu _) _
 refine ZH 1 func138 ntmps138 results138 λL w f=>?_;simp only[go_sem];refine Js (λi s=>∃g b,Ah (λn:Int=>[uI n]) (Xz (l.take i)) 0 b/\s=⟨[(3,.ref 0 g 0 (Xz (l.take i)).length),(7,Yl l),(8,Qb l.length),(9,Qb i)],[⟨.arr,g,1,(Xz (l.take i)).length,b⟩]⟩) l.length
  (s0:=⟨[(3,.ref 0 0 0 0),(7,Yl l),(8,Qb l.length),(9,Qb 0)],[⟨.arr,0,1,0,λ_=>[]⟩]⟩)
  (QH.trans (QH.Dx 3 1 (λi=>[]) rfl) QQ) ⟨0,λ_=>[],.nil,rfl⟩ ?_
 rintro i s k ⟨g,b,o,rfl⟩;have C:=uh l i;have B:=Vl (show i<4611686018427387904 from ω);apply Za f;first|refine yX k (λr=>?_) (λr=>?_)|refine yY k (λr=>?_) (λr=>?_)
 .obtain⟨M,I⟩:∃M,M=Xz (l.take i):=⟨_,rfl⟩;obtain⟨e,H⟩:∃e,e=l.getD i default:=⟨_,rfl⟩;have c:=QxL l i r;rw[<- I,<- H]at c;rw[<- I]at o C ⊢;have K:M.length<=4294967295:=ω;have y:Ah (λn:Int=>[uI n]) (M++[(e.d:Int)]) 0 (KB M.length 0 b λ_=>[uI e.d]):=o.app (e.d:Int) rfl;simp only[go_sem,r,<- H];apply JW f DU (PC e.a e.d e.b);apply Za f;cases p:J5 e.a e.d e.b==3
  .cases u:J5 e.a e.d e.b==4
   .have f:qb e=false:=by show (J5 e.a e.d e.b==3 || J5 e.a e.d e.b==4)=false;rw[p,u];rfl
    rw[f,Qe π]at c;simp only[go_sem,p,u,Go.undef];repeat (refine And.intro ω ?_)
    refine⟨_,QH.to 1 ⟨?_,by simp only[go_sem],?_,?_⟩,g,b,by rw[c];exact o,rfl⟩
    .simp only[go_sem,B,c,ZT,qT]
    .exact⟨λj q=>o.upto (λa=>rfl) j (by have m:=q;simp only[c]at m;simpa using m),trivial⟩
    .simp only[go_sem,c,ZT,qT]
   .have f:qb e=true:=by show (J5 e.a e.d e.b==3 || J5 e.a e.d e.b==4)=true;rw[p,u];rfl
    rw[f,Qf rfl]at c;simp only[go_sem,p,u,Go.undef,K];repeat (refine And.intro ω ?_)
    refine⟨_,QH.to 1 ⟨?_,by simp only[go_sem],?_,?_⟩,g+1,_,by rw[c];exact y,rfl⟩
    .simp only[go_sem,B,c,ZT,qT]
    .exact⟨λj q=>y.upto (λa=>rfl) j (by have m:=q;simp only[c]at m;simpa using m),trivial⟩
    .simp only[go_sem,c,ZT,qT]
  .have f:qb e=true:=by show (J5 e.a e.d e.b==3 || J5 e.a e.d e.b==4)=true;rw[p];rfl
   rw[f,Qf rfl]at c;simp only[go_sem,p,Go.undef,K];repeat (refine And.intro ω ?_)
   refine⟨_,QH.to 1 ⟨?_,by simp only[go_sem],?_,?_⟩,g+1,_,by rw[c];exact y,rfl⟩
   .simp only[go_sem,B,c,ZT,qT]
   .exact⟨λj q=>y.upto (λa=>rfl) j (by have m:=q;simp only[c]at m;simpa using m),trivial⟩
   .simp only[go_sem,c,ZT,qT]
 .have P:i=l.length:=ω;subst P;rw[YH]at o ⊢;have R:(Xz l).toArray.size=(Xz l).length:=rfl;have U:(Xz l).length<=l.length:=by have:=uh l l.length;rw[YH]at this;exact this
  have v:=ui l;have S:=PQ (λi=>(kQ l)[i]!) (kQ l).size;apply Za f;refine Tl (QH.rows 0 (CX (Xz l).toArray) (by exact rfl) ?_) ?_
  .intro i k;dsimp only at k ⊢;exact QxN o i k
  simp only[go_sem];refine VY f Qtr rfl ?_ (QxA (h:=[Zi g (Xz l).toArray]) (lo:=0) (g:=g) (d:=(Xz l).toArray) rfl (by rw[R];omega)) rfl λd h z=>?_
  .simp only[go_sem,GQ]
  obtain⟨rfl,t,rfl⟩:=z;apply Qh f;simp only[go_sem,GQ];refine JO f Qts (v▸QxC (h:=[Zi g (Xz l).toArray].set 0 (Zi g (kQ l))++t) (lo:=0) (g:=g) (d:=kQ l) rfl ω) λd h z=>?_;obtain⟨rfl,N,rfl,E,J⟩:=z;apply Za f;refine⟨λi k=>?_,g,(Xz l).length,N,?_,rfl,λi k=>?_,?_,?_⟩
  .obtain⟨x,hx⟩:=J i;rw[hx];rfl
  .unfold Xm;rw[v]
  .obtain⟨x,hx⟩:=J i;rw[hx];rfl
  .unfold Xm;omega
  .intro i k;have:=E i (by unfold Xm at k;rw[v]at k;exact k);rw[this];unfold Xm;rw[v];rfl
def QxQ(F:List Ob)(f a:Nat)(b:List D)(K:List Int)(g:Int->Bool):Prop:=∀(h:List Ob) (x:Int),x∈K->VE F h->Zf prog f h (Jm a b [uI x]) (λd=>d=QZ (g x))
def yp(g:Int->Bool)(l:List Int):Int:=match l.findIdx? g with
 | some i=>i
 | none=>-1
def QxR{g}{l:List Int}{k}(a:k<l.length)(h:∀i,i<k->g (l.getD i 0)=false)(c:g (l.getD k 0)=true):yp g l=k:=by
 have e:l.findIdx? g=some k:=by
  rw[GN];refine⟨a,by simpa[Q7,a] using c,λi b=>?_⟩;have:=h i b;simpa[Q7,show i<l.length by omega] using this
 rw[yp,e]
def QxS{g}{l:List Int}(h:∀i,i<l.length->g (l.getD i 0)=false):yp g l=-1:=by
 have e:l.findIdx? g=none:=by
  rw[Li];intro x hx;obtain⟨i,a,rfl⟩:=AQ hx;have:=h i a;simpa[Q7,a] using this
 rw[yp,e]
def QxT(g)(l:List Int):decide (0<=yp g l)=l.any g:=by
 unfold yp;cases h:l.findIdx? g with
 | some i=>
  obtain⟨b,a,_⟩:=GN.1 h;have e:l.any g=true:=Dv.2 ⟨_,zF b,a⟩;rw[e];simp
 | none=>
  have:=Li.1 h;have e:l.any g=false:=by rw[bD];intro x hx;simp[this x hx]
  rw[e];decide
def QxU{g}{l:List Int}(h:0<=yp g l):(yp g l).toNat<l.length:=by
 unfold yp at h ⊢;cases e:l.findIdx? g with
 | some i=>obtain⟨a,_⟩:=GN.1 e;simpa using a
 | none=>rw[e]at h;simp at h
def QxV{l:List Int}{i}(h:i<l.length):l.getD i 0∈l:=by
 rw[Q7,QT h];exact zF h
section
variable (h:List Ob)(K:List Int)(hlen:K.length<1048576)
include hlen
theorem QxW(b:D)(f j:Nat)(o:List D)(r:Qn prog f)(y:JU b=some (f,j,o))(e:Int->Bool)(q:QxQ (h.map Ob.ro) f j o K e):
  Zf prog 99 h [PR K,b] (λd=>d=Qb (yp e K)):=by
 refine ZD func99 ntmps99 results99 λp w z F u B c=>?_;simp only[go_sem,Qa];refine Js (λk s=>(∀i,i<k->e (K.getD i 0)=false)/\s=⟨[(0,PR K),(1,b),(7,Qb K.length),(8,Qb k)],F⟩) K.length QQ ⟨λi n=>absurd n ω,rfl⟩ ?_;rintro k s m ⟨g,rfl⟩;apply QM c;have x:=Vl (show k<4611686018427387904 from ω);first|refine yX m (λa=>?_) (λa=>?_)|refine yY m (λa=>?_) (λa=>?_)
 .simp only[go_sem,Qa,a];refine X0 c r y ?_ (q F (K.getD k 0) (QxV a) (by rw[<- u];exact VE.refl F)) rfl λd2 t=>?_
  .simp only[go_sem];exact DZ _
  subst t;apply Qh c;cases l:e (K.getD k 0)
  .simp only[go_sem,Qa];refine⟨a,_,QH.frame (fr':=[(0,PR K),(1,b),(7,Qb K.length),(8,Qb (k+1:Nat))]) (by simp only[go_sem,x]),λi n=>?_,rfl⟩;by_cases v:i<k
   .exact g i v
   .have:i=k:=ω;subst this;exact l
  .rw[QxR a g l];simp only[go_sem,Qa];exact⟨[],(Jv F).symm⟩
 .have a:k=K.length:=ω;subst a;simp only[go_sem,B6];rw[QxS g];apply QM c;exact⟨[],(Jv F).symm⟩
end
def QxX(l:List Nc):(Xm l).length<=l.length:=by
 have c:=PQ (λi=>(kQ l)[i]!) (kQ l).size;have b:=ui l;have a:=uh l l.length;rw[YH]at a;unfold Xm;omega
def QxY{l}{x}(b:x∈Xm l):∃n:Nat,x=(n:Int)/\0<n/\n<=1048576:=by
 obtain⟨c,e,a,d⟩:=(QiA l x).1 b;refine⟨c.d,d.symm,?_⟩;unfold qb Nc.of J5 at a;simp only[B3,jr]at a
 repeat' split at a
 all_goals first|omega|(exfalso;revert a;decide)|skip
def PT(l:List Nc)(k:Nat):Nat:=BA (λc=>Jk c.a c.d c.b k) l
def BF(t:Nat)(l:List Nc)(x:Int):Bool:=decide (65536*x.toNat<PT l x.toNat*t)
def QxZ{l:List Nc}(f:l.length<1048576)(a:∀c∈l,c.Lt){k}(i:k<=1048576):PT l k<2 ^ 111:=by
 have m:=iA (g:=λc=>Jk c.a c.d c.b k) (M:=2 ^ 60) (λc h=>by
  show Jk c.a c.d c.b k<=_;unfold Jk;split
  .decide
  .rename_i b;obtain⟨e,d,p⟩:=iv b;have o:c.a*min k c.d<=4294967295*1048576:=X8 e ω;have n:c.b*(k - min k c.d)<=4294967295*1048576:=X8 d ω;omega) (l:=l) (s:=0) a
 have j:=Vm (2 ^ 60) (show l.length<=1048576 from ω);unfold PT BA;omega
def iV(t:Nat)(l:List Nc):Bool:=decide (65536<BA (λc=>c.b) l*t)
def PU(t:Nat)(l:List Nc):Bool:=(Xm l).any (BF t l) || iV t l
def uj(t:Nat)(l:List Nc):D:=if (Xm l).any (BF t l)=true then .tup [uI ((Xm l).getD (yp (BF t l) (Xm l)).toNat 0),QZ true] else .tup [u64 0,QZ (iV t l)]
def Qx0{l:List Nc}(b:l.length<1048576)(a:∀c∈l,c.Lt):BA (λc=>c.b) l<2 ^ 111:=by
 have e:=iA (g:=λc=>c.b) (M:=2 ^ 64) (λc h=>by have:=h.2.2;omega) (l:=l) (s:=0) a;have d:=Vm (2 ^ 64) (show l.length<=1048576 from ω);unfold BA;omega
def Qx1(h:List Ob)(t:Nat)(l:List Nc)(i:l.length<1048576)(j:∀c∈l,c.Lt)(p:t<=65536)(m k:Nat)(b:(h.map Ob.ro)[m]? = some ⟨.WI,0,1,1,λ_=>[Yl l]⟩)(a:(h.map Ob.ro)[k]? = some ⟨.WI,0,1,1,λ_=>[Qb t]⟩)(n:Nat)(r:n<=1048576):
  Zf prog 185 h [uI n,.ptr m 0 0 0,.ptr k 0 0 0] (λd=>d=QZ (BF t l n)):=by
 have q:Q9 prog 139 [Yl l,u64 n] (Zp (num (PT l n))):=Qwj l n ω i j;have s:=QhD (PT l n) t n (QxZ i j r) p ω;refine ZD func185 ntmps185 results185 λo w v F u x e=>?_;rw[<- u]at b a;have g:=Qc b;have f:=Qc a;simp only[go_sem,Qa,b,g,a,f];apply QB e [0,1,3,4,1002,1005,6];simp only[go_sem,Qa,b,g,a,f];refine KJ e Qs1 ?_ q ?_
 .simp only[go_sem,Qa,b,g,a,f]
 apply Zd e;simp only[go_sem,Qa,b,g,a,f];apply Pa e QfM s;apply Yx e;exact⟨[],(Jv F).symm,rfl⟩
def Qx2(t:Nat)(l:List Nc)(e:l.length<1048576)(g:∀c∈l,c.Lt)(f:BD t l=0):Q9 prog 141 [Qb t,Yl l] (Zp (uj t l)):=by
 have o:t<=65536:=by unfold BD at f;split at f;cases f;omega
 have y:=QhD (BA (λc=>c.b) l) t 1 (Qx0 e g) o π;have r:(BD t l != 0)=false:=by rw[f];rfl
 have E:=QxX l;refine ZH 0 func141 ntmps141 results141 λs w a=>?_;simp only[go_sem];refine JG a fV ?_ (iU t l e) ?_
 .simp only[go_sem,r]
 apply Qh a;simp only[go_sem,r];refine kv a [] Qs0 rfl ?_ (QxO l e) rfl λd h i=>?_
 .simp only[go_sem]
 obtain⟨rfl,rfl⟩:=i;simp only[go_sem];apply Za a;have v:=QxW [⟨.one,0,1,1,λ_=>[Qb t]⟩,⟨.one,0,1,1,λ_=>[Yl l]⟩] (Xm l) ω (.clo 185 0 [.ptr 1 0 0 0,.ptr 0 0 0 0]) 185 0 [.ptr 1 0 0 0,.ptr 0 0 0 0] Qtw rfl (BF t l) (λB x hx m=>by
  obtain⟨n,rfl,F,z⟩:=QxY hx;obtain⟨C,rfl⟩:=m;exact Qx1 _ t l e g o 1 0 rfl rfl n z)
 refine X0 a QsG rfl ?_ v rfl λd2 i=>?_
 .simp only[go_sem];try exact DZ _
 subst i;have b:=QxT (BF t l) (Xm l);unfold uj;cases q:(Xm l).any (BF t l)
 .rw[q]at b;rw[Qe π];apply Qh a;simp only[go_sem,b];apply QB a [0,2,1001,1003,4,5];simp only[go_sem];apply VR a QsZ (Qwh l e g);apply WY a;apply VR a QfM y;apply WY a;rfl
 .rw[q]at b;rw[Qf rfl];have u:0<=yp (BF t l) (Xm l):=X9 b;have k:=QxU u;obtain⟨j,p⟩:∃j:Nat,yp (BF t l) (Xm l)=(j:Int):=⟨(yp (BF t l) (Xm l)).toNat,ω⟩;rw[p]at b k ⊢;rw[Int.toNat_natCast]at k;apply Qh a;simp only[go_sem,b,p,k];first|rfl|exact⟨rfl,rfl⟩|trace_state
def yq(t:Int)(l:List Nc):Int:=if BD t l≠0 then BD t l else if PU t.toNat l=true then 22 else 0
def Qx4(t)(l:List Nc)(h:l.length<1048576)(k:∀c∈l,c.Lt):Q9 prog 103 [Qb t,Yl l] (Zp (Qb (yq t l))):=by
 by_cases b:BD t l=0
 .have j:∃n:Nat,t=(n:Int):=⟨t.toNat,by unfold BD at b;split at b;cases b;omega⟩;obtain⟨n,rfl⟩:=j;have f:(BD n l != 0)=false:=by rw[b];rfl
  have e:yq n l=if PU n l=true then 22 else 0:=by rw[yq,Qe (by simpa using b)];rfl
  rw[e];have g:=Qx2 n l h k b;unfold uj at g;unfold PU;cases i:(Xm l).any (BF n l)
  .rw[i,Qe π]at g;rw[R9];refine ZH 0 func103 ntmps103 results103 λd w a=>?_;simp only[go_sem];refine JG a fV ?_ (iU n l h) ?_
   .simp only[go_sem,f]
   apply Qh a;simp only[go_sem,f];apply JW a QfF g;apply Za a;cases iV n l
   .simp only[go_sem]
   .simp only[go_sem]
  .rw[i,Qf rfl]at g;rw[Bool.true_or,Qf rfl];refine ZH 0 func103 ntmps103 results103 λd w a=>?_;simp only[go_sem];refine JG a fV ?_ (iU n l h) ?_
   .simp only[go_sem,f]
   apply Qh a;simp only[go_sem,f];apply JW a QfF g;exact zT a
 .have f:(BD t l != 0)=true:=by simpa using b
  have e:yq t l=BD t l:=by rw[yq,Qf b]
  rw[e];refine ZH 0 func103 ntmps103 results103 λd w a=>?_;simp only[go_sem];refine JG a fV ?_ (iU t l h) ?_
  .simp only[go_sem,f]
  apply Qh a;simp only[go_sem,f]
end Go.Fg.X
namespace Go.Fg.X
open Go.Proofs Go.Fg
open Go.Proofs.Tryz
@[go_sem] def oDg(n:Nat):Ob:=⟨.one,0,4,1,λ_=>[u64 (d0 n),u64 (d1 n),u64 (d2 n),u64 (d3 n)]⟩
end Go.Fg.X
namespace Go.Fg.X
open Go.Proofs Go.Fg
open Go.Proofs.Tryz
def QiB:IntKind.i64.wrap 2=2:=π
end Go.Fg.X
namespace Go.Fg.X
open Go.Proofs Go.Fg
open Go.Proofs.Tryz
def QiC{b:Type}[Inhabited b](L:List b)(g)(i:Nat)(h:i<L.length):(L.take (i+1)).filter g=if g (L.getD i default)=true then (L.take i).filter g++[L.getD i default] else (L.take i).filter g:=by
 rw[GR,QT h];simp only[Option.toList_some,Se,Q7,QT h,Vn];by_cases a:g L[i]=true
 .rw[Qf a,Sg a];rfl
 .rw[Qe a,Sf a];simp
def Qx5{a:Type}(L:List a)(g:a->Bool)(i:Nat):((L.take i).filter g).length<=i:=by
 have:=qS g (L.take i);simp at this;omega
end Go.Fg.X
namespace Go.Fg.X
open Go.Proofs Go.Fg
open Go.Proofs.Tryz
def xm(g:Int->Bool)(l:List Int):List Int:=l.filter λx=>!g x
def Qx6{g}{l:List Int}:(ya g l=-1/\xm g l=l)\/∃i,i<l.length/\ya g l=(i:Int)/\g (l.getD i 0)=true/\(l.take (i+1)).filter (λx=>!g x)=l.take i:=by
 unfold ya;cases h:l.findIdx? g with
 | none=>
  refine .inl ⟨rfl,AP.2 λx hx=>?_⟩;simp[Li.1 h x hx]
 | some i=>
  obtain⟨a,b,d⟩:=GN.1 h;refine .inr ⟨i,a,rfl,by simpa[Q7,a] using b,?_⟩;rw[QiC l _ i a,Qe (by simpa[Q7,a] using b)];refine AP.2 λx hx=>?_;obtain⟨j,c,rfl⟩:=AQ hx;simp at c;simpa using d j ω
section
variable (h:List Ob)(l:List Int)(lo gn off:Nat)(row:Nat->List D)(hlen:l.length<1000000)(ho:h[lo]? = some ⟨.arr,gn,1,off+l.length,row⟩)(hr:∀i,i<l.length->row (off+i)=[Qb (l.getD i 0)])
include hlen ho hr
end
def Zq(c:Cv):Nc:=⟨c.m1.toNat,c.d.toNat,c.m2.toNat⟩
def Qx7{c:Cv}(h:c.Nn):((Zq c).a:Int)=c.m1:=EW h.1
def Qx8{c:Cv}(h:c.Nn):((Zq c).d:Int)=c.d:=EW h.2.1
def Qx9{c:Cv}(h:c.Nn):((Zq c).b:Int)=c.m2:=EW h.2.2
def Qya{c:Cv}(h:c.Nn):(Zq c).cells=c.cells:=by simp only[Nc.cells,Cv.cells,u64,Qx7 h,Qx8 h,Qx9 h]
def UL(x:Qq):Bool:=decide (1<QS x.rt)
def XA(L:List Qq):List Nc:=(L.filter UL).map λx=>Zq x.rt
def Qyb(L:List Qq):(XA L).length<=L.length:=by
 have:=qS UL L;unfold XA;rw[KK];exact this
section
variable (h:List Ob)(t m c:Nat){es:List ZQ}{L:List Qq}(T:VS es L)(hlen:L.length<1000000)
 (ht:(h.map Ob.ro)[t]? = some ⟨.WI,0,1,1,λ_=>[.mref m 0]⟩) (hm:(h.map Ob.ro)[m]? = some (QR .i64 c es).ro)
include T ht hm hlen
theorem Qyc(hn:∀c∈L,c.Nn):Xf prog 102 h [.ptr t 0 0 0] (λd g=>(d=.nil/\XA L=[])\/∃f n k,d=.ref f n 0 (XA L).length/\h.length<=f/\(h++g)[f]? = some ⟨.arr,n,3,(XA L).length,k⟩/\Ah Nc.cells (XA L) 0 k):=by
 refine Bn VK 200 func102 rfl ntmps102 results102 rfl λz w pl F Y Z b=>?_;rw[<- Y]at ht hm;have Zu:=Qc ht;have QO:=Qc hm;simp only[go_sem,Qa,ht,Zu,hm,QO];have hT:TJ (F.map Ob.ro) 14 0 [] UL:=λh' x yR=>by
  refine ZD func14 ntmps14 results14 λz w pl F Y Z b=>?_;simp only[go_sem,Qa];apply qy b fN (gA x.rt);apply QM b;exact⟨_,rfl,rfl⟩
 obtain⟨K,B⟩:∃K,K=L.filter UL:=⟨_,rfl⟩;have Ew:K.length<=L.length:=by rw[B];exact qS _ _
 have u:XA L=K.map λx=>Zq x.rt:=by rw[B];rfl
 refine Hw b fQ rfl ?_ (gE _ t m c T hlen (Jc ht) (Mn hm) (.raw (.func (.func 14) ⟨[]⟩ ⟨[]⟩)) 14 0 [] y0 rfl _ hT) rfl λd g U=>?_
 .simp only[go_sem]
 rw[<- B]at U;rcases U with ⟨rfl,h3⟩|⟨f,n,l,k,rfl,ZM,o,V⟩
 .have Q:XA L=[]:=by
   rw[u];have:K=[]:=by simpa using h3
   rw[this];rfl
  apply QM b;refine Js (λi s=>s=⟨[(3,.nil),(8,Qb 0),(9,Qb 0)],F++g⟩) 0 QQ rfl ?_;rintro i s N rfl;apply QM b;apply QM b;exact⟨_,rfl,.inl Q⟩
 .obtain⟨G,C⟩:∃G,G=F++g:=⟨_,rfl⟩;have J:VE F G:=⟨g,C⟩;have I:=J.get ht;have H:=J.get hm;rw[<- C]at o ⊢;have y:=Qc I;have v:=Qc H;have Qg:=Qc o;rw[KK]at o V;have PV:=J.len;apply QM b;refine Js (λi s=>∃j p a,Ah Nc.cells ((K.take i).map λx=>Zq x.rt) 0 p/\s=⟨[(0,.ptr t 0 0 0),(3,.ref G.length j 0 ((K.take i).map λx=>Zq x.rt).length),(7,.ref f n l K.length),(8,Qb K.length),(9,Qb i)],G++(⟨.arr,j,3,((K.take i).map λx=>Zq x.rt).length,p⟩::a)⟩) K.length
   (s0:=⟨[(0,.ptr t 0 0 0),(3,.ref G.length 0 0 0),(7,.ref f n l K.length),(8,Qb K.length),(9,Qb 0)],G++[⟨.arr,0,3,0,λ_=>[]⟩]⟩)
   (QH.trans (QH.Dx 3 3 (λi=>[]) rfl) (QH.frame (by simp only[go_sem,KK]))) ⟨0,λ_=>[],[],.nil,rfl⟩ ?_
  rintro i s N ⟨j,p,a,E,rfl⟩;have Zs:=Vl (show i<4611686018427387904 from ω);apply Qh b;simp only[go_sem,Qa,I,H,y,v,o,Qg];first|refine yX N (λe=>?_) (λe=>?_)|refine yY N (λe=>?_) (λe=>?_)
  .obtain⟨x,hx⟩:∃x,x=K.getD i default:=⟨_,rfl⟩;have r:x∈K:=by rw[hx,Q7,QT e];exact zF e
   have q:x∈L:=by rw[B]at r;exact(JI.1 r).1
   have Wh:QC L x.iD=some x:=(VL T.sorted).2 ⟨q,rfl⟩;have Xn:=T.look x.iD;rw[Wh,KA]at Xn;have S:=V i (by simpa using e);have R:(K.map (·.iD)).getD i 0=x.iD:=by
    rw[hx,Q7,Q7,KX,QT e];rfl
   rw[R]at S;have O:(K.take (i+1)).map (λx=>Zq x.rt)=(K.take i).map (λx=>Zq x.rt)++[Zq x.rt]:=by
    rw[GR,QT e,hx,Q7,QT e,jZ];rfl
   obtain⟨M,W⟩:∃M,M=(K.take i).map λx=>Zq x.rt:=⟨_,rfl⟩;have a0:M.length<=i:=by rw[W,KK,List.length_take];omega
   have BE:M.length<=4294967295:=ω;rw[<- W]at O E ⊢;have An:=E.app (Zq x.rt) (r2:=λ_=>(Zq x.rt).cells) rfl;rw[Qya (hn x q).1]at An;simp only[go_sem,Qa,e,I,H,y,v,o,Qg,S,Xn,BE];refine⟨ω,_,QH.frame (fr':=[(0,.ptr t 0 0 0),(3,.ref G.length (j+1) 0 (M.length+1)),(7,.ref f n l K.length),(8,Qb K.length),(9,Qb (i+1:Nat))]) (by simp only[go_sem,Zs]),j+1,_,a++[⟨.arr,0,3,1,λ_=>x.rt.cells⟩],by rw[O];exact An,?_⟩;rw[O,ZT];rfl
  .have h1:i=K.length:=ω;subst h1;rw[YH,<- u]at E ⊢;apply QM b;refine⟨g++(⟨.arr,j,3,(XA L).length,p⟩::a),by rw[C,Wu],.inr ⟨G.length,j,p,rfl,ω,?_,E⟩⟩;have P:G.length=(h++g).length:=by rw[C,ZT,ZT,Z]
   rw[<- Wu,P,Kw (Qs _),YJ];rfl
theorem Qyf(p:∀c∈L,c.Nn):Zf prog 102 h [.ptr t 0 0 0] (λd=>d=Yl (XA L)):=by
 refine Qg1 (Yl (XA L)) (λk=>rfl) ?_ (Qyc h t m c T hlen ht hm p);rintro d g (⟨rfl,r⟩|⟨e,j,b,rfl,u,o,l⟩)
 .left;rw[r];simp only[go_sem]
 .right;refine⟨e,j,3,_,b,u,o,λi f=>?_,?_⟩
  .obtain⟨a,q⟩:=l.all i (by simpa using f);rw[q];rfl
  .have s:D.fz e j (XA L).length 3 b (.ref e j 0 (XA L).length)=.imm 3 (XA L).length (rowFrom 0 b):=by simp[D.fz,eX]
   rw[s];simp only[Yl];rw[fq];refine⟨rfl,rfl,λi f=>?_⟩;have n:=l.at_ i f;rw[JM]at n;rw[Tp,JM,n,Nc.xY];exact Md (Hu _) _
end
@[go_sem] def jI(n:Int):D:=.raw (.int .i64 n)
def MW(d:Array Int):Nat->List D:=λi=>[jI d[i]!]
@[go_sem] theorem Qyg(d:Array Int)(i):MW d i=[jI d[i]!]:=rfl
@[go_sem] def Db(g:Nat)(d:Array Int):Ob:=⟨.arr,g,1,d.size,MW d⟩
def Qyh{h:List Ob}{a g}{d}(b:a<h.length):(h.set a (Db g d))[a]? = some (Db g d):=Qy b
def Qyi(g)(d:Array Int)(i n)(x)(c:d.size=n)(e:i<n):
  (⟨.arr,g,1,n,λk=>bif k==i then [.raw (.int .i64 x)] else [.raw (.int .i64 d[k]!)]⟩:Ob)=Db g (d.setIfInBounds i x):=by
 subst c;unfold Db;congr 1
 .simp
 .funext k;unfold MW jI;by_cases a:k=i
  .subst a;simp[e]
  .have f:(k==i)=false:=beq_eq_false_iff_ne.mpr a;rw[f];by_cases b:k<d.size
   .simp[a,b,Q8 a,nR]
   .simp[a,b]
def Qyj{h:List Ob}{a g}{d:Array Int}(b:h[a]? = some (Db g d))(hz:d.size<1000000000):
  QI prog 111 h [.ref a g 0 d.size] (λdd h'=>dd=.ref a g 0 (cN (λi=>d[i]!) d.size).length/\∃r,h'=h.set a ⟨.arr,g,1,d.size,r⟩/\(∀i,i<(cN (λi=>d[i]!) d.size).length->r i=[jI ((cN (λi=>d[i]!) d.size).getD i 0)])/\∀i,∃x,r i=[jI x]):=by
 by_cases c2:d.size<2
 .have K:decide ((d.size:Int)<2)=true:=Q1 ω;have p:(cN (λi=>d[i]!) d.size).length=d.size:=by
   have:d.size=0\/d.size=1:=ω;rcases this with h0|h0<;>rw[h0]<;>rfl
  rw[p];refine Q3 func111 ntmps111 results111 λt w pl c=>?_;have o:=Qc b;simp only[go_sem,Qa,b,o,K];exact⟨MW d,(xk b).symm,λi f=>by rw[MS _ _ p i f];rfl,λi=>⟨_,rfl⟩⟩
 .have K:decide ((d.size:Int)<2)=false:=QU ω;refine Q3 func111 ntmps111 results111 λt w pl c=>?_;have o:=Qc b;simp only[go_sem,Qa,b,o,K];refine Js (λk E=>k+1<=d.size/\(cN (λi=>d[i]!) (k+1)).length=k+1/\E=⟨[(0,.ref a g 0 d.size),(3,Qb (k+1:Nat))],h⟩) d.size (s0:=⟨[(0,.ref a g 0 d.size),(3,Qb (0+1:Nat))],h⟩) QQ ⟨ω,rfl,rfl⟩ ?_;rintro k _ hk ⟨Qr,s,rfl⟩;by_cases L:k+1<d.size
  .have J:decide (k+1<d.size)=true:=Q1 L;have v1:IntKind.i64.wrap (((k+1:Nat):Int) - 1)=((k:Nat):Int):=ZK;have v2:IntKind.i64.wrap (((k+1:Nat):Int)+1)=((k+1+1:Nat):Int):=ZK;have p0:k<d.size:=ω;apply Qh c;simp only[go_sem,Qa,b,o,J];apply QB c o00;simp only[go_sem,Qa,b,o,v1,L,p0];by_cases zJ:d[k+1]! = d[k]!
   .have O:(d[k+1]! == d[k]!)=true:=beq_iff_eq.mpr zJ;have V:(cN (λi=>d[i]!) (k+1+1)).length=k+1:=by
     rw[cN,Qf ⟨ω,by simpa using zJ⟩,s]
    have q0:k+1<=d.size:=ω;generalize hN:d.size - (k+1)=N;have v3:((d.size:Int) - ((k+1:Nat):Int)).toNat=N:=ω;simp only[go_sem,O,q0,hN,Qa,b,o,v3];refine Js (λm E=>∃(d1:Array Int),d1.size=d.size/\m+1<=N/\(cN (λi=>d[i]!) (k+1+(m+1))).length<=k+1+m/\(∀i,i<(cN (λi=>d[i]!) (k+1+(m+1))).length->d1[i]! = (cN (λi=>d[i]!) (k+1+(m+1))).getD i 0)/\(∀j,(cN (λi=>d[i]!) (k+1+(m+1))).length<=j->d1[j]! = d[j]!)/\E=⟨[(0,.ref a g 0 d.size),(3,Qb (cN (λi=>d[i]!) (k+1+(m+1))).length),(4,.ref a g (k+1) N),(5,Qb (m+1:Nat))],h.set a (Db g d1)⟩) N (s0:=⟨[(0,.ref a g 0 d.size),(3,Qb (cN (λi=>d[i]!) (k+1+(0+1))).length),(4,.ref a g (k+1) N),(5,Qb (0+1:Nat))],h.set a (Db g d)⟩) ?_ ⟨d,rfl,ω,Nat.le_of_eq V,λi f=>?_,λj S=>rfl,rfl⟩ ?_
    .rw[xk b,V];exact QQ
    .rw[cN,Qf ⟨ω,by simpa using zJ⟩]at f ⊢;exact(MS _ _ s i ω).symm
    rintro m _ hm ⟨d1,n,a0,T7,M,z,rfl⟩;have l:=Qyh (g:=g) (d:=d1) o;have y:cN (λi=>d[i]!) (k+1+(m+1+1))=if d[k+1+(m+1)]! = d[k+1+m]! then cN (λi=>d[i]!) (k+1+(m+1)) else cN (λi=>d[i]!) (k+1+(m+1))++[d[k+1+(m+1)]!]:=by
     rw[show k+1+(m+1+1)=(k+1+(m+1))+1 by omega,cN];simp
    generalize T:cN (λi=>d[i]!) (k+1+(m+1))=C at *;generalize I:h.set a (Db g d1)=H at l;have q:=Qc l;by_cases v:m+1<N
    .have em:decide (m+1<N)=true:=Q1 v;have R:=z (k+1+(m+1)) ω;have r2:=z (k+1+m) ω;have Q:k+1+(m+1)<d.size:=ω;have u2:k+1+m<d.size:=ω;have u3:m<N:=ω;have Y:IntKind.i64.wrap (((m+1:Nat):Int) - 1)=(m:Int):=ZK;have P:IntKind.i64.wrap (((m+1:Nat):Int)+1)=((m+1+1:Nat):Int):=ZK;have W:IntKind.i64.wrap ((C.length:Int)+1)=((C.length+1:Nat):Int):=ZK;apply Qh c;simp only[go_sem,Qa,l,q,em];apply QB c o00;simp only[go_sem,Qa,l,q,n,Y,v,Q,u2,u3,R,r2];by_cases u:d[k+1+(m+1)]! = d[k+1+m]!
     .have F:(d[k+1+(m+1)]! != d[k+1+m]!)=false:=by rw[u];exact bne_self_eq_false _
      rw[Qf u]at y;simp only[go_sem,F,P];rw[y];refine⟨ω,_,?_,d1,n,ω,ω,M,z,rfl⟩;rw[<- I];exact QQ
     .have F:(d[k+1+(m+1)]! != d[k+1+m]!)=true:=bne_iff_ne.mpr u;have B:C.length<d.size:=ω;rw[Qe u]at y;simp only[go_sem,F,P,W,Qa,l,q,n,Q,v,B,R];rw[Qyi g d1 _ _ _ n B,y];refine⟨ω,_,?_,d1.setIfInBounds C.length d[k+1+(m+1)]!,by simp;exact n,ω,ξ,λi f=>?_,λj S=>?_,rfl⟩
      .rw[<- I,JS,ZT,qT];exact QQ
      .simp only[ZT,qT]at f;by_cases e:i=C.length
       .subst e;rw[Q7,Kw (Qs _),YJ];simp[n,B]
       .rw[Q7,JY ω,<- Q7,<- M i ω];simp[Q8 e,NJ,yH,AN]
      .simp only[ZT,qT]at S;rw[<- z j ω];simp[show C.length≠j by omega,NJ,yH,AN]
    .have em:decide (m+1<N)=false:=QU v;have Z:k+1+(m+1)=d.size:=ω;rw[Z]at T;rw[T];have U:C.length<=d.size:=ω;have g2:((d.size:Int) - (C.length:Int)).toNat=d.size - C.length:=ω;apply Qh c;simp only[go_sem,Qa,l,q,em];apply Qh c;simp only[go_sem,Qa,l,q,n,U,g2];refine rC CH c rfl l rfl rfl rfl rfl (by dsimp only[Db];omega) rfl rfl rfl rfl ?_;apply Qh c;simp only[go_sem,Qa,Qy q,q,n,U];refine⟨σ,q8 C.length (d.size - C.length) [D.raw (.int .i64 0)] (MW d1),?_,λi f=>?_,λi=>?_⟩
     .rw[<- I,JS]
     .rw[rA f];show [jI d1[i]!]=_;rw[M i f];rfl
     .unfold q8;cases Nat.ble C.length i&&Nat.blt i (C.length+(d.size - C.length))
      .exact⟨d1[i]!,rfl⟩
      .exact⟨0,rfl⟩
   .have O:(d[k+1]! == d[k]!)=false:=beq_eq_false_iff_ne.mpr zJ;simp only[go_sem,O,v2];refine⟨ω,_,?_,ω,?_,rfl⟩
    .exact QQ
    .rw[cN,Qe (by simpa using zJ)];simp[s]
  .have J:decide (k+1<d.size)=false:=QU L;obtain J1:k+1=d.size:=ω;rw[J1]at s;apply Qh c;simp only[go_sem,Qa,b,o,J];apply Za c;rw[s];exact⟨rfl,MW d,(xk b).symm,λi f=>by rw[MS _ _ s i f];rfl,λi=>⟨_,rfl⟩⟩
def Qyk(n:Nat)(c:0<n)(j:n<=1048576):Q9 prog 147 [.nil,Qb n] (λd h=>∃b,d=.ref 0 0 0 0/\h=[⟨.arr,0,1,0,b⟩]):=by
 have i:¬ ((n:Int)<0):=ω;have g:((n:Int) > 0):=ω;have f:IntKind.i64.wrap (n:Int)=n:=by rw[IntKind.wrap_i64];omega
 refine QI.cut (R:=λd h=>d=.ref 0 0 0 0/\h=[⟨.arr,0,1,n,λ_=>[Qb 0]⟩]) ?_ (by rintro d h ⟨rfl,rfl⟩;exact⟨0,_,0,rfl,rfl,Z9 _,_,rfl,rfl⟩);show Q9 _ _ _ _;refine ZH 1 func147 ntmps147 results147 λe w a=>?_;simp only[go_sem];simp only[QU i,go_sem];refine rE CH rfl rfl rfl ?_;apply Qh a;simp only[go_sem,Eu,Int.sub_zero,f,Q1 g,c];refine rE CH rfl rfl rfl ?_;apply Za a;refine Quj CH a rfl rfl rfl rfl rfl rfl π c ω π rfl ?_;exact zT a
def Qyl:Q9 prog 147 [.nil,Qb 0] (Zp .nil):=by
 refine ZH 0 func147 ntmps147 results147 λa w b=>?_;simp only[go_sem];refine rE CH rfl rfl rfl ?_;apply Qh b;simp only[go_sem,Eu,Int.sub_zero]
def Qym(h:List Ob)(f)(y)(a b:List Int)(Z:a.length+b.length<1000000)(e:(h.map Ob.ro)[f]? = some ⟨.AU,0,1,2,y⟩)(p:y 0=[ints a])(n:y 1=[ints b]):
  Xf prog 109 h [.ref f 0 0 2] (λd g=>KC h.length (h++g) d (a++b)):=by
 have K:IntKind.i64.wrap (a.length:Int)=(a.length:Int):=by rw[IntKind.wrap_i64];omega
 have J:IntKind.i64.wrap ((a.length:Int)+(b.length:Int))=((a.length+b.length:Nat):Int):=by rw[IntKind.wrap_i64];omega
 have M:decide ((a.length:Int)<0)=false:=QU ω;have L:decide (((a.length+b.length:Nat):Int)<0)=false:=QU ω;refine Bn VK 200 func109 rfl ntmps109 results109 rfl λI w Y F Q R j=>?_;rw[<- Q]at e;have l:=Qc e;simp only[go_sem,Qa,e,l];obtain⟨q,E,C,B⟩:∃q:Nat->Int,q 0=0/\q 1=a.length/\q 2=(a.length+b.length:Nat):=⟨λi=>if i=0 then 0 else if i=1 then a.length else (a.length+b.length:Nat),rfl,rfl,rfl⟩;refine Js (λi s=>s=⟨[(0,.ref f 0 0 2),(3,.raw (.int .i64 (q i))),(9,.ref f 0 0 2),(10,Qb 2),(11,Qb i)],F⟩) 2 (QH.frame (by simp only[go_sem,E])) rfl ?_;rintro i s t rfl;have x:i=0\/i=1\/i=2:=ω;rcases x with rfl|rfl|rfl
 .apply Qh j;simp only[go_sem,Qa,e,l,p,n,Eu,Gj,E,Int.zero_add,K,M];exact⟨_,QH.frame (fr':=[(0,.ref f 0 0 2),(3,.raw (.int .i64 (q 1))),(9,.ref f 0 0 2),(10,Qb 2),(11,.raw (.int .i64 1))]) (by simp only[go_sem,C]),rfl⟩
 .apply Qh j;simp only[go_sem,Qa,e,l,p,n,Eu,Gj,C,J,L];exact⟨_,QH.frame (fr':=[(0,.ref f 0 0 2),(3,.raw (.int .i64 (q 2))),(9,.ref f 0 0 2),(10,Qb 2),(11,.raw (.int .i64 2))]) (by simp only[go_sem,B,QiB]),rfl⟩
 .apply Qh j;simp only[go_sem,Qa,e,l,p,n,Eu,Gj,B];apply Qh j;simp only[go_sem,Qa,e,l,p,n,Eu,Gj,B];by_cases hz:a.length+b.length=0
  case' pos=>
   refine JG j QfG ?_ Qyl ?_
   .simp only[go_sem,Qa,e,l,hz]
   apply Qh j;simp only[go_sem,Qa,e,l,hz];refine DL (QH.Dx 6 1 (λ_=>[]) (by simp only[go_sem])) ?_;simp only[go_sem,Qa];generalize (λ_:Nat=>([]:List D))=v
  case' neg=>
   refine OG j QfG rfl ?_ (Qyk (a.length+b.length) ω ω) (λd h ⟨c,u,e⟩=>⟨by rw[u];rfl,λo z=>by rw[e]at z;simp at z;subst z;exact λi t=>absurd t (Xc i)⟩) rfl λd h' P=>?_
   .simp only[go_sem,Qa]
   obtain⟨c,rfl,rfl⟩:=P;apply Qh j;simp only[go_sem,Qa,e,l];generalize (λi=>yT F.length (c i))=v
  all_goals
   refine Js (λi s=>∃r m c,(i=0->m=0)/\(i=1->m=a.length/\∀k,k<a.length->c k=[Qb (a.getD k 0)])/\(i=2->m=a.length+b.length/\∀k,k<a.length+b.length->c k=[Qb ((a++b).getD k 0)])/\s=⟨[(6,.ref F.length r 0 m),(25,.ref f 0 0 2),(26,Qb 2),(27,Qb i)],F++[⟨.arr,r,1,m,c⟩]⟩) 2
    (s0:=⟨[(6,.ref F.length 0 0 0),(25,.ref f 0 0 2),(26,Qb 2),(27,Qb 0)],F++[⟨.arr,0,1,0,v⟩]⟩) QQ ⟨0,0,_,λ_=>rfl,λh=>absurd h π,λh=>absurd h π,rfl⟩ ?_
   rintro i s t ⟨r,m,c,W,U,S,rfl⟩;have x:i=0\/i=1\/i=2:=ω;have H:a.length<=4294967295:=ω;have V:a.length+b.length<=4294967295:=ω;rcases x with rfl|rfl|rfl
   .obtain rfl:m=0:=W rfl;apply Qh j;simp only[go_sem,Qa,e,l,p,n,Eu,Gj,H];refine⟨ω,_,QH.frame (fr':=[(6,.ref F.length (r+1) 0 a.length),(25,.ref f 0 0 2),(26,Qb 2),(27,.raw (.int .i64 1))]) (by simp only[go_sem,Gj]),_,_,_,⟨rfl,λk O=>?_⟩,rfl⟩;rw[xM (Z9 k)];rfl
   .obtain⟨rfl,N⟩:=U rfl;apply Qh j;simp only[go_sem,Qa,e,l,p,n,Eu,Gj,H,V];refine⟨ω,_,QH.frame (fr':=[(6,.ref F.length (r+1) 0 (a.length+b.length)),(25,.ref f 0 0 2),(26,Qb 2),(27,.raw (.int .i64 2))]) (by simp only[go_sem,QiB]),_,_,_,⟨rfl,λk O=>?_⟩,rfl⟩;by_cases u:k<a.length
    .rw[A4 u,JM,N k u,Q7,Q7,JY u];rfl
    .rw[xM ω,Q7,Kw ω,<- Q7];rfl
   .obtain⟨rfl,T⟩:=S rfl;apply Qh j;simp only[go_sem,Qa,e,l,p,n,Eu,Gj];apply Qh j;simp only[go_sem,Qa,e,l,p,n,Eu,Gj];refine⟨_,rfl,.inr ⟨h.length,r,0,c,by rw[R,ZT],⟨Qs _,rfl⟩,?_,λi t=>by rw[JM];exact T i (by simpa using t)⟩⟩;rw[Vq rfl,ZT,JM];rfl
def Qyn(h:List Ob)(e)(c)(a b:List Int)(f:a.length+b.length<1000000)(g:(h.map Ob.ro)[e]? = some ⟨.AU,0,1,2,c⟩)(j:c 0=[ints a])(i:c 1=[ints b]):
  Zf prog 109 h [.ref e 0 0 2] (λd=>d=ints (a++b)):=KC.closed (Qym h e c a b f g j i)
deriving instance DecidableEq for Cv
deriving instance DecidableEq for Qq
def W7(A B:List Qq)(a:Int):Bool:=decide (QC A a≠QC B a)
def BG(A B:List Qq):List Int:=(A.map (·.iD)++B.map (·.iD)).filter (W7 A B)
def jF(L:List Int):List Int:=cN (λi=>L.getD i 0) L.length
def Kq(A B:List Qq):List Int:=jF (sorted (BG A B))
def Qyo{L}{x}:x∈jF L↔x∈L:=by
 unfold jF;rw[uf];constructor
 .rintro⟨i,a,rfl⟩;rw[Q7,QT a];exact zF a
 .intro h;obtain⟨i,a,rfl⟩:=AQ h;exact⟨i,a,by rw[Q7,QT a];rfl⟩
def Qyp{L}{x}:x∈sorted L↔x∈L:=(List.mergeSort_perm _ _).mem_iff
def Ic{A B}{a}:a∈Kq A B↔QC A a≠QC B a:=by
 unfold Kq;rw[Qyo,Qyp];unfold BG;rw[JI];unfold W7;rw[Xd];constructor
 .exact λh=>h.2
 .intro h;refine⟨?_,h⟩;rw[QX];cases d:QC A a with
  | some c=>
   refine .inl (JA.2 ⟨c,xF d,?_⟩);have:=yJ d;simpa using this
  | none=>
   cases b:QC B a with
   | some c=>
    refine .inr (JA.2 ⟨c,xF b,?_⟩);have:=yJ b;simpa using this
   | none=>rw[d,b]at h;exact absurd rfl h
def QiJ(x y:Qq):(x.iD==y.iD&&(x.parent==y.parent&&(x.leaf==y.leaf&&(x.rt.m1==y.rt.m1&&(x.rt.d==y.rt.d&&(x.rt.m2==y.rt.m2&&(x.ls.m1==y.ls.m1&&(x.ls.d==y.ls.d&&(x.ls.m2==y.ls.m2&&(x.ul.m1==y.ul.m1&&(x.ul.d==y.ul.d&&(x.ul.m2==y.ul.m2&&(x.Z4==y.Z4&&x.bytes==y.bytes)))))))))))))=decide (x=y):=by
 rw[wx];simp only[ZX,jr,Xd];constructor
 .rintro⟨l,k,j,i,h,g,f,e,d,c,M,N,b,a⟩;obtain⟨L,K,J,⟨I,H,F⟩,⟨E,C,B⟩,⟨z,w,v⟩,u,t⟩:=x;obtain⟨s,c2,r,⟨q,p,c6⟩,⟨o,n,m⟩,⟨d1,d2,d3⟩,d4,d5⟩:=y
  simp_all
 .rintro rfl;simp
theorem PW:(true==false)=false:=rfl
theorem PX:(false==true)=false:=rfl
def Qyq:Q9 prog 111 [.nil] (Zp .nil):=by
 refine ZH 0 func111 ntmps111 results111 λa w b=>?_;simp only[go_sem]
def Qyr{h:List Ob}{lo g}{Z:List Int}(f:h[lo]? = some (Db g Z.toArray))(k:Z.length<1000000000):
  QI prog 111 h [.ref lo g 0 Z.length] (λc b=>c=.ref lo g 0 (jF Z).length/\∃a,b=h.set lo ⟨.arr,g,1,(jF Z).length,a⟩/\∀i,i<(jF Z).length->a i=[Qb ((jF Z).getD i 0)]):=by
 have e:cN (λi=>Z.toArray[i]!) Z.toArray.size=jF Z:=by
  unfold jF;congr 1;funext i;simp
 have j:=Qyj f (by simpa using k);rw[e]at j;have l:=Qc f;refine QI.cut (R:=λc b=>c=.ref lo g 0 (jF Z).length/\∃a,b=h.set lo ⟨.arr,g,1,Z.toArray.size,a⟩/\(∀i,i<(jF Z).length->a i=[jI ((jF Z).getD i 0)])/\∀i,∃x,a i=[jI x]) (by simpa using j) ?_;rintro d b ⟨rfl,a,rfl,m,_⟩;refine⟨lo,_,(jF Z).length,Qy l,rfl,?_,rfl,a,by rw[JS],m⟩;have:=PQ (λi=>Z.getD i 0) Z.length;show (jF Z).length<=Z.toArray.size;simpa[jF] using this
structure Dc (F:List Ob) (A B:List Qq) (t1 t2:Nat) (L:List Int) (k:Nat) (s:St):Prop where
 ex:∃d H,KC F.length H d ((L.take k).filter (W7 A B))/\VE F H/\s=⟨[(0,.ptr t1 0 0 0),(1,.ptr t2 0 0 0),(5,d),(17,ints L),(18,Qb L.length),(19,Qb k)],H⟩
def Dc.of{F:List Ob}{A B}{b a}{L:List Int}{k:Nat}{d}{H}(e:KC F.length H d ((L.take k).filter (W7 A B)))(c:VE F H):Dc F A B b a L k ⟨[(0,.ptr b 0 0 0),(1,.ptr a 0 0 0),(5,d),(17,ints L),(18,Qb L.length),(19,Qb k)],H⟩:=⟨⟨d,H,e,c,rfl⟩⟩
def Qyt{h}{f n}{A B:List Qq}(RA:XR h f A)(RB:XR h n B)(hA:A.length<100000)(hB:B.length<100000):
  Xf prog 72 h [.ptr f 0 0 0,.ptr n 0 0 0] (λd g=>KC h.length (h++g) d (Kq A B)):=by
 refine Bn VK 200 func72 rfl ntmps72 results72 rfl λa1 w pl F hF Ze a=>?_;simp only[go_sem,Qa];have UN:XR F f A:=RA.more (KV hF);have UO:XR F n B:=RB.more (KV hF);apply JD a fM (gU UN ω);apply QM a;apply JD a fM (gU UO ω);apply QM a;obtain⟨L,U⟩:∃L,L=A.map (·.iD)++B.map (·.iD):=⟨_,rfl⟩;have a2:L.length<200000:=by rw[U];simp;omega
 have WB:∀J:Nat->List D,J 0=[ints (A.map (·.iD))]->J 1=[ints (B.map (·.iD))]->Zf prog 109 (F++[⟨.arr,0,1,2,J⟩]) [.ref F.length 0 0 2] (λd=>d=ints L):=λJ e0 e1=>by
  rw[U];exact Qyn _ F.length J _ _ ξ (Jc (show (F++[⟨.arr,0,1,2,J⟩])[F.length]? = some ⟨.arr,0,1,2,J⟩ by rw[Vq rfl];rfl)) e0 e1
 apply JD a QsK (WB _ (by exact rfl) (by exact rfl));apply QM a;refine Js (Dc F A B f n L) L.length (s0:=⟨[(0,.ptr f 0 0 0),(1,.ptr n 0 0 0),(5,.nil),(17,ints L),(18,Qb L.length),(19,Qb 0)],_⟩) QQ ⟨⟨_,_,.inl ⟨rfl,σ⟩,⟨_,rfl⟩,rfl⟩⟩ ?_;rintro k _ hk ⟨d,H,C,hx,rfl⟩;have a0:∀g,XR (H++g) f A:=λg=>by
  obtain⟨x,rfl⟩:=hx;exact UN.more λl o e=>by rw[Wu];exact Ee l o e
 have W:∀g,XR (H++g) n B:=λg=>by
  obtain⟨x,rfl⟩:=hx;exact UO.more λl o e=>by rw[Wu];exact Ee l o e
 have Y:XR H f A:=by have:=a0 [];rwa [Jv]at this
 by_cases j:k<L.length
 .have N:=Q1 j;obtain⟨id,Q⟩:∃id,id=L.getD k 0:=⟨_,rfl⟩;have c:(L.take (k+1)).filter (W7 A B)=(L.take k).filter (W7 A B)++(if W7 A B id then [id] else []):=by
   rw[getD_take L 0 k j,Se,<- Q];cases b:W7 A B id<;>simp[b]
  have E:=Pr Y id;have t:=λg=>Pr (W g) id;have I:=Vl (show k<4611686018427387904 from ω);cases M:QC A id with
  | some x=>
   rw[M]at E;simp only[Vn,wz,VB]at E;cases v:QC B id with
   | some y=>
    rw[v]at t;simp only[Vn,wz,VB]at t;apply Qh a;simp only[go_sem,Qa,N,j,<- Q];apply JD a wS E;apply QM a;refine Xg a wS ?_ (t _) ?_
    .simp only[go_sem,Qa,bne,QiJ]
    apply Qh a;simp only[go_sem,Qa,bne,QiJ];by_cases e:x=y
    .have b:W7 A B id=false:=by unfold W7;rw[M,v,e];simp
     have R:=Q1 e;simp only[go_sem,Qa,R];refine⟨j,_,QH.frame (fr':=[(0,.ptr f 0 0 0),(1,.ptr n 0 0 0),(5,d),(17,ints L),(18,Qb L.length),(19,Qb (k+1:Nat))]) (by simp only[go_sem,I]),Dc.of (by rw[c,b,Qe π,Jv];exact C.app _) (hx.app _)⟩
    .have b:W7 A B id=true:=by unfold W7;rw[M,v];simpa using e
     have R:=QU e;rcases C with ⟨rfl,r⟩|⟨q,g,O,s,rfl,⟨u,rfl⟩,p,K⟩
     .simp only[go_sem,Qa,R,Go.undef];refine⟨j,_,QH.frame (fr':=[(0,.ptr f 0 0 0),(1,.ptr n 0 0 0),(5,.ref (H.length+3) 0 0 1),(17,ints L),(18,Qb L.length),(19,Qb (k+1:Nat))]) (by simp only[go_sem,I]),Dc.of (.inr ⟨H.length+3,0,0,λ_=>[Qb id],?_,⟨by have:=hx.len;omega,rfl⟩,?_,?_⟩) (hx.app _)⟩
      .rw[c,r,b];rfl
      .rw[c,r,b,Wm rfl];rfl
      .rw[c,r,b];intro i z;obtain rfl:i=0:=by simp at z;omega
       rfl
     .have m:=Qc p;rw[JM]at p;simp only[go_sem,Qa,R,Go.undef,p,m];refine⟨by have:=qS (W7 A B) (L.take k);simp at this;omega,j,_,QH.frame (fr':=[(0,.ptr f 0 0 0),(1,.ptr n 0 0 0),(5,.ref q (g+1) 0 (((L.take k).filter (W7 A B)).length+1)),(17,ints L),(18,Qb L.length),(19,Qb (k+1:Nat))]) (by simp only[go_sem,I]),Dc.of (.inr ⟨q,g+1,0,KB ((L.take k).filter (W7 A B)).length 0 s (λ_=>[Qb id]),?_,⟨u,rfl⟩,?_,?_⟩) ((hx.set u _).app _)⟩
      .rw[c,b];simp
      .rw[c,b,QJ (by simpa using m),Qy m];simp[Qb]
      .rw[c,b];exact Mm K
   | none=>
    rw[v]at t;simp only[xJ,YF,zG]at t;have b:W7 A B id=true:=by unfold W7;rw[M,v];simp
    apply Qh a;simp only[go_sem,Qa,N,j,<- Q];apply JD a wS E;apply QM a;refine Xg a wS ?_ (t _) ?_
    .simp only[go_sem,Qa,bne,Go.undef,PW,PX]
    apply Qh a;simp only[go_sem,Qa,bne,Go.undef,PW,PX];rcases C with ⟨rfl,r⟩|⟨q,g,O,s,rfl,⟨u,rfl⟩,p,K⟩
    ·(try simp only[go_sem,Qa,Go.undef])
     refine⟨j,_,QH.frame (fr':=[(0,.ptr f 0 0 0),(1,.ptr n 0 0 0),(5,.ref (H.length+3) 0 0 1),(17,ints L),(18,Qb L.length),(19,Qb (k+1:Nat))]) (by simp only[go_sem,I]),Dc.of (.inr ⟨H.length+3,0,0,λ_=>[Qb id],?_,⟨by have:=hx.len;omega,rfl⟩,?_,?_⟩) (hx.app _)⟩
     .rw[c,r,b];rfl
     .rw[c,r,b,Wm rfl];rfl
     .rw[c,r,b];intro i z;obtain rfl:i=0:=by simp at z;omega
      rfl
    .have m:=Qc p;rw[JM]at p;simp only[go_sem,Qa,Go.undef,p,m];refine⟨by have:=qS (W7 A B) (L.take k);simp at this;omega,j,_,QH.frame (fr':=[(0,.ptr f 0 0 0),(1,.ptr n 0 0 0),(5,.ref q (g+1) 0 (((L.take k).filter (W7 A B)).length+1)),(17,ints L),(18,Qb L.length),(19,Qb (k+1:Nat))]) (by simp only[go_sem,I]),Dc.of (.inr ⟨q,g+1,0,KB ((L.take k).filter (W7 A B)).length 0 s (λ_=>[Qb id]),?_,⟨u,rfl⟩,?_,?_⟩) ((hx.set u _).app _)⟩
     .rw[c,b];simp
     .rw[c,b,QJ (by simpa using m),Qy m];simp[Qb]
     .rw[c,b];exact Mm K
  | none=>
   rw[M]at E;simp only[xJ,YF,zG]at E;cases v:QC B id with
   | some y=>
    rw[v]at t;simp only[Vn,wz,VB]at t;have b:W7 A B id=true:=by unfold W7;rw[M,v];simp
    apply Qh a;simp only[go_sem,Qa,N,j,<- Q];apply JD a wS E;apply QM a;refine Xg a wS ?_ (t _) ?_
    .simp only[go_sem,Qa,bne,Go.undef,PW,PX]
    apply Qh a;simp only[go_sem,Qa,bne,Go.undef,PW,PX];rcases C with ⟨rfl,r⟩|⟨q,g,O,s,rfl,⟨u,rfl⟩,p,K⟩
    ·(try simp only[go_sem,Qa,Go.undef])
     refine⟨j,_,QH.frame (fr':=[(0,.ptr f 0 0 0),(1,.ptr n 0 0 0),(5,.ref (H.length+3) 0 0 1),(17,ints L),(18,Qb L.length),(19,Qb (k+1:Nat))]) (by simp only[go_sem,I]),Dc.of (.inr ⟨H.length+3,0,0,λ_=>[Qb id],?_,⟨by have:=hx.len;omega,rfl⟩,?_,?_⟩) (hx.app _)⟩
     .rw[c,r,b];rfl
     .rw[c,r,b,Wm rfl];rfl
     .rw[c,r,b];intro i z;obtain rfl:i=0:=by simp at z;omega
      rfl
    .have m:=Qc p;rw[JM]at p;simp only[go_sem,Qa,Go.undef,p,m];refine⟨by have:=qS (W7 A B) (L.take k);simp at this;omega,j,_,QH.frame (fr':=[(0,.ptr f 0 0 0),(1,.ptr n 0 0 0),(5,.ref q (g+1) 0 (((L.take k).filter (W7 A B)).length+1)),(17,ints L),(18,Qb L.length),(19,Qb (k+1:Nat))]) (by simp only[go_sem,I]),Dc.of (.inr ⟨q,g+1,0,KB ((L.take k).filter (W7 A B)).length 0 s (λ_=>[Qb id]),?_,⟨u,rfl⟩,?_,?_⟩) ((hx.set u _).app _)⟩
     .rw[c,b];simp
     .rw[c,b,QJ (by simpa using m),Qy m];simp[Qb]
     .rw[c,b];exact Mm K
   | none=>
    rw[v]at t;simp only[xJ,YF,zG]at t;have b:W7 A B id=false:=by unfold W7;rw[M,v];simp
    apply Qh a;simp only[go_sem,Qa,N,j,<- Q];apply JD a wS E;apply QM a;refine Xg a wS ?_ (t _) ?_
    .simp only[go_sem,Qa,bne,Go.undef,PW,PX]
    apply Qh a;simp only[go_sem,Qa,bne,Go.undef,PW,PX];refine⟨j,_,QH.frame (fr':=[(0,.ptr f 0 0 0),(1,.ptr n 0 0 0),(5,d),(17,ints L),(18,Qb L.length),(19,Qb (k+1:Nat))]) (by simp only[go_sem,I]),Dc.of (by rw[c,b,Qe π,Jv];exact C.app _) (hx.app _)⟩
 .have Jt:k=L.length:=ω;have N:=QU j;rw[Jt,YH]at C;have Ad:BG A B=L.filter (W7 A B):=by rw[U];rfl
  rw[<- Ad]at C;have a3:(BG A B).length<200000:=by have:=qS (W7 A B) L;rw[Ad];omega
  rcases C with ⟨rfl,r⟩|⟨q,g,O,s,rfl,⟨u,rfl⟩,p,K⟩
  .apply Qh a;simp only[go_sem,Qa,N];apply QM a;refine JO a fS (Qgq H) λd h P=>?_;obtain⟨rfl,rfl⟩:=P;apply Za a;have S:Kq A B=[]:=by unfold Kq;rw[r];simp[sorted,jF,cN]
   apply qy a QfA Qyq;apply QM a;exact KC.done Ze hx (.inl ⟨rfl,S⟩)
  .have m:=Qc p;apply Qh a;simp only[go_sem,Qa,N];apply QM a;refine JO a fS (Qgp p ω K ω) λd h P=>?_;obtain⟨rfl,rfl⟩:=P;apply Za a;obtain⟨Z,T⟩:∃Z,Z=sorted (BG A B):=⟨_,rfl⟩;have V:Z.length=(BG A B).length:=by rw[T,HE]
   rw[<- T,<- V];refine Tl (QH.rows q (MW Z.toArray) (Qy m) (λi z=>?_)) ?_
   .dsimp only at z ⊢;unfold wY;rw[Qf ⟨Z9 _,ω⟩,B8,Qyg];simp[jI]
   rw[JS];dsimp only;have S:jF Z=Kq A B:=by rw[T];rfl
   have hc:=Qyr (h:=H.set q (Db g Z.toArray)) (lo:=q) (g:=g) (Z:=Z) (Qy m) ω;rw[S]at hc;have JQ:Z.toArray.size=Z.length:=σ;rw[<- JQ];refine JO a QfA (JQ▸hc) λd h P=>?_;obtain⟨rfl,VU,rfl,Ie⟩:=P;apply Za a;rw[JS];refine KC.done Ze (hx.set u _) (.inr ⟨q,g,0,VU,rfl,⟨u,rfl⟩,by rw[Qy m,JM],λi z=>by rw[JM];exact Ie i z⟩)
def QiK{h}{b a}{A B:List Qq}(g:XR h b A)(f:XR h a B)(e:A.length<100000)(c:B.length<100000):
  Zf prog 72 h [.ptr b 0 0 0,.ptr a 0 0 0] (λd=>d=ints (Kq A B)):=KC.closed (Qyt g f e c)
def vV(T:List Qq):Prop:=∀c∈T,Qq.Ok c
def Cv.Ok.nn{c:Cv}(h:Cv.Ok c):c.Nn:=⟨(wf_u64 h.1).1,(wf_u64 h.2.1).1,(wf_u64 h.2.2.1).1⟩
def Qq.Ok.nn{c:Qq}(h:Qq.Ok c):c.Nn:=⟨h.2.2.2.1.nn,h.2.2.2.2.1.nn,h.2.2.2.2.2.1.nn⟩
def Cv.Ok.lt{c:Cv}(h:Cv.Ok c):(Zq c).Lt:=by
 have e:=wf_u64 h.1;have b:=wf_u64 h.2.1;have a:=wf_u64 h.2.2.1;refine⟨?_,?_,?_⟩<;>(simp only[Zq];omega)
def vV.Qyy{T}(h:vV T):∀c∈XA T,c.Lt:=λc a=>by
 obtain⟨x,hx,rfl⟩:=JA.1 a;exact(h x (JI.1 hx).1).2.2.2.1.lt
def vV.one{T}(h:vV T)(a:Xw T){c}(b:JV.Ok c):vV (CV T c):=by
 unfold CV;split
 .split
  .exact λd hd=>h d (JI.1 hd).1
  .intro d hd;rcases Bt a c.cls hd with rfl|hd
   .exact b.2.1
   .exact h d hd
 .exact h
def YB:List Qq->List JV->Nat->Int × Nat × List Qq
 | T,[],_=>(0,0,T)
 | T,c::l,i=>if yn T c≠0 then (yn T c,i,T) else YB (CV T c) l (i+1)
def yr(T:List Qq)(t:Int)(l:List JV):Int:=
 if 32<l.length then 2 else if (YB T l 0).1≠0 then (YB T l 0).1 else yq t (XA (YB T l 0).2.2)
def PY(T:List Qq)(l:List JV):Nat:=if 32<l.length then 0 else if (YB T l 0).1≠0 then (YB T l 0).2.1 else 0
def Jy(T:List Qq)(l:List JV):List Qq:=(YB T l 0).2.2
def QiL:∀(l:List JV) (T:List Qq) (i:Nat),KU T->vV T->(∀c∈l,JV.Ok c)->KU (YB T l i).2.2/\vV (YB T l i).2.2
 | [],T,i,I,K,_=>⟨I,K⟩
 | c::l,T,i,I,K,a=>by
  rw[YB];split
  .exact⟨I,K⟩
  .exact QiL l _ _ (I.one c) (K.one I.rising (a c σ)) λd b=>a d (by simp[b])
def Qyz{b T}{l:List JV}{k}(a:k<l.length)(h:YB b l 0=YB T (l.drop k) k):YB b l 0=if yn T (l.getD k default)≠0 then (yn T (l.getD k default),k,T) else YB (CV T (l.getD k default)) (l.drop (k+1)) (k+1):=by
 rw[h,Sd a,YB,Q7,QT a];rfl
@[go_sem] def UP(l:List JV):D:=.imm 15 l.length (JV.rows l)
def QyA{S}{h}{t}{T}(R:WA S h t T)(I:KU T)(K:vV T)(n)(KS:1<=n)(KM:n<=65536)(l:List JV)(W:∀c∈l,JV.Ok c)(hl:l.length<1000000):
  QI prog 71 h [.ptr t 0 0 0,Qb n,UP l] (λd o=>∃p,d=.tup [if yr T n l=0 then .ptr p 0 0 0 else .raw (.pointer none),Qb (PY T l),Qb (yr T n l)]/\(yr T n l=0->WA (λl=>h.length<=l) o p (Jy T l))/\∃g,o=h++g):=by
 have d1:decide (n<1)=false:=QU ω;have d2:decide (65536<n)=false:=QU ω;by_cases C:32<l.length
 .have d3:decide ((32:Int)<(l.length:Int))=true:=Q1 ω;have e1:yr T n l=2:=Qf C;have e2:PY T l=0:=Qf C;refine Q3 func71 ntmps71 results71 λu w U e=>?_;simp only[go_sem,Qa,d1,d2,d3];rw[e1,e2];exact⟨0,rfl,(λh=>absurd h π),[],(Jv _).symm⟩
 .have d3:decide ((32:Int)<(l.length:Int))=false:=QU ω;refine Q3 func71 ntmps71 results71 λu w U e=>?_;simp only[go_sem,Qa,d1,d2,d3];refine JO e Qfv (QhQ R) λd h E=>?_;obtain⟨rfl,R2,g,rfl,hg⟩:=E;apply Za e;have z:PY T l=if (YB T l 0).1≠0 then (YB T l 0).2.1 else 0:=Qe C;have y:yr T n l=if (YB T l 0).1≠0 then (YB T l 0).1 else yq n (XA (YB T l 0).2.2):=Qe C;refine Js (λk P=>∃a H,WA (λl=>h.length<=l) H (h.length+1) a/\KU a/\vV a/\YB T l 0=YB a (l.drop k) k/\(∃g,H=h++g)/\P=⟨[(1,Qb n),(9,.ptr (h.length+1) 0 0 0),(30,UP l),(31,Qb l.length),(32,Qb k)],H⟩) l.length (s0:=⟨[(1,Qb n),(9,.ptr (h.length+1) 0 0 0),(30,UP l),(31,Qb l.length),(32,Qb 0)],h++g⟩) QQ ⟨T,_,R2,I,K,rfl,⟨_,rfl⟩,rfl⟩ ?_;rintro k _ hk ⟨a,H,L,B,M,v,⟨f,rfl⟩,rfl⟩;by_cases j:k<l.length
  .have J:=Q1 j;have q:=Qyz j v;have s:JV.Ok (l.getD k default):=W _ (zR l default k j);obtain⟨x,hx⟩:∃x,x=l.getD k default:=⟨_,rfl⟩;rw[<- hx]at q s;have cV:=λg=>(show QI prog 108 (h++(f++g)) [.ptr (h.length+1) 0 0 0,.agg x.cells] (λd o=>d=Qb (yn a x)/\WA (λl=>h.length<=l/\l<(h++f).length) o (h.length+1) (CV a x)/\Step (λl=>h.length<=l/\l<(h++f).length) (h++(f++g)) o) by rw[<- Wu];exact QwQ (L.app g) B x);have Zs:=Vl (show k<4611686018427387904 from ω);apply Qh e;simp only[go_sem,Qa,J,j,JV.xY,<- hx];refine JO e QsJ (cV _) λd F E=>?_;obtain⟨rfl,R6,Q⟩:=E;have r:∃g,F=h++g:=by
    refine⟨F.drop h.length,?_⟩;apply AO;intro i;by_cases N:i<h.length
    .rw[QJ N,Q.keep i ξ (λh=>by have:=h.1;omega),QJ N]
    .rw[Kw ω,GO];congr 1;omega
   have R7:WA (λl=>h.length<=l) F (h.length+1) (CV a x):=R6.step λl _ V=>⟨V.1,rfl⟩;apply Za e;by_cases b:yn a x=0
   .rw[Qe (by simpa using b)]at q;have d0:(yn a x != 0)=false:=by simpa using b
    simp only[go_sem,d0];exact⟨j,_,QH.frame (by simp only[go_sem,Zs]),CV a x,_,R7,B.one x,M.one B.rising s,q,r,rfl⟩
   .rw[Qf (by simpa using b)]at q;have d0:(yn a x != 0)=true:=by simpa using b
    simp only[go_sem,d0];rw[z,y,q];simp only[Qf (show yn a x≠0 from b),Qe b];exact⟨0,trivial,(λh=>absurd h b),r⟩
  .have Jt:k=l.length:=ω;have J:=QU j;rw[Jt,List.drop_length,YB]at v;rw[v]at z y;simp only[ne_eq,not_true_eq_false,zG]at z y;have Y:Jy T l=a:=by unfold Jy;rw[v]
   have O:=B.len;have Ig:Zf prog 102 (h++f) [.ptr (h.length+1) 0 0 0] (λd=>d=Yl (XA a)):=by
    obtain⟨m,c,es,h1,h2,Z⟩:=L.toR;exact Qyf _ _ m c Z ω h1 h2 (λx hx=>(M x hx).nn)
   have Kx:=Qyb a;apply Qh e;simp only[go_sem,Qa,J];apply QM e;apply JD e QsH Ig;apply QM e;apply qy e QsI (Qx4 n (XA a) ω M.Qyy);apply QM e;rw[z,y,Y];by_cases b:yq n (XA a)=0
   .have d0:(yq n (XA a) != 0)=false:=by simpa using b
    simp only[go_sem,Qa,d0];rw[b];exact⟨h.length+1,σ,λ_=>L,f,rfl⟩
   .have d0:(yq n (XA a) != 0)=true:=by simpa using b
    simp only[go_sem,Qa,d0];exact⟨0,by simp[b],λh=>absurd h b,f,rfl⟩
def UR{T}(I:KU T)(K:vV T){l}(a:∀c∈l,JV.Ok c):KU (Jy T l)/\vV (Jy T l):=QiL l T 0 I K a
def Ih(T:List Qq)(a:Int):Bool:=decide (1<QS ((QC T a).getD default).rt)
def ur(A B:List Qq):Bool:=(Kq A B).any λid=>Ih A id || Ih B id
structure Nd where
 c:Qq
 Zw:Nat
 du:Du
 sh:Sh
 cp:Cp
 q:Qu
instance:Inhabited Nd:=⟨⟨default,0,default,default,default,default⟩⟩
def K8(d:D)(n:Nd):List D:=d::(n.c.cells++(u64 n.Zw::(n.du.cells++(n.sh.cells++n.cp.cells))))
section
variable (d:D)(n:Nd)
@[go_sem] theorem QH9:(K8 d n).getD 0 D.undef=d:=rfl
@[go_sem] theorem QIa:(List.drop 1 (K8 d n)).getD 0 D.undef=Qb n.c.iD:=rfl
@[go_sem] theorem QIb:(List.drop 2 (K8 d n)).getD 0 D.undef=Qb n.c.parent:=rfl
@[go_sem] theorem QIc:(List.drop 3 (K8 d n)).getD 0 D.undef=QZ n.c.leaf:=rfl
@[go_sem] theorem QId:(List.drop 15 (K8 d n)).getD 0 D.undef=u64 n.Zw:=rfl
@[go_sem] theorem QIe:(List.drop 36 (K8 d n)).getD 0 D.undef=u64 n.du.KN:=rfl
@[go_sem] theorem QIf:(List.drop 37 (K8 d n)).getD 0 D.undef=u64 n.du.dead:=rfl
@[go_sem] theorem QIg:(List.drop 48 (K8 d n)).getD 0 D.undef=u64 n.sh.time:=rfl
@[go_sem] theorem QIh:(List.drop 59 (K8 d n)).getD 0 D.undef=u64 n.cp.fit:=rfl
@[go_sem] theorem QIi:List.take 14 (List.drop 1 (K8 d n))=n.c.cells:=rfl
@[go_sem] theorem QIj:List.take 3 (List.drop 4 (K8 d n))=n.c.rt.cells:=rfl
@[go_sem] theorem QIk:List.take 3 (List.drop 7 (K8 d n))=n.c.ls.cells:=rfl
@[go_sem] theorem QIl:List.take 3 (List.drop 10 (K8 d n))=n.c.ul.cells:=rfl
@[go_sem] theorem QIm:List.take 22 (List.drop 16 (K8 d n))=n.du.cells:=rfl
@[go_sem] theorem QIn:List.take 11 (List.drop 38 (K8 d n))=n.sh.cells:=rfl
@[go_sem] theorem QIo:List.take 11 (List.drop 49 (K8 d n))=n.cp.cells:=rfl
@[go_sem] theorem QIp(v):List.take 15 (K8 d n)++(.raw (.int .u64 ((v:Nat):Int))::List.drop 16 (K8 d n))=K8 d { n with Zw:=v }:=rfl
@[go_sem] theorem QIq(x:Du):List.take 16 (K8 d n)++(.raw (.bool x.has)::.raw (.int .u64 ((x.dl.f.x:Nat):Int))::.raw (.int .u64 ((x.dl.f.y / 18446744073709551616:Nat):Int))::.raw (.int .u64 ((x.dl.f.y % 18446744073709551616:Nat):Int))::.raw (.int .u64 ((x.dl.f.m:Nat):Int))::.raw (.int .u64 ((x.dl.t.x:Nat):Int))::.raw (.int .u64 ((x.dl.t.y / 18446744073709551616:Nat):Int))::.raw (.int .u64 ((x.dl.t.y % 18446744073709551616:Nat):Int))::.raw (.int .u64 ((x.dl.t.m:Nat):Int))::.raw (.bool x.dl.b)::.raw (.int .u64 ((x.rd.f.x:Nat):Int))::.raw (.int .u64 ((x.rd.f.y / 18446744073709551616:Nat):Int))::.raw (.int .u64 ((x.rd.f.y % 18446744073709551616:Nat):Int))::.raw (.int .u64 ((x.rd.f.m:Nat):Int))::.raw (.int .u64 ((x.rd.t.x:Nat):Int))::.raw (.int .u64 ((x.rd.t.y / 18446744073709551616:Nat):Int))::.raw (.int .u64 ((x.rd.t.y % 18446744073709551616:Nat):Int))::.raw (.int .u64 ((x.rd.t.m:Nat):Int))::.raw (.bool x.rd.b)::.raw (.int .u64 ((x.QA:Nat):Int))::.raw (.int .u64 ((x.KN:Nat):Int))::.raw (.int .u64 ((x.dead:Nat):Int))::List.drop 38 (K8 d n))=K8 d { n with du:=x }:=rfl
@[go_sem] theorem QyB(x:Sh):List.take 38 (K8 d n)++(.raw (.bool x.has)::.raw (.int .u64 ((x.run.f.x:Nat):Int))::.raw (.int .u64 ((x.run.f.y / 18446744073709551616:Nat):Int))::.raw (.int .u64 ((x.run.f.y % 18446744073709551616:Nat):Int))::.raw (.int .u64 ((x.run.f.m:Nat):Int))::.raw (.int .u64 ((x.run.t.x:Nat):Int))::.raw (.int .u64 ((x.run.t.y / 18446744073709551616:Nat):Int))::.raw (.int .u64 ((x.run.t.y % 18446744073709551616:Nat):Int))::.raw (.int .u64 ((x.run.t.m:Nat):Int))::.raw (.bool x.run.b)::.raw (.int .u64 ((x.time:Nat):Int))::List.drop 49 (K8 d n))=K8 d { n with sh:=x }:=rfl
@[go_sem] theorem QIr(x:Cp):List.take 49 (K8 d n)++(.raw (.bool x.has)::.raw (.int .u64 ((x.run.f.x:Nat):Int))::.raw (.int .u64 ((x.run.f.y / 18446744073709551616:Nat):Int))::.raw (.int .u64 ((x.run.f.y % 18446744073709551616:Nat):Int))::.raw (.int .u64 ((x.run.f.m:Nat):Int))::.raw (.int .u64 ((x.run.t.x:Nat):Int))::.raw (.int .u64 ((x.run.t.y / 18446744073709551616:Nat):Int))::.raw (.int .u64 ((x.run.t.y % 18446744073709551616:Nat):Int))::.raw (.int .u64 ((x.run.t.m:Nat):Int))::.raw (.bool x.run.b)::.raw (.int .u64 ((x.fit:Nat):Int))::List.drop 60 (K8 d n))=K8 d { n with cp:=x }:=rfl
end
inductive Tag where
 | no|sc|tree|uu|x9 (id:Int)|zn (id:Int)|on|lv|mk|Yn (id:Int)|QyC
deriving DecidableEq
def QY(a:Nat->Tag)(h:List Ob)(t:Tag):Nat->Tag:=λl=>if h.length<=l then t else a l
def iW{a}{h}{t}(l):more (λl=>a l=t) h l->QY a h t l=t:=λb=>by
 unfold QY;split
 .rfl
 .rcases b with b|b
  .exact b
  .omega
def Kz{a}{h:List Ob}{t}{l}(b:l<h.length):QY a h t l=a l:=by unfold QY;rw[Qe ω]
structure Ql where
 lk:Cf
 T:List Qq
 To:List Qq
 N:List Nd
 A:List Int
 Lv:List It
 ks:Int->Bool
 KT:Int->List It
 Qd:Nat
 acc:Nat
structure Loc where
 t:Nat
 b:Nat
 o:Nat
 v:Nat
 m:Nat
 cb:Nat
 cm:Nat
 eb:List ZQ
 em:List ZQ
 le:Int->Nat
 lq:Int->Nat
 lk:Int->Nat
def Qj(N:List Nd)(a:Int):Option Nd:=N.find? λn=>n.c.iD==a
@[go_sem] def kR(c:Cf)(t b o v m d a:Nat):Ob:=⟨.one,0,9,1,λ_=>[Qb c.t,Qb c.ZJ,.ptr t 0 0 0,.mref b 0,.ptr o 0 0 0,.ptr v 0 0 0,.mref m 0,u64 d,u64 a]⟩
@[go_sem] def qc(d:D)(n:Nd):Ob:=⟨.one,0,60,1,λ_=>K8 d n⟩
def qD(a:Int->Nat)(n:Nd):D:=if n.c.leaf=true then .ptr (a n.c.iD) 0 0 0 else .raw (.pointer none)
structure Nd.Ok (n:Nd):Prop where
 Zw:n.Zw<18446744073709551616
 du:n.du.Ok
 sh:n.sh.Ok
 cp:n.cp.Ok
 c:Qq.Ok n.c
structure ZL (own:Nat->Tag) (h:List Ob) (p:Nat) (L:Loc) (M:Ql):Prop where
 ob:h[p]? = some (kR M.lk L.t L.b L.o L.v L.m M.Qd M.acc)
 op:own p=.sc
 tr:WA (λl=>own l=.tree) h L.t M.T
 VV:h[L.b]? = some (QR .i64 L.cb L.eb)
 qd:Vd L.eb (λid=>(Qj M.N id).map λ_=>.ptr (L.le id) 0 0 0)
 ow:own L.b=.uu
 JH:∀id n,Qj M.N id=some n->h[L.le id]? = some (qc (qD L.lq n) n)/\own (L.le id)=.x9 id
 XB:∀id n,Qj M.N id=some n->n.c.leaf=true->∃k:Nat,n.c.Z4=k/\xi (λl=>own l=.zn id) h (L.lq id) k n.c.bytes n.q
 qG:jC (λl=>own l=.on) h L.o M.To M.A
 Yo:W0 (λl=>own l=.lv) h L.v M.Lv
 Wi:h[L.m]? = some (QR .i64 L.cm L.em)
 X3:Vd L.em (λid=>if M.ks id=true then some (.ptr (L.lk id) 0 0 0) else none)
 om:own L.m=.mk
 kids:∀id,M.ks id=true->W0 (λl=>own l=.Yn id) h (L.lk id) (M.KT id)
 qH:∀id n,Qj M.N id=some n->n.Ok
def W0.step{S S'}{h h':List Ob}{p}{L}(e:∀l,l<h.length->S l->S' l/\h'[l]? = h[l]?):W0 S h p L->W0 S' h' p L:=λ⟨a,m,t,c,g,T⟩=>
 have k:∀l o,S l->h[l]? = some o->h'[l]? = some o:=λl o f d=>(e l (Qc d) f).2.trans d
 ⟨a,m,t,c,g,k _ _ T.sp T.o,⟨k _ _ T.sa T.av.o,T.av.is.frame λl b=>(e l (T.av.is.lt l b) (T.st l b)).2,T.av.list,T.av.nd,T.av.out,T.av.sorted⟩,k _ _ T.sm T.mo,T.mp,T.vi,T.pa,T.pm,T.am,T.pt,T.mt,(e _ (Qc T.o) T.sp).1,(e _ (Qc T.av.o) T.sa).1,(e _ (Qc T.mo) T.sm).1,λl b=>(e l (T.av.is.lt l b) (T.st l b)).1⟩
def Live(t:Tag):Prop:=t≠.no/\t≠.QyC
def ZL.step{c own'}{h h':List Ob}{p}{L}{M}(C:ZL c h p L M)(e:∀l,l<h.length->Live (c l)->own' l=c l/\h'[l]? = h[l]?):ZL own' h' p L M:=by
 have k:∀l o t,c l=t->Live t->h[l]? = some o->h'[l]? = some o:=λl o t d f i=>(e l (Qc i) (by rw[d];exact f)).2.trans i;have g:∀l o t,c l=t->Live t->h[l]? = some o->own' l=t:=λl o t d f i=>by rw[(e l (Qc i) (by rw[d];exact f)).1,d]
 have s:∀t,Live t->∀l,l<h.length->c l=t->own' l=t/\h'[l]? = h[l]? := λt f l m d=>by
  obtain⟨a,b⟩:=e l m (by rw[d];exact f);exact⟨by rw[a,d],b⟩
 refine⟨k _ _ _ C.op (by simp[Live]) C.ob,g _ _ _ C.op (by simp[Live]) C.ob,C.tr.step (s _ (by simp[Live])),k _ _ _ C.ow (by simp[Live]) C.VV,C.qd,g _ _ _ C.ow (by simp[Live]) C.VV,λid n j=>?_,λid n j m=>?_,C.qG.step (s _ (by simp[Live])),C.Yo.step (s _ (by simp[Live])),k _ _ _ C.om (by simp[Live]) C.Wi,C.X3,g _ _ _ C.om (by simp[Live]) C.Wi,λid r=>(C.kids id r).step (s _ (by simp[Live])),C.qH⟩
 .obtain⟨d,f⟩:=C.JH id n j;exact⟨k _ _ _ f (by simp[Live]) d,g _ _ _ f (by simp[Live]) d⟩
 .obtain⟨q,d,f⟩:=C.XB id n j m;exact⟨q,d,f.step (s _ (by simp[Live]))⟩
structure ZE (own:Nat->Tag) (h:List Ob) (own':Nat->Tag) (h':List Ob):Prop where
 same:∀l,l<h.length->own' l=own l
 keep:∀l,l<h.length->own l=Tag.no->h'[l]? = h[l]?
 len:h.length<=h'.length
def ZE.refl(a)(h):ZE a h a h:=⟨λ_ _=>rfl,λ_ _ _=>rfl,Qs _⟩
def ZE.trans{e c i}{h h' f}(a:ZE e h c h')(b:ZE c h' i f):ZE e h i f:=
 ⟨λl d=>(b.same l (wy d a.len)).trans (a.same l d),λl d g=>(b.keep l (wy d a.len) ((a.same l d).trans g)).trans (a.keep l d g),JL a.len b.len⟩
def ZE.app(a)(h g)(t):ZE a h (QY a h t) (h++g):=⟨λl b=>Kz b,λl b _=>QJ b,σ⟩
def ZE.of{own}{h b}{t}(c:t≠.no)(s:Step (λl=>own l=t) h b):ZE own h (QY own h t) b:=
 ⟨λl a=>Kz a,λl a d=>s.keep l a (by rw[d];exact λe=>c e.symm),s.len⟩
def ZE.set{own}{h:List Ob}{l}(o)(b:own l≠.no):ZE own h own (h.set l o):=⟨λ_ _=>rfl,λj c a=>Qm (λe=>b (e▸a)),σ⟩
section
variable {own:Nat->Tag}{h h':List Ob}{p:Nat}{L:Loc}{M:Ql}(C:ZL own h p L M)
include C
theorem ZL.PZ(g):ZL (QY own h .no) (h++g) p L M:=C.step λl a _=>⟨Kz a,QJ a⟩
theorem ZL.loc{l}(a:own l=.no)(o):ZL own (h.set l o) p L M:=C.step λj _ b=>⟨rfl,Qm (λe=>b.1 (by rw[<- e,a]))⟩
theorem ZL.rest{t}(s:Step (λl=>own l=t) h h'):∀u,u≠t->∀l,l<h.length->own l=u->QY own h t l=u/\h'[l]? = h[l]? := λu c l a b=>
 ⟨by rw[Kz a,b],s.keep l a (by rw[b];exact c)⟩
theorem ZL.Yn(c)(x:M.ks c=true){B}(w:W0 (more (λl=>own l=.Yn c) h) h' (L.lk c) B)(s:Step (λl=>own l=.Yn c) h h'):ZL (QY own h (.Yn c)) h' p L { M with KT:=λj=>if j=c then B else M.KT j }:=by
 have r:=C.rest s;have k:∀l o t,own l=t->t≠.Yn c->h[l]? = some o->h'[l]? = some o/\QY own h (.Yn c) l=t:=λl o t f d q=>by
  obtain⟨a,b⟩:=r t d l (Qc q) f;exact⟨b.trans q,a⟩
 refine⟨(k _ _ _ C.op σ C.ob).1,(k _ _ _ C.op σ C.ob).2,C.tr.step (r _ σ),(k _ _ _ C.ow σ C.VV).1,C.qd,(k _ _ _ C.ow σ C.VV).2,λi n g=>?_,λi n g m=>?_,C.qG.step (r _ σ),C.Yo.step (r _ σ),(k _ _ _ C.om σ C.Wi).1,C.X3,(k _ _ _ C.om σ C.Wi).2,λi v=>?_,C.qH⟩
 .obtain⟨f,d⟩:=C.JH i n g;exact k _ _ _ d σ f
 .obtain⟨u,f,d⟩:=C.XB i n g m;exact⟨u,f,d.step (r _ σ)⟩
 .by_cases e:i=c
  .subst e;dsimp only;rw[Qf rfl];exact w.mono λl m=>iW l m
  .dsimp only;rw[Qe e];exact(C.kids i v).step (r _ (by simpa using e))
theorem ZL.lv{B}(q:W0 (more (λl=>own l=.lv) h) h' L.v B)(s:Step (λl=>own l=.lv) h h'):ZL (QY own h .lv) h' p L { M with Lv:=B }:=by
 have r:=C.rest s;have k:∀l o t,own l=t->t≠.lv->h[l]? = some o->h'[l]? = some o/\QY own h .lv l=t:=λl o t d c g=>by
  obtain⟨a,b⟩:=r t c l (Qc g) d;exact⟨b.trans g,a⟩
 refine⟨(k _ _ _ C.op σ C.ob).1,(k _ _ _ C.op σ C.ob).2,C.tr.step (r _ σ),(k _ _ _ C.ow σ C.VV).1,C.qd,(k _ _ _ C.ow σ C.VV).2,λi n e=>?_,λi n e f=>?_,C.qG.step (r _ σ),q.mono λl f=>iW l f,(k _ _ _ C.om σ C.Wi).1,C.X3,(k _ _ _ C.om σ C.Wi).2,λi m=>(C.kids i m).step (r _ σ),C.qH⟩
 .obtain⟨d,c⟩:=C.JH i n e;exact k _ _ _ c σ d
 .obtain⟨j,d,c⟩:=C.XB i n e f;exact⟨j,d,c.step (r _ σ)⟩
theorem ZL.act{j}(u:jC (more (λl=>own l=.on) h) h' L.o M.To j)(s:Step (λl=>own l=.on) h h'):ZL (QY own h .on) h' p L { M with A:=j }:=by
 have r:=C.rest s;have k:∀l o t,own l=t->t≠.on->h[l]? = some o->h'[l]? = some o/\QY own h .on l=t:=λl o t d c g=>by
  obtain⟨a,b⟩:=r t c l (Qc g) d;exact⟨b.trans g,a⟩
 refine⟨(k _ _ _ C.op σ C.ob).1,(k _ _ _ C.op σ C.ob).2,C.tr.step (r _ σ),(k _ _ _ C.ow σ C.VV).1,C.qd,(k _ _ _ C.ow σ C.VV).2,λi n e=>?_,λi n e f=>?_,u.step λl _ f=>⟨iW l f,rfl⟩,C.Yo.step (r _ σ),(k _ _ _ C.om σ C.Wi).1,C.X3,(k _ _ _ C.om σ C.Wi).2,λi q=>(C.kids i q).step (r _ σ),C.qH⟩
 .obtain⟨d,c⟩:=C.JH i n e;exact k _ _ _ c σ d
 .obtain⟨m,d,c⟩:=C.XB i n e f;exact⟨m,d,c.step (r _ σ)⟩
end
def ZE.Ey{b}{h:List Ob}{a}{H:List Ob}(D:ZE b h a H){l}(e:h.length<=l)(o):ZE b h a (H.set l o):=⟨D.same,λj d c=>by rw[Qm ω];exact D.keep j d c,by simpa using D.len⟩
def Wj(N:List Nd)(a:Int)(f:Nd->Nd):List Nd:=N.map λn=>if n.c.iD=a then f n else n
def jG{N}{id}{f}(c:∀n,(f n).c.iD=n.c.iD)(j:Int):Qj (Wj N id f) j=if j=id then (Qj N j).map f else Qj N j:=by
 unfold Qj Wj;rw[List.find?_map];have e:((λn:Nd=>n.c.iD==j) ∘ λn=>if n.c.iD=id then f n else n)=λn=>n.c.iD==j:=by
  funext n;simp only[Function.comp_apply];split<;>simp[c]
 rw[e];by_cases b:j=id
 .subst b;rw[Qf rfl];cases a:N.find? λn=>n.c.iD==j with
  | none=>rfl
  | some n=>
   have:=yJ a;simp only[jr]at this;simp[this]
 .rw[Qe b];cases a:N.find? λn=>n.c.iD==j with
  | none=>rfl
  | some n=>
   have:=yJ a;simp only[jr]at this;simp only[KA];rw[Qe (by rw[this];exact b)]
section
variable {own:Nat->Tag}{h:List Ob}{p:Nat}{L:Loc}{M:Ql}(C:ZL own h p L M)
include C
theorem ZL.x9{b}{n:Nd}(g:Qj M.N b=some n)(f)(w:∀n,(f n).c=n.c)(z:∀n,(f n).q=n.q)(I:(f n).Ok):ZL own (h.set (L.le b) (qc (qD L.lq n) (f n))) p L { M with N:=Wj M.N b f }:=by
 obtain⟨F,x⟩:=C.JH b n g;have s:∀l o t,own l=t->t≠.x9 b->h[l]? = some o->(h.set (L.le b) (qc (qD L.lq n) (f n)))[l]? = some o:=λl o t q E B=>by
  rw[Qm (λe=>E (by rw[<- q,<- e,x]))];exact B
 have r:∀t,t≠.x9 b->∀l,l<h.length->own l=t->own l=t/\(h.set (L.le b) (qc (qD L.lq n) (f n)))[l]? = h[l]? := λt y l k q=>⟨q,Qm (λe=>y (by rw[<- q,<- e,x]))⟩;have H:∀n,(f n).c.iD=n.c.iD:=λn=>by rw[w]
 have u:=jG (N:=M.N) (id:=b) H;refine⟨s _ _ _ C.op σ C.ob,C.op,C.tr.step (r _ σ),s _ _ _ C.ow σ C.VV,C.qd.to λj=>?_,C.ow,λj m a=>?_,λj m a k=>?_,C.qG.step (r _ σ),C.Yo.step (r _ σ),s _ _ _ C.om σ C.Wi,C.X3,C.om,λj c=>(C.kids j c).step (r _ σ),λj m a=>?_⟩
 .dsimp only;rw[u];split
  .cases Qj M.N j<;>rfl
  .rfl
 .dsimp only at a;rw[u]at a;by_cases c:j=b
  .subst c;rw[Qf rfl,g,KA]at a;cases a;refine⟨?_,x⟩;rw[Qy (Qc F)];unfold qD;rw[w]
  .rw[Qe c]at a;obtain⟨i,d⟩:=C.JH j m a;exact⟨s _ _ _ d (by simpa using c) i,d⟩
 .dsimp only at a;rw[u]at a;by_cases c:j=b
  .subst c;rw[Qf rfl,g,KA]at a;cases a;rw[w]at k ⊢;rw[z];obtain⟨v,i,d⟩:=C.XB j n g k;exact⟨v,i,d.step (r _ σ)⟩
  .rw[Qe c]at a;obtain⟨v,i,d⟩:=C.XB j m a k;exact⟨v,i,d.step (r _ σ)⟩
 .dsimp only at a;rw[u]at a;by_cases c:j=b
  .subst c;rw[Qf rfl,g,KA]at a;cases a;exact I
  .rw[Qe c]at a;exact C.qH j m a
theorem ZL.zn{w:List Ob}{d:Int}{n:Nd}(i:Qj M.N d=some n)(J:n.c.leaf=true){k:Nat}(H:n.c.Z4=k){y:Qu}(Q:xi (λl=>own l=.zn d) w (L.lq d) k n.c.bytes y)(s:Step (λl=>own l=.zn d) h w):ZL (QY own h (.zn d)) w p L { M with N:=Wj M.N d λn=>{ n with q:=y } }:=by
 have r:=C.rest s;have g:∀l o t,own l=t->t≠.zn d->h[l]? = some o->w[l]? = some o/\QY own h (.zn d) l=t:=λl o t z I E=>by
  obtain⟨a,b⟩:=r t I l (Qc E) z;exact⟨b.trans E,a⟩
 have x:=jG (N:=M.N) (id:=d) (f:=λn=>{ n with q:=y }) (λ_=>rfl);refine⟨(g _ _ _ C.op σ C.ob).1,(g _ _ _ C.op σ C.ob).2,C.tr.step (r _ σ),(g _ _ _ C.ow σ C.VV).1,C.qd.to λj=>?_,(g _ _ _ C.ow σ C.VV).2,λj m c=>?_,λj m c F=>?_,C.qG.step (r _ σ),C.Yo.step (r _ σ),(g _ _ _ C.om σ C.Wi).1,C.X3,(g _ _ _ C.om σ C.Wi).2,λj e=>(C.kids j e).step (r _ σ),λj m c=>?_⟩
 .dsimp only;rw[x];split
  .cases Qj M.N j<;>rfl
  .rfl
 .dsimp only at c;rw[x]at c;by_cases e:j=d
  .subst e;rw[Qf rfl,i,KA]at c;cases c;obtain⟨v,u⟩:=C.JH j n i;exact g _ _ _ u σ v
  .rw[Qe e]at c;obtain⟨v,u⟩:=C.JH j m c;exact g _ _ _ u σ v
 .dsimp only at c;rw[x]at c;by_cases e:j=d
  .subst e;rw[Qf rfl,i,KA]at c;cases c;exact⟨k,H,Q.step λl _ z=>⟨iW l (.inl z),rfl⟩⟩
  .rw[Qe e]at c;obtain⟨B,v,u⟩:=C.XB j m c F;exact⟨B,v,u.step (r _ (by simpa using e))⟩
 .dsimp only at c;rw[x]at c;by_cases e:j=d
  .subst e;rw[Qf rfl,i,KA]at c;cases c;have:=C.qH j n i;exact⟨this.Zw,this.du,this.sh,this.cp,this.c⟩
  .rw[Qe e]at c;exact C.qH j m c
theorem ZL.Qd(c a):ZL own (h.set p (kR M.lk L.t L.b L.o L.v L.m c a)) p L { M with Qd:=c,acc:=a }:=by
 have i:∀l o t,own l=t->t≠.sc->h[l]? = some o->(h.set p (kR M.lk L.t L.b L.o L.v L.m c a))[l]? = some o:=λl o t b v u=>by
  rw[Qm (λe=>v (by rw[<- b,<- e,C.op]))];exact u
 have r:∀t,t≠.sc->∀l,l<h.length->own l=t->own l=t/\(h.set p (kR M.lk L.t L.b L.o L.v L.m c a))[l]? = h[l]? := λt q l k b=>⟨b,Qm (λe=>q (by rw[<- b,<- e,C.op]))⟩;refine⟨Qy (Qc C.ob),C.op,C.tr.step (r _ σ),i _ _ _ C.ow σ C.VV,C.qd,C.ow,λj m f=>?_,λj m f k=>?_,C.qG.step (r _ σ),C.Yo.step (r _ σ),i _ _ _ C.om σ C.Wi,C.X3,C.om,λj s=>(C.kids j s).step (r _ σ),C.qH⟩
 .obtain⟨g,d⟩:=C.JH j m f;exact⟨i _ _ _ d σ g,d⟩
 .obtain⟨n,g,d⟩:=C.XB j m f k;exact⟨n,g,d.step (r _ σ)⟩
end
structure Qz (M:Ql):Prop where
 tree:KU M.T
 vW:vV M.T
 to:M.To=M.T
 nodes:M.T=M.N.map (·.c)
 XS:Ac M.T M.A
 ks:∀id,M.ks id=true↔id=0\/∃n,Qj M.N id=some n/\n.c.leaf=false
 BH:∀x∈M.Lv,(QC M.T x.ki).isSome=true
 vX:∀id,∀x∈M.KT id,∃c,QC M.T x.ki=some c/\c.parent=id
 vY:∀id,∀x∈M.KT id,x.ka<=18446744073709551615
 Qd:M.Qd<=4611686018427387904
 acc:M.acc<=1099511627776
def uv(N:List Nd)(a:Int):QC (N.map (·.c)) a=(Qj N a).map (·.c):=by
 unfold QC Qj;rw[List.find?_map];rfl
section
variable {M:Ql}(I:Qz M)
include I
theorem Qz.find(a:Int):QC M.T a=(Qj M.N a).map (·.c):=by rw[I.nodes,uv]
theorem Qz.uw(a):∀x∈M.KT a,(QC M.T x.ki).isSome=true:=λx hx=>by
 obtain⟨c,b,_⟩:=I.vX a x hx;rw[b];rfl
theorem Qz.some{a}{n:Nd}(h:Qj M.N a=some n):QC M.T a=Option.some n.c:=by rw[I.find,h];rfl
omit I in
theorem Qz.id{a}{n:Nd}(h:Qj M.N a=Option.some n):n.c.iD=a:=by
 have:=yJ h;simpa using this
theorem Qz.Ii{a}{n}(h:Qj M.N a=Option.some n):a≠0:=λe=>by
 have:=I.some h;rw[e,FV I.tree]at this;cases this
theorem Qz.Ij{a}{c}(h:QC M.T a=Option.some c):∃n,Qj M.N a=Option.some n/\n.c=c:=by
 rw[I.find]at h;cases b:Qj M.N a with
 | none=>rw[b]at h;cases h
 | some n=>rw[b]at h;exact⟨n,rfl,N4 h⟩
end
def W0.nd{S}{h}{p}{L:List It}:W0 S h p L->(L.map It.ki).Nodup:=λ⟨a,m,t,c,b,T⟩=>T.ids
def UT{T}(I:KU T){L:List It}(d:(L.map It.ki).Nodup)(b:∀x∈L,(QC T x.ki).isSome=true):L.length<=64:=by
 have f:(L.map It.ki).length<=(T.map (·.iD)).length:=by
  refine List.Nodup.length_le_of_subset d λi e=>?_;obtain⟨x,hx,rfl⟩:=JA.1 e;obtain⟨c,a⟩:=Fa.1 (b x hx);exact JA.2 ⟨c,Ab I a,QuN I a⟩
 have:=I.len;simp only[KK]at f;omega
def JP(M:Ql)(a:Int):Bool:=Jx M.T M.A a
def Xo(M:Ql)(a:Int)(n:Nd):Nat:=if n.c.leaf=true\/JP M a=false then n.cp.fit else max n.cp.fit (Bz (M.KT a))
section
variable {own:Nat->Tag}{h:List Ob}{p:Nat}{L:Loc}{M:Ql}(C:ZL own h p L M)(I:Qz M)
include C I
omit I in
theorem ZL.look{a}{n}(b:Qj M.N a=some n):Ja L.eb a=some (.ptr (L.le a) 0 0 0):=by
 have:=C.qd.at_ a;rw[b]at this;exact this
theorem ZL.iX:HQ h L.o M.T M.A:=by
 have:=C.qG.toR;rwa [I.to]at this
theorem QyE{a}{n}(l:Qj M.N a=some n):Zf prog 89 h [.ptr p 0 0 0,.ptr (L.le a) 0 0 0] (λd=>d=u64 (Xo M a n)):=by
 have b:=Jc C.ob;have c:=Jc (C.JH a n l).1;have o:=Jc C.Wi;have q:=Qz.id l;have s:=Ef (C.iX I) I.tree I.XS a (I.Ii l);unfold Xo;cases i:n.c.leaf with
 | true=>
  rw[Qf (.inl rfl)];refine ZD func89 ntmps89 results89 λk w x F j y e=>?_;rw[<- j]at b c;have g:=Qc b;have f:=Qc c;simp only[go_sem,Qa,b,g,c,f];apply QB e o01;simp only[go_sem,Qa,b,g,c,f,i,Go.undef];all_goals exact Wo
 | false=>
  have u:M.ks a=true:=(I.ks a).2 (.inr ⟨n,l,i⟩);have v:=C.X3.at_ a;rw[Qf u]at v;have B:=(C.kids a u).toR;have z:Jx M.T M.A a=JP M a:=rfl;rw[z]at s;cases r:JP M a with
  | false=>
   rw[r]at s;rw[Qf (.inr rfl)];refine ZD func89 ntmps89 results89 λk w x F j y e=>?_;rw[<- j]at b c;have g:=Qc b;have f:=Qc c;simp only[go_sem,Qa,b,g,c,f];apply QB e o01;simp only[go_sem,Qa,b,g,c,f,i,Go.undef];have m:Jx M.T M.A a=false:=r;refine qz e HA ?_ (Ef ((C.iX I).more (KV j)) I.tree I.XS a (I.Ii l)) ?_
   .simp only[go_sem,Qa,b,g,c,f,i,Go.undef,q,m]
   apply Zd e;simp only[go_sem,Qa,b,g,c,f,i,Go.undef,q,m];all_goals exact Wo
  | true=>
   rw[r]at s;rw[Qe σ];have m:Jx M.T M.A a=true:=r;refine ZD func89 ntmps89 results89 λk w x F j y e=>?_;rw[<- j]at b c o;have g:=Qc b;have f:=Qc c;have t:=Qc o;simp only[go_sem,Qa,b,g,c,f,o,t];apply QB e o01;simp only[go_sem,Qa,b,g,c,f,i,Go.undef];refine qz e HA ?_ (Ef ((C.iX I).more (KV j)) I.tree I.XS a (I.Ii l)) ?_
   .simp only[go_sem,Qa,b,g,c,f,i,Go.undef,q,m]
   apply Zd e;simp only[go_sem,Qa,b,g,c,f,i,Go.undef,q,m];apply QB e o10;simp only[go_sem,Qa,b,g,c,f,o,t,v,q];apply WZ e pX (sS (B.more (KV j)) (I.vY a));apply Zd e;simp only[go_sem,Qa,b,g,c,f,o,t];apply Pa e QfE (QhP n.cp.fit (Bz (M.KT a)));apply Yx e;all_goals exact Wo
end
def Qv(M:Ql)(a:Int):Nd:=(Qj M.N a).getD default
def VF(M:Ql)(a:Int):Ql:=
 if JP M a=true then { M with KT:=λj=>if j=(Qv M a).c.parent then YA a (Qv M a).sh.time (Xo M a (Qv M a)) (M.KT (Qv M a).c.parent) else M.KT j } else M
def Wq(M:Ql):List Int->Ql
 | []=>M
 | id::r=>Wq (VF M id) r
def QiO(M):∀(l r:List Int),Wq M (l++r)=Wq (Wq M l) r
 | [],r=>rfl
 | id::l,r=>QiO (VF M id) l r
def P3(M:Ql)(a:Int):(VF M a).N=M.N/\(VF M a).T=M.T/\(VF M a).To=M.To/\(VF M a).A=M.A/\(VF M a).Lv=M.Lv/\(VF M a).ks=M.ks/\(VF M a).Qd=M.Qd/\(VF M a).acc=M.acc/\(VF M a).lk=M.lk:=by
 unfold VF;split<;>exact⟨rfl,rfl,rfl,rfl,rfl,rfl,rfl,rfl,rfl⟩
def Ez:∀(l:List Int) (M:Ql),(Wq M l).N=M.N/\(Wq M l).T=M.T/\(Wq M l).To=M.To/\(Wq M l).A=M.A/\(Wq M l).Lv=M.Lv/\(Wq M l).ks=M.ks/\(Wq M l).Qd=M.Qd/\(Wq M l).acc=M.acc/\(Wq M l).lk=M.lk
 | [],M=>⟨rfl,rfl,rfl,rfl,rfl,rfl,rfl,rfl,rfl⟩
 | id::l,M=>by
  obtain⟨s,r,q,p,o,n,m,k,j⟩:=Ez l (VF M id);obtain⟨i,h,g,f,e,d,c,b,a⟩:=P3 M id;exact⟨s.trans i,r.trans h,q.trans g,p.trans f,o.trans e,n.trans d,m.trans c,k.trans b,j.trans a⟩
def ux{M:Ql}(I:Qz M){b}{n:Nd}(c:Qj M.N b=some n)(o:n.Ok):Qz (VF M b):=by
 obtain⟨d,a,m,l,k,i,h,g,p⟩:=P3 M b;have e:Qv M b=n:=by unfold Qv;rw[c];rfl
 refine⟨by rw[a];exact I.tree,by rw[a];exact I.vW,by rw[a,m];exact I.to,by rw[a,d];exact I.nodes,by rw[a,l];exact I.XS,by rw[i,d];exact I.ks,by rw[k,a];exact I.BH,λj x hx=>?_,λj x hx=>?_,by rw[h];exact I.Qd,by rw[g];exact I.acc⟩
 .rw[a];unfold VF at hx;split at hx
  .dsimp only at hx;split at hx
   .rename_i f;subst f;rcases HP.1 hx with rfl|hx
    .exact⟨n.c,I.some c,by rw[e]⟩
    .exact I.vX _ x (JI.1 hx).1
   .exact I.vX _ x hx
  .exact I.vX _ x hx
 .unfold VF at hx;split at hx
  .dsimp only at hx;split at hx
   .rcases HP.1 hx with rfl|hx
    .rw[e];have:=o.sh.time;show n.sh.time<=_;omega
    .exact I.vY _ x (JI.1 hx).1
   .exact I.vY _ x hx
  .exact I.vY _ x hx
structure P4 (own:Nat->Tag) (h:List Ob) (p:Nat) (L:Loc) (M:Ql) (U:List Int) (k:Nat) (s:St):Prop where
 ex:∃own' H,ZL own' H p L (Wq M (U.take k))/\Qz (Wq M (U.take k))/\ZE own h own' H/\s=⟨[(0,.ptr p 0 0 0),(12,ints U),(13,Qb U.length),(14,Qb k)],H⟩
def P4.of{own}{h}{p}{L}{M}{U:List Int}{k}{a}{H}(C:ZL a H p L (Wq M (U.take k)))(I:Qz (Wq M (U.take k)))(D:ZE own h a H):P4 own h p L M U k ⟨[(0,.ptr p 0 0 0),(12,ints U),(13,Qb U.length),(14,Qb k)],H⟩:=⟨⟨a,H,C,I,D,rfl⟩⟩
def uy{M:Ql}(I:Qz M){b}{n:Nd}(c:Qj M.N b=some n):M.ks n.c.parent=true:=by
 rw[I.ks];by_cases a:n.c.parent=0
 .exact .inl a
 .obtain⟨d,g,f⟩:=I.tree.Zy n.c (Ab I.tree (I.some c)) a;obtain⟨m,e,rfl⟩:=I.Ij g;exact .inr ⟨m,e,f⟩
def uz{m}{h}{p}{L}{M:Ql}(C:ZL m h p L M)(I:Qz M)(a):QI prog 160 h [.ptr p 0 0 0,Qb a] (λd P=>∃f,ZL f P p L (Wq M (up M.T a))/\Qz (Wq M (up M.T a))/\ZE m h f P):=by
 have i:=C.ob;have V:(up M.T a).length<=16:=CM;refine Q3 func160 ntmps160 results160 λT w pl g=>?_;have q:=Qc i;simp only[go_sem,Qa,i,q];apply JD g fT (sA C.tr.toR I.tree.toTreeInv a);apply Qh g;simp only[go_sem,Qa,i,q];obtain⟨U,t⟩:∃U,U=up M.T a:=⟨_,rfl⟩;rw[show J3 M.T 16 a=U from t.symm];rw[<- t]at V ⊢;refine Js (P4 m h p L M U) U.length QQ (P4.of (k:=0) C I (ZE.refl m h)) ?_;rintro k _ hk ⟨f,H,c,e,y,rfl⟩;by_cases o:k<U.length
 .have u:=Q1 o;obtain⟨id,v⟩:∃id,id=U.getD k 0:=⟨_,rfl⟩;have z:id∈up M.T a:=by rw[v,<- t];exact zR U 0 k o
  obtain⟨e1,Q,e3,e4,e5,e6,e7,e8,Z⟩:=Ez (U.take k) M;have x:=HJ z;have r:Wq M (U.take (k+1))=VF (Wq M (U.take k)) id:=by
   rw[getD_take U 0 k o,QiO,<- v];rfl
  obtain⟨b,Gl⟩:∃b,b=Wq M (U.take k):=⟨_,rfl⟩;rw[<- Gl]at c e e1 Q e3 e4 e5 e6 e7 e8 Z r;obtain⟨n,l⟩:∃n,Qj b.N id=some n:=by
   rw[<- Q,e.find]at x;cases W:Qj b.N id with
   | none=>rw[W]at x;cases x
   | some n=>exact⟨n,rfl⟩
  have Jh:Qv b id=n:=by unfold Qv;rw[l];rfl
  have Xn:=c.look l;have i:=c.ob;have q:=Qc i;have S:=c.VV;have Aa:=Qc S;obtain⟨K,_⟩:=c.JH id n l;have ZS:=Qc K;have J:=c.Wi;have QO:=Qc J;have s:=uy e l;have E:=c.X3.at_ n.c.parent;rw[Qf s]at E;have R:=Vl (show k<4611686018427387904 from ω);apply Qh g;simp only[go_sem,Qa,u,o,<- v,i,q,S,Aa,Xn];apply JD g HA (Ef (c.iX e) e.tree e.XS id (e.Ii l));apply Qh g;simp only[go_sem,Qa,i,q];cases N:Jx b.T b.A id with
  | false=>
   have Il:VF b id=b:=by unfold VF;rw[Qe (by unfold JP;rw[N];decide)]
   rw[Il]at r;simp only[go_sem,Qa];exact⟨o,_,QH.frame (by simp only[go_sem,R]),P4.of (by rw[r];exact c) (by rw[r];exact e) y⟩
  | true=>
   have F:VF b id={ b with KT:=λj=>if j=n.c.parent then YA id n.sh.time (Xo b id n) (b.KT n.c.parent) else b.KT j }:=by
    unfold VF;rw[Qf (show JP b id=true from N),Jh]
   have O:=c.kids _ s;have P5:=Qz.id l;have Mq:=UT e.tree O.nd (e.uw _);simp only[go_sem,Qa];apply VD [19] g [0,1,2,3,4,5,6,7,8,9,10,11,12,13,14,15,16,17,1018,1019] [];simp only[go_sem,Qa,i,q,K,ZS,J,QO,E];apply WZ g Qfw (QyE c e l);apply Zd g;simp only[go_sem,Qa,i,q];refine wV g Qtz (QvD O id n.sh.time (Xo b id n) ω) λd h8 Y=>?_;obtain⟨T8,B⟩:=Y;have C8:=c.Yn _ s T8 B;apply Yx g;rw[F]at r;exact⟨o,_,QH.frame (by simp only[go_sem,R]),P4.of (by rw[r];exact C8) (by rw[r,<- F];exact ux e l (c.qH id n l)) (y.trans (ZE.of σ B))⟩
 .have Jt:k=U.length:=ω;have u:=QU o;rw[Jt,YH]at c e;apply Qh g;simp only[go_sem,Qa,u];exact⟨f,c,e,y⟩
def xn(M:Ql)(a:Nat):Bool:=!(decide (a<M.Qd) || decide (4611686018427387904<a))
def ZA(M:Ql)(a:Nat):Ql:=if xn M a=true then { M with Qd:=a } else M
section
variable {own:Nat->Tag}{h:List Ob}{p:Nat}{L:Loc}{M:Ql}(C:ZL own h p L M)
include C
theorem QiP(a):QI prog 123 h [.ptr p 0 0 0,u64 a] (λd k=>d=QZ (xn M a)/\ZL own k p L (ZA M a)/\ZE own h own k):=by
 have c:=C.ob;unfold ZA xn;by_cases j:a<M.Qd
 .have d1:=Q1 j;refine Q3 func123 ntmps123 results123 λb w f g=>?_;have e:=Qc c;simp only[go_sem,Qa,c,e,d1,Go.undef];exact⟨by simpa using C,ZE.refl own h⟩
 .have d1:=QU j;by_cases i:4611686018427387904<a
  .have d2:decide ((4611686018427387904:Int)<(a:Int))=true:=Q1 ω;have d3:=Q1 i;refine Q3 func123 ntmps123 results123 λb w f g=>?_;have e:=Qc c;simp only[go_sem,Qa,c,e,d1,d2,d3,Go.undef];exact⟨by simpa using C,ZE.refl own h⟩
  .have d2:decide ((4611686018427387904:Int)<(a:Int))=false:=QU ω;have d3:=QU i;refine Q3 func123 ntmps123 results123 λb w f g=>?_;have e:=Qc c;simp only[go_sem,Qa,c,e,d1,d2,d3,Go.undef];exact⟨C.Qd a M.acc,ZE.set _ (by rw[C.op];decide)⟩
end
def qJ(n:Nd)(b:Int)(a:Bool):Du:=if a then kF n.du b (Xk n.q) else W6 n.du (Xk n.q)
def Wr(M:Ql)(a:Int)(c:Int)(b:Bool):Ql:=
 if 1<QS (Qv M a).c.rt then { M with
   N:=Wj M.N a λn=>{ n with du:=qJ (Qv M a) c b }
   Lv:=if (Qv M a).q.l=[] then Vv a (YA a (qJ (Qv M a) c b).KN (qJ (Qv M a) c b).dead M.Lv) else YA a (qJ (Qv M a) c b).KN (qJ (Qv M a) c b).dead M.Lv }
 else M
def uA{n:Nd}(h:n.Ok)(a)(b:Bool):(qJ n a b).Ok:=by
 unfold qJ;split
 .exact tm (l:={ n.du with QA:=V5 (n.du.QA+a.toNat) }) h.du.dl h.du.rd (MK _) _
 .exact tm h.du.dl h.du.rd h.du.QA _
section
variable {own:Nat->Tag}{h:List Ob}{p:Nat}{L:Loc}{M:Ql}(C:ZL own h p L M)(I:Qz M)
include C I
theorem QyG{c}{n:Nd}(k:Qj M.N c=some n)(O:n.c.leaf=true)(j)(Y3:0<=j)(Z6:j<9223372036854775808)(F):
  QI prog 165 h [.ptr p 0 0 0,.ptr (L.le c) 0 0 0,Qb j,QZ F] (λd Z=>∃o,ZL o Z p L (Wr M c j F)/\ZE own h o Z):=by
 have e:=C.ob;have a:=(C.JH c n k).1;have S:=Qz.id k;have Jh:Qv M c=n:=by unfold Qv;rw[k];rfl
 have Ji:=C.qH c n k;have v:=Ji.du;obtain⟨kq,MX,R⟩:=C.XB c n k O;have U:qD L.lq n=.ptr (L.lq c) 0 0 0:=by unfold qD;rw[Qf O,S]
 rw[U]at a;have Im:Xk n.q<9223372036854775808:=by
  obtain⟨r,Q⟩:=R;unfold Xk;cases K:n.q.l with
  | nil=>decide
  | cons x l=>
   have:=(Q.lens x (by rw[K];simp)).2;show x.len<_;omega
 unfold Wr;rw[Jh];by_cases J:1<QS n.c.rt
 .rw[Qf J];have q:=Q1 J;refine Q3 func165 ntmps165 results165 λE w pl b=>?_;have i:=Qc e;have g:=Qc a;simp only[go_sem,Qa,e,i,a,g];refine JG b y0 ?_ (DY n.c) ?_
  .simp only[go_sem,Qa,q]
  apply Qh b;simp only[go_sem,Qa,q];have z:=uA Ji j F;cases F
  case' true=>
   have hx:qJ n j true=kF n.du j (Xk n.q):=rfl;rw[hx]at z ⊢;simp only[go_sem,Qa,q];apply QB b [0,1,2,3,4,5,6,7,8,9,1010,1011,12,13,1014];simp only[go_sem,Qa,e,i,a,g];apply WZ b QfT (QhM R.toR);apply Zd b;simp only[go_sem,Qa,e,i,a,g];refine KJ b QtD ?_ (Qwl n.du v.dl v.rd v.QA j (Xk n.q) Y3 Z6 Im) ?_
   .simp only[go_sem,Qa,e,i,a,g]
   apply Zd b;simp only[go_sem,Qa,e,i,a,g];generalize kF n.du j (Xk n.q)=x at z ⊢
  case' false=>
   have hx:qJ n j false=W6 n.du (Xk n.q):=rfl;rw[hx]at z ⊢;simp only[go_sem,Qa,q];apply QB b [0,1,2,3,4,5,6,7,8,1009,1010,11,12,1013];simp only[go_sem,Qa,e,i,a,g];apply WZ b QfT (QhM R.toR);apply Zd b;simp only[go_sem,Qa,e,i,a,g];refine KJ b QtE ?_ (Qwm n.du v.dl v.rd v.QA (Xk n.q) Im) ?_
   .simp only[go_sem,Qa,e,i,a,g]
   apply Zd b;simp only[go_sem,Qa,e,i,a,g];generalize W6 n.du (Xk n.q)=x at z ⊢
  all_goals
   have u:=C.x9 k (λm=>{ m with du:=x }) (λ_=>rfl) (λ_=>rfl) ⟨Ji.Zw,z,Ji.sh,Ji.cp,Ji.c⟩;have V:=ZE.set (own:=own) (h:=h) (qc (qD L.lq n) { n with du:=x }) (l:=L.le c) (by rw[(C.JH c n k).2];simp);rw[U]at u V;generalize hH:h.set (L.le c) (qc (.ptr (L.lq c) 0 0 0) { n with du:=x })=H at u V;have HH:h.set (L.le c) ⟨.one,0,60,1,λ_=>K8 (.ptr (L.lq c) 0 0 0) { n with du:=x }⟩=H:=hH;have T:Qj (Wj M.N c λm=>{ m with du:=x }) c=some { n with du:=x }:=by
    rw[jG (f:=λm=>{ m with du:=x }) (λ_=>rfl),Qf rfl,k];rfl
   have e:=u.ob;have i:=Qc e;have a:=(u.JH c _ T).1;have B:qD L.lq { n with du:=x }=.ptr (L.lq c) 0 0 0:=U;rw[B]at a;have g:=Qc a;have Mq:=UT I.tree u.Yo.nd I.BH;simp only[HH];apply VD [19] b [0,1,2,3,4,5,6,7,8,9,10,11,12,13,14,15,16,17,18,1019] [];simp only[go_sem,Qa,e,i,a,g];refine y6 b QfJ rfl ?_ (Qhj u.Yo c x.KN x.dead ω) rfl λd h8 P=>?_
   .simp only[go_sem,S]
   obtain⟨T8,Y⟩:=P;have s:=u.lv T8 Y;have D8:=V.trans (ZE.of (own:=own) (t:=.lv) σ Y);have e:=s.ob;have i:=Qc e;have a:=(s.JH c _ T).1;rw[B]at a;have g:=Qc a;obtain⟨a0,a1,uB⟩:=s.XB c _ T O;apply Zd b;simp only[go_sem,Qa,e,i,a,g];apply JD b OY (PG uB.toR);apply Qh b;simp only[go_sem,Qa,e,i,a,g];cases K:n.q.l with
   | cons y l=>
    have dq:(((l.length+1:Nat):Int)==0)=false:=XM ω;rw[Qe σ];simp only[go_sem,Qa,K,dq];exact⟨_,s,D8⟩
   | nil=>
    rw[Qf rfl];have Mq:=UT I.tree s.Yo.nd (λy N=>by
     rcases HP.1 N with rfl|N
     .rw[I.some k];rfl
     .exact I.BH y (JI.1 N).1)
    simp only[go_sem,Qa,K];apply VD [9] b [0,1,2,3,4,5,6,7,8,1009] [];simp only[go_sem,Qa,e,i,a,g];refine y6 b QfR rfl ?_ (Qhh s.Yo c ω) rfl λd h9 P=>?_
    .simp only[go_sem,S]
    obtain⟨rfl,T9,W⟩:=P;apply Yx b;exact⟨_,s.lv T9 W,D8.trans (ZE.of σ W)⟩
 .rw[Qe J];have q:=QU J;refine Q3 func165 ntmps165 results165 λE w pl b=>?_;have i:=Qc e;have g:=Qc a;simp only[go_sem,Qa,e,i,a,g];refine JG b y0 ?_ (DY n.c) ?_
  .simp only[go_sem,Qa,q]
  apply Qh b;simp only[go_sem,Qa,q];exact⟨own,C,ZE.refl own h⟩
end
def Gn(L:List It):Nat:=(L.head?.getD default).ka
def EA(M:Ql)(a:Nat)(n:Nd):Nd:={ n with sh:=MO n.sh (Zq n.c.ls) (Gn (M.KT n.c.parent)) n.Zw,cp:=F9 n.cp (Zq n.c.ul) a n.Zw }
def XC(a:Nat)(M:Ql)(j:Int):Ql:={ M with N:=Wj M.N j (EA M a) }
def WL(M:Ql)(c:Nat)(b:Int)(a:Int):Ql:=
 if 1<QS (Qv M b).c.rt then { M with
   N:=Wj M.N b λn=>{ n with du:=Xl (Qv M b).du (Zq (Qv M b).c.rt) c a }
   Lv:=YA b (Xl (Qv M b).du (Zq (Qv M b).c.rt) c a).KN (Xl (Qv M b).du (Zq (Qv M b).c.rt) c a).dead M.Lv }
 else M
def qf(M:Ql)(b:Nat)(c:Int)(a:Int):Ql:=
 if 1<QS (Qv M c).c.ls then Wq ((XP M.T M.A c).foldl (XC b) { WL M b c a with A:=c::M.A }) (up M.T c)
 else WL M b c a
def QyH(N:List Nd)(a)(f:Nd->Nd)(b:∀n,(f n).c=n.c):(Wj N a f).map (·.c)=N.map (·.c):=by
 unfold Wj;rw[Dw];congr 1;funext n;simp only[Function.comp_apply];split
 .exact b n
 .rfl
def Qz.Wj{M:Ql}(I:Qz M)(d)(f)(b:∀n,(f n).c=n.c):Qz { M with N:=X.Wj M.N d f }:=by
 refine⟨I.tree,I.vW,I.to,by dsimp only;rw[QyH _ _ _ b];exact I.nodes,I.XS,λj=>?_,I.BH,I.vX,I.vY,I.Qd,I.acc⟩;dsimp only;rw[I.ks,jG (λn=>by rw[b])];by_cases g:j=d
 .subst g;rw[Qf rfl];constructor
  .rintro (h|⟨n,a,c⟩)
   .exact .inl h
   .exact .inr ⟨f n,by rw[a];rfl,by rw[b];exact c⟩
  .rintro (h|⟨n,a,c⟩)
   .exact .inl h
   .cases e:Qj M.N j with
    | none=>rw[e]at a;cases a
    | some m=>
     rw[e]at a;cases a;exact .inr ⟨m,rfl,by rw[<- b];exact c⟩
 .rw[Qe g]
def Qz.lv{M:Ql}(I:Qz M){B}(h:∀x∈B,(QC M.T x.ki).isSome=true):Qz { M with Lv:=B }:=
 ⟨I.tree,I.vW,I.to,I.nodes,I.XS,I.ks,h,I.vX,I.vY,I.Qd,I.acc⟩
def Qz.act{M:Ql}(I:Qz M){B}(h:Ac M.T B):Qz { M with A:=B }:=
 ⟨I.tree,I.vW,I.to,I.nodes,h,I.ks,I.BH,I.vX,I.vY,I.Qd,I.acc⟩
def uC{c}{a b}{L}{x:It}(h:x∈YA c a b L):x.ki=c\/x∈L:=by
 rcases HP.1 h with rfl|h
 .exact .inl rfl
 .exact .inr (JI.1 h).1
def uD{M}(I:Qz M){a}(c:a<18446744073709551616){n:Nd}(h:n.Ok):(EA M a n).Ok:=by
 have d:Gn (M.KT n.c.parent)<18446744073709551616:=by
  unfold Gn;cases b:M.KT n.c.parent with
  | nil=>decide
  | cons x l=>
   have:=I.vY n.c.parent x (by rw[b];simp);show x.ka<_;omega
 exact⟨h.Zw,h.du,Qwy h.sh h.c.2.2.2.2.1.lt d h.Zw,QwE h.cp h.c.2.2.2.2.2.1.lt c h.Zw,h.c⟩
def Qz.XC{M}(I:Qz M)(a)(j):Qz (XC a M j):=I.Wj j (EA M a) λ_=>rfl
def Ip(a):∀(l:List Int) (M:Ql),(l.foldl (XC a) M).T=M.T/\(l.foldl (XC a) M).A=M.A/\(l.foldl (XC a) M).KT=M.KT/\(l.foldl (XC a) M).lk=M.lk/\(l.foldl (XC a) M).Qd=M.Qd/\(l.foldl (XC a) M).acc=M.acc
 | [],M=>⟨rfl,rfl,rfl,rfl,rfl,rfl⟩
 | j::l,M=>Ip a l (X.XC a M j)
def Qz.UU{now}:∀(l:List Int) {M:Ql},Qz M->Qz (l.foldl (X.XC now) M)
 | [],M,I=>I
 | j::l,M,I=>Qz.UU l (I.XC now j)
def MY{M:Ql}{now}{id}{head:Int}:(WL M now id head).T=M.T/\(WL M now id head).A=M.A/\(WL M now id head).KT=M.KT/\(WL M now id head).lk=M.lk:=by
 unfold WL;split<;>exact⟨rfl,rfl,rfl,rfl⟩
def Qz.WL{M:Ql}(I:Qz M){b}{n}(d:Qj M.N b=Option.some n)(c)(a):Qz (WL M c b a):=by
 unfold X.WL;split
 .refine(I.Wj b (λn=>{ n with du:=Xl (Qv M b).du (Zq (Qv M b).c.rt) c a }) λ_=>rfl).lv λx hx=>?_;rcases uC hx with h|h
  .rw[h];show (QC M.T b).isSome=true;rw[I.some d];rfl
  .exact I.BH x h
 .exact I
def QyI{M:Ql}{b}{c}{a:Int}(j){n:Nd}(d:Qj M.N j=some n):∃m,Qj (WL M b c a).N j=some m/\m.c=n.c:=by
 unfold WL;split
 .dsimp only;rw[jG (f:=λn=>{ n with du:=Xl (Qv M c).du (Zq (Qv M c).c.rt) b a }) (λ_=>rfl)];split
  .rw[d];exact⟨_,rfl,rfl⟩
  .exact⟨n,d,rfl⟩
 .exact⟨n,d,rfl⟩
def uE{c:Cv}(h:Cv.Ok c):(((Zq c).a:Nat):Int)=c.m1/\(((Zq c).d:Nat):Int)=c.d/\(((Zq c).b:Nat):Int)=c.m2:=by
 have d:=wf_u64 h.1;have b:=wf_u64 h.2.1;have a:=wf_u64 h.2.2.1;refine⟨?_,?_,?_⟩
 .show ((c.m1.toNat:Nat):Int)=_;omega
 .show ((c.d.toNat:Nat):Int)=_;omega
 .show ((c.m2.toNat:Nat):Int)=_;omega
structure UW (own:Nat->Tag) (h:List Ob) (p:Nat) (L:Loc) (M:Ql) (now:Nat) (id:Int) (lo g:Nat) (row:Nat->List D) (U:List Int) (k:Nat) (s:St):Prop where
 ex:∃own' H,ZL own' H p L ((U.take k).foldl (XC now) M)/\ZE own h own' H/\own' lo=.on/\H[lo]? = some ⟨.arr,g,1,U.length,row⟩ /\
  s=⟨[(0,.ptr p 0 0 0),(1,u64 now),(8,Qb id),(72,.ref lo g 0 U.length),(73,Qb U.length),(74,Qb k)],H⟩
def UW.of{own}{h}{p}{L}{M}{b}{e}{d g}{c}{U:List Int}{k:Nat}{a}{H:List Ob}(C:ZL a H p L ((U.take k).foldl (XC b) M))(D:ZE own h a H)(i:a d=.on)(f:H[d]? = some ⟨.arr,g,1,U.length,c⟩):
  UW own h p L M b e d g c U k ⟨[(0,.ptr p 0 0 0),(1,u64 b),(8,Qb e),(72,.ref d g 0 U.length),(73,Qb U.length),(74,Qb k)],H⟩:=⟨⟨a,H,C,D,i,f,rfl⟩⟩
def QyJ{r}{h}{p}{L}{M:Ql}(C:ZL r h p L M)(I:Qz M){i}{n:Nd}(z:Qj M.N i=some n)(hl:n.c.leaf=true)(b)(WC:b<18446744073709551616)(c)(hh:c<9223372036854775808)(Jf:JP M i=false):
  QI prog 125 h [.ptr p 0 0 0,u64 b,.ptr (L.le i) 0 0 0,Qb c] (λd h'=>∃v,ZL v h' p L (qf M b i c)/\Qz (qf M b i c)/\ZE r h v h'):=by
 have Q:=C.ob;have R:=(C.JH i n z).1;have Zg:=Qz.id z;have Jh:Qv M i=n:=by unfold Qv;rw[z];rfl
 have Ji:=C.qH i n z;obtain⟨r1,r2,r3⟩:=uE Ji.c.2.2.2.1;have K:=Qz.WL I z b c;have a8:L.le i≠p:=λe=>by have h1:=(C.JH i n z).2;rw[e,C.op]at h1;cases h1
 obtain⟨q,P6⟩:∃q,q=WL M b i c:=⟨_,rfl⟩;have uF:qf M b i c=if 1<QS n.c.ls then Wq ((XP M.T M.A i).foldl (XC b) { q with A:=i::M.A }) (up M.T i) else q:=by unfold qf;rw[Jh,P6]
 by_cases hr:1<QS n.c.rt
 case' pos=>
  have dr:=Q1 hr;have Ao:=tv Ji.du Ji.c.2.2.2.1.lt WC c;refine Q3 func125 ntmps125 results125 λa2 w pl o=>?_;have Z:=Qc Q;have Y:=Qc R;simp only[go_sem,Qa,Q,Z,R,Y];refine JG o y0 ?_ (DY n.c) ?_
  .simp only[go_sem,Qa,dr]
  apply Qh o;simp only[go_sem,Qa,dr];apply QB o [0,1,2,3,4,5,6,7,8,9,10,11,1012,13,14,1015];simp only[go_sem,Qa,Q,Z,R,Y];refine KJ o Qta ?_ (Qwv n.du Ji.du (Zq n.c.rt) Ji.c.2.2.2.1.lt b WC c hh) ?_
  .simp only[go_sem,Qa,Q,Z,R,Y,r1,r2,r3]
  apply Zd o;simp only[go_sem,Qa,Q,Z,R,Y,r1,r2,r3];have iZ:q={ M with N:=Wj M.N i λm=>{ m with du:=Xl n.du (Zq n.c.rt) b c },Lv:=YA i (Xl n.du (Zq n.c.rt) b c).KN (Xl n.du (Zq n.c.rt) b c).dead M.Lv }:=by
   rw[P6];unfold WL;rw[Jh,Qf hr]
  generalize Xl n.du (Zq n.c.rt) b c=x at Ao iZ ⊢;have C1:=C.x9 z (λm=>{ m with du:=x }) (λ_=>rfl) (λ_=>rfl) ⟨Ji.Zw,Ao,Ji.sh,Ji.cp,Ji.c⟩;have D1:=ZE.set (own:=r) (h:=h) (qc (qD L.lq n) { n with du:=x }) (l:=L.le i) (by rw[(C.JH i n z).2];simp);generalize hH:h.set (L.le i) (qc (qD L.lq n) { n with du:=x })=H at C1 D1;have HH:h.set (L.le i) ⟨.one,0,60,1,λ_=>K8 (qD L.lq n) { n with du:=x }⟩=H:=hH;have KS:Qj (Wj M.N i λm=>{ m with du:=x }) i=some { n with du:=x }:=by
   rw[jG (f:=λm=>{ m with du:=x }) (λ_=>rfl),Qf rfl,z];rfl
  have ZI:=C1.ob;have K9:=Qc ZI;have Dd:=(C1.JH i _ KS).1;have P7:=Qc Dd;have Mq:=UT I.tree C1.Yo.nd I.BH;simp only[HH];apply VD [15] o [0,1,2,3,4,5,6,7,8,9,10,11,12,13,14,1015] [];simp only[go_sem,Qa,ZI,K9,Dd,P7];refine y6 o QfJ rfl ?_ (Qhj C1.Yo i x.KN x.dead ω) rfl λd h8 hR=>?_
  .simp only[go_sem,Zg]
  obtain⟨T8,s8⟩:=hR;have E:=C1.lv T8 s8;have DR:=D1.trans (ZE.of (own:=r) (t:=.lv) σ s8);rw[<- iZ]at E;apply Yx o;generalize QY r H .lv=a7 at E DR;generalize h8=HR at E DR ⊢
 case' neg=>
  have dr:=QU hr;refine Q3 func125 ntmps125 results125 λa2 w pl o=>?_;have Z:=Qc Q;have Y:=Qc R;simp only[go_sem,Qa,Q,Z,R,Y];refine JG o y0 ?_ (DY n.c) ?_
  .simp only[go_sem,Qa,dr]
  apply Qh o;simp only[go_sem,Qa,dr];have iZ:q=M:=by rw[P6];unfold WL;rw[Jh,Qe hr]
  have E:=C;rw[<- iZ]at E;have DR:=ZE.refl r h
 all_goals
  rw[<- P6]at K;obtain⟨kT,kA,kK,kl⟩:=MY (M:=M) (now:=b) (id:=i) (head:=c);rw[<- P6]at kT kA kK kl;obtain⟨m,hm,Aj⟩:∃m,Qj q.N i=some m/\m.c=n.c:=by rw[P6];exact QyI i z
  have P8:=(E.JH i m hm).1;have a4:=Qc P8;have Vg:=E.ob;have ja:=Qc Vg;simp only[go_sem,Qa,P8,a4,Aj];apply qy o wT (wW n.c);apply QM o;by_cases V:1<QS n.c.ls;case neg=>
   have ds:=QU V;simp only[go_sem,Qa,ds];rw[uF,Qe V];exact⟨_,E,K,DR⟩
  have ds:=Q1 V;rw[Qf V,<- kA,<- kT]at uF;rw[uF];have Wh:QC q.T i=some n.c:=by rw[kT];exact I.some z
  have hO:=E.qG;rw[K.to]at hO;have a1:Jx q.T q.A i=false:=by rw[kT,kA];exact Jf
  simp only[go_sem,Qa,ds,Vg,ja];refine VY o pV rfl ?_ (Qg5 hO K.tree K.XS i n.c Wh hl V a1) rfl λd h9 hR=>?_
  .simp only[go_sem,Zg]
  obtain⟨d1,rfl,CG,O9,s9⟩:=hR;rw[<- K.to]at O9;have C9:=E.act O9 s9;have D9:=DR.trans (ZE.of (t:=.on) σ s9);have I9:Qz { q with A:=i::q.A }:=K.act (λa ha=>by
   rcases QG.1 ha with rfl|ha
   .exact⟨n.c,Wh,hl,V⟩
   .exact K.XS a ha)
  obtain⟨U,hU⟩:∃U,U=XP q.T q.A i:=⟨_,rfl⟩;rw[<- hU]at CG ⊢;have iY:U.length<=16:=by
   rw[hU];exact JL (bV _).length_le CM
  have uG:∀j∈U,j∈up q.T i:=λj W=>by rw[hU]at W;exact(bV _).subset W
  obtain⟨J,UX⟩:∃J,J={ q with A:=i::q.A }:=⟨_,rfl⟩;have ld:J.T=q.T:=by rw[UX]
  rw[<- UX]at C9 I9 ⊢;rcases CG with ⟨rfl,UY⟩|⟨lo,g,a5,a0,rfl,⟨ZM,rfl⟩,MZ,ZN⟩
  .exfalso;rw[hU,XP,VT K.tree Wh,bU,a1]at UY;cases UY
  have a6:=Qc MZ;rw[JM]at MZ;apply QM o;refine Js (UW r h p L J b i lo g a0 U) U.length (QH.frame (by simp only[go_sem,Zg])) (UW.of (k:=0) C9 D9 (by unfold QY;rw[Qf ZM]) MZ) ?_;rintro k _ hk ⟨v,H,u,Dk,FL,Kx,rfl⟩;have UZ:=Qc Kx;by_cases S:k<U.length;case neg=>
   have Jt:k=U.length:=ω;have dk:=QU S;rw[Jt,YH]at u;have T:=Qz.UU (now:=b) U I9;have M7:=(Ip b U J).1;have JB:=uz u T i;rw[M7,ld]at JB;apply Qh o;simp only[go_sem,Qa,dk];apply QM o;refine JO o pY JB λd qW hR=>?_;obtain⟨lg,Ap,lh,Iq⟩:=hR;apply QM o;exact⟨lg,Ap,lh,Dk.trans Iq⟩
  have dk:=Q1 S;obtain⟨j,W⟩:∃j,j=U.getD k 0:=⟨_,rfl⟩;have Gp:j∈up q.T i:=uG j (by rw[W];exact zR U 0 k S);have U0:a0 k=[Qb j]:=by have:=ZN k S;rw[JM]at this;rw[this,W]
  have JE:(U.take (k+1)).foldl (XC b) J=XC b ((U.take k).foldl (XC b) J) j:=by
   rw[getD_take U 0 k S,jY,<- W];rfl
  have T:=Qz.UU (now:=b) (U.take k) I9;have M7:=(Ip b (U.take k) J).1;obtain⟨B,Gl⟩:∃B,B=(U.take k).foldl (XC b) J:=⟨_,rfl⟩;rw[<- Gl]at u T M7 JE;obtain⟨y,P⟩:∃y,Qj B.N j=some y:=by
   have YN:=HJ Gp;rw[<- ld,<- M7,T.find]at YN;cases hq:Qj B.N j with
   | none=>rw[hq]at YN;cases YN
   | some y=>exact⟨y,rfl⟩
  have O:=u.qH j y P;obtain⟨l1,l2,l3⟩:=uE O.c.2.2.2.2.1;obtain⟨u1,u2,u3⟩:=uE O.c.2.2.2.2.2.1;have Xn:=u.look P;have XD:=u.ob;have jH:=Qc XD;have zq:=u.VV;have De:=Qc zq;have yw:=(u.JH j y P).1;have F:=Qc yw;have FR:=u.Wi;have gG:=Qc FR;have zo:=uy T P;have qI:=u.X3.at_ y.c.parent;rw[Qf zo]at qI;have kS:=(u.kids _ zo).toR;have Zs:=Vl (show k<4611686018427387904 from ω);have OE:Gn (B.KT y.c.parent)<18446744073709551616:=by
   unfold Gn;cases hq:B.KT y.c.parent with
   | nil=>decide
   | cons x l=>
    have:=T.vY y.c.parent x (by rw[hq];simp);show x.ka<_;omega
  have QE:L.le j≠lo:=λe=>by have h1:=(u.JH j y P).2;rw[e,FL]at h1;cases h1
  apply Qh o;simp only[go_sem,Qa,dk,S,U0,XD,jH,zq,De,Kx,UZ,Xn];apply QB o [0,1,2,3,4,5,6,7,8,9,1010,11,12,13,14,15];simp only[go_sem,Qa,XD,jH,yw,F,FR,gG,qI];apply WZ o Qtb (QvH kS);apply Zd o;simp only[go_sem,Qa,XD,jH];have a3:(((B.KT y.c.parent).head?.getD default).ka:Int)=((Gn (B.KT y.c.parent):Nat):Int):=rfl;simp only[a3];apply QB o o11;simp only[go_sem,Qa,yw,F];refine KJ o Qtc ?_ (QwA y.sh O.sh (Zq y.c.ls) O.c.2.2.2.2.1.lt (Gn (B.KT y.c.parent)) y.Zw OE O.Zw) ?_
  .simp only[go_sem,Qa,yw,F,l1,l2,l3]
  apply Zd o;simp only[go_sem,Qa,yw,F,l1,l2,l3];have uH:∀s,(H.set (L.le j) ⟨.one,0,60,1,λ_=>K8 (qD L.lq y) s⟩)[L.le j]? = some ⟨.one,0,60,1,λ_=>K8 (qD L.lq y) s⟩:=λs=>Qy F;have uJ:∀s,L.le j<(H.set (L.le j) s).length:=λs=>by simpa using F
  apply QB o o11;simp only[go_sem,Qa,uH,uJ,F];refine KJ o Qtd ?_ (QwF y.cp O.cp (Zq y.c.ul) O.c.2.2.2.2.2.1.lt b y.Zw WC O.Zw) ?_
  .simp only[go_sem,Qa,uH,uJ,u1,u2,u3,F]
  apply Zd o;simp only[go_sem,Qa,uH,uJ,u1,u2,u3,F];have C4:=u.x9 P (EA B b) (λ_=>rfl) (λ_=>rfl) (uD T WC O);have D4:=ZE.set (own:=v) (h:=H) (qc (qD L.lq y) (EA B b y)) (l:=L.le j) (by rw[(u.JH j y P).2];simp);refine⟨S,_,QH.frame (by simp only[go_sem,Zs,Zg]),UW.of (by rw[JE];exact C4) (Dk.trans D4) FL (by rw[Qm QE];exact Kx)⟩
end Go.Fg.X
