/- Contracts and laws on the way to the statement. No conditions. -/
import Derived.Test.YtpafochnmfelfaaGreatCA5G
import Derived.Test.YtpafochnmfelfaaGreatFgHeapG
import Derived.Shelf.SlMaps.Clone
import Derived.Sort.AssemblyPlain
set_option maxRecDepth 100000
set_option maxHeartbeats 16000000
set_option linter.unusedVariables false
set_option linter.unusedSimpArgs false
set_option linter.unusedSectionVars false
set_option linter.defProp false
namespace Go.Fg.X
open Go.Proofs Go.Fg
open Go.Proofs.Tryz
def P8(d):Xu d d=True:=by cases d<;>simp[Xu]
def mz:∀l:List D,Ke l l
 | []=>trivial
 | d::r=>⟨(P8 d).mpr trivial,mz r⟩
def Qdk{h}{c}{b:It}{l r}(i:zk h (.node c b l r))(a)(k):QR prog 242 h [.ptr c 0 0 0,.agg [u64 a,Qb k]] (λd=>d=Qb (if J5 b.ka b.ki a k then 1 else 0)):=by
 have f:=i.1;have q:=mn a k b.ka b.ki;have j:(0<qK a k b.ka b.ki)↔J5 b.ka b.ki a k:=Qqv;generalize qK a k b.ka b.ki=p at *;refine Zk func242 ntmps242 results242 λn w s F o t g=>?_;rw[<- o]at f;have m:=Qc f;simp only[go_sem,Qa,f,m];apply Qw g [0,1,2,3,4,5,1006,7];simp only[go_sem,Qa,f,m];apply Vc g iZ q;apply VG g;by_cases e:0<p
 .have d1:=Q3 e;simp only[go_sem,Qa,d1];rw[Qf (j.1 e)];exact⟨_,rfl,rfl⟩
 .have d1:=QS e;simp only[go_sem,Qa,d1];rw[Qe (λh=>e (j.2 h))];exact⟨_,rfl,rfl⟩
structure mA (dv:D) (f nf:Nat) (Qs:List D) (B:List (Nat × Ob)) (a:Nat) (k:Int) (fL:Tr->List It) (N:Nat) (Nl:Prop):Prop where
 fok:Qk prog f
 cal:Jo dv=some (f,nf,Qs)
 len:∀s,(fL s).length<=s.size+1
 run:∀(h:List Ob) (s:Tr),KO h s->s.QK.Nodup->s.size<=N->KP s.list->(s=.nil->Nl)->(∀loc it l r,s=.node loc it l r->it.ka=a/\it.ki=k)->(∀p∈B,h[p.1]? = some p.2/\p.1 ∉ s.QK) ->
  QI prog f h (ZS nf Qs [s.ptr]) (λd h'=>∃s',d=s'.ptr/\zZ h s (fL s) h' s')
def mB{a}{k}{d:Tr->List It}(b:∀s,(d s).length<=s.size+1):∀t:Tr,(t.Bg a k d).length<=t.size+1
 | .nil=>b _
 | .node c e l r=>by
  have j:=mB (a:=a) (k:=k) b l;have i:=mB (a:=a) (k:=k) b r;have f:=b (.node c e l r);have h:=Tr.Bd l;have g:=Tr.Bd r;rw[Tr.Bg];split
  .exact f
  .split
   .simp only[JJ,VK,Tr.size]at *;omega
   .simp only[JJ,VK,Tr.size]at *;omega
def KO.app{h}{t}(i:KO h t)(g):KO (h++g) t:=i.frame λl a=>QG (i.lt l a)
def zZ.under{h g c}{t b}{L}(u:zZ (h++g) t L c b):zZ h t L c b:=
 ⟨u.is,u.list,u.nd,λl a=>by
  rcases u.mem l a with h1|h1
  .exact .inl h1
  .exact .inr (by simp only[JJ]at h1;omega),λl a d=>by rw[u.keep l (by simp only[JJ];omega) d,QG a],by have:=u.len;simp only[JJ]at this;omega⟩
def P9{dv}{f nf}{Qs}{B}{a}{k}{fL}{N}{Nl}(O:mA dv f nf Qs B a k fL N Nl)(hN:N<700000):
  ∀(t:Tr) (h:List Ob),KO h t->t.QK.Nodup->t.size<=N->KP t.list->(t.find a k=.nil->Nl)->(∀p∈B,h[p.1]? = some p.2/\p.1 ∉ t.QK) ->
   QI prog 227 h [t.ptr,.agg [u64 a,Qb k],dv] (λd h'=>∃s,d=s.ptr/\zZ h t (t.Bg a k fL) h' s)
 | .nil,h,i,j,J,V,U,q=>by
  have hd:=O.run;have hO:=O.fok;have hc:=O.cal;refine QZ func227 ntmps227 results227 λS w pl g=>?_;simp only[go_sem,Qa];apply Qw g i5;simp only[go_sem,Qa];refine Vo g hO hc (mz _) (hd _ .nil trivial (by simp[Tr.QK]) (KF _) V (λ_=>U rfl) (λ_ _ _ _ e=>by cases e) λp m=>⟨(QG (Qc (q p m).1)).trans (q p m).1,(q p m).2⟩) rfl λd h2 x=>?_;obtain⟨Z,rfl,u⟩:=x;apply Zd g;exact⟨Z,rfl,u.under⟩
 | .node c y l r,h,i,j,J,V,U,q=>by
  have hd:=O.run;have hO:=O.fok;have hc:=O.cal;have C:=i.1;have wD:=j;simp only[Tr.QK,ZN,QW,YX]at wD;obtain⟨⟨nl,nr⟩,a0⟩:=wD;have F:=mB (a:=a) (k:=k) O.len;obtain⟨sl,sr,_,_⟩:=Ed.1 (show KP (l.list++y::r.list) from V);refine QZ func227 ntmps227 results227 λS w pl g=>?_;have H:=Qc C;simp only[go_sem,Qa,C,H];apply Qw g i5;simp only[go_sem,Qa,C,H];by_cases E:y.ka=a/\y.ki=k
  .have d1:((y.ka:Int)==(a:Int)&&y.ki==k)=true:=by simp[E.1,E.2]
   simp only[go_sem,Qa,d1,Tr.Bg,Qf E];refine Vo g hO hc (mz _) (hd _ (.node c y l r) (i.app _) j J V (λe=>by cases e) (λ_ _ _ _ e=>by cases e;exact E) λp m=>⟨(QG (Qc (q p m).1)).trans (q p m).1,(q p m).2⟩) rfl λd h2 x=>?_;obtain⟨Z,rfl,u⟩:=x;apply Zd g;exact⟨Z,rfl,u.under⟩
  have d1:((y.ka:Int)==(a:Int)&&y.ki==k)=false:=by
   rw[Ym];intro hh;simp only[ZH,zH]at hh;exact E ⟨ω,hh.2⟩
  simp only[go_sem,Qa,d1,Tr.Bg,Qe E];apply ZA g Qcz (Qdk (i.app _).toR a k);apply Qg g;simp only[go_sem,Qa,C,H];by_cases T:J5 y.ka y.ki a k
  .simp only[Qf T];apply KX [10] g [0,1,2,3,4,5,6,7,8,9,11,12,1010,13,1014] [];simp only[go_sem,Qa,C,H];refine xD g PQ rfl ?_ (P9 O hN r _ (i.2.2.app _) (by simp only[Tr.QK,ZN,JP,QE,QW]at j ⊢;grind) (by simp only[Tr.size]at J;omega) sr (λe=>U (by rw[Tr.find,Qe E,Qf T];exact e)) λp m=>⟨(QG (Qc (q p m).1)).trans (q p m).1,λz=>(q p m).2 (by simp only[Tr.QK,QE,QW];grind)⟩) rfl λd P x=>?_
   .simp only[go_sem,P8]
   obtain⟨s,rfl,u⟩:=x;have u:=u.under;have M:P[c]? = _:=(u.keep c H (by simp only[Tr.QK,ZN,JP,QE,QW]at j ⊢;grind)).trans C;have K:=Qc M;have L:=u.list;have Jg:=Tr.Bd s;rw[L]at Jg;have Z7:=F r;have nt:c ∉ s.QK:=λz=>by
    rcases u.mem c z with b|b
    .simp only[Tr.QK,ZN,JP,QE,QW]at j;grind
    .omega
   have no:∀k∈l.QK,k ∉ s.QK:=λk n z=>by
    have Ra:=i.2.1.lt k n;rcases u.mem k z with b|b
    .simp only[Tr.QK,ZN,JP,QE,QW]at j;grind
    .omega
   have Y:KO P l:=i.2.1.frame λk n=>u.keep k (i.2.1.lt k n) (by simp only[Tr.QK,ZN,JP,QE,QW]at j ⊢;grind);apply Q7 g;simp only[go_sem,Qa,M,K];apply Zd g;refine Vo g lg rfl ?_ (mw (loc:=c) (l:=l) (r:=s) ⟨Qv K,Y.set _ nl,u.is.set _ nt⟩ (by
    have a1:=u.nd;simp only[Tr.QK,ZN,JP,QE,QW]at j ⊢;grind) (by simp only[Tr.size]at J;omega)) rfl λd h8 x=>?_
   .simp only[go_sem]
   obtain⟨I,rfl,v⟩:=x;apply Zd g;have W:=v.list;refine⟨I,rfl,v.is,by rw[W,L],v.nd,λk n=>?_,λk n o=>?_,by have q1:=v.len;have q2:=u.len;simp only[Xd]at q1;omega⟩
   .rcases v.mem k n with b|b
    .have Q:=u.mem k;simp only[Tr.QK,QE,QW]at b ⊢;grind
    .have:=u.len;simp only[Xd]at b;exact .inr ω
   .have Q:=u.mem k;have a3:=u.len;rw[v.keep k (by simp only[Xd];omega) (λb=>by
     simp only[Tr.QK,QE,QW]at b o;rcases b with b|b|b
     .exact o (.inl b)
     .exact o (.inr (.inl b))
     .rcases Q b with R|R
      .exact o (.inr (.inr R))
      .omega),Qm (λb=>o (by rw[b];simp[Tr.QK])),u.keep k n (λb=>o (by simp only[Tr.QK,QE,QW];grind))]
  .simp only[Qe T];apply KX [10] g [0,1,2,3,4,5,6,7,8,9,11,12,1010,13,1014] [];simp only[go_sem,Qa,C,H];refine xD g PQ rfl ?_ (P9 O hN l _ (i.2.1.app _) (by simp only[Tr.QK,ZN,JP,QE,QW]at j ⊢;grind) (by simp only[Tr.size]at J;omega) sl (λe=>U (by rw[Tr.find,Qe E,Qe T];exact e)) λp m=>⟨(QG (Qc (q p m).1)).trans (q p m).1,λz=>(q p m).2 (by simp only[Tr.QK,QE,QW];grind)⟩) rfl λd P x=>?_
   .simp only[go_sem,P8]
   obtain⟨s,rfl,u⟩:=x;have u:=u.under;have M:P[c]? = _:=(u.keep c H (by simp only[Tr.QK,ZN,JP,QE,QW]at j ⊢;grind)).trans C;have K:=Qc M;have L:=u.list;have Jg:=Tr.Bd s;rw[L]at Jg;have Z7:=F l;have nt:c ∉ s.QK:=λz=>by
    rcases u.mem c z with b|b
    .simp only[Tr.QK,ZN,JP,QE,QW]at j;grind
    .omega
   have no:∀k∈r.QK,k ∉ s.QK:=λk n z=>by
    have Ra:=i.2.2.lt k n;rcases u.mem k z with b|b
    .simp only[Tr.QK,ZN,JP,QE,QW]at j;grind
    .omega
   have Y:KO P r:=i.2.2.frame λk n=>u.keep k (i.2.2.lt k n) (by simp only[Tr.QK,ZN,JP,QE,QW]at j ⊢;grind);apply Q7 g;simp only[go_sem,Qa,M,K];apply Zd g;refine Vo g lg rfl ?_ (mw (loc:=c) (l:=s) (r:=r) ⟨Qv K,u.is.set _ nt,Y.set _ nr⟩ (by
    have a1:=u.nd;simp only[Tr.QK,ZN,JP,QE,QW]at j ⊢;grind) (by simp only[Tr.size]at J;omega)) rfl λd h8 x=>?_
   .simp only[go_sem]
   obtain⟨I,rfl,v⟩:=x;apply Zd g;have W:=v.list;refine⟨I,rfl,v.is,by rw[W,L],v.nd,λk n=>?_,λk n o=>?_,by have q1:=v.len;have q2:=u.len;simp only[Xd]at q1;omega⟩
   .rcases v.mem k n with b|b
    .have Q:=u.mem k;simp only[Tr.QK,QE,QW]at b ⊢;grind
    .have:=u.len;simp only[Xd]at b;exact .inr ω
   .have Q:=u.mem k;have a3:=u.len;rw[v.keep k (by simp only[Xd];omega) (λb=>by
     simp only[Tr.QK,QE,QW]at b o;rcases b with b|b|b
     .exact o (.inl b)
     .rcases Q b with R|R
      .exact o (.inr (.inl R))
      .omega
     .exact o (.inr (.inr b))),Qm (λb=>o (by rw[b];simp[Tr.QK])),u.keep k n (λb=>o (by simp only[Tr.QK,QE,QW];grind))]
def wF(t:Tr):Ob:=⟨.one,0,1,1,λ_=>[t.ptr]⟩
attribute [go_sem] wF
def Qdn{h:List Ob}{u}{t:Tr}(p:(h.map Ob.ro)[u]? = some (wF t).ro)(i:zk h t)(a)(k):
  QR prog 226 h [.ptr u 0 0 0,.agg [u64 a,Qb k]] (λd=>d=(t.find a k).ptr):=by
 refine Zk func226 ntmps226 results226 λx w E F q I c=>?_;rw[<- q]at p;have B:=Qc p;simp only[go_sem,Qa,p,B];refine Z4 (λj y=>∃s:Tr,s.size+j<=t.size/\zk h s/\s.find a k=t.find a k/\y=⟨[(3,.ptr F.length 0 0 0),(5,s.ptr)],F++[⟨.one,0,2,1,λ_=>[u64 a,Qb k]⟩]⟩) t.size (s0:=⟨[(3,.ptr F.length 0 0 0),(5,t.ptr)],F++[⟨.one,0,2,1,λ_=>[u64 a,Qb k]⟩]⟩) ?_ ⟨t,ω,i,rfl,rfl⟩ ?_
 .exact QN
 rintro j _ H ⟨s,z,n,b,rfl⟩;cases s with
 | nil=>
  apply QC c;apply Qw c i5;simp only[go_sem,Qa,Go.undef];apply Zd c;exact⟨_,rfl,by rw[<- b];rfl⟩
 | node C e l r=>
  have f:=n.1;rw[<- q]at f;have g:=Qc f;apply QC c;apply Qw c i5;simp only[go_sem,Qa,f,g];rw[Tr.find]at b;by_cases m:e.ka=a/\e.ki=k
  .have d1:((e.ka:Int)==(a:Int)&&e.ki==k)=true:=by simp[m.1,m.2]
   rw[Qf m]at b;simp only[go_sem,Qa,d1,bne];apply Qg c;simp only[go_sem,g];exact⟨_,rfl,by rw[<- b];rfl⟩
  .have d1:((e.ka:Int)==(a:Int)&&e.ki==k)=false:=by
    rw[Ym];intro v;simp only[ZH,zH]at v;exact m ⟨ω,v.2⟩
   rw[Qe m]at b;simp only[go_sem,Qa,d1,bne];apply Qw c [0,1,2,4,5,1003,6,7,8];simp only[go_sem,Qa,f,g];apply V0 c Qcz (Qdk (n.more (F5 q)) a k);apply Q7 c;simp only[go_sem,Qa,f,g];have J:l.size+j+1<=t.size/\r.size+j+1<=t.size:=by simp only[Tr.size]at z;omega
   by_cases o:J5 e.ka e.ki a k
   .rw[Qf o]at b;simp only[go_sem,Qa,Qf o,f,g];refine⟨ω,_,QN,r,ω,n.2.2,b,rfl⟩
   .rw[Qe o]at b;simp only[go_sem,Qa,Qe o,f,g];refine⟨ω,_,QN,l,ω,n.2.1,b,rfl⟩
def QqC{h:List Ob}{i g}{x:It}(k:h[i]? = some ⟨.one,0,2,1,λ_=>[u64 x.ka,Qb x.ki]⟩)(j:h[g]? = some ⟨.one,0,2,1,λ_=>[u64 x.va,Qb x.vi]⟩)(s):
  QI prog 228 h [s.ptr,.ptr i 0 0 0,.ptr g 0 0 0] (λd p=>∃f,d=f.ptr/\zZ h s [x] p f):=by
 refine QZ func228 ntmps228 results228 λo w q m=>?_;have e:=Qc k;have c:=Qc j;simp only[go_sem,Qa,k,e,j,c];refine Jb m Ca (Ch (loc:=h.length) (it:=x) (l:=.nil) (r:=.nil) (le:=⟨0,0,0,0⟩) (hi:=0) (n:=0) ⟨JZ rfl,trivial,trivial⟩ (by simp[Tr.size]) (by simp[Tr.size]) (by simp[Tr.QK]) (by simp[Tr.QK])) λd t b=>?_;apply Zd m;refine⟨.node h.length x .nil .nil,rfl,⟨?_,trivial,trivial⟩,rfl,by simp[Tr.QK],λl a=>.inr (by simp[Tr.QK]at a;omega),λl a _=>?_,by rw[b];simp⟩
 .rw[b,Qv σ]
 .rw[b,Qm ω,QG a]
structure yR (h:List Ob) (tl:Nat) (t:Tr) (L:List It):Prop where
 o:h[tl]? = some (wF t)
 is:KO h t
 list:t.list=L
 nd:t.QK.Nodup
 out:tl ∉ t.QK
 sorted:KP L
structure Rb (h:List Ob) (tl:Nat) (t:Tr) (L:List It) (h':List Ob) (t':Tr):Prop where
 is:yR h' tl t' L
 mem:∀l∈t'.QK,l∈t.QK\/h.length<=l
 keep:∀l,l<h.length->l≠tl->l ∉ t.QK->h'[l]? = h[l]?
 len:h.length<=h'.length
def yR.app{h}{b}{t}{L}(a:yR h b t L)(g):yR (h++g) b t L:=⟨(QG (Qc a.o)).trans a.o,a.is.app g,a.list,a.nd,a.out,a.sorted⟩
def yR.to{h g d:List Ob}{b}{t c}{L e}(a:yR h b t L)(u:zZ (h++g) t e d c)(i:KP e):Rb h b t e (d.set b (wF c)) c:=by
 have v:=u.under;have k:=Qc a.o;have p:d[b]? = some (wF t):=(v.keep b k a.out).trans a.o;have f:b ∉ c.QK:=λj=>by
  rcases v.mem b j with h3|h3
  .exact a.out h3
  .omega
 exact⟨⟨Qv (Qc p),v.is.set _ f,v.list,v.nd,f,i⟩,v.mem,λl h3 n m=>by rw[Qm (Q1 n)];exact v.keep l h3 m,by rw[Xd];exact v.len⟩
def Rc{h}{tl}{t}{L:List It}(A:yR h tl t L)(x:It)(n:Ye x.ka x.ki L=none)(M:L.length<600000):
  QI prog 185 h [.ptr tl 0 0 0,.agg [u64 x.ka,Qb x.ki],.agg [u64 x.va,Qb x.vi]] (λd v=>d=Qb 0/\∃m,Rb h tl t (XR x L) v m):=by
 have k:=A.o;have P:t.size=L.length:=by rw[<- Tr.Bd,A.list]
 have z:(t.find x.ka x.ki)=.nil:=by
  have e:=Tr.P5 (a:=x.ka) (i:=x.ki) t (by rw[A.list];exact A.sorted);rw[A.list,n]at e;cases B:t.find x.ka x.ki with
  | nil=>rfl
  | node a b c d=>rw[B]at e;cases e
 have y:=λg=>Qdn (h:=h++g) (ZG (A.app g).o) (A.is.app g).toR x.ka x.ki;rw[z]at y;refine QZ func185 ntmps185 results185 λbase w J f=>?_;have l:=Qc k;simp only[go_sem,Qa,k,l];apply ZA f Qct (y _);apply Qg f;simp only[go_sem,Qa,k,l];apply KX [7] f [0,1,2,3,4,5,6,1007,8,9,1010] [];simp only[go_sem,Qa,k,l];have O:mA (.clo 228 0 [.ptr h.length 0 0 0,.ptr (h.length+1) 0 0 0]) 228 0 [.ptr h.length 0 0 0,.ptr (h.length+1) 0 0 0] [(h.length,⟨.one,0,2,1,λ_=>[u64 x.ka,Qb x.ki]⟩),(h.length+1,⟨.one,0,2,1,λ_=>[u64 x.va,Qb x.vi]⟩)] x.ka x.ki (λ_=>[x]) 600000 True:=
  ⟨Qpe,rfl,λs=>σ,λv s K I R _ _ _ r=>by
   have F:=(r (h.length,_) (K8 ..)).1;have E:=(r (h.length+1,_) (Km _ (K8 ..))).1;exact QqC (x:=x) F E s⟩
 refine kW f PQ (P9 O π t _ (A.is.app _) A.nd ω (by rw[A.list];exact A.sorted) (λ_=>trivial) ?_) λd Q C=>?_
 .intro p o;have j:∀q,h.length<=q->q ∉ t.QK:=λq N j=>by have:=A.is.lt q j;omega
  simp only[QE,Tt,or_false]at o;rcases o with rfl|rfl
  .exact⟨JZ rfl,j _ (QB _)⟩
  .exact⟨Vj rfl,j _ (by show h.length<=h.length+1;omega)⟩
 obtain⟨m,rfl,u⟩:=C;rw[mj rfl t (by rw[A.list];exact A.sorted) (by rw[A.list];exact n),A.list]at u;have e:=(u.under.keep tl l A.out).trans A.o;have H:=Qc e;apply Q7 f;simp only[go_sem,Qa,e,H];exact⟨m,A.to u (mi A.sorted n)⟩
def Tr.QqF:∀t:Tr,t≠.nil->∃d,t.list=t.Ee::d:=λt h=>by
 have c:=Tr.mm t h;cases e:t.list with
 | nil=>rw[e]at c;cases c
 | cons a b=>rw[e]at c;simp only[List.head?_cons,QX]at c;exact⟨b,by rw[c]⟩
def QqG{x:It}{L}:Ye x.ka x.ki (x::L)=some x:=by
 unfold Ye;rw[vI,wC.2 ⟨rfl,rfl⟩]
def QqH{x:It}{L}(a:KP (x::L)):W7 x.ka x.ki (x::L)=L:=by
 have h:=Qdh x.ka x.ki [] L x a;rw[Qf ⟨rfl,rfl⟩]at h;exact h
def Qdo(N:Nat):Prop:=∀(h:List Ob) (s:Tr),KO h s->s.QK.Nodup->s.size<=N->KP s.list->s≠.nil ->
 QI prog 241 h [s.ptr] (λd b=>∃a,d=a.ptr/\zZ h s s.Ib b a)
def Qdp{N}(W:Qdo N)(a)(k):mA (.raw (.func (.func 241) #[] #[])) 241 0 [] [] a k Tr.Ib N False:=
 ⟨Qph,rfl,λs=>by
  cases s with
  | nil=>simp[Tr.Ib]
  | node g j l r=>simp only[Tr.Ib,JJ,Tr.Bd,Tr.size];omega,λh s i b c f d _ _=>W h s i b c f λe=>d e⟩
def Qdq:∀N,N<600000->Qdo N
 | 0,_,_,.nil,_,_,_,_,g=>absurd rfl g
 | 0,_,_,.node _ _ _ _,_,_,F,_,_=>by simp only[Tr.size]at F;omega
 | _+1,_,_,.nil,_,_,_,_,g=>absurd rfl g
 | N+1,hN,h,.node b E l .nil,i,f,F,Vp,_=>by
  have z:=i.1;refine QZ func241 ntmps241 results241 λJ w pl m=>?_;have q:=Qc z;simp only[go_sem,Qa,z,q];refine⟨l,rfl,?_⟩;have u:=zZ.refl i.2.1 (t:=l) (by simp only[Tr.QK,ZN,JP]at f;exact f.2.1);simp only[Tr.Ib,Tr.list,Jl];exact⟨u.is,rfl,u.nd,λx hx=>.inl (by simp[Tr.QK,hx]),λ_ _ _=>rfl,QB _⟩
 | N+1,hN,h,.node b E l (.node lr ir rl rr),i,f,F,Vp,_=>by
  have z:=i.1;refine QZ func241 ntmps241 results241 λJ w pl m=>?_;have q:=Qc z;simp only[go_sem,Qa,z,q];have wD:=f;simp only[Tr.QK,ZN,JP,QE,QW,YX]at wD;generalize hr:Tr.node lr ir rl rr=r at *;have I:r≠.nil:=by rw[<- hr];simp
  have W:D.ptr lr 0 0 0=r.ptr:=by rw[<- hr];rfl
  rw[W];refine Z4 (λj st=>∃s:Tr,s.size+j<=r.size/\s≠.nil/\KO h s/\s.Ee=r.Ee/\(∀x∈s.QK,x∈r.QK)/\st=⟨[(0,.ptr b 0 0 0),(3,s.ptr)],h⟩) r.size (s0:=⟨[(0,.ptr b 0 0 0),(3,r.ptr)],h⟩) QN ⟨r,ω,I,i.2.2,rfl,λ_ hx=>hx,rfl⟩ ?_;rintro j _ hj ⟨s,Y,AH,is,hf,WH,rfl⟩;rcases s with _|⟨P,n,sl,sr⟩
  .exact absurd rfl AH
  have H:=is.1;have T:=Qc H;rcases sl with _|⟨a1,B,S,a4⟩
  .have qN:P∈r.QK:=WH P (by simp[Tr.QK]);have QA:b≠P:=by rintro rfl;simp only[Tr.QK,ZN,JP,QE,QW]at f;grind
   have nl:b ∉ l.QK:=by simp only[Tr.QK,ZN,JP,QE,QW]at f;grind
   have O:b ∉ r.QK:=by simp only[Tr.QK,ZN,JP,QE,QW]at f;grind
   have Z3:=Qm (h:=h) (o:=Ec n l.ptr r.ptr (Tr.node b E l r).least ((Tr.node b E l r).high:Nat) ((Tr.node b E l r).size:Nat)) QA;obtain⟨s1,L,s3,s4⟩:=Ed.1 (show KP (l.list++E::r.list) from Vp);obtain⟨a0,C⟩:=Tr.QqF r I;have Ic:r.Ee=n:=by rw[<- hf];rfl
   rw[Ic]at C;have mC:r.find n.ka n.ki=.nil->False:=λe=>by
    have h5:=Tr.P5 (a:=n.ka) (i:=n.ki) r L;rw[e,C,QqG]at h5;cases h5
   have V:r.QK.Nodup:=by simp only[Tr.QK,ZN,JP,QE,QW]at f;grind
   apply Qg m;simp only[go_sem,Qa,H,T];apply Qg m;simp only[go_sem,Qa,z,q,H,T];apply KX [11] m [0,1,2,3,4,5,6,7,8,9,10,12,13,1011,14,1015] [];simp only[go_sem,Qa,z,q,Qv q,Qm QA,H];refine xD m PQ rfl ?_ (P9 (Qdp (Qdq N ω) n.ka n.ki) ω r _ (i.2.2.set _ O) V (by simp only[Tr.size]at F;omega) L mC (λp hp=>by cases hp)) rfl λd h6 R=>?_
   .simp only[go_sem,P8]
   obtain⟨K,rfl,u⟩:=R;rw[bK r L,C,QqH (by rw[<- C];exact L)]at u;have h7:=(u.keep b (by simpa using q) O).trans (Qv q);have Z:=Qc h7;have nt:b ∉ K.QK:=λQ=>by
    rcases u.mem b Q with c|c
    .exact O c
    .simp only[Xd]at c;omega
   have no:∀k∈l.QK,k ∉ K.QK:=λk y Q=>by
    have Ra:=i.2.1.lt k y;rcases u.mem k Q with c|c
    .simp only[Tr.QK,ZN,JP,QE,QW]at f;grind
    .simp only[Xd]at c;omega
   have to:KO h6 l:=(i.2.1.set _ nl).frame λk y=>u.keep k (by simpa using i.2.1.lt k y) (by simp only[Tr.QK,ZN,JP,QE,QW]at f ⊢;grind);apply Q7 m;simp only[go_sem,Qa,h7,Z];apply Zd m;have ul:=u.list;have Jg:=Tr.Bd K;rw[ul]at Jg;have XQ:=Tr.Bd r;rw[C,VK]at XQ;refine Vo m lg rfl ?_ (mw (loc:=b) (l:=l) (r:=K) (it:=n) ⟨Qv Z,to.set _ nl,u.is.set _ nt⟩ (by
    have a1:=u.nd;simp only[Tr.QK,ZN,JP,QE,QW]at f ⊢;grind) (by simp only[Tr.size]at F;omega)) rfl λd h8 R=>?_
   .simp only[go_sem]
   obtain⟨U,rfl,v⟩:=R;apply Zd m;have vl:=v.list;refine⟨U,rfl,v.is,by rw[vl,ul,Tr.Ib,C],v.nd,λk y=>?_,λk y g=>?_,by have q1:=v.len;have M:=u.len;simp only[Xd]at q1 M;omega⟩
   .have M:=u.len;rcases v.mem k y with c|c
    .have B:=u.mem k;simp only[Tr.QK,QE,QW,Xd]at c B ⊢;grind
    .simp only[Xd]at c M;exact .inr ω
   .have B:=u.mem k;have S:=u.len;simp only[Xd]at B S;rw[v.keep k (by simp only[Xd];omega) (λc=>by
     simp only[Tr.QK,QE,QW]at c g;rcases c with c|c|c
     .exact g (.inl c)
     .exact g (.inr (.inl c))
     .rcases B c with X2|X2
      .exact g (.inr (.inr X2))
      .omega),Qm (λc=>g (by rw[c];simp[Tr.QK])),u.keep k (by simpa using y) (λc=>g (by simp only[Tr.QK,QE,QW];grind)),Qm (λc=>g (by rw[c];simp[Tr.QK]))]
  .apply Qg m;simp only[go_sem,Qa,H,T];refine⟨by simp only[Tr.size]at Y;omega,_,QN,.node a1 B S a4,by simp only[Tr.size]at Y ⊢;omega,σ,is.2.1,by rw[<- hf];rfl,λx hx=>WH x (by rw[Tr.QK];simp[hx]),rfl⟩
@[go_sem] def mD(o:Option It):D:=.tup [.agg (o.getD default).cells,QT o.isSome]
def mE{h}{tl}{t}{L:List It}(A:yR h tl t L)(a)(k)(r:Ye a k L≠none)(z:L.length<500000):
  QI prog 225 h [.ptr tl 0 0 0,.agg [u64 a,Qb k]] (λd v=>d=Qb 0/\∃l,Rb h tl t (W7 a k L) v l):=by
 have f:=A.o;have B:t.size=L.length:=by rw[<- Tr.Bd,A.list]
 have b:=Tr.P5 (a:=a) (i:=k) t (by rw[A.list];exact A.sorted);rw[A.list]at b;have n:=λg=>Qdn (h:=h++g) (ZG (A.app g).o) (A.is.app g).toR a k;cases m:t.find a k with
 | nil=>rw[m]at b;exact absurd b.symm r
 | node I H F E=>
  rw[m]at n;refine QZ func225 ntmps225 results225 λo w y c=>?_;have j:=Qc f;simp only[go_sem,Qa,f,j];apply ZA c Qct (n _);apply Qg c;simp only[go_sem,Qa,f,j];apply KX [6] c [0,1,2,3,4,5,1006,7,8,1009] [];simp only[go_sem,Qa,f,j];refine xD c PQ rfl ?_ (P9 (Qdp (Qdq 500000 π) a k) π t _ (A.is.app _) A.nd ω (by rw[A.list];exact A.sorted) (λe=>by rw[m]at e;cases e) (λp q=>by cases q)) rfl λd C s=>?_
  .simp only[go_sem,P8]
  obtain⟨l,rfl,u⟩:=s;rw[bK t (by rw[A.list];exact A.sorted),A.list]at u;have b:=(u.under.keep tl j A.out).trans A.o;have x:=Qc b;apply Q7 c;simp only[go_sem,Qa,b,x];exact⟨l,A.to u (Qqz A.sorted)⟩
section
variable {h:List Ob}{tl:Nat}{t:Tr}(ht:(h.map Ob.ro)[tl]? = some (wF t).ro)(i:zk h t)
include ht i
theorem Qds:QR prog 230 h [.ptr tl 0 0 0] (λd=>d=Qb t.size):=by
 refine Zk func230 ntmps230 results230 λf w j F b k a=>?_;rw[<- b]at ht;have c:=Qc ht;simp only[go_sem,Qa,ht,c];apply ZA a DQ (Ef (i.more λl o e=>by have:=F5 (g:=[]) b l o e;rwa [Jl]at this));apply Qg a;simp only[go_sem,Qa,ht,c];exact⟨[],σ⟩
theorem Qdt:QR prog 186 h [.ptr tl 0 0 0] (λd=>d=mD t.list.head?):=by
 have u:∀{F:List Ob},F=h.map Ob.ro->∀g,zk (F++g) t:=λe g=>i.more (F5 e);have q:∀{F:List Ob},F=h.map Ob.ro->∀g,((F++g).map Ob.ro)[tl]? = some (wF t).ro:=λe g=>F5 e _ _ ht;by_cases n:t=.nil
 .subst n;refine Zk func186 ntmps186 results186 λm w z F e I f=>?_;rw[<- e]at ht;have k:=Qc ht;simp only[go_sem,Qa,ht,k];refine VP f Qcu ?_ (Qds (q e _) (u e _)) ?_
  .simp only[go_sem,Qa,ht,k,Tr.size]
  apply Qg f;simp only[go_sem,Qa,ht,k,Tr.size];exact⟨_,rfl,rfl⟩
 .rw[Tr.mm t n];have J:t.size≠0:=by cases t with
   | nil=>exact absurd rfl n
   | node a b c d=>simp only[Tr.size];omega
  have d0:((t.size:Int)==0)=false:=by simpa using J
  refine Zk func186 ntmps186 results186 λm w z F e I f=>?_;rw[<- e]at ht;have k:=Qc ht;simp only[go_sem,Qa,ht,k];refine VP f Qcu ?_ (Qds (q e _) (u e _)) ?_
  .simp only[go_sem,Qa,ht,k,d0]
  apply Qg f;simp only[go_sem,Qa,ht,k,d0];refine Z4 (λj x=>∃s:Tr,s.size+j<=t.size/\s≠.nil/\zk h s/\s.Ee=t.Ee/\x=⟨[(2,.ptr F.length 0 0 0),(4,s.ptr)],F++[⟨.one,0,4,1,λ_=>[u64 0,Qb 0,u64 0,Qb 0]⟩]⟩) t.size (s0:=⟨[(2,.ptr F.length 0 0 0),(4,t.ptr)],F++[⟨.one,0,4,1,λ_=>[u64 0,Qb 0,u64 0,Qb 0]⟩]⟩) QN ⟨t,ω,n,i,rfl,rfl⟩ ?_;rintro j _ O ⟨s,p,K,r,v,rfl⟩;rcases s with _|⟨M,N,y,L⟩
  .exact absurd rfl K
  have l:=r.1;rw[<- e]at l;have o:=Qc l;rcases y with _|⟨H,E,C,B⟩
  .apply Qg f;simp only[go_sem,Qa,l,o];apply Qg f;simp only[go_sem,Qa,l,o];rw[<- v];exact⟨_,rfl,rfl⟩
  .apply Qg f;simp only[go_sem,Qa,l,o];refine⟨by simp only[Tr.size]at p;omega,_,QN,.node H E C B,by simp only[Tr.size]at p ⊢;omega,σ,r.2.1,by rw[<- v];rfl,rfl⟩
omit ht i in
theorem QqK{n b}{c:It}{l r:Tr}(h:(Tr.node b c l r).hasB n=true)(d:l.hasB n=false)(e:¬ c.va<=n):r.hasB n=true:=by
 rw[Tr.P6]at h ⊢;obtain⟨x,hx,a⟩:=h;simp only[Tr.list,QW,QE]at hx;rcases hx with hx|rfl|hx
 .have:=(Tr.P6 n l).2 ⟨x,hx,a⟩;rw[d]at this;cases this
 .exact absurd a e
 .exact⟨x,hx,a⟩
theorem QqL(n):QR prog 232 h [.ptr tl 0 0 0,u64 n] (λd=>d=mD (t.list.find? λx=>decide (x.va<=n))):=by
 have y:∀{F:List Ob},F=h.map Ob.ro->∀g,zk (F++g) t:=λa g=>i.more (F5 a);rw[<- Tr.bL];cases l:t.hasB n with
 | false=>
  have K:t.first n=none:=by
   rw[Tr.bL,js];intro x hx f;have:=(Tr.P6 n t).2 ⟨x,hx,by simpa using f⟩;rw[l]at this;cases this
  rw[K];refine Zk func232 ntmps232 results232 λp w E F a J c=>?_;rw[<- a]at ht;have m:=Qc ht;simp only[go_sem,Qa,ht,m];refine VP c lh ?_ (mq (y a _) n) ?_
  .simp only[go_sem,Qa,ht,m,l]
  apply Qg c;simp only[go_sem,Qa,ht,m,l];exact⟨_,rfl,rfl⟩
 | true=>
  refine Zk func232 ntmps232 results232 λp w E F a J c=>?_;rw[<- a]at ht;have m:=Qc ht;simp only[go_sem,Qa,ht,m];refine VP c lh ?_ (mq (y a _) n) ?_
  .simp only[go_sem,Qa,ht,m,l]
  apply Qg c;simp only[go_sem,Qa,ht,m,l];have I:t≠.nil:=by rintro rfl;simp[Tr.hasB]at l
  refine Z4 (λj B=>∃s:Tr,s.size+j<=t.size/\s≠.nil/\zk h s/\s.hasB n=true/\s.first n=t.first n/\B=⟨[(1,u64 n),(4,.ptr F.length 0 0 0),(6,s.ptr)],F++[⟨.one,0,4,1,λ_=>[u64 0,Qb 0,u64 0,Qb 0]⟩]⟩) t.size (s0:=⟨[(1,u64 n),(4,.ptr F.length 0 0 0),(6,t.ptr)],F++[⟨.one,0,4,1,λ_=>[u64 0,Qb 0,u64 0,Qb 0]⟩]⟩) QN ⟨t,ω,I,i,l,rfl,rfl⟩ ?_;rintro j _ N ⟨s,q,L,r,u,b,rfl⟩;rcases s with _|⟨M,H,v,C⟩
  .exact absurd rfl L
  have e:=r.1;rw[<- a]at e;have o:=Qc e;rw[Tr.first]at b;apply Qg c;simp only[go_sem,Qa,e,o];apply ZA c lh (mq (r.2.1.more (F5 a)) n);apply Qg c;simp only[go_sem,Qa,e,o];cases k:v.hasB n with
  | true=>
   rw[k,Qf rfl]at b;simp only[go_sem,Qa,k,e,o];refine⟨by simp only[Tr.size]at q;omega,_,QN,v,by simp only[Tr.size]at q;omega,by rintro rfl;simp[Tr.hasB]at k,r.2.1,k,b,rfl⟩
  | false=>
   rw[k,Qe π]at b;simp only[go_sem,Qa,k,e,o];by_cases f:H.va<=n
   .have d1:=Q3 f;rw[Qf f]at b;simp only[go_sem,Qa,d1,e,o];rw[<- b];exact⟨_,rfl,rfl⟩
   .have d1:=QS f;rw[Qe f]at b;simp only[go_sem,Qa,d1,e,o];have z:=QqK u k f;refine⟨by simp only[Tr.size]at q;omega,_,QN,C,by simp only[Tr.size]at q;omega,by rintro rfl;simp[Tr.hasB]at z,r.2.2,z,b,rfl⟩
end
@[go_sem] def mF(o:Option It):Ob:=⟨.one,0,4,1,λ_=>(o.getD default).cells⟩
@[go_sem] def mG(o:Option It):Ob:=⟨.one,0,1,1,λ_=>[QT o.isSome]⟩
def QqN(x):zY x x=x:=by rw[Qdb,Qe (P4 x)]
def Qdu{h:List Ob}{lm lo}{o}(d:h[lm]? = some (mG o))(c:h[lo]? = some (mF o))(f:lm≠lo)(x):
  QI prog 202 h [.agg x.cells,.ptr lm 0 0 0,.ptr lo 0 0 0] (λ_ m=>∃g,m=(h.set lm (mG (qL o x))).set lo (mF (qL o x))++g):=by
 have e:=Q1 f;cases o with
 | none=>
  have k:=MT x x;rw[QqN]at k;refine QZ func202 ntmps202 results202 λj w l i=>?_;have b:=Qc d;have a:=Qc c;simp only[go_sem,Qa,d,b,c,a,Qm f,Qm e,vM,kx,KV,Lx,qL,Qv b,Qv a];refine Jk i MB ?_ k ?_
  .simp only[go_sem,Qa,d,b,c,a,Qm f,Qm e,vM,kx,KV,Lx,qL,Qv b,Qv a]
  apply Qg i;simp only[go_sem,Qa,d,b,c,a,Qm f,Qm e,vM,kx,KV,Lx,qL,Qv b,Qv a];rw[List.set_comm _ _ e,Jn];exact⟨_,rfl⟩
 | some y=>
  have k:=MT y x;refine QZ func202 ntmps202 results202 λj w l i=>?_;have b:=Qc d;have a:=Qc c;simp only[go_sem,Qa,d,b,c,a,Qm f,Qm e,vM,kx,KV,Lx,qL,Qv b,Qv a];refine Jk i MB ?_ k ?_
  .simp only[go_sem,Qa,d,b,c,a,Qm f,Qm e,vM,kx,KV,Lx,qL,Qv b,Qv a]
  apply Qg i;simp only[go_sem,Qa,d,b,c,a,Qm f,Qm e,vM,kx,KV,Lx,qL,Qv b,Qv a];exact⟨_,rfl⟩
def Tr.QqO(n f)(e:It)(l r:Tr)(o):(Tr.node f e l r).qM n o=if n<e.ka then l.qM n o else r.qM n (match l with
  | .nil=>qL o e
  | .node a b c d=>qL (qL o e) (Tr.node a b c d).least):=by cases l<;>rfl
def yS(F g:List Ob)(n:Nat)(s:Tr)(o:Option It):St:=
 ⟨[(1,u64 n),(4,.ptr F.length 0 0 0),(6,.ptr (F.length+1) 0 0 0),(7,.ptr (F.length+2) 0 0 0),(8,.clo 202 0 [.ptr (F.length+2) 0 0 0,.ptr (F.length+1) 0 0 0]),(9,s.ptr)],
  F++(⟨.one,0,4,1,λ_=>[u64 0,Qb 0,u64 0,Qb 0]⟩::mF o::mG o::g)⟩
section
variable {h:List Ob}{tl:Nat}{t:Tr}(ht:(h.map Ob.ro)[tl]? = some (wF t).ro)(i:zk h t)
include ht i
theorem Qdv(n):QR prog 149 h [.ptr tl 0 0 0,u64 n] (λd=>d=mD (t.qM n none)):=by
 refine Zk func149 ntmps149 results149 λE w N F z Q f=>?_;rw[<- z]at ht;have L:=Qc ht;simp only[go_sem,Qa,ht,L];refine Z4 (λj I=>∃(s:Tr) (o:Option It) (g:List Ob),s.size+j<=t.size/\zk h s/\s.qM n o=t.qM n none/\I=yS F g n s o) t.size (s0:=yS F [] n t none) ?_ ⟨t,none,[],ω,i,rfl,rfl⟩ ?_
 .simp only[yS];exact QN
 rintro j _ P ⟨s,o,g,m,p,k,rfl⟩;rcases s with _|⟨O,q,x,u⟩
 .simp only[yS];apply QC f;apply QC f;apply KX [] f [0] [1,2,3];simp only[go_sem,Qa];have H:o=t.qM n none:=k;subst H;refine⟨⟨_,rfl,rfl⟩,⟨_,rfl,rfl⟩⟩
 have l:=p.1;rw[<- z]at l;have r:=Qc l;rw[Tr.QqO]at k;by_cases v:n<q.ka
 .have d1:=Q3 v;rw[Qf v]at k;simp only[yS];apply Qg f;simp only[go_sem,Qa,l,r,d1];refine⟨by simp only[Tr.size]at m;omega,yS F g n x o,?_,x,o,g,by simp only[Tr.size]at m;omega,p.2.1,k,rfl⟩;simp only[yS];exact QN
 .have d1:=QS v;rw[Qe v]at k;simp only[yS];apply Qg f;simp only[go_sem,Qa,l,r,d1];refine Jb f Qco (Qdu (lm:=F.length+2) (lo:=F.length+1) (o:=o) (Vj rfl) (Vj rfl) ω q) λd J y=>?_;obtain⟨C,rfl⟩:=y;simp only[go_sem,Qa];cases x with
  | nil=>
   apply Qg f;simp only[go_sem,Qa,l,r];refine⟨by simp only[Tr.size]at m;omega,yS F (g++C) n u (qL o q),?_,u,_,_,by simp only[Tr.size]at m;omega,p.2.2,k,rfl⟩;simp only[yS];exact QN
  | node a b c e=>
   have B:=p.2.1.1;rw[<- z]at B;have M:=Qc B;apply Qg f;simp only[go_sem,Qa,l,r,B,M];refine Jb f Qco (Qdu (lm:=F.length+2) (lo:=F.length+1) (o:=qL o q) (Vj rfl) (Vj rfl) ω (Tr.node a b c e).least) λd J y=>?_;obtain⟨K,rfl⟩:=y;simp only[go_sem,Qa];apply Qg f;simp only[go_sem,Qa,l,r];refine⟨by simp only[Tr.size]at m;omega,yS F (g++(C++K)) n u (qL (qL o q) (Tr.node a b c e).least),?_,u,_,_,by simp only[Tr.size]at m;omega,p.2.2,k,rfl⟩;simp only[yS];exact QN
end
def Xl(e:Zy):Int × D:=(e.k,e.v)
structure XS (es:List Zy) (P:List (Int × D)):Prop where
 perm:(es.map Xl).Perm P
 nd:(P.map Prod.fst).Nodup
def XS.A7{a}{P}(M:XS a P):Xs a:=by
 have b:a.map (·.k)=(a.map Xl).map Prod.fst:=by simp[Xl,Tg]
 unfold Xs;rw[b,(M.perm.map Prod.fst).nodup_iff];exact M.nd
def mH:∀{b:List Zy},Xs b->∀{k:Int} {v:D},ZP b k=some v↔(k,v)∈b.map Xl
 | [],_,k,v=>by simp[ZP]
 | e::b,a,k,v=>by
  have g:Xs b:=by unfold Xs at a ⊢;simp only[JN,ZN]at a;exact a.2
  simp only[ZP];by_cases h:e.k=k
  .rw[Qf h];constructor
   .rintro⟨rfl⟩;simp[Xl,h]
   .intro hm;simp only[JN,QE]at hm;rcases hm with hm|hm
    .simp only[Xl,Q9]at hm;rw[hm.2]
    .exfalso;obtain⟨d,f,c⟩:=Jm.1 hm;simp only[Xl,Q9]at c;unfold Xs at a;simp only[JN,ZN,Jm,Dl,not_and]at a;exact a.1 d f (by rw[c.1,h])
  .rw[Qe h,mH g];simp only[JN,QE];constructor
   .exact λh=>.inr h
   .rintro (hm|hm)
    .simp only[Xl,Q9]at hm;exact absurd hm.1.symm h
    .exact hm
def look(P:List (Int × D))(k:Int):Option D:=(P.find? λp=>p.1==k).map Prod.snd
def bN:∀{P:List (Int × D)},(P.map Prod.fst).Nodup->∀{k:Int} {v:D},look P k=some v↔(k,v)∈P
 | [],_,k,v=>by simp[look]
 | p::P,a,k,v=>by
  simp only[JN,ZN]at a;have b:=bN a.2 (k:=k) (v:=v);unfold look at b ⊢;rw[vI];by_cases h:p.1=k
  .rw[zH.2 h];simp only[Kx,QX,QE];constructor
   .rintro rfl;exact .inl (by rw[<- h])
   .rintro (hm|hm)
    .rw[<- hm]
    .exact absurd (Jm.2 ⟨_,hm,rfl⟩) (by rw[<- h];exact a.1)
  .have c:(p.1==k)=false:=by simpa using h
   rw[c,b,QE];constructor
   .exact λh=>.inr h
   .rintro (hm|hm)
    .exact absurd (by rw[<- hm]) h
    .exact hm
def XS.look{b}{P}(M:XS b P)(k):ZP b k=look P k:=by
 cases a:X.look P k with
 | some v=>
  rw[mH M.A7,M.perm.mem_iff];exact(bN M.nd).1 a
 | none=>
  cases c:ZP b k with
  | none=>rfl
  | some v=>
   rw[mH M.A7,M.perm.mem_iff]at c;rw[(bN M.nd).2 c]at a;cases a
def XS.len{a:List Zy}{P:List (Int × D)}(M:XS a P):a.length=P.length:=by
 have:=M.perm.length_eq;rwa [JV]at this
def Bh(P:List (Int × D))(k:Int):List (Int × D):=P.filter λp=>p.1 != k
def Eh(P:List (Int × D))(k:Int)(v:D):List (Int × D):=(k,v)::Bh P k
def Qdw{P:List (Int × D)}(k:Int)(h:(P.map Prod.fst).Nodup):((Bh P k).map Prod.fst).Nodup:=by
 unfold Bh;exact List.Nodup.sublist (List.Sublist.map _ List.filter_sublist) h
def Qdx{P:List (Int × D)}(k)(v:D)(h:(P.map Prod.fst).Nodup):((Eh P k v).map Prod.fst).Nodup:=by
 rw[Eh,JN,ZN];refine⟨λb=>?_,Qdw k h⟩;obtain⟨p,a,e⟩:=Jm.1 b;simp only[Bh,JO,bne_iff_ne,ne_eq]at a;exact a.2 e
def Qdy:∀{a:List Zy} (k:Int) (v:D),Xs a->(∃u,ZP a k=some u)->((zO a k v).map Xl).Perm ((k,v)::(a.map Xl).filter λp=>p.1 != k)
 | [],k,v,_,h=>by obtain⟨u,c⟩:=h;cases c
 | e::a,k,v,d,h=>by
  have i:Xs a/\∀g∈a,g.k≠e.k:=by
   unfold Xs at d ⊢;simp only[JN,ZN,Jm,Dl,not_and]at d;exact⟨d.2,d.1⟩
  simp only[zO];by_cases b:e.k=k
  .rw[Qf b,JN,JN];have f:(Xl e).1=k:=b;rw[vH,show ((Xl e).1 != k)=false by rw[f];simp];simp only[YR,vN];rw[yf.2]
   .exact Lp _
   .intro p j;obtain⟨g,m,rfl⟩:=Jm.1 j;have:=i.2 g m;simpa[Xl,<- b] using this
  .rw[Qe b,JN,JN,vH];have f:((Xl e).1 != k)=true:=by simpa[Xl] using b
   rw[f,Qf rfl];have l:∃u,ZP a k=some u:=by
    obtain⟨u,c⟩:=h;simp only[ZP,Qe b]at c;exact⟨u,c⟩
   exact(List.Perm.cons _ (Qdy k v i.1 l)).trans (List.Perm.swap _ _ _)
def XS.set{a}{P}(M:XS a P)(q)(c)(k)(v):∃h b,JR q c a k v=QM q h b/\XS b (Eh P k v):=by
 unfold JR;cases d:ZP a k with
 | some u=>
  refine⟨c,zO a k v,rfl,?_,Qdx k v M.nd⟩;exact(Qdy k v M.A7 ⟨u,d⟩).trans (List.Perm.cons _ (M.perm.filter _))
 | none=>
  refine⟨c+1,a++[⟨k,v,c⟩],rfl,?_,Qdx k v M.nd⟩;rw[ju,Eh];have g:Bh P k=P:=by
   unfold Bh;rw[yf];intro p f;rw[bne_iff_ne];intro e;have:=(bN M.nd (k:=k) (v:=p.2)).2 (by rw[<- e];exact f);rw[<- M.look,d]at this;cases this
  rw[g];exact(List.perm_append_comm.trans (List.Perm.cons _ M.perm))
def Qdz:∀{a:List Zy} (k:Int),Xs a->((JK a k).map Xl)=((a.map Xl).filter λp=>p.1 != k)
 | [],_,_=>rfl
 | e::a,k,c=>by
  have f:Xs a/\∀d∈a,d.k≠e.k:=by
   unfold Xs at c ⊢;simp only[JN,ZN,Jm,Dl,not_and]at c;exact⟨c.2,c.1⟩
  simp only[JK];by_cases b:e.k=k
  .rw[Qf b,JN,vH,show ((Xl e).1 != k)=false by simpa[Xl] using b];simp only[YR,vN];rw[yf.2];intro p g;obtain⟨d,h,rfl⟩:=Jm.1 g;have:=f.2 d h;simpa[Xl,<- b] using this
  .rw[Qe b,JN,JN,vH,show ((Xl e).1 != k)=true by simpa[Xl] using b,Qf rfl,Qdz k f.1]
def XS.del{a}{P}(M:XS a P)(k):XS (JK a k) (Bh P k):=by
 refine⟨?_,Qdw k M.nd⟩;rw[Qdz k M.A7];exact M.perm.filter _
def XS.nil:XS [] []:=⟨σ,σ⟩
def XS.to{a}{P Q:List (Int × D)}(M:XS a P)(h:P.Perm Q):XS a Q:=⟨M.perm.trans h,((h.map Prod.fst).nodup_iff).1 M.nd⟩
structure Step (S:Nat->Prop) (h h':List Ob):Prop where
 keep:∀l,l<h.length->¬ S l->h'[l]? = h[l]?
 len:h.length<=h'.length
def more(S:Nat->Prop)(h:List Ob):Nat->Prop:=λl=>S l\/h.length<=l
def Step.trans{S}{h h' e}(a:Step S h h')(b:Step (more S h) h' e):Step S h e:=
 ⟨λl d c=>by rw[b.keep l (kv d a.len) (λf=>f.elim c ω),a.keep l d c],K9 a.len b.len⟩
def Step.app(S)(h g):Step S h (h++g):=⟨λl a _=>QG a,σ⟩
structure KD (es:List Zy) (f:Int->Option D):Prop where
 nd:Xs es
 at_:∀k,ZP es k=f k
section
variable {es:List Zy}{f:Int->Option D}
def KD.p(M:KD es f):XS es (es.map Xl):=⟨Lp _,by
 have a:(es.map Xl).map Prod.fst=es.map (·.k):=by simp[Xl,Tg]
 rw[a];exact M.nd⟩
def KD.to{g}(M:KD es f)(h:∀k,f k=g k):KD es g:=⟨M.nd,λk=>(M.at_ k).trans (h k)⟩
def QdA(P)(k j):look (Bh P k) j=if j=k then none else look P j:=by
 unfold look Bh;rw[List.find?_filter];by_cases h:j=k
 .subst h;rw[Qf rfl,fu,js];intro p _ b;simp at b
 .rw[Qe h];congr 2;funext p;by_cases a:p.1=j
  .simp[a,h]
  .simp[a]
def QqP(P)(k)(v)(j):look (Eh P k v) j=if j=k then some v else look P j:=by
 have a:=QdA P k j;unfold look at a ⊢;unfold Eh;rw[vI];by_cases h:j=k
 .subst h;simp
 .have b:((k,v).1==j)=false:=by simpa using Q1 h
  rw[b,Qe h];rw[Qe h]at a;exact a
def KD.set(M:KD es f)(q)(c)(k)(v):∃b a,JR q c es k v=QM q b a/\KD a (λj=>if j=k then some v else f j):=by
 obtain⟨b,a,e,d⟩:=M.p.set q c k v;refine⟨b,a,e,d.A7,λj=>?_⟩;rw[d.look,QqP];split
 .rfl
 .rw[<- M.p.look,M.at_]
def KD.del(M:KD es f)(k):KD (JK es k) (λj=>if j=k then none else f j):=by
 have a:=M.p.del k;refine⟨a.A7,λj=>?_⟩;rw[a.look,QdA];split
 .rfl
 .rw[<- M.p.look,M.at_]
def KD.nil:KD [] (λ_=>none):=⟨by simp[Xs],λ_=>rfl⟩
def KD.QdB(M:KD es f):es.length=0↔∀k,f k=none:=by
 constructor
 .intro h k;rw[G0]at h;rw[<- M.at_,h];rfl
 .intro h;cases es with
  | nil=>rfl
  | cons e es=>
   have a:=M.at_ e.k;rw[h,ZP,Qf rfl]at a;cases a
end
def Ie(b:Bool):Int:=if b then 1 else 0
def k9(T:List Qt)(k:Int):Option D:=match Qz T k with
 | some c=>if 1<Q4 c.ls then some (.agg [Qb c.parent,Qb (Ie c.leaf)]) else none
 | none=>none
def yT(T:List Qt)(A:List Int)(k:Int):Option D:=if k∈A then some (Qb ((Qz T k).getD default).parent) else none
def Ci(a:Int->Option Nat)(k:Int):Option D:=(a k).map λl=>.mref l 0
def xK(f:Int->Bool)(i:Int):Option D:=if f i then some (Qb 1) else none
@[go_sem] def bO(c b a:Nat):Ob:=⟨.one,0,3,1,λ_=>[.mref c 0,.mref b 0,.mref a 0]⟩
structure zl (S:Nat->Prop) (h:List Ob) (p b1 b2 b3 c1 c2 c3:Nat) (ZB ZT Kr:List Zy) (kl:Int->Option Nat) (T:List Qt) (A:List Int) (Kd:Int->Int->Bool):Prop where
 o:h[p]? = some (bO b1 b2 b3)
 m1:h[b1]? = some (QM .i64 c1 ZB)
 f1:KD ZB (k9 T)
 m2:h[b2]? = some (QM .i64 c2 ZT)
 f2:KD ZT (yT T A)
 m3:h[b3]? = some (QM .i64 c3 Kr)
 f3:KD Kr (Ci kl)
 ks:∀k l,kl k=some l->∃c es,h[l]? = some (QM .i64 c es)/\KD es (xK (Kd k))
 kn:∀k i,kl k=none->Kd k i=false
 ki:∀k k' l,kl k=some l->kl k'=some l->k=k'
 Re:b1≠b2
 Rf:b1≠b3
 MU:b2≠b3
 bT:p≠b1
 Rg:p≠b2
 Ei:p≠b3
 nk:∀k l,kl k=some l->l≠p/\l≠b1/\l≠b2/\l≠b3
 sp:S p
 s1:S b1
 s2:S b2
 s3:S b3
 sk:∀k l,kl k=some l->S l
def zn(S:Nat->Prop)(h:List Ob)(p:Nat)(T:List Qt)(A:List Int):Prop:=∃g f e d c b j i k a,zl S h p g f e d c b j i k a T A (qJ T A)
def zl.step{S S'}{h h'}{p t s r n m j}{v u w}{g}{T}{A}{x}
  (e:∀l,l<h.length->S l->S' l/\h'[l]? = h[l]?) (a:zl S h p t s r n m j v u w g T A x):zl S' h' p t s r n m j v u w g T A x:=by
 have k:∀l o,S l->h[l]? = some o->S' l/\h'[l]? = some o:=λl o d b=>⟨(e l (Qc b) d).1,(e l (Qc b) d).2.trans b⟩;refine⟨(k _ _ a.sp a.o).2,(k _ _ a.s1 a.m1).2,a.f1,(k _ _ a.s2 a.m2).2,a.f2,(k _ _ a.s3 a.m3).2,a.f3,λq l f=>?_,a.kn,a.ki,a.Re,a.Rf,a.MU,a.bT,a.Rg,a.Ei,a.nk,(k _ _ a.sp a.o).1,(k _ _ a.s1 a.m1).1,(k _ _ a.s2 a.m2).1,(k _ _ a.s3 a.m3).1,λq l f=>?_⟩
 .obtain⟨c,i,d,b⟩:=a.ks q l f;exact⟨c,i,(k _ _ (a.sk q l f) d).2,b⟩
 .obtain⟨c,i,d,b⟩:=a.ks q l f;exact(k _ _ (a.sk q l f) d).1
def zn.step{S S'}{h h':List Ob}{p}{T}{A}(e:∀l,l<h.length->S l->S' l/\h'[l]? = h[l]?):zn S h p T A->zn S' h' p T A:=
 λ⟨i,g,f,d,c,b,k,j,m,a,O⟩=>⟨i,g,f,d,c,b,k,j,m,a,O.step e⟩
structure QqQ (h:List Ob) (p b1 b2 b3 c1 c2 c3:Nat) (ZB ZT Kr:List Zy) (kl:Int->Option Nat) (T:List Qt) (A:List Int) (Kd:Int->Int->Bool):Prop where
 o:(h.map Ob.ro)[p]? = some (bO b1 b2 b3).ro
 m1:(h.map Ob.ro)[b1]? = some (QM .i64 c1 ZB).ro
 f1:KD ZB (k9 T)
 m2:(h.map Ob.ro)[b2]? = some (QM .i64 c2 ZT).ro
 f2:KD ZT (yT T A)
 m3:(h.map Ob.ro)[b3]? = some (QM .i64 c3 Kr).ro
 f3:KD Kr (Ci kl)
 ks:∀k l,kl k=some l->∃c es,(h.map Ob.ro)[l]? = some (QM .i64 c es).ro/\KD es (xK (Kd k))
 kn:∀k i,kl k=none->Kd k i=false
def F8(h:List Ob)(p:Nat)(T:List Qt)(A:List Int):Prop:=∃g f e d c b j i k a,QqQ h p g f e d c b j i k a T A (qJ T A)
def zn.toR{S}{h}{p}{T}{A}:zn S h p T A->F8 h p T A:=
 λ⟨o,n,m,j,i,g,r,q,s,a,O⟩=>⟨o,n,m,j,i,g,r,q,s,a,ZG O.o,ZG O.m1,O.f1,ZG O.m2,O.f2,ZG O.m3,O.f3,λk l b=>by
  obtain⟨c,f,e,d⟩:=O.ks k l b;exact⟨c,f,ZG e,d⟩,O.kn⟩
def F8.more{h h':List Ob}{p}{T}{A}(e:∀(l:Nat) (o:Ob),(h.map Ob.ro)[l]? = some o->(h'.map Ob.ro)[l]? = some o):F8 h p T A->F8 h' p T A:=
 λ⟨r,q,n,m,j,i,t,s,u,a,O⟩=>⟨r,q,n,m,j,i,t,s,u,a,e _ _ O.o,e _ _ O.m1,O.f1,e _ _ O.m2,O.f2,e _ _ O.m3,O.f3,λk l b=>by
  obtain⟨c,g,f,d⟩:=O.ks k l b;exact⟨c,g,e _ _ f,d⟩,O.kn⟩
def QqR{T}(I:Ve T){A}(n:xI T A)(b)(o:b≠0):(b∈A\/∃i,qJ T A b i=true)↔Z2 T A b=true:=by
 constructor
 .rintro (h|⟨i,j⟩)
  .obtain⟨c,f,e,g⟩:=n b h;exact qd.2 ⟨b,h,XA I f⟩
  .obtain⟨c,f,e,g⟩:=wB.1 j;obtain⟨d,k,_⟩:=I.Y8 c (xH I f) (by rw[e];exact o);rw[e]at k;exact H0 I g (by rw[Vl I f,e];exact Km _ (XA I k))
 .intro h;obtain⟨a,l,j⟩:=qd.1 h;by_cases m:a=b
  .subst m;exact .inl l
  .obtain⟨i,c,f,e,g⟩:=bH I j m;exact .inr ⟨i,wB.2 ⟨c,e,g,qd.2 ⟨a,l,f⟩⟩⟩
end Go.Fg.X
namespace Go.Fg.X
open Go.Proofs Go.Fg
open Go.RowKit (Below)
open Go.Proofs.Tryz
def bU{P}{f}{h}{u}{R}(B:D)(N:∀k,B.upto k=true)
  (hd:∀d g,R d g->JG 6 d B\/∃c z x n a,h.length<=c/\(h++g)[c]? = some ⟨.arr,z,x,n,a⟩/\(∀i,i<n->(a i).all D.Yu=true)/\JG 6 (D.fz c z n x a d) B) (H:Kq P f h u R):QR P f h u (λd=>d=B):=by
 intro Z t w j vs h1 h2 m I hc;have HQ:Zg Z w.heap.size (h.map Ob.ro) j w:=by
  refine⟨m.len,m.inj,m.Vh,λl o b q U F=>⟨λT=>?_,(m.at_ l o b q U F).2⟩⟩;obtain⟨M,_,rfl⟩:=DO U;rw[Pd,Kd.toRo_ro]at T;cases T
 refine(H Z w.heap.size w j vs (QB _) h2 HQ I hc).mono λe E he=>?_;obtain⟨v,d,_,s,rfl,⟨g,rfl,hR⟩,J,V,hT,Y⟩:=he;have W:∀b,b<w.heap.size->E.heap[b]? = w.heap[b]? := λb hb=>Y.block b hb;have Zf:∀(l:Nat),l<h.length->s[l]? = j[l]? := λl I=>by
  have Z7:l<j.length:=by rw[m.len];simpa using I
  obtain⟨M,p',S,m2,_,_,m3⟩:=hT.obj l _ _ (ZG (QP I)) (QP Z7);rw[JD (by simpa using I),ZG (QP I)]at S;cases S;obtain⟨_,rfl⟩:=m3 rfl;rw[m2,QP Z7]
 have e1:(h.map Ob.ro++g).take h.length=h.map Ob.ro:=TB σ;have MV:Qy Z (h.map Ob.ro) j E B v->_:=λhx=>(⟨v,B,h.map Ob.ro,j,rfl,⟨[],(Jl _).symm,N _,rfl⟩,m.ext W,hx,Go.Fg.Tr.ext m W,Y.mono h1⟩:∃Q d K s,Ending.returned v=.returned Q/\(∃g,K=h.map Ob.ro++g/\d.upto h.length=true/\d=B)/\Zg Z t K s E/\Qy Z K s E d Q/\Go.Fg.Tr (h.map Ob.ro) j w K s E/\Below t w E);refine MV ?_;rcases hd _ _ hR with C|⟨c,z,x,n,a,F9,Zq,Z1,C⟩
 .have r:=(kR 6 C V).take (N h.length);have O:s.take h.length=j:=by
   apply xh;intro i;rw[Xc];by_cases y:i<h.length
   .rw[Qf y,Zf i y]
   .rw[Qe y,Dg (by rw[m.len];simp;omega)]
  rw[e1,O]at r;exact r
 have L:(h.map Ob.ro++g)[c]? = some ⟨.arr,z,x,n,a⟩:=by
  rw[JE ω]at Zq;rw[JE (by simpa using F9)];simpa using Zq
 have Qc:c<s.length:=by rw[J.len];exact(Wh.1 L).1
 obtain⟨p,F⟩:∃p,s[c]? = some p:=⟨_,QP Qc⟩;have Ga:=V.fz (l:=c) (o:=⟨.arr,z,x,n,a⟩) (p:=p) L F rfl (λb q e=>by
  subst e;refine⟨h2 b ?_,λl' q' e'=>J.inj _ _ _ _ _ e' F,(J.at_ c _ b q L F).2.cells rfl⟩;exact(J.at_ c _ b q L F).1 rfl) Z1 (h':=(h.map Ob.ro++g).set c (Ob.gone ⟨.arr,z,x,n,a⟩)) (λl' M QA e=>by
  exact⟨M,by rw[Jf (Q1 QA)];exact e,rfl,rfl,rfl⟩)
 have r:=(kR 6 C Ga).take (N h.length);have e3:((h.map Ob.ro++g).set c (Ob.gone ⟨.arr,z,x,n,a⟩)).take h.length=h.map Ob.ro:=by
  rw[Lr _ _ (by simpa using F9)];exact TB σ
 have O:(s.set c none).take h.length=j:=by
  apply xh;intro i;rw[Xc];by_cases y:i<h.length
  .rw[Qf y,Jf ω,Zf i y]
  .rw[Qe y,Dg (by rw[m.len];simp;omega)]
 rw[e3,O]at r;exact r
end Go.Fg.X
namespace Go.Fg.X
open Go.Proofs Go.Fg
open Go.Proofs.Tryz
section
variable (h:List Ob)(t m c:Nat){es:List Zy}{L:List Qt}(T:Vk es L)(hlen:L.length<1000000)
 (ht:(h.map Ob.ro)[t]? = some ⟨.Wy,0,1,1,λ_=>[.mref m 0]⟩) (hm:(h.map Ob.ro)[m]? = some (QM .i64 c es).ro)
include T ht hm hlen
theorem QqS:Kq prog 96 h [.ptr t 0 0 0] (λd g=>J3 h.length (h++g) d ((L.filter (·.leaf)).map (·.iD))):=by
 refine Yz J8 200 func96 rfl ntmps96 results96 rfl λa w i F e f b=>?_;rw[<- e]at ht hm;have l:=Qc ht;have n:=Qc hm;simp only[go_sem,Qa,ht,l,hm,n];have k:PW (F.map Ob.ro) 126 0 [] (λx=>x.leaf):=λp x o=>by
  refine Zk func126 ntmps126 results126 λa w i F e f b=>?_;simp only[go_sem,Qa];exact⟨_,rfl⟩
 refine AW b aQ rfl ?_ (bB _ t m c T hlen (ZG ht) (HW hm) (.raw (.func (.func 126) ⟨[]⟩ ⟨[]⟩)) 126 0 [] Qow rfl _ k) rfl λd g j=>?_
 .simp only[go_sem]
 apply QC b;exact J3.done f ⟨_,rfl⟩ j
end
def wG{h g:List Ob}(l:Nat)(o:Ob)(e:(h.map Ob.ro)[l]? = some o):((h++g).map Ob.ro)[l]? = some o:=by
 rw[ju,JD (Kh e)];exact e
def J3.closed{P}{f}{h:List Ob}{a}{L}(H:Kq P f h a (λd g=>J3 h.length (h++g) d L)):QR P f h a (λd=>d=ints L):=by
 refine bU (ints L) (λ_=>rfl) ?_ H;rintro d g (⟨rfl,m⟩|⟨c,e,p,b,rfl,⟨o,rfl⟩,l,j⟩)
 .subst m;exact .inl rfl
 .refine .inr ⟨c,e,1,_,b,o,l,λi k=>?_,?_⟩
  .have:=j i ω;rw[Jv]at this;rw[this];rfl
  .have n:D.fz c e (0+L.length) 1 b (.ref c e 0 L.length)=.imm 1 L.length (rowFrom 0 b):=by simp[D.fz,DI]
   rw[n];simp only[ints];rw[DN];refine⟨rfl,rfl,λi k=>?_⟩;rw[DL,j i k,Qpu];exact wc (qH _) _
def QqT(h)(x):QR prog 74 h [Xz x] (λd=>d=QT true):=by
 refine Zk func74 ntmps74 results74 λa w b F e f c=>?_;simp only[go_sem,Qa];all_goals exact KY
section
variable (h:List Ob)(t m c:Nat){es:List Zy}{L:List Qt}(T:Vk es L)(hlen:L.length<1000000)
 (ht:(h.map Ob.ro)[t]? = some ⟨.Wy,0,1,1,λ_=>[.mref m 0]⟩) (hm:(h.map Ob.ro)[m]? = some (QM .i64 c es).ro)
include T ht hm hlen
theorem QqU:Kq prog 41 h [.ptr t 0 0 0] (λd g=>J3 h.length (h++g) d ((L.filter (λ_=>true)).map (·.iD))):=by
 refine Yz J8 200 func41 rfl ntmps41 results41 rfl λb w p F i l a=>?_;rw[<- i]at ht hm;have k:=Qc ht;have n:=Qc hm;simp only[go_sem,Qa,ht,k,hm,n];have f:PW (F.map Ob.ro) 74 0 [] (λx=>true):=λj x o=>QqT j x;refine AW a aQ rfl ?_ (bB _ t m c T hlen (ZG ht) (HW hm) (.raw (.func (.func 74) ⟨[]⟩ ⟨[]⟩)) 74 0 [] Qn4 rfl _ f) rfl λd g e=>?_
 .simp only[go_sem]
 apply QC a;exact J3.done l ⟨_,rfl⟩ e
end
def V6(S:Nat->Prop)(h:List Ob)(t:Nat)(T:List Qt):Prop:=∃m c a,h[t]? = some ⟨.one,0,1,1,λ_=>[.mref m 0]⟩/\h[m]? = some (QM .i64 c a)/\Vk a T/\S t/\S m
def Wq(h:List Ob)(t:Nat)(T:List Qt):Prop:=∃m c a,(h.map Ob.ro)[t]? = some ⟨.Wy,0,1,1,λ_=>[.mref m 0]⟩/\(h.map Ob.ro)[m]? = some (QM .i64 c a).ro/\Vk a T
def V6.toR{S}{h}{t}{T}:V6 S h t T->Wq h t T:=λ⟨m,c,e,d,b,a,_,_⟩=>⟨m,c,e,ZG d,ZG b,a⟩
def V6.step{S S'}{h h':List Ob}{t}{T}(e:∀l,l<h.length->S l->S' l/\h'[l]? = h[l]?):V6 S h t T->V6 S' h' t T:=λ⟨m,c,i,b,a,g,f,d⟩=>
 ⟨m,c,i,((e _ (Qc b) f).2).trans b,((e _ (Qc a) d).2).trans a,g,(e _ (Qc b) f).1,(e _ (Qc a) d).1⟩
def Wq.more{h h':List Ob}{t}{T}(e:∀(l:Nat) (o:Ob),(h.map Ob.ro)[l]? = some o->(h'.map Ob.ro)[l]? = some o):Wq h t T->Wq h' t T:=λ⟨m,c,f,d,b,a⟩=>⟨m,c,f,e _ _ d,e _ _ b,a⟩
section
variable {h:List Ob}{t:Nat}{T:List Qt}(R:Wq h t T)(hlen:T.length<1000000)
include R hlen
theorem bV:QR prog 41 h [.ptr t 0 0 0] (λd=>d=ints (T.map (·.iD))):=by
 obtain⟨m,c,f,a,b,e⟩:=R;have:=J3.closed (QqU h t m c e hlen a b);rwa [yf.2 (λ_ _=>rfl)]at this
theorem QqV(a):QR prog 155 h [.ptr t 0 0 0,Qb a] (λd=>d=ints (WD T a)):=by
 obtain⟨m,c,g,b,e,f⟩:=R;exact J3.closed (lW h t m c f hlen b e a)
omit hlen in
theorem mI(I:TreeInv T)(a):QR prog 92 h [.ptr t 0 0 0,Qb a] (λd=>d=ints (Jy T 16 a)):=by
 obtain⟨m,c,g,b,e,f⟩:=R;exact J3.closed (QcW h t m c f b e a 16 π (I.ends a))
omit hlen in
theorem MW(a:Int):QR prog 59 h [.ptr t 0 0 0,Qb a] (λd=>d=.tup [Xz ((Qz T a).getD default),Qb (if (Qz T a).isSome then 0 else 6)]):=by
 obtain⟨m,c,g,b,e,f⟩:=R;exact QcV h t m c f b e a
end
def bW{f}{a:List Zy}(M:KD a (xK f)):0<a.length↔∃i,f i=true:=by
 constructor
 .intro h;refine xg λd=>?_;have:=M.QdB.2 λk=>by
   unfold xK;rw[Qe (λc=>d ⟨k,c⟩)]
  omega
 .rintro⟨i,b⟩;refine Nat.pos_of_ne_zero λh=>?_;have:=M.QdB.1 h i;unfold xK at this;rw[Qf b]at this;cases this
def Cj{h}{p}{T}{A}(O:F8 h p T A)(I:Ve T)(M:xI T A)(a)(N:a≠0):QR prog 75 h [.ptr p 0 0 0,Qb a] (λd=>d=QT (Z2 T A a)):=by
 obtain⟨Y,W,V,U,S,R,ZB,Z,Kr,K,O⟩:=O;obtain⟨f,Q,f1,b,f2,j,f3,H,J⟩:=O;have t:=QqR I M a N;have k:=f2.at_ a;have r:=f3.at_ a;by_cases n:a∈A
 .have e:Z2 T A a=true:=t.1 (.inl n);rw[yT,Qf n]at k;rw[e];refine Zk func75 ntmps75 results75 λg w y F m C z=>?_;rw[<- m]at f b;have o:=Qc f;have q:=Qc b;simp only[go_sem,Qa,f,o,b,q,k,Go.undef];all_goals exact KY
 .rw[yT,Qe n]at k;cases s:K a with
  | none=>
   have e:Z2 T A a=false:=by
    rw[Ym];intro h;rcases t.2 h with h|⟨i,h⟩
    .exact n h
    .rw[J a i s]at h;cases h
   rw[Ci,s,YW]at r;rw[e];refine Zk func75 ntmps75 results75 λg w y F m C z=>?_;rw[<- m]at f b j;have o:=Qc f;have q:=Qc b;have u:=Qc j;simp only[go_sem,Qa,f,o,b,q,j,u,k,r,Go.undef];all_goals exact KY
  | some l=>
   obtain⟨c,x,ml,P⟩:=H a l s;rw[Ci,s,Kx]at r;have L:=bW P;have B:0<x.length↔Z2 T A a=true:=L.trans ⟨λh=>t.1 (.inr h),λh=>(t.2 h).elim (λh=>absurd h n) λh=>h⟩;have d0:decide (0<x.length)=Z2 T A a:=by
    cases v:Z2 T A a with
    | true=>exact Q3 (B.2 v)
    | false=>exact QS λh=>by rw[B.1 h]at v;cases v
   have d1:decide ((0:Int)<(x.length:Int))=Z2 T A a:=by rw[<- d0];congr 1;rw[eq_iff_iff];omega
   refine Zk func75 ntmps75 results75 λg w y F m C z=>?_;rw[<- m]at f b j ml;have o:=Qc f;have q:=Qc b;have u:=Qc j;have E:=Qc ml;simp only[go_sem,Qa,f,o,b,q,j,u,ml,E,k,r,Go.undef,d1];all_goals exact KY
def Step.Rh{S}{h H:List Ob}(s:Step S h H){l}(b:more S h l)(o):Step S h (H.set l o):=
 ⟨λj c a=>by
  have d:l≠j:=by
   rintro rfl;rcases b with h3|h3
   .exact a h3
   .omega
  rw[Qm d];exact s.keep j c a,by rw[Xd];exact s.len⟩
def Step.mJ{S}{h H}(s:Step S h H)(g):Step S h (H++g):=
 ⟨λj a b=>by rw[QG (kv a s.len)];exact s.keep j a b,by have:=s.len;simp;omega⟩
structure MX (S:Nat->Prop) (h:List Ob) (p:Nat) (T:List Qt) (A:List Int) (leaf:Int) (n:Nat) (s:St):Prop where
 ex:∃id dn c lo g row H S' b1 b2 b3 c1 c2 c3 ZB ZT Kr kl,up T leaf=dn++up T id/\Qz T id=some c/\(up T id).length<=n/\(∀i∈dn++[id],Z2 T A i=false) /\
  zl S' H p b1 b2 b3 c1 c2 c3 ZB ZT Kr kl T (leaf::A) (zX T A dn)/\(∀l,S' l->more S h l/\l<H.length)/\¬ S' lo/\h.length<=lo/\Step S h H /\
  H[lo]? = some ⟨.arr,g,1,dn.length+1,row⟩/\(∀i,i<dn.length+1->row i=[Qb ((dn++[id]).getD i 0)]) /\
  s=⟨[(0,.ptr p 0 0 0),(6,.ref lo g 0 (dn.length+1)),(7,Qb id)],H⟩
section
variable {S:Nat->Prop}{h:List Ob}{p b1 b2 b3 c1 c2 c3:Nat}{ZB ZT Kr:List Zy}{kl:Int->Option Nat}{T:List Qt}{A:List Int}{Kd:Int->Int->Bool}(O:zl S h p b1 b2 b3 c1 c2 c3 ZB ZT Kr kl T A Kd)
include O
theorem zl.QdC{c2'}{a}{A'}(g:KD a (yT T A')):zl S (h.set b2 (QM .i64 c2' a)) p b1 b2 b3 c1 c2' c3 ZB a Kr kl T A' Kd:=by
 refine⟨(Qm (Q1 O.Rg)).trans O.o,(Qm (Q1 O.Re)).trans O.m1,O.f1,Qv (Qc O.m2),g,(Qm O.MU).trans O.m3,O.f3,λk l b=>?_,O.kn,O.ki,O.Re,O.Rf,O.MU,O.bT,O.Rg,O.Ei,O.nk,O.sp,O.s1,O.s2,O.s3,O.sk⟩;obtain⟨c,f,e,d⟩:=O.ks k l b;exact⟨c,f,(Qm (Q1 (O.nk k l b).2.2.1)).trans e,d⟩
theorem zl.QdD{k}{l c'}{es'}{Kd'}(b:kl k=some l)(M:KD es' (xK (Kd' k)))(g:∀j,j≠k->∀i,Kd' j i=Kd j i):zl S (h.set l (QM .i64 c' es')) p b1 b2 b3 c1 c2 c3 ZB ZT Kr kl T A Kd':=by
 obtain⟨u,t,s,r⟩:=O.nk k l b;have v:l<h.length:=by
  obtain⟨c,q,f,n⟩:=O.ks k l b;exact Qc f
 refine⟨(Qm u).trans O.o,(Qm t).trans O.m1,O.f1,(Qm s).trans O.m2,O.f2,(Qm r).trans O.m3,O.f3,λj m a=>?_,λj i a=>?_,O.ki,O.Re,O.Rf,O.MU,O.bT,O.Rg,O.Ei,O.nk,O.sp,O.s1,O.s2,O.s3,O.sk⟩
 .by_cases d:j=k
  .subst d;rw[b]at a;cases a;exact⟨c',es',Qv v,M⟩
  .obtain⟨c,q,f,n⟩:=O.ks j m a;have w:l≠m:=λe=>d (O.ki j k m a (by rw[<- e];exact b));exact⟨c,q,(Qm w).trans f,n.to λi=>by unfold xK;rw[g j d i]⟩
 .have d:j≠k:=by rintro rfl;rw[b]at a;cases a
  rw[g j d i];exact O.kn j i a
theorem zl.QqW{k}{n c c3'}{e es3'}{Kd'}(u:h[n]? = some (QM .i64 c e))(M:KD e (xK (Kd' k)))(x:n≠p)(w:n≠b1)(v:n≠b2)(s:n≠b3)(r:∀j l,kl j=some l->l≠n)(t:S n)
  (B:KD es3' (λj=>if j=k then some (.mref n 0) else Ci kl j)) (q:∀j,j≠k->∀i,Kd' j i=Kd j i):zl S (h.set b3 (QM .i64 c3' es3')) p b1 b2 b3 c1 c2 c3' ZB ZT es3' (λj=>if j=k then some n else kl j) T A Kd':=by
 refine⟨(Qm (Q1 O.Ei)).trans O.o,(Qm (Q1 O.Rf)).trans O.m1,O.f1,(Qm (Q1 O.MU)).trans O.m2,O.f2,Qv (Qc O.m3),B.to λj=>?_,λj m a=>?_,λj i a=>?_,λj g m a d=>?_,O.Re,O.Rf,O.MU,O.bT,O.Rg,O.Ei,λj m a=>?_,O.sp,O.s1,O.s2,O.s3,λj m a=>?_⟩
 .by_cases b:j=k<;>simp[Ci,b]
 .by_cases b:j=k
  .subst b;rw[Qf rfl]at a;cases a;exact⟨c,e,(Qm (Q1 s)).trans u,M⟩
  .rw[Qe b]at a;obtain⟨c,e,z,y⟩:=O.ks j m a;exact⟨c,e,(Qm (Q1 (O.nk j m a).2.2.2)).trans z,y.to λi=>by unfold xK;rw[q j b i]⟩
 .by_cases b:j=k
  .subst b;rw[Qf rfl]at a;cases a
  .rw[Qe b]at a;rw[q j b i];exact O.kn j i a
 .by_cases b:j=k
  .by_cases f:g=k
   .rw[b,f]
   .rw[Qf b]at a;rw[Qe f]at d;cases a;exact absurd rfl (r _ _ d)
  .by_cases f:g=k
   .rw[Qe b]at a;rw[Qf f]at d;cases d;exact absurd rfl (r _ _ a)
   .rw[Qe b]at a;rw[Qe f]at d;exact O.ki j g m a d
 .by_cases b:j=k
  .rw[Qf b]at a;cases a;exact⟨x,w,v,s⟩
  .rw[Qe b]at a;exact O.nk j m a
 .by_cases b:j=k
  .rw[Qf b]at a;cases a;exact t
  .rw[Qe b]at a;exact O.sk j m a
theorem zl.app(g):zl S (h++g) p b1 b2 b3 c1 c2 c3 ZB ZT Kr kl T A Kd:=O.step λl a b=>⟨b,QG a⟩
end
def MX.of{S}{h}{p}{T}{A}{a}{n}{b}{dn}{c}{e g k}(d){H}(f){t s r q o m}{v u w}{j}
  (x:up T a=dn++up T b) (C:Qz T b=some c) (z:(up T b).length<=n) (E:∀i∈dn++[b],Z2 T A i=false) (O:zl f H p t s r q o m v u w j T (a::A) (zX T A dn)) (F:∀l,f l->more S h l/\l<H.length) (L:¬ f e) (K:h.length<=e) (y:Step S h H)
  (B:k=dn.length+1) (J:H[e]? = some ⟨.arr,g,1,k,d⟩) (I:∀i,i<dn.length+1->d i=[Qb ((dn++[b]).getD i 0)]):MX S h p T A a n ⟨[(0,.ptr p 0 0 0),(6,.ref e g 0 k),(7,Qb b)],H⟩:=by
 subst B;exact⟨⟨b,dn,c,e,g,d,H,f,t,s,r,q,o,m,v,u,w,j,x,C,z,E,O,F,L,K,y,J,I,rfl⟩⟩
def QqX(T)(A)(a:Int)(k):(if k=a then some (Qb ((Qz T a).getD default).parent) else yT T A k)=yT T (a::A) k:=by
 unfold yT;by_cases h:k=a
 .subst h;simp
 .simp[h]
def QdE{S}{h}{p}{T}{A}(O:zn S h p T A)(I:Ve T)(hA:xI T A)(a)(c:Qt)(hc:Qz T a=some c)(jS:c.leaf=true)(qN:1<Q4 c.ls)(JH:Z2 T A a=false):
  QI prog 63 h [.ptr p 0 0 0,Qb a] (λd h'=>∃d1,d=.tup [d1,Qb 0]/\J3 h.length h' d1 (W6 T A a)/\zn (more S h) h' p T (a::A)/\Step S h h'):=by
 have O0:=O;have hR:=O.toR;obtain⟨b1,b2,J,c1,c2,c3,ZB,ZT,Kr,kl,O⟩:=O;have x:=O.o;have P:=O.m1;have m2:=O.m2;have Z:=O.m3;have E:=O.f1.at_ a;rw[k9,hc]at E;simp only[Qf qN,jS,Ie,Va]at E;have mK:a≠0:=λe=>by rw[e,Ea I]at hc;cases hc
 have Ig:=Cj hR I hA a mK;rw[JH]at Ig;obtain⟨Y,Ej,U,M2⟩:=O.f2.set .i64 c2 a (Qb c.parent);simp only[go_sem]at U;refine QZ func63 ntmps63 results63 λa6 w pl hb=>?_;have M:=Qc x;have vg:=Qc P;simp only[go_sem,Qa,x,M,P,vg,E];apply ZA hb FU Ig;apply Qg hb;simp only[go_sem,Qa,x,M];apply Qw hb i4;simp only[go_sem,Qa,x,M,P,Qc P,m2,Qc m2,E];simp only[U];have Rj:MX S h p T A a (up T a).length ⟨[(0,.ptr p 0 0 0),(6,.ref h.length 0 0 1),(7,Qb a)],h.set b2 (QM .i64 Y Ej)++[⟨.arr,0,1,1,λ_=>[Qb a]⟩]⟩:=by
  have N:=((O.step (S':=λl=>S l/\l<h.length) λl B Q=>⟨⟨Q,B⟩,rfl⟩).QdC (c2':=Y) (M2.to λk=>by
   have hp:(Qz T a).getD default=c:=by rw[hc];rfl
   have:=QqX T A a k;rw[hp]at this;exact this)).app [⟨.arr,0,1,1,λ_=>[Qb a]⟩]
  refine⟨a,[],c,h.length,0,λ_=>[Qb a],_,λl=>S l/\l<h.length,b1,b2,J,c1,Y,c3,ZB,Ej,Kr,kl,rfl,hc,QB _,λi q=>?_,?_,λl B=>⟨.inl B.1,by have:=B.2;simp;omega⟩,λB=>by have:=B.2;omega,QB _,⟨λl B Q=>?_,σ⟩,?_,λi q=>?_,rfl⟩
  .simp only[q4,qz]at q;rw[q];exact JH
  .rw[show zX T A []=qJ T A from funext λp=>funext λi=>Qqm T A p i];exact N
  .rw[QG (by simpa using B),Qm (λ(e:b2=l)=>Q (e▸O.s2))]
  .rw[JZ σ];rfl
  .obtain rfl:i=0:=by simp at q;omega
   rfl
 refine LV (MX S h p T A a) (up T a).length QN Rj ?_;clear Rj O P m2 Z x E U M2 Ig O0 hR;rintro n s ⟨id,m,b,r,g,t,H,S',b1,b2,J,c1,c2,c3,ZB,ZT,Kr,kl,hu,K,hn,Gb,O,hS,Zq,XT,Jj,z7,ZR,rfl⟩;have x:=O.o;have P:=O.m1;have Z:=O.m3;have M:=Qc x;have vg:=Qc P;have C:=Qc Z;have Gc:=Qc z7;obtain⟨d0,Gd,JW⟩:=Qc7 I hc qN id (by rw[hu];exact Lq _ (XA I K));rw[K]at Gd;cases Gd;have E:=O.f1.at_ id;rw[k9,K]at E;simp only[Qf JW]at E;have k3:=O.f3.at_ b.parent;have ZV:=Qqk I hA hu K Gb;have bX:=Qql I (A:=A) (dn:=m) K;have mL:J≠r:=λe=>Zq (e▸O.s3);have a9:p≠r:=λe=>Zq (e▸O.sp);have a8:b1≠r:=λe=>Zq (e▸O.s1);have W:∀(V:List Ob) (S2:Nat->Prop) o f a0,zl S2 V p b1 b2 J c1 c2 o ZB ZT f a0 T (a::A) (zX T A (m++[id]))->(∀l,S2 l->more S h l)->Step S h V->V[r]? = some ⟨.arr,g,1,m.length+1,t⟩->(b.parent=0\/Z2 T A b.parent=true) ->
   J3 h.length V (.ref r g 0 (m.length+1)) (W6 T A a)/\zn (more S h) V p T (a::A)/\Step S h V:=λV S2 o f a0 N Ih Ge a4 he=>by
  obtain⟨e1,U⟩:=Qqn I hA hu K Gb he;rw[<- e1];refine⟨.inr ⟨r,g,0,t,σ,⟨XT,rfl⟩,by simpa using a4,λi q=>?_⟩,?_,Ge⟩
  .rw[Jv];exact ZR i (by simpa using q)
  .rw[show zX T A (m++[id])=qJ T (a::A) from funext λp=>funext λi=>U p i]at N;exact⟨_,_,_,_,_,_,_,_,_,_,N.step λl B Q=>⟨Ih l Q,rfl⟩⟩
 by_cases MY:∃i,zX T A m b.parent i=true
 ·
  cases z:kl b.parent with
  | none=>obtain⟨i,q⟩:=MY;rw[O.kn _ i z]at q;cases q
  | some l=>
   obtain⟨c,R,ml,fl⟩:=O.ks _ l z;have wH:=Qc ml;rw[Ci,z,Kx]at k3;have AA:0<R.length:=(bW fl).2 MY;have d1:((R.length:Int)==0)=false:=Xx ω;have d2:decide ((0:Int)<(R.length:Int))=true:=Q3 ω;have MZ:=(O.nk _ l z).2.2.2;have mM:l≠r:=λe=>Zq (e▸O.sk _ l z);obtain⟨c',a3,ea,M'⟩:=fl.set .i64 c id (Qb 1);simp only[go_sem]at ea;have he:b.parent=0\/Z2 T A b.parent=true:=by
    by_cases u:b.parent=0
    .exact .inl u
    .obtain⟨d,hd,Eb⟩:=I.Y8 b (xH I K) u;exact .inr ((Qc6 I hA hd Eb).2 (ZV.1 MY))
   have N:=O.QdD (c':=c') (es':=a3) (Kd':=zX T A (m++[id])) z (M'.to λj=>by
    unfold xK;rw[bX];by_cases F:j=id
    .simp[F]
    .simp[F]) (λj F i=>by rw[bX,Qe (λh=>F h.1)])
   apply Qg hb;simp only[go_sem,Qa,x,M,P,vg,Z,C,E,k3,ml,wH,d1,d2,Go.undef];simp only[ea];exact⟨_,rfl,W _ _ _ _ _ N (λl h=>(hS l h).1) (Jj.Rh (hS l (O.sk _ l z)).1 _) ((Qm mM).trans z7) he⟩
 ·
  have hz:∀i,zX T A m b.parent i=false:=λi=>by
   rw[Ym];exact λh=>MY ⟨i,h⟩
  have hB:(kl b.parent=none/\True/\True/\True)\/∃l c R,kl b.parent=some l/\H[l]? = some (QM .i64 c R)/\l<H.length/\R.length=0:=by
   cases z:kl b.parent with
   | none=>exact .inl ⟨rfl,trivial,trivial,trivial⟩
   | some l=>
    obtain⟨c,R,ml,fl⟩:=O.ks _ l z;refine .inr ⟨l,c,R,rfl,ml,Qc ml,?_⟩;have:=(bW fl).1;by_cases u:0<R.length
    .exact absurd (this u) MY
    .omega
  obtain⟨o,f,e3,M3⟩:=O.f3.set .i64 c3 b.parent (.mref H.length 0);obtain⟨M7,Na,e0,M0⟩:=KD.nil.set .i64 0 id (Qb 1);simp only[go_sem]at e3 e0;have Rl:=M3.at_ b.parent;rw[Qf rfl]at Rl;have Rm:∀l,S' l->l≠H.length:=λl y e=>by have:=(hS l y).2;omega
  have a7:=Jj.len;have N:=((O.app [QM .i64 M7 Na]).step (S':=λl=>S' l\/l=H.length) λl _ Q=>⟨.inl Q,rfl⟩).QqW (k:=b.parent) (n:=H.length) (c3':=o) (es3':=f) (Kd':=zX T A (m++[id])) (JZ rfl) (M0.to λj=>by
    unfold xK;rw[bX,hz];by_cases F:j=id
    .simp[F]
    .simp[F]) (λe=>Rm p O.sp e.symm) (λe=>Rm b1 O.s1 e.symm) (λe=>Rm b2 O.s2 e.symm) (λe=>Rm J O.s3 e.symm) (λj l F=>Rm l (O.sk j l F)) (.inr rfl) M3 (λj F i=>by rw[bX,Qe (λh=>F h.1)])
  rw[B8 C]at N;have Ge:=(Jj.Rh (hS J O.s3).1 (QM .i64 o f)).mJ [QM .i64 M7 Na];have Ii:((H.set J (QM .i64 o f))++[QM .i64 M7 Na])[r]? = some ⟨.arr,g,1,m.length+1,t⟩:=by
   rw[QG (by simpa using Gc),Qm mL];exact z7
  have Ih:∀l,(S' l\/l=H.length)->more S h l:=λl y=>y.elim (λh=>(hS l h).1) λe=>.inr ω;have Eb:m.length<=16:=by
   have e:=congrArg List.length hu;have:=Bc (L:=T) (n:=16) (id:=a);rw[JJ]at e;unfold up at e;omega
  have vY:b.parent≠0->MX S h p T A a (up T b.parent).length ⟨[(0,.ptr p 0 0 0),(6,.ref r (g+1) 0 (m.length+1+1)),(7,Qb b.parent)],
    (H.set J (QM .i64 o f)).set r ⟨.arr,g+1,1,m.length+1+1,J7 (m.length+1) 0 t λ_=>[Qb b.parent]⟩++[QM .i64 M7 Na,⟨.arr,0,1,1,λ_=>[Qb b.parent]⟩]⟩:=λu=>by
   obtain⟨d,hd,a5⟩:=I.Y8 b (xH I K) u;have e1:(m++[id]).length+1=m.length+1+1:=σ;have Ya:Z2 T A b.parent=false:=by
    rw[Ym];exact λhq=>MY (ZV.2 ((Qc6 I hA hd a5).1 hq))
   have a2:r<(H.set J (QM .i64 o f)).length:=by simpa using Gc
   have U:(H.set J (QM .i64 o f)).set r ⟨.arr,g+1,1,m.length+1+1,J7 (m.length+1) 0 t λ_=>[Qb b.parent]⟩++[QM .i64 M7 Na,⟨.arr,0,1,1,λ_=>[Qb b.parent]⟩] =
     (H.set J (QM .i64 o f)++[QM .i64 M7 Na]).set r ⟨.arr,g+1,1,m.length+1+1,J7 (m.length+1) 0 t λ_=>[Qb b.parent]⟩++[⟨.arr,0,1,1,λ_=>[Qb b.parent]⟩]:=by
    rw[B8 a2];simp
   rw[U];have a1:∀l,(S' l\/l=H.length)->l≠r:=λl y e=>by
    subst e;rcases y with y|y
    .exact Zq y
    .omega
   refine MX.of (J7 (m.length+1) 0 t λ_=>[Qb b.parent]) (λl=>S' l\/l=H.length) (dn:=m++[id]) ?_ hd (QB _) (λi q=>?_) (N.step (λl B Q=>⟨Q,?_⟩)) (λl y=>⟨Ih l y,?_⟩) (λB=>a1 r B rfl) XT ((Ge.Rh (.inr XT) _).mJ _) e1.symm ?_ ?_
   .rw[hu,Vl I K];simp
   .rcases QW.1 q with q|q
    .exact Gb i q
    .rw[qz.1 q];exact Ya
   .rw[QG (by simpa using B),Qm (Q1 (a1 l Q))]
   .rcases y with y|y
    .have:=(hS l y).2;simp;omega
    .simp;omega
   .rw[QG ξ,Qv ξ]
   .intro i q;have:=HV (dn:=m++[id]) (off:=0) (row:=t) (v:=b.parent) (λi q=>by rw[Jv];exact ZR i (by simpa using q)) i (by simpa using q);rw[Jv]at this;simpa using this
  rcases hB with ⟨z,ml,wH,Pz⟩|⟨l,c,R,z,ml,wH,Pz⟩
  .rw[Ci,z,YW]at k3;apply Qg hb;simp only[go_sem,Qa,x,M,P,vg,Z,C,E,k3,ml,wH,Pz,Go.undef];simp only[e3];by_cases u:b.parent=0
   .have d0:(b.parent==0)=true:=by simpa using u
    simp only[go_sem,Qa,x,M,Qm (Q1 O.Ei),Qv C,C,Rl,e0,d0];exact⟨_,rfl,W _ _ _ _ _ N Ih Ge Ii (.inl u)⟩
   .have d0:(b.parent==0)=false:=by simpa using u
    simp only[go_sem,Qa,x,M,Qm (Q1 O.Ei),Qv C,C,Rl,e0,d0,Ii,z7,Qm mL,Gc];refine⟨ω,(up T b.parent).length,⟨[(0,.ptr p 0 0 0),(6,.ref r (g+1) 0 (m.length+1+1)),(7,Qb b.parent)],_⟩,?_,QN,vY u⟩;have:=congrArg List.length (Vl I K);simp only[VK]at this;omega
  .rw[Ci,z,Kx]at k3;apply Qg hb;simp only[go_sem,Qa,x,M,P,vg,Z,C,E,k3,ml,wH,Pz,Go.undef];simp only[e3];by_cases u:b.parent=0
   .have d0:(b.parent==0)=true:=by simpa using u
    simp only[go_sem,Qa,x,M,Qm (Q1 O.Ei),Qv C,C,Rl,e0,d0];exact⟨_,rfl,W _ _ _ _ _ N Ih Ge Ii (.inl u)⟩
   .have d0:(b.parent==0)=false:=by simpa using u
    simp only[go_sem,Qa,x,M,Qm (Q1 O.Ei),Qv C,C,Rl,e0,d0,Ii,z7,Qm mL,Gc];refine⟨ω,(up T b.parent).length,⟨[(0,.ptr p 0 0 0),(6,.ref r (g+1) 0 (m.length+1+1)),(7,Qb b.parent)],_⟩,?_,QN,vY u⟩;have:=congrArg List.length (Vl I K);simp only[VK]at this;omega
structure Nb (S:Nat->Prop) (h:List Ob) (p:Nat) (T:List Qt) (A:List Int) (leaf:Int) (n:Nat) (s:St):Prop where
 ex:∃id dn c lo g row H S' b1 b2 b3 c1 c2 c3 ZB ZT Kr kl,up T leaf=dn++up T id/\Qz T id=some c/\(up T id).length<=n/\(∀i∈dn++[id],Z2 T (JY A leaf) i=false) /\
  zl S' H p b1 b2 b3 c1 c2 c3 ZB ZT Kr kl T (JY A leaf) (jQ T A dn)/\(∀l,S' l->more S h l/\l<H.length)/\¬ S' lo/\h.length<=lo/\Step S h H /\
  H[lo]? = some ⟨.arr,g,1,dn.length+1,row⟩/\(∀i,i<dn.length+1->row i=[Qb ((dn++[id]).getD i 0)]) /\
  s=⟨[(0,.ptr p 0 0 0),(6,.ref lo g 0 (dn.length+1)),(7,Qb id)],H⟩
def Nb.of{S}{h}{p}{T}{A}{a}{n}{b}{dn}{c}{e g k}(d){H}(f){t s r q o m}{v u w}{j}
  (x:up T a=dn++up T b) (C:Qz T b=some c) (z:(up T b).length<=n) (E:∀i∈dn++[b],Z2 T (JY A a) i=false) (O:zl f H p t s r q o m v u w j T (JY A a) (jQ T A dn)) (F:∀l,f l->more S h l/\l<H.length) (L:¬ f e) (K:h.length<=e) (y:Step S h H)
  (B:k=dn.length+1) (J:H[e]? = some ⟨.arr,g,1,k,d⟩) (I:∀i,i<dn.length+1->d i=[Qb ((dn++[b]).getD i 0)]):Nb S h p T A a n ⟨[(0,.ptr p 0 0 0),(6,.ref e g 0 k),(7,Qb b)],H⟩:=by
 subst B;exact⟨⟨b,dn,c,e,g,d,H,f,t,s,r,q,o,m,v,u,w,j,x,C,z,E,O,F,L,K,y,J,I,rfl⟩⟩
def Qq0(T)(A)(a)(k):(if k=a then none else yT T A k)=yT T (JY A a) k:=by
 unfold yT JY;by_cases h:k=a
 .subst h;simp
 .simp[h,JO]
def Qq1{S}{h}{p}{T}{A}(O:zn S h p T A)(I:Ve T)(hA:xI T A)(a)(c:Qt)(P:Qz T a=some c)(jS:c.leaf=true)(qN:1<Q4 c.ls)(W:a∈A)(JH:Z2 T (JY A a) a=false):
  QI prog 197 h [.ptr p 0 0 0,Qb a] (λd h'=>∃d1,d=.tup [d1,Qb 0]/\J3 h.length h' d1 (W6 T (JY A a) a)/\zn (more S h) h' p T (JY A a)/\Step S h h'):=by
 have O0:=O;have hR:=O.toR;obtain⟨b1,b2,b3,c1,c2,c3,ZB,ZT,Kr,kl,O⟩:=O;have x:=O.o;have z:=O.m1;have m2:=O.m2;have M:=O.m3;have If:=Qc m2;have t:=O.f1.at_ a;rw[k9,P]at t;simp only[Qf qN,jS,Ie,Va]at t;have mK:a≠0:=λe=>by rw[e,Ea I]at P;cases P
 have Ig:=Cj hR I hA a mK;rw[(H4 W a).2 (.inl (XA I P))]at Ig;have M2:=O.f2.del a;refine QZ func197 ntmps197 results197 λa3 w pl V=>?_;have Q:=Qc x;have U:=Qc z;simp only[go_sem,Qa,x,Q,z,U,t,Go.undef];apply ZA V FU Ig;apply Qg V;simp only[go_sem,Qa,x,Q,m2,If,Go.undef];have Rj:Nb S h p T A a (up T a).length ⟨[(0,.ptr p 0 0 0),(6,.ref h.length 0 0 1),(7,Qb a)],h.set b2 (QM .i64 c2 (JK ZT a))++[⟨.arr,0,1,1,λ_=>[Qb a]⟩]⟩:=by
  have R:=((O.step (S':=λl=>S l/\l<h.length) λl f r=>⟨⟨r,f⟩,rfl⟩).QdC (c2':=c2) (A':=JY A a) (M2.to λk=>Qq0 T A a k)).app [⟨.arr,0,1,1,λ_=>[Qb a]⟩];rw[<- show jQ T A []=qJ T A from funext λp=>funext λi=>by simp[jQ]]at R;refine Nb.of (λ_=>[Qb a]) (λl=>S l/\l<h.length) (dn:=[]) rfl P (QB _) (λi o=>?_) R (λl f=>⟨.inl f.1,by have:=f.2;simp;omega⟩) (λf=>by have:=f.2;omega) (QB _) ⟨λl f r=>?_,σ⟩ rfl ?_ (λi o=>?_)
  .simp only[q4,qz]at o;rw[o];exact JH
  .rw[QG (by simpa using f),Qm (λ(e:b2=l)=>r (e▸O.s2))]
  .rw[JZ σ];rfl
  .obtain rfl:i=0:=by simp at o;omega
   rfl
 refine LV (Nb S h p T A a) (up T a).length QN Rj ?_;clear Rj O z m2 M x t M2 Ig O0 hR;rintro n s ⟨id,m,b,N,g,y,H,S',b1,b2,b3,c1,c2,c3,ZB,ZT,Kr,kl,B,q,hn,Gb,O,hS,Zq,XT,Jj,z7,ZR,rfl⟩;have x:=O.o;have z:=O.m1;have M:=O.m3;have Q:=Qc x;have U:=Qc z;have qf:=Qc M;have Gc:=Qc z7;obtain⟨d0,Gd,JW⟩:=Qc7 I P qN id (by rw[B];exact Lq _ (XA I q));rw[q]at Gd;cases Gd;have t:=O.f1.at_ id;rw[k9,q]at t;simp only[Qf JW]at t;have k3:=O.f3.at_ b.parent;have a2:Z2 T A id=true:=(H4 W id).2 (.inl (by rw[B];exact Lq _ (XA I q)));have a1:id ∉ m:=λhm=>by
  have nd:=P1 I a;rw[B,JP]at nd;exact nd.2.2 id hm id (XA I q) rfl
 have Z:jQ T A m b.parent id=true:=MN.2 ⟨wB.2 ⟨b,q,rfl,a2⟩,a1⟩;have a0:∀j,j≠b.parent->∀i,jQ T A (m++[id]) j i=jQ T A m j i:=λj J i=>by
  rw[vE,MN,MN];constructor
  .exact λ⟨f,r⟩=>⟨f,λh3=>r (Ts _ h3)⟩
  .rintro⟨f,r⟩;refine⟨f,λh3=>?_⟩;rcases QW.1 h3 with h3|h3
   .exact r h3
   .rw[qz.1 h3]at f;obtain⟨e,h4,h5,_⟩:=wB.1 f;rw[q]at h4;cases h4;exact J h5.symm
 cases F:kl b.parent with
 | none=>rw[O.kn _ id F]at Z;cases Z
 | some l=>
  obtain⟨c,u,ml,fl⟩:=O.ks _ l F;have K:=Qc ml;rw[Ci,F,Kx]at k3;obtain⟨n0,n1,n2,n3⟩:=O.nk _ l F;have mM:l≠N:=λe=>Zq (e▸O.sk _ l F);have M':KD (JK u id) (xK (jQ T A (m++[id]) b.parent)):=(fl.del id).to λj=>by
   unfold xK jQ;by_cases J:j=id
   .simp[J]
   .simp[J]
  have E:=bW M';have R:=O.QdD (c':=c) (es':=JK u id) (Kd':=jQ T A (m++[id])) F M' a0;have Ge:=Jj.Rh (hS l (O.sk _ l F)).1 (QM .i64 c (JK u id));have Ii:(H.set l (QM .i64 c (JK u id)))[N]? = some ⟨.arr,g,1,m.length+1,y⟩:=(Qm mM).trans z7;have Y:(b.parent=0\/Z2 T (JY A a) b.parent=true) ->
    J3 h.length (H.set l (QM .i64 c (JK u id))) (.ref N g 0 (m.length+1)) (W6 T (JY A a) a)/\zn (more S h) (H.set l (QM .i64 c (JK u id))) p T (JY A a)/\Step S h (H.set l (QM .i64 c (JK u id))):=λhe=>by
   obtain⟨e1,e2⟩:=Qqo I W B q Gb he;rw[<- e1];refine⟨.inr ⟨N,g,0,y,σ,⟨XT,rfl⟩,by simpa using Ii,λi o=>?_⟩,?_,Ge⟩
   .rw[Jv];exact ZR i (by simpa using o)
   .rw[show jQ T A (m++[id])=qJ T (JY A a) from funext λp=>funext λi=>e2 p i]at R;exact⟨_,_,_,_,_,_,_,_,_,_,R.step λl f r=>⟨(hS l r).1,rfl⟩⟩
  by_cases bY:∃i,jQ T A (m++[id]) b.parent i=true
  .have AA:=E.2 bY;have d2:decide ((0:Int)<((JK u id).length:Int))=true:=Q3 ω;have he:b.parent=0\/Z2 T (JY A a) b.parent=true:=by
    by_cases C:b.parent=0
    .exact .inl C
    .exact .inr ((Qc8 I hA W B q Gb C).1 bY)
   apply Qg V;simp only[go_sem,Qa,x,Q,z,U,M,qf,t,k3,ml,K,d2,Go.undef,Qm n0,Qm n3,Qv K];exact⟨_,rfl,Y he⟩
  .have hz:¬ 0<(JK u id).length:=λh=>bY (E.1 h);have d2:decide ((0:Int)<((JK u id).length:Int))=false:=QS ω;by_cases C:b.parent=0
   .have d0:(b.parent==0)=true:=by simpa using C
    apply Qg V;simp only[go_sem,Qa,x,Q,z,U,M,qf,t,k3,ml,K,d2,d0,Go.undef,Qm n0,Qm n3,Qv K];exact⟨_,rfl,Y (.inl C)⟩
   .have d0:(b.parent==0)=false:=by simpa using C
    have Eb:m.length<=16:=by
     have e:=congrArg List.length B;have:=Bc (L:=T) (n:=16) (id:=a);rw[JJ]at e;unfold up at e;omega
    obtain⟨d,hd,a4⟩:=I.Y8 b (xH I q) C;have Ya:Z2 T (JY A a) b.parent=false:=by
     rw[Ym];exact λhq=>bY ((Qc8 I hA W B q Gb C).2 hq)
    have e1:(m++[id]).length+1=m.length+1+1:=σ;apply Qg V;simp only[go_sem,Qa,x,Q,z,U,M,qf,t,k3,ml,K,d2,d0,Go.undef,Qm n0,Qm n3,Qv K,Ii,z7,Gc];refine⟨ω,(up T b.parent).length,⟨[(0,.ptr p 0 0 0),(6,.ref N (g+1) 0 (m.length+1+1)),(7,Qb b.parent)],_⟩,?_,QN,?_⟩
    .have:=congrArg List.length (Vl I q);simp only[VK]at this;omega
    .refine Nb.of (J7 (m.length+1) 0 y λ_=>[Qb b.parent]) S' (dn:=m++[id]) ?_ hd (QB _) (λi o=>?_) (R.step (λj f r=>⟨r,?_⟩)) (λj J=>⟨(hS j J).1,?_⟩) Zq XT ((Ge.Rh (.inr XT) _).mJ _) e1.symm ?_ ?_
     .rw[B,Vl I q];simp
     .rcases QW.1 o with o|o
      .exact Gb i o
      .rw[qz.1 o];exact Ya
     .rw[QG (by simpa using f),Qm (λ(e:N=j)=>Zq (e▸r))]
     .have:=(hS j J).2;simp;omega
     .rw[QG (by simpa using Gc),Qv (by simpa using Gc)];rfl
     .intro i o;have:=HV (dn:=m++[id]) (off:=0) (row:=y) (v:=b.parent) (λi o=>by rw[Jv];exact ZR i (by simpa using o)) i (by simpa using o);rw[Jv]at this;simpa using this
def Qq5{T:List Qt}(e:WB T){k}(a:k<T.length)(j):Qz (T.take (k+1)) j=if j=(T.getD k default).iD then some (T.getD k default) else Qz (T.take k) j:=by
 rw[getD_take T default k a];unfold Qz;rw[List.find?_append];have g:T.getD k default∈T:=za T default k a;by_cases h:j=(T.getD k default).iD
 .rw[Qf h];have:List.find? (λc=>c.iD==j) (T.take k)=none:=by
   rw[js];intro x hx b;have d:=e;rw[<- Fa k T]at d;have f:=(Tu.1 d).2.2 x hx (T.getD k default) (by
    rw[OD a,Q5,QP a];exact K8 ..)
   simp at b;omega
  rw[this];simp[h]
 .rw[Qe h];have:((T.getD k default).iD==j)=false:=by simpa using Q1 h
  simp only[vI,this,List.find?_nil,Option.or_none]
def QdJ{h:List Ob}{t}{T}(R:Wq h t T)(I:Ve T):QI prog 62 h [.ptr t 0 0 0] (λd H=>d=.ptr (h.length+3) 0 0 0/\zn (λl=>h.length<=l) H (h.length+3) T []/\∃g,H=h++g):=by
 have O:=I.len;have L:∀g,Wq (h++g) t T:=λg=>R.more wG;refine QZ func62 ntmps62 results62 λP w Y a=>?_;simp only[go_sem,Qa,Qa];apply ZA a aP (bV (L _) ω);apply QC a;refine Z4 (λk Q=>∃c o g,KD o (k9 (T.take k))/\Q=⟨[(0,.ptr t 0 0 0),(3,.ptr (h.length+3) 0 0 0),(15,ints (T.map (·.iD))),(16,Qb T.length),(17,Qb k)],h++(QM .i64 c o::QM .i64 0 []::QM .i64 0 []::bO h.length (h.length+1) (h.length+2)::g)⟩) T.length (s0:=⟨[(0,.ptr t 0 0 0),(3,.ptr (h.length+3) 0 0 0),(15,ints (T.map (·.iD))),(16,Qb T.length),(17,Qb 0)],h++(QM .i64 0 []::QM .i64 0 []::QM .i64 0 []::bO h.length (h.length+1) (h.length+2)::[])⟩) (QF.frame (by simp only[go_sem,JV])) ⟨0,[],[],KD.nil.to λk=>by simp[k9,Qz],rfl⟩ ?_;rintro k _ Z ⟨c,o,g,M,rfl⟩;by_cases b:k<T.length
 .have z:=Q3 b;have E:(T.map (·.iD)).getD k 0=(T.getD k default).iD:=getD_map _ _ _ _ _ b;have K:T.getD k default∈T:=za T default k b;have F:Qz T (T.getD k default).iD=some (T.getD k default):=(WC I.rising).2 ⟨K,rfl⟩;have p:=Qq5 I.rising b;obtain⟨x,hx⟩:∃x,x=T.getD k default:=⟨_,rfl⟩;rw[<- hx]at E K F p;have B:=λg=>MW (L g) x.iD;rw[F]at B;simp only[KV,kx,Va]at B;have v:∀j,k9 (T.take (k+1)) j=if j=x.iD then (if 1<Q4 x.ls then some (.agg [Qb x.parent,Qb (Ie x.leaf)]) else none) else k9 (T.take k) j:=λj=>by
   unfold k9;rw[p];by_cases n:j=x.iD
   .simp[n]
   .simp[n]
  have U:k9 (T.take k) x.iD=none:=by
   unfold k9;have:Qz (T.take k) x.iD=none:=by
    rw[FZ];intro y S e;have C:=I.rising;rw[<- Fa k T]at C;have h2:=(Tu.1 C).2.2 y S x (by
     rw[OD b,hx,Q5,QP b];exact K8 ..)
    omega
   rw[this]
  apply Qg a;simp only[go_sem,Qa,z,b,E,JV];apply ZA a kS (B _);apply QC a;apply YC a kU (kX x);apply QC a;by_cases r:1<Q4 x.ls
  .have s:=Q3 r;simp only[Qf r]at v;obtain⟨J,q,f,W⟩:=M.set .i64 c x.iD (.agg [Qb x.parent,Qb (Ie x.leaf)]);simp only[go_sem]at f;have N:=W.to λj=>(v j).symm;have u:=KJ (show k<4611686018427387904 from ω);cases m:x.leaf with
   | true=>
    rw[m]at f;simp only[Ie,Va]at f;simp only[go_sem,Qa,s,m];apply Qw a i6;simp only[go_sem,Qa,m];simp only[f];exact⟨b,_,QF.frame (by simp only[go_sem,u]),J,q,_,N,rfl⟩
   | false=>
    rw[m]at f;simp only[Ie]at f;simp only[go_sem,Qa,s,m];apply Qw a i6;simp only[go_sem,Qa,m];simp only[YR,vN]at f;simp only[f];exact⟨b,_,QF.frame (by simp only[go_sem,u]),J,q,_,N,rfl⟩
  .have s:=QS r;simp only[Qe r]at v;have u:=KJ (show k<4611686018427387904 from ω);simp only[go_sem,Qa,s];refine⟨b,_,QF.frame (by simp only[go_sem,u]),c,o,_,M.to λj=>?_,rfl⟩;rw[v];by_cases n:j=x.iD
   .rw[Qf n,n,U]
   .rw[Qe n]
 .have V:k=T.length:=ω;have z:=QS b;rw[V,zG]at M;apply Qg a;simp only[go_sem,Qa,z];apply QC a;refine⟨⟨h.length,h.length+1,h.length+2,c,0,0,o,[],[],λ_=>none,Vj rfl,JZ rfl,M,Vj rfl,KD.nil.to (λj=>by simp[yT]),Vj rfl,KD.nil.to (λj=>rfl),(λ_ _ e=>nomatch e),(λk i _=>by simp[qJ,Z2]),(λ_ _ _ e=>nomatch e),ω,ω,ω,ω,ω,ω,(λ_ _ e=>nomatch e),by show h.length<=_;omega,QB _,by show h.length<=_;omega,by show h.length<=_;omega,(λ_ _ e=>nomatch e)⟩,_,rfl⟩
@[go_sem] def Ek(a m:Nat):Ob:=⟨.one,0,2,1,λ_=>[.ptr a 0 0 0,.mref m 0]⟩
def Cm(x:It):Int × D:=(x.ki,.agg x.cells)
structure Ij (S:Nat->Prop) (h:List Ob) (p a m:Nat) (t:Tr) (c:Nat) (es:List Zy) (L:List It):Prop where
 o:h[p]? = some (Ek a m)
 av:yR h a t L
 mo:h[m]? = some (QM .i64 c es)
 mp:XS es (L.map Cm)
 vi:∀x∈L,x.vi=x.ki
 pa:p≠a
 pm:p≠m
 am:a≠m
 pt:p ∉ t.QK
 mt:m ∉ t.QK
 sp:S p
 sa:S a
 sm:S m
 st:∀l∈t.QK,S l
def Wr(S:Nat->Prop)(h:List Ob)(p:Nat)(L:List It):Prop:=∃a m t c b,Ij S h p a m t c b L
def mN{L:List It}(a:Int):look (L.map Cm) a=(L.find? λx=>x.ki==a).map λx=>.agg x.cells:=by
 unfold look;rw[List.find?_map,OP];rfl
def KR(a:Int)(L:List It):List It:=L.filter λx=>x.ki != a
def XU(a:Int)(c b:Nat)(L:List It):List It:=XR ⟨c,a,b,a⟩ (KR a L)
def Ij.ids{S}{h}{p a m}{t}{c}{b}{L:List It}(T:Ij S h p a m t c b L):(L.map It.ki).Nodup:=by
 have:=T.mp.nd;rwa [E7]at this
def mO{L:List It}(b:(L.map It.ki).Nodup){x:It}(i:x∈L):W7 x.ka x.ki L=KR x.ki L:=by
 unfold W7 KR;apply Tl;intro y g;by_cases h:y.ki=x.ki
 .have d:y=x:=by
   have:∀{l:List It},(l.map It.ki).Nodup->∀{u v:It},u∈l->v∈l->u.ki=v.ki->u=v:=by
    intro l;induction l with
    | nil=>intro _ u v c;cases c
    | cons a l f=>
     intro b u v c j e;simp only[JN,ZN,Jm,Dl,not_and]at b;rcases QE.1 c with h1|h1<;>rcases QE.1 j with h2|h2
     .rw[h1,h2]
     .exact absurd (by rw[<- e,h1]) (b.1 v h2)
     .exact absurd (by rw[e,h2]) (b.1 u h1)
     .exact f b.2 h1 h2 e
   exact this b g i h
  subst d;simp[Bf]
 .have k:(y.ki==x.ki)=false:=by simpa using h
  simp[Bf,k,bne]
def mP{L:List It}{a}(h:(L.find? λx=>x.ki==a)=none):KR a L=L:=by
 unfold KR;rw[yf];intro x hx;have:=js.1 h x hx;simpa using this
def mQ(L)(a)(b):Ye a b (KR b L)=none:=by
 unfold Ye KR;rw[js];intro x hx c;simp only[JO,bne_iff_ne,ne_eq]at hx;exact hx.2 (wC.1 c).2
def QdL(y):∀L:List It,(XR y L).Perm (y::L)
 | []=>Lp _
 | z::L=>by
  simp only[XR];split
  .exact(List.Perm.cons _ (QdL y L)).trans (List.Perm.swap _ _ _)
  .exact Lp _
def mR(a)(L:List It):Bh (L.map Cm) a=(KR a L).map Cm:=by
 unfold Bh KR;rw[OI];rfl
def yR.set{h:List Ob}{a}{t:Tr}{L}(A:yR h a t L){m}(o)(c:m≠a)(b:m ∉ t.QK):yR (h.set m o) a t L:=⟨(Qm c).trans A.o,A.is.set o b,A.list,A.nd,A.out,A.sorted⟩
def Qq7{a:Int}{c b}{L:List It}:(Eh (L.map Cm) a (.agg (It.mk c a b a).cells)).Perm ((XU a c b L).map Cm):=by
 unfold Eh XU;rw[mR];exact((QdL ⟨c,a,b,a⟩ (KR a L)).map Cm).symm
def mS(a)(L:List It):(KR a L).length<=L.length:=YU _ _
def Ij.fin{S}{h H e k}{p a m c n}{t f g}{J b}{L j}(T:Ij S h p a m t c J L)(s:Step S h H)
  (E:H[p]? = some (Ek a m)) (F:m<H.length) (i:e=H.set m (QM .i64 n b)) (v:m ∉ f.QK) (u:p ∉ f.QK) (r:∀l∈f.QK,more S h l) (C:XS b (j.map Cm)) (q:∀x∈j,x.vi=x.ki)
  (A:Rb e a f j k g):Wr (more S h) k p j/\Step S h k:=by
 have Q:e.length=H.length:=by rw[i,Xd]
 have P:=s.len;have K:e[p]? = some (Ek a m):=by rw[i,Qm (Q1 T.pm)];exact E
 have M:e[m]? = some (QM .i64 n b):=by rw[i,Qv F]
 have N:∀l,e.length<=l->h.length<=l:=λl d=>ω;have R:=Qc T.o;have O:=Qc T.mo;refine⟨⟨a,m,g,n,b,?_,A.is,?_,C,q,T.pa,T.pm,T.am,?_,?_,.inl T.sp,.inl T.sa,.inl T.sm,?_⟩,⟨λl d h2=>?_,by have:=A.len;omega⟩⟩
 .rw[A.keep p ω T.pa u];exact K
 .rw[A.keep m ω (Q1 T.am) v];exact M
 .intro d;rcases A.mem p d with h2|h2
  .exact u h2
  .omega
 .intro d;rcases A.mem m d with h2|h2
  .exact v h2
  .omega
 .intro l d;rcases A.mem l d with h2|h2
  .exact r l h2
  .exact .inr (N l h2)
 .have B:l≠a:=by rintro rfl;exact h2 T.sa
  have z:l≠m:=by rintro rfl;exact h2 T.sm
  have y:l ∉ f.QK:=λI=>by
   rcases r l I with w|w
   .exact h2 w
   .omega
  rw[A.keep l ω B y,i,Qm (Q1 z)];exact s.keep l d h2
def Ij.done{S}{h H i h8}{p a m c y}{t f t''}{w e}{L}{d}{g b}(T:Ij S h p a m t c w L)(k:Step S h H)
  (s:H[p]? = some (Ek a m)) (u:m<H.length) (v:i=H.set m (QM .i64 y e)) (q:m ∉ f.QK) (n:p ∉ f.QK) (j:∀l∈f.QK,more S h l) (r:XS e (Eh (L.map Cm) d (.agg (It.mk g d b d).cells)))
  (A:Rb i a f (XU d g b L) h8 t''):Wr (more S h) h8 p (XU d g b L)/\Step S h h8:=
 T.fin k s u v q n j (r.to Qq7) (λx hx=>by
  rcases F7.1 hx with rfl|hx
  .rfl
  .exact T.vi x (JO.1 hx).1) A
def Qq9{S}{h}{p}{L:List It}(T:Wr S h p L)(b)(i f)(hs:L.length<400000):
  QI prog 189 h [.ptr p 0 0 0,Qb b,u64 i,u64 f] (λd h'=>Wr (more S h) h' p (XU b i f L)/\Step S h h'):=by
 obtain⟨a,m,t,c,es,T⟩:=T;have j:=T.o;have q:=T.mo;have ha:=T.av.o;have s:=T.mp.look b;rw[mN]at s;cases u:L.find? λx=>x.ki==b with
 | none=>
  rw[u,YW]at s;have qg:=mP u;obtain⟨Q,r,P,U⟩:=T.mp.set .i64 c b (.agg (It.mk i b f b).cells);have O:JR .i64 c es b (.agg [.raw (.int .u64 i),.raw (.int .i64 b),.raw (.int .u64 f),.raw (.int .i64 b)])=QM .i64 Q r:=P;refine QZ func189 ntmps189 results189 λC w pl g=>?_;have k:=Qc j;have o:=Qc q;simp only[go_sem,Qa,j,k,q,o,s];apply Qw g i6;simp only[go_sem,Qa,j,k,q,o];simp only[O];apply KX [8] g [0,1,2,3,4,5,6,7,1008,9] [];simp only[go_sem,Qa,j,k,q,o,Qm (Q1 T.pm)];refine kW g iV (Rc (tl:=a) (t:=t) (L:=KR b L) (by rw[qg];exact(T.av.set _ (Q1 T.am) T.mt).app _) ⟨i,b,f,b⟩ (mQ L i b) (by have:=mS b L;omega)) λd h8 v=>?_;obtain⟨rfl,Y,W⟩:=v;apply Xy g;exact T.done (H:=h++_) (Step.app S h _) (QG k |>.trans j) ξ (B8 o).symm T.mt T.pt (λl M=>.inl (T.st l M)) U W
 | some x=>
  rw[u,Kx]at s;obtain⟨Q,r,P,U⟩:=T.mp.set .i64 c b (.agg (It.mk i b f b).cells);have O:JR .i64 c es b (.agg [.raw (.int .u64 i),.raw (.int .i64 b),.raw (.int .u64 f),.raw (.int .i64 b)])=QM .i64 Q r:=P;refine QZ func189 ntmps189 results189 λC w pl g=>?_;have k:=Qc j;have o:=Qc q;simp only[go_sem,Qa,j,k,q,o,s];apply KX [6] g [0,1,2,3,4,5,1006] [];simp only[go_sem,Qa,j,k];have WH:x∈L:=xj u;have R:x.ki=b:=by have:=xi u;simpa using this
  have Ro:W7 x.ka b L=KR b L:=by rw[<- R];exact mO T.ids WH
  have QA:Ye x.ka b L≠none:=λe=>by
   unfold Ye at e;have:=js.1 e x WH;exact this (wC.2 ⟨rfl,R⟩)
  have mT:∀l∈t.QK,l<h.length:=T.av.is.lt;have JL:=Qc ha;refine xD g iY rfl ?_ (mE (tl:=a) (t:=t) (L:=L) (T.av.app _) x.ka b QA ω) rfl λd y v=>?_
  .simp only[go_sem,R]
  obtain⟨rfl,F,n⟩:=v;rw[Ro]at n;have a0:h.length+2<=y.length:=by have:=n.len;simpa using this
  have K:∀l,l<h.length->l≠a->l ∉ t.QK->y[l]? = h[l]? := λl h1 h2 N=>(n.keep l ξ h2 N).trans (QG h1);have E:y[p]? = _:=(K p k T.pa T.pt).trans j;have J:y[m]? = _:=(K m o (Q1 T.am) T.mt).trans q;have V:=(n.keep h.length σ ω (λh1=>by have:=mT _ h1;omega)).trans (JZ rfl);have B:=Qc E;have I:=Qc J;have Nf:=Qc V;have z:m ∉ F.QK:=λh1=>by
   rcases n.mem m h1 with h2|h2
   .exact T.mt h2
   .simp only[JJ]at h2;omega
  have Z:p ∉ F.QK:=λh1=>by
   rcases n.mem p h1 with h2|h2
   .exact T.pt h2
   .simp only[JJ]at h2;omega
  have El:m≠h.length:=ω;apply Xy g;apply Qw g i6;simp only[go_sem,Qa,E,B,J,I,V,Nf];simp only[O];apply KX [8] g [0,1,2,3,4,5,6,7,1008,9] [];simp only[go_sem,Qa,E,B,J,I,V,Nf,Qm (Q1 T.pm),Qm El];refine kW g iV (Rc (tl:=a) (t:=F) (L:=KR b L) (n.is.set _ (Q1 T.am) z) ⟨i,b,f,b⟩ (mQ L i b) (by have:=mS b L;omega)) λd h8 v=>?_;obtain⟨rfl,Y,W⟩:=v;apply Xy g;refine T.done (H:=y) ⟨λl h1 h2=>K l h1 (by rintro rfl;exact h2 T.sa) (λN=>h2 (T.st l N)),ω⟩ E I rfl z Z (λl M=>?_) U W;rcases n.mem l M with h1|h1
  .exact .inl (T.st l h1)
  .simp only[JJ]at h1;exact .inr ω
def Js{h F:List Ob}(a:F=h.map Ob.ro)(l:Nat)(o:Ob)(e:(h.map Ob.ro)[l]? = some o):(F.map Ob.ro)[l]? = some o:=by
 have:=F5 (g:=[]) a l o e;rwa [Jl]at this
structure Qrb (h:List Ob) (p a m:Nat) (t:Tr) (c:Nat) (es:List Zy) (L:List It):Prop where
 o:(h.map Ob.ro)[p]? = some (Ek a m).ro
 ao:(h.map Ob.ro)[a]? = some (wF t).ro
 is:zk h t
 list:t.list=L
 sorted:KP L
 mo:(h.map Ob.ro)[m]? = some (QM .i64 c es).ro
 mp:XS es (L.map Cm)
def Em(h:List Ob)(p:Nat)(L:List It):Prop:=∃a m t c b,Qrb h p a m t c b L
def Wr.toR{S}{h}{p}{L}:Wr S h p L->Em h p L:=λ⟨a,m,t,c,b,T⟩=>
 ⟨a,m,t,c,b,ZG T.o,ZG T.av.o,T.av.is.toR,T.av.list,T.av.sorted,ZG T.mo,T.mp⟩
def Em.more{h h':List Ob}{p}{L}(e:∀(l:Nat) (o:Ob),(h.map Ob.ro)[l]? = some o->(h'.map Ob.ro)[l]? = some o):Em h p L->Em h' p L:=λ⟨a,m,t,c,b,T⟩=>
 ⟨a,m,t,c,b,e _ _ T.o,e _ _ T.ao,T.is.more e,T.list,T.sorted,e _ _ T.mo,T.mp⟩
def Wr.frame{S}{h b:List Ob}{p}{L}(e:∀l,S l->l<h.length->b[l]? = h[l]?):Wr S h p L->Wr S b p L:=λ⟨a,m,t,c,i,T⟩=>
 have k:∀l o,S l->h[l]? = some o->b[l]? = some o:=λl o g f=>(e l g (Qc f)).trans f
 ⟨a,m,t,c,i,k _ _ T.sp T.o,⟨k _ _ T.sa T.av.o,T.av.is.frame λl d=>e l (T.st l d) (T.av.is.lt l d),T.av.list,T.av.nd,T.av.out,T.av.sorted⟩,k _ _ T.sm T.mo,T.mp,T.vi,T.pa,T.pm,T.am,T.pt,T.mt,T.sp,T.sa,T.sm,T.st⟩
def Wr.mono{S b}{h}{p}{L}(e:∀l,S l->b l):Wr S h p L->Wr b h p L:=λ⟨a,m,t,c,f,T⟩=>
 ⟨a,m,t,c,f,T.o,T.av,T.mo,T.mp,T.vi,T.pa,T.pm,T.am,T.pt,T.mt,e _ T.sp,e _ T.sa,e _ T.sm,λl d=>e l (T.st l d)⟩
section
variable {h:List Ob}{p:Nat}{L:List It}(T:Em h p L)
include T
theorem Qrc(b):QR prog 191 h [.ptr p 0 0 0,u64 b] (λd=>d=.tup [Qb ((L.find? λx=>decide (x.va<=min b 9223372036854775807)).getD default).ki,QT (L.find? λx=>decide (x.va<=min b 9223372036854775807)).isSome]):=by
 obtain⟨a,m,t,c,y,T⟩:=T;obtain⟨e,f,n,o,u,v,mp⟩:=T;have q:min (b:Int) 9223372036854775807=((min b 9223372036854775807:Nat):Int):=ω;have l:=f;refine Zk func191 ntmps191 results191 λk w s F g z i=>?_;rw[<- g]at e f;have j:=Qc e;have r:=Qc f;simp only[go_sem,Qa,e,j,f,r,q];apply ZA i Qpf (QqL (Js g _ _ l) (n.more (Js g)) (min b 9223372036854775807));apply Qg i;simp only[go_sem,Qa,e,j];subst o;exact⟨_,rfl,rfl⟩
theorem Qrd:QR prog 131 h [.ptr p 0 0 0] (λd=>d=.tup [u64 (L.head?.getD default).ka,QT L.head?.isSome]):=by
 obtain⟨a,m,t,c,u,T⟩:=T;obtain⟨b,e,l,n,r,s,mp⟩:=T;have k:=e;refine Zk func131 ntmps131 results131 λj w q F f v g=>?_;rw[<- f]at b e;have i:=Qc b;have o:=Qc e;simp only[go_sem,Qa,b,i,e,o];apply ZA g Qck (Qdt (Js f _ _ k) (l.more (Js f)));apply Qg g;simp only[go_sem,Qa,b,i];subst n;exact⟨_,rfl,rfl⟩
theorem mW:QR prog 148 h [.ptr p 0 0 0] (λd=>d=Qb L.length):=by
 obtain⟨a,m,t,c,j,T⟩:=T;obtain⟨b,f,r,u,s,e,mp⟩:=T;have k:j.length=L.length:=by rw[mp.len,JV]
 refine Zk func148 ntmps148 results148 λg w q F i x v=>?_;rw[<- i]at b f e;have l:=Qc b;have o:=Qc f;have n:=Qc e;simp only[go_sem,Qa,b,l,f,o,e,n,k];exact⟨[],σ⟩
def yU(L:List It):Nat:=L.foldl (λo x=>min o x.va) never
omit T in
theorem mX:∀(L:List It) (o:Nat),L.foldl (λo x=>min o x.va) o<=o/\(∀x∈L,L.foldl (λo x=>min o x.va) o<=x.va)/\(L.foldl (λo x=>min o x.va) o=o\/∃x∈L,L.foldl (λo x=>min o x.va) o=x.va)
 | [],o=>⟨QB _,σ,.inl rfl⟩
 | y::L,o=>by
  obtain⟨d,c,a⟩:=mX L (min o y.va);simp only[yg];refine⟨ω,λx hx=>?_,?_⟩
  .rcases QE.1 hx with rfl|hx
   .omega
   .exact c x hx
  .rcases a with a|⟨x,hx,a⟩
   .rw[a];by_cases b:o<=y.va
    .exact .inl (Nat.min_eq_left b)
    .exact .inr ⟨y,σ,Nat.min_eq_right ω⟩
   .exact .inr ⟨x,by simp[hx],a⟩
omit T in
theorem Qre{x:It}{L}(h:Vz x L):yU L=min x.va never:=by
 obtain⟨e,c,a⟩:=mX L never;unfold yU;have d:=c x h.mem;rcases a with a|⟨y,b,a⟩
 .omega
 .have:=h.va b;omega
theorem mY(z:∀x∈L,x.ka<=18446744073709551615):QR prog 112 h [.ptr p 0 0 0] (λd=>d=u64 (yU L)):=by
 have r:=T;obtain⟨a,m,t,c,E,T⟩:=T;obtain⟨b,g,v,q,y,C,mp⟩:=T;have s:=g;by_cases n:L=[]
 .have d0:((L.length:Int)==0)=true:=by simp[n]
  refine Zk func112 ntmps112 results112 λl w u F i B f=>?_;rw[<- i]at b g;have e:=Qc b;have o:=Qc g;simp only[go_sem,Qa,b,e,g,o];refine VP f iQ ?_ (mW (r.more (Js i))) ?_
  .simp only[go_sem,Qa,b,e,d0]
  apply Qg f;simp only[go_sem,Qa,b,e,d0];subst n;exact⟨[],by simp[yU,never]⟩
 .have d0:((L.length:Int)==0)=false:=by simp[n]
  refine Zk func112 ntmps112 results112 λl w u F i B f=>?_;rw[<- i]at b g;have e:=Qc b;have o:=Qc g;simp only[go_sem,Qa,b,e,g,o];refine VP f iQ ?_ (mW (r.more (Js i))) ?_
  .simp only[go_sem,Qa,b,e,d0]
  apply Qg f;simp only[go_sem,Qa,b,e,d0];apply Qg f;simp only[go_sem,Qa,b,e];apply ZA f Qcd (Qdv (Js i _ _ s) (v.more (Js i)) 18446744073709551615);apply Qg f;simp only[go_sem,Qa,b,e];have j:=Tr.P7 18446744073709551615 t none [] (by rw[q];exact y) rfl;rw[q,q4,yf.2 (λx hx=>by simpa using z x hx)]at j;refine⟨_,rfl,?_⟩;cases k:t.qM 18446744073709551615 none with
  | none=>rw[k]at j;exact absurd j n
  | some x=>
   rw[k]at j;rw[Qre j];simp only[KV,never];congr 2;omega
end
def cn(a:Int)(L:List It):Bool:=(L.find? λx=>x.ki==a).isSome
def Qrf{S}{h}{p}{L:List It}(T:Wr S h p L)(b)(Q:L.length<400000):
  QI prog 198 h [.ptr p 0 0 0,Qb b] (λd u=>d=Qb (if cn b L then 0 else 6)/\Wr (more S h) u p (KR b L)/\Step S h u):=by
 have K:=T;obtain⟨a,m,t,c,V,T⟩:=T;have f:=T.o;have k:=T.mo;have F:=T.av.o;have g:=T.mp.look b;rw[mN]at g;unfold cn;cases i:L.find? λx=>x.ki==b with
 | none=>
  rw[i,YW]at g;refine QZ func198 ntmps198 results198 λo w C q=>?_;have n:=Qc f;have j:=Qc k;simp only[go_sem,Qa,f,n,k,j,g];rw[mP i];exact⟨rfl,(K.frame λl U J=>QG J).mono λl r=>.inl r,Step.app S h _⟩
 | some x=>
  rw[i,Kx]at g;have v:x∈L:=xj i;have s:x.ki=b:=by have:=xi i;simpa using this
  have M:W7 x.ka b L=KR b L:=by rw[<- s];exact mO T.ids v
  have N:Ye x.ka b L≠none:=λe=>by
   unfold Ye at e;have:=js.1 e x v;exact this (wC.2 ⟨rfl,s⟩)
  have P:∀l∈t.QK,l<h.length:=T.av.is.lt;have W:=Qc F;have z:=T.mp.del b;rw[mR]at z;refine QZ func198 ntmps198 results198 λo w C q=>?_;have n:=Qc f;have j:=Qc k;simp only[go_sem,Qa,f,n,k,j,g];apply KX [6] q [0,1,2,3,4,5,1006,7] [];simp only[go_sem,Qa,f,n,k,j,Qm (Q1 T.pm)];refine xD q iY rfl ?_ (mE (tl:=a) (t:=t) (L:=L) ((T.av.set _ (Q1 T.am) T.mt).app _) x.ka b N ω) rfl λd R I=>?_
  .simp only[go_sem,s]
  obtain⟨rfl,O,B⟩:=I;rw[M]at B;apply Xy q;exact⟨rfl,T.fin (H:=h++_) (Step.app S h _) ((QG n).trans f) ξ (B8 j).symm T.mt T.pt (λl r=>.inl (T.st l r)) z (λy E=>T.vi y (JO.1 E).1) B⟩
def QdP(h:List Ob):QI prog 99 h [] (λd b=>d=.ptr h.length 0 0 0/\b=h++[wF .nil]):=by
 refine QZ func99 ntmps99 results99 λa w c e=>?_;simp only[go_sem,Qa]
def QdQ{S}{h}{p}{L:List It}(T:Wr S h p L)(b)(Q:L.length<400000):
  QI prog 184 h [.ptr p 0 0 0,Qb b] (λd u=>d=Qb (if cn b L then 0 else 6)/\Wr (more S h) u p (KR b L)/\Step S h u):=by
 have K:=T;obtain⟨a,m,t,c,V,T⟩:=T;have f:=T.o;have k:=T.mo;have F:=T.av.o;have g:=T.mp.look b;rw[mN]at g;unfold cn;cases i:L.find? λx=>x.ki==b with
 | none=>
  rw[i,YW]at g;refine QZ func184 ntmps184 results184 λo w C q=>?_;have n:=Qc f;have j:=Qc k;simp only[go_sem,Qa,f,n,k,j,g];rw[mP i];exact⟨rfl,(K.frame λl U J=>QG J).mono λl r=>.inl r,Step.app S h _⟩
 | some x=>
  rw[i,Kx]at g;have v:x∈L:=xj i;have s:x.ki=b:=by have:=xi i;simpa using this
  have M:W7 x.ka b L=KR b L:=by rw[<- s];exact mO T.ids v
  have N:Ye x.ka b L≠none:=λe=>by
   unfold Ye at e;have:=js.1 e x v;exact this (wC.2 ⟨rfl,s⟩)
  have P:∀l∈t.QK,l<h.length:=T.av.is.lt;have W:=Qc F;have z:=T.mp.del b;rw[mR]at z;refine QZ func184 ntmps184 results184 λo w C q=>?_;have n:=Qc f;have j:=Qc k;simp only[go_sem,Qa,f,n,k,j,g];apply KX [6] q [0,1,2,3,4,5,1006,7] [];simp only[go_sem,Qa,f,n,k,j,Qm (Q1 T.pm)];refine xD q iY rfl ?_ (mE (tl:=a) (t:=t) (L:=L) ((T.av.set _ (Q1 T.am) T.mt).app _) x.ka b N ω) rfl λd R I=>?_
  .simp only[go_sem,s]
  obtain⟨rfl,O,B⟩:=I;rw[M]at B;apply Xy q;exact⟨rfl,T.fin (H:=h++_) (Step.app S h _) ((QG n).trans f) ξ (B8 j).symm T.mt T.pt (λl r=>.inl (T.st l r)) z (λy E=>T.vi y (JO.1 E).1) B⟩
section
variable {h:List Ob}{p:Nat}{L:List It}(T:Em h p L)
include T
theorem QdR:QR prog 201 h [.ptr p 0 0 0] (λd=>d=Qb L.length):=by
 obtain⟨a,m,t,c,j,T⟩:=T;obtain⟨b,f,r,u,s,e,mp⟩:=T;have k:j.length=L.length:=by rw[mp.len,JV]
 refine Zk func201 ntmps201 results201 λg w q F i x v=>?_;rw[<- i]at b f e;have l:=Qc b;have o:=Qc f;have n:=Qc e;simp only[go_sem,Qa,b,l,f,o,e,n,k];exact⟨[],σ⟩
theorem Qrg(b):QR prog 190 h [.ptr p 0 0 0,u64 b] (λd=>∃o,xJ o (L.filter λx=>decide (x.ka<=min b 9223372036854775807))/\d=.tup [Qb (o.getD default).ki,QT o.isSome]):=by
 obtain⟨a,m,t,c,C,T⟩:=T;obtain⟨e,f,r,i,s,B,mp⟩:=T;have v:min (b:Int) 9223372036854775807=((min b 9223372036854775807:Nat):Int):=ω;have q:=f;have k:=Tr.P7 (min b 9223372036854775807) t none [] (by rw[i];exact s) rfl;rw[i,q4]at k;refine QR.mono (R:=λd=>d=.tup [Qb ((t.qM (min b 9223372036854775807) none).getD default).ki,QT (t.qM (min b 9223372036854775807) none).isSome]) ?_ (λd u=>⟨_,k,u⟩);refine Zk func190 ntmps190 results190 λn w z F g E j=>?_;rw[<- g]at e f;have l:=Qc e;have y:=Qc f;simp only[go_sem,Qa,e,l,f,y,v];apply ZA j Qcd (Qdv (Js g _ _ q) (r.more (Js g)) (min b 9223372036854775807));apply Qg j;simp only[go_sem,Qa,e,l];exact⟨_,rfl⟩
theorem Qrh:QR prog 146 h [.ptr p 0 0 0] (λd=>d=u64 (match L.head? with|some x=>min x.ka never|none=>never)):=by
 have n:=T;obtain⟨a,m,t,c,z,T⟩:=T;obtain⟨b,g,r,s,v,y,mp⟩:=T;have o:=g;cases k:L with
 | nil=>
  have d0:((L.length:Int)==0)=true:=by simp[k]
  refine Zk func146 ntmps146 results146 λj w q F i u f=>?_;rw[<- i]at b g;have e:=Qc b;have l:=Qc g;simp only[go_sem,Qa,b,e,g,l];refine VP f Qcn ?_ (QdR (n.more (Js i))) ?_
  .simp only[go_sem,Qa,b,e,d0]
  apply Qg f;simp only[go_sem,Qa,b,e,d0];exact⟨[],by simp[never]⟩
 | cons x M=>
  have d0:((L.length:Int)==0)=false:=by simp[k];omega
  refine Zk func146 ntmps146 results146 λj w q F i u f=>?_;rw[<- i]at b g;have e:=Qc b;have l:=Qc g;simp only[go_sem,Qa,b,e,g,l];refine VP f Qcn ?_ (QdR (n.more (Js i))) ?_
  .simp only[go_sem,Qa,b,e,d0]
  apply Qg f;simp only[go_sem,Qa,b,e,d0];apply Qg f;simp only[go_sem,Qa,b,e];apply ZA f Qck (Qdt (Js i _ _ o) (r.more (Js i)));apply Qg f;simp only[go_sem,Qa,b,e];refine⟨_,rfl,?_⟩;rw[s,k];congr 2;show min (x.ka:Int) 9223372036854775808=((min x.ka never:Nat):Int);simp only[never];omega
end
def QdS{S}{h}{p}{L:List It}(T:Wr S h p L)(b)(f e)(I:L.length<400000):
  QI prog 130 h [.ptr p 0 0 0,Qb b,u64 f,u64 e] (λd B=>Wr (more S h) B p (XU b f e L)/\Step S h B):=by
 have P:=T;obtain⟨a,m,t,c,C,T⟩:=T;have g:=T.o;refine QZ func130 ntmps130 results130 λE w U i=>?_;have j:=Qc g;simp only[go_sem,Qa,g,j];refine Jb i Qcj (QdQ P b I) λd z q=>?_;obtain⟨rfl,O,v⟩:=q;obtain⟨a,m,t,c,C,T⟩:=O;have g:=T.o;have n:=T.mo;have V:=T.av.o;have j:=Qc g;have k:=Qc n;have F:KR b (KR b L)=KR b L:=by unfold KR;rw[List.filter_filter];simp
 obtain⟨N,u,M,Q⟩:=T.mp.set .i64 c b (.agg (It.mk f b e b).cells);have K:JR .i64 c C b (.agg [.raw (.int .u64 f),.raw (.int .i64 b),.raw (.int .u64 e),.raw (.int .i64 b)])=QM .i64 N u:=M;apply Qg i;simp only[go_sem,Qa,g,j,n,k];apply Qw i i6;simp only[go_sem,Qa,g,j,n,k];simp only[K];apply KX [8] i [0,1,2,3,4,5,6,7,1008,9] [];simp only[go_sem,Qa,g,j,n,k,Qm (Q1 T.pm)];refine kW i iV (Rc (tl:=a) (t:=t) (L:=KR b L) ((T.av.set _ (Q1 T.am) T.mt).app _) ⟨f,b,e,b⟩ (mQ L f b) (by have:=mS b L;omega)) λd J q=>?_;obtain⟨rfl,s,R⟩:=q;apply Xy i;have x:XU b f e (KR b L)=XU b f e L:=by unfold XU;rw[F]
 have r:=T.done (H:=z++_) (h8:=J) (t'':=s) (Step.app _ z _) ((QG j).trans g) ξ (B8 k).symm T.mt T.pt (λl o=>.inl (T.st l o)) Q (by rw[x];exact R);rw[x]at r;have W:=v.len;exact⟨r.1.mono λl o=>o.elim (λy=>y) λy=>.inr ω,v.trans r.2⟩
end Go.Fg.X
namespace Go.Fg
open Go.RowKit (Below)
section
variable {P:Program}{L:ZW}{base nt:Nat}{s:St}{o:Oper}
def Qri{t e:TypeId}{y:Ty}{k:IntKind}(g:P.underlying t=some (.slice e))(a:Wz P e y)(C:y.zero.length=y.size)(N:0<y.size)(w:World)(n:Nat)
  (x:n<=4294967296) (u:y.bytes<=1024) :
  (Instr.makeSlice t (.int k n) (.int k n)).run P w=.ok (.slice (some ⟨w.heap.size,0,none⟩) n n) (w.alloc (.cells (flat n y.size λ_ j=>QY y.zero j).toArray e)):=by
 obtain⟨z,d,f⟩:=a.zeroValue;obtain⟨i,h,M,H⟩:=a.typeInfo w;have p:∀w,(typeInfo e).run P w=.ok i w:=λw=>by
  have l:=a.info;cases hx:P.info? e with
  | none=>rw[hx]at l;cases l
  | some k=>
   simp[typeInfo,hx]at h ⊢;exact h
 have E:IntKind.i64.wrap (n:Int)=n:=by rw[IntKind.wrap_i64];omega
 have v:¬ (281474976710656<(i.bytes:Int)*(n:Int)):=by
  have r:y.bytes*n<=1024*4294967296:=vL u x;rw[<- Th,H];omega
 have J:¬ ((n:Int)<0):=ω;have q:z.cells.size=y.size:=by rw[<- C,<- d];simp
 have B:(flat n y.size λ_ j=>QY y.zero j).toArray=(Array.range (n*y.size)).map (z.cells[· % z.cells.size]!):=by
  apply Array.ext
  .simp[qB]
  .intro j m O;simp only[E8,qB]at m;obtain⟨d1,d2,d3⟩:=div_lt m;have I:y.zero=z.cells.toList:=d.symm;have c:j % y.size<z.cells.size:=by rw[q];exact d2
   simp[flat,QY,I,Q5,q,c];rw[getElem!_pos z.cells _ c,zF c];rfl
 rw[B];by_cases b:n=0
 .subst b;have F:IntKind.i64.wrap 0=0:=rfl;simp[Instr.makeSlice,run_underlying g,a.sizeOf,p,f,asInt,asIntOf,newRow,Sem.run,F];congr 2;apply Array.ext<;>simp
 .have K:¬ (n*y.size=0):=Nat.mul_ne_zero b ω;simp[Instr.makeSlice,run_underlying g,a.sizeOf,p,f,asInt,asIntOf,E,b,J,K,v,newRow,Sem.run]
def Qrj(m:ZU P L){t e:TypeId}{x0 x:Operand}{n:Nat}{a b:Nat}{z:List Value}{y:Ty}{k:IntKind}(K:o.op=.makeSlice t x x)(F:Qo s.fr x=.raw (.int k n))
  (I:ty L t=some ⟨.slice e,a,b,z⟩) (R:ty L e=some y) (d:y.zero.length=y.size) (J:0<y.size) (C:n<=4294967296) (B:y.bytes<=1024) :
  zK P base nt o s (s.h++[⟨.arr,0,y.size,n,λ_=>y.zero.map JT⟩]) (.ref s.h.length 0 0 n):=by
 intro Z c U w r p;have v:=r.eval x;rw[F]at v;have H:=Jh v;have E:=m _ _ R;have O:c.length=s.h.length:=r.o.len;have Q:=Qri (k:=k) (vP (m _ _ I) rfl) E d J w n C B;have f:∀b,b<w.heap.size->(w.alloc (.cells (flat n y.size λ_ j=>QY y.zero j).toArray e)).heap[b]? = w.heap[b]? := λb N=>kz w _ b N;have u:(w.alloc (.cells (flat n y.size λ_ j=>QY y.zero j).toArray e)).heap[w.heap.size]? = some (.cells (flat n y.size λ_ j=>QY y.zero j).toArray e (0,0)):=heap_alloc_new w _;have T:Tr s.h c w (s.h++[⟨.arr,0,y.size,n,λ_=>y.zero.map JT⟩]) (c++[some (w.heap.size,0)]) (w.alloc (.cells (flat n y.size λ_ j=>QY y.zero j).toArray e)):=Tr.push r.o f _ _ (by intro b q h;simp at h;omega);refine⟨.slice (some ⟨w.heap.size,0,none⟩) n n,_,_,.inl ?_,T,Zg.push r.o f _ rfl (QB _) p u (by simp[qB]) (λi l=>by simp[d]) (λi j l g=>⟨QY y.zero j,?_,?_⟩),.ref _ _ _ _ ⟨.arr,0,y.size,n,λ_=>y.zero.map JT⟩ (some (w.heap.size,0)) _ _ σ (by rw[<- O];simp) rfl (QB _) (λ_=>.inr ⟨w.heap.size,0,_,_,rfl,σ,u,?_,QB _⟩),BQ p _,λ_=>f⟩
 .simp only[execOp,K,H,Q,Sem.run_bind,Result.andThen_ok,Sem.run_pure]
 .have M:=Fj (vs:=λ_ j=>QY y.zero j) l g;rw[Jv];simpa using M
 .have S:j<y.zero.length:=by rw[d];exact g
  have:nth (y.zero.map JT) j=JT (QY y.zero j):=by simp[nth,QY,Q5,S]
  show Qy Z _ _ _ (nth (y.zero.map JT) j) _;rw[this];exact .cl _ _ (BJ _ _ _)
 .simp[qB]
end
section
variable {P:Program}{L:ZW}{base nt:Nat}{w0:Start}{Q:Exit->St->Prop}
def Qrk(v:ZU P L)(u:base<=w0.w.heap.size){k:List Item}{c:Option Nat}{z:TypeId}{pos:String}{d:Array Edge}{w:Option (Nat × Bool)}{r:List (Oper × G)}{s:St}{t e:TypeId}{x:Operand}{n:Nat}{a b:Nat}{g:List Value}{y:Ty}{i:IntKind}
  (m:Qo s.fr x=.raw (.int i n)) (o:ty L t=some ⟨.slice e,a,b,g⟩) (B:ty L e=some y) (l:y.zero.length=y.size) (p:0<y.size) (j:n<=4294967296) (h:y.bytes<=1024) (q:Zj nt c=true)
  (f:Qr P base nt w0 Q (.ops r::k) .normal ⟨Q8 s.fr c (.ref s.h.length 0 0 n),s.h++[⟨.arr,0,y.size,n,λ_=>y.zero.map JT⟩]⟩) :
  Qr P base nt w0 Q (.ops ((⟨c,.makeSlice t x x,z,pos,d,w⟩,none)::r)::k) .normal s:=by
 simp only[Qr]at f ⊢;exact UG u (Qrj (x0:=x) v rfl m o B l p j h) q f
end
end Go.Fg
namespace Go.Fg.X
open Go.Proofs Go.Fg
open Go.Proofs.Tryz
@[go_sem] def Rp(a b first n:Nat):Ob:=⟨.one,0,3,1,λ_=>[.ref a 0 0 b,Qb first,Qb n]⟩
structure Qrl (S:Nat->Prop) (h:List Ob) (r a room first:Nat) (row:Nat->List D) (L:List Pk):Prop where
 o:h[r]? = some (Rp a room first L.length)
 ao:h[a]? = some ⟨.arr,0,6,room,row⟩
 ra:r≠a
 fl:first<room
 len:L.length<=room
 wJ:room<=64
 rows:∀i,i<L.length->row ((first+i) % room)=(L.getD i default).cells
 lens:∀i,i<room->(row i).length=6
 sr:S r
 sa:S a
def jT(S:Nat->Prop)(h:List Ob)(r b:Nat)(L:List Pk):Prop:=∃a first c,Qrl S h r a b first c L
structure Il (h:List Ob) (r a room first:Nat) (row:Nat->List D) (L:List Pk):Prop where
 o:(h.map Ob.ro)[r]? = some (Rp a room first L.length).ro
 ao:(h.map Ob.ro)[a]? = some (⟨.arr,0,6,room,row⟩:Ob).ro
 fl:first<room
 len:L.length<=room
 wJ:room<=64
 rows:∀i,i<L.length->row ((first+i) % room)=(L.getD i default).cells
def Ng(h:List Ob)(r b:Nat)(L:List Pk):Prop:=∃a first c,Il h r a b first c L
def jT.toR{S}{h}{r b}{L}:jT S h r b L->Ng h r b L:=λ⟨a,f,c,T⟩=>⟨a,f,c,ZG T.o,ZG T.ao,T.fl,T.len,T.wJ,T.rows⟩
def Il.more{h h':List Ob}{r a b first}{c}{L}(e:∀(l:Nat) (o:Ob),(h.map Ob.ro)[l]? = some o->(h'.map Ob.ro)[l]? = some o)(T:Il h r a b first c L):Il h' r a b first c L:=⟨e _ _ T.o,e _ _ T.ao,T.fl,T.len,T.wJ,T.rows⟩
def Ng.more{h h':List Ob}{r b}{L}(e:∀(l:Nat) (o:Ob),(h.map Ob.ro)[l]? = some o->(h'.map Ob.ro)[l]? = some o):Ng h r b L->Ng h' r b L:=λ⟨a,f,c,T⟩=>⟨a,f,c,e _ _ T.o,e _ _ T.ao,T.fl,T.len,T.wJ,T.rows⟩
def jT.frame{S}{h d:List Ob}{r b}{L}(e:∀l,S l->l<h.length->d[l]? = h[l]?):jT S h r b L->jT S d r b L:=λ⟨a,f,c,T⟩=>
 ⟨a,f,c,(e _ T.sr (Qc T.o)).trans T.o,(e _ T.sa (Qc T.ao)).trans T.ao,T.ra,T.fl,T.len,T.wJ,T.rows,T.lens,T.sr,T.sa⟩
def QdT{h:List Ob}{r a b first n:Nat}{f:Nat->List D}(c:(h.map Ob.ro)[r]? = some (Rp a b first n).ro)(e:(h.map Ob.ro)[a]? = some (⟨.arr,0,6,b,f⟩:Ob).ro)(s:first<b)(p:b<=64)(i:Nat)(t:i<=64):
  QR prog 150 h [.ptr r 0 0 0,Qb i] (λd=>d=Qb ((first+i) % b:Nat)):=by
 have o:IntKind.i64.wrap ((first:Int)+i)=((first+i:Nat):Int):=Zu;refine Zk func150 ntmps150 results150 λk w q F m u l=>?_;rw[<- m]at c e;have g:=Qc c;have j:=Qc e;simp only[go_sem,Qa,c,g,e,j];apply Qw l [0,1,2,3,4,5,6,7,8,9,10,11,12];simp only[go_sem,Qa,c,g,e,j,o];refine⟨ω,[],σ,?_⟩;congr 2
section
variable {h:List Ob}{r a room first:Nat}{row:Nat->List D}{L:List Pk}(T:Il h r a room first row L)
include T
theorem QdU(i:Nat)(b:i<=64):QR prog 150 h [.ptr r 0 0 0,Qb i] (λd=>d=Qb ((first+i) % room:Nat)):=QdT T.o T.ao T.fl T.wJ i b
theorem QdV:QR prog 177 h [.ptr r 0 0 0] (λd=>d=Qb (room - L.length:Nat)):=by
 obtain⟨b,c,n,q,l,p⟩:=T;have k:IntKind.i64.wrap ((room:Int) - L.length)=((room - L.length:Nat):Int):=Zu;refine Zk func177 ntmps177 results177 λg w m F j o i=>?_;rw[<- j]at b c;have e:=Qc b;have f:=Qc c;simp only[go_sem,Qa,b,e,c,f];apply Qw i i5;simp only[go_sem,Qa,b,e,c,f,k];exact⟨[],σ⟩
theorem Qrm:QR prog 114 h [.ptr r 0 0 0] (λd=>d=Qb L.length):=by
 obtain⟨b,c,l,p,j,o⟩:=T;refine Zk func114 ntmps114 results114 λe w k F f n m=>?_;rw[<- f]at b c;have g:=Qc b;have i:=Qc c;simp only[go_sem,Qa,b,g,c,i];exact⟨[],σ⟩
theorem mZ(i)(m:i<L.length):QR prog 113 h [.ptr r 0 0 0,Qb i] (λd=>d=.tup [.agg (L.getD i default).cells,Qb 0]):=by
 have n:=T;obtain⟨b,c,s,u,p,o⟩:=T;have d1:decide ((i:Int)<0)=false:=QS ω;have d2:decide (L.length<=i)=false:=QS ω;refine Zk func113 ntmps113 results113 λl w q F k t g=>?_;rw[<- k]at b c;have e:=Qc b;have f:=Qc c;simp only[go_sem,Qa,b,e,c,f,d1,d2];apply Qw g [0,1,2,3,4,5,1006,7,8,1009,10];simp only[go_sem,Qa,b,e,c,f];apply V0 g iR (QdU (n.more (F5 k)) i ω);apply Q7 g;simp only[go_sem,Qa,b,e,c,f];have j:(first+i) % room<room:=Yn _ ω;have ZR:=o i m;refine⟨j,j,?_⟩;simp only[go_sem,Qa,b,e,c,f,ZR];exact⟨_,rfl⟩
end
def m6{f i n:Nat}(b:f<n)(a:i<=n):(f+i) % n=if f+i<n then f+i else f+i - n:=by
 split
 .exact As ‹_›
 .rw[Nat.mod_eq_sub_mod ω,As ω]
def Qrn{S}{h}{r b}{L}(T:jT S h r b L)(x):
  QI prog 128 h [.ptr r 0 0 0,.agg x.cells] (λd z=>d=Qb (if L.length=b then 5 else 0)/\jT S z r b (if L.length=b then L else L++[x])/\Step S h z):=by
 have P:=T;obtain⟨a,first,o,T⟩:=T;have c:=T.o;have f:=T.ao;have Tr:=λg=>(show Il (h++g) r a b first o L from ⟨ZG ((QG (Qc T.o)).trans T.o),ZG ((QG (Qc T.ao)).trans T.ao),T.fl,T.len,T.wJ,T.rows⟩);by_cases s:L.length=b
 .have d0:(((b - L.length:Nat):Int)==0)=true:=ξ;refine QZ func128 ntmps128 results128 λq w I n=>?_;have j:=Qc c;have m:=Qc f;simp only[go_sem,Qa,c,j,f,m];refine VP n Qcg ?_ (QdV (Tr _)) ?_
  .simp only[go_sem,Qa,c,j,f,m,d0]
  apply Qg n;simp only[go_sem,Qa,c,j,f,m,d0];rw[Qf s,Qf s];exact⟨rfl,P.frame λl p N=>QG N,Step.app S h _⟩
 .have F:=T.len;have d0:(((b - L.length:Nat):Int)==0)=false:=ξ;refine QZ func128 ntmps128 results128 λq w I n=>?_;have j:=Qc c;have m:=Qc f;simp only[go_sem,Qa,c,j,f,m];refine VP n Qcg ?_ (QdV (Tr _)) ?_
  .simp only[go_sem,Qa,c,j,f,m,d0]
  apply Qg n;simp only[go_sem,Qa,c,j,f,m,d0];apply Qw n [0,1,2,3,4,5,6,7,8,10,1009,11,1012];simp only[go_sem,Qa,c,j,f,m];apply V0 n iR (QdU (Tr _) L.length (by have:=T.wJ;omega));apply Q7 n;simp only[go_sem,Qa,c,j,f,m];have t:(first+L.length) % b<b:=Yn _ (by have:=T.fl;omega);have Jz:(o ((first+L.length) % b)).drop 6=[]:=Tj (by rw[T.lens _ t];exact QB _);refine⟨t,t,?_⟩;simp only[go_sem,Qa,c,j,f,m,Jz,Qm (Q1 T.ra)];rw[Qe s,Qe s];have E:=Qc c;have C:=Qc f;have v:=T.fl;have H:=T.wJ;have O:IntKind.i64.wrap ((L.length:Int)+1)=((L.length+1:Nat):Int):=Zu;refine⟨rfl,⟨a,first,λk=>bif k==(first+L.length) % b then x.cells else o k,?_,?_,T.ra,T.fl,ξ,H,?_,?_,T.sr,T.sa⟩,?_,?_⟩
  .rw[QG (by simp;exact E),VX (by simp;exact E),O];simp[Rp,Qb]
  .rw[QG (by simp;exact C),Jf T.ra,VX C];rfl
  .intro i u;simp only[JJ,jt]at u;by_cases p:i=L.length
   .subst p;simp
   .have B:i<L.length:=ω;have Q:((first+i) % b==(first+L.length) % b)=false:=by
     rw[m6 v ω,m6 v ω];simp only[jv];split<;>split<;>omega
    rw[Q];simp only[q5,T.rows i B,List.getD,JD B]
  .intro i u;show (bif _ then _ else _:List D).length=6;by_cases p:(i==(first+L.length) % b)=true
   .rw[p];rfl
   .rw[Ym.2 p];exact T.lens i u
  .intro l M y;have K:a≠l:=λe=>y (e▸T.sa);have J:r≠l:=λe=>y (e▸T.sr);rw[QG (by simp;exact M),Jf J,Jf K]
  .simp
def Qro{S}{h}{r b}{x}{L}(T:jT S h r b (x::L)):
  QI prog 192 h [.ptr r 0 0 0] (λd E=>d=.tup [.agg x.cells,Qb 0]/\jT S E r b L/\Step S h E):=by
 have U:=T;obtain⟨a,first,j,T⟩:=T;have c:=T.o;have f:=T.ao;have Tr:=λg=>(show Il (h++g) r a b first j (x::L) from ⟨ZG ((QG (Qc T.o)).trans T.o),ZG ((QG (Qc T.ao)).trans T.ao),T.fl,T.len,T.wJ,T.rows⟩);have y:=T.wJ;have o:=T.fl;have Q:=T.len;simp only[VK]at Q;refine QZ func192 ntmps192 results192 λI w R p=>?_;have m:=Qc c;have n:=Qc f;simp only[go_sem,Qa,c,m,f,n];refine VP p iN ?_ (mZ (Tr _) 0 σ) ?_
 .simp only[go_sem,Qa,Qa,c,m,f,n]
 apply Qg p;simp only[go_sem,Qa,Qa,c,m,f,n];apply Qw p o07;simp only[go_sem,Qa,c,m,f,n];refine⟨o,o,?_⟩;have s:=Qc c;have q:=Qc f;have Jz:(j first).drop 6=[]:=Tj (by rw[T.lens _ o];exact QB _);have v:∀A B,((h.set a A).set r B)[r]? = some B:=λA B=>VX (by simp;exact s);have F:IntKind.i64.wrap (((L.length+1:Nat):Int) - 1)=(L.length:Int):=Zu;have P:=λA g=>(show ((h.set a A++g).map Ob.ro)[r]? = some (Rp a b first (L.length+1)).ro from ZG ((QG (by simp;exact s)).trans ((Jf (Q1 T.ra)).trans c)));have u:=λH g=>(show ((h.set a ⟨.arr,0,6,b,H⟩++g).map Ob.ro)[a]? = some (⟨.arr,0,6,b,H⟩:Ob).ro from ZG ((QG (by simp;exact q)).trans (VX q)));refine VP p iR ?_ (QdT (P _ _) (u _ _) o y 1 ω) ?_
 .simp only[go_sem,Qa,Qa,c,m,f,n,Qm (Q1 T.ra),Jz,v,F]
 apply Qg p;simp only[go_sem,Qa,Qa,c,m,f,n,Qm (Q1 T.ra),Jz,v,F];refine⟨⟨a,(first+1) % b,λk=>bif k==first then (default:Pk).cells else j k,?_,?_,T.ra,Yn _ ω,ω,y,?_,?_,T.sr,T.sa⟩,?_,?_⟩
 .rw[QG (by simp;exact s),VX (by simp;exact s)];rfl
 .rw[QG (by simp;exact q),Jf T.ra,VX q];rfl
 .intro i C;have N:((first+1) % b+i) % b=(first+(i+1)) % b:=by rw[Nat.mod_add_mod];congr 1;omega
  have t:i+1<b:=ω;have O:((first+(i+1)) % b==first)=false:=by
   rw[m6 o ω];simp only[jv];split<;>omega
  rw[N];simp only[O,q5,T.rows (i+1) ξ];simp
 .intro i C;show (bif _ then _ else _:List D).length=6;by_cases t:(i==first)=true
  .rw[t];rfl
  .rw[Ym.2 t];exact T.lens i C
 .intro l M z;have K:a≠l:=λe=>z (e▸T.sa);have J:r≠l:=λe=>z (e▸T.sr);rw[QG (by simp;exact M),Jf J,Jf K]
 .simp
def Qrq(h:List Ob)(n:Nat)(i:1<=n)(e:n<=64):QI prog 127 h [Qb n] (λd b=>d=.tup [.ptr (h.length+1) 0 0 0,Qb 0]/\jT (λl=>h.length<=l) b (h.length+1) n []/\∃g,b=h++g/\g.length=2):=by
 have d1:decide ((n:Int)<1)=false:=QS ω;have d2:decide ((64:Int)<n)=false:=QS ω;refine QZ func127 ntmps127 results127 λc w f a=>?_;simp only[go_sem,Qa,d1,d2];refine Qrk xB a rfl rfl rfl rfl π ω π rfl ?_;apply Zd a;simp only[JJ,jt,Wx,YT,q4];refine⟨trivial,⟨h.length,0,λ_=>(default:Pk).cells,Vj rfl,JZ rfl,ω,ω,σ,e,σ,λ_ _=>rfl,by show h.length<=_;omega,QB _⟩,_,rfl,rfl⟩
@[go_sem] def num(n:Nat):D:=.agg [u64 (n / 18446744073709551616),u64 (n % 18446744073709551616)]
def Qrr(a b g f d c)(i:a=g*4294967296+f)(h:b=d*4294967296+c)(m:g<4294967296)(l:f<4294967296)(k:d<4294967296)(j:c<4294967296):
  ∃P Q R S:Nat,P=g*d/\Q=g*c/\R=f*d/\S=f*c/\a*b=P*18446744073709551616+(Q+R)*4294967296+S/\P<=18446744065119617025/\Q<=18446744065119617025/\R<=18446744065119617025/\S<=18446744065119617025:=by
 refine⟨_,_,_,_,rfl,rfl,rfl,rfl,?_,?_,?_,?_,?_⟩
 .subst i h;have e:(g*4294967296+f)*(d*4294967296+c)=g*d*(4294967296*4294967296)+(g*c+f*d)*4294967296+f*c:=by
   simp only[Vw,Nat.mul_add,Lw,Nat.mul_left_comm,ON];omega
  rw[e]
 all_goals (refine K9 (vL (Nat.le_sub_one_of_lt ‹_›) (Nat.le_sub_one_of_lt ‹_›)) π)
def Bi(a b)(p:a<18446744073709551616)(g:b<18446744073709551616):Q6 prog 187 [u64 a,u64 b] (Zm (num (a*b))):=by
 refine Zs 0 func187 ntmps187 results187 λe w g=>?_;simp only[go_sem,-Nat.reducePow];have o:(2:Nat) ^ min 32 64=4294967296:=rfl;have d:(2:Int) ^ min 32 64=((4294967296:Nat):Int):=rfl;obtain⟨P,Q,R,S,k,j,i,h,n,t,s,r,q⟩:=Qrr a b (a / 4294967296) (a % 4294967296) (b / 4294967296) (b % 4294967296) ω ω ω ω ω ω;have c:∀x:Nat,((x:Int)).fdiv ((4294967296:Nat):Int)=((x / 4294967296:Nat):Int):=λx=>by have:=Ia x 32;rwa [show (2:Int) ^ 32=((4294967296:Nat):Int) from rfl,show (2:Nat) ^ 32=4294967296 from rfl]at this
 simp (disch:=omega) only [c,Qqq,d,P3,H9,<- k,<- j,<- i,<- h,n];have f:∀X:Nat,X*4294967296 % 18446744073709551616=X % 4294967296*4294967296:=λX=>ω;rw[f,Qqr _ _ ω ω];have m:((P % 18446744073709551616+((Q % 18446744073709551616+S % 18446744073709551616 / 4294967296) % 18446744073709551616) / 4294967296) % 18446744073709551616+((R % 18446744073709551616+((Q % 18446744073709551616+S % 18446744073709551616 / 4294967296) % 18446744073709551616) % 4294967296) % 18446744073709551616) / 4294967296) % 18446744073709551616=(P*18446744073709551616+(Q+R)*4294967296+S) / 18446744073709551616:=ω;have l:((R % 18446744073709551616+((Q % 18446744073709551616+S % 18446744073709551616 / 4294967296) % 18446744073709551616) % 4294967296) % 18446744073709551616) % 4294967296*4294967296+S % 18446744073709551616 % 4294967296=(P*18446744073709551616+(Q+R)*4294967296+S) % 18446744073709551616:=ω;rw[m,l]
def m7(a b)(k:a<2 ^ 128)(i:b<2 ^ 128):Q6 prog 210 [num a,num b] (Zm (Qb (if a<b then -1 else if a=b then 0 else 1))):=by
 refine Zs 0 func210 ntmps210 results210 λg w i=>?_;simp only[go_sem,-Nat.reducePow];refine vZ (λf=>?_) (λf=>?_)
 .simp only[go_sem,-Nat.reducePow,f];have:=Yo f;rw[Qf ω]
 simp only[go_sem,-Nat.reducePow,f];have l:=BG f;refine vZ (λe=>?_) (λe=>?_)
 .have h:a / 18446744073709551616=b / 18446744073709551616:=by have:=eq_of_beq e;omega
  simp only[go_sem,-Nat.reducePow,e];refine vZ (λd=>?_) (λd=>?_)
  .have:=Yo d;simp only[go_sem,-Nat.reducePow,d];rw[Qf ω]
  .have j:=BG d;simp only[go_sem,-Nat.reducePow,d];refine vZ (λc=>?_) (λc=>?_)
   .simp only[go_sem,-Nat.reducePow,c];simp only[ZH,zH]at c;rw[Qe ω,Qf ω]
   .simp only[go_sem,-Nat.reducePow,c];simp only[EV,jv]at c;rw[Qe ω,Qe ω]
 .have h:=ne_of_beq_false e;simp only[go_sem,-Nat.reducePow,e,EW];rw[Qe ω,Qe ω]
def Qrt(a b c u:Nat)(e:a<18446744073709551616)(d:b<18446744073709551616)(g:c<2)(f:u=(a+18446744073709551616 - b+18446744073709551616 - c) % 18446744073709551616):
  (bits BinOp.or IntKind.u64 (bits BinOp.and IntKind.u64 (bits BinOp.xor IntKind.u64 (if IntKind.u64.signed=true then -1 else IntKind.u64.max) (a:Int)) (b:Int)) (bits BinOp.and IntKind.u64 (bits BinOp.xor IntKind.u64 (if IntKind.u64.signed=true then -1 else IntKind.u64.max) (bits BinOp.xor IntKind.u64 (a:Int) (b:Int))) (u:Int))).fdiv (2 ^ min 63 64)=((if a<b+c then 1 else 0:Nat):Int):=by
 have em:(if IntKind.u64.signed=true then -1 else IntKind.u64.max)=((18446744073709551615:Nat):Int):=π;have hx:a ^^^ b<2 ^ 64:=OO ω ω;have i:18446744073709551615 ^^^ a<2 ^ 64:=OO ω ω;have j:18446744073709551615 ^^^ (a ^^^ b)<2 ^ 64:=OO ω ω;have k:(18446744073709551615 ^^^ a) &&& b<2 ^ 64:=TD _ ω;have h:(18446744073709551615 ^^^ (a ^^^ b)) &&& u<2 ^ 64:=TD _ ω;rw[em,u64_xor_nat a b e d,u64_xor_nat _ a π e,u64_xor_nat _ _ π ω,u64_and_nat _ b ω d,u64_and_nat _ u ω ω,u64_or_nat _ _ ω ω,Ia];rw[show (2:Nat) ^ min 63 64=9223372036854775808 from rfl,l9 _ _ ω ω,bJ _ _ ω ω,bJ _ _ ω ω,mg _ _ ω ω,mg _ _ ω ω,mg _ _ ω ω];rw[Qqs a b c _ _ _ u _ e d g f rfl rfl rfl rfl]
def QdW(a b)(c)(g:a<18446744073709551616)(f:b<18446744073709551616)(e:c<2):Q6 prog 258 [u64 a,u64 b,u64 c] (Zm (.tup [u64 ((a+18446744073709551616 - b+18446744073709551616 - c) % 18446744073709551616),u64 (if a<b+c then 1 else 0)])):=by
 refine Zs 0 func258 ntmps258 results258 λd w f=>?_;simp only[go_sem,-Nat.reducePow];have h:IntKind.u64.wrap (IntKind.u64.wrap ((a:Int) - (b:Int)) - (c:Int))=(((a+18446744073709551616 - b+18446744073709551616 - c) % 18446744073709551616:Nat):Int):=by
  rw[l7 a b ω,l7 _ c ω];omega
 rw[h,Qrt a b c _ g ‹_› e rfl]
def Qrv(a b)(k:a<2 ^ 128)(c:b<2 ^ 128):Q6 prog 247 [num a,num b] (Zm (.tup [num ((a+2 ^ 128 - b) % 2 ^ 128),QT (decide (a<b))])):=by
 refine Zs 0 func247 ntmps247 results247 λg w c=>?_;simp only[go_sem,-Nat.reducePow];refine Jk c QcB ?_ (QdW (a % 18446744073709551616) (b % 18446744073709551616) 0 ω ω ω) ?_
 .simp only[go_sem,-Nat.reducePow]
 apply Qg c;simp only[go_sem,-Nat.reducePow];refine Jk c QcB ?_ (QdW (a / 18446744073709551616) (b / 18446744073709551616) (if a % 18446744073709551616<b % 18446744073709551616+0 then 1 else 0) ω ω (by split<;>omega)) ?_
 .simp only[go_sem,-Nat.reducePow]
 apply Qg c;simp only[go_sem,-Nat.reducePow];have l:∀x:Nat,(((if x=1 then (1:Nat) else 0:Nat):Int) != 0)=decide (x=1):=λx=>by by_cases h:x=1<;>simp[h]
 have j:(((if a / 18446744073709551616<b / 18446744073709551616+if a % 18446744073709551616<b % 18446744073709551616 then 1 else 0 then 1 else 0:Nat):Int) != 0)=decide (a<b):=by
  by_cases f:a % 18446744073709551616<b % 18446744073709551616
  .rw[Qf f];by_cases d:a / 18446744073709551616<b / 18446744073709551616+1
   .rw[Qf d];simp;omega
   .rw[Qe d];simp;omega
  .rw[Qe f];by_cases d:a / 18446744073709551616<b / 18446744073709551616+0
   .rw[Qf d];simp;omega
   .rw[Qe d];simp;omega
 have i:(a / 18446744073709551616+18446744073709551616 - b / 18446744073709551616+18446744073709551616 - if a % 18446744073709551616<b % 18446744073709551616 then 1 else 0) % 18446744073709551616=(a+2 ^ 128 - b) % 2 ^ 128 / 18446744073709551616:=by
  split<;>omega
 have e:(a % 18446744073709551616+18446744073709551616 - b % 18446744073709551616+18446744073709551616 - 0) % 18446744073709551616=(a+2 ^ 128 - b) % 2 ^ 128 % 18446744073709551616:=ω;try rw[Fb]at e
 try rw[Fb]at e
 rw[j,i,e]
def Qrw(a b c u:Nat)(e:a<18446744073709551616)(d:b<18446744073709551616)(g:c<2)(f:u=(a+b+c) % 18446744073709551616):
  (bits BinOp.or IntKind.u64 (bits BinOp.and IntKind.u64 (a:Int) (b:Int)) (bits BinOp.andNot IntKind.u64 (bits BinOp.or IntKind.u64 (a:Int) (b:Int)) (u:Int))).fdiv (2 ^ min 63 64)=((if 18446744073709551616<=a+b+c then 1 else 0:Nat):Int):=by
 have hx:a ||| b<2 ^ 64:=Nat.or_lt_two_pow ω ω;have i:a &&& b<2 ^ 64:=TD _ ω;have h:(a ||| b) &&& (18446744073709551615 - u)<2 ^ 64:=TD _ ω;rw[u64_and_nat a b e d,u64_or_nat a b e d,u64_andNot_nat _ u ω ω,u64_or_nat _ _ ω ω,Ia];rw[show (2:Nat) ^ min 63 64=9223372036854775808 from rfl,l9 _ _ ω ω,bJ _ _ ω ω,bJ _ _ ω ω,l9 _ _ ω ω];rw[show (18446744073709551615 - u) / 9223372036854775808=1 - u / 9223372036854775808 by omega];rw[Qqt a b c _ _ _ u _ e d g f rfl rfl rfl rfl]
def QdX(a b)(c)(g:a<18446744073709551616)(f:b<18446744073709551616)(e:c<2):Q6 prog 240 [u64 a,u64 b,u64 c] (Zm (.tup [u64 ((a+b+c) % 18446744073709551616),u64 (if 18446744073709551616<=a+b+c then 1 else 0)])):=by
 refine Zs 0 func240 ntmps240 results240 λd w f=>?_;simp only[go_sem,-Nat.reducePow];have h:IntKind.u64.wrap (IntKind.u64.wrap ((a:Int)+(b:Int))+(c:Int))=(((a+b+c) % 18446744073709551616:Nat):Int):=by
  rw[H9,H9];omega
 rw[h,Qrw a b c _ g ‹_› e rfl]
def Rq(a b)(j:a<2 ^ 128)(c:b<2 ^ 128):Q6 prog 224 [num a,num b] (Zm (.tup [num ((a+b) % 2 ^ 128),QT (decide (2 ^ 128<=a+b))])):=by
 refine Zs 0 func224 ntmps224 results224 λg w c=>?_;simp only[go_sem,-Nat.reducePow];refine Jk c Qcy ?_ (QdX (a % 18446744073709551616) (b % 18446744073709551616) 0 ω ω ω) ?_
 .simp only[go_sem,-Nat.reducePow]
 apply Qg c;simp only[go_sem,-Nat.reducePow];refine Jk c Qcy ?_ (QdX (a / 18446744073709551616) (b / 18446744073709551616) (if 18446744073709551616<=a % 18446744073709551616+b % 18446744073709551616+0 then 1 else 0) ω ω (by split<;>omega)) ?_
 .simp only[go_sem,-Nat.reducePow]
 apply Qg c;simp only[go_sem,-Nat.reducePow];have i:(((if 18446744073709551616<=a / 18446744073709551616+b / 18446744073709551616+(if 18446744073709551616<=a % 18446744073709551616+b % 18446744073709551616 then 1 else 0) then 1 else 0:Nat):Int) != 0)=decide (2 ^ 128<=a+b):=by
  by_cases f:18446744073709551616<=a % 18446744073709551616+b % 18446744073709551616
  .rw[Qf f];by_cases d:18446744073709551616<=a / 18446744073709551616+b / 18446744073709551616+1
   .rw[Qf d];simp;omega
   .rw[Qe d];simp;omega
  .rw[Qe f];by_cases d:18446744073709551616<=a / 18446744073709551616+b / 18446744073709551616+0
   .rw[Qf d];simp;omega
   .rw[Qe d];simp;omega
 have h:(a / 18446744073709551616+b / 18446744073709551616+if 18446744073709551616<=a % 18446744073709551616+b % 18446744073709551616 then 1 else 0) % 18446744073709551616=(a+b) % 2 ^ 128 / 18446744073709551616:=by
  split<;>omega
 have e:(a % 18446744073709551616+b % 18446744073709551616) % 18446744073709551616=(a+b) % 2 ^ 128 % 18446744073709551616:=ω;try rw[Fb]at e
 try rw[Fb]at e
 rw[i,h,e]
def QdY(a)(f:a<18446744073709551616):Q6 prog 216 [u64 a] (Zm (num a)):=by
 refine Zs 0 func216 ntmps216 results216 λb w e=>?_;simp only[go_sem,-Nat.reducePow];have d:a / 18446744073709551616=0:=ω;have c:a % 18446744073709551616=a:=ω;rw[d,c];rfl
def m8(x y:Nat)(b:x<9223372036854775808)(a:y<2):bits .or .u64 ((x*2:Nat):Int) (y:Int)=((x*2+y:Nat):Int):=by
 rw[u64_or_nat _ _ ω ω,nat_join 1 _ _ ω ω]
def m9(x:Nat):(x:Int).fdiv (2 ^ min 63 64)=((x / 9223372036854775808:Nat):Int):=by
 have:=Ia x 63;rwa [show (2:Int) ^ 63=2 ^ min 63 64 from rfl,show (2:Nat) ^ 63=9223372036854775808 from rfl]at this
def ng(x:Nat):IntKind.u64.wrap ((x:Int)*2 ^ min 1 64)=((x % 9223372036854775808*2:Nat):Int):=by
 rw[show (2:Int) ^ min 1 64=((2:Nat):Int) from rfl,P3];omega
def nh(r A:Nat)(a:A<2 ^ 128):bits .or .u64 (IntKind.u64.wrap ((r:Int)*2 ^ min 1 64)) ((A / 18446744073709551616 / 9223372036854775808:Nat):Int)=(((2*r+A / 2 ^ 127) % 18446744073709551616:Nat):Int):=by
 rw[ng,m8 _ _ ω ω];congr 1;omega
def Nh(A)(a:A<2 ^ 128):bits .or .u64 (IntKind.u64.wrap (((A / 18446744073709551616:Nat):Int)*2 ^ min 1 64)) ((A % 18446744073709551616 / 9223372036854775808:Nat):Int)=(((A*2 % 2 ^ 128) / 18446744073709551616:Nat):Int):=by
 rw[ng,m8 _ _ ω ω];congr 1;omega
def ni(A):IntKind.u64.wrap (((A % 18446744073709551616:Nat):Int)*2 ^ min 1 64)=(((A*2 % 2 ^ 128) % 18446744073709551616:Nat):Int):=by
 rw[ng];congr 1;omega
def ct(x):bits .or .u64 (((x*2 % 2 ^ 128) % 18446744073709551616:Nat):Int) 1=((((x*2+1) % 2 ^ 128) % 18446744073709551616:Nat):Int):=by
 have:=m8 ((x*2 % 2 ^ 128) % 18446744073709551616 / 2) 1 ω ω;rw[show (x*2 % 2 ^ 128) % 18446744073709551616 / 2*2=(x*2 % 2 ^ 128) % 18446744073709551616 by omega]at this;rw[show ((1:Nat):Int)=1 from rfl]at this;rw[this];congr 1;omega
def nj{n:Nat}(h:n≠0):((n:Int) != 0)=true:=by simp[h]
def cu{n:Nat}(h:n=0):((n:Int) != 0)=false:=by simp[h]
def Qrx(a k)(i:k<128):a / 2 ^ (128 - (k+1))=2*(a / 2 ^ (128 - k))+(a*2 ^ k % 2 ^ 128) / 2 ^ 127:=by
 obtain⟨m,h⟩:∃m,m=127 - k:=⟨_,rfl⟩;have g:128 - (k+1)=m:=ω;have f:128 - k=m+1:=ω;have e:(2:Nat) ^ 128=2 ^ (m+1)*2 ^ k:=by rw[<- Nat.pow_add];congr 1;omega
 have d:(2:Nat) ^ 127=2 ^ m*2 ^ k:=by rw[<- Nat.pow_add];congr 1;omega
 rw[g,f,e,d,Nat.mul_mod_mul_right,Nat.mul_div_mul_right _ _ (TI k),Nat.pow_succ];have b:=TI m;generalize 2 ^ m=M at *;have j:=TE a (M*2);have c:a=M*(2*(a / (M*2)))+a % (M*2):=by rw[<- ON];omega
 conv=>lhs;rw[c]
 rw[Nat.mul_add_div b]
def Qry(a k):a*2 ^ k % 2 ^ 128*2 % 2 ^ 128=a*2 ^ (k+1) % 2 ^ 128:=by
 have:a*2 ^ (k+1)=a*2 ^ k*2:=by rw[Nat.pow_succ,ON]
 rw[this];omega
def Qrz(t b a)(c:0<b)(d:a<2):
  (b<=2*(t % b)+a->(2*t+a) / b=2*(t / b)+1/\(2*t+a) % b=2*(t % b)+a - b)/\(2*(t % b)+a<b->(2*t+a) / b=2*(t / b)/\(2*t+a) % b=2*(t % b)+a):=by
 have f:=TE t b;have e:=Yn t c;constructor
 .intro h;refine(TG c).2 ⟨?_,ω⟩;rw[Nat.mul_add,Nat.mul_left_comm];omega
 .intro h;refine(TG c).2 ⟨?_,ω⟩;rw[Nat.mul_left_comm];omega
def dA(a k:Nat):Nat:=a*2 ^ k % 2 ^ 128
def dT(a k:Nat):Nat:=a / 2 ^ (128 - k)
def QdZ(a k)(h:a<2 ^ 128):dT a k<2 ^ 128:=OM (TF _ _) h
def Gg(a k):dA a k<2 ^ 128:=Yn _ π
def Qd0(a b)(l:a<2 ^ 128)(o:b<18446744073709551616):Q6 prog 259 [num a,u64 b] (Zm (.tup [num (if b=0 then 0 else a / b),u64 (if b=0 then 0 else a % b),Qb (if b=0 then 1 else 0)])):=by
 refine Zs 0 func259 ntmps259 results259 λt w o=>?_;simp only[go_sem,-Nat.reducePow];by_cases g:b=0
 .subst g;simp only[go_sem,-Nat.reducePow,Va];try rfl
 have q:=bnz g;simp only[go_sem,-Nat.reducePow,q];have y:dA a 0=a:=by show a*2 ^ 0 % 2 ^ 128=a;rw[Nat.pow_zero,Nat.mul_one];exact As l
 have x:dT a 0=0:=Nat.div_eq_of_lt l;refine HO (G:=Nat) [1,2,4,7] (λk=>True) (λk f=>[(8,u64 (dT a k % b)),(13,Qb k)]) (λk f=>[⟨.one,0,2,1,λ_=>[u64 (dA a k / 18446744073709551616),u64 (dA a k % 18446744073709551616)]⟩,⟨.one,0,2,1,λ_=>[u64 0,u64 0]⟩,⟨.one,0,2,1,λ_=>[u64 (dT a k / b / 18446744073709551616),u64 (dT a k / b % 18446744073709551616)]⟩]) (128) (0) rfl (QF.to 3 (by (simp only[go_sem,-Nat.reducePow,y,x,Nat.zero_div,Nat.zero_mod])<;>simp)) trivial ?_;intro k f j _;replace j:k<=128:=j;apply Qg o;simp only[go_sem,-Nat.reducePow];have p:=KJ (show k<4611686018427387904 from ω);first|refine jL j (λd=>?_) (λd=>?_)|refine jM j (λd=>?_) (λd=>?_)
 .replace d:k<128:=d;have Qc:decide ((k:Int)<128)=true:=ξ;have s:0<b:=ω;have t1:dT a (k+1)=2*dT a k+dA a k / 2 ^ 127:=Qrx a k d;have t2:dA a k*2 % 2 ^ 128=dA a (k+1):=Qry a k;have t3:=Qrz (dT a k) b (dA a k / 2 ^ 127) s (by have:=Gg a k;omega);have t4:=Yn (dT a k) s;have t5:=Gg a k;have t6:=QdZ a (k+1) l;rw[<- t1]at t3;have t7:dT a (k+1) / b<2 ^ 128:=OM (TF _ _) t6;have t8:dT a k / b<2 ^ 128:=OM (TF _ _) (QdZ a k l);by_cases v:b<=2*(dT a k % b)+dA a k / 2 ^ 127
  .obtain⟨u,r⟩:=t3.1 v;have c:IntKind.u64.wrap ((((2*(dT a k % b)+dA a k / 2 ^ 127) % 18446744073709551616:Nat):Int) - (b:Int))=((dT a (k+1) % b:Nat):Int):=by
    rw[l7 _ b ω,r];congr 1;omega
   have z:dT a k / b*2 % 2 ^ 128=dT a k / b*2:=ω;have e:((dT a k / b*2+1) % 2 ^ 128)=dT a (k+1) / b:=ω;have m:dT a k / b*2 % 2 ^ 128 / 18446744073709551616=dT a (k+1) / b / 18446744073709551616:=ω;by_cases i:dT a k % b / 9223372036854775808=0
   .have n:decide (b<=(2*(dT a k % b)+dA a k / 2 ^ 127) % 18446744073709551616)=true:=ξ;have h:((((dT a k % b / 9223372036854775808:Nat)):Int) != 0)=false:=cu i;simp only[go_sem,-Nat.reducePow,Qc,nh _ _ (Gg a k),Nh _ (Gg a k),Nh _ t8,ni,m9,h,n,c,t2,ct,e,m];repeat (refine And.intro δ ?_)
    refine⟨_,QF.to 3 (by (simp only[go_sem,-Nat.reducePow,p,c,t2,ct,e,m])<;>simp),xA.mk (f) (trivial)⟩
   .have h:((((dT a k % b / 9223372036854775808:Nat)):Int) != 0)=true:=nj i;simp only[go_sem,-Nat.reducePow,Qc,nh _ _ (Gg a k),Nh _ (Gg a k),Nh _ t8,ni,m9,h,c,t2,ct,e,m];repeat (refine And.intro δ ?_)
    refine⟨_,QF.to 3 (by (simp only[go_sem,-Nat.reducePow,p,c,t2,ct,e,m])<;>simp),xA.mk (f) (trivial)⟩
  .obtain⟨u,r⟩:=t3.2 ω;have c:(2*(dT a k % b)+dA a k / 2 ^ 127) % 18446744073709551616=dT a (k+1) % b:=ω;have e:dT a k / b*2 % 2 ^ 128=dT a (k+1) / b:=ω;have i:dT a k % b / 9223372036854775808=0:=ω;have n:decide (b<=dT a (k+1) % b)=false:=ξ;have h:=cu i;simp only[go_sem,-Nat.reducePow,Qc,nh _ _ (Gg a k),Nh _ (Gg a k),Nh _ t8,ni,m9,h,c,n,t2,e];repeat (refine And.intro δ ?_)
   refine⟨_,QF.to 3 (by (simp only[go_sem,-Nat.reducePow,p,c,t2,e])<;>simp),xA.mk (f) (trivial)⟩
 .have Qc:decide ((k:Int)<128)=false:=by rw[d];rfl
  have c:dT a k=a:=by rw[d];show a / 2 ^ 0=a;rw[Nat.pow_zero,Nat.div_one]
  simp only[go_sem,-Nat.reducePow,Qc,c];apply Qg o;simp only[go_sem,-Nat.reducePow];rw[Qe g,Qe g,Qe g]
def d0(n:Nat):Nat:=n % 4294967296
def d1(n:Nat):Nat:=n / 4294967296 % 4294967296
def d2(n:Nat):Nat:=n / 18446744073709551616 % 4294967296
def d3(n:Nat):Nat:=n / 79228162514264337593543950336 % 4294967296
@[go_sem] def dg(n:Nat):D:=.agg [u64 (d0 n),u64 (d1 n),u64 (d2 n),u64 (d3 n)]
theorem cv:((1:Nat):Int)=1:=rfl
def cdiv(n d:Nat):Nat:=(n+d - 1) / d
def QrB(n d)(a:0<d):cdiv n d=if n % d=0 then n / d else n / d+1:=by
 unfold cdiv;have c:=TE n d;have b:=Yn n a;split
 .rename_i h;have:(n+d - 1) / d=n / d/\(n+d - 1) % d=d - 1:=(TG a).2 ⟨ω,ω⟩;exact this.1
 .have:(n+d - 1) / d=n / d+1/\(n+d - 1) % d=n % d - 1:=(TG a).2 ⟨by rw[Nat.mul_add];omega,ω⟩;exact this.1
@[go_sem] def QCn(v e:Int):D:=.agg [.raw (.int .u64 v),.raw (.int .i64 e)]
def QrC(n d)(f:n<2 ^ 128)(g:0<d)(h:¬ n % d=0):n / d+1<2 ^ 128:=by
 have e:2<=d:=by
  rcases Ar d 2 with h3|h3
  .have:d=1:=ω;subst this;omega
  .exact h3
 have:=Nat.div_le_div_left (c:=2) (b:=d) (a:=n) e π;omega
theorem Qd1:((65536:Nat):Int)=65536:=rfl
def Rs(n:Nat):Nat:=if n<18446744073709551616 then n else 0
def Ni(n:Nat):Int:=if n<18446744073709551616 then 0 else 20
def Qd2(n)(e:n<2 ^ 128):Q6 prog 260 [num n] (Zm (.tup [u64 (Rs n),Qb (Ni n)])):=by
 refine Zs 0 func260 ntmps260 results260 λd w f=>?_;simp only[go_sem,-Nat.reducePow];by_cases h:n<18446744073709551616
 .have c:((((n / 18446744073709551616:Nat)):Int) != 0)=false:=cu ω;have b:Rs n=n:=Qf h;have a:Ni n=0:=Qf h;simp only[go_sem,-Nat.reducePow,c,b,a];rw[As h]
 .have c:((((n / 18446744073709551616:Nat)):Int) != 0)=true:=nj ω;have b:Rs n=0:=Qe h;have a:Ni n=20:=Qe h;simp only[go_sem,-Nat.reducePow,c,b,a]
def QrD(n d)(f:n<2 ^ 128)(j:d<18446744073709551616)(g:0<d):Q6 prog 248 [num n,u64 d] (Zm (.tup [u64 (Rs (cdiv n d)),Qb (Ni (cdiv n d))])):=by
 have c:=QrB n d g;have b:d≠0:=ω;have l:=TF n d;refine Zs 0 func248 ntmps248 results248 λi w a=>?_;simp only[go_sem,-Nat.reducePow];refine Jk a QcC ?_ (Qd0 n d f j) ?_
 .simp only[go_sem,-Nat.reducePow,b,vN]
 apply Qg a;simp only[go_sem,-Nat.reducePow,b,vN];by_cases h:n % d=0
 .rw[Qf h]at c;have e:=cu h;simp only[go_sem,-Nat.reducePow,e];refine Jk a QcD ?_ (Qd2 (n / d) ω) ?_
  .simp only[go_sem,-Nat.reducePow,c]
  apply Qg a;simp only[go_sem,-Nat.reducePow,c]
 .rw[Qe h]at c;have m:=QrC n d f g h;have e:=nj h;simp only[go_sem,-Nat.reducePow,e];apply Qw a [0,1001,1002,3,4,5,1006];simp only[go_sem,-Nat.reducePow];refine KK a Qcr ?_ (QdY 1 π) ?_
  .simp only[go_sem,-Nat.reducePow,cv]
  apply Q7 a;simp only[go_sem,-Nat.reducePow,cv];refine KK a PO ?_ (Rq (n / d) 1 ω π) ?_
  .simp only[go_sem,-Nat.reducePow,cv]
  apply Q7 a;simp only[go_sem,-Nat.reducePow,cv];have k:(n / d+1) % 2 ^ 128=cdiv n d:=ω;simp only[go_sem,-Nat.reducePow,k];refine Jk a QcD ?_ (Qd2 (cdiv n d) ω) ?_
  .simp only[go_sem,-Nat.reducePow]
  apply Qg a;simp only[go_sem,-Nat.reducePow]
def Vq(a d b:Nat):Int:=if 4294967295<a\/4294967295<b\/1048576<d then 0 else if a=0/\b=0/\d=0 then 1 else if d=0/\a=b then 2 else if d=0 then 0 else if b<a then 3 else if a=0/\0<b then 4 else 0
@[go_sem] def nu(a d b:Nat):D:=.agg [u64 a,u64 d,u64 b]
def Rt(a d b):Q6 prog 176 [nu a d b] (Zm (Qb (Vq a d b))):=by
 refine Zs 0 func176 ntmps176 results176 λc w e=>?_;simp only[go_sem,-Nat.reducePow]
 repeat' (first|((first|refine FK (λh=>?_) (λh=>?_)|refine FL (λh=>?_) (λh=>?_)|refine FM (λh=>?_) (λh=>?_)|refine vZ (λh=>?_) (λh=>?_)|refine FN (λh=>?_) (λh=>?_)|refine FO (λh=>?_) (λh=>?_)|refine FP (λh=>?_) (λh=>?_)|refine FH (λh=>?_) (λh=>?_))<;>(try simp only[go_sem,-Nat.reducePow]))|(refine And.intro ω ?_;try simp only[go_sem,-Nat.reducePow]))
 all_goals (congr 2;(try simp only[ZH,EV,Aq,EX,zH,jv,bne_iff_ne,bne_eq_false_iff_eq,XZ,OQ,ne_eq]at *);(try unfold Vq);(repeat' split)<;>omega)
def QrE(a d b):Vq a d b=0\/Vq a d b=1\/Vq a d b=2\/Vq a d b=3\/Vq a d b=4:=by unfold Vq;(repeat' split)<;>simp
def nv{a d b}(h:Vq a d b≠0):a<=4294967295/\b<=4294967295/\d<=1048576:=by unfold Vq at h;split at h<;>omega
def nw(a d b):Q6 prog 158 [nu a d b] (Zm (QT (Vq a d b != 0))):=by
 refine Zs 0 func158 ntmps158 results158 λe w c=>?_;simp only[go_sem,-Nat.reducePow];refine Jk c DP ?_ (Rt a d b) ?_
 .simp only[go_sem,-Nat.reducePow]
 apply Qg c;simp only[go_sem,-Nat.reducePow]
def wK(a d b t:Nat):Nat:=if Vq a d b=0 then 0 else a*min t d+b*(t - min t d)
def QrF(a d b t)(i:t<18446744073709551616):wK a d b t<2 ^ 97:=by
 unfold wK;split
 .decide
 .rename_i h;obtain⟨e,c,j⟩:=nv h;have g:a*min t d<=4294967295*1048576:=vL e ω;have f:b*(t - min t d)<=4294967295*18446744073709551615:=vL c ω;exact OM (Nat.add_le_add g f) π
def Gh(a b:Nat):(min (a:Int) (b:Int))=((min a b:Nat):Int):=ω
def QrG(a d b t)(j:t<18446744073709551616):Q6 prog 214 [nu a d b,u64 t] (Zm (num (wK a d b t))):=by
 refine Zs 0 func214 ntmps214 results214 λi w c=>?_;simp only[go_sem,-Nat.reducePow];refine Jk c MA ?_ (nw a d b) ?_
 .simp only[go_sem,-Nat.reducePow]
 apply Qg c;simp only[go_sem,-Nat.reducePow];by_cases h:Vq a d b=0
 .have g:wK a d b t=0:=Qf h;have f:(Vq a d b != 0)=false:=by simp[h]
  simp only[go_sem,-Nat.reducePow,g,f]
 .have g:wK a d b t=a*min t d+b*(t - min t d):=Qe h;have f:(Vq a d b != 0)=true:=by simp[h]
  obtain⟨l,k,m⟩:=nv h;have e:=bI t (min t d) ω j;have o:a*min t d<=4294967295*1048576:=vL l ω;have n:b*(t - min t d)<=4294967295*18446744073709551615:=vL k ω;simp only[go_sem,-Nat.reducePow,g,f,Gh,e];apply Qw c [0,1,2,4,5,6,7,8,1003,1009,1010,11,12,13,1014,1015,16];simp only[go_sem,-Nat.reducePow,Gh,e];refine KK c AZ ?_ (Bi a (min t d) ω ω) ?_
  .simp only[go_sem,-Nat.reducePow,Gh,e]
  apply Q7 c;simp only[go_sem,-Nat.reducePow,Gh,e];refine KK c AZ ?_ (Bi b (t - min t d) ω ω) ?_
  .simp only[go_sem,-Nat.reducePow,Gh,e]
  apply Q7 c;simp only[go_sem,-Nat.reducePow,Gh,e];refine KK c PO ?_ (Rq (a*min t d) (b*(t - min t d)) ω ω) ?_
  .simp only[go_sem,-Nat.reducePow,Gh,e]
  apply Q7 c;simp only[go_sem,-Nat.reducePow,Gh,e];rw[As ω]
structure Ln where
 x:Nat
 y:Nat
 m:Nat
deriving DecidableEq
instance:Inhabited Ln:=⟨⟨0,0,0⟩⟩
structure Ln.Ok (l:Ln):Prop where
 x:l.x<18446744073709551616
 y:l.y<2 ^ 128
 m:l.m<18446744073709551616
@[go_sem] def Ln.cells(l:Ln):List D:=[u64 l.x,u64 (l.y / 18446744073709551616),u64 (l.y % 18446744073709551616),u64 l.m]
def jU(l:Ln)(x:Nat):Nat:=if x<=l.x then l.y else (l.y+l.m*(x - l.x)) % 2 ^ 128
def Qd4{a b}(d:a<18446744073709551616)(c:b<18446744073709551616):a*b<2 ^ 128:=by
 have:a*b<=18446744073709551615*18446744073709551615:=vL ω ω;exact OM this π
def Qd5{l:Ln}(h:l.Ok)(x):jU l x<2 ^ 128:=by
 unfold jU;split
 .exact h.y
 .exact Yn _ π
def Qd6(l:Ln)(h:l.Ok)(x)(e:x<18446744073709551616):Q6 prog 239 [.agg l.cells,u64 x] (Zm (num (jU l x))):=by
 unfold jU;refine Zs 0 func239 ntmps239 results239 λd w a=>?_;simp only[go_sem];by_cases b:x<=l.x
 .have d1:=Q3 b;simp only[go_sem,d1,Qf b]
 .have d1:=QS b;have c:=bI x l.x ω e;simp only[go_sem,d1,Qe b];apply Qw a o11;simp only[go_sem,c];refine KK a AZ ?_ (Bi l.m (x - l.x) h.m ω) ?_
  .simp only[go_sem,c]
  apply Q7 a;simp only[go_sem,c];apply Vc a PO (Rq l.y (l.m*(x - l.x)) h.y (Qd4 h.m ω));exact MH a
def Bj(l:Ln)(w:Nat):Nat:=
 if w<=l.y then 0
 else if l.m=0\/18446744073709551616<=cdiv (w - l.y) l.m\/never<=l.x\/never - l.x<=cdiv (w - l.y) l.m then never
 else l.x+cdiv (w - l.y) l.m
def Qd7(l)(w):Bj l w<=never:=by
 unfold Bj;split<;>try split
 .exact KF _
 .exact QB _
 .omega
def QrH(n)(c:n<2 ^ 128):Q6 prog 248 [num n,u64 0] (Zm (.tup [u64 0,Qb 1])):=by
 refine Zs 0 func248 ntmps248 results248 λb w a=>?_;simp only[go_sem];refine Jk a QcC ?_ (Qd0 n 0 c π) ?_
 .simp only[go_sem,Va]
 apply Qg a;simp only[go_sem,Va]
def Qd8{a b:Nat}:((if a<b then (-1:Int) else if a=b then 0 else 1)<=0)↔a<=b:=by
 split
 .omega
 .split<;>omega
def QrI{a b:Nat}:((if a<b then (-1:Int) else if a=b then 0 else 1)<0)↔a<b:=by
 split
 .omega
 .split<;>omega
def Qd9{a b}(c:a<2 ^ 128)(h:b<=a):(a+2 ^ 128 - b) % 2 ^ 128=a - b:=by
 rw[show a+2 ^ 128 - b=a - b+2 ^ 128 by omega,Nat.add_mod_right,As ω]
def cw(l:Ln)(h:l.Ok)(v)(g:v<2 ^ 128):Q6 prog 234 [.agg l.cells,num v] (Zm (u64 (Bj l v))):=by
 unfold Bj;refine Zs 0 func234 ntmps234 results234 λn w a=>?_;simp only[go_sem];apply J2 a iX (m7 v l.y g h.y);apply Zd a;by_cases i:v<=l.y
 .have d1:=Q3 (Qd8.2 i);simp only[go_sem,d1,Qf i]
 .have d1:=QS (λc=>i (Qd8.1 c));rw[Qe i];simp only[go_sem,d1];refine Jk a Qpi ?_ (Qrv v l.y g h.y) ?_
  .simp only[go_sem,Qd9 g (show l.y<=v from ω)]
  apply Qg a;simp only[go_sem,Qd9 g (show l.y<=v from ω)];by_cases c:l.m=0
  .rw[Qf (.inl c)];refine Jk a QcA ?_ (QrH (v - l.y) ω) ?_
   .simp only[go_sem,c]
   apply Qg a;simp only[go_sem,c];rfl
  .apply J2 a QcA (QrD (v - l.y) l.m ω h.m ω);apply Zd a;by_cases j:cdiv (v - l.y) l.m<18446744073709551616
   .have f:Ni (cdiv (v - l.y) l.m)=0:=Qf j;have k:Rs (cdiv (v - l.y) l.m)=cdiv (v - l.y) l.m:=Qf j;by_cases e:never<=l.x
    .have d4:decide ((9223372036854775808:Int)<=(l.x:Int))=true:=Q3 (by unfold never at e;omega);rw[Qf (.inr (.inr (.inl e)))];simp only[go_sem,f,k,d4];rfl
    .have d4:decide ((9223372036854775808:Int)<=(l.x:Int))=false:=QS (by unfold never at e;omega);have m:IntKind.u64.wrap ((9223372036854775808:Int) - (l.x:Int))=((never - l.x:Nat):Int):=by
      have:=bI 9223372036854775808 l.x (by unfold never at e;omega) π;exact this
     by_cases d:never - l.x<=cdiv (v - l.y) l.m
     .have d5:=Q3 d;rw[Qf (.inr (.inr (.inr d)))];simp only[go_sem,f,k,d4,m,d5];rfl
     .have d5:=QS d;have o:=Qc9 l.x (cdiv (v - l.y) l.m) (by unfold never at d;omega);rw[Qe (by rintro (b|b|b|b);exact c b;omega;exact e b;exact d b)];simp only[go_sem,f,k,d4,m,d5,o]
   .have f:Ni (cdiv (v - l.y) l.m)=20:=Qe j;rw[Qf (.inr (.inl ω))];simp only[go_sem,f];rfl
def Ep(a b:Ln):Ln:=if jU b (max a.x b.x)<jU a (max a.x b.x) then b else a
def Qea{a b:Ln}(d:a.Ok)(c:b.Ok):(Ep a b).Ok:=by unfold Ep;split<;>assumption
def Gi(a b:Nat):(max (a:Int) (b:Int))=((max a b:Nat):Int):=ω
def Qeb(a b:Ln)(e:a.Ok)(f:b.Ok):Q6 prog 223 [.agg a.cells,.agg b.cells] (Zm (.agg (Ep a b).cells)):=by
 have hx:max a.x b.x<18446744073709551616:=by have:=e.x;have:=f.x;omega
 unfold Ep;obtain⟨k,g⟩:∃k,k=(if jU b (max a.x b.x)<jU a (max a.x b.x) then (-1:Int) else if jU b (max a.x b.x)=jU a (max a.x b.x) then 0 else 1):=⟨_,rfl⟩;have h:k<0↔jU b (max a.x b.x)<jU a (max a.x b.x):=by rw[g];exact QrI
 refine Zs 0 func223 ntmps223 results223 λi w c=>?_;simp only[go_sem];simp only[go_sem,Gi];apply Qw c [0,1,3,4,1002,1005,1006,7];simp only[go_sem,Gi];refine KK c Qcx ?_ (Qd6 b f (max a.x b.x) hx) ?_
 .simp only[go_sem,Gi]
 apply Q7 c;simp only[go_sem,Gi];refine KK c Qcx ?_ (Qd6 a e (max a.x b.x) hx) ?_
 .simp only[go_sem,Gi]
 apply Q7 c;simp only[go_sem,Gi];refine KK c iX ?_ (g▸m7 (jU b (max a.x b.x)) (jU a (max a.x b.x)) (Qd5 f _) (Qd5 e _)) ?_
 .simp only[go_sem,Gi]
 apply Q7 c;simp only[go_sem,Gi];by_cases d:jU b (max a.x b.x)<jU a (max a.x b.x)
 .have d1:=Q3 (h.2 d);simp only[go_sem,d1,Qf d]
 .have d1:=QS (λj=>d (h.1 j));rw[Qe d];simp only[go_sem,d1]
structure Rn where
 f:Ln
 t:Ln
 b:Bool
deriving DecidableEq
instance:Inhabited Rn:=⟨⟨default,default,false⟩⟩
structure Rn.Ok (r:Rn):Prop where
 f:r.f.Ok
 t:r.t.Ok
@[go_sem] def Rn.cells(r:Rn):List D:=[u64 r.f.x,u64 (r.f.y / 18446744073709551616),u64 (r.f.y % 18446744073709551616),u64 r.f.m,u64 r.t.x,u64 (r.t.y / 18446744073709551616),u64 (r.t.y % 18446744073709551616),u64 r.t.m,QT r.b]
def QrJ(n:Nat)(h:n<18446744073709551616):IntKind.u64.wrap (n:Int)=(n:Int):=η
@[go_sem] def cfg(t l:Int):D:=.agg [.raw (.int .i64 t),.raw (.int .i64 l)]
def QrK(n t:Nat)(u:n<2 ^ 128)(s:t<=65536)(r:n*t<2 ^ 128):Q6 prog 211 [num n,Qb t] (Zm (num (n*t))):=by
 obtain⟨b,a,q,rfl⟩:∃b a,a<18446744073709551616/\n=b*18446744073709551616+a:=⟨n / 18446744073709551616,n % 18446744073709551616,Yn _ π,ω⟩;have v:b<18446744073709551616:=ω;have l:(b*18446744073709551616+a) / 18446744073709551616=b:=ω;have k:(b*18446744073709551616+a) % 18446744073709551616=a:=ω;obtain⟨A,i⟩:∃A,A=a*t:=⟨_,rfl⟩;obtain⟨B,f⟩:∃B,B=b*t:=⟨_,rfl⟩;have j:(b*18446744073709551616+a)*t=B*18446744073709551616+A:=by rw[i,f,Vw,ON,Lw 18446744073709551616 t,<- ON]
 rw[j]at r;rw[j];have g:=Bi a t q ω;rw[<- i]at g;have d:=QrJ t ω;have c:=Qqp b t (by rw[<- f];omega);rw[<- f]at c;have e:=Qc9 (A / 18446744073709551616) B ω;have p:(B*18446744073709551616+A) / 18446744073709551616=A / 18446744073709551616+B:=by rw[Nat.add_comm,Nat.add_mul_div_right _ _ π]
 have o:(B*18446744073709551616+A) % 18446744073709551616=A % 18446744073709551616:=by rw[Nat.add_comm,Nat.add_mul_mod_self_right]
 refine Zs 0 func211 ntmps211 results211 λm w h=>?_;simp only[go_sem];simp only[l,k,d,go_sem];refine Jk h AZ ?_ g ?_
 .simp only[go_sem,d,c,e]
 apply Qg h;simp only[go_sem,d,c,e];simp only[l,k,d,c,e,go_sem,p,o]
def Qec(n t k:Nat)(h:n<2 ^ 111)(b:t<=65536)(f:k<18446744073709551616):Q6 prog 162 [num n,Qb t,u64 k] (Zm (QT (decide (65536*k<n*t)))):=by
 have i:n*t<=n*65536:=Nat.mul_le_mul_left n b;have g:=m7 (n*t) (65536*k) ω ω;have e:decide ((if n*t<65536*k then (-1:Int) else if n*t=65536*k then 0 else 1) > 0)=decide (65536*k<n*t):=by
  rw[vE];simp only[XZ];(repeat' split)<;>omega
 have d:=Bi 65536 k π f;refine Zs 0 func162 ntmps162 results162 λc w a=>?_;simp only[go_sem];apply J2 a Qo8 (QrK n t ω b ω);apply Zd a;refine Jk a AZ ?_ d ?_
 .simp only[go_sem,Qd1]
 apply Qg a;simp only[go_sem,Qd1];refine Jk a iX ?_ g ?_
 .simp only[go_sem,e]
 apply Qg a;simp only[go_sem,e]
@[go_sem] def kls(l:List Qt):D:=.imm 14 l.length (Qt.rows l)
def QrL(h:List Ob):QI prog 81 h [] (λd b=>d=.ptr (h.length+1) 0 0 0/\b=h++[QM .i64 0 [],⟨.one,0,1,1,λ_=>[.mref h.length 0]⟩]):=by
 refine QZ func81 ntmps81 results81 λa w c e=>?_;simp only[go_sem,Qa]
structure xL {α:Type} [Inhabited α] (enc:α->List D) (L:List α) (off:Nat) (row:Nat->List D):Prop where
 at_:∀i,i<L.length->row (off+i)=enc (L.getD i default)
 all:∀i,i<off+L.length->∃a,row i=enc a
def QCp{c:Type}[Inhabited c](f:Nat)(e:c->List D)(L:List c)(d:D)(h:List Ob):Prop:=∃g a b,d=.ref 0 g a L.length/\h=[⟨.arr,g,f,a+L.length,b⟩]/\xL e L a b
def xL.nil{c:Type}[Inhabited c]{b:c->List D}{a:Nat->List D}:xL b [] 0 a:=⟨λi hi=>absurd hi (XL i),λi hi=>absurd hi (XL i)⟩
def xL.app{g:Type}[Inhabited g]{a}{L:List g}{c}{b}(h:xL a L c b)(x:g){r2}(j:r2 0=a x):xL a (L++[x]) 0 (J7 L.length c b r2):=by
 have e:∀i,i<L.length+1->J7 L.length c b r2 i=a ((L++[x]).getD i default):=λi d=>by
  by_cases f:i<L.length
  .rw[xn f,h.at_ i f];simp[f,JD f]
  .have:i=L.length:=ω;subst this;rw[zM (QB _),Di,j];simp
 exact⟨λi d=>by simp at d;rw[Jv];exact e i d,λi d=>by simp at d;exact⟨_,e i d⟩⟩
def xL.upto{e:Type}[Inhabited e]{d}{L:List e}{c}{b}(h:xL d L c b){k}(f:∀a,AN k (d a)=true):∀i,i<c+L.length->AN k (b i)=true:=λi g=>by
 obtain⟨a,j⟩:=h.all i g;rw[j];exact f a
end Go.Fg.X
namespace Go.Fg.X
open Go.Proofs Go.Fg
open Go.Proofs.Tryz
structure Nc where
 a:Nat
 d:Nat
 b:Nat
instance:Inhabited Nc:=⟨⟨0,0,0⟩⟩
@[go_sem] def Nc.cells(c:Nc):List D:=[u64 c.a,u64 c.d,u64 c.b]
def Nc.rows(l:List Nc):Nat->List D:=λi=>(l.getD i default).cells
@[go_sem] theorem Nc.wh(l:List Nc)(i):Nc.rows l i=(l.getD i default).cells:=rfl
@[go_sem] def XD(l:List Nc):D:=.imm 3 l.length (Nc.rows l)
@[go_sem] def Cn(c:Nc):D:=.agg c.cells
def Nc.of(c:Nc):Int:=Vq c.a c.d c.b
def Nc.Lt(c:Nc):Prop:=c.a<18446744073709551616/\c.d<18446744073709551616/\c.b<18446744073709551616
def Qed(F:List Ob)(f a:Nat)(b:List D)(g:Nc->Nat):Prop:=∀(h:List Ob) (c:Nc),c.Lt->KN F h->QR prog f h (ZS a b [Cn c]) (λd=>d=num (g c))
def xM(g:Nc->Nat)(s:Nat)(c:Nc):Nat:=if c.of=0 then s else s+g c
def Co(g:Nc->Nat)(l:List Nc):Nat:=l.foldl (xM g) 0
def cz{g}{M}(a:∀c:Nc,c.Lt->g c<=M):∀{l:List Nc} {s:Nat},(∀c∈l,c.Lt)->l.foldl (xM g) s<=s+l.length*M
 | [],s,_=>σ
 | c::l,s,h=>by
  have e:=a c (h c σ);have d:=cz a (l:=l) (s:=xM g s c) λx hx=>h x (by simp[hx]);have b:xM g s c<=s+M:=by unfold xM;split<;>omega
  simp only[yg,VK,Vw,Nat.one_mul];omega
def Is(n:Nat):Ob:=⟨.one,0,2,1,λ_=>[u64 (n / 18446744073709551616),u64 (n % 18446744073709551616)]⟩
structure OvI (l:List Nc) (so:D) (g:Nc->Nat) (F:List Ob) (i:Nat) (s:St):Prop where
 ex:∃G:List Ob,s=⟨[(1,so),(4,.ptr F.length 0 0 0),(5,.ptr (F.length+1) 0 0 0),(8,XD l),(9,Qb l.length),(10,Qb i)],F++(Is 0::Is ((l.take i).foldl (xM g) 0)::G)⟩
def Qee(h:List Ob)(l:List Nc)(Q:l.length<1048576)(v:∀c∈l,c.Lt)(j:D)(f t:Nat)(B:List D)(I:Qk prog f)(M:Jo j=some (f,t,B))(g:Nc->Nat)(m:∀c:Nc,c.Lt->g c<=2 ^ 97)
  (H:Qed (h.map Ob.ro) f t B g):QR prog 212 h [XD l,j] (λd=>d=num (Co g l)):=by
 refine Zk func212 ntmps212 results212 λE w O F K U b=>?_;simp only[go_sem,Qa];refine Z4 (OvI l j g F) l.length (s0:=⟨[(1,j),(4,.ptr F.length 0 0 0),(5,.ptr (F.length+1) 0 0 0),(8,XD l),(9,Qb l.length),(10,Qb 0)],F++[Is 0,Is 0]⟩) QN ⟨[],rfl⟩ ?_;rintro i s u ⟨G,rfl⟩;have y:=KJ (show i<4611686018427387904 from ω);obtain⟨S,k⟩:∃S,S=(l.take i).foldl (xM g) 0:=⟨_,rfl⟩;have P:S<=2 ^ 117:=by
  have T:=cz m (l:=l.take i) (s:=0) λx hx=>v x (List.mem_of_mem_take hx);have L:(l.take i).length<=1048576:=ξ;have R:=YV (2 ^ 97) L;rw[k];omega
 rw[<- k];apply QC b;first|refine jL u (λa=>?_) (λa=>?_)|refine jM u (λa=>?_) (λa=>?_)
 .obtain⟨c,p⟩:∃c,c=l.getD i default:=⟨_,rfl⟩;have z:c.Lt:=v c (by rw[p,Q5,QP a];exact XK a);have C:(l.take (i+1)).foldl (xM g) 0=xM g S c:=by
   rw[E9,QP a,Option.toList_some,GY,k,p,Q5,QP a];rfl
  simp only[go_sem,Qa,a,<- p];apply YC b MA (nw c.a c.d c.b);apply QC b;by_cases o:c.of=0
  .have q:Vq c.a c.d c.b=0:=o;have r:xM g S c=S:=by rw[xM,Qf o]
   simp only[go_sem,Qa,qa q,bne];refine⟨a,_,QF.frame (fr':=[(1,j),(4,.ptr F.length 0 0 0),(5,.ptr (F.length+1) 0 0 0),(8,XD l),(9,Qb l.length),(10,Qb (i+1:Nat))]) (by simp only[go_sem,y]),⟨_,by rw[C,r]⟩⟩
  .have q:Vq c.a c.d c.b≠0:=o;have r:xM g S c=S+g c:=by rw[xM,Qe o]
   have N:=m c z;simp only[go_sem,Qa,Xx q,bne];have n:=Rq S (g c) ω ω;rw[As (by omega:S+g c<2 ^ 128)]at n;apply Qw b [0,1,2,1003,1004,5,6,7,1008];simp only[go_sem,Qa,Is];refine Mu b I M ?_ (H _ c z (by rw[<- K];exact⟨_,rfl⟩)) rfl λd2 J=>?_
   .simp only[go_sem];exact Cd _
   subst J;apply Xy b;apply MI b PO n;apply Xy b;refine⟨a,_,QF.frame (fr':=[(1,j),(4,.ptr F.length 0 0 0),(5,.ptr (F.length+1) 0 0 0),(8,XD l),(9,Qb l.length),(10,Qb (i+1:Nat))]) (by simp only[go_sem,y]),⟨G++[⟨.one,0,3,1,λ_=>c.cells⟩],?_⟩⟩;rw[C,r];rfl
 .subst a;rw[zG]at k;have e:Co g l=S:=k.symm;rw[e];apply Qg b;simp only[go_sem,Qa,Is];exact⟨_,rfl⟩
def QrN(h)(c:Nc)(e:c.Lt):QR prog 215 h [Cn c] (λd=>d=num c.b):=by
 refine Zk func215 ntmps215 results215 λb w f F g i a=>?_;simp only[go_sem,Qa];apply YC a Qcr (QdY c.b e.2.2);apply QC a;exact⟨_,rfl⟩
def QrO(l:List Nc)(e:l.length<1048576)(a:∀c∈l,c.Lt):Q6 prog 164 [XD l] (Zm (num (Co (λc=>c.b) l))):=by
 refine Zs 0 func164 ntmps164 results164 λd w b=>?_;simp only[go_sem];refine Xj b Qcq rfl ?_ (Qee _ l e a (.raw (.func (.func 215) ⟨[]⟩ ⟨[]⟩)) 215 0 [] Qpb rfl (λc=>c.b) (λc h=>by have:=h.2.2;omega) (λg c a _=>QrN g c a)) rfl λd2 f=>?_
 .simp only[go_sem]
 subst f;exact ze b
def QrP(h:List Ob)(f t)(i:t<18446744073709551616)(c:Nc)(a:(h.map Ob.ro)[f]? = some ⟨.Wy,0,1,1,λ_=>[u64 t]⟩):QR prog 213 h [Cn c,.ptr f 0 0 0] (λd=>d=num (wK c.a c.d c.b t)):=by
 refine Zk func213 ntmps213 results213 λg w k F j l e=>?_;rw[<- j]at a;have b:=Qc a;simp only[go_sem,Qa,a,b];refine Jk e Qpa ?_ (QrG c.a c.d c.b t i) ?_
 .simp only[go_sem,Qa,a,b]
 apply Qg e;simp only[go_sem,Qa,a,b];exact⟨_,rfl⟩
def QrQ(l:List Nc)(t)(a:t<18446744073709551616)(f:l.length<1048576)(b:∀c∈l,c.Lt):Q6 prog 163 [XD l,u64 t] (Zm (num (Co (λc=>wK c.a c.d c.b t) l))):=by
 have j:∀c:Nc,c.Lt->wK c.a c.d c.b t<=2 ^ 97:=λc _=>by have:=QrF c.a c.d c.b t a;omega
 refine Zs 0 func163 ntmps163 results163 λe w d=>?_;simp only[go_sem];have h:Qed (([⟨.one,0,1,1,λ_=>[u64 t]⟩,Is 0]:List Ob).map Ob.ro) 213 0 [.ptr 0 0 0 0] (λc=>wK c.a c.d c.b t):=λk c b hx=>by
  obtain⟨g,rfl⟩:=hx;exact QrP _ 0 t a c rfl
 refine Xj d Qcq rfl ?_ (Qee _ l f b (.clo 213 0 [.ptr 0 0 0 0]) 213 0 [.ptr 0 0 0 0] Qo9 rfl (λc=>wK c.a c.d c.b t) j h) rfl λd2 i=>?_
 .simp only[go_sem]
 subst i;exact ze d
@[go_sem] theorem Ln.QCr(l:Ln):l.cells=[u64 l.x,u64 (l.y / 18446744073709551616),u64 (l.y % 18446744073709551616),u64 l.m]:=rfl
def wL(c:Nc)(x y:Nat):Rn:=
 if c.of=2\/c.of=4 then ⟨⟨0,0,0⟩,⟨x,y,c.b⟩,false⟩
 else if c.of=3 then ⟨⟨x,y,c.a⟩,⟨x,(y+(c.a - c.b)*c.d) % 2 ^ 128,c.b⟩,true⟩
 else ⟨⟨0,0,0⟩,⟨x,y,0⟩,false⟩
def VS(c:Nc)(x y:Nat):Rn:=
 if c.of=4 then ⟨⟨0,0,0⟩,⟨(x+c.d) % 18446744073709551616,y,c.b⟩,false⟩ else wL c x y
def Ln.jV:(⟨0,0,0⟩:Ln).Ok:=⟨π,π,π⟩
def cA{c:Nc}(d:c.Lt){x y:Nat}(a:x<18446744073709551616)(b:y<2 ^ 128):(wL c x y).Ok:=by
 unfold wL;split
 .exact⟨Ln.jV,a,b,d.2.2⟩
 .split
  .exact⟨⟨a,b,d.1⟩,a,Yn _ π,d.2.2⟩
  .exact⟨Ln.jV,a,b,(by decide:(0:Nat)<18446744073709551616)⟩
def Iu{c:Nc}(b:c.Lt){x y:Nat}(d:x<18446744073709551616)(a:y<2 ^ 128):(VS c x y).Ok:=by
 unfold VS;split
 .exact⟨Ln.jV,Yn _ π,a,b.2.2⟩
 .exact cA b d a
def ny{c:Nc}(e:c.of=2\/c.of=4)(x y):wL c x y=⟨⟨0,0,0⟩,⟨x,y,c.b⟩,false⟩:=Qf e
def QrR{c:Nc}(e:c.of=3)(x y):wL c x y=⟨⟨x,y,c.a⟩,⟨x,(y+(c.a - c.b)*c.d) % 2 ^ 128,c.b⟩,true⟩:=by unfold wL;rw[Qe ω,Qf e]
def Qeh{c:Nc}(e:c.of=0\/c.of=1)(x y):wL c x y=⟨⟨0,0,0⟩,⟨x,y,0⟩,false⟩:=by unfold wL;rw[Qe ω,Qe ω]
def Qei(c:Nc)(d:c.Lt)(x y:Nat)(h:x<18446744073709551616)(g:y<2 ^ 128):Q6 prog 182 [Cn c,u64 x,num y] (Zm (.agg (wL c x y).cells)):=by
 refine Zs 0 func182 ntmps182 results182 λf w a=>?_;simp only[go_sem];apply J2 a DP (Rt c.a c.d c.b);apply Zd a;rcases QrE c.a c.d c.b with e|e|e|e|e
 .rw[Qeh (.inl e)];simp only[go_sem,e]
 .rw[Qeh (.inr e)];simp only[go_sem,e]
 .rw[ny (.inl e)];simp only[go_sem,e]
 .have i:c.b<c.a/\c.a<=4294967295:=by
   unfold Vq at e
   repeat' (split at e)
   all_goals first|omega|contradiction
  have b:=bI c.a c.b ω ω;rw[QrR e];simp only[go_sem,e,b];apply Qw a o11;simp only[go_sem,b];refine KK a AZ ?_ (Bi (c.a - c.b) c.d ω d.2.1) ?_
  .simp only[go_sem,b]
  apply Q7 a;simp only[go_sem,b];refine KK a PO ?_ (Rq y ((c.a - c.b)*c.d) g (Qd4 ω d.2.1)) ?_
  .simp only[go_sem,b]
  apply Q7 a;simp only[go_sem,b]
 .rw[ny (.inr e)];simp only[go_sem,e]
def nz(c:Nc)(h:c.Lt)(x y:Nat)(g:x<18446744073709551616)(f:y<2 ^ 128):Q6 prog 181 [Cn c,u64 x,num y] (Zm (.agg (VS c x y).cells)):=by
 refine Zs 0 func181 ntmps181 results181 λd w a=>?_;simp only[go_sem];apply J2 a Qci (Qei c h x y g f);apply Zd a;apply J2 a DP (Rt c.a c.d c.b);apply Zd a;by_cases e:c.of=4
 .have b:Vq c.a c.d c.b=4:=e;rw[ny (.inr e),show VS c x y=⟨⟨0,0,0⟩,⟨(x+c.d) % 18446744073709551616,y,c.b⟩,false⟩ from Qf e];simp only[go_sem,b,H9]
 .have b:(Vq c.a c.d c.b==4)=false:=by simpa[Nc.of] using e
  rw[show VS c x y=wL c x y from Qe e];simp only[go_sem,b]
def qO(a b:Rn):Rn:=⟨if a.b then Ep a.f b.f else ⟨0,0,0⟩,Ep a.t b.t,a.b⟩
def nA{a b:Rn}(d:a.Ok)(c:b.Ok):(qO a b).Ok:=by
 refine⟨?_,Qea d.t c.t⟩;unfold qO;dsimp only;split
 .exact Qea d.f c.f
 .exact Ln.jV
def cB(a b:Rn)(d:a.Ok)(e:b.Ok):Q6 prog 180 [.agg a.cells,.agg b.cells] (Zm (.agg (qO a b).cells)):=by
 refine Zs 0 func180 ntmps180 results180 λf w c=>?_;simp only[go_sem];apply Qw c [0,1,2,3,5,6,1004,7,1008,1009];simp only[go_sem];apply Vc c Qcs (Qeb a.t b.t d.t e.t);apply VG c;cases h:a.b with
 | true=>
  rw[show qO a b=⟨Ep a.f b.f,Ep a.t b.t,true⟩ from by unfold qO;rw[h];rfl];simp only[go_sem,h];apply J2 c Qcs (Qeb a.f b.f d.f e.f);exact ze c
 | false=>
  rw[show qO a b=⟨⟨0,0,0⟩,Ep a.t b.t,false⟩ from by unfold qO;rw[h];rfl];simp only[go_sem,h]
def zo(r:Rn)(w:Nat):Nat:=if r.b then max (Bj r.f w) (Bj r.t w) else Bj r.t w
def Ru(r)(w):zo r w<=never:=by
 have:=Qd7 r.f w;have:=Qd7 r.t w;unfold zo;split<;>omega
def QrS(r:Rn):Q6 prog 233 [.agg r.cells] (Zm (.agg ((if r.b then r.f else r.t).cells++r.t.cells))):=by
 refine Zs 0 func233 ntmps233 results233 λa w b=>?_;simp only[go_sem];cases h:r.b with
 | true=>
  simp only[go_sem,h]
 | false=>
  simp only[go_sem,h]
def yV(a:Nat):max (0:Int) (a:Int)=(a:Int):=ω
def cC(r:Rn)(f:r.Ok)(v)(e:v<2 ^ 128):Q6 prog 193 [.agg r.cells,num v] (Zm (u64 (zo r v))):=by
 have d:∀a b:Nat,max (a:Int) (b:Int)=((max a b:Nat):Int):=λa b=>ω;refine Zs 0 func193 ntmps193 results193 λg w c=>?_;simp only[go_sem];apply J2 c Qpg (QrS r);apply Zd c;cases h:r.b with
 | true=>
  rw[show zo r v=max (Bj r.f v) (Bj r.t v) from by unfold zo;rw[h];rfl];simp only[go_sem,h];refine kV 2 ?_;apply Zd c;refine Jk c be ?_ (cw r.f f.f v e) ?_
  .simp only[go_sem,yV]
  apply Qg c;simp only[go_sem,yV];apply Qg c;simp only[go_sem,yV];apply Qg c;simp only[go_sem,yV];refine Jk c be ?_ (cw r.t f.t v e) ?_
  .simp only[go_sem,yV,d]
  apply Qg c;simp only[go_sem,yV,d];apply Qg c;simp only[go_sem,d];apply Qg c;simp only[go_sem,d]
 | false=>
  rw[show zo r v=max (Bj r.t v) (Bj r.t v) from by unfold zo;rw[h];simp];simp only[go_sem,h];refine kV 2 ?_;apply Zd c;refine Jk c be ?_ (cw r.t f.t v e) ?_
  .simp only[go_sem,yV]
  apply Qg c;simp only[go_sem,yV];apply Qg c;simp only[go_sem,yV];apply Qg c;simp only[go_sem,yV];refine Jk c be ?_ (cw r.t f.t v e) ?_
  .simp only[go_sem,yV,d]
  apply Qg c;simp only[go_sem,yV,d];apply Qg c;simp only[go_sem,d];apply Qg c;simp only[go_sem,d]
def WU(n:Nat):Nat:=n % 18446744073709551616
def Iv(n):WU n<18446744073709551616:=Yn _ π
def Qej(a b:Nat):IntKind.u64.wrap ((a:Int)+(b:Int))=((WU (a+b):Nat):Int):=H9 a b
structure Du where
 has:Bool
 dl:Rn
 rd:Rn
 JB:Nat
 XV:Nat
 dead:Nat
deriving DecidableEq
instance:Inhabited Du:=⟨⟨false,default,default,0,0,0⟩⟩
structure Du.Ok (d:Du):Prop where
 dl:d.dl.Ok
 rd:d.rd.Ok
 JB:d.JB<18446744073709551616
 XV:d.XV<=never
 dead:d.dead<=never
@[go_sem] def Du.cells(d:Du):List D:=[QT d.has,u64 d.dl.f.x,u64 (d.dl.f.y / 18446744073709551616),u64 (d.dl.f.y % 18446744073709551616),u64 d.dl.f.m,u64 d.dl.t.x,u64 (d.dl.t.y / 18446744073709551616),u64 (d.dl.t.y % 18446744073709551616),u64 d.dl.t.m,QT d.dl.b,
 u64 d.rd.f.x,u64 (d.rd.f.y / 18446744073709551616),u64 (d.rd.f.y % 18446744073709551616),u64 d.rd.f.m,u64 d.rd.t.x,u64 (d.rd.t.y / 18446744073709551616),u64 (d.rd.t.y % 18446744073709551616),u64 d.rd.t.m,QT d.rd.b,u64 d.JB,u64 d.XV,u64 d.dead]
def Bk(l:Du)(a:Int):Du:=
 if 0<a then ⟨l.has,l.dl,l.rd,l.JB,zo l.rd (l.JB*65536),zo l.dl (WU (l.JB+a.toNat)*65536)⟩ else ⟨l.has,l.dl,l.rd,l.JB,never,never⟩
def nB{l:Du}(d:l.dl.Ok)(c:l.rd.Ok)(b:l.JB<18446744073709551616)(a:Int):(Bk l a).Ok:=by
 unfold Bk;split
 .exact⟨d,c,b,Ru _ _,Ru _ _⟩
 .exact⟨d,c,b,QB _,QB _⟩
def cD(n)(c:n<18446744073709551616):Q6 prog 179 [u64 n] (Zm (num (n*65536))):=by
 refine Zs 0 func179 ntmps179 results179 λb w a=>?_;simp only[go_sem];apply J2 a AZ (Bi n 65536 c π);exact ze a
def Iw{n:Int}(b:0<=n)(a:n<18446744073709551616):IntKind.u64.wrap n=((n.toNat:Nat):Int):=η
def nC(l:Du)(g:l.dl.Ok)(f:l.rd.Ok)(d:l.JB<18446744073709551616)(a:Int)(k:a<9223372036854775808):Q6 prog 183 [.agg l.cells,Qb a] (Zm (.agg (Bk l a).cells)):=by
 have e:∀n:Nat,n<18446744073709551616->n*65536<2 ^ 128:=λn j=>ω;by_cases h:0<a
 .have d1:=Q3 h;have i:=Iw (n:=a) ω ω;rw[show Bk l a=⟨l.has,l.dl,l.rd,l.JB,zo l.rd (l.JB*65536),zo l.dl (WU (l.JB+a.toNat)*65536)⟩ from Qf h];refine Zs 0 func183 ntmps183 results183 λc w b=>?_;simp only[go_sem];simp only[go_sem,d1];apply Qw b [0,1,2,3,1004,1005,6,1007];simp only[go_sem];apply Vc b aX (cD l.JB d);apply VG b;apply Vc b aZ (cC l.rd f (l.JB*65536) (e _ d));apply VG b;apply Qw b [0,1,2,3,4,5,6,1007,1008,9,1010];simp only[go_sem,i,Qej];apply Vc b aX (cD (WU (l.JB+a.toNat)) (Iv _));apply VG b;apply Vc b aZ (cC l.dl g (WU (l.JB+a.toNat)*65536) (e _ (Iv _)));exact MH b
 .have d1:=QS h;rw[show Bk l a=⟨l.has,l.dl,l.rd,l.JB,never,never⟩ from Qe h];refine Zs 0 func183 ntmps183 results183 λc w b=>?_;simp only[go_sem];simp only[go_sem,d1];rfl
def cE(l:Du)(b a:Int):Du:=Bk { l with JB:=WU (l.JB+b.toNat) } a
def QrT(l:Du)(g:l.dl.Ok)(f:l.rd.Ok)(m:l.JB<18446744073709551616)(b a:Int)(j:0<=b)(k:b<9223372036854775808)(e:a<9223372036854775808):Q6 prog 194 [.agg l.cells,Qb b,Qb a] (Zm (.agg (cE l b a).cells)):=by
 have i:max b 0=b:=ω;have h:=Iw (n:=b) j ω;refine Zs 0 func194 ntmps194 results194 λd w c=>?_;simp only[go_sem];simp only[go_sem,i,h,Qej];apply J2 c iU (nC { l with JB:=WU (l.JB+b.toNat) } g f (Iv _) a e);apply Zd c;rfl
def QrU(l:Du)(g:l.dl.Ok)(f:l.rd.Ok)(e:l.JB<18446744073709551616)(a:Int)(d:a<9223372036854775808):Q6 prog 196 [.agg l.cells,Qb a] (Zm (.agg (Bk l a).cells)):=by
 refine Zs 0 func196 ntmps196 results196 λc w b=>?_;simp only[go_sem];apply J2 b iU (nC l g f e a d);exact ze b
structure Qu where
 l:List Pk
 ci:Nat
 co:Nat
 cd:Nat
 bi:Nat
 bo:Nat
 bd:Nat
instance:Inhabited Qu:=⟨⟨[],0,0,0,0,0,0⟩⟩
def XE:List Pk->Nat
 | []=>0
 | p::l=>p.len.toNat+XE l
def QrV(l m):XE (l++m)=XE l+XE m:=by
 induction l with
 | nil=>simp[XE]
 | cons p l a=>simp only[YT,XE,a];omega
def Nj(p:Pk):Prop:=1<=p.len/\p.len<=16384
def Qek{l:List Pk}(h:∀p∈l,Nj p):XE l<=16384*l.length:=by
 induction l with
 | nil=>simp[XE]
 | cons p l a=>
  have c:=h p σ;have d:=a λq b=>h q (by simp[b]);unfold Nj at c;simp only[XE,VK];omega
@[go_sem] def Qu.Nk(q:Qu):List D:=[u64 q.ci,u64 q.co,u64 q.cd,u64 q.bi,u64 q.bo,u64 q.bd]
def jW(b a:Int)(q:Qu)(p:Pk):Bool:=decide (a<XE q.l+p.len) || decide ((q.l.length:Int)=b)
def Xm(b a:Int)(q:Qu)(p:Pk):Qu:=
 if jW b a q p then { q with cd:=WU (q.cd+1),bd:=WU (q.bd+p.len.toNat) }
 else { q with l:=q.l++[p],ci:=WU (q.ci+1),bi:=WU (q.bi+p.len.toNat) }
def WV(q:Qu):Qu:={ q with l:=q.l.tail,co:=WU (q.co+1),bo:=WU (q.bo+(q.l.headD default).len.toNat) }
def yW(q:Qu):Int:=match q.l with|[]=>0|p::_=>p.len
@[go_sem] def No(r:Nat)(a:Int)(q:Qu):Ob:=⟨.one,0,9,1,λ_=>[.ptr r 0 0 0,Qb a,Qb (XE q.l:Nat),u64 q.ci,u64 q.co,u64 q.cd,u64 q.bi,u64 q.bo,u64 q.bd]⟩
structure nD (S:Nat->Prop) (h:List Ob) (p r Zz:Nat) (room:Int) (q:Qu):Prop where
 o:h[p]? = some (No r room q)
 ring:jT (λl=>S l/\l≠p) h r Zz q.l
 rp:r≠p
 sp:S p
 lens:∀x∈q.l,Nj x
 r0:0<=room
 r1:room<=1048576
def vh(S:Nat->Prop)(h:List Ob)(p b:Nat)(a:Int)(q:Qu):Prop:=∃r,nD S h p r b a q
def jT.step{S S'}{h h':List Ob}{r b}{L}(e:∀l,l<h.length->S l->S' l/\h'[l]? = h[l]?):jT S h r b L->jT S' h' r b L:=λ⟨a,f,c,T⟩=>
 ⟨a,f,c,((e _ (Qc T.o) T.sr).2).trans T.o,((e _ (Qc T.ao) T.sa).2).trans T.ao,T.ra,T.fl,T.len,T.wJ,T.rows,T.lens,(e _ (Qc T.o) T.sr).1,(e _ (Qc T.ao) T.sa).1⟩
def jT.nE{S}{h}{r b}{L:List Pk}:jT S h r b L->L.length<=b/\b<=64:=λ⟨a,f,c,T⟩=>⟨T.len,T.wJ⟩
def vh.step{S S'}{h h':List Ob}{p d}{a}{q}(e:∀l,l<h.length->S l->S' l/\h'[l]? = h[l]?):vh S h p d a q->vh S' h' p d a q:=λ⟨r,Q⟩=>
 ⟨r,((e _ (Qc Q.o) Q.sp).2).trans Q.o,Q.ring.step λl b ⟨c,f⟩=>⟨⟨(e l b c).1,f⟩,(e l b c).2⟩,Q.rp,(e _ (Qc Q.o) Q.sp).1,Q.lens,Q.r0,Q.r1⟩
structure QrW (h:List Ob) (p r Zz:Nat) (room:Int) (q:Qu):Prop where
 o:(h.map Ob.ro)[p]? = some (No r room q).ro
 ring:Ng h r Zz q.l
def Gj(h:List Ob)(p b:Nat)(a:Int)(q:Qu):Prop:=∃r,QrW h p r b a q
def vh.toR{S}{h}{p b}{a}{q}:vh S h p b a q->Gj h p b a q:=λ⟨r,Q⟩=>⟨r,ZG Q.o,Q.ring.toR⟩
def Gj.more{h h':List Ob}{p b}{a}{q}(e:∀(l:Nat) (o:Ob),(h.map Ob.ro)[l]? = some o->(h'.map Ob.ro)[l]? = some o):Gj h p b a q->Gj h' p b a q:=λ⟨r,Q⟩=>⟨r,e _ _ Q.o,Q.ring.more e⟩
section
variable {h:List Ob}{p Zz:Nat}{room:Int}{q:Qu}(Q:Gj h p Zz room q)
include Q
theorem Ix:QR prog 79 h [.ptr p 0 0 0] (λd=>d=Qb q.l.length):=by
 obtain⟨r,b,j⟩:=Q;refine Zk func79 ntmps79 results79 λi w l F e m c=>?_;rw[<- e]at b;have g:=Qc b;simp only[go_sem,Qa,b,g];obtain⟨a,f,k,T⟩:=j;apply ZA c Qoq (Qrm (T.more (Js e)));apply Qg c;simp only[go_sem,Qa,b,g];all_goals exact KY
theorem QrX:QR prog 77 h [.ptr p 0 0 0] (λd=>d=.agg q.Nk):=by
 obtain⟨r,a,g⟩:=Q;refine Zk func77 ntmps77 results77 λb w f F c j i=>?_;rw[<- c]at a;have e:=Qc a;simp only[go_sem,Qa,a,e];all_goals exact KY
theorem Qel:QR prog 195 h [.ptr p 0 0 0] (λd=>d=Qb (yW q)):=by
 have k:=Q;obtain⟨r,b,n⟩:=Q;obtain⟨a,f,s,T⟩:=n;unfold yW;cases e:q.l with
 | nil=>
  refine Zk func195 ntmps195 results195 λj w m F i o g=>?_;rw[<- i]at b;have c:=Qc b;simp only[go_sem,Qa,b,c];refine VP g FV ?_ (Ix (k.more (Js i))) ?_
  .simp only[go_sem,Qa,b,c,e]
  apply Qg g;simp only[go_sem,Qa,b,c,e];all_goals exact KY
 | cons x l=>
  have d0:(((l.length+1:Nat):Int)==0)=false:=ξ;refine Zk func195 ntmps195 results195 λj w m F i o g=>?_;rw[<- i]at b;have c:=Qc b;simp only[go_sem,Qa,b,c];refine VP g FV ?_ (Ix (k.more (Js i))) ?_
  .simp only[go_sem,Qa,b,c,e,d0]
  apply Qg g;simp only[go_sem,Qa,b,c,e,d0];refine VP g iN ?_ (mZ (T.more (Js i)) 0 (by rw[e];simp)) ?_
  .simp only[go_sem,Qa,b,c,e]
  apply Qg g;simp only[go_sem,Qa,b,c,e];all_goals exact KY
end
def QrY(h:List Ob)(n:Nat)(a:Int)(k:1<=n)(j:n<=64)(s:1<=a)(r:a<=1048576):QI prog 98 h [Qb n,Qb a] (λd e=>d=.tup [.ptr (h.length+2) 0 0 0,Qb 0]/\vh (λl=>h.length<=l) e (h.length+2) n a ⟨[],0,0,0,0,0,0⟩/\∃g,e=h++g/\g.length=3):=by
 have d1:decide (a<1)=false:=QS ω;have d2:decide (1048576<a)=false:=QS ω;refine QZ func98 ntmps98 results98 λf w p c=>?_;simp only[go_sem,Qa];refine Vo c Qox rfl ?_ (Qrq h n k j) rfl λd h i=>?_
 .simp only[go_sem,Qa,d1,d2]
 obtain⟨rfl,R,g,rfl,b⟩:=i;apply Qg c;simp only[go_sem,Qa,d1,d2];have q:(h++g).length=h.length+2:=by rw[JJ,b]
 refine⟨by rw[b],⟨h.length+1,?_,?_,ω,by show h.length<=_;omega,σ,ω,ω⟩,g++[No (h.length+1) a ⟨[],0,0,0,0,0,0⟩],by rfl,by simp[b]⟩
 .rw[show h.length+2=(h++g).length by omega];rw[<- Wx,JE (QB _),Di];rfl
 .rw[<- Wx];refine R.step λl m o=>⟨⟨o,ω⟩,JD m⟩
def Iy(a b:Nat):IntKind.u64.wrap ((a:Int)+(b:Int))=((WU (a+b):Nat):Int):=H9 a b
def Iz(a:Nat):IntKind.u64.wrap ((a:Int)+1)=((WU (a+1):Nat):Int):=H9 a 1
def nD.fin{S}{h H:List Ob}{p r f}{a}{q q':Qu}(Q:nD S h p r f a q)(g:H[p]? = some (No r a q'))(d:∀l,l<h.length->l≠p->H[l]? = h[l]?)(i:h.length<=H.length)(e:q'.l=q.l):vh S H p f a q'/\Step S h H:=
 ⟨⟨r,g,by rw[e];exact Q.ring.step λl c b=>⟨b,d l c b.2⟩,Q.rp,Q.sp,by rw[e];exact Q.lens,Q.r0,Q.r1⟩,⟨λl c b=>d l c λj=>b (j▸Q.sp),i⟩⟩
def QrZ{S}{h}{p i}{a}{q}(Q:vh S h p i a q)(x)(C:Nj x):
  QI prog 103 h [.ptr p 0 0 0,.agg x.cells] (λd J=>d=Qb (if jW i a q x then 30 else 0)/\vh S J p i a (Xm i a q x)/\Step S h J):=by
 obtain⟨r,Q⟩:=Q;have m:=Q.o;have I:=Q.ring;have U:=C.1;have W:=C.2;have R:=I.nE;have T:=Qek Q.lens;have Y:=Q.r0;have V:=Q.r1;have d1:decide (x.len<1)=false:=QS ω;have d2:decide (16384<x.len)=false:=QS ω;have L:IntKind.i64.wrap (a - (XE q.l:Nat))=a - (XE q.l:Nat):=wrap64 ω ω;have z:IntKind.u64.wrap x.len=((x.len.toNat:Nat):Int):=Iw ω ω;by_cases M:a<XE q.l+x.len
 .have d3:decide (a - (XE q.l:Nat)<x.len)=true:=Q3 ω;have t:jW i a q x=true:=by unfold jW;rw[Q3 M];rfl
  unfold Xm;rw[t];refine QZ func103 ntmps103 results103 λu w N k=>?_;have j:=Qc m;simp only[go_sem,Qa,m,j,d1,d2];apply Qw k [0,1,2,3,4,5,6,7,8,9,10,11,12,13,14,15,16,17,1018,19,20,21];simp only[go_sem,Qa,m,j,L,d3,Iz];apply Qw k i4;simp only[go_sem,Qa,m,j,z,Qv j,Iy];refine Q.fin (q':={ q with cd:=WU (q.cd+1),bd:=WU (q.bd+x.len.toNat) }) ?_ ?_ ?_ rfl
  .rw[QG (by simpa using j),Qv j];rfl
  .intro l f b;rw[QG (by simpa using f),Qm (Q1 b)]
  .simp
 .have d3:decide (a - (XE q.l:Nat)<x.len)=false:=QS ω;refine QZ func103 ntmps103 results103 λu w N k=>?_;have j:=Qc m;simp only[go_sem,Qa,m,j,d1,d2];apply KX [18] k [0,1,2,3,4,5,6,7,8,9,10,11,12,13,14,15,16,17,1018,19,20,21] [];simp only[go_sem,Qa,m,j,L,d3];have P:=I.step (S':=λl=>S l/\l≠p/\l<h.length) (h':=h++[⟨.one,0,6,1,λ_=>x.cells⟩]) λl f b=>⟨⟨b.1,b.2,f⟩,QG f⟩;refine xH1 k Qoy (Qrn P x) λd E O=>?_;obtain⟨rfl,B,v⟩:=O;have H:h.length<E.length:=by have:=v.len;simp only[JJ,jt]at this;omega
  have n:E[p]? = some (No r a q):=(v.keep p ξ (λh=>h.2.1 rfl)).trans ((QG j).trans m);have g:=Qc n;have o:=(v.keep h.length σ (λh=>by have:=h.2.2;omega)).trans (JZ rfl);have keep:∀l,l<h.length->¬ S l->E[l]? = h[l]? := λl f b=>(v.keep l ξ (λh=>b h.1)).trans (QG f);have F:p≠h.length:=ω;apply Q7 k;by_cases c:q.l.length=i
  .have t:jW i a q x=true:=by unfold jW;rw[Q3 (show (q.l.length:Int)=(i:Int) from ω)];simp
   rw[Qf c]at B;simp only[go_sem,Qa,Qf c,n,g,o,Iz];apply Qw k i4;simp only[go_sem,Qa,n,g,z,Qv g,Iy,o,H,Qm F];unfold Xm;rw[t];refine⟨by rfl,⟨r,?_,B.step λl f b=>⟨⟨b.1,b.2.1⟩,?_⟩,Q.rp,Q.sp,Q.lens,Q.r0,Q.r1⟩,⟨λl f b=>?_,?_⟩⟩
   .rw[Qv g];rfl
   .rw[Qm (Q1 b.2.1)]
   .rw[Qm (λ(e:p=l)=>b (e▸Q.sp))];exact keep l f b
   .simp;omega
  .have t:jW i a q x=false:=by unfold jW;rw[QS M,QS (show ¬ (q.l.length:Int)=(i:Int) from ω)];rfl
   have K:IntKind.i64.wrap (((XE q.l:Nat):Int)+x.len)=((XE (q.l++[x]):Nat):Int):=by
    rw[QrV];simp only[XE];rw[wrap64 ω ω];omega
   rw[Qe c]at B;simp only[go_sem,Qa,Qe c,n,g,o,Iz];apply Qw k Eq;simp only[go_sem,Qa,n,g,z,Qv g,Iy,Iz,o,H,Qm F,K];apply Qw k i4;simp only[go_sem,Qa,n,g,z,Qv g,Iy,Iz,o,H,Qm F,K];unfold Xm;rw[t];refine⟨by rfl,⟨r,?_,B.step λl f b=>⟨⟨b.1,b.2.1⟩,?_⟩,Q.rp,Q.sp,?_,Q.r0,Q.r1⟩,⟨λl f b=>?_,?_⟩⟩
   .rw[Qv g];rfl
   .rw[Qm (Q1 b.2.1)]
   .intro y s;rcases QW.1 s with s|s
    .exact Q.lens y s
    .rw[qz.1 s];exact C
   .rw[Qm (λ(e:p=l)=>b (e▸Q.sp))];exact keep l f b
   .simp;omega
def Qr0{S}{h}{p J}{b}{q:Qu}{x}{L}(Q:vh S h p J b q)(g:q.l=x::L):
  QI prog 136 h [.ptr p 0 0 0] (λd z=>d=.tup [.agg x.cells,Qb 0]/\vh S z p J b (WV q)/\Step S h z):=by
 obtain⟨r,Q⟩:=Q;have s:=Q.o;have v:=Q.ring;have hx:=Q.lens x (by rw[g];simp);have W:=hx.1;have Y:=hx.2;have R:=v.nE;have T:=Qek Q.lens;have H:IntKind.u64.wrap x.len=((x.len.toNat:Nat):Int):=Iw ω ω;have F:IntKind.i64.wrap (((XE q.l:Nat):Int) - x.len)=((XE L:Nat):Int):=by
  have V:XE q.l=x.len.toNat+XE L:=by rw[g];rfl
  rw[wrap64 ω ω];omega
 refine QZ func136 ntmps136 results136 λN w U n=>?_;have t:=Qc s;simp only[go_sem,Qa,s,t];have I:=v.step (S':=λl=>S l/\l≠p/\l<h.length) (h':=h++[⟨.one,0,6,1,λ_=>(default:Pk).cells⟩]) λl c a=>⟨⟨a.1,a.2,c⟩,QG c⟩;rw[g]at I;refine A4 n Qo0 (Qro I) λd j O=>?_;obtain⟨rfl,P,k⟩:=O;have M:h.length<j.length:=by have:=k.len;simp only[JJ,jt]at this;omega
 have m:j[p]? = some (No r b q):=(k.keep p ξ (λh=>h.2.1 rfl)).trans ((QG t).trans s);have i:=Qc m;have o:=(k.keep h.length σ (λh=>by have:=h.2.2;omega)).trans (JZ rfl);have keep:∀l,l<h.length->¬ S l->j[l]? = h[l]? := λl c a=>(k.keep l ξ (λh=>a h.1)).trans (QG c);have K:p≠h.length:=ω;apply Qg n;simp only[go_sem,Qa,m,i,o];apply Qw n Eq;simp only[go_sem,Qa,m,i,H,Qv i,Iy,Iz,o,M,Qm K,F];apply Qw n i4;simp only[go_sem,Qa,m,i,H,Qv,Iy,Iz,o,M,Qm K,F];have f:∀(A B C:Ob) (l:Nat),l<h.length->(((j.set p A).set h.length B)++[C])[l]? = (j.set p A)[l]? := λA B C l c=>by
  rw[QG ξ,Qm ω]
 have E:(WV q).l=L:=by simp[WV,g]
 refine⟨⟨r,?_,?_,Q.rp,Q.sp,?_,Q.r0,Q.r1⟩,⟨λl c a=>?_,?_⟩⟩
 .rw[f _ _ _ _ t,Qv i,WV,g];rfl
 .rw[E];refine P.step λl c a=>⟨⟨a.1,a.2.1⟩,?_⟩;rw[f _ _ _ _ a.2.2,Qm (Q1 a.2.1)]
 .intro y u;rw[E]at u;exact Q.lens y (by rw[g];simp[u])
 .rw[f _ _ _ _ c,Qm (λ(e:p=l)=>a (e▸Q.sp))];exact keep l c a
 .simp;omega
def yX(l:Du)(b a:Rn):Rn:=if l.has then qO b a else a
def cG{l}{b a:Rn}(d:b.Ok)(c:a.Ok):(yX l b a).Ok:=by unfold yX;split;exact nA d c;exact c
def z8(l:Du)(c:Nc)(a:Nat)(b:Int):Du:=
 Bk ⟨true,yX l l.dl (VS c a (l.JB*65536)),yX l l.rd (wL c a (l.JB*65536)),l.JB,l.XV,l.dead⟩ b
section
variable {h:List Ob}{b1 b2 b3:Nat}(l:Du)(h3:l.JB<18446744073709551616)(c:Nc)(hc:c.Lt)(now:Nat)(hn:now<18446744073709551616)
 (o1:(h.map Ob.ro)[b1]? = some ⟨.Wy,0,3,1,λ_=>c.cells⟩) (o2:(h.map Ob.ro)[b2]? = some ⟨.Wy,0,1,1,λ_=>[u64 now]⟩) (o3:(h.map Ob.ro)[b3]? = some ⟨.Wy,0,22,1,λ_=>l.cells⟩)
include h3 hc hn o1 o2 o3
theorem Qr1(g:Rn)(k:g.Ok):QR prog 178 h [.agg g.cells,.raw (.func (.func 181) #[] #[]),.ptr b1 0 0 0,.ptr b2 0 0 0,.ptr b3 0 0 0] (λd=>d=.agg (yX l g (VS c now (l.JB*65536))).cells):=by
 have m:=Iu hc hn (y:=l.JB*65536) ω;refine Zk func178 ntmps178 results178 λj w o F n p f=>?_;rw[<- n]at o1 o2 o3;have e:=Qc o1;have b:=Qc o2;have a:=Qc o3;simp only[go_sem,Qa,o1,e,o2,b,o3,a];apply Qw f [0,1,2,3,4,1005,1006,1007,1008];simp only[go_sem,Qa,o1,e,o2,b,o3,a];refine KK f aX ?_ (cD l.JB h3) ?_
 .simp only[go_sem,Qa,o1,e,o2,b,o3,a]
 apply Q7 f;simp only[go_sem,Qa,o1,e,o2,b,o3,a];refine KK f iT ?_ (nz c hc now (l.JB*65536) hn ω) ?_
 .simp only[go_sem,Qa,o1,e,o2,b,o3,a]
 apply Q7 f;simp only[go_sem,Qa,o1,e,o2,b,o3,a];unfold yX;cases i:l.has with
 | true=>
  simp only[go_sem,Qa,i];refine Jk f aY ?_ (cB g _ k m) ?_
  .simp only[go_sem,Qa,o1,e,o2,b,o3,a]
  apply Qg f;simp only[go_sem,Qa,o1,e,o2,b,o3,a];all_goals exact KY
 | false=>
  simp only[go_sem,Qa,i];all_goals exact KY
theorem Qr2(g:Rn)(k:g.Ok):QR prog 178 h [.agg g.cells,.raw (.func (.func 182) #[] #[]),.ptr b1 0 0 0,.ptr b2 0 0 0,.ptr b3 0 0 0] (λd=>d=.agg (yX l g (wL c now (l.JB*65536))).cells):=by
 have m:=cA hc hn (y:=l.JB*65536) ω;refine Zk func178 ntmps178 results178 λj w o F n p f=>?_;rw[<- n]at o1 o2 o3;have e:=Qc o1;have b:=Qc o2;have a:=Qc o3;simp only[go_sem,Qa,o1,e,o2,b,o3,a];apply Qw f [0,1,2,3,4,1005,1006,1007,1008];simp only[go_sem,Qa,o1,e,o2,b,o3,a];refine KK f aX ?_ (cD l.JB h3) ?_
 .simp only[go_sem,Qa,o1,e,o2,b,o3,a]
 apply Q7 f;simp only[go_sem,Qa,o1,e,o2,b,o3,a];refine KK f Qci ?_ (Qei c hc now (l.JB*65536) hn ω) ?_
 .simp only[go_sem,Qa,o1,e,o2,b,o3,a]
 apply Q7 f;simp only[go_sem,Qa,o1,e,o2,b,o3,a];unfold yX;cases i:l.has with
 | true=>
  simp only[go_sem,Qa,i];refine Jk f aY ?_ (cB g _ k m) ?_
  .simp only[go_sem,Qa,o1,e,o2,b,o3,a]
  apply Qg f;simp only[go_sem,Qa,o1,e,o2,b,o3,a];all_goals exact KY
 | false=>
  simp only[go_sem,Qa,i];all_goals exact KY
end
def Qr3(l:Du)(e:l.Ok)(c:Nc)(g:c.Lt)(a)(f:a<18446744073709551616)(b:Int)(m:b<9223372036854775808):Q6 prog 129 [.agg l.cells,Cn c,u64 a,Qb b] (Zm (.agg (z8 l c a b).cells)):=by
 have h:=e.JB;have j:=Iu g f (y:=l.JB*65536) ω;have k:=cA g f (y:=l.JB*65536) ω;refine Zs 0 func129 ntmps129 results129 λi w d=>?_;simp only[go_sem];apply Qw d [0,1,2,4,5,6,1003,8,1007,1009,10,1011];simp only[go_sem];apply V0 d Qch (Qr1 (b1:=1) (b2:=2) (b3:=0) l h c g a f rfl rfl rfl l.dl e.dl);apply Xy d;apply V0 d Qch (Qr2 (b1:=1) (b2:=2) (b3:=0) l h c g a f rfl rfl rfl l.rd e.rd);apply Xy d;apply J2 d iU (nC ⟨true,yX l l.dl (VS c a (l.JB*65536)),yX l l.rd (wL c a (l.JB*65536)),l.JB,l.XV,l.dead⟩ (cG e.dl j) (cG e.rd k) h b m);apply Zd d;rfl
def nG{l:Du}(d:l.Ok){c:Nc}(f:c.Lt){a}(e:a<18446744073709551616)(b:Int):(z8 l c a b).Ok:=by
 have g:=d.JB;exact nB (l:=⟨true,yX l l.dl (VS c a (l.JB*65536)),yX l l.rd (wL c a (l.JB*65536)),l.JB,l.XV,l.dead⟩) (cG d.dl (Iu f e (y:=l.JB*65536) ω)) (cG d.rd (cA f e (y:=l.JB*65536) ω)) g b
structure Sh where
 has:Bool
 run:Rn
 time:Nat
deriving DecidableEq
instance:Inhabited Sh:=⟨⟨false,default,0⟩⟩
structure Sh.Ok (x:Sh):Prop where
 run:x.run.Ok
 time:x.time<18446744073709551616
@[go_sem] def Sh.cells(x:Sh):List D:=[QT x.has,u64 x.run.f.x,u64 (x.run.f.y / 18446744073709551616),u64 (x.run.f.y % 18446744073709551616),u64 x.run.f.m,u64 x.run.t.x,u64 (x.run.t.y / 18446744073709551616),u64 (x.run.t.y % 18446744073709551616),u64 x.run.t.m,QT x.run.b,u64 x.time]
def Er(r:Rn)(a:Nat):Nat:=if r.b then max (max (zo r (a*65536)) r.t.x) r.f.x else max (zo r (a*65536)) r.t.x
def Qem{r:Rn}(h:r.Ok)(a):Er r a<18446744073709551616:=by
 have b:=Ru r (a*65536);have d:=h.t.x;have c:=h.f.x;unfold never at b;unfold Er;split<;>omega
def Nq(a b:Nat):max (a:Int) (b:Int)=((max a b:Nat):Int):=ω
def Rv(a:Nat):max (0:Int) (a:Int)=(a:Int):=ω
def Qr4{h:List Ob}{b g}{a}(o:(h.map Ob.ro)[b]? = some ⟨.vO,g,1,2,a⟩)(x y)(i:a 0=[u64 x])(f:a 1=[u64 y]):QR prog 231 h [.ref b g 0 2] (λd=>d=u64 (max x y)):=by
 refine Zk func231 ntmps231 results231 λj w l F k m c=>?_;rw[<- k]at o;have e:=Qc o;simp only[go_sem,Qa,o,e];refine kV 2 ?_;apply Qg c;simp only[go_sem,Qa,o,e,i,f];apply Qg c;simp only[go_sem,Qa,o,e,i,f,Rv,Nq];apply Qg c;simp only[go_sem,Qa,o,e,i,f,Rv,Nq];apply QC c;all_goals exact KY
def Qr5{h:List Ob}{b g}{a}(o:(h.map Ob.ro)[b]? = some ⟨.vO,g,1,3,a⟩)(x y z)(j:a 0=[u64 x])(i:a 1=[u64 y])(f:a 2=[u64 z]):QR prog 231 h [.ref b g 0 3] (λd=>d=u64 (max (max x y) z)):=by
 refine Zk func231 ntmps231 results231 λk w m F l n c=>?_;rw[<- l]at o;have e:=Qc o;simp only[go_sem,Qa,o,e];refine kV 3 ?_;apply Qg c;simp only[go_sem,Qa,o,e,j,i,f];apply Qg c;simp only[go_sem,Qa,o,e,j,i,f,Rv,Nq];apply Qg c;simp only[go_sem,Qa,o,e,j,i,f,Rv,Nq];apply Qg c;simp only[go_sem,Qa,o,e,j,i,f,Rv,Nq];apply QC c;all_goals exact KY
def nH(r:Rn)(f:r.Ok)(a)(e:a<18446744073709551616):Q6 prog 188 [.agg r.cells,u64 a] (Zm (u64 (Er r a))):=by
 unfold Er;refine Zs 0 func188 ntmps188 results188 λd w c=>?_;simp only[go_sem];apply Qw c [0,1,1002,1003,4];simp only[go_sem];apply Vc c AZ (Bi a 65536 e π);apply VG c;apply Vc c aZ (cC r f (a*65536) ω);apply VG c;cases h:r.b with
 | true=>
  simp only[go_sem,h];apply ZA c Qcv (Qr5 (b:=1) (g:=0) (by exact rfl) (zo r (a*65536)) r.t.x r.f.x (by exact rfl) (by exact rfl) (by exact rfl));exact HT c
 | false=>
  simp only[go_sem,h];apply ZA c Qcv (Qr4 (b:=1) (g:=0) (by exact rfl) (zo r (a*65536)) r.t.x (by exact rfl) (by exact rfl));exact HT c
def IA(x:Sh)(c:Nc)(b a:Nat):Sh:=
 ⟨true,if x.has then qO x.run (VS c b (a*65536)) else VS c b (a*65536),Er (if x.has then qO x.run (VS c b (a*65536)) else VS c b (a*65536)) a⟩
def Gk(x:Sh)(a:Nat):Sh:=if x.has then ⟨true,x.run,Er x.run a⟩ else x
def nI{x:Sh}(e:x.Ok){c:Nc}(g:c.Lt){b a}(f:b<18446744073709551616)(h:a<18446744073709551616):(if x.has then qO x.run (VS c b (a*65536)) else VS c b (a*65536)).Ok:=by
 have d:=Iu g f (y:=a*65536) ω;split
 .exact nA e.run d
 .exact d
def Qr6{x:Sh}(d:x.Ok){c:Nc}(g:c.Lt){b a:Nat}(f:b<18446744073709551616)(e:a<18446744073709551616):(IA x c b a).Ok:=
 ⟨nI d g f e,Qem (nI d g f e) _⟩
def Qr7{x:Sh}(b:x.Ok)(a:Nat):(Gk x a).Ok:=by
 unfold Gk;split
 .exact⟨b.run,Qem b.run _⟩
 .exact b
def Qr8(x:Sh)(i:x.Ok)(c:Nc)(g:c.Lt)(b a:Nat)(f:b<18446744073709551616)(e:a<18446744073709551616):Q6 prog 132 [.agg x.cells,Cn c,u64 b,u64 a] (Zm (.agg (IA x c b a).cells)):=by
 have k:=Iu g f (y:=a*65536) ω;have j:=nI i g f e;refine Zs 0 func132 ntmps132 results132 λl w d=>?_;simp only[go_sem];apply Qw d [0,1,2,1003,1004,1005,1006];simp only[go_sem];apply Vc d AZ (Bi a 65536 e π);apply VG d;apply Vc d iT (nz c g b (a*65536) f ω);apply VG d;cases h:x.has with
 | true=>
  rw[h,Qf rfl]at j;rw[show IA x c b a=⟨true,qO x.run (VS c b (a*65536)),Er (qO x.run (VS c b (a*65536))) a⟩ from by unfold IA;rw[h];rfl];simp only[go_sem,h];apply J2 d aY (cB x.run _ i.run k);apply Zd d;apply Qw d [0,1,2,1003,4,1005];simp only[go_sem];apply Vc d iW (nH (qO x.run (VS c b (a*65536))) j a e);exact MH d
 | false=>
  rw[show IA x c b a=⟨true,VS c b (a*65536),Er (VS c b (a*65536)) a⟩ from by unfold IA;rw[h];rfl];simp only[go_sem,h];apply Qw d [0,1,2,1003,4,1005];simp only[go_sem];apply Vc d iW (nH (VS c b (a*65536)) k a e);exact MH d
def Qr9(x:Sh)(d:x.Ok)(a:Nat)(e:a<18446744073709551616):Q6 prog 137 [.agg x.cells,u64 a] (Zm (.agg (Gk x a).cells)):=by
 cases h:x.has with
 | true=>
  rw[show Gk x a=⟨true,x.run,Er x.run a⟩ from by unfold Gk;rw[h];rfl];refine Zs 0 func137 ntmps137 results137 λb w c=>?_;simp only[go_sem];simp only[go_sem,h];apply J2 c iW (nH x.run d.run a e);exact ze c
 | false=>
  rw[show Gk x a=x from by unfold Gk;rw[h];rfl];refine Zs 0 func137 ntmps137 results137 λb w c=>?_;simp only[go_sem];simp only[go_sem,h]
structure Cp where
 has:Bool
 run:Rn
 fit:Nat
deriving DecidableEq
instance:Inhabited Cp:=⟨⟨false,default,0⟩⟩
structure Cp.Ok (x:Cp):Prop where
 run:x.run.Ok
 fit:x.fit<=never
@[go_sem] def Cp.cells(x:Cp):List D:=[QT x.has,u64 x.run.f.x,u64 (x.run.f.y / 18446744073709551616),u64 (x.run.f.y % 18446744073709551616),u64 x.run.f.m,u64 x.run.t.x,u64 (x.run.t.y / 18446744073709551616),u64 (x.run.t.y % 18446744073709551616),u64 x.run.t.m,QT x.run.b,u64 x.fit]
def nJ:Cp:=⟨false,⟨⟨0,0,0⟩,⟨0,0,0⟩,false⟩,0⟩
def Cr(x:Cp)(a:Nat):Cp:=if x.has then ⟨true,x.run,zo x.run (a*65536)⟩ else x
def Es(x:Cp)(c:Nc)(b a:Nat):Cp:=
 if c.of=0\/c.of=1 then nJ
 else ⟨true,if x.has then qO x.run (VS c b (a*65536)) else VS c b (a*65536),zo (if x.has then qO x.run (VS c b (a*65536)) else VS c b (a*65536)) (a*65536)⟩
def Qsa:nJ.Ok:=⟨⟨Ln.jV,Ln.jV⟩,KF _⟩
def Qsb{x:Cp}(b:x.Ok)(a:Nat):(Cr x a).Ok:=by
 unfold Cr;split
 .exact⟨b.run,Ru _ _⟩
 .exact b
def Qen{x:Cp}(e:x.Ok){c:Nc}(g:c.Lt){b a}(f:b<18446744073709551616)(h:a<18446744073709551616):(if x.has then qO x.run (VS c b (a*65536)) else VS c b (a*65536)).Ok:=by
 have d:=Iu g f (y:=a*65536) ω;split
 .exact nA e.run d
 .exact d
def Qsc{x:Cp}(d:x.Ok){c:Nc}(g:c.Lt){b a:Nat}(f:b<18446744073709551616)(e:a<18446744073709551616):(Es x c b a).Ok:=by
 unfold Es;split
 .exact Qsa
 .exact⟨Qen d g f e,Ru _ _⟩
def nK(x:Cp)(d:x.Ok)(a:Nat)(e:a<18446744073709551616):Q6 prog 138 [.agg x.cells,u64 a] (Zm (.agg (Cr x a).cells)):=by
 cases h:x.has with
 | true=>
  rw[show Cr x a=⟨true,x.run,zo x.run (a*65536)⟩ from by unfold Cr;rw[h];rfl];refine Zs 0 func138 ntmps138 results138 λc w b=>?_;simp only[go_sem];simp only[go_sem,h];apply Qw b [0,1,2,1003,1004,5,1006];simp only[go_sem];apply Vc b AZ (Bi a 65536 e π);apply VG b;apply Vc b aZ (cC x.run d.run (a*65536) ω);exact MH b
 | false=>
  rw[show Cr x a=x from by unfold Cr;rw[h];rfl];refine Zs 0 func138 ntmps138 results138 λc w b=>?_;simp only[go_sem];simp only[go_sem,h]
def Qsd(x:Cp)(k:x.Ok)(c:Nc)(j:c.Lt)(b a:Nat)(i:b<18446744073709551616)(g:a<18446744073709551616):Q6 prog 133 [.agg x.cells,Cn c,u64 b,u64 a] (Zm (.agg (Es x c b a).cells)):=by
 have m:=Iu j i (y:=a*65536) ω;have l:=Qen k j i g;refine Zs 0 func133 ntmps133 results133 λn w d=>?_;simp only[go_sem];apply Qw d [0,1,2,1003,1004,1005,1006];simp only[go_sem];apply Vc d AZ (Bi a 65536 g π);apply VG d;apply Vc d iT (nz c j b (a*65536) i ω);apply VG d;apply J2 d DP (Rt c.a c.d c.b);apply Zd d;by_cases e:c.of=0\/c.of=1
 .rw[show Es x c b a=nJ from Qf e];have f:Vq c.a c.d c.b=0\/Vq c.a c.d c.b=1:=e;rcases f with f|f
  .simp only[go_sem,f];rfl
  .simp only[go_sem,f];rfl
 .have d0:(Vq c.a c.d c.b==0)=false:=by rw[jv];exact λh=>e (.inl h)
  have d1:(Vq c.a c.d c.b==1)=false:=by rw[jv];exact λh=>e (.inr h)
  cases h:x.has with
  | true=>
   rw[h,Qf rfl]at l;rw[show Es x c b a=Cr ⟨true,qO x.run (VS c b (a*65536)),0⟩ a from by unfold Es;rw[Qe e,h];rfl];simp only[go_sem,d0,d1,h];apply J2 d aY (cB x.run _ k.run m);apply Zd d;apply J2 d iP (nK ⟨true,qO x.run (VS c b (a*65536)),0⟩ ⟨l,KF _⟩ a g);exact ze d
  | false=>
   rw[show Es x c b a=Cr ⟨true,VS c b (a*65536),0⟩ a from by unfold Es;rw[Qe e,h];rfl];simp only[go_sem,d0,d1,h];apply J2 d iP (nK ⟨true,VS c b (a*65536),0⟩ ⟨m,KF _⟩ a g);exact ze d
def Qeo(a b):Q6 prog 111 [u64 a,u64 b] (Zm (u64 (max a b))):=by
 refine Zs 0 func111 ntmps111 results111 λc w d=>?_;simp only[go_sem];simp only[go_sem,Nq]
def nN:Go.Shelf.Ren:=⟨fun|5=>110|7=>147|n=>n,fun|23=>189|25=>3|3=>69|4=>4|20=>20|n=>n,fun|n=>n⟩
def Qep:SlLaysW.n5 prog nN:={
 mixed:=τ
 f5:=⟨f110.name,τ,func110.trans (congrArg some (show f110={ SlBodyW.n5 nN with name:=f110.name } from τ))⟩
 f7:=func147.trans (congrArg some (show f147=SlBodyW.n7 nN from τ))
 t4:=underlying4
 a4:=isAgg4
 z4:=sizeOf4
 v4:=zeroValue4
 t20:=underlying20
 a20:=isAgg20
 z20:=sizeOf20
 v20:=zeroValue20
 t23:=underlying189
 a23:=isAgg189
 z23:=sizeOf189
 v23:=zeroValue189 }
def Qse{h:List Ob}{m c}{f}(r:h[m]? = some (QM .i64 c f)):QI prog 110 h [.mref m 0] (λd J=>d=.mref h.length 0/\J=h++[QM .i64 c f]):=by
 intro Z u w g y t S R x B;match y,x with
 | [v],_=>
 obtain⟨o,p,b,s,I,H,U,F⟩:=Dq (B 0 σ);rw[r]at s;cases s;have C:=F rfl;subst C;have P:v=.map (some b):=H.2;subst P;obtain⟨_,z⟩:=R.at_ m _ b 0 r I;obtain⟨V,M,j,a,n,E,N,L,l,O⟩:=z.map rfl;refine(AnyW.maps_Clone Qep b j a w n).mono ?_;rintro e Q ⟨rfl,rfl⟩;have e:∀b,b<w.heap.size->(w.alloc (.map j a)).heap[b]? = w.heap[b]? := λb n=>kz w _ b n;have T:Go.Fg.Tr h g w (h++[QM .i64 c f]) (g++[some (w.heap.size,0)]) (w.alloc (.map j a)):=Go.Fg.Tr.push R e _ _ (by intro b q h;simp at h;omega);have K:g.length=h.length:=R.len;refine⟨.map (some w.heap.size),.mref h.length 0,h++[QM .i64 c f],g++[some (w.heap.size,0)],rfl,⟨rfl,rfl⟩,Zg.LC R e _ (QB _) t ?_,?_,T,BQ t _⟩
 .have hx:OT Z (h++[QM .i64 c f]) (g++[some (w.heap.size,0)]) (w.alloc (.map j a)) (QM .i64 c f) w.heap.size 0:=
   ⟨rfl,M,j,a,heap_alloc_new w _,E,N,L.tr T,λi e k=>⟨(l i e k).1,(l i e k).2.1.tr T,(l i e k).2.2.1.tr T,(l i e k).2.2.2.tr T⟩,O⟩
  exact hx
 .exact .mref _ _ (QM .i64 c f) (some (w.heap.size,0)) w.heap.size σ (by rw[<- K];simp) ⟨by simp[QM,VE,Kd.ty],rfl⟩ (QB _) (λ_=>rfl)
def Qsf{S}{h:List Ob}{t}{T}(R:V6 S h t T):QI prog 72 h [.ptr t 0 0 0] (λd e=>d=.ptr (h.length+1) 0 0 0/\V6 (λl=>h.length<=l) e (h.length+1) T/\∃g,e=h++g/\g.length=2):=by
 obtain⟨m,c,n,a,i,j,_,_⟩:=R;refine QZ func72 ntmps72 results72 λf w p b=>?_;have o:=Qc a;simp only[go_sem,Qa,a,o];refine A4 b Qb7 (Qse i) λd h k=>?_;obtain⟨rfl,rfl⟩:=k;apply QC b;exact⟨⟨h.length,c,n,Vj rfl,JZ rfl,j,by show h.length<=_;omega,QB _⟩,_,rfl,rfl⟩
def Qsg{T:List Qt}(h:WB T){x:Qt}(a:Qz T x.iD=none):(V5 T x).length=T.length+1:=by
 rw[(HU x h).length_eq,VK];congr 1;unfold W4;rw[yf.2];intro c b;have:=FZ.1 a c b;simpa using this
def Qsh{T:List Qt}(h:WB T){x y:Qt}(a:Qz T x.iD=some y):(V5 T x).length<=T.length:=by
 rw[(HU x h).length_eq,VK];obtain⟨c,b⟩:=(WC h).1 a;have:(W4 T x.iD).length<T.length:=by
  unfold W4;refine Nat.lt_of_le_of_ne (YU _ _) λe=>?_;have:=(List.length_filter_eq_length_iff.1 e) y c;simp[b]at this
 omega
section
variable {T:List Qt}(I:Ve T)
include I
theorem Ve.add{x:Qt}(h:A9 T x (up T x.parent).length=0):Ve (V5 T x):=by
 unfold A9 at h;by_cases k:Vd x=0;case neg=>rw[Qf k]at h;exact absurd h k
 rw[Qe (by simpa using k)]at h;cases j:Qz T x.iD with
 | some y=>rw[j]at h;simp at h
 | none=>
  rw[j,Qe σ]at h;by_cases r:T.length=64
  .rw[Qf r]at h;cases h
  rw[Qe r]at h;by_cases n:(x.parent≠0/\(Qz T x.parent).isNone)\/((Qz T x.parent).getD default).leaf=true
  .rw[Qf n]at h;cases h
  rw[Qe n]at h;by_cases o:1<Q4 x.ls/\Yc T x.parent=false
  .rw[Qf o]at h;cases h
  rw[Qe o]at h;by_cases q:(up T x.parent).length=16
  .rw[Qf q]at h;cases h
  have s:=right_id k;have g:x.parent=0\/∃d,Qz T x.parent=some d/\d.leaf=false:=by
   by_cases g:x.parent=0
   .exact .inl g
   .cases m:Qz T x.parent with
    | none=>exact absurd (.inl ⟨g,by rw[m];rfl⟩) n
    | some d=>
     refine .inr ⟨d,rfl,?_⟩;rw[Ym];exact λi=>n (.inr (by rw[m];exact i))
  have t:=I.toTreeInv.add k j (g.elim .inl λ⟨d,b,_⟩=>.inr (by rw[b];rfl)) q;refine⟨t,λc a=>?_,λc a l=>?_,λc a p l=>?_,?_⟩
  .rcases yO I.rising x a with rfl|a
   .exact k
   .exact I.right c a
  .rcases yO I.rising x a with rfl|a
   .rcases g with g|⟨d,b,i⟩
    .exact absurd g l
    .exact⟨d,by rw[yN I.rising,Qe s.2.2];exact b,i⟩
   .obtain⟨d,b,i⟩:=I.Y8 c a l;refine⟨d,?_,i⟩;rw[yN I.rising,Qe (λe=>by rw[e,j]at b;cases b)];exact b
  .rcases yO I.rising x a with rfl|a
   .have f:Yc T c.parent=true:=by
     rw[<- Bool.not_eq_false];exact λm=>o ⟨p,m⟩
    unfold Yc at f;unfold wz;rw[yN I.rising,Qe s.2.2];rw[Aq]at f;rcases f with f|f
    .exact absurd (by simpa using f) l
    .exact f
   .have f:=I.bG c a p l;obtain⟨d,b,i⟩:=I.Y8 c a l;unfold wz at f ⊢;rw[yN I.rising,Qe (λe=>by rw[e,j]at b;cases b)];exact f
  .rw[Qsg I.rising j];have:=I.len;omega
theorem Ve.del{b}(h:WD T b=[]):Ve (W4 T b):=by
 have l:=I.toTreeInv.del h;have g:∀c∈T,c.parent≠b:=λc a e=>by
  have:c.iD∈WD T b:=Jm.2 ⟨c,JO.2 ⟨a,by simpa using e⟩,rfl⟩;rw[h]at this;cases this
 refine⟨l,λc a=>I.right c (JO.1 a).1,λc a f=>?_,λc a i f=>?_,?_⟩
 .have a:=(JO.1 a).1;obtain⟨d,k,j⟩:=I.Y8 c a f;exact⟨d,by rw[PY I.rising,Qe (g c a)];exact k,j⟩
 .have a:=(JO.1 a).1;have:=I.bG c a i f;unfold wz at this ⊢;rw[PY I.rising,Qe (g c a)];exact this
 .have:=YU (λc:Qt=>c.iD != b) T;have:=I.len;unfold W4;omega
theorem Ve.set{x}(h:Bb T x=0):Ve (V5 T x):=by
 unfold Bb at h;by_cases i:Vd x=0;case neg=>rw[Qf i]at h;exact absurd h i
 rw[Qe (by simpa using i)]at h;cases g:Qz T x.iD with
 | none=>rw[g,Qf (by rfl)]at h;cases h
 | some y=>
  rw[g,Qe σ]at h;simp only[KV]at h;by_cases n:x.parent≠y.parent\/x.leaf≠y.leaf
  .rw[Qf n]at h;cases h
  rw[Qe n]at h;have l:x.parent=y.parent:=xg λe=>n (.inl e);have s:x.leaf=y.leaf:=xg λe=>n (.inr e);by_cases q:(1<Q4 x.ls/\Yc T x.parent=false)\/(¬ 1<Q4 x.ls/\(WD T x.iD).any (wz T)=true)
  .rw[Qf q]at h;cases h
  have C:=right_id i;have r:=(WC I.rising).1 g;have B:=I.toTreeInv.set i g l;have t:∀p d,Qz T p=some d->∃o,Qz (V5 T x) p=some o/\o.leaf=d.leaf:=λp d k=>by
   rw[yN I.rising];by_cases b:p=x.iD
   .rw[Qf b];rw[b,g]at k;cases k;exact⟨x,rfl,s⟩
   .rw[Qe b];exact⟨d,k,rfl⟩
  refine⟨B,λc a=>?_,λc a j=>?_,λc a m j=>?_,?_⟩
  .rcases yO I.rising x a with rfl|a
   .exact i
   .exact I.right c a
  .have:∃d,Qz T c.parent=some d/\d.leaf=false:=by
    rcases yO I.rising x a with rfl|a
    .rw[l]at j ⊢;exact I.Y8 y r.1 j
    .exact I.Y8 c a j
   obtain⟨d,k,u⟩:=this;obtain⟨o,z,w⟩:=t _ d k;exact⟨o,z,by rw[w,u]⟩
  .unfold wz;rw[yN I.rising];by_cases b:c.parent=x.iD
   .rw[Qf b];simp only[KV,XZ];refine xg λhx=>q (.inr ⟨hx,?_⟩);rcases yO I.rising x a with rfl|a
    .exact absurd m hx
    .rw[EY];refine⟨c.iD,Jm.2 ⟨c,JO.2 ⟨a,by simpa using b⟩,rfl⟩,?_⟩;unfold wz;rw[(WC I.rising).2 ⟨a,rfl⟩];simpa using m
   .rw[Qe b];rcases yO I.rising x a with rfl|a
    .have f:Yc T c.parent=true:=by
      rw[<- Bool.not_eq_false];exact λv=>q (.inl ⟨m,v⟩)
     unfold Yc at f;rw[Aq]at f;rcases f with f|f
     .exact absurd (by simpa using f) j
     .exact f
    .exact I.bG c a m j
  .have:=Qsh I.rising g;have:=I.len;omega
end
def wO(T:List Qt)(c:Jr):Int:=if c.kind=1 then A9 T c.cls (up T c.cls.parent).length else if c.kind=3 then Bb T c.cls else if c.kind=2 then Ba T c.cls.iD else 1
def Bo(T:List Qt)(c:Jr):List Qt:=if wO T c=0 then (if c.kind=2 then W4 T c.cls.iD else V5 T c.cls) else T
def Ve.one{T}(I:Ve T)(c):Ve (Bo T c):=by
 unfold Bo;by_cases h:wO T c=0
 .rw[Qf h];unfold wO at h;by_cases d:c.kind=1
  .rw[Qf d]at h;rw[Qe ω];exact I.add h
  .rw[Qe d]at h;by_cases a:c.kind=3
   .rw[Qf a]at h;rw[Qe ω];exact I.set h
   .rw[Qe a]at h;by_cases b:c.kind=2
    .rw[Qf b]at h ⊢;unfold Ba at h;by_cases f:(Qz T c.cls.iD).isNone=true
     .rw[Qf f]at h;cases h
     .rw[Qe f]at h;by_cases e:WD T c.cls.iD≠[]
      .rw[Qf e]at h;cases h
      .exact I.del (xg e)
    .rw[Qe b]at h;cases h
 .rw[Qe h];exact I
def WE.toS{S}{h a}{t m}{L}(A:WE h t m L a)(d:S t)(b:S m):V6 S a t L/\Step S h a:=by
 obtain⟨⟨c,p,o,n,k⟩,g,f⟩:=A;exact⟨⟨m,c,p,o,n,k,d,b⟩,⟨λl j i=>f l j (λe=>i (e▸b)),g⟩⟩
section
variable {S:Nat->Prop}{h:List Ob}{t:Nat}{T:List Qt}(R:V6 S h t T)(I:Ve T)
include R I
theorem Qsk(x:Qt):QI prog 115 h [.ptr t 0 0 0,Xz x] (λd a=>d=Qb (A9 T x (up T x.parent).length)/\V6 S a t (if A9 T x (up T x.parent).length=0 then V5 T x else T)/\Step S h a):=by
 obtain⟨m,c,k,j,i,g,f,b⟩:=R;have:=I.len;exact QI.mono (Qqa h t m c g j i x 16 π (I.ends _)) λd a ⟨e,A⟩=>⟨e,A.toS f b⟩
theorem Qsl(x):QI prog 116 h [.ptr t 0 0 0,Xz x] (λd a=>d=Qb (Bb T x)/\V6 S a t (if Bb T x=0 then V5 T x else T)/\Step S h a):=by
 obtain⟨m,c,k,j,i,g,f,b⟩:=R;have:=I.len;exact QI.mono (Qqg h t m c g ω j i x) λd a ⟨e,A⟩=>⟨e,A.toS f b⟩
theorem Qsm(a):QI prog 118 h [.ptr t 0 0 0,Qb a] (λd b=>d=Qb (Ba T a)/\V6 S b t (if Ba T a=0 then W4 T a else T)/\Step S h b):=by
 obtain⟨m,c,l,k,j,i,g,f⟩:=R;have:=I.len;exact QI.mono (Qqb h t m c i ω k j a) λd b ⟨e,A⟩=>⟨e,A.toS g f⟩
end
def V6.app{S}{h:List Ob}{t}{T}(R:V6 S h t T)(g):V6 (λl=>S l/\l<h.length) (h++g) t T:=R.step λl a b=>⟨⟨b,a⟩,QG a⟩
def Qsn{S}{h:List Ob}{t tb}{T}(R:V6 S h t T)(I:Ve T)(x:Qt)(a:h[tb]? = some ⟨.one,0,1,1,λ_=>[.ptr t 0 0 0]⟩):QI prog 117 h [Xz x,.ptr tb 0 0 0] (λd f=>d=Qb (Ba T x.iD)/\V6 S f t (if Ba T x.iD=0 then W4 T x.iD else T)/\Step S h f):=by
 refine QZ func117 ntmps117 results117 λg w p e=>?_;have b:=Qc a;simp only[go_sem,Qa,a,b];refine A4 e Qou (Qsm (R.app _) I x.iD) λd h j=>?_;obtain⟨rfl,o,c⟩:=j;apply Qg e;simp only[go_sem,Qa,a,b];exact⟨o.step λl _ i=>⟨i.1,rfl⟩,⟨λl n m=>(c.keep l ξ (λk=>m k.1)).trans (QG n),by have:=c.len;simp at this;omega⟩⟩
def Qso{S}{h}{t}{T}(R:V6 S h t T)(I:Ve T)(x:Jr):QI prog 83 h [.ptr t 0 0 0,.agg x.cells] (λd r=>d=Qb (wO T x)/\V6 S r t (Bo T x)/\Step S h r):=by
 have f:∀{g j:List Ob} {q:List Qt},V6 (λl=>S l/\l<h.length) j t q->Step (λl=>S l/\l<h.length) (h++g) j->V6 S j t q/\Step S h j:=λ{g j q} e c=>
  ⟨e.step λl _ p=>⟨p.1,rfl⟩,⟨λl y v=>(c.keep l ξ (λu=>v u.1)).trans (QG y),by have:=c.len;simp at this;omega⟩⟩
 unfold Bo wO;by_cases n:x.kind=1
 .have d1:(x.kind==1)=true:=by simpa using n
  simp only[Qf n,Qe (show ¬ x.kind=2 from ω)];refine QZ func83 ntmps83 results83 λa w o b=>?_;simp only[go_sem,Qa,d1];refine Jb b Qor (Qsk (R.app _) I x.cls) λd h i=>?_;obtain⟨rfl,e,c⟩:=i;apply Zd b;exact f e c
 .have d1:(x.kind==1)=false:=by simpa using n
  simp only[Qe n];by_cases k:x.kind=3
  .have d3:(x.kind==3)=true:=by simpa using k
   simp only[Qf k,Qe (show ¬ x.kind=2 from ω)];refine QZ func83 ntmps83 results83 λa w o b=>?_;simp only[go_sem,Qa,d1,d3];refine Jb b Qos (Qsl (R.app _) I x.cls) λd h i=>?_;obtain⟨rfl,e,c⟩:=i;apply Zd b;exact f e c
  .have d3:(x.kind==3)=false:=by simpa using k
   simp only[Qe k];by_cases m:x.kind=2
   .have d2:(x.kind==2)=true:=by simpa using m
    simp only[Qf m];refine QZ func83 ntmps83 results83 λa w o b=>?_;simp only[go_sem,Qa,d1,d2,d3];refine Jb b Qot (Qsn (tb:=h.length) (R.app _) I x.cls (JZ rfl)) λd h i=>?_;obtain⟨rfl,e,c⟩:=i;apply Zd b;exact f e c
   .have d2:(x.kind==2)=false:=by simpa using m
    simp only[Qe m];refine QZ func83 ntmps83 results83 λa w o b=>?_;simp only[go_sem,Qa,d1,d2,d3];exact⟨R.step λl s p=>⟨p,QG s⟩,Step.app S h _⟩
end Go.Fg.X
namespace Go.Fg
open Go.RowKit (Below)
section
variable {P:Program}{L:ZW}{base nt:Nat}{s:St}{o:Oper}{t:TypeId}{x i:Operand}
def Rc(m:ZU P L){v}(k:o.op=.insert t x i v){p}{f}(h:Fs L s.h t (Qo s.fr x) (Qo s.fr i) (Qo s.fr v)=some (p,f))(j:p):∀(Z:Nat->Prop) d a w,Rel Z base nt s d a w->base<=w.heap.size->∃v b c,((execOp a.eval o).run P w=.ok (.value v) b\/((execOp a.eval o).run P w=.ok .skip b/\v=Go.undef))/\Tr s.h d w f c b/\Zg Z base f c b/\Qy Z f c b .undef v/\Below base w b/\zI w b:=by
 have q:=ua (P:=P) (base:=base) (nt:=nt) (o:=⟨o.dst,.mapUpdate t x i v,o.type,o.pos,o.after,o.guard⟩) m rfl h j;intro Z d a w r l;obtain⟨u,b,c,g,n⟩:=q Z d a w r l;have e:execOp a.eval ⟨o.dst,.mapUpdate t x i v,o.type,o.pos,o.after,o.guard⟩=execOp a.eval o:=by simp[execOp,k]
 rw[e]at g;exact⟨u,b,c,g,n⟩
end
section
variable {P:Program}{base nt:Nat}{w0:Start}{Q:Exit->St->Prop}{k:List Item}{s:St}{X:Cx}
def Qsp{L}(E:ZU P L)(F:base<=w0.w.heap.size){K}{g:TypeId}{pos}{c}{q}{r}{t:TypeId}{x i v}{p}{h'}
  (h:Fs L s.h t (Qo s.fr x) (Qo s.fr i) (Qo s.fr v)=some (p,h')) (C:p) (j:AX P base nt w0 K r ⟨s.fr,h'⟩):AX P base nt w0 K ((false,⟨none,.insert t x i v,g,pos,c,q⟩,none)::r) s:=by
 simp only[AX,WR,Y7];intro Z z B a w f b;obtain⟨u,H,y,e,d,m,I,l,n⟩:=Rc (P:=P) (base:=base) (nt:=nt) (o:=⟨none,.insert t x i v,g,pos,c,q⟩) E rfl h C Z B a w f (K9 F b.1.size);unfold Oper.wp;rcases e with e|⟨e,J⟩
 .rw[e];simp only[Oper.upon_value];exact⟨n,.undef,_,y,u,j,f.ym d m u,b.step d l,d,rfl⟩
 .rw[e];simp only[Oper.upon_skip];exact⟨n,.undef,_,y,_,j,f.ym d m _,b.step d l,d,rfl⟩
def Qsq{L:ZW}(B:ZU P L)(I:base<=w0.w.heap.size){K:St->Prop}{g:TypeId}{pos:String}{d:Array Edge}{C:Option (Nat × Bool)}{r:List (Bool × Oper × G)}{t h E a b H F:Nat}{j f:List Value}{x i v:Operand}{q:IntKind}{l c:Nat}{e:List Zy}{n:Int}
  (u:ty L t=some ⟨.map h E,a,b,j⟩) (m:ty L h=some ⟨.int q,H,F,f⟩) (o:Qo s.fr x=.mref l 0) (z:Qo s.fr i=.raw (.int q n)) (w:s.h[l]? = some (QM q c e))
  (y:AX P base nt w0 K r ⟨s.fr,s.h.set l (JR q c e n (Qo s.fr v))⟩):AX P base nt w0 K ((false,⟨none,.insert t x i v,g,pos,d,C⟩,none)::r) s:=by
 refine Qsp B I (h':=s.h.set l (JR q c e n (Qo s.fr v))) (p:=IsMap q (QM q c e)/\q=q/\0=0/\(QM q c e).kd.ro=false) ?_ ⟨?_,rfl,rfl,rfl⟩ y
 .rw[o,z];simp only[Fs,u,m,w];rw[gu,gv]
 .exact(tT q c e).mpr trivial
def Eu(f){g}{a}(d:qE P X)(c:base<=w0.w.heap.size)(i:P.follows .mixedOrders=true)(l)(R)(e:B4 [] X.L a l R=true)(j:AP a s.fr=true)
  (n:∀s,QF w0 s f->Qr P base nt w0 Q k .normal s) (h:KB P base w0 X nt (DJ P base w0 X nt (λs=>QF w0 s f) R.length (zT [] a R) (l.map (·.1))) (Vb [] a l) s):Qr P base nt w0 Q (.code (.region g a true)::k) .normal s:=by
 have m:R.Nodup:=by
  simp only[B4,ZH]at e;exact(U7 e.1.2).1
 exact Qag d.L c i l R e j (AX.mono (λs b=>iu d c (λs b=>n s b) _ _ _ s m b) _ _ (DH d c _ _ h))
end
section
variable {P:Program}{L:ZW}{base nt:Nat}{w0:Start}{Q:Exit->St->Prop}
end
end Go.Fg
namespace Go.Fg
section
variable {P:Program}{base nt:Nat}{w0:Start}{Q:Exit->St->Prop}{k:List Item}{s:St}
def cI(P:Program)(base nt:Nat)(w0:Start)(Q:Exit->St->Prop)(k:List Item)(T:St->Prop):Exit->St->Prop
 | .normal,s=>∃a,T a/\QF w0 s a
 | e,s=>Qr P base nt w0 Q k e s
variable {T:St->Prop}
@[go_sem] theorem QCs:cI P base nt w0 Q k T .normal s=∃a,T a/\QF w0 s a:=KI rfl
@[go_sem] theorem QCt{j}:cI P base nt w0 Q k T (.exit j) s=Qr P base nt w0 Q k (.exit j) s:=KI rfl
@[go_sem] theorem QCu:cI P base nt w0 Q k T .ret s=Qr P base nt w0 Q k .ret s:=KI rfl
def cJ{x}{c}(T)(f:Qr P base nt w0 (cI P base nt w0 Q (.code c::k) T) [x] .normal s)(q:∀g,T g->Qr P base nt w0 Q (.code c::k) .normal g):Qr P base nt w0 Q (x::.code c::k) .normal s:=by
 have d:∀h,(∃g,T g/\QF w0 h g)->Qr P base nt w0 Q (.code c::k) .normal h:=λh ⟨g,p,o⟩=>FD o (q g p);cases x with
 | code x=>
  simp only[Qr]at f;show A P base nt w0 x _ s;refine f.mono λe h j=>?_;cases e with
  | normal=>exact d _ j
  | _=>exact j
 | ops l=>
  simp only[Qr]at f;show AG P base nt w0 l _ s;intro Z z n a w r b;refine bt (λe y v ⟨h,u,i,m,t⟩=>⟨h,u,?_,m,t⟩) _ _ _ (f Z z n a w r b);cases e with
  | normal=>exact d _ i
  | _=>exact i
 | inBlock id=>simp only[Qr]at f ⊢;exact d _ f
 | inScope=>simp only[Qr]at f ⊢;exact d _ f
end
def Rw:List Item->Bool
 | .inBlock _::k=>Rw k
 | .inScope::k=>Rw k
 | .code _::_=>true
 | .ops _::_=>true
 | []=>false
def Bp{P}{b g}{e}{Q}{s f}(h:QF e s f):∀{k:List Item},Rw k=true->Qr P b g e Q k .normal f->Qr P b g e Q k .normal s
 | [],d,_=>by cases d
 | .code c::k,_,a=>FD h a
 | .ops l::k,_,a=>B6 h a
 | .inBlock n::k,d,a=>by
  rw[Rw]at d;simp only[Qr]at a ⊢;exact Bp h d a
 | .inScope::k,d,a=>by
  rw[Rw]at d;simp only[Qr]at a ⊢;exact Bp h d a
end Go.Fg
namespace Go.Fg.X
open Go.Proofs Go.Fg
open Go.Proofs.Tryz
@[go_sem] def uI(n:Int):D:=.raw (.int .u64 n)
def Qq(x y:Int):Bool:=decide (x<y)
def Bq(d:Array Int):Nat->List D:=λi=>[uI d[i]!]
@[go_sem] theorem QCv(d:Array Int)(i):Bq d i=[uI d[i]!]:=rfl
@[go_sem] def Za(g:Nat)(d:Array Int):Ob:=⟨.arr,g,1,d.size,Bq d⟩
structure QCw (h h':List Ob) (lo:Nat) (o:Ob):Prop where
 at_:h'[lo]? = some o
 Kg:∀l,l<h.length->l≠lo->h'[l]? = h[l]?
 len:h.length<=h'.length
def Qss(x):Q6 prog 235 [uI x] (Zm (QT false)):=by
 refine Zs 0 func235 ntmps235 results235 λa w b=>?_;simp only[go_sem];simp only[go_sem,bne_self_eq_false]
def vj(x y):Q6 prog 200 [uI x,uI y] (Zm (QT (Qq x y))):=by
 refine Zs 0 func200 ntmps200 results200 λb w a=>?_;simp only[go_sem];refine Jk a Qcw ?_ (Qss x) ?_
 .simp only[go_sem,Go.undef]
 apply Qg a;simp only[go_sem,Go.undef];unfold Qq;rfl
def vk{h:List Ob}{l}{o}(e:h[l]? = some o):h.set l o=h:=xh λi=>by
 by_cases c:l=i
 .subst c;rw[Qv (Qc e),e]
 .rw[Qm c]
@[go_sem] def Nr(n:Nat):Ob:=⟨.one,0,1,1,λ_=>[Qb n]⟩
section
variable {h:List Ob}{lo g:Nat}{d:Array Int}(ho:h[lo]? = some (Za g d))
include ho
theorem nO{c}(s)(e:h[c]? = some (Nr s))(u:c≠lo)(a b)(m:a<d.size)(p:b<d.size)(t:s<1000000):
  QI prog 264 h [.ref lo g 0 d.size,Qb a,Qb b,.ptr c 0 0 0] (λo n=>o=.tup [Qb (Sort.order2 Qq d a b s).1,Qb (Sort.order2 Qq d a b s).2.1]/\n=h.set c (Nr (Sort.order2 Qq d a b s).2.2)):=by
 have q:=KJ (show s<4611686018427387904 from ω);unfold Sort.order2;refine QZ func264 ntmps264 results264 λl w r f=>?_;have k:=Qc ho;have i:=Qc e;simp only[go_sem,Qa,ho,k,e,i];apply Qw f i7;simp only[go_sem,ho,k,m,p];apply Vc f zV (vj d[b]! d[a]!);apply VG f;cases j:Qq d[b]! d[a]!
 .simp only[go_sem,j];exact(vk e).symm
 .simp only[go_sem,j,e,i,q]
theorem Qer(a b s:Nat)(e:a<d.size)(c:b<d.size):(Sort.order2 Qq d a b s).1<d.size/\(Sort.order2 Qq d a b s).2.1<d.size/\(Sort.order2 Qq d a b s).2.2<=s+1:=by
 have _hu:=ho;unfold Sort.order2;split<;>simp_all
theorem nP{e}(s)(j:h[e]? = some (Nr s))(k:e≠lo)(a b c)(n:a<d.size)(r:b<d.size)(t:c<d.size)(C:s<900000):
  QI prog 263 h [.ref lo g 0 d.size,Qb a,Qb b,Qb c,.ptr e 0 0 0] (λy x=>y=Qb (Sort.median Qq d a b c s).1/\x=h.set e (Nr (Sort.median Qq d a b c s).2)):=by
 have m:=Qer ho a b s n r;have v:=Qer ho (Sort.order2 Qq d a b s).2.1 c (Sort.order2 Qq d a b s).2.2 m.2.1 t;have l:=Qc j;have q:∀o,(h.set e o)[lo]? = some (Za g d):=λo=>(Qm k).trans ho;have p:∀o,(h.set e o)[e]? = some o:=λo=>Qv l;unfold Sort.median;refine QZ func263 ntmps263 results263 λu w B f=>?_;have z:=Qc ho;have l:=Qc j;simp only[go_sem,Qa,ho,z,j,l];refine Jb f lz (nO ho s j k a b n r ω) λd h i=>?_;obtain⟨rfl,rfl⟩:=i;apply Zd f;refine Vo f lz rfl ?_ (nO (q _) _ (p _) k _ c m.2.1 t ω) rfl λd h i=>?_
 .simp only[go_sem,Jn]
 obtain⟨rfl,rfl⟩:=i;apply Qg f;simp only[go_sem,Jn];refine Vo f lz rfl ?_ (nO (q _) _ (p _) k _ _ m.1 v.1 ω) rfl λd h i=>?_
 .simp only[go_sem,Jn]
 obtain⟨rfl,rfl⟩:=i;apply Qg f;simp only[go_sem,Jn]
theorem nQ{b}(s)(c:h[b]? = some (Nr s))(q:b≠lo)(a)(u:1<=a)(v:a+1<d.size)(j:s<900000)(t:d.size<1000000000):
  QI prog 262 h [.ref lo g 0 d.size,Qb a,.ptr b 0 0 0] (λo l=>o=Qb (Sort.medianAdjacent Qq d a s).1/\l=h.set b (Nr (Sort.medianAdjacent Qq d a s).2)):=by
 have n:IntKind.i64.wrap ((a:Int) - 1)=((a - 1:Nat):Int):=Zu;have m:IntKind.i64.wrap ((a:Int)+1)=((a+1:Nat):Int):=Zu;unfold Sort.medianAdjacent;refine QZ func262 ntmps262 results262 λf w r e=>?_;have p:=Qc ho;have i:=Qc c;simp only[go_sem,Qa,ho,p,c,i,n,m];refine Jb e lu (nP ho s c q (a - 1) a (a+1) ω ω ω j) λd h k=>?_;obtain⟨rfl,rfl⟩:=k;exact ze e
end
def nR{d:Array Int}(a b c s:Nat)(g:a<d.size)(f:b<d.size)(e:c<d.size):(Sort.median Qq d a b c s).1<d.size/\(Sort.median Qq d a b c s).2<=s+3:=by
 unfold Sort.median Sort.order2;dsimp only
 repeat' split
 all_goals simp_all
def Ew:Sort.Hint->Nat
 | .unknown=>0
 | .increasing=>1
 | .decreasing=>2
def nS(r:Nat × Nat):Nat × Sort.Hint:=(r.1,if r.2=0 then .increasing else if r.2=12 then .decreasing else .unknown)
section
variable (d:Array Int)(a b:Nat)
def J4(k:Nat):Nat:=a+(b - a) / 4*k
def Ex:Nat × Nat:=Sort.medianAdjacent Qq d (J4 a b 1) 0
def Ey:Nat × Nat:=Sort.medianAdjacent Qq d (J4 a b 2) (Ex d a b).2
def IB:Nat × Nat:=Sort.medianAdjacent Qq d (J4 a b 3) (Ey d a b).2
def ch4:Nat × Nat:=Sort.median Qq d (Ex d a b).1 (Ey d a b).1 (IB d a b).1 (IB d a b).2
def ch5:Nat × Nat:=Sort.median Qq d (J4 a b 1) (J4 a b 2) (J4 a b 3) 0
def chP:Nat × Nat:=if b - a >= 8 then (if b - a >= 50 then ch4 d a b else ch5 d a b) else (J4 a b 2,0)
theorem Qst:Sort.choosePivot Qq d a b=nS (chP d a b):=rfl
end
section
variable {h:List Ob}{lo g:Nat}{d:Array Int}(ho:h[lo]? = some (Za g d))
include ho
theorem Qsu(a b)(S:a<b)(R:b<=d.size)(u:d.size<1000000000):
  QI prog 252 h [.ref lo g 0 d.size,Qb a,Qb b] (λN I=>N=.tup [Qb (Sort.choosePivot Qq d a b).1,Qb (Ew (Sort.choosePivot Qq d a b).2)]/\∃t,I=h++t):=by
 have M:IntKind.i64.wrap ((b:Int) - a)=((b - a:Nat):Int):=Zu;have O:∀n:Nat,n<1000000000->IntKind.i64.wrap (n:Int)=n:=λn Q=>wrap64 ω ω;have L:IntKind.i64.wrap (((b - a) / 4:Nat)*(1:Int))=(((b - a) / 4*1:Nat):Int):=Zu;have K:IntKind.i64.wrap (((b - a) / 4:Nat)*(2:Int))=(((b - a) / 4*2:Nat):Int):=Zu;have J:IntKind.i64.wrap (((b - a) / 4:Nat)*(3:Int))=(((b - a) / 4*3:Nat):Int):=Zu;have f1:IntKind.i64.wrap ((a:Int)+((b - a) / 4*1:Nat))=((J4 a b 1:Nat):Int):=by unfold J4;rw[wrap64 ω ω];omega
 have f2:IntKind.i64.wrap ((a:Int)+((b - a) / 4*2:Nat))=((J4 a b 2:Nat):Int):=by unfold J4;rw[wrap64 ω ω];omega
 have f3:IntKind.i64.wrap ((a:Int)+((b - a) / 4*3:Nat))=((J4 a b 3:Nat):Int):=by unfold J4;rw[wrap64 ω ω];omega
 have f0:IntKind.i64.wrap (((b - a:Nat):Int).tdiv 4)=(((b - a) / 4:Nat):Int):=by rw[show ((b - a:Nat):Int).tdiv 4=(((b - a) / 4:Nat):Int) from rfl,wrap64 ω ω]
 refine QZ func252 ntmps252 results252 λC w P e=>?_;have B:=Qc ho;simp only[go_sem,Qa,ho,B,M,f0,L,K,J,f1,f2,f3];have p:∀o:Ob,(h++[o])[lo]? = some (Za g d):=λo=>by rw[JD B];exact ho
 have l:∀o:Ob,(h++[o])[h.length]? = some o:=λo=>σ;have f:∀o s:Ob,(h++[o]).set h.length s=h++[s]:=λo s=>by rw[ay rfl];rfl
 have q:h.length≠lo:=ω;rw[Qst];unfold chP;by_cases y:b - a >= 8
 .rw[Qf y];have d8:decide ((8:Int)<=(b - a:Nat))=true:=Q3 ω;by_cases z:b - a >= 50
  .rw[Qf z];have d50:decide ((50:Int)<=(b - a:Nat))=true:=Q3 ω;simp only[go_sem,d8,d50];have H:(Ex d a b).1<d.size/\(Ex d a b).2<=3:=by unfold Ex;exact nR _ _ _ _ (by unfold J4;omega) (by unfold J4;omega) (by unfold J4;omega)
   have F:(Ey d a b).1<d.size/\(Ey d a b).2<=(Ex d a b).2+3:=by unfold Ey;exact nR _ _ _ _ (by unfold J4;omega) (by unfold J4;omega) (by unfold J4;omega)
   have E:(IB d a b).1<d.size/\(IB d a b).2<=(Ey d a b).2+3:=by unfold IB;exact nR _ _ _ _ (by unfold J4;omega) (by unfold J4;omega) (by unfold J4;omega)
   refine Vo e lj rfl ?_ (nQ (p _) 0 (l _) q (J4 a b 1) (by unfold J4;omega) (by unfold J4;omega) ω u) rfl λd h k=>?_
   .simp only[go_sem,f]
   obtain⟨rfl,rfl⟩:=k;apply Qg e;simp only[go_sem,f];refine Vo e lj rfl ?_ (nQ (p _) (Ex d a b).2 (l _) q (J4 a b 2) (by unfold J4;omega) (by unfold J4;omega) ω u) rfl λd h k=>?_
   .simp only[go_sem,f]
   obtain⟨rfl,rfl⟩:=k;apply Qg e;simp only[go_sem,f];refine Vo e lj rfl ?_ (nQ (p _) (Ey d a b).2 (l _) q (J4 a b 3) (by unfold J4;omega) (by unfold J4;omega) ω u) rfl λd h k=>?_
   .simp only[go_sem,f]
   obtain⟨rfl,rfl⟩:=k;apply Qg e;simp only[go_sem,f];refine Vo e lu rfl ?_ (nP (p _) (IB d a b).2 (l _) q (Sort.medianAdjacent Qq d (J4 a b 1) 0).1 (Sort.medianAdjacent Qq d (J4 a b 2) (Ex d a b).2).1 (Sort.medianAdjacent Qq d (J4 a b 3) (Ey d a b).2).1 H.1 F.1 E.1 ω) rfl λd h k=>?_
   .simp only[go_sem,f]
   obtain⟨rfl,rfl⟩:=k;apply Qg e;simp only[go_sem,f];generalize v:Sort.median Qq d (Sort.medianAdjacent Qq d (J4 a b 1) 0).1 (Sort.medianAdjacent Qq d (J4 a b 2) (Ex d a b).2).1 (Sort.medianAdjacent Qq d (J4 a b 3) (Ey d a b).2).1 (IB d a b).2=r;have x:ch4 d a b=r:=v;rw[x];simp only[go_sem,l];unfold nS;by_cases j:r.2=0
   .have i:((r.2:Int)==0)=true:=by rw[j];rfl
    simp only[go_sem,i,j];exact⟨rfl,_,rfl⟩
   .have i:((r.2:Int)==0)=false:=beq_eq_false_iff_ne.mpr ω;by_cases c:r.2=12
    .have m:((r.2:Int)==12)=true:=by rw[c];rfl
     simp only[go_sem,i,m,j,c];exact⟨rfl,_,rfl⟩
    .have m:((r.2:Int)==12)=false:=beq_eq_false_iff_ne.mpr ω;simp only[go_sem,i,m,j,c];exact⟨rfl,_,rfl⟩
  .rw[Qe z];have d50:decide ((50:Int)<=(b - a:Nat))=false:=QS ω;simp only[go_sem,d8,d50];refine Vo e lu rfl ?_ (nP (p _) 0 (l _) q (J4 a b 1) (J4 a b 2) (J4 a b 3) (by unfold J4;omega) (by unfold J4;omega) (by unfold J4;omega) ω) rfl λd h k=>?_
   .simp only[go_sem,f]
   obtain⟨rfl,rfl⟩:=k;apply Qg e;simp only[go_sem,f];generalize v:Sort.median Qq d (J4 a b 1) (J4 a b 2) (J4 a b 3) 0=r;have x:ch5 d a b=r:=v;rw[x];simp only[go_sem,l];unfold nS;by_cases j:r.2=0
   .have i:((r.2:Int)==0)=true:=by rw[j];rfl
    simp only[go_sem,i,j];exact⟨rfl,_,rfl⟩
   .have i:((r.2:Int)==0)=false:=beq_eq_false_iff_ne.mpr ω;by_cases c:r.2=12
    .have m:((r.2:Int)==12)=true:=by rw[c];rfl
     simp only[go_sem,i,m,j,c];exact⟨rfl,_,rfl⟩
    .have m:((r.2:Int)==12)=false:=beq_eq_false_iff_ne.mpr ω;simp only[go_sem,i,m,j,c];exact⟨rfl,_,rfl⟩
 .rw[Qe y];have d8:decide ((8:Int)<=(b - a:Nat))=false:=QS ω;simp only[go_sem,d8,l];exact⟨rfl,_,rfl⟩
end
def jY{h:List Ob}{a g}{d}(b:a<h.length):(h.set a (Za g d))[a]? = some (Za g d):=Qv b
def swp_size(d:Array Int)(i j:Nat):(Sort.swp d i j).size=d.size:=by simp[Sort.swp]
def jf(c:Bool)(x y:D):List.drop 1 (bif c then [x] else [y])=[]:=by cases c<;>rfl
def jg(g)(d:Array Int)(i j n)(l:d.size=n)(e:i<n)(h:j<n):
  (⟨.arr,g,1,n,λk=>bif k==j then [.raw (.int .u64 d[i]!)] else bif k==i then [.raw (.int .u64 d[j]!)] else [.raw (.int .u64 d[k]!)]⟩:Ob)=Za g (Sort.swp d i j):=by
 subst l;unfold Za;congr 1
 .exact(swp_size d i j).symm
 .funext k;unfold Bq uI Sort.swp;by_cases b:k=j
  .subst b;have c:(k==k)=true:=Fc k;by_cases a:k=i
   .subst a;simp[e]
   .simp[e,h,a,Q1 a]
  .by_cases a:k=i
   .subst a;have c:(k==j)=false:=beq_eq_false_iff_ne.mpr b;simp[e,h,b,Q1 b,c]
   .have c:(k==j)=false:=beq_eq_false_iff_ne.mpr b;have m:(k==i)=false:=beq_eq_false_iff_ne.mpr a;rw[c,m];by_cases f:k<d.size
    .simp[b,a,f,Q1 b,Q1 a,fq]
    .simp[b,a,f]
section
variable {h:List Ob}{lo g:Nat}{d:Array Int}(ho:h[lo]? = some (Za g d))
include ho
theorem Qsv(a b)(L:a<b)(K:b<=d.size)(F:d.size<1000000000):
  QI prog 253 h [.ref lo g 0 d.size,Qb a,Qb b] (λB y=>B=.tup []/\y=h.set lo (Za g (Sort.reverseRange d a b))):=by
 have z:IntKind.i64.wrap ((b:Int) - 1)=((b - 1:Nat):Int):=Zu;refine QZ func253 ntmps253 results253 λs w E m=>?_;have r:=Qc ho;simp only[go_sem,Qa,ho,r,z];refine Z4 (λk v=>∃e:Array Int,e.size=d.size/\Sort.reverseLoop (a+k) (b - 1 - k) e=Sort.reverseRange d a b/\a+k<=b - k/\v=⟨[(0,.ref lo g 0 d.size),(6,Qb (a+k:Nat)),(7,Qb (b - 1 - k:Nat))],h.set lo (Za g e)⟩) d.size (s0:=⟨[(0,.ref lo g 0 d.size),(6,Qb (a+0:Nat)),(7,Qb (b - 1 - 0:Nat))],h.set lo (Za g d)⟩) ?_ ⟨d,rfl,rfl,ω,rfl⟩ ?_
 .rw[vk ho];exact QF.frame (by simp only[go_sem,Fb])
 rintro k _ I ⟨e,j,l,J,rfl⟩;have f:=jY (g:=g) (d:=e) r;generalize o:h.set lo (Za g e)=H at f;have i:=Qc f;by_cases c:a+k<b - 1 - k
 .have n:decide (a+k<b - 1 - k)=true:=Q3 c;have q:a+k<d.size:=ω;have p:b - 1 - k<d.size:=ω;apply Qg m;simp only[go_sem,Qa,f,i,n];apply Qw m ii;simp only[go_sem,Qa,f,i,j,q,p,Qv i,Jn,jf];have u:IntKind.i64.wrap (((a+k:Nat):Int)+1)=((a+(k+1):Nat):Int):=Zu;have t:IntKind.i64.wrap (((b - 1 - k:Nat):Int) - 1)=((b - 1 - (k+1):Nat):Int):=Zu;rw[jg g e _ _ _ j q p,u,t];have C:Sort.reverseLoop (a+(k+1)) (b - 1 - (k+1)) (Sort.swp e (a+k) (b - 1 - k))=Sort.reverseRange d a b:=by
   rw[<- l]
   conv=>rhs;rw[Sort.reverseLoop,Qf c]
   congr 1
  refine⟨ω,_,?_,Sort.swp e (a+k) (b - 1 - k),by rw[swp_size,j],C,ω,rfl⟩;rw[<- o,Jn];exact QN
 .have n:decide (a+k<b - 1 - k)=false:=QS c;apply Qg m;simp only[go_sem,Qa,f,i,n];rw[Sort.reverseLoop,Qe c]at l;subst o;exact congrArg (λx=>h.set lo (Za g x)) l
end
end Go.Fg.X
