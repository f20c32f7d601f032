/- Contracts and laws on the way to the statement. No conditions. -/
import Derived.Test.YtbemejcgkfieeaaGreatCA2B
set_option maxRecDepth 100000
set_option maxHeartbeats 16000000
set_option linter.unusedVariables false
set_option linter.unusedSimpArgs false
set_option linter.unusedSectionVars false
set_option linter.defProp false
namespace Go.Fg.X
open Go.Proofs Go.Fg
open Go.Proofs.Tryz
def rK(a)(i)(b)(j):QI prog 269 [.agg [u64 a,Qa i],.agg [u64 b,Qa j]] (QN (Qa (zA a i b j))):=by
 refine QY 0 func269 ntmps269 results269 λc w d=>?_;simp only[go_sem]
 repeat' (first|((first|refine zg (λh=>?_) (λh=>?_)|refine zj (λh=>?_) (λh=>?_)|refine zk (λh=>?_) (λh=>?_)|refine VV (λh=>?_) (λh=>?_)|refine zl (λh=>?_) (λh=>?_)|refine zn (λh=>?_) (λh=>?_)|refine zo (λh=>?_) (λh=>?_)|refine ze (λh=>?_) (λh=>?_))<;>(try simp only[go_sem,Go.undef]))|(refine And.intro δ ?_;try simp only[go_sem,Go.undef])|fail)
 all_goals (congr 2;(try simp only[ZE,Gm,qX,jv,ne_eq]at *);(try unfold zA Ko);(repeat' split)<;>omega)
def OW(x y:It):QI prog 256 [.agg x.cells,.agg y.cells] (QN (.agg (jM x y).cells)):=by
 have e:=rK y.va y.vi x.va x.vi;have c2:=rK y.ka y.ki x.ka x.ki;simp only[jM];generalize zA y.va y.vi x.va x.vi=p at *;generalize zA y.ka y.ki x.ka x.ki=q at *;refine QY 0 func256 ntmps256 results256 λb w a=>?_;simp only[go_sem];apply QV a pQ e;apply Qg a
 repeat' (first|((first|refine zg (λh=>?_) (λh=>?_)|refine zj (λh=>?_) (λh=>?_)|refine zk (λh=>?_) (λh=>?_)|refine VV (λh=>?_) (λh=>?_)|refine zl (λh=>?_) (λh=>?_)|refine zn (λh=>?_) (λh=>?_)|refine zo (λh=>?_) (λh=>?_)|refine ze (λh=>?_) (λh=>?_))<;>(try simp only[go_sem,Go.undef]))|(refine And.intro δ ?_;try simp only[go_sem,Go.undef])|(refine Wy a [] pQ rfl ?_ (c2) rfl ?_;(· simp only[go_sem]);intro d h c;obtain⟨rfl,rfl⟩:=c;(simp only[go_sem]);apply Qh a;simp only[go_sem])|fail)
 all_goals (try simp only[qX,jv,ne_eq]at *);(first|rw[Qd ω]|rw[Qc ω])
section
variable {h:List Ob}{t:Tr}(i:z7 h t)
include i
theorem k9:Zf prog 264 h [t.ptr] (λd=>d=Qa t.high):=by
 cases t with
 | nil=>
  refine ZH func264 ntmps264 results264 λa w e F c g f=>?_;simp only[go_sem];exact⟨[],by simp[Tr.high]⟩
 | node j m l r=>
  have b:=i.1;refine ZH func264 ntmps264 results264 λa w e F c g f=>?_;rw[<- c]at b;have k:=Qb b;simp only[go_sem,b];exact⟨[],σ⟩
theorem Fo:Zf prog 265 h [t.ptr] (λd=>d=Qa t.size):=by
 cases t with
 | nil=>
  refine ZH func265 ntmps265 results265 λa w e F c g f=>?_;simp only[go_sem];exact⟨[],by simp[Tr.size]⟩
 | node j m l r=>
  have b:=i.1;refine ZH func265 ntmps265 results265 λa w e F c g f=>?_;rw[<- c]at b;have k:=Qb b;simp only[go_sem,b];exact⟨[],σ⟩
theorem LP(n):Zf prog 266 h [t.ptr,u64 n] (λd=>d=QU (t.hasB n)):=by
 cases t with
 | nil=>
  refine ZH func266 ntmps266 results266 λa w e F c g f=>?_;simp only[go_sem];exact⟨[],by simp[Tr.hasB]⟩
 | node j m l r=>
  have b:=i.1;refine ZH func266 ntmps266 results266 λa w e F c g f=>?_;rw[<- c]at b;have k:=Qb b;simp only[go_sem,b];exact⟨[],by simp[Tr.hasB]⟩
end
structure Raw (h:List Ob) (loc:Nat) (it:It) (l r:Tr) (le:It) (hi n:Int):Prop where
 o:h[loc]?=some (Fk it l.ptr r.ptr le hi n)
 il:Vl h l
 ir:Vl h r
def Vl.set{h:List Ob}{t:Tr}(i:Vl h t){k}(o)(a:k ∉ t.QP):Vl (h.set k o) t:=i.frame λl b=>Qp λe=>a (e▸b)
def Dx{h}{loc}{it}{l r:Tr}{le}{hi n}(i:Raw h loc it l r le hi n)(L:l.size<1000000)(M:r.size<1000000)(p:loc ∉ l.QP)(o:loc ∉ r.QP):
  QM prog 246 h [.ptr loc 0 0 0] (λd I=>I=h.set loc (Fk it l.ptr r.ptr (Tr.node loc it l r).least ((Tr.node loc it l r).high:Nat) ((Tr.node loc it l r).size:Nat))):=by
 have g:=i.o;have m:=i.il;have k:=i.ir;have K:=l.OT;have J:=r.OT;have u:max (l.high:Int) (r.high:Int)=((max l.high r.high:Nat):Int):=ω;have t:IntKind.i64.wrap (1+((max l.high r.high:Nat):Int))=((1+max l.high r.high:Nat):Int):=Zw;have s:IntKind.i64.wrap (1+(l.size:Int))=((1+l.size:Nat):Int):=Zw;have q:IntKind.i64.wrap (((1+l.size:Nat):Int)+(r.size:Int))=((1+l.size+r.size:Nat):Int):=Zw;rcases l with _|⟨a,b,c,d⟩<;>rcases r with _|⟨v,H,F,E⟩;simp only[Tr.Ta]at g;refine Q7 func246 ntmps246 results246 λj w x e=>?_;have f:=Qb g;simp only[go_sem];apply Qv e o02;simp only[go_sem,g];apply KQ e kQ (k9 m.toR);apply Zp e;apply KQ e kQ (k9 k.toR);apply ZT e;simp only[go_sem,g,u,t];apply Qv e o03;simp only[go_sem,QF f];apply KQ e E6 (Fo (m.set _ p).toR);apply ZT e;simp only[go_sem,s];apply KQ e E6 (Fo (k.set _ o).toR);apply ZT e;simp only[go_sem,Qj,QF f,q];refine xw 2 ?_;apply Qg e;apply Qg e;apply Qg e;rfl;simp only[Tr.Ta,Tr.LN]at g;have z:=k.1;have C:loc≠v:=by rintro rfl;exact o (by simp[Tr.QP])
 refine Q7 func246 ntmps246 results246 λj w x e=>?_;have f:=Qb g;simp only[go_sem];apply Qv e o02;simp only[go_sem,g];apply KQ e kQ (k9 m.toR);apply Zp e;apply KQ e kQ (k9 k.toR);apply ZT e;simp only[go_sem,g,u,t];apply Qv e o03;simp only[go_sem,QF f];apply KQ e E6 (Fo (m.set _ p).toR);apply ZT e;simp only[go_sem,s];apply KQ e E6 (Fo (k.set _ o).toR);apply ZT e;simp only[go_sem,Qj,QF f,q];refine xw 2 ?_;apply Qg e;apply Qg e;apply Qv e o01;simp only[go_sem,QF f,z,Qp C];apply ZD e OG (OW it (Tr.node v H F E).least);apply ZT e;simp only[go_sem,Qj,QF f];apply Qg e;rfl;simp only[Tr.Ta,Tr.LN]at g;have y:=m.1;have B:loc≠a:=by rintro rfl;exact p (by simp[Tr.QP])
 refine Q7 func246 ntmps246 results246 λj w x e=>?_;have f:=Qb g;simp only[go_sem];apply Qv e o02;simp only[go_sem,g];apply KQ e kQ (k9 m.toR);apply Zp e;apply KQ e kQ (k9 k.toR);apply ZT e;simp only[go_sem,g,u,t];apply Qv e o03;simp only[go_sem,QF f];apply KQ e E6 (Fo (m.set _ p).toR);apply ZT e;simp only[go_sem,s];apply KQ e E6 (Fo (k.set _ o).toR);apply ZT e;simp only[go_sem,Qj,QF f,q];refine xw 2 ?_;apply Qg e;apply Qv e o01;simp only[go_sem,QF f,y,Qp B];apply ZD e OG (OW it (Tr.node a b c d).least);apply ZT e;simp only[go_sem,Qj,QF f];apply Qg e;apply Qg e;rfl;simp only[Tr.LN]at g;have y:=m.1;have B:loc≠a:=by rintro rfl;exact p (by simp[Tr.QP])
 have z:=k.1;have C:loc≠v:=by rintro rfl;exact o (by simp[Tr.QP])
 refine Q7 func246 ntmps246 results246 λj w x e=>?_;have f:=Qb g;simp only[go_sem];apply Qv e o02;simp only[go_sem,g];apply KQ e kQ (k9 m.toR);apply Zp e;apply KQ e kQ (k9 k.toR);apply ZT e;simp only[go_sem,g,u,t];apply Qv e o03;simp only[go_sem,QF f];apply KQ e E6 (Fo (m.set _ p).toR);apply ZT e;simp only[go_sem,s];apply KQ e E6 (Fo (k.set _ o).toR);apply ZT e;simp only[go_sem,Qj,QF f,q];refine xw 2 ?_;apply Qg e;apply Qv e o01;simp only[go_sem,QF f,y,Qp B];apply ZD e OG (OW it (Tr.node a b c d).least);apply ZT e;simp only[go_sem,Qj,QF f];apply Qg e;apply Qv e o01;simp only[go_sem,QF f,z,Qp C];apply ZD e OG (OW (jM it (Tr.node a b c d).least) (Tr.node v H F E).least);apply ZT e;simp only[go_sem,Qj,QF f];apply Qg e;rfl
def rL{h:List Ob}{lx ly}{y K}{a b c:Tr}{e O}{p N q M}(s:h[lx]?=some (Fk y (.ptr ly 0 0 0) c.ptr e p N))(C:h[ly]?=some (Fk K a.ptr b.ptr O q M))
  (L:Vl h a) (B:Vl h b) (z:Vl h c) (V:(lx::ly::(a.QP++b.QP++c.QP)).Nodup) (W:a.size+b.size+c.size<900000) :
  QM prog 278 h [.ptr lx 0 0 0,Qa 0] (λd v=>d=.ptr ly 0 0 0/\Vl v (.node ly K a (.node lx y b c))/\v.length=h.length/\∀l,l≠lx->l≠ly->v[l]? = h[l]?):=by
 have P:=V;simp only[ZV,QK,Q1,qx]at P;obtain⟨⟨H,⟨m,g⟩,f⟩,⟨⟨o,k⟩,j⟩,_⟩:=P;have x:ly≠lx:=Q8 H;rcases b with _|⟨T,S,R,Q⟩;simp only[Tr.Ta]at s C;refine Q7 func278 ntmps278 results278 λJ w U i=>?_;have t:=Qb s;have I:=Qb C;simp only[go_sem,s];apply Qv i i6;simp only[go_sem,s,C,Qp H];refine zy i Dm rfl ?_ (Dx (loc:=lx) (l:=Tr.nil) (r:=c) (it:=y) (hi:=p) (n:=N) (le:=e) ⟨?_,?_,?_⟩ ?_ ?_ g f) rfl λd v u=>?_;simp only[go_sem];rw[Qp x,QF t];rfl;exact(B.set _ g).set _ k;exact(z.set _ f).set _ j;omega;omega;subst u;apply Qg i;refine zy i Dm rfl ?_ (Dx (loc:=ly) (l:=a) (r:=(.node lx y Tr.nil c)) (it:=K) (hi:=q) (n:=M) (le:=O) ⟨?_,?_,?_⟩ ?_ ?_ ?_ ?_) rfl λd v u=>?_;simp only[go_sem];rw[Qp H,QF (by simpa using I)];rfl;exact((L.set _ m).set _ o).set _ m;exact⟨QF (by simpa using t),((B.set _ g).set _ k).set _ g,((z.set _ f).set _ j).set _ f⟩;simp only[Tr.size]at *;omega;simp only[Tr.size]at *;omega;exact o;intro hm;rcases QK.1 hm with hm|hm;exact x hm;rcases Q1.1 hm with hm|hm;exact k hm;exact j hm;subst u;apply J5 i;exact⟨⟨QF (by simpa using I),(((L.set _ m).set _ o).set _ m).set _ o,⟨by rw[Qp x,QF (by simpa using t)];rfl,(((B.set _ g).set _ k).set _ g).set _ k,(((z.set _ f).set _ j).set _ f).set _ j⟩⟩,λl F E=>by rw[Qp (Q8 E),Qp (Q8 F),Qp (Q8 E),Qp (Q8 F)]⟩;simp only[Tr.LN]at s C;refine Q7 func278 ntmps278 results278 λJ w U i=>?_;have t:=Qb s;have I:=Qb C;simp only[go_sem,s];apply Qv i i6;simp only[go_sem,s,C,Qp H];refine zy i Dm rfl ?_ (Dx (loc:=lx) (l:=(Tr.node T S R Q)) (r:=c) (it:=y) (hi:=p) (n:=N) (le:=e) ⟨?_,?_,?_⟩ ?_ ?_ g f) rfl λd v u=>?_;simp only[go_sem];rw[Qp x,QF t];rfl;exact(B.set _ g).set _ k;exact(z.set _ f).set _ j;omega;omega;subst u;apply Qg i;refine zy i Dm rfl ?_ (Dx (loc:=ly) (l:=a) (r:=(.node lx y (Tr.node T S R Q) c)) (it:=K) (hi:=q) (n:=M) (le:=O) ⟨?_,?_,?_⟩ ?_ ?_ ?_ ?_) rfl λd v u=>?_;simp only[go_sem];rw[Qp H,QF (by simpa using I)];rfl;exact((L.set _ m).set _ o).set _ m;exact⟨QF (by simpa using t),((B.set _ g).set _ k).set _ g,((z.set _ f).set _ j).set _ f⟩;simp only[Tr.size]at *;omega;simp only[Tr.size]at *;omega;exact o;intro hm;rcases QK.1 hm with hm|hm;exact x hm;rcases Q1.1 hm with hm|hm;exact k hm;exact j hm;subst u;apply J5 i;exact⟨⟨QF (by simpa using I),(((L.set _ m).set _ o).set _ m).set _ o,⟨by rw[Qp x,QF (by simpa using t)];rfl,(((B.set _ g).set _ k).set _ g).set _ k,(((z.set _ f).set _ j).set _ f).set _ j⟩⟩,λl F E=>by rw[Qp (Q8 E),Qp (Q8 F),Qp (Q8 E),Qp (Q8 F)]⟩
def rM{h:List Ob}{lx ly}{y K}{a b c:Tr}{e O}{p N q M}(s:h[lx]?=some (Fk y a.ptr (.ptr ly 0 0 0) e p N))(C:h[ly]?=some (Fk K b.ptr c.ptr O q M))
  (B:Vl h a) (z:Vl h b) (L:Vl h c) (V:(lx::ly::(a.QP++b.QP++c.QP)).Nodup) (W:a.size+b.size+c.size<900000) :
  QM prog 278 h [.ptr lx 0 0 0,Qa 1] (λd v=>d=.ptr ly 0 0 0/\Vl v (.node ly K (.node lx y a b) c)/\v.length=h.length/\∀l,l≠lx->l≠ly->v[l]? = h[l]?):=by
 have P:=V;simp only[ZV,QK,Q1,qx]at P;obtain⟨⟨H,⟨g,f⟩,m⟩,⟨⟨k,j⟩,o⟩,_⟩:=P;have x:ly≠lx:=Q8 H;rcases b with _|⟨T,S,R,Q⟩;simp only[Tr.Ta]at s C;refine Q7 func278 ntmps278 results278 λJ w U i=>?_;have t:=Qb s;have I:=Qb C;simp only[go_sem,s];apply Qv i i6;simp only[go_sem,s,C,Qp H];refine zy i Dm rfl ?_ (Dx (loc:=lx) (l:=a) (r:=Tr.nil) (it:=y) (hi:=p) (n:=N) (le:=e) ⟨?_,?_,?_⟩ ?_ ?_ g f) rfl λd v u=>?_;simp only[go_sem];rw[Qp x,QF t];rfl;exact(B.set _ g).set _ k;exact(z.set _ f).set _ j;omega;omega;subst u;apply Qg i;refine zy i Dm rfl ?_ (Dx (loc:=ly) (l:=(.node lx y a Tr.nil)) (r:=c) (it:=K) (hi:=q) (n:=M) (le:=O) ⟨?_,?_,?_⟩ ?_ ?_ ?_ ?_) rfl λd v u=>?_;simp only[go_sem];rw[Qp H,QF (by simpa using I)];rfl;exact⟨QF (by simpa using t),((B.set _ g).set _ k).set _ g,((z.set _ f).set _ j).set _ f⟩;exact((L.set _ m).set _ o).set _ m;simp only[Tr.size]at *;omega;simp only[Tr.size]at *;omega;intro hm;rcases QK.1 hm with hm|hm;exact x hm;rcases Q1.1 hm with hm|hm;exact k hm;exact j hm;exact o;subst u;apply J5 i;exact⟨⟨QF (by simpa using I),⟨by rw[Qp x,QF (by simpa using t)];rfl,(((B.set _ g).set _ k).set _ g).set _ k,(((z.set _ f).set _ j).set _ f).set _ j⟩,(((L.set _ m).set _ o).set _ m).set _ o⟩,λl F E=>by rw[Qp (Q8 E),Qp (Q8 F),Qp (Q8 E),Qp (Q8 F)]⟩;simp only[Tr.LN]at s C;refine Q7 func278 ntmps278 results278 λJ w U i=>?_;have t:=Qb s;have I:=Qb C;simp only[go_sem,s];apply Qv i i6;simp only[go_sem,s,C,Qp H];refine zy i Dm rfl ?_ (Dx (loc:=lx) (l:=a) (r:=(Tr.node T S R Q)) (it:=y) (hi:=p) (n:=N) (le:=e) ⟨?_,?_,?_⟩ ?_ ?_ g f) rfl λd v u=>?_;simp only[go_sem];rw[Qp x,QF t];rfl;exact(B.set _ g).set _ k;exact(z.set _ f).set _ j;omega;omega;subst u;apply Qg i;refine zy i Dm rfl ?_ (Dx (loc:=ly) (l:=(.node lx y a (Tr.node T S R Q))) (r:=c) (it:=K) (hi:=q) (n:=M) (le:=O) ⟨?_,?_,?_⟩ ?_ ?_ ?_ ?_) rfl λd v u=>?_;simp only[go_sem];rw[Qp H,QF (by simpa using I)];rfl;exact⟨QF (by simpa using t),((B.set _ g).set _ k).set _ g,((z.set _ f).set _ j).set _ f⟩;exact((L.set _ m).set _ o).set _ m;simp only[Tr.size]at *;omega;simp only[Tr.size]at *;omega;intro hm;rcases QK.1 hm with hm|hm;exact x hm;rcases Q1.1 hm with hm|hm;exact k hm;exact j hm;exact o;subst u;apply J5 i;exact⟨⟨QF (by simpa using I),⟨by rw[Qp x,QF (by simpa using t)];rfl,(((B.set _ g).set _ k).set _ g).set _ k,(((z.set _ f).set _ j).set _ f).set _ j⟩,(((L.set _ m).set _ o).set _ m).set _ o⟩,λl F E=>by rw[Qp (Q8 E),Qp (Q8 F),Qp (Q8 E),Qp (Q8 F)]⟩
def rN{h}{loc}{it}{l r:Tr}{le}{hi n}(i:Raw h loc it l r le hi n)(g:(loc::(l.QP++r.QP)).Nodup)(Y:l.size+r.size<800000):
  QM prog 263 h [.ptr loc 0 0 0] (λd h'=>∃W,d=W.ptr/\jN h (.node loc it l r) (l.list++it::r.list) h' W):=by
 have V:=g;simp only[ZV,Q1,qx]at V;obtain⟨⟨M,L⟩,a1⟩:=V;have hl:=l.OT;have hr:=r.OT;have el:IntKind.i64.wrap ((l.high:Int)+1)=((l.high+1:Nat):Int):=Zw;have er:IntKind.i64.wrap ((r.high:Int)+1)=((r.high+1:Nat):Int):=Zw;have h1:=i.o;refine Q7 func263 ntmps263 results263 λa0 w pl f=>?_;have KF:=Qb h1;simp only[go_sem];refine ZL f Dm (Dx (loc:=loc) i ω ω M L) λd J m=>?_;have Z:J.length=h.length:=by rw[m];simp
 have t2:Vl J (.node loc it l r):=by
  rw[m];exact⟨QF KF,i.il.set _ M,i.ir.set _ L⟩
 have k2:∀k,k≠loc->J[k]? = h[k]? := λk j=>by rw[m,Qp (Q8 j)]
 clear m;have B:jN h (.node loc it l r) (Tr.node loc it l r).list J (.node loc it l r):=⟨t2,rfl,g,λ_ h=>.inl h,λk _ hn=>k2 k λe=>hn (by rw[e];simp[Tr.QP]),ω⟩;have s:=t2.1;have KG:=Qb s;apply Qh f;simp only[go_sem,s];refine xw 2 ?_;apply Qg f;apply Qv f [0,2,3,4,5,6,7,8,1001,1009,10,11];simp only[go_sem,s];apply KQ f kQ (k9 t2.2.1.toR);apply Zp f;apply KQ f kQ (k9 t2.2.2.toR);apply ZT f;simp only[go_sem,er];by_cases R:l.high<=r.high+1;have d0:=QS R;simp only[go_sem,d0];apply Qg f;apply Qv f [0,2,3,4,5,6,7,8,1001,1009,10,11];simp only[go_sem,s];apply KQ f kQ (k9 t2.2.2.toR);apply Zp f;apply KQ f kQ (k9 t2.2.1.toR);apply ZT f;simp only[go_sem,el];by_cases Q:r.high<=l.high+1;have d1:=QS Q;simp only[go_sem,d1];apply Qg f;apply Qg f;exact⟨.node loc it l r,rfl,B⟩;have d1:=QG Q;simp only[go_sem,d1];cases r with
 | nil=>exact absurd (Jj _) Q
 | node o x b a=>
  have I:=Y;simp only[Tr.size]at I;have q:=t2.2.2.1;have rO:=Qb q;have S:loc≠o:=by rintro rfl;simp[Tr.QP,ZV,JK,QK,Q1]at g
  apply Qv f [0,1,2,3,4,5,6,8,9,10,11,12,13,1007,1014,15];simp only[go_sem,q];apply KQ f kQ (k9 t2.2.2.2.1.toR);apply Zp f;apply KQ f kQ (k9 t2.2.2.2.2.toR);apply Zp f;by_cases c2:a.high<b.high;have d2:=QS c2;simp only[go_sem,d2];cases b with
  | nil=>exact absurd c2 (Yc _)
  | node p O z y=>
   simp only[Tr.LN]at q;simp only[Tr.size]at I;have F:=t2.2.2.2.1.1;have U:=Qb F;have H:loc≠p:=by rintro rfl;simp[Tr.QP,ZV,JK,QK,Q1]at g
   have AI:o≠p:=by rintro rfl;simp[Tr.QP,ZV,JK,QK,Q1]at g
   apply Vx [5] f [0,1,2,3,4,6,7,1005,8,1009] [];simp only[go_sem];refine kS f OH (rL (lx:=o) (ly:=p) (a:=z) (b:=y) (c:=a) q F t2.2.2.2.1.2.1 t2.2.2.2.1.2.2 t2.2.2.2.2 (by simp only[Tr.QP,ZV,JK,QK,Q1]at g ⊢;grind) ω) λd E m=>?_;obtain⟨rfl,t4,N,v⟩:=m;have C:E[loc]? = _:=(v loc S H).trans s;have T:=Qb C;apply ZT f;simp only[go_sem,C];have K:Vl E l:=t2.2.1.frame λk j=>v k (by rintro rfl;simp only[Tr.QP,ZV,JK,QK,Q1]at g;grind) (by rintro rfl;simp only[Tr.QP,ZV,JK,QK,Q1]at g;grind);apply Qg f;refine ZL f OH (rM (lx:=loc) (ly:=p) (a:=l) (b:=z) (c:=.node o x y a) (QF T) ((Qp H).trans t4.1) (K.set _ M) (t4.2.1.set _ (by simp only[Tr.QP,ZV,JK,QK,Q1]at g ⊢;grind)) (t4.2.2.set _ (by simp only[Tr.QP,ZV,JK,QK,Q1]at g ⊢;grind)) (by simp only[Tr.QP,ZV,JK,QK,Q1]at g ⊢;grind) (by simp only[Tr.size];omega)) λd P m=>?_;obtain⟨rfl,t8,t,u⟩:=m;apply Qg f;refine⟨(.node p O (.node loc it l z) (.node o x y a)),rfl,B.trans ⟨t8,by simp[Tr.list],by simp only[Tr.QP,ZV,JK,QK,Q1]at g ⊢;grind,λk j=>.inl (by simp only[Tr.QP,QK,Q1]at j ⊢;grind),λk _ j=>?_,by rw[t,Kx,N];exact QB _⟩⟩;simp only[Tr.QP,QK,Q1,qx]at j;rw[u k (by grind) (by grind),Qp (by grind),v k (by grind) (by grind)]
  have d2:=QG c2;simp only[go_sem,d2];apply Qg f;refine ZL f OH (rM (lx:=loc) (ly:=o) (a:=l) (b:=b) (c:=a) s q t2.2.1 t2.2.2.2.1 t2.2.2.2.2 (by simp only[Tr.QP,ZV,JK,QK,Q1]at g ⊢;grind) ω) λd P m=>?_;obtain⟨rfl,t8,t,u⟩:=m;apply Qg f;refine⟨(.node o x (.node loc it l b) a),rfl,B.trans ⟨t8,by simp[Tr.list],by simp only[Tr.QP,ZV,JK,QK,Q1]at g ⊢;grind,λk j=>.inl (by simp only[Tr.QP,QK,Q1]at j ⊢;grind),λk _ j=>?_,by rw[t];exact QB _⟩⟩;simp only[Tr.QP,QK,Q1,qx]at j;exact u k (by grind) (by grind)
 have d0:=QG R;simp only[go_sem,d0];cases l with
 | nil=>exact absurd (Jj _) R
 | node o x a b=>
  have I:=Y;simp only[Tr.size]at I;have q:=t2.2.1.1;have rO:=Qb q;have S:loc≠o:=by rintro rfl;simp[Tr.QP,ZV,JK,QK,Q1]at g
  apply Qv f [0,1,2,3,4,5,6,8,9,10,11,12,13,1007,1014,15];simp only[go_sem,q];apply KQ f kQ (k9 t2.2.1.2.2.toR);apply Zp f;apply KQ f kQ (k9 t2.2.1.2.1.toR);apply Zp f;by_cases c2:a.high<b.high;have d2:=QS c2;simp only[go_sem,d2];cases b with
  | nil=>exact absurd c2 (Yc _)
  | node p O z y=>
   simp only[Tr.LN]at q;simp only[Tr.size]at I;have F:=t2.2.1.2.2.1;have U:=Qb F;have H:loc≠p:=by rintro rfl;simp[Tr.QP,ZV,JK,QK,Q1]at g
   have AI:o≠p:=by rintro rfl;simp[Tr.QP,ZV,JK,QK,Q1]at g
   apply Vx [5] f [0,1,2,3,4,6,7,1005,8,1009] [];simp only[go_sem];refine kS f OH (rM (lx:=o) (ly:=p) (a:=a) (b:=z) (c:=y) q F t2.2.1.2.1 t2.2.1.2.2.2.1 t2.2.1.2.2.2.2 (by simp only[Tr.QP,ZV,JK,QK,Q1]at g ⊢;grind) ω) λd E m=>?_;obtain⟨rfl,t4,N,v⟩:=m;have C:E[loc]? = _:=(v loc S H).trans s;have T:=Qb C;apply ZT f;simp only[go_sem,C];have K:Vl E r:=t2.2.2.frame λk j=>v k (by rintro rfl;simp only[Tr.QP,ZV,JK,QK,Q1]at g;grind) (by rintro rfl;simp only[Tr.QP,ZV,JK,QK,Q1]at g;grind);apply Qg f;refine ZL f OH (rL (lx:=loc) (ly:=p) (a:=.node o x a z) (b:=y) (c:=r) (QF T) ((Qp H).trans t4.1) (t4.2.1.set _ (by simp only[Tr.QP,ZV,JK,QK,Q1]at g ⊢;grind)) (t4.2.2.set _ (by simp only[Tr.QP,ZV,JK,QK,Q1]at g ⊢;grind)) (K.set _ L) (by simp only[Tr.QP,ZV,JK,QK,Q1]at g ⊢;grind) (by simp only[Tr.size];omega)) λd P m=>?_;obtain⟨rfl,t8,t,u⟩:=m;apply Qg f;refine⟨(.node p O (.node o x a z) (.node loc it y r)),rfl,B.trans ⟨t8,by simp[Tr.list],by simp only[Tr.QP,ZV,JK,QK,Q1]at g ⊢;grind,λk j=>.inl (by simp only[Tr.QP,QK,Q1]at j ⊢;grind),λk _ j=>?_,by rw[t,Kx,N];exact QB _⟩⟩;simp only[Tr.QP,QK,Q1,qx]at j;rw[u k (by grind) (by grind),Qp (by grind),v k (by grind) (by grind)]
  have d2:=QG c2;simp only[go_sem,d2];apply Qg f;refine ZL f OH (rL (lx:=loc) (ly:=o) (a:=a) (b:=b) (c:=r) s q t2.2.1.2.1 t2.2.1.2.2 t2.2.2 (by simp only[Tr.QP,ZV,JK,QK,Q1]at g ⊢;grind) ω) λd P m=>?_;obtain⟨rfl,t8,t,u⟩:=m;apply Qg f;refine⟨(.node o x a (.node loc it b r)),rfl,B.trans ⟨t8,by simp[Tr.list],by simp only[Tr.QP,ZV,JK,QK,Q1]at g ⊢;grind,λk j=>.inl (by simp only[Tr.QP,QK,Q1]at j ⊢;grind),λk _ j=>?_,by rw[t];exact QB _⟩⟩;simp only[Tr.QP,QK,Q1,qx]at j;exact u k (by grind) (by grind)
def Th(d):XW d d=True:=by cases d<;>simp[XW]
def rP:∀l:List D,KC l l
 | []=>trivial
 | d::r=>⟨(Th d).mpr trivial,rP r⟩
def Qgy{h}{c}{b:It}{l r}(i:z7 h (.node c b l r))(a)(k):Zf prog 262 h [.ptr c 0 0 0,.agg [u64 a,Qa k]] (λd=>d=Qa (if Ko b.ka b.ki a k then 1 else 0)):=by
 have g:=i.1;have q:=rK a k b.ka b.ki;have j:(0<zA a k b.ka b.ki)↔Ko b.ka b.ki a k:=Qu8;generalize zA a k b.ka b.ki=p at *;refine ZH func262 ntmps262 results262 λm w s F o t f=>?_;rw[<- o]at g;have n:=Qb g;simp only[go_sem];apply Qv f [0,1,2,3,4,5,1006,7];simp only[go_sem,Qj,g,n];apply ZD f pQ q;apply Zp f;by_cases e:0<p;have d1:=QS e;simp only[go_sem,d1];rw[Qd (j.1 e)];exact⟨_,rfl,rfl⟩;have d1:=QG e;simp only[go_sem,d1];rw[Qc (λh=>e (j.2 h))];exact⟨_,rfl,rfl⟩
structure rQ (dv:D) (f nf:Nat) (Qx:List D) (B:List (Nat × Ob)) (a:Nat) (k:Int) (fL:Tr->List It) (N:Nat) (Nl:Prop):Prop where
 fok:Qm prog f
 cal:JB dv=some (f,nf,Qx)
 len:∀s,(fL s).length<=s.size+1
 run:∀(h:List Ob) (s:Tr),Vl h s->s.QP.Nodup->s.size<=N->Vm s.list->(s=.nil->Nl)->(∀loc it l r,s=.node loc it l r->it.ka=a/\it.ki=k)->(∀p∈B,h[p.1]?=some p.2/\p.1 ∉ s.QP) ->
  QM prog f h (Z5 nf Qx [s.ptr]) (λd h'=>∃s',d=s'.ptr/\jN h s (fL s) h' s')
def rR{a}{k}{d:Tr->List It}(b:∀s,(d s).length<=s.size+1):∀t:Tr,(t.B4 a k d).length<=t.size+1
 | .nil=>b _
 | .node c e l r=>by
  have j:=rR (a:=a) (k:=k) b l;have i:=rR (a:=a) (k:=k) b r;have f:=b (.node c e l r);have h:=Tr.B1 l;have g:=Tr.B1 r;rw[Tr.B4];split;exact f;split;simp only[Zk,Kw,Tr.size]at *;omega;simp only[Zk,Kw,Tr.size]at *;omega
def Vl.app{h}{t}(i:Vl h t)(g):Vl (h++g) t:=i.frame λl a=>QE (i.lt l a)
def jN.under{h g c}{t b}{L}(u:jN (h++g) t L c b):jN h t L c b:=
 ⟨u.is,u.list,u.nd,λl a=>by
  rcases u.mem l a with h1|h1;exact .inl h1;exact .inr (by simp only[Zk]at h1;omega),λl a d=>by rw[u.keep l (by simp only[Zk];omega) d,QE a],by have:=u.len;simp only[Zk]at this;omega⟩
def Ti{dv}{f nf}{Qx}{B}{a}{k}{fL}{N}{Nl}(O:rQ dv f nf Qx B a k fL N Nl)(hN:N<700000):
  ∀(t:Tr) (h:List Ob),Vl h t->t.QP.Nodup->t.size<=N->Vm t.list->(t.find a k=.nil->Nl)->(∀p∈B,h[p.1]?=some p.2/\p.1 ∉ t.QP) ->
   QM prog 244 h [t.ptr,.agg [u64 a,Qa k],dv] (λd h'=>∃s,d=s.ptr/\jN h t (t.B4 a k fL) h' s)
 | .nil,h,i,j,H,U,S,q=>by
  have hd:=O.run;have hO:=O.fok;have hc:=O.cal;refine Q7 func244 ntmps244 results244 λR w pl g=>?_;simp only[go_sem];apply Qv g i4;simp only[go_sem];refine zy g hO hc (rP _) (hd _ .nil trivial (by simp[Tr.QP]) (Jj _) U (λ_=>S rfl) (λ_ _ _ _ e=>by cases e) λp m=>⟨(QE (Qb (q p m).1)).trans (q p m).1,(q p m).2⟩) rfl λd h2 x=>?_;obtain⟨Y,rfl,u⟩:=x;apply Qg g;exact⟨Y,rfl,u.under⟩
 | .node c y l r,h,i,j,H,U,S,q=>by
  have hd:=O.run;have hO:=O.fok;have hc:=O.cal;have I:=i.1;have xE:=j;simp only[Tr.QP,ZV,Q1,qx]at xE;obtain⟨⟨nl,nr⟩,a0⟩:=xE;have E:=rR (a:=a) (k:=k) O.len;obtain⟨sl,sr,_,_⟩:=Fl.1 (show Vm (l.list++y::r.list) from U);refine Q7 func244 ntmps244 results244 λR w pl g=>?_;have Q:=Qb I;simp only[go_sem];apply Qv g i4;simp only[go_sem,Qj,I,Q];by_cases C:y.ka=a/\y.ki=k;have d1:((y.ka:Int)==(a:Int)&&y.ki==k)=true:=by simp[C.1,C.2]
  simp only[go_sem,d1,Tr.B4,Qd C];refine zy g hO hc (rP _) (hd _ (.node c y l r) (i.app _) j H U (λe=>by cases e) (λ_ _ _ _ e=>by cases e;exact C) λp m=>⟨(QE (Qb (q p m).1)).trans (q p m).1,(q p m).2⟩) rfl λd h2 x=>?_;obtain⟨Y,rfl,u⟩:=x;apply Qg g;exact⟨Y,rfl,u.under⟩;have d1:((y.ka:Int)==(a:Int)&&y.ki==k)=false:=by
   rw[X9];intro hh;simp only[ZE,qX]at hh;exact C ⟨ω,hh.2⟩
  simp only[go_sem,Qj,d1,Tr.B4,Qc C];apply Zz g QfM (Qgy (i.app _).toR a k);apply Qg g;by_cases T:Ko y.ka y.ki a k;simp only[Qd T];apply Vx [10] g [0,1,2,3,4,5,6,7,8,9,11,12,1010,13,1014] [];simp only[go_sem,Qj,I,Q];refine yq g SS rfl ?_ (Ti O hN r _ (i.2.2.app _) (by simp only[Tr.QP,ZV,JK,Q1]at j ⊢;grind) (by simp only[Tr.size]at H;omega) sr (λe=>S (by rw[Tr.find,Qc C,Qd T];exact e)) λp m=>⟨(QE (Qb (q p m).1)).trans (q p m).1,λz=>(q p m).2 (by simp only[Tr.QP,QK,Q1];grind)⟩) rfl λd M x=>?_;simp only[go_sem,Th];obtain⟨s,rfl,u⟩:=x;have u:=u.under;have L:M[c]? = _:=(u.keep c Q (by simp only[Tr.QP,ZV,JK,Q1]at j ⊢;grind)).trans I;have Fp:=Qb L;have J:=u.list;have JA:=Tr.B1 s;rw[J]at JA;have Jq:=E r;have nt:c ∉ s.QP:=λz=>by
   rcases u.mem c z with b|b;simp only[Tr.QP,ZV,JK,Q1]at j;grind;omega
  have no:∀k∈l.QP,k ∉ s.QP:=λk n z=>by
   have Fq:=i.2.1.lt k n;rcases u.mem k z with b|b;simp only[Tr.QP,ZV,JK,Q1]at j;grind;omega
  have W:Vl M l:=i.2.1.frame λk n=>u.keep k (i.2.1.lt k n) (by simp only[Tr.QP,ZV,JK,Q1]at j ⊢;grind);apply ZT g;simp only[go_sem,L];apply Qg g;refine zy g pO rfl ?_ (rN (loc:=c) (l:=l) (r:=s) ⟨QF Fp,W.set _ nl,u.is.set _ nt⟩ (by
   have a1:=u.nd;simp only[Tr.QP,ZV,JK,Q1]at j ⊢;grind) (by simp only[Tr.size]at H;omega)) rfl λd h8 x=>?_
  simp only[go_sem];obtain⟨F,rfl,v⟩:=x;apply Qg g;have V:=v.list;refine⟨F,rfl,v.is,by rw[V,J],v.nd,λk n=>?_,λk n o=>?_,by have Z:=v.len;have q2:=u.len;simp only[Kx]at Z;omega⟩;rcases v.mem k n with b|b;have P:=u.mem k;simp only[Tr.QP,QK,Q1]at b ⊢;grind;have:=u.len;simp only[Kx]at b;exact .inr ω;have P:=u.mem k;have a3:=u.len;rw[v.keep k (by simp only[Kx];omega) (λb=>by
   simp only[Tr.QP,QK,Q1]at b o;rcases b with b|b|b;exact o (.inl b);exact o (.inr (.inl b));rcases P b with K|K;exact o (.inr (.inr K));omega),Qp (λb=>o (by rw[b];simp[Tr.QP])),u.keep k n (λb=>o (by simp only[Tr.QP,QK,Q1];grind))]
  simp only[Qc T];apply Vx [10] g [0,1,2,3,4,5,6,7,8,9,11,12,1010,13,1014] [];simp only[go_sem,Qj,I,Q];refine yq g SS rfl ?_ (Ti O hN l _ (i.2.1.app _) (by simp only[Tr.QP,ZV,JK,Q1]at j ⊢;grind) (by simp only[Tr.size]at H;omega) sl (λe=>S (by rw[Tr.find,Qc C,Qc T];exact e)) λp m=>⟨(QE (Qb (q p m).1)).trans (q p m).1,λz=>(q p m).2 (by simp only[Tr.QP,QK,Q1];grind)⟩) rfl λd M x=>?_;simp only[go_sem,Th];obtain⟨s,rfl,u⟩:=x;have u:=u.under;have L:M[c]? = _:=(u.keep c Q (by simp only[Tr.QP,ZV,JK,Q1]at j ⊢;grind)).trans I;have Fp:=Qb L;have J:=u.list;have JA:=Tr.B1 s;rw[J]at JA;have Jq:=E l;have nt:c ∉ s.QP:=λz=>by
   rcases u.mem c z with b|b;simp only[Tr.QP,ZV,JK,Q1]at j;grind;omega
  have no:∀k∈r.QP,k ∉ s.QP:=λk n z=>by
   have Fq:=i.2.2.lt k n;rcases u.mem k z with b|b;simp only[Tr.QP,ZV,JK,Q1]at j;grind;omega
  have W:Vl M r:=i.2.2.frame λk n=>u.keep k (i.2.2.lt k n) (by simp only[Tr.QP,ZV,JK,Q1]at j ⊢;grind);apply ZT g;simp only[go_sem,L];apply Qg g;refine zy g pO rfl ?_ (rN (loc:=c) (l:=s) (r:=r) ⟨QF Fp,u.is.set _ nt,W.set _ nr⟩ (by
   have a1:=u.nd;simp only[Tr.QP,ZV,JK,Q1]at j ⊢;grind) (by simp only[Tr.size]at H;omega)) rfl λd h8 x=>?_
  simp only[go_sem];obtain⟨F,rfl,v⟩:=x;apply Qg g;have V:=v.list;refine⟨F,rfl,v.is,by rw[V,J],v.nd,λk n=>?_,λk n o=>?_,by have Z:=v.len;have q2:=u.len;simp only[Kx]at Z;omega⟩;rcases v.mem k n with b|b;have P:=u.mem k;simp only[Tr.QP,QK,Q1]at b ⊢;grind;have:=u.len;simp only[Kx]at b;exact .inr ω;have P:=u.mem k;have a3:=u.len;rw[v.keep k (by simp only[Kx];omega) (λb=>by
   simp only[Tr.QP,QK,Q1]at b o;rcases b with b|b|b;exact o (.inl b);rcases P b with K|K;exact o (.inr (.inl K));omega;exact o (.inr (.inr b))),Qp (λb=>o (by rw[b];simp[Tr.QP])),u.keep k n (λb=>o (by simp only[Tr.QP,QK,Q1];grind))]
def xF(t:Tr):Ob:=⟨.one,0,1,1,λ_=>[t.ptr]⟩
attribute [go_sem] xF
def QgB{h:List Ob}{u}{t:Tr}(o:(h.map Ob.ro)[u]?=some (xF t).ro)(i:z7 h t)(a)(k):
  Zf prog 243 h [.ptr u 0 0 0,.agg [u64 a,Qa k]] (λd=>d=(t.find a k).ptr):=by
 refine ZH func243 ntmps243 results243 λx w E F p I c=>?_;rw[<- p]at o;have B:=Qb o;simp only[go_sem,Qj,o,B];refine ZN (λj y=>∃s:Tr,s.size+j<=t.size/\z7 h s/\s.find a k=t.find a k/\y=⟨[(3,.ptr F.length 0 0 0),(5,s.ptr)],F++[⟨.one,0,2,1,λ_=>[u64 a,Qa k]⟩]⟩) t.size (s0:=⟨[(3,.ptr F.length 0 0 0),(5,t.ptr)],F++[⟨.one,0,2,1,λ_=>[u64 a,Qa k]⟩]⟩) ?_ ⟨t,ω,i,rfl,rfl⟩ ?_;exact QO;rintro j _ H ⟨s,z,g,b,rfl⟩;cases s with
 | nil=>
  apply Qg c;apply Qv c i4;simp only[go_sem,Go.undef];apply Qg c;exact⟨_,rfl,by rw[<- b];rfl⟩
 | node C e l r=>
  have m:=g.1;rw[<- p]at m;have q:=Qb m;apply Qg c;apply Qv c i4;simp only[go_sem,Qj,m,q];rw[Tr.find]at b;by_cases f:e.ka=a/\e.ki=k;have d1:((e.ka:Int)==(a:Int)&&e.ki==k)=true:=by simp[f.1,f.2]
  rw[Qd f]at b;simp only[go_sem,d1];apply Qh c;simp only[go_sem,q];exact⟨_,rfl,by rw[<- b];rfl⟩;have d1:((e.ka:Int)==(a:Int)&&e.ki==k)=false:=by
   rw[X9];intro v;simp only[ZE,qX]at v;exact f ⟨ω,v.2⟩
  rw[Qc f]at b;simp only[go_sem,d1];apply Qv c [0,1,2,4,5,1003,6,7,8];simp only[go_sem,Qj];apply KQ c QfM (Qgy (g.more (Hl p)) a k);apply ZT c;simp only[go_sem,Qj,m,q];have J:l.size+j+1<=t.size/\r.size+j+1<=t.size:=by simp only[Tr.size]at z;omega
  by_cases n:Ko e.ka e.ki a k;rw[Qd n]at b;simp only[go_sem,Qd n];refine⟨ω,_,QO,r,ω,g.2.2,b,rfl⟩;rw[Qc n]at b;simp only[go_sem,Qc n];refine⟨ω,_,QO,l,ω,g.2.1,b,rfl⟩
def Qvf{h:List Ob}{f e}{x:It}(i:h[f]?=some ⟨.one,0,2,1,λ_=>[u64 x.ka,Qa x.ki]⟩)(g:h[e]?=some ⟨.one,0,2,1,λ_=>[u64 x.va,Qa x.vi]⟩)(s):
  QM prog 245 h [s.ptr,.ptr f 0 0 0,.ptr e 0 0 0] (λd m=>∃c,d=c.ptr/\jN h s [x] m c):=by
 refine Q7 func245 ntmps245 results245 λk w q j=>?_;have p:=Qb i;have o:=Qb g;simp only[go_sem,i,g];refine ZL j Dm (Dx (loc:=h.length) (it:=x) (l:=.nil) (r:=.nil) (le:=⟨0,0,0,0⟩) (hi:=0) (n:=0) ⟨Vc rfl,trivial,trivial⟩ (by simp[Tr.size]) (by simp[Tr.size]) (by simp[Tr.QP]) (by simp[Tr.QP])) λd t b=>?_;apply Qg j;refine⟨.node h.length x .nil .nil,rfl,⟨?_,trivial,trivial⟩,rfl,by simp[Tr.QP],λl a=>.inr (by simp[Tr.QP]at a;omega),λl a _=>?_,by rw[b];simp⟩;rw[b,QF σ];rw[b,Qp ω,QE a]
structure AJ (h:List Ob) (tl:Nat) (t:Tr) (L:List It):Prop where
 o:h[tl]?=some (xF t)
 is:Vl h t
 list:t.list=L
 nd:t.QP.Nodup
 out:tl ∉ t.QP
 sorted:Vm L
structure Tj (h:List Ob) (tl:Nat) (t:Tr) (L:List It) (h':List Ob) (t':Tr):Prop where
 is:AJ h' tl t' L
 mem:∀l∈t'.QP,l∈t.QP\/h.length<=l
 keep:∀l,l<h.length->l≠tl->l ∉ t.QP->h'[l]? = h[l]?
 len:h.length<=h'.length
def AJ.app{h}{b}{t}{L}(a:AJ h b t L)(g):AJ (h++g) b t L:=⟨(QE (Qb a.o)).trans a.o,a.is.app g,a.list,a.nd,a.out,a.sorted⟩
def AJ.to{h g d:List Ob}{b}{t c}{L e}(a:AJ h b t L)(u:jN (h++g) t e d c)(i:Vm e):Tj h b t e (d.set b (xF c)) c:=by
 have v:=u.under;have k:=Qb a.o;have p:d[b]?=some (xF t):=(v.keep b k a.out).trans a.o;have f:b ∉ c.QP:=λj=>by
  rcases v.mem b j with h3|h3;exact a.out h3;omega
 exact⟨⟨QF (Qb p),v.is.set _ f,v.list,v.nd,f,i⟩,v.mem,λl h3 n m=>by rw[Qp (Q8 n)];exact v.keep l h3 m,by rw[Kx];exact v.len⟩
def Tl{h}{tl}{t}{L:List It}(A:AJ h tl t L)(x:It)(l:YJ x.ka x.ki L=none)(M:L.length<600000):
  QM prog 201 h [.ptr tl 0 0 0,.agg [u64 x.ka,Qa x.ki],.agg [u64 x.va,Qa x.vi]] (λd r=>d=Qa 0/\∃k,Tj h tl t (Yk x L) r k):=by
 have o:=A.o;have P:t.size=L.length:=by rw[<- Tr.B1,A.list]
 have F:(t.find x.ka x.ki)=.nil:=by
  have e:=Tr.Te (a:=x.ka) (i:=x.ki) t (by rw[A.list];exact A.sorted);rw[A.list,l]at e;cases z:t.find x.ka x.ki with
  | nil=>rfl
  | node a b c d=>rw[z]at e;cases e
 have v:=λg=>QgB (h:=h++g) (Z4 (A.app g).o) (A.is.app g).toR x.ka x.ki;rw[F]at v;refine Q7 func201 ntmps201 results201 λbase w J f=>?_;have y:=Qb o;simp only[go_sem,Qj];apply Zz f QfE (v _);apply Qg f;apply Vx [7] f [0,1,2,3,4,5,6,1007,8,9,1010] [];simp only[go_sem,Qj,o,y];have O:rQ (.clo 245 0 [.ptr h.length 0 0 0,.ptr (h.length+1) 0 0 0]) 245 0 [.ptr h.length 0 0 0,.ptr (h.length+1) 0 0 0] [(h.length,⟨.one,0,2,1,λ_=>[u64 x.ka,Qa x.ki]⟩),(h.length+1,⟨.one,0,2,1,λ_=>[u64 x.va,Qa x.vi]⟩)] x.ka x.ki (λ_=>[x]) 600000 True:=
  ⟨QtQ,rfl,λs=>σ,λr s K I R _ _ _ n=>by
   have E:=(n (h.length,_) (Ky ..)).1;have C:=(n (h.length+1,_) (J8 _ (Ky ..))).1;exact Qvf (x:=x) E C s⟩
 refine kS f SS (Ti O π t _ (A.is.app _) A.nd ω (by rw[A.list];exact A.sorted) (λ_=>trivial) ?_) λd Q B=>?_;intro p m;have j:∀q,h.length<=q->q ∉ t.QP:=λq N j=>by have:=A.is.lt q j;omega
 simp only[QK,aX,or_false]at m;rcases m with rfl|rfl;exact⟨Vc rfl,j _ (QB _)⟩;exact⟨VD rfl,j _ (by show h.length<=h.length+1;omega)⟩;obtain⟨k,rfl,u⟩:=B;rw[rI rfl t (by rw[A.list];exact A.sorted) (by rw[A.list];exact l),A.list]at u;have e:=(u.under.keep tl y A.out).trans A.o;have H:=Qb e;apply ZT f;simp only[go_sem,e];exact⟨k,A.to u (rH A.sorted l)⟩
def Tr.Qvg:∀t:Tr,t≠.nil->∃d,t.list=t.Fm::d:=λt h=>by
 have c:=Tr.rJ t h;cases e:t.list with
 | nil=>rw[e]at c;cases c
 | cons a b=>rw[e]at c;simp only[List.head?_cons,Q5]at c;exact⟨b,by rw[c]⟩
def Qvh{x:It}{L}:YJ x.ka x.ki (x::L)=some x:=by
 unfold YJ;rw[km,xD.2 ⟨rfl,rfl⟩]
def Qvi{x:It}{L}(a:Vm (x::L)):Xt x.ka x.ki (x::L)=L:=by
 have h:=Qgv x.ka x.ki [] L x a;rw[Qd ⟨rfl,rfl⟩]at h;exact h
def QgC(N:Nat):Prop:=∀(h:List Ob) (s:Tr),Vl h s->s.QP.Nodup->s.size<=N->Vm s.list->s≠.nil ->
 QM prog 261 h [s.ptr] (λd b=>∃a,d=a.ptr/\jN h s s.LO b a)
def QgD{N}(W:QgC N)(a)(k):rQ (.raw (.func (.func 261) #[] #[])) 261 0 [] [] a k Tr.LO N False:=
 ⟨QtU,rfl,λs=>by
  cases s with
  | nil=>simp[Tr.LO]
  | node g j l r=>simp only[Tr.LO,Zk,Tr.B1,Tr.size];omega,λh s i b c f d _ _=>W h s i b c f λe=>d e⟩
def QgE:∀N,N<600000->QgC N
 | 0,_,_,.nil,_,_,_,_,g=>absurd rfl g
 | 0,_,_,.node _ _ _ _,_,_,E,_,_=>by simp only[Tr.size]at E;omega
 | _+1,_,_,.nil,_,_,_,_,g=>absurd rfl g
 | N+1,hN,h,.node b C l .nil,i,f,E,VW,_=>by
  have y:=i.1;refine Q7 func261 ntmps261 results261 λI w pl m=>?_;have L:=Qb y;simp only[go_sem,y];refine⟨l,rfl,?_⟩;have u:=jN.refl i.2.1 (t:=l) (by simp only[Tr.QP,ZV,JK]at f;exact f.2.1);simp only[Tr.LO,Tr.list,JS];exact⟨u.is,rfl,u.nd,λx hx=>.inl (by simp[Tr.QP,hx]),λ_ _ _=>rfl,QB _⟩
 | N+1,hN,h,.node b C l (.node lr ir rl rr),i,f,E,VW,_=>by
  have y:=i.1;refine Q7 func261 ntmps261 results261 λI w pl m=>?_;have L:=Qb y;simp only[go_sem,y];have xE:=f;simp only[Tr.QP,ZV,JK,QK,Q1,qx]at xE;generalize hr:Tr.node lr ir rl rr=r at *;have H:r≠.nil:=by rw[<- hr];simp
  have V:D.ptr lr 0 0 0=r.ptr:=by rw[<- hr];rfl
  rw[V];refine ZN (λj st=>∃s:Tr,s.size+j<=r.size/\s≠.nil/\Vl h s/\s.Fm=r.Fm/\(∀x∈s.QP,x∈r.QP)/\st=⟨[(0,.ptr b 0 0 0),(3,s.ptr)],h⟩) r.size (s0:=⟨[(0,.ptr b 0 0 0),(3,r.ptr)],h⟩) QO ⟨r,ω,H,i.2.2,rfl,λ_ hx=>hx,rfl⟩ ?_;rintro j _ hj ⟨s,WB,Bz,is,hf,WC,rfl⟩;rcases s with _|⟨P,n,sl,sr⟩;exact absurd rfl Bz;have F:=is.1;have KG:=Qb F;rcases sl with _|⟨a1,z,S,a4⟩;have zB:P∈r.QP:=WC P (by simp[Tr.QP]);have QC:b≠P:=by rintro rfl;simp only[Tr.QP,ZV,JK,Q1]at f;grind
  have Z:b ∉ l.QP:=by simp only[Tr.QP,ZV,JK,Q1]at f;grind
  have O:b ∉ r.QP:=by simp only[Tr.QP,ZV,JK,Q1]at f;grind
  have Z9:=Qp (h:=h) (o:=Fk n l.ptr r.ptr (Tr.node b C l r).least ((Tr.node b C l r).high:Nat) ((Tr.node b C l r).size:Nat)) QC;obtain⟨s1,K,s3,s4⟩:=Fl.1 (show Vm (l.list++C::r.list) from VW);obtain⟨a0,B⟩:=Tr.Qvg r H;have LQ:r.Fm=n:=by rw[<- hf];rfl
  rw[LQ]at B;have Fs:r.find n.ka n.ki=.nil->False:=λe=>by
   have h5:=Tr.Te (a:=n.ka) (i:=n.ki) r K;rw[e,B,Qvh]at h5;cases h5
  have U:r.QP.Nodup:=by simp only[Tr.QP,ZV,JK,Q1]at f;grind
  apply Qh m;simp only[go_sem,F];apply Qh m;simp only[go_sem,y,F];apply Vx [11] m [0,1,2,3,4,5,6,7,8,9,10,12,13,1011,14,1015] [];simp only[go_sem,QF L,Qp QC,F];refine yq m SS rfl ?_ (Ti (QgD (QgE N ω) n.ka n.ki) ω r _ (i.2.2.set _ O) U (by simp only[Tr.size]at E;omega) K Fs (λp hp=>by cases hp)) rfl λd h6 R=>?_;simp only[go_sem,Th];obtain⟨J,rfl,u⟩:=R;rw[gi r K,B,Qvi (by rw[<- B];exact K)]at u;have h7:=(u.keep b (by simpa using L) O).trans (QF L);have Fp:=Qb h7;have nt:b ∉ J.QP:=λQ=>by
   rcases u.mem b Q with c|c;exact O c;simp only[Kx]at c;omega
  have no:∀k∈l.QP,k ∉ J.QP:=λk q Q=>by
   have Fq:=i.2.1.lt k q;rcases u.mem k Q with c|c;simp only[Tr.QP,ZV,JK,Q1]at f;grind;simp only[Kx]at c;omega
  have to:Vl h6 l:=(i.2.1.set _ Z).frame λk q=>u.keep k (by simpa using i.2.1.lt k q) (by simp only[Tr.QP,ZV,JK,Q1]at f ⊢;grind);apply ZT m;simp only[go_sem,h7];apply Qg m;have W:=u.list;have JA:=Tr.B1 J;rw[W]at JA;have XH:=Tr.B1 r;rw[B,Kw]at XH;refine zy m pO rfl ?_ (rN (loc:=b) (l:=l) (r:=J) (it:=n) ⟨QF Fp,to.set _ Z,u.is.set _ nt⟩ (by
   have a1:=u.nd;simp only[Tr.QP,ZV,JK,Q1]at f ⊢;grind) (by simp only[Tr.size]at E;omega)) rfl λd h8 R=>?_
  simp only[go_sem];obtain⟨T,rfl,v⟩:=R;apply Qg m;have vl:=v.list;refine⟨T,rfl,v.is,by rw[vl,W,Tr.LO,B],v.nd,λk q=>?_,λk q g=>?_,by have q1:=v.len;have M:=u.len;simp only[Kx]at q1 M;omega⟩;have M:=u.len;rcases v.mem k q with c|c;have z:=u.mem k;simp only[Tr.QP,QK,Q1,Kx]at c z ⊢;grind;simp only[Kx]at c M;exact .inr ω;have z:=u.mem k;have S:=u.len;simp only[Kx]at z S;rw[v.keep k (by simp only[Kx];omega) (λc=>by
   simp only[Tr.QP,QK,Q1]at c g;rcases c with c|c|c;exact g (.inl c);exact g (.inr (.inl c));rcases z c with Y|Y;exact g (.inr (.inr Y));omega),Qp (λc=>g (by rw[c];simp[Tr.QP])),u.keep k (by simpa using q) (λc=>g (by simp only[Tr.QP,QK,Q1];grind)),Qp (λc=>g (by rw[c];simp[Tr.QP]))]
  apply Qh m;simp only[go_sem,F];refine⟨by simp only[Tr.size]at WB;omega,_,QO,.node a1 z S a4,by simp only[Tr.size]at WB ⊢;omega,σ,is.2.1,by rw[<- hf];rfl,λx hx=>WC x (by rw[Tr.QP];simp[hx]),rfl⟩
@[go_sem] def rS(o:Option It):D:=.tup [.agg (o.getD default).cells,QU o.isSome]
def rT{h}{tl}{t}{L:List It}(A:AJ h tl t L)(a)(k)(r:YJ a k L≠none)(z:L.length<500000):
  QM prog 242 h [.ptr tl 0 0 0,.agg [u64 a,Qa k]] (λd v=>d=Qa 0/\∃f,Tj h tl t (Xt a k L) v f):=by
 have l:=A.o;have B:t.size=L.length:=by rw[<- Tr.B1,A.list]
 have b:=Tr.Te (a:=a) (i:=k) t (by rw[A.list];exact A.sorted);rw[A.list]at b;have m:=λg=>QgB (h:=h++g) (Z4 (A.app g).o) (A.is.app g).toR a k;cases j:t.find a k with
 | nil=>rw[j]at b;exact absurd b.symm r
 | node I H F E=>
  rw[j]at m;refine Q7 func242 ntmps242 results242 λo w y c=>?_;have n:=Qb l;simp only[go_sem,Qj];apply Zz c QfE (m _);apply Qg c;apply Vx [6] c [0,1,2,3,4,5,1006,7,8,1009] [];simp only[go_sem,Qj,l,n];refine yq c SS rfl ?_ (Ti (QgD (QgE 500000 π) a k) π t _ (A.is.app _) A.nd ω (by rw[A.list];exact A.sorted) (λe=>by rw[j]at e;cases e) (λp q=>by cases q)) rfl λd C s=>?_;simp only[go_sem,Th];obtain⟨f,rfl,u⟩:=s;rw[gi t (by rw[A.list];exact A.sorted),A.list]at u;have b:=(u.under.keep tl n A.out).trans A.o;have x:=Qb b;apply ZT c;simp only[go_sem,b];exact⟨f,A.to u (Qvc A.sorted)⟩
section
variable {h:List Ob}{tl:Nat}{t:Tr}(ht:(h.map Ob.ro)[tl]?=some (xF t).ro)(i:z7 h t)
include ht i
theorem QgG:Zf prog 247 h [.ptr tl 0 0 0] (λd=>d=Qa t.size):=by
 refine ZH func247 ntmps247 results247 λc w f F b j a=>?_;rw[<- b]at ht;have k:=Qb ht;simp only[go_sem,ht];apply Zz a E6 (Fo (i.more λl o e=>by have:=Hl (g:=[]) b l o e;rwa [JS]at this));apply Qg a;exact⟨[],σ⟩
theorem QgH:Zf prog 202 h [.ptr tl 0 0 0] (λd=>d=rS t.list.head?):=by
 have p:∀{F:List Ob},F=h.map Ob.ro->∀g,z7 (F++g) t:=λe g=>i.more (Hl e);have v:∀{F:List Ob},F=h.map Ob.ro->∀g,((F++g).map Ob.ro)[tl]?=some (xF t).ro:=λe g=>Hl e _ _ ht;by_cases m:t=.nil;subst m;refine ZH func202 ntmps202 results202 λl w z F e I f=>?_;rw[<- e]at ht;have u:=Qb ht;simp only[go_sem];apply Zz f QfF (QgG (v e _) (p e _));apply Qh f;simp only[go_sem,Qj,Tr.size];exact⟨_,rfl,rfl⟩;rw[Tr.rJ t m];have J:t.size≠0:=by cases t with
  | nil=>exact absurd rfl m
  | node a b c d=>simp only[Tr.size];omega
 have d0:((t.size:Int)==0)=false:=by simpa using J
 refine ZH func202 ntmps202 results202 λl w z F e I f=>?_;rw[<- e]at ht;have u:=Qb ht;simp only[go_sem];apply Zz f QfF (QgG (v e _) (p e _));apply Qh f;simp only[go_sem,Qj,ht,u,d0];refine ZN (λj x=>∃s:Tr,s.size+j<=t.size/\s≠.nil/\z7 h s/\s.Fm=t.Fm/\x=⟨[(2,.ptr F.length 0 0 0),(4,s.ptr)],F++[⟨.one,0,4,1,λ_=>[u64 0,Qa 0,u64 0,Qa 0]⟩]⟩) t.size (s0:=⟨[(2,.ptr F.length 0 0 0),(4,t.ptr)],F++[⟨.one,0,4,1,λ_=>[u64 0,Qa 0,u64 0,Qa 0]⟩]⟩) QO ⟨t,ω,m,i,rfl,rfl⟩ ?_;rintro j _ O ⟨s,r,K,o,q,rfl⟩;rcases s with _|⟨M,N,y,L⟩;exact absurd rfl K;have k:=o.1;rw[<- e]at k;have n:=Qb k;rcases y with _|⟨H,E,C,B⟩;apply Qh f;simp only[go_sem,Qj,k,n];apply Qh f;simp only[go_sem,Qj,k,n];rw[<- q];exact⟨_,rfl,rfl⟩;apply Qh f;simp only[go_sem,Qj,k,n];refine⟨by simp only[Tr.size]at r;omega,_,QO,.node H E C B,by simp only[Tr.size]at r ⊢;omega,σ,o.2.1,by rw[<- q];rfl,rfl⟩
omit ht i in
theorem Qvl{n b}{c:It}{l r:Tr}(h:(Tr.node b c l r).hasB n=true)(d:l.hasB n=false)(e:¬ c.va<=n):r.hasB n=true:=by
 rw[Tr.Tf]at h ⊢;obtain⟨x,hx,a⟩:=h;simp only[Tr.list,Q1,QK]at hx;rcases hx with hx|rfl|hx;have:=(Tr.Tf n l).2 ⟨x,hx,a⟩;rw[d]at this;cases this;exact absurd a e;exact⟨x,hx,a⟩
theorem Qvm(n):Zf prog 250 h [.ptr tl 0 0 0,u64 n] (λd=>d=rS (t.list.find? λx=>decide (x.va<=n))):=by
 have y:∀{F:List Ob},F=h.map Ob.ro->∀g,z7 (F++g) t:=λa g=>i.more (Hl a);rw[<- Tr.gj];cases l:t.hasB n with
 | false=>
  have K:t.first n=none:=by
   rw[Tr.gj,js];intro x hx e;have:=(Tr.Tf n t).2 ⟨x,hx,by simpa using e⟩;rw[l]at this;cases this
  rw[K];refine ZH func250 ntmps250 results250 λo w E F a J c=>?_;rw[<- a]at ht;have r:=Qb ht;simp only[go_sem,Qj,ht,r];apply Zz c pP (LP (y a _) n);apply Qh c;simp only[go_sem,Qj,l];exact⟨_,rfl,rfl⟩
 | true=>
  refine ZH func250 ntmps250 results250 λo w E F a J c=>?_;rw[<- a]at ht;have r:=Qb ht;simp only[go_sem,Qj,ht,r];apply Zz c pP (LP (y a _) n);apply Qh c;simp only[go_sem,Qj,ht,r,l];have I:t≠.nil:=by rintro rfl;simp[Tr.hasB]at l
  refine ZN (λj B=>∃s:Tr,s.size+j<=t.size/\s≠.nil/\z7 h s/\s.hasB n=true/\s.first n=t.first n/\B=⟨[(1,u64 n),(4,.ptr F.length 0 0 0),(6,s.ptr)],F++[⟨.one,0,4,1,λ_=>[u64 0,Qa 0,u64 0,Qa 0]⟩]⟩) t.size (s0:=⟨[(1,u64 n),(4,.ptr F.length 0 0 0),(6,t.ptr)],F++[⟨.one,0,4,1,λ_=>[u64 0,Qa 0,u64 0,Qa 0]⟩]⟩) QO ⟨t,ω,I,i,l,rfl,rfl⟩ ?_;rintro j _ N ⟨s,q,L,p,u,b,rfl⟩;rcases s with _|⟨M,H,v,C⟩;exact absurd rfl L;have f:=p.1;rw[<- a]at f;have m:=Qb f;rw[Tr.first]at b;apply Qh c;simp only[go_sem,Qj,f,m];apply Zz c pP (LP (p.2.1.more (Hl a)) n);apply Qg c;cases k:v.hasB n with
  | true=>
   rw[k,Qd rfl]at b;simp only[go_sem,Qj,f,m];refine⟨by simp only[Tr.size]at q;omega,_,QO,v,by simp only[Tr.size]at q;omega,by rintro rfl;simp[Tr.hasB]at k,p.2.1,k,b,rfl⟩
  | false=>
   rw[k,Qc π]at b;simp only[go_sem,Qj,f,m];by_cases e:H.va<=n;have d1:=QS e;rw[Qd e]at b;simp only[go_sem,Qj,d1,f,m];rw[<- b];exact⟨_,rfl,rfl⟩;have d1:=QG e;rw[Qc e]at b;simp only[go_sem,Qj,d1,f,m];have z:=Qvl u k e;refine⟨by simp only[Tr.size]at q;omega,_,QO,C,by simp only[Tr.size]at q;omega,by rintro rfl;simp[Tr.hasB]at z,p.2.2,z,b,rfl⟩
end
@[go_sem] def rU(o:Option It):Ob:=⟨.one,0,4,1,λ_=>(o.getD default).cells⟩
@[go_sem] def rV(o:Option It):Ob:=⟨.one,0,1,1,λ_=>[QU o.isSome]⟩
def Qvo(x):jM x x=x:=by rw[Qgp,Qc (Td x)]
def QgI{h:List Ob}{lm lo}{o}(f:h[lm]?=some (rV o))(b:h[lo]?=some (rU o))(d:lm≠lo)(x):
  QM prog 255 h [.agg x.cells,.ptr lm 0 0 0,.ptr lo 0 0 0] (λ_ m=>∃g,m=(h.set lm (rV (wh o x))).set lo (rU (wh o x))++g):=by
 have k:=Q8 d;cases o with
 | none=>
  have i:=OW x x;rw[Qvo]at i;refine Q7 func255 ntmps255 results255 λe w l c=>?_;have j:=Qb f;have a:=Qb b;simp only[go_sem,Qj,f,j,b,a,Qp d,Qp k,Es,Ab,KW,Option.getD_none,wh,QF a];apply QV c OG i;apply Qh c;simp only[go_sem,Qj,a,Qp d,QF a];rw[List.set_comm _ _ k,JN];exact⟨_,rfl⟩
 | some y=>
  have i:=OW y x;refine Q7 func255 ntmps255 results255 λe w l c=>?_;have j:=Qb f;have a:=Qb b;simp only[go_sem,Qj,f,j,b,a,Qp d,Ab,KW,wh];apply QV c OG i;apply Qh c;simp only[go_sem,Qj,b,a,Qp d,KW];exact⟨_,rfl⟩
def Tr.Qvp(n f)(e:It)(l r:Tr)(o):(Tr.node f e l r).z8 n o=if n<e.ka then l.z8 n o else r.z8 n (match l with
  | .nil=>wh o e
  | .node a b c d=>wh (wh o e) (Tr.node a b c d).least):=by cases l<;>rfl
def AK(F g:List Ob)(n:Nat)(s:Tr)(o:Option It):St:=
 ⟨[(1,u64 n),(4,.ptr F.length 0 0 0),(6,.ptr (F.length+1) 0 0 0),(7,.ptr (F.length+2) 0 0 0),(8,.clo 255 0 [.ptr (F.length+2) 0 0 0,.ptr (F.length+1) 0 0 0]),(9,s.ptr)],
  F++(⟨.one,0,4,1,λ_=>[u64 0,Qa 0,u64 0,Qa 0]⟩::rU o::rV o::g)⟩
section
variable {h:List Ob}{tl:Nat}{t:Tr}(ht:(h.map Ob.ro)[tl]?=some (xF t).ro)(i:z7 h t)
include ht i
theorem QgJ(n):Zf prog 220 h [.ptr tl 0 0 0,u64 n] (λd=>d=rS (t.z8 n none)):=by
 refine ZH func220 ntmps220 results220 λE w N F z Q f=>?_;rw[<- z]at ht;have M:=Qb ht;simp only[go_sem,Qj,ht,M];refine ZN (λj I=>∃(s:Tr) (o:Option It) (g:List Ob),s.size+j<=t.size/\z7 h s/\s.z8 n o=t.z8 n none/\I=AK F g n s o) t.size (s0:=AK F [] n t none) ?_ ⟨t,none,[],ω,i,rfl,rfl⟩ ?_;simp only[AK];exact QO;rintro j _ P ⟨s,o,g,m,p,k,rfl⟩;rcases s with _|⟨O,q,x,u⟩;simp only[AK];apply Qg f;apply Qg f;apply Vx [] f [0] [1,2,3];simp only[go_sem,Qj];have H:o=t.z8 n none:=k;subst H;refine⟨⟨_,rfl,rfl⟩,⟨_,rfl,rfl⟩⟩;have l:=p.1;rw[<- z]at l;have r:=Qb l;rw[Tr.Qvp]at k;by_cases v:n<q.ka;have d1:=QS v;rw[Qd v]at k;simp only[AK];apply Qh f;simp only[go_sem,Qj,l,r,d1];refine⟨by simp only[Tr.size]at m;omega,AK F g n x o,?_,x,o,g,by simp only[Tr.size]at m;omega,p.2.1,k,rfl⟩;simp only[AK];exact QO;have d1:=QG v;rw[Qc v]at k;simp only[AK];apply Qh f;simp only[go_sem,Qj,l,r,d1];refine ZL f QfJ (QgI (lm:=F.length+2) (lo:=F.length+1) (o:=o) (VD rfl) (VD rfl) ω q) λd K y=>?_;obtain⟨C,rfl⟩:=y;simp only[go_sem,Qj];cases x with
 | nil=>
  apply Qh f;simp only[go_sem,Qj,l,r];refine⟨by simp only[Tr.size]at m;omega,AK F (g++C) n u (wh o q),?_,u,_,_,by simp only[Tr.size]at m;omega,p.2.2,k,rfl⟩;simp only[AK];exact QO
 | node a b c e=>
  have B:=p.2.1.1;rw[<- z]at B;have J:=Qb B;apply Qh f;simp only[go_sem,Qj,l,r,B,J];refine ZL f QfJ (QgI (lm:=F.length+2) (lo:=F.length+1) (o:=wh o q) (VD rfl) (VD rfl) ω (Tr.node a b c e).least) λd K y=>?_;obtain⟨L,rfl⟩:=y;simp only[go_sem,Qj];apply Qh f;simp only[go_sem,Qj,l,r];refine⟨by simp only[Tr.size]at m;omega,AK F (g++(C++L)) n u (wh (wh o q) (Tr.node a b c e).least),?_,u,_,_,by simp only[Tr.size]at m;omega,p.2.2,k,rfl⟩;simp only[AK];exact QO
end
def XK(e:ZC):Int × D:=(e.k,e.v)
structure Yl (es:List ZC) (P:List (Int × D)):Prop where
 perm:(es.map XK).Perm P
 nd:(P.map Prod.fst).Nodup
def Yl.BZ{a}{P}(M:Yl a P):XU a:=by
 have b:a.map (·.k)=(a.map XK).map Prod.fst:=by simp[XK,aN]
 unfold XU;rw[b,(M.perm.map Prod.fst).nodup_iff];exact M.nd
def rW:∀{b:List ZC},XU b->∀{k:Int} {v:D},ZY b k=some v↔(k,v)∈b.map XK
 | [],_,k,v=>by simp[ZY]
 | e::b,a,k,v=>by
  have g:XU b:=by unfold XU at a ⊢;simp only[JT,ZV]at a;exact a.2
  simp only[ZY];by_cases h:e.k=k;rw[Qd h];constructor;rintro⟨rfl⟩;simp[XK,h];intro hm;simp only[JT,QK]at hm;rcases hm with hm|hm;simp only[XK,Q9]at hm;rw[hm.2];exfalso;obtain⟨d,f,c⟩:=Ji.1 hm;simp only[XK,Q9]at c;unfold XU at a;simp only[JT,ZV,Ji,Et,not_and]at a;exact a.1 d f (by rw[c.1,h]);rw[Qc h,rW g];simp only[JT,QK];constructor;exact λh=>.inr h;rintro (hm|hm);simp only[XK,Q9]at hm;exact absurd hm.1.symm h;exact hm
def look(P:List (Int × D))(k:Int):Option D:=(P.find? λp=>p.1==k).map Prod.snd
def gp:∀{P:List (Int × D)},(P.map Prod.fst).Nodup->∀{k:Int} {v:D},look P k=some v↔(k,v)∈P
 | [],_,k,v=>by simp[look]
 | p::P,a,k,v=>by
  simp only[JT,ZV]at a;have b:=gp a.2 (k:=k) (v:=v);unfold look at b ⊢;rw[km];by_cases h:p.1=k;rw[qX.2 h];simp only[KM,Q5,QK];constructor;rintro rfl;exact .inl (by rw[<- h]);rintro (hm|hm);rw[<- hm];exact absurd (Ji.2 ⟨_,hm,rfl⟩) (by rw[<- h];exact a.1);have c:(p.1==k)=false:=by simpa using h
  rw[c,b,QK];constructor;exact λh=>.inr h;rintro (hm|hm);exact absurd (by rw[<- hm]) h;exact hm
def Yl.look{b}{P}(M:Yl b P)(k):ZY b k=look P k:=by
 cases a:X.look P k with
 | some v=>
  rw[rW M.BZ,M.perm.mem_iff];exact(gp M.nd).1 a
 | none=>
  cases c:ZY b k with
  | none=>rfl
  | some v=>
   rw[rW M.BZ,M.perm.mem_iff]at c;rw[(gp M.nd).2 c]at a;cases a
def Yl.len{a:List ZC}{P:List (Int × D)}(M:Yl a P):a.length=P.length:=by
 have:=M.perm.length_eq;rwa [Kj]at this
def B5(P:List (Int × D))(k:Int):List (Int × D):=P.filter λp=>p.1 != k
def Ft(P:List (Int × D))(k:Int)(v:D):List (Int × D):=(k,v)::B5 P k
def QgK{P:List (Int × D)}(k:Int)(h:(P.map Prod.fst).Nodup):((B5 P k).map Prod.fst).Nodup:=by
 unfold B5;exact aO (List.Sublist.map _ List.filter_sublist) h
def QgL{P:List (Int × D)}(k)(v:D)(h:(P.map Prod.fst).Nodup):((Ft P k v).map Prod.fst).Nodup:=by
 rw[Ft,JT,ZV];refine⟨λb=>?_,QgK k h⟩;obtain⟨p,a,e⟩:=Ji.1 b;simp only[B5,Jt,bne_iff_ne,ne_eq]at a;exact a.2 e
def QgM:∀{a:List ZC} (k:Int) (v:D),XU a->(∃u,ZY a k=some u)->((jC a k v).map XK).Perm ((k,v)::(a.map XK).filter λp=>p.1 != k)
 | [],k,v,_,h=>by obtain⟨u,c⟩:=h;cases c
 | e::a,k,v,d,h=>by
  have i:XU a/\∀g∈a,g.k≠e.k:=by
   unfold XU at d ⊢;simp only[JT,ZV,Ji,Et,not_and]at d;exact⟨d.2,d.1⟩
  simp only[jC];by_cases b:e.k=k;rw[Qd b,JT,JT];have f:(XK e).1=k:=b;rw[wR,show ((XK e).1 != k)=false by rw[f];simp];simp only[qu,qY];rw[y9.2];exact Nx _;intro p j;obtain⟨g,m,rfl⟩:=Ji.1 j;have:=i.2 g m;simpa[XK,<- b] using this
  .rw[Qc b,JT,JT,wR];have f:((XK e).1 != k)=true:=by simpa[XK] using b
   rw[f,Qd rfl];have l:∃u,ZY a k=some u:=by
    obtain⟨u,c⟩:=h;simp only[ZY,Qc b]at c;exact⟨u,c⟩
   exact(List.Perm.cons _ (QgM k v i.1 l)).trans (List.Perm.swap _ _ _)
def Yl.set{a}{P}(M:Yl a P)(q)(c)(k)(v):∃h b,J1 q c a k v=QR q h b/\Yl b (Ft P k v):=by
 unfold J1;cases d:ZY a k with
 | some u=>
  refine⟨c,jC a k v,rfl,?_,QgL k v M.nd⟩;exact(QgM k v M.BZ ⟨u,d⟩).trans (List.Perm.cons _ (M.perm.filter _))
 | none=>
  refine⟨c+1,a++[⟨k,v,c⟩],rfl,?_,QgL k v M.nd⟩;rw[ju,Ft];have g:B5 P k=P:=by
   unfold B5;rw[y9];intro p f;rw[bne_iff_ne];intro e;have:=(gp M.nd (k:=k) (v:=p.2)).2 (by rw[<- e];exact f);rw[<- M.look,d]at this;cases this
  rw[g];exact(List.perm_append_comm.trans (List.Perm.cons _ M.perm))
def QgN:∀{a:List ZC} (k:Int),XU a->((JV a k).map XK)=((a.map XK).filter λp=>p.1 != k)
 | [],_,_=>rfl
 | e::a,k,c=>by
  have f:XU a/\∀d∈a,d.k≠e.k:=by
   unfold XU at c ⊢;simp only[JT,ZV,Ji,Et,not_and]at c;exact⟨c.2,c.1⟩
  simp only[JV];by_cases b:e.k=k;rw[Qd b,JT,wR,show ((XK e).1 != k)=false by simpa[XK] using b];simp only[qu,qY];rw[y9.2];intro p g;obtain⟨d,h,rfl⟩:=Ji.1 g;have:=f.2 d h;simpa[XK,<- b] using this;rw[Qc b,JT,JT,wR,show ((XK e).1 != k)=true by simpa[XK] using b,Qd rfl,QgN k f.1]
def Yl.del{a}{P}(M:Yl a P)(k):Yl (JV a k) (B5 P k):=by
 refine⟨?_,QgK k M.nd⟩;rw[QgN k M.BZ];exact M.perm.filter _
def Yl.nil:Yl [] []:=⟨σ,σ⟩
def Yl.to{a}{P Q:List (Int × D)}(M:Yl a P)(h:P.Perm Q):Yl a Q:=⟨M.perm.trans h,((h.map Prod.fst).nodup_iff).1 M.nd⟩
structure Step (S:Nat->Prop) (h h':List Ob):Prop where
 keep:∀l,l<h.length->¬ S l->h'[l]? = h[l]?
 len:h.length<=h'.length
def more(S:Nat->Prop)(h:List Ob):Nat->Prop:=λl=>S l\/h.length<=l
def Step.trans{S}{h h' e}(a:Step S h h')(b:Step (more S h) h' e):Step S h e:=
 ⟨λl d c=>by rw[b.keep l (vJ d a.len) (λf=>f.elim c ω),a.keep l d c],JY a.len b.len⟩
def Step.app(S)(h g):Step S h (h++g):=⟨λl a _=>QE a,σ⟩
structure K9 (es:List ZC) (f:Int->Option D):Prop where
 nd:XU es
 at_:∀k,ZY es k=f k
section
variable {es:List ZC}{f:Int->Option D}
def K9.p(M:K9 es f):Yl es (es.map XK):=⟨Nx _,by
 have a:(es.map XK).map Prod.fst=es.map (·.k):=by simp[XK,aN]
 rw[a];exact M.nd⟩
def K9.to{g}(M:K9 es f)(h:∀k,f k=g k):K9 es g:=⟨M.nd,λk=>(M.at_ k).trans (h k)⟩
def QgO(P)(k j):look (B5 P k) j=if j=k then none else look P j:=by
 unfold look B5;rw[List.find?_filter];by_cases h:j=k;subst h;rw[Qd rfl,bw,js];intro p _ b;simp at b;rw[Qc h];congr 2;funext p;by_cases a:p.1=j;simp[a,h];simp[a]
def Qvq(P)(k)(v)(j):look (Ft P k v) j=if j=k then some v else look P j:=by
 have a:=QgO P k j;unfold look at a ⊢;unfold Ft;rw[km];by_cases h:j=k;subst h;simp;have b:((k,v).1==j)=false:=by simpa using Q8 h
 rw[b,Qc h];rw[Qc h]at a;exact a
def K9.set(M:K9 es f)(q)(c)(k)(v):∃b a,J1 q c es k v=QR q b a/\K9 a (λj=>if j=k then some v else f j):=by
 obtain⟨b,a,e,d⟩:=M.p.set q c k v;refine⟨b,a,e,d.BZ,λj=>?_⟩;rw[d.look,Qvq];split;rfl;rw[<- M.p.look,M.at_]
def K9.del(M:K9 es f)(k):K9 (JV es k) (λj=>if j=k then none else f j):=by
 have a:=M.p.del k;refine⟨a.BZ,λj=>?_⟩;rw[a.look,QgO];split;rfl;rw[<- M.p.look,M.at_]
def K9.nil:K9 [] (λ_=>none):=⟨by simp[XU],λ_=>rfl⟩
def K9.QgP(M:K9 es f):es.length=0↔∀k,f k=none:=by
 constructor;intro h k;rw[El]at h;rw[<- M.at_,h];rfl;intro h;cases es with
 | nil=>rfl
 | cons e es=>
  have a:=M.at_ e.k;rw[h,ZY,Qd rfl]at a;cases a
end
def LR(b:Bool):Int:=if b then 1 else 0
def wi(T:List Ql)(k:Int):Option D:=match Qw T k with
 | some c=>if 1<QH c.ls then some (.agg [Qa c.parent,Qa (LR c.leaf)]) else none
 | none=>none
def AL(T:List Ql)(A:List Int)(k:Int):Option D:=if k∈A then some (Qa ((Qw T k).getD default).parent) else none
def Dy(a:Int->Option Nat)(k:Int):Option D:=(a k).map λl=>.mref l 0
def yA(f:Int->Bool)(i:Int):Option D:=if f i then some (Qa 1) else none
@[go_sem] def gq(c b a:Nat):Ob:=⟨.one,0,3,1,λ_=>[.mref c 0,.mref b 0,.mref a 0]⟩
structure ja (S:Nat->Prop) (h:List Ob) (p b1 b2 b3 c1 c2 c3:Nat) (ZM Z7 KZ:List ZC) (kl:Int->Option Nat) (T:List Ql) (A:List Int) (Kd:Int->Int->Bool):Prop where
 o:h[p]?=some (gq b1 b2 b3)
 m1:h[b1]?=some (QR .i64 c1 ZM)
 f1:K9 ZM (wi T)
 m2:h[b2]?=some (QR .i64 c2 Z7)
 f2:K9 Z7 (AL T A)
 m3:h[b3]?=some (QR .i64 c3 KZ)
 f3:K9 KZ (Dy kl)
 ks:∀k l,kl k=some l->∃c es,h[l]?=some (QR .i64 c es)/\K9 es (yA (Kd k))
 kn:∀k i,kl k=none->Kd k i=false
 ki:∀k k' l,kl k=some l->kl k'=some l->k=k'
 Tm:b1≠b2
 Tn:b1≠b3
 OX:b2≠b3
 gu:p≠b1
 Tp:p≠b2
 Fu:p≠b3
 nk:∀k l,kl k=some l->l≠p/\l≠b1/\l≠b2/\l≠b3
 sp:S p
 s1:S b1
 s2:S b2
 s3:S b3
 sk:∀k l,kl k=some l->S l
def jc(S:Nat->Prop)(h:List Ob)(p:Nat)(T:List Ql)(A:List Int):Prop:=∃f e d c c2 b g i j a,ja S h p f e d c c2 b g i j a T A (zz T A)
def ja.step{S S'}{h h'}{p t s r n m j}{u v x}{g}{T}{A}{w}
  (e:∀l,l<h.length->S l->S' l/\h'[l]? = h[l]?) (a:ja S h p t s r n m j u v x g T A w):ja S' h' p t s r n m j u v x g T A w:=by
 have k:∀l o,S l->h[l]?=some o->S' l/\h'[l]?=some o:=λl o d b=>⟨(e l (Qb b) d).1,(e l (Qb b) d).2.trans b⟩;refine⟨(k _ _ a.sp a.o).2,(k _ _ a.s1 a.m1).2,a.f1,(k _ _ a.s2 a.m2).2,a.f2,(k _ _ a.s3 a.m3).2,a.f3,λq l f=>?_,a.kn,a.ki,a.Tm,a.Tn,a.OX,a.gu,a.Tp,a.Fu,a.nk,(k _ _ a.sp a.o).1,(k _ _ a.s1 a.m1).1,(k _ _ a.s2 a.m2).1,(k _ _ a.s3 a.m3).1,λq l f=>?_⟩;obtain⟨c,i,d,b⟩:=a.ks q l f;exact⟨c,i,(k _ _ (a.sk q l f) d).2,b⟩;obtain⟨c,i,d,b⟩:=a.ks q l f;exact(k _ _ (a.sk q l f) d).1
def jc.step{S S'}{h h':List Ob}{p}{T}{A}(e:∀l,l<h.length->S l->S' l/\h'[l]? = h[l]?):jc S h p T A->jc S' h' p T A:=
 λ⟨g,f,d,c,c2,b,i,j,k,a,O⟩=>⟨g,f,d,c,c2,b,i,j,k,a,O.step e⟩
structure Qvr (h:List Ob) (p b1 b2 b3 c1 c2 c3:Nat) (ZM Z7 KZ:List ZC) (kl:Int->Option Nat) (T:List Ql) (A:List Int) (Kd:Int->Int->Bool):Prop where
 o:(h.map Ob.ro)[p]?=some (gq b1 b2 b3).ro
 m1:(h.map Ob.ro)[b1]?=some (QR .i64 c1 ZM).ro
 f1:K9 ZM (wi T)
 m2:(h.map Ob.ro)[b2]?=some (QR .i64 c2 Z7).ro
 f2:K9 Z7 (AL T A)
 m3:(h.map Ob.ro)[b3]?=some (QR .i64 c3 KZ).ro
 f3:K9 KZ (Dy kl)
 ks:∀k l,kl k=some l->∃c es,(h.map Ob.ro)[l]?=some (QR .i64 c es).ro/\K9 es (yA (Kd k))
 kn:∀k i,kl k=none->Kd k i=false
def LS(h:List Ob)(p:Nat)(T:List Ql)(A:List Int):Prop:=∃f e d c c2 b g i j a,Qvr h p f e d c c2 b g i j a T A (zz T A)
def jc.toR{S}{h}{p}{T}{A}:jc S h p T A->LS h p T A:=
 λ⟨n,m,j,i,c2,g,o,q,r,a,O⟩=>⟨n,m,j,i,c2,g,o,q,r,a,Z4 O.o,Z4 O.m1,O.f1,Z4 O.m2,O.f2,Z4 O.m3,O.f3,λk l b=>by
  obtain⟨c,f,e,d⟩:=O.ks k l b;exact⟨c,f,Z4 e,d⟩,O.kn⟩
def LS.more{h h':List Ob}{p}{T}{A}(e:∀(l:Nat) (o:Ob),(h.map Ob.ro)[l]?=some o->(h'.map Ob.ro)[l]?=some o):LS h p T A->LS h' p T A:=
 λ⟨q,n,m,j,c2,i,r,s,t,a,O⟩=>⟨q,n,m,j,c2,i,r,s,t,a,e _ _ O.o,e _ _ O.m1,O.f1,e _ _ O.m2,O.f2,e _ _ O.m3,O.f3,λk l b=>by
  obtain⟨c,g,f,d⟩:=O.ks k l b;exact⟨c,g,e _ _ f,d⟩,O.kn⟩
def Qvs{T}(I:JQ T){A}(n:yx T A)(b)(o:b≠0):(b∈A\/∃i,zz T A b i=true)↔Jm T A b=true:=by
 constructor;rintro (h|⟨i,j⟩);obtain⟨c,f,e,g⟩:=n b h;exact Yj.2 ⟨b,h,XJ I f⟩;obtain⟨c,f,e,g⟩:=xB.1 j;obtain⟨d,k,_⟩:=I.J9 c (yw I f) (by rw[e];exact o);rw[e]at k;exact LJ I g (by rw[Vf I f,e];exact J8 _ (XJ I k));intro h;obtain⟨a,l,j⟩:=Yj.1 h;by_cases m:a=b;subst m;exact .inl l;obtain⟨i,c,f,e,g⟩:=fZ I j m;exact .inr ⟨i,xB.2 ⟨c,e,g,Yj.2 ⟨a,l,f⟩⟩⟩
end Go.Fg.X
namespace Go.Fg.X
open Go.Proofs Go.Fg
open Go.RowKit (Below)
open Go.Proofs.Tryz
def QgQ{P}{f}{h}{u}{R}(B:D)(O:∀k,B.upto k=true)
  (hd:∀d g,R d g->JC 6 d B\/∃c z x n a,h.length<=c/\(h++g)[c]?=some ⟨.arr,z,x,n,a⟩/\(∀i,i<n->(a i).all D.XV=true)/\JC 6 (D.fz c z n x a d) B) (H:W8 P f h u R):Zf P f h u (λd=>d=B):=by
 intro Z t w j vs h1 h2 m I hc;have SL:Zh Z w.heap.size (h.map Ob.ro) j w:=by
  refine⟨m.len,m.inj,m.VU,λl o b q V F=>⟨λU=>?_,(m.at_ l o b q V F).2⟩⟩;obtain⟨N,_,rfl⟩:=G9 V;rw[cH,Kd.toRo_ro]at U;cases U
 refine(H Z w.heap.size w j vs (QB _) h2 SL I hc).mono λe E he=>?_;obtain⟨v,d,_,s,rfl,⟨g,rfl,hR⟩,L,W,hT,hB⟩:=he;have Y:∀b,b<w.heap.size->E.heap[b]? = w.heap[b]? := λb hb=>hB.block b hb;have Ze:∀(l:Nat),l<h.length->s[l]? = j[l]? := λl I=>by
  have Jq:l<j.length:=by rw[m.len];simpa using I
  obtain⟨N,p',T,m2,_,_,m3⟩:=hT.obj l _ _ (Z4 (QJ I)) (QJ Jq);rw[JJ (by simpa using I),Z4 (QJ I)]at T;cases T;obtain⟨_,rfl⟩:=m3 rfl;rw[m2,QJ Jq]
 have e1:(h.map Ob.ro++g).take h.length=h.map Ob.ro:=List.take_left' σ;have gv:QD Z (h.map Ob.ro) j E B v->_:=λhx=>(⟨v,B,h.map Ob.ro,j,rfl,⟨[],(JS _).symm,O _,rfl⟩,m.ext Y,hx,Go.Fg.Tr.ext m Y,hB.mono h1⟩:∃S d M s,Ending.returned v=.returned S/\(∃g,M=h.map Ob.ro++g/\d.upto h.length=true/\d=B)/\Zh Z t M s E/\QD Z M s E d S/\Go.Fg.Tr (h.map Ob.ro) j w M s E/\Below t w E);refine gv ?_;rcases hd _ _ hR with C|⟨c,z,x,n,a,J,ZQ,Zs,C⟩;have r:=(kP 6 C W).take (O h.length);have Q:s.take h.length=j:=by
  apply y8;intro i;rw[XB];by_cases y:i<h.length;rw[Qd y,Ze i y];rw[Qc y,Ek (by rw[m.len];simp;omega)]
 rw[e1,Q]at r;exact r;have K:(h.map Ob.ro++g)[c]?=some ⟨.arr,z,x,n,a⟩:=by
  rw[Kc ω]at ZQ;rw[Kc (by simpa using J)];simpa using ZQ
 have Qb:c<s.length:=by rw[L.len];exact(W3.1 K).1
 obtain⟨p,F⟩:∃p,s[c]?=some p:=⟨_,QJ Qb⟩;have B6:=W.fz (l:=c) (o:=⟨.arr,z,x,n,a⟩) (p:=p) K F rfl (λb q e=>by
  subst e;refine⟨h2 b ?_,λl' q' e'=>L.inj _ _ _ _ _ e' F,(L.at_ c _ b q K F).2.cells rfl⟩;exact(L.at_ c _ b q K F).1 rfl) Zs (h':=(h.map Ob.ro++g).set c (Ob.gone ⟨.arr,z,x,n,a⟩)) (λl' N QC e=>by
  exact⟨N,by rw[JG (Q8 QC)];exact e,rfl,rfl,rfl⟩)
 have r:=(kP 6 C B6).take (O h.length);have e3:((h.map Ob.ro++g).set c (Ob.gone ⟨.arr,z,x,n,a⟩)).take h.length=h.map Ob.ro:=by
  rw[Im _ _ (by simpa using J)];exact List.take_left' σ
 have Q:(s.set c none).take h.length=j:=by
  apply y8;intro i;rw[XB];by_cases y:i<h.length;rw[Qd y,JG ω,Ze i y];rw[Qc y,Ek (by rw[m.len];simp;omega)]
 rw[e3,Q]at r;exact r
end Go.Fg.X
namespace Go.Fg.X
open Go.Proofs Go.Fg
open Go.Proofs.Tryz
section
variable (h:List Ob)(t m c:Nat){es:List ZC}{L:List Ql}(T:Vy es L)(hlen:L.length<1000000)
 (ht:(h.map Ob.ro)[t]?=some ⟨.Wb,0,1,1,λ_=>[.mref m 0]⟩) (hm:(h.map Ob.ro)[m]?=some (QR .i64 c es).ro)
include T ht hm hlen
theorem Qvt:W8 prog 109 h [.ptr t 0 0 0] (λd g=>Ke h.length (h++g) d ((L.filter (·.leaf)).map (·.iD))):=by
 refine BR Vd 200 func109 rfl ntmps109 results109 rfl λa w i F e f b=>?_;rw[<- e]at ht hm;have p:=Qb ht;have o:=Qb hm;simp only[go_sem];have k:SZ (F.map Ob.ro) 141 0 [] (λx=>x.leaf):=λn x l=>by
  refine ZH func141 ntmps141 results141 λa w i F e f b=>?_;simp only[go_sem,Qj];exact⟨_,rfl⟩
 refine Ha b fo rfl ?_ (fQ _ t m c T hlen (Z4 ht) (LF hm) (.raw (.func (.func 141) ⟨[]⟩ ⟨[]⟩)) 141 0 [] Qs5 rfl _ k) rfl λd g j=>?_;simp only[go_sem];apply Qg b;exact Ke.done f ⟨_,rfl⟩ j
end
def Ho{h g:List Ob}(l:Nat)(o:Ob)(e:(h.map Ob.ro)[l]?=some o):((h++g).map Ob.ro)[l]?=some o:=by
 rw[ju,JJ (KA e)];exact e
def Ke.closed{P}{f}{h:List Ob}{a}{L}(H:W8 P f h a (λd g=>Ke h.length (h++g) d L)):Zf P f h a (λd=>d=ints L):=by
 refine QgQ (ints L) (λ_=>rfl) ?_ H;rintro d g (⟨rfl,m⟩|⟨c,e,p,b,rfl,⟨o,rfl⟩,l,j⟩);subst m;exact .inl rfl;refine .inr ⟨c,e,1,_,b,o,l,λi k=>?_,?_⟩;have:=j i ω;rw[Jz]at this;rw[this];rfl;have n:D.fz c e (0+L.length) 1 b (.ref c e 0 L.length)=.imm 1 L.length (rowFrom 0 b):=by simp[D.fz,EU]
 rw[n];simp only[ints];rw[SK];refine⟨rfl,rfl,λi k=>?_⟩;rw[G7,j i k,Qt7];exact vW (zx _) _
def Qvu(h)(x):Zf prog 128 h [WV x] (λd=>d=QU true):=by
 refine ZH func128 ntmps128 results128 λa w b F e f c=>?_;simp only[go_sem];all_goals exact W9
section
variable (h:List Ob)(t m c:Nat){es:List ZC}{L:List Ql}(T:Vy es L)(hlen:L.length<1000000)
 (ht:(h.map Ob.ro)[t]?=some ⟨.Wb,0,1,1,λ_=>[.mref m 0]⟩) (hm:(h.map Ob.ro)[m]?=some (QR .i64 c es).ro)
include T ht hm hlen
theorem Qvv:W8 prog 93 h [.ptr t 0 0 0] (λd g=>Ke h.length (h++g) d ((L.filter (λ_=>true)).map (·.iD))):=by
 refine BR Vd 200 func93 rfl ntmps93 results93 rfl λb w n F i k a=>?_;rw[<- i]at ht hm;have p:=Qb ht;have o:=Qb hm;simp only[go_sem];have f:SZ (F.map Ob.ro) 128 0 [] (λx=>true):=λj x l=>Qvu j x;refine Ha a fo rfl ?_ (fQ _ t m c T hlen (Z4 ht) (LF hm) (.raw (.func (.func 128) ⟨[]⟩ ⟨[]⟩)) 128 0 [] QsY rfl _ f) rfl λd g e=>?_;simp only[go_sem];apply Qg a;exact Ke.done k ⟨_,rfl⟩ e
end
def WD(S:Nat->Prop)(h:List Ob)(t:Nat)(T:List Ql):Prop:=∃m c a,h[t]?=some ⟨.one,0,1,1,λ_=>[.mref m 0]⟩/\h[m]?=some (QR .i64 c a)/\Vy a T/\S t/\S m
def Xu(h:List Ob)(t:Nat)(T:List Ql):Prop:=∃m c a,(h.map Ob.ro)[t]?=some ⟨.Wb,0,1,1,λ_=>[.mref m 0]⟩/\(h.map Ob.ro)[m]?=some (QR .i64 c a).ro/\Vy a T
def WD.toR{S}{h}{t}{T}:WD S h t T->Xu h t T:=λ⟨m,c,e,d,b,a,_,_⟩=>⟨m,c,e,Z4 d,Z4 b,a⟩
def WD.step{S S'}{h h':List Ob}{t}{T}(e:∀l,l<h.length->S l->S' l/\h'[l]? = h[l]?):WD S h t T->WD S' h' t T:=λ⟨m,c,i,b,a,g,f,d⟩=>
 ⟨m,c,i,((e _ (Qb b) f).2).trans b,((e _ (Qb a) d).2).trans a,g,(e _ (Qb b) f).1,(e _ (Qb a) d).1⟩
def Xu.more{h h':List Ob}{t}{T}(e:∀(l:Nat) (o:Ob),(h.map Ob.ro)[l]?=some o->(h'.map Ob.ro)[l]?=some o):Xu h t T->Xu h' t T:=λ⟨m,c,f,d,b,a⟩=>⟨m,c,f,e _ _ d,e _ _ b,a⟩
section
variable {h:List Ob}{t:Nat}{T:List Ql}(R:Xu h t T)(hlen:T.length<1000000)
include R hlen
theorem rX:Zf prog 93 h [.ptr t 0 0 0] (λd=>d=ints (T.map (·.iD))):=by
 obtain⟨m,c,f,a,b,e⟩:=R;have:=Ke.closed (Qvv h t m c e hlen a b);rwa [y9.2 (λ_ _=>rfl)]at this
theorem Qvw(a):Zf prog 171 h [.ptr t 0 0 0,Qa a] (λd=>d=ints (KE T a)):=by
 obtain⟨m,c,g,b,e,f⟩:=R;exact Ke.closed (ru h t m c f hlen b e a)
omit hlen in
theorem rY(I:TreeInv T)(a):Zf prog 105 h [.ptr t 0 0 0,Qa a] (λd=>d=ints (ZF T 16 a)):=by
 obtain⟨m,c,g,b,e,f⟩:=R;exact Ke.closed (Qgb h t m c f b e a 16 π (I.ends a))
omit hlen in
theorem OY(a:Int):Zf prog 74 h [.ptr t 0 0 0,Qa a] (λd=>d=.tup [WV ((Qw T a).getD default),Qa (if (Qw T a).isSome then 0 else 6)]):=by
 obtain⟨m,c,g,b,e,f⟩:=R;exact Qga h t m c f b e a
end
def gw{f}{a:List ZC}(M:K9 a (yA f)):0<a.length↔∃i,f i=true:=by
 constructor;intro h;refine wP λd=>?_;have:=M.QgP.2 λk=>by
  unfold yA;rw[Qc (λc=>d ⟨k,c⟩)]
 omega;rintro⟨i,b⟩;refine Nat.pos_of_ne_zero λh=>?_;have:=M.QgP.1 h i;unfold yA at this;rw[Qd b]at this;cases this
def OZ{h}{p}{T}{A}(O:LS h p T A)(I:JQ T)(L:yx T A)(a)(M:a≠0):Zf prog 113 h [.ptr p 0 0 0,Qa a] (λd=>d=QU (Jm T A a)):=by
 obtain⟨V,U,S,R,c2,Q,W,Y,KZ,J,O⟩:=O;obtain⟨f,P,f1,b,f2,j,f3,E,H⟩:=O;have r:=Qvs I L a M;have k:=f2.at_ a;have o:=f3.at_ a;by_cases n:a∈A
 .have e:Jm T A a=true:=r.1 (.inl n);rw[AL,Qd n]at k;rw[e];refine ZH func113 ntmps113 results113 λg w v F m y x=>?_;rw[<- m]at f b;have z:=Qb f;have u:=Qb b;simp only[go_sem,f,b,k,Go.undef];all_goals exact W9
 .rw[AL,Qc n]at k;cases q:J a with
  | none=>
   have e:Jm T A a=false:=by
    rw[X9];intro h;rcases r.2 h with h|⟨i,h⟩;exact n h;rw[H a i q]at h;cases h
   rw[Dy,q,qw]at o;rw[e];refine ZH func113 ntmps113 results113 λg w v F m y x=>?_;rw[<- m]at f b j;have z:=Qb f;have u:=Qb b;have C:=Qb j;simp only[go_sem,f,b,j,k,o];all_goals exact W9
  | some l=>
   obtain⟨c,t,ml,N⟩:=E a l q;rw[Dy,q,KM]at o;have K:=gw N;have B:0<t.length↔Jm T A a=true:=K.trans ⟨λh=>r.1 (.inr h),λh=>(r.2 h).elim (λh=>absurd h n) λh=>h⟩;have d0:decide (0<t.length)=Jm T A a:=by
    cases s:Jm T A a with
    | true=>exact QS (B.2 s)
    | false=>exact QG λh=>by rw[B.1 h]at s;cases s
   have d1:decide ((0:Int)<(t.length:Int))=Jm T A a:=by rw[<- d0];congr 1;rw[Iz];omega
   refine ZH func113 ntmps113 results113 λg w v F m y x=>?_;rw[<- m]at f b j ml;have z:=Qb f;have u:=Qb b;have C:=Qb j;have Z:=Qb ml;simp only[go_sem,f,b,j,ml,k,o,d1];all_goals exact W9
def Step.Tq{S}{h H:List Ob}(s:Step S h H){l}(b:more S h l)(o):Step S h (H.set l o):=
 ⟨λj c a=>by
  have d:l≠j:=by
   rintro rfl;rcases b with h3|h3;exact a h3;omega
  rw[Qp d];exact s.keep j c a,by rw[Kx];exact s.len⟩
def Step.r5{S}{h H}(s:Step S h H)(g):Step S h (H++g):=
 ⟨λj a b=>by rw[QE (vJ a s.len)];exact s.keep j a b,by have:=s.len;simp;omega⟩
structure O1 (S:Nat->Prop) (h:List Ob) (p:Nat) (T:List Ql) (A:List Int) (leaf:Int) (n:Nat) (s:St):Prop where
 ex:∃id dn c lo g row H S' b1 b2 b3 c1 c2 c3 ZM Z7 KZ kl,up T leaf=dn++up T id/\Qw T id=some c/\(up T id).length<=n/\(∀i∈dn++[id],Jm T A i=false) /\
  ja S' H p b1 b2 b3 c1 c2 c3 ZM Z7 KZ kl T (leaf::A) (jL T A dn)/\(∀l,S' l->more S h l/\l<H.length)/\¬ S' lo/\h.length<=lo/\Step S h H /\
  H[lo]?=some ⟨.arr,g,1,dn.length+1,row⟩/\(∀i,i<dn.length+1->row i=[Qa ((dn++[id]).getD i 0)]) /\
  s=⟨[(0,.ptr p 0 0 0),(6,.ref lo g 0 (dn.length+1)),(7,Qa id)],H⟩
section
variable {S:Nat->Prop}{h:List Ob}{p b1 b2 b3 c1 c2 c3:Nat}{ZM Z7 KZ:List ZC}{kl:Int->Option Nat}{T:List Ql}{A:List Int}{Kd:Int->Int->Bool}(O:ja S h p b1 b2 b3 c1 c2 c3 ZM Z7 KZ kl T A Kd)
include O
theorem ja.QgS{c2'}{a}{A'}(g:K9 a (AL T A')):ja S (h.set b2 (QR .i64 c2' a)) p b1 b2 b3 c1 c2' c3 ZM a KZ kl T A' Kd:=by
 refine⟨(Qp (Q8 O.Tp)).trans O.o,(Qp (Q8 O.Tm)).trans O.m1,O.f1,QF (Qb O.m2),g,(Qp O.OX).trans O.m3,O.f3,λk l b=>?_,O.kn,O.ki,O.Tm,O.Tn,O.OX,O.gu,O.Tp,O.Fu,O.nk,O.sp,O.s1,O.s2,O.s3,O.sk⟩;obtain⟨c,f,e,d⟩:=O.ks k l b;exact⟨c,f,(Qp (Q8 (O.nk k l b).2.2.1)).trans e,d⟩
theorem ja.QgT{k}{l c'}{es'}{Kd'}(b:kl k=some l)(M:K9 es' (yA (Kd' k)))(g:∀j,j≠k->∀i,Kd' j i=Kd j i):ja S (h.set l (QR .i64 c' es')) p b1 b2 b3 c1 c2 c3 ZM Z7 KZ kl T A Kd':=by
 obtain⟨u,t,s,r⟩:=O.nk k l b;have v:l<h.length:=by
  obtain⟨c,q,f,n⟩:=O.ks k l b;exact Qb f
 refine⟨(Qp u).trans O.o,(Qp t).trans O.m1,O.f1,(Qp s).trans O.m2,O.f2,(Qp r).trans O.m3,O.f3,λj m a=>?_,λj i a=>?_,O.ki,O.Tm,O.Tn,O.OX,O.gu,O.Tp,O.Fu,O.nk,O.sp,O.s1,O.s2,O.s3,O.sk⟩;by_cases d:j=k;subst d;rw[b]at a;cases a;exact⟨c',es',QF v,M⟩;obtain⟨c,q,f,n⟩:=O.ks j m a;have w:l≠m:=λe=>d (O.ki j k m a (by rw[<- e];exact b));exact⟨c,q,(Qp w).trans f,n.to λi=>by unfold yA;rw[g j d i]⟩;have d:j≠k:=by rintro rfl;rw[b]at a;cases a
 rw[g j d i];exact O.kn j i a
theorem ja.Qvx{k}{n c c3'}{e es3'}{Kd'}(u:h[n]?=some (QR .i64 c e))(M:K9 e (yA (Kd' k)))(x:n≠p)(w:n≠b1)(v:n≠b2)(s:n≠b3)(r:∀j l,kl j=some l->l≠n)(t:S n)
  (B:K9 es3' (λj=>if j=k then some (.mref n 0) else Dy kl j)) (q:∀j,j≠k->∀i,Kd' j i=Kd j i):ja S (h.set b3 (QR .i64 c3' es3')) p b1 b2 b3 c1 c2 c3' ZM Z7 es3' (λj=>if j=k then some n else kl j) T A Kd':=by
 refine⟨(Qp (Q8 O.Fu)).trans O.o,(Qp (Q8 O.Tn)).trans O.m1,O.f1,(Qp (Q8 O.OX)).trans O.m2,O.f2,QF (Qb O.m3),B.to λj=>?_,λj m a=>?_,λj i a=>?_,λj g m a d=>?_,O.Tm,O.Tn,O.OX,O.gu,O.Tp,O.Fu,λj m a=>?_,O.sp,O.s1,O.s2,O.s3,λj m a=>?_⟩;by_cases b:j=k<;>simp[Dy,b];by_cases b:j=k;subst b;rw[Qd rfl]at a;cases a;exact⟨c,e,(Qp (Q8 s)).trans u,M⟩;rw[Qc b]at a;obtain⟨c,e,z,y⟩:=O.ks j m a;exact⟨c,e,(Qp (Q8 (O.nk j m a).2.2.2)).trans z,y.to λi=>by unfold yA;rw[q j b i]⟩;by_cases b:j=k;subst b;rw[Qd rfl]at a;cases a;rw[Qc b]at a;rw[q j b i];exact O.kn j i a;by_cases b:j=k;by_cases f:g=k;rw[b,f];rw[Qd b]at a;rw[Qc f]at d;cases a;exact absurd rfl (r _ _ d);by_cases f:g=k;rw[Qc b]at a;rw[Qd f]at d;cases d;exact absurd rfl (r _ _ a);rw[Qc b]at a;rw[Qc f]at d;exact O.ki j g m a d;by_cases b:j=k;rw[Qd b]at a;cases a;exact⟨x,w,v,s⟩;rw[Qc b]at a;exact O.nk j m a;by_cases b:j=k;rw[Qd b]at a;cases a;exact t;rw[Qc b]at a;exact O.sk j m a
theorem ja.app(g):ja S (h++g) p b1 b2 b3 c1 c2 c3 ZM Z7 KZ kl T A Kd:=O.step λl a b=>⟨b,QE a⟩
end
def O1.of{S}{h}{p}{T}{A}{a}{n}{b}{dn}{c}{e g k}(d){H}(f){t s r q o m}{u v w}{j}
  (x:up T a=dn++up T b) (C:Qw T b=some c) (z:(up T b).length<=n) (E:∀i∈dn++[b],Jm T A i=false) (O:ja f H p t s r q o m u v w j T (a::A) (jL T A dn)) (F:∀l,f l->more S h l/\l<H.length) (L:¬ f e) (K:h.length<=e) (y:Step S h H)
  (B:k=dn.length+1) (J:H[e]?=some ⟨.arr,g,1,k,d⟩) (I:∀i,i<dn.length+1->d i=[Qa ((dn++[b]).getD i 0)]):O1 S h p T A a n ⟨[(0,.ptr p 0 0 0),(6,.ref e g 0 k),(7,Qa b)],H⟩:=by
 subst B;exact⟨⟨b,dn,c,e,g,d,H,f,t,s,r,q,o,m,u,v,w,j,x,C,z,E,O,F,L,K,y,J,I,rfl⟩⟩
def Qvy(T)(A)(a:Int)(k):(if k=a then some (Qa ((Qw T a).getD default).parent) else AL T A k)=AL T (a::A) k:=by
 unfold AL;by_cases h:k=a;subst h;simp;simp[h]
def QgU{S}{h}{p}{T}{A}(O:jc S h p T A)(I:JQ T)(hA:yx T A)(a)(c:Ql)(hc:Qw T a=some c)(qb:c.leaf=true)(zB:1<QH c.ls)(ZP:Jm T A a=false):
  QM prog 76 h [.ptr p 0 0 0,Qa a] (λd h'=>∃d1,d=.tup [d1,Qa 0]/\Ke h.length h' d1 (VH T A a)/\jc (more S h) h' p T (a::A)/\Step S h h'):=by
 have O0:=O;have hR:=O.toR;obtain⟨b1,b2,J,c1,c2,c3,ZM,Z7,KZ,Z,O⟩:=O;have y:=O.o;have Q:=O.m1;have m2:=O.m2;have Y:=O.m3;have E:=O.f1.at_ a;rw[wi,hc]at E;simp only[Qd zB,qb,LR,Vu]at E;have r6:a≠0:=λe=>by rw[e,LH I]at hc;cases hc
 have LV:=OZ hR I hA a r6;rw[ZP]at LV;obtain⟨W,Fv,R,M2⟩:=O.f2.set .i64 c2 a (Qa c.parent);simp only[go_sem]at R;refine Q7 func76 ntmps76 results76 λa5 w pl hb=>?_;have Qr:=Qb y;have Tt:=Qb Q;simp only[go_sem,y,Q,E];apply Zz hb SQ LV;apply Qg hb;apply Qv hb i6;simp only[go_sem,Qj,y,Q,m2,E];simp only[R];have Tu:O1 S h p T A a (up T a).length ⟨[(0,.ptr p 0 0 0),(6,.ref h.length 0 0 1),(7,Qa a)],h.set b2 (QR .i64 W Fv)++[⟨.arr,0,1,1,λ_=>[Qa a]⟩]⟩:=by
  have K:=((O.step (S':=λl=>S l/\l<h.length) λl B N=>⟨⟨N,B⟩,rfl⟩).QgS (c2':=W) (M2.to λk=>by
   have hp:(Qw T a).getD default=c:=by rw[hc];rfl
   have:=Qvy T A a k;rw[hp]at this;exact this)).app [⟨.arr,0,1,1,λ_=>[Qa a]⟩]
  refine⟨a,[],c,h.length,0,λ_=>[Qa a],_,λl=>S l/\l<h.length,b1,b2,J,c1,W,c3,ZM,Fv,KZ,Z,rfl,hc,QB _,λi q=>?_,?_,λl B=>⟨.inl B.1,by have:=B.2;simp;omega⟩,λB=>by have:=B.2;omega,QB _,⟨λl B N=>?_,σ⟩,?_,λi q=>?_,rfl⟩;simp only[zR,Yx]at q;rw[q];exact ZP;rw[show jL T A []=zz T A from funext λp=>funext λi=>Qu0 T A p i];exact K;rw[QE (by simpa using B),Qp (λ(e:b2=l)=>N (e▸O.s2))];rw[Vc σ];rfl;obtain rfl:i=0:=by simp at q;omega
  rfl
 refine G2 (O1 S h p T A a) (up T a).length QO Tu ?_;clear Tu O Q m2 Y y E R M2 LV O0 hR;rintro n s ⟨id,m,b,r,g,t,H,S',b1,b2,J,c1,c2,c3,ZM,Z7,KZ,Z,hu,M,hn,Hp,O,hS,ZQ,yB,QZ,vh,ZW,rfl⟩;have y:=O.o;have Q:=O.m1;have Y:=O.m3;have Qr:=Qb y;have Tt:=Qb Q;have C:=Qb Y;have Hq:=Qb vh;obtain⟨d0,Dz,J4⟩:=Qgl I hc zB id (by rw[hu];exact NA _ (XJ I M));rw[M]at Dz;cases Dz;have E:=O.f1.at_ id;rw[wi,M]at E;simp only[Qd J4]at E;have k3:=O.f3.at_ b.parent;have Ja:=QuY I hA hu M Hp;have gy:=QuZ I (A:=A) (dn:=m) M;have r7:J≠r:=λe=>ZQ (e▸O.s3);have a8:p≠r:=λe=>ZQ (e▸O.sp);have a7:b1≠r:=λe=>ZQ (e▸O.s1);have V:∀(U:List Ob) (S2:Nat->Prop) o f a0,ja S2 U p b1 b2 J c1 c2 o ZM Z7 f a0 T (a::A) (jL T A (m++[id]))->(∀l,S2 l->more S h l)->Step S h U->U[r]?=some ⟨.arr,g,1,m.length+1,t⟩->(b.parent=0\/Jm T A b.parent=true) ->
   Ke h.length U (.ref r g 0 (m.length+1)) (VH T A a)/\jc (more S h) U p T (a::A)/\Step S h U:=λU S2 o f a0 K LW jd a3 he=>by
  obtain⟨e1,R⟩:=Qu1 I hA hu M Hp he;rw[<- e1];refine⟨.inr ⟨r,g,0,t,σ,⟨yB,rfl⟩,by simpa using a3,λi q=>?_⟩,?_,jd⟩;rw[Jz];exact ZW i (by simpa using q);rw[show jL T A (m++[id])=zz T (a::A) from funext λp=>funext λi=>R p i]at K;exact⟨_,_,_,_,_,_,_,_,_,_,K.step λl B N=>⟨LW l N,rfl⟩⟩
 by_cases B7:∃i,jL T A m b.parent i=true
 ·
  cases z:Z b.parent with
  | none=>obtain⟨i,q⟩:=B7;rw[O.kn _ i z]at q;cases q
  | some l=>
   obtain⟨c,P,ml,fl⟩:=O.ks _ l z;have LU:=Qb ml;rw[Dy,z,KM]at k3;have YX:0<P.length:=(gw fl).2 B7;have d1:((P.length:Int)==0)=false:=Vw ω;have d2:decide ((0:Int)<(P.length:Int))=true:=QS ω;have Fw:=(O.nk _ l z).2.2.2;have r8:l≠r:=λe=>ZQ (e▸O.sk _ l z);obtain⟨c',a2,ea,M'⟩:=fl.set .i64 c id (Qa 1);simp only[go_sem]at ea;have he:b.parent=0\/Jm T A b.parent=true:=by
    by_cases u:b.parent=0;exact .inl u;obtain⟨d,hd,B0⟩:=I.J9 b (yw I M) u;exact .inr ((Qgk I hA hd B0).2 (Ja.1 B7))
   have K:=O.QgT (c':=c') (es':=a2) (Kd':=jL T A (m++[id])) z (M'.to λj=>by
    unfold yA;rw[gy];by_cases F:j=id;simp[F];simp[F]) (λj F i=>by rw[gy,Qc (λh=>F h.1)])
   apply Qh hb;simp only[go_sem,y,Q,Y,E,k3,ml,d1,d2,Go.undef];simp only[ea];exact⟨_,rfl,V _ _ _ _ _ K (λl h=>(hS l h).1) (QZ.Tq (hS l (O.sk _ l z)).1 _) ((Qp r8).trans vh) he⟩
 ·
  have hz:∀i,jL T A m b.parent i=false:=λi=>by
   rw[X9];exact λh=>B7 ⟨i,h⟩
  have hB:(Z b.parent=none/\True/\True/\True)\/∃l c P,Z b.parent=some l/\H[l]?=some (QR .i64 c P)/\l<H.length/\P.length=0:=by
   cases z:Z b.parent with
   | none=>exact .inl ⟨rfl,trivial,trivial,trivial⟩
   | some l=>
    obtain⟨c,P,ml,fl⟩:=O.ks _ l z;refine .inr ⟨l,c,P,rfl,ml,Qb ml,?_⟩;have:=(gw fl).1;by_cases u:0<P.length;exact absurd (this u) B7;omega
  obtain⟨o,f,e3,M3⟩:=O.f3.set .i64 c3 b.parent (.mref H.length 0);obtain⟨O3,O5,e0,M0⟩:=K9.nil.set .i64 0 id (Qa 1);simp only[go_sem]at e3 e0;have Tv:=M3.at_ b.parent;rw[Qd rfl]at Tv;have Tw:∀l,S' l->l≠H.length:=λl x e=>by have:=(hS l x).2;omega
  have a6:=QZ.len;have K:=((O.app [QR .i64 O3 O5]).step (S':=λl=>S' l\/l=H.length) λl _ N=>⟨.inl N,rfl⟩).Qvx (k:=b.parent) (n:=H.length) (c3':=o) (es3':=f) (Kd':=jL T A (m++[id])) (Vc rfl) (M0.to λj=>by
    unfold yA;rw[gy,hz];by_cases F:j=id;simp[F];simp[F]) (λe=>Tw p O.sp e.symm) (λe=>Tw b1 O.s1 e.symm) (λe=>Tw b2 O.s2 e.symm) (λe=>Tw J O.s3 e.symm) (λj l F=>Tw l (O.sk j l F)) (.inr rfl) M3 (λj F i=>by rw[gy,Qc (λh=>F h.1)])
  rw[Dj C]at K;have jd:=(QZ.Tq (hS J O.s3).1 (QR .i64 o f)).r5 [QR .i64 O3 O5];have Tz:((H.set J (QR .i64 o f))++[QR .i64 O3 O5])[r]?=some ⟨.arr,g,1,m.length+1,t⟩:=by
   rw[QE (by simpa using Hq),Qp r7];exact vh
  have LW:∀l,(S' l\/l=H.length)->more S h l:=λl x=>x.elim (λh=>(hS l h).1) λe=>.inr ω;have B0:m.length<=16:=by
   have e:=congrArg List.length hu;have:=yu (L:=T) (n:=16) (id:=a);rw[Zk]at e;unfold up at e;omega
  have za:b.parent≠0->O1 S h p T A a (up T b.parent).length ⟨[(0,.ptr p 0 0 0),(6,.ref r (g+1) 0 (m.length+1+1)),(7,Qa b.parent)],
    (H.set J (QR .i64 o f)).set r ⟨.arr,g+1,1,m.length+1+1,JO (m.length+1) 0 t λ_=>[Qa b.parent]⟩++[QR .i64 O3 O5,⟨.arr,0,1,1,λ_=>[Qa b.parent]⟩]⟩:=λu=>by
   obtain⟨d,hd,a4⟩:=I.J9 b (yw I M) u;have e1:(m++[id]).length+1=m.length+1+1:=σ;have Fa:Jm T A b.parent=false:=by
    rw[X9];exact λhq=>B7 (Ja.2 ((Qgk I hA hd a4).1 hq))
   have TA:r<(H.set J (QR .i64 o f)).length:=by simpa using Hq
   have R:(H.set J (QR .i64 o f)).set r ⟨.arr,g+1,1,m.length+1+1,JO (m.length+1) 0 t λ_=>[Qa b.parent]⟩++[QR .i64 O3 O5,⟨.arr,0,1,1,λ_=>[Qa b.parent]⟩] =
     (H.set J (QR .i64 o f)++[QR .i64 O3 O5]).set r ⟨.arr,g+1,1,m.length+1+1,JO (m.length+1) 0 t λ_=>[Qa b.parent]⟩++[⟨.arr,0,1,1,λ_=>[Qa b.parent]⟩]:=by
    rw[Dj TA];simp
   rw[R];have a1:∀l,(S' l\/l=H.length)->l≠r:=λl x e=>by
    subst e;rcases x with x|x;exact ZQ x;omega
   refine O1.of (JO (m.length+1) 0 t λ_=>[Qa b.parent]) (λl=>S' l\/l=H.length) (dn:=m++[id]) ?_ hd (QB _) (λi q=>?_) (K.step (λl B N=>⟨N,?_⟩)) (λl x=>⟨LW l x,?_⟩) (λB=>a1 r B rfl) yB ((jd.Tq (.inr yB) _).r5 _) e1.symm ?_ ?_;rw[hu,Vf I M];simp;rcases Q1.1 q with q|q;exact Hp i q;rw[Yx.1 q];exact Fa;rw[QE (by simpa using B),Qp (Q8 (a1 l N))];rcases x with x|x;have:=(hS l x).2;simp;omega;simp;omega;rw[QE ξ,QF ξ];intro i q;have:=LD (dn:=m++[id]) (off:=0) (row:=t) (v:=b.parent) (λi q=>by rw[Jz];exact ZW i (by simpa using q)) i (by simpa using q);rw[Jz]at this;simpa using this
  rcases hB with ⟨z,ml,LU,dM⟩|⟨l,c,P,z,ml,LU,dM⟩;rw[Dy,z,qw]at k3;apply Qh hb;simp only[go_sem,Qj,y,Qr,Q,Y,C,E,k3];simp only[e3];by_cases u:b.parent=0;have d0:(b.parent==0)=true:=by simpa using u
  simp only[go_sem,Qj,y,Qp (Q8 O.Fu),QF C,C,Tv,e0,d0];exact⟨_,rfl,V _ _ _ _ _ K LW jd Tz (.inl u)⟩;have d0:(b.parent==0)=false:=by simpa using u
  simp only[go_sem,Qj,y,Qp (Q8 O.Fu),QF C,C,Tv,e0,d0,vh,Qp r7,Hq];refine⟨ω,(up T b.parent).length,⟨[(0,.ptr p 0 0 0),(6,.ref r (g+1) 0 (m.length+1+1)),(7,Qa b.parent)],_⟩,?_,QO,za u⟩;have:=congrArg List.length (Vf I M);simp only[Kw]at this;omega;rw[Dy,z,KM]at k3;apply Qh hb;simp only[go_sem,Qj,y,Qr,Q,Y,C,E,k3,ml,dM];simp only[e3];by_cases u:b.parent=0;have d0:(b.parent==0)=true:=by simpa using u
  simp only[go_sem,Qj,y,Qp (Q8 O.Fu),QF C,C,Tv,e0,d0];exact⟨_,rfl,V _ _ _ _ _ K LW jd Tz (.inl u)⟩;have d0:(b.parent==0)=false:=by simpa using u
  simp only[go_sem,Qj,y,Qp (Q8 O.Fu),QF C,C,Tv,e0,d0,vh,Qp r7,Hq];refine⟨ω,(up T b.parent).length,⟨[(0,.ptr p 0 0 0),(6,.ref r (g+1) 0 (m.length+1+1)),(7,Qa b.parent)],_⟩,?_,QO,za u⟩;have:=congrArg List.length (Vf I M);simp only[Kw]at this;omega
structure O6 (S:Nat->Prop) (h:List Ob) (p:Nat) (T:List Ql) (A:List Int) (leaf:Int) (n:Nat) (s:St):Prop where
 ex:∃id dn c lo g row H S' b1 b2 b3 c1 c2 c3 ZM Z7 KZ kl,up T leaf=dn++up T id/\Qw T id=some c/\(up T id).length<=n/\(∀i∈dn++[id],Jm T (J6 A leaf) i=false) /\
  ja S' H p b1 b2 b3 c1 c2 c3 ZM Z7 KZ kl T (J6 A leaf) (kZ T A dn)/\(∀l,S' l->more S h l/\l<H.length)/\¬ S' lo/\h.length<=lo/\Step S h H /\
  H[lo]?=some ⟨.arr,g,1,dn.length+1,row⟩/\(∀i,i<dn.length+1->row i=[Qa ((dn++[id]).getD i 0)]) /\
  s=⟨[(0,.ptr p 0 0 0),(6,.ref lo g 0 (dn.length+1)),(7,Qa id)],H⟩
def O6.of{S}{h}{p}{T}{A}{a}{n}{b}{dn}{c}{e g k}(d){H}(f){t s r q o m}{u v w}{j}
  (x:up T a=dn++up T b) (C:Qw T b=some c) (z:(up T b).length<=n) (E:∀i∈dn++[b],Jm T (J6 A a) i=false) (O:ja f H p t s r q o m u v w j T (J6 A a) (kZ T A dn)) (F:∀l,f l->more S h l/\l<H.length) (L:¬ f e) (K:h.length<=e) (y:Step S h H)
  (B:k=dn.length+1) (J:H[e]?=some ⟨.arr,g,1,k,d⟩) (I:∀i,i<dn.length+1->d i=[Qa ((dn++[b]).getD i 0)]):O6 S h p T A a n ⟨[(0,.ptr p 0 0 0),(6,.ref e g 0 k),(7,Qa b)],H⟩:=by
 subst B;exact⟨⟨b,dn,c,e,g,d,H,f,t,s,r,q,o,m,u,v,w,j,x,C,z,E,O,F,L,K,y,J,I,rfl⟩⟩
def QvA(T)(A)(a)(k):(if k=a then none else AL T A k)=AL T (J6 A a) k:=by
 unfold AL J6;by_cases h:k=a;subst h;simp;simp[h,Jt]
def QvB{S}{h}{p}{T}{A}(O:jc S h p T A)(I:JQ T)(hA:yx T A)(a)(c:Ql)(N:Qw T a=some c)(qb:c.leaf=true)(zB:1<QH c.ls)(R:a∈A)(ZP:Jm T (J6 A a) a=false):
  QM prog 214 h [.ptr p 0 0 0,Qa a] (λd h'=>∃d1,d=.tup [d1,Qa 0]/\Ke h.length h' d1 (VH T (J6 A a) a)/\jc (more S h) h' p T (J6 A a)/\Step S h h'):=by
 have O0:=O;have hR:=O.toR;obtain⟨b1,b2,b3,c1,c2,c3,ZM,Z7,KZ,kl,O⟩:=O;have x:=O.o;have z:=O.m1;have m2:=O.m2;have K:=O.m3;have rZ:=Qb m2;have t:=O.f1.at_ a;rw[wi,N]at t;simp only[Qd zB,qb,LR,Vu]at t;have r6:a≠0:=λe=>by rw[e,LH I]at N;cases N
 have LV:=OZ hR I hA a r6;rw[(LK R a).2 (.inl (XJ I N))]at LV;have M2:=O.f2.del a;refine Q7 func214 ntmps214 results214 λa3 w pl Q=>?_;have Qr:=Qb x;have Tt:=Qb z;simp only[go_sem,x,z,t];apply Zz Q SQ LV;apply Qh Q;simp only[go_sem,Qj,x,m2];have Tu:O6 S h p T A a (up T a).length ⟨[(0,.ptr p 0 0 0),(6,.ref h.length 0 0 1),(7,Qa a)],h.set b2 (QR .i64 c2 (JV Z7 a))++[⟨.arr,0,1,1,λ_=>[Qa a]⟩]⟩:=by
  have P:=((O.step (S':=λl=>S l/\l<h.length) λl f r=>⟨⟨r,f⟩,rfl⟩).QgS (c2':=c2) (A':=J6 A a) (M2.to λk=>QvA T A a k)).app [⟨.arr,0,1,1,λ_=>[Qa a]⟩];rw[<- show kZ T A []=zz T A from funext λp=>funext λi=>by simp[kZ]]at P;refine O6.of (λ_=>[Qa a]) (λl=>S l/\l<h.length) (dn:=[]) rfl N (QB _) (λi o=>?_) P (λl f=>⟨.inl f.1,by have:=f.2;simp;omega⟩) (λf=>by have:=f.2;omega) (QB _) ⟨λl f r=>?_,σ⟩ rfl ?_ (λi o=>?_);simp only[zR,Yx]at o;rw[o];exact ZP;rw[QE (by simpa using f),Qp (λ(e:b2=l)=>r (e▸O.s2))];rw[Vc σ];rfl;obtain rfl:i=0:=by simp at o;omega
  rfl
 refine G2 (O6 S h p T A a) (up T a).length QO Tu ?_;clear Tu O z m2 K x t M2 LV O0 hR;rintro n s ⟨id,m,b,M,g,y,H,S',b1,b2,b3,c1,c2,c3,ZM,Z7,KZ,kl,B,q,hn,Hp,O,Y,ZQ,yB,QZ,vh,ZW,rfl⟩;have x:=O.o;have z:=O.m1;have K:=O.m3;have Qr:=Qb x;have Tt:=Qb z;have xG:=Qb K;have Hq:=Qb vh;obtain⟨d0,Dz,J4⟩:=Qgl I N zB id (by rw[B];exact NA _ (XJ I q));rw[q]at Dz;cases Dz;have t:=O.f1.at_ id;rw[wi,q]at t;simp only[Qd J4]at t;have W:=O.f3.at_ b.parent;have a2:Jm T A id=true:=(LK R id).2 (.inl (by rw[B];exact NA _ (XJ I q)));have a1:id ∉ m:=λhm=>by
  have nd:=Fi I a;rw[B,JK]at nd;exact nd.2.2 id hm id (XJ I q) rfl
 have V:kZ T A m b.parent id=true:=OR.2 ⟨xB.2 ⟨b,q,rfl,a2⟩,a1⟩;have a0:∀j,j≠b.parent->∀i,kZ T A (m++[id]) j i=kZ T A m j i:=λj J i=>by
  rw[vF,OR,OR];constructor;exact λ⟨f,r⟩=>⟨f,λh3=>r (Gu _ h3)⟩;rintro⟨f,r⟩;refine⟨f,λh3=>?_⟩;rcases Q1.1 h3 with h3|h3;exact r h3;rw[Yx.1 h3]at f;obtain⟨e,h4,h5,_⟩:=xB.1 f;rw[q]at h4;cases h4;exact J h5.symm
 cases F:kl b.parent with
 | none=>rw[O.kn _ id F]at V;cases V
 | some l=>
  obtain⟨c,u,ml,fl⟩:=O.ks _ l F;have LU:=Qb ml;rw[Dy,F,KM]at W;obtain⟨n0,n1,n2,n3⟩:=O.nk _ l F;have r8:l≠M:=λe=>ZQ (e▸O.sk _ l F);have M':K9 (JV u id) (yA (kZ T A (m++[id]) b.parent)):=(fl.del id).to λj=>by
   unfold yA kZ;by_cases J:j=id;simp[J];simp[J]
  have E:=gw M';have P:=O.QgT (c':=c) (es':=JV u id) (Kd':=kZ T A (m++[id])) F M' a0;have jd:=QZ.Tq (Y l (O.sk _ l F)).1 (QR .i64 c (JV u id));have Tz:(H.set l (QR .i64 c (JV u id)))[M]?=some ⟨.arr,g,1,m.length+1,y⟩:=(Qp r8).trans vh;have U:(b.parent=0\/Jm T (J6 A a) b.parent=true) ->
    Ke h.length (H.set l (QR .i64 c (JV u id))) (.ref M g 0 (m.length+1)) (VH T (J6 A a) a)/\jc (more S h) (H.set l (QR .i64 c (JV u id))) p T (J6 A a)/\Step S h (H.set l (QR .i64 c (JV u id))):=λhe=>by
   obtain⟨e1,e2⟩:=Qu2 I R B q Hp he;rw[<- e1];refine⟨.inr ⟨M,g,0,y,σ,⟨yB,rfl⟩,by simpa using Tz,λi o=>?_⟩,?_,jd⟩;rw[Jz];exact ZW i (by simpa using o);rw[show kZ T A (m++[id])=zz T (J6 A a) from funext λp=>funext λi=>e2 p i]at P;exact⟨_,_,_,_,_,_,_,_,_,_,P.step λl f r=>⟨(Y l r).1,rfl⟩⟩
  by_cases Z:∃i,kZ T A (m++[id]) b.parent i=true;have YX:=E.2 Z;have d2:decide ((0:Int)<((JV u id).length:Int))=true:=QS ω;have he:b.parent=0\/Jm T (J6 A a) b.parent=true:=by
   by_cases C:b.parent=0;exact .inl C;exact .inr ((Qgm I hA R B q Hp C).1 Z)
  apply Qh Q;simp only[go_sem,x,z,K,t,W,ml,d2,Go.undef,Qp n0,Qp n3,QF LU];exact⟨_,rfl,U he⟩;have hz:¬ 0<(JV u id).length:=λh=>Z (E.1 h);have d2:decide ((0:Int)<((JV u id).length:Int))=false:=QG ω;by_cases C:b.parent=0;have d0:(b.parent==0)=true:=by simpa using C
  apply Qh Q;simp only[go_sem,x,z,K,t,W,ml,d2,d0,Qp n0,Qp n3,QF LU];exact⟨_,rfl,U (.inl C)⟩;have d0:(b.parent==0)=false:=by simpa using C
  have B0:m.length<=16:=by
   have e:=congrArg List.length B;have:=yu (L:=T) (n:=16) (id:=a);rw[Zk]at e;unfold up at e;omega
  obtain⟨d,hd,a4⟩:=I.J9 b (yw I q) C;have Fa:Jm T (J6 A a) b.parent=false:=by
   rw[X9];exact λhq=>Z ((Qgm I hA R B q Hp C).2 hq)
  have e1:(m++[id]).length+1=m.length+1+1:=σ;apply Qh Q;simp only[go_sem,Qj,x,z,K,t,W,ml,d2,d0,Qp n0,Qp n3,QF LU,Tz,Hq];refine⟨ω,(up T b.parent).length,⟨[(0,.ptr p 0 0 0),(6,.ref M (g+1) 0 (m.length+1+1)),(7,Qa b.parent)],_⟩,?_,QO,?_⟩;have:=congrArg List.length (Vf I q);simp only[Kw]at this;omega;refine O6.of (JO (m.length+1) 0 y λ_=>[Qa b.parent]) S' (dn:=m++[id]) ?_ hd (QB _) (λi o=>?_) (P.step (λj f r=>⟨r,?_⟩)) (λj J=>⟨(Y j J).1,?_⟩) ZQ yB ((jd.Tq (.inr yB) _).r5 _) e1.symm ?_ ?_;rw[B,Vf I q];simp;rcases Q1.1 o with o|o;exact Hp i o;rw[Yx.1 o];exact Fa;rw[QE (by simpa using f),Qp (λ(e:M=j)=>ZQ (e▸r))];have:=(Y j J).2;simp;omega;rw[QE (by simpa using Hq),QF (by simpa using Hq)];rfl;intro i o;have:=LD (dn:=m++[id]) (off:=0) (row:=y) (v:=b.parent) (λi o=>by rw[Jz];exact ZW i (by simpa using o)) i (by simpa using o);rw[Jz]at this;simpa using this
def QvF{T:List Ql}(e:Ws T){k}(a:k<T.length)(j):Qw (T.take (k+1)) j=if j=(T.getD k default).iD then some (T.getD k default) else Qw (T.take k) j:=by
 rw[getD_take T default k a];unfold Qw;rw[List.find?_append];have g:T.getD k default∈T:=qE T default k a;by_cases h:j=(T.getD k default).iD;rw[Qd h];have:List.find? (λc=>c.iD==j) (T.take k)=none:=by
  rw[js];intro x hx b;have d:=e;rw[<- Bh k T]at d;have f:=(aY.1 d).2.2 x hx (T.getD k default) (by
   rw[RE a,QW,QJ a];exact Ky ..)
  simp at b;omega
 rw[this];simp[h];rw[Qc h];have:((T.getD k default).iD==j)=false:=by simpa using Q8 h
 simp only[km,this,List.find?_nil,Option.or_none]
def QgZ{h:List Ob}{t}{T}(R:Xu h t T)(I:JQ T):QM prog 64 h [.ptr t 0 0 0] (λd F=>d=.ptr (h.length+3) 0 0 0/\jc (λl=>h.length<=l) F (h.length+3) T []/\∃g,F=h++g):=by
 have O:=I.len;have L:∀g,Xu (h++g) t T:=λg=>R.more Ho;refine Q7 func64 ntmps64 results64 λP w Y a=>?_;simp only[go_sem,Qj,Qj];apply Zz a pA (rX (L _) ω);apply Qg a;refine ZN (λk Q=>∃c n g,K9 n (wi (T.take k))/\Q=⟨[(0,.ptr t 0 0 0),(3,.ptr (h.length+3) 0 0 0),(15,ints (T.map (·.iD))),(16,Qa T.length),(17,Qa k)],h++(QR .i64 c n::QR .i64 0 []::QR .i64 0 []::gq h.length (h.length+1) (h.length+2)::g)⟩) T.length (s0:=⟨[(0,.ptr t 0 0 0),(3,.ptr (h.length+3) 0 0 0),(15,ints (T.map (·.iD))),(16,Qa T.length),(17,Qa 0)],h++(QR .i64 0 []::QR .i64 0 []::QR .i64 0 []::gq h.length (h.length+1) (h.length+2)::[])⟩) (Qo.frame (by simp only[go_sem,Kj])) ⟨0,[],[],K9.nil.to λk=>by simp[wi,Qw],rfl⟩ ?_;rintro k _ Z ⟨c,n,g,M,rfl⟩;by_cases b:k<T.length;have H:=QS b;have C:(T.map (·.iD)).getD k 0=(T.getD k default).iD:=getD_map _ _ _ _ _ b;have K:T.getD k default∈T:=qE T default k b;have E:Qw T (T.getD k default).iD=some (T.getD k default):=(VF I.rising).2 ⟨K,rfl⟩;have o:=QvF I.rising b;obtain⟨x,hx⟩:∃x,x=T.getD k default:=⟨_,rfl⟩;rw[<- hx]at C K E o;have v:=λg=>OY (L g) x.iD;rw[E]at v;simp only[KW,Ab,Vu]at v;have s:∀j,wi (T.take (k+1)) j=if j=x.iD then (if 1<QH x.ls then some (.agg [Qa x.parent,Qa (LR x.leaf)]) else none) else wi (T.take k) j:=λj=>by
  unfold wi;rw[o];by_cases m:j=x.iD;simp[m];simp[m]
 have S:wi (T.take k) x.iD=none:=by
  unfold wi;have:Qw (T.take k) x.iD=none:=by
   rw[Hf];intro y U e;have z:=I.rising;rw[<- Bh k T]at z;have h2:=(aY.1 z).2.2 y U x (by
    rw[RE b,hx,QW,QJ b];exact Ky ..)
   omega
  rw[this]
 apply Qh a;simp only[go_sem,b,C,Kj];apply Zz a vX (v _);apply J5 a;apply QV a vY (vZ x);apply J5 a;by_cases q:1<QH x.ls;have r:=QS q;simp only[Qd q]at s;obtain⟨J,p,f,W⟩:=M.set .i64 c x.iD (.agg [Qa x.parent,Qa (LR x.leaf)]);simp only[go_sem]at f;have N:=W.to λj=>(s j).symm;have u:=Jr (show k<4611686018427387904 from ω);cases B:x.leaf with
 | true=>
  rw[B]at f;simp only[LR,Vu]at f;simp only[go_sem,Qj,r];apply Qv a i7;simp only[go_sem,Qj];simp only[f];exact⟨b,_,Qo.frame (by simp only[go_sem,u]),J,p,_,N,rfl⟩
 | false=>
  rw[B]at f;simp only[LR]at f;simp only[go_sem,Qj,r];apply Qv a i7;simp only[go_sem,Qj];simp only[qu,qY]at f;simp only[f];exact⟨b,_,Qo.frame (by simp only[go_sem,u]),J,p,_,N,rfl⟩
 have r:=QG q;simp only[Qc q]at s;have u:=Jr (show k<4611686018427387904 from ω);simp only[go_sem,r];refine⟨b,_,Qo.frame (by simp only[go_sem,u]),c,n,_,M.to λj=>?_,rfl⟩;rw[s];by_cases m:j=x.iD;rw[Qd m,m,S];rw[Qc m];have V:k=T.length:=ω;have H:=QG b;rw[V,Wn]at M;apply Qh a;simp only[go_sem,H];apply Qg a;refine⟨⟨h.length,h.length+1,h.length+2,c,0,0,n,[],[],λ_=>none,VD rfl,Vc rfl,M,VD rfl,K9.nil.to (λj=>by simp[AL]),VD rfl,K9.nil.to (λj=>rfl),(λ_ _ e=>nomatch e),(λk i _=>by simp[zz,Jm]),(λ_ _ _ e=>nomatch e),ω,ω,ω,ω,ω,ω,(λ_ _ e=>nomatch e),by show h.length<=_;omega,QB _,by show h.length<=_;omega,by show h.length<=_;omega,(λ_ _ e=>nomatch e)⟩,_,rfl⟩
@[go_sem] def Fx(a m:Nat):Ob:=⟨.one,0,2,1,λ_=>[.ptr a 0 0 0,.mref m 0]⟩
def DB(x:It):Int × D:=(x.ki,.agg x.cells)
structure LX (S:Nat->Prop) (h:List Ob) (p a m:Nat) (t:Tr) (c:Nat) (es:List ZC) (L:List It):Prop where
 o:h[p]?=some (Fx a m)
 av:AJ h a t L
 mo:h[m]?=some (QR .i64 c es)
 mp:Yl es (L.map DB)
 vi:∀x∈L,x.vi=x.ki
 pa:p≠a
 pm:p≠m
 am:a≠m
 pt:p ∉ t.QP
 mt:m ∉ t.QP
 sp:S p
 sa:S a
 sm:S m
 st:∀l∈t.QP,S l
def WW(S:Nat->Prop)(h:List Ob)(p:Nat)(L:List It):Prop:=∃a m t c b,LX S h p a m t c b L
def r9{L:List It}(a:Int):look (L.map DB) a=(L.find? λx=>x.ki==a).map λx=>.agg x.cells:=by
 unfold look;rw[List.find?_map,Iw];rfl
def Vn(a:Int)(L:List It):List It:=L.filter λx=>x.ki != a
def Ym(a:Int)(c b:Nat)(L:List It):List It:=Yk ⟨c,a,b,a⟩ (Vn a L)
def LX.ids{S}{h}{p a m}{t}{c}{b}{L:List It}(T:LX S h p a m t c b L):(L.map It.ki).Nodup:=by
 have:=T.mp.nd;rwa [Gt]at this
def sb{L:List It}(b:(L.map It.ki).Nodup){x:It}(i:x∈L):Xt x.ka x.ki L=Vn x.ki L:=by
 unfold Xt Vn;apply RF;intro y g;by_cases h:y.ki=x.ki;have d:y=x:=by
  have:∀{l:List It},(l.map It.ki).Nodup->∀{u v:It},u∈l->v∈l->u.ki=v.ki->u=v:=by
   intro l;induction l with
   | nil=>intro _ u v c;cases c
   | cons a l f=>
    intro b u v c j e;simp only[JT,ZV,Ji,Et,not_and]at b;rcases QK.1 c with h1|h1<;>rcases QK.1 j with h2|h2;rw[h1,h2];exact absurd (by rw[<- e,h1]) (b.1 v h2);exact absurd (by rw[e,h2]) (b.1 u h1);exact f b.2 h1 h2 e
  exact this b g i h
 subst d;simp[B3];have k:(y.ki==x.ki)=false:=by simpa using h
 simp[B3,k,bne]
def sf{L:List It}{a}(h:(L.find? λx=>x.ki==a)=none):Vn a L=L:=by
 unfold Vn;rw[y9];intro x hx;have:=js.1 h x hx;simpa using this
def sg(L)(a)(b):YJ a b (Vn b L)=none:=by
 unfold YJ Vn;rw[js];intro x hx c;simp only[Jt,bne_iff_ne,ne_eq]at hx;exact hx.2 (xD.1 c).2
def Qg1(y):∀L:List It,(Yk y L).Perm (y::L)
 | []=>Nx _
 | z::L=>by
  simp only[Yk];split
  .exact(List.Perm.cons _ (Qg1 y L)).trans (List.Perm.swap _ _ _)
  exact Nx _
def si(a)(L:List It):B5 (L.map DB) a=(Vn a L).map DB:=by
 unfold B5 Vn;rw[Ny];rfl
def AJ.set{h:List Ob}{a}{t:Tr}{L}(A:AJ h a t L){m}(o)(c:m≠a)(b:m ∉ t.QP):AJ (h.set m o) a t L:=⟨(Qp c).trans A.o,A.is.set o b,A.list,A.nd,A.out,A.sorted⟩
def QvH{a:Int}{c b}{L:List It}:(Ft (L.map DB) a (.agg (It.mk c a b a).cells)).Perm ((Ym a c b L).map DB):=by
 unfold Ft Ym;rw[si];exact((Qg1 ⟨c,a,b,a⟩ (Vn a L)).map DB).symm
def sj(a)(L:List It):(Vn a L).length<=L.length:=XS _ _
def LX.fin{S}{h H e k}{p a m c n}{t f g}{K b}{L j}(T:LX S h p a m t c K L)(s:Step S h H)
  (E:H[p]?=some (Fx a m)) (F:m<H.length) (i:e=H.set m (QR .i64 n b)) (v:m ∉ f.QP) (u:p ∉ f.QP) (r:∀l∈f.QP,more S h l) (y:Yl b (j.map DB)) (q:∀x∈j,x.vi=x.ki)
  (A:Tj e a f j k g):WW (more S h) k p j/\Step S h k:=by
 have P:e.length=H.length:=by rw[i,Kx]
 have O:=s.len;have J:e[p]?=some (Fx a m):=by rw[i,Qp (Q8 T.pm)];exact E
 have M:e[m]?=some (QR .i64 n b):=by rw[i,QF F]
 have N:∀l,e.length<=l->h.length<=l:=λl d=>ω;have Q:=Qb T.o;have R:=Qb T.mo;refine⟨⟨a,m,g,n,b,?_,A.is,?_,y,q,T.pa,T.pm,T.am,?_,?_,.inl T.sp,.inl T.sa,.inl T.sm,?_⟩,⟨λl d h2=>?_,by have:=A.len;omega⟩⟩;rw[A.keep p ω T.pa u];exact J;rw[A.keep m ω (Q8 T.am) v];exact M;intro d;rcases A.mem p d with h2|h2;exact u h2;omega;intro d;rcases A.mem m d with h2|h2;exact v h2;omega;intro l d;rcases A.mem l d with h2|h2;exact r l h2;exact .inr (N l h2);have C:l≠a:=by rintro rfl;exact h2 T.sa
 have B:l≠m:=by rintro rfl;exact h2 T.sm
 have z:l ∉ f.QP:=λI=>by
  rcases r l I with w|w;exact h2 w;omega
 rw[A.keep l ω C z,i,Qp (Q8 B)];exact s.keep l d h2
def LX.done{S}{h H i h8}{p a m c y}{t f t''}{w e}{L}{d}{g b}(T:LX S h p a m t c w L)(n:Step S h H)
  (s:H[p]?=some (Fx a m)) (u:m<H.length) (v:i=H.set m (QR .i64 y e)) (r:m ∉ f.QP) (q:p ∉ f.QP) (k:∀l∈f.QP,more S h l) (j:Yl e (Ft (L.map DB) d (.agg (It.mk g d b d).cells)))
  (A:Tj i a f (Ym d g b L) h8 t''):WW (more S h) h8 p (Ym d g b L)/\Step S h h8:=
 T.fin n s u v r q k (j.to QvH) (λx hx=>by
  rcases Hn.1 hx with rfl|hx;rfl;exact T.vi x (Jt.1 hx).1) A
def QvJ{S}{h}{p}{L:List It}(T:WW S h p L)(b)(i f)(hs:L.length<400000):
  QM prog 205 h [.ptr p 0 0 0,Qa b,u64 i,u64 f] (λd Z=>WW (more S h) Z p (Ym b i f L)/\Step S h Z):=by
 obtain⟨a,m,t,c,es,T⟩:=T;have j:=T.o;have q:=T.mo;have ha:=T.av.o;have s:=T.mp.look b;rw[r9]at s;cases u:L.find? λx=>x.ki==b with
 | none=>
  rw[u,qw]at s;have qI:=sf u;obtain⟨O,o,N,Q⟩:=T.mp.set .i64 c b (.agg (It.mk i b f b).cells);have M:J1 .i64 c es b (.agg [.raw (.int .u64 i),.raw (.int .i64 b),.raw (.int .u64 f),.raw (.int .i64 b)])=QR .i64 O o:=N;refine Q7 func205 ntmps205 results205 λC w pl g=>?_;have k:=Qb j;have r:=Qb q;simp only[go_sem,Qj,j,k,q,r,s];apply Qv g i7;simp only[go_sem,Qj,j,k,q,r];simp only[M];apply Vx [8] g [0,1,2,3,4,5,6,7,1008,9] [];simp only[go_sem,Qj,j,k,Qp (Q8 T.pm)];refine kS g pI (Tl (tl:=a) (t:=t) (L:=Vn b L) (by rw[qI];exact(T.av.set _ (Q8 T.am) T.mt).app _) ⟨i,b,f,b⟩ (sg L i b) (by have:=sj b L;omega)) λd h8 v=>?_;obtain⟨rfl,V,U⟩:=v;apply Zp g;exact T.done (H:=h++_) (Step.app S h _) (QE k |>.trans j) ξ (Dj r).symm T.mt T.pt (λl J=>.inl (T.st l J)) Q U
 | some x=>
  rw[u,KM]at s;obtain⟨O,o,N,Q⟩:=T.mp.set .i64 c b (.agg (It.mk i b f b).cells);have M:J1 .i64 c es b (.agg [.raw (.int .u64 i),.raw (.int .i64 b),.raw (.int .u64 f),.raw (.int .i64 b)])=QR .i64 O o:=N;refine Q7 func205 ntmps205 results205 λC w pl g=>?_;have k:=Qb j;have r:=Qb q;simp only[go_sem,Qj,j,k,q,r,s];apply Vx [6] g [0,1,2,3,4,5,1006] [];simp only[go_sem,Qj,j,k];have WC:x∈L:=vI u;have P:x.ki=b:=by have:=wS u;simpa using this
  have LY:Xt x.ka b L=Vn b L:=by rw[<- P];exact sb T.ids WC
  have QC:YJ x.ka b L≠none:=λe=>by
   unfold YJ at e;have:=js.1 e x WC;exact this (xD.2 ⟨rfl,P⟩)
  have ss:∀l∈t.QP,l<h.length:=T.av.is.lt;have qc:=Qb ha;refine yq g pM rfl ?_ (rT (tl:=a) (t:=t) (L:=L) (T.av.app _) x.ka b QC ω) rfl λd y v=>?_;simp only[go_sem,P];obtain⟨rfl,F,n⟩:=v;rw[LY]at n;have a1:h.length+2<=y.length:=by have:=n.len;simpa using this
  have I:∀l,l<h.length->l≠a->l ∉ t.QP->y[l]? = h[l]? := λl h1 h2 K=>(n.keep l ξ h2 K).trans (QE h1);have E:y[p]? = _:=(I p k T.pa T.pt).trans j;have B:y[m]? = _:=(I m r (Q8 T.am) T.mt).trans q;have R:=(n.keep h.length σ ω (λh1=>by have:=ss _ h1;omega)).trans (Vc rfl);have a0:=Qb E;have Y:=Qb B;have gB:=Qb R;have z:m ∉ F.QP:=λh1=>by
   rcases n.mem m h1 with h2|h2;exact T.mt h2;simp only[Zk]at h2;omega
  have W:p ∉ F.QP:=λh1=>by
   rcases n.mem p h1 with h2|h2;exact T.pt h2;simp only[Zk]at h2;omega
  have Fy:m≠h.length:=ω;apply Zp g;apply Qv g i7;simp only[go_sem,E,B,R];simp only[M];apply Vx [8] g [0,1,2,3,4,5,6,7,1008,9] [];simp only[go_sem,E,R,Qp (Q8 T.pm),Qp Fy];refine kS g pI (Tl (tl:=a) (t:=F) (L:=Vn b L) (n.is.set _ (Q8 T.am) z) ⟨i,b,f,b⟩ (sg L i b) (by have:=sj b L;omega)) λd h8 v=>?_;obtain⟨rfl,V,U⟩:=v;apply Zp g;refine T.done (H:=y) ⟨λl h1 h2=>I l h1 (by rintro rfl;exact h2 T.sa) (λK=>h2 (T.st l K)),ω⟩ E Y rfl z W (λl J=>?_) Q U;rcases n.mem l J with h1|h1;exact .inl (T.st l h1);simp only[Zk]at h1;exact .inr ω
def Vz{h F:List Ob}(a:F=h.map Ob.ro)(l:Nat)(o:Ob)(e:(h.map Ob.ro)[l]?=some o):(F.map Ob.ro)[l]?=some o:=by
 have:=Hl (g:=[]) a l o e;rwa [JS]at this
structure QvM (h:List Ob) (p a m:Nat) (t:Tr) (c:Nat) (es:List ZC) (L:List It):Prop where
 o:(h.map Ob.ro)[p]?=some (Fx a m).ro
 ao:(h.map Ob.ro)[a]?=some (xF t).ro
 is:z7 h t
 list:t.list=L
 sorted:Vm L
 mo:(h.map Ob.ro)[m]?=some (QR .i64 c es).ro
 mp:Yl es (L.map DB)
def Fz(h:List Ob)(p:Nat)(L:List It):Prop:=∃a m t c b,QvM h p a m t c b L
def WW.toR{S}{h}{p}{L}:WW S h p L->Fz h p L:=λ⟨a,m,t,c,b,T⟩=>
 ⟨a,m,t,c,b,Z4 T.o,Z4 T.av.o,T.av.is.toR,T.av.list,T.av.sorted,Z4 T.mo,T.mp⟩
def Fz.more{h h':List Ob}{p}{L}(e:∀(l:Nat) (o:Ob),(h.map Ob.ro)[l]?=some o->(h'.map Ob.ro)[l]?=some o):Fz h p L->Fz h' p L:=λ⟨a,m,t,c,b,T⟩=>
 ⟨a,m,t,c,b,e _ _ T.o,e _ _ T.ao,T.is.more e,T.list,T.sorted,e _ _ T.mo,T.mp⟩
def WW.frame{S}{h b:List Ob}{p}{L}(e:∀l,S l->l<h.length->b[l]? = h[l]?):WW S h p L->WW S b p L:=λ⟨a,m,t,c,i,T⟩=>
 have k:∀l o,S l->h[l]?=some o->b[l]?=some o:=λl o g f=>(e l g (Qb f)).trans f
 ⟨a,m,t,c,i,k _ _ T.sp T.o,⟨k _ _ T.sa T.av.o,T.av.is.frame λl d=>e l (T.st l d) (T.av.is.lt l d),T.av.list,T.av.nd,T.av.out,T.av.sorted⟩,k _ _ T.sm T.mo,T.mp,T.vi,T.pa,T.pm,T.am,T.pt,T.mt,T.sp,T.sa,T.sm,T.st⟩
def WW.mono{S b}{h}{p}{L}(e:∀l,S l->b l):WW S h p L->WW b h p L:=λ⟨a,m,t,c,f,T⟩=>
 ⟨a,m,t,c,f,T.o,T.av,T.mo,T.mp,T.vi,T.pa,T.pm,T.am,T.pt,T.mt,e _ T.sp,e _ T.sa,e _ T.sm,λl d=>e l (T.st l d)⟩
section
variable {h:List Ob}{p:Nat}{L:List It}(T:Fz h p L)
include T
theorem QvN(b):Zf prog 208 h [.ptr p 0 0 0,u64 b] (λd=>d=.tup [Qa ((L.find? λx=>decide (x.va<=min b 9223372036854775807)).getD default).ki,QU (L.find? λx=>decide (x.va<=min b 9223372036854775807)).isSome]):=by
 obtain⟨a,m,t,c,v,T⟩:=T;obtain⟨e,f,l,n,s,u,mp⟩:=T;have o:min (b:Int) 9223372036854775807=((min b 9223372036854775807:Nat):Int):=ω;have k:=f;refine ZH func208 ntmps208 results208 λj w r F g y i=>?_;rw[<- g]at e f;have z:=Qb e;have q:=Qb f;simp only[go_sem,e,o];apply Zz i QtS (Qvm (Vz g _ _ k) (l.more (Vz g)) (min b 9223372036854775807));apply J5 i;subst n;exact⟨_,rfl,rfl⟩
theorem QvO:Zf prog 147 h [.ptr p 0 0 0] (λd=>d=.tup [u64 (L.head?.getD default).ka,QU L.head?.isSome]):=by
 obtain⟨a,m,t,c,s,T⟩:=T;obtain⟨b,e,k,l,q,r,mp⟩:=T;have j:=e;refine ZH func147 ntmps147 results147 λi w o F f u g=>?_;rw[<- f]at b e;have v:=Qb b;have n:=Qb e;simp only[go_sem,b];apply Zz g Qfv (QgH (Vz f _ _ j) (k.more (Vz f)));apply J5 g;subst l;exact⟨_,rfl,rfl⟩
theorem su:Zf prog 216 h [.ptr p 0 0 0] (λd=>d=Qa L.length):=by
 obtain⟨a,m,t,c,j,T⟩:=T;obtain⟨b,f,o,r,q,e,mp⟩:=T;have k:j.length=L.length:=by rw[mp.len,Kj]
 refine ZH func216 ntmps216 results216 λg w n F i v s=>?_;rw[<- i]at b f e;have x:=Qb b;have l:=Qb f;have u:=Qb e;simp only[go_sem,b,e,k];exact⟨[],σ⟩
def B8(L:List It):Nat:=L.foldl (λo x=>min o x.va) never
omit T in
theorem sv:∀(L:List It) (o:Nat),L.foldl (λo x=>min o x.va) o<=o/\(∀x∈L,L.foldl (λo x=>min o x.va) o<=x.va)/\(L.foldl (λo x=>min o x.va) o=o\/∃x∈L,L.foldl (λo x=>min o x.va) o=x.va)
 | [],o=>⟨QB _,σ,.inl rfl⟩
 | y::L,o=>by
  obtain⟨d,c,a⟩:=sv L (min o y.va);simp only[jt];refine⟨ω,λx hx=>?_,?_⟩;rcases QK.1 hx with rfl|hx;omega;exact c x hx;rcases a with a|⟨x,hx,a⟩;rw[a];by_cases b:o<=y.va;exact .inl (Gy b);exact .inr ⟨y,σ,NF ω⟩;exact .inr ⟨x,by simp[hx],a⟩
omit T in
theorem QvP{x:It}{L}(h:V7 x L):B8 L=min x.va never:=by
 obtain⟨e,c,a⟩:=sv L never;unfold B8;have d:=c x h.mem;rcases a with a|⟨y,b,a⟩;omega;have:=h.va b;omega
theorem Qg4(y:∀x∈L,x.ka<=18446744073709551615):Zf prog 163 h [.ptr p 0 0 0] (λd=>d=u64 (B8 L)):=by
 have o:=T;obtain⟨a,m,t,c,E,T⟩:=T;obtain⟨f,g,u,n,v,C,mp⟩:=T;have q:=g;by_cases l:L=[];have d0:((L.length:Int)==0)=true:=by simp[l]
 refine ZH func163 ntmps163 results163 λk w s F e z b=>?_;rw[<- e]at f g;have B:=Qb f;have r:=Qb g;simp only[go_sem];apply Zz b pK (su (o.more (Vz e)));apply Qh b;simp only[go_sem,d0];subst l;exact⟨[],by simp[B8,never]⟩;have d0:((L.length:Int)==0)=false:=by simp[l]
 refine ZH func163 ntmps163 results163 λk w s F e z b=>?_;rw[<- e]at f g;have B:=Qb f;have r:=Qb g;simp only[go_sem];apply Zz b pK (su (o.more (Vz e)));apply Qh b;simp only[go_sem,f,d0];apply Qg b;apply Zz b Qfz (QgJ (Vz e _ _ q) (u.more (Vz e)) 18446744073709551615);apply J5 b;have i:=Tr.Tg 18446744073709551615 t none [] (by rw[n];exact v) rfl;rw[n,zR,y9.2 (λx hx=>by simpa using y x hx)]at i;refine⟨_,rfl,?_⟩;cases j:t.z8 18446744073709551615 none with
 | none=>rw[j]at i;exact absurd i l
 | some x=>
  rw[j]at i;rw[QvP i];simp only[KW,never];congr 2;omega
end
def gC(a:Int)(L:List It):Bool:=(L.find? λx=>x.ki==a).isSome
def QvQ{S}{h}{p}{L:List It}(T:WW S h p L)(b)(R:L.length<400000):
  QM prog 215 h [.ptr p 0 0 0,Qa b] (λd u=>d=Qa (if gC b L then 0 else 6)/\WW (more S h) u p (Vn b L)/\Step S h u):=by
 have K:=T;obtain⟨a,m,t,c,W,T⟩:=T;have f:=T.o;have k:=T.mo;have F:=T.av.o;have g:=T.mp.look b;rw[r9]at g;unfold gC;cases i:L.find? λx=>x.ki==b with
 | none=>
  rw[i,qw]at g;refine Q7 func215 ntmps215 results215 λj w C n=>?_;have o:=Qb f;have q:=Qb k;simp only[go_sem,Qj,f,k,g];rw[sf i];exact⟨rfl,(K.frame λl V J=>QE J).mono λl r=>.inl r,Step.app S h _⟩
 | some x=>
  rw[i,KM]at g;have v:x∈L:=vI i;have s:x.ki=b:=by have:=wS i;simpa using this
  have N:Xt x.ka b L=Vn b L:=by rw[<- s];exact sb T.ids v
  have M:YJ x.ka b L≠none:=λe=>by
   unfold YJ at e;have:=js.1 e x v;exact this (xD.2 ⟨rfl,s⟩)
  have P:∀l∈t.QP,l<h.length:=T.av.is.lt;have Q:=Qb F;have z:=T.mp.del b;rw[si]at z;refine Q7 func215 ntmps215 results215 λj w C n=>?_;have o:=Qb f;have q:=Qb k;simp only[go_sem,Qj,f,o,k,q,g];apply Vx [6] n [0,1,2,3,4,5,1006,7] [];simp only[go_sem,Qj,f,o,Qp (Q8 T.pm)];refine yq n pM rfl ?_ (rT (tl:=a) (t:=t) (L:=L) ((T.av.set _ (Q8 T.am) T.mt).app _) x.ka b M ω) rfl λd U I=>?_;simp only[go_sem,s];obtain⟨rfl,O,B⟩:=I;rw[N]at B;apply Zp n;exact⟨rfl,T.fin (H:=h++_) (Step.app S h _) ((QE o).trans f) ξ (Dj q).symm T.mt T.pt (λl r=>.inl (T.st l r)) z (λy E=>T.vi y (Jt.1 E).1) B⟩
def Qg6(h:List Ob):QM prog 92 h [] (λd b=>d=.ptr h.length 0 0 0/\b=h++[xF .nil]):=by
 refine Q7 func92 ntmps92 results92 λa w c e=>?_;simp only[go_sem]
def Qg7{S}{h}{p}{L:List It}(T:WW S h p L)(b)(R:L.length<400000):
  QM prog 200 h [.ptr p 0 0 0,Qa b] (λd u=>d=Qa (if gC b L then 0 else 6)/\WW (more S h) u p (Vn b L)/\Step S h u):=by
 have K:=T;obtain⟨a,m,t,c,W,T⟩:=T;have f:=T.o;have k:=T.mo;have F:=T.av.o;have g:=T.mp.look b;rw[r9]at g;unfold gC;cases i:L.find? λx=>x.ki==b with
 | none=>
  rw[i,qw]at g;refine Q7 func200 ntmps200 results200 λj w C n=>?_;have o:=Qb f;have q:=Qb k;simp only[go_sem,Qj,f,k,g];rw[sf i];exact⟨rfl,(K.frame λl V J=>QE J).mono λl r=>.inl r,Step.app S h _⟩
 | some x=>
  rw[i,KM]at g;have v:x∈L:=vI i;have s:x.ki=b:=by have:=wS i;simpa using this
  have N:Xt x.ka b L=Vn b L:=by rw[<- s];exact sb T.ids v
  have M:YJ x.ka b L≠none:=λe=>by
   unfold YJ at e;have:=js.1 e x v;exact this (xD.2 ⟨rfl,s⟩)
  have P:∀l∈t.QP,l<h.length:=T.av.is.lt;have Q:=Qb F;have z:=T.mp.del b;rw[si]at z;refine Q7 func200 ntmps200 results200 λj w C n=>?_;have o:=Qb f;have q:=Qb k;simp only[go_sem,Qj,f,o,k,q,g];apply Vx [6] n [0,1,2,3,4,5,1006,7] [];simp only[go_sem,Qj,f,o,Qp (Q8 T.pm)];refine yq n pM rfl ?_ (rT (tl:=a) (t:=t) (L:=L) ((T.av.set _ (Q8 T.am) T.mt).app _) x.ka b M ω) rfl λd U I=>?_;simp only[go_sem,s];obtain⟨rfl,O,B⟩:=I;rw[N]at B;apply Zp n;exact⟨rfl,T.fin (H:=h++_) (Step.app S h _) ((QE o).trans f) ξ (Dj q).symm T.mt T.pt (λl r=>.inl (T.st l r)) z (λy E=>T.vi y (Jt.1 E).1) B⟩
section
variable {h:List Ob}{p:Nat}{L:List It}(T:Fz h p L)
include T
theorem Qg8:Zf prog 219 h [.ptr p 0 0 0] (λd=>d=Qa L.length):=by
 obtain⟨a,m,t,c,j,T⟩:=T;obtain⟨b,f,o,r,q,e,mp⟩:=T;have k:j.length=L.length:=by rw[mp.len,Kj]
 refine ZH func219 ntmps219 results219 λg w n F i v s=>?_;rw[<- i]at b f e;have x:=Qb b;have l:=Qb f;have u:=Qb e;simp only[go_sem,b,e,k];exact⟨[],σ⟩
theorem QvR(b):Zf prog 207 h [.ptr p 0 0 0,u64 b] (λd=>∃o,yy o (L.filter λx=>decide (x.ka<=min b 9223372036854775807))/\d=.tup [Qa (o.getD default).ki,QU o.isSome]):=by
 obtain⟨a,m,t,c,B,T⟩:=T;obtain⟨e,f,q,i,r,z,mp⟩:=T;have u:min (b:Int) 9223372036854775807=((min b 9223372036854775807:Nat):Int):=ω;have n:=f;have k:=Tr.Tg (min b 9223372036854775807) t none [] (by rw[i];exact r) rfl;rw[i,zR]at k;refine Zf.mono (R:=λd=>d=.tup [Qa ((t.z8 (min b 9223372036854775807) none).getD default).ki,QU (t.z8 (min b 9223372036854775807) none).isSome]) ?_ (λd s=>⟨_,k,s⟩);refine ZH func207 ntmps207 results207 λl w y F g C j=>?_;rw[<- g]at e f;have E:=Qb e;have v:=Qb f;simp only[go_sem,e,u];apply Zz j Qfz (QgJ (Vz g _ _ n) (q.more (Vz g)) (min b 9223372036854775807));apply J5 j;exact⟨_,rfl⟩
theorem QvS:Zf prog 162 h [.ptr p 0 0 0] (λd=>d=u64 (match L.head? with|some x=>min x.ka never|none=>never)):=by
 have k:=T;obtain⟨a,m,t,c,z,T⟩:=T;obtain⟨f,g,q,r,v,y,mp⟩:=T;have l:=g;cases j:L with
 | nil=>
  have d0:((L.length:Int)==0)=true:=by simp[j]
  refine ZH func162 ntmps162 results162 λi w o F e s b=>?_;rw[<- e]at f g;have u:=Qb f;have n:=Qb g;simp only[go_sem];apply Zz b Qfy (Qg8 (k.more (Vz e)));apply Qh b;simp only[go_sem,d0];exact⟨[],by simp[never]⟩
 | cons x M=>
  have d0:((L.length:Int)==0)=false:=by simp[j];omega
  refine ZH func162 ntmps162 results162 λi w o F e s b=>?_;rw[<- e]at f g;have u:=Qb f;have n:=Qb g;simp only[go_sem];apply Zz b Qfy (Qg8 (k.more (Vz e)));apply Qh b;simp only[go_sem,f,d0];apply Qg b;apply Zz b Qfv (QgH (Vz e _ _ l) (q.more (Vz e)));apply J5 b;refine⟨_,rfl,?_⟩;rw[r,j];congr 2;show min (x.ka:Int) 9223372036854775808=((min x.ka never:Nat):Int);simp only[never];omega
end
def Qg9{S}{h}{p}{L:List It}(T:WW S h p L)(b)(f e)(I:L.length<400000):
  QM prog 146 h [.ptr p 0 0 0,Qa b,u64 f,u64 e] (λd B=>WW (more S h) B p (Ym b f e L)/\Step S h B):=by
 have P:=T;obtain⟨a,m,t,c,C,T⟩:=T;have g:=T.o;refine Q7 func146 ntmps146 results146 λE w U i=>?_;have j:=Qb g;simp only[go_sem];refine ZL i Qfu (Qg7 P b I) λd z n=>?_;obtain⟨rfl,O,v⟩:=n;obtain⟨a,m,t,c,C,T⟩:=O;have g:=T.o;have u:=T.mo;have V:=T.av.o;have j:=Qb g;have x:=Qb u;have F:Vn b (Vn b L)=Vn b L:=by unfold Vn;rw[List.filter_filter];simp
 obtain⟨N,r,M,Q⟩:=T.mp.set .i64 c b (.agg (It.mk f b e b).cells);have K:J1 .i64 c C b (.agg [.raw (.int .u64 f),.raw (.int .i64 b),.raw (.int .u64 e),.raw (.int .i64 b)])=QR .i64 N r:=M;apply J5 i;apply Qv i i7;simp only[go_sem,Qj,g,j,u,x];simp only[K];apply Vx [8] i [0,1,2,3,4,5,6,7,1008,9] [];simp only[go_sem,Qj,g,j,Qp (Q8 T.pm)];refine kS i pI (Tl (tl:=a) (t:=t) (L:=Vn b L) ((T.av.set _ (Q8 T.am) T.mt).app _) ⟨f,b,e,b⟩ (sg L f b) (by have:=sj b L;omega)) λd J n=>?_;obtain⟨rfl,q,R⟩:=n;apply Zp i;have s:Ym b f e (Vn b L)=Ym b f e L:=by unfold Ym;rw[F]
 have o:=T.done (H:=z++_) (h8:=J) (t'':=q) (Step.app _ z _) ((QE j).trans g) ξ (Dj x).symm T.mt T.pt (λl k=>.inl (T.st l k)) Q (by rw[s];exact R);rw[s]at o;have W:=v.len;exact⟨o.1.mono λl k=>k.elim (λy=>y) λy=>.inr ω,v.trans o.2⟩
end Go.Fg.X
namespace Go.Fg
open Go.RowKit (Below)
section
variable {P:Program}{L:Jf}{base nt:Nat}{s:St}{o:Oper}
def QvT{t e:TypeId}{y:Ty}{k:IntKind}(c:P.underlying t=some (.slice e))(a:W6 P e y)(C:y.zero.length=y.size)(M:0<y.size)(w:World)(n:Nat)
  (v:n<=4294967296) (B:y.bytes<=1024) :
  (Instr.makeSlice t (.int k n) (.int k n)).run P w=.ok (.slice (some ⟨w.heap.size,0,none⟩) n n) (w.alloc (.cells (flat n y.size λ_ j=>Q6 y.zero j).toArray e)):=by
 obtain⟨z,b,r⟩:=a.zeroValue;obtain⟨i,g,O,J⟩:=a.typeInfo w;have m:∀w,(typeInfo e).run P w=.ok i w:=λw=>by
  have h:=a.info;cases hx:P.info? e with
  | none=>rw[hx]at h;cases h
  | some k=>
   simp[typeInfo,hx]at g ⊢;exact g
 have E:IntKind.i64.wrap (n:Int)=n:=by rw[IntKind.wrap_i64];omega
 have u:¬ (281474976710656<(i.bytes:Int)*(n:Int)):=by
  have q:y.bytes*n<=1024*4294967296:=Yb B v;rw[<- Bg,J];omega
 have I:¬ ((n:Int)<0):=ω;have p:z.cells.size=y.size:=by rw[<- C,<- b];simp
 have x:(flat n y.size λ_ j=>Q6 y.zero j).toArray=(Array.range (n*y.size)).map (z.cells[· % z.cells.size]!):=by
  apply Array.ext;simp[q6];intro j l N;simp only[Gv,q6]at l;obtain⟨d1,d2,d3⟩:=div_lt l;have H:y.zero=z.cells.toList:=b.symm;have f:j%y.size<z.cells.size:=by rw[p];exact d2
  simp[flat,Q6,H,QW,p];rw[getElem!_pos z.cells _ f,jr f];rfl
 rw[x];by_cases d:n=0;subst d;have F:IntKind.i64.wrap 0=0:=rfl;simp[Instr.makeSlice,run_underlying c,a.sizeOf,m,asInt,asIntOf,newRow,F];congr 2;apply Array.ext<;>simp;have K:¬ (n*y.size=0):=Nat.mul_ne_zero d ω;simp[Instr.makeSlice,run_underlying c,a.sizeOf,m,r,asInt,asIntOf,E,I,K,u,newRow]
def QvU(p:Z8 P L){t e:TypeId}{x0 x:Operand}{n:Nat}{a b:Nat}{z:List Value}{y:Ty}{k:IntKind}(K:o.op=.makeSlice t x x)(F:Qs s.fr x=.raw (.int k n))
  (I:ty L t=some ⟨.slice e,a,b,z⟩) (S:ty L e=some y) (d:y.zero.length=y.size) (J:0<y.size) (B:n<=4294967296) (C:y.bytes<=1024) :
  jz P base nt o s (s.h++[⟨.arr,0,y.size,n,λ_=>y.zero.map J2⟩]) (.ref s.h.length 0 0 n):=by
 intro Z c U w r u;have g:=r.eval x;rw[F]at g;have H:=Ju g;have E:=p _ _ S;have Q:c.length=s.h.length:=r.o.len;have R:=QvT (k:=k) (x7 (p _ _ I) rfl) E d J w n B C;have f:∀b,b<w.heap.size->(w.alloc (.cells (flat n y.size λ_ j=>Q6 y.zero j).toArray e)).heap[b]? = w.heap[b]? := λb N=>wW w _ b N;have v:(w.alloc (.cells (flat n y.size λ_ j=>Q6 y.zero j).toArray e)).heap[w.heap.size]?=some (.cells (flat n y.size λ_ j=>Q6 y.zero j).toArray e (0,0)):=heap_alloc_new w _;have T:Tr s.h c w (s.h++[⟨.arr,0,y.size,n,λ_=>y.zero.map J2⟩]) (c++[some (w.heap.size,0)]) (w.alloc (.cells (flat n y.size λ_ j=>Q6 y.zero j).toArray e)):=Tr.push r.o f _ _ (by intro b q h;simp at h;omega);refine⟨.slice (some ⟨w.heap.size,0,none⟩) n n,_,_,.inl ?_,T,Zh.push r.o f _ rfl (QB _) u v (by simp[q6]) (λi m=>by simp[d]) (λi j m l=>⟨Q6 y.zero j,?_,?_⟩),.ref _ _ _ _ ⟨.arr,0,y.size,n,λ_=>y.zero.map J2⟩ (some (w.heap.size,0)) _ _ σ (by rw[<- Q];simp) rfl (QB _) (λ_=>.inr ⟨w.heap.size,0,_,_,rfl,σ,v,?_,QB _⟩),EA u _,λ_=>f⟩;simp only[execOp,K,H,R,Sem.run_bind,Result.andThen_ok,Sem.run_pure];have M:=GH (vs:=λ_ j=>Q6 y.zero j) m l;rw[Jz];simpa using M;have O:j<y.zero.length:=by rw[d];exact l
 have:nth (y.zero.map J2) j=J2 (Q6 y.zero j):=by simp[nth,Q6,QW,O]
 show QD Z _ _ _ (nth (y.zero.map J2) j) _;rw[this];exact .cl _ _ (CQ _ _ _);simp[q6]
end
section
variable {P:Program}{L:Jf}{base nt:Nat}{w0:Start}{Q:Exit->St->Prop}
def QvV(v:Z8 P L)(u:base<=w0.w.heap.size){k:List Item}{c:Option Nat}{B:TypeId}{pos:String}{d:Array Edge}{w:Option (Nat × Bool)}{r:List (Oper × G)}{s:St}{t e:TypeId}{x:Operand}{n:Nat}{a b:Nat}{g:List Value}{y:Ty}{i:IntKind}
  (m:Qs s.fr x=.raw (.int i n)) (o:ty L t=some ⟨.slice e,a,b,g⟩) (z:ty L e=some y) (l:y.zero.length=y.size) (p:0<y.size) (h:n<=4294967296) (j:y.bytes<=1024) (q:Zn nt c=true)
  (f:Qz P base nt w0 Q (.ops r::k) .normal ⟨Zb s.fr c (.ref s.h.length 0 0 n),s.h++[⟨.arr,0,y.size,n,λ_=>y.zero.map J2⟩]⟩) :
  Qz P base nt w0 Q (.ops ((⟨c,.makeSlice t x x,B,pos,d,w⟩,none)::r)::k) .normal s:=by
 simp only[Qz]at f ⊢;exact cW u (QvU (x0:=x) v rfl m o z l p h j) q f
end
end Go.Fg
namespace Go.Fg.X
open Go.Proofs Go.Fg
open Go.Proofs.Tryz
@[go_sem] def TB(a b first n:Nat):Ob:=⟨.one,0,3,1,λ_=>[.ref a 0 0 b,Qa first,Qa n]⟩
structure QvW (S:Nat->Prop) (h:List Ob) (r a room first:Nat) (row:Nat->List D) (L:List Pk):Prop where
 o:h[r]?=some (TB a room first L.length)
 ao:h[a]?=some ⟨.arr,0,6,room,row⟩
 ra:r≠a
 fl:first<room
 len:L.length<=room
 yC:room<=64
 rows:∀i,i<L.length->row ((first+i)%room)=(L.getD i default).cells
 lens:∀i,i<room->(row i).length=6
 sr:S r
 sa:S a
def vj(S:Nat->Prop)(h:List Ob)(r b:Nat)(L:List Pk):Prop:=∃a first c,QvW S h r a b first c L
structure LZ (h:List Ob) (r a room first:Nat) (row:Nat->List D) (L:List Pk):Prop where
 o:(h.map Ob.ro)[r]?=some (TB a room first L.length).ro
 ao:(h.map Ob.ro)[a]?=some (⟨.arr,0,6,room,row⟩:Ob).ro
 fl:first<room
 len:L.length<=room
 yC:room<=64
 rows:∀i,i<L.length->row ((first+i)%room)=(L.getD i default).cells
def TC(h:List Ob)(r b:Nat)(L:List Pk):Prop:=∃a first c,LZ h r a b first c L
def vj.toR{S}{h}{r b}{L}:vj S h r b L->TC h r b L:=λ⟨a,f,c,T⟩=>⟨a,f,c,Z4 T.o,Z4 T.ao,T.fl,T.len,T.yC,T.rows⟩
def LZ.more{h h':List Ob}{r a b first}{c}{L}(e:∀(l:Nat) (o:Ob),(h.map Ob.ro)[l]?=some o->(h'.map Ob.ro)[l]?=some o)(T:LZ h r a b first c L):LZ h' r a b first c L:=⟨e _ _ T.o,e _ _ T.ao,T.fl,T.len,T.yC,T.rows⟩
def TC.more{h h':List Ob}{r b}{L}(e:∀(l:Nat) (o:Ob),(h.map Ob.ro)[l]?=some o->(h'.map Ob.ro)[l]?=some o):TC h r b L->TC h' r b L:=λ⟨a,f,c,T⟩=>⟨a,f,c,e _ _ T.o,e _ _ T.ao,T.fl,T.len,T.yC,T.rows⟩
def vj.frame{S}{h d:List Ob}{r b}{L}(e:∀l,S l->l<h.length->d[l]? = h[l]?):vj S h r b L->vj S d r b L:=λ⟨a,f,c,T⟩=>
 ⟨a,f,c,(e _ T.sr (Qb T.o)).trans T.o,(e _ T.sa (Qb T.ao)).trans T.ao,T.ra,T.fl,T.len,T.yC,T.rows,T.lens,T.sr,T.sa⟩
def Qha{h:List Ob}{r a b first n:Nat}{e:Nat->List D}(c:(h.map Ob.ro)[r]?=some (TB a b first n).ro)(f:(h.map Ob.ro)[a]?=some (⟨.arr,0,6,b,e⟩:Ob).ro)(q:first<b)(o:b<=64)(i:Nat)(s:i<=64):
  Zf prog 193 h [.ptr r 0 0 0,Qa i] (λd=>d=Qa ((first+i)%b:Nat)):=by
 have l:IntKind.i64.wrap ((first:Int)+i)=((first+i:Nat):Int):=Zw;refine ZH func193 ntmps193 results193 λg w p F k t j=>?_;rw[<- k]at c f;have u:=Qb c;have m:=Qb f;simp only[go_sem];apply Qv j [0,1,2,3,4,5,6,7,8,9,10,11,12];simp only[go_sem,c,l];refine⟨ω,[],σ,?_⟩;congr 2
section
variable {h:List Ob}{r a room first:Nat}{row:Nat->List D}{L:List Pk}(T:LZ h r a room first row L)
include T
theorem Qhb(i:Nat)(b:i<=64):Zf prog 193 h [.ptr r 0 0 0,Qa i] (λd=>d=Qa ((first+i)%room:Nat)):=Qha T.o T.ao T.fl T.yC i b
theorem Qhc:Zf prog 192 h [.ptr r 0 0 0] (λd=>d=Qa (room-L.length:Nat)):=by
 obtain⟨b,c,m,q,k,p⟩:=T;have i:IntKind.i64.wrap ((room:Int)-L.length)=((room-L.length:Nat):Int):=Zw;refine ZH func192 ntmps192 results192 λe w l F g n f=>?_;rw[<- g]at b c;have o:=Qb b;have j:=Qb c;simp only[go_sem];apply Qv f i4;simp only[go_sem,b,i];exact⟨[],σ⟩
theorem QvX:Zf prog 142 h [.ptr r 0 0 0] (λd=>d=Qa L.length):=by
 obtain⟨b,c,k,p,i,o⟩:=T;refine ZH func142 ntmps142 results142 λe w j F f m l=>?_;rw[<- f]at b c;have n:=Qb b;have g:=Qb c;simp only[go_sem,b];exact⟨[],σ⟩
theorem Qhd(i)(m:i<L.length):Zf prog 251 h [.ptr r 0 0 0,Qa i] (λd=>d=.tup [.agg (L.getD i default).cells,Qa 0]):=by
 have n:=T;obtain⟨b,e,s,u,p,o⟩:=T;have d1:decide ((i:Int)<0)=false:=QG ω;have d2:decide (L.length<=i)=false:=QG ω;refine ZH func251 ntmps251 results251 λk w q F g t c=>?_;rw[<- g]at b e;have j:=Qb b;have l:=Qb e;simp only[go_sem,Qj,b,j,d1,d2];apply Qv c [0,1,2,3,4,5,1006,7,8,1009,10];simp only[go_sem,Qj,b,j];apply KQ c pF (Qhb (n.more (Hl g)) i ω);apply ZT c;simp only[go_sem,Qj,e,l];have f:(first+i)%room<room:=WM _ ω;have ZW:=o i m;refine⟨f,f,?_⟩;simp only[go_sem,Qj,ZW];exact⟨_,rfl⟩
end
def sw{f i n:Nat}(b:f<n)(a:i<=n):(f+i)%n=if f+i<n then f+i else f+i-n:=by
 split;exact qW ‹_›;rw[Nat.mod_eq_sub_mod ω,qW ω]
def QvY{S}{h}{r b}{L}(T:vj S h r b L)(x):
  QM prog 144 h [.ptr r 0 0 0,.agg x.cells] (λd z=>d=Qa (if L.length=b then 5 else 0)/\vj S z r b (if L.length=b then L else L++[x])/\Step S h z):=by
 have P:=T;obtain⟨a,first,f,T⟩:=T;have j:=T.o;have p:=T.ao;have Tr:=λg=>(show LZ (h++g) r a b first f L from ⟨Z4 ((QE (Qb T.o)).trans T.o),Z4 ((QE (Qb T.ao)).trans T.ao),T.fl,T.len,T.yC,T.rows⟩);by_cases o:L.length=b;have d0:(((b-L.length:Nat):Int)==0)=true:=ξ;refine Q7 func144 ntmps144 results144 λn w I c=>?_;have q:=Qb j;have u:=Qb p;simp only[go_sem];apply Zz c Qfr (Qhc (Tr _));apply Qh c;simp only[go_sem,d0];rw[Qd o,Qd o];exact⟨rfl,P.frame λl m N=>QE N,Step.app S h _⟩;have F:=T.len;have d0:(((b-L.length:Nat):Int)==0)=false:=ξ;refine Q7 func144 ntmps144 results144 λn w I c=>?_;have q:=Qb j;have u:=Qb p;simp only[go_sem];apply Zz c Qfr (Qhc (Tr _));apply Qh c;simp only[go_sem,d0];apply Qv c [0,1,2,3,4,5,6,7,8,10,1009,11,1012];simp only[go_sem,Qj,j,q];apply KQ c pF (Qhb (Tr _) L.length (by have:=T.yC;omega));apply ZT c;simp only[go_sem,Qj,q,p,u];have s:(first+L.length)%b<b:=WM _ (by have:=T.fl;omega);have Z1:(f ((first+L.length)%b)).drop 6=[]:=aR (by rw[T.lens _ s];exact QB _);refine⟨s,s,?_⟩;simp only[go_sem,Qj,j,q,Z1,Qp (Q8 T.ra)];rw[Qc o,Qc o];have C:=Qb j;have B:=Qb p;have v:=T.fl;have H:=T.yC;have O:IntKind.i64.wrap ((L.length:Int)+1)=((L.length+1:Nat):Int):=Zw;refine⟨rfl,⟨a,first,λk=>bif k==(first+L.length)%b then x.cells else f k,?_,?_,T.ra,T.fl,ξ,H,?_,?_,T.sr,T.sa⟩,?_,?_⟩;rw[QE (by simp;exact C),W5 (by simp;exact C),O];simp[TB,Qa];rw[QE (by simp;exact B),JG T.ra,W5 B];rfl;intro i t;simp only[Zk,Kr]at t;by_cases m:i=L.length;subst m;simp;have E:i<L.length:=ω;have Q:((first+i)%b==(first+L.length)%b)=false:=by
  rw[sw v ω,sw v ω];simp only[jv];split<;>split<;>omega
 rw[Q];simp only[zT,T.rows i E,List.getD,JJ E];intro i t;show (bif _ then _ else _:List D).length=6;by_cases m:(i==(first+L.length)%b)=true;rw[m];rfl;rw[X9.2 m];exact T.lens i t;intro l M y;have K:a≠l:=λe=>y (e▸T.sa);have J:r≠l:=λe=>y (e▸T.sr);rw[QE (by simp;exact M),JG J,JG K];simp
def QvZ{S}{h}{r b}{x}{L}(T:vj S h r b (x::L)):
  QM prog 209 h [.ptr r 0 0 0] (λd y=>d=.tup [.agg x.cells,Qa 0]/\vj S y r b L/\Step S h y):=by
 have U:=T;obtain⟨a,first,c,T⟩:=T;have j:=T.o;have p:=T.ao;have Tr:=λg=>(show LZ (h++g) r a b first c (x::L) from ⟨Z4 ((QE (Qb T.o)).trans T.o),Z4 ((QE (Qb T.ao)).trans T.ao),T.fl,T.len,T.yC,T.rows⟩);have t:=T.yC;have f:=T.fl;have P:=T.len;simp only[Kw]at P;refine Q7 func209 ntmps209 results209 λE w R m=>?_;have z:=Qb j;have F:=Qb p;simp only[go_sem];apply Zz m QfH (Qhd (Tr _) 0 σ);apply Qh m;simp only[go_sem,Qj,Qj];apply Qv m o04;simp only[go_sem,Qj,j,z,p,F];refine⟨f,f,?_⟩;have o:=Qb j;have n:=Qb p;have Z1:(c first).drop 6=[]:=aR (by rw[T.lens _ f];exact QB _);have Q:∀A B,((h.set a A).set r B)[r]?=some B:=λA B=>W5 (by simp;exact o);have M:IntKind.i64.wrap (((L.length+1:Nat):Int)-1)=(L.length:Int):=Zw;have O:=λA g=>(show ((h.set a A++g).map Ob.ro)[r]?=some (TB a b first (L.length+1)).ro from Z4 ((QE (by simp;exact o)).trans ((JG (Q8 T.ra)).trans j)));have s:=λC g=>(show ((h.set a ⟨.arr,0,6,b,C⟩++g).map Ob.ro)[a]?=some (⟨.arr,0,6,b,C⟩:Ob).ro from Z4 ((QE (by simp;exact n)).trans (W5 n)));apply Zz m pF (Qha (O _ _) (s _ _) f t 1 ω);apply Qh m;simp only[go_sem,Qj,Qj,j,z,Qp (Q8 T.ra),Z1,Q,M];refine⟨⟨a,(first+1)%b,λk=>bif k==first then (default:Pk).cells else c k,?_,?_,T.ra,WM _ ω,ω,t,?_,?_,T.sr,T.sa⟩,?_,?_⟩;rw[QE (by simp;exact o),W5 (by simp;exact o)];rfl;rw[QE (by simp;exact n),JG T.ra,W5 n];rfl;intro i v;have K:((first+1)%b+i)%b=(first+(i+1))%b:=by rw[Nat.mod_add_mod];congr 1;omega
 have q:i+1<b:=ω;have N:((first+(i+1))%b==first)=false:=by
  rw[sw f ω];simp only[jv];split<;>omega
 rw[K];simp only[N,zT,T.rows (i+1) ξ];simp;intro i v;show (bif _ then _ else _:List D).length=6;by_cases q:(i==first)=true;rw[q];rfl;rw[X9.2 q];exact T.lens i v;intro l J u;have I:a≠l:=λe=>u (e▸T.sa);have H:r≠l:=λe=>u (e▸T.sr);rw[QE (by simp;exact J),JG H,JG I];simp
def Qv1(h:List Ob)(n:Nat)(i:1<=n)(e:n<=64):QM prog 143 h [Qa n] (λd b=>d=.tup [.ptr (h.length+1) 0 0 0,Qa 0]/\vj (λl=>h.length<=l) b (h.length+1) n []/\∃g,b=h++g/\g.length=2):=by
 have d1:decide ((n:Int)<1)=false:=QG ω;have d2:decide ((64:Int)<n)=false:=QG ω;refine Q7 func143 ntmps143 results143 λc w f a=>?_;simp only[go_sem,d1,d2];refine QvV BS a rfl rfl rfl rfl π ω π rfl ?_;apply Qg a;simp only[Zk,Kr,WL,YT,zR];refine⟨trivial,⟨h.length,0,λ_=>(default:Pk).cells,VD rfl,Vc rfl,ω,ω,σ,e,σ,λ_ _=>rfl,by show h.length<=_;omega,QB _⟩,_,rfl,rfl⟩
@[go_sem] def num(n:Nat):D:=.agg [u64 (n/18446744073709551616),u64 (n%18446744073709551616)]
def Qhe(a b g f d c)(i:a=g*4294967296+f)(h:b=d*4294967296+c)(m:g<4294967296)(l:f<4294967296)(k:d<4294967296)(j:c<4294967296):
  ∃P Q R S:Nat,P=g*d/\Q=g*c/\R=f*d/\S=f*c/\a*b=P*18446744073709551616+(Q+R)*4294967296+S/\P<=18446744065119617025/\Q<=18446744065119617025/\R<=18446744065119617025/\S<=18446744065119617025:=by
 refine⟨_,_,_,_,rfl,rfl,rfl,rfl,?_,?_,?_,?_,?_⟩;subst i h;have e:(g*4294967296+f)*(d*4294967296+c)=g*d*(4294967296*4294967296)+(g*c+f*d)*4294967296+f*c:=by
  simp only[VM,Nat.mul_add,Iu,Nat.mul_left_comm,Is];omega
 rw[e];all_goals (refine JY (Yb (Nat.le_sub_one_of_lt ‹_›) (Nat.le_sub_one_of_lt ‹_›)) π)
def B9(a b)(p:a<18446744073709551616)(g:b<18446744073709551616):QI prog 203 [u64 a,u64 b] (QN (num (a*b))):=by
 refine QY 0 func203 ntmps203 results203 λe w g=>?_;simp only[go_sem,-Nat.reducePow];have o:(2:Nat)^min 32 64=4294967296:=rfl;have d:(2:Int)^min 32 64=((4294967296:Nat):Int):=rfl;obtain⟨P,Q,R,S,k,j,i,h,n,t,s,r,q⟩:=Qhe a b (a/4294967296) (a%4294967296) (b/4294967296) (b%4294967296) ω ω ω ω ω ω;have c:∀x:Nat,((x:Int)).fdiv ((4294967296:Nat):Int)=((x/4294967296:Nat):Int):=λx=>by have:=LM x 32;rwa [show (2:Int)^32=((4294967296:Nat):Int) from rfl,show (2:Nat)^32=4294967296 from rfl]at this
 simp (disch:=omega) only [c,Qu3,d,LL,AF,<- k,<- j,<- i,<- h,n];have f:∀X:Nat,X*4294967296%18446744073709551616=X%4294967296*4294967296:=λX=>ω;rw[f,Qu4 _ _ ω ω];have m:((P%18446744073709551616+((Q%18446744073709551616+S%18446744073709551616/4294967296)%18446744073709551616)/4294967296)%18446744073709551616+((R%18446744073709551616+((Q%18446744073709551616+S%18446744073709551616/4294967296)%18446744073709551616)%4294967296)%18446744073709551616)/4294967296)%18446744073709551616=(P*18446744073709551616+(Q+R)*4294967296+S)/18446744073709551616:=ω;have l:((R%18446744073709551616+((Q%18446744073709551616+S%18446744073709551616/4294967296)%18446744073709551616)%4294967296)%18446744073709551616)%4294967296*4294967296+S%18446744073709551616%4294967296=(P*18446744073709551616+(Q+R)*4294967296+S)%18446744073709551616:=ω;rw[m,l]
def sx(a b)(k:a<2^128)(h:b<2^128):QI prog 227 [num a,num b] (QN (Qa (if a<b then -1 else if a=b then 0 else 1))):=by
 refine QY 0 func227 ntmps227 results227 λg w h=>?_;simp only[go_sem,-Nat.reducePow];refine VV (λf=>?_) (λf=>?_);simp only[go_sem,-Nat.reducePow,f];have:=qZ f;rw[Qd ω];simp only[go_sem,-Nat.reducePow,f];have l:=CO f;refine VV (λe=>?_) (λe=>?_);have i:a/18446744073709551616=b/18446744073709551616:=by have:=eq_of_beq e;omega
 simp only[go_sem,-Nat.reducePow,e];refine VV (λd=>?_) (λd=>?_);have:=qZ d;simp only[go_sem,-Nat.reducePow,d];rw[Qd ω];have j:=CO d;simp only[go_sem,-Nat.reducePow,d];refine VV (λc=>?_) (λc=>?_);simp only[go_sem,-Nat.reducePow,c];simp only[ZE,qX]at c;rw[Qc ω,Qd ω];simp only[go_sem,-Nat.reducePow,c];simp only[Gm,jv]at c;rw[Qc ω,Qc ω];have i:=ne_of_beq_false e;simp only[go_sem,-Nat.reducePow,e,Ie];rw[Qc ω,Qc ω]
def Qv3(a b c u:Nat)(e:a<18446744073709551616)(d:b<18446744073709551616)(g:c<2)(f:u=(a+18446744073709551616-b+18446744073709551616-c)%18446744073709551616):
  (bits BinOp.or IntKind.u64 (bits BinOp.and IntKind.u64 (bits BinOp.xor IntKind.u64 (if IntKind.u64.signed=true then -1 else IntKind.u64.max) (a:Int)) (b:Int)) (bits BinOp.and IntKind.u64 (bits BinOp.xor IntKind.u64 (if IntKind.u64.signed=true then -1 else IntKind.u64.max) (bits BinOp.xor IntKind.u64 (a:Int) (b:Int))) (u:Int))).fdiv (2^min 63 64)=((if a<b+c then 1 else 0:Nat):Int):=by
 have em:(if IntKind.u64.signed=true then -1 else IntKind.u64.max)=((18446744073709551615:Nat):Int):=π;have hx:a ^^^ b<2^64:=RQ ω ω;have i:18446744073709551615 ^^^ a<2^64:=RQ ω ω;have j:18446744073709551615 ^^^ (a ^^^ b)<2^64:=RQ ω ω;have k:(18446744073709551615 ^^^ a) &&& b<2^64:=bj _ ω;have h:(18446744073709551615 ^^^ (a ^^^ b)) &&& u<2^64:=bj _ ω;rw[em,u64_xor_nat a b e d,u64_xor_nat _ a π e,u64_xor_nat _ _ π ω,u64_and_nat _ b ω d,u64_and_nat _ u ω ω,u64_or_nat _ _ ω ω,LM];rw[show (2:Nat)^min 63 64=9223372036854775808 from rfl,rE _ _ ω ω,gh _ _ ω ω,gh _ _ ω ω,rF _ _ ω ω,rF _ _ ω ω,rF _ _ ω ω];rw[Qu5 a b c _ _ _ u _ e d g f rfl rfl rfl rfl]
def Qhf(a b)(c)(g:a<18446744073709551616)(f:b<18446744073709551616)(e:c<2):QI prog 279 [u64 a,u64 b,u64 c] (QN (.tup [u64 ((a+18446744073709551616-b+18446744073709551616-c)%18446744073709551616),u64 (if a<b+c then 1 else 0)])):=by
 refine QY 0 func279 ntmps279 results279 λd w f=>?_;simp only[go_sem,-Nat.reducePow];have h:IntKind.u64.wrap (IntKind.u64.wrap ((a:Int)-(b:Int))-(c:Int))=(((a+18446744073709551616-b+18446744073709551616-c)%18446744073709551616:Nat):Int):=by
  rw[rD a b ω,rD _ c ω];omega
 rw[h,Qv3 a b c _ g ‹_› e rfl]
def Qv5(a b)(k:a<2^128)(c:b<2^128):QI prog 267 [num a,num b] (QN (.tup [num ((a+2^128-b)%2^128),QU (decide (a<b))])):=by
 refine QY 0 func267 ntmps267 results267 λg w c=>?_;simp only[go_sem,-Nat.reducePow];refine Ks c QfO ?_ (Qhf (a%18446744073709551616) (b%18446744073709551616) 0 ω ω ω) ?_;simp only[go_sem,-Nat.reducePow];apply Qh c;simp only[go_sem,-Nat.reducePow];refine Ks c QfO ?_ (Qhf (a/18446744073709551616) (b/18446744073709551616) (if a%18446744073709551616<b%18446744073709551616+0 then 1 else 0) ω ω (by split<;>omega)) ?_;simp only[go_sem,-Nat.reducePow];apply Qh c;simp only[go_sem,-Nat.reducePow];have l:∀x:Nat,(((if x=1 then (1:Nat) else 0:Nat):Int) != 0)=decide (x=1):=λx=>by by_cases h:x=1<;>simp[h]
 have j:(((if a/18446744073709551616<b/18446744073709551616+if a%18446744073709551616<b%18446744073709551616 then 1 else 0 then 1 else 0:Nat):Int) != 0)=decide (a<b):=by
  by_cases f:a%18446744073709551616<b%18446744073709551616;rw[Qd f];by_cases d:a/18446744073709551616<b/18446744073709551616+1;rw[Qd d];simp;omega;rw[Qc d];simp;omega;rw[Qc f];by_cases d:a/18446744073709551616<b/18446744073709551616+0;rw[Qd d];simp;omega;rw[Qc d];simp;omega
 have i:(a/18446744073709551616+18446744073709551616-b/18446744073709551616+18446744073709551616-if a%18446744073709551616<b%18446744073709551616 then 1 else 0)%18446744073709551616=(a+2^128-b)%2^128/18446744073709551616:=by
  split<;>omega
 have e:(a%18446744073709551616+18446744073709551616-b%18446744073709551616+18446744073709551616-0)%18446744073709551616=(a+2^128-b)%2^128%18446744073709551616:=ω;try rw[Ep]at e
 try rw[Ep]at e
 rw[j,i,e]
def Qv6(a b c u:Nat)(e:a<18446744073709551616)(d:b<18446744073709551616)(g:c<2)(f:u=(a+b+c)%18446744073709551616):
  (bits BinOp.or IntKind.u64 (bits BinOp.and IntKind.u64 (a:Int) (b:Int)) (bits BinOp.andNot IntKind.u64 (bits BinOp.or IntKind.u64 (a:Int) (b:Int)) (u:Int))).fdiv (2^min 63 64)=((if 18446744073709551616<=a+b+c then 1 else 0:Nat):Int):=by
 have hx:a ||| b<2^64:=Nat.or_lt_two_pow ω ω;have i:a &&& b<2^64:=bj _ ω;have h:(a ||| b) &&& (18446744073709551615-u)<2^64:=bj _ ω;rw[u64_and_nat a b e d,u64_or_nat a b e d,u64_andNot_nat _ u ω ω,u64_or_nat _ _ ω ω,LM];rw[show (2:Nat)^min 63 64=9223372036854775808 from rfl,rE _ _ ω ω,gh _ _ ω ω,gh _ _ ω ω,rE _ _ ω ω];rw[show (18446744073709551615-u)/9223372036854775808=1-u/9223372036854775808 by omega];rw[Qu6 a b c _ _ _ u _ e d g f rfl rfl rfl rfl]
def Qhg(a b)(c)(g:a<18446744073709551616)(f:b<18446744073709551616)(e:c<2):QI prog 260 [u64 a,u64 b,u64 c] (QN (.tup [u64 ((a+b+c)%18446744073709551616),u64 (if 18446744073709551616<=a+b+c then 1 else 0)])):=by
 refine QY 0 func260 ntmps260 results260 λd w f=>?_;simp only[go_sem,-Nat.reducePow];have h:IntKind.u64.wrap (IntKind.u64.wrap ((a:Int)+(b:Int))+(c:Int))=(((a+b+c)%18446744073709551616:Nat):Int):=by
  rw[AF,AF];omega
 rw[h,Qv6 a b c _ g ‹_› e rfl]
def TD(a b)(j:a<2^128)(c:b<2^128):QI prog 241 [num a,num b] (QN (.tup [num ((a+b)%2^128),QU (decide (2^128<=a+b))])):=by
 refine QY 0 func241 ntmps241 results241 λg w c=>?_;simp only[go_sem,-Nat.reducePow];refine Ks c QfL ?_ (Qhg (a%18446744073709551616) (b%18446744073709551616) 0 ω ω ω) ?_;simp only[go_sem,-Nat.reducePow];apply Qh c;simp only[go_sem,-Nat.reducePow];refine Ks c QfL ?_ (Qhg (a/18446744073709551616) (b/18446744073709551616) (if 18446744073709551616<=a%18446744073709551616+b%18446744073709551616+0 then 1 else 0) ω ω (by split<;>omega)) ?_;simp only[go_sem,-Nat.reducePow];apply Qh c;simp only[go_sem,-Nat.reducePow];have i:(((if 18446744073709551616<=a/18446744073709551616+b/18446744073709551616+(if 18446744073709551616<=a%18446744073709551616+b%18446744073709551616 then 1 else 0) then 1 else 0:Nat):Int) != 0)=decide (2^128<=a+b):=by
  by_cases f:18446744073709551616<=a%18446744073709551616+b%18446744073709551616;rw[Qd f];by_cases d:18446744073709551616<=a/18446744073709551616+b/18446744073709551616+1;rw[Qd d];simp;omega;rw[Qc d];simp;omega;rw[Qc f];by_cases d:18446744073709551616<=a/18446744073709551616+b/18446744073709551616+0;rw[Qd d];simp;omega;rw[Qc d];simp;omega
 have h:(a/18446744073709551616+b/18446744073709551616+if 18446744073709551616<=a%18446744073709551616+b%18446744073709551616 then 1 else 0)%18446744073709551616=(a+b)%2^128/18446744073709551616:=by
  split<;>omega
 have e:(a%18446744073709551616+b%18446744073709551616)%18446744073709551616=(a+b)%2^128%18446744073709551616:=ω;try rw[Ep]at e
 try rw[Ep]at e
 rw[i,h,e]
def Qhh(a)(f:a<18446744073709551616):QI prog 233 [u64 a] (QN (num a)):=by
 refine QY 0 func233 ntmps233 results233 λb w e=>?_;simp only[go_sem,-Nat.reducePow];have d:a/18446744073709551616=0:=ω;have c:a%18446744073709551616=a:=ω;rw[d,c];rfl
def sy(x y:Nat)(b:x<9223372036854775808)(a:y<2):bits .or .u64 ((x*2:Nat):Int) (y:Int)=((x*2+y:Nat):Int):=by
 rw[u64_or_nat _ _ ω ω,nat_join 1 _ _ ω ω]
def sA(x:Nat):(x:Int).fdiv (2^min 63 64)=((x/9223372036854775808:Nat):Int):=by
 have:=LM x 63;rwa [show (2:Int)^63=2^min 63 64 from rfl,show (2:Nat)^63=9223372036854775808 from rfl]at this
def sB(x:Nat):IntKind.u64.wrap ((x:Int)*2^min 1 64)=((x%9223372036854775808*2:Nat):Int):=by
 rw[show (2:Int)^min 1 64=((2:Nat):Int) from rfl,LL];omega
def sC(r A:Nat)(a:A<2^128):bits .or .u64 (IntKind.u64.wrap ((r:Int)*2^min 1 64)) ((A/18446744073709551616/9223372036854775808:Nat):Int)=(((2*r+A/2^127)%18446744073709551616:Nat):Int):=by
 rw[sB,sy _ _ ω ω];congr 1;omega
def O8(A)(a:A<2^128):bits .or .u64 (IntKind.u64.wrap (((A/18446744073709551616:Nat):Int)*2^min 1 64)) ((A%18446744073709551616/9223372036854775808:Nat):Int)=(((A*2%2^128)/18446744073709551616:Nat):Int):=by
 rw[sB,sy _ _ ω ω];congr 1;omega
def sD(A):IntKind.u64.wrap (((A%18446744073709551616:Nat):Int)*2^min 1 64)=(((A*2%2^128)%18446744073709551616:Nat):Int):=by
 rw[sB];congr 1;omega
def Qhi(x):bits .or .u64 (((x*2%2^128)%18446744073709551616:Nat):Int) 1=((((x*2+1)%2^128)%18446744073709551616:Nat):Int):=by
 have:=sy ((x*2%2^128)%18446744073709551616/2) 1 ω ω;rw[show (x*2%2^128)%18446744073709551616/2*2=(x*2%2^128)%18446744073709551616 by omega]at this;rw[show ((1:Nat):Int)=1 from rfl]at this;rw[this];congr 1;omega
def gF{n:Nat}(h:n≠0):((n:Int) != 0)=true:=by simp[h]
def TE{n:Nat}(h:n=0):((n:Int) != 0)=false:=by simp[h]
def Qv7(a k)(i:k<128):a/2^(128-(k+1))=2*(a/2^(128-k))+(a*2^k%2^128)/2^127:=by
 obtain⟨m,h⟩:∃m,m=127-k:=⟨_,rfl⟩;have g:128-(k+1)=m:=ω;have f:128-k=m+1:=ω;have e:(2:Nat)^128=2^(m+1)*2^k:=by rw[<- Nat.pow_add];congr 1;omega
 have d:(2:Nat)^127=2^m*2^k:=by rw[<- Nat.pow_add];congr 1;omega
 rw[g,f,e,d,Nat.mul_mod_mul_right,Nat.mul_div_mul_right _ _ (bt k),RP];have b:=bt m;generalize 2^m=M at *;have j:=RL a (M*2);have c:a=M*(2*(a/(M*2)))+a%(M*2):=by rw[<- Is];omega
 conv=>lhs;rw[c]
 rw[Nat.mul_add_div b]
def Qv8(a k):a*2^k%2^128*2%2^128=a*2^(k+1)%2^128:=by
 have:a*2^(k+1)=a*2^k*2:=by rw[RP,Is]
 rw[this];omega
def Qhj(t b a)(c:0<b)(d:a<2):
  (b<=2*(t%b)+a->(2*t+a)/b=2*(t/b)+1/\(2*t+a)%b=2*(t%b)+a-b)/\(2*(t%b)+a<b->(2*t+a)/b=2*(t/b)/\(2*t+a)%b=2*(t%b)+a):=by
 have f:=RL t b;have e:=WM t c;constructor;intro h;refine(bn c).2 ⟨?_,ω⟩;rw[Nat.mul_add,Nat.mul_left_comm];omega;intro h;refine(bn c).2 ⟨?_,ω⟩;rw[Nat.mul_left_comm];omega
def dA(a k:Nat):Nat:=a*2^k%2^128
def dT(a k:Nat):Nat:=a/2^(128-k)
def Qhk(a k)(h:a<2^128):dT a k<2^128:=Iq (Gw _ _) h
def Hs(a k):dA a k<2^128:=WM _ π
def Qhl(a b)(j:a<2^128)(n:b<18446744073709551616):QI prog 280 [num a,u64 b] (QN (.tup [num (if b=0 then 0 else a/b),u64 (if b=0 then 0 else a%b),Qa (if b=0 then 1 else 0)])):=by
 refine QY 0 func280 ntmps280 results280 λt w n=>?_;simp only[go_sem,-Nat.reducePow];by_cases f:b=0;subst f;simp only[go_sem,-Nat.reducePow,Vu];try rfl
 have p:=OI f;simp only[go_sem,-Nat.reducePow,p];have x:dA a 0=a:=by show a*2^0%2^128=a;rw[Nat.pow_zero,Nat.mul_one];exact qW j
 have v:dT a 0=0:=Nat.div_eq_of_lt j;refine kO (G:=Nat) [1,2,4,7] (λk=>True) (λk e=>[(8,u64 (dT a k%b)),(13,Qa k)]) (λk e=>[⟨.one,0,2,1,λ_=>[u64 (dA a k/18446744073709551616),u64 (dA a k%18446744073709551616)]⟩,⟨.one,0,2,1,λ_=>[u64 0,u64 0]⟩,⟨.one,0,2,1,λ_=>[u64 (dT a k/b/18446744073709551616),u64 (dT a k/b%18446744073709551616)]⟩]) (128) (0) rfl (Qo.to 3 (by (simp only[go_sem,-Nat.reducePow,x,v,Nat.zero_div,Nat.zero_mod])<;>simp)) trivial ?_;intro k e i _;replace i:k<=128:=i;apply Qh n;simp only[go_sem,-Nat.reducePow];have o:=Jr (show k<4611686018427387904 from ω);first|refine We i (λc=>?_) (λc=>?_)|refine Wf i (λc=>?_) (λc=>?_)
 replace c:k<128:=c;have Qb:decide ((k:Int)<128)=true:=ξ;have s:0<b:=ω;have t1:dT a (k+1)=2*dT a k+dA a k/2^127:=Qv7 a k c;have t2:dA a k*2%2^128=dA a (k+1):=Qv8 a k;have t3:=Qhj (dT a k) b (dA a k/2^127) s (by have:=Hs a k;omega);have t4:=WM (dT a k) s;have t5:=Hs a k;have t6:=Qhk a (k+1) j;rw[<- t1]at t3;have t7:dT a (k+1)/b<2^128:=Iq (Gw _ _) t6;have t8:dT a k/b<2^128:=Iq (Gw _ _) (Qhk a k j);by_cases y:b<=2*(dT a k%b)+dA a k/2^127;obtain⟨u,q⟩:=t3.1 y;have d:IntKind.u64.wrap ((((2*(dT a k%b)+dA a k/2^127)%18446744073709551616:Nat):Int)-(b:Int))=((dT a (k+1)%b:Nat):Int):=by
  rw[rD _ b ω,q];congr 1;omega
 have z:dT a k/b*2%2^128=dT a k/b*2:=ω;have l:((dT a k/b*2+1)%2^128)=dT a (k+1)/b:=ω;have r:dT a k/b*2%2^128/18446744073709551616=dT a (k+1)/b/18446744073709551616:=ω;by_cases h:dT a k%b/9223372036854775808=0;have m:decide (b<=(2*(dT a k%b)+dA a k/2^127)%18446744073709551616)=true:=ξ;have g:((((dT a k%b/9223372036854775808:Nat)):Int) != 0)=false:=TE h;simp only[go_sem,-Nat.reducePow,Qb,sC _ _ (Hs a k),O8 _ (Hs a k),O8 _ t8,sD,sA,g,m,d,t2,Qhi,l,r];repeat (refine And.intro δ ?_)
 refine⟨_,Qo.to 3 (by (simp only[go_sem,-Nat.reducePow,o])<;>simp),JW.mk (e) (trivial)⟩;have g:((((dT a k%b/9223372036854775808:Nat)):Int) != 0)=true:=gF h;simp only[go_sem,-Nat.reducePow,Qb,sC _ _ (Hs a k),O8 _ (Hs a k),O8 _ t8,sD,sA,g,d,t2,Qhi,l,r];repeat (refine And.intro δ ?_)
 refine⟨_,Qo.to 3 (by (simp only[go_sem,-Nat.reducePow,o])<;>simp),JW.mk (e) (trivial)⟩;obtain⟨u,q⟩:=t3.2 ω;have d:(2*(dT a k%b)+dA a k/2^127)%18446744073709551616=dT a (k+1)%b:=ω;have l:dT a k/b*2%2^128=dT a (k+1)/b:=ω;have h:dT a k%b/9223372036854775808=0:=ω;have m:decide (b<=dT a (k+1)%b)=false:=ξ;have g:=TE h;simp only[go_sem,-Nat.reducePow,Qb,sC _ _ (Hs a k),O8 _ (Hs a k),O8 _ t8,sD,sA,g,d,m,t2,l];repeat (refine And.intro δ ?_)
 refine⟨_,Qo.to 3 (by (simp only[go_sem,-Nat.reducePow,o])<;>simp),JW.mk (e) (trivial)⟩;have Qb:decide ((k:Int)<128)=false:=by rw[c];rfl
 have d:dT a k=a:=by rw[c];show a/2^0=a;rw[Nat.pow_zero,Nat.div_one]
 simp only[go_sem,-Nat.reducePow,Qb,d];apply Qh n;simp only[go_sem,-Nat.reducePow];rw[Qc f,Qc f,Qc f]
def d0(n:Nat):Nat:=n%4294967296
def d1(n:Nat):Nat:=n/4294967296%4294967296
def d2(n:Nat):Nat:=n/18446744073709551616%4294967296
def d3(n:Nat):Nat:=n/79228162514264337593543950336%4294967296
def TG(n):d0 n<4294967296:=WM _ π
def TH(n):d1 n<4294967296:=WM _ π
def sG(n):d2 n<4294967296:=WM _ π
def sH(n):d3 n<4294967296:=WM _ π
@[go_sem] def dg(n:Nat):D:=.agg [u64 (d0 n),u64 (d1 n),u64 (d2 n),u64 (d3 n)]
def xH(s:Nat):((s:Int)).tmod 4294967296=((s%4294967296:Nat):Int):=by
 rw[show (4294967296:Int)=((4294967296:Nat):Int) from rfl,<- Int.ofNat_tmod]
def wj(s:Nat)(h:s<18446744073709551616):IntKind.u64.wrap (((s:Int)).tdiv 4294967296)=((s/4294967296:Nat):Int):=by
 rw[show (4294967296:Int)=((4294967296:Nat):Int) from rfl,<- Int.ofNat_tdiv,IntKind.wrap_u64];omega
theorem jQ:((0:Nat):Int)=0:=rfl
theorem zD:((1:Nat):Int)=1:=rfl
theorem AM:((2:Nat):Int)=2:=rfl
theorem Pa:((3:Nat):Int)=3:=rfl
theorem Ht:((4:Nat):Int)=4:=rfl
def sI:IntKind.i64.wrap 0=0:=π
def TI:IntKind.i64.wrap 1=1:=π
def TJ:IntKind.i64.wrap 2=2:=π
def sJ:IntKind.i64.wrap 3=3:=π
def sK{k}(h:k<=4):k=0\/k=1\/k=2\/k=3\/k=4:=ω
def gG{x y:Nat}(h:x≠y):((x:Int) != (y:Int))=true:=ξ
def gH{x y:Nat}(h:x=y):((x:Int) != (y:Int))=false:=by simp[h]
def Ca(v)(b:v<18446744073709551616):QI prog 48 [u64 v] (QN (dg v)):=by
 refine QY 0 func48 ntmps48 results48 λa w g=>?_;simp only[go_sem,-Nat.reducePow];simp only[xH,wj v b];have f:v%4294967296=d0 v:=rfl;have e:v/4294967296=d1 v:=by unfold d1;omega
 have d:d2 v=0:=by unfold d2;omega
 have c:d3 v=0:=by unfold d3;omega
 rw[f,e,d,c];all_goals first|exact rfl|exact⟨π,π,rfl⟩
def Qwa(b a)(e:b<18446744073709551616)(d:a<18446744073709551616):QI prog 164 [u64 b,u64 a] (QN (dg (b*18446744073709551616+a))):=by
 refine QY 0 func164 ntmps164 results164 λc w j=>?_;simp only[go_sem,-Nat.reducePow];simp only[xH,wj b e,wj a d];have i:a%4294967296=d0 (b*18446744073709551616+a):=by unfold d0;omega
 have h:a/4294967296=d1 (b*18446744073709551616+a):=by unfold d1;omega
 have g:b%4294967296=d2 (b*18446744073709551616+a):=by unfold d2;omega
 have f:b/4294967296=d3 (b*18446744073709551616+a):=by unfold d3;omega
 rw[i,h,g,f];all_goals first|exact rfl|exact⟨π,π,π,π,rfl⟩
def gI(n)(h:n<2^128):QI prog 55 [dg n] (QN (u64 (n/18446744073709551616))):=by
 refine QY 0 func55 ntmps55 results55 λa w b=>?_;simp only[go_sem,-Nat.reducePow];rw[show (4294967296:Int)=((4294967296:Nat):Int) from rfl,LL,AF];congr 3;unfold d3 d2;omega
def L7(n)(h:n<2^128):QI prog 53 [dg n] (QN (u64 (n%18446744073709551616))):=by
 refine QY 0 func53 ntmps53 results53 λa w b=>?_;simp only[go_sem,-Nat.reducePow];rw[show (4294967296:Int)=((4294967296:Nat):Int) from rfl,LL,AF];congr 3;unfold d0 d1;omega
def Qhm(a b)(r:a<2^128)(c:b<2^128):QI prog 29 [dg a,dg b] (QN (QU (decide (a<b)))):=by
 refine QY 0 func29 ntmps29 results29 λm w c=>?_;simp only[go_sem,-Nat.reducePow];refine kO (G:=Nat) [2,3] (λk=>(1<=k->d3 a=d3 b)/\(2<=k->d2 a=d2 b)/\(3<=k->d1 a=d1 b)/\(4<=k->d0 a=d0 b)) (λk d=>[(6,Qa k)]) (λk d=>[⟨.one,0,4,1,λ_=>[u64 (d0 a),u64 (d1 a),u64 (d2 a),u64 (d3 a)]⟩,⟨.one,0,4,1,λ_=>[u64 (d0 b),u64 (d1 b),u64 (d2 b),u64 (d3 b)]⟩]) (4) (0) rfl (Qo.to 2 (by (simp only[go_sem,-Nat.reducePow])<;>simp)) ?_ ?_;exact⟨λh=>ω,λh=>ω,λh=>ω,λh=>ω⟩;rintro k d o ⟨f,i,j,n⟩;obtain rfl|rfl|rfl|rfl|rfl:=sK o;apply Qh c;simp only[go_sem,-Nat.reducePow,jQ];apply Qv c o05;simp only[go_sem,-Nat.reducePow,sJ];by_cases h:d3 a=d3 b;simp only[go_sem,-Nat.reducePow,gH h];repeat (refine And.intro δ ?_)
 refine⟨_,Qo.to 2 (by (simp only[go_sem,-Nat.reducePow,zD])<;>simp),JW.mk (d) (⟨λ_=>h,λ_=>ω,λ_=>ω,λ_=>ω⟩)⟩;simp only[go_sem,-Nat.reducePow,gG h];apply Qv c Eq;simp only[go_sem,-Nat.reducePow,sJ];have q:decide (d3 a<d3 b)=decide (a<b):=by
  simp only[bx];simp only[d0,d1,d2,d3]at *;omega
 rw[q];apply Qh c;simp only[go_sem,-Nat.reducePow,zD];have e:=f ω;apply Qv c o05;simp only[go_sem,-Nat.reducePow,TJ];by_cases h:d2 a=d2 b;simp only[go_sem,-Nat.reducePow,gH h];repeat (refine And.intro δ ?_)
 refine⟨_,Qo.to 2 (by (simp only[go_sem,-Nat.reducePow,AM])<;>simp),JW.mk (d) (⟨λ_=>e,λ_=>h,λ_=>ω,λ_=>ω⟩)⟩;simp only[go_sem,-Nat.reducePow,gG h];apply Qv c Eq;simp only[go_sem,-Nat.reducePow,TJ];have q:decide (d2 a<d2 b)=decide (a<b):=by
  simp only[bx];simp only[d0,d1,d2,d3]at *;omega
 rw[q];apply Qh c;simp only[go_sem,-Nat.reducePow,AM];have e:=f ω;have g:=i ω;apply Qv c o05;simp only[go_sem,-Nat.reducePow,TI];by_cases h:d1 a=d1 b;simp only[go_sem,-Nat.reducePow,gH h];repeat (refine And.intro δ ?_)
 refine⟨_,Qo.to 2 (by (simp only[go_sem,-Nat.reducePow,Pa])<;>simp),JW.mk (d) (⟨λ_=>e,λ_=>g,λ_=>h,λ_=>ω⟩)⟩;simp only[go_sem,-Nat.reducePow,gG h];apply Qv c Eq;simp only[go_sem,-Nat.reducePow,TI];have q:decide (d1 a<d1 b)=decide (a<b):=by
  simp only[bx];simp only[d0,d1,d2,d3]at *;omega
 rw[q];apply Qh c;simp only[go_sem,-Nat.reducePow,Pa];have e:=f ω;have g:=i ω;have l:=j ω;apply Qv c o05;simp only[go_sem,-Nat.reducePow,sI,Ht];by_cases h:d0 a=d0 b;simp only[go_sem,-Nat.reducePow,gH h];repeat (refine And.intro δ ?_)
 refine⟨_,Qo.to 2 (by (simp only[go_sem,-Nat.reducePow,Ht])<;>simp),JW.mk (d) (⟨λ_=>e,λ_=>g,λ_=>l,λ_=>h⟩)⟩;simp only[go_sem,-Nat.reducePow,gG h];apply Qv c Eq;simp only[go_sem,-Nat.reducePow,sI,Ht];have q:decide (d0 a<d0 b)=decide (a<b):=by
  simp only[bx];simp only[d0,d1,d2,d3]at *;omega
 rw[q];apply Qh c;simp only[go_sem,-Nat.reducePow,Ht];have e:=f ω;have g:=i ω;have l:=j ω;have p:=n ω;have q:decide (a<b)=false:=by
  simp only[Iy];simp only[d0,d1,d2,d3]at *;omega
 rw[q];apply Qh c;simp only[go_sem,-Nat.reducePow]
def xI(n:Nat):Nat->List D
 | 0=>[u64 0,u64 0,u64 0,u64 0]
 | 1=>[u64 (d0 n),u64 0,u64 0,u64 0]
 | 2=>[u64 (d0 n),u64 (d1 n),u64 0,u64 0]
 | 3=>[u64 (d0 n),u64 (d1 n),u64 (d2 n),u64 0]
 | _=>[u64 (d0 n),u64 (d1 n),u64 (d2 n),u64 (d3 n)]
def VI(a b:Nat):Nat->Nat
 | 0=>0
 | 1=>(a%4294967296+b%4294967296)/4294967296
 | 2=>(a%18446744073709551616+b%18446744073709551616)/18446744073709551616
 | 3=>(a%79228162514264337593543950336+b%79228162514264337593543950336)/79228162514264337593543950336
 | _=>(a+b)/340282366920938463463374607431768211456
def Qwb(a b)(d:a<2^128)(c:b<2^128):∀k,VI a b k<=1
 | 0=>Jj _
 | 1=>by simp only[VI];omega
 | 2=>by simp only[VI];omega
 | 3=>by simp only[VI];omega
 | _+4=>by simp only[VI];omega
def gJ(x y c:Nat)(b:x<4294967296)(a:y<4294967296)(d:c<=1):IntKind.u64.wrap (IntKind.u64.wrap ((x:Int)+(y:Int))+(c:Int))=((x+y+c:Nat):Int):=by
 rw[AF,AF];congr 1;omega
def Qwc(a b)(p:a<2^128)(c:b<2^128):QI prog 82 [dg a,dg b] (QN (.tup [dg (a+b),u64 ((a+b)/340282366920938463463374607431768211456)])):=by
 refine QY 0 func82 ntmps82 results82 λn w c=>?_;simp only[go_sem];refine kO (G:=Nat) [2,3,4,6] (λk=>True) (λk h=>[(7,u64 (VI a b k)),(11,Qa k)]) (λk h=>[⟨.one,0,4,1,λ_=>[u64 (d0 a),u64 (d1 a),u64 (d2 a),u64 (d3 a)]⟩,⟨.one,0,4,1,λ_=>[u64 (d0 b),u64 (d1 b),u64 (d2 b),u64 (d3 b)]⟩,⟨.one,0,4,1,λ_=>[u64 0,u64 0,u64 0,u64 0]⟩,⟨.one,0,4,1,λ_=>xI (a+b) k⟩]) (4) (0) rfl (Qo.to 4 (by (simp only[go_sem,xI,VI])<;>simp)) trivial ?_;intro k h o _;have e:=Qwb a b p ‹_›;have m:=TG;have l:=TH;have j:=sG;have i:=sH;obtain rfl|rfl|rfl|rfl|rfl:=sK o;have s:=gJ (d0 a) (d0 b) (VI a b 0) (m a) (m b) (e 0);have g:(d0 a+d0 b+VI a b 0)%4294967296=d0 (a+b):=by simp only[d0,VI];omega
 have f:(d0 a+d0 b+VI a b 0)/4294967296=VI a b 1:=by simp only[d0,VI];omega
 have d:=wj (d0 a+d0 b+VI a b 0) (by have:=m a;have:=m b;have:=e 0;omega);rw[f]at d;apply Qh c;simp only[go_sem,jQ,xI];apply Qv c Eq;simp only[go_sem,s,xH,g,d];repeat (refine And.intro δ ?_)
 refine⟨_,Qo.to 4 (by (simp only[go_sem,zD])<;>simp),JW.mk (h) (trivial)⟩;have s:=gJ (d1 a) (d1 b) (VI a b 1) (l a) (l b) (e 1);have g:(d1 a+d1 b+VI a b 1)%4294967296=d1 (a+b):=by simp only[d1,VI];omega
 have f:(d1 a+d1 b+VI a b 1)/4294967296=VI a b 2:=by simp only[d1,VI];omega
 have d:=wj (d1 a+d1 b+VI a b 1) (by have:=l a;have:=l b;have:=e 1;omega);rw[f]at d;apply Qh c;simp only[go_sem,zD,xI];apply Qv c Eq;simp only[go_sem,s,xH,g,d];repeat (refine And.intro δ ?_)
 refine⟨_,Qo.to 4 (by (simp only[go_sem,AM])<;>simp),JW.mk (h) (trivial)⟩;have s:=gJ (d2 a) (d2 b) (VI a b 2) (j a) (j b) (e 2);have g:(d2 a+d2 b+VI a b 2)%4294967296=d2 (a+b):=by simp only[d2,VI];omega
 have f:(d2 a+d2 b+VI a b 2)/4294967296=VI a b 3:=by simp only[d2,VI];omega
 have d:=wj (d2 a+d2 b+VI a b 2) (by have:=j a;have:=j b;have:=e 2;omega);rw[f]at d;apply Qh c;simp only[go_sem,AM,xI];apply Qv c Eq;simp only[go_sem,s,xH,g,d];repeat (refine And.intro δ ?_)
 refine⟨_,Qo.to 4 (by (simp only[go_sem,Pa])<;>simp),JW.mk (h) (trivial)⟩;have s:=gJ (d3 a) (d3 b) (VI a b 3) (i a) (i b) (e 3);have g:(d3 a+d3 b+VI a b 3)%4294967296=d3 (a+b):=by simp only[d3,VI];omega
 have f:(d3 a+d3 b+VI a b 3)/4294967296=VI a b 4:=by simp only[d3,VI];omega
 have d:=wj (d3 a+d3 b+VI a b 3) (by have:=i a;have:=i b;have:=e 3;omega);rw[f]at d;apply Qh c;simp only[go_sem,Pa,xI];apply Qv c Eq;simp only[go_sem,s,xH,g,d];repeat (refine And.intro δ ?_)
 refine⟨_,Qo.to 4 (by (simp only[go_sem,Ht])<;>simp),JW.mk (h) (trivial)⟩;apply Qh c;simp only[go_sem,Ht,xI,VI];exact VE c
def Cb(a b)(e:a<2^128)(c:b<2^128):QI prog 49 [dg a,dg b] (QN (dg (a+b))):=by
 refine QY 0 func49 ntmps49 results49 λd w c=>?_;simp only[go_sem];apply QV c Qsy (Qwc a b e ‹_›);exact VE c
def Vg(a b:Nat):Nat->Nat
 | 0=>0
 | 1=>if a%4294967296<b%4294967296 then 1 else 0
 | 2=>if a%18446744073709551616<b%18446744073709551616 then 1 else 0
 | 3=>if a%79228162514264337593543950336<b%79228162514264337593543950336 then 1 else 0
 | _=>if a<b then 1 else 0
def Qwd(a b):∀k,Vg a b k<=1
 | 0=>Jj _
 | 1=>by simp only[Vg];split<;>omega
 | 2=>by simp only[Vg];split<;>omega
 | 3=>by simp only[Vg];split<;>omega
 | _+4=>by simp only[Vg];split<;>omega
def gK(x y c:Nat)(b:x<4294967296)(a:y<4294967296)(d:c<=1):IntKind.u64.wrap (IntKind.u64.wrap (IntKind.u64.wrap ((x:Int)+4294967296)-(y:Int))-(c:Int))=((x+4294967296-y-c:Nat):Int):=by
 rw[IntKind.wrap_u64,IntKind.wrap_u64,IntKind.wrap_u64];omega
def gL(t:Nat)(h:t<=1):IntKind.u64.wrap (1-(t:Int))=((1-t:Nat):Int):=η
def Qhn(a b)(u:a<2^128)(c:b<2^128):QI prog 54 [dg a,dg b] (QN (dg (a+2^128-b))):=by
 refine QY 0 func54 ntmps54 results54 λr w c=>?_;simp only[go_sem];refine kO (G:=Nat) [2,3,4,5] (λk=>True) (λk l=>[(6,u64 (Vg a b k)),(10,Qa k)]) (λk l=>[⟨.one,0,4,1,λ_=>[u64 (d0 a),u64 (d1 a),u64 (d2 a),u64 (d3 a)]⟩,⟨.one,0,4,1,λ_=>[u64 (d0 b),u64 (d1 b),u64 (d2 b),u64 (d3 b)]⟩,⟨.one,0,4,1,λ_=>[u64 0,u64 0,u64 0,u64 0]⟩,⟨.one,0,4,1,λ_=>xI (a+2^128-b) k⟩]) (4) (0) rfl (Qo.to 4 (by (simp only[go_sem,xI,Vg])<;>simp)) trivial ?_;intro k l t _;have m:=Qwd a b;have q:=TG;have p:=TH;have o:=sG;have n:=sH;obtain rfl|rfl|rfl|rfl|rfl:=sK t
 .have g:=q a;have f:=q b;have e:=m 0;have s:=gK (d0 a) (d0 b) (Vg a b 0) g f e;have j:(d0 a+4294967296-d0 b-Vg a b 0)%4294967296=d0 (a+2^128-b):=by
   simp only[d0,Vg];(try split)<;>omega
  have i:1-(d0 a+4294967296-d0 b-Vg a b 0)/4294967296=Vg a b 1:=by
   simp only[d0,Vg];(repeat' split)<;>omega
  have h:=wj (d0 a+4294967296-d0 b-Vg a b 0) ω;have d:=gL ((d0 a+4294967296-d0 b-Vg a b 0)/4294967296) ω;rw[i]at d;apply Qh c;simp only[go_sem,jQ,xI];apply Qv c i4;simp only[go_sem,s,xH,j,h,d];repeat (refine And.intro δ ?_)
  refine⟨_,Qo.to 4 (by (simp only[go_sem,zD])<;>simp),JW.mk (l) (trivial)⟩
 .have g:=p a;have f:=p b;have e:=m 1;have s:=gK (d1 a) (d1 b) (Vg a b 1) g f e;have j:(d1 a+4294967296-d1 b-Vg a b 1)%4294967296=d1 (a+2^128-b):=by
   simp only[d1,Vg];(try split)<;>omega
  have i:1-(d1 a+4294967296-d1 b-Vg a b 1)/4294967296=Vg a b 2:=by
   simp only[d1,Vg];(repeat' split)<;>omega
  have h:=wj (d1 a+4294967296-d1 b-Vg a b 1) ω;have d:=gL ((d1 a+4294967296-d1 b-Vg a b 1)/4294967296) ω;rw[i]at d;apply Qh c;simp only[go_sem,zD,xI];apply Qv c i4;simp only[go_sem,s,xH,j,h,d];repeat (refine And.intro δ ?_)
  refine⟨_,Qo.to 4 (by (simp only[go_sem,AM])<;>simp),JW.mk (l) (trivial)⟩
 .have g:=o a;have f:=o b;have e:=m 2;have s:=gK (d2 a) (d2 b) (Vg a b 2) g f e;have j:(d2 a+4294967296-d2 b-Vg a b 2)%4294967296=d2 (a+2^128-b):=by
   simp only[d2,Vg];(try split)<;>omega
  have i:1-(d2 a+4294967296-d2 b-Vg a b 2)/4294967296=Vg a b 3:=by
   simp only[d2,Vg];(repeat' split)<;>omega
  have h:=wj (d2 a+4294967296-d2 b-Vg a b 2) ω;have d:=gL ((d2 a+4294967296-d2 b-Vg a b 2)/4294967296) ω;rw[i]at d;apply Qh c;simp only[go_sem,AM,xI];apply Qv c i4;simp only[go_sem,s,xH,j,h,d];repeat (refine And.intro δ ?_)
  refine⟨_,Qo.to 4 (by (simp only[go_sem,Pa])<;>simp),JW.mk (l) (trivial)⟩
 .have g:=n a;have f:=n b;have e:=m 3;have s:=gK (d3 a) (d3 b) (Vg a b 3) g f e;have j:(d3 a+4294967296-d3 b-Vg a b 3)%4294967296=d3 (a+2^128-b):=by
   simp only[d3,Vg];(try split)<;>omega
  have i:1-(d3 a+4294967296-d3 b-Vg a b 3)/4294967296=Vg a b 4:=by
   simp only[d3,Vg];(repeat' split)<;>omega
  have h:=wj (d3 a+4294967296-d3 b-Vg a b 3) ω;have d:=gL ((d3 a+4294967296-d3 b-Vg a b 3)/4294967296) ω;rw[i]at d;apply Qh c;simp only[go_sem,Pa,xI];apply Qv c i4;simp only[go_sem,s,xH,j,h,d];repeat (refine And.intro δ ?_)
  refine⟨_,Qo.to 4 (by (simp only[go_sem,Ht])<;>simp),JW.mk (l) (trivial)⟩
 apply Qh c;simp only[go_sem,Ht,xI];exact VE c
def sL(a b)(e:a<2^127)(c:b<18446744073709551616):QI prog 124 [dg a,u64 b] (QN (dg (a+a+b))):=by
 refine QY 0 func124 ntmps124 results124 λd w c=>?_;simp only[go_sem,-Nat.reducePow];refine Ks c BU ?_ (Cb a a ω ω) ?_;simp only[go_sem,-Nat.reducePow];apply Qh c;simp only[go_sem,-Nat.reducePow];refine Ks c BT ?_ (Ca b ‹_›) ?_;simp only[go_sem,-Nat.reducePow];apply Qh c;simp only[go_sem,-Nat.reducePow];refine Ks c BU ?_ (Cb (a+a) b ω ω) ?_;simp only[go_sem,-Nat.reducePow];apply Qh c;simp only[go_sem,-Nat.reducePow]
def half(n:Nat)(h:n<18446744073709551616):IntKind.u64.wrap (((n:Int)).tdiv 2)=((n/2:Nat):Int):=by
 rw[show (2:Int)=((2:Nat):Int) from rfl,<- Int.ofNat_tdiv,IntKind.wrap_u64];omega
def Qwe(n:Nat):((n:Int)).tmod 2=((n%2:Nat):Int):=by
 rw[show (2:Int)=((2:Nat):Int) from rfl,<- Int.ofNat_tmod]
def Qwf(n:Nat):((n:Int)).tmod 32=((n%32:Nat):Int):=by
 rw[show (32:Int)=((32:Nat):Int) from rfl,<- Int.ofNat_tmod]
def Qwg(n:Nat)(h:n<128):IntKind.i64.wrap (((n:Int)).tdiv 32)=((n/32:Nat):Int):=by
 rw[show (32:Int)=((32:Nat):Int) from rfl,<- Int.ofNat_tdiv,wrap64 ω ω]
def Qwh(x r)(a:r<32):x%4294967296/2^r%2=x/2^r%2:=by
 have e:(4294967296:Nat)=2^r*2^(32-r):=by rw[<- Nat.pow_add,show r+(32-r)=32 by omega]
 rw[e,Nat.mod_mul_right_div_self,Nat.mod_mod_of_dvd];exact Nat.dvd_of_pow_dvd (show 1<=32-r from ω) (Nat.dvd_refl _)
def gM(a q r d)(D)(b:r<32)(e:D=2^(32*q))(c:d=a/D%4294967296):d/2^r%2=a/2^(32*q+r)%2:=by
 rw[c,Qwh _ _ b,e,bk,<- Nat.pow_add]
def Qwi(a i:Nat)(t:i<128):QI prog 125 [dg a,Qa i] (QN (u64 (a/2^i%2))):=by
 obtain⟨q,r,d,e,s,l,f⟩:∃q r d:Nat,q=i/32/\r=i%32/\(d<4294967296/\((q=0/\d=d0 a)\/(q=1/\d=d1 a)\/(q=2/\d=d2 a)\/(q=3/\d=d3 a)))/\d/2^r%2=a/2^i%2:=by
  have e:i/32=0\/i/32=1\/i/32=2\/i/32=3:=ω;rcases e with h|h|h|h;refine⟨_,_,d0 a,rfl,rfl,⟨TG a,.inl ⟨h,rfl⟩⟩,?_⟩;rw[gM a 0 (i%32) (d0 a) 1 ω rfl (by simp[d0])];congr 3;omega;refine⟨_,_,d1 a,rfl,rfl,⟨TH a,.inr (.inl ⟨h,rfl⟩)⟩,?_⟩;rw[gM a 1 (i%32) (d1 a) _ ω rfl rfl];congr 3;omega;refine⟨_,_,d2 a,rfl,rfl,⟨sG a,.inr (.inr (.inl ⟨h,rfl⟩))⟩,?_⟩;rw[gM a 2 (i%32) (d2 a) _ ω rfl rfl];congr 3;omega;refine⟨_,_,d3 a,rfl,rfl,⟨sH a,.inr (.inr (.inr ⟨h,rfl⟩))⟩,?_⟩;rw[gM a 3 (i%32) (d3 a) _ ω rfl rfl];congr 3;omega
 refine QY 0 func125 ntmps125 results125 λn w m=>?_;simp only[go_sem,-Nat.reducePow];have t1:=Qwg i t;have t2:=Qwf i;rw[<- e]at t1;rw[<- s]at t2;have p:(List.drop (((q:Nat):Int).toNat*1) [D.raw (Value.int IntKind.u64 ↑(d0 a)),D.raw (Value.int IntKind.u64 ↑(d1 a)),D.raw (Value.int IntKind.u64 ↑(d2 a)),D.raw (Value.int IntKind.u64 ↑(d3 a))]).getD 0 D.undef=D.raw (Value.int IntKind.u64 (d:Int)):=by
  rcases l.2 with ⟨rfl,rfl⟩|⟨rfl,rfl⟩|⟨rfl,rfl⟩|⟨rfl,rfl⟩<;>rfl
 simp only[t1,t2,p];refine⟨⟨ω,ω⟩,ω,?_⟩;have o:d/2^0=d:=by rw[Nat.pow_zero,Nat.div_one]
 refine kO (G:=Nat) [11] (λk=>True) (λk c=>[(5,u64 (d/2^k)),(12,Qa k)]) (λk c=>[]) (r) (0) rfl (Qo.to 0 (by (simp only[go_sem,-Nat.reducePow,o])<;>simp)) trivial ?_;intro k c g _;apply Qh m;simp only[go_sem,-Nat.reducePow];have u:=Jr (show k<4611686018427387904 from ω);have x:=l.1;have v:d/2^k<=d:=Gw _ _;have j:=half (d/2^k) ω;rw[bk,<- RP]at j;first|refine We g (λb=>?_) (λb=>?_)|refine Wf g (λb=>?_) (λb=>?_)
 simp only[go_sem,-Nat.reducePow,b,decide_true,j];repeat (refine And.intro δ ?_)
 refine⟨_,Qo.to 0 (by (simp only[go_sem,-Nat.reducePow,u])<;>simp),JW.mk (c) (trivial)⟩
 .simp only[go_sem,-Nat.reducePow,b,Gx,decide_false];apply Qh m;simp only[go_sem,-Nat.reducePow,Qwe];rw[<- f];all_goals first|exact rfl|exact⟨π,rfl⟩
def Qwk(x y)(h:x=y+2^128):d0 x=d0 y/\d1 x=d1 y/\d2 x=d2 y/\d3 x=d3 y:=by
 subst h;simp only[d0,d1,d2,d3];exact⟨ω,ω,ω,ω⟩
def Qwl(a k)(d:k<128):a/2^(128-(k+1))=2*(a/2^(128-k))+a/2^(127-k)%2:=by
 have c:128-(k+1)=127-k:=ω;have b:128-k=127-k+1:=ω;rw[c,b,RP,<- bk];omega
def Qwm(a k)(d:a<2^128)(c:k<128):dT a k<2^127:=by
 have b:128-k=127-k+1:=ω;unfold dT;rw[b,RP,<- bk];have:=Gw a (2^(127-k));omega
def Qwn(a b)(n:a<2^128)(c:b<18446744073709551616)(l:0<b):QI prog 83 [dg a,u64 b] (QN (.tup [dg (a/b),u64 (a%b)])):=by
 refine QY 0 func83 ntmps83 results83 λp w c=>?_;simp only[go_sem,-Nat.reducePow];have v:dT a 0=0:=Nat.div_eq_of_lt n;have t:d0 0=0:=rfl;have s:d1 0=0:=rfl;have r:d2 0=0:=rfl;have q:d3 0=0:=rfl;refine kO (G:=Nat) [1,2,4,6,7] (λk=>True) (λk g=>[(11,Qa k)]) (λk g=>[⟨.one,0,4,1,λ_=>[u64 (d0 a),u64 (d1 a),u64 (d2 a),u64 (d3 a)]⟩,⟨.one,0,4,1,λ_=>[u64 0,u64 0,u64 0,u64 0]⟩,⟨.one,0,4,1,λ_=>[u64 (d0 (dT a k/b)),u64 (d1 (dT a k/b)),u64 (d2 (dT a k/b)),u64 (d3 (dT a k/b))]⟩,⟨.one,0,4,1,λ_=>[u64 (d0 (dT a k%b)),u64 (d1 (dT a k%b)),u64 (d2 (dT a k%b)),u64 (d3 (dT a k%b))]⟩]) (128) (0) rfl (Qo.to 4 (by (simp only[go_sem,-Nat.reducePow,v,Nat.zero_div,Nat.zero_mod,t,s,r,q])<;>simp)) trivial ?_;intro k g h _;replace h:k<=128:=h;apply Qh c;simp only[go_sem,-Nat.reducePow];have o:=Jr (show k<4611686018427387904 from ω);first|refine We h (λd=>?_) (λd=>?_)|refine Wf h (λd=>?_) (λd=>?_)
 replace d:k<128:=d;have Qb:decide ((k:Int)<128)=true:=ξ;have t1:dT a (k+1)=2*dT a k+a/2^(127-k)%2:=Qwl a k d;have t3:=Qhj (dT a k) b (a/2^(127-k)%2) l ω;have t4:=WM (dT a k) l;have t5:=Qwm a k n d;rw[<- t1]at t3;have t8:dT a k/b<2^127:=Iq (Gw _ _) t5;have m:IntKind.i64.wrap (127-(k:Int))=((127-k:Nat):Int):=Zw;simp only[go_sem,-Nat.reducePow,Qb];apply Qv c [0,1,2,3,1004,1005,1006];simp only[go_sem,-Nat.reducePow,m];have x:2*(dT a k%b)+a/2^(127-k)%2=dT a k%b+dT a k%b+a/2^(127-k)%2:=ω;refine Y7 c QsW ?_ (Qwi a (127-k) ω) ?_;simp only[go_sem,-Nat.reducePow];apply ZT c;simp only[go_sem,-Nat.reducePow];refine Y7 c pB ?_ (sL (dT a k%b) (a/2^(127-k)%2) ω ω) ?_;simp only[go_sem,-Nat.reducePow];apply ZT c;simp only[go_sem,-Nat.reducePow];rw[x]at t3;have t6:dT a k%b+dT a k%b+a/2^(127-k)%2<2^127:=ω;generalize z:dT a k%b+dT a k%b+a/2^(127-k)%2=R at *;apply Qv c [0,1,1002,1003];simp only[go_sem,-Nat.reducePow];refine Y7 c BT ?_ (Ca b ‹_›) ?_;simp only[go_sem,-Nat.reducePow];apply ZT c;simp only[go_sem,-Nat.reducePow];refine Y7 c Qe4 ?_ (Qhm R b ω ω) ?_;simp only[go_sem,-Nat.reducePow];apply ZT c;simp only[go_sem,-Nat.reducePow];by_cases y:b<=R;obtain⟨u,i⟩:=t3.1 y;have j:decide (R<b)=false:=ξ;have f:dT a k/b+dT a k/b+1=dT a (k+1)/b:=ω;have e:=Qwk (R+2^128-b) (dT a (k+1)%b) ω;simp only[go_sem,-Nat.reducePow,j];apply Qv c [0,1,1002,1003,1004];simp only[go_sem,-Nat.reducePow];refine Y7 c BT ?_ (Ca b ‹_›) ?_;simp only[go_sem,-Nat.reducePow];apply ZT c;simp only[go_sem,-Nat.reducePow];refine Y7 c fc ?_ (Qhn R b ω ω) ?_;simp only[go_sem,-Nat.reducePow];apply ZT c;simp only[go_sem,-Nat.reducePow,e.1,e.2.1,e.2.2.1,e.2.2.2];refine Ks c pB ?_ (sL (dT a k/b) 1 ω ω) ?_;simp only[go_sem,-Nat.reducePow,zD];apply Qh c;simp only[go_sem,-Nat.reducePow,f];repeat (refine And.intro δ ?_)
 refine⟨_,Qo.to 4 (by (simp only[go_sem,-Nat.reducePow,o])<;>simp),JW.mk (g) (trivial)⟩;obtain⟨u,i⟩:=t3.2 ω;have j:decide (R<b)=true:=ξ;have f:dT a k/b+dT a k/b+0=dT a (k+1)/b:=ω;simp only[go_sem,-Nat.reducePow,j];refine Ks c pB ?_ (sL (dT a k/b) 0 ω ω) ?_;simp only[go_sem,-Nat.reducePow,jQ,<- i];apply Qh c;simp only[go_sem,-Nat.reducePow,f,<- i];repeat (refine And.intro δ ?_)
 refine⟨_,Qo.to 4 (by (simp only[go_sem,-Nat.reducePow,o])<;>simp),JW.mk (g) (trivial)⟩;have Qb:decide ((k:Int)<128)=false:=by rw[d];rfl
 have f:dT a k=a:=by rw[d];show a/2^0=a;rw[Nat.pow_zero,Nat.div_one]
 have e:a%b<18446744073709551616:=by have:=WM a l;omega
 simp only[go_sem,-Nat.reducePow,Qb,f];apply Qh c;simp only[go_sem,-Nat.reducePow];apply Qv c [0,1,1002,1003,1004];simp only[go_sem,-Nat.reducePow];refine Y7 c EZ ?_ (L7 (a%b) ω) ?_;simp only[go_sem,-Nat.reducePow];apply ZT c;simp only[go_sem,-Nat.reducePow,qW e]
def Vo(x y:Nat):Nat->Nat
 | 0=>0
 | 1=>d0 x*d0 y
 | 2=>d0 x*d0 y+d0 x*d1 y*4294967296
 | 3=>d0 x*d0 y+d0 x*d1 y*4294967296+d1 x*d0 y*4294967296
 | _=>d0 x*d0 y+d0 x*d1 y*4294967296+d1 x*d0 y*4294967296+d1 x*d1 y*18446744073709551616
def Pb(x y)(L:x<18446744073709551616)(K:y<18446744073709551616):QI prog 27 [u64 x,u64 y] (QN (dg (x*y))):=by
 obtain⟨P,Q,R,S,s,n,l,i,M,U,T,O,N⟩:=Qhe x y (d1 x) (d0 x) (d1 y) (d0 y) (by unfold d1 d0;omega) (by unfold d1 d0;omega) (TH x) (TG x) (TH y) (TG y);have J:d0 0=0:=rfl;have I:d1 0=0:=rfl;have H:d2 0=0:=rfl;have F:d3 0=0:=rfl;have z:d2 x=0:=by unfold d2;omega
 have B:d3 x=0:=by unfold d3;omega
 have E:d2 y=0:=by unfold d2;omega
 have t:d3 y=0:=by unfold d3;omega
 have r:Vo x y 0=0:=rfl;have q:Vo x y 1=S:=by simp only[Vo,i]
 have p:Vo x y 2=S+R*4294967296:=by simp only[Vo,i,l]
 have o:Vo x y 3=S+R*4294967296+Q*4294967296:=by simp only[Vo,i,l,n]
 have v:Vo x y 4=S+R*4294967296+Q*4294967296+P*18446744073709551616:=by simp only[Vo,i,l,n,s]
 have u:Vo x y 4=x*y:=by rw[v,M];omega
 refine QY 0 func27 ntmps27 results27 λC w a=>?_;simp only[go_sem,-Nat.reducePow];refine Ks a BT ?_ (Ca x L) ?_;simp only[go_sem,-Nat.reducePow];apply Qh a;simp only[go_sem,-Nat.reducePow];refine Ks a BT ?_ (Ca y K) ?_;simp only[go_sem,-Nat.reducePow,z,B];apply Qh a;simp only[go_sem,-Nat.reducePow,z,B];refine kO (G:=Nat) [4,5,6,7] (λk=>True) (λk c=>[(17,Qa k)]) (λk c=>[⟨.one,0,4,1,λ_=>[u64 0,u64 0,u64 0,u64 0]⟩,⟨.one,0,4,1,λ_=>[u64 (d0 x),u64 (d1 x),u64 0,u64 0]⟩,⟨.one,0,4,1,λ_=>[u64 (d0 y),u64 (d1 y),u64 0,u64 0]⟩,⟨.one,0,4,1,λ_=>[u64 (d0 (Vo x y (2*k))),u64 (d1 (Vo x y (2*k))),u64 (d2 (Vo x y (2*k))),u64 (d3 (Vo x y (2*k)))]⟩]) (2) (0) rfl (Qo.to 4 (by (simp only[go_sem,-Nat.reducePow,J,I,H,F,r,E,t,RO])<;>simp)) trivial ?_;intro k c j _;have m:k=0\/k=1\/k=2:=by have:k<=2:=j;omega
 rcases m with rfl|rfl|rfl;apply Qh a;simp only[go_sem,-Nat.reducePow,jQ];refine kO (G:=Nat) [4,5,6,7,8,17] (λk=>True) (λk c=>[(20,Qa k)]) (λk c=>[⟨.one,0,4,1,λ_=>[u64 0,u64 0,u64 0,u64 0]⟩,⟨.one,0,4,1,λ_=>[u64 (d0 x),u64 (d1 x),u64 0,u64 0]⟩,⟨.one,0,4,1,λ_=>[u64 (d0 y),u64 (d1 y),u64 0,u64 0]⟩,⟨.one,0,4,1,λ_=>[u64 (d0 (Vo x y (0+k))),u64 (d1 (Vo x y (0+k))),u64 (d2 (Vo x y (0+k))),u64 (d3 (Vo x y (0+k)))]⟩]) (2) (0) rfl (Qo.to 4 (by (simp only[go_sem,-Nat.reducePow,x6])<;>simp)) trivial ?_;intro k c j _;have m:k=0\/k=1\/k=2:=by have:k<=2:=j;omega
 rcases m with rfl|rfl|rfl;obtain⟨Z,b⟩:∃Z,Z=S*1:=⟨_,rfl⟩;have e:IntKind.u64.wrap (((d0 x:Nat):Int)*((d0 y:Nat):Int))=((S:Nat):Int):=by rw[S9 _ _ (by rw[<- i];omega),i]
 have f0:d0 Z=S%4294967296:=by rw[b];unfold d0;omega
 have f1:d1 Z=S/4294967296:=by rw[b];unfold d1;omega
 have f2:d2 Z=0:=by rw[b];unfold d2;omega
 have f3:d3 Z=0:=by rw[b];unfold d3;omega
 have h:Vo x y 0+Z=Vo x y 1:=by have:=r;have:=q;omega
 have g:Vo x y 0<2^128:=by have:=r;omega
 have f:Z<2^128:=by rw[b];omega
 have d:=wj S ω;apply Qh a;simp only[go_sem,-Nat.reducePow,jQ];apply Qv a [0,1,2,3,4,5,6,7];simp only[go_sem,-Nat.reducePow,e,xH,d,sI,TI,Int.reduceAdd];refine Ks a BU ?_ (Cb (Vo x y 0) Z g f) ?_;simp only[go_sem,-Nat.reducePow,f0,f1,f2,f3,jQ];apply Qh a;simp only[go_sem,-Nat.reducePow];repeat (refine And.intro δ ?_)
 refine⟨_,Qo.to 4 (by (simp only[go_sem,-Nat.reducePow,zD,h])<;>simp),JW.mk (c) (trivial)⟩;obtain⟨Z,b⟩:∃Z,Z=R*4294967296:=⟨_,rfl⟩;have e:IntKind.u64.wrap (((d0 x:Nat):Int)*((d1 y:Nat):Int))=((R:Nat):Int):=by rw[S9 _ _ (by rw[<- l];omega),l]
 have f0:d0 Z=0:=by rw[b];unfold d0;omega
 have f1:d1 Z=R%4294967296:=by rw[b];unfold d1;omega
 have f2:d2 Z=R/4294967296:=by rw[b];unfold d2;omega
 have f3:d3 Z=0:=by rw[b];unfold d3;omega
 have h:Vo x y 1+Z=Vo x y 2:=by have:=q;have:=p;omega
 have g:Vo x y 1<2^128:=by have:=q;omega
 have f:Z<2^128:=by rw[b];omega
 have d:=wj R ω;apply Qh a;simp only[go_sem,-Nat.reducePow,zD];apply Qv a [0,1,2,3,4,5,6,7];simp only[go_sem,-Nat.reducePow,e,xH,d,TI,TJ,Int.reduceAdd];refine Ks a BU ?_ (Cb (Vo x y 1) Z g f) ?_;simp only[go_sem,-Nat.reducePow,f0,f1,f2,f3,jQ];apply Qh a;simp only[go_sem,-Nat.reducePow];repeat (refine And.intro δ ?_)
 refine⟨_,Qo.to 4 (by (simp only[go_sem,-Nat.reducePow,AM,h])<;>simp),JW.mk (c) (trivial)⟩;apply Qh a;simp only[go_sem,-Nat.reducePow,AM];apply Qh a;simp only[go_sem,-Nat.reducePow];repeat (refine And.intro δ ?_)
 refine⟨_,Qo.to 4 (by (simp only[go_sem,-Nat.reducePow,zD,Nat.reduceMul])<;>simp),JW.mk (c) (trivial)⟩;apply Qh a;simp only[go_sem,-Nat.reducePow,zD];refine kO (G:=Nat) [4,5,6,7,8,17] (λk=>True) (λk c=>[(20,Qa k)]) (λk c=>[⟨.one,0,4,1,λ_=>[u64 0,u64 0,u64 0,u64 0]⟩,⟨.one,0,4,1,λ_=>[u64 (d0 x),u64 (d1 x),u64 0,u64 0]⟩,⟨.one,0,4,1,λ_=>[u64 (d0 y),u64 (d1 y),u64 0,u64 0]⟩,⟨.one,0,4,1,λ_=>[u64 (d0 (Vo x y (2+k))),u64 (d1 (Vo x y (2+k))),u64 (d2 (Vo x y (2+k))),u64 (d3 (Vo x y (2+k)))]⟩]) (2) (0) rfl (Qo.to 4 (by (simp only[go_sem,-Nat.reducePow,x6])<;>simp)) trivial ?_;intro k c j _;have m:k=0\/k=1\/k=2:=by have:k<=2:=j;omega
 rcases m with rfl|rfl|rfl;obtain⟨Z,b⟩:∃Z,Z=Q*4294967296:=⟨_,rfl⟩;have e:IntKind.u64.wrap (((d1 x:Nat):Int)*((d0 y:Nat):Int))=((Q:Nat):Int):=by rw[S9 _ _ (by rw[<- n];omega),n]
 have f0:d0 Z=0:=by rw[b];unfold d0;omega
 have f1:d1 Z=Q%4294967296:=by rw[b];unfold d1;omega
 have f2:d2 Z=Q/4294967296:=by rw[b];unfold d2;omega
 have f3:d3 Z=0:=by rw[b];unfold d3;omega
 have h:Vo x y 2+Z=Vo x y 3:=by have:=p;have:=o;omega
 have g:Vo x y 2<2^128:=by have:=p;omega
 have f:Z<2^128:=by rw[b];omega
 have d:=wj Q ω;apply Qh a;simp only[go_sem,-Nat.reducePow,jQ];apply Qv a [0,1,2,3,4,5,6,7];simp only[go_sem,-Nat.reducePow,e,xH,d,TI,TJ,Int.reduceAdd];refine Ks a BU ?_ (Cb (Vo x y 2) Z g f) ?_;simp only[go_sem,-Nat.reducePow,f0,f1,f2,f3,jQ];apply Qh a;simp only[go_sem,-Nat.reducePow];repeat (refine And.intro δ ?_)
 refine⟨_,Qo.to 4 (by (simp only[go_sem,-Nat.reducePow,zD,Nat.reduceAdd,h])<;>simp),JW.mk (c) (trivial)⟩;obtain⟨Z,b⟩:∃Z,Z=P*18446744073709551616:=⟨_,rfl⟩;have e:IntKind.u64.wrap (((d1 x:Nat):Int)*((d1 y:Nat):Int))=((P:Nat):Int):=by rw[S9 _ _ (by rw[<- s];omega),s]
 have f0:d0 Z=0:=by rw[b];unfold d0;omega
 have f1:d1 Z=0:=by rw[b];unfold d1;omega
 have f2:d2 Z=P%4294967296:=by rw[b];unfold d2;omega
 have f3:d3 Z=P/4294967296:=by rw[b];unfold d3;omega
 have h:Vo x y 3+Z=Vo x y 4:=by have:=o;have:=v;omega
 have g:Vo x y 3<2^128:=by have:=o;omega
 have f:Z<2^128:=by rw[b];omega
 have d:=wj P ω;apply Qh a;simp only[go_sem,-Nat.reducePow,zD,Nat.reduceAdd];apply Qv a [0,1,2,3,4,5,6,7];simp only[go_sem,-Nat.reducePow,e,xH,d,TJ,sJ,Int.reduceAdd];refine Ks a BU ?_ (Cb (Vo x y 3) Z g f) ?_;simp only[go_sem,-Nat.reducePow,f0,f1,f2,f3,jQ];apply Qh a;simp only[go_sem,-Nat.reducePow];repeat (refine And.intro δ ?_)
 refine⟨_,Qo.to 4 (by (simp only[go_sem,-Nat.reducePow,AM,Nat.reduceAdd,h])<;>simp),JW.mk (c) (trivial)⟩;apply Qh a;simp only[go_sem,-Nat.reducePow,AM,Nat.reduceAdd];apply Qh a;simp only[go_sem,-Nat.reducePow];repeat (refine And.intro δ ?_)
 refine⟨_,Qo.to 4 (by (simp only[go_sem,-Nat.reducePow,AM,Nat.reduceMul])<;>simp),JW.mk (c) (trivial)⟩;apply Qh a;simp only[go_sem,-Nat.reducePow,AM,Nat.reduceMul,u];apply Qh a;simp only[go_sem,-Nat.reducePow]
def cdiv(n d:Nat):Nat:=(n+d-1)/d
def Qwq(n d)(a:0<d):cdiv n d=if n%d=0 then n/d else n/d+1:=by
 unfold cdiv;have c:=RL n d;have b:=WM n a;split;rename_i h;have:(n+d-1)/d=n/d/\(n+d-1)%d=d-1:=(bn a).2 ⟨ω,ω⟩;exact this.1;have:(n+d-1)/d=n/d+1/\(n+d-1)%d=n%d-1:=(bn a).2 ⟨by rw[Nat.mul_add];omega,ω⟩;exact this.1
@[go_sem] def Qwr(v e:Int):D:=.agg [.raw (.int .u64 v),.raw (.int .i64 e)]
def Qws(n d)(f:n<2^128)(g:0<d)(h:¬ n%d=0):n/d+1<2^128:=by
 have e:2<=d:=by
  rcases wU d 2 with h3|h3;have:d=1:=ω;subst this;omega;exact h3
 have:=Nat.div_le_div_left (c:=2) (b:=d) (a:=n) e π;omega
theorem TL:d0 0=0:=rfl
theorem TM:d1 0=0:=rfl
theorem TN:d2 0=0:=rfl
theorem TO:d3 0=0:=rfl
theorem sM:((65536:Nat):Int)=65536:=rfl
def FB(n:Nat):Nat:=if n<18446744073709551616 then n else 0
def DD(n:Nat):Int:=if n<18446744073709551616 then 0 else 20
def Qho(n)(e:n<2^128):QI prog 281 [num n] (QN (.tup [u64 (FB n),Qa (DD n)])):=by
 refine QY 0 func281 ntmps281 results281 λd w f=>?_;simp only[go_sem,-Nat.reducePow];by_cases h:n<18446744073709551616;have c:((((n/18446744073709551616:Nat)):Int) != 0)=false:=TE ω;have b:FB n=n:=Qd h;have a:DD n=0:=Qd h;simp only[go_sem,-Nat.reducePow,c,b,a];rw[qW h];have c:((((n/18446744073709551616:Nat)):Int) != 0)=true:=gF ω;have b:FB n=0:=Qc h;have a:DD n=20:=Qc h;simp only[go_sem,-Nat.reducePow,c,b,a]
def Qwt(n d)(e:n<2^128)(j:d<18446744073709551616)(f:0<d):QI prog 268 [num n,u64 d] (QN (.tup [u64 (FB (cdiv n d)),Qa (DD (cdiv n d))])):=by
 have b:=Qwq n d f;have i:d≠0:=ω;have l:=Gw n d;refine QY 0 func268 ntmps268 results268 λg w a=>?_;simp only[go_sem,-Nat.reducePow];refine Ks a QfP ?_ (Qhl n d e j) ?_;simp only[go_sem,-Nat.reducePow];apply Qh a;simp only[go_sem,-Nat.reducePow,i,qY];by_cases h:n%d=0;rw[Qd h]at b;have c:=TE h;simp only[go_sem,-Nat.reducePow,c];refine Ks a QfQ ?_ (Qho (n/d) ω) ?_;simp only[go_sem,-Nat.reducePow];apply Qh a;simp only[go_sem,-Nat.reducePow,b];rw[Qc h]at b;have m:=Qws n d e f h;have c:=gF h;simp only[go_sem,-Nat.reducePow,c];apply Qv a [0,1001,1002,3,4,5,1006];simp only[go_sem,-Nat.reducePow];refine Y7 a QfC ?_ (Qhh 1 π) ?_;simp only[go_sem,-Nat.reducePow,zD];apply ZT a;simp only[go_sem,-Nat.reducePow,zD];refine Y7 a SR ?_ (TD (n/d) 1 ω π) ?_;simp only[go_sem,-Nat.reducePow,zD];apply ZT a;simp only[go_sem,-Nat.reducePow];have k:(n/d+1)%2^128=cdiv n d:=ω;simp only[go_sem,-Nat.reducePow,k];refine Ks a QfQ ?_ (Qho (cdiv n d) ω) ?_;simp only[go_sem,-Nat.reducePow];apply Qh a;simp only[go_sem,-Nat.reducePow]
def Qwu(n d)(k:n<2^128)(i:d<18446744073709551616)(j:0<d):QI prog 52 [dg n,u64 d] (QN (Qwr (FB (n/d)) (DD (n/d)))):=by
 have g:=OI (show d≠0 from ω);have c:=Gw n d;refine QY 0 func52 ntmps52 results52 λf w a=>?_;simp only[go_sem,-Nat.reducePow];simp only[go_sem,-Nat.reducePow,g];refine Ks a Qsz ?_ (Qwn n d ω i j) ?_;simp only[go_sem,-Nat.reducePow];apply Qh a;simp only[go_sem,-Nat.reducePow];obtain⟨q,h⟩:∃q,q=n/d:=⟨_,rfl⟩;simp only[<- h]at c ⊢;refine Ks a fe ?_ (gI q ω) ?_;simp only[go_sem,-Nat.reducePow];apply Qh a;simp only[go_sem,-Nat.reducePow];by_cases e:q<18446744073709551616;have b:((((q/18446744073709551616:Nat)):Int) != 0)=false:=TE ω;simp only[go_sem,-Nat.reducePow,b];refine Ks a EZ ?_ (L7 (q) ω) ?_;simp only[go_sem,-Nat.reducePow];apply Qh a;simp only[go_sem,-Nat.reducePow,FB,DD,Qd e];rw[qW ω];have b:((((q/18446744073709551616:Nat)):Int) != 0)=true:=gF ω;simp only[go_sem,-Nat.reducePow,b,FB,DD,Qc e]
def Kf(a d b:Nat):Int:=if 4294967295<a\/4294967295<b\/1048576<d then 0 else if a=0/\b=0/\d=0 then 1 else if d=0/\a=b then 2 else if d=0 then 0 else if b<a then 3 else if a=0/\0<b then 4 else 0
@[go_sem] def Hu(a d b:Nat):D:=.agg [u64 a,u64 d,u64 b]
def gN(a d b):QI prog 12 [Hu a d b] (QN (Qa (Kf a d b))):=by
 refine QY 0 func12 ntmps12 results12 λc w e=>?_;simp only[go_sem,-Nat.reducePow]
 repeat' (first|((first|refine zg (λh=>?_) (λh=>?_)|refine zj (λh=>?_) (λh=>?_)|refine zk (λh=>?_) (λh=>?_)|refine VV (λh=>?_) (λh=>?_)|refine zl (λh=>?_) (λh=>?_)|refine zn (λh=>?_) (λh=>?_)|refine zo (λh=>?_) (λh=>?_)|refine ze (λh=>?_) (λh=>?_))<;>(try simp only[go_sem,-Nat.reducePow]))|(refine And.intro ω ?_;try simp only[go_sem,-Nat.reducePow]))
 all_goals (congr 2;unfold Kf;(repeat' split)<;>omega)
def TP(a d b):QI prog 165 [Hu a d b] (QN (Qa (Kf a d b))):=by
 refine QY 0 func165 ntmps165 results165 λc w e=>?_;simp only[go_sem,-Nat.reducePow]
 repeat' (first|((first|refine zg (λh=>?_) (λh=>?_)|refine zj (λh=>?_) (λh=>?_)|refine zk (λh=>?_) (λh=>?_)|refine VV (λh=>?_) (λh=>?_)|refine zl (λh=>?_) (λh=>?_)|refine zn (λh=>?_) (λh=>?_)|refine zo (λh=>?_) (λh=>?_)|refine ze (λh=>?_) (λh=>?_))<;>(try simp only[go_sem,-Nat.reducePow]))|(refine And.intro ω ?_;try simp only[go_sem,-Nat.reducePow]))
 all_goals (congr 2;(try simp only[ZE,Gm,qX,jv,ne_eq]at *);(try unfold Kf);(repeat' split)<;>omega)
def Qhp(a d b):Kf a d b=0\/Kf a d b=1\/Kf a d b=2\/Kf a d b=3\/Kf a d b=4:=by unfold Kf;(repeat' split)<;>simp
def gO{a d b}(h:Kf a d b≠0):a<=4294967295/\b<=4294967295/\d<=1048576:=by unfold Kf at h;split at h<;>omega
def sO(a d b):QI prog 174 [Hu a d b] (QN (QU (Kf a d b != 0))):=by
 refine QY 0 func174 ntmps174 results174 λe w c=>?_;simp only[go_sem,-Nat.reducePow];refine Ks c E0 ?_ (TP a d b) ?_;simp only[go_sem,-Nat.reducePow];apply Qh c;simp only[go_sem,-Nat.reducePow]
def KJ(a d b t:Nat):Nat:=if Kf a d b=0 then 0 else a*min t d+b*(t-min t d)
def sP(a d b t)(i:t<18446744073709551616):KJ a d b t<2^97:=by
 unfold KJ;split;decide;rename_i h;obtain⟨e,c,j⟩:=gO h;have g:a*min t d<=4294967295*1048576:=Yb e ω;have f:b*(t-min t d)<=4294967295*18446744073709551615:=Yb c ω;exact Iq (Nat.add_le_add g f) π
def Qwv(a b:Nat):(min (a:Int) (b:Int))=((min a b:Nat):Int):=ω
def Qww(a d b t)(i:t<18446744073709551616):QI prog 231 [Hu a d b,u64 t] (QN (num (KJ a d b t))):=by
 refine QY 0 func231 ntmps231 results231 λg w c=>?_;simp only[go_sem,-Nat.reducePow];refine Ks c OF ?_ (sO a d b) ?_;simp only[go_sem,-Nat.reducePow];apply Qh c;simp only[go_sem,-Nat.reducePow];by_cases h:Kf a d b=0;have f:KJ a d b t=0:=Qd h;have e:(Kf a d b != 0)=false:=by simp[h]
 simp only[go_sem,-Nat.reducePow,f,e];have f:KJ a d b t=a*min t d+b*(t-min t d):=Qc h;have e:(Kf a d b != 0)=true:=by simp[h]
 obtain⟨k,j,m⟩:=gO h;have l:=S8 t (min t d) ω i;have o:a*min t d<=4294967295*1048576:=Yb k ω;have n:b*(t-min t d)<=4294967295*18446744073709551615:=Yb j ω;simp only[go_sem,-Nat.reducePow,f,e,Qwv];apply Qv c [0,1,2,4,5,6,7,8,1003,1009,1010,11,12,13,1014,1015,16];simp only[go_sem,-Nat.reducePow,l];refine Y7 c BV ?_ (B9 a (min t d) ω ω) ?_;simp only[go_sem,-Nat.reducePow];apply ZT c;simp only[go_sem,-Nat.reducePow];refine Y7 c BV ?_ (B9 b (t-min t d) ω ω) ?_;simp only[go_sem,-Nat.reducePow];apply ZT c;simp only[go_sem,-Nat.reducePow];refine Y7 c SR ?_ (TD (a*min t d) (b*(t-min t d)) ω ω) ?_;simp only[go_sem,-Nat.reducePow];apply ZT c;simp only[go_sem,-Nat.reducePow];rw[qW ω]
def Qhq(a d b t)(k:t<18446744073709551616):QI prog 51 [Hu a d b,u64 t] (QN (dg (KJ a d b t))):=by
 refine QY 0 func51 ntmps51 results51 λl w c=>?_;simp only[go_sem,-Nat.reducePow];refine Ks c xo ?_ (gN a d b) ?_;simp only[go_sem,-Nat.reducePow];apply Qh c;simp only[go_sem,-Nat.reducePow];by_cases h:Kf a d b=0;have f:KJ a d b t=0:=Qd h;have e:(Kf a d b==0)=true:=by simp[h]
 simp only[go_sem,-Nat.reducePow,f,e];rfl;have f:KJ a d b t=a*min t d+b*(t-min t d):=Qc h;have e:(Kf a d b==0)=false:=by simp[h]
 obtain⟨n,m,q⟩:=gO h;have p:b*(t-min t d)<=4294967295*18446744073709551615:=Yb m ω;by_cases g:t<=d;have j:decide (t<=d)=true:=QS g;have i:KJ a d b t=a*t:=by rw[f,Gy g,wV,RO,x6]
 simp only[go_sem,-Nat.reducePow,e,j];refine Ks c OC ?_ (Pb a t ω k) ?_;simp only[go_sem,-Nat.reducePow];apply Qh c;simp only[go_sem,-Nat.reducePow,i];have j:decide (t<=d)=false:=QG g;have i:KJ a d b t=a*d+b*(t-d):=by rw[f,NF ω]
 have r:a*d<=4294967295*1048576:=Yb n ω;have o:=S8 t d ω k;rw[NF ω]at p;simp only[go_sem,-Nat.reducePow,e,j];apply Qv c [0,1,2,3,5,6,7,8,9,10,1004,1011,1012,1013];simp only[go_sem,-Nat.reducePow,o];refine Y7 c OC ?_ (Pb a d ω ω) ?_;simp only[go_sem,-Nat.reducePow];apply ZT c;simp only[go_sem,-Nat.reducePow];refine Y7 c OC ?_ (Pb b (t-d) ω ω) ?_;simp only[go_sem,-Nat.reducePow];apply ZT c;simp only[go_sem,-Nat.reducePow];refine Y7 c BU ?_ (Cb (a*d) (b*(t-d)) ω ω) ?_;simp only[go_sem,-Nat.reducePow];apply ZT c;simp only[go_sem,-Nat.reducePow,i]
structure Ln where
 x:Nat
 y:Nat
 m:Nat
deriving DecidableEq
instance:Inhabited Ln:=⟨⟨0,0,0⟩⟩
structure Ln.Ok (l:Ln):Prop where
 x:l.x<18446744073709551616
 y:l.y<2^128
 m:l.m<18446744073709551616
@[go_sem] def Ln.cells(l:Ln):List D:=[u64 l.x,u64 (l.y/18446744073709551616),u64 (l.y%18446744073709551616),u64 l.m]
def qd(l:Ln)(x:Nat):Nat:=if x<=l.x then l.y else (l.y+l.m*(x-l.x))%2^128
def Qhr{a b}(d:a<18446744073709551616)(c:b<18446744073709551616):a*b<2^128:=by
 have:a*b<=18446744073709551615*18446744073709551615:=Yb ω ω;exact Iq this π
def Qhs{l:Ln}(h:l.Ok)(x):qd l x<2^128:=by
 unfold qd;split;exact h.y;exact WM _ π
def Qht(l:Ln)(h:l.Ok)(x)(d:x<18446744073709551616):QI prog 259 [.agg l.cells,u64 x] (QN (num (qd l x))):=by
 unfold qd;refine QY 0 func259 ntmps259 results259 λc w a=>?_;simp only[go_sem];by_cases b:x<=l.x;have d1:=QS b;simp only[go_sem,d1,Qd b];have d1:=QG b;have e:=S8 x l.x ω d;simp only[go_sem,d1,Qc b];apply Qv a o10;simp only[go_sem,e];apply ZD a BV (B9 l.m (x-l.x) h.m ω);apply Zp a;apply ZD a SR (TD l.y (l.m*(x-l.x)) h.y (Qhr h.m ω));exact Fb a
def wk(l:Ln)(w:Nat):Nat:=
 if w<=l.y then 0
 else if l.m=0\/18446744073709551616<=cdiv (w-l.y) l.m\/never<=l.x\/never-l.x<=cdiv (w-l.y) l.m then never
 else l.x+cdiv (w-l.y) l.m
def Qhu(l)(w):wk l w<=never:=by
 unfold wk;split<;>try split
 exact Jj _;exact QB _;omega
def Qwx(n)(c:n<2^128):QI prog 268 [num n,u64 0] (QN (.tup [u64 0,Qa 1])):=by
 refine QY 0 func268 ntmps268 results268 λb w a=>?_;simp only[go_sem];apply QV a QfP (Qhl n 0 c π);apply Qh a;simp only[go_sem,Vu]
def Qhv{a b:Nat}:((if a<b then (-1:Int) else if a=b then 0 else 1)<=0)↔a<=b:=by
 split;omega;split<;>omega
def Qwy{a b:Nat}:((if a<b then (-1:Int) else if a=b then 0 else 1)<0)↔a<b:=by
 split;omega;split<;>omega
def Qwz{a b}(c:a<2^128)(h:b<=a):(a+2^128-b)%2^128=a-b:=by
 rw[show a+2^128-b=a-b+2^128 by omega,Nat.add_mod_right,qW ω]
def gP(l:Ln)(h:l.Ok)(v)(i:v<2^128):QI prog 253 [.agg l.cells,num v] (QN (u64 (wk l v))):=by
 unfold wk;refine QY 0 func253 ntmps253 results253 λn w a=>?_;simp only[go_sem];apply QV a pL (sx v l.y i h.y);apply Qg a;by_cases g:v<=l.y;have d1:=QS (Qhv.2 g);simp only[go_sem,d1,Qd g];have d1:=QG (λc=>g (Qhv.1 c));rw[Qc g];simp only[go_sem,d1];apply QV a QtV (Qv5 v l.y i h.y);apply Qh a;simp only[go_sem,Qwz i (show l.y<=v from ω)];by_cases c:l.m=0;rw[Qd (.inl c)];refine Ks a QfN ?_ (Qwx (v-l.y) ω) ?_;simp only[go_sem,c];apply Qh a;simp only[go_sem,c];rfl;apply QV a QfN (Qwt (v-l.y) l.m ω h.m ω);apply Qg a;by_cases j:cdiv (v-l.y) l.m<18446744073709551616;have f:DD (cdiv (v-l.y) l.m)=0:=Qd j;have k:FB (cdiv (v-l.y) l.m)=cdiv (v-l.y) l.m:=Qd j;by_cases e:never<=l.x;have d4:decide ((9223372036854775808:Int)<=(l.x:Int))=true:=QS (by unfold never at e;omega);rw[Qd (.inr (.inr (.inl e)))];simp only[go_sem,f,k,d4];rfl;have d4:decide ((9223372036854775808:Int)<=(l.x:Int))=false:=QG (by unfold never at e;omega);have m:IntKind.u64.wrap ((9223372036854775808:Int)-(l.x:Int))=((never-l.x:Nat):Int):=by
  have:=S8 9223372036854775808 l.x (by unfold never at e;omega) π;exact this
 by_cases d:never-l.x<=cdiv (v-l.y) l.m;have d5:=QS d;rw[Qd (.inr (.inr (.inr d)))];simp only[go_sem,f,k,d4,m,d5];rfl;have d5:=QG d;have o:=Qgn l.x (cdiv (v-l.y) l.m) (by unfold never at d;omega);rw[Qc (by rintro (b|b|b|b);exact c b;omega;exact e b;exact d b)];simp only[go_sem,f,k,d4,m,d5,o];have f:DD (cdiv (v-l.y) l.m)=20:=Qc j;rw[Qd (.inr (.inl ω))];simp only[go_sem,f];rfl
def xJ(a b:Ln):Ln:=if qd b (max a.x b.x)<qd a (max a.x b.x) then b else a
def Qhw{a b:Ln}(d:a.Ok)(c:b.Ok):(xJ a b).Ok:=by unfold xJ;split<;>assumption
def QwA(a b:Nat):(max (a:Int) (b:Int))=((max a b:Nat):Int):=ω
def Qhx(a b:Ln)(e:a.Ok)(f:b.Ok):QI prog 240 [.agg a.cells,.agg b.cells] (QN (.agg (xJ a b).cells)):=by
 have hx:max a.x b.x<18446744073709551616:=by have:=e.x;have:=f.x;omega
 unfold xJ;obtain⟨k,h⟩:∃k,k=(if qd b (max a.x b.x)<qd a (max a.x b.x) then (-1:Int) else if qd b (max a.x b.x)=qd a (max a.x b.x) then 0 else 1):=⟨_,rfl⟩;have g:k<0↔qd b (max a.x b.x)<qd a (max a.x b.x):=by rw[h];exact Qwy
 refine QY 0 func240 ntmps240 results240 λi w c=>?_;simp only[go_sem];simp only[go_sem,QwA];apply Qv c [0,1,3,4,1002,1005,1006,7];simp only[go_sem];apply ZD c QfK (Qht b f (max a.x b.x) hx);apply Zp c;apply ZD c QfK (Qht a e (max a.x b.x) hx);apply Zp c;apply ZD c pL (h▸sx (qd b (max a.x b.x)) (qd a (max a.x b.x)) (Qhs f _) (Qhs e _));apply Zp c;by_cases d:qd b (max a.x b.x)<qd a (max a.x b.x);have d1:=QS (g.2 d);simp only[go_sem,d1,Qd d];have d1:=QG (λj=>d (g.1 j));rw[Qc d];simp only[go_sem,d1]
structure Rn where
 f:Ln
 t:Ln
 b:Bool
deriving DecidableEq
instance:Inhabited Rn:=⟨⟨default,default,false⟩⟩
structure Rn.Ok (r:Rn):Prop where
 f:r.f.Ok
 t:r.t.Ok
@[go_sem] def Rn.cells(r:Rn):List D:=[u64 r.f.x,u64 (r.f.y/18446744073709551616),u64 (r.f.y%18446744073709551616),u64 r.f.m,u64 r.t.x,u64 (r.t.y/18446744073709551616),u64 (r.t.y%18446744073709551616),u64 r.t.m,QU r.b]
def Qhy(n:Nat)(h:n<18446744073709551616):IntKind.u64.wrap (n:Int)=(n:Int):=η
@[go_sem] def cfg(t l:Int):D:=.agg [.raw (.int .i64 t),.raw (.int .i64 l)]
def QwB(n t:Nat)(u:n<2^128)(s:t<=65536)(r:n*t<2^128):QI prog 228 [num n,Qa t] (QN (num (n*t))):=by
 obtain⟨b,a,q,rfl⟩:∃b a,a<18446744073709551616/\n=b*18446744073709551616+a:=⟨n/18446744073709551616,n%18446744073709551616,WM _ π,ω⟩;have v:b<18446744073709551616:=ω;have p:(b*18446744073709551616+a)/18446744073709551616=b:=ω;have o:(b*18446744073709551616+a)%18446744073709551616=a:=ω;obtain⟨A,h⟩:∃A,A=a*t:=⟨_,rfl⟩;obtain⟨B,c⟩:∃B,B=b*t:=⟨_,rfl⟩;have i:(b*18446744073709551616+a)*t=B*18446744073709551616+A:=by rw[h,c,VM,Is,Iu 18446744073709551616 t,<- Is]
 rw[i]at r;rw[i];have f:=B9 a t q ω;rw[<- h]at f;have e:=Qhy t ω;have d:=S9 b t (by rw[<- c];omega);rw[<- c]at d;have k:=Qgn (A/18446744073709551616) B ω;have m:(B*18446744073709551616+A)/18446744073709551616=A/18446744073709551616+B:=by rw[NC,Nat.add_mul_div_right _ _ π]
 have l:(B*18446744073709551616+A)%18446744073709551616=A%18446744073709551616:=by rw[NC,Nat.add_mul_mod_self_right]
 refine QY 0 func228 ntmps228 results228 λj w g=>?_;simp only[go_sem];simp only[p,o,e,go_sem];apply QV g BV f;apply Qh g;simp only[go_sem,e,d,k];simp only[go_sem,m,l]
def Qhz(n t k:Nat)(h:n<2^111)(b:t<=65536)(f:k<18446744073709551616):QI prog 178 [num n,Qa t,u64 k] (QN (QU (decide (65536*k<n*t)))):=by
 have i:n*t<=n*65536:=Iv n b;have g:=sx (n*t) (65536*k) ω ω;have e:decide ((if n*t<65536*k then (-1:Int) else if n*t=65536*k then 0 else 1) > 0)=decide (65536*k<n*t):=by
  rw[vF];simp only[Xo];(repeat' split)<;>omega
 have d:=B9 65536 k π f;refine QY 0 func178 ntmps178 results178 λc w a=>?_;simp only[go_sem];apply QV a QtK (QwB n t ω b ω);apply Qg a;refine Ks a BV ?_ d ?_;simp only[go_sem,sM];apply Qg a;apply QV a pL g;apply Qh a;simp only[go_sem,e]
@[go_sem] def KK(l:List Ql):D:=.imm 14 l.length (Ql.rows l)
def QwC(h:List Ob):QM prog 61 h [] (λd b=>d=.ptr (h.length+1) 0 0 0/\b=h++[QR .i64 0 [],⟨.one,0,1,1,λ_=>[.mref h.length 0]⟩]):=by
 refine Q7 func61 ntmps61 results61 λa w c e=>?_;simp only[go_sem,Qj]
def qf(L:List Ql)(k:Int):Int:=match L.findIdx? (λc=>c.iD==k) with
 | some i=>i
 | none=>-1
def QwD{L:List Ql}{k}{i}(a:i<L.length)(h:∀j,j<i->(L.getD j default).iD≠k)(d:(L.getD i default).iD=k):qf L k=i:=by
 have e:L.findIdx? (λc=>c.iD==k)=some i:=by
  rw[CM];refine⟨a,by simpa[QW,a] using d,λj b=>?_⟩;have:=h j b;simpa[QW,show j<L.length by omega] using this
 rw[qf,e]
def QwE{L:List Ql}{k}(h:∀j,j<L.length->(L.getD j default).iD≠k):qf L k=-1:=by
 have e:L.findIdx? (λc=>c.iD==k)=none:=by
  rw[Ej];intro x hx;obtain⟨i,a,rfl⟩:=vH hx;have:=h i a;simpa[QW,a] using this
 rw[qf,e]
def yD(L:List Ql)(k)(m:L.length<1000000):QI prog 15 [KK L,Qa k] (QN (Qa (qf L k))):=by
 refine QY 0 func15 ntmps15 results15 λh w g=>?_;simp only[go_sem];refine ZN (λi s=>(∀j,j<i->(L.getD j default).iD≠k)/\s=⟨[(1,Qa k),(7,KK L),(8,Qa L.length),(9,Qa i)],[]⟩) L.length QO ⟨λj d=>absurd d ω,rfl⟩ ?_;rintro i s f ⟨c,rfl⟩;have l:=Jr (show i<4611686018427387904 from ω);apply Qg g;first|refine We f (λa=>?_) (λa=>?_)|refine Wf f (λa=>?_) (λa=>?_)
 simp only[go_sem,a];by_cases b:(L.getD i default).iD=k;rw[QwD a c b];simp only[go_sem,WA b];simp only[go_sem,Vw b];refine⟨a,_,Qo.to 0 ⟨?_,by simp only[go_sem],?_,?_⟩,λj d=>?_,rfl⟩;simp only[go_sem,l];simp only[go_sem];simp only[go_sem];rcases vK.1 d with e|rfl;exact c j e;exact b;have e:i=L.length:=ω;subst e;rw[QwE c];exact VE g
structure VJ {α:Type} [Inhabited α] (enc:α->List D) (L:List α) (off:Nat) (row:Nat->List D):Prop where
 at_:∀i,i<L.length->row (off+i)=enc (L.getD i default)
 all:∀i,i<off+L.length->∃a,row i=enc a
def Pc{c:Type}[Inhabited c](f:Nat)(e:c->List D)(L:List c)(d:D)(h:List Ob):Prop:=∃g a b,d=.ref 0 g a L.length/\h=[⟨.arr,g,f,a+L.length,b⟩]/\VJ e L a b
def VJ.nil{c:Type}[Inhabited c]{b:c->List D}{a:Nat->List D}:VJ b [] 0 a:=⟨λi hi=>absurd hi (Yc i),λi hi=>absurd hi (Yc i)⟩
def VJ.app{g:Type}[Inhabited g]{a}{L:List g}{c}{b}(h:VJ a L c b)(x:g){r2}(j:r2 0=a x):VJ a (L++[x]) 0 (JO L.length c b r2):=by
 have e:∀i,i<L.length+1->JO L.length c b r2 i=a ((L++[x]).getD i default):=λi d=>by
  by_cases f:i<L.length;rw[Bo f,h.at_ i f];simp[f,JJ f];have:i=L.length:=ω;subst this;rw[x9 (QB _),wV,j];simp
 exact⟨λi d=>by simp at d;rw[Jz];exact e i d,λi d=>by simp at d;exact⟨_,e i d⟩⟩
def VJ.upto{e:Type}[Inhabited e]{d}{L:List e}{c}{b}(h:VJ d L c b){k}(f:∀a,xh k (d a)=true):∀i,i<c+L.length->xh k (b i)=true:=λi g=>by
 obtain⟨a,j⟩:=h.all i g;rw[j];exact f a
theorem Ma(a):xh 1 [Qa a]=true:=rfl
def jR(L:List Ql)(g:Ql->Bool):Nat->List Int
 | 0=>[]
 | i+1=>if g (L.getD i default)=true then jR L g i++[(L.getD i default).iD] else jR L g i
def QhA(L)(g):∀i,(jR L g i).length<=i
 | 0=>QB _
 | i+1=>by
  have:=QhA L g i;rw[jR];split;simp;omega;omega
def QhB(L:List Ql)(g:Ql->Bool):∀i,i<=L.length->jR L g i=((L.take i).filter g).map (·.iD)
 | 0,_=>by simp[jR]
 | i+1,h=>by
  have b:i<L.length:=ω;rw[jR,QhB L g i ω,zS,QJ b];simp only[Bi,Ih,ju,QW,QJ b,KW];by_cases a:g L[i]=true;rw[Qd a,Ij a];rfl;rw[Qc a,Ii a];simp
def QwF(L:List Ql)(g:Ql->Bool):jR L g L.length=(L.filter g).map (·.iD):=by rw[QhB L g _ (QB _),Wn]
def QwG(L:List Ql)(k)(B:L.length<1000000):QI prog 87 [KK L,Qa k] (Pc 1 (λn:Int=>[Qa n]) (KE L k)):=by
 have z:KE L k=jR L (λy=>y.parent==k) L.length:=(QwF L _).symm;refine QY 1 func87 ntmps87 results87 λt w o=>?_;simp only[go_sem];refine ZN (λi s=>∃g a b,VJ (λn:Int=>[Qa n]) (jR L (λy=>y.parent==k) i) a b/\s=⟨[(1,Qa k),(5,.ref 0 g a (jR L (λy=>y.parent==k) i).length),(8,KK L),(9,Qa L.length),(10,Qa i)],[⟨.arr,g,1,a+(jR L (λy=>y.parent==k) i).length,b⟩]⟩) L.length
  (s0:=⟨[(1,Qa k),(5,.ref 0 0 0 0),(8,KK L),(9,Qa L.length),(10,Qa 0)],[⟨.arr,0,1,0,λ_=>[]⟩]⟩)
  (Qo.trans (Qo.jw 5 1 (λi=>[]) rfl) QO) ⟨0,0,λ_=>[],.nil,rfl⟩ ?_
 rintro i s l ⟨g,a,b,f,rfl⟩;have v:=QhA L (λy=>y.parent==k) i;have q:=Jr (show i<4611686018427387904 from ω);apply Qg o;first|refine We l (λd=>?_) (λd=>?_)|refine Wf l (λd=>?_) (λd=>?_)
 obtain⟨M,p⟩:∃M,M=jR L (λy=>y.parent==k) i:=⟨_,rfl⟩;obtain⟨e,m⟩:∃e,e=L.getD i default:=⟨_,rfl⟩;have c:jR L (λy=>y.parent==k) (i+1)=if (e.parent==k)=true then M++[e.iD] else M:=by rw[p,m];rfl
 rw[<- p]at f v ⊢;simp only[go_sem,d,<- m];by_cases j:e.parent=k;rw[Qd (WA j)]at c;have x:M.length<=4294967295:=ω;have h:VJ (λn:Int=>[Qa n]) (jR L (λy=>y.parent==k) (i+1)) 0 (JO M.length a b λ_=>[Qa e.iD]):=by rw[c];exact f.app e.iD rfl
 have r:(jR L (λy=>y.parent==k) (i+1)).length=M.length+1:=by rw[c];simp
 simp only[go_sem,WA j,x];refine⟨d,_,Qo.to 1 ⟨?_,by simp only[go_sem],?_,?_⟩,g+1,0,_,h,rfl⟩;simp only[go_sem,q,r];exact⟨h.upto Ma,trivial⟩;simp only[go_sem,r];rw[Qc (by simpa using j)]at c;have h:VJ (λn:Int=>[Qa n]) (jR L (λy=>y.parent==k) (i+1)) a b:=by rw[c];exact f
 simp only[go_sem,Vw j];refine⟨d,_,Qo.to 1 ⟨?_,by simp only[go_sem],?_,?_⟩,g,a,b,h,rfl⟩;simp only[go_sem,q,c];exact⟨h.upto Ma,trivial⟩;simp only[go_sem,c];have u:i=L.length:=ω;subst u;rw[z];apply Qg o;exact⟨f.upto Ma,g,a,b,rfl,rfl,f⟩
def Pd(L:List Ql)(k):(Qw L k=none/\qf L k=-1)\/∃i,i<L.length/\qf L k=(i:Int)/\Qw L k=some (L.getD i default):=by
 cases h:L.findIdx? (λc=>c.iD==k) with
 | none=>
  refine .inl ⟨?_,by rw[qf,h]⟩;rw[Qw,js];intro x hx;have:=Ej.1 h x hx;simp[this]
 | some i=>
  obtain⟨a,e,d⟩:=CM.1 h;refine .inr ⟨i,a,by rw[qf,h],?_⟩;rw[Qw,List.find?_eq_some_iff_getElem];refine⟨by simpa[QW,a] using e,i,a,by simp[QW,a],λj b=>?_⟩;have:=d j b;simpa using this
def gQ(L:List Ql)(a)(m:L.length<1000000)(l:∀c∈L,c.Nn):QI prog 85 [KK L,Qa a] (QN (QU (Ve L a))):=by
 refine QY 0 func85 ntmps85 results85 λk w b=>?_;simp only[go_sem];apply QV b yo (yD L a m);apply Qg b;by_cases d:a=0;have e:Ve L a=true:=by simp[Ve,d]
 simp only[go_sem,WA d,Go.undef,e];have e:Ve L a=decide (1<QH ((Qw L a).getD default).ls):=by simp[Ve,d]
 rw[e];simp only[go_sem,Vw d,Go.undef];rcases Pd L a with ⟨j,h⟩|⟨i,f,h,j⟩;rw[j,h];simp only[go_sem,Go.undef];rfl;rw[j,h];have n:L.getD i default∈L:=by rw[QW,QJ f];exact Xn f
 have g:=l _ n;have o:(0:Int)<=(i:Int):=ω;simp only[go_sem,f];apply QV b xo (Dp (L.getD i default).ls g.2.1.1 g.2.1.2.1 g.2.1.2.2);apply Qh b;simp only[go_sem,KW]
def QwH(L:List Ql)(h)(o:L.length<1000000):QI prog 32 [KK L,Qa h] (Pc 1 (λn:Int=>[Qa n]) (ZF L 70 h)):=by
 refine QY 1 func32 ntmps32 results32 λr w e=>?_;simp only[go_sem,-Nat.reducePow];refine ZN (λi s=>∃d a g b c,d++ZF L (70-i) a=ZF L 70 h/\d.length=i/\VJ (λn:Int=>[Qa n]) d b c/\s=⟨[(0,KK L),(5,.ref 0 g b d.length),(6,Qa a),(9,Qa i)],[⟨.arr,g,1,b+d.length,c⟩]⟩) 70
  (s0:=⟨[(0,KK L),(5,.ref 0 0 0 0),(6,Qa h),(9,Qa 0)],[⟨.arr,0,1,0,λ_=>[]⟩]⟩)
  (Qo.trans (Qo.jw 5 1 (λi=>[]) rfl) (Qo.frame (by simp only[go_sem,-Nat.reducePow]))) ⟨[],h,0,0,λ_=>[],rfl,rfl,.nil,rfl⟩ ?_
 rintro i s E ⟨d,a,g,b,c,f,B,k,rfl⟩;have z:=Jr (show i<4611686018427387904 from ω);by_cases y:i<70;have q:((i:Int)<70):=ω;obtain⟨n,t⟩:∃n,70-i=n+1:=⟨69-i,ω⟩;have F:70-(i+1)=n:=ω;rw[t,ZF]at f;rcases Pd L a with ⟨l,m⟩|⟨j,u,m,l⟩;rw[l,JS]at f;rw[<- f];apply Qh e;simp only[go_sem,-Nat.reducePow,q];refine Ks e yo ?_ (yD L a o) ?_;simp only[go_sem,-Nat.reducePow];apply Qh e;simp only[go_sem,-Nat.reducePow,m];apply Qh e;simp only[go_sem,-Nat.reducePow];exact⟨k.upto Ma,g,b,c,rfl,rfl,k⟩;rw[l]at f;have x:d.length<=4294967295:=ω;have p:VJ (λn:Int=>[Qa n]) (d++[a]) 0 (JO d.length b c λ_=>[Qa a]):=k.app a rfl;have v:¬ ((j:Int)<0):=ω;apply Qh e;simp only[go_sem,-Nat.reducePow,q];refine Ks e yo ?_ (yD L a o) ?_;simp only[go_sem,-Nat.reducePow];apply Qh e;simp only[go_sem,-Nat.reducePow,m,x,QG v,u];refine⟨y,_,Qo.to 1 ⟨?_,by simp only[go_sem,-Nat.reducePow],?_,?_⟩,d++[a],(L.getD j default).parent,g+1,0,_,?_,by simp[B],p,rfl⟩;simp only[go_sem,-Nat.reducePow,z,Zk,Kr];exact⟨p.upto Ma,trivial⟩;simp only[go_sem,-Nat.reducePow,Zk,Kr];rw[show 69-i=n by omega,<- f];simp;have l:i=70:=ω;subst l;rw[ZF,JS]at f;rw[<- f];have C:decide (((70:Nat):Int)<70)=false:=π;apply Qh e;simp only[go_sem,-Nat.reducePow];apply Qh e;simp only[go_sem,-Nat.reducePow];exact⟨k.upto Ma,g,b,c,rfl,rfl,k⟩
def putAt(L:List Ql)(x:Ql):Nat->List Ql × Bool
 | 0=>([],false)
 | i+1=>
  let o:=if !(putAt L x i).2&&decide (x.iD<=(L.getD i default).iD) then (putAt L x i).1++[x] else (putAt L x i).1
  (if (L.getD i default).iD≠x.iD then o++[L.getD i default] else o,(putAt L x i).2 || decide (x.iD<=(L.getD i default).iD))
def Cc(L:List Ql)(x:Ql):List Ql:=if (putAt L x L.length).2 then (putAt L x L.length).1 else (putAt L x L.length).1++[x]
def xK(x:Ql):List Ql->List Ql × Bool->List Ql × Bool
 | [],s=>s
 | c::r,s=>
  let o:=if !s.2&&decide (x.iD<=c.iD) then s.1++[x] else s.1
  xK x r (if c.iD≠x.iD then o++[c] else o,s.2 || decide (x.iD<=c.iD))
def QhC(x):∀(L:List Ql) (c:Ql) (s:List Ql × Bool),xK x (L++[c]) s=xK x [c] (xK x L s)
 | [],c,s=>rfl
 | d::L,c,s=>by simp only[YT];rw[xK,QhC x L c];rfl
def QhD(L:List Ql)(x):∀i,i<=L.length->putAt L x i=xK x (L.take i) ([],false)
 | 0,_=>by simp[putAt,xK]
 | i+1,h=>by
  have a:i<L.length:=ω;rw[zS,QJ a,Bi,QhC,<- QhD L x i ω];simp only[putAt,xK,QW,QJ a,KW]
def sQ(x:Ql):∀(L o:List Ql),(∀c∈L,c.iD≠x.iD)->xK x L (o,true)=(o++L,true)
 | [],o,_=>by simp[xK]
 | c::L,o,h=>by
  have b:=h c σ;simp only[xK,Be,Ie,qu,qY,RD];rw[Qd b,sQ x L _ λd a=>h d (by simp[a])];simp
def QhE(x):∀(L o:List Ql),Ws L->(let s:=xK x L (o,false);if s.2 then s.1 else s.1++[x])=o++Vk L x
 | [],o,_=>by simp[xK,Vk]
 | c::L,o,h=>by
  have j:Ws L:=mY h;have i:∀d∈L,c.iD<d.iD:=λd b=>(Aa.1 h).1 d b;simp only[xK,Vk,Gp,If,Gn,Xo];by_cases f:x.iD<c.iD;have a:x.iD<=c.iD:=ω;have l:c.iD≠x.iD:=ω;rw[Qd f,Qd a,Qd l,QS a,sQ x L _ λd b=>by have:=i d b;omega];simp;by_cases a:c.iD=x.iD;have e:x.iD<=c.iD:=ω;rw[Qc f,Qd a,Qd e,Qc (show ¬ (c.iD≠x.iD) from λk=>k a),QS e,sQ x L _ λd b=>by have:=i d b;omega];simp;have e:¬ x.iD<=c.iD:=ω;have g:=QhE x L (o++[c]) j;simp only at g;rw[Qc f,Qc a,Qc e,Qd a,QG e,g];simp
def QhF{L}(h:Ws L)(x):Cc L x=Vk L x:=by
 have:=QhE x L [] h;simp only[zR]at this;rw[Cc,QhD L x _ (QB _),Wn,this]
structure Nc where
 a:Nat
 d:Nat
 b:Nat
instance:Inhabited Nc:=⟨⟨0,0,0⟩⟩
@[go_sem] def Nc.cells(c:Nc):List D:=[u64 c.a,u64 c.d,u64 c.b]
def Nc.rows(l:List Nc):Nat->List D:=λi=>(l.getD i default).cells
@[go_sem] theorem Nc.xp(l:List Nc)(i):Nc.rows l i=(l.getD i default).cells:=rfl
@[go_sem] def KV(l:List Nc):D:=.imm 3 l.length (Nc.rows l)
@[go_sem] def DE(c:Nc):D:=.agg c.cells
def Nc.of(c:Nc):Int:=Kf c.a c.d c.b
def Nc.Lt(c:Nc):Prop:=c.a<18446744073709551616/\c.d<18446744073709551616/\c.b<18446744073709551616
def QhG(F:List Ob)(f a:Nat)(b:List D)(g:Nc->Nat):Prop:=∀(h:List Ob) (c:Nc),c.Lt->VG F h->Zf prog f h (Z5 a b [DE c]) (λd=>d=num (g c))
def Xv(g:Nc->Nat)(s:Nat)(c:Nc):Nat:=if c.of=0 then s else s+g c
def jS(g:Nc->Nat)(l:List Nc):Nat:=l.foldl (Xv g) 0
def Pe{g}{M}(a:∀c:Nc,c.Lt->g c<=M):∀{l:List Nc} {s:Nat},(∀c∈l,c.Lt)->l.foldl (Xv g) s<=s+l.length*M
 | [],s,_=>σ
 | c::l,s,h=>by
  have e:=a c (h c σ);have d:=Pe a (l:=l) (s:=Xv g s c) λx hx=>h x (by simp[hx]);have b:Xv g s c<=s+M:=by unfold Xv;split<;>omega
  simp only[jt,Kw,VM,NG];omega
def Mb(n:Nat):Ob:=⟨.one,0,2,1,λ_=>[u64 (n/18446744073709551616),u64 (n%18446744073709551616)]⟩
structure OvI (l:List Nc) (so:D) (g:Nc->Nat) (F:List Ob) (i:Nat) (s:St):Prop where
 ex:∃G:List Ob,s=⟨[(1,so),(4,.ptr F.length 0 0 0),(5,.ptr (F.length+1) 0 0 0),(8,KV l),(9,Qa l.length),(10,Qa i)],F++(Mb 0::Mb ((l.take i).foldl (Xv g) 0)::G)⟩
def QhH(h:List Ob)(l:List Nc)(P:l.length<1048576)(t:∀c∈l,c.Lt)(j:D)(f q:Nat)(v:List D)(I:Qm prog f)(M:JB j=some (f,q,v))(g:Nc->Nat)(C:∀c:Nc,c.Lt->g c<=2^97)
  (H:QhG (h.map Ob.ro) f q v g):Zf prog 229 h [KV l,j] (λd=>d=num (jS g l)):=by
 refine ZH func229 ntmps229 results229 λE w O F K T b=>?_;simp only[go_sem,Qj];refine ZN (OvI l j g F) l.length (s0:=⟨[(1,j),(4,.ptr F.length 0 0 0),(5,.ptr (F.length+1) 0 0 0),(8,KV l),(9,Qa l.length),(10,Qa 0)],F++[Mb 0,Mb 0]⟩) QO ⟨[],rfl⟩ ?_;rintro i s r ⟨G,rfl⟩;have z:=Jr (show i<4611686018427387904 from ω);obtain⟨S,k⟩:∃S,S=(l.take i).foldl (Xv g) 0:=⟨_,rfl⟩;have U:S<=2^117:=by
  have R:=Pe C (l:=l.take i) (s:=0) λx hx=>t x (aW hx);have L:(l.take i).length<=1048576:=ξ;have Q:=XC (2^97) L;rw[k];omega
 rw[<- k];apply Qg b;first|refine We r (λa=>?_) (λa=>?_)|refine Wf r (λa=>?_) (λa=>?_)
 obtain⟨c,p⟩:∃c,c=l.getD i default:=⟨_,rfl⟩;have u:c.Lt:=t c (by rw[p,QW,QJ a];exact Xn a);have y:(l.take (i+1)).foldl (Xv g) 0=Xv g S c:=by
  rw[zS,QJ a,Bi,zQ,k,p,QW,QJ a];rfl
 simp only[go_sem,Qj,a,<- p];apply QV b OF (sO c.a c.d c.b);apply J5 b;by_cases m:c.of=0;have o:Kf c.a c.d c.b=0:=m;have n:Xv g S c=S:=by rw[Xv,Qd m]
 simp only[go_sem,WA o,bne];refine⟨a,_,Qo.frame (fr':=[(1,j),(4,.ptr F.length 0 0 0),(5,.ptr (F.length+1) 0 0 0),(8,KV l),(9,Qa l.length),(10,Qa (i+1:Nat))]) (by simp only[go_sem,z]),⟨_,by rw[y,n]⟩⟩;have o:Kf c.a c.d c.b≠0:=m;have n:Xv g S c=S+g c:=by rw[Xv,Qc m]
 have N:=C c u;simp only[go_sem,Vw o,bne];have B:=TD S (g c) ω ω;rw[qW (by omega:S+g c<2^128)]at B;apply Qv b [0,1,2,1003,1004,5,6,7,1008];simp only[go_sem,Qj,Mb];refine Oz b I M ?_ (H _ c u (by rw[<- K];exact⟨_,rfl⟩)) rfl λd2 J=>?_;simp only[go_sem];exact Dt _;subst J;apply Zp b;apply ZD b SR B;apply LC b;refine⟨a,_,Qo.frame (fr':=[(1,j),(4,.ptr F.length 0 0 0),(5,.ptr (F.length+1) 0 0 0),(8,KV l),(9,Qa l.length),(10,Qa (i+1:Nat))]) (by simp only[go_sem,z]),⟨G++[⟨.one,0,3,1,λ_=>c.cells⟩],?_⟩⟩;rw[y,n];rfl;subst a;rw[Wn]at k;have e:jS g l=S:=k.symm;rw[e];apply Qh b;simp only[go_sem,Qj,Mb];exact⟨_,rfl⟩
def QwJ(h)(c:Nc)(e:c.Lt):Zf prog 232 h [DE c] (λd=>d=num c.b):=by
 refine ZH func232 ntmps232 results232 λb w f F g i a=>?_;simp only[go_sem,Qj];apply QV a QfC (Qhh c.b e.2.2);apply J5 a;exact⟨_,rfl⟩
def QwK(l:List Nc)(e:l.length<1048576)(a:∀c∈l,c.Lt):QI prog 180 [KV l] (QN (num (jS (λc=>c.b) l))):=by
 refine QY 0 func180 ntmps180 results180 λd w b=>?_;simp only[go_sem];refine XI b QfB rfl ?_ (QhH _ l e a (.raw (.func (.func 232) ⟨[]⟩ ⟨[]⟩)) 232 0 [] QtN rfl (λc=>c.b) (λc h=>by have:=h.2.2;omega) (λg c a _=>QwJ g c a)) rfl λd2 f=>?_;simp only[go_sem];subst f;exact VE b
def QwL(h:List Ob)(e t)(g:t<18446744073709551616)(c:Nc)(a:(h.map Ob.ro)[e]?=some ⟨.Wb,0,1,1,λ_=>[u64 t]⟩):Zf prog 230 h [DE c,.ptr e 0 0 0] (λd=>d=num (KJ c.a c.d c.b t)):=by
 refine ZH func230 ntmps230 results230 λf w k F i l b=>?_;rw[<- i]at a;have j:=Qb a;simp only[go_sem,Qj,a,j];apply QV b QtM (Qww c.a c.d c.b t g);apply J5 b;exact⟨_,rfl⟩
def QwM(l:List Nc)(t)(a:t<18446744073709551616)(f:l.length<1048576)(b:∀c∈l,c.Lt):QI prog 179 [KV l,u64 t] (QN (num (jS (λc=>KJ c.a c.d c.b t) l))):=by
 have j:∀c:Nc,c.Lt->KJ c.a c.d c.b t<=2^97:=λc _=>by have:=sP c.a c.d c.b t a;omega
 refine QY 0 func179 ntmps179 results179 λe w d=>?_;simp only[go_sem];have h:QhG (([⟨.one,0,1,1,λ_=>[u64 t]⟩,Mb 0]:List Ob).map Ob.ro) 230 0 [.ptr 0 0 0 0] (λc=>KJ c.a c.d c.b t):=λk c b hx=>by
  obtain⟨g,rfl⟩:=hx;exact QwL _ 0 t a c rfl
 refine XI d QfB rfl ?_ (QhH _ l f b (.clo 230 0 [.ptr 0 0 0 0]) 230 0 [.ptr 0 0 0 0] QtL rfl (λc=>KJ c.a c.d c.b t) j h) rfl λd2 i=>?_;simp only[go_sem];subst i;exact VE d
end Go.Fg.X
