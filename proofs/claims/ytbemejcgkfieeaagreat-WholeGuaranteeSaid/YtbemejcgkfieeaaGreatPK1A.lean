/- Contracts and laws on the way to the statement. No conditions. -/
import Derived.Test.YtbemejcgkfieeaaGreatCA2A
set_option maxRecDepth 100000
set_option maxHeartbeats 16000000
set_option linter.unusedVariables false
set_option linter.unusedSimpArgs false
set_option linter.unusedSectionVars false
set_option linter.defProp false
namespace Go.Fg.X
open Go.Proofs Go.Fg
open Go.Proofs.Tryz
def sx(a i b j):QM prog 269 [.agg [u64 a,Qa i],.agg [u64 b,Qa j]] (QR (Qa (z8 a i b j))):=by
 refine Q1 0 func269 ntmps269 results269 λc w d=>?_;simp only[go_sem]
 repeat' (first|((first|apply zg|apply zj|apply zk|apply VX|apply zl|apply zn|apply zo|apply ze)<;>intro h<;>(try simp only[go_sem,Go.undef]))|(refine And.intro η ?_;try simp only[go_sem,Go.undef])|fail)
 all_goals (congr 2;(try simp only[ZM,GU,qZ,kh,ne_eq]at *);(try unfold z8 KA);(repeat' split)<;>omega)
def PE(x y:It):QM prog 256 [.agg x.cells,.agg y.cells] (QR (.agg (kF x y).cells)):=by
 have e:=sx y.va y.vi x.va x.vi;have c2:=sx y.ka y.ki x.ka x.ki;simp only[kF];generalize z8 y.va y.vi x.va x.vi=p at *;generalize z8 y.ka y.ki x.ka x.ki=q at *;refine Q1 0 func256 ntmps256 results256 λb w a=>?_;simp only[go_sem];apply QZ a rF e;apply Qg a
 repeat' (first|((first|apply zg|apply zj|apply zk|apply VX|apply zl|apply zn|apply zo|apply ze)<;>intro h<;>(try simp only[go_sem,Go.undef]))|(refine And.intro η ?_;try simp only[go_sem,Go.undef])|(refine Xn a [] rF rfl ?_ (c2) rfl ?_;(· simp only[go_sem]);intro d h c;obtain⟨rfl,rfl⟩:=c;(simp only[go_sem]);apply Qh a;simp only[go_sem])|fail)
 all_goals (try simp only[qZ,kh,ne_eq]at *);(first|rw[Qe ω]|rw[Qd ω])
section
variable {h:List Ob}{t:Tr}(i:jC h t)
include i
theorem vV:Zl prog 264 h [t.ptr] (λd=>d=Qa t.high):=by
 cases t with
 | nil=>refine ZN func264 ntmps264 results264 λa w e F c g f=>?_;simp only[go_sem];exact⟨[],by simp[Tr.high]⟩
 | node j m l r=>have b:=i.1;refine ZN func264 ntmps264 results264 λa w e F c g f=>?_;rw[<-c]at b;have k:=Qb b;simp only[go_sem,b];exact⟨[],σ⟩
theorem FW:Zl prog 265 h [t.ptr] (λd=>d=Qa t.size):=by
 cases t with
 | nil=>refine ZN func265 ntmps265 results265 λa w e F c g f=>?_;simp only[go_sem];exact⟨[],by simp[Tr.size]⟩
 | node j m l r=>have b:=i.1;refine ZN func265 ntmps265 results265 λa w e F c g f=>?_;rw[<-c]at b;have k:=Qb b;simp only[go_sem,b];exact⟨[],σ⟩
theorem PF(n):Zl prog 266 h [t.ptr,u64 n] (λd=>d=QV (t.hasB n)):=by
 cases t with
 | nil=>refine ZN func266 ntmps266 results266 λa w e F c g f=>?_;simp only[go_sem];exact⟨[],by simp[Tr.hasB]⟩
 | node j m l r=>have b:=i.1;refine ZN func266 ntmps266 results266 λa w e F c g f=>?_;rw[<-c]at b;have k:=Qb b;simp only[go_sem,b];exact⟨[],by simp[Tr.hasB]⟩
end
structure Raw (h:List Ob) (loc:Nat) (it:It) (l r:Tr) (le:It) (hi n:Int):Prop where
 o:h[loc]?=some (FT it l.ptr r.ptr le hi n)
 il:Vx h l
 ir:Vx h r
def Vx.set{h:List Ob}{t:Tr}(i:Vx h t){k}(o)(a:k ∉ t.QQ):Vx (h.set k o) t:=i.frame λl b=>Qo λe=>a (e▸b)
def DX{h loc it}{l r:Tr}{le hi n}(i:Raw h loc it l r le hi n)(L:l.size<1000000)(M:r.size<1000000)(p:loc ∉ l.QQ)(o:loc ∉ r.QQ):
  QO prog 246 h [.ptr loc 0 0 0] (λd I=>I=h.set loc (FT it l.ptr r.ptr (Tr.node loc it l r).least ((Tr.node loc it l r).high:Nat) ((Tr.node loc it l r).size:Nat))):=by
 have g:=i.o;have m:=i.il;have k:=i.ir;have K:=l.PB;have J:=r.PB;have u:max (l.high:Int) (r.high:Int)=((max l.high r.high:Nat):Int):=ω;have t:IntKind.i64.wrap (1+((max l.high r.high:Nat):Int))=((1+max l.high r.high:Nat):Int):=ZE;have s:IntKind.i64.wrap (1+(l.size:Int))=((1+l.size:Nat):Int):=ZE;have q:IntKind.i64.wrap (((1+l.size:Nat):Int)+(r.size:Int))=((1+l.size+r.size:Nat):Int):=ZE;rcases l with _|⟨a,b,c,d⟩<;>rcases r with _|⟨v,H,F,E⟩;simp only[Tr.TV]at g;refine Q9 func246 ntmps246 results246 λj w x e=>?_;have f:=Qb g;simp only[go_sem];apply Qy e o02;simp only[go_sem,g];apply KW e vM (vV m.toR);apply ZB e;apply KW e vM (vV k.toR);apply Jb e;simp only[go_sem,g,u,t];apply Qy e o03;simp only[go_sem,QI f];apply KW e FF (FW (m.set _ p).toR);apply Jb e;simp only[go_sem,s];apply KW e FF (FW (k.set _ o).toR);apply Jb e;simp only[go_sem,Qj,QI f,q];refine x6 2 ?_;apply Qg e;apply Qg e;apply Qg e;rfl;simp only[Tr.TV,Tr.MB]at g;have z:=k.1;have C:loc≠v:=by rintro rfl;exact o (by simp[Tr.QQ])
 refine Q9 func246 ntmps246 results246 λj w x e=>?_;have f:=Qb g;simp only[go_sem];apply Qy e o02;simp only[go_sem,g];apply KW e vM (vV m.toR);apply ZB e;apply KW e vM (vV k.toR);apply Jb e;simp only[go_sem,g,u,t];apply Qy e o03;simp only[go_sem,QI f];apply KW e FF (FW (m.set _ p).toR);apply Jb e;simp only[go_sem,s];apply KW e FF (FW (k.set _ o).toR);apply Jb e;simp only[go_sem,Qj,QI f,q];refine x6 2 ?_;apply Qg e;apply Qg e;apply Qy e o01;simp only[go_sem,QI f,z,Qo C];apply ZP e Po (PE it (Tr.node v H F E).least);apply Jb e;simp only[go_sem,Qj,QI f];apply Qg e;rfl;simp only[Tr.TV,Tr.MB]at g;have y:=m.1;have B:loc≠a:=by rintro rfl;exact p (by simp[Tr.QQ])
 refine Q9 func246 ntmps246 results246 λj w x e=>?_;have f:=Qb g;simp only[go_sem];apply Qy e o02;simp only[go_sem,g];apply KW e vM (vV m.toR);apply ZB e;apply KW e vM (vV k.toR);apply Jb e;simp only[go_sem,g,u,t];apply Qy e o03;simp only[go_sem,QI f];apply KW e FF (FW (m.set _ p).toR);apply Jb e;simp only[go_sem,s];apply KW e FF (FW (k.set _ o).toR);apply Jb e;simp only[go_sem,Qj,QI f,q];refine x6 2 ?_;apply Qg e;apply Qy e o01;simp only[go_sem,QI f,y,Qo B];apply ZP e Po (PE it (Tr.node a b c d).least);apply Jb e;simp only[go_sem,Qj,QI f];apply Qg e;apply Qg e;rfl;simp only[Tr.MB]at g;have y:=m.1;have B:loc≠a:=by rintro rfl;exact p (by simp[Tr.QQ])
 have z:=k.1;have C:loc≠v:=by rintro rfl;exact o (by simp[Tr.QQ])
 refine Q9 func246 ntmps246 results246 λj w x e=>?_;have f:=Qb g;simp only[go_sem];apply Qy e o02;simp only[go_sem,g];apply KW e vM (vV m.toR);apply ZB e;apply KW e vM (vV k.toR);apply Jb e;simp only[go_sem,g,u,t];apply Qy e o03;simp only[go_sem,QI f];apply KW e FF (FW (m.set _ p).toR);apply Jb e;simp only[go_sem,s];apply KW e FF (FW (k.set _ o).toR);apply Jb e;simp only[go_sem,Qj,QI f,q];refine x6 2 ?_;apply Qg e;apply Qy e o01;simp only[go_sem,QI f,y,Qo B];apply ZP e Po (PE it (Tr.node a b c d).least);apply Jb e;simp only[go_sem,Qj,QI f];apply Qg e;apply Qy e o01;simp only[go_sem,QI f,z,Qo C];apply ZP e Po (PE (kF it (Tr.node a b c d).least) (Tr.node v H F E).least);apply Jb e;simp only[go_sem,Qj,QI f];apply Qg e;rfl
def sy{h:List Ob}{lx ly y K}{a b c:Tr}{e O p N q M}(s:h[lx]?=some (FT y (.ptr ly 0 0 0) c.ptr e p N))(C:h[ly]?=some (FT K a.ptr b.ptr O q M))
  (L:Vx h a) (B:Vx h b) (z:Vx h c) (V:(lx::ly::(a.QQ++b.QQ++c.QQ)).Nodup) (W:a.size+b.size+c.size<900000) :
  QO prog 278 h [.ptr lx 0 0 0,Qa 0] (λd v=>d=.ptr ly 0 0 0/\Vx v (.node ly K a (.node lx y b c))/\v.length=h.length/\∀l,l≠lx->l≠ly->v[l]? = h[l]?):=by
 have P:=V;simp only[Z6,QK,Q3,q6]at P;obtain⟨⟨H,⟨m,g⟩,f⟩,⟨⟨o,k⟩,j⟩,_⟩:=P;have x:ly≠lx:=Zb H;rcases b with _|⟨T,S,R,Q⟩;simp only[Tr.TV]at s C;refine Q9 func278 ntmps278 results278 λJ w U i=>?_;have t:=Qb s;have I:=Qb C;simp only[go_sem,s];apply Qy i i5;simp only[go_sem,s,C,Qo H];refine z6 i DQ rfl ?_ (DX (loc:=lx) (l:=Tr.nil) (r:=c) (it:=y) (hi:=p) (n:=N) (le:=e) ⟨?_,?_,?_⟩ ?_ ?_ g f) rfl λd v u=>?_;simp only[go_sem];rw[Qo x,QI t];rfl;exact(B.set _ g).set _ k;exact(z.set _ f).set _ j;omega;omega;subst u;apply Qg i;refine z6 i DQ rfl ?_ (DX (loc:=ly) (l:=a) (r:=(.node lx y Tr.nil c)) (it:=K) (hi:=q) (n:=M) (le:=O) ⟨?_,?_,?_⟩ ?_ ?_ ?_ ?_) rfl λd v u=>?_;simp only[go_sem];rw[Qo H,QI (zC I)];rfl;exact((L.set _ m).set _ o).set _ m;exact⟨QI (zC t),((B.set _ g).set _ k).set _ g,((z.set _ f).set _ j).set _ f⟩;simp only[Tr.size]at *;omega;simp only[Tr.size]at *;omega;exact o;intro hm;rcases QK.1 hm with hm|hm;exact x hm;rcases Q3.1 hm with hm|hm;exact k hm;exact j hm;subst u;apply Kh i;exact⟨⟨QI (zC I),(((L.set _ m).set _ o).set _ m).set _ o,⟨by rw[Qo x,QI (zC t)];rfl,(((B.set _ g).set _ k).set _ g).set _ k,(((z.set _ f).set _ j).set _ f).set _ j⟩⟩,λl F E=>by rw[Qo (Zb E),Qo (Zb F),Qo (Zb E),Qo (Zb F)]⟩;simp only[Tr.MB]at s C;refine Q9 func278 ntmps278 results278 λJ w U i=>?_;have t:=Qb s;have I:=Qb C;simp only[go_sem,s];apply Qy i i5;simp only[go_sem,s,C,Qo H];refine z6 i DQ rfl ?_ (DX (loc:=lx) (l:=(Tr.node T S R Q)) (r:=c) (it:=y) (hi:=p) (n:=N) (le:=e) ⟨?_,?_,?_⟩ ?_ ?_ g f) rfl λd v u=>?_;simp only[go_sem];rw[Qo x,QI t];rfl;exact(B.set _ g).set _ k;exact(z.set _ f).set _ j;omega;omega;subst u;apply Qg i;refine z6 i DQ rfl ?_ (DX (loc:=ly) (l:=a) (r:=(.node lx y (Tr.node T S R Q) c)) (it:=K) (hi:=q) (n:=M) (le:=O) ⟨?_,?_,?_⟩ ?_ ?_ ?_ ?_) rfl λd v u=>?_;simp only[go_sem];rw[Qo H,QI (zC I)];rfl;exact((L.set _ m).set _ o).set _ m;exact⟨QI (zC t),((B.set _ g).set _ k).set _ g,((z.set _ f).set _ j).set _ f⟩;simp only[Tr.size]at *;omega;simp only[Tr.size]at *;omega;exact o;intro hm;rcases QK.1 hm with hm|hm;exact x hm;rcases Q3.1 hm with hm|hm;exact k hm;exact j hm;subst u;apply Kh i;exact⟨⟨QI (zC I),(((L.set _ m).set _ o).set _ m).set _ o,⟨by rw[Qo x,QI (zC t)];rfl,(((B.set _ g).set _ k).set _ g).set _ k,(((z.set _ f).set _ j).set _ f).set _ j⟩⟩,λl F E=>by rw[Qo (Zb E),Qo (Zb F),Qo (Zb E),Qo (Zb F)]⟩
def sA{h:List Ob}{lx ly y K}{a b c:Tr}{e O p N q M}(s:h[lx]?=some (FT y a.ptr (.ptr ly 0 0 0) e p N))(C:h[ly]?=some (FT K b.ptr c.ptr O q M))
  (B:Vx h a) (z:Vx h b) (L:Vx h c) (V:(lx::ly::(a.QQ++b.QQ++c.QQ)).Nodup) (W:a.size+b.size+c.size<900000) :
  QO prog 278 h [.ptr lx 0 0 0,Qa 1] (λd v=>d=.ptr ly 0 0 0/\Vx v (.node ly K (.node lx y a b) c)/\v.length=h.length/\∀l,l≠lx->l≠ly->v[l]? = h[l]?):=by
 have P:=V;simp only[Z6,QK,Q3,q6]at P;obtain⟨⟨H,⟨g,f⟩,m⟩,⟨⟨k,j⟩,o⟩,_⟩:=P;have x:ly≠lx:=Zb H;rcases b with _|⟨T,S,R,Q⟩;simp only[Tr.TV]at s C;refine Q9 func278 ntmps278 results278 λJ w U i=>?_;have t:=Qb s;have I:=Qb C;simp only[go_sem,s];apply Qy i i5;simp only[go_sem,s,C,Qo H];refine z6 i DQ rfl ?_ (DX (loc:=lx) (l:=a) (r:=Tr.nil) (it:=y) (hi:=p) (n:=N) (le:=e) ⟨?_,?_,?_⟩ ?_ ?_ g f) rfl λd v u=>?_;simp only[go_sem];rw[Qo x,QI t];rfl;exact(B.set _ g).set _ k;exact(z.set _ f).set _ j;omega;omega;subst u;apply Qg i;refine z6 i DQ rfl ?_ (DX (loc:=ly) (l:=(.node lx y a Tr.nil)) (r:=c) (it:=K) (hi:=q) (n:=M) (le:=O) ⟨?_,?_,?_⟩ ?_ ?_ ?_ ?_) rfl λd v u=>?_;simp only[go_sem];rw[Qo H,QI (zC I)];rfl;exact⟨QI (zC t),((B.set _ g).set _ k).set _ g,((z.set _ f).set _ j).set _ f⟩;exact((L.set _ m).set _ o).set _ m;simp only[Tr.size]at *;omega;simp only[Tr.size]at *;omega;intro hm;rcases QK.1 hm with hm|hm;exact x hm;rcases Q3.1 hm with hm|hm;exact k hm;exact j hm;exact o;subst u;apply Kh i;exact⟨⟨QI (zC I),⟨by rw[Qo x,QI (zC t)];rfl,(((B.set _ g).set _ k).set _ g).set _ k,(((z.set _ f).set _ j).set _ f).set _ j⟩,(((L.set _ m).set _ o).set _ m).set _ o⟩,λl F E=>by rw[Qo (Zb E),Qo (Zb F),Qo (Zb E),Qo (Zb F)]⟩;simp only[Tr.MB]at s C;refine Q9 func278 ntmps278 results278 λJ w U i=>?_;have t:=Qb s;have I:=Qb C;simp only[go_sem,s];apply Qy i i5;simp only[go_sem,s,C,Qo H];refine z6 i DQ rfl ?_ (DX (loc:=lx) (l:=a) (r:=(Tr.node T S R Q)) (it:=y) (hi:=p) (n:=N) (le:=e) ⟨?_,?_,?_⟩ ?_ ?_ g f) rfl λd v u=>?_;simp only[go_sem];rw[Qo x,QI t];rfl;exact(B.set _ g).set _ k;exact(z.set _ f).set _ j;omega;omega;subst u;apply Qg i;refine z6 i DQ rfl ?_ (DX (loc:=ly) (l:=(.node lx y a (Tr.node T S R Q))) (r:=c) (it:=K) (hi:=q) (n:=M) (le:=O) ⟨?_,?_,?_⟩ ?_ ?_ ?_ ?_) rfl λd v u=>?_;simp only[go_sem];rw[Qo H,QI (zC I)];rfl;exact⟨QI (zC t),((B.set _ g).set _ k).set _ g,((z.set _ f).set _ j).set _ f⟩;exact((L.set _ m).set _ o).set _ m;simp only[Tr.size]at *;omega;simp only[Tr.size]at *;omega;intro hm;rcases QK.1 hm with hm|hm;exact x hm;rcases Q3.1 hm with hm|hm;exact k hm;exact j hm;exact o;subst u;apply Kh i;exact⟨⟨QI (zC I),⟨by rw[Qo x,QI (zC t)];rfl,(((B.set _ g).set _ k).set _ g).set _ k,(((z.set _ f).set _ j).set _ f).set _ j⟩,(((L.set _ m).set _ o).set _ m).set _ o⟩,λl F E=>by rw[Qo (Zb E),Qo (Zb F),Qo (Zb E),Qo (Zb F)]⟩
def sB{h loc it}{l r:Tr}{le hi n}(i:Raw h loc it l r le hi n)(g:(loc::(l.QQ++r.QQ)).Nodup)(Y:l.size+r.size<800000):
  QO prog 263 h [.ptr loc 0 0 0] (λd h'=>∃W,d=W.ptr/\kG h (.node loc it l r) (l.list++it::r.list) h' W):=by
 have V:=g;simp only[Z6,Q3,q6]at V;obtain⟨⟨M,L⟩,a1⟩:=V;have hl:=l.PB;have hr:=r.PB;have el:IntKind.i64.wrap ((l.high:Int)+1)=((l.high+1:Nat):Int):=ZE;have er:IntKind.i64.wrap ((r.high:Int)+1)=((r.high+1:Nat):Int):=ZE;have h1:=i.o;refine Q9 func263 ntmps263 results263 λa0 w pl f=>?_;have KO:=Qb h1;simp only[go_sem];refine ZT f DQ (DX (loc:=loc) i ω ω M L) λd J m=>?_;have Z:J.length=h.length:=by rw[m];simp
 have t2:Vx J (.node loc it l r):=by rw[m];exact⟨QI KO,i.il.set _ M,i.ir.set _ L⟩
 have k2:∀k,k≠loc->J[k]? = h[k]? := λk j=>by rw[m,Qo (Zb j)]
 clear m;have B:kG h (.node loc it l r) (Tr.node loc it l r).list J (.node loc it l r):=⟨t2,rfl,g,λ_ h=>.inl h,λk _ hn=>k2 k λe=>hn (by rw[e];simp[Tr.QQ]),ω⟩;have s:=t2.1;have KP:=Qb s;apply Qh f;simp only[go_sem,s];refine x6 2 ?_;apply Qg f;apply Qy f [0,2,3,4,5,6,7,8,1001,1009,10,11];simp only[go_sem,s];apply KW f vM (vV t2.2.1.toR);apply ZB f;apply KW f vM (vV t2.2.2.toR);apply Jb f;simp only[go_sem,er];by_cases R:l.high<=r.high+1;have d0:=QY R;simp only[go_sem,d0];apply Qg f;apply Qy f [0,2,3,4,5,6,7,8,1001,1009,10,11];simp only[go_sem,s];apply KW f vM (vV t2.2.2.toR);apply ZB f;apply KW f vM (vV t2.2.1.toR);apply Jb f;simp only[go_sem,el];by_cases Q:r.high<=l.high+1;have d1:=QY Q;simp only[go_sem,d1];apply Qg f;apply Qg f;exact⟨.node loc it l r,rfl,B⟩;have d1:=QN Q;simp only[go_sem,d1];cases r with
 | nil=>exact absurd (Z7 _) Q
 | node o x b a=>
  have I:=Y;simp only[Tr.size]at I;have q:=t2.2.2.1;have sC:=Qb q;have S:loc≠o:=by rintro rfl;simp[Tr.QQ,Z6,Ka,QK,Q3]at g
  apply Qy f [0,1,2,3,4,5,6,8,9,10,11,12,13,1007,1014,15];simp only[go_sem,q];apply KW f vM (vV t2.2.2.2.1.toR);apply ZB f;apply KW f vM (vV t2.2.2.2.2.toR);apply ZB f;by_cases c2:a.high<b.high;have d2:=QY c2;simp only[go_sem,d2];cases b with
  | nil=>exact absurd c2 (Yy _)
  | node p O z y=>
   simp only[Tr.MB]at q;simp only[Tr.size]at I;have F:=t2.2.2.2.1.1;have U:=Qb F;have H:loc≠p:=by rintro rfl;simp[Tr.QQ,Z6,Ka,QK,Q3]at g
   have Bh:o≠p:=by rintro rfl;simp[Tr.QQ,Z6,Ka,QK,Q3]at g
   apply VI [5] f [0,1,2,3,4,6,7,1005,8,1009] [];simp only[go_sem];refine vO f Pp (sy (lx:=o) (ly:=p) (a:=z) (b:=y) (c:=a) q F t2.2.2.2.1.2.1 t2.2.2.2.1.2.2 t2.2.2.2.2 (by simp only[Tr.QQ,Z6,Ka,QK,Q3]at g ⊢;grind) ω) λd E m=>?_;obtain⟨rfl,t4,N,v⟩:=m;have C:E[loc]? = _:=(v loc S H).trans s;have T:=Qb C;apply Jb f;simp only[go_sem,C];have K:Vx E l:=t2.2.1.frame λk j=>v k (by rintro rfl;simp only[Tr.QQ,Z6,Ka,QK,Q3]at g;grind) (by rintro rfl;simp only[Tr.QQ,Z6,Ka,QK,Q3]at g;grind);apply Qg f;refine ZT f Pp (sA (lx:=loc) (ly:=p) (a:=l) (b:=z) (c:=.node o x y a) (QI T) ((Qo H).trans t4.1) (K.set _ M) (t4.2.1.set _ (by simp only[Tr.QQ,Z6,Ka,QK,Q3]at g ⊢;grind)) (t4.2.2.set _ (by simp only[Tr.QQ,Z6,Ka,QK,Q3]at g ⊢;grind)) (by simp only[Tr.QQ,Z6,Ka,QK,Q3]at g ⊢;grind) (by simp only[Tr.size];omega)) λd P m=>?_;obtain⟨rfl,t8,t,u⟩:=m;apply Qg f;refine⟨(.node p O (.node loc it l z) (.node o x y a)),rfl,B.trans ⟨t8,by simp[Tr.list],by simp only[Tr.QQ,Z6,Ka,QK,Q3]at g ⊢;grind,λk j=>.inl (by simp only[Tr.QQ,QK,Q3]at j ⊢;grind),λk _ j=>?_,by rw[t,Ky,N];exact Qv _⟩⟩;simp only[Tr.QQ,QK,Q3,q6]at j;rw[u k (by grind) (by grind),Qo (by grind),v k (by grind) (by grind)]
  have d2:=QN c2;simp only[go_sem,d2];apply Qg f;refine ZT f Pp (sA (lx:=loc) (ly:=o) (a:=l) (b:=b) (c:=a) s q t2.2.1 t2.2.2.2.1 t2.2.2.2.2 (by simp only[Tr.QQ,Z6,Ka,QK,Q3]at g ⊢;grind) ω) λd P m=>?_;obtain⟨rfl,t8,t,u⟩:=m;apply Qg f;refine⟨(.node o x (.node loc it l b) a),rfl,B.trans ⟨t8,by simp[Tr.list],by simp only[Tr.QQ,Z6,Ka,QK,Q3]at g ⊢;grind,λk j=>.inl (by simp only[Tr.QQ,QK,Q3]at j ⊢;grind),λk _ j=>?_,by rw[t];exact Qv _⟩⟩;simp only[Tr.QQ,QK,Q3,q6]at j;exact u k (by grind) (by grind)
 have d0:=QN R;simp only[go_sem,d0];cases l with
 | nil=>exact absurd (Z7 _) R
 | node o x a b=>
  have I:=Y;simp only[Tr.size]at I;have q:=t2.2.1.1;have sC:=Qb q;have S:loc≠o:=by rintro rfl;simp[Tr.QQ,Z6,Ka,QK,Q3]at g
  apply Qy f [0,1,2,3,4,5,6,8,9,10,11,12,13,1007,1014,15];simp only[go_sem,q];apply KW f vM (vV t2.2.1.2.2.toR);apply ZB f;apply KW f vM (vV t2.2.1.2.1.toR);apply ZB f;by_cases c2:a.high<b.high;have d2:=QY c2;simp only[go_sem,d2];cases b with
  | nil=>exact absurd c2 (Yy _)
  | node p O z y=>
   simp only[Tr.MB]at q;simp only[Tr.size]at I;have F:=t2.2.1.2.2.1;have U:=Qb F;have H:loc≠p:=by rintro rfl;simp[Tr.QQ,Z6,Ka,QK,Q3]at g
   have Bh:o≠p:=by rintro rfl;simp[Tr.QQ,Z6,Ka,QK,Q3]at g
   apply VI [5] f [0,1,2,3,4,6,7,1005,8,1009] [];simp only[go_sem];refine vO f Pp (sA (lx:=o) (ly:=p) (a:=a) (b:=z) (c:=y) q F t2.2.1.2.1 t2.2.1.2.2.2.1 t2.2.1.2.2.2.2 (by simp only[Tr.QQ,Z6,Ka,QK,Q3]at g ⊢;grind) ω) λd E m=>?_;obtain⟨rfl,t4,N,v⟩:=m;have C:E[loc]? = _:=(v loc S H).trans s;have T:=Qb C;apply Jb f;simp only[go_sem,C];have K:Vx E r:=t2.2.2.frame λk j=>v k (by rintro rfl;simp only[Tr.QQ,Z6,Ka,QK,Q3]at g;grind) (by rintro rfl;simp only[Tr.QQ,Z6,Ka,QK,Q3]at g;grind);apply Qg f;refine ZT f Pp (sy (lx:=loc) (ly:=p) (a:=.node o x a z) (b:=y) (c:=r) (QI T) ((Qo H).trans t4.1) (t4.2.1.set _ (by simp only[Tr.QQ,Z6,Ka,QK,Q3]at g ⊢;grind)) (t4.2.2.set _ (by simp only[Tr.QQ,Z6,Ka,QK,Q3]at g ⊢;grind)) (K.set _ L) (by simp only[Tr.QQ,Z6,Ka,QK,Q3]at g ⊢;grind) (by simp only[Tr.size];omega)) λd P m=>?_;obtain⟨rfl,t8,t,u⟩:=m;apply Qg f;refine⟨(.node p O (.node o x a z) (.node loc it y r)),rfl,B.trans ⟨t8,by simp[Tr.list],by simp only[Tr.QQ,Z6,Ka,QK,Q3]at g ⊢;grind,λk j=>.inl (by simp only[Tr.QQ,QK,Q3]at j ⊢;grind),λk _ j=>?_,by rw[t,Ky,N];exact Qv _⟩⟩;simp only[Tr.QQ,QK,Q3,q6]at j;rw[u k (by grind) (by grind),Qo (by grind),v k (by grind) (by grind)]
  have d2:=QN c2;simp only[go_sem,d2];apply Qg f;refine ZT f Pp (sy (lx:=loc) (ly:=o) (a:=a) (b:=b) (c:=r) s q t2.2.1.2.1 t2.2.1.2.2 t2.2.2 (by simp only[Tr.QQ,Z6,Ka,QK,Q3]at g ⊢;grind) ω) λd P m=>?_;obtain⟨rfl,t8,t,u⟩:=m;apply Qg f;refine⟨(.node o x a (.node loc it b r)),rfl,B.trans ⟨t8,by simp[Tr.list],by simp only[Tr.QQ,Z6,Ka,QK,Q3]at g ⊢;grind,λk j=>.inl (by simp only[Tr.QQ,QK,Q3]at j ⊢;grind),λk _ j=>?_,by rw[t];exact Qv _⟩⟩;simp only[Tr.QQ,QK,Q3,q6]at j;exact u k (by grind) (by grind)
def T6(d):Ym d d=True:=by cases d<;>simp[Ym]
def sD:∀l:List D,KN l l
 | []=>trivial
 | d::r=>⟨(T6 d).mpr trivial,sD r⟩
def Qht{h c}{b:It}{l r}(i:jC h (.node c b l r))(a k):Zl prog 262 h [.ptr c 0 0 0,.agg [u64 a,Qa k]] (λd=>d=Qa (if KA b.ka b.ki a k then 1 else 0)):=by have g:=i.1;have q:=sx a k b.ka b.ki;have j:(0<z8 a k b.ka b.ki)↔KA b.ka b.ki a k:=Qwu;generalize z8 a k b.ka b.ki=p at *;refine ZN func262 ntmps262 results262 λm w s F o t f=>?_;rw[<-o]at g;have n:=Qb g;simp only[go_sem];apply Qy f [0,1,2,3,4,5,1006,7];simp only[go_sem,Qj,g,n];apply ZP f rF q;apply ZB f;by_cases e:0<p;have d1:=QY e;simp only[go_sem,d1];rw[Qe (j.1 e)];exact⟨_,rfl,rfl⟩;have d1:=QN e;simp only[go_sem,d1];rw[Qd (λh=>e (j.2 h))];exact⟨_,rfl,rfl⟩
structure sF (dv:D) (f nf:Nat) (Qx:List D) (B:List (Nat × Ob)) (a:Nat) (k:Int) (fL:Tr->List It) (N:Nat) (Nl:Prop):Prop where
 fok:Qm prog f
 cal:JP dv=some (f,nf,Qx)
 len:∀s,(fL s).length<=s.size+1
 run:∀(h:List Ob) (s:Tr),Vx h s->s.QQ.Nodup->s.size<=N->Vy s.list->(s=.nil->Nl)->(∀loc it l r,s=.node loc it l r->it.ka=a/\it.ki=k)->(∀p∈B,h[p.1]?=some p.2/\p.1 ∉ s.QQ) ->
  QO prog f h (Jh nf Qx [s.ptr]) (λd h'=>∃s',d=s'.ptr/\kG h s (fL s) h' s')
def sG{a k}{d:Tr->List It}(b:∀s,(d s).length<=s.size+1):∀t:Tr,(t.Cy a k d).length<=t.size+1
 | .nil=>b _
 | .node c e l r=>by have j:=sG (a:=a) (k:=k) b l;have i:=sG (a:=a) (k:=k) b r;have f:=b (.node c e l r);have h:=Tr.Ct l;have g:=Tr.Ct r;rw[Tr.Cy];split;exact f;split;simp only[Zn,Kx,Tr.size]at *;omega;simp only[Zn,Kx,Tr.size]at *;omega
def Vx.app{h t}(i:Vx h t)(g):Vx (h++g) t:=i.frame λl a=>QG (i.lt l a)
def kG.under{h g c t b L}(u:kG (h++g) t L c b):kG h t L c b:=
 ⟨u.is,u.list,u.nd,λl a=>by rcases u.mem l a with h1|h1;exact .inl h1;exact .inr (by simp only[Zn]at h1;omega),λl a d=>by rw[u.keep l (by simp only[Zn];omega) d,QG a],by have:=u.len;simp only[Zn]at this;omega⟩
def Ua{dv f nf Qx B a k fL N Nl}(O:sF dv f nf Qx B a k fL N Nl)(hN:N<700000):
  ∀(t:Tr) (h:List Ob),Vx h t->t.QQ.Nodup->t.size<=N->Vy t.list->(t.find a k=.nil->Nl)->(∀p∈B,h[p.1]?=some p.2/\p.1 ∉ t.QQ) ->
   QO prog 244 h [t.ptr,.agg [u64 a,Qa k],dv] (λd h'=>∃s,d=s.ptr/\kG h t (t.Cy a k fL) h' s)
 | .nil,h,i,j,H,U,S,q=>by have hd:=O.run;have hO:=O.fok;have hc:=O.cal;refine Q9 func244 ntmps244 results244 λR w pl g=>?_;simp only[go_sem];apply Qy g i6;simp only[go_sem];refine z6 g hO hc (sD _) (hd _ .nil trivial (by simp[Tr.QQ]) (Z7 _) U (λ_=>S rfl) (λ_ _ _ _ e=>by cases e) λp m=>⟨(QG (Qb (q p m).1)).trans (q p m).1,(q p m).2⟩) rfl λd h2 x=>?_;obtain⟨Y,rfl,u⟩:=x;apply Qg g;exact⟨Y,rfl,u.under⟩
 | .node c y l r,h,i,j,H,U,S,q=>by
  have hd:=O.run;have hO:=O.fok;have hc:=O.cal;have I:=i.1;have yf:=j;simp only[Tr.QQ,Z6,Q3,q6]at yf;obtain⟨⟨nl,nr⟩,a0⟩:=yf;have E:=sG (a:=a) (k:=k) O.len;obtain⟨sl,sr,_,_⟩:=FU.1 (show Vy (l.list++y::r.list) from U);refine Q9 func244 ntmps244 results244 λR w pl g=>?_;have Q:=Qb I;simp only[go_sem];apply Qy g i6;simp only[go_sem,Qj,I,Q];by_cases C:y.ka=a/\y.ki=k;have d1:((y.ka:Int)==(a:Int)&&y.ki==k)=true:=by simp[C.1,C.2]
  simp only[go_sem,d1,Tr.Cy,Qe C];refine z6 g hO hc (sD _) (hd _ (.node c y l r) (i.app _) j H U (λe=>by cases e) (λ_ _ _ _ e=>by cases e;exact C) λp m=>⟨(QG (Qb (q p m).1)).trans (q p m).1,(q p m).2⟩) rfl λd h2 x=>?_;obtain⟨Y,rfl,u⟩:=x;apply Qg g;exact⟨Y,rfl,u.under⟩;have d1:((y.ka:Int)==(a:Int)&&y.ki==k)=false:=by rw[jZ];intro hh;simp only[ZM,qZ]at hh;exact C ⟨ω,hh.2⟩
  simp only[go_sem,Qj,d1,Tr.Cy,Qd C];apply ZH g QgH (Qht (i.app _).toR a k);apply Qg g;by_cases T:KA y.ka y.ki a k;simp only[Qe T];apply VI [10] g [0,1,2,3,4,5,6,7,8,9,11,12,1010,13,1014] [];simp only[go_sem,Qj,I,Q];refine yP g TC rfl ?_ (Ua O hN r _ (i.2.2.app _) (by simp only[Tr.QQ,Z6,Ka,Q3]at j ⊢;grind) (by simp only[Tr.size]at H;omega) sr (λe=>S (by rw[Tr.find,Qd C,Qe T];exact e)) λp m=>⟨(QG (Qb (q p m).1)).trans (q p m).1,λz=>(q p m).2 (by simp only[Tr.QQ,QK,Q3];grind)⟩) rfl λd M x=>?_;simp only[go_sem,T6];obtain⟨s,rfl,u⟩:=x;have u:=u.under;have L:M[c]? = _:=(u.keep c Q (by simp only[Tr.QQ,Z6,Ka,Q3]at j ⊢;grind)).trans I;have FX:=Qb L;have K:=u.list;have JO:=Tr.Ct s;rw[K]at JO;have JY:=E r;have nt:c ∉ s.QQ:=λz=>by rcases u.mem c z with b|b;simp only[Tr.QQ,Z6,Ka,Q3]at j;grind;omega
  have no:∀k∈l.QQ,k ∉ s.QQ:=λk n z=>by have PG:=i.2.1.lt k n;rcases u.mem k z with b|b;simp only[Tr.QQ,Z6,Ka,Q3]at j;grind;omega
  have W:Vx M l:=i.2.1.frame λk n=>u.keep k (i.2.1.lt k n) (by simp only[Tr.QQ,Z6,Ka,Q3]at j ⊢;grind);apply Jb g;simp only[go_sem,L];apply Qg g;refine z6 g rD rfl ?_ (sB (loc:=c) (l:=l) (r:=s) ⟨QI FX,W.set _ nl,u.is.set _ nt⟩ (by have a1:=u.nd;simp only[Tr.QQ,Z6,Ka,Q3]at j ⊢;grind) (by simp only[Tr.size]at H;omega)) rfl λd h8 x=>?_
  simp only[go_sem];obtain⟨F,rfl,v⟩:=x;apply Qg g;have V:=v.list;refine⟨F,rfl,v.is,by rw[V,K],v.nd,λk n=>?_,λk n o=>?_,by have Z:=v.len;have q2:=u.len;simp only[Ky]at Z;omega⟩;rcases v.mem k n with b|b;have P:=u.mem k;simp only[Tr.QQ,QK,Q3]at b ⊢;grind;have:=u.len;simp only[Ky]at b;exact .inr ω;have P:=u.mem k;have a3:=u.len;rw[v.keep k (by simp only[Ky];omega) (λb=>by simp only[Tr.QQ,QK,Q3]at b o;rcases b with b|b|b;exact o (.inl b);exact o (.inr (.inl b));rcases P b with J|J;exact o (.inr (.inr J));omega),Qo (λb=>o (by rw[b];simp[Tr.QQ])),u.keep k n (λb=>o (by simp only[Tr.QQ,QK,Q3];grind))]
  simp only[Qd T];apply VI [10] g [0,1,2,3,4,5,6,7,8,9,11,12,1010,13,1014] [];simp only[go_sem,Qj,I,Q];refine yP g TC rfl ?_ (Ua O hN l _ (i.2.1.app _) (by simp only[Tr.QQ,Z6,Ka,Q3]at j ⊢;grind) (by simp only[Tr.size]at H;omega) sl (λe=>S (by rw[Tr.find,Qd C,Qd T];exact e)) λp m=>⟨(QG (Qb (q p m).1)).trans (q p m).1,λz=>(q p m).2 (by simp only[Tr.QQ,QK,Q3];grind)⟩) rfl λd M x=>?_;simp only[go_sem,T6];obtain⟨s,rfl,u⟩:=x;have u:=u.under;have L:M[c]? = _:=(u.keep c Q (by simp only[Tr.QQ,Z6,Ka,Q3]at j ⊢;grind)).trans I;have FX:=Qb L;have K:=u.list;have JO:=Tr.Ct s;rw[K]at JO;have JY:=E l;have nt:c ∉ s.QQ:=λz=>by rcases u.mem c z with b|b;simp only[Tr.QQ,Z6,Ka,Q3]at j;grind;omega
  have no:∀k∈r.QQ,k ∉ s.QQ:=λk n z=>by have PG:=i.2.2.lt k n;rcases u.mem k z with b|b;simp only[Tr.QQ,Z6,Ka,Q3]at j;grind;omega
  have W:Vx M r:=i.2.2.frame λk n=>u.keep k (i.2.2.lt k n) (by simp only[Tr.QQ,Z6,Ka,Q3]at j ⊢;grind);apply Jb g;simp only[go_sem,L];apply Qg g;refine z6 g rD rfl ?_ (sB (loc:=c) (l:=s) (r:=r) ⟨QI FX,u.is.set _ nt,W.set _ nr⟩ (by have a1:=u.nd;simp only[Tr.QQ,Z6,Ka,Q3]at j ⊢;grind) (by simp only[Tr.size]at H;omega)) rfl λd h8 x=>?_
  simp only[go_sem];obtain⟨F,rfl,v⟩:=x;apply Qg g;have V:=v.list;refine⟨F,rfl,v.is,by rw[V,K],v.nd,λk n=>?_,λk n o=>?_,by have Z:=v.len;have q2:=u.len;simp only[Ky]at Z;omega⟩;rcases v.mem k n with b|b;have P:=u.mem k;simp only[Tr.QQ,QK,Q3]at b ⊢;grind;have:=u.len;simp only[Ky]at b;exact .inr ω;have P:=u.mem k;have a3:=u.len;rw[v.keep k (by simp only[Ky];omega) (λb=>by simp only[Tr.QQ,QK,Q3]at b o;rcases b with b|b|b;exact o (.inl b);rcases P b with J|J;exact o (.inr (.inl J));omega;exact o (.inr (.inr b))),Qo (λb=>o (by rw[b];simp[Tr.QQ])),u.keep k n (λb=>o (by simp only[Tr.QQ,QK,Q3];grind))]
def yg(t:Tr):Ob:=⟨.one,0,1,1,λ_=>[t.ptr]⟩
attribute [go_sem] yg
def Qhw{h:List Ob}{u}{t:Tr}(o:(h.map Ob.ro)[u]?=some (yg t).ro)(i:jC h t)(a k):
  Zl prog 243 h [.ptr u 0 0 0,.agg [u64 a,Qa k]] (λd=>d=(t.find a k).ptr):=by
 refine ZN func243 ntmps243 results243 λx w E F p I c=>?_;rw[<-p]at o;have B:=Qb o;simp only[go_sem,Qj,o,B];refine ZY (λj y=>∃s:Tr,s.size+j<=t.size/\jC h s/\s.find a k=t.find a k/\y=⟨[(3,.ptr F.length 0 0 0),(5,s.ptr)],F++[⟨.one,0,2,1,λ_=>[u64 a,Qa k]⟩]⟩) t.size (s0:=⟨[(3,.ptr F.length 0 0 0),(5,t.ptr)],F++[⟨.one,0,2,1,λ_=>[u64 a,Qa k]⟩]⟩) ?_ ⟨t,ω,i,rfl,rfl⟩ ?_;exact QP;rintro j _ H ⟨s,z,g,b,rfl⟩;cases s with
 | nil=>apply Qg c;apply Qy c i6;simp only[go_sem,Go.undef];apply Qg c;exact⟨_,rfl,by rw[<-b];rfl⟩
 | node C e l r=>
  have m:=g.1;rw[<-p]at m;have q:=Qb m;apply Qg c;apply Qy c i6;simp only[go_sem,Qj,m,q];rw[Tr.find]at b;by_cases f:e.ka=a/\e.ki=k;have d1:((e.ka:Int)==(a:Int)&&e.ki==k)=true:=by simp[f.1,f.2]
  rw[Qe f]at b;simp only[go_sem,d1];apply Qh c;simp only[go_sem,q];exact⟨_,rfl,by rw[<-b];rfl⟩;have d1:((e.ka:Int)==(a:Int)&&e.ki==k)=false:=by rw[jZ];intro v;simp only[ZM,qZ]at v;exact f ⟨ω,v.2⟩
  rw[Qd f]at b;simp only[go_sem,d1];apply Qy c [0,1,2,4,5,1003,6,7,8];simp only[go_sem,Qj];apply KW c QgH (Qht (g.more (HQ p)) a k);apply Jb c;simp only[go_sem,Qj,m,q];have J:l.size+j+1<=t.size/\r.size+j+1<=t.size:=by simp only[Tr.size]at z;omega
  by_cases n:KA e.ka e.ki a k;rw[Qe n]at b;simp only[go_sem,Qe n];refine⟨ω,_,QP,r,ω,g.2.2,b,rfl⟩;rw[Qd n]at b;simp only[go_sem,Qd n];refine⟨ω,_,QP,l,ω,g.2.1,b,rfl⟩
def QwB{h:List Ob}{f e}{x:It}(i:h[f]?=some ⟨.one,0,2,1,λ_=>[u64 x.ka,Qa x.ki]⟩)(g:h[e]?=some ⟨.one,0,2,1,λ_=>[u64 x.va,Qa x.vi]⟩)(s):
  QO prog 245 h [s.ptr,.ptr f 0 0 0,.ptr e 0 0 0] (λd m=>∃c,d=c.ptr/\kG h s [x] m c):=by
 refine Q9 func245 ntmps245 results245 λk w q j=>?_;have p:=Qb i;have o:=Qb g;simp only[go_sem,i,g];refine ZT j DQ (DX (loc:=h.length) (it:=x) (l:=.nil) (r:=.nil) (le:=⟨0,0,0,0⟩) (hi:=0) (n:=0) ⟨Vq rfl,trivial,trivial⟩ (by simp[Tr.size]) (by simp[Tr.size]) (by simp[Tr.QQ]) (by simp[Tr.QQ])) λd t b=>?_;apply Qg j;refine⟨.node h.length x .nil .nil,rfl,⟨?_,trivial,trivial⟩,rfl,by simp[Tr.QQ],λl a=>.inr (by simp[Tr.QQ]at a;omega),λl a _=>?_,by rw[b];simp⟩;rw[b,QI σ];rw[b,Qo ω,QG a]
structure Bi (h:List Ob) (tl:Nat) (t:Tr) (L:List It):Prop where
 o:h[tl]?=some (yg t)
 is:Vx h t
 list:t.list=L
 nd:t.QQ.Nodup
 out:tl ∉ t.QQ
 sorted:Vy L
structure Ub (h:List Ob) (tl:Nat) (t:Tr) (L:List It) (h':List Ob) (t':Tr):Prop where
 is:Bi h' tl t' L
 mem:∀l∈t'.QQ,l∈t.QQ\/h.length<=l
 keep:∀l,l<h.length->l≠tl->l ∉ t.QQ->h'[l]? = h[l]?
 len:h.length<=h'.length
def Bi.app{h b t L}(a:Bi h b t L)(g):Bi (h++g) b t L:=⟨(QG (Qb a.o)).trans a.o,a.is.app g,a.list,a.nd,a.out,a.sorted⟩
def Bi.to{h g d:List Ob}{b t c L e}(a:Bi h b t L)(u:kG (h++g) t e d c)(i:Vy e):Ub h b t e (d.set b (yg c)) c:=by
 have v:=u.under;have k:=Qb a.o;have p:d[b]?=some (yg t):=(v.keep b k a.out).trans a.o;have f:b ∉ c.QQ:=λj=>by rcases v.mem b j with h3|h3;exact a.out h3;omega
 exact⟨⟨QI (Qb p),v.is.set _ f,v.list,v.nd,f,i⟩,v.mem,λl h3 n m=>by rw[Qo (Zb n)];exact v.keep l h3 m,by rw[Ky];exact v.len⟩
def Uc{h tl t}{L:List It}(A:Bi h tl t L)(x:It)(l:Y3 x.ka x.ki L=none)(M:L.length<600000):
  QO prog 201 h [.ptr tl 0 0 0,.agg [u64 x.ka,Qa x.ki],.agg [u64 x.va,Qa x.vi]] (λd r=>d=Qa 0/\∃k,Ub h tl t (YF x L) r k):=by
 have o:=A.o;have P:t.size=L.length:=by rw[<-Tr.Ct,A.list]
 have F:(t.find x.ka x.ki)=.nil:=by
  have e:=Tr.TX (a:=x.ka) (i:=x.ki) t (by rw[A.list];exact A.sorted);rw[A.list,l]at e;cases z:t.find x.ka x.ki with
  | nil=>rfl
  | node a b c d=>rw[z]at e;cases e
 have v:=λg=>Qhw (h:=h++g) (Jf (A.app g).o) (A.is.app g).toR x.ka x.ki;rw[F]at v;refine Q9 func201 ntmps201 results201 λbase w J f=>?_;have y:=Qb o;simp only[go_sem,Qj];apply ZH f Qgz (v _);apply Qg f;apply VI [7] f [0,1,2,3,4,5,6,1007,8,9,1010] [];simp only[go_sem,Qj,o,y];have O:sF (.clo 245 0 [.ptr h.length 0 0 0,.ptr (h.length+1) 0 0 0]) 245 0 [.ptr h.length 0 0 0,.ptr (h.length+1) 0 0 0] [(h.length,⟨.one,0,2,1,λ_=>[u64 x.ka,Qa x.ki]⟩),(h.length+1,⟨.one,0,2,1,λ_=>[u64 x.va,Qa x.vi]⟩)] x.ka x.ki (λ_=>[x]) 600000 True:=
  ⟨Qvc,rfl,λs=>σ,λr s K H R _ _ _ n=>by have E:=(n (h.length,_) (Jo ..)).1;have C:=(n (h.length+1,_) (Js _ (Jo ..))).1;exact QwB (x:=x) E C s⟩
 refine vO f TC (Ua O π t _ (A.is.app _) A.nd ω (by rw[A.list];exact A.sorted) (λ_=>trivial) ?_) λd Q B=>?_;intro p m;have j:∀q,h.length<=q->q ∉ t.QQ:=λq N j=>by have:=A.is.lt q j;omega
 simp only[QK,List.not_mem_nil,or_false]at m;rcases m with rfl|rfl;exact⟨Vq rfl,j _ (Qv _)⟩;exact⟨VS rfl,j _ (by show h.length<=h.length+1;omega)⟩;obtain⟨k,rfl,u⟩:=B;rw[sv rfl t (by rw[A.list];exact A.sorted) (by rw[A.list];exact l),A.list]at u;have e:=(u.under.keep tl y A.out).trans A.o;have I:=Qb e;apply Jb f;simp only[go_sem,e];exact⟨k,A.to u (su A.sorted l)⟩
def Tr.QwC:∀t:Tr,t≠.nil->∃d,t.list=t.FV::d:=λt h=>by
 have c:=Tr.sw t h;cases e:t.list with
 | nil=>rw[e]at c;cases c
 | cons a b=>rw[e]at c;simp only[List.head?_cons,Q7]at c;exact⟨b,by rw[c]⟩
def QwD{x:It}{L}:Y3 x.ka x.ki (x::L)=some x:=by unfold Y3;rw[vm,yd.2 ⟨rfl,rfl⟩]
def QwE{x:It}{L}(a:Vy (x::L)):XP x.ka x.ki (x::L)=L:=by have h:=Qhq x.ka x.ki [] L x a;rw[Qe ⟨rfl,rfl⟩]at h;exact h
def Qhx(N:Nat):Prop:=∀(h:List Ob) (s:Tr),Vx h s->s.QQ.Nodup->s.size<=N->Vy s.list->s≠.nil ->
 QO prog 261 h [s.ptr] (λd b=>∃a,d=a.ptr/\kG h s s.MC b a)
def Qhy{N}(W:Qhx N)(a k):sF (.raw (.func (.func 261) #[] #[])) 261 0 [] [] a k Tr.MC N False:=
 ⟨Qvg,rfl,λs=>by
  cases s with
  | nil=>simp[Tr.MC]
  | node g j l r=>simp only[Tr.MC,Zn,Tr.Ct,Tr.size];omega,λh s i b c f d _ _=>W h s i b c f λe=>d e⟩
def Qhz:∀N,N<600000->Qhx N
 | 0,_,_,.nil,_,_,_,_,g=>absurd rfl g
 | 0,_,_,.node _ _ _ _,_,_,E,_,_=>by simp only[Tr.size]at E;omega
 | _+1,_,_,.nil,_,_,_,_,g=>absurd rfl g
 | N+1,hN,h,.node b C l .nil,i,f,E,V9,_=>by have y:=i.1;refine Q9 func261 ntmps261 results261 λI w pl m=>?_;have L:=Qb y;simp only[go_sem,y];refine⟨l,rfl,?_⟩;have u:=kG.refl i.2.1 (t:=l) (by simp only[Tr.QQ,Z6,Ka]at f;exact f.2.1);simp only[Tr.MC,Tr.list,JN];exact⟨u.is,rfl,u.nd,λx hx=>.inl (by simp[Tr.QQ,hx]),λ_ _ _=>rfl,Qv _⟩
 | N+1,hN,h,.node b C l (.node lr ir rl rr),i,f,E,V9,_=>by
  have y:=i.1;refine Q9 func261 ntmps261 results261 λI w pl m=>?_;have L:=Qb y;simp only[go_sem,y];have yf:=f;simp only[Tr.QQ,Z6,Ka,QK,Q3,q6]at yf;generalize hr:Tr.node lr ir rl rr=r at *;have H:r≠.nil:=by rw[<-hr];simp
  have V:D.ptr lr 0 0 0=r.ptr:=by rw[<-hr];rfl
  rw[V];refine ZY (λj st=>∃s:Tr,s.size+j<=r.size/\s≠.nil/\Vx h s/\s.FV=r.FV/\(∀x∈s.QQ,x∈r.QQ)/\st=⟨[(0,.ptr b 0 0 0),(3,s.ptr)],h⟩) r.size (s0:=⟨[(0,.ptr b 0 0 0),(3,r.ptr)],h⟩) QP ⟨r,ω,H,i.2.2,rfl,λ_ hx=>hx,rfl⟩ ?_;rintro j _ hj ⟨s,WS,vC,is,hf,WT,rfl⟩;rcases s with _|⟨P,n,sl,sr⟩;exact absurd rfl vC;have F:=is.1;have KP:=Qb F;rcases sl with _|⟨a1,z,S,a4⟩;have ja:P∈r.QQ:=WT P (by simp[Tr.QQ]);have QE:b≠P:=by rintro rfl;simp only[Tr.QQ,Z6,Ka,Q3]at f;grind
  have Z:b ∉ l.QQ:=by simp only[Tr.QQ,Z6,Ka,Q3]at f;grind
  have O:b ∉ r.QQ:=by simp only[Tr.QQ,Z6,Ka,Q3]at f;grind
  have Ji:=Qo (h:=h) (o:=FT n l.ptr r.ptr (Tr.node b C l r).least ((Tr.node b C l r).high:Nat) ((Tr.node b C l r).size:Nat)) QE;obtain⟨s1,K,s3,s4⟩:=FU.1 (show Vy (l.list++C::r.list) from V9);obtain⟨a0,B⟩:=Tr.QwC r H;have MD:r.FV=n:=by rw[<-hf];rfl
  rw[MD]at B;have Ud:r.find n.ka n.ki=.nil->False:=λe=>by have h5:=Tr.TX (a:=n.ka) (i:=n.ki) r K;rw[e,B,QwD]at h5;cases h5
  have U:r.QQ.Nodup:=by simp only[Tr.QQ,Z6,Ka,Q3]at f;grind
  apply Qh m;simp only[go_sem,F];apply Qh m;simp only[go_sem,y,F];apply VI [11] m [0,1,2,3,4,5,6,7,8,9,10,12,13,1011,14,1015] [];simp only[go_sem,QI L,Qo QE,F];refine yP m TC rfl ?_ (Ua (Qhy (Qhz N ω) n.ka n.ki) ω r _ (i.2.2.set _ O) U (by simp only[Tr.size]at E;omega) K Ud (λp hp=>by cases hp)) rfl λd h6 R=>?_;simp only[go_sem,T6];obtain⟨J,rfl,u⟩:=R;rw[ig r K,B,QwE (by rw[<-B];exact K)]at u;have h7:=(u.keep b (zC L) O).trans (QI L);have FX:=Qb h7;have nt:b ∉ J.QQ:=λQ=>by rcases u.mem b Q with c|c;exact O c;simp only[Ky]at c;omega
  have no:∀k∈l.QQ,k ∉ J.QQ:=λk q Q=>by have PG:=i.2.1.lt k q;rcases u.mem k Q with c|c;simp only[Tr.QQ,Z6,Ka,Q3]at f;grind;simp only[Ky]at c;omega
  have to:Vx h6 l:=(i.2.1.set _ Z).frame λk q=>u.keep k (by simpa using i.2.1.lt k q) (by simp only[Tr.QQ,Z6,Ka,Q3]at f ⊢;grind);apply Jb m;simp only[go_sem,h7];apply Qg m;have Y:=u.list;have JO:=Tr.Ct J;rw[Y]at JO;have X3:=Tr.Ct r;rw[B,Kx]at X3;refine z6 m rD rfl ?_ (sB (loc:=b) (l:=l) (r:=J) (it:=n) ⟨QI FX,to.set _ Z,u.is.set _ nt⟩ (by have a1:=u.nd;simp only[Tr.QQ,Z6,Ka,Q3]at f ⊢;grind) (by simp only[Tr.size]at E;omega)) rfl λd h8 R=>?_
  simp only[go_sem];obtain⟨T,rfl,v⟩:=R;apply Qg m;have vl:=v.list;refine⟨T,rfl,v.is,by rw[vl,Y,Tr.MC,B],v.nd,λk q=>?_,λk q g=>?_,by have q1:=v.len;have M:=u.len;simp only[Ky]at q1 M;omega⟩;have M:=u.len;rcases v.mem k q with c|c;have z:=u.mem k;simp only[Tr.QQ,QK,Q3,Ky]at c z ⊢;grind;simp only[Ky]at c M;exact .inr ω;have z:=u.mem k;have S:=u.len;simp only[Ky]at z S;rw[v.keep k (by simp only[Ky];omega) (λc=>by simp only[Tr.QQ,QK,Q3]at c g;rcases c with c|c|c;exact g (.inl c);exact g (.inr (.inl c));rcases z c with W|W;exact g (.inr (.inr W));omega),Qo (λc=>g (by rw[c];simp[Tr.QQ])),u.keep k (zC q) (λc=>g (by simp only[Tr.QQ,QK,Q3];grind)),Qo (λc=>g (by rw[c];simp[Tr.QQ]))]
  apply Qh m;simp only[go_sem,F];refine⟨by simp only[Tr.size]at WS;omega,_,QP,.node a1 z S a4,by simp only[Tr.size]at WS ⊢;omega,σ,is.2.1,by rw[<-hf];rfl,λx hx=>WT x (by rw[Tr.QQ];simp[hx]),rfl⟩
@[go_sem] def sH(o:Option It):D:=.tup [.agg (o.getD default).cells,QV o.isSome]
def sI{h tl t}{L:List It}(A:Bi h tl t L)(a k)(r:Y3 a k L≠none)(z:L.length<500000):
  QO prog 242 h [.ptr tl 0 0 0,.agg [u64 a,Qa k]] (λd v=>d=Qa 0/\∃f,Ub h tl t (XP a k L) v f):=by
 have l:=A.o;have B:t.size=L.length:=by rw[<-Tr.Ct,A.list]
 have b:=Tr.TX (a:=a) (i:=k) t (by rw[A.list];exact A.sorted);rw[A.list]at b;have m:=λg=>Qhw (h:=h++g) (Jf (A.app g).o) (A.is.app g).toR a k;cases j:t.find a k with
 | nil=>rw[j]at b;exact absurd b.symm r
 | node I H F E=>rw[j]at m;refine Q9 func242 ntmps242 results242 λo w y c=>?_;have n:=Qb l;simp only[go_sem,Qj];apply ZH c Qgz (m _);apply Qg c;apply VI [6] c [0,1,2,3,4,5,1006,7,8,1009] [];simp only[go_sem,Qj,l,n];refine yP c TC rfl ?_ (Ua (Qhy (Qhz 500000 π) a k) π t _ (A.is.app _) A.nd ω (by rw[A.list];exact A.sorted) (λe=>by rw[j]at e;cases e) (λp q=>by cases q)) rfl λd C s=>?_;simp only[go_sem,T6];obtain⟨f,rfl,u⟩:=s;rw[ig t (by rw[A.list];exact A.sorted),A.list]at u;have b:=(u.under.keep tl n A.out).trans A.o;have x:=Qb b;apply Jb c;simp only[go_sem,b];exact⟨f,A.to u (Qwy A.sorted)⟩
section
variable {h:List Ob}{tl:Nat}{t:Tr}(ht:(h.map Ob.ro)[tl]?=some (yg t).ro)(i:jC h t)
include ht i
theorem QhB:Zl prog 247 h [.ptr tl 0 0 0] (λd=>d=Qa t.size):=by refine ZN func247 ntmps247 results247 λc w f F b j a=>?_;rw[<-b]at ht;have k:=Qb ht;simp only[go_sem,ht];apply ZH a FF (FW (i.more λl o e=>by have:=HQ (g:=[]) b l o e;rwa [JN]at this));apply Qg a;exact⟨[],σ⟩
theorem QhC:Zl prog 202 h [.ptr tl 0 0 0] (λd=>d=sH t.list.head?):=by
 have p:∀{F:List Ob},F=h.map Ob.ro->∀g,jC (F++g) t:=λe g=>i.more (HQ e);have v:∀{F:List Ob},F=h.map Ob.ro->∀g,((F++g).map Ob.ro)[tl]?=some (yg t).ro:=λe g=>HQ e _ _ ht;by_cases m:t=.nil;subst m;refine ZN func202 ntmps202 results202 λl w B F e J f=>?_;rw[<-e]at ht;have u:=Qb ht;simp only[go_sem];apply ZH f QgA (QhB (v e _) (p e _));apply Qh f;simp only[go_sem,Qj,Tr.size];exact⟨_,rfl,rfl⟩;rw[Tr.sw t m];have K:t.size≠0:=by cases t with
  | nil=>exact absurd rfl m
  | node a b c d=>simp only[Tr.size];omega
 have d0:((t.size:Int)==0)=false:=by simpa using K
 refine ZN func202 ntmps202 results202 λl w B F e J f=>?_;rw[<-e]at ht;have u:=Qb ht;simp only[go_sem];apply ZH f QgA (QhB (v e _) (p e _));apply Qh f;simp only[go_sem,Qj,ht,u,d0];refine ZY (λj y=>∃s:Tr,s.size+j<=t.size/\s≠.nil/\jC h s/\s.FV=t.FV/\y=⟨[(2,.ptr F.length 0 0 0),(4,s.ptr)],F++[⟨.one,0,4,1,λ_=>[u64 0,Qa 0,u64 0,Qa 0]⟩]⟩) t.size (s0:=⟨[(2,.ptr F.length 0 0 0),(4,t.ptr)],F++[⟨.one,0,4,1,λ_=>[u64 0,Qa 0,u64 0,Qa 0]⟩]⟩) QP ⟨t,ω,m,i,rfl,rfl⟩ ?_;rintro j _ O ⟨s,r,x,o,q,rfl⟩;rcases s with _|⟨M,N,z,L⟩;exact absurd rfl x;have k:=o.1;rw[<-e]at k;have n:=Qb k;rcases z with _|⟨I,H,E,C⟩;apply Qh f;simp only[go_sem,Qj,k,n];apply Qh f;simp only[go_sem,Qj,k,n];rw[<-q];exact⟨_,rfl,rfl⟩;apply Qh f;simp only[go_sem,Qj,k,n];refine⟨by simp only[Tr.size]at r;omega,_,QP,.node I H E C,by simp only[Tr.size]at r ⊢;omega,σ,o.2.1,by rw[<-q];rfl,rfl⟩
omit ht i in
theorem QwH{n b}{c:It}{l r:Tr}(h:(Tr.node b c l r).hasB n=true)(d:l.hasB n=false)(e:¬ c.va<=n):r.hasB n=true:=by rw[Tr.TY]at h ⊢;obtain⟨x,hx,a⟩:=h;simp only[Tr.list,Q3,QK]at hx;rcases hx with hx|rfl|hx;have:=(Tr.TY n l).2 ⟨x,hx,a⟩;rw[d]at this;cases this;exact absurd a e;exact⟨x,hx,a⟩
theorem QwI(n):Zl prog 250 h [.ptr tl 0 0 0,u64 n] (λd=>d=sH (t.list.find? λx=>decide (x.va<=n))):=by
 have y:∀{F:List Ob},F=h.map Ob.ro->∀g,jC (F++g) t:=λa g=>i.more (HQ a);rw[<-Tr.ij];cases l:t.hasB n with
 | false=>
  have L:t.first n=none:=by rw[Tr.ij,j7];intro x hx e;have:=(Tr.TY n t).2 ⟨x,hx,by simpa using e⟩;rw[l]at this;cases this
  rw[L];refine ZN func250 ntmps250 results250 λo w H F a K c=>?_;rw[<-a]at ht;have r:=Qb ht;simp only[go_sem,Qj,ht,r];apply ZH c rE (PF (y a _) n);apply Qh c;simp only[go_sem,Qj,l];exact⟨_,rfl,rfl⟩
 | true=>
  refine ZN func250 ntmps250 results250 λo w H F a K c=>?_;rw[<-a]at ht;have r:=Qb ht;simp only[go_sem,Qj,ht,r];apply ZH c rE (PF (y a _) n);apply Qh c;simp only[go_sem,Qj,ht,r,l];have J:t≠.nil:=by rintro rfl;simp[Tr.hasB]at l
  refine ZY (λj C=>∃s:Tr,s.size+j<=t.size/\s≠.nil/\jC h s/\s.hasB n=true/\s.first n=t.first n/\C=⟨[(1,u64 n),(4,.ptr F.length 0 0 0),(6,s.ptr)],F++[⟨.one,0,4,1,λ_=>[u64 0,Qa 0,u64 0,Qa 0]⟩]⟩) t.size (s0:=⟨[(1,u64 n),(4,.ptr F.length 0 0 0),(6,t.ptr)],F++[⟨.one,0,4,1,λ_=>[u64 0,Qa 0,u64 0,Qa 0]⟩]⟩) QP ⟨t,ω,J,i,l,rfl,rfl⟩ ?_;rintro j _ N ⟨s,q,B,p,u,b,rfl⟩;rcases s with _|⟨M,I,v,E⟩;exact absurd rfl B;have f:=p.1;rw[<-a]at f;have m:=Qb f;rw[Tr.first]at b;apply Qh c;simp only[go_sem,Qj,f,m];apply ZH c rE (PF (p.2.1.more (HQ a)) n);apply Qg c;cases k:v.hasB n with
  | true=>rw[k,Qe rfl]at b;simp only[go_sem,Qj,f,m];refine⟨by simp only[Tr.size]at q;omega,_,QP,v,by simp only[Tr.size]at q;omega,by rintro rfl;simp[Tr.hasB]at k,p.2.1,k,b,rfl⟩
  | false=>rw[k,Qd π]at b;simp only[go_sem,Qj,f,m];by_cases e:I.va<=n;have d1:=QY e;rw[Qe e]at b;simp only[go_sem,Qj,d1,f,m];rw[<-b];exact⟨_,rfl,rfl⟩;have d1:=QN e;rw[Qd e]at b;simp only[go_sem,Qj,d1,f,m];have z:=QwH u k e;refine⟨by simp only[Tr.size]at q;omega,_,QP,E,by simp only[Tr.size]at q;omega,by rintro rfl;simp[Tr.hasB]at z,p.2.2,z,b,rfl⟩
end
@[go_sem] def sJ(o:Option It):Ob:=⟨.one,0,4,1,λ_=>(o.getD default).cells⟩
@[go_sem] def sK(o:Option It):Ob:=⟨.one,0,1,1,λ_=>[QV o.isSome]⟩
def QwK(x):kF x x=x:=by rw[Qhk,Qd (TW x)]
def QhD{h:List Ob}{lm lo o}(f:h[lm]?=some (sK o))(b:h[lo]?=some (sJ o))(d:lm≠lo)(x):
  QO prog 255 h [.agg x.cells,.ptr lm 0 0 0,.ptr lo 0 0 0] (λ_ m=>∃g,m=(h.set lm (sK (wZ o x))).set lo (sJ (wZ o x))++g):=by
 have k:=Zb d;cases o with
 | none=>have i:=PE x x;rw[QwK]at i;refine Q9 func255 ntmps255 results255 λe w l c=>?_;have j:=Qb f;have a:=Qb b;simp only[go_sem,Qj,f,j,b,a,Qo d,Qo k,E7,BL,Va,Option.getD_none,wZ,QI a];apply QZ c Po i;apply Qh c;simp only[go_sem,Qj,a,Qo d,QI a];rw[List.set_comm _ _ k,J4];exact⟨_,rfl⟩
 | some y=>have i:=PE y x;refine Q9 func255 ntmps255 results255 λe w l c=>?_;have j:=Qb f;have a:=Qb b;simp only[go_sem,Qj,f,j,b,a,Qo d,BL,Va,wZ];apply QZ c Po i;apply Qh c;simp only[go_sem,Qj,b,a,Qo d,Va];exact⟨_,rfl⟩
def Tr.QwL(n f)(e:It)(l r:Tr)(o):(Tr.node f e l r).jD n o=if n<e.ka then l.jD n o else r.jD n (match l with
  | .nil=>wZ o e
  | .node a b c d=>wZ (wZ o e) (Tr.node a b c d).least):=by cases l<;>rfl
def Bj(F g:List Ob)(n:Nat)(s:Tr)(o:Option It):St:=
 ⟨[(1,u64 n),(4,.ptr F.length 0 0 0),(6,.ptr (F.length+1) 0 0 0),(7,.ptr (F.length+2) 0 0 0),(8,.clo 255 0 [.ptr (F.length+2) 0 0 0,.ptr (F.length+1) 0 0 0]),(9,s.ptr)],
  F++(⟨.one,0,4,1,λ_=>[u64 0,Qa 0,u64 0,Qa 0]⟩::sJ o::sK o::g)⟩
section
variable {h:List Ob}{tl:Nat}{t:Tr}(ht:(h.map Ob.ro)[tl]?=some (yg t).ro)(i:jC h t)
include ht i
theorem QhE(n):Zl prog 220 h [.ptr tl 0 0 0,u64 n] (λd=>d=sH (t.jD n none)):=by
 refine ZN func220 ntmps220 results220 λE w N F z Q f=>?_;rw[<-z]at ht;have M:=Qb ht;simp only[go_sem,Qj,ht,M];refine ZY (λj H=>∃(s:Tr) (o:Option It) (g:List Ob),s.size+j<=t.size/\jC h s/\s.jD n o=t.jD n none/\H=Bj F g n s o) t.size (s0:=Bj F [] n t none) ?_ ⟨t,none,[],ω,i,rfl,rfl⟩ ?_;simp only[Bj];exact QP;rintro j _ P ⟨s,o,g,m,p,k,rfl⟩;rcases s with _|⟨O,q,x,u⟩;simp only[Bj];apply Qg f;apply Qg f;apply VI [] f [0] [1,2,3];simp only[go_sem,Qj];have J:o=t.jD n none:=k;subst J;refine⟨⟨_,rfl,rfl⟩,⟨_,rfl,rfl⟩⟩;have l:=p.1;rw[<-z]at l;have r:=Qb l;rw[Tr.QwL]at k;by_cases v:n<q.ka;have d1:=QY v;rw[Qe v]at k;simp only[Bj];apply Qh f;simp only[go_sem,Qj,l,r,d1];refine⟨by simp only[Tr.size]at m;omega,Bj F g n x o,?_,x,o,g,by simp only[Tr.size]at m;omega,p.2.1,k,rfl⟩;simp only[Bj];exact QP;have d1:=QN v;rw[Qd v]at k;simp only[Bj];apply Qh f;simp only[go_sem,Qj,l,r,d1];refine ZT f QgE (QhD (lm:=F.length+2) (lo:=F.length+1) (o:=o) (VS rfl) (VS rfl) ω q) λd K y=>?_;obtain⟨C,rfl⟩:=y;simp only[go_sem,Qj];cases x with
 | nil=>apply Qh f;simp only[go_sem,Qj,l,r];refine⟨by simp only[Tr.size]at m;omega,Bj F (g++C) n u (wZ o q),?_,u,_,_,by simp only[Tr.size]at m;omega,p.2.2,k,rfl⟩;simp only[Bj];exact QP
 | node a b c e=>have B:=p.2.1.1;rw[<-z]at B;have I:=Qb B;apply Qh f;simp only[go_sem,Qj,l,r,B,I];refine ZT f QgE (QhD (lm:=F.length+2) (lo:=F.length+1) (o:=wZ o q) (VS rfl) (VS rfl) ω (Tr.node a b c e).least) λd K y=>?_;obtain⟨L,rfl⟩:=y;simp only[go_sem,Qj];apply Qh f;simp only[go_sem,Qj,l,r];refine⟨by simp only[Tr.size]at m;omega,Bj F (g++(C++L)) n u (wZ (wZ o q) (Tr.node a b c e).least),?_,u,_,_,by simp only[Tr.size]at m;omega,p.2.2,k,rfl⟩;simp only[Bj];exact QP
end
def X6(e:ZL):Int × D:=(e.k,e.v)
structure YG (es:List ZL) (P:List (Int × D)):Prop where
 perm:(es.map X6).Perm P
 nd:(P.map Prod.fst).Nodup
def YG.Co{a P}(M:YG a P):Yj a:=by
 have b:a.map (·.k)=(a.map X6).map Prod.fst:=by simp[X6,bM]
 unfold Yj;rw[b,(M.perm.map Prod.fst).nodup_iff];exact M.nd
def sL:∀{b:List ZL},Yj b->∀{k:Int} {v:D},Je b k=some v↔(k,v)∈b.map X6
 | [],_,k,v=>by simp[Je]
 | e::b,a,k,v=>by
  have g:Yj b:=by unfold Yj at a ⊢;simp only[Jr,Z6]at a;exact a.2
  simp only[Je];by_cases h:e.k=k;rw[Qe h];constructor;rintro⟨rfl⟩;simp[X6,h];intro hm;simp only[Jr,QK]at hm;rcases hm with hm|hm;simp only[X6,Zg]at hm;rw[hm.2];exfalso;obtain⟨d,f,c⟩:=Jw.1 hm;simp only[X6,Zg]at c;unfold Yj at a;simp only[Jr,Z6,Jw,E8,not_and]at a;exact a.1 d f (by rw[c.1,h]);rw[Qd h,sL g];simp only[Jr,QK];constructor;exact λh=>.inr h;rintro (hm|hm);simp only[X6,Zg]at hm;exact absurd hm.1.symm h;exact hm
def look(P:List (Int × D))(k:Int):Option D:=(P.find? λp=>p.1==k).map Prod.snd
def iq:∀{P:List (Int × D)},(P.map Prod.fst).Nodup->∀{k:Int} {v:D},look P k=some v↔(k,v)∈P
 | [],_,k,v=>by simp[look]
 | p::P,a,k,v=>by
  simp only[Jr,Z6]at a;have b:=iq a.2 (k:=k) (v:=v);unfold look at b ⊢;rw[vm];by_cases h:p.1=k;rw[qZ.2 h];simp only[Kq,Q7,QK];constructor;rintro rfl;exact .inl (by rw[<-h]);rintro (hm|hm);rw[<-hm];exact absurd (Jw.2 ⟨_,hm,rfl⟩) (by rw[<-h];exact a.1);have c:(p.1==k)=false:=by simpa using h
  rw[c,b,QK];constructor;exact λh=>.inr h;rintro (hm|hm);exact absurd (by rw[<-hm]) h;exact hm
def YG.look{b P}(M:YG b P)(k):Je b k=look P k:=by
 cases a:X.look P k with
 | some v=>rw[sL M.Co,M.perm.mem_iff];exact(iq M.nd).1 a
 | none=>
  cases c:Je b k with
  | none=>rfl
  | some v=>rw[sL M.Co,M.perm.mem_iff]at c;rw[(iq M.nd).2 c]at a;cases a
def YG.len{a:List ZL}{P:List (Int × D)}(M:YG a P):a.length=P.length:=by have:=M.perm.length_eq;rwa [KJ]at this
def Cz(P:List (Int × D))(k:Int):List (Int × D):=P.filter λp=>p.1 != k
def FY(P:List (Int × D))(k:Int)(v:D):List (Int × D):=(k,v)::Cz P k
def QhF{P:List (Int × D)}(k:Int)(h:(P.map Prod.fst).Nodup):((Cz P k).map Prod.fst).Nodup:=by unfold Cz;exact List.Nodup.sublist (List.Sublist.map _ List.filter_sublist) h
def QhG{P:List (Int × D)}(k)(v:D)(h:(P.map Prod.fst).Nodup):((FY P k v).map Prod.fst).Nodup:=by rw[FY,Jr,Z6];refine⟨λb=>?_,QhF k h⟩;obtain⟨p,a,e⟩:=Jw.1 b;simp only[Cz,JB,bne_iff_ne,ne_eq]at a;exact a.2 e
def QhH:∀{a:List ZL} (k:Int) (v:D),Yj a->(∃u,Je a k=some u)->((ku a k v).map X6).Perm ((k,v)::(a.map X6).filter λp=>p.1 != k)
 | [],k,v,_,h=>by obtain⟨u,c⟩:=h;cases c
 | e::a,k,v,d,h=>by
  have i:Yj a/\∀g∈a,g.k≠e.k:=by unfold Yj at d ⊢;simp only[Jr,Z6,Jw,E8,not_and]at d;exact⟨d.2,d.1⟩
  simp only[ku];by_cases b:e.k=k;rw[Qe b,Jr,Jr];have f:(X6 e).1=k:=b;rw[vk,show ((X6 e).1 != k)=false by rw[f];simp];simp only[qq,q5];rw[yx.2];exact Oe _;intro p j;obtain⟨g,m,rfl⟩:=Jw.1 j;have:=i.2 g m;simpa[X6,<-b] using this
  .rw[Qd b,Jr,Jr,vk];have f:((X6 e).1 != k)=true:=by simpa[X6] using b
   rw[f,Qe rfl];have l:∃u,Je a k=some u:=by obtain⟨u,c⟩:=h;simp only[Je,Qd b]at c;exact⟨u,c⟩
   exact(List.Perm.cons _ (QhH k v i.1 l)).trans (List.Perm.swap _ _ _)
def YG.set{a P}(M:YG a P)(q c k v):∃h b,Kb q c a k v=QT q h b/\YG b (FY P k v):=by
 unfold Kb;cases d:Je a k with
 | some u=>refine⟨c,ku a k v,rfl,?_,QhG k v M.nd⟩;exact(QhH k v M.Co ⟨u,d⟩).trans (List.Perm.cons _ (M.perm.filter _))
 | none=>
  refine⟨c+1,a++[⟨k,v,c⟩],rfl,?_,QhG k v M.nd⟩;rw[zP,FY];have g:Cz P k=P:=by unfold Cz;rw[yx];intro p f;rw[bne_iff_ne];intro e;have:=(iq M.nd (k:=k) (v:=p.2)).2 (by rw[<-e];exact f);rw[<-M.look,d]at this;cases this
  rw[g];exact(List.perm_append_comm.trans (List.Perm.cons _ M.perm))
def QhI:∀{a:List ZL} (k:Int),Yj a->((J9 a k).map X6)=((a.map X6).filter λp=>p.1 != k)
 | [],_,_=>rfl
 | e::a,k,c=>by
  have f:Yj a/\∀d∈a,d.k≠e.k:=by unfold Yj at c ⊢;simp only[Jr,Z6,Jw,E8,not_and]at c;exact⟨c.2,c.1⟩
  simp only[J9];by_cases b:e.k=k;rw[Qe b,Jr,vk,show ((X6 e).1 != k)=false by simpa[X6] using b];simp only[qq,q5];rw[yx.2];intro p g;obtain⟨d,h,rfl⟩:=Jw.1 g;have:=f.2 d h;simpa[X6,<-b] using this;rw[Qd b,Jr,Jr,vk,show ((X6 e).1 != k)=true by simpa[X6] using b,Qe rfl,QhI k f.1]
def YG.del{a P}(M:YG a P)(k):YG (J9 a k) (Cz P k):=by refine⟨?_,QhF k M.nd⟩;rw[QhI k M.Co];exact M.perm.filter _
def YG.nil:YG [] []:=⟨σ,σ⟩
def YG.to{a}{P Q:List (Int × D)}(M:YG a P)(h:P.Perm Q):YG a Q:=⟨M.perm.trans h,((h.map Prod.fst).nodup_iff).1 M.nd⟩
structure Step (S:Nat->Prop) (h h':List Ob):Prop where
 keep:∀l,l<h.length->¬ S l->h'[l]? = h[l]?
 len:h.length<=h'.length
def more(S:Nat->Prop)(h:List Ob):Nat->Prop:=λl=>S l\/h.length<=l
def Step.trans{S h h' c}(a:Step S h h')(b:Step (more S h) h' c):Step S h c:=
 ⟨λl e d=>by rw[b.keep l (wB e a.len) (λf=>f.elim d ω),a.keep l e d],J5 a.len b.len⟩
def Step.app(S h g):Step S h (h++g):=⟨λl a _=>QG a,σ⟩
structure Vk (es:List ZL) (f:Int->Option D):Prop where
 nd:Yj es
 at_:∀k,Je es k=f k
section
variable {es:List ZL}{f:Int->Option D}
def Vk.p(M:Vk es f):YG es (es.map X6):=⟨Oe _,by
 have a:(es.map X6).map Prod.fst=es.map (·.k):=by simp[X6,bM]
 rw[a];exact M.nd⟩
def Vk.to{g}(M:Vk es f)(h:∀k,f k=g k):Vk es g:=⟨M.nd,λk=>(M.at_ k).trans (h k)⟩
def QhJ(P k j):look (Cz P k) j=if j=k then none else look P j:=by unfold look Cz;rw[List.find?_filter];by_cases h:j=k;subst h;rw[Qe rfl,cG,j7];intro p _ b;simp at b;rw[Qd h];congr 2;funext p;by_cases a:p.1=j;simp[a,h];simp[a]
def QwM(P k v j):look (FY P k v) j=if j=k then some v else look P j:=by
 have a:=QhJ P k j;unfold look at a ⊢;unfold FY;rw[vm];by_cases h:j=k;subst h;simp;have b:((k,v).1==j)=false:=by simpa using Zb h
 rw[b,Qd h];rw[Qd h]at a;exact a
def Vk.set(M:Vk es f)(q c k v):∃b a,Kb q c es k v=QT q b a/\Vk a (λj=>if j=k then some v else f j):=by obtain⟨b,a,e,d⟩:=M.p.set q c k v;refine⟨b,a,e,d.Co,λj=>?_⟩;rw[d.look,QwM];split;rfl;rw[<-M.p.look,M.at_]
def Vk.del(M:Vk es f)(k):Vk (J9 es k) (λj=>if j=k then none else f j):=by have a:=M.p.del k;refine⟨a.Co,λj=>?_⟩;rw[a.look,QhJ];split;rfl;rw[<-M.p.look,M.at_]
def Vk.nil:Vk [] (λ_=>none):=⟨by simp[Yj],λ_=>rfl⟩
def Vk.QhK(M:Vk es f):es.length=0↔∀k,f k=none:=by
 constructor;intro h k;rw[Sq]at h;rw[<-M.at_,h];rfl;intro h;cases es with
 | nil=>rfl
 | cons e es=>have a:=M.at_ e.k;rw[h,Je,Qe rfl]at a;cases a
end
def ME(b:Bool):Int:=if b then 1 else 0
def w9(T:List Ql)(k:Int):Option D:=match Qw T k with
 | some c=>if 1<QJ c.ls then some (.agg [Qa c.parent,Qa (ME c.leaf)]) else none
 | none=>none
def Bk(T:List Ql)(A:List Int)(k:Int):Option D:=if k∈A then some (Qa ((Qw T k).getD default).parent) else none
def DY(a:Int->Option Nat)(k:Int):Option D:=(a k).map λl=>.mref l 0
def yX(f:Int->Bool)(i:Int):Option D:=if f i then some (Qa 1) else none
@[go_sem] def iu(c b a:Nat):Ob:=⟨.one,0,3,1,λ_=>[.mref c 0,.mref b 0,.mref a 0]⟩
structure jE (S:Nat->Prop) (h:List Ob) (p b1 b2 b3 c1 c2 c3:Nat) (ZU Jl Ve:List ZL) (kl:Int->Option Nat) (T:List Ql) (A:List Int) (Kd:Int->Int->Bool):Prop where
 o:h[p]?=some (iu b1 b2 b3)
 m1:h[b1]?=some (QT .i64 c1 ZU)
 f1:Vk ZU (w9 T)
 m2:h[b2]?=some (QT .i64 c2 Jl)
 f2:Vk Jl (Bk T A)
 m3:h[b3]?=some (QT .i64 c3 Ve)
 f3:Vk Ve (DY kl)
 ks:∀k l,kl k=some l->∃c es,h[l]?=some (QT .i64 c es)/\Vk es (yX (Kd k))
 kn:∀k i,kl k=none->Kd k i=false
 ki:∀k k' l,kl k=some l->kl k'=some l->k=k'
 Ue:b1≠b2
 Uf:b1≠b3
 PH:b2≠b3
 iv:p≠b1
 Ug:p≠b2
 FZ:p≠b3
 nk:∀k l,kl k=some l->l≠p/\l≠b1/\l≠b2/\l≠b3
 sp:S p
 s1:S b1
 s2:S b2
 s3:S b3
 sk:∀k l,kl k=some l->S l
def jF(S:Nat->Prop)(h:List Ob)(p:Nat)(T:List Ql)(A:List Int):Prop:=∃f e d c c2 b g j i a,jE S h p f e d c c2 b g j i a T A (z7 T A)
def jE.step{S S' h h' p t s r n m j u x v g T A w}
  (e:∀l,l<h.length->S l->S' l/\h'[l]? = h[l]?) (a:jE S h p t s r n m j u x v g T A w):jE S' h' p t s r n m j u x v g T A w:=by
 have k:∀l o,S l->h[l]?=some o->S' l/\h'[l]?=some o:=λl o d b=>⟨(e l (Qb b) d).1,(e l (Qb b) d).2.trans b⟩;refine⟨(k _ _ a.sp a.o).2,(k _ _ a.s1 a.m1).2,a.f1,(k _ _ a.s2 a.m2).2,a.f2,(k _ _ a.s3 a.m3).2,a.f3,λq l f=>?_,a.kn,a.ki,a.Ue,a.Uf,a.PH,a.iv,a.Ug,a.FZ,a.nk,(k _ _ a.sp a.o).1,(k _ _ a.s1 a.m1).1,(k _ _ a.s2 a.m2).1,(k _ _ a.s3 a.m3).1,λq l f=>?_⟩;obtain⟨c,i,d,b⟩:=a.ks q l f;exact⟨c,i,(k _ _ (a.sk q l f) d).2,b⟩;obtain⟨c,i,d,b⟩:=a.ks q l f;exact(k _ _ (a.sk q l f) d).1
def jF.step{S S'}{h h':List Ob}{p T A}(e:∀l,l<h.length->S l->S' l/\h'[l]? = h[l]?):jF S h p T A->jF S' h' p T A:=
 λ⟨g,f,d,c,c2,b,i,k,j,a,O⟩=>⟨g,f,d,c,c2,b,i,k,j,a,O.step e⟩
structure QwN (h:List Ob) (p b1 b2 b3 c1 c2 c3:Nat) (ZU Jl Ve:List ZL) (kl:Int->Option Nat) (T:List Ql) (A:List Int) (Kd:Int->Int->Bool):Prop where
 o:(h.map Ob.ro)[p]?=some (iu b1 b2 b3).ro
 m1:(h.map Ob.ro)[b1]?=some (QT .i64 c1 ZU).ro
 f1:Vk ZU (w9 T)
 m2:(h.map Ob.ro)[b2]?=some (QT .i64 c2 Jl).ro
 f2:Vk Jl (Bk T A)
 m3:(h.map Ob.ro)[b3]?=some (QT .i64 c3 Ve).ro
 f3:Vk Ve (DY kl)
 ks:∀k l,kl k=some l->∃c es,(h.map Ob.ro)[l]?=some (QT .i64 c es).ro/\Vk es (yX (Kd k))
 kn:∀k i,kl k=none->Kd k i=false
def MF(h:List Ob)(p:Nat)(T:List Ql)(A:List Int):Prop:=∃f e d c c2 b g j i a,QwN h p f e d c c2 b g j i a T A (z7 T A)
def jF.toR{S h p T A}:jF S h p T A->MF h p T A:=
 λ⟨n,m,j,i,c2,g,o,r,q,a,O⟩=>⟨n,m,j,i,c2,g,o,r,q,a,Jf O.o,Jf O.m1,O.f1,Jf O.m2,O.f2,Jf O.m3,O.f3,λk l b=>by obtain⟨c,f,e,d⟩:=O.ks k l b;exact⟨c,f,Jf e,d⟩,O.kn⟩
def MF.more{h h':List Ob}{p T A}(e:∀(l:Nat) (o:Ob),(h.map Ob.ro)[l]?=some o->(h'.map Ob.ro)[l]?=some o):MF h p T A->MF h' p T A:=
 λ⟨q,n,m,j,c2,i,r,t,s,a,O⟩=>⟨q,n,m,j,c2,i,r,t,s,a,e _ _ O.o,e _ _ O.m1,O.f1,e _ _ O.m2,O.f2,e _ _ O.m3,O.f3,λk l b=>by obtain⟨c,g,f,d⟩:=O.ks k l b;exact⟨c,g,e _ _ f,d⟩,O.kn⟩
def QwO{T}(I:KF T){A}(n:yU T A)(b)(o:b≠0):(b∈A\/∃i,z7 T A b i=true)↔JE T A b=true:=by constructor;rintro (h|⟨i,j⟩);obtain⟨c,f,e,g⟩:=n b h;exact zz.2 ⟨b,h,Yp I f⟩;obtain⟨c,f,e,g⟩:=ya.1 j;obtain⟨d,k,_⟩:=I.Jz c (yT I f) (by rw[e];exact o);rw[e]at k;exact Mx I g (by rw[V0 I f,e];exact Js _ (Yp I k));intro h;obtain⟨a,l,j⟩:=zz.1 h;by_cases m:a=b;subst m;exact .inl l;obtain⟨i,c,f,e,g⟩:=gZ I j m;exact .inr ⟨i,ya.2 ⟨c,e,g,zz.2 ⟨a,l,f⟩⟩⟩
end Go.Fg.X
namespace Go.Fg.X
open Go.Proofs Go.Fg
open Go.RowKit (Below)
open Go.Proofs.Tryz
def QhL{P f h u R}(B:D)(O:∀k,B.upto k=true)
  (hd:∀d g,R d g->JQ 6 d B\/∃c z x n a,h.length<=c/\(h++g)[c]?=some ⟨.arr,z,x,n,a⟩/\(∀i,i<n->(a i).all D.Yl=true)/\JQ 6 (D.fz c z n x a d) B) (H:Xo P f h u R):Zl P f h u (λd=>d=B):=by
 intro Z t w j vs h1 h2 m I hc;have Tu:Zo Z w.heap.size (h.map Ob.ro) j w:=by refine⟨m.len,m.inj,m.V7,λl o b q V F=>⟨λU=>?_,(m.at_ l o b q V F).2⟩⟩;obtain⟨N,_,rfl⟩:=HF V;rw[dO,Kd.toRo_ro]at U;cases U
 refine(H Z w.heap.size w j vs (Qv _) h2 Tu I hc).mono λe E he=>?_;obtain⟨v,d,_,s,rfl,⟨g,rfl,hR⟩,L,W,hT,hB⟩:=he;have Y:∀b,b<w.heap.size->E.heap[b]? = w.heap[b]? := λb hb=>hB.block b hb;have Zk:∀(l:Nat),l<h.length->s[l]? = j[l]? := λl I=>by
  have JY:l<j.length:=by rw[m.len];simpa using I
  obtain⟨N,p',T,m2,_,_,m3⟩:=hT.obj l _ _ (Jf (QH I)) (QH JY);rw[JX (zC I),Jf (QH I)]at T;cases T;obtain⟨_,rfl⟩:=m3 rfl;rw[m2,QH JY]
 have e1:(h.map Ob.ro++g).take h.length=h.map Ob.ro:=List.take_left' σ;have iw:QF Z (h.map Ob.ro) j E B v->_:=λhx=>(⟨v,B,h.map Ob.ro,j,rfl,⟨[],(JN _).symm,O _,rfl⟩,m.ext Y,hx,Go.Fg.Tr.ext m Y,hB.mono h1⟩:∃S d M s,Ending.returned v=.returned S/\(∃g,M=h.map Ob.ro++g/\d.upto h.length=true/\d=B)/\Zo Z t M s E/\QF Z M s E d S/\Go.Fg.Tr (h.map Ob.ro) j w M s E/\Below t w E);refine iw ?_;rcases hd _ _ hR with C|⟨c,z,x,n,a,J,ZW,Zw,C⟩;have r:=(vL 6 C W).take (O h.length);have Q:s.take h.length=j:=by apply AA;intro i;rw[XJ];by_cases y:i<h.length;rw[Qe y,Zk i y];rw[Qd y,EW (by rw[m.len];simp;omega)]
 rw[e1,Q]at r;exact r;have K:(h.map Ob.ro++g)[c]?=some ⟨.arr,z,x,n,a⟩:=by rw[Ks ω]at ZW;rw[Ks (zC J)];simpa using ZW
 have Qb:c<s.length:=by rw[L.len];exact(Xh.1 K).1
 obtain⟨p,F⟩:∃p,s[c]?=some p:=⟨_,QH Qb⟩;have CA:=W.fz (l:=c) (o:=⟨.arr,z,x,n,a⟩) (p:=p) K F rfl (λb q e=>by
  subst e;refine⟨h2 b ?_,λl' q' e'=>L.inj _ _ _ _ _ e' F,(L.at_ c _ b q K F).2.cells rfl⟩;exact(L.at_ c _ b q K F).1 rfl) Zw (h':=(h.map Ob.ro++g).set c (Ob.gone ⟨.arr,z,x,n,a⟩)) (λl' N QE e=>by
  exact⟨N,by rw[JT (Zb QE)];exact e,rfl,rfl,rfl⟩)
 have r:=(vL 6 C CA).take (O h.length);have e3:((h.map Ob.ro++g).set c (Ob.gone ⟨.arr,z,x,n,a⟩)).take h.length=h.map Ob.ro:=by rw[Li _ _ (zC J)];exact List.take_left' σ
 have Q:(s.set c none).take h.length=j:=by apply AA;intro i;rw[XJ];by_cases y:i<h.length;rw[Qe y,JT ω,Zk i y];rw[Qd y,EW (by rw[m.len];simp;omega)]
 rw[e3,Q]at r;exact r
end Go.Fg.X
namespace Go.Fg.X
open Go.Proofs Go.Fg
open Go.Proofs.Tryz
section
variable (h:List Ob)(t m c:Nat){es:List ZL}{L:List Ql}(T:VJ es L)(hlen:L.length<1000000)
 (ht:(h.map Ob.ro)[t]?=some ⟨.Wp,0,1,1,λ_=>[.mref m 0]⟩) (hm:(h.map Ob.ro)[m]?=some (QT .i64 c es).ro)
include T ht hm hlen
theorem QwP:Xo prog 109 h [.ptr t 0 0 0] (λd g=>Kt h.length (h++g) d ((L.filter (·.leaf)).map (·.iD))):=by
 refine Cg Vr 200 func109 rfl ntmps109 results109 rfl λa w i F e f b=>?_;rw[<-e]at ht hm;have p:=Qb ht;have o:=Qb hm;simp only[go_sem];have k:TJ (F.map Ob.ro) 141 0 [] (λx=>x.leaf):=λn x l=>by refine ZN func141 ntmps141 results141 λa w i F e f b=>?_;simp only[go_sem,Qj];exact⟨_,rfl⟩
 refine HG b gi rfl ?_ (gQ _ t m c T hlen (Jf ht) (Mu hm) (.raw (.func (.func 141) ⟨[]⟩ ⟨[]⟩)) 141 0 [] Qur rfl _ k) rfl λd g j=>?_;simp only[go_sem];apply Qg b;exact Kt.done f ⟨_,rfl⟩ j
end
def HU{h g:List Ob}(l:Nat)(o:Ob)(e:(h.map Ob.ro)[l]?=some o):((h++g).map Ob.ro)[l]?=some o:=by rw[zP,JX (KL e)];exact e
def Kt.closed{P f}{h:List Ob}{a L}(H:Xo P f h a (λd g=>Kt h.length (h++g) d L)):Zl P f h a (λd=>d=ints L):=by
 refine QhL (ints L) (λ_=>rfl) ?_ H;rintro d g (⟨rfl,m⟩|⟨c,e,p,b,rfl,⟨o,rfl⟩,l,j⟩);subst m;exact .inl rfl;refine .inr ⟨c,e,1,_,b,o,l,λi k=>?_,?_⟩;have:=j i ω;rw[JG]at this;rw[this];rfl;have n:D.fz c e (0+L.length) 1 b (.ref c e 0 L.length)=.imm 1 L.length (rowFrom 0 b):=by simp[D.fz,Fz]
 rw[n];simp only[ints];rw[Tt];refine⟨rfl,rfl,λi k=>?_⟩;rw[HC,j i k,Qvs];exact vK (zw _) _
def QwQ(h x):Zl prog 128 h [Xc x] (λd=>d=QV true):=by refine ZN func128 ntmps128 results128 λa w b F e f c=>?_;simp only[go_sem];all_goals exact Xp
section
variable (h:List Ob)(t m c:Nat){es:List ZL}{L:List Ql}(T:VJ es L)(hlen:L.length<1000000)
 (ht:(h.map Ob.ro)[t]?=some ⟨.Wp,0,1,1,λ_=>[.mref m 0]⟩) (hm:(h.map Ob.ro)[m]?=some (QT .i64 c es).ro)
include T ht hm hlen
theorem QwR:Xo prog 93 h [.ptr t 0 0 0] (λd g=>Kt h.length (h++g) d ((L.filter (λ_=>true)).map (·.iD))):=by refine Cg Vr 200 func93 rfl ntmps93 results93 rfl λb w n F i k a=>?_;rw[<-i]at ht hm;have p:=Qb ht;have o:=Qb hm;simp only[go_sem];have f:TJ (F.map Ob.ro) 128 0 [] (λx=>true):=λj x l=>QwQ j x;refine HG a gi rfl ?_ (gQ _ t m c T hlen (Jf ht) (Mu hm) (.raw (.func (.func 128) ⟨[]⟩ ⟨[]⟩)) 128 0 [] Quk rfl _ f) rfl λd g e=>?_;simp only[go_sem];apply Qg a;exact Kt.done k ⟨_,rfl⟩ e
end
def WU(S:Nat->Prop)(h:List Ob)(t:Nat)(T:List Ql):Prop:=∃m c a,h[t]?=some ⟨.one,0,1,1,λ_=>[.mref m 0]⟩/\h[m]?=some (QT .i64 c a)/\VJ a T/\S t/\S m
def XQ(h:List Ob)(t:Nat)(T:List Ql):Prop:=∃m c a,(h.map Ob.ro)[t]?=some ⟨.Wp,0,1,1,λ_=>[.mref m 0]⟩/\(h.map Ob.ro)[m]?=some (QT .i64 c a).ro/\VJ a T
def WU.toR{S h t T}:WU S h t T->XQ h t T:=λ⟨m,c,e,d,b,a,_,_⟩=>⟨m,c,e,Jf d,Jf b,a⟩
def WU.step{S S'}{h h':List Ob}{t T}(e:∀l,l<h.length->S l->S' l/\h'[l]? = h[l]?):WU S h t T->WU S' h' t T:=λ⟨m,c,i,b,a,g,f,d⟩=>⟨m,c,i,((e _ (Qb b) f).2).trans b,((e _ (Qb a) d).2).trans a,g,(e _ (Qb b) f).1,(e _ (Qb a) d).1⟩
def XQ.more{h h':List Ob}{t T}(e:∀(l:Nat) (o:Ob),(h.map Ob.ro)[l]?=some o->(h'.map Ob.ro)[l]?=some o):XQ h t T->XQ h' t T:=λ⟨m,c,f,d,b,a⟩=>⟨m,c,f,e _ _ d,e _ _ b,a⟩
section
variable {h:List Ob}{t:Nat}{T:List Ql}(R:XQ h t T)(hlen:T.length<1000000)
include R hlen
theorem sM:Zl prog 93 h [.ptr t 0 0 0] (λd=>d=ints (T.map (·.iD))):=by obtain⟨m,c,f,a,b,e⟩:=R;have:=Kt.closed (QwR h t m c e hlen a b);rwa [yx.2 (λ_ _=>rfl)]at this
theorem QwS(a):Zl prog 171 h [.ptr t 0 0 0,Qa a] (λd=>d=ints (KZ T a)):=by obtain⟨m,c,g,b,e,f⟩:=R;exact Kt.closed (r6 h t m c f hlen b e a)
omit hlen in
theorem sN(I:TreeInv T)(a):Zl prog 105 h [.ptr t 0 0 0,Qa a] (λd=>d=ints (ZZ T 16 a)):=by obtain⟨m,c,g,b,e,f⟩:=R;exact Kt.closed (Qg5 h t m c f b e a 16 π (I.ends a))
omit hlen in
theorem PI(a:Int):Zl prog 74 h [.ptr t 0 0 0,Qa a] (λd=>d=.tup [Xc ((Qw T a).getD default),Qa (if (Qw T a).isSome then 0 else 6)]):=by obtain⟨m,c,g,b,e,f⟩:=R;exact Qg4 h t m c f b e a
end
def iz{f}{a:List ZL}(M:Vk a (yX f)):0<a.length↔∃i,f i=true:=by
 constructor;intro h;refine j5 λd=>?_;have:=M.QhK.2 λk=>by unfold yX;rw[Qd (λc=>d ⟨k,c⟩)]
 omega;rintro⟨i,b⟩;refine Nat.pos_of_ne_zero λh=>?_;have:=M.QhK.1 h i;unfold yX at this;rw[Qe b]at this;cases this
def PJ{h p T A}(O:MF h p T A)(I:KF T)(L:yU T A)(a)(M:a≠0):Zl prog 113 h [.ptr p 0 0 0,Qa a] (λd=>d=QV (JE T A a)):=by
 obtain⟨V,U,S,R,c2,Q,W,Jl,Y,J,O⟩:=O;obtain⟨f,P,f1,b,f2,j,f3,E,H⟩:=O;have r:=QwO I L a M;have k:=f2.at_ a;have o:=f3.at_ a;by_cases n:a∈A
 .have e:JE T A a=true:=r.1 (.inl n);rw[Bk,Qe n]at k;rw[e];refine ZN func113 ntmps113 results113 λg w v F m y x=>?_;rw[<-m]at f b;have z:=Qb f;have u:=Qb b;simp only[go_sem,f,b,k,Go.undef];all_goals exact Xp
 .rw[Bk,Qd n]at k;cases q:J a with
  | none=>
   have e:JE T A a=false:=by rw[jZ];intro h;rcases r.2 h with h|⟨i,h⟩;exact n h;rw[H a i q]at h;cases h
   rw[DY,q,qY]at o;rw[e];refine ZN func113 ntmps113 results113 λg w v F m y x=>?_;rw[<-m]at f b j;have z:=Qb f;have u:=Qb b;have C:=Qb j;simp only[go_sem,f,b,j,k,o];all_goals exact Xp
  | some l=>
   obtain⟨c,t,ml,N⟩:=E a l q;rw[DY,q,Kq]at o;have K:=iz N;have B:0<t.length↔JE T A a=true:=K.trans ⟨λh=>r.1 (.inr h),λh=>(r.2 h).elim (λh=>absurd h n) λh=>h⟩;have d0:decide (0<t.length)=JE T A a:=by
    cases s:JE T A a with
    | true=>exact QY (B.2 s)
    | false=>exact QN λh=>by rw[B.1 h]at s;cases s
   have d1:decide ((0:Int)<(t.length:Int))=JE T A a:=by rw[<-d0];congr 1;rw[Lq];omega
   refine ZN func113 ntmps113 results113 λg w v F m y x=>?_;rw[<-m]at f b j ml;have z:=Qb f;have u:=Qb b;have C:=Qb j;have Z:=Qb ml;simp only[go_sem,f,b,j,ml,k,o,d1];all_goals exact Xp
def Step.Uh{S}{h H:List Ob}(s:Step S h H){l}(b:more S h l)(o):Step S h (H.set l o):=
 ⟨λj c a=>by
  have d:l≠j:=by rintro rfl;rcases b with h3|h3;exact a h3;omega
  rw[Qo d];exact s.keep j c a,by rw[Ky];exact s.len⟩
def Step.sP{S h H}(s:Step S h H)(g):Step S h (H++g):=
 ⟨λj a b=>by rw[QG (wB a s.len)];exact s.keep j a b,by have:=s.len;simp;omega⟩
structure PK (S:Nat->Prop) (h:List Ob) (p:Nat) (T:List Ql) (A:List Int) (leaf:Int) (n:Nat) (s:St):Prop where
 ex:∃id dn c lo g row H S' b1 b2 b3 c1 c2 c3 ZU Jl Ve kl,up T leaf=dn++up T id/\Qw T id=some c/\(up T id).length<=n/\(∀i∈dn++[id],JE T A i=false) /\
  jE S' H p b1 b2 b3 c1 c2 c3 ZU Jl Ve kl T (leaf::A) (kE T A dn)/\(∀l,S' l->more S h l/\l<H.length)/\¬ S' lo/\h.length<=lo/\Step S h H /\
  H[lo]?=some ⟨.arr,g,1,dn.length+1,row⟩/\(∀i,i<dn.length+1->row i=[Qa ((dn++[id]).getD i 0)]) /\
  s=⟨[(0,.ptr p 0 0 0),(6,.ref lo g 0 (dn.length+1)),(7,Qa id)],H⟩
section
variable {S:Nat->Prop}{h:List Ob}{p b1 b2 b3 c1 c2 c3:Nat}{ZU Jl Ve:List ZL}{kl:Int->Option Nat}{T:List Ql}{A:List Int}{Kd:Int->Int->Bool}(O:jE S h p b1 b2 b3 c1 c2 c3 ZU Jl Ve kl T A Kd)
include O
theorem jE.QhN{c2' a A'}(g:Vk a (Bk T A')):jE S (h.set b2 (QT .i64 c2' a)) p b1 b2 b3 c1 c2' c3 ZU a Ve kl T A' Kd:=by refine⟨(Qo (Zb O.Ug)).trans O.o,(Qo (Zb O.Ue)).trans O.m1,O.f1,QI (Qb O.m2),g,(Qo O.PH).trans O.m3,O.f3,λk l b=>?_,O.kn,O.ki,O.Ue,O.Uf,O.PH,O.iv,O.Ug,O.FZ,O.nk,O.sp,O.s1,O.s2,O.s3,O.sk⟩;obtain⟨c,f,e,d⟩:=O.ks k l b;exact⟨c,f,(Qo (Zb (O.nk k l b).2.2.1)).trans e,d⟩
theorem jE.QhO{k l c' es' Kd'}(b:kl k=some l)(M:Vk es' (yX (Kd' k)))(g:∀j,j≠k->∀i,Kd' j i=Kd j i):jE S (h.set l (QT .i64 c' es')) p b1 b2 b3 c1 c2 c3 ZU Jl Ve kl T A Kd':=by
 obtain⟨u,t,s,r⟩:=O.nk k l b;have v:l<h.length:=by obtain⟨c,q,f,n⟩:=O.ks k l b;exact Qb f
 refine⟨(Qo u).trans O.o,(Qo t).trans O.m1,O.f1,(Qo s).trans O.m2,O.f2,(Qo r).trans O.m3,O.f3,λj m a=>?_,λj i a=>?_,O.ki,O.Ue,O.Uf,O.PH,O.iv,O.Ug,O.FZ,O.nk,O.sp,O.s1,O.s2,O.s3,O.sk⟩;by_cases d:j=k;subst d;rw[b]at a;cases a;exact⟨c',es',QI v,M⟩;obtain⟨c,q,f,n⟩:=O.ks j m a;have w:l≠m:=λe=>d (O.ki j k m a (by rw[<-e];exact b));exact⟨c,q,(Qo w).trans f,n.to λi=>by unfold yX;rw[g j d i]⟩;have d:j≠k:=by rintro rfl;rw[b]at a;cases a
 rw[g j d i];exact O.kn j i a
theorem jE.QwT{k n c c3' e es3' Kd'}(u:h[n]?=some (QT .i64 c e))(M:Vk e (yX (Kd' k)))(x:n≠p)(w:n≠b1)(v:n≠b2)(s:n≠b3)(r:∀j l,kl j=some l->l≠n)(t:S n)
  (B:Vk es3' (λj=>if j=k then some (.mref n 0) else DY kl j)) (q:∀j,j≠k->∀i,Kd' j i=Kd j i):jE S (h.set b3 (QT .i64 c3' es3')) p b1 b2 b3 c1 c2 c3' ZU Jl es3' (λj=>if j=k then some n else kl j) T A Kd':=by
 refine⟨(Qo (Zb O.FZ)).trans O.o,(Qo (Zb O.Uf)).trans O.m1,O.f1,(Qo (Zb O.PH)).trans O.m2,O.f2,QI (Qb O.m3),B.to λj=>?_,λj m a=>?_,λj i a=>?_,λj g m a d=>?_,O.Ue,O.Uf,O.PH,O.iv,O.Ug,O.FZ,λj m a=>?_,O.sp,O.s1,O.s2,O.s3,λj m a=>?_⟩;by_cases b:j=k<;>simp[DY,b];by_cases b:j=k;subst b;rw[Qe rfl]at a;cases a;exact⟨c,e,(Qo (Zb s)).trans u,M⟩;rw[Qd b]at a;obtain⟨c,e,z,y⟩:=O.ks j m a;exact⟨c,e,(Qo (Zb (O.nk j m a).2.2.2)).trans z,y.to λi=>by unfold yX;rw[q j b i]⟩;by_cases b:j=k;subst b;rw[Qe rfl]at a;cases a;rw[Qd b]at a;rw[q j b i];exact O.kn j i a;by_cases b:j=k;by_cases f:g=k;rw[b,f];rw[Qe b]at a;rw[Qd f]at d;cases a;exact absurd rfl (r _ _ d);by_cases f:g=k;rw[Qd b]at a;rw[Qe f]at d;cases d;exact absurd rfl (r _ _ a);rw[Qd b]at a;rw[Qd f]at d;exact O.ki j g m a d;by_cases b:j=k;rw[Qe b]at a;cases a;exact⟨x,w,v,s⟩;rw[Qd b]at a;exact O.nk j m a;by_cases b:j=k;rw[Qe b]at a;cases a;exact t;rw[Qd b]at a;exact O.sk j m a
theorem jE.app(g):jE S (h++g) p b1 b2 b3 c1 c2 c3 ZU Jl Ve kl T A Kd:=O.step λl a b=>⟨b,QG a⟩
end
def PK.of{S h p T A a n b dn c e g k}(d){H}(f){t s r q o m u w v j}
  (x:up T a=dn++up T b) (C:Qw T b=some c) (z:(up T b).length<=n) (E:∀i∈dn++[b],JE T A i=false) (O:jE f H p t s r q o m u w v j T (a::A) (kE T A dn)) (F:∀l,f l->more S h l/\l<H.length) (L:¬ f e) (K:h.length<=e) (y:Step S h H)
  (B:k=dn.length+1) (J:H[e]?=some ⟨.arr,g,1,k,d⟩) (I:∀i,i<dn.length+1->d i=[Qa ((dn++[b]).getD i 0)]):PK S h p T A a n ⟨[(0,.ptr p 0 0 0),(6,.ref e g 0 k),(7,Qa b)],H⟩:=by
 subst B;exact⟨⟨b,dn,c,e,g,d,H,f,t,s,r,q,o,m,u,w,v,j,x,C,z,E,O,F,L,K,y,J,I,rfl⟩⟩
def QwU(T A)(a:Int)(k):(if k=a then some (Qa ((Qw T a).getD default).parent) else Bk T A k)=Bk T (a::A) k:=by unfold Bk;by_cases h:k=a;subst h;simp;simp[h]
def QhP{S h p T A}(O:jF S h p T A)(I:KF T)(hA:yU T A)(a)(c:Ql)(hc:Qw T a=some c)(vX:c.leaf=true)(ja:1<QJ c.ls)(Z4:JE T A a=false):
  QO prog 76 h [.ptr p 0 0 0,Qa a] (λd h'=>∃d1,d=.tup [d1,Qa 0]/\Kt h.length h' d1 (XO T A a)/\jF (more S h) h' p T (a::A)/\Step S h h'):=by
 have O0:=O;have hR:=O.toR;obtain⟨b1,b2,J,c1,c2,c3,ZU,Jl,Ve,Z,O⟩:=O;have y:=O.o;have Q:=O.m1;have m2:=O.m2;have Y:=O.m3;have E:=O.f1.at_ a;rw[w9,hc]at E;simp only[Qe ja,vX,ME,Vu]at E;have sQ:a≠0:=λe=>by rw[e,FR I]at hc;cases hc
 have MH:=PJ hR I hA a sQ;rw[Z4]at MH;obtain⟨W,F0,R,M2⟩:=O.f2.set .i64 c2 a (Qa c.parent);simp only[go_sem]at R;refine Q9 func76 ntmps76 results76 λa5 w pl hb=>?_;have Qq:=Qb y;have Uj:=Qb Q;simp only[go_sem,y,Q,E];apply ZH hb TA MH;apply Qg hb;apply Qy hb i5;simp only[go_sem,Qj,y,Q,m2,E];simp only[R];have Uk:PK S h p T A a (up T a).length ⟨[(0,.ptr p 0 0 0),(6,.ref h.length 0 0 1),(7,Qa a)],h.set b2 (QT .i64 W F0)++[⟨.arr,0,1,1,λ_=>[Qa a]⟩]⟩:=by
  have K:=((O.step (S':=λl=>S l/\l<h.length) λl B N=>⟨⟨N,B⟩,rfl⟩).QhN (c2':=W) (M2.to λk=>by
   have hp:(Qw T a).getD default=c:=by rw[hc];rfl
   have:=QwU T A a k;rw[hp]at this;exact this)).app [⟨.arr,0,1,1,λ_=>[Qa a]⟩]
  refine⟨a,[],c,h.length,0,λ_=>[Qa a],_,λl=>S l/\l<h.length,b1,b2,J,c1,W,c3,ZU,F0,Ve,Z,rfl,hc,Qv _,λi q=>?_,?_,λl B=>⟨.inl B.1,by have:=B.2;simp;omega⟩,λB=>by have:=B.2;omega,Qv _,⟨λl B N=>?_,σ⟩,?_,λi q=>?_,rfl⟩;simp only[qv,Xj]at q;rw[q];exact Z4;rw[show kE T A []=z7 T A from funext λp=>funext λi=>Qwm T A p i];exact K;rw[QG (zC B),Qo (λ(e:b2=l)=>N (e▸O.s2))];rw[Vq σ];rfl;obtain rfl:i=0:=by simp at q;omega
  rfl
 refine Hy (PK S h p T A a) (up T a).length QP Uk ?_;clear Uk O Q m2 Y y E R M2 MH O0 hR;rintro n s ⟨id,m,b,r,g,t,H,S',b1,b2,J,c1,c2,c3,ZU,Jl,Ve,Z,hu,M,hn,HV,O,hS,ZW,yY,Zd,vY,Z3,rfl⟩;have y:=O.o;have Q:=O.m1;have Y:=O.m3;have Qq:=Qb y;have Uj:=Qb Q;have C:=Qb Y;have HW:=Qb vY;obtain⟨d0,X7,Kg⟩:=Qhg I hc ja id (by rw[hu];exact Lg _ (Yp I M));rw[M]at X7;cases X7;have E:=O.f1.at_ id;rw[w9,M]at E;simp only[Qe Kg]at E;have k3:=O.f3.at_ b.parent;have Jn:=Qwk I hA hu M HV;have iA:=Qwl I (A:=A) (dn:=m) M;have sS:J≠r:=λe=>ZW (e▸O.s3);have a8:p≠r:=λe=>ZW (e▸O.sp);have a7:b1≠r:=λe=>ZW (e▸O.s1);have V:∀(U:List Ob) (S2:Nat->Prop) o f a0,jE S2 U p b1 b2 J c1 c2 o ZU Jl f a0 T (a::A) (kE T A (m++[id]))->(∀l,S2 l->more S h l)->Step S h U->U[r]?=some ⟨.arr,g,1,m.length+1,t⟩->(b.parent=0\/JE T A b.parent=true) ->
   Kt h.length U (.ref r g 0 (m.length+1)) (XO T A a)/\jF (more S h) U p T (a::A)/\Step S h U:=λU S2 o f a0 K MI jG a3 he=>by
  obtain⟨e1,R⟩:=Qwn I hA hu M HV he;rw[<-e1];refine⟨.inr ⟨r,g,0,t,σ,⟨yY,rfl⟩,by simpa using a3,λi q=>?_⟩,?_,jG⟩;rw[JG];exact Z3 i (zC q);rw[show kE T A (m++[id])=z7 T (a::A) from funext λp=>funext λi=>R p i]at K;exact⟨_,_,_,_,_,_,_,_,_,_,K.step λl B N=>⟨MI l N,rfl⟩⟩
 by_cases CC:∃i,kE T A m b.parent i=true
 ·
  cases z:Z b.parent with
  | none=>obtain⟨i,q⟩:=CC;rw[O.kn _ i z]at q;cases q
  | some l=>
   obtain⟨c,P,ml,fl⟩:=O.ks _ l z;have MG:=Qb ml;rw[DY,z,Kq]at k3;have Yh:0<P.length:=(iz fl).2 CC;have d1:((P.length:Int)==0)=false:=VY ω;have d2:decide ((0:Int)<(P.length:Int))=true:=QY ω;have F1:=(O.nk _ l z).2.2.2;have sT:l≠r:=λe=>ZW (e▸O.sk _ l z);obtain⟨c',a2,ea,M'⟩:=fl.set .i64 c id (Qa 1);simp only[go_sem]at ea;have he:b.parent=0\/JE T A b.parent=true:=by by_cases u:b.parent=0;exact .inl u;obtain⟨d,hd,wY⟩:=I.Jz b (yT I M) u;exact .inr ((Qhf I hA hd wY).2 (Jn.1 CC))
   have K:=O.QhO (c':=c') (es':=a2) (Kd':=kE T A (m++[id])) z (M'.to λj=>by unfold yX;rw[iA];by_cases F:j=id;simp[F];simp[F]) (λj F i=>by rw[iA,Qd (λh=>F h.1)])
   apply Qh hb;simp only[go_sem,y,Q,Y,E,k3,ml,d1,d2,Go.undef];simp only[ea];exact⟨_,rfl,V _ _ _ _ _ K (λl h=>(hS l h).1) (Zd.Uh (hS l (O.sk _ l z)).1 _) ((Qo sT).trans vY) he⟩
 ·
  have hz:∀i,kE T A m b.parent i=false:=λi=>by rw[jZ];exact λh=>CC ⟨i,h⟩
  have hB:(Z b.parent=none/\True/\True/\True)\/∃l c P,Z b.parent=some l/\H[l]?=some (QT .i64 c P)/\l<H.length/\P.length=0:=by
   cases z:Z b.parent with
   | none=>exact .inl ⟨rfl,trivial,trivial,trivial⟩
   | some l=>obtain⟨c,P,ml,fl⟩:=O.ks _ l z;refine .inr ⟨l,c,P,rfl,ml,Qb ml,?_⟩;have:=(iz fl).1;by_cases u:0<P.length;exact absurd (this u) CC;omega
  obtain⟨o,f,e3,M3⟩:=O.f3.set .i64 c3 b.parent (.mref H.length 0);obtain⟨PL,PM,e0,M0⟩:=Vk.nil.set .i64 0 id (Qa 1);simp only[go_sem]at e3 e0;have Ul:=M3.at_ b.parent;rw[Qe rfl]at Ul;have Um:∀l,S' l->l≠H.length:=λl x e=>by have:=(hS l x).2;omega
  have a6:=Zd.len;have K:=((O.app [QT .i64 PL PM]).step (S':=λl=>S' l\/l=H.length) λl _ N=>⟨.inl N,rfl⟩).QwT (k:=b.parent) (n:=H.length) (c3':=o) (es3':=f) (Kd':=kE T A (m++[id])) (Vq rfl) (M0.to λj=>by unfold yX;rw[iA,hz];by_cases F:j=id;simp[F];simp[F]) (λe=>Um p O.sp e.symm) (λe=>Um b1 O.s1 e.symm) (λe=>Um b2 O.s2 e.symm) (λe=>Um J O.s3 e.symm) (λj l F=>Um l (O.sk j l F)) (.inr rfl) M3 (λj F i=>by rw[iA,Qd (λh=>F h.1)])
  rw[DO C]at K;have jG:=(Zd.Uh (hS J O.s3).1 (QT .i64 o f)).sP [QT .i64 PL PM];have Un:((H.set J (QT .i64 o f))++[QT .i64 PL PM])[r]?=some ⟨.arr,g,1,m.length+1,t⟩:=by rw[QG (zC HW),Qo sS];exact vY
  have MI:∀l,(S' l\/l=H.length)->more S h l:=λl x=>x.elim (λh=>(hS l h).1) λe=>.inr ω;have wY:m.length<=16:=by have e:=congrArg List.length hu;have:=Bf (L:=T) (n:=16) (id:=a);rw[Zn]at e;unfold up at e;omega
  have zV:b.parent≠0->PK S h p T A a (up T b.parent).length ⟨[(0,.ptr p 0 0 0),(6,.ref r (g+1) 0 (m.length+1+1)),(7,Qa b.parent)],
    (H.set J (QT .i64 o f)).set r ⟨.arr,g+1,1,m.length+1+1,J8 (m.length+1) 0 t λ_=>[Qa b.parent]⟩++[QT .i64 PL PM,⟨.arr,0,1,1,λ_=>[Qa b.parent]⟩]⟩:=λu=>by
   obtain⟨d,hd,a4⟩:=I.Jz b (yT I M) u;have e1:(m++[id]).length+1=m.length+1+1:=σ;have FJ:JE T A b.parent=false:=by rw[jZ];exact λhq=>CC (Jn.2 ((Qhf I hA hd a4).1 hq))
   have Uo:r<(H.set J (QT .i64 o f)).length:=by simpa using HW
   have R:(H.set J (QT .i64 o f)).set r ⟨.arr,g+1,1,m.length+1+1,J8 (m.length+1) 0 t λ_=>[Qa b.parent]⟩++[QT .i64 PL PM,⟨.arr,0,1,1,λ_=>[Qa b.parent]⟩] =
     (H.set J (QT .i64 o f)++[QT .i64 PL PM]).set r ⟨.arr,g+1,1,m.length+1+1,J8 (m.length+1) 0 t λ_=>[Qa b.parent]⟩++[⟨.arr,0,1,1,λ_=>[Qa b.parent]⟩]:=by
    rw[DO Uo];simp
   rw[R];have a1:∀l,(S' l\/l=H.length)->l≠r:=λl x e=>by subst e;rcases x with x|x;exact ZW x;omega
   refine PK.of (J8 (m.length+1) 0 t λ_=>[Qa b.parent]) (λl=>S' l\/l=H.length) (dn:=m++[id]) ?_ hd (Qv _) (λi q=>?_) (K.step (λl B N=>⟨N,?_⟩)) (λl x=>⟨MI l x,?_⟩) (λB=>a1 r B rfl) yY ((jG.Uh (.inr yY) _).sP _) e1.symm ?_ ?_;rw[hu,V0 I M];simp;rcases Q3.1 q with q|q;exact HV i q;rw[Xj.1 q];exact FJ;rw[QG (zC B),Qo (Zb (a1 l N))];rcases x with x|x;have:=(hS l x).2;simp;omega;simp;omega;rw[QG ξ,QI ξ];intro i q;have:=Mt (dn:=m++[id]) (off:=0) (row:=t) (v:=b.parent) (λi q=>by rw[JG];exact Z3 i (zC q)) i (zC q);rw[JG]at this;simpa using this
  rcases hB with ⟨z,ml,MG,eX⟩|⟨l,c,P,z,ml,MG,eX⟩;rw[DY,z,qY]at k3;apply Qh hb;simp only[go_sem,Qj,y,Qq,Q,Y,C,E,k3];simp only[e3];by_cases u:b.parent=0;have d0:(b.parent==0)=true:=by simpa using u
  simp only[go_sem,Qj,y,Qo (Zb O.FZ),QI C,C,Ul,e0,d0];exact⟨_,rfl,V _ _ _ _ _ K MI jG Un (.inl u)⟩;have d0:(b.parent==0)=false:=by simpa using u
  simp only[go_sem,Qj,y,Qo (Zb O.FZ),QI C,C,Ul,e0,d0,vY,Qo sS,HW];refine⟨ω,(up T b.parent).length,⟨[(0,.ptr p 0 0 0),(6,.ref r (g+1) 0 (m.length+1+1)),(7,Qa b.parent)],_⟩,?_,QP,zV u⟩;have:=congrArg List.length (V0 I M);simp only[Kx]at this;omega;rw[DY,z,Kq]at k3;apply Qh hb;simp only[go_sem,Qj,y,Qq,Q,Y,C,E,k3,ml,eX];simp only[e3];by_cases u:b.parent=0;have d0:(b.parent==0)=true:=by simpa using u
  simp only[go_sem,Qj,y,Qo (Zb O.FZ),QI C,C,Ul,e0,d0];exact⟨_,rfl,V _ _ _ _ _ K MI jG Un (.inl u)⟩;have d0:(b.parent==0)=false:=by simpa using u
  simp only[go_sem,Qj,y,Qo (Zb O.FZ),QI C,C,Ul,e0,d0,vY,Qo sS,HW];refine⟨ω,(up T b.parent).length,⟨[(0,.ptr p 0 0 0),(6,.ref r (g+1) 0 (m.length+1+1)),(7,Qa b.parent)],_⟩,?_,QP,zV u⟩;have:=congrArg List.length (V0 I M);simp only[Kx]at this;omega
structure PN (S:Nat->Prop) (h:List Ob) (p:Nat) (T:List Ql) (A:List Int) (leaf:Int) (n:Nat) (s:St):Prop where
 ex:∃id dn c lo g row H S' b1 b2 b3 c1 c2 c3 ZU Jl Ve kl,up T leaf=dn++up T id/\Qw T id=some c/\(up T id).length<=n/\(∀i∈dn++[id],JE T (Kj A leaf) i=false) /\
  jE S' H p b1 b2 b3 c1 c2 c3 ZU Jl Ve kl T (Kj A leaf) (vU T A dn)/\(∀l,S' l->more S h l/\l<H.length)/\¬ S' lo/\h.length<=lo/\Step S h H /\
  H[lo]?=some ⟨.arr,g,1,dn.length+1,row⟩/\(∀i,i<dn.length+1->row i=[Qa ((dn++[id]).getD i 0)]) /\
  s=⟨[(0,.ptr p 0 0 0),(6,.ref lo g 0 (dn.length+1)),(7,Qa id)],H⟩
def PN.of{S h p T A a n b dn c e g k}(d){H}(f){t s r q o m u w v j}
  (x:up T a=dn++up T b) (C:Qw T b=some c) (z:(up T b).length<=n) (E:∀i∈dn++[b],JE T (Kj A a) i=false) (O:jE f H p t s r q o m u w v j T (Kj A a) (vU T A dn)) (F:∀l,f l->more S h l/\l<H.length) (L:¬ f e) (K:h.length<=e) (y:Step S h H)
  (B:k=dn.length+1) (J:H[e]?=some ⟨.arr,g,1,k,d⟩) (I:∀i,i<dn.length+1->d i=[Qa ((dn++[b]).getD i 0)]):PN S h p T A a n ⟨[(0,.ptr p 0 0 0),(6,.ref e g 0 k),(7,Qa b)],H⟩:=by
 subst B;exact⟨⟨b,dn,c,e,g,d,H,f,t,s,r,q,o,m,u,w,v,j,x,C,z,E,O,F,L,K,y,J,I,rfl⟩⟩
def QwW(T A a k):(if k=a then none else Bk T A k)=Bk T (Kj A a) k:=by unfold Bk Kj;by_cases h:k=a;subst h;simp;simp[h,JB]
def QwX{S h p T A}(O:jF S h p T A)(I:KF T)(hA:yU T A)(a)(c:Ql)(N:Qw T a=some c)(vX:c.leaf=true)(ja:1<QJ c.ls)(R:a∈A)(Z4:JE T (Kj A a) a=false):
  QO prog 214 h [.ptr p 0 0 0,Qa a] (λd h'=>∃d1,d=.tup [d1,Qa 0]/\Kt h.length h' d1 (XO T (Kj A a) a)/\jF (more S h) h' p T (Kj A a)/\Step S h h'):=by
 have O0:=O;have hR:=O.toR;obtain⟨b1,b2,b3,c1,c2,c3,ZU,Jl,Ve,kl,O⟩:=O;have x:=O.o;have z:=O.m1;have m2:=O.m2;have K:=O.m3;have sO:=Qb m2;have t:=O.f1.at_ a;rw[w9,N]at t;simp only[Qe ja,vX,ME,Vu]at t;have sQ:a≠0:=λe=>by rw[e,FR I]at N;cases N
 have MH:=PJ hR I hA a sQ;rw[(My R a).2 (.inl (Yp I N))]at MH;have M2:=O.f2.del a;refine Q9 func214 ntmps214 results214 λa3 w pl Q=>?_;have Qq:=Qb x;have Uj:=Qb z;simp only[go_sem,x,z,t];apply ZH Q TA MH;apply Qh Q;simp only[go_sem,Qj,x,m2];have Uk:PN S h p T A a (up T a).length ⟨[(0,.ptr p 0 0 0),(6,.ref h.length 0 0 1),(7,Qa a)],h.set b2 (QT .i64 c2 (J9 Jl a))++[⟨.arr,0,1,1,λ_=>[Qa a]⟩]⟩:=by
  have P:=((O.step (S':=λl=>S l/\l<h.length) λl f r=>⟨⟨r,f⟩,rfl⟩).QhN (c2':=c2) (A':=Kj A a) (M2.to λk=>QwW T A a k)).app [⟨.arr,0,1,1,λ_=>[Qa a]⟩];rw[<-show vU T A []=z7 T A from funext λp=>funext λi=>by simp[vU]]at P;refine PN.of (λ_=>[Qa a]) (λl=>S l/\l<h.length) (dn:=[]) rfl N (Qv _) (λi o=>?_) P (λl f=>⟨.inl f.1,by have:=f.2;simp;omega⟩) (λf=>by have:=f.2;omega) (Qv _) ⟨λl f r=>?_,σ⟩ rfl ?_ (λi o=>?_);simp only[qv,Xj]at o;rw[o];exact Z4;rw[QG (zC f),Qo (λ(e:b2=l)=>r (e▸O.s2))];rw[Vq σ];rfl;obtain rfl:i=0:=by simp at o;omega
  rfl
 refine Hy (PN S h p T A a) (up T a).length QP Uk ?_;clear Uk O z m2 K x t M2 MH O0 hR;rintro n s ⟨id,m,b,M,g,y,H,S',b1,b2,b3,c1,c2,c3,ZU,Jl,Ve,kl,B,q,hn,HV,O,Z,ZW,yY,Zd,vY,Z3,rfl⟩;have x:=O.o;have z:=O.m1;have K:=O.m3;have Qq:=Qb x;have Uj:=Qb z;have yh:=Qb K;have HW:=Qb vY;obtain⟨d0,X7,Kg⟩:=Qhg I N ja id (by rw[B];exact Lg _ (Yp I q));rw[q]at X7;cases X7;have t:=O.f1.at_ id;rw[w9,q]at t;simp only[Qe Kg]at t;have W:=O.f3.at_ b.parent;have a2:JE T A id=true:=(My R id).2 (.inl (by rw[B];exact Lg _ (Yp I q)));have a1:id ∉ m:=λhm=>by have nd:=TQ I a;rw[B,Ka]at nd;exact nd.2.2 id hm id (Yp I q) rfl
 have V:vU T A m b.parent id=true:=Pz.2 ⟨ya.2 ⟨b,q,rfl,a2⟩,a1⟩;have a0:∀j,j≠b.parent->∀i,vU T A (m++[id]) j i=vU T A m j i:=λj J i=>by rw[wz,Pz,Pz];constructor;exact λ⟨f,r⟩=>⟨f,λh3=>r (GZ _ h3)⟩;rintro⟨f,r⟩;refine⟨f,λh3=>?_⟩;rcases Q3.1 h3 with h3|h3;exact r h3;rw[Xj.1 h3]at f;obtain⟨e,h4,h5,_⟩:=ya.1 f;rw[q]at h4;cases h4;exact J h5.symm
 cases F:kl b.parent with
 | none=>rw[O.kn _ id F]at V;cases V
 | some l=>
  obtain⟨c,u,ml,fl⟩:=O.ks _ l F;have MG:=Qb ml;rw[DY,F,Kq]at W;obtain⟨n0,n1,n2,n3⟩:=O.nk _ l F;have sT:l≠M:=λe=>ZW (e▸O.sk _ l F);have M':Vk (J9 u id) (yX (vU T A (m++[id]) b.parent)):=(fl.del id).to λj=>by unfold yX vU;by_cases J:j=id;simp[J];simp[J]
  have E:=iz M';have P:=O.QhO (c':=c) (es':=J9 u id) (Kd':=vU T A (m++[id])) F M' a0;have jG:=Zd.Uh (Z l (O.sk _ l F)).1 (QT .i64 c (J9 u id));have Un:(H.set l (QT .i64 c (J9 u id)))[M]?=some ⟨.arr,g,1,m.length+1,y⟩:=(Qo sT).trans vY;have U:(b.parent=0\/JE T (Kj A a) b.parent=true) ->
    Kt h.length (H.set l (QT .i64 c (J9 u id))) (.ref M g 0 (m.length+1)) (XO T (Kj A a) a)/\jF (more S h) (H.set l (QT .i64 c (J9 u id))) p T (Kj A a)/\Step S h (H.set l (QT .i64 c (J9 u id))):=λhe=>by
   obtain⟨e1,e2⟩:=Qwo I R B q HV he;rw[<-e1];refine⟨.inr ⟨M,g,0,y,σ,⟨yY,rfl⟩,by simpa using Un,λi o=>?_⟩,?_,jG⟩;rw[JG];exact Z3 i (zC o);rw[show vU T A (m++[id])=z7 T (Kj A a) from funext λp=>funext λi=>e2 p i]at P;exact⟨_,_,_,_,_,_,_,_,_,_,P.step λl f r=>⟨(Z l r).1,rfl⟩⟩
  by_cases Y:∃i,vU T A (m++[id]) b.parent i=true;have Yh:=E.2 Y;have d2:decide ((0:Int)<((J9 u id).length:Int))=true:=QY ω;have he:b.parent=0\/JE T (Kj A a) b.parent=true:=by by_cases C:b.parent=0;exact .inl C;exact .inr ((Qhh I hA R B q HV C).1 Y)
  apply Qh Q;simp only[go_sem,x,z,K,t,W,ml,d2,Go.undef,Qo n0,Qo n3,QI MG];exact⟨_,rfl,U he⟩;have hz:¬ 0<(J9 u id).length:=λh=>Y (E.1 h);have d2:decide ((0:Int)<((J9 u id).length:Int))=false:=QN ω;by_cases C:b.parent=0;have d0:(b.parent==0)=true:=by simpa using C
  apply Qh Q;simp only[go_sem,x,z,K,t,W,ml,d2,d0,Qo n0,Qo n3,QI MG];exact⟨_,rfl,U (.inl C)⟩;have d0:(b.parent==0)=false:=by simpa using C
  have wY:m.length<=16:=by have e:=congrArg List.length B;have:=Bf (L:=T) (n:=16) (id:=a);rw[Zn]at e;unfold up at e;omega
  obtain⟨d,hd,a4⟩:=I.Jz b (yT I q) C;have FJ:JE T (Kj A a) b.parent=false:=by rw[jZ];exact λhq=>Y ((Qhh I hA R B q HV C).2 hq)
  have e1:(m++[id]).length+1=m.length+1+1:=σ;apply Qh Q;simp only[go_sem,Qj,x,z,K,t,W,ml,d2,d0,Qo n0,Qo n3,QI MG,Un,HW];refine⟨ω,(up T b.parent).length,⟨[(0,.ptr p 0 0 0),(6,.ref M (g+1) 0 (m.length+1+1)),(7,Qa b.parent)],_⟩,?_,QP,?_⟩;have:=congrArg List.length (V0 I q);simp only[Kx]at this;omega;refine PN.of (J8 (m.length+1) 0 y λ_=>[Qa b.parent]) S' (dn:=m++[id]) ?_ hd (Qv _) (λi o=>?_) (P.step (λj f r=>⟨r,?_⟩)) (λj J=>⟨(Z j J).1,?_⟩) ZW yY ((jG.Uh (.inr yY) _).sP _) e1.symm ?_ ?_;rw[B,V0 I q];simp;rcases Q3.1 o with o|o;exact HV i o;rw[Xj.1 o];exact FJ;rw[QG (zC f),Qo (λ(e:M=j)=>ZW (e▸r))];have:=(Z j J).2;simp;omega;rw[QG (zC HW),QI (zC HW)];rfl;intro i o;have:=Mt (dn:=m++[id]) (off:=0) (row:=y) (v:=b.parent) (λi o=>by rw[JG];exact Z3 i (zC o)) i (zC o);rw[JG]at this;simpa using this
def Qw1{T:List Ql}(e:WD T){k}(a:k<T.length)(j):Qw (T.take (k+1)) j=if j=(T.getD k default).iD then some (T.getD k default) else Qw (T.take k) j:=by
 rw[getD_take T default k a];unfold Qw;rw[List.find?_append];have g:T.getD k default∈T:=YZ T default k a;by_cases h:j=(T.getD k default).iD;rw[Qe h];have:List.find? (λc=>c.iD==j) (T.take k)=none:=by
  rw[j7];intro x hx b;have d:=e;rw[<-AF k T]at d;have f:=(bY.1 d).2.2 x hx (T.getD k default) (by rw[Sm a,QU,QH a];exact Jo ..)
  simp at b;omega
 rw[this];simp[h];rw[Qd h];have:((T.getD k default).iD==j)=false:=by simpa using Zb h
 simp only[vm,this,List.find?_nil,Option.or_none]
def QhU{h:List Ob}{t T}(R:XQ h t T)(I:KF T):QO prog 64 h [.ptr t 0 0 0] (λd F=>d=.ptr (h.length+3) 0 0 0/\jF (λl=>h.length<=l) F (h.length+3) T []/\∃g,F=h++g):=by
 have O:=I.len;have L:∀g,XQ (h++g) t T:=λg=>R.more HU;refine Q9 func64 ntmps64 results64 λP w Y a=>?_;simp only[go_sem,Qj,Qj];apply ZH a rf (sM (L _) ω);apply Qg a;refine ZY (λk Q=>∃c n g,Vk n (w9 (T.take k))/\Q=⟨[(0,.ptr t 0 0 0),(3,.ptr (h.length+3) 0 0 0),(15,ints (T.map (·.iD))),(16,Qa T.length),(17,Qa k)],h++(QT .i64 c n::QT .i64 0 []::QT .i64 0 []::iu h.length (h.length+1) (h.length+2)::g)⟩) T.length (s0:=⟨[(0,.ptr t 0 0 0),(3,.ptr (h.length+3) 0 0 0),(15,ints (T.map (·.iD))),(16,Qa T.length),(17,Qa 0)],h++(QT .i64 0 []::QT .i64 0 []::QT .i64 0 []::iu h.length (h.length+1) (h.length+2)::[])⟩) (Qs.frame (by simp only[go_sem,KJ])) ⟨0,[],[],Vk.nil.to λk=>by simp[w9,Qw],rfl⟩ ?_;rintro k _ Z ⟨c,n,g,M,rfl⟩;by_cases b:k<T.length;have H:=QY b;have C:(T.map (·.iD)).getD k 0=(T.getD k default).iD:=getD_map _ _ _ _ _ b;have K:T.getD k default∈T:=YZ T default k b;have E:Qw T (T.getD k default).iD=some (T.getD k default):=(VK I.rising).2 ⟨K,rfl⟩;have o:=Qw1 I.rising b;obtain⟨x,hx⟩:=Zc (T.getD k default);rw[<-hx]at C K E o;have v:=λg=>PI (L g) x.iD;rw[E]at v;simp only[Va,BL,Vu]at v;have s:∀j,w9 (T.take (k+1)) j=if j=x.iD then (if 1<QJ x.ls then some (.agg [Qa x.parent,Qa (ME x.leaf)]) else none) else w9 (T.take k) j:=λj=>by unfold w9;rw[o];by_cases m:j=x.iD;simp[m];simp[m]
 have S:w9 (T.take k) x.iD=none:=by
  unfold w9;have:Qw (T.take k) x.iD=none:=by
   rw[HM];intro y U e;have z:=I.rising;rw[<-AF k T]at z;have h2:=(bY.1 z).2.2 y U x (by rw[Sm b,hx,QU,QH b];exact Jo ..)
   omega
  rw[this]
 apply Qh a;simp only[go_sem,b,C,KJ];apply ZH a wQ (v _);apply Kh a;apply QZ a wR (wS x);apply Kh a;by_cases q:1<QJ x.ls;have r:=QY q;simp only[Qe q]at s;obtain⟨J,p,f,W⟩:=M.set .i64 c x.iD (.agg [Qa x.parent,Qa (ME x.leaf)]);simp only[go_sem]at f;have N:=W.to λj=>(s j).symm;have u:=JJ (show k<4611686018427387904 from ω);cases B:x.leaf with
 | true=>rw[B]at f;simp only[ME,Vu]at f;simp only[go_sem,Qj,r];apply Qy a i7;simp only[go_sem,Qj];simp only[f];exact⟨b,_,Qs.frame (by simp only[go_sem,u]),J,p,_,N,rfl⟩
 | false=>rw[B]at f;simp only[ME]at f;simp only[go_sem,Qj,r];apply Qy a i7;simp only[go_sem,Qj];simp only[qq,q5]at f;simp only[f];exact⟨b,_,Qs.frame (by simp only[go_sem,u]),J,p,_,N,rfl⟩
 have r:=QN q;simp only[Qd q]at s;have u:=JJ (show k<4611686018427387904 from ω);simp only[go_sem,r];refine⟨b,_,Qs.frame (by simp only[go_sem,u]),c,n,_,M.to λj=>?_,rfl⟩;rw[s];by_cases m:j=x.iD;rw[Qe m,m,S];rw[Qd m];have V:k=T.length:=ω;have H:=QN b;rw[V,Wo]at M;apply Qh a;simp only[go_sem,H];apply Qg a;refine⟨⟨h.length,h.length+1,h.length+2,c,0,0,n,[],[],λ_=>none,VS rfl,Vq rfl,M,VS rfl,Vk.nil.to (λj=>by simp[Bk]),VS rfl,Vk.nil.to (λj=>rfl),(λ_ _ e=>nomatch e),(λk i _=>by simp[z7,JE]),(λ_ _ _ e=>nomatch e),ω,ω,ω,ω,ω,ω,(λ_ _ e=>nomatch e),by show h.length<=_;omega,Qv _,by show h.length<=_;omega,by show h.length<=_;omega,(λ_ _ e=>nomatch e)⟩,_,rfl⟩
@[go_sem] def F2(a m:Nat):Ob:=⟨.one,0,2,1,λ_=>[.ptr a 0 0 0,.mref m 0]⟩
def DZ(x:It):Int × D:=(x.ki,.agg x.cells)
structure MJ (S:Nat->Prop) (h:List Ob) (p a m:Nat) (t:Tr) (c:Nat) (es:List ZL) (L:List It):Prop where
 o:h[p]?=some (F2 a m)
 av:Bi h a t L
 mo:h[m]?=some (QT .i64 c es)
 mp:YG es (L.map DZ)
 vi:∀x∈L,x.vi=x.ki
 pa:p≠a
 pm:p≠m
 am:a≠m
 pt:p ∉ t.QQ
 mt:m ∉ t.QQ
 sp:S p
 sa:S a
 sm:S m
 st:∀l∈t.QQ,S l
def Xd(S:Nat->Prop)(h:List Ob)(p:Nat)(L:List It):Prop:=∃a m t c b,MJ S h p a m t c b L
def sU{L:List It}(a:Int):look (L.map DZ) a=(L.find? λx=>x.ki==a).map λx=>.agg x.cells:=by unfold look;rw[List.find?_map,Sz];rfl
def Vz(a:Int)(L:List It):List It:=L.filter λx=>x.ki != a
def YH(a:Int)(c b:Nat)(L:List It):List It:=YF ⟨c,a,b,a⟩ (Vz a L)
def MJ.ids{S h p a m t c b}{L:List It}(T:MJ S h p a m t c b L):(L.map It.ki).Nodup:=by have:=T.mp.nd;rwa [Dj]at this
def sV{L:List It}(b:(L.map It.ki).Nodup){x:It}(i:x∈L):XP x.ka x.ki L=Vz x.ki L:=by
 unfold XP Vz;apply bW;intro y g;by_cases h:y.ki=x.ki;have d:y=x:=by
  have:∀{l:List It},(l.map It.ki).Nodup->∀{u v:It},u∈l->v∈l->u.ki=v.ki->u=v:=by
   intro l;induction l with
   | nil=>intro _ u v c;cases c
   | cons a l f=>intro b u v c j e;simp only[Jr,Z6,Jw,E8,not_and]at b;rcases QK.1 c with h1|h1<;>rcases QK.1 j with h2|h2;rw[h1,h2];exact absurd (by rw[<-e,h1]) (b.1 v h2);exact absurd (by rw[e,h2]) (b.1 u h1);exact f b.2 h1 h2 e
  exact this b g i h
 subst d;simp[Cw];have k:(y.ki==x.ki)=false:=by simpa using h
 simp[Cw,k,bne]
def sW{L:List It}{a}(h:(L.find? λx=>x.ki==a)=none):Vz a L=L:=by unfold Vz;rw[yx];intro x hx;have:=j7.1 h x hx;simpa using this
def sX(L a b):Y3 a b (Vz b L)=none:=by unfold Y3 Vz;rw[j7];intro x hx c;simp only[JB,bne_iff_ne,ne_eq]at hx;exact hx.2 (yd.1 c).2
def QhW(y):∀L:List It,(YF y L).Perm (y::L)
 | []=>Oe _
 | z::L=>by
  simp only[YF];split
  .exact(List.Perm.cons _ (QhW y L)).trans (List.Perm.swap _ _ _)
  exact Oe _
def sY(a)(L:List It):Cz (L.map DZ) a=(Vz a L).map DZ:=by unfold Cz Vz;rw[Sn];rfl
def Bi.set{h:List Ob}{a}{t:Tr}{L}(A:Bi h a t L){m}(o)(c:m≠a)(b:m ∉ t.QQ):Bi (h.set m o) a t L:=⟨(Qo c).trans A.o,A.is.set o b,A.list,A.nd,A.out,A.sorted⟩
def Qw3{a:Int}{c b}{L:List It}:(FY (L.map DZ) a (.agg (It.mk c a b a).cells)).Perm ((YH a c b L).map DZ):=by unfold FY YH;rw[sY];exact((QhW ⟨c,a,b,a⟩ (Vz a L)).map DZ).symm
def sZ(a)(L:List It):(Vz a L).length<=L.length:=Yg _ _
def MJ.fin{S h H e k p a m c n t f g J b L j}(T:MJ S h p a m t c J L)(s:Step S h H)
  (E:H[p]?=some (F2 a m)) (F:m<H.length) (i:e=H.set m (QT .i64 n b)) (v:m ∉ f.QQ) (u:p ∉ f.QQ) (r:∀l∈f.QQ,more S h l) (y:YG b (j.map DZ)) (q:∀x∈j,x.vi=x.ki)
  (A:Ub e a f j k g):Xd (more S h) k p j/\Step S h k:=by
 have P:e.length=H.length:=by rw[i,Ky]
 have O:=s.len;have M:e[p]?=some (F2 a m):=by rw[i,Qo (Zb T.pm)];exact E
 have K:e[m]?=some (QT .i64 n b):=by rw[i,QI F]
 have N:∀l,e.length<=l->h.length<=l:=λl d=>ω;have Q:=Qb T.o;have R:=Qb T.mo;refine⟨⟨a,m,g,n,b,?_,A.is,?_,y,q,T.pa,T.pm,T.am,?_,?_,.inl T.sp,.inl T.sa,.inl T.sm,?_⟩,⟨λl d h2=>?_,by have:=A.len;omega⟩⟩;rw[A.keep p ω T.pa u];exact M;rw[A.keep m ω (Zb T.am) v];exact K;intro d;rcases A.mem p d with h2|h2;exact u h2;omega;intro d;rcases A.mem m d with h2|h2;exact v h2;omega;intro l d;rcases A.mem l d with h2|h2;exact r l h2;exact .inr (N l h2);have C:l≠a:=by rintro rfl;exact h2 T.sa
 have B:l≠m:=by rintro rfl;exact h2 T.sm
 have z:l ∉ f.QQ:=λI=>by rcases r l I with w|w;exact h2 w;omega
 rw[A.keep l ω C z,i,Qo (Zb B)];exact s.keep l d h2
def MJ.done{S h H i h8 p a m c y t f t'' w e L d g b}(T:MJ S h p a m t c w L)(n:Step S h H)
  (s:H[p]?=some (F2 a m)) (u:m<H.length) (v:i=H.set m (QT .i64 y e)) (r:m ∉ f.QQ) (q:p ∉ f.QQ) (k:∀l∈f.QQ,more S h l) (j:YG e (FY (L.map DZ) d (.agg (It.mk g d b d).cells)))
  (A:Ub i a f (YH d g b L) h8 t''):Xd (more S h) h8 p (YH d g b L)/\Step S h h8:=
 T.fin n s u v r q k (j.to Qw3) (λx hx=>by rcases HT.1 hx with rfl|hx;rfl;exact T.vi x (JB.1 hx).1) A
def Qw5{S h p}{L:List It}(T:Xd S h p L)(b i f)(hs:L.length<400000):
  QO prog 205 h [.ptr p 0 0 0,Qa b,u64 i,u64 f] (λd Z=>Xd (more S h) Z p (YH b i f L)/\Step S h Z):=by
 obtain⟨a,m,t,c,es,T⟩:=T;have j:=T.o;have r:=T.mo;have ha:=T.av.o;have s:=T.mp.look b;rw[sU]at s;cases u:L.find? λx=>x.ki==b with
 | none=>rw[u,qY]at s;have zA:=sW u;obtain⟨O,o,N,Q⟩:=T.mp.set .i64 c b (.agg (It.mk i b f b).cells);have M:Kb .i64 c es b (.agg [.raw (.int .u64 i),.raw (.int .i64 b),.raw (.int .u64 f),.raw (.int .i64 b)])=QT .i64 O o:=N;refine Q9 func205 ntmps205 results205 λC w pl g=>?_;have k:=Qb j;have q:=Qb r;simp only[go_sem,Qj,j,k,r,q,s];apply Qy g i7;simp only[go_sem,Qj,j,k,r,q];simp only[M];apply VI [8] g [0,1,2,3,4,5,6,7,1008,9] [];simp only[go_sem,Qj,j,k,Qo (Zb T.pm)];refine vO g ru (Uc (tl:=a) (t:=t) (L:=Vz b L) (by rw[zA];exact(T.av.set _ (Zb T.am) T.mt).app _) ⟨i,b,f,b⟩ (sX L i b) (by have:=sZ b L;omega)) λd h8 v=>?_;obtain⟨rfl,V,U⟩:=v;apply ZB g;exact T.done (H:=h++_) (Step.app S h _) (QG k |>.trans j) ξ (DO q).symm T.mt T.pt (λl J=>.inl (T.st l J)) Q U
 | some x=>
  rw[u,Kq]at s;obtain⟨O,o,N,Q⟩:=T.mp.set .i64 c b (.agg (It.mk i b f b).cells);have M:Kb .i64 c es b (.agg [.raw (.int .u64 i),.raw (.int .i64 b),.raw (.int .u64 f),.raw (.int .i64 b)])=QT .i64 O o:=N;refine Q9 func205 ntmps205 results205 λC w pl g=>?_;have k:=Qb j;have q:=Qb r;simp only[go_sem,Qj,j,k,r,q,s];apply VI [6] g [0,1,2,3,4,5,1006] [];simp only[go_sem,Qj,j,k];have WT:x∈L:=xG u;have P:x.ki=b:=by have:=yy u;simpa using this
  have MK:XP x.ka b L=Vz b L:=by rw[<-P];exact sV T.ids WT
  have QE:Y3 x.ka b L≠none:=λe=>by unfold Y3 at e;have:=j7.1 e x WT;exact this (yd.2 ⟨rfl,P⟩)
  have ta:∀l∈t.QQ,l<h.length:=T.av.is.lt;have qH:=Qb ha;refine yP g rB rfl ?_ (sI (tl:=a) (t:=t) (L:=L) (T.av.app _) x.ka b QE ω) rfl λd y v=>?_;simp only[go_sem,P];obtain⟨rfl,F,n⟩:=v;rw[MK]at n;have a1:h.length+2<=y.length:=by have:=n.len;simpa using this
  have I:∀l,l<h.length->l≠a->l ∉ t.QQ->y[l]? = h[l]? := λl h1 h2 K=>(n.keep l ξ h2 K).trans (QG h1);have E:y[p]? = _:=(I p k T.pa T.pt).trans j;have B:y[m]? = _:=(I m q (Zb T.am) T.mt).trans r;have R:=(n.keep h.length σ ω (λh1=>by have:=ta _ h1;omega)).trans (Vq rfl);have a0:=Qb E;have Y:=Qb B;have iE:=Qb R;have z:m ∉ F.QQ:=λh1=>by rcases n.mem m h1 with h2|h2;exact T.mt h2;simp only[Zn]at h2;omega
  have W:p ∉ F.QQ:=λh1=>by rcases n.mem p h1 with h2|h2;exact T.pt h2;simp only[Zn]at h2;omega
  have F3:m≠h.length:=ω;apply ZB g;apply Qy g i7;simp only[go_sem,E,B,R];simp only[M];apply VI [8] g [0,1,2,3,4,5,6,7,1008,9] [];simp only[go_sem,E,R,Qo (Zb T.pm),Qo F3];refine vO g ru (Uc (tl:=a) (t:=F) (L:=Vz b L) (n.is.set _ (Zb T.am) z) ⟨i,b,f,b⟩ (sX L i b) (by have:=sZ b L;omega)) λd h8 v=>?_;obtain⟨rfl,V,U⟩:=v;apply ZB g;refine T.done (H:=y) ⟨λl h1 h2=>I l h1 (by rintro rfl;exact h2 T.sa) (λK=>h2 (T.st l K)),ω⟩ E Y rfl z W (λl J=>?_) Q U;rcases n.mem l J with h1|h1;exact .inl (T.st l h1);simp only[Zn]at h1;exact .inr ω
def VM{h F:List Ob}(a:F=h.map Ob.ro)(l:Nat)(o:Ob)(e:(h.map Ob.ro)[l]?=some o):(F.map Ob.ro)[l]?=some o:=by have:=HQ (g:=[]) a l o e;rwa [JN]at this
structure Qw8 (h:List Ob) (p a m:Nat) (t:Tr) (c:Nat) (es:List ZL) (L:List It):Prop where
 o:(h.map Ob.ro)[p]?=some (F2 a m).ro
 ao:(h.map Ob.ro)[a]?=some (yg t).ro
 is:jC h t
 list:t.list=L
 sorted:Vy L
 mo:(h.map Ob.ro)[m]?=some (QT .i64 c es).ro
 mp:YG es (L.map DZ)
def F4(h:List Ob)(p:Nat)(L:List It):Prop:=∃a m t c b,Qw8 h p a m t c b L
def Xd.toR{S h p L}:Xd S h p L->F4 h p L:=λ⟨a,m,t,c,b,T⟩=>⟨a,m,t,c,b,Jf T.o,Jf T.av.o,T.av.is.toR,T.av.list,T.av.sorted,Jf T.mo,T.mp⟩
def F4.more{h h':List Ob}{p L}(e:∀(l:Nat) (o:Ob),(h.map Ob.ro)[l]?=some o->(h'.map Ob.ro)[l]?=some o):F4 h p L->F4 h' p L:=λ⟨a,m,t,c,b,T⟩=>⟨a,m,t,c,b,e _ _ T.o,e _ _ T.ao,T.is.more e,T.list,T.sorted,e _ _ T.mo,T.mp⟩
def Xd.frame{S}{h b:List Ob}{p L}(e:∀l,S l->l<h.length->b[l]? = h[l]?):Xd S h p L->Xd S b p L:=λ⟨a,m,t,c,i,T⟩=>
 have k:∀l o,S l->h[l]?=some o->b[l]?=some o:=λl o g f=>(e l g (Qb f)).trans f
 ⟨a,m,t,c,i,k _ _ T.sp T.o,⟨k _ _ T.sa T.av.o,T.av.is.frame λl d=>e l (T.st l d) (T.av.is.lt l d),T.av.list,T.av.nd,T.av.out,T.av.sorted⟩,k _ _ T.sm T.mo,T.mp,T.vi,T.pa,T.pm,T.am,T.pt,T.mt,T.sp,T.sa,T.sm,T.st⟩
def Xd.mono{S b h p L}(e:∀l,S l->b l):Xd S h p L->Xd b h p L:=λ⟨a,m,t,c,f,T⟩=>⟨a,m,t,c,f,T.o,T.av,T.mo,T.mp,T.vi,T.pa,T.pm,T.am,T.pt,T.mt,e _ T.sp,e _ T.sa,e _ T.sm,λl d=>e l (T.st l d)⟩
section
variable {h:List Ob}{p:Nat}{L:List It}(T:F4 h p L)
include T
theorem Qw9(b):Zl prog 208 h [.ptr p 0 0 0,u64 b] (λd=>d=.tup [Qa ((L.find? λx=>decide (x.va<=min b 9223372036854775807)).getD default).ki,QV (L.find? λx=>decide (x.va<=min b 9223372036854775807)).isSome]):=by obtain⟨a,m,t,c,v,T⟩:=T;obtain⟨e,f,l,n,s,u,mp⟩:=T;have o:min (b:Int) 9223372036854775807=((min b 9223372036854775807:Nat):Int):=ω;have k:=f;refine ZN func208 ntmps208 results208 λj w r F g y i=>?_;rw[<-g]at e f;have z:=Qb e;have q:=Qb f;simp only[go_sem,e,o];apply ZH i Qve (QwI (VM g _ _ k) (l.more (VM g)) (min b 9223372036854775807));apply Kh i;subst n;exact⟨_,rfl,rfl⟩
theorem Qxa:Zl prog 147 h [.ptr p 0 0 0] (λd=>d=.tup [u64 (L.head?.getD default).ka,QV L.head?.isSome]):=by obtain⟨a,m,t,c,s,T⟩:=T;obtain⟨b,e,k,l,q,r,mp⟩:=T;have j:=e;refine ZN func147 ntmps147 results147 λi w o F f u g=>?_;rw[<-f]at b e;have v:=Qb b;have n:=Qb e;simp only[go_sem,b];apply ZH g Qgq (QhC (VM f _ _ j) (k.more (VM f)));apply Kh g;subst l;exact⟨_,rfl,rfl⟩
theorem tc:Zl prog 216 h [.ptr p 0 0 0] (λd=>d=Qa L.length):=by
 obtain⟨a,m,t,c,j,T⟩:=T;obtain⟨b,f,o,r,q,e,mp⟩:=T;have k:j.length=L.length:=by rw[mp.len,KJ]
 refine ZN func216 ntmps216 results216 λg w n F i v s=>?_;rw[<-i]at b f e;have x:=Qb b;have l:=Qb f;have u:=Qb e;simp only[go_sem,b,e,k];exact⟨[],σ⟩
def CD(L:List It):Nat:=L.foldl (λo x=>min o x.va) never
omit T in
theorem tf:∀(L:List It) (o:Nat),L.foldl (λo x=>min o x.va) o<=o/\(∀x∈L,L.foldl (λo x=>min o x.va) o<=x.va)/\(L.foldl (λo x=>min o x.va) o=o\/∃x∈L,L.foldl (λo x=>min o x.va) o=x.va)
 | [],o=>⟨Qv _,σ,.inl rfl⟩
 | y::L,o=>by obtain⟨d,c,a⟩:=tf L (min o y.va);simp only[qX];refine⟨ω,λx hx=>?_,?_⟩;rcases QK.1 hx with rfl|hx;omega;exact c x hx;rcases a with a|⟨x,hx,a⟩;rw[a];by_cases b:o<=y.va;exact .inl (wC b);exact .inr ⟨y,σ,kb ω⟩;exact .inr ⟨x,by simp[hx],a⟩
omit T in
theorem Qxb{x:It}{L}(h:Wa x L):CD L=min x.va never:=by obtain⟨e,c,a⟩:=tf L never;unfold CD;have d:=c x h.mem;rcases a with a|⟨y,b,a⟩;omega;have:=h.va b;omega
theorem QhZ(y:∀x∈L,x.ka<=18446744073709551615):Zl prog 163 h [.ptr p 0 0 0] (λd=>d=u64 (CD L)):=by
 have o:=T;obtain⟨a,m,t,c,E,T⟩:=T;obtain⟨f,g,u,n,v,C,mp⟩:=T;have q:=g;by_cases l:L=[];have d0:((L.length:Int)==0)=true:=by simp[l]
 refine ZN func163 ntmps163 results163 λk w s F e z b=>?_;rw[<-e]at f g;have B:=Qb f;have r:=Qb g;simp only[go_sem];apply ZH b ry (tc (o.more (VM e)));apply Qh b;simp only[go_sem,d0];subst l;exact⟨[],by simp[CD,never]⟩;have d0:((L.length:Int)==0)=false:=by simp[l]
 refine ZN func163 ntmps163 results163 λk w s F e z b=>?_;rw[<-e]at f g;have B:=Qb f;have r:=Qb g;simp only[go_sem];apply ZH b ry (tc (o.more (VM e)));apply Qh b;simp only[go_sem,f,d0];apply Qg b;apply ZH b Qgu (QhE (VM e _ _ q) (u.more (VM e)) 18446744073709551615);apply Kh b;have i:=Tr.TZ 18446744073709551615 t none [] (by rw[n];exact v) rfl;rw[n,qv,yx.2 (λx hx=>by simpa using y x hx)]at i;refine⟨_,rfl,?_⟩;cases j:t.jD 18446744073709551615 none with
 | none=>rw[j]at i;exact absurd i l
 | some x=>rw[j]at i;rw[Qxb i];simp only[Va,never];congr 2;omega
end
def iF(a:Int)(L:List It):Bool:=(L.find? λx=>x.ki==a).isSome
def Qxc{S h p}{L:List It}(T:Xd S h p L)(b)(R:L.length<400000):
  QO prog 215 h [.ptr p 0 0 0,Qa b] (λd u=>d=Qa (if iF b L then 0 else 6)/\Xd (more S h) u p (Vz b L)/\Step S h u):=by
 have K:=T;obtain⟨a,m,t,c,W,T⟩:=T;have f:=T.o;have k:=T.mo;have F:=T.av.o;have g:=T.mp.look b;rw[sU]at g;unfold iF;cases i:L.find? λx=>x.ki==b with
 | none=>rw[i,qY]at g;refine Q9 func215 ntmps215 results215 λj w C n=>?_;have o:=Qb f;have q:=Qb k;simp only[go_sem,Qj,f,k,g];rw[sW i];exact⟨rfl,(K.frame λl V J=>QG J).mono λl r=>.inl r,Step.app S h _⟩
 | some x=>
  rw[i,Kq]at g;have v:x∈L:=xG i;have s:x.ki=b:=by have:=yy i;simpa using this
  have N:XP x.ka b L=Vz b L:=by rw[<-s];exact sV T.ids v
  have M:Y3 x.ka b L≠none:=λe=>by unfold Y3 at e;have:=j7.1 e x v;exact this (yd.2 ⟨rfl,s⟩)
  have O:∀l∈t.QQ,l<h.length:=T.av.is.lt;have Q:=Qb F;have z:=T.mp.del b;rw[sY]at z;refine Q9 func215 ntmps215 results215 λj w C n=>?_;have o:=Qb f;have q:=Qb k;simp only[go_sem,Qj,f,o,k,q,g];apply VI [6] n [0,1,2,3,4,5,1006,7] [];simp only[go_sem,Qj,f,o,Qo (Zb T.pm)];refine yP n rB rfl ?_ (sI (tl:=a) (t:=t) (L:=L) ((T.av.set _ (Zb T.am) T.mt).app _) x.ka b M ω) rfl λd U I=>?_;simp only[go_sem,s];obtain⟨rfl,P,B⟩:=I;rw[N]at B;apply ZB n;exact⟨rfl,T.fin (H:=h++_) (Step.app S h _) ((QG o).trans f) ξ (DO q).symm T.mt T.pt (λl r=>.inl (T.st l r)) z (λy E=>T.vi y (JB.1 E).1) B⟩
def Qh1(h:List Ob):QO prog 92 h [] (λd b=>d=.ptr h.length 0 0 0/\b=h++[yg .nil]):=by refine Q9 func92 ntmps92 results92 λa w c e=>?_;simp only[go_sem]
def Qh2{S h p}{L:List It}(T:Xd S h p L)(b)(R:L.length<400000):
  QO prog 200 h [.ptr p 0 0 0,Qa b] (λd u=>d=Qa (if iF b L then 0 else 6)/\Xd (more S h) u p (Vz b L)/\Step S h u):=by
 have K:=T;obtain⟨a,m,t,c,W,T⟩:=T;have f:=T.o;have k:=T.mo;have F:=T.av.o;have g:=T.mp.look b;rw[sU]at g;unfold iF;cases i:L.find? λx=>x.ki==b with
 | none=>rw[i,qY]at g;refine Q9 func200 ntmps200 results200 λj w C n=>?_;have o:=Qb f;have q:=Qb k;simp only[go_sem,Qj,f,k,g];rw[sW i];exact⟨rfl,(K.frame λl V J=>QG J).mono λl r=>.inl r,Step.app S h _⟩
 | some x=>
  rw[i,Kq]at g;have v:x∈L:=xG i;have s:x.ki=b:=by have:=yy i;simpa using this
  have N:XP x.ka b L=Vz b L:=by rw[<-s];exact sV T.ids v
  have M:Y3 x.ka b L≠none:=λe=>by unfold Y3 at e;have:=j7.1 e x v;exact this (yd.2 ⟨rfl,s⟩)
  have O:∀l∈t.QQ,l<h.length:=T.av.is.lt;have Q:=Qb F;have z:=T.mp.del b;rw[sY]at z;refine Q9 func200 ntmps200 results200 λj w C n=>?_;have o:=Qb f;have q:=Qb k;simp only[go_sem,Qj,f,o,k,q,g];apply VI [6] n [0,1,2,3,4,5,1006,7] [];simp only[go_sem,Qj,f,o,Qo (Zb T.pm)];refine yP n rB rfl ?_ (sI (tl:=a) (t:=t) (L:=L) ((T.av.set _ (Zb T.am) T.mt).app _) x.ka b M ω) rfl λd U I=>?_;simp only[go_sem,s];obtain⟨rfl,P,B⟩:=I;rw[N]at B;apply ZB n;exact⟨rfl,T.fin (H:=h++_) (Step.app S h _) ((QG o).trans f) ξ (DO q).symm T.mt T.pt (λl r=>.inl (T.st l r)) z (λy E=>T.vi y (JB.1 E).1) B⟩
section
variable {h:List Ob}{p:Nat}{L:List It}(T:F4 h p L)
include T
theorem Qh3:Zl prog 219 h [.ptr p 0 0 0] (λd=>d=Qa L.length):=by
 obtain⟨a,m,t,c,j,T⟩:=T;obtain⟨b,f,o,r,q,e,mp⟩:=T;have k:j.length=L.length:=by rw[mp.len,KJ]
 refine ZN func219 ntmps219 results219 λg w n F i v s=>?_;rw[<-i]at b f e;have x:=Qb b;have l:=Qb f;have u:=Qb e;simp only[go_sem,b,e,k];exact⟨[],σ⟩
theorem Qxd(b):Zl prog 207 h [.ptr p 0 0 0,u64 b] (λd=>∃o,yV o (L.filter λx=>decide (x.ka<=min b 9223372036854775807))/\d=.tup [Qa (o.getD default).ki,QV o.isSome]):=by obtain⟨a,m,t,c,B,T⟩:=T;obtain⟨e,f,q,i,r,z,mp⟩:=T;have u:min (b:Int) 9223372036854775807=((min b 9223372036854775807:Nat):Int):=ω;have n:=f;have k:=Tr.TZ (min b 9223372036854775807) t none [] (by rw[i];exact r) rfl;rw[i,qv]at k;refine Zl.mono (R:=λd=>d=.tup [Qa ((t.jD (min b 9223372036854775807) none).getD default).ki,QV (t.jD (min b 9223372036854775807) none).isSome]) ?_ (λd s=>⟨_,k,s⟩);refine ZN func207 ntmps207 results207 λl w y F g C j=>?_;rw[<-g]at e f;have E:=Qb e;have v:=Qb f;simp only[go_sem,e,u];apply ZH j Qgu (QhE (VM g _ _ n) (q.more (VM g)) (min b 9223372036854775807));apply Kh j;exact⟨_,rfl⟩
theorem Qxe:Zl prog 162 h [.ptr p 0 0 0] (λd=>d=u64 (match L.head? with|some x=>min x.ka never|none=>never)):=by
 have k:=T;obtain⟨a,m,t,c,z,T⟩:=T;obtain⟨f,g,q,r,v,y,mp⟩:=T;have l:=g;cases j:L with
 | nil=>
  have d0:((L.length:Int)==0)=true:=by simp[j]
  refine ZN func162 ntmps162 results162 λi w o F e s b=>?_;rw[<-e]at f g;have u:=Qb f;have n:=Qb g;simp only[go_sem];apply ZH b Qgt (Qh3 (k.more (VM e)));apply Qh b;simp only[go_sem,d0];exact⟨[],by simp[never]⟩
 | cons x M=>
  have d0:((L.length:Int)==0)=false:=by simp[j];omega
  refine ZN func162 ntmps162 results162 λi w o F e s b=>?_;rw[<-e]at f g;have u:=Qb f;have n:=Qb g;simp only[go_sem];apply ZH b Qgt (Qh3 (k.more (VM e)));apply Qh b;simp only[go_sem,f,d0];apply Qg b;apply ZH b Qgq (QhC (VM e _ _ l) (q.more (VM e)));apply Kh b;refine⟨_,rfl,?_⟩;rw[r,j];congr 2;show min (x.ka:Int) 9223372036854775808=((min x.ka never:Nat):Int);simp only[never];omega
end
def Qh4{S h p}{L:List It}(T:Xd S h p L)(b f e)(I:L.length<400000):
  QO prog 146 h [.ptr p 0 0 0,Qa b,u64 f,u64 e] (λd B=>Xd (more S h) B p (YH b f e L)/\Step S h B):=by
 have P:=T;obtain⟨a,m,t,c,C,T⟩:=T;have g:=T.o;refine Q9 func146 ntmps146 results146 λE w U i=>?_;have j:=Qb g;simp only[go_sem];refine ZT i Qgp (Qh2 P b I) λd z n=>?_;obtain⟨rfl,O,s⟩:=n;obtain⟨a,m,t,c,C,T⟩:=O;have g:=T.o;have x:=T.mo;have V:=T.av.o;have j:=Qb g;have u:=Qb x;have F:Vz b (Vz b L)=Vz b L:=by unfold Vz;rw[List.filter_filter];simp
 obtain⟨N,r,M,Q⟩:=T.mp.set .i64 c b (.agg (It.mk f b e b).cells);have K:Kb .i64 c C b (.agg [.raw (.int .u64 f),.raw (.int .i64 b),.raw (.int .u64 e),.raw (.int .i64 b)])=QT .i64 N r:=M;apply Kh i;apply Qy i i7;simp only[go_sem,Qj,g,j,x,u];simp only[K];apply VI [8] i [0,1,2,3,4,5,6,7,1008,9] [];simp only[go_sem,Qj,g,j,Qo (Zb T.pm)];refine vO i ru (Uc (tl:=a) (t:=t) (L:=Vz b L) ((T.av.set _ (Zb T.am) T.mt).app _) ⟨f,b,e,b⟩ (sX L f b) (by have:=sZ b L;omega)) λd J n=>?_;obtain⟨rfl,q,R⟩:=n;apply ZB i;have v:YH b f e (Vz b L)=YH b f e L:=by unfold YH;rw[F]
 have o:=T.done (H:=z++_) (h8:=J) (t'':=q) (Step.app _ z _) ((QG j).trans g) ξ (DO u).symm T.mt T.pt (λl k=>.inl (T.st l k)) Q (by rw[v];exact R);rw[v]at o;have W:=s.len;exact⟨o.1.mono λl k=>k.elim (λy=>y) λy=>.inr ω,s.trans o.2⟩
end Go.Fg.X
namespace Go.Fg
open Go.RowKit (Below)
section
variable {P:Program}{L:Jt}{base nt:Nat}{s:St}{o:Oper}
def Qxf{t e:TypeId}{y:Ty}{k:IntKind}(c:P.underlying t=some (.slice e))(a:Xl P e y)(E:y.zero.length=y.size)(N:0<y.size)(w:World)(n:Nat)
  (r:n<=4294967296) (v:y.bytes<=1024) :
  (Instr.makeSlice t (.int k n) (.int k n)).run P w=.ok (.slice (some ⟨w.heap.size,0,none⟩) n n) (w.alloc (.cells (flat n y.size λ_ j=>Q8 y.zero j).toArray e)):=by
 obtain⟨z,b,B⟩:=a.zeroValue;obtain⟨i,g,M,J⟩:=a.typeInfo w;have m:∀w,(typeInfo e).run P w=.ok i w:=λw=>by
  have h:=a.info;cases hx:P.info? e with
  | none=>rw[hx]at h;cases h
  | some k=>simp[typeInfo,hx]at g ⊢;exact g
 have F:IntKind.i64.wrap (n:Int)=n:=by rw[IntKind.wrap_i64];omega
 have u:¬ (281474976710656<(i.bytes:Int)*(n:Int)):=by have q:y.bytes*n<=1024*4294967296:=Xk v r;rw[<-zO,J];omega
 have I:¬ ((n:Int)<0):=ω;have p:z.cells.size=y.size:=by rw[<-E,<-b];simp
 have x:(flat n y.size λ_ j=>Q8 y.zero j).toArray=(Array.range (n*y.size)).map (z.cells[· % z.cells.size]!):=by
  apply Array.ext;simp[zS];intro j l O;simp only[G0,zS]at l;obtain⟨d1,d2,d3⟩:=div_lt l;have H:y.zero=z.cells.toList:=b.symm;have f:j%y.size<z.cells.size:=by rw[p];exact d2
  simp[flat,Q8,H,QU,p];rw[getElem!_pos z.cells _ f,jY f];rfl
 rw[x];by_cases d:n=0;subst d;have C:IntKind.i64.wrap 0=0:=rfl;simp[Instr.makeSlice,run_underlying c,a.sizeOf,m,asInt,asIntOf,newRow,C];congr 2;apply Array.ext<;>simp;have K:¬ (n*y.size=0):=Nat.mul_ne_zero d ω;simp[Instr.makeSlice,run_underlying c,a.sizeOf,m,B,asInt,asIntOf,F,I,K,u,newRow]
def Qxg(p:Jm P L){t e:TypeId}{x0 x:Operand}{n:Nat}{a b:Nat}{z:List Value}{y:Ty}{k:IntKind}(K:o.op=.makeSlice t x x)(F:Qr s.fr x=.raw (.int k n))
  (I:ty L t=some ⟨.slice e,a,b,z⟩) (S:ty L e=some y) (d:y.zero.length=y.size) (J:0<y.size) (B:n<=4294967296) (C:y.bytes<=1024) :
  ko P base nt o s (s.h++[⟨.arr,0,y.size,n,λ_=>y.zero.map Ke⟩]) (.ref s.h.length 0 0 n):=by
 intro Z c U w r u;have g:=r.eval x;rw[F]at g;have H:=JI g;have E:=p _ _ S;have O:c.length=s.h.length:=r.o.len;have Q:=Qxf (k:=k) (yA (p _ _ I) rfl) E d J w n B C;have f:∀b,b<w.heap.size->(w.alloc (.cells (flat n y.size λ_ j=>Q8 y.zero j).toArray e)).heap[b]? = w.heap[b]? := λb N=>xK w _ b N;have v:(w.alloc (.cells (flat n y.size λ_ j=>Q8 y.zero j).toArray e)).heap[w.heap.size]?=some (.cells (flat n y.size λ_ j=>Q8 y.zero j).toArray e (0,0)):=heap_alloc_new w _;have T:Tr s.h c w (s.h++[⟨.arr,0,y.size,n,λ_=>y.zero.map Ke⟩]) (c++[some (w.heap.size,0)]) (w.alloc (.cells (flat n y.size λ_ j=>Q8 y.zero j).toArray e)):=Tr.push r.o f _ _ (by intro b q h;simp at h;omega);refine⟨.slice (some ⟨w.heap.size,0,none⟩) n n,_,_,.inl ?_,T,Zo.push r.o f _ rfl (Qv _) u v (by simp[zS]) (λi m=>by simp[d]) (λi j m l=>⟨Q8 y.zero j,?_,?_⟩),.ref _ _ _ _ ⟨.arr,0,y.size,n,λ_=>y.zero.map Ke⟩ (some (w.heap.size,0)) _ _ σ (by rw[<-O];simp) rfl (Qv _) (λ_=>.inr ⟨w.heap.size,0,_,_,rfl,σ,v,?_,Qv _⟩),Fe u _,λ_=>f⟩;simp only[execOp,K,H,Q,Sem.run_bind,Result.andThen_ok,Sem.run_pure];have M:=Ha (vs:=λ_ j=>Q8 y.zero j) m l;rw[JG];simpa using M;have R:j<y.zero.length:=by rw[d];exact l
 have:nth (y.zero.map Ke) j=Ke (Q8 y.zero j):=by simp[nth,Q8,QU,R]
 show QF Z _ _ _ (nth (y.zero.map Ke) j) _;rw[this];exact .cl _ _ (Ds _ _ _);simp[zS]
end
section
variable {P:Program}{L:Jt}{base nt:Nat}{w0:Start}{Q:Exit->St->Prop}
def Qxh(v:Jm P L)(u:base<=w0.w.heap.size){k:List Item}{c:Option Nat}{B:TypeId}{pos:String}{d:Array Edge}{w:Option (Nat × Bool)}{r:List (Oper × G)}{s:St}{t e:TypeId}{x:Operand}{n:Nat}{a b:Nat}{g:List Value}{y:Ty}{j:IntKind}
  (m:Qr s.fr x=.raw (.int j n)) (o:ty L t=some ⟨.slice e,a,b,g⟩) (z:ty L e=some y) (l:y.zero.length=y.size) (p:0<y.size) (h:n<=4294967296) (i:y.bytes<=1024) (q:Zr nt c=true)
  (f:QA P base nt w0 Q (.ops r::k) .normal ⟨Zi s.fr c (.ref s.h.length 0 0 n),s.h++[⟨.arr,0,y.size,n,λ_=>y.zero.map Ke⟩]⟩) :
  QA P base nt w0 Q (.ops ((⟨c,.makeSlice t x x,B,pos,d,w⟩,none)::r)::k) .normal s:=by
 simp only[QA]at f ⊢;exact eA u (Qxg (x0:=x) v rfl m o z l p h i) q f
end
end Go.Fg
namespace Go.Fg.X
open Go.Proofs Go.Fg
open Go.Proofs.Tryz
@[go_sem] def Up(a b first n:Nat):Ob:=⟨.one,0,3,1,λ_=>[.ref a 0 0 b,Qa first,Qa n]⟩
structure Qxi (S:Nat->Prop) (h:List Ob) (r a room first:Nat) (row:Nat->List D) (L:List Pk):Prop where
 o:h[r]?=some (Up a room first L.length)
 ao:h[a]?=some ⟨.arr,0,6,room,row⟩
 ra:r≠a
 fl:first<room
 len:L.length<=room
 yZ:room<=64
 rows:∀i,i<L.length->row ((first+i)%room)=(L.getD i default).cells
 lens:∀i,i<room->(row i).length=6
 sr:S r
 sa:S a
def vZ(S:Nat->Prop)(h:List Ob)(r b:Nat)(L:List Pk):Prop:=∃a first c,Qxi S h r a b first c L
structure ML (h:List Ob) (r a room first:Nat) (row:Nat->List D) (L:List Pk):Prop where
 o:(h.map Ob.ro)[r]?=some (Up a room first L.length).ro
 ao:(h.map Ob.ro)[a]?=some (⟨.arr,0,6,room,row⟩:Ob).ro
 fl:first<room
 len:L.length<=room
 yZ:room<=64
 rows:∀i,i<L.length->row ((first+i)%room)=(L.getD i default).cells
def Uq(h:List Ob)(r b:Nat)(L:List Pk):Prop:=∃a first c,ML h r a b first c L
def vZ.toR{S h r b L}:vZ S h r b L->Uq h r b L:=λ⟨a,f,c,T⟩=>⟨a,f,c,Jf T.o,Jf T.ao,T.fl,T.len,T.yZ,T.rows⟩
def ML.more{h h':List Ob}{r a b first c L}(e:∀(l:Nat) (o:Ob),(h.map Ob.ro)[l]?=some o->(h'.map Ob.ro)[l]?=some o)(T:ML h r a b first c L):ML h' r a b first c L:=⟨e _ _ T.o,e _ _ T.ao,T.fl,T.len,T.yZ,T.rows⟩
def Uq.more{h h':List Ob}{r b L}(e:∀(l:Nat) (o:Ob),(h.map Ob.ro)[l]?=some o->(h'.map Ob.ro)[l]?=some o):Uq h r b L->Uq h' r b L:=λ⟨a,f,c,T⟩=>⟨a,f,c,e _ _ T.o,e _ _ T.ao,T.fl,T.len,T.yZ,T.rows⟩
def vZ.frame{S}{h d:List Ob}{r b L}(e:∀l,S l->l<h.length->d[l]? = h[l]?):vZ S h r b L->vZ S d r b L:=λ⟨a,f,c,T⟩=>⟨a,f,c,(e _ T.sr (Qb T.o)).trans T.o,(e _ T.sa (Qb T.ao)).trans T.ao,T.ra,T.fl,T.len,T.yZ,T.rows,T.lens,T.sr,T.sa⟩
def Qh5{h:List Ob}{r a b first n:Nat}{e:Nat->List D}(c:(h.map Ob.ro)[r]?=some (Up a b first n).ro)(f:(h.map Ob.ro)[a]?=some (⟨.arr,0,6,b,e⟩:Ob).ro)(q:first<b)(m:b<=64)(i:Nat)(s:i<=64):
  Zl prog 193 h [.ptr r 0 0 0,Qa i] (λd=>d=Qa ((first+i)%b:Nat)):=by
 have l:IntKind.i64.wrap ((first:Int)+i)=((first+i:Nat):Int):=ZE;refine ZN func193 ntmps193 results193 λg w p F k t j=>?_;rw[<-k]at c f;have u:=Qb c;have o:=Qb f;simp only[go_sem];apply Qy j [0,1,2,3,4,5,6,7,8,9,10,11,12];simp only[go_sem,c,l];refine⟨ω,[],σ,?_⟩;congr 2
section
variable {h:List Ob}{r a room first:Nat}{row:Nat->List D}{L:List Pk}(T:ML h r a room first row L)
include T
theorem Qh6(i:Nat)(b:i<=64):Zl prog 193 h [.ptr r 0 0 0,Qa i] (λd=>d=Qa ((first+i)%room:Nat)):=Qh5 T.o T.ao T.fl T.yZ i b
theorem Qh7:Zl prog 192 h [.ptr r 0 0 0] (λd=>d=Qa (room-L.length:Nat)):=by obtain⟨b,c,m,p,j,q⟩:=T;have i:IntKind.i64.wrap ((room:Int)-L.length)=((room-L.length:Nat):Int):=ZE;refine ZN func192 ntmps192 results192 λe w l F g n f=>?_;rw[<-g]at b c;have o:=Qb b;have k:=Qb c;simp only[go_sem];apply Qy f i6;simp only[go_sem,b,i];exact⟨[],σ⟩
theorem Qxj:Zl prog 142 h [.ptr r 0 0 0] (λd=>d=Qa L.length):=by obtain⟨b,c,k,o,g,p⟩:=T;refine ZN func142 ntmps142 results142 λe w j F f m l=>?_;rw[<-f]at b c;have n:=Qb b;have i:=Qb c;simp only[go_sem,b];exact⟨[],σ⟩
theorem Qh8(i)(m:i<L.length):Zl prog 251 h [.ptr r 0 0 0,Qa i] (λd=>d=.tup [.agg (L.getD i default).cells,Qa 0]):=by have n:=T;obtain⟨b,e,s,u,p,o⟩:=T;have d1:decide ((i:Int)<0)=false:=QN ω;have d2:decide (L.length<=i)=false:=QN ω;refine ZN func251 ntmps251 results251 λk w q F g t c=>?_;rw[<-g]at b e;have j:=Qb b;have l:=Qb e;simp only[go_sem,Qj,b,j,d1,d2];apply Qy c [0,1,2,3,4,5,1006,7,8,1009,10];simp only[go_sem,Qj,b,j];apply KW c rk (Qh6 (n.more (HQ g)) i ω);apply Jb c;simp only[go_sem,Qj,e,l];have f:(first+i)%room<room:=Xt _ ω;have Z3:=o i m;refine⟨f,f,?_⟩;simp only[go_sem,Qj,Z3];exact⟨_,rfl⟩
end
def th{f i n:Nat}(b:f<n)(a:i<=n):(f+i)%n=if f+i<n then f+i else f+i-n:=by split;exact kg ‹_›;rw[Nat.mod_eq_sub_mod ω,kg ω]
def Qxk{S h r b L}(T:vZ S h r b L)(x):
  QO prog 144 h [.ptr r 0 0 0,.agg x.cells] (λd z=>d=Qa (if L.length=b then 5 else 0)/\vZ S z r b (if L.length=b then L else L++[x])/\Step S h z):=by
 have P:=T;obtain⟨a,first,f,T⟩:=T;have j:=T.o;have p:=T.ao;have Tr:=λg=>(show ML (h++g) r a b first f L from ⟨Jf ((QG (Qb T.o)).trans T.o),Jf ((QG (Qb T.ao)).trans T.ao),T.fl,T.len,T.yZ,T.rows⟩);by_cases o:L.length=b;have d0:(((b-L.length:Nat):Int)==0)=true:=ξ;refine Q9 func144 ntmps144 results144 λn w I c=>?_;have q:=Qb j;have u:=Qb p;simp only[go_sem];apply ZH c Qgm (Qh7 (Tr _));apply Qh c;simp only[go_sem,d0];rw[Qe o,Qe o];exact⟨rfl,P.frame λl m N=>QG N,Step.app S h _⟩;have F:=T.len;have d0:(((b-L.length:Nat):Int)==0)=false:=ξ;refine Q9 func144 ntmps144 results144 λn w I c=>?_;have q:=Qb j;have u:=Qb p;simp only[go_sem];apply ZH c Qgm (Qh7 (Tr _));apply Qh c;simp only[go_sem,d0];apply Qy c [0,1,2,3,4,5,6,7,8,10,1009,11,1012];simp only[go_sem,Qj,j,q];apply KW c rk (Qh6 (Tr _) L.length (by have:=T.yZ;omega));apply Jb c;simp only[go_sem,Qj,q,p,u];have s:(first+L.length)%b<b:=Xt _ (by have:=T.fl;omega);have Z1:(f ((first+L.length)%b)).drop 6=[]:=bV (by rw[T.lens _ s];exact Qv _);refine⟨s,s,?_⟩;simp only[go_sem,Qj,j,q,Z1,Qo (Zb T.ra)];rw[Qd o,Qd o];have C:=Qb j;have B:=Qb p;have v:=T.fl;have H:=T.yZ;have O:IntKind.i64.wrap ((L.length:Int)+1)=((L.length+1:Nat):Int):=ZE;refine⟨rfl,⟨a,first,λk=>bif k==(first+L.length)%b then x.cells else f k,?_,?_,T.ra,T.fl,ξ,H,?_,?_,T.sr,T.sa⟩,?_,?_⟩;rw[QG (by simp;exact C),Xi (by simp;exact C),O];simp[Up,Qa];rw[QG (by simp;exact B),JT T.ra,Xi B];rfl;intro i t;simp only[Zn,K9]at t;by_cases m:i=L.length;subst m;simp;have E:i<L.length:=ω;have Q:((first+i)%b==(first+L.length)%b)=false:=by rw[th v ω,th v ω];simp only[kh];split<;>split<;>omega
 rw[Q];simp only[ju,T.rows i E,List.getD,JX E];intro i t;show (bif _ then _ else _:List D).length=6;by_cases m:(i==(first+L.length)%b)=true;rw[m];rfl;rw[jZ.2 m];exact T.lens i t;intro l M y;have K:a≠l:=λe=>y (e▸T.sa);have J:r≠l:=λe=>y (e▸T.sr);rw[QG (by simp;exact M),JT J,JT K];simp
def Qxl{S h r b x L}(T:vZ S h r b (x::L)):
  QO prog 209 h [.ptr r 0 0 0] (λd y=>d=.tup [.agg x.cells,Qa 0]/\vZ S y r b L/\Step S h y):=by
 have U:=T;obtain⟨a,first,c,T⟩:=T;have j:=T.o;have p:=T.ao;have Tr:=λg=>(show ML (h++g) r a b first c (x::L) from ⟨Jf ((QG (Qb T.o)).trans T.o),Jf ((QG (Qb T.ao)).trans T.ao),T.fl,T.len,T.yZ,T.rows⟩);have t:=T.yZ;have f:=T.fl;have O:=T.len;simp only[Kx]at O;refine Q9 func209 ntmps209 results209 λE w R m=>?_;have z:=Qb j;have F:=Qb p;simp only[go_sem];apply ZH m QgC (Qh8 (Tr _) 0 σ);apply Qh m;simp only[go_sem,Qj,Qj];apply Qy m o04;simp only[go_sem,Qj,j,z,p,F];refine⟨f,f,?_⟩;have o:=Qb j;have n:=Qb p;have Z1:(c first).drop 6=[]:=bV (by rw[T.lens _ f];exact Qv _);have Q:∀A B,((h.set a A).set r B)[r]?=some B:=λA B=>Xi (by simp;exact o);have M:IntKind.i64.wrap (((L.length+1:Nat):Int)-1)=(L.length:Int):=ZE;have P:=λA g=>(show ((h.set a A++g).map Ob.ro)[r]?=some (Up a b first (L.length+1)).ro from Jf ((QG (by simp;exact o)).trans ((JT (Zb T.ra)).trans j)));have s:=λC g=>(show ((h.set a ⟨.arr,0,6,b,C⟩++g).map Ob.ro)[a]?=some (⟨.arr,0,6,b,C⟩:Ob).ro from Jf ((QG (by simp;exact n)).trans (Xi n)));apply ZH m rk (Qh5 (P _ _) (s _ _) f t 1 ω);apply Qh m;simp only[go_sem,Qj,Qj,j,z,Qo (Zb T.ra),Z1,Q,M];refine⟨⟨a,(first+1)%b,λk=>bif k==first then (default:Pk).cells else c k,?_,?_,T.ra,Xt _ ω,ω,t,?_,?_,T.sr,T.sa⟩,?_,?_⟩;rw[QG (by simp;exact o),Xi (by simp;exact o)];rfl;rw[QG (by simp;exact n),JT T.ra,Xi n];rfl;intro i v;have K:((first+1)%b+i)%b=(first+(i+1))%b:=by rw[Nat.mod_add_mod];congr 1;omega
 have q:i+1<b:=ω;have N:((first+(i+1))%b==first)=false:=by rw[th f ω];simp only[kh];split<;>omega
 rw[K];simp only[N,ju,T.rows (i+1) ξ];simp;intro i v;show (bif _ then _ else _:List D).length=6;by_cases q:(i==first)=true;rw[q];rfl;rw[jZ.2 q];exact T.lens i v;intro l J u;have I:a≠l:=λe=>u (e▸T.sa);have H:r≠l:=λe=>u (e▸T.sr);rw[QG (by simp;exact J),JT H,JT I];simp
def Qxn(h:List Ob)(n:Nat)(i:1<=n)(e:n<=64):QO prog 143 h [Qa n] (λd b=>d=.tup [.ptr (h.length+1) 0 0 0,Qa 0]/\vZ (λl=>h.length<=l) b (h.length+1) n []/\∃g,b=h++g/\g.length=2):=by have d1:decide ((n:Int)<1)=false:=QN ω;have d2:decide ((64:Int)<n)=false:=QN ω;refine Q9 func143 ntmps143 results143 λc w f a=>?_;simp only[go_sem,d1,d2];refine Qxh Ch a rfl rfl rfl rfl π ω π rfl ?_;apply Qg a;simp only[Zn,K9,WJ,qs,qv];refine⟨trivial,⟨h.length,0,λ_=>(default:Pk).cells,VS rfl,Vq rfl,ω,ω,σ,e,σ,λ_ _=>rfl,by show h.length<=_;omega,Qv _⟩,_,rfl,rfl⟩
@[go_sem] def num(n:Nat):D:=.agg [u64 (n/18446744073709551616),u64 (n%18446744073709551616)]
def Qh9(a b g f d c)(i:a=g*4294967296+f)(h:b=d*4294967296+c)(m:g<4294967296)(l:f<4294967296)(k:d<4294967296)(j:c<4294967296):
  ∃P Q R S:Nat,P=g*d/\Q=g*c/\R=f*d/\S=f*c/\a*b=P*18446744073709551616+(Q+R)*4294967296+S/\P<=18446744065119617025/\Q<=18446744065119617025/\R<=18446744065119617025/\S<=18446744065119617025:=by
 refine⟨_,_,_,_,rfl,rfl,rfl,rfl,?_,?_,?_,?_,?_⟩;subst i h;have e:(g*4294967296+f)*(d*4294967296+c)=g*d*(4294967296*4294967296)+(g*c+f*d)*4294967296+f*c:=by simp only[KE,Dl,EY,Nat.mul_left_comm,Lo];omega
 rw[e];all_goals (refine J5 (Xk (Nat.le_sub_one_of_lt ‹_›) (Nat.le_sub_one_of_lt ‹_›)) π)
def CE(a b)(p:a<18446744073709551616)(g:b<18446744073709551616):QM prog 203 [u64 a,u64 b] (QR (num (a*b))):=by
 refine Q1 0 func203 ntmps203 results203 λe w g=>?_;simp only[go_sem,-Nat.reducePow];have o:(2:Nat)^min 32 64=4294967296:=rfl;have d:(2:Int)^min 32 64=((4294967296:Nat):Int):=rfl;obtain⟨P,Q,R,S,k,j,i,h,n,t,s,r,q⟩:=Qh9 a b (a/4294967296) (a%4294967296) (b/4294967296) (b%4294967296) ω ω ω ω ω ω;have c:∀x:Nat,((x:Int)).fdiv ((4294967296:Nat):Int)=((x/4294967296:Nat):Int):=λx=>by have:=MA x 32;rwa [show (2:Int)^32=((4294967296:Nat):Int) from rfl,show (2:Nat)^32=4294967296 from rfl]at this
 simp (disch:=omega) only [c,Qwp,d,Mz,Cr,<-k,<-j,<-i,<-h,n];have f:∀X:Nat,X*4294967296%18446744073709551616=X%4294967296*4294967296:=λX=>ω;rw[f,Qwq _ _ ω ω];have m:((P%18446744073709551616+((Q%18446744073709551616+S%18446744073709551616/4294967296)%18446744073709551616)/4294967296)%18446744073709551616+((R%18446744073709551616+((Q%18446744073709551616+S%18446744073709551616/4294967296)%18446744073709551616)%4294967296)%18446744073709551616)/4294967296)%18446744073709551616=(P*18446744073709551616+(Q+R)*4294967296+S)/18446744073709551616:=ω;have l:((R%18446744073709551616+((Q%18446744073709551616+S%18446744073709551616/4294967296)%18446744073709551616)%4294967296)%18446744073709551616)%4294967296*4294967296+S%18446744073709551616%4294967296=(P*18446744073709551616+(Q+R)*4294967296+S)%18446744073709551616:=ω;rw[m,l]
def tj(a b)(k:a<2^128)(i:b<2^128):QM prog 227 [num a,num b] (QR (Qa (if a<b then -1 else if a=b then 0 else 1))):=by
 refine Q1 0 func227 ntmps227 results227 λg w i=>?_;simp only[go_sem,-Nat.reducePow];refine VX (λf=>?_) (λf=>?_);simp only[go_sem,-Nat.reducePow,f];have:=qw f;rw[Qe ω];simp only[go_sem,-Nat.reducePow,f];have l:=Dq f;refine VX (λe=>?_) (λe=>?_);have h:a/18446744073709551616=b/18446744073709551616:=by have:=eq_of_beq e;omega
 simp only[go_sem,-Nat.reducePow,e];refine VX (λd=>?_) (λd=>?_);have:=qw d;simp only[go_sem,-Nat.reducePow,d];rw[Qe ω];have j:=Dq d;simp only[go_sem,-Nat.reducePow,d];refine VX (λc=>?_) (λc=>?_);simp only[go_sem,-Nat.reducePow,c];simp only[ZM,qZ]at c;rw[Qd ω,Qe ω];simp only[go_sem,-Nat.reducePow,c];simp only[GU,kh]at c;rw[Qd ω,Qd ω];have h:=ne_of_beq_false e;simp only[go_sem,-Nat.reducePow,e,N9];rw[Qd ω,Qd ω]
def Qxp(a b c u:Nat)(e:a<18446744073709551616)(d:b<18446744073709551616)(g:c<2)(f:u=(a+18446744073709551616-b+18446744073709551616-c)%18446744073709551616):
  (bits BinOp.or IntKind.u64 (bits BinOp.and IntKind.u64 (bits BinOp.xor IntKind.u64 (if IntKind.u64.signed=true then -1 else IntKind.u64.max) (a:Int)) (b:Int)) (bits BinOp.and IntKind.u64 (bits BinOp.xor IntKind.u64 (if IntKind.u64.signed=true then -1 else IntKind.u64.max) (bits BinOp.xor IntKind.u64 (a:Int) (b:Int))) (u:Int))).fdiv (2^min 63 64)=((if a<b+c then 1 else 0:Nat):Int):=by
 have em:(if IntKind.u64.signed=true then -1 else IntKind.u64.max)=((18446744073709551615:Nat):Int):=π;have hx:a ^^^ b<2^64:=Sy ω ω;have i:18446744073709551615 ^^^ a<2^64:=Sy ω ω;have j:18446744073709551615 ^^^ (a ^^^ b)<2^64:=Sy ω ω;have k:(18446744073709551615 ^^^ a) &&& b<2^64:=cz _ ω;have h:(18446744073709551615 ^^^ (a ^^^ b)) &&& u<2^64:=cz _ ω;rw[em,u64_xor_nat a b e d,u64_xor_nat _ a π e,u64_xor_nat _ _ π ω,u64_and_nat _ b ω d,u64_and_nat _ u ω ω,u64_or_nat _ _ ω ω,MA];rw[show (2:Nat)^min 63 64=9223372036854775808 from rfl,si _ _ ω ω,ie _ _ ω ω,ie _ _ ω ω,sj _ _ ω ω,sj _ _ ω ω,sj _ _ ω ω];rw[Qwr a b c _ _ _ u _ e d g f rfl rfl rfl rfl]
def Qia(a b c)(g:a<18446744073709551616)(f:b<18446744073709551616)(e:c<2):QM prog 279 [u64 a,u64 b,u64 c] (QR (.tup [u64 ((a+18446744073709551616-b+18446744073709551616-c)%18446744073709551616),u64 (if a<b+c then 1 else 0)])):=by
 refine Q1 0 func279 ntmps279 results279 λd w f=>?_;simp only[go_sem,-Nat.reducePow];have h:IntKind.u64.wrap (IntKind.u64.wrap ((a:Int)-(b:Int))-(c:Int))=(((a+18446744073709551616-b+18446744073709551616-c)%18446744073709551616:Nat):Int):=by rw[sg a b ω,sg _ c ω];omega
 rw[h,Qxp a b c _ g ‹_› e rfl]
def Qxr(a b)(k:a<2^128)(c:b<2^128):QM prog 267 [num a,num b] (QR (.tup [num ((a+2^128-b)%2^128),QV (decide (a<b))])):=by
 refine Q1 0 func267 ntmps267 results267 λg w c=>?_;simp only[go_sem,-Nat.reducePow];refine WR c QgJ ?_ (Qia (a%18446744073709551616) (b%18446744073709551616) 0 ω ω ω) ?_;simp only[go_sem,-Nat.reducePow];apply Qh c;simp only[go_sem,-Nat.reducePow];refine WR c QgJ ?_ (Qia (a/18446744073709551616) (b/18446744073709551616) (if a%18446744073709551616<b%18446744073709551616+0 then 1 else 0) ω ω (by split<;>omega)) ?_;simp only[go_sem,-Nat.reducePow];apply Qh c;simp only[go_sem,-Nat.reducePow];have l:∀x:Nat,(((if x=1 then (1:Nat) else 0:Nat):Int) != 0)=decide (x=1):=λx=>by by_cases h:x=1<;>simp[h]
 have j:(((if a/18446744073709551616<b/18446744073709551616+if a%18446744073709551616<b%18446744073709551616 then 1 else 0 then 1 else 0:Nat):Int) != 0)=decide (a<b):=by by_cases f:a%18446744073709551616<b%18446744073709551616;rw[Qe f];by_cases d:a/18446744073709551616<b/18446744073709551616+1;rw[Qe d];simp;omega;rw[Qd d];simp;omega;rw[Qd f];by_cases d:a/18446744073709551616<b/18446744073709551616+0;rw[Qe d];simp;omega;rw[Qd d];simp;omega
 have i:(a/18446744073709551616+18446744073709551616-b/18446744073709551616+18446744073709551616-if a%18446744073709551616<b%18446744073709551616 then 1 else 0)%18446744073709551616=(a+2^128-b)%2^128/18446744073709551616:=by split<;>omega
 have e:(a%18446744073709551616+18446744073709551616-b%18446744073709551616+18446744073709551616-0)%18446744073709551616=(a+2^128-b)%2^128%18446744073709551616:=ω;try rw[Dn]at e
 try rw[Dn]at e
 rw[j,i,e]
def Qxs(a b c u:Nat)(e:a<18446744073709551616)(d:b<18446744073709551616)(g:c<2)(f:u=(a+b+c)%18446744073709551616):
  (bits BinOp.or IntKind.u64 (bits BinOp.and IntKind.u64 (a:Int) (b:Int)) (bits BinOp.andNot IntKind.u64 (bits BinOp.or IntKind.u64 (a:Int) (b:Int)) (u:Int))).fdiv (2^min 63 64)=((if 18446744073709551616<=a+b+c then 1 else 0:Nat):Int):=by
 have hx:a ||| b<2^64:=Nat.or_lt_two_pow ω ω;have i:a &&& b<2^64:=cz _ ω;have h:(a ||| b) &&& (18446744073709551615-u)<2^64:=cz _ ω;rw[u64_and_nat a b e d,u64_or_nat a b e d,u64_andNot_nat _ u ω ω,u64_or_nat _ _ ω ω,MA];rw[show (2:Nat)^min 63 64=9223372036854775808 from rfl,si _ _ ω ω,ie _ _ ω ω,ie _ _ ω ω,si _ _ ω ω];rw[show (18446744073709551615-u)/9223372036854775808=1-u/9223372036854775808 by omega];rw[Qws a b c _ _ _ u _ e d g f rfl rfl rfl rfl]
def Qib(a b c)(g:a<18446744073709551616)(f:b<18446744073709551616)(e:c<2):QM prog 260 [u64 a,u64 b,u64 c] (QR (.tup [u64 ((a+b+c)%18446744073709551616),u64 (if 18446744073709551616<=a+b+c then 1 else 0)])):=by
 refine Q1 0 func260 ntmps260 results260 λd w f=>?_;simp only[go_sem,-Nat.reducePow];have h:IntKind.u64.wrap (IntKind.u64.wrap ((a:Int)+(b:Int))+(c:Int))=(((a+b+c)%18446744073709551616:Nat):Int):=by rw[Cr,Cr];omega
 rw[h,Qxs a b c _ g ‹_› e rfl]
def Ur(a b)(j:a<2^128)(c:b<2^128):QM prog 241 [num a,num b] (QR (.tup [num ((a+b)%2^128),QV (decide (2^128<=a+b))])):=by
 refine Q1 0 func241 ntmps241 results241 λg w c=>?_;simp only[go_sem,-Nat.reducePow];refine WR c QgG ?_ (Qib (a%18446744073709551616) (b%18446744073709551616) 0 ω ω ω) ?_;simp only[go_sem,-Nat.reducePow];apply Qh c;simp only[go_sem,-Nat.reducePow];refine WR c QgG ?_ (Qib (a/18446744073709551616) (b/18446744073709551616) (if 18446744073709551616<=a%18446744073709551616+b%18446744073709551616+0 then 1 else 0) ω ω (by split<;>omega)) ?_;simp only[go_sem,-Nat.reducePow];apply Qh c;simp only[go_sem,-Nat.reducePow];have i:(((if 18446744073709551616<=a/18446744073709551616+b/18446744073709551616+(if 18446744073709551616<=a%18446744073709551616+b%18446744073709551616 then 1 else 0) then 1 else 0:Nat):Int) != 0)=decide (2^128<=a+b):=by by_cases f:18446744073709551616<=a%18446744073709551616+b%18446744073709551616;rw[Qe f];by_cases d:18446744073709551616<=a/18446744073709551616+b/18446744073709551616+1;rw[Qe d];simp;omega;rw[Qd d];simp;omega;rw[Qd f];by_cases d:18446744073709551616<=a/18446744073709551616+b/18446744073709551616+0;rw[Qe d];simp;omega;rw[Qd d];simp;omega
 have h:(a/18446744073709551616+b/18446744073709551616+if 18446744073709551616<=a%18446744073709551616+b%18446744073709551616 then 1 else 0)%18446744073709551616=(a+b)%2^128/18446744073709551616:=by split<;>omega
 have e:(a%18446744073709551616+b%18446744073709551616)%18446744073709551616=(a+b)%2^128%18446744073709551616:=ω;try rw[Dn]at e
 try rw[Dn]at e
 rw[i,h,e]
def Qic(a)(f:a<18446744073709551616):QM prog 233 [u64 a] (QR (num a)):=by refine Q1 0 func233 ntmps233 results233 λb w e=>?_;simp only[go_sem,-Nat.reducePow];have d:a/18446744073709551616=0:=ω;have c:a%18446744073709551616=a:=ω;rw[d,c];rfl
def tm(x y:Nat)(b:x<9223372036854775808)(a:y<2):bits .or .u64 ((x*2:Nat):Int) (y:Int)=((x*2+y:Nat):Int):=by rw[u64_or_nat _ _ ω ω,nat_join 1 _ _ ω ω]
def tq(x:Nat):(x:Int).fdiv (2^min 63 64)=((x/9223372036854775808:Nat):Int):=by have:=MA x 63;rwa [show (2:Int)^63=2^min 63 64 from rfl,show (2:Nat)^63=9223372036854775808 from rfl]at this
def tt(x:Nat):IntKind.u64.wrap ((x:Int)*2^min 1 64)=((x%9223372036854775808*2:Nat):Int):=by rw[show (2:Int)^min 1 64=((2:Nat):Int) from rfl,Mz];omega
def tu(r A:Nat)(a:A<2^128):bits .or .u64 (IntKind.u64.wrap ((r:Int)*2^min 1 64)) ((A/18446744073709551616/9223372036854775808:Nat):Int)=(((2*r+A/2^127)%18446744073709551616:Nat):Int):=by rw[tt,tm _ _ ω ω];congr 1;omega
def PO(A)(a:A<2^128):bits .or .u64 (IntKind.u64.wrap (((A/18446744073709551616:Nat):Int)*2^min 1 64)) ((A%18446744073709551616/9223372036854775808:Nat):Int)=(((A*2%2^128)/18446744073709551616:Nat):Int):=by rw[tt,tm _ _ ω ω];congr 1;omega
def tv(A):IntKind.u64.wrap (((A%18446744073709551616:Nat):Int)*2^min 1 64)=(((A*2%2^128)%18446744073709551616:Nat):Int):=by rw[tt];congr 1;omega
def Qid(x):bits .or .u64 (((x*2%2^128)%18446744073709551616:Nat):Int) 1=((((x*2+1)%2^128)%18446744073709551616:Nat):Int):=by have:=tm ((x*2%2^128)%18446744073709551616/2) 1 ω ω;rw[show (x*2%2^128)%18446744073709551616/2*2=(x*2%2^128)%18446744073709551616 by omega]at this;rw[show ((1:Nat):Int)=1 from rfl]at this;rw[this];congr 1;omega
def tx{n:Nat}(h:n≠0):((n:Int) != 0)=true:=by simp[h]
def iH{n:Nat}(h:n=0):((n:Int) != 0)=false:=by simp[h]
def Qxt(a k)(i:k<128):a/2^(128-(k+1))=2*(a/2^(128-k))+(a*2^k%2^128)/2^127:=by
 obtain⟨m,h⟩:=Zc (127-k);have g:128-(k+1)=m:=ω;have f:128-k=m+1:=ω;have e:(2:Nat)^128=2^(m+1)*2^k:=by rw[<-Nat.pow_add];congr 1;omega
 have d:(2:Nat)^127=2^m*2^k:=by rw[<-Nat.pow_add];congr 1;omega
 rw[g,f,e,d,Nat.mul_mod_mul_right,Nat.mul_div_mul_right _ _ (cE k),Nat.pow_succ];have b:=cE m;generalize 2^m=M at *;have j:=Sv a (M*2);have c:a=M*(2*(a/(M*2)))+a%(M*2):=by rw[<-Lo];omega
 conv=>lhs;rw[c]
 rw[Nat.mul_add_div b]
def Qxu(a k):a*2^k%2^128*2%2^128=a*2^(k+1)%2^128:=by
 have:a*2^(k+1)=a*2^k*2:=by rw[Nat.pow_succ,Lo]
 rw[this];omega
def Qxv(t b a)(c:0<b)(d:a<2):
  (b<=2*(t%b)+a->(2*t+a)/b=2*(t/b)+1/\(2*t+a)%b=2*(t%b)+a-b)/\(2*(t%b)+a<b->(2*t+a)/b=2*(t/b)/\(2*t+a)%b=2*(t%b)+a):=by
 have f:=Sv t b;have e:=Xt t c;constructor;intro h;refine(cB c).2 ⟨?_,ω⟩;rw[Dl,Nat.mul_left_comm];omega;intro h;refine(cB c).2 ⟨?_,ω⟩;rw[Nat.mul_left_comm];omega
def dA(a k:Nat):Nat:=a*2^k%2^128
def dT(a k:Nat):Nat:=a/2^(128-k)
def Qie(a k)(h:a<2^128):dT a k<2^128:=Oo (cA _ _) h
def HY(a k):dA a k<2^128:=Xt _ π
def Qif(a b)(j:a<2^128)(n:b<18446744073709551616):QM prog 280 [num a,u64 b] (QR (.tup [num (if b=0 then 0 else a/b),u64 (if b=0 then 0 else a%b),Qa (if b=0 then 1 else 0)])):=by
 refine Q1 0 func280 ntmps280 results280 λt w n=>?_;simp only[go_sem,-Nat.reducePow];by_cases f:b=0;subst f;simp only[go_sem,-Nat.reducePow,Vu];try rfl
 have p:=Pq f;simp only[go_sem,-Nat.reducePow,p];have x:dA a 0=a:=by show a*2^0%2^128=a;rw[Nat.pow_zero,Nat.mul_one];exact kg j
 have v:dT a 0=0:=Nat.div_eq_of_lt j;refine xT (G:=Nat) [1,2,4,7] (λk=>True) (λk e=>[(8,u64 (dT a k%b)),(13,Qa k)]) (λk e=>[⟨.one,0,2,1,λ_=>[u64 (dA a k/18446744073709551616),u64 (dA a k%18446744073709551616)]⟩,⟨.one,0,2,1,λ_=>[u64 0,u64 0]⟩,⟨.one,0,2,1,λ_=>[u64 (dT a k/b/18446744073709551616),u64 (dT a k/b%18446744073709551616)]⟩]) (128) (0) rfl (Qs.to 3 (by (simp only[go_sem,-Nat.reducePow,x,v,Nat.zero_div,Nat.zero_mod])<;>simp)) trivial ?_;intro k e i _;replace i:k<=128:=i;apply Qh n;simp only[go_sem,-Nat.reducePow];have o:=JJ (show k<4611686018427387904 from ω);first|refine WN i (λc=>?_) (λc=>?_)|refine WO i (λc=>?_) (λc=>?_)
 replace c:k<128:=c;have Qb:decide ((k:Int)<128)=true:=ξ;have s:0<b:=ω;have t1:dT a (k+1)=2*dT a k+dA a k/2^127:=Qxt a k c;have t2:dA a k*2%2^128=dA a (k+1):=Qxu a k;have t3:=Qxv (dT a k) b (dA a k/2^127) s (by have:=HY a k;omega);have t4:=Xt (dT a k) s;have t5:=HY a k;have t6:=Qie a (k+1) j;rw[<-t1]at t3;have t7:dT a (k+1)/b<2^128:=Oo (cA _ _) t6;have t8:dT a k/b<2^128:=Oo (cA _ _) (Qie a k j);by_cases y:b<=2*(dT a k%b)+dA a k/2^127;obtain⟨u,q⟩:=t3.1 y;have d:IntKind.u64.wrap ((((2*(dT a k%b)+dA a k/2^127)%18446744073709551616:Nat):Int)-(b:Int))=((dT a (k+1)%b:Nat):Int):=by rw[sg _ b ω,q];congr 1;omega
 have z:dT a k/b*2%2^128=dT a k/b*2:=ω;have l:((dT a k/b*2+1)%2^128)=dT a (k+1)/b:=ω;have r:dT a k/b*2%2^128/18446744073709551616=dT a (k+1)/b/18446744073709551616:=ω;by_cases h:dT a k%b/9223372036854775808=0;have m:decide (b<=(2*(dT a k%b)+dA a k/2^127)%18446744073709551616)=true:=ξ;have g:((((dT a k%b/9223372036854775808:Nat)):Int) != 0)=false:=iH h;simp only[go_sem,-Nat.reducePow,Qb,tu _ _ (HY a k),PO _ (HY a k),PO _ t8,tv,tq,g,m,d,t2,Qid,l,r];repeat (refine And.intro η ?_)
 refine⟨_,Qs.to 3 (by (simp only[go_sem,-Nat.reducePow,o])<;>simp),Vj.mk (e) (trivial)⟩;have g:((((dT a k%b/9223372036854775808:Nat)):Int) != 0)=true:=tx h;simp only[go_sem,-Nat.reducePow,Qb,tu _ _ (HY a k),PO _ (HY a k),PO _ t8,tv,tq,g,d,t2,Qid,l,r];repeat (refine And.intro η ?_)
 refine⟨_,Qs.to 3 (by (simp only[go_sem,-Nat.reducePow,o])<;>simp),Vj.mk (e) (trivial)⟩;obtain⟨u,q⟩:=t3.2 ω;have d:(2*(dT a k%b)+dA a k/2^127)%18446744073709551616=dT a (k+1)%b:=ω;have l:dT a k/b*2%2^128=dT a (k+1)/b:=ω;have h:dT a k%b/9223372036854775808=0:=ω;have m:decide (b<=dT a (k+1)%b)=false:=ξ;have g:=iH h;simp only[go_sem,-Nat.reducePow,Qb,tu _ _ (HY a k),PO _ (HY a k),PO _ t8,tv,tq,g,d,m,t2,l];repeat (refine And.intro η ?_)
 refine⟨_,Qs.to 3 (by (simp only[go_sem,-Nat.reducePow,o])<;>simp),Vj.mk (e) (trivial)⟩;have Qb:decide ((k:Int)<128)=false:=by rw[c];rfl
 have d:dT a k=a:=by rw[c];show a/2^0=a;rw[Nat.pow_zero,Nat.div_one]
 simp only[go_sem,-Nat.reducePow,Qb,d];apply Qh n;simp only[go_sem,-Nat.reducePow];rw[Qd f,Qd f,Qd f]
def d0(n:Nat):Nat:=n%4294967296
def d1(n:Nat):Nat:=n/4294967296%4294967296
def d2(n:Nat):Nat:=n/18446744073709551616%4294967296
def d3(n:Nat):Nat:=n/79228162514264337593543950336%4294967296
def tA(n):d0 n<4294967296:=Xt _ π
def tB(n):d1 n<4294967296:=Xt _ π
def Qxx(n):d2 n<4294967296:=Xt _ π
def Qxy(n):d3 n<4294967296:=Xt _ π
@[go_sem] def dg(n:Nat):D:=.agg [u64 (d0 n),u64 (d1 n),u64 (d2 n),u64 (d3 n)]
def Eb(s:Nat):((s:Int)).tmod 4294967296=((s%4294967296:Nat):Int):=by rw[show (4294967296:Int)=((4294967296:Nat):Int) from rfl,<-Int.ofNat_tmod]
def CG(s:Nat)(h:s<18446744073709551616):IntKind.u64.wrap (((s:Int)).tdiv 4294967296)=((s/4294967296:Nat):Int):=by rw[show (4294967296:Int)=((4294967296:Nat):Int) from rfl,<-Int.ofNat_tdiv,IntKind.wrap_u64];omega
theorem CH:((0:Nat):Int)=0:=rfl
theorem y0:((1:Nat):Int)=1:=rfl
theorem Ec:((2:Nat):Int)=2:=rfl
theorem iI:((3:Nat):Int)=3:=rfl
theorem PQ:((4:Nat):Int)=4:=rfl
def tC:IntKind.i64.wrap 0=0:=π
def Ut:IntKind.i64.wrap 1=1:=π
def Uu:IntKind.i64.wrap 2=2:=π
def tD:IntKind.i64.wrap 3=3:=π
def le4{k}(h:k<=4):k=0\/k=1\/k=2\/k=3\/k=4:=ω
def iJ{x y:Nat}(h:x≠y):((x:Int) != (y:Int))=true:=ξ
def iK{x y:Nat}(h:x=y):((x:Int) != (y:Int))=false:=by simp[h]
def Uv(v)(b:v<18446744073709551616):QM prog 48 [u64 v] (QR (dg v)):=by
 refine Q1 0 func48 ntmps48 results48 λa w g=>?_;simp only[go_sem,-Nat.reducePow];simp only[Eb,CG v b];have f:v%4294967296=d0 v:=rfl;have e:v/4294967296=d1 v:=by unfold d1;omega
 have d:d2 v=0:=by unfold d2;omega
 have c:d3 v=0:=by unfold d3;omega
 rw[f,e,d,c];all_goals first|exact rfl|exact⟨π,π,rfl⟩
def Qxz(b a)(e:b<18446744073709551616)(d:a<18446744073709551616):QM prog 164 [u64 b,u64 a] (QR (dg (b*18446744073709551616+a))):=by
 refine Q1 0 func164 ntmps164 results164 λc w j=>?_;simp only[go_sem,-Nat.reducePow];simp only[Eb,CG b e,CG a d];have i:a%4294967296=d0 (b*18446744073709551616+a):=by unfold d0;omega
 have h:a/4294967296=d1 (b*18446744073709551616+a):=by unfold d1;omega
 have g:b%4294967296=d2 (b*18446744073709551616+a):=by unfold d2;omega
 have f:b/4294967296=d3 (b*18446744073709551616+a):=by unfold d3;omega
 rw[i,h,g,f];all_goals first|exact rfl|exact⟨π,π,π,π,rfl⟩
def QxA(n)(h:n<2^128):QM prog 55 [dg n] (QR (u64 (n/18446744073709551616))):=by refine Q1 0 func55 ntmps55 results55 λa w b=>?_;simp only[go_sem,-Nat.reducePow];rw[show (4294967296:Int)=((4294967296:Nat):Int) from rfl,Mz,Cr];congr 3;unfold d3 d2;omega
def Qih(n)(h:n<2^128):QM prog 53 [dg n] (QR (u64 (n%18446744073709551616))):=by refine Q1 0 func53 ntmps53 results53 λa w b=>?_;simp only[go_sem,-Nat.reducePow];rw[show (4294967296:Int)=((4294967296:Nat):Int) from rfl,Mz,Cr];congr 3;unfold d0 d1;omega
def Qii(a b)(r:a<2^128)(c:b<2^128):QM prog 29 [dg a,dg b] (QR (QV (decide (a<b)))):=by
 refine Q1 0 func29 ntmps29 results29 λm w c=>?_;simp only[go_sem,-Nat.reducePow];refine xT (G:=Nat) [2,3] (λk=>(1<=k->d3 a=d3 b)/\(2<=k->d2 a=d2 b)/\(3<=k->d1 a=d1 b)/\(4<=k->d0 a=d0 b)) (λk d=>[(6,Qa k)]) (λk d=>[⟨.one,0,4,1,λ_=>[u64 (d0 a),u64 (d1 a),u64 (d2 a),u64 (d3 a)]⟩,⟨.one,0,4,1,λ_=>[u64 (d0 b),u64 (d1 b),u64 (d2 b),u64 (d3 b)]⟩]) (4) (0) rfl (Qs.to 2 (by (simp only[go_sem,-Nat.reducePow])<;>simp)) ?_ ?_;exact⟨λh=>ω,λh=>ω,λh=>ω,λh=>ω⟩;rintro k d o ⟨f,i,j,n⟩;obtain rfl|rfl|rfl|rfl|rfl:=le4 o;apply Qh c;simp only[go_sem,-Nat.reducePow,CH];apply Qy c o05;simp only[go_sem,-Nat.reducePow,tD];by_cases h:d3 a=d3 b;simp only[go_sem,-Nat.reducePow,iK h];repeat (refine And.intro η ?_)
 refine⟨_,Qs.to 2 (by (simp only[go_sem,-Nat.reducePow,y0])<;>simp),Vj.mk (d) (⟨λ_=>h,λ_=>ω,λ_=>ω,λ_=>ω⟩)⟩;simp only[go_sem,-Nat.reducePow,iJ h];apply Qy c Eq;simp only[go_sem,-Nat.reducePow,tD];have q:decide (d3 a<d3 b)=decide (a<b):=by simp only[cH];simp only[d0,d1,d2,d3]at *;omega
 rw[q];apply Qh c;simp only[go_sem,-Nat.reducePow,y0];have e:=f ω;apply Qy c o05;simp only[go_sem,-Nat.reducePow,Uu];by_cases h:d2 a=d2 b;simp only[go_sem,-Nat.reducePow,iK h];repeat (refine And.intro η ?_)
 refine⟨_,Qs.to 2 (by (simp only[go_sem,-Nat.reducePow,Ec])<;>simp),Vj.mk (d) (⟨λ_=>e,λ_=>h,λ_=>ω,λ_=>ω⟩)⟩;simp only[go_sem,-Nat.reducePow,iJ h];apply Qy c Eq;simp only[go_sem,-Nat.reducePow,Uu];have q:decide (d2 a<d2 b)=decide (a<b):=by simp only[cH];simp only[d0,d1,d2,d3]at *;omega
 rw[q];apply Qh c;simp only[go_sem,-Nat.reducePow,Ec];have e:=f ω;have g:=i ω;apply Qy c o05;simp only[go_sem,-Nat.reducePow,Ut];by_cases h:d1 a=d1 b;simp only[go_sem,-Nat.reducePow,iK h];repeat (refine And.intro η ?_)
 refine⟨_,Qs.to 2 (by (simp only[go_sem,-Nat.reducePow,iI])<;>simp),Vj.mk (d) (⟨λ_=>e,λ_=>g,λ_=>h,λ_=>ω⟩)⟩;simp only[go_sem,-Nat.reducePow,iJ h];apply Qy c Eq;simp only[go_sem,-Nat.reducePow,Ut];have q:decide (d1 a<d1 b)=decide (a<b):=by simp only[cH];simp only[d0,d1,d2,d3]at *;omega
 rw[q];apply Qh c;simp only[go_sem,-Nat.reducePow,iI];have e:=f ω;have g:=i ω;have l:=j ω;apply Qy c o05;simp only[go_sem,-Nat.reducePow,tC,PQ];by_cases h:d0 a=d0 b;simp only[go_sem,-Nat.reducePow,iK h];repeat (refine And.intro η ?_)
 refine⟨_,Qs.to 2 (by (simp only[go_sem,-Nat.reducePow,PQ])<;>simp),Vj.mk (d) (⟨λ_=>e,λ_=>g,λ_=>l,λ_=>h⟩)⟩;simp only[go_sem,-Nat.reducePow,iJ h];apply Qy c Eq;simp only[go_sem,-Nat.reducePow,tC,PQ];have q:decide (d0 a<d0 b)=decide (a<b):=by simp only[cH];simp only[d0,d1,d2,d3]at *;omega
 rw[q];apply Qh c;simp only[go_sem,-Nat.reducePow,PQ];have e:=f ω;have g:=i ω;have l:=j ω;have p:=n ω;have q:decide (a<b)=false:=by simp only[G2];simp only[d0,d1,d2,d3]at *;omega
 rw[q];apply Qh c;simp only[go_sem,-Nat.reducePow]
def MO(n:Nat):Nat->List D
 | 0=>[u64 0,u64 0,u64 0,u64 0]
 | 1=>[u64 (d0 n),u64 0,u64 0,u64 0]
 | 2=>[u64 (d0 n),u64 (d1 n),u64 0,u64 0]
 | 3=>[u64 (d0 n),u64 (d1 n),u64 (d2 n),u64 0]
 | _=>[u64 (d0 n),u64 (d1 n),u64 (d2 n),u64 (d3 n)]
def VU(a b:Nat):Nat->Nat
 | 0=>0
 | 1=>(a%4294967296+b%4294967296)/4294967296
 | 2=>(a%18446744073709551616+b%18446744073709551616)/18446744073709551616
 | 3=>(a%79228162514264337593543950336+b%79228162514264337593543950336)/79228162514264337593543950336
 | _=>(a+b)/340282366920938463463374607431768211456
def QxB(a b)(d:a<2^128)(c:b<2^128):∀k,VU a b k<=1
 | 0=>Z7 _
 | 1=>by simp only[VU];omega
 | 2=>by simp only[VU];omega
 | 3=>by simp only[VU];omega
 | _+4=>by simp only[VU];omega
def iL(x y c:Nat)(b:x<4294967296)(a:y<4294967296)(d:c<=1):IntKind.u64.wrap (IntKind.u64.wrap ((x:Int)+(y:Int))+(c:Int))=((x+y+c:Nat):Int):=by rw[Cr,Cr];congr 1;omega
def QxC(a b)(p:a<2^128)(c:b<2^128):QM prog 82 [dg a,dg b] (QR (.tup [dg (a+b),u64 ((a+b)/340282366920938463463374607431768211456)])):=by
 refine Q1 0 func82 ntmps82 results82 λn w c=>?_;simp only[go_sem];refine xT (G:=Nat) [2,3,4,6] (λk=>True) (λk h=>[(7,u64 (VU a b k)),(11,Qa k)]) (λk h=>[⟨.one,0,4,1,λ_=>[u64 (d0 a),u64 (d1 a),u64 (d2 a),u64 (d3 a)]⟩,⟨.one,0,4,1,λ_=>[u64 (d0 b),u64 (d1 b),u64 (d2 b),u64 (d3 b)]⟩,⟨.one,0,4,1,λ_=>[u64 0,u64 0,u64 0,u64 0]⟩,⟨.one,0,4,1,λ_=>MO (a+b) k⟩]) (4) (0) rfl (Qs.to 4 (by (simp only[go_sem,MO,VU])<;>simp)) trivial ?_;intro k h o _;have e:=QxB a b p ‹_›;have m:=tA;have l:=tB;have j:=Qxx;have i:=Qxy;obtain rfl|rfl|rfl|rfl|rfl:=le4 o;have s:=iL (d0 a) (d0 b) (VU a b 0) (m a) (m b) (e 0);have g:(d0 a+d0 b+VU a b 0)%4294967296=d0 (a+b):=by simp only[d0,VU];omega
 have f:(d0 a+d0 b+VU a b 0)/4294967296=VU a b 1:=by simp only[d0,VU];omega
 have d:=CG (d0 a+d0 b+VU a b 0) (by have:=m a;have:=m b;have:=e 0;omega);rw[f]at d;apply Qh c;simp only[go_sem,CH,MO];apply Qy c Eq;simp only[go_sem,s,Eb,g,d];repeat (refine And.intro η ?_)
 refine⟨_,Qs.to 4 (by (simp only[go_sem,y0])<;>simp),Vj.mk (h) (trivial)⟩;have s:=iL (d1 a) (d1 b) (VU a b 1) (l a) (l b) (e 1);have g:(d1 a+d1 b+VU a b 1)%4294967296=d1 (a+b):=by simp only[d1,VU];omega
 have f:(d1 a+d1 b+VU a b 1)/4294967296=VU a b 2:=by simp only[d1,VU];omega
 have d:=CG (d1 a+d1 b+VU a b 1) (by have:=l a;have:=l b;have:=e 1;omega);rw[f]at d;apply Qh c;simp only[go_sem,y0,MO];apply Qy c Eq;simp only[go_sem,s,Eb,g,d];repeat (refine And.intro η ?_)
 refine⟨_,Qs.to 4 (by (simp only[go_sem,Ec])<;>simp),Vj.mk (h) (trivial)⟩;have s:=iL (d2 a) (d2 b) (VU a b 2) (j a) (j b) (e 2);have g:(d2 a+d2 b+VU a b 2)%4294967296=d2 (a+b):=by simp only[d2,VU];omega
 have f:(d2 a+d2 b+VU a b 2)/4294967296=VU a b 3:=by simp only[d2,VU];omega
 have d:=CG (d2 a+d2 b+VU a b 2) (by have:=j a;have:=j b;have:=e 2;omega);rw[f]at d;apply Qh c;simp only[go_sem,Ec,MO];apply Qy c Eq;simp only[go_sem,s,Eb,g,d];repeat (refine And.intro η ?_)
 refine⟨_,Qs.to 4 (by (simp only[go_sem,iI])<;>simp),Vj.mk (h) (trivial)⟩;have s:=iL (d3 a) (d3 b) (VU a b 3) (i a) (i b) (e 3);have g:(d3 a+d3 b+VU a b 3)%4294967296=d3 (a+b):=by simp only[d3,VU];omega
 have f:(d3 a+d3 b+VU a b 3)/4294967296=VU a b 4:=by simp only[d3,VU];omega
 have d:=CG (d3 a+d3 b+VU a b 3) (by have:=i a;have:=i b;have:=e 3;omega);rw[f]at d;apply Qh c;simp only[go_sem,iI,MO];apply Qy c Eq;simp only[go_sem,s,Eb,g,d];repeat (refine And.intro η ?_)
 refine⟨_,Qs.to 4 (by (simp only[go_sem,PQ])<;>simp),Vj.mk (h) (trivial)⟩;apply Qh c;simp only[go_sem,PQ,MO,VU];exact VT c
def HZ(a b)(e:a<2^128)(c:b<2^128):QM prog 49 [dg a,dg b] (QR (dg (a+b))):=by refine Q1 0 func49 ntmps49 results49 λd w c=>?_;simp only[go_sem];apply QZ c QtW (QxC a b e ‹_›);exact VT c
def VA(x y:Nat):Nat->Nat
 | 0=>0
 | 1=>d0 x*d0 y
 | 2=>d0 x*d0 y+d0 x*d1 y*4294967296
 | 3=>d0 x*d0 y+d0 x*d1 y*4294967296+d1 x*d0 y*4294967296
 | _=>d0 x*d0 y+d0 x*d1 y*4294967296+d1 x*d0 y*4294967296+d1 x*d1 y*18446744073709551616
def MP(x y)(L:x<18446744073709551616)(K:y<18446744073709551616):QM prog 27 [u64 x,u64 y] (QR (dg (x*y))):=by
 obtain⟨P,Q,R,S,s,n,l,i,M,U,T,O,N⟩:=Qh9 x y (d1 x) (d0 x) (d1 y) (d0 y) (by unfold d1 d0;omega) (by unfold d1 d0;omega) (tB x) (tA x) (tB y) (tA y);have I:d0 0=0:=rfl;have H:d1 0=0:=rfl;have F:d2 0=0:=rfl;have E:d3 0=0:=rfl;have z:d2 x=0:=by unfold d2;omega
 have B:d3 x=0:=by unfold d3;omega
 have J:d2 y=0:=by unfold d2;omega
 have t:d3 y=0:=by unfold d3;omega
 have r:VA x y 0=0:=rfl;have q:VA x y 1=S:=by simp only[VA,i]
 have p:VA x y 2=S+R*4294967296:=by simp only[VA,i,l]
 have o:VA x y 3=S+R*4294967296+Q*4294967296:=by simp only[VA,i,l,n]
 have v:VA x y 4=S+R*4294967296+Q*4294967296+P*18446744073709551616:=by simp only[VA,i,l,n,s]
 have u:VA x y 4=x*y:=by rw[v,M];omega
 refine Q1 0 func27 ntmps27 results27 λC w a=>?_;simp only[go_sem,-Nat.reducePow];refine WR a pZ ?_ (Uv x L) ?_;simp only[go_sem,-Nat.reducePow];apply Qh a;simp only[go_sem,-Nat.reducePow];refine WR a pZ ?_ (Uv y K) ?_;simp only[go_sem,-Nat.reducePow,z,B];apply Qh a;simp only[go_sem,-Nat.reducePow,z,B];refine xT (G:=Nat) [4,5,6,7] (λk=>True) (λk c=>[(17,Qa k)]) (λk c=>[⟨.one,0,4,1,λ_=>[u64 0,u64 0,u64 0,u64 0]⟩,⟨.one,0,4,1,λ_=>[u64 (d0 x),u64 (d1 x),u64 0,u64 0]⟩,⟨.one,0,4,1,λ_=>[u64 (d0 y),u64 (d1 y),u64 0,u64 0]⟩,⟨.one,0,4,1,λ_=>[u64 (d0 (VA x y (2*k))),u64 (d1 (VA x y (2*k))),u64 (d2 (VA x y (2*k))),u64 (d3 (VA x y (2*k)))]⟩]) (2) (0) rfl (Qs.to 4 (by (simp only[go_sem,-Nat.reducePow,I,H,F,E,r,J,t,EZ])<;>simp)) trivial ?_;intro k c j _;have m:k=0\/k=1\/k=2:=by have:k<=2:=j;omega
 rcases m with rfl|rfl|rfl;apply Qh a;simp only[go_sem,-Nat.reducePow,CH];refine xT (G:=Nat) [4,5,6,7,8,17] (λk=>True) (λk c=>[(20,Qa k)]) (λk c=>[⟨.one,0,4,1,λ_=>[u64 0,u64 0,u64 0,u64 0]⟩,⟨.one,0,4,1,λ_=>[u64 (d0 x),u64 (d1 x),u64 0,u64 0]⟩,⟨.one,0,4,1,λ_=>[u64 (d0 y),u64 (d1 y),u64 0,u64 0]⟩,⟨.one,0,4,1,λ_=>[u64 (d0 (VA x y (0+k))),u64 (d1 (VA x y (0+k))),u64 (d2 (VA x y (0+k))),u64 (d3 (VA x y (0+k)))]⟩]) (2) (0) rfl (Qs.to 4 (by (simp only[go_sem,-Nat.reducePow,vn])<;>simp)) trivial ?_;intro k c j _;have m:k=0\/k=1\/k=2:=by have:k<=2:=j;omega
 rcases m with rfl|rfl|rfl;obtain⟨Z,b⟩:=Zc (S*1);have e:IntKind.u64.wrap (((d0 x:Nat):Int)*((d0 y:Nat):Int))=((S:Nat):Int):=by rw[TU _ _ (by rw[<-i];omega),i]
 have f0:d0 Z=S%4294967296:=by rw[b];unfold d0;omega
 have f1:d1 Z=S/4294967296:=by rw[b];unfold d1;omega
 have f2:d2 Z=0:=by rw[b];unfold d2;omega
 have f3:d3 Z=0:=by rw[b];unfold d3;omega
 have h:VA x y 0+Z=VA x y 1:=by have:=r;have:=q;omega
 have g:VA x y 0<2^128:=by have:=r;omega
 have f:Z<2^128:=by rw[b];omega
 have d:=CG S ω;apply Qh a;simp only[go_sem,-Nat.reducePow,CH];apply Qy a [0,1,2,3,4,5,6,7];simp only[go_sem,-Nat.reducePow,e,Eb,d,tC,Ut,Int.reduceAdd];refine WR a HI ?_ (HZ (VA x y 0) Z g f) ?_;simp only[go_sem,-Nat.reducePow,f0,f1,f2,f3,CH];apply Qh a;simp only[go_sem,-Nat.reducePow];repeat (refine And.intro η ?_)
 refine⟨_,Qs.to 4 (by (simp only[go_sem,-Nat.reducePow,y0,h])<;>simp),Vj.mk (c) (trivial)⟩;obtain⟨Z,b⟩:=Zc (R*4294967296);have e:IntKind.u64.wrap (((d0 x:Nat):Int)*((d1 y:Nat):Int))=((R:Nat):Int):=by rw[TU _ _ (by rw[<-l];omega),l]
 have f0:d0 Z=0:=by rw[b];unfold d0;omega
 have f1:d1 Z=R%4294967296:=by rw[b];unfold d1;omega
 have f2:d2 Z=R/4294967296:=by rw[b];unfold d2;omega
 have f3:d3 Z=0:=by rw[b];unfold d3;omega
 have h:VA x y 1+Z=VA x y 2:=by have:=q;have:=p;omega
 have g:VA x y 1<2^128:=by have:=q;omega
 have f:Z<2^128:=by rw[b];omega
 have d:=CG R ω;apply Qh a;simp only[go_sem,-Nat.reducePow,y0];apply Qy a [0,1,2,3,4,5,6,7];simp only[go_sem,-Nat.reducePow,e,Eb,d,Ut,Uu,Int.reduceAdd];refine WR a HI ?_ (HZ (VA x y 1) Z g f) ?_;simp only[go_sem,-Nat.reducePow,f0,f1,f2,f3,CH];apply Qh a;simp only[go_sem,-Nat.reducePow];repeat (refine And.intro η ?_)
 refine⟨_,Qs.to 4 (by (simp only[go_sem,-Nat.reducePow,Ec,h])<;>simp),Vj.mk (c) (trivial)⟩;apply Qh a;simp only[go_sem,-Nat.reducePow,Ec];apply Qh a;simp only[go_sem,-Nat.reducePow];repeat (refine And.intro η ?_)
 refine⟨_,Qs.to 4 (by (simp only[go_sem,-Nat.reducePow,y0,Nat.reduceMul])<;>simp),Vj.mk (c) (trivial)⟩;apply Qh a;simp only[go_sem,-Nat.reducePow,y0];refine xT (G:=Nat) [4,5,6,7,8,17] (λk=>True) (λk c=>[(20,Qa k)]) (λk c=>[⟨.one,0,4,1,λ_=>[u64 0,u64 0,u64 0,u64 0]⟩,⟨.one,0,4,1,λ_=>[u64 (d0 x),u64 (d1 x),u64 0,u64 0]⟩,⟨.one,0,4,1,λ_=>[u64 (d0 y),u64 (d1 y),u64 0,u64 0]⟩,⟨.one,0,4,1,λ_=>[u64 (d0 (VA x y (2+k))),u64 (d1 (VA x y (2+k))),u64 (d2 (VA x y (2+k))),u64 (d3 (VA x y (2+k)))]⟩]) (2) (0) rfl (Qs.to 4 (by (simp only[go_sem,-Nat.reducePow,vn])<;>simp)) trivial ?_;intro k c j _;have m:k=0\/k=1\/k=2:=by have:k<=2:=j;omega
 rcases m with rfl|rfl|rfl;obtain⟨Z,b⟩:=Zc (Q*4294967296);have e:IntKind.u64.wrap (((d1 x:Nat):Int)*((d0 y:Nat):Int))=((Q:Nat):Int):=by rw[TU _ _ (by rw[<-n];omega),n]
 have f0:d0 Z=0:=by rw[b];unfold d0;omega
 have f1:d1 Z=Q%4294967296:=by rw[b];unfold d1;omega
 have f2:d2 Z=Q/4294967296:=by rw[b];unfold d2;omega
 have f3:d3 Z=0:=by rw[b];unfold d3;omega
 have h:VA x y 2+Z=VA x y 3:=by have:=p;have:=o;omega
 have g:VA x y 2<2^128:=by have:=p;omega
 have f:Z<2^128:=by rw[b];omega
 have d:=CG Q ω;apply Qh a;simp only[go_sem,-Nat.reducePow,CH];apply Qy a [0,1,2,3,4,5,6,7];simp only[go_sem,-Nat.reducePow,e,Eb,d,Ut,Uu,Int.reduceAdd];refine WR a HI ?_ (HZ (VA x y 2) Z g f) ?_;simp only[go_sem,-Nat.reducePow,f0,f1,f2,f3,CH];apply Qh a;simp only[go_sem,-Nat.reducePow];repeat (refine And.intro η ?_)
 refine⟨_,Qs.to 4 (by (simp only[go_sem,-Nat.reducePow,y0,Nat.reduceAdd,h])<;>simp),Vj.mk (c) (trivial)⟩;obtain⟨Z,b⟩:=Zc (P*18446744073709551616);have e:IntKind.u64.wrap (((d1 x:Nat):Int)*((d1 y:Nat):Int))=((P:Nat):Int):=by rw[TU _ _ (by rw[<-s];omega),s]
 have f0:d0 Z=0:=by rw[b];unfold d0;omega
 have f1:d1 Z=0:=by rw[b];unfold d1;omega
 have f2:d2 Z=P%4294967296:=by rw[b];unfold d2;omega
 have f3:d3 Z=P/4294967296:=by rw[b];unfold d3;omega
 have h:VA x y 3+Z=VA x y 4:=by have:=o;have:=v;omega
 have g:VA x y 3<2^128:=by have:=o;omega
 have f:Z<2^128:=by rw[b];omega
 have d:=CG P ω;apply Qh a;simp only[go_sem,-Nat.reducePow,y0,Nat.reduceAdd];apply Qy a [0,1,2,3,4,5,6,7];simp only[go_sem,-Nat.reducePow,e,Eb,d,Uu,tD,Int.reduceAdd];refine WR a HI ?_ (HZ (VA x y 3) Z g f) ?_;simp only[go_sem,-Nat.reducePow,f0,f1,f2,f3,CH];apply Qh a;simp only[go_sem,-Nat.reducePow];repeat (refine And.intro η ?_)
 refine⟨_,Qs.to 4 (by (simp only[go_sem,-Nat.reducePow,Ec,Nat.reduceAdd,h])<;>simp),Vj.mk (c) (trivial)⟩;apply Qh a;simp only[go_sem,-Nat.reducePow,Ec,Nat.reduceAdd];apply Qh a;simp only[go_sem,-Nat.reducePow];repeat (refine And.intro η ?_)
 refine⟨_,Qs.to 4 (by (simp only[go_sem,-Nat.reducePow,Ec,Nat.reduceMul])<;>simp),Vj.mk (c) (trivial)⟩;apply Qh a;simp only[go_sem,-Nat.reducePow,Ec,Nat.reduceMul,u];apply Qh a;simp only[go_sem,-Nat.reducePow]
def cdiv(n d:Nat):Nat:=(n+d-1)/d
def QxE(n d)(a:0<d):cdiv n d=if n%d=0 then n/d else n/d+1:=by unfold cdiv;have c:=Sv n d;have b:=Xt n a;split;rename_i h;have:(n+d-1)/d=n/d/\(n+d-1)%d=d-1:=(cB a).2 ⟨ω,ω⟩;exact this.1;have:(n+d-1)/d=n/d+1/\(n+d-1)%d=n%d-1:=(cB a).2 ⟨by rw[Dl];omega,ω⟩;exact this.1
def QxF(n d)(f:n<2^128)(g:0<d)(h:¬ n%d=0):n/d+1<2^128:=by
 have e:2<=d:=by rcases xI d 2 with h3|h3;have:d=1:=ω;subst this;omega;exact h3
 have:=Nat.div_le_div_left (c:=2) (b:=d) (a:=n) e π;omega
theorem dz0:d0 0=0:=rfl
theorem dz1:d1 0=0:=rfl
theorem dz2:d2 0=0:=rfl
theorem dz3:d3 0=0:=rfl
theorem Qin:((65536:Nat):Int)=65536:=rfl
def Uw(n:Nat):Nat:=if n<18446744073709551616 then n else 0
def PR(n:Nat):Int:=if n<18446744073709551616 then 0 else 20
def Qio(n)(e:n<2^128):QM prog 281 [num n] (QR (.tup [u64 (Uw n),Qa (PR n)])):=by refine Q1 0 func281 ntmps281 results281 λd w f=>?_;simp only[go_sem,-Nat.reducePow];by_cases h:n<18446744073709551616;have c:((((n/18446744073709551616:Nat)):Int) != 0)=false:=iH ω;have b:Uw n=n:=Qe h;have a:PR n=0:=Qe h;simp only[go_sem,-Nat.reducePow,c,b,a];rw[kg h];have c:((((n/18446744073709551616:Nat)):Int) != 0)=true:=tx ω;have b:Uw n=0:=Qd h;have a:PR n=20:=Qd h;simp only[go_sem,-Nat.reducePow,c,b,a]
def QxG(n d)(f:n<2^128)(j:d<18446744073709551616)(g:0<d):QM prog 268 [num n,u64 d] (QR (.tup [u64 (Uw (cdiv n d)),Qa (PR (cdiv n d))])):=by have b:=QxE n d g;have e:d≠0:=ω;have l:=cA n d;refine Q1 0 func268 ntmps268 results268 λi w a=>?_;simp only[go_sem,-Nat.reducePow];refine WR a QgK ?_ (Qif n d f j) ?_;simp only[go_sem,-Nat.reducePow];apply Qh a;simp only[go_sem,-Nat.reducePow,e,q5];by_cases h:n%d=0;rw[Qe h]at b;have c:=iH h;simp only[go_sem,-Nat.reducePow,c];refine WR a QgL ?_ (Qio (n/d) ω) ?_;simp only[go_sem,-Nat.reducePow];apply Qh a;simp only[go_sem,-Nat.reducePow,b];rw[Qd h]at b;have m:=QxF n d f g h;have c:=tx h;simp only[go_sem,-Nat.reducePow,c];apply Qy a [0,1001,1002,3,4,5,1006];simp only[go_sem,-Nat.reducePow];refine yQ a Qgx ?_ (Qic 1 π) ?_;simp only[go_sem,-Nat.reducePow,y0];apply Jb a;simp only[go_sem,-Nat.reducePow,y0];refine yQ a TB ?_ (Ur (n/d) 1 ω π) ?_;simp only[go_sem,-Nat.reducePow,y0];apply Jb a;simp only[go_sem,-Nat.reducePow];have k:(n/d+1)%2^128=cdiv n d:=ω;simp only[go_sem,-Nat.reducePow,k];refine WR a QgL ?_ (Qio (cdiv n d) ω) ?_;simp only[go_sem,-Nat.reducePow];apply Qh a;simp only[go_sem,-Nat.reducePow]
def Ku(a d b:Nat):Int:=if 4294967295<a\/4294967295<b\/1048576<d then 0 else if a=0/\b=0/\d=0 then 1 else if d=0/\a=b then 2 else if d=0 then 0 else if b<a then 3 else if a=0/\0<b then 4 else 0
@[go_sem] def MQ(a d b:Nat):D:=.agg [u64 a,u64 d,u64 b]
def iM(a d b):QM prog 12 [MQ a d b] (QR (Qa (Ku a d b))):=by
 refine Q1 0 func12 ntmps12 results12 λc w e=>?_;simp only[go_sem,-Nat.reducePow]
 repeat' (first|((first|apply zg|apply zj|apply zk|apply VX|apply zl|apply zn|apply zo|apply ze)<;>intro h<;>(try simp only[go_sem,-Nat.reducePow]))|(refine And.intro ω ?_;try simp only[go_sem,-Nat.reducePow]))
 all_goals (congr 2;unfold Ku;(repeat' split)<;>omega)
def Ux(a d b):QM prog 165 [MQ a d b] (QR (Qa (Ku a d b))):=by
 refine Q1 0 func165 ntmps165 results165 λc w e=>?_;simp only[go_sem,-Nat.reducePow]
 repeat' (first|((first|apply zg|apply zj|apply zk|apply VX|apply zl|apply zn|apply zo|apply ze)<;>intro h<;>(try simp only[go_sem,-Nat.reducePow]))|(refine And.intro ω ?_;try simp only[go_sem,-Nat.reducePow]))
 all_goals (congr 2;(try simp only[ZM,GU,qZ,kh,ne_eq]at *);(try unfold Ku);(repeat' split)<;>omega)
def Qip(a d b):Ku a d b=0\/Ku a d b=1\/Ku a d b=2\/Ku a d b=3\/Ku a d b=4:=by unfold Ku;(repeat' split)<;>simp
def Uy{a d b}(h:Ku a d b≠0):a<=4294967295/\b<=4294967295/\d<=1048576:=by unfold Ku at h;split at h<;>omega
def tE(a d b):QM prog 174 [MQ a d b] (QR (QV (Ku a d b != 0))):=by refine Q1 0 func174 ntmps174 results174 λe w c=>?_;simp only[go_sem,-Nat.reducePow];refine WR c FE ?_ (Ux a d b) ?_;simp only[go_sem,-Nat.reducePow];apply Qh c;simp only[go_sem,-Nat.reducePow]
def Jg(a d b t:Nat):Nat:=if Ku a d b=0 then 0 else a*min t d+b*(t-min t d)
def Qiq(a d b t)(i:t<18446744073709551616):Jg a d b t<2^97:=by unfold Jg;split;decide;rename_i h;obtain⟨e,c,j⟩:=Uy h;have g:a*min t d<=4294967295*1048576:=Xk e ω;have f:b*(t-min t d)<=4294967295*18446744073709551615:=Xk c ω;exact Oo (Nat.add_le_add g f) π
def QxI(a b:Nat):(min (a:Int) (b:Int))=((min a b:Nat):Int):=ω
def QxJ(a d b t)(i:t<18446744073709551616):QM prog 231 [MQ a d b,u64 t] (QR (num (Jg a d b t))):=by
 refine Q1 0 func231 ntmps231 results231 λg w c=>?_;simp only[go_sem,-Nat.reducePow];refine WR c Pn ?_ (tE a d b) ?_;simp only[go_sem,-Nat.reducePow];apply Qh c;simp only[go_sem,-Nat.reducePow];by_cases h:Ku a d b=0;have f:Jg a d b t=0:=Qe h;have e:(Ku a d b != 0)=false:=by simp[h]
 simp only[go_sem,-Nat.reducePow,f,e];have f:Jg a d b t=a*min t d+b*(t-min t d):=Qd h;have e:(Ku a d b != 0)=true:=by simp[h]
 obtain⟨k,j,m⟩:=Uy h;have l:=TS t (min t d) ω i;have o:a*min t d<=4294967295*1048576:=Xk k ω;have n:b*(t-min t d)<=4294967295*18446744073709551615:=Xk j ω;simp only[go_sem,-Nat.reducePow,f,e,QxI];apply Qy c [0,1,2,4,5,6,7,8,1003,1009,1010,11,12,13,1014,1015,16];simp only[go_sem,-Nat.reducePow,l];refine yQ c Ci ?_ (CE a (min t d) ω ω) ?_;simp only[go_sem,-Nat.reducePow];apply Jb c;simp only[go_sem,-Nat.reducePow];refine yQ c Ci ?_ (CE b (t-min t d) ω ω) ?_;simp only[go_sem,-Nat.reducePow];apply Jb c;simp only[go_sem,-Nat.reducePow];refine yQ c TB ?_ (Ur (a*min t d) (b*(t-min t d)) ω ω) ?_;simp only[go_sem,-Nat.reducePow];apply Jb c;simp only[go_sem,-Nat.reducePow];rw[kg ω]
def Qir(a d b t)(k:t<18446744073709551616):QM prog 51 [MQ a d b,u64 t] (QR (dg (Jg a d b t))):=by
 refine Q1 0 func51 ntmps51 results51 λl w c=>?_;simp only[go_sem,-Nat.reducePow];refine WR c yO ?_ (iM a d b) ?_;simp only[go_sem,-Nat.reducePow];apply Qh c;simp only[go_sem,-Nat.reducePow];by_cases h:Ku a d b=0;have f:Jg a d b t=0:=Qe h;have e:(Ku a d b==0)=true:=by simp[h]
 simp only[go_sem,-Nat.reducePow,f,e];rfl;have f:Jg a d b t=a*min t d+b*(t-min t d):=Qd h;have e:(Ku a d b==0)=false:=by simp[h]
 obtain⟨n,m,q⟩:=Uy h;have p:b*(t-min t d)<=4294967295*18446744073709551615:=Xk m ω;by_cases g:t<=d;have j:decide (t<=d)=true:=QY g;have i:Jg a d b t=a*t:=by rw[f,wC g,YO,EZ,vn]
 simp only[go_sem,-Nat.reducePow,e,j];refine WR c Mm ?_ (MP a t ω k) ?_;simp only[go_sem,-Nat.reducePow];apply Qh c;simp only[go_sem,-Nat.reducePow,i];have j:decide (t<=d)=false:=QN g;have i:Jg a d b t=a*d+b*(t-d):=by rw[f,kb ω]
 have r:a*d<=4294967295*1048576:=Xk n ω;have o:=TS t d ω k;rw[kb ω]at p;simp only[go_sem,-Nat.reducePow,e,j];apply Qy c [0,1,2,3,5,6,7,8,9,10,1004,1011,1012,1013];simp only[go_sem,-Nat.reducePow,o];refine yQ c Mm ?_ (MP a d ω ω) ?_;simp only[go_sem,-Nat.reducePow];apply Jb c;simp only[go_sem,-Nat.reducePow];refine yQ c Mm ?_ (MP b (t-d) ω ω) ?_;simp only[go_sem,-Nat.reducePow];apply Jb c;simp only[go_sem,-Nat.reducePow];refine yQ c HI ?_ (HZ (a*d) (b*(t-d)) ω ω) ?_;simp only[go_sem,-Nat.reducePow];apply Jb c;simp only[go_sem,-Nat.reducePow,i]
structure Ln where
 x:Nat
 y:Nat
 m:Nat
deriving DecidableEq
instance:Inhabited Ln:=⟨⟨0,0,0⟩⟩
structure Ln.Ok (l:Ln):Prop where
 x:l.x<18446744073709551616
 y:l.y<2^128
 m:l.m<18446744073709551616
@[go_sem] def Ln.cells(l:Ln):List D:=[u64 l.x,u64 (l.y/18446744073709551616),u64 (l.y%18446744073709551616),u64 l.m]
def qI(l:Ln)(x:Nat):Nat:=if x<=l.x then l.y else (l.y+l.m*(x-l.x))%2^128
def Qis{a b}(d:a<18446744073709551616)(c:b<18446744073709551616):a*b<2^128:=by have:a*b<=18446744073709551615*18446744073709551615:=Xk ω ω;exact Oo this π
def Qit{l:Ln}(h:l.Ok)(x):qI l x<2^128:=by unfold qI;split;exact h.y;exact Xt _ π
def Qiu(l:Ln)(h:l.Ok)(x)(d:x<18446744073709551616):QM prog 259 [.agg l.cells,u64 x] (QR (num (qI l x))):=by unfold qI;refine Q1 0 func259 ntmps259 results259 λc w a=>?_;simp only[go_sem];by_cases b:x<=l.x;have d1:=QY b;simp only[go_sem,d1,Qe b];have d1:=QN b;have e:=TS x l.x ω d;simp only[go_sem,d1,Qd b];apply Qy a o09;simp only[go_sem,e];apply ZP a Ci (CE l.m (x-l.x) h.m ω);apply ZB a;apply ZP a TB (Ur l.y (l.m*(x-l.x)) h.y (Qis h.m ω));exact FK a
def Xe(l:Ln)(w:Nat):Nat:=
 if w<=l.y then 0
 else if l.m=0\/18446744073709551616<=cdiv (w-l.y) l.m\/never<=l.x\/never-l.x<=cdiv (w-l.y) l.m then never
 else l.x+cdiv (w-l.y) l.m
def Qiv(l w):Xe l w<=never:=by
 unfold Xe;split<;>try split
 exact Z7 _;exact Qv _;omega
def QxK(n)(c:n<2^128):QM prog 268 [num n,u64 0] (QR (.tup [u64 0,Qa 1])):=by refine Q1 0 func268 ntmps268 results268 λb w a=>?_;simp only[go_sem];apply QZ a QgK (Qif n 0 c π);apply Qh a;simp only[go_sem,Vu]
def Qiw{a b:Nat}:((if a<b then (-1:Int) else if a=b then 0 else 1)<=0)↔a<=b:=by split;omega;split<;>omega
def QxL{a b:Nat}:((if a<b then (-1:Int) else if a=b then 0 else 1)<0)↔a<b:=by split;omega;split<;>omega
def QxM{a b}(c:a<2^128)(h:b<=a):(a+2^128-b)%2^128=a-b:=by rw[show a+2^128-b=a-b+2^128 by omega,Nat.add_mod_right,kg ω]
def iN(l:Ln)(h:l.Ok)(v)(i:v<2^128):QM prog 253 [.agg l.cells,num v] (QR (u64 (Xe l v))):=by
 unfold Xe;refine Q1 0 func253 ntmps253 results253 λn w a=>?_;simp only[go_sem];apply QZ a rA (tj v l.y i h.y);apply Qg a;by_cases g:v<=l.y;have d1:=QY (Qiw.2 g);simp only[go_sem,d1,Qe g];have d1:=QN (λc=>g (Qiw.1 c));rw[Qd g];simp only[go_sem,d1];apply QZ a Qvh (Qxr v l.y i h.y);apply Qh a;simp only[go_sem,QxM i (show l.y<=v from ω)];by_cases c:l.m=0;rw[Qe (.inl c)];refine WR a QgI ?_ (QxK (v-l.y) ω) ?_;simp only[go_sem,c];apply Qh a;simp only[go_sem,c];rfl;apply QZ a QgI (QxG (v-l.y) l.m ω h.m ω);apply Qg a;by_cases j:cdiv (v-l.y) l.m<18446744073709551616;have f:PR (cdiv (v-l.y) l.m)=0:=Qe j;have k:Uw (cdiv (v-l.y) l.m)=cdiv (v-l.y) l.m:=Qe j;by_cases e:never<=l.x;have d4:decide ((9223372036854775808:Int)<=(l.x:Int))=true:=QY (by unfold never at e;omega);rw[Qe (.inr (.inr (.inl e)))];simp only[go_sem,f,k,d4];rfl;have d4:decide ((9223372036854775808:Int)<=(l.x:Int))=false:=QN (by unfold never at e;omega);have m:IntKind.u64.wrap ((9223372036854775808:Int)-(l.x:Int))=((never-l.x:Nat):Int):=by have:=TS 9223372036854775808 l.x (by unfold never at e;omega) π;exact this
 by_cases d:never-l.x<=cdiv (v-l.y) l.m;have d5:=QY d;rw[Qe (.inr (.inr (.inr d)))];simp only[go_sem,f,k,d4,m,d5];rfl;have d5:=QN d;have o:=Qhi l.x (cdiv (v-l.y) l.m) (by unfold never at d;omega);rw[Qd (by rintro (b|b|b|b);exact c b;omega;exact e b;exact d b)];simp only[go_sem,f,k,d4,m,d5,o];have f:PR (cdiv (v-l.y) l.m)=20:=Qd j;rw[Qe (.inr (.inl ω))];simp only[go_sem,f];rfl
def jd(a b:Ln):Ln:=if qI b (max a.x b.x)<qI a (max a.x b.x) then b else a
def Qix{a b:Ln}(d:a.Ok)(c:b.Ok):(jd a b).Ok:=by unfold jd;split<;>assumption
def QxN(a b:Nat):(max (a:Int) (b:Int))=((max a b:Nat):Int):=ω
def Qiy(a b:Ln)(e:a.Ok)(f:b.Ok):QM prog 240 [.agg a.cells,.agg b.cells] (QR (.agg (jd a b).cells)):=by
 have hx:max a.x b.x<18446744073709551616:=by have:=e.x;have:=f.x;omega
 unfold jd;obtain⟨k,h⟩:=Zc (if qI b (max a.x b.x)<qI a (max a.x b.x) then (-1:Int) else if qI b (max a.x b.x)=qI a (max a.x b.x) then 0 else 1);have g:k<0↔qI b (max a.x b.x)<qI a (max a.x b.x):=by rw[h];exact QxL
 refine Q1 0 func240 ntmps240 results240 λi w c=>?_;simp only[go_sem];simp only[go_sem,QxN];apply Qy c [0,1,3,4,1002,1005,1006,7];simp only[go_sem];apply ZP c QgF (Qiu b f (max a.x b.x) hx);apply ZB c;apply ZP c QgF (Qiu a e (max a.x b.x) hx);apply ZB c;apply ZP c rA (h▸tj (qI b (max a.x b.x)) (qI a (max a.x b.x)) (Qit f _) (Qit e _));apply ZB c;by_cases d:qI b (max a.x b.x)<qI a (max a.x b.x);have d1:=QY (g.2 d);simp only[go_sem,d1,Qe d];have d1:=QN (λj=>d (g.1 j));rw[Qd d];simp only[go_sem,d1]
structure Rn where
 f:Ln
 t:Ln
 b:Bool
deriving DecidableEq
instance:Inhabited Rn:=⟨⟨default,default,false⟩⟩
structure Rn.Ok (r:Rn):Prop where
 f:r.f.Ok
 t:r.t.Ok
@[go_sem] def Rn.cells(r:Rn):List D:=[u64 r.f.x,u64 (r.f.y/18446744073709551616),u64 (r.f.y%18446744073709551616),u64 r.f.m,u64 r.t.x,u64 (r.t.y/18446744073709551616),u64 (r.t.y%18446744073709551616),u64 r.t.m,QV r.b]
def Qiz(n:Nat)(h:n<18446744073709551616):IntKind.u64.wrap (n:Int)=(n:Int):=κ
def QxO(n t:Nat)(u:n<2^128)(s:t<=65536)(r:n*t<2^128):QM prog 228 [num n,Qa t] (QR (num (n*t))):=by
 obtain⟨b,a,q,rfl⟩:∃b a,a<18446744073709551616/\n=b*18446744073709551616+a:=⟨n/18446744073709551616,n%18446744073709551616,Xt _ π,ω⟩;have v:b<18446744073709551616:=ω;have p:(b*18446744073709551616+a)/18446744073709551616=b:=ω;have o:(b*18446744073709551616+a)%18446744073709551616=a:=ω;obtain⟨A,h⟩:=Zc (a*t);obtain⟨B,c⟩:=Zc (b*t);have i:(b*18446744073709551616+a)*t=B*18446744073709551616+A:=by rw[h,c,KE,Lo,EY 18446744073709551616 t,<-Lo]
 rw[i]at r;rw[i];have f:=CE a t q ω;rw[<-h]at f;have e:=Qiz t ω;have d:=TU b t (by rw[<-c];omega);rw[<-c]at d;have k:=Qhi (A/18446744073709551616) B ω;have m:(B*18446744073709551616+A)/18446744073709551616=A/18446744073709551616+B:=by rw[Ol,Nat.add_mul_div_right _ _ π]
 have l:(B*18446744073709551616+A)%18446744073709551616=A%18446744073709551616:=by rw[Ol,Nat.add_mul_mod_self_right]
 refine Q1 0 func228 ntmps228 results228 λj w g=>?_;simp only[go_sem];simp only[p,o,e,go_sem];apply QZ g Ci f;apply Qh g;simp only[go_sem,e,d,k];simp only[go_sem,m,l]
def QiA(n t k:Nat)(h:n<2^111)(b:t<=65536)(f:k<18446744073709551616):QM prog 178 [num n,Qa t,u64 k] (QR (QV (decide (65536*k<n*t)))):=by
 have i:n*t<=n*65536:=Dm n b;have g:=tj (n*t) (65536*k) ω ω;have e:decide ((if n*t<65536*k then (-1:Int) else if n*t=65536*k then 0 else 1) > 0)=decide (65536*k<n*t):=by rw[wz];simp only[W3];(repeat' split)<;>omega
 have d:=CE 65536 k π f;refine Q1 0 func178 ntmps178 results178 λc w a=>?_;simp only[go_sem];apply QZ a Qu6 (QxO n t ω b ω);apply Qg a;refine WR a Ci ?_ d ?_;simp only[go_sem,Qin];apply Qg a;apply QZ a rA g;apply Qh a;simp only[go_sem,e]
@[go_sem] def VB(l:List Ql):D:=.imm 14 l.length (Ql.rows l)
def QxP(h:List Ob):QO prog 61 h [] (λd b=>d=.ptr (h.length+1) 0 0 0/\b=h++[QT .i64 0 [],⟨.one,0,1,1,λ_=>[.mref h.length 0]⟩]):=by refine Q9 func61 ntmps61 results61 λa w c e=>?_;simp only[go_sem,Qj]
def zB(L:List Ql)(k:Int):Int:=match L.findIdx? (λc=>c.iD==k) with
 | some i=>i
 | none=>-1
def QxQ{L:List Ql}{k i}(a:i<L.length)(h:∀j,j<i->(L.getD j default).iD≠k)(d:(L.getD i default).iD=k):zB L k=i:=by
 have e:L.findIdx? (λc=>c.iD==k)=some i:=by rw[Di];refine⟨a,by simpa[QU,a] using d,λj b=>?_⟩;have:=h j b;simpa[QU,show j<L.length by omega] using this
 rw[zB,e]
def QxR{L:List Ql}{k}(h:∀j,j<L.length->(L.getD j default).iD≠k):zB L k=-1:=by
 have e:L.findIdx? (λc=>c.iD==k)=none:=by rw[EV];intro x hx;obtain⟨i,a,rfl⟩:=j8 hx;have:=h i a;simpa[QU,a] using this
 rw[zB,e]
def Bl(L:List Ql)(k)(m:L.length<1000000):QM prog 15 [VB L,Qa k] (QR (Qa (zB L k))):=by
 refine Q1 0 func15 ntmps15 results15 λh w g=>?_;simp only[go_sem];refine ZY (λi s=>(∀j,j<i->(L.getD j default).iD≠k)/\s=⟨[(1,Qa k),(7,VB L),(8,Qa L.length),(9,Qa i)],[]⟩) L.length QP ⟨λj d=>absurd d ω,rfl⟩ ?_;rintro i s f ⟨c,rfl⟩;have l:=JJ (show i<4611686018427387904 from ω);apply Qg g;first|refine WN f (λa=>?_) (λa=>?_)|refine WO f (λa=>?_) (λa=>?_)
 simp only[go_sem,a];by_cases b:(L.getD i default).iD=k;rw[QxQ a c b];simp only[go_sem,WQ b];simp only[go_sem,VY b];refine⟨a,_,Qs.to 0 ⟨?_,by simp only[go_sem],?_,?_⟩,λj d=>?_,rfl⟩;simp only[go_sem,l];simp only[go_sem];simp only[go_sem];rcases xJ.1 d with e|rfl;exact c j e;exact b;have e:i=L.length:=ω;subst e;rw[QxR c];exact VT g
structure Wb {α:Type} [Inhabited α] (enc:α->List D) (L:List α) (off:Nat) (row:Nat->List D):Prop where
 at_:∀i,i<L.length->row (off+i)=enc (L.getD i default)
 all:∀i,i<off+L.length->∃a,row i=enc a
def Uz{c:Type}[Inhabited c](f:Nat)(e:c->List D)(L:List c)(d:D)(h:List Ob):Prop:=∃g a b,d=.ref 0 g a L.length/\h=[⟨.arr,g,f,a+L.length,b⟩]/\Wb e L a b
def Wb.nil{c:Type}[Inhabited c]{b:c->List D}{a:Nat->List D}:Wb b [] 0 a:=⟨λi hi=>absurd hi (Yy i),λi hi=>absurd hi (Yy i)⟩
def Wb.app{g:Type}[Inhabited g]{a}{L:List g}{c b}(h:Wb a L c b)(x:g){r2}(j:r2 0=a x):Wb a (L++[x]) 0 (J8 L.length c b r2):=by
 have e:∀i,i<L.length+1->J8 L.length c b r2 i=a ((L++[x]).getD i default):=λi d=>by by_cases f:i<L.length;rw[BS f,h.at_ i f];simp[f,JX f];have:i=L.length:=ω;subst this;rw[yC (Qv _),YO,j];simp
 exact⟨λi d=>by simp at d;rw[JG];exact e i d,λi d=>by simp at d;exact⟨_,e i d⟩⟩
def Wb.upto{e:Type}[Inhabited e]{d}{L:List e}{c b}(h:Wb d L c b){k}(f:∀a,xP k (d a)=true):∀i,i<c+L.length->xP k (b i)=true:=λi g=>by obtain⟨a,j⟩:=h.all i g;rw[j];exact f a
theorem PS(a):xP 1 [Qa a]=true:=rfl
def kJ(L:List Ql)(g:Ql->Bool):Nat->List Int
 | 0=>[]
 | i+1=>if g (L.getD i default)=true then kJ L g i++[(L.getD i default).iD] else kJ L g i
def QiB(L g):∀i,(kJ L g i).length<=i
 | 0=>Qv _
 | i+1=>by have:=QiB L g i;rw[kJ];split;simp;omega;omega
def QiC(L:List Ql)(g:Ql->Bool):∀i,i<=L.length->kJ L g i=((L.take i).filter g).map (·.iD)
 | 0,_=>by simp[kJ]
 | i+1,h=>by have b:i<L.length:=ω;rw[kJ,QiC L g i ω,zQ,QH b];simp only[BM,EU,zP,QU,QH b,Va];by_cases a:g L[i]=true;rw[Qe a,Le a];rfl;rw[Qd a,Ld a];simp
def QxS(L:List Ql)(g:Ql->Bool):kJ L g L.length=(L.filter g).map (·.iD):=by rw[QiC L g _ (Qv _),Wo]
def QxT(L:List Ql)(k)(B:L.length<1000000):QM prog 87 [VB L,Qa k] (Uz 1 (λn:Int=>[Qa n]) (KZ L k)):=by
 have z:KZ L k=kJ L (λy=>y.parent==k) L.length:=(QxS L _).symm;refine Q1 1 func87 ntmps87 results87 λt w o=>?_;simp only[go_sem];refine ZY (λi s=>∃g a b,Wb (λn:Int=>[Qa n]) (kJ L (λy=>y.parent==k) i) a b/\s=⟨[(1,Qa k),(5,.ref 0 g a (kJ L (λy=>y.parent==k) i).length),(8,VB L),(9,Qa L.length),(10,Qa i)],[⟨.arr,g,1,a+(kJ L (λy=>y.parent==k) i).length,b⟩]⟩) L.length
  (s0:=⟨[(1,Qa k),(5,.ref 0 0 0 0),(8,VB L),(9,Qa L.length),(10,Qa 0)],[⟨.arr,0,1,0,λ_=>[]⟩]⟩)
  (Qs.trans (Qs.vr 5 1 (λi=>[]) rfl) QP) ⟨0,0,λ_=>[],.nil,rfl⟩ ?_
 rintro i s l ⟨g,a,b,f,rfl⟩;have v:=QiB L (λy=>y.parent==k) i;have q:=JJ (show i<4611686018427387904 from ω);apply Qg o;first|refine WN l (λd=>?_) (λd=>?_)|refine WO l (λd=>?_) (λd=>?_)
 obtain⟨M,p⟩:=Zc (kJ L (λy=>y.parent==k) i);obtain⟨e,m⟩:=Zc (L.getD i default);have c:kJ L (λy=>y.parent==k) (i+1)=if (e.parent==k)=true then M++[e.iD] else M:=by rw[p,m];rfl
 rw[<-p]at f v ⊢;simp only[go_sem,d,<-m];by_cases j:e.parent=k;rw[Qe (WQ j)]at c;have x:M.length<=4294967295:=ω;have h:Wb (λn:Int=>[Qa n]) (kJ L (λy=>y.parent==k) (i+1)) 0 (J8 M.length a b λ_=>[Qa e.iD]):=by rw[c];exact f.app e.iD rfl
 have r:(kJ L (λy=>y.parent==k) (i+1)).length=M.length+1:=by rw[c];simp
 simp only[go_sem,WQ j,x];refine⟨d,_,Qs.to 1 ⟨?_,by simp only[go_sem],?_,?_⟩,g+1,0,_,h,rfl⟩;simp only[go_sem,q,r];exact⟨h.upto PS,trivial⟩;simp only[go_sem,r];rw[Qd (zC j)]at c;have h:Wb (λn:Int=>[Qa n]) (kJ L (λy=>y.parent==k) (i+1)) a b:=by rw[c];exact f
 simp only[go_sem,VY j];refine⟨d,_,Qs.to 1 ⟨?_,by simp only[go_sem],?_,?_⟩,g,a,b,h,rfl⟩;simp only[go_sem,q,c];exact⟨h.upto PS,trivial⟩;simp only[go_sem,c];have u:i=L.length:=ω;subst u;rw[z];apply Qg o;exact⟨f.upto PS,g,a,b,rfl,rfl,f⟩
def UA(L:List Ql)(k):(Qw L k=none/\zB L k=-1)\/∃i,i<L.length/\zB L k=(i:Int)/\Qw L k=some (L.getD i default):=by
 cases h:L.findIdx? (λc=>c.iD==k) with
 | none=>refine .inl ⟨?_,by rw[zB,h]⟩;rw[Qw,j7];intro x hx;have:=EV.1 h x hx;simp[this]
 | some i=>obtain⟨a,e,d⟩:=Di.1 h;refine .inr ⟨i,a,by rw[zB,h],?_⟩;rw[Qw,List.find?_eq_some_iff_getElem];refine⟨by simpa[QU,a] using e,i,a,by simp[QU,a],λj b=>?_⟩;have:=d j b;simpa using this
def iO(L:List Ql)(a)(m:L.length<1000000)(l:∀c∈L,c.Nn):QM prog 85 [VB L,Qa a] (QR (QV (Vs L a))):=by
 refine Q1 0 func85 ntmps85 results85 λk w b=>?_;simp only[go_sem];apply QZ b A9 (Bl L a m);apply Qg b;by_cases d:a=0;have e:Vs L a=true:=by simp[Vs,d]
 simp only[go_sem,WQ d,Go.undef,e];have e:Vs L a=decide (1<QJ ((Qw L a).getD default).ls):=by simp[Vs,d]
 rw[e];simp only[go_sem,VY d,Go.undef];rcases UA L a with ⟨j,h⟩|⟨i,f,h,j⟩;rw[j,h];simp only[go_sem,Go.undef];rfl;rw[j,h];have n:L.getD i default∈L:=by rw[QU,QH f];exact XK f
 have g:=l _ n;have o:(0:Int)<=(i:Int):=ω;simp only[go_sem,f];apply QZ b yO (FL (L.getD i default).ls g.2.1.1 g.2.1.2.1 g.2.1.2.2);apply Qh b;simp only[go_sem,Va]
def QxU(L:List Ql)(h)(o:L.length<1000000):QM prog 32 [VB L,Qa h] (Uz 1 (λn:Int=>[Qa n]) (ZZ L 70 h)):=by
 refine Q1 1 func32 ntmps32 results32 λr w e=>?_;simp only[go_sem,-Nat.reducePow];refine ZY (λi s=>∃d a g b c,d++ZZ L (70-i) a=ZZ L 70 h/\d.length=i/\Wb (λn:Int=>[Qa n]) d b c/\s=⟨[(0,VB L),(5,.ref 0 g b d.length),(6,Qa a),(9,Qa i)],[⟨.arr,g,1,b+d.length,c⟩]⟩) 70
  (s0:=⟨[(0,VB L),(5,.ref 0 0 0 0),(6,Qa h),(9,Qa 0)],[⟨.arr,0,1,0,λ_=>[]⟩]⟩)
  (Qs.trans (Qs.vr 5 1 (λi=>[]) rfl) (Qs.frame (by simp only[go_sem,-Nat.reducePow]))) ⟨[],h,0,0,λ_=>[],rfl,rfl,.nil,rfl⟩ ?_
 rintro i s E ⟨d,a,g,b,c,f,t,k,rfl⟩;have B:=JJ (show i<4611686018427387904 from ω);by_cases z:i<70;have q:((i:Int)<70):=ω;obtain⟨n,u⟩:∃n,70-i=n+1:=⟨69-i,ω⟩;have F:70-(i+1)=n:=ω;rw[u,ZZ]at f;rcases UA L a with ⟨l,m⟩|⟨j,v,m,l⟩;rw[l,JN]at f;rw[<-f];apply Qh e;simp only[go_sem,-Nat.reducePow,q];refine WR e A9 ?_ (Bl L a o) ?_;simp only[go_sem,-Nat.reducePow];apply Qh e;simp only[go_sem,-Nat.reducePow,m];apply Qh e;simp only[go_sem,-Nat.reducePow];exact⟨k.upto PS,g,b,c,rfl,rfl,k⟩;rw[l]at f;have y:d.length<=4294967295:=ω;have p:Wb (λn:Int=>[Qa n]) (d++[a]) 0 (J8 d.length b c λ_=>[Qa a]):=k.app a rfl;have x:¬ ((j:Int)<0):=ω;apply Qh e;simp only[go_sem,-Nat.reducePow,q];refine WR e A9 ?_ (Bl L a o) ?_;simp only[go_sem,-Nat.reducePow];apply Qh e;simp only[go_sem,-Nat.reducePow,m,y,QN x,v];refine⟨z,_,Qs.to 1 ⟨?_,by simp only[go_sem,-Nat.reducePow],?_,?_⟩,d++[a],(L.getD j default).parent,g+1,0,_,?_,by simp[t],p,rfl⟩;simp only[go_sem,-Nat.reducePow,B,Zn,K9];exact⟨p.upto PS,trivial⟩;simp only[go_sem,-Nat.reducePow,Zn,K9];rw[show 69-i=n by omega,<-f];simp;have l:i=70:=ω;subst l;rw[ZZ,JN]at f;rw[<-f];have C:decide (((70:Nat):Int)<70)=false:=π;apply Qh e;simp only[go_sem,-Nat.reducePow];apply Qh e;simp only[go_sem,-Nat.reducePow];exact⟨k.upto PS,g,b,c,rfl,rfl,k⟩
def putAt(L:List Ql)(x:Ql):Nat->List Ql × Bool
 | 0=>([],false)
 | i+1=>
  let o:=if !(putAt L x i).2&&decide (x.iD<=(L.getD i default).iD) then (putAt L x i).1++[x] else (putAt L x i).1
  (if (L.getD i default).iD≠x.iD then o++[L.getD i default] else o,(putAt L x i).2 || decide (x.iD<=(L.getD i default).iD))
def CI(L:List Ql)(x:Ql):List Ql:=if (putAt L x L.length).2 then (putAt L x L.length).1 else (putAt L x L.length).1++[x]
def yi(x:Ql):List Ql->List Ql × Bool->List Ql × Bool
 | [],s=>s
 | c::r,s=>
  let o:=if !s.2&&decide (x.iD<=c.iD) then s.1++[x] else s.1
  yi x r (if c.iD≠x.iD then o++[c] else o,s.2 || decide (x.iD<=c.iD))
def QiD(x):∀(L:List Ql) (c:Ql) (s:List Ql × Bool),yi x (L++[c]) s=yi x [c] (yi x L s)
 | [],c,s=>rfl
 | d::L,c,s=>by simp only[qs];rw[yi,QiD x L c];rfl
def QiE(L:List Ql)(x):∀i,i<=L.length->putAt L x i=yi x (L.take i) ([],false)
 | 0,_=>by simp[putAt,yi]
 | i+1,h=>by have a:i<L.length:=ω;rw[zQ,QH a,BM,QiD,<-QiE L x i ω];simp only[putAt,yi,QU,QH a,Va]
def tF(x:Ql):∀(L o:List Ql),(∀c∈L,c.iD≠x.iD)->yi x L (o,true)=(o++L,true)
 | [],o,_=>by simp[yi]
 | c::L,o,h=>by have b:=h c σ;simp only[yi,BI,N9,qq,q5,Sk];rw[Qe b,tF x L _ λd a=>h d (by simp[a])];simp
def QiF(x):∀(L o:List Ql),WD L->(let s:=yi x L (o,false);if s.2 then s.1 else s.1++[x])=o++VL L x
 | [],o,_=>by simp[yi,VL]
 | c::L,o,h=>by have j:WD L:=nT h;have i:∀d∈L,c.iD<d.iD:=λd b=>(AD.1 h).1 d b;simp only[yi,VL,GW,Sj,GV,W3];by_cases f:x.iD<c.iD;have a:x.iD<=c.iD:=ω;have l:c.iD≠x.iD:=ω;rw[Qe f,Qe a,Qe l,QY a,tF x L _ λd b=>by have:=i d b;omega];simp;by_cases a:c.iD=x.iD;have e:x.iD<=c.iD:=ω;rw[Qd f,Qe a,Qe e,Qd (show ¬ (c.iD≠x.iD) from λk=>k a),QY e,tF x L _ λd b=>by have:=i d b;omega];simp;have e:¬ x.iD<=c.iD:=ω;have g:=QiF x L (o++[c]) j;simp only at g;rw[Qd f,Qd a,Qd e,Qe a,QN e,g];simp
def QiG{L}(h:WD L)(x):CI L x=VL L x:=by have:=QiF x L [] h;simp only[qv]at this;rw[CI,QiE L x _ (Qv _),Wo,this]
structure Nc where
 a:Nat
 d:Nat
 b:Nat
instance:Inhabited Nc:=⟨⟨0,0,0⟩⟩
@[go_sem] def Nc.cells(c:Nc):List D:=[u64 c.a,u64 c.d,u64 c.b]
def Nc.rows(l:List Nc):Nat->List D:=λi=>(l.getD i default).cells
theorem Nc.vN(l:List Nc)(i):Nc.rows l i=(l.getD i default).cells:=rfl
def K0(l:List Nc):D:=.imm 3 l.length (Nc.rows l)
def Ed(c:Nc):D:=.agg c.cells
attribute[go_sem]Nc.vN K0 Ed
def Nc.of(c:Nc):Int:=Ku c.a c.d c.b
def Nc.Lt(c:Nc):Prop:=c.a<18446744073709551616/\c.d<18446744073709551616/\c.b<18446744073709551616
def QiH(F:List Ob)(f a:Nat)(b:List D)(g:Nc->Nat):Prop:=∀(h:List Ob) (c:Nc),c.Lt->VZ F h->Zl prog f h (Jh a b [Ed c]) (λd=>d=num (g c))
def Xr(g:Nc->Nat)(s:Nat)(c:Nc):Nat:=if c.of=0 then s else s+g c
def je(g:Nc->Nat)(l:List Nc):Nat:=l.foldl (Xr g) 0
def PT{g M}(a:∀c:Nc,c.Lt->g c<=M):∀{l:List Nc} {s:Nat},(∀c∈l,c.Lt)->l.foldl (Xr g) s<=s+l.length*M
 | [],s,_=>σ
 | c::l,s,h=>by
  have e:=a c (h c σ);have d:=PT a (l:=l) (s:=Xr g s c) λx hx=>h x (by simp[hx]);have b:Xr g s c<=s+M:=by unfold Xr;split<;>omega
  simp only[qX,Kx,KE,Lp];omega
def MS(n:Nat):Ob:=⟨.one,0,2,1,λ_=>[u64 (n/18446744073709551616),u64 (n%18446744073709551616)]⟩
structure OvI (l:List Nc) (so:D) (g:Nc->Nat) (F:List Ob) (i:Nat) (s:St):Prop where
 ex:∃G:List Ob,s=⟨[(1,so),(4,.ptr F.length 0 0 0),(5,.ptr (F.length+1) 0 0 0),(8,K0 l),(9,Qa l.length),(10,Qa i)],F++(MS 0::MS ((l.take i).foldl (Xr g) 0)::G)⟩
def QiI(h:List Ob)(l:List Nc)(P:l.length<1048576)(t:∀c∈l,c.Lt)(j:D)(f q:Nat)(y:List D)(I:Qm prog f)(M:JP j=some (f,q,y))(g:Nc->Nat)(C:∀c:Nc,c.Lt->g c<=2^97)
  (H:QiH (h.map Ob.ro) f q y g):Zl prog 229 h [K0 l,j] (λd=>d=num (je g l)):=by
 refine ZN func229 ntmps229 results229 λE w O F K T b=>?_;simp only[go_sem,Qj];refine ZY (OvI l j g F) l.length (s0:=⟨[(1,j),(4,.ptr F.length 0 0 0),(5,.ptr (F.length+1) 0 0 0),(8,K0 l),(9,Qa l.length),(10,Qa 0)],F++[MS 0,MS 0]⟩) QP ⟨[],rfl⟩ ?_;rintro i s r ⟨G,rfl⟩;have z:=JJ (show i<4611686018427387904 from ω);obtain⟨S,k⟩:=Zc ((l.take i).foldl (Xr g) 0);have U:S<=2^117:=by have R:=PT C (l:=l.take i) (s:=0) λx hx=>t x (Oi hx);have L:(l.take i).length<=1048576:=ξ;have Q:=V6 (2^97) L;rw[k];omega
 rw[<-k];apply Qg b;first|refine WN r (λa=>?_) (λa=>?_)|refine WO r (λa=>?_) (λa=>?_)
 obtain⟨c,p⟩:=Zc (l.getD i default);have u:c.Lt:=t c (by rw[p,QU,QH a];exact XK a);have v:(l.take (i+1)).foldl (Xr g) 0=Xr g S c:=by rw[zQ,QH a,BM,qu,k,p,QU,QH a];rfl
 simp only[go_sem,Qj,a,<-p];apply QZ b Pn (tE c.a c.d c.b);apply Kh b;by_cases m:c.of=0;have o:Ku c.a c.d c.b=0:=m;have n:Xr g S c=S:=by rw[Xr,Qe m]
 simp only[go_sem,WQ o,bne];refine⟨a,_,Qs.frame (fr':=[(1,j),(4,.ptr F.length 0 0 0),(5,.ptr (F.length+1) 0 0 0),(8,K0 l),(9,Qa l.length),(10,Qa (i+1:Nat))]) (by simp only[go_sem,z]),⟨_,by rw[v,n]⟩⟩;have o:Ku c.a c.d c.b≠0:=m;have n:Xr g S c=S+g c:=by rw[Xr,Qd m]
 have N:=C c u;simp only[go_sem,VY o,bne];have B:=Ur S (g c) ω ω;rw[kg (by omega:S+g c<2^128)]at B;apply Qy b [0,1,2,1003,1004,5,6,7,1008];simp only[go_sem,Qj,MS];refine Pf b I M ?_ (H _ c u (by rw[<-K];exact⟨_,rfl⟩)) rfl λd2 J=>?_;simp only[go_sem];exact DV _;subst J;apply ZB b;apply ZP b TB B;apply Ms b;refine⟨a,_,Qs.frame (fr':=[(1,j),(4,.ptr F.length 0 0 0),(5,.ptr (F.length+1) 0 0 0),(8,K0 l),(9,Qa l.length),(10,Qa (i+1:Nat))]) (by simp only[go_sem,z]),⟨G++[⟨.one,0,3,1,λ_=>c.cells⟩],?_⟩⟩;rw[v,n];rfl;subst a;rw[Wo]at k;have e:je g l=S:=k.symm;rw[e];apply Qh b;simp only[go_sem,Qj,MS];exact⟨_,rfl⟩
def QxW(h)(c:Nc)(e:c.Lt):Zl prog 232 h [Ed c] (λd=>d=num c.b):=by refine ZN func232 ntmps232 results232 λb w f F g i a=>?_;simp only[go_sem,Qj];apply QZ a Qgx (Qic c.b e.2.2);apply Kh a;exact⟨_,rfl⟩
def QxX(l:List Nc)(e:l.length<1048576)(a:∀c∈l,c.Lt):QM prog 180 [K0 l] (QR (num (je (λc=>c.b) l))):=by refine Q1 0 func180 ntmps180 results180 λd w b=>?_;simp only[go_sem];refine X4 b Qgw rfl ?_ (QiI _ l e a (.raw (.func (.func 232) ⟨[]⟩ ⟨[]⟩)) 232 0 [] Qu9 rfl (λc=>c.b) (λc h=>by have:=h.2.2;omega) (λg c a _=>QxW g c a)) rfl λd2 f=>?_;simp only[go_sem];subst f;exact VT b
def QxY(h:List Ob)(e t)(g:t<18446744073709551616)(c:Nc)(a:(h.map Ob.ro)[e]?=some ⟨.Wp,0,1,1,λ_=>[u64 t]⟩):Zl prog 230 h [Ed c,.ptr e 0 0 0] (λd=>d=num (Jg c.a c.d c.b t)):=by refine ZN func230 ntmps230 results230 λf w k F i l b=>?_;rw[<-i]at a;have j:=Qb a;simp only[go_sem,Qj,a,j];apply QZ b Qu8 (QxJ c.a c.d c.b t g);apply Kh b;exact⟨_,rfl⟩
def QxZ(l:List Nc)(t)(a:t<18446744073709551616)(f:l.length<1048576)(b:∀c∈l,c.Lt):QM prog 179 [K0 l,u64 t] (QR (num (je (λc=>Jg c.a c.d c.b t) l))):=by
 have j:∀c:Nc,c.Lt->Jg c.a c.d c.b t<=2^97:=λc _=>by have:=Qiq c.a c.d c.b t a;omega
 refine Q1 0 func179 ntmps179 results179 λe w d=>?_;simp only[go_sem];have h:QiH (([⟨.one,0,1,1,λ_=>[u64 t]⟩,MS 0]:List Ob).map Ob.ro) 230 0 [.ptr 0 0 0 0] (λc=>Jg c.a c.d c.b t):=λk c b hx=>by obtain⟨g,rfl⟩:=hx;exact QxY _ 0 t a c rfl
 refine X4 d Qgw rfl ?_ (QiI _ l f b (.clo 230 0 [.ptr 0 0 0 0]) 230 0 [.ptr 0 0 0 0] Qu7 rfl (λc=>Jg c.a c.d c.b t) j h) rfl λd2 i=>?_;simp only[go_sem];subst i;exact VT d
@[go_sem] theorem Ln.QJH(l:Ln):l.cells=[u64 l.x,u64 (l.y/18446744073709551616),u64 (l.y%18446744073709551616),u64 l.m]:=rfl
def jf(c:Nc)(x y:Nat):Rn:=
 if c.of=2\/c.of=4 then ⟨⟨0,0,0⟩,⟨x,y,c.b⟩,false⟩
 else if c.of=3 then ⟨⟨x,y,c.a⟩,⟨x,(y+(c.a-c.b)*c.d)%2^128,c.b⟩,true⟩
 else ⟨⟨0,0,0⟩,⟨x,y,0⟩,false⟩
def VC(c:Nc)(x y:Nat):Rn:=
 if c.of=4 then ⟨⟨0,0,0⟩,⟨(x+c.d)%18446744073709551616,y,c.b⟩,false⟩ else jf c x y
def Ln.v8:(⟨0,0,0⟩:Ln).Ok:=⟨π,π,π⟩
def iP{c:Nc}(d:c.Lt){x y:Nat}(a:x<18446744073709551616)(b:y<2^128):(jf c x y).Ok:=by unfold jf;split;exact⟨Ln.v8,a,b,d.2.2⟩;split;exact⟨⟨a,b,d.1⟩,a,Xt _ π,d.2.2⟩;exact⟨Ln.v8,a,b,(by decide:(0:Nat)<18446744073709551616)⟩
def MU{c:Nc}(b:c.Lt){x y:Nat}(d:x<18446744073709551616)(a:y<2^128):(VC c x y).Ok:=by unfold VC;split;exact⟨Ln.v8,Xt _ π,a,b.2.2⟩;exact iP b d a
def UB{c:Nc}(e:c.of=2\/c.of=4)(x y):jf c x y=⟨⟨0,0,0⟩,⟨x,y,c.b⟩,false⟩:=Qe e
def tH{c:Nc}(e:c.of=3)(x y):jf c x y=⟨⟨x,y,c.a⟩,⟨x,(y+(c.a-c.b)*c.d)%2^128,c.b⟩,true⟩:=by unfold jf;rw[Qd ω,Qe e]
def QiJ{c:Nc}(e:c.of=0\/c.of=1)(x y):jf c x y=⟨⟨0,0,0⟩,⟨x,y,0⟩,false⟩:=by unfold jf;rw[Qd ω,Qd ω]
def QiK(c:Nc)(b:c.Lt)(x y:Nat)(h:x<18446744073709551616)(f:y<2^128):QM prog 198 [Ed c,u64 x,num y] (QR (.agg (jf c x y).cells)):=by
 refine Q1 0 func198 ntmps198 results198 λd w a=>?_;simp only[go_sem];apply QZ a FE (Ux c.a c.d c.b);apply Qg a;rcases Qip c.a c.d c.b with e|e|e|e|e;rw[QiJ (.inl e)];simp only[go_sem,e];rw[QiJ (.inr e)];simp only[go_sem,e];rw[UB (.inl e)];simp only[go_sem,e]
 .have i:c.b<c.a/\c.a<=4294967295:=by
   unfold Ku at e
   repeat' (split at e)
   all_goals first|omega|contradiction
  have g:=TS c.a c.b ω ω;rw[tH e];simp only[go_sem,e];apply Qy a o09;simp only[go_sem,g];apply ZP a Ci (CE (c.a-c.b) c.d ω b.2.1);apply ZB a;apply ZP a TB (Ur y ((c.a-c.b)*c.d) f (Qis ω b.2.1));exact FK a
 rw[UB (.inr e)];simp only[go_sem,e]
def tI(c:Nc)(h:c.Lt)(x y:Nat)(g:x<18446744073709551616)(f:y<2^128):QM prog 197 [Ed c,u64 x,num y] (QR (.agg (VC c x y).cells)):=by
 refine Q1 0 func197 ntmps197 results197 λd w a=>?_;simp only[go_sem];apply QZ a Qgo (QiK c h x y g f);apply Qg a;apply QZ a FE (Ux c.a c.d c.b);apply Qg a;by_cases e:c.of=4;have b:Ku c.a c.d c.b=4:=e;rw[UB (.inr e),show VC c x y=⟨⟨0,0,0⟩,⟨(x+c.d)%18446744073709551616,y,c.b⟩,false⟩ from Qe e];simp only[go_sem,b,Cr];have b:(Ku c.a c.d c.b==4)=false:=by simpa[Nc.of] using e
 rw[show VC c x y=jf c x y from Qd e];simp only[go_sem,b]
def Y6(a b:Rn):Rn:=⟨if a.b then jd a.f b.f else ⟨0,0,0⟩,jd a.t b.t,a.b⟩
def tJ{a b:Rn}(d:a.Ok)(c:b.Ok):(Y6 a b).Ok:=by refine⟨?_,Qix d.t c.t⟩;unfold Y6;dsimp only;split;exact Qix d.f c.f;exact Ln.v8
def iQ(a b:Rn)(d:a.Ok)(e:b.Ok):QM prog 196 [.agg a.cells,.agg b.cells] (QR (.agg (Y6 a b).cells)):=by
 refine Q1 0 func196 ntmps196 results196 λf w c=>?_;simp only[go_sem];apply Qy c [0,1,2,3,5,6,1004,7,1008,1009];simp only[go_sem];apply ZP c Qgy (Qiy a.t b.t d.t e.t);apply ZB c;cases h:a.b with
 | true=>rw[show Y6 a b=⟨jd a.f b.f,jd a.t b.t,true⟩ from by unfold Y6;rw[h];rfl];simp only[go_sem];apply QZ c Qgy (Qiy a.f b.f d.f e.f);exact VT c
 | false=>rw[show Y6 a b=⟨⟨0,0,0⟩,jd a.t b.t,false⟩ from by unfold Y6;rw[h];rfl];simp only[go_sem]
def KG(r:Rn)(w:Nat):Nat:=if r.b then max (Xe r.f w) (Xe r.t w) else Xe r.t w
def UC(r w):KG r w<=never:=by have:=Qiv r.f w;have:=Qiv r.t w;unfold KG;split<;>omega
def Qx0(r:Rn):QM prog 252 [.agg r.cells] (QR (.agg ((if r.b then r.f else r.t).cells++r.t.cells))):=by
 refine Q1 0 func252 ntmps252 results252 λa w b=>?_;simp only[go_sem];cases h:r.b with
 | true=>simp only[go_sem]
 | false=>simp only[go_sem]
def QiL(a:Nat):max (0:Int) (a:Int)=(a:Int):=ω
def iR(r:Rn)(e:r.Ok)(v)(d:v<2^128):QM prog 210 [.agg r.cells,num v] (QR (u64 (KG r v))):=by
 have f:∀a b:Nat,max (a:Int) (b:Int)=((max a b:Nat):Int):=λa b=>ω;refine Q1 0 func210 ntmps210 results210 λg w c=>?_;simp only[go_sem];apply QZ c Qvf (Qx0 r);apply Qg c;cases h:r.b with
 | true=>rw[show KG r v=max (Xe r.f v) (Xe r.t v) from by unfold KG;rw[h];rfl];simp only[go_sem];refine x6 2 ?_;apply Qg c;apply QZ c gA (iN r.f e.f v d);apply Qh c;simp only[go_sem,QiL];apply Qg c;apply Qg c;apply QZ c gA (iN r.t e.t v d);apply Qh c;simp only[go_sem,f];apply Qg c;exact VT c
 | false=>rw[show KG r v=max (Xe r.t v) (Xe r.t v) from by unfold KG;rw[h];simp];simp only[go_sem];refine x6 2 ?_;apply Qg c;apply QZ c gA (iN r.t e.t v d);apply Qh c;simp only[go_sem,QiL];apply Qg c;apply Qg c;apply QZ c gA (iN r.t e.t v d);apply Qh c;simp only[go_sem,f];apply Qg c;exact VT c
def Wj(n:Nat):Nat:=n%18446744073709551616
def MV(n):Wj n<18446744073709551616:=Xt _ π
def QiM(a b:Nat):IntKind.u64.wrap ((a:Int)+(b:Int))=((Wj (a+b):Nat):Int):=Cr a b
structure Du where
 has:Bool
 dl:Rn
 rd:Rn
 QC:Nat
 Vt:Nat
 dead:Nat
deriving DecidableEq
instance:Inhabited Du:=⟨⟨false,default,default,0,0,0⟩⟩
structure Du.Ok (d:Du):Prop where
 dl:d.dl.Ok
 rd:d.rd.Ok
 QC:d.QC<18446744073709551616
 Vt:d.Vt<=never
 dead:d.dead<=never
@[go_sem] def Du.cells(d:Du):List D:=[QV d.has,u64 d.dl.f.x,u64 (d.dl.f.y/18446744073709551616),u64 (d.dl.f.y%18446744073709551616),u64 d.dl.f.m,u64 d.dl.t.x,u64 (d.dl.t.y/18446744073709551616),u64 (d.dl.t.y%18446744073709551616),u64 d.dl.t.m,QV d.dl.b,
 u64 d.rd.f.x,u64 (d.rd.f.y/18446744073709551616),u64 (d.rd.f.y%18446744073709551616),u64 d.rd.f.m,u64 d.rd.t.x,u64 (d.rd.t.y/18446744073709551616),u64 (d.rd.t.y%18446744073709551616),u64 d.rd.t.m,QV d.rd.b,u64 d.QC,u64 d.Vt,u64 d.dead]
def X8(l:Du)(a:Int):Du:=
 if 0<a then ⟨l.has,l.dl,l.rd,l.QC,KG l.rd (l.QC*65536),KG l.dl (Wj (l.QC+a.toNat)*65536)⟩ else ⟨l.has,l.dl,l.rd,l.QC,never,never⟩
def tK{l:Du}(d:l.dl.Ok)(c:l.rd.Ok)(b:l.QC<18446744073709551616)(a:Int):(X8 l a).Ok:=by unfold X8;split;exact⟨d,c,b,UC _ _,UC _ _⟩;exact⟨d,c,b,Qv _,Qv _⟩
def iS(n)(c:n<18446744073709551616):QM prog 195 [u64 n] (QR (num (n*65536))):=by refine Q1 0 func195 ntmps195 results195 λb w a=>?_;simp only[go_sem];apply QZ a Ci (CE n 65536 c π);exact VT a
def MW{n:Int}(b:0<=n)(a:n<18446744073709551616):IntKind.u64.wrap n=((n.toNat:Nat):Int):=κ
def tM(l:Du)(g:l.dl.Ok)(f:l.rd.Ok)(d:l.QC<18446744073709551616)(a:Int)(k:a<9223372036854775808):QM prog 199 [.agg l.cells,Qa a] (QR (.agg (X8 l a).cells)):=by have e:∀n:Nat,n<18446744073709551616->n*65536<2^128:=λn j=>ω;by_cases h:0<a;have d1:=QY h;have i:=MW (n:=a) ω ω;rw[show X8 l a=⟨l.has,l.dl,l.rd,l.QC,KG l.rd (l.QC*65536),KG l.dl (Wj (l.QC+a.toNat)*65536)⟩ from Qe h];refine Q1 0 func199 ntmps199 results199 λc w b=>?_;simp only[go_sem];simp only[go_sem,d1];apply Qy b [0,1,2,3,1004,1005,6,1007];simp only[go_sem];apply ZP b gq (iS l.QC d);apply ZB b;apply ZP b gw (iR l.rd f (l.QC*65536) (e _ d));apply ZB b;apply Qy b [0,1,2,3,4,5,6,1007,1008,9,1010];simp only[go_sem,i,QiM];apply ZP b gq (iS (Wj (l.QC+a.toNat)) (MV _));apply ZB b;apply ZP b gw (iR l.dl g (Wj (l.QC+a.toNat)*65536) (e _ (MV _)));exact FK b;have d1:=QN h;rw[show X8 l a=⟨l.has,l.dl,l.rd,l.QC,never,never⟩ from Qd h];refine Q1 0 func199 ntmps199 results199 λc w b=>?_;simp only[go_sem];simp only[go_sem,d1];rfl
def xg(l:Du)(b a:Int):Du:=X8 { l with QC:=Wj (l.QC+b.toNat) } a
def Qx1(l:Du)(g:l.dl.Ok)(f:l.rd.Ok)(m:l.QC<18446744073709551616)(b a:Int)(j:0<=b)(k:b<9223372036854775808)(e:a<9223372036854775808):QM prog 211 [.agg l.cells,Qa b,Qa a] (QR (.agg (xg l b a).cells)):=by have i:max b 0=b:=ω;have h:=MW (n:=b) j ω;refine Q1 0 func211 ntmps211 results211 λd w c=>?_;simp only[go_sem];simp only[go_sem,i,h,QiM];apply QZ c rq (tM { l with QC:=Wj (l.QC+b.toNat) } g f (MV _) a e);apply Qg c;rfl
def Qx2(l:Du)(g:l.dl.Ok)(f:l.rd.Ok)(e:l.QC<18446744073709551616)(a:Int)(d:a<9223372036854775808):QM prog 213 [.agg l.cells,Qa a] (QR (.agg (X8 l a).cells)):=by refine Q1 0 func213 ntmps213 results213 λc w b=>?_;simp only[go_sem];apply QZ b rq (tM l g f e a d);exact VT b
structure Qu where
 l:List Pk
 ci:Nat
 co:Nat
 cd:Nat
 bi:Nat
 bo:Nat
 bd:Nat
instance:Inhabited Qu:=⟨⟨[],0,0,0,0,0,0⟩⟩
def YI:List Pk->Nat
 | []=>0
 | p::l=>p.len.toNat+YI l
def Qx3(l m):YI (l++m)=YI l+YI m:=by
 induction l with
 | nil=>simp[YI]
 | cons p l a=>simp only[qs,YI,a];omega
def PV(p:Pk):Prop:=1<=p.len/\p.len<=16384
def QiN{l:List Pk}(h:∀p∈l,PV p):YI l<=16384*l.length:=by
 induction l with
 | nil=>simp[YI]
 | cons p l a=>have c:=h p σ;have d:=a λq b=>h q (by simp[b]);unfold PV at c;simp only[YI,Kx];omega
@[go_sem] def Qu.cts(q:Qu):List D:=[u64 q.ci,u64 q.co,u64 q.cd,u64 q.bi,u64 q.bo,u64 q.bd]
def wa(b a:Int)(q:Qu)(p:Pk):Bool:=decide (a<YI q.l+p.len) || decide ((q.l.length:Int)=b)
def X9(b a:Int)(q:Qu)(p:Pk):Qu:=
 if wa b a q p then { q with cd:=Wj (q.cd+1),bd:=Wj (q.bd+p.len.toNat) }
 else { q with l:=q.l++[p],ci:=Wj (q.ci+1),bi:=Wj (q.bi+p.len.toNat) }
def Kv(q:Qu):Qu:={ q with l:=q.l.tail,co:=Wj (q.co+1),bo:=Wj (q.bo+(q.l.headD default).len.toNat) }
def XR(q:Qu):Int:=match q.l with|[]=>0|p::_=>p.len
@[go_sem] def PW(r:Nat)(a:Int)(q:Qu):Ob:=⟨.one,0,9,1,λ_=>[.ptr r 0 0 0,Qa a,Qa (YI q.l:Nat),u64 q.ci,u64 q.co,u64 q.cd,u64 q.bi,u64 q.bo,u64 q.bd]⟩
structure tN (S:Nat->Prop) (h:List Ob) (p r ZV:Nat) (room:Int) (q:Qu):Prop where
 o:h[p]?=some (PW r room q)
 ring:vZ (λl=>S l/\l≠p) h r ZV q.l
 rp:r≠p
 sp:S p
 lens:∀x∈q.l,PV x
 r0:0<=room
 r1:room<=1048576
def xh(S:Nat->Prop)(h:List Ob)(p b:Nat)(a:Int)(q:Qu):Prop:=∃r,tN S h p r b a q
def vZ.step{S S'}{h h':List Ob}{r b L}(e:∀l,l<h.length->S l->S' l/\h'[l]? = h[l]?):vZ S h r b L->vZ S' h' r b L:=λ⟨a,f,c,T⟩=>⟨a,f,c,((e _ (Qb T.o) T.sr).2).trans T.o,((e _ (Qb T.ao) T.sa).2).trans T.ao,T.ra,T.fl,T.len,T.yZ,T.rows,T.lens,(e _ (Qb T.o) T.sr).1,(e _ (Qb T.ao) T.sa).1⟩
def vZ.tO{S h r b}{L:List Pk}:vZ S h r b L->L.length<=b/\b<=64:=λ⟨a,f,c,T⟩=>⟨T.len,T.yZ⟩
def xh.step{S S'}{h h':List Ob}{p d a q}(e:∀l,l<h.length->S l->S' l/\h'[l]? = h[l]?):xh S h p d a q->xh S' h' p d a q:=λ⟨r,Q⟩=>⟨r,((e _ (Qb Q.o) Q.sp).2).trans Q.o,Q.ring.step λl b ⟨c,f⟩=>⟨⟨(e l b c).1,f⟩,(e l b c).2⟩,Q.rp,(e _ (Qb Q.o) Q.sp).1,Q.lens,Q.r0,Q.r1⟩
structure Qx5 (h:List Ob) (p r ZV:Nat) (room:Int) (q:Qu):Prop where
 o:(h.map Ob.ro)[p]?=some (PW r room q).ro
 ring:Uq h r ZV q.l
def PX(h:List Ob)(p b:Nat)(a:Int)(q:Qu):Prop:=∃r,Qx5 h p r b a q
def xh.toR{S h p b a q}:xh S h p b a q->PX h p b a q:=λ⟨r,Q⟩=>⟨r,Jf Q.o,Q.ring.toR⟩
def PX.more{h h':List Ob}{p b a q}(e:∀(l:Nat) (o:Ob),(h.map Ob.ro)[l]?=some o->(h'.map Ob.ro)[l]?=some o):PX h p b a q->PX h' p b a q:=λ⟨r,Q⟩=>⟨r,e _ _ Q.o,Q.ring.more e⟩
section
variable {h:List Ob}{p ZV:Nat}{room:Int}{q:Qu}(Q:PX h p ZV room q)
include Q
theorem PY:Zl prog 111 h [.ptr p 0 0 0] (λd=>d=Qa q.l.length):=by obtain⟨r,b,i⟩:=Q;refine ZN func111 ntmps111 results111 λg w k F e l c=>?_;rw[<-e]at b;have m:=Qb b;simp only[go_sem,b];obtain⟨a,f,j,T⟩:=i;apply ZH c Qus (Qxj (T.more (VM e)));apply Qg c;all_goals exact Xp
theorem QiO:Zl prog 212 h [.ptr p 0 0 0] (λd=>d=Qa (XR q)):=by
 have j:=Q;obtain⟨r,e,m⟩:=Q;obtain⟨a,f,s,T⟩:=m;unfold XR;cases i:q.l with
 | nil=>refine ZN func212 ntmps212 results212 λg w k F c n b=>?_;rw[<-c]at e;have o:=Qb e;simp only[go_sem];apply ZH b Pj (PY (j.more (VM c)));apply Qh b;simp only[go_sem,i];all_goals exact Xp
 | cons x l=>have d0:(((l.length+1:Nat):Int)==0)=false:=ξ;refine ZN func212 ntmps212 results212 λg w k F c n b=>?_;rw[<-c]at e;have o:=Qb e;simp only[go_sem];apply ZH b Pj (PY (j.more (VM c)));apply Qh b;simp only[go_sem,e,i,d0];apply ZH b QgC (Qh8 (T.more (VM c)) 0 (by rw[i];simp));apply Qh b;simp only[go_sem,Qj,i];all_goals exact Xp
end
end Go.Fg.X
