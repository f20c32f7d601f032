/- Contracts and laws on the way to the statement. No conditions. -/
import Derived.Test.YtbemejcgkfieeaaGreatCA2C
set_option maxRecDepth 100000
set_option maxHeartbeats 16000000
set_option linter.unusedVariables false
set_option linter.unusedSimpArgs false
set_option linter.unusedSectionVars false
set_option linter.defProp false
namespace Go.Fg.X
open Go.Proofs Go.Fg
open Go.Proofs.Tryz
def p9(a)(i)(b)(j):QI prog 269 [.agg [u64 a,Qb i],.agg [u64 b,Qb j]] (QO (Qb (zS a i b j))):=by
 refine QZ 0 func269 ntmps269 results269 λc w d=>?_;simp only[go_sem]
 repeat' (first|((first|refine qu (λh=>?_) (λh=>?_)|refine qv (λh=>?_) (λh=>?_)|refine qw (λh=>?_) (λh=>?_)|refine Wu (λh=>?_) (λh=>?_)|refine qx (λh=>?_) (λh=>?_)|refine qy (λh=>?_) (λh=>?_)|refine qz (λh=>?_) (λh=>?_)|refine qp (λh=>?_) (λh=>?_))<;>(try simp only[go_sem,Go.undef]))|(refine And.intro δ ?_;try simp only[go_sem,Go.undef])|fail)
 all_goals (congr 2;(try simp only[ZL,Gv,yi,Db,zF,jN,bne_iff_ne,bne_eq_false_iff_eq,X4,GF,ne_eq]at *);(try unfold zS Ks);(repeat' split)<;>omega)
def OZ(x y:It):QI prog 256 [.agg x.cells,.agg y.cells] (QO (.agg (j7 x y).cells)):=by
 have f:=p9 y.va y.vi x.va x.vi;have e:=p9 y.ka y.ki x.ka x.ki;simp only[j7];generalize zS y.va y.vi x.va x.vi=p at *;generalize zS y.ka y.ki x.ka x.ki=q at *;refine QZ 0 func256 ntmps256 results256 λb w a=>?_;simp only[go_sem];apply Jp a po f;apply QV a
 repeat' (first|((first|refine qu (λh=>?_) (λh=>?_)|refine qv (λh=>?_) (λh=>?_)|refine qw (λh=>?_) (λh=>?_)|refine Wu (λh=>?_) (λh=>?_)|refine qx (λh=>?_) (λh=>?_)|refine qy (λh=>?_) (λh=>?_)|refine qz (λh=>?_) (λh=>?_)|refine qp (λh=>?_) (λh=>?_))<;>(try simp only[go_sem,Go.undef]))|(refine And.intro δ ?_;try simp only[go_sem,Go.undef])|(refine Va a [] po rfl ?_ (e) rfl ?_;(· simp only[go_sem,Go.undef]);intro d h c;obtain⟨rfl,rfl⟩:=c;(simp only[go_sem,Go.undef]);apply Qf a;simp only[go_sem,Go.undef])|fail)
 all_goals (try simp only[zF,jN,ne_eq]at *);(first|rw[Qe ω]|rw[Qd ω])
section
variable {h:List Ob}{t:Tr}(i:ju h t)
include i
theorem vE:Zi prog 264 h [t.ptr] (λd=>d=Qb t.high):=by
 cases t with
 | nil=>
  refine ZJ func264 ntmps264 results264 λa w e F c g f=>?_;simp only[go_sem,Qa];exact⟨[],by simp[Tr.high]⟩
 | node k m l r=>
  have b:=i.1;refine ZJ func264 ntmps264 results264 λa w e F c g f=>?_;rw[<- c]at b;have j:=Qc b;simp only[go_sem,Qa,b,j];exact⟨[],σ⟩
theorem FD:Zi prog 265 h [t.ptr] (λd=>d=Qb t.size):=by
 cases t with
 | nil=>
  refine ZJ func265 ntmps265 results265 λa w e F c g f=>?_;simp only[go_sem,Qa];exact⟨[],by simp[Tr.size]⟩
 | node k m l r=>
  have b:=i.1;refine ZJ func265 ntmps265 results265 λa w e F c g f=>?_;rw[<- c]at b;have j:=Qc b;simp only[go_sem,Qa,b,j];exact⟨[],σ⟩
theorem fV(n):Zi prog 266 h [t.ptr,u64 n] (λd=>d=QX (t.hasB n)):=by
 cases t with
 | nil=>
  refine ZJ func266 ntmps266 results266 λa w e F c g f=>?_;simp only[go_sem,Qa];exact⟨[],by simp[Tr.hasB]⟩
 | node k m l r=>
  have b:=i.1;refine ZJ func266 ntmps266 results266 λa w e F c g f=>?_;rw[<- c]at b;have j:=Qc b;simp only[go_sem,Qa,b,j];exact⟨[],by simp[Tr.hasB]⟩
end
structure Raw (h:List Ob) (loc:Nat) (it:It) (l r:Tr) (le:It) (hi n:Int):Prop where
 o:h[loc]? = some (FA it l.ptr r.ptr le hi n)
 il:Vv h l
 ir:Vv h r
def Vv.set{h:List Ob}{t:Tr}(i:Vv h t){k}(o)(a:k ∉ t.QN):Vv (h.set k o) t:=i.frame λl b=>Ql λe=>a (e▸b)
def DO{h}{loc}{it}{l r:Tr}{le}{hi n}(i:Raw h loc it l r le hi n)(L:l.size<1000000)(M:r.size<1000000)(z:loc ∉ l.QN)(y:loc ∉ r.QN):
  QM prog 246 h [.ptr loc 0 0 0] (λd I=>I=h.set loc (FA it l.ptr r.ptr (Tr.node loc it l r).least ((Tr.node loc it l r).high:Nat) ((Tr.node loc it l r).size:Nat))):=by
 have f:=i.o;have s:=i.il;have q:=i.ir;have K:=l.OW;have J:=r.OW;have x:max (l.high:Int) (r.high:Int)=((max l.high r.high:Nat):Int):=ω;have v:IntKind.i64.wrap (1+((max l.high r.high:Nat):Int))=((1+max l.high r.high:Nat):Int):=ZB;have u:IntKind.i64.wrap (1+(l.size:Int))=((1+l.size:Nat):Int):=ZB;have t:IntKind.i64.wrap (((1+l.size:Nat):Int)+(r.size:Int))=((1+l.size+r.size:Nat):Int):=ZB;rcases l with _|⟨a,b,c,d⟩<;>rcases r with _|⟨B,H,F,E⟩
 .simp only[Tr.Hv,Tr.DN]at f;refine Q8 func246 ntmps246 results246 λp w C g=>?_;have e:=Qc f;simp only[go_sem,Qa,f,e];apply Qx g o02;simp only[go_sem,Qa,f,e];apply XB g vp (vE s.toR);apply Zk g;simp only[go_sem,Qa,f,e];refine js g vp ?_ (vE q.toR) ?_
  .simp only[go_sem,Qa,f,e,x,v]
  apply Zk g;simp only[go_sem,Qa,f,e,x,v];apply Qx g o03;simp only[go_sem,Qa,f,e,Qt e];refine js g Fm ?_ (FD (s.set _ z).toR) ?_
  .simp only[go_sem,Qa,f,e,Qt e,u]
  apply Zk g;simp only[go_sem,Qa,f,e,Qt e,u];refine js g Fm ?_ (FD (q.set _ y).toR) ?_
  .simp only[go_sem,Qa,f,e,Qt e,t]
  apply Zk g;simp only[go_sem,Qa,f,e,Qt e,t];refine xJ 2 ?_;apply Qf g;simp only[go_sem,Qa,f,e,Qt e];apply Qf g;simp only[go_sem,Qa,f,e,Qt e];apply Qf g;simp only[go_sem,Qa,f,e,Qt e];rfl
 .simp only[Tr.Hv,Tr.DN]at f;have o:=q.1;have m:loc≠B:=by rintro rfl;exact y (by simp[Tr.QN])
  refine Q8 func246 ntmps246 results246 λp w C g=>?_;have e:=Qc f;simp only[go_sem,Qa,f,e];apply Qx g o02;simp only[go_sem,Qa,f,e];apply XB g vp (vE s.toR);apply Zk g;simp only[go_sem,Qa,f,e];refine js g vp ?_ (vE q.toR) ?_
  .simp only[go_sem,Qa,f,e,x,v]
  apply Zk g;simp only[go_sem,Qa,f,e,x,v];apply Qx g o03;simp only[go_sem,Qa,f,e,Qt e];refine js g Fm ?_ (FD (s.set _ z).toR) ?_
  .simp only[go_sem,Qa,f,e,Qt e,u]
  apply Zk g;simp only[go_sem,Qa,f,e,Qt e,u];refine js g Fm ?_ (FD (q.set _ y).toR) ?_
  .simp only[go_sem,Qa,f,e,Qt e,t]
  apply Zk g;simp only[go_sem,Qa,f,e,Qt e,t];refine xJ 2 ?_;apply Qf g;simp only[go_sem,Qa,f,e,Qt e,o,Ql m];apply Qf g;simp only[go_sem,Qa,f,e,Qt e,o,Ql m];apply Qx g o01;simp only[go_sem,Qa,f,e,Qt e,o,Ql m];refine Vb g OI ?_ (OZ it (Tr.node B H F E).least) ?_
  .simp only[go_sem,Qa,f,e,Qt e,o,Ql m]
  apply Zk g;simp only[go_sem,Qa,f,e,Qt e,o,Ql m];apply Qf g;simp only[go_sem,Qa,f,e,Qt e,o,Ql m];rfl
 .simp only[Tr.Hv,Tr.DN]at f;have j:=s.1;have k:loc≠a:=by rintro rfl;exact z (by simp[Tr.QN])
  refine Q8 func246 ntmps246 results246 λp w C g=>?_;have e:=Qc f;simp only[go_sem,Qa,f,e];apply Qx g o02;simp only[go_sem,Qa,f,e];apply XB g vp (vE s.toR);apply Zk g;simp only[go_sem,Qa,f,e];refine js g vp ?_ (vE q.toR) ?_
  .simp only[go_sem,Qa,f,e,x,v]
  apply Zk g;simp only[go_sem,Qa,f,e,x,v];apply Qx g o03;simp only[go_sem,Qa,f,e,Qt e];refine js g Fm ?_ (FD (s.set _ z).toR) ?_
  .simp only[go_sem,Qa,f,e,Qt e,u]
  apply Zk g;simp only[go_sem,Qa,f,e,Qt e,u];refine js g Fm ?_ (FD (q.set _ y).toR) ?_
  .simp only[go_sem,Qa,f,e,Qt e,t]
  apply Zk g;simp only[go_sem,Qa,f,e,Qt e,t];refine xJ 2 ?_;apply Qf g;simp only[go_sem,Qa,f,e,Qt e,j,Ql k];apply Qx g o01;simp only[go_sem,Qa,f,e,Qt e,j,Ql k];refine Vb g OI ?_ (OZ it (Tr.node a b c d).least) ?_
  .simp only[go_sem,Qa,f,e,Qt e,j,Ql k]
  apply Zk g;simp only[go_sem,Qa,f,e,Qt e,j,Ql k];apply Qf g;simp only[go_sem,Qa,f,e,Qt e,j,Ql k];apply Qf g;simp only[go_sem,Qa,f,e,Qt e,j,Ql k];rfl
 .simp only[Tr.Hv,Tr.DN]at f;have j:=s.1;have k:loc≠a:=by rintro rfl;exact z (by simp[Tr.QN])
  have o:=q.1;have m:loc≠B:=by rintro rfl;exact y (by simp[Tr.QN])
  refine Q8 func246 ntmps246 results246 λp w C g=>?_;have e:=Qc f;simp only[go_sem,Qa,f,e];apply Qx g o02;simp only[go_sem,Qa,f,e];apply XB g vp (vE s.toR);apply Zk g;simp only[go_sem,Qa,f,e];refine js g vp ?_ (vE q.toR) ?_
  .simp only[go_sem,Qa,f,e,x,v]
  apply Zk g;simp only[go_sem,Qa,f,e,x,v];apply Qx g o03;simp only[go_sem,Qa,f,e,Qt e];refine js g Fm ?_ (FD (s.set _ z).toR) ?_
  .simp only[go_sem,Qa,f,e,Qt e,u]
  apply Zk g;simp only[go_sem,Qa,f,e,Qt e,u];refine js g Fm ?_ (FD (q.set _ y).toR) ?_
  .simp only[go_sem,Qa,f,e,Qt e,t]
  apply Zk g;simp only[go_sem,Qa,f,e,Qt e,t];refine xJ 2 ?_;apply Qf g;simp only[go_sem,Qa,f,e,Qt e,j,Ql k,o,Ql m];apply Qx g o01;simp only[go_sem,Qa,f,e,Qt e,j,Ql k,o,Ql m];refine Vb g OI ?_ (OZ it (Tr.node a b c d).least) ?_
  .simp only[go_sem,Qa,f,e,Qt e,j,Ql k,o,Ql m]
  apply Zk g;simp only[go_sem,Qa,f,e,Qt e,j,Ql k,o,Ql m];apply Qf g;simp only[go_sem,Qa,f,e,Qt e,j,Ql k,o,Ql m];apply Qx g o01;simp only[go_sem,Qa,f,e,Qt e,j,Ql k,o,Ql m];refine Vb g OI ?_ (OZ (j7 it (Tr.node a b c d).least) (Tr.node B H F E).least) ?_
  .simp only[go_sem,Qa,f,e,Qt e,j,Ql k,o,Ql m]
  apply Zk g;simp only[go_sem,Qa,f,e,Qt e,j,Ql k,o,Ql m];apply Qf g;simp only[go_sem,Qa,f,e,Qt e,j,Ql k,o,Ql m];rfl
def rb{h:List Ob}{lx ly}{B K}{a b c:Tr}{e O}{p N q M}(v:h[lx]? = some (FA B (.ptr ly 0 0 0) c.ptr e p N))(u:h[ly]? = some (FA K a.ptr b.ptr O q M))
  (L:Vv h a) (E:Vv h b) (C:Vv h c) (V:(lx::ly::(a.QN++b.QN++c.QN)).Nodup) (W:a.size+b.size+c.size<900000) :
  QM prog 278 h [.ptr lx 0 0 0,Qb 0] (λd y=>d=.ptr ly 0 0 0/\Vv y (.node ly K a (.node lx B b c))/\y.length=h.length/\∀l,l≠lx->l≠ly->y[l]? = h[l]?):=by
 have P:=V;simp only[ZY,QF,Q3,qP]at P;obtain⟨⟨I,⟨s,i⟩,g⟩,⟨⟨t,m⟩,k⟩,_⟩:=P;have z:ly≠lx:=Q9 I;rcases b with _|⟨T,S,R,Q⟩
 .simp only[Tr.Hv,Tr.DN]at v u;refine Q8 func278 ntmps278 results278 λJ w U j=>?_;have f:=Qc v;have o:=Qc u;simp only[go_sem,Qa,v,f,u,o];apply Qx j i5;simp only[go_sem,Qa,v,f,u,o,Ql I,Qt f];refine V5 j DH rfl ?_ (DO (loc:=lx) (l:=Tr.nil) (r:=c) (it:=B) (hi:=p) (n:=N) (le:=e) ⟨?_,?_,?_⟩ ?_ ?_ i g) rfl λd y x=>?_
  .simp only[go_sem]
  .rw[Ql z,Qt f];rfl
  .exact(E.set _ i).set _ m
  .exact(C.set _ g).set _ k
  .omega
  .omega
  subst x;apply QP j;refine V5 j DH rfl ?_ (DO (loc:=ly) (l:=a) (r:=(.node lx B Tr.nil c)) (it:=K) (hi:=q) (n:=M) (le:=O) ⟨?_,?_,?_⟩ ?_ ?_ ?_ ?_) rfl λd y x=>?_
  .simp only[go_sem]
  .rw[Ql I,Qt (by simpa using o)];rfl
  .exact((L.set _ s).set _ t).set _ s
  .exact⟨Qt (by simpa using f),((E.set _ i).set _ m).set _ i,((C.set _ g).set _ k).set _ g⟩
  .simp only[Tr.size]at *;omega
  .simp only[Tr.size]at *;omega
  .exact t
  .intro hm;rcases QF.1 hm with hm|hm;exact z hm;rcases Q3.1 hm with hm|hm;exact m hm;exact k hm
  subst x;apply QP j;exact⟨⟨Qt (by simpa using o),(((L.set _ s).set _ t).set _ s).set _ t,⟨by rw[Ql z,Qt (by simpa using f)];rfl,(((E.set _ i).set _ m).set _ i).set _ m,(((C.set _ g).set _ k).set _ g).set _ k⟩⟩,λl H F=>by rw[Ql (Q9 F),Ql (Q9 H),Ql (Q9 F),Ql (Q9 H)]⟩
 .simp only[Tr.Hv,Tr.DN]at v u;refine Q8 func278 ntmps278 results278 λJ w U j=>?_;have f:=Qc v;have o:=Qc u;simp only[go_sem,Qa,v,f,u,o];apply Qx j i5;simp only[go_sem,Qa,v,f,u,o,Ql I,Qt f];refine V5 j DH rfl ?_ (DO (loc:=lx) (l:=(Tr.node T S R Q)) (r:=c) (it:=B) (hi:=p) (n:=N) (le:=e) ⟨?_,?_,?_⟩ ?_ ?_ i g) rfl λd y x=>?_
  .simp only[go_sem]
  .rw[Ql z,Qt f];rfl
  .exact(E.set _ i).set _ m
  .exact(C.set _ g).set _ k
  .omega
  .omega
  subst x;apply QP j;refine V5 j DH rfl ?_ (DO (loc:=ly) (l:=a) (r:=(.node lx B (Tr.node T S R Q) c)) (it:=K) (hi:=q) (n:=M) (le:=O) ⟨?_,?_,?_⟩ ?_ ?_ ?_ ?_) rfl λd y x=>?_
  .simp only[go_sem]
  .rw[Ql I,Qt (by simpa using o)];rfl
  .exact((L.set _ s).set _ t).set _ s
  .exact⟨Qt (by simpa using f),((E.set _ i).set _ m).set _ i,((C.set _ g).set _ k).set _ g⟩
  .simp only[Tr.size]at *;omega
  .simp only[Tr.size]at *;omega
  .exact t
  .intro hm;rcases QF.1 hm with hm|hm;exact z hm;rcases Q3.1 hm with hm|hm;exact m hm;exact k hm
  subst x;apply QP j;exact⟨⟨Qt (by simpa using o),(((L.set _ s).set _ t).set _ s).set _ t,⟨by rw[Ql z,Qt (by simpa using f)];rfl,(((E.set _ i).set _ m).set _ i).set _ m,(((C.set _ g).set _ k).set _ g).set _ k⟩⟩,λl H F=>by rw[Ql (Q9 F),Ql (Q9 H),Ql (Q9 F),Ql (Q9 H)]⟩
def rf{h:List Ob}{lx ly}{B K}{a b c:Tr}{e O}{p N q M}(v:h[lx]? = some (FA B a.ptr (.ptr ly 0 0 0) e p N))(u:h[ly]? = some (FA K b.ptr c.ptr O q M))
  (E:Vv h a) (C:Vv h b) (L:Vv h c) (V:(lx::ly::(a.QN++b.QN++c.QN)).Nodup) (W:a.size+b.size+c.size<900000) :
  QM prog 278 h [.ptr lx 0 0 0,Qb 1] (λd y=>d=.ptr ly 0 0 0/\Vv y (.node ly K (.node lx B a b) c)/\y.length=h.length/\∀l,l≠lx->l≠ly->y[l]? = h[l]?):=by
 have P:=V;simp only[ZY,QF,Q3,qP]at P;obtain⟨⟨I,⟨i,g⟩,s⟩,⟨⟨m,k⟩,t⟩,_⟩:=P;have z:ly≠lx:=Q9 I;rcases b with _|⟨T,S,R,Q⟩
 .simp only[Tr.Hv,Tr.DN]at v u;refine Q8 func278 ntmps278 results278 λJ w U j=>?_;have f:=Qc v;have o:=Qc u;simp only[go_sem,Qa,v,f,u,o];apply Qx j i5;simp only[go_sem,Qa,v,f,u,o,Ql I,Qt f];refine V5 j DH rfl ?_ (DO (loc:=lx) (l:=a) (r:=Tr.nil) (it:=B) (hi:=p) (n:=N) (le:=e) ⟨?_,?_,?_⟩ ?_ ?_ i g) rfl λd y x=>?_
  .simp only[go_sem]
  .rw[Ql z,Qt f];rfl
  .exact(E.set _ i).set _ m
  .exact(C.set _ g).set _ k
  .omega
  .omega
  subst x;apply QP j;refine V5 j DH rfl ?_ (DO (loc:=ly) (l:=(.node lx B a Tr.nil)) (r:=c) (it:=K) (hi:=q) (n:=M) (le:=O) ⟨?_,?_,?_⟩ ?_ ?_ ?_ ?_) rfl λd y x=>?_
  .simp only[go_sem]
  .rw[Ql I,Qt (by simpa using o)];rfl
  .exact⟨Qt (by simpa using f),((E.set _ i).set _ m).set _ i,((C.set _ g).set _ k).set _ g⟩
  .exact((L.set _ s).set _ t).set _ s
  .simp only[Tr.size]at *;omega
  .simp only[Tr.size]at *;omega
  .intro hm;rcases QF.1 hm with hm|hm;exact z hm;rcases Q3.1 hm with hm|hm;exact m hm;exact k hm
  .exact t
  subst x;apply QP j;exact⟨⟨Qt (by simpa using o),⟨by rw[Ql z,Qt (by simpa using f)];rfl,(((E.set _ i).set _ m).set _ i).set _ m,(((C.set _ g).set _ k).set _ g).set _ k⟩,(((L.set _ s).set _ t).set _ s).set _ t⟩,λl H F=>by rw[Ql (Q9 F),Ql (Q9 H),Ql (Q9 F),Ql (Q9 H)]⟩
 .simp only[Tr.Hv,Tr.DN]at v u;refine Q8 func278 ntmps278 results278 λJ w U j=>?_;have f:=Qc v;have o:=Qc u;simp only[go_sem,Qa,v,f,u,o];apply Qx j i5;simp only[go_sem,Qa,v,f,u,o,Ql I,Qt f];refine V5 j DH rfl ?_ (DO (loc:=lx) (l:=a) (r:=(Tr.node T S R Q)) (it:=B) (hi:=p) (n:=N) (le:=e) ⟨?_,?_,?_⟩ ?_ ?_ i g) rfl λd y x=>?_
  .simp only[go_sem]
  .rw[Ql z,Qt f];rfl
  .exact(E.set _ i).set _ m
  .exact(C.set _ g).set _ k
  .omega
  .omega
  subst x;apply QP j;refine V5 j DH rfl ?_ (DO (loc:=ly) (l:=(.node lx B a (Tr.node T S R Q))) (r:=c) (it:=K) (hi:=q) (n:=M) (le:=O) ⟨?_,?_,?_⟩ ?_ ?_ ?_ ?_) rfl λd y x=>?_
  .simp only[go_sem]
  .rw[Ql I,Qt (by simpa using o)];rfl
  .exact⟨Qt (by simpa using f),((E.set _ i).set _ m).set _ i,((C.set _ g).set _ k).set _ g⟩
  .exact((L.set _ s).set _ t).set _ s
  .simp only[Tr.size]at *;omega
  .simp only[Tr.size]at *;omega
  .intro hm;rcases QF.1 hm with hm|hm;exact z hm;rcases Q3.1 hm with hm|hm;exact m hm;exact k hm
  .exact t
  subst x;apply QP j;exact⟨⟨Qt (by simpa using o),⟨by rw[Ql z,Qt (by simpa using f)];rfl,(((E.set _ i).set _ m).set _ i).set _ m,(((C.set _ g).set _ k).set _ g).set _ k⟩,(((L.set _ s).set _ t).set _ s).set _ t⟩,λl H F=>by rw[Ql (Q9 F),Ql (Q9 H),Ql (Q9 F),Ql (Q9 H)]⟩
def rh{h}{loc}{it}{l r:Tr}{le}{hi n}(i:Raw h loc it l r le hi n)(g:(loc::(l.QN++r.QN)).Nodup)(hs:l.size+r.size<800000):
  QM prog 263 h [.ptr loc 0 0 0] (λd h'=>∃t',d=t'.ptr/\j8 h (.node loc it l r) (l.list++it::r.list) h' t'):=by
 have Z:=g;simp only[ZY,Q3,qP]at Z;obtain⟨⟨Q,P⟩,a2⟩:=Z;have hl:=l.OW;have hr:=r.OW;have el:IntKind.i64.wrap ((l.high:Int)+1)=((l.high+1:Nat):Int):=ZB;have er:IntKind.i64.wrap ((r.high:Int)+1)=((r.high+1:Nat):Int):=ZB;have h1:=i.o;refine Q8 func263 ntmps263 results263 λa1 w pl f=>?_;have QK:=Qc h1;simp only[go_sem,Qa,h1,QK];refine JG f DH (DO (loc:=loc) i ω ω Q P) λd N p=>?_;have a0:N.length=h.length:=by rw[p];simp
 have t2:Vv N (.node loc it l r):=by
  rw[p];exact⟨Qt QK,i.il.set _ Q,i.ir.set _ P⟩
 have k2:∀k,k≠loc->N[k]? = h[k]? := λk o=>by rw[p,Ql (Q9 o)]
 clear p;have H:j8 h (.node loc it l r) (Tr.node loc it l r).list N (.node loc it l r):=⟨t2,rfl,g,λ_ h=>.inl h,λk _ hn=>k2 k λe=>hn (by rw[e];simp[Tr.QN]),ω⟩;have j:=t2.1;have m:=Qc j;apply Qf f;simp only[go_sem,Qa,j,m];refine xJ 2 ?_;apply Qf f;simp only[go_sem,Qa,j,m];apply Qx f [0,2,3,4,5,6,7,8,1001,1009,10,11];simp only[go_sem,Qa,j,m];apply XB f vp (vE t2.2.1.toR);apply Zk f;simp only[go_sem,Qa,j,m];refine js f vp ?_ (vE t2.2.2.toR) ?_
 .simp only[go_sem,Qa,j,m,er]
 apply Zk f;simp only[go_sem,Qa,j,m,er];by_cases V:l.high<=r.high+1
 .have d0:=QT V;simp only[go_sem,Qa,d0];apply Qf f;simp only[go_sem,Qa,j,m];apply Qx f [0,2,3,4,5,6,7,8,1001,1009,10,11];simp only[go_sem,Qa,j,m];apply XB f vp (vE t2.2.2.toR);apply Zk f;simp only[go_sem,Qa,j,m];refine js f vp ?_ (vE t2.2.1.toR) ?_
  .simp only[go_sem,Qa,j,m,el]
  apply Zk f;simp only[go_sem,Qa,j,m,el];by_cases U:r.high<=l.high+1
  .have d1:=QT U;simp only[go_sem,Qa,d1];apply Qf f;simp only[go_sem,Qa,j,m];apply QV f;exact⟨.node loc it l r,rfl,H⟩
  .have d1:=QH U;simp only[go_sem,Qa,d1];cases r with
   | nil=>exact absurd (Jj _) U
   | node q y b a=>
    have M:=hs;simp only[Tr.size]at M;have s:=t2.2.2.1;have E:=Qc s;have W:loc≠q:=by rintro rfl;simp[Tr.QN,ZY,J5,QF,Q3]at g
    apply Qx f [0,1,2,3,4,5,6,8,9,10,11,12,13,1007,1014,15];simp only[go_sem,Qa,j,m,s,E];apply XB f vp (vE t2.2.2.2.1.toR);apply Zk f;simp only[go_sem,Qa,j,m,s,E];apply XB f vp (vE t2.2.2.2.2.toR);apply Zk f;simp only[go_sem,Qa,j,m,s,E];by_cases z:a.high<b.high
    .have d2:=QT z;simp only[go_sem,Qa,d2];cases b with
     | nil=>exact absurd z (X2 _)
     | node t S C B=>
      simp only[Tr.DN]at s;simp only[Tr.size]at M;have K:=t2.2.2.2.1.1;have Y:=Qc K;have L:loc≠t:=by rintro rfl;simp[Tr.QN,ZY,J5,QF,Q3]at g
      have A9:q≠t:=by rintro rfl;simp[Tr.QN,ZY,J5,QF,Q3]at g
      apply VE [5] f [0,1,2,3,4,6,7,1005,8,1009] [];simp only[go_sem,Qa,j,m];refine wC f OJ (rb (lx:=q) (ly:=t) (a:=C) (b:=B) (c:=a) s K t2.2.2.2.1.2.1 t2.2.2.2.1.2.2 t2.2.2.2.2 (by simp only[Tr.QN,ZY,J5,QF,Q3]at g ⊢;grind) ω) λd J p=>?_;obtain⟨rfl,t4,R,x⟩:=p;have I:J[loc]? = _:=(x loc W L).trans j;have F:=Qc I;apply Zk f;simp only[go_sem,Qa,I,F];have O:Vv J l:=t2.2.1.frame λk o=>x k (by rintro rfl;simp only[Tr.QN,ZY,J5,QF,Q3]at g;grind) (by rintro rfl;simp only[Tr.QN,ZY,J5,QF,Q3]at g;grind);apply QV f;refine JG f OJ (rf (lx:=loc) (ly:=t) (a:=l) (b:=C) (c:=.node q y B a) (Qt F) ((Ql L).trans t4.1) (O.set _ Q) (t4.2.1.set _ (by simp only[Tr.QN,ZY,J5,QF,Q3]at g ⊢;grind)) (t4.2.2.set _ (by simp only[Tr.QN,ZY,J5,QF,Q3]at g ⊢;grind)) (by simp only[Tr.QN,ZY,J5,QF,Q3]at g ⊢;grind) (by simp only[Tr.size];omega)) λd T p=>?_;obtain⟨rfl,t8,u,v⟩:=p;apply QV f;refine⟨(.node t S (.node loc it l C) (.node q y B a)),rfl,H.trans ⟨t8,by simp[Tr.list],by simp only[Tr.QN,ZY,J5,QF,Q3]at g ⊢;grind,λk o=>.inl (by simp only[Tr.QN,QF,Q3]at o ⊢;grind),λk _ o=>?_,by rw[u,K0,R];exact QB _⟩⟩;simp only[Tr.QN,QF,Q3,qP]at o;rw[v k (by grind) (by grind),Ql (by grind),x k (by grind) (by grind)]
    .have d2:=QH z;simp only[go_sem,Qa,d2];apply QV f;refine JG f OJ (rf (lx:=loc) (ly:=q) (a:=l) (b:=b) (c:=a) j s t2.2.1 t2.2.2.2.1 t2.2.2.2.2 (by simp only[Tr.QN,ZY,J5,QF,Q3]at g ⊢;grind) ω) λd T p=>?_;obtain⟨rfl,t8,u,v⟩:=p;apply QV f;refine⟨(.node q y (.node loc it l b) a),rfl,H.trans ⟨t8,by simp[Tr.list],by simp only[Tr.QN,ZY,J5,QF,Q3]at g ⊢;grind,λk o=>.inl (by simp only[Tr.QN,QF,Q3]at o ⊢;grind),λk _ o=>?_,by rw[u];exact QB _⟩⟩;simp only[Tr.QN,QF,Q3,qP]at o;exact v k (by grind) (by grind)
 .have d0:=QH V;simp only[go_sem,Qa,d0];cases l with
  | nil=>exact absurd (Jj _) V
  | node q y a b=>
   have M:=hs;simp only[Tr.size]at M;have s:=t2.2.1.1;have E:=Qc s;have W:loc≠q:=by rintro rfl;simp[Tr.QN,ZY,J5,QF,Q3]at g
   apply Qx f [0,1,2,3,4,5,6,8,9,10,11,12,13,1007,1014,15];simp only[go_sem,Qa,j,m,s,E];apply XB f vp (vE t2.2.1.2.2.toR);apply Zk f;simp only[go_sem,Qa,j,m,s,E];apply XB f vp (vE t2.2.1.2.1.toR);apply Zk f;simp only[go_sem,Qa,j,m,s,E];by_cases z:a.high<b.high
   .have d2:=QT z;simp only[go_sem,Qa,d2];cases b with
    | nil=>exact absurd z (X2 _)
    | node t S C B=>
     simp only[Tr.DN]at s;simp only[Tr.size]at M;have K:=t2.2.1.2.2.1;have Y:=Qc K;have L:loc≠t:=by rintro rfl;simp[Tr.QN,ZY,J5,QF,Q3]at g
     have A9:q≠t:=by rintro rfl;simp[Tr.QN,ZY,J5,QF,Q3]at g
     apply VE [5] f [0,1,2,3,4,6,7,1005,8,1009] [];simp only[go_sem,Qa,j,m];refine wC f OJ (rf (lx:=q) (ly:=t) (a:=a) (b:=C) (c:=B) s K t2.2.1.2.1 t2.2.1.2.2.2.1 t2.2.1.2.2.2.2 (by simp only[Tr.QN,ZY,J5,QF,Q3]at g ⊢;grind) ω) λd J p=>?_;obtain⟨rfl,t4,R,x⟩:=p;have I:J[loc]? = _:=(x loc W L).trans j;have F:=Qc I;apply Zk f;simp only[go_sem,Qa,I,F];have O:Vv J r:=t2.2.2.frame λk o=>x k (by rintro rfl;simp only[Tr.QN,ZY,J5,QF,Q3]at g;grind) (by rintro rfl;simp only[Tr.QN,ZY,J5,QF,Q3]at g;grind);apply QV f;refine JG f OJ (rb (lx:=loc) (ly:=t) (a:=.node q y a C) (b:=B) (c:=r) (Qt F) ((Ql L).trans t4.1) (t4.2.1.set _ (by simp only[Tr.QN,ZY,J5,QF,Q3]at g ⊢;grind)) (t4.2.2.set _ (by simp only[Tr.QN,ZY,J5,QF,Q3]at g ⊢;grind)) (O.set _ P) (by simp only[Tr.QN,ZY,J5,QF,Q3]at g ⊢;grind) (by simp only[Tr.size];omega)) λd T p=>?_;obtain⟨rfl,t8,u,v⟩:=p;apply QV f;refine⟨(.node t S (.node q y a C) (.node loc it B r)),rfl,H.trans ⟨t8,by simp[Tr.list],by simp only[Tr.QN,ZY,J5,QF,Q3]at g ⊢;grind,λk o=>.inl (by simp only[Tr.QN,QF,Q3]at o ⊢;grind),λk _ o=>?_,by rw[u,K0,R];exact QB _⟩⟩;simp only[Tr.QN,QF,Q3,qP]at o;rw[v k (by grind) (by grind),Ql (by grind),x k (by grind) (by grind)]
   .have d2:=QH z;simp only[go_sem,Qa,d2];apply QV f;refine JG f OJ (rb (lx:=loc) (ly:=q) (a:=a) (b:=b) (c:=r) j s t2.2.1.2.1 t2.2.1.2.2 t2.2.2 (by simp only[Tr.QN,ZY,J5,QF,Q3]at g ⊢;grind) ω) λd T p=>?_;obtain⟨rfl,t8,u,v⟩:=p;apply QV f;refine⟨(.node q y a (.node loc it b r)),rfl,H.trans ⟨t8,by simp[Tr.list],by simp only[Tr.QN,ZY,J5,QF,Q3]at g ⊢;grind,λk o=>.inl (by simp only[Tr.QN,QF,Q3]at o ⊢;grind),λk _ o=>?_,by rw[u];exact QB _⟩⟩;simp only[Tr.QN,QF,Q3,qP]at o;exact v k (by grind) (by grind)
def Tq(d):X9 d d=True:=by cases d<;>simp[X9]
def ri:∀l:List D,KC l l
 | []=>trivial
 | d::r=>⟨(Tq d).mpr trivial,ri r⟩
def Qgf{h}{c}{b:It}{l r}(i:ju h (.node c b l r))(a)(k):Zi prog 262 h [.ptr c 0 0 0,.agg [u64 a,Qb k]] (λd=>d=Qb (if Ks b.ka b.ki a k then 1 else 0)):=by
 have f:=i.1;have q:=p9 a k b.ka b.ki;have j:(0<zS a k b.ka b.ki)↔Ks b.ka b.ki a k:=QuL;generalize zS a k b.ka b.ki=p at *;refine ZJ func262 ntmps262 results262 λn w s F o t g=>?_;rw[<- o]at f;have m:=Qc f;simp only[go_sem,Qa,f,m];apply Qx g [0,1,2,3,4,5,1006,7];simp only[go_sem,Qa,f,m];apply Kw g po q;apply VD g;by_cases e:0<p
 .have d1:=QT e;simp only[go_sem,Qa,d1];rw[Qe (j.1 e)];exact⟨_,rfl,rfl⟩
 .have d1:=QH e;simp only[go_sem,Qa,d1];rw[Qd (λh=>e (j.2 h))];exact⟨_,rfl,rfl⟩
structure rj (dv:D) (f nf:Nat) (Qv:List D) (B:List (Nat × Ob)) (a:Nat) (k:Int) (fL:Tr->List It) (N:Nat) (Nl:Prop):Prop where
 fok:Qn prog f
 cal:JF dv=some (f,nf,Qv)
 len:∀s,(fL s).length<=s.size+1
 run:∀(h:List Ob) (s:Tr),Vv h s->s.QN.Nodup->s.size<=N->Vw s.list->(s=.nil->Nl)->(∀loc it l r,s=.node loc it l r->it.ka=a/\it.ki=k)->(∀p∈B,h[p.1]? = some p.2/\p.1 ∉ s.QN) ->
  QM prog f h (Z6 nf Qv [s.ptr]) (λd h'=>∃s',d=s'.ptr/\j8 h s (fL s) h' s')
def rk{a}{k}{d:Tr->List It}(b:∀s,(d s).length<=s.size+1):∀t:Tr,(t.Co a k d).length<=t.size+1
 | .nil=>b _
 | .node c e l r=>by
  have j:=rk (a:=a) (k:=k) b l;have i:=rk (a:=a) (k:=k) b r;have f:=b (.node c e l r);have h:=Tr.Cj l;have g:=Tr.Cj r;rw[Tr.Co];split
  .exact f
  .split
   .simp only[Zo,Vo,Tr.size]at *;omega
   .simp only[Zo,Vo,Tr.size]at *;omega
def Vv.app{h}{t}(i:Vv h t)(g):Vv (h++g) t:=i.frame λl a=>QE (i.lt l a)
def j8.under{h g c}{t b}{L}(u:j8 (h++g) t L c b):j8 h t L c b:=
 ⟨u.is,u.list,u.nd,λl a=>by
  rcases u.mem l a with h1|h1
  .exact .inl h1
  .exact .inr (by simp only[Zo]at h1;omega),λl a d=>by rw[u.keep l (by simp only[Zo];omega) d,QE a],by have:=u.len;simp only[Zo]at this;omega⟩
def Ts{dv}{f nf}{Qv}{B}{a}{k}{fL}{N}{Nl}(O:rj dv f nf Qv B a k fL N Nl)(hN:N<700000):
  ∀(t:Tr) (h:List Ob),Vv h t->t.QN.Nodup->t.size<=N->Vw t.list->(t.find a k=.nil->Nl)->(∀p∈B,h[p.1]? = some p.2/\p.1 ∉ t.QN) ->
   QM prog 244 h [t.ptr,.agg [u64 a,Qb k],dv] (λd h'=>∃s,d=s.ptr/\j8 h t (t.Co a k fL) h' s)
 | .nil,h,i,j,J,V,T,q=>by
  have hd:=O.run;have hO:=O.fok;have hc:=O.cal;refine Q8 func244 ntmps244 results244 λS w pl g=>?_;simp only[go_sem,Qa];apply Qx g i6;simp only[go_sem,Qa];refine V5 g hO hc (ri _) (hd _ .nil trivial (by simp[Tr.QN]) (Jj _) V (λ_=>T rfl) (λ_ _ _ _ e=>by cases e) λp m=>⟨(QE (Qc (q p m).1)).trans (q p m).1,(q p m).2⟩) rfl λd h2 x=>?_;obtain⟨Z,rfl,u⟩:=x;apply QV g;exact⟨Z,rfl,u.under⟩
 | .node c y l r,h,i,j,J,V,T,q=>by
  have hd:=O.run;have hO:=O.fok;have hc:=O.cal;have C:=i.1;have xP:=j;simp only[Tr.QN,ZY,Q3,qP]at xP;obtain⟨⟨nl,nr⟩,a0⟩:=xP;have F:=rk (a:=a) (k:=k) O.len;obtain⟨sl,sr,_,_⟩:=FB.1 (show Vw (l.list++y::r.list) from V);refine Q8 func244 ntmps244 results244 λS w pl g=>?_;have H:=Qc C;simp only[go_sem,Qa,C,H];apply Qx g i6;simp only[go_sem,Qa,C,H];by_cases E:y.ka=a/\y.ki=k
  .have d1:((y.ka:Int)==(a:Int)&&y.ki==k)=true:=by simp[E.1,E.2]
   simp only[go_sem,Qa,d1,Tr.Co,Qe E];refine V5 g hO hc (ri _) (hd _ (.node c y l r) (i.app _) j J V (λe=>by cases e) (λ_ _ _ _ e=>by cases e;exact E) λp m=>⟨(QE (Qc (q p m).1)).trans (q p m).1,(q p m).2⟩) rfl λd h2 x=>?_;obtain⟨Z,rfl,u⟩:=x;apply QV g;exact⟨Z,rfl,u.under⟩
  have d1:((y.ka:Int)==(a:Int)&&y.ki==k)=false:=by
   rw[jj];intro hh;simp only[ZL,zF]at hh;exact E ⟨ω,hh.2⟩
  simp only[go_sem,Qa,d1,Tr.Co,Qd E];apply Ju g Qfx (Qgf (i.app _).toR a k);apply Qf g;simp only[go_sem,Qa,C,H];by_cases U:Ks y.ka y.ki a k
  .simp only[Qe U];apply VE [10] g [0,1,2,3,4,5,6,7,8,9,11,12,1010,13,1014] [];simp only[go_sem,Qa,C,H];refine yE g SW rfl ?_ (Ts O hN r _ (i.2.2.app _) (by simp only[Tr.QN,ZY,J5,QF,Q3]at j ⊢;grind) (by simp only[Tr.size]at J;omega) sr (λe=>T (by rw[Tr.find,Qd E,Qe U];exact e)) λp m=>⟨(QE (Qc (q p m).1)).trans (q p m).1,λz=>(q p m).2 (by simp only[Tr.QN,QF,Q3];grind)⟩) rfl λd Q x=>?_
   .simp only[go_sem,Tq]
   obtain⟨s,rfl,u⟩:=x;have u:=u.under;have P:Q[c]? = _:=(u.keep c H (by simp only[Tr.QN,ZY,J5,QF,Q3]at j ⊢;grind)).trans C;have L:=Qc P;have M:=u.list;have JA:=Tr.Cj s;rw[M]at JA;have Jx:=F r;have nt:c ∉ s.QN:=λz=>by
    rcases u.mem c z with b|b
    .simp only[Tr.QN,ZY,J5,QF,Q3]at j;grind
    .omega
   have no:∀k∈l.QN,k ∉ s.QN:=λk n z=>by
    have O1:=i.2.1.lt k n;rcases u.mem k z with b|b
    .simp only[Tr.QN,ZY,J5,QF,Q3]at j;grind
    .omega
   have Y:Vv Q l:=i.2.1.frame λk n=>u.keep k (i.2.1.lt k n) (by simp only[Tr.QN,ZY,J5,QF,Q3]at j ⊢;grind);apply Zk g;simp only[go_sem,Qa,P,L];apply QV g;refine V5 g ph rfl ?_ (rh (loc:=c) (l:=l) (r:=s) ⟨Qt L,Y.set _ nl,u.is.set _ nt⟩ (by
    have a1:=u.nd;simp only[Tr.QN,ZY,J5,QF,Q3]at j ⊢;grind) (by simp only[Tr.size]at J;omega)) rfl λd h8 x=>?_
   .simp only[go_sem]
   obtain⟨I,rfl,v⟩:=x;apply QV g;have W:=v.list;refine⟨I,rfl,v.is,by rw[W,M],v.nd,λk n=>?_,λk n o=>?_,by have q1:=v.len;have q2:=u.len;simp only[K0]at q1;omega⟩
   .rcases v.mem k n with b|b
    .have R:=u.mem k;simp only[Tr.QN,QF,Q3]at b ⊢;grind
    .have:=u.len;simp only[K0]at b;exact .inr ω
   .have R:=u.mem k;have a3:=u.len;rw[v.keep k (by simp only[K0];omega) (λb=>by
     simp only[Tr.QN,QF,Q3]at b o;rcases b with b|b|b
     .exact o (.inl b)
     .exact o (.inr (.inl b))
     .rcases R b with K|K
      .exact o (.inr (.inr K))
      .omega),Ql (λb=>o (by rw[b];simp[Tr.QN])),u.keep k n (λb=>o (by simp only[Tr.QN,QF,Q3];grind))]
  .simp only[Qd U];apply VE [10] g [0,1,2,3,4,5,6,7,8,9,11,12,1010,13,1014] [];simp only[go_sem,Qa,C,H];refine yE g SW rfl ?_ (Ts O hN l _ (i.2.1.app _) (by simp only[Tr.QN,ZY,J5,QF,Q3]at j ⊢;grind) (by simp only[Tr.size]at J;omega) sl (λe=>T (by rw[Tr.find,Qd E,Qd U];exact e)) λp m=>⟨(QE (Qc (q p m).1)).trans (q p m).1,λz=>(q p m).2 (by simp only[Tr.QN,QF,Q3];grind)⟩) rfl λd Q x=>?_
   .simp only[go_sem,Tq]
   obtain⟨s,rfl,u⟩:=x;have u:=u.under;have P:Q[c]? = _:=(u.keep c H (by simp only[Tr.QN,ZY,J5,QF,Q3]at j ⊢;grind)).trans C;have L:=Qc P;have M:=u.list;have JA:=Tr.Cj s;rw[M]at JA;have Jx:=F l;have nt:c ∉ s.QN:=λz=>by
    rcases u.mem c z with b|b
    .simp only[Tr.QN,ZY,J5,QF,Q3]at j;grind
    .omega
   have no:∀k∈r.QN,k ∉ s.QN:=λk n z=>by
    have O1:=i.2.2.lt k n;rcases u.mem k z with b|b
    .simp only[Tr.QN,ZY,J5,QF,Q3]at j;grind
    .omega
   have Y:Vv Q r:=i.2.2.frame λk n=>u.keep k (i.2.2.lt k n) (by simp only[Tr.QN,ZY,J5,QF,Q3]at j ⊢;grind);apply Zk g;simp only[go_sem,Qa,P,L];apply QV g;refine V5 g ph rfl ?_ (rh (loc:=c) (l:=s) (r:=r) ⟨Qt L,u.is.set _ nt,Y.set _ nr⟩ (by
    have a1:=u.nd;simp only[Tr.QN,ZY,J5,QF,Q3]at j ⊢;grind) (by simp only[Tr.size]at J;omega)) rfl λd h8 x=>?_
   .simp only[go_sem]
   obtain⟨I,rfl,v⟩:=x;apply QV g;have W:=v.list;refine⟨I,rfl,v.is,by rw[W,M],v.nd,λk n=>?_,λk n o=>?_,by have q1:=v.len;have q2:=u.len;simp only[K0]at q1;omega⟩
   .rcases v.mem k n with b|b
    .have R:=u.mem k;simp only[Tr.QN,QF,Q3]at b ⊢;grind
    .have:=u.len;simp only[K0]at b;exact .inr ω
   .have R:=u.mem k;have a3:=u.len;rw[v.keep k (by simp only[K0];omega) (λb=>by
     simp only[Tr.QN,QF,Q3]at b o;rcases b with b|b|b
     .exact o (.inl b)
     .rcases R b with K|K
      .exact o (.inr (.inl K))
      .omega
     .exact o (.inr (.inr b))),Ql (λb=>o (by rw[b];simp[Tr.QN])),u.keep k n (λb=>o (by simp only[Tr.QN,QF,Q3];grind))]
def xR(t:Tr):Ob:=⟨.one,0,1,1,λ_=>[t.ptr]⟩
attribute [go_sem] xR
def Qgi{h:List Ob}{u}{t:Tr}(p:(h.map Ob.ro)[u]? = some (xR t).ro)(i:ju h t)(a)(k):
  Zi prog 243 h [.ptr u 0 0 0,.agg [u64 a,Qb k]] (λd=>d=(t.find a k).ptr):=by
 refine ZJ func243 ntmps243 results243 λx w E F q I c=>?_;rw[<- q]at p;have B:=Qc p;simp only[go_sem,Qa,p,B];refine ZW (λj y=>∃s:Tr,s.size+j<=t.size/\ju h s/\s.find a k=t.find a k/\y=⟨[(3,.ptr F.length 0 0 0),(5,s.ptr)],F++[⟨.one,0,2,1,λ_=>[u64 a,Qb k]⟩]⟩) t.size (s0:=⟨[(3,.ptr F.length 0 0 0),(5,t.ptr)],F++[⟨.one,0,2,1,λ_=>[u64 a,Qb k]⟩]⟩) ?_ ⟨t,ω,i,rfl,rfl⟩ ?_
 .exact QQ
 rintro j _ H ⟨s,z,n,b,rfl⟩;cases s with
 | nil=>
  apply QP c;apply Qx c i6;simp only[go_sem,Qa,Go.undef];apply QV c;exact⟨_,rfl,by rw[<- b];rfl⟩
 | node C e l r=>
  have f:=n.1;rw[<- q]at f;have g:=Qc f;apply QP c;apply Qx c i6;simp only[go_sem,Qa,f,g];rw[Tr.find]at b;by_cases m:e.ka=a/\e.ki=k
  .have d1:((e.ka:Int)==(a:Int)&&e.ki==k)=true:=by simp[m.1,m.2]
   rw[Qe m]at b;simp only[go_sem,Qa,d1,bne];apply Qf c;simp only[go_sem,g];exact⟨_,rfl,by rw[<- b];rfl⟩
  .have d1:((e.ka:Int)==(a:Int)&&e.ki==k)=false:=by
    rw[jj];intro v;simp only[ZL,zF]at v;exact m ⟨ω,v.2⟩
   rw[Qd m]at b;simp only[go_sem,Qa,d1,bne];apply Qx c [0,1,2,4,5,1003,6,7,8];simp only[go_sem,Qa,f,g];apply XB c Qfx (Qgf (n.more (Hw q)) a k);apply Zk c;simp only[go_sem,Qa,f,g];have J:l.size+j+1<=t.size/\r.size+j+1<=t.size:=by simp only[Tr.size]at z;omega
   by_cases o:Ks e.ka e.ki a k
   .rw[Qe o]at b;simp only[go_sem,Qa,Qe o,f,g];refine⟨ω,_,QQ,r,ω,n.2.2,b,rfl⟩
   .rw[Qd o]at b;simp only[go_sem,Qa,Qd o,f,g];refine⟨ω,_,QQ,l,ω,n.2.1,b,rfl⟩
def QuS{h:List Ob}{i g}{x:It}(k:h[i]? = some ⟨.one,0,2,1,λ_=>[u64 x.ka,Qb x.ki]⟩)(j:h[g]? = some ⟨.one,0,2,1,λ_=>[u64 x.va,Qb x.vi]⟩)(s):
  QM prog 245 h [s.ptr,.ptr i 0 0 0,.ptr g 0 0 0] (λd p=>∃f,d=f.ptr/\j8 h s [x] p f):=by
 refine Q8 func245 ntmps245 results245 λo w q m=>?_;have e:=Qc k;have c:=Qc j;simp only[go_sem,Qa,k,e,j,c];refine JG m DH (DO (loc:=h.length) (it:=x) (l:=.nil) (r:=.nil) (le:=⟨0,0,0,0⟩) (hi:=0) (n:=0) ⟨Vj rfl,trivial,trivial⟩ (by simp[Tr.size]) (by simp[Tr.size]) (by simp[Tr.QN]) (by simp[Tr.QN])) λd t b=>?_;apply QV m;refine⟨.node h.length x .nil .nil,rfl,⟨?_,trivial,trivial⟩,rfl,by simp[Tr.QN],λl a=>.inr (by simp[Tr.QN]at a;omega),λl a _=>?_,by rw[b];simp⟩
 .rw[b,Qt σ]
 .rw[b,Ql ω,QE a]
structure Ba (h:List Ob) (tl:Nat) (t:Tr) (L:List It):Prop where
 o:h[tl]? = some (xR t)
 is:Vv h t
 list:t.list=L
 nd:t.QN.Nodup
 out:tl ∉ t.QN
 sorted:Vw L
structure Tt (h:List Ob) (tl:Nat) (t:Tr) (L:List It) (h':List Ob) (t':Tr):Prop where
 is:Ba h' tl t' L
 mem:∀l∈t'.QN,l∈t.QN\/h.length<=l
 keep:∀l,l<h.length->l≠tl->l ∉ t.QN->h'[l]? = h[l]?
 len:h.length<=h'.length
def Ba.app{h}{b}{t}{L}(a:Ba h b t L)(g):Ba (h++g) b t L:=⟨(QE (Qc a.o)).trans a.o,a.is.app g,a.list,a.nd,a.out,a.sorted⟩
def Ba.to{h g d:List Ob}{b}{t c}{L e}(a:Ba h b t L)(u:j8 (h++g) t e d c)(i:Vw e):Tt h b t e (d.set b (xR c)) c:=by
 have v:=u.under;have k:=Qc a.o;have p:d[b]? = some (xR t):=(v.keep b k a.out).trans a.o;have f:b ∉ c.QN:=λj=>by
  rcases v.mem b j with h3|h3
  .exact a.out h3
  .omega
 exact⟨⟨Qt (Qc p),v.is.set _ f,v.list,v.nd,f,i⟩,v.mem,λl h3 n m=>by rw[Ql (Q9 n)];exact v.keep l h3 m,by rw[K0];exact v.len⟩
def Tu{h}{tl}{t}{L:List It}(A:Ba h tl t L)(x:It)(n:YT x.ka x.ki L=none)(M:L.length<600000):
  QM prog 201 h [.ptr tl 0 0 0,.agg [u64 x.ka,Qb x.ki],.agg [u64 x.va,Qb x.vi]] (λd v=>d=Qb 0/\∃m,Tt h tl t (Yz x L) v m):=by
 have k:=A.o;have P:t.size=L.length:=by rw[<- Tr.Cj,A.list]
 have H:(t.find x.ka x.ki)=.nil:=by
  have e:=Tr.Tl (a:=x.ka) (i:=x.ki) t (by rw[A.list];exact A.sorted);rw[A.list,n]at e;cases z:t.find x.ka x.ki with
  | nil=>rfl
  | node a b c d=>rw[z]at e;cases e
 have y:=λg=>Qgi (h:=h++g) (Z3 (A.app g).o) (A.is.app g).toR x.ka x.ki;rw[H]at y;refine Q8 func201 ntmps201 results201 λbase w J f=>?_;have l:=Qc k;simp only[go_sem,Qa,k,l];apply Ju f Qfp (y _);apply Qf f;simp only[go_sem,Qa,k,l];apply VE [7] f [0,1,2,3,4,5,6,1007,8,9,1010] [];simp only[go_sem,Qa,k,l];have O:rj (.clo 245 0 [.ptr h.length 0 0 0,.ptr (h.length+1) 0 0 0]) 245 0 [.ptr h.length 0 0 0,.ptr (h.length+1) 0 0 0] [(h.length,⟨.one,0,2,1,λ_=>[u64 x.ka,Qb x.ki]⟩),(h.length+1,⟨.one,0,2,1,λ_=>[u64 x.va,Qb x.vi]⟩)] x.ka x.ki (λ_=>[x]) 600000 True:=
  ⟨Qtr,rfl,λs=>σ,λv s K I R _ _ _ r=>by
   have E:=(r (h.length,_) (Kx ..)).1;have C:=(r (h.length+1,_) (Ki _ (Kx ..))).1;exact QuS (x:=x) E C s⟩
 refine wC f SW (Ts O π t _ (A.is.app _) A.nd ω (by rw[A.list];exact A.sorted) (λ_=>trivial) ?_) λd Q B=>?_
 .intro p o;have j:∀q,h.length<=q->q ∉ t.QN:=λq N j=>by have:=A.is.lt q j;omega
  simp only[QF,List.not_mem_nil,or_false]at o;rcases o with rfl|rfl
  .exact⟨Vj rfl,j _ (QB _)⟩
  .exact⟨VP rfl,j _ (by show h.length<=h.length+1;omega)⟩
 obtain⟨m,rfl,u⟩:=B;rw[p7 rfl t (by rw[A.list];exact A.sorted) (by rw[A.list];exact n),A.list]at u;have e:=(u.under.keep tl l A.out).trans A.o;have F:=Qc e;apply Zk f;simp only[go_sem,Qa,e,F];exact⟨m,A.to u (p6 A.sorted n)⟩
def Tr.QuV:∀t:Tr,t≠.nil->∃d,t.list=t.FC::d:=λt h=>by
 have c:=Tr.p8 t h;cases e:t.list with
 | nil=>rw[e]at c;cases c
 | cons a b=>rw[e]at c;simp only[List.head?_cons,Q6]at c;exact⟨b,by rw[c]⟩
def QuW{x:It}{L}:YT x.ka x.ki (x::L)=some x:=by
 unfold YT;rw[vZ,xO.2 ⟨rfl,rfl⟩]
def QuX{x:It}{L}(a:Vw (x::L)):XD x.ka x.ki (x::L)=L:=by
 have h:=Qgc x.ka x.ki [] L x a;rw[Qe ⟨rfl,rfl⟩]at h;exact h
def Qgj(N:Nat):Prop:=∀(h:List Ob) (s:Tr),Vv h s->s.QN.Nodup->s.size<=N->Vw s.list->s≠.nil ->
 QM prog 261 h [s.ptr] (λd b=>∃a,d=a.ptr/\j8 h s s.L7 b a)
def Qgk{N}(W:Qgj N)(a)(k):rj (.raw (.func (.func 261) #[] #[])) 261 0 [] [] a k Tr.L7 N False:=
 ⟨Qtv,rfl,λs=>by
  cases s with
  | nil=>simp[Tr.L7]
  | node g j l r=>simp only[Tr.L7,Zo,Tr.Cj,Tr.size];omega,λh s i b c f d _ _=>W h s i b c f λe=>d e⟩
def Qgl:∀N,N<600000->Qgj N
 | 0,_,_,.nil,_,_,_,_,g=>absurd rfl g
 | 0,_,_,.node _ _ _ _,_,_,F,_,_=>by simp only[Tr.size]at F;omega
 | _+1,_,_,.nil,_,_,_,_,g=>absurd rfl g
 | N+1,hN,h,.node b E l .nil,i,f,F,V6,_=>by
  have z:=i.1;refine Q8 func261 ntmps261 results261 λJ w pl m=>?_;have q:=Qc z;simp only[go_sem,Qa,z,q];refine⟨l,rfl,?_⟩;have u:=j8.refl i.2.1 (t:=l) (by simp only[Tr.QN,ZY,J5]at f;exact f.2.1);simp only[Tr.L7,Tr.list,JZ];exact⟨u.is,rfl,u.nd,λx hx=>.inl (by simp[Tr.QN,hx]),λ_ _ _=>rfl,QB _⟩
 | N+1,hN,h,.node b E l (.node lr ir rl rr),i,f,F,V6,_=>by
  have z:=i.1;refine Q8 func261 ntmps261 results261 λJ w pl m=>?_;have q:=Qc z;simp only[go_sem,Qa,z,q];have xP:=f;simp only[Tr.QN,ZY,J5,QF,Q3,qP]at xP;generalize hr:Tr.node lr ir rl rr=r at *;have I:r≠.nil:=by rw[<- hr];simp
  have W:D.ptr lr 0 0 0=r.ptr:=by rw[<- hr];rfl
  rw[W];refine ZW (λj st=>∃s:Tr,s.size+j<=r.size/\s≠.nil/\Vv h s/\s.FC=r.FC/\(∀x∈s.QN,x∈r.QN)/\st=⟨[(0,.ptr b 0 0 0),(3,s.ptr)],h⟩) r.size (s0:=⟨[(0,.ptr b 0 0 0),(3,r.ptr)],h⟩) QQ ⟨r,ω,I,i.2.2,rfl,λ_ hx=>hx,rfl⟩ ?_;rintro j _ hj ⟨s,WD,BV,is,hf,WE,rfl⟩;rcases s with _|⟨P,n,sl,sr⟩
  .exact absurd rfl BV
  have H:=is.1;have T:=Qc H;rcases sl with _|⟨a1,B,S,a4⟩
  .have zV:P∈r.QN:=WE P (by simp[Tr.QN]);have QA:b≠P:=by rintro rfl;simp only[Tr.QN,ZY,J5,QF,Q3]at f;grind
   have nl:b ∉ l.QN:=by simp only[Tr.QN,ZY,J5,QF,Q3]at f;grind
   have O:b ∉ r.QN:=by simp only[Tr.QN,ZY,J5,QF,Q3]at f;grind
   have Jb:=Ql (h:=h) (o:=FA n l.ptr r.ptr (Tr.node b E l r).least ((Tr.node b E l r).high:Nat) ((Tr.node b E l r).size:Nat)) QA;obtain⟨s1,L,s3,s4⟩:=FB.1 (show Vw (l.list++E::r.list) from V6);obtain⟨a0,C⟩:=Tr.QuV r I;have Ma:r.FC=n:=by rw[<- hf];rfl
   rw[Ma]at C;have Tv:r.find n.ka n.ki=.nil->False:=λe=>by
    have h5:=Tr.Tl (a:=n.ka) (i:=n.ki) r L;rw[e,C,QuW]at h5;cases h5
   have V:r.QN.Nodup:=by simp only[Tr.QN,ZY,J5,QF,Q3]at f;grind
   apply Qf m;simp only[go_sem,Qa,H,T];apply Qf m;simp only[go_sem,Qa,z,q,H,T];apply VE [11] m [0,1,2,3,4,5,6,7,8,9,10,12,13,1011,14,1015] [];simp only[go_sem,Qa,z,q,Qt q,Ql QA,H];refine yE m SW rfl ?_ (Ts (Qgk (Qgl N ω) n.ka n.ki) ω r _ (i.2.2.set _ O) V (by simp only[Tr.size]at F;omega) L Tv (λp hp=>by cases hp)) rfl λd h6 R=>?_
   .simp only[go_sem,Tq]
   obtain⟨K,rfl,u⟩:=R;rw[fT r L,C,QuX (by rw[<- C];exact L)]at u;have h7:=(u.keep b (by simpa using q) O).trans (Qt q);have Z:=Qc h7;have nt:b ∉ K.QN:=λQ=>by
    rcases u.mem b Q with c|c
    .exact O c
    .simp only[K0]at c;omega
   have no:∀k∈l.QN,k ∉ K.QN:=λk y Q=>by
    have O1:=i.2.1.lt k y;rcases u.mem k Q with c|c
    .simp only[Tr.QN,ZY,J5,QF,Q3]at f;grind
    .simp only[K0]at c;omega
   have to:Vv h6 l:=(i.2.1.set _ nl).frame λk y=>u.keep k (by simpa using i.2.1.lt k y) (by simp only[Tr.QN,ZY,J5,QF,Q3]at f ⊢;grind);apply Zk m;simp only[go_sem,Qa,h7,Z];apply QV m;have ul:=u.list;have JA:=Tr.Cj K;rw[ul]at JA;have XQ:=Tr.Cj r;rw[C,Vo]at XQ;refine V5 m ph rfl ?_ (rh (loc:=b) (l:=l) (r:=K) (it:=n) ⟨Qt Z,to.set _ nl,u.is.set _ nt⟩ (by
    have a1:=u.nd;simp only[Tr.QN,ZY,J5,QF,Q3]at f ⊢;grind) (by simp only[Tr.size]at F;omega)) rfl λd h8 R=>?_
   .simp only[go_sem]
   obtain⟨U,rfl,v⟩:=R;apply QV m;have vl:=v.list;refine⟨U,rfl,v.is,by rw[vl,ul,Tr.L7,C],v.nd,λk y=>?_,λk y g=>?_,by have q1:=v.len;have M:=u.len;simp only[K0]at q1 M;omega⟩
   .have M:=u.len;rcases v.mem k y with c|c
    .have B:=u.mem k;simp only[Tr.QN,QF,Q3,K0]at c B ⊢;grind
    .simp only[K0]at c M;exact .inr ω
   .have B:=u.mem k;have S:=u.len;simp only[K0]at B S;rw[v.keep k (by simp only[K0];omega) (λc=>by
     simp only[Tr.QN,QF,Q3]at c g;rcases c with c|c|c
     .exact g (.inl c)
     .exact g (.inr (.inl c))
     .rcases B c with Y|Y
      .exact g (.inr (.inr Y))
      .omega),Ql (λc=>g (by rw[c];simp[Tr.QN])),u.keep k (by simpa using y) (λc=>g (by simp only[Tr.QN,QF,Q3];grind)),Ql (λc=>g (by rw[c];simp[Tr.QN]))]
  .apply Qf m;simp only[go_sem,Qa,H,T];refine⟨by simp only[Tr.size]at WD;omega,_,QQ,.node a1 B S a4,by simp only[Tr.size]at WD ⊢;omega,σ,is.2.1,by rw[<- hf];rfl,λx hx=>WE x (by rw[Tr.QN];simp[hx]),rfl⟩
@[go_sem] def rn(o:Option It):D:=.tup [.agg (o.getD default).cells,QX o.isSome]
def rq{h}{tl}{t}{L:List It}(A:Ba h tl t L)(a)(k)(r:YT a k L≠none)(z:L.length<500000):
  QM prog 242 h [.ptr tl 0 0 0,.agg [u64 a,Qb k]] (λd v=>d=Qb 0/\∃l,Tt h tl t (XD a k L) v l):=by
 have f:=A.o;have B:t.size=L.length:=by rw[<- Tr.Cj,A.list]
 have b:=Tr.Tl (a:=a) (i:=k) t (by rw[A.list];exact A.sorted);rw[A.list]at b;have n:=λg=>Qgi (h:=h++g) (Z3 (A.app g).o) (A.is.app g).toR a k;cases m:t.find a k with
 | nil=>rw[m]at b;exact absurd b.symm r
 | node I H F E=>
  rw[m]at n;refine Q8 func242 ntmps242 results242 λo w y c=>?_;have j:=Qc f;simp only[go_sem,Qa,f,j];apply Ju c Qfp (n _);apply Qf c;simp only[go_sem,Qa,f,j];apply VE [6] c [0,1,2,3,4,5,1006,7,8,1009] [];simp only[go_sem,Qa,f,j];refine yE c SW rfl ?_ (Ts (Qgk (Qgl 500000 π) a k) π t _ (A.is.app _) A.nd ω (by rw[A.list];exact A.sorted) (λe=>by rw[m]at e;cases e) (λp q=>by cases q)) rfl λd C s=>?_
  .simp only[go_sem,Tq]
  obtain⟨l,rfl,u⟩:=s;rw[fT t (by rw[A.list];exact A.sorted),A.list]at u;have b:=(u.under.keep tl j A.out).trans A.o;have x:=Qc b;apply Zk c;simp only[go_sem,Qa,b,x];exact⟨l,A.to u (QuP A.sorted)⟩
section
variable {h:List Ob}{tl:Nat}{t:Tr}(ht:(h.map Ob.ro)[tl]? = some (xR t).ro)(i:ju h t)
include ht i
theorem Qgn:Zi prog 247 h [.ptr tl 0 0 0] (λd=>d=Qb t.size):=by
 refine ZJ func247 ntmps247 results247 λf w j F b k a=>?_;rw[<- b]at ht;have c:=Qc ht;simp only[go_sem,Qa,ht,c];apply Ju a Fm (FD (i.more λl o e=>by have:=Hw (g:=[]) b l o e;rwa [JZ]at this));apply Qf a;simp only[go_sem,Qa,ht,c];exact⟨[],σ⟩
theorem Qgo:Zi prog 202 h [.ptr tl 0 0 0] (λd=>d=rn t.list.head?):=by
 have r:∀{F:List Ob},F=h.map Ob.ro->∀g,ju (F++g) t:=λe g=>i.more (Hw e);have p:∀{F:List Ob},F=h.map Ob.ro->∀g,((F++g).map Ob.ro)[tl]? = some (xR t).ro:=λe g=>Hw e _ _ ht;by_cases n:t=.nil
 .subst n;refine ZJ func202 ntmps202 results202 λm w z F e I f=>?_;rw[<- e]at ht;have k:=Qc ht;simp only[go_sem,Qa,ht,k];refine Xr f Qfq ?_ (Qgn (p e _) (r e _)) ?_
  .simp only[go_sem,Qa,ht,k,Tr.size]
  apply Qf f;simp only[go_sem,Qa,ht,k,Tr.size];exact⟨_,rfl,rfl⟩
 .rw[Tr.p8 t n];have J:t.size≠0:=by cases t with
   | nil=>exact absurd rfl n
   | node a b c d=>simp only[Tr.size];omega
  have d0:((t.size:Int)==0)=false:=by simpa using J
  refine ZJ func202 ntmps202 results202 λm w z F e I f=>?_;rw[<- e]at ht;have k:=Qc ht;simp only[go_sem,Qa,ht,k];refine Xr f Qfq ?_ (Qgn (p e _) (r e _)) ?_
  .simp only[go_sem,Qa,ht,k,d0]
  apply Qf f;simp only[go_sem,Qa,ht,k,d0];refine ZW (λj x=>∃s:Tr,s.size+j<=t.size/\s≠.nil/\ju h s/\s.FC=t.FC/\x=⟨[(2,.ptr F.length 0 0 0),(4,s.ptr)],F++[⟨.one,0,4,1,λ_=>[u64 0,Qb 0,u64 0,Qb 0]⟩]⟩) t.size (s0:=⟨[(2,.ptr F.length 0 0 0),(4,t.ptr)],F++[⟨.one,0,4,1,λ_=>[u64 0,Qb 0,u64 0,Qb 0]⟩]⟩) QQ ⟨t,ω,n,i,rfl,rfl⟩ ?_;rintro j _ O ⟨s,v,K,q,u,rfl⟩;rcases s with _|⟨M,N,y,L⟩
  .exact absurd rfl K
  have l:=q.1;rw[<- e]at l;have o:=Qc l;rcases y with _|⟨H,E,C,B⟩
  .apply Qf f;simp only[go_sem,Qa,l,o];apply Qf f;simp only[go_sem,Qa,l,o];rw[<- u];exact⟨_,rfl,rfl⟩
  .apply Qf f;simp only[go_sem,Qa,l,o];refine⟨by simp only[Tr.size]at v;omega,_,QQ,.node H E C B,by simp only[Tr.size]at v ⊢;omega,σ,q.2.1,by rw[<- u];rfl,rfl⟩
omit ht i in
theorem Qu0{n b}{c:It}{l r:Tr}(h:(Tr.node b c l r).hasB n=true)(d:l.hasB n=false)(e:¬ c.va<=n):r.hasB n=true:=by
 rw[Tr.Tm]at h ⊢;obtain⟨x,hx,a⟩:=h;simp only[Tr.list,Q3,QF]at hx;rcases hx with hx|rfl|hx
 .have:=(Tr.Tm n l).2 ⟨x,hx,a⟩;rw[d]at this;cases this
 .exact absurd a e
 .exact⟨x,hx,a⟩
theorem Qu1(n):Zi prog 250 h [.ptr tl 0 0 0,u64 n] (λd=>d=rn (t.list.find? λx=>decide (x.va<=n))):=by
 have y:∀{F:List Ob},F=h.map Ob.ro->∀g,ju (F++g) t:=λa g=>i.more (Hw a);rw[<- Tr.fU];cases l:t.hasB n with
 | false=>
  have K:t.first n=none:=by
   rw[Tr.fU,jL];intro x hx f;have:=(Tr.Tm n t).2 ⟨x,hx,by simpa using f⟩;rw[l]at this;cases this
  rw[K];refine ZJ func250 ntmps250 results250 λp w E F a J c=>?_;rw[<- a]at ht;have m:=Qc ht;simp only[go_sem,Qa,ht,m];refine Xr c pn ?_ (fV (y a _) n) ?_
  .simp only[go_sem,Qa,ht,m,l]
  apply Qf c;simp only[go_sem,Qa,ht,m,l];exact⟨_,rfl,rfl⟩
 | true=>
  refine ZJ func250 ntmps250 results250 λp w E F a J c=>?_;rw[<- a]at ht;have m:=Qc ht;simp only[go_sem,Qa,ht,m];refine Xr c pn ?_ (fV (y a _) n) ?_
  .simp only[go_sem,Qa,ht,m,l]
  apply Qf c;simp only[go_sem,Qa,ht,m,l];have I:t≠.nil:=by rintro rfl;simp[Tr.hasB]at l
  refine ZW (λj B=>∃s:Tr,s.size+j<=t.size/\s≠.nil/\ju h s/\s.hasB n=true/\s.first n=t.first n/\B=⟨[(1,u64 n),(4,.ptr F.length 0 0 0),(6,s.ptr)],F++[⟨.one,0,4,1,λ_=>[u64 0,Qb 0,u64 0,Qb 0]⟩]⟩) t.size (s0:=⟨[(1,u64 n),(4,.ptr F.length 0 0 0),(6,t.ptr)],F++[⟨.one,0,4,1,λ_=>[u64 0,Qb 0,u64 0,Qb 0]⟩]⟩) QQ ⟨t,ω,I,i,l,rfl,rfl⟩ ?_;rintro j _ N ⟨s,r,L,q,u,b,rfl⟩;rcases s with _|⟨M,H,v,C⟩
  .exact absurd rfl L
  have e:=q.1;rw[<- a]at e;have o:=Qc e;rw[Tr.first]at b;apply Qf c;simp only[go_sem,Qa,e,o];apply Ju c pn (fV (q.2.1.more (Hw a)) n);apply Qf c;simp only[go_sem,Qa,e,o];cases k:v.hasB n with
  | true=>
   rw[k,Qe rfl]at b;simp only[go_sem,Qa,k,e,o];refine⟨by simp only[Tr.size]at r;omega,_,QQ,v,by simp only[Tr.size]at r;omega,by rintro rfl;simp[Tr.hasB]at k,q.2.1,k,b,rfl⟩
  | false=>
   rw[k,Qd π]at b;simp only[go_sem,Qa,k,e,o];by_cases f:H.va<=n
   .have d1:=QT f;rw[Qe f]at b;simp only[go_sem,Qa,d1,e,o];rw[<- b];exact⟨_,rfl,rfl⟩
   .have d1:=QH f;rw[Qd f]at b;simp only[go_sem,Qa,d1,e,o];have z:=Qu0 u k f;refine⟨by simp only[Tr.size]at r;omega,_,QQ,C,by simp only[Tr.size]at r;omega,by rintro rfl;simp[Tr.hasB]at z,q.2.2,z,b,rfl⟩
end
@[go_sem] def ru(o:Option It):Ob:=⟨.one,0,4,1,λ_=>(o.getD default).cells⟩
@[go_sem] def rv(o:Option It):Ob:=⟨.one,0,1,1,λ_=>[QX o.isSome]⟩
def Qu3(x):j7 x x=x:=by rw[Qf6,Qd (Tj x)]
def Qgp{h:List Ob}{lm lo}{o}(d:h[lm]? = some (rv o))(c:h[lo]? = some (ru o))(f:lm≠lo)(x):
  QM prog 255 h [.agg x.cells,.ptr lm 0 0 0,.ptr lo 0 0 0] (λ_ m=>∃g,m=(h.set lm (rv (zT o x))).set lo (ru (zT o x))++g):=by
 have e:=Q9 f;cases o with
 | none=>
  have k:=OZ x x;rw[Qu3]at k;refine Q8 func255 ntmps255 results255 λj w l i=>?_;have b:=Qc d;have a:=Qc c;simp only[go_sem,Qa,d,b,c,a,Ql f,Ql e,xp,wh,Ky,NK,zT,Qt b,Qt a];refine ZO i OI ?_ k ?_
  .simp only[go_sem,Qa,d,b,c,a,Ql f,Ql e,xp,wh,Ky,NK,zT,Qt b,Qt a]
  apply Qf i;simp only[go_sem,Qa,d,b,c,a,Ql f,Ql e,xp,wh,Ky,NK,zT,Qt b,Qt a];rw[List.set_comm _ _ e,JE];exact⟨_,rfl⟩
 | some y=>
  have k:=OZ y x;refine Q8 func255 ntmps255 results255 λj w l i=>?_;have b:=Qc d;have a:=Qc c;simp only[go_sem,Qa,d,b,c,a,Ql f,Ql e,xp,wh,Ky,NK,zT,Qt b,Qt a];refine ZO i OI ?_ k ?_
  .simp only[go_sem,Qa,d,b,c,a,Ql f,Ql e,xp,wh,Ky,NK,zT,Qt b,Qt a]
  apply Qf i;simp only[go_sem,Qa,d,b,c,a,Ql f,Ql e,xp,wh,Ky,NK,zT,Qt b,Qt a];exact⟨_,rfl⟩
def Tr.Qu4(n f)(e:It)(l r:Tr)(o):(Tr.node f e l r).zU n o=if n<e.ka then l.zU n o else r.zU n (match l with
  | .nil=>zT o e
  | .node a b c d=>zT (zT o e) (Tr.node a b c d).least):=by cases l<;>rfl
def Bb(F g:List Ob)(n:Nat)(s:Tr)(o:Option It):St:=
 ⟨[(1,u64 n),(4,.ptr F.length 0 0 0),(6,.ptr (F.length+1) 0 0 0),(7,.ptr (F.length+2) 0 0 0),(8,.clo 255 0 [.ptr (F.length+2) 0 0 0,.ptr (F.length+1) 0 0 0]),(9,s.ptr)],
  F++(⟨.one,0,4,1,λ_=>[u64 0,Qb 0,u64 0,Qb 0]⟩::ru o::rv o::g)⟩
section
variable {h:List Ob}{tl:Nat}{t:Tr}(ht:(h.map Ob.ro)[tl]? = some (xR t).ro)(i:ju h t)
include ht i
theorem Qgq(n):Zi prog 220 h [.ptr tl 0 0 0,u64 n] (λd=>d=rn (t.zU n none)):=by
 refine ZJ func220 ntmps220 results220 λE w N F z Q f=>?_;rw[<- z]at ht;have L:=Qc ht;simp only[go_sem,Qa,ht,L];refine ZW (λj H=>∃(s:Tr) (o:Option It) (g:List Ob),s.size+j<=t.size/\ju h s/\s.zU n o=t.zU n none/\H=Bb F g n s o) t.size (s0:=Bb F [] n t none) ?_ ⟨t,none,[],ω,i,rfl,rfl⟩ ?_
 .simp only[Bb];exact QQ
 rintro j _ P ⟨s,o,g,m,p,k,rfl⟩;rcases s with _|⟨O,q,x,u⟩
 .simp only[Bb];apply QP f;apply QP f;apply VE [] f [0] [1,2,3];simp only[go_sem,Qa];have I:o=t.zU n none:=k;subst I;refine⟨⟨_,rfl,rfl⟩,⟨_,rfl,rfl⟩⟩
 have l:=p.1;rw[<- z]at l;have r:=Qc l;rw[Tr.Qu4]at k;by_cases v:n<q.ka
 .have d1:=QT v;rw[Qe v]at k;simp only[Bb];apply Qf f;simp only[go_sem,Qa,l,r,d1];refine⟨by simp only[Tr.size]at m;omega,Bb F g n x o,?_,x,o,g,by simp only[Tr.size]at m;omega,p.2.1,k,rfl⟩;simp only[Bb];exact QQ
 .have d1:=QH v;rw[Qd v]at k;simp only[Bb];apply Qf f;simp only[go_sem,Qa,l,r,d1];refine JG f Qfu (Qgp (lm:=F.length+2) (lo:=F.length+1) (o:=o) (VP rfl) (VP rfl) ω q) λd J y=>?_;obtain⟨C,rfl⟩:=y;simp only[go_sem,Qa];cases x with
  | nil=>
   apply Qf f;simp only[go_sem,Qa,l,r];refine⟨by simp only[Tr.size]at m;omega,Bb F (g++C) n u (zT o q),?_,u,_,_,by simp only[Tr.size]at m;omega,p.2.2,k,rfl⟩;simp only[Bb];exact QQ
  | node a b c e=>
   have B:=p.2.1.1;rw[<- z]at B;have M:=Qc B;apply Qf f;simp only[go_sem,Qa,l,r,B,M];refine JG f Qfu (Qgp (lm:=F.length+2) (lo:=F.length+1) (o:=zT o q) (VP rfl) (VP rfl) ω (Tr.node a b c e).least) λd J y=>?_;obtain⟨K,rfl⟩:=y;simp only[go_sem,Qa];apply Qf f;simp only[go_sem,Qa,l,r];refine⟨by simp only[Tr.size]at m;omega,Bb F (g++(C++K)) n u (zT (zT o q) (Tr.node a b c e).least),?_,u,_,_,by simp only[Tr.size]at m;omega,p.2.2,k,rfl⟩;simp only[Bb];exact QQ
end
def XT(e:ZF):Int × D:=(e.k,e.v)
structure YA (es:List ZF) (P:List (Int × D)):Prop where
 perm:(es.map XT).Perm P
 nd:(P.map Prod.fst).Nodup
def YA.Cg{a}{P}(M:YA a P):X7 a:=by
 have b:a.map (·.k)=(a.map XT).map Prod.fst:=by simp[XT,aT]
 unfold X7;rw[b,(M.perm.map Prod.fst).nodup_iff];exact M.nd
def ry:∀{b:List ZF},X7 b->∀{k:Int} {v:D},ZZ b k=some v↔(k,v)∈b.map XT
 | [],_,k,v=>by simp[ZZ]
 | e::b,a,k,v=>by
  have g:X7 b:=by unfold X7 at a ⊢;simp only[JQ,ZY]at a;exact a.2
  simp only[ZZ];by_cases h:e.k=k
  .rw[Qe h];constructor
   .rintro⟨rfl⟩;simp[XT,h]
   .intro hm;simp only[JQ,QF]at hm;rcases hm with hm|hm
    .simp only[XT,Ze]at hm;rw[hm.2]
    .exfalso;obtain⟨d,f,c⟩:=Jl.1 hm;simp only[XT,Ze]at c;unfold X7 at a;simp only[JQ,ZY,Jl,EL,not_and]at a;exact a.1 d f (by rw[c.1,h])
  .rw[Qd h,ry g];simp only[JQ,QF];constructor
   .exact λh=>.inr h
   .rintro (hm|hm)
    .simp only[XT,Ze]at hm;exact absurd hm.1.symm h
    .exact hm
def look(P:List (Int × D))(k:Int):Option D:=(P.find? λp=>p.1==k).map Prod.snd
def fX:∀{P:List (Int × D)},(P.map Prod.fst).Nodup->∀{k:Int} {v:D},look P k=some v↔(k,v)∈P
 | [],_,k,v=>by simp[look]
 | p::P,a,k,v=>by
  simp only[JQ,ZY]at a;have b:=fX a.2 (k:=k) (v:=v);unfold look at b ⊢;rw[vZ];by_cases h:p.1=k
  .rw[zF.2 h];simp only[K6,Q6,QF];constructor
   .rintro rfl;exact .inl (by rw[<- h])
   .rintro (hm|hm)
    .rw[<- hm]
    .exact absurd (Jl.2 ⟨_,hm,rfl⟩) (by rw[<- h];exact a.1)
  .have c:(p.1==k)=false:=by simpa using h
   rw[c,b,QF];constructor
   .exact λh=>.inr h
   .rintro (hm|hm)
    .exact absurd (by rw[<- hm]) h
    .exact hm
def YA.look{b}{P}(M:YA b P)(k):ZZ b k=look P k:=by
 cases a:X.look P k with
 | some v=>
  rw[ry M.Cg,M.perm.mem_iff];exact(fX M.nd).1 a
 | none=>
  cases c:ZZ b k with
  | none=>rfl
  | some v=>
   rw[ry M.Cg,M.perm.mem_iff]at c;rw[(fX M.nd).2 c]at a;cases a
def YA.len{a:List ZF}{P:List (Int × D)}(M:YA a P):a.length=P.length:=by
 have:=M.perm.length_eq;rwa [KK]at this
def Cq(P:List (Int × D))(k:Int):List (Int × D):=P.filter λp=>p.1 != k
def FF(P:List (Int × D))(k:Int)(v:D):List (Int × D):=(k,v)::Cq P k
def Qgr{P:List (Int × D)}(k:Int)(h:(P.map Prod.fst).Nodup):((Cq P k).map Prod.fst).Nodup:=by
 unfold Cq;exact List.Nodup.sublist (List.Sublist.map _ List.filter_sublist) h
def Qgs{P:List (Int × D)}(k)(v:D)(h:(P.map Prod.fst).Nodup):((FF P k v).map Prod.fst).Nodup:=by
 rw[FF,JQ,ZY];refine⟨λb=>?_,Qgr k h⟩;obtain⟨p,a,e⟩:=Jl.1 b;simp only[Cq,JH,bne_iff_ne,ne_eq]at a;exact a.2 e
def Qgt:∀{a:List ZF} (k:Int) (v:D),X7 a->(∃u,ZZ a k=some u)->((jT a k v).map XT).Perm ((k,v)::(a.map XT).filter λp=>p.1 != k)
 | [],k,v,_,h=>by obtain⟨u,c⟩:=h;cases c
 | e::a,k,v,d,h=>by
  have i:X7 a/\∀g∈a,g.k≠e.k:=by
   unfold X7 at d ⊢;simp only[JQ,ZY,Jl,EL,not_and]at d;exact⟨d.2,d.1⟩
  simp only[jT];by_cases b:e.k=k
  .rw[Qe b,JQ,JQ];have f:(XT e).1=k:=b;rw[xk,show ((XT e).1 != k)=false by rw[f];simp];simp only[XZ,YF];rw[An.2]
   .exact Ny _
   .intro p j;obtain⟨g,m,rfl⟩:=Jl.1 j;have:=i.2 g m;simpa[XT,<- b] using this
  .rw[Qd b,JQ,JQ,xk];have f:((XT e).1 != k)=true:=by simpa[XT] using b
   rw[f,Qe rfl];have l:∃u,ZZ a k=some u:=by
    obtain⟨u,c⟩:=h;simp only[ZZ,Qd b]at c;exact⟨u,c⟩
   exact(List.Perm.cons _ (Qgt k v i.1 l)).trans (List.Perm.swap _ _ _)
def YA.set{a}{P}(M:YA a P)(q)(c)(k)(v):∃h b,J7 q c a k v=QS q h b/\YA b (FF P k v):=by
 unfold J7;cases d:ZZ a k with
 | some u=>
  refine⟨c,jT a k v,rfl,?_,Qgs k v M.nd⟩;exact(Qgt k v M.Cg ⟨u,d⟩).trans (List.Perm.cons _ (M.perm.filter _))
 | none=>
  refine⟨c+1,a++[⟨k,v,c⟩],rfl,?_,Qgs k v M.nd⟩;rw[wa,FF];have g:Cq P k=P:=by
   unfold Cq;rw[An];intro p f;rw[bne_iff_ne];intro e;have:=(fX M.nd (k:=k) (v:=p.2)).2 (by rw[<- e];exact f);rw[<- M.look,d]at this;cases this
  rw[g];exact(List.perm_append_comm.trans (List.Perm.cons _ M.perm))
def Qgu:∀{a:List ZF} (k:Int),X7 a->((J1 a k).map XT)=((a.map XT).filter λp=>p.1 != k)
 | [],_,_=>rfl
 | e::a,k,c=>by
  have f:X7 a/\∀d∈a,d.k≠e.k:=by
   unfold X7 at c ⊢;simp only[JQ,ZY,Jl,EL,not_and]at c;exact⟨c.2,c.1⟩
  simp only[J1];by_cases b:e.k=k
  .rw[Qe b,JQ,xk,show ((XT e).1 != k)=false by simpa[XT] using b];simp only[XZ,YF];rw[An.2];intro p g;obtain⟨d,h,rfl⟩:=Jl.1 g;have:=f.2 d h;simpa[XT,<- b] using this
  .rw[Qd b,JQ,JQ,xk,show ((XT e).1 != k)=true by simpa[XT] using b,Qe rfl,Qgu k f.1]
def YA.del{a}{P}(M:YA a P)(k):YA (J1 a k) (Cq P k):=by
 refine⟨?_,Qgr k M.nd⟩;rw[Qgu k M.Cg];exact M.perm.filter _
def YA.nil:YA [] []:=⟨σ,σ⟩
def YA.to{a}{P Q:List (Int × D)}(M:YA a P)(h:P.Perm Q):YA a Q:=⟨M.perm.trans h,((h.map Prod.fst).nodup_iff).1 M.nd⟩
structure Step (S:Nat->Prop) (h h':List Ob):Prop where
 keep:∀l,l<h.length->¬ S l->h'[l]? = h[l]?
 len:h.length<=h'.length
def more(S:Nat->Prop)(h:List Ob):Nat->Prop:=λl=>S l\/h.length<=l
def Step.trans{S}{h h' c}(a:Step S h h')(b:Step (more S h) h' c):Step S h c:=
 ⟨λl e d=>by rw[b.keep l (wg e a.len) (λf=>f.elim d ω),a.keep l e d],Kv a.len b.len⟩
def Step.app(S)(h g):Step S h (h++g):=⟨λl a _=>QE a,σ⟩
structure Vc (es:List ZF) (f:Int->Option D):Prop where
 nd:X7 es
 at_:∀k,ZZ es k=f k
section
variable {es:List ZF}{f:Int->Option D}
def Vc.p(M:Vc es f):YA es (es.map XT):=⟨Ny _,by
 have a:(es.map XT).map Prod.fst=es.map (·.k):=by simp[XT,aT]
 rw[a];exact M.nd⟩
def Vc.to{g}(M:Vc es f)(h:∀k,f k=g k):Vc es g:=⟨M.nd,λk=>(M.at_ k).trans (h k)⟩
def Qgv(P)(k j):look (Cq P k) j=if j=k then none else look P j:=by
 unfold look Cq;rw[List.find?_filter];by_cases h:j=k
 .subst h;rw[Qe rfl,mL,jL];intro p _ b;simp at b
 .rw[Qd h];congr 2;funext p;by_cases a:p.1=j
  .simp[a,h]
  .simp[a]
def Qu5(P)(k)(v)(j):look (FF P k v) j=if j=k then some v else look P j:=by
 have a:=Qgv P k j;unfold look at a ⊢;unfold FF;rw[vZ];by_cases h:j=k
 .subst h;simp
 .have b:((k,v).1==j)=false:=by simpa using Q9 h
  rw[b,Qd h];rw[Qd h]at a;exact a
def Vc.set(M:Vc es f)(q)(c)(k)(v):∃b a,J7 q c es k v=QS q b a/\Vc a (λj=>if j=k then some v else f j):=by
 obtain⟨b,a,e,d⟩:=M.p.set q c k v;refine⟨b,a,e,d.Cg,λj=>?_⟩;rw[d.look,Qu5];split
 .rfl
 .rw[<- M.p.look,M.at_]
def Vc.del(M:Vc es f)(k):Vc (J1 es k) (λj=>if j=k then none else f j):=by
 have a:=M.p.del k;refine⟨a.Cg,λj=>?_⟩;rw[a.look,Qgv];split
 .rfl
 .rw[<- M.p.look,M.at_]
def Vc.nil:Vc [] (λ_=>none):=⟨by simp[X7],λ_=>rfl⟩
def Vc.Qgw(M:Vc es f):es.length=0↔∀k,f k=none:=by
 constructor
 .intro h k;rw[RK]at h;rw[<- M.at_,h];rfl
 .intro h;cases es with
  | nil=>rfl
  | cons e es=>
   have a:=M.at_ e.k;rw[h,ZZ,Qe rfl]at a;cases a
end
def Mb(b:Bool):Int:=if b then 1 else 0
def wJ(T:List Qm)(k:Int):Option D:=match Qy T k with
 | some c=>if 1<QJ c.ls then some (.agg [Qb c.parent,Qb (Mb c.leaf)]) else none
 | none=>none
def Bc(T:List Qm)(A:List Int)(k:Int):Option D:=if k∈A then some (Qb ((Qy T k).getD default).parent) else none
def DP(a:Int->Option Nat)(k:Int):Option D:=(a k).map λl=>.mref l 0
def yM(f:Int->Bool)(i:Int):Option D:=if f i then some (Qb 1) else none
@[go_sem] def fY(c b a:Nat):Ob:=⟨.one,0,3,1,λ_=>[.mref c 0,.mref b 0,.mref a 0]⟩
structure jv (S:Nat->Prop) (h:List Ob) (p b1 b2 b3 c1 c2 c3:Nat) (ZP Z8 KU:List ZF) (kl:Int->Option Nat) (T:List Qm) (A:List Int) (Kd:Int->Int->Bool):Prop where
 o:h[p]? = some (fY b1 b2 b3)
 m1:h[b1]? = some (QS .i64 c1 ZP)
 f1:Vc ZP (wJ T)
 m2:h[b2]? = some (QS .i64 c2 Z8)
 f2:Vc Z8 (Bc T A)
 m3:h[b3]? = some (QS .i64 c3 KU)
 f3:Vc KU (DP kl)
 ks:∀k l,kl k=some l->∃c es,h[l]? = some (QS .i64 c es)/\Vc es (yM (Kd k))
 kn:∀k i,kl k=none->Kd k i=false
 ki:∀k k' l,kl k=some l->kl k'=some l->k=k'
 Tw:b1≠b2
 Tz:b1≠b3
 O3:b2≠b3
 fZ:p≠b1
 TA:p≠b2
 FG:p≠b3
 nk:∀k l,kl k=some l->l≠p/\l≠b1/\l≠b2/\l≠b3
 sp:S p
 s1:S b1
 s2:S b2
 s3:S b3
 sk:∀k l,kl k=some l->S l
def jw(S:Nat->Prop)(h:List Ob)(p:Nat)(T:List Qm)(A:List Int):Prop:=∃g f e d c b i j k a,jv S h p g f e d c b i j k a T A (zR T A)
def jv.step{S S'}{h h'}{p t s r n m j}{u v x}{g}{T}{A}{w}
  (e:∀l,l<h.length->S l->S' l/\h'[l]? = h[l]?) (a:jv S h p t s r n m j u v x g T A w):jv S' h' p t s r n m j u v x g T A w:=by
 have k:∀l o,S l->h[l]? = some o->S' l/\h'[l]? = some o:=λl o d b=>⟨(e l (Qc b) d).1,(e l (Qc b) d).2.trans b⟩;refine⟨(k _ _ a.sp a.o).2,(k _ _ a.s1 a.m1).2,a.f1,(k _ _ a.s2 a.m2).2,a.f2,(k _ _ a.s3 a.m3).2,a.f3,λq l f=>?_,a.kn,a.ki,a.Tw,a.Tz,a.O3,a.fZ,a.TA,a.FG,a.nk,(k _ _ a.sp a.o).1,(k _ _ a.s1 a.m1).1,(k _ _ a.s2 a.m2).1,(k _ _ a.s3 a.m3).1,λq l f=>?_⟩
 .obtain⟨c,i,d,b⟩:=a.ks q l f;exact⟨c,i,(k _ _ (a.sk q l f) d).2,b⟩
 .obtain⟨c,i,d,b⟩:=a.ks q l f;exact(k _ _ (a.sk q l f) d).1
def jw.step{S S'}{h h':List Ob}{p}{T}{A}(e:∀l,l<h.length->S l->S' l/\h'[l]? = h[l]?):jw S h p T A->jw S' h' p T A:=
 λ⟨i,g,f,d,c,b,j,k,m,a,O⟩=>⟨i,g,f,d,c,b,j,k,m,a,O.step e⟩
structure Qu6 (h:List Ob) (p b1 b2 b3 c1 c2 c3:Nat) (ZP Z8 KU:List ZF) (kl:Int->Option Nat) (T:List Qm) (A:List Int) (Kd:Int->Int->Bool):Prop where
 o:(h.map Ob.ro)[p]? = some (fY b1 b2 b3).ro
 m1:(h.map Ob.ro)[b1]? = some (QS .i64 c1 ZP).ro
 f1:Vc ZP (wJ T)
 m2:(h.map Ob.ro)[b2]? = some (QS .i64 c2 Z8).ro
 f2:Vc Z8 (Bc T A)
 m3:(h.map Ob.ro)[b3]? = some (QS .i64 c3 KU).ro
 f3:Vc KU (DP kl)
 ks:∀k l,kl k=some l->∃c es,(h.map Ob.ro)[l]? = some (QS .i64 c es).ro/\Vc es (yM (Kd k))
 kn:∀k i,kl k=none->Kd k i=false
def Mc(h:List Ob)(p:Nat)(T:List Qm)(A:List Int):Prop:=∃g f e d c b i j k a,Qu6 h p g f e d c b i j k a T A (zR T A)
def jw.toR{S}{h}{p}{T}{A}:jw S h p T A->Mc h p T A:=
 λ⟨o,n,m,j,i,g,q,r,s,a,O⟩=>⟨o,n,m,j,i,g,q,r,s,a,Z3 O.o,Z3 O.m1,O.f1,Z3 O.m2,O.f2,Z3 O.m3,O.f3,λk l b=>by
  obtain⟨c,f,e,d⟩:=O.ks k l b;exact⟨c,f,Z3 e,d⟩,O.kn⟩
def Mc.more{h h':List Ob}{p}{T}{A}(e:∀(l:Nat) (o:Ob),(h.map Ob.ro)[l]? = some o->(h'.map Ob.ro)[l]? = some o):Mc h p T A->Mc h' p T A:=
 λ⟨r,q,n,m,j,i,s,t,u,a,O⟩=>⟨r,q,n,m,j,i,s,t,u,a,e _ _ O.o,e _ _ O.m1,O.f1,e _ _ O.m2,O.f2,e _ _ O.m3,O.f3,λk l b=>by
  obtain⟨c,g,f,d⟩:=O.ks k l b;exact⟨c,g,e _ _ f,d⟩,O.kn⟩
def Qu7{T}(I:KF T){A}(n:yK T A)(b)(o:b≠0):(b∈A\/∃i,zR T A b i=true)↔Jq T A b=true:=by
 constructor
 .rintro (h|⟨i,j⟩)
  .obtain⟨c,f,e,g⟩:=n b h;exact YS.2 ⟨b,h,Ye I f⟩
  .obtain⟨c,f,e,g⟩:=xN.1 j;obtain⟨d,k,_⟩:=I.J9 c (yJ I f) (by rw[e];exact o);rw[e]at k;exact LY I g (by rw[Vu I f,e];exact Ki _ (Ye I k))
 .intro h;obtain⟨a,l,j⟩:=YS.1 h;by_cases m:a=b
  .subst m;exact .inl l
  .obtain⟨i,c,f,e,g⟩:=fR I j m;exact .inr ⟨i,xN.2 ⟨c,e,g,YS.2 ⟨a,l,f⟩⟩⟩
end Go.Fg.X
namespace Go.Fg.X
open Go.Proofs Go.Fg
open Go.RowKit (Below)
open Go.Proofs.Tryz
def Qgx{P}{f}{h}{u}{R}(B:D)(O:∀k,B.upto k=true)
  (hd:∀d g,R d g->JD 6 d B\/∃c z x n a,h.length<=c/\(h++g)[c]? = some ⟨.arr,z,x,n,a⟩/\(∀i,i<n->(a i).all D.XO=true)/\JD 6 (D.fz c z n x a d) B) (H:Xf P f h u R):Zi P f h u (λd=>d=B):=by
 intro Z t w j vs h1 h2 m I hc;have SM:Zl Z w.heap.size (h.map Ob.ro) j w:=by
  refine⟨m.len,m.inj,m.V0,λl o b q V F=>⟨λU=>?_,(m.at_ l o b q V F).2⟩⟩;obtain⟨N,_,rfl⟩:=Hg V;rw[cK,Kd.toRo_ro]at U;cases U
 refine(H Z w.heap.size w j vs (QB _) h2 SM I hc).mono λe E he=>?_;obtain⟨v,d,_,s,rfl,⟨g,rfl,hR⟩,L,W,hT,hB⟩:=he;have Y:∀b,b<w.heap.size->E.heap[b]? = w.heap[b]? := λb hb=>hB.block b hb;have Zb:∀(l:Nat),l<h.length->s[l]? = j[l]? := λl I=>by
  have Jx:l<j.length:=by rw[m.len];simpa using I
  obtain⟨N,p',T,m2,_,_,m3⟩:=hT.obj l _ _ (Z3 (QG I)) (QG Jx);rw[JO (by simpa using I),Z3 (QG I)]at T;cases T;obtain⟨_,rfl⟩:=m3 rfl;rw[m2,QG Jx]
 have e1:(h.map Ob.ro++g).take h.length=h.map Ob.ro:=List.take_left' σ;have gh:QC Z (h.map Ob.ro) j E B v->_:=λhx=>(⟨v,B,h.map Ob.ro,j,rfl,⟨[],(JZ _).symm,O _,rfl⟩,m.ext Y,hx,Go.Fg.Tr.ext m Y,hB.mono h1⟩:∃S d M s,Ending.returned v=.returned S/\(∃g,M=h.map Ob.ro++g/\d.upto h.length=true/\d=B)/\Zl Z t M s E/\QC Z M s E d S/\Go.Fg.Tr (h.map Ob.ro) j w M s E/\Below t w E);refine gh ?_;rcases hd _ _ hR with C|⟨c,z,x,n,a,J,ZQ,Zx,C⟩
 .have r:=(vn 6 C W).take (O h.length);have Q:s.take h.length=j:=by
   apply Am;intro i;rw[XK];by_cases y:i<h.length
   .rw[Qe y,Zb i y]
   .rw[Qd y,Gz (by rw[m.len];simp;omega)]
  rw[e1,Q]at r;exact r
 have K:(h.map Ob.ro++g)[c]? = some ⟨.arr,z,x,n,a⟩:=by
  rw[Kh ω]at ZQ;rw[Kh (by simpa using J)];simpa using ZQ
 have Qc:c<s.length:=by rw[L.len];exact(Xa.1 K).1
 obtain⟨p,F⟩:∃p,s[c]? = some p:=⟨_,QG Qc⟩;have Cr:=W.fz (l:=c) (o:=⟨.arr,z,x,n,a⟩) (p:=p) K F rfl (λb q e=>by
  subst e;refine⟨h2 b ?_,λl' q' e'=>L.inj _ _ _ _ _ e' F,(L.at_ c _ b q K F).2.cells rfl⟩;exact(L.at_ c _ b q K F).1 rfl) Zx (h':=(h.map Ob.ro++g).set c (Ob.gone ⟨.arr,z,x,n,a⟩)) (λl' N QA e=>by
  exact⟨N,by rw[JP (Q9 QA)];exact e,rfl,rfl,rfl⟩)
 have r:=(vn 6 C Cr).take (O h.length);have e3:((h.map Ob.ro++g).set c (Ob.gone ⟨.arr,z,x,n,a⟩)).take h.length=h.map Ob.ro:=by
  rw[NB _ _ (by simpa using J)];exact List.take_left' σ
 have Q:(s.set c none).take h.length=j:=by
  apply Am;intro i;rw[XK];by_cases y:i<h.length
  .rw[Qe y,JP ω,Zb i y]
  .rw[Qd y,Gz (by rw[m.len];simp;omega)]
 rw[e3,Q]at r;exact r
end Go.Fg.X
namespace Go.Fg.X
open Go.Proofs Go.Fg
open Go.Proofs.Tryz
section
variable (h:List Ob)(t m c:Nat){es:List ZF}{L:List Qm}(T:VF es L)(hlen:L.length<1000000)
 (ht:(h.map Ob.ro)[t]? = some ⟨.Wh,0,1,1,λ_=>[.mref m 0]⟩) (hm:(h.map Ob.ro)[m]? = some (QS .i64 c es).ro)
include T ht hm hlen
theorem Qu8:Xf prog 109 h [.ptr t 0 0 0] (λd g=>Kp h.length (h++g) d ((L.filter (·.leaf)).map (·.iD))):=by
 refine B9 KS 200 func109 rfl ntmps109 results109 rfl λa w i F e f b=>?_;rw[<- e]at ht hm;have l:=Qc ht;have n:=Qc hm;simp only[go_sem,Qa,ht,l,hm,n];have k:S6 (F.map Ob.ro) 141 0 [] (λx=>x.leaf):=λp x o=>by
  refine ZJ func141 ntmps141 results141 λa w i F e f b=>?_;simp only[go_sem,Qa];exact⟨_,rfl⟩
 refine Hh b fh rfl ?_ (fI _ t m c T hlen (Z3 ht) (LS hm) (.raw (.func (.func 141) ⟨[]⟩ ⟨[]⟩)) 141 0 [] QsG rfl _ k) rfl λd g j=>?_
 .simp only[go_sem]
 apply QP b;exact Kp.done f ⟨_,rfl⟩ j
end
def Hz{h g:List Ob}(l:Nat)(o:Ob)(e:(h.map Ob.ro)[l]? = some o):((h++g).map Ob.ro)[l]? = some o:=by
 rw[wa,JO (KA e)];exact e
def Kp.closed{P}{f}{h:List Ob}{a}{L}(H:Xf P f h a (λd g=>Kp h.length (h++g) d L)):Zi P f h a (λd=>d=ints L):=by
 refine Qgx (ints L) (λ_=>rfl) ?_ H;rintro d g (⟨rfl,m⟩|⟨c,e,p,b,rfl,⟨o,rfl⟩,l,j⟩)
 .subst m;exact .inl rfl
 .refine .inr ⟨c,e,1,_,b,o,l,λi k=>?_,?_⟩
  .have:=j i ω;rw[JR]at this;rw[this];rfl
  .have n:D.fz c e (0+L.length) 1 b (.ref c e 0 L.length)=.imm 1 L.length (rowFrom 0 b):=by simp[D.fz,Ff]
   rw[n];simp only[ints];rw[SL];refine⟨rfl,rfl,λi k=>?_⟩;rw[He,j i k,QtI];exact vm (qX _) _
def Qu9(h)(x):Zi prog 128 h [WV x] (λd=>d=QX true):=by
 refine ZJ func128 ntmps128 results128 λa w b F e f c=>?_;simp only[go_sem,Qa];all_goals exact Xg
section
variable (h:List Ob)(t m c:Nat){es:List ZF}{L:List Qm}(T:VF es L)(hlen:L.length<1000000)
 (ht:(h.map Ob.ro)[t]? = some ⟨.Wh,0,1,1,λ_=>[.mref m 0]⟩) (hm:(h.map Ob.ro)[m]? = some (QS .i64 c es).ro)
include T ht hm hlen
theorem Qva:Xf prog 93 h [.ptr t 0 0 0] (λd g=>Kp h.length (h++g) d ((L.filter (λ_=>true)).map (·.iD))):=by
 refine B9 KS 200 func93 rfl ntmps93 results93 rfl λb w p F i l a=>?_;rw[<- i]at ht hm;have k:=Qc ht;have n:=Qc hm;simp only[go_sem,Qa,ht,k,hm,n];have f:S6 (F.map Ob.ro) 128 0 [] (λx=>true):=λj x o=>Qu9 j x;refine Hh a fh rfl ?_ (fI _ t m c T hlen (Z3 ht) (LS hm) (.raw (.func (.func 128) ⟨[]⟩ ⟨[]⟩)) 128 0 [] Qsz rfl _ f) rfl λd g e=>?_
 .simp only[go_sem]
 apply QP a;exact Kp.done l ⟨_,rfl⟩ e
end
def WG(S:Nat->Prop)(h:List Ob)(t:Nat)(T:List Qm):Prop:=∃m c a,h[t]? = some ⟨.one,0,1,1,λ_=>[.mref m 0]⟩/\h[m]? = some (QS .i64 c a)/\VF a T/\S t/\S m
def XE(h:List Ob)(t:Nat)(T:List Qm):Prop:=∃m c a,(h.map Ob.ro)[t]? = some ⟨.Wh,0,1,1,λ_=>[.mref m 0]⟩/\(h.map Ob.ro)[m]? = some (QS .i64 c a).ro/\VF a T
def WG.toR{S}{h}{t}{T}:WG S h t T->XE h t T:=λ⟨m,c,e,d,b,a,_,_⟩=>⟨m,c,e,Z3 d,Z3 b,a⟩
def WG.step{S S'}{h h':List Ob}{t}{T}(e:∀l,l<h.length->S l->S' l/\h'[l]? = h[l]?):WG S h t T->WG S' h' t T:=λ⟨m,c,i,b,a,g,f,d⟩=>
 ⟨m,c,i,((e _ (Qc b) f).2).trans b,((e _ (Qc a) d).2).trans a,g,(e _ (Qc b) f).1,(e _ (Qc a) d).1⟩
def XE.more{h h':List Ob}{t}{T}(e:∀(l:Nat) (o:Ob),(h.map Ob.ro)[l]? = some o->(h'.map Ob.ro)[l]? = some o):XE h t T->XE h' t T:=λ⟨m,c,f,d,b,a⟩=>⟨m,c,f,e _ _ d,e _ _ b,a⟩
section
variable {h:List Ob}{t:Nat}{T:List Qm}(R:XE h t T)(hlen:T.length<1000000)
include R hlen
theorem rA:Zi prog 93 h [.ptr t 0 0 0] (λd=>d=ints (T.map (·.iD))):=by
 obtain⟨m,c,f,a,b,e⟩:=R;have:=Kp.closed (Qva h t m c e hlen a b);rwa [An.2 (λ_ _=>rfl)]at this
theorem Qvb(a):Zi prog 171 h [.ptr t 0 0 0,Qb a] (λd=>d=ints (KE T a)):=by
 obtain⟨m,c,g,b,e,f⟩:=R;exact Kp.closed (pS h t m c f hlen b e a)
omit hlen in
theorem rB(I:TreeInv T)(a):Zi prog 105 h [.ptr t 0 0 0,Qb a] (λd=>d=ints (ZT T 16 a)):=by
 obtain⟨m,c,g,b,e,f⟩:=R;exact Kp.closed (QfS h t m c f b e a 16 π (I.ends a))
omit hlen in
theorem O5(a:Int):Zi prog 74 h [.ptr t 0 0 0,Qb a] (λd=>d=.tup [WV ((Qy T a).getD default),Qb (if (Qy T a).isSome then 0 else 6)]):=by
 obtain⟨m,c,g,b,e,f⟩:=R;exact QfR h t m c f b e a
end
def gi{f}{a:List ZF}(M:Vc a (yM f)):0<a.length↔∃i,f i=true:=by
 constructor
 .intro h;refine jk λd=>?_;have:=M.Qgw.2 λk=>by
   unfold yM;rw[Qd (λc=>d ⟨k,c⟩)]
  omega
 .rintro⟨i,b⟩;refine Nat.pos_of_ne_zero λh=>?_;have:=M.Qgw.1 h i;unfold yM at this;rw[Qe b]at this;cases this
def O6{h}{p}{T}{A}(O:Mc h p T A)(I:KF T)(M:yK T A)(a)(N:a≠0):Zi prog 113 h [.ptr p 0 0 0,Qb a] (λd=>d=QX (Jq T A a)):=by
 obtain⟨Y,W,V,U,S,R,Z,Z8,KU,K,O⟩:=O;obtain⟨f,Q,f1,b,f2,j,f3,H,J⟩:=O;have t:=Qu7 I M a N;have k:=f2.at_ a;have r:=f3.at_ a;by_cases n:a∈A
 .have e:Jq T A a=true:=t.1 (.inl n);rw[Bc,Qe n]at k;rw[e];refine ZJ func113 ntmps113 results113 λg w z F m C B=>?_;rw[<- m]at f b;have o:=Qc f;have q:=Qc b;simp only[go_sem,Qa,f,o,b,q,k,Go.undef];all_goals exact Xg
 .rw[Bc,Qd n]at k;cases s:K a with
  | none=>
   have e:Jq T A a=false:=by
    rw[jj];intro h;rcases t.2 h with h|⟨i,h⟩
    .exact n h
    .rw[J a i s]at h;cases h
   rw[DP,s,zE]at r;rw[e];refine ZJ func113 ntmps113 results113 λg w z F m C B=>?_;rw[<- m]at f b j;have o:=Qc f;have q:=Qc b;have u:=Qc j;simp only[go_sem,Qa,f,o,b,q,j,u,k,r,Go.undef];all_goals exact Xg
  | some l=>
   obtain⟨c,x,ml,P⟩:=H a l s;rw[DP,s,K6]at r;have L:=gi P;have y:0<x.length↔Jq T A a=true:=L.trans ⟨λh=>t.1 (.inr h),λh=>(t.2 h).elim (λh=>absurd h n) λh=>h⟩;have d0:decide (0<x.length)=Jq T A a:=by
    cases v:Jq T A a with
    | true=>exact QT (y.2 v)
    | false=>exact QH λh=>by rw[y.1 h]at v;cases v
   have d1:decide ((0:Int)<(x.length:Int))=Jq T A a:=by rw[<- d0];congr 1;rw[IQ];omega
   refine ZJ func113 ntmps113 results113 λg w z F m C B=>?_;rw[<- m]at f b j ml;have o:=Qc f;have q:=Qc b;have u:=Qc j;have E:=Qc ml;simp only[go_sem,Qa,f,o,b,q,j,u,ml,E,k,r,Go.undef,d1];all_goals exact Xg
def Step.TB{S}{h H:List Ob}(s:Step S h H){l}(b:more S h l)(o):Step S h (H.set l o):=
 ⟨λj c a=>by
  have d:l≠j:=by
   rintro rfl;rcases b with h3|h3
   .exact a h3
   .omega
  rw[Ql d];exact s.keep j c a,by rw[K0];exact s.len⟩
def Step.rC{S}{h H}(s:Step S h H)(g):Step S h (H++g):=
 ⟨λj a b=>by rw[QE (wg a s.len)];exact s.keep j a b,by have:=s.len;simp;omega⟩
structure O7 (S:Nat->Prop) (h:List Ob) (p:Nat) (T:List Qm) (A:List Int) (leaf:Int) (n:Nat) (s:St):Prop where
 ex:∃id dn c lo g row H S' b1 b2 b3 c1 c2 c3 ZP Z8 KU kl,up T leaf=dn++up T id/\Qy T id=some c/\(up T id).length<=n/\(∀i∈dn++[id],Jq T A i=false) /\
  jv S' H p b1 b2 b3 c1 c2 c3 ZP Z8 KU kl T (leaf::A) (j6 T A dn)/\(∀l,S' l->more S h l/\l<H.length)/\¬ S' lo/\h.length<=lo/\Step S h H /\
  H[lo]? = some ⟨.arr,g,1,dn.length+1,row⟩/\(∀i,i<dn.length+1->row i=[Qb ((dn++[id]).getD i 0)]) /\
  s=⟨[(0,.ptr p 0 0 0),(6,.ref lo g 0 (dn.length+1)),(7,Qb id)],H⟩
section
variable {S:Nat->Prop}{h:List Ob}{p b1 b2 b3 c1 c2 c3:Nat}{ZP Z8 KU:List ZF}{kl:Int->Option Nat}{T:List Qm}{A:List Int}{Kd:Int->Int->Bool}(O:jv S h p b1 b2 b3 c1 c2 c3 ZP Z8 KU kl T A Kd)
include O
theorem jv.Qgz{c2'}{a}{A'}(g:Vc a (Bc T A')):jv S (h.set b2 (QS .i64 c2' a)) p b1 b2 b3 c1 c2' c3 ZP a KU kl T A' Kd:=by
 refine⟨(Ql (Q9 O.TA)).trans O.o,(Ql (Q9 O.Tw)).trans O.m1,O.f1,Qt (Qc O.m2),g,(Ql O.O3).trans O.m3,O.f3,λk l b=>?_,O.kn,O.ki,O.Tw,O.Tz,O.O3,O.fZ,O.TA,O.FG,O.nk,O.sp,O.s1,O.s2,O.s3,O.sk⟩;obtain⟨c,f,e,d⟩:=O.ks k l b;exact⟨c,f,(Ql (Q9 (O.nk k l b).2.2.1)).trans e,d⟩
theorem jv.QgA{k}{l c'}{es'}{Kd'}(b:kl k=some l)(M:Vc es' (yM (Kd' k)))(g:∀j,j≠k->∀i,Kd' j i=Kd j i):jv S (h.set l (QS .i64 c' es')) p b1 b2 b3 c1 c2 c3 ZP Z8 KU kl T A Kd':=by
 obtain⟨u,t,s,r⟩:=O.nk k l b;have v:l<h.length:=by
  obtain⟨c,q,f,n⟩:=O.ks k l b;exact Qc f
 refine⟨(Ql u).trans O.o,(Ql t).trans O.m1,O.f1,(Ql s).trans O.m2,O.f2,(Ql r).trans O.m3,O.f3,λj m a=>?_,λj i a=>?_,O.ki,O.Tw,O.Tz,O.O3,O.fZ,O.TA,O.FG,O.nk,O.sp,O.s1,O.s2,O.s3,O.sk⟩
 .by_cases d:j=k
  .subst d;rw[b]at a;cases a;exact⟨c',es',Qt v,M⟩
  .obtain⟨c,q,f,n⟩:=O.ks j m a;have w:l≠m:=λe=>d (O.ki j k m a (by rw[<- e];exact b));exact⟨c,q,(Ql w).trans f,n.to λi=>by unfold yM;rw[g j d i]⟩
 .have d:j≠k:=by rintro rfl;rw[b]at a;cases a
  rw[g j d i];exact O.kn j i a
theorem jv.Qvc{k}{n c c3'}{e es3'}{Kd'}(u:h[n]? = some (QS .i64 c e))(M:Vc e (yM (Kd' k)))(x:n≠p)(w:n≠b1)(v:n≠b2)(s:n≠b3)(r:∀j l,kl j=some l->l≠n)(t:S n)
  (B:Vc es3' (λj=>if j=k then some (.mref n 0) else DP kl j)) (q:∀j,j≠k->∀i,Kd' j i=Kd j i):jv S (h.set b3 (QS .i64 c3' es3')) p b1 b2 b3 c1 c2 c3' ZP Z8 es3' (λj=>if j=k then some n else kl j) T A Kd':=by
 refine⟨(Ql (Q9 O.FG)).trans O.o,(Ql (Q9 O.Tz)).trans O.m1,O.f1,(Ql (Q9 O.O3)).trans O.m2,O.f2,Qt (Qc O.m3),B.to λj=>?_,λj m a=>?_,λj i a=>?_,λj g m a d=>?_,O.Tw,O.Tz,O.O3,O.fZ,O.TA,O.FG,λj m a=>?_,O.sp,O.s1,O.s2,O.s3,λj m a=>?_⟩
 .by_cases b:j=k<;>simp[DP,b]
 .by_cases b:j=k
  .subst b;rw[Qe rfl]at a;cases a;exact⟨c,e,(Ql (Q9 s)).trans u,M⟩
  .rw[Qd b]at a;obtain⟨c,e,z,y⟩:=O.ks j m a;exact⟨c,e,(Ql (Q9 (O.nk j m a).2.2.2)).trans z,y.to λi=>by unfold yM;rw[q j b i]⟩
 .by_cases b:j=k
  .subst b;rw[Qe rfl]at a;cases a
  .rw[Qd b]at a;rw[q j b i];exact O.kn j i a
 .by_cases b:j=k
  .by_cases f:g=k
   .rw[b,f]
   .rw[Qe b]at a;rw[Qd f]at d;cases a;exact absurd rfl (r _ _ d)
  .by_cases f:g=k
   .rw[Qd b]at a;rw[Qe f]at d;cases d;exact absurd rfl (r _ _ a)
   .rw[Qd b]at a;rw[Qd f]at d;exact O.ki j g m a d
 .by_cases b:j=k
  .rw[Qe b]at a;cases a;exact⟨x,w,v,s⟩
  .rw[Qd b]at a;exact O.nk j m a
 .by_cases b:j=k
  .rw[Qe b]at a;cases a;exact t
  .rw[Qd b]at a;exact O.sk j m a
theorem jv.app(g):jv S (h++g) p b1 b2 b3 c1 c2 c3 ZP Z8 KU kl T A Kd:=O.step λl a b=>⟨b,QE a⟩
end
def O7.of{S}{h}{p}{T}{A}{a}{n}{b}{dn}{c}{e g k}(d){H}(f){t s r q o m}{u v w}{j}
  (x:up T a=dn++up T b) (C:Qy T b=some c) (z:(up T b).length<=n) (E:∀i∈dn++[b],Jq T A i=false) (O:jv f H p t s r q o m u v w j T (a::A) (j6 T A dn)) (F:∀l,f l->more S h l/\l<H.length) (L:¬ f e) (K:h.length<=e) (y:Step S h H)
  (B:k=dn.length+1) (J:H[e]? = some ⟨.arr,g,1,k,d⟩) (I:∀i,i<dn.length+1->d i=[Qb ((dn++[b]).getD i 0)]):O7 S h p T A a n ⟨[(0,.ptr p 0 0 0),(6,.ref e g 0 k),(7,Qb b)],H⟩:=by
 subst B;exact⟨⟨b,dn,c,e,g,d,H,f,t,s,r,q,o,m,u,v,w,j,x,C,z,E,O,F,L,K,y,J,I,rfl⟩⟩
def Qvd(T)(A)(a:Int)(k):(if k=a then some (Qb ((Qy T a).getD default).parent) else Bc T A k)=Bc T (a::A) k:=by
 unfold Bc;by_cases h:k=a
 .subst h;simp
 .simp[h]
def QgB{S}{h}{p}{T}{A}(O:jw S h p T A)(I:KF T)(hA:yK T A)(a)(c:Qm)(hc:Qy T a=some c)(KG:c.leaf=true)(zV:1<QJ c.ls)(Jc:Jq T A a=false):
  QM prog 76 h [.ptr p 0 0 0,Qb a] (λd h'=>∃d1,d=.tup [d1,Qb 0]/\Kp h.length h' d1 (Xs T A a)/\jw (more S h) h' p T (a::A)/\Step S h h'):=by
 have O0:=O;have hR:=O.toR;obtain⟨b1,b2,J,c1,c2,c3,ZP,Z8,KU,kl,O⟩:=O;have x:=O.o;have P:=O.m1;have m2:=O.m2;have Z:=O.m3;have E:=O.f1.at_ a;rw[wJ,hc]at E;simp only[Qe zV,KG,Mb,Vp]at E;have rD:a≠0:=λe=>by rw[e,LW I]at hc;cases hc
 have Me:=O6 hR I hA a rD;rw[Jc]at Me;obtain⟨Y,FH,U,M2⟩:=O.f2.set .i64 c2 a (Qb c.parent);simp only[go_sem]at U;refine Q8 func76 ntmps76 results76 λa5 w pl hb=>?_;have K:=Qc x;have wK:=Qc P;simp only[go_sem,Qa,x,K,P,wK,E];apply Ju hb SU Me;apply Qf hb;simp only[go_sem,Qa,x,K];apply Qx hb i5;simp only[go_sem,Qa,x,K,P,Qc P,m2,Qc m2,E];simp only[U];have TD:O7 S h p T A a (up T a).length ⟨[(0,.ptr p 0 0 0),(6,.ref h.length 0 0 1),(7,Qb a)],h.set b2 (QS .i64 Y FH)++[⟨.arr,0,1,1,λ_=>[Qb a]⟩]⟩:=by
  have M:=((O.step (S':=λl=>S l/\l<h.length) λl B Q=>⟨⟨Q,B⟩,rfl⟩).Qgz (c2':=Y) (M2.to λk=>by
   have hp:(Qy T a).getD default=c:=by rw[hc];rfl
   have:=Qvd T A a k;rw[hp]at this;exact this)).app [⟨.arr,0,1,1,λ_=>[Qb a]⟩]
  refine⟨a,[],c,h.length,0,λ_=>[Qb a],_,λl=>S l/\l<h.length,b1,b2,J,c1,Y,c3,ZP,FH,KU,kl,rfl,hc,QB _,λi q=>?_,?_,λl B=>⟨.inl B.1,by have:=B.2;simp;omega⟩,λB=>by have:=B.2;omega,QB _,⟨λl B Q=>?_,σ⟩,?_,λi q=>?_,rfl⟩
  .simp only[jM,X1]at q;rw[q];exact Jc
  .rw[show j6 T A []=zR T A from funext λp=>funext λi=>QuD T A p i];exact M
  .rw[QE (by simpa using B),Ql (λ(e:b2=l)=>Q (e▸O.s2))]
  .rw[Vj σ];rfl
  .obtain rfl:i=0:=by simp at q;omega
   rfl
 refine Ls (O7 S h p T A a) (up T a).length QQ TD ?_;clear TD O P m2 Z x E U M2 Me O0 hR;rintro n s ⟨id,m,b,r,g,t,H,S',b1,b2,J,c1,c2,c3,ZP,Z8,KU,kl,hu,N,hn,HA,O,hS,ZQ,yN,Za,j9,ZU,rfl⟩;have x:=O.o;have P:=O.m1;have Z:=O.m3;have K:=Qc x;have wK:=Qc P;have C:=Qc Z;have HB:=Qc j9;obtain⟨d0,HC,Ke⟩:=Qf2 I hc zV id (by rw[hu];exact Nz _ (Ye I N));rw[N]at HC;cases HC;have E:=O.f1.at_ id;rw[wJ,N]at E;simp only[Qe Ke]at E;have k3:=O.f3.at_ b.parent;have Ja:=QuB I hA hu N HA;have gj:=QuC I (A:=A) (dn:=m) N;have rE:J≠r:=λe=>ZQ (e▸O.s3);have a8:p≠r:=λe=>ZQ (e▸O.sp);have a7:b1≠r:=λe=>ZQ (e▸O.s1);have W:∀(V:List Ob) (S2:Nat->Prop) o f a0,jv S2 V p b1 b2 J c1 c2 o ZP Z8 f a0 T (a::A) (j6 T A (m++[id]))->(∀l,S2 l->more S h l)->Step S h V->V[r]? = some ⟨.arr,g,1,m.length+1,t⟩->(b.parent=0\/Jq T A b.parent=true) ->
   Kp h.length V (.ref r g 0 (m.length+1)) (Xs T A a)/\jw (more S h) V p T (a::A)/\Step S h V:=λV S2 o f a0 M Mf jx a3 he=>by
  obtain⟨e1,U⟩:=QuE I hA hu N HA he;rw[<- e1];refine⟨.inr ⟨r,g,0,t,σ,⟨yN,rfl⟩,by simpa using a3,λi q=>?_⟩,?_,jx⟩
  .rw[JR];exact ZU i (by simpa using q)
  .rw[show j6 T A (m++[id])=zR T (a::A) from funext λp=>funext λi=>U p i]at M;exact⟨_,_,_,_,_,_,_,_,_,_,M.step λl B Q=>⟨Mf l Q,rfl⟩⟩
 by_cases YU:∃i,j6 T A m b.parent i=true
 ·
  cases z:kl b.parent with
  | none=>obtain⟨i,q⟩:=YU;rw[O.kn _ i z]at q;cases q
  | some l=>
   obtain⟨c,R,ml,fl⟩:=O.ks _ l z;have xS:=Qc ml;rw[DP,z,K6]at k3;have qS:0<R.length:=(gi fl).2 YU;have d1:((R.length:Int)==0)=false:=VU ω;have d2:decide ((0:Int)<(R.length:Int))=true:=QT ω;have FI:=(O.nk _ l z).2.2.2;have rF:l≠r:=λe=>ZQ (e▸O.sk _ l z);obtain⟨c',a2,ea,M'⟩:=fl.set .i64 c id (Qb 1);simp only[go_sem]at ea;have he:b.parent=0\/Jq T A b.parent=true:=by
    by_cases u:b.parent=0
    .exact .inl u
    .obtain⟨d,hd,Ch⟩:=I.J9 b (yJ I N) u;exact .inr ((Qf1 I hA hd Ch).2 (Ja.1 YU))
   have M:=O.QgA (c':=c') (es':=a2) (Kd':=j6 T A (m++[id])) z (M'.to λj=>by
    unfold yM;rw[gj];by_cases F:j=id
    .simp[F]
    .simp[F]) (λj F i=>by rw[gj,Qd (λh=>F h.1)])
   apply Qf hb;simp only[go_sem,Qa,x,K,P,wK,Z,C,E,k3,ml,xS,d1,d2,Go.undef];simp only[ea];exact⟨_,rfl,W _ _ _ _ _ M (λl h=>(hS l h).1) (Za.TB (hS l (O.sk _ l z)).1 _) ((Ql rF).trans j9) he⟩
 ·
  have hz:∀i,j6 T A m b.parent i=false:=λi=>by
   rw[jj];exact λh=>YU ⟨i,h⟩
  have hB:(kl b.parent=none/\True/\True/\True)\/∃l c R,kl b.parent=some l/\H[l]? = some (QS .i64 c R)/\l<H.length/\R.length=0:=by
   cases z:kl b.parent with
   | none=>exact .inl ⟨rfl,trivial,trivial,trivial⟩
   | some l=>
    obtain⟨c,R,ml,fl⟩:=O.ks _ l z;refine .inr ⟨l,c,R,rfl,ml,Qc ml,?_⟩;have:=(gi fl).1;by_cases u:0<R.length
    .exact absurd (this u) YU
    .omega
  obtain⟨o,f,e3,M3⟩:=O.f3.set .i64 c3 b.parent (.mref H.length 0);obtain⟨O8,Pa,e0,M0⟩:=Vc.nil.set .i64 0 id (Qb 1);simp only[go_sem]at e3 e0;have TE:=M3.at_ b.parent;rw[Qe rfl]at TE;have TF:∀l,S' l->l≠H.length:=λl y e=>by have:=(hS l y).2;omega
  have a6:=Za.len;have M:=((O.app [QS .i64 O8 Pa]).step (S':=λl=>S' l\/l=H.length) λl _ Q=>⟨.inl Q,rfl⟩).Qvc (k:=b.parent) (n:=H.length) (c3':=o) (es3':=f) (Kd':=j6 T A (m++[id])) (Vj rfl) (M0.to λj=>by
    unfold yM;rw[gj,hz];by_cases F:j=id
    .simp[F]
    .simp[F]) (λe=>TF p O.sp e.symm) (λe=>TF b1 O.s1 e.symm) (λe=>TF b2 O.s2 e.symm) (λe=>TF J O.s3 e.symm) (λj l F=>TF l (O.sk j l F)) (.inr rfl) M3 (λj F i=>by rw[gj,Qd (λh=>F h.1)])
  rw[DF C]at M;have jx:=(Za.TB (hS J O.s3).1 (QS .i64 o f)).rC [QS .i64 O8 Pa];have Mg:((H.set J (QS .i64 o f))++[QS .i64 O8 Pa])[r]? = some ⟨.arr,g,1,m.length+1,t⟩:=by
   rw[QE (by simpa using HB),Ql rE];exact j9
  have Mf:∀l,(S' l\/l=H.length)->more S h l:=λl y=>y.elim (λh=>(hS l h).1) λe=>.inr ω;have Ch:m.length<=16:=by
   have e:=congrArg List.length hu;have:=A7 (L:=T) (n:=16) (id:=a);rw[Zo]at e;unfold up at e;omega
  have zN:b.parent≠0->O7 S h p T A a (up T b.parent).length ⟨[(0,.ptr p 0 0 0),(6,.ref r (g+1) 0 (m.length+1+1)),(7,Qb b.parent)],
    (H.set J (QS .i64 o f)).set r ⟨.arr,g+1,1,m.length+1+1,JC (m.length+1) 0 t λ_=>[Qb b.parent]⟩++[QS .i64 O8 Pa,⟨.arr,0,1,1,λ_=>[Qb b.parent]⟩]⟩:=λu=>by
   obtain⟨d,hd,a4⟩:=I.J9 b (yJ I N) u;have e1:(m++[id]).length+1=m.length+1+1:=σ;have YP:Jq T A b.parent=false:=by
    rw[jj];exact λhq=>YU (Ja.2 ((Qf1 I hA hd a4).1 hq))
   have TG:r<(H.set J (QS .i64 o f)).length:=by simpa using HB
   have U:(H.set J (QS .i64 o f)).set r ⟨.arr,g+1,1,m.length+1+1,JC (m.length+1) 0 t λ_=>[Qb b.parent]⟩++[QS .i64 O8 Pa,⟨.arr,0,1,1,λ_=>[Qb b.parent]⟩] =
     (H.set J (QS .i64 o f)++[QS .i64 O8 Pa]).set r ⟨.arr,g+1,1,m.length+1+1,JC (m.length+1) 0 t λ_=>[Qb b.parent]⟩++[⟨.arr,0,1,1,λ_=>[Qb b.parent]⟩]:=by
    rw[DF TG];simp
   rw[U];have a1:∀l,(S' l\/l=H.length)->l≠r:=λl y e=>by
    subst e;rcases y with y|y
    .exact ZQ y
    .omega
   refine O7.of (JC (m.length+1) 0 t λ_=>[Qb b.parent]) (λl=>S' l\/l=H.length) (dn:=m++[id]) ?_ hd (QB _) (λi q=>?_) (M.step (λl B Q=>⟨Q,?_⟩)) (λl y=>⟨Mf l y,?_⟩) (λB=>a1 r B rfl) yN ((jx.TB (.inr yN) _).rC _) e1.symm ?_ ?_
   .rw[hu,Vu I N];simp
   .rcases Q3.1 q with q|q
    .exact HA i q
    .rw[X1.1 q];exact YP
   .rw[QE (by simpa using B),Ql (Q9 (a1 l Q))]
   .rcases y with y|y
    .have:=(hS l y).2;simp;omega
    .simp;omega
   .rw[QE ξ,Qt ξ]
   .intro i q;have:=LR (dn:=m++[id]) (off:=0) (row:=t) (v:=b.parent) (λi q=>by rw[JR];exact ZU i (by simpa using q)) i (by simpa using q);rw[JR]at this;simpa using this
  rcases hB with ⟨z,ml,xS,Sz⟩|⟨l,c,R,z,ml,xS,Sz⟩
  .rw[DP,z,zE]at k3;apply Qf hb;simp only[go_sem,Qa,x,K,P,wK,Z,C,E,k3,ml,xS,Sz,Go.undef];simp only[e3];by_cases u:b.parent=0
   .have d0:(b.parent==0)=true:=by simpa using u
    simp only[go_sem,Qa,x,K,Ql (Q9 O.FG),Qt C,C,TE,e0,d0];exact⟨_,rfl,W _ _ _ _ _ M Mf jx Mg (.inl u)⟩
   .have d0:(b.parent==0)=false:=by simpa using u
    simp only[go_sem,Qa,x,K,Ql (Q9 O.FG),Qt C,C,TE,e0,d0,Mg,j9,Ql rE,HB];refine⟨ω,(up T b.parent).length,⟨[(0,.ptr p 0 0 0),(6,.ref r (g+1) 0 (m.length+1+1)),(7,Qb b.parent)],_⟩,?_,QQ,zN u⟩;have:=congrArg List.length (Vu I N);simp only[Vo]at this;omega
  .rw[DP,z,K6]at k3;apply Qf hb;simp only[go_sem,Qa,x,K,P,wK,Z,C,E,k3,ml,xS,Sz,Go.undef];simp only[e3];by_cases u:b.parent=0
   .have d0:(b.parent==0)=true:=by simpa using u
    simp only[go_sem,Qa,x,K,Ql (Q9 O.FG),Qt C,C,TE,e0,d0];exact⟨_,rfl,W _ _ _ _ _ M Mf jx Mg (.inl u)⟩
   .have d0:(b.parent==0)=false:=by simpa using u
    simp only[go_sem,Qa,x,K,Ql (Q9 O.FG),Qt C,C,TE,e0,d0,Mg,j9,Ql rE,HB];refine⟨ω,(up T b.parent).length,⟨[(0,.ptr p 0 0 0),(6,.ref r (g+1) 0 (m.length+1+1)),(7,Qb b.parent)],_⟩,?_,QQ,zN u⟩;have:=congrArg List.length (Vu I N);simp only[Vo]at this;omega
structure Pb (S:Nat->Prop) (h:List Ob) (p:Nat) (T:List Qm) (A:List Int) (leaf:Int) (n:Nat) (s:St):Prop where
 ex:∃id dn c lo g row H S' b1 b2 b3 c1 c2 c3 ZP Z8 KU kl,up T leaf=dn++up T id/\Qy T id=some c/\(up T id).length<=n/\(∀i∈dn++[id],Jq T (Kf A leaf) i=false) /\
  jv S' H p b1 b2 b3 c1 c2 c3 ZP Z8 KU kl T (Kf A leaf) (vC T A dn)/\(∀l,S' l->more S h l/\l<H.length)/\¬ S' lo/\h.length<=lo/\Step S h H /\
  H[lo]? = some ⟨.arr,g,1,dn.length+1,row⟩/\(∀i,i<dn.length+1->row i=[Qb ((dn++[id]).getD i 0)]) /\
  s=⟨[(0,.ptr p 0 0 0),(6,.ref lo g 0 (dn.length+1)),(7,Qb id)],H⟩
def Pb.of{S}{h}{p}{T}{A}{a}{n}{b}{dn}{c}{e g k}(d){H}(f){t s r q o m}{u v w}{j}
  (x:up T a=dn++up T b) (C:Qy T b=some c) (z:(up T b).length<=n) (E:∀i∈dn++[b],Jq T (Kf A a) i=false) (O:jv f H p t s r q o m u v w j T (Kf A a) (vC T A dn)) (F:∀l,f l->more S h l/\l<H.length) (L:¬ f e) (K:h.length<=e) (y:Step S h H)
  (B:k=dn.length+1) (J:H[e]? = some ⟨.arr,g,1,k,d⟩) (I:∀i,i<dn.length+1->d i=[Qb ((dn++[b]).getD i 0)]):Pb S h p T A a n ⟨[(0,.ptr p 0 0 0),(6,.ref e g 0 k),(7,Qb b)],H⟩:=by
 subst B;exact⟨⟨b,dn,c,e,g,d,H,f,t,s,r,q,o,m,u,v,w,j,x,C,z,E,O,F,L,K,y,J,I,rfl⟩⟩
def Qvf(T)(A)(a)(k):(if k=a then none else Bc T A k)=Bc T (Kf A a) k:=by
 unfold Bc Kf;by_cases h:k=a
 .subst h;simp
 .simp[h,JH]
def Qvg{S}{h}{p}{T}{A}(O:jw S h p T A)(I:KF T)(hA:yK T A)(a)(c:Qm)(P:Qy T a=some c)(KG:c.leaf=true)(zV:1<QJ c.ls)(W:a∈A)(Jc:Jq T (Kf A a) a=false):
  QM prog 214 h [.ptr p 0 0 0,Qb a] (λd h'=>∃d1,d=.tup [d1,Qb 0]/\Kp h.length h' d1 (Xs T (Kf A a) a)/\jw (more S h) h' p T (Kf A a)/\Step S h h'):=by
 have O0:=O;have hR:=O.toR;obtain⟨b1,b2,b3,c1,c2,c3,ZP,Z8,KU,kl,O⟩:=O;have x:=O.o;have z:=O.m1;have m2:=O.m2;have M:=O.m3;have Md:=Qc m2;have t:=O.f1.at_ a;rw[wJ,P]at t;simp only[Qe zV,KG,Mb,Vp]at t;have rD:a≠0:=λe=>by rw[e,LW I]at P;cases P
 have Me:=O6 hR I hA a rD;rw[(LZ W a).2 (.inl (Ye I P))]at Me;have M2:=O.f2.del a;refine Q8 func214 ntmps214 results214 λa3 w pl V=>?_;have Q:=Qc x;have U:=Qc z;simp only[go_sem,Qa,x,Q,z,U,t,Go.undef];apply Ju V SU Me;apply Qf V;simp only[go_sem,Qa,x,Q,m2,Md,Go.undef];have TD:Pb S h p T A a (up T a).length ⟨[(0,.ptr p 0 0 0),(6,.ref h.length 0 0 1),(7,Qb a)],h.set b2 (QS .i64 c2 (J1 Z8 a))++[⟨.arr,0,1,1,λ_=>[Qb a]⟩]⟩:=by
  have R:=((O.step (S':=λl=>S l/\l<h.length) λl f r=>⟨⟨r,f⟩,rfl⟩).Qgz (c2':=c2) (A':=Kf A a) (M2.to λk=>Qvf T A a k)).app [⟨.arr,0,1,1,λ_=>[Qb a]⟩];rw[<- show vC T A []=zR T A from funext λp=>funext λi=>by simp[vC]]at R;refine Pb.of (λ_=>[Qb a]) (λl=>S l/\l<h.length) (dn:=[]) rfl P (QB _) (λi o=>?_) R (λl f=>⟨.inl f.1,by have:=f.2;simp;omega⟩) (λf=>by have:=f.2;omega) (QB _) ⟨λl f r=>?_,σ⟩ rfl ?_ (λi o=>?_)
  .simp only[jM,X1]at o;rw[o];exact Jc
  .rw[QE (by simpa using f),Ql (λ(e:b2=l)=>r (e▸O.s2))]
  .rw[Vj σ];rfl
  .obtain rfl:i=0:=by simp at o;omega
   rfl
 refine Ls (Pb S h p T A a) (up T a).length QQ TD ?_;clear TD O z m2 M x t M2 Me O0 hR;rintro n s ⟨id,m,b,N,g,y,H,S',b1,b2,b3,c1,c2,c3,ZP,Z8,KU,kl,B,q,hn,HA,O,hS,ZQ,yN,Za,j9,ZU,rfl⟩;have x:=O.o;have z:=O.m1;have M:=O.m3;have Q:=Qc x;have U:=Qc z;have q6:=Qc M;have HB:=Qc j9;obtain⟨d0,HC,Ke⟩:=Qf2 I P zV id (by rw[B];exact Nz _ (Ye I q));rw[q]at HC;cases HC;have t:=O.f1.at_ id;rw[wJ,q]at t;simp only[Qe Ke]at t;have k3:=O.f3.at_ b.parent;have a2:Jq T A id=true:=(LZ W id).2 (.inl (by rw[B];exact Nz _ (Ye I q)));have a1:id ∉ m:=λhm=>by
  have nd:=Tf I a;rw[B,J5]at nd;exact nd.2.2 id hm id (Ye I q) rfl
 have Z:vC T A m b.parent id=true:=OU.2 ⟨xN.2 ⟨b,q,rfl,a2⟩,a1⟩;have a0:∀j,j≠b.parent->∀i,vC T A (m++[id]) j i=vC T A m j i:=λj J i=>by
  rw[vX,OU,OU];constructor
  .exact λ⟨f,r⟩=>⟨f,λh3=>r (II _ h3)⟩
  .rintro⟨f,r⟩;refine⟨f,λh3=>?_⟩;rcases Q3.1 h3 with h3|h3
   .exact r h3
   .rw[X1.1 h3]at f;obtain⟨e,h4,h5,_⟩:=xN.1 f;rw[q]at h4;cases h4;exact J h5.symm
 cases F:kl b.parent with
 | none=>rw[O.kn _ id F]at Z;cases Z
 | some l=>
  obtain⟨c,u,ml,fl⟩:=O.ks _ l F;have K:=Qc ml;rw[DP,F,K6]at k3;obtain⟨n0,n1,n2,n3⟩:=O.nk _ l F;have rF:l≠N:=λe=>ZQ (e▸O.sk _ l F);have M':Vc (J1 u id) (yM (vC T A (m++[id]) b.parent)):=(fl.del id).to λj=>by
   unfold yM vC;by_cases J:j=id
   .simp[J]
   .simp[J]
  have E:=gi M';have R:=O.QgA (c':=c) (es':=J1 u id) (Kd':=vC T A (m++[id])) F M' a0;have jx:=Za.TB (hS l (O.sk _ l F)).1 (QS .i64 c (J1 u id));have Mg:(H.set l (QS .i64 c (J1 u id)))[N]? = some ⟨.arr,g,1,m.length+1,y⟩:=(Ql rF).trans j9;have Y:(b.parent=0\/Jq T (Kf A a) b.parent=true) ->
    Kp h.length (H.set l (QS .i64 c (J1 u id))) (.ref N g 0 (m.length+1)) (Xs T (Kf A a) a)/\jw (more S h) (H.set l (QS .i64 c (J1 u id))) p T (Kf A a)/\Step S h (H.set l (QS .i64 c (J1 u id))):=λhe=>by
   obtain⟨e1,e2⟩:=QuF I W B q HA he;rw[<- e1];refine⟨.inr ⟨N,g,0,y,σ,⟨yN,rfl⟩,by simpa using Mg,λi o=>?_⟩,?_,jx⟩
   .rw[JR];exact ZU i (by simpa using o)
   .rw[show vC T A (m++[id])=zR T (Kf A a) from funext λp=>funext λi=>e2 p i]at R;exact⟨_,_,_,_,_,_,_,_,_,_,R.step λl f r=>⟨(hS l r).1,rfl⟩⟩
  by_cases gl:∃i,vC T A (m++[id]) b.parent i=true
  .have qS:=E.2 gl;have d2:decide ((0:Int)<((J1 u id).length:Int))=true:=QT ω;have he:b.parent=0\/Jq T (Kf A a) b.parent=true:=by
    by_cases C:b.parent=0
    .exact .inl C
    .exact .inr ((Qf3 I hA W B q HA C).1 gl)
   apply Qf V;simp only[go_sem,Qa,x,Q,z,U,M,q6,t,k3,ml,K,d2,Go.undef,Ql n0,Ql n3,Qt K];exact⟨_,rfl,Y he⟩
  .have hz:¬ 0<(J1 u id).length:=λh=>gl (E.1 h);have d2:decide ((0:Int)<((J1 u id).length:Int))=false:=QH ω;by_cases C:b.parent=0
   .have d0:(b.parent==0)=true:=by simpa using C
    apply Qf V;simp only[go_sem,Qa,x,Q,z,U,M,q6,t,k3,ml,K,d2,d0,Go.undef,Ql n0,Ql n3,Qt K];exact⟨_,rfl,Y (.inl C)⟩
   .have d0:(b.parent==0)=false:=by simpa using C
    have Ch:m.length<=16:=by
     have e:=congrArg List.length B;have:=A7 (L:=T) (n:=16) (id:=a);rw[Zo]at e;unfold up at e;omega
    obtain⟨d,hd,a4⟩:=I.J9 b (yJ I q) C;have YP:Jq T (Kf A a) b.parent=false:=by
     rw[jj];exact λhq=>gl ((Qf3 I hA W B q HA C).2 hq)
    have e1:(m++[id]).length+1=m.length+1+1:=σ;apply Qf V;simp only[go_sem,Qa,x,Q,z,U,M,q6,t,k3,ml,K,d2,d0,Go.undef,Ql n0,Ql n3,Qt K,Mg,j9,HB];refine⟨ω,(up T b.parent).length,⟨[(0,.ptr p 0 0 0),(6,.ref N (g+1) 0 (m.length+1+1)),(7,Qb b.parent)],_⟩,?_,QQ,?_⟩
    .have:=congrArg List.length (Vu I q);simp only[Vo]at this;omega
    .refine Pb.of (JC (m.length+1) 0 y λ_=>[Qb b.parent]) S' (dn:=m++[id]) ?_ hd (QB _) (λi o=>?_) (R.step (λj f r=>⟨r,?_⟩)) (λj J=>⟨(hS j J).1,?_⟩) ZQ yN ((jx.TB (.inr yN) _).rC _) e1.symm ?_ ?_
     .rw[B,Vu I q];simp
     .rcases Q3.1 o with o|o
      .exact HA i o
      .rw[X1.1 o];exact YP
     .rw[QE (by simpa using f),Ql (λ(e:N=j)=>ZQ (e▸r))]
     .have:=(hS j J).2;simp;omega
     .rw[QE (by simpa using HB),Qt (by simpa using HB)];rfl
     .intro i o;have:=LR (dn:=m++[id]) (off:=0) (row:=y) (v:=b.parent) (λi o=>by rw[JR];exact ZU i (by simpa using o)) i (by simpa using o);rw[JR]at this;simpa using this
def Qvk{T:List Qm}(e:Wv T){k}(a:k<T.length)(j):Qy (T.take (k+1)) j=if j=(T.getD k default).iD then some (T.getD k default) else Qy (T.take k) j:=by
 rw[getD_take T default k a];unfold Qy;rw[List.find?_append];have g:T.getD k default∈T:=Yx T default k a;by_cases h:j=(T.getD k default).iD
 .rw[Qe h];have:List.find? (λc=>c.iD==j) (T.take k)=none:=by
   rw[jL];intro x hx b;have d:=e;rw[<- De k T]at d;have f:=(bj.1 d).2.2 x hx (T.getD k default) (by
    rw[RI a,QY,QG a];exact Kx ..)
   simp at b;omega
  rw[this];simp[h]
 .rw[Qd h];have:((T.getD k default).iD==j)=false:=by simpa using Q9 h
  simp only[vZ,this,List.find?_nil,Option.or_none]
def QgG{h:List Ob}{t}{T}(R:XE h t T)(I:KF T):QM prog 64 h [.ptr t 0 0 0] (λd H=>d=.ptr (h.length+3) 0 0 0/\jw (λl=>h.length<=l) H (h.length+3) T []/\∃g,H=h++g):=by
 have O:=I.len;have L:∀g,XE (h++g) t T:=λg=>R.more Hz;refine Q8 func64 ntmps64 results64 λP w Y a=>?_;simp only[go_sem,Qa,Qa];apply Ju a oX (rA (L _) ω);apply QP a;refine ZW (λk Q=>∃c o g,Vc o (wJ (T.take k))/\Q=⟨[(0,.ptr t 0 0 0),(3,.ptr (h.length+3) 0 0 0),(15,ints (T.map (·.iD))),(16,Qb T.length),(17,Qb k)],h++(QS .i64 c o::QS .i64 0 []::QS .i64 0 []::fY h.length (h.length+1) (h.length+2)::g)⟩) T.length (s0:=⟨[(0,.ptr t 0 0 0),(3,.ptr (h.length+3) 0 0 0),(15,ints (T.map (·.iD))),(16,Qb T.length),(17,Qb 0)],h++(QS .i64 0 []::QS .i64 0 []::QS .i64 0 []::fY h.length (h.length+1) (h.length+2)::[])⟩) (Qr.frame (by simp only[go_sem,KK])) ⟨0,[],[],Vc.nil.to λk=>by simp[wJ,Qy],rfl⟩ ?_;rintro k _ Z ⟨c,o,g,M,rfl⟩;by_cases b:k<T.length
 .have B:=QT b;have E:(T.map (·.iD)).getD k 0=(T.getD k default).iD:=getD_map _ _ _ _ _ b;have K:T.getD k default∈T:=Yx T default k b;have F:Qy T (T.getD k default).iD=some (T.getD k default):=(VH I.rising).2 ⟨K,rfl⟩;have p:=Qvk I.rising b;obtain⟨x,hx⟩:∃x,x=T.getD k default:=⟨_,rfl⟩;rw[<- hx]at E K F p;have z:=λg=>O5 (L g) x.iD;rw[F]at z;simp only[Ky,wh,Vp]at z;have u:∀j,wJ (T.take (k+1)) j=if j=x.iD then (if 1<QJ x.ls then some (.agg [Qb x.parent,Qb (Mb x.leaf)]) else none) else wJ (T.take k) j:=λj=>by
   unfold wJ;rw[p];by_cases n:j=x.iD
   .simp[n]
   .simp[n]
  have S:wJ (T.take k) x.iD=none:=by
   unfold wJ;have:Qy (T.take k) x.iD=none:=by
    rw[Hp];intro y U e;have C:=I.rising;rw[<- De k T]at C;have h2:=(bj.1 C).2.2 y U x (by
     rw[RI b,hx,QY,QG b];exact Kx ..)
    omega
   rw[this]
  apply Qf a;simp only[go_sem,Qa,B,b,E,KK];apply Ju a wz (z _);apply QP a;apply Yy a wB (wD x);apply QP a;by_cases r:1<QJ x.ls
  .have s:=QT r;simp only[Qe r]at u;obtain⟨J,q,f,W⟩:=M.set .i64 c x.iD (.agg [Qb x.parent,Qb (Mb x.leaf)]);simp only[go_sem]at f;have N:=W.to λj=>(u j).symm;have v:=JT (show k<4611686018427387904 from ω);cases m:x.leaf with
   | true=>
    rw[m]at f;simp only[Mb,Vp]at f;simp only[go_sem,Qa,s,m];apply Qx a i7;simp only[go_sem,Qa,m];simp only[f];exact⟨b,_,Qr.frame (by simp only[go_sem,v]),J,q,_,N,rfl⟩
   | false=>
    rw[m]at f;simp only[Mb]at f;simp only[go_sem,Qa,s,m];apply Qx a i7;simp only[go_sem,Qa,m];simp only[XZ,YF]at f;simp only[f];exact⟨b,_,Qr.frame (by simp only[go_sem,v]),J,q,_,N,rfl⟩
  .have s:=QH r;simp only[Qd r]at u;have v:=JT (show k<4611686018427387904 from ω);simp only[go_sem,Qa,s];refine⟨b,_,Qr.frame (by simp only[go_sem,v]),c,o,_,M.to λj=>?_,rfl⟩;rw[u];by_cases n:j=x.iD
   .rw[Qe n,n,S]
   .rw[Qd n]
 .have V:k=T.length:=ω;have B:=QH b;rw[V,Wc]at M;apply Qf a;simp only[go_sem,Qa,B];apply QP a;refine⟨⟨h.length,h.length+1,h.length+2,c,0,0,o,[],[],λ_=>none,VP rfl,Vj rfl,M,VP rfl,Vc.nil.to (λj=>by simp[Bc]),VP rfl,Vc.nil.to (λj=>rfl),(λ_ _ e=>nomatch e),(λk i _=>by simp[zR,Jq]),(λ_ _ _ e=>nomatch e),ω,ω,ω,ω,ω,ω,(λ_ _ e=>nomatch e),by show h.length<=_;omega,QB _,by show h.length<=_;omega,by show h.length<=_;omega,(λ_ _ e=>nomatch e)⟩,_,rfl⟩
@[go_sem] def FJ(a m:Nat):Ob:=⟨.one,0,2,1,λ_=>[.ptr a 0 0 0,.mref m 0]⟩
def DQ(x:It):Int × D:=(x.ki,.agg x.cells)
structure Mh (S:Nat->Prop) (h:List Ob) (p a m:Nat) (t:Tr) (c:Nat) (es:List ZF) (L:List It):Prop where
 o:h[p]? = some (FJ a m)
 av:Ba h a t L
 mo:h[m]? = some (QS .i64 c es)
 mp:YA es (L.map DQ)
 vi:∀x∈L,x.vi=x.ki
 pa:p≠a
 pm:p≠m
 am:a≠m
 pt:p ∉ t.QN
 mt:m ∉ t.QN
 sp:S p
 sa:S a
 sm:S m
 st:∀l∈t.QN,S l
def WX(S:Nat->Prop)(h:List Ob)(p:Nat)(L:List It):Prop:=∃a m t c b,Mh S h p a m t c b L
def rG{L:List It}(a:Int):look (L.map DQ) a=(L.find? λx=>x.ki==a).map λx=>.agg x.cells:=by
 unfold look;rw[List.find?_map,RS];rfl
def Vy(a:Int)(L:List It):List It:=L.filter λx=>x.ki != a
def YB(a:Int)(c b:Nat)(L:List It):List It:=Yz ⟨c,a,b,a⟩ (Vy a L)
def Mh.ids{S}{h}{p a m}{t}{c}{b}{L:List It}(T:Mh S h p a m t c b L):(L.map It.ki).Nodup:=by
 have:=T.mp.nd;rwa [GB]at this
def rH{L:List It}(b:(L.map It.ki).Nodup){x:It}(i:x∈L):XD x.ka x.ki L=Vy x.ki L:=by
 unfold XD Vy;apply aX;intro y g;by_cases h:y.ki=x.ki
 .have d:y=x:=by
   have:∀{l:List It},(l.map It.ki).Nodup->∀{u v:It},u∈l->v∈l->u.ki=v.ki->u=v:=by
    intro l;induction l with
    | nil=>intro _ u v c;cases c
    | cons a l f=>
     intro b u v c j e;simp only[JQ,ZY,Jl,EL,not_and]at b;rcases QF.1 c with h1|h1<;>rcases QF.1 j with h2|h2
     .rw[h1,h2]
     .exact absurd (by rw[<- e,h1]) (b.1 v h2)
     .exact absurd (by rw[e,h2]) (b.1 u h1)
     .exact f b.2 h1 h2 e
   exact this b g i h
  subst d;simp[Cn]
 .have k:(y.ki==x.ki)=false:=by simpa using h
  simp[Cn,k,bne]
def rI{L:List It}{a}(h:(L.find? λx=>x.ki==a)=none):Vy a L=L:=by
 unfold Vy;rw[An];intro x hx;have:=jL.1 h x hx;simpa using this
def rJ(L)(a)(b):YT a b (Vy b L)=none:=by
 unfold YT Vy;rw[jL];intro x hx c;simp only[JH,bne_iff_ne,ne_eq]at hx;exact hx.2 (xO.1 c).2
def QgI(y):∀L:List It,(Yz y L).Perm (y::L)
 | []=>Ny _
 | z::L=>by
  simp only[Yz];split
  .exact(List.Perm.cons _ (QgI y L)).trans (List.Perm.swap _ _ _)
  .exact Ny _
def rK(a)(L:List It):Cq (L.map DQ) a=(Vy a L).map DQ:=by
 unfold Cq Vy;rw[RJ];rfl
def Ba.set{h:List Ob}{a}{t:Tr}{L}(A:Ba h a t L){m}(o)(c:m≠a)(b:m ∉ t.QN):Ba (h.set m o) a t L:=⟨(Ql c).trans A.o,A.is.set o b,A.list,A.nd,A.out,A.sorted⟩
def Qvm{a:Int}{c b}{L:List It}:(FF (L.map DQ) a (.agg (It.mk c a b a).cells)).Perm ((YB a c b L).map DQ):=by
 unfold FF YB;rw[rK];exact((QgI ⟨c,a,b,a⟩ (Vy a L)).map DQ).symm
def rL(a)(L:List It):(Vy a L).length<=L.length:=Yr _ _
def Mh.fin{S}{h H e k}{p a m c n}{t f g}{K b}{L j}(T:Mh S h p a m t c K L)(s:Step S h H)
  (E:H[p]? = some (FJ a m)) (F:m<H.length) (i:e=H.set m (QS .i64 n b)) (v:m ∉ f.QN) (u:p ∉ f.QN) (r:∀l∈f.QN,more S h l) (y:YA b (j.map DQ)) (q:∀x∈j,x.vi=x.ki)
  (A:Tt e a f j k g):WX (more S h) k p j/\Step S h k:=by
 have P:e.length=H.length:=by rw[i,K0]
 have O:=s.len;have J:e[p]? = some (FJ a m):=by rw[i,Ql (Q9 T.pm)];exact E
 have M:e[m]? = some (QS .i64 n b):=by rw[i,Qt F]
 have N:∀l,e.length<=l->h.length<=l:=λl d=>ω;have Q:=Qc T.o;have R:=Qc T.mo;refine⟨⟨a,m,g,n,b,?_,A.is,?_,y,q,T.pa,T.pm,T.am,?_,?_,.inl T.sp,.inl T.sa,.inl T.sm,?_⟩,⟨λl d h2=>?_,by have:=A.len;omega⟩⟩
 .rw[A.keep p ω T.pa u];exact J
 .rw[A.keep m ω (Q9 T.am) v];exact M
 .intro d;rcases A.mem p d with h2|h2
  .exact u h2
  .omega
 .intro d;rcases A.mem m d with h2|h2
  .exact v h2
  .omega
 .intro l d;rcases A.mem l d with h2|h2
  .exact r l h2
  .exact .inr (N l h2)
 .have C:l≠a:=by rintro rfl;exact h2 T.sa
  have B:l≠m:=by rintro rfl;exact h2 T.sm
  have z:l ∉ f.QN:=λI=>by
   rcases r l I with w|w
   .exact h2 w
   .omega
  rw[A.keep l ω C z,i,Ql (Q9 B)];exact s.keep l d h2
def Mh.done{S}{h H i h8}{p a m c y}{t f t''}{w e}{L}{d}{g b}(T:Mh S h p a m t c w L)(n:Step S h H)
  (s:H[p]? = some (FJ a m)) (u:m<H.length) (v:i=H.set m (QS .i64 y e)) (r:m ∉ f.QN) (q:p ∉ f.QN) (k:∀l∈f.QN,more S h l) (j:YA e (FF (L.map DQ) d (.agg (It.mk g d b d).cells)))
  (A:Tt i a f (YB d g b L) h8 t''):WX (more S h) h8 p (YB d g b L)/\Step S h h8:=
 T.fin n s u v r q k (j.to Qvm) (λx hx=>by
  rcases Hy.1 hx with rfl|hx
  .rfl
  .exact T.vi x (JH.1 hx).1) A
def Qvo{S}{h}{p}{L:List It}(T:WX S h p L)(b)(i f)(hs:L.length<400000):
  QM prog 205 h [.ptr p 0 0 0,Qb b,u64 i,u64 f] (λd h'=>WX (more S h) h' p (YB b i f L)/\Step S h h'):=by
 obtain⟨a,m,t,c,es,T⟩:=T;have j:=T.o;have q:=T.mo;have ha:=T.av.o;have s:=T.mp.look b;rw[rG]at s;cases u:L.find? λx=>x.ki==b with
 | none=>
  rw[u,zE]at s;have q7:=rI u;obtain⟨Q,r,P,U⟩:=T.mp.set .i64 c b (.agg (It.mk i b f b).cells);have O:J7 .i64 c es b (.agg [.raw (.int .u64 i),.raw (.int .i64 b),.raw (.int .u64 f),.raw (.int .i64 b)])=QS .i64 Q r:=P;refine Q8 func205 ntmps205 results205 λC w pl g=>?_;have k:=Qc j;have o:=Qc q;simp only[go_sem,Qa,j,k,q,o,s];apply Qx g i7;simp only[go_sem,Qa,j,k,q,o];simp only[O];apply VE [8] g [0,1,2,3,4,5,6,7,1008,9] [];simp only[go_sem,Qa,j,k,q,o,Ql (Q9 T.pm)];refine wC g o8 (Tu (tl:=a) (t:=t) (L:=Vy b L) (by rw[q7];exact(T.av.set _ (Q9 T.am) T.mt).app _) ⟨i,b,f,b⟩ (rJ L i b) (by have:=rL b L;omega)) λd h8 v=>?_;obtain⟨rfl,Y,W⟩:=v;apply YQ g;exact T.done (H:=h++_) (Step.app S h _) (QE k |>.trans j) ξ (DF o).symm T.mt T.pt (λl M=>.inl (T.st l M)) U W
 | some x=>
  rw[u,K6]at s;obtain⟨Q,r,P,U⟩:=T.mp.set .i64 c b (.agg (It.mk i b f b).cells);have O:J7 .i64 c es b (.agg [.raw (.int .u64 i),.raw (.int .i64 b),.raw (.int .u64 f),.raw (.int .i64 b)])=QS .i64 Q r:=P;refine Q8 func205 ntmps205 results205 λC w pl g=>?_;have k:=Qc j;have o:=Qc q;simp only[go_sem,Qa,j,k,q,o,s];apply VE [6] g [0,1,2,3,4,5,1006] [];simp only[go_sem,Qa,j,k];have WE:x∈L:=wc u;have R:x.ki=b:=by have:=yj u;simpa using this
  have Mi:XD x.ka b L=Vy b L:=by rw[<- R];exact rH T.ids WE
  have QA:YT x.ka b L≠none:=λe=>by
   unfold YT at e;have:=jL.1 e x WE;exact this (xO.2 ⟨rfl,R⟩)
  have rM:∀l∈t.QN,l<h.length:=T.av.is.lt;have J2:=Qc ha;refine yE g pf rfl ?_ (rq (tl:=a) (t:=t) (L:=L) (T.av.app _) x.ka b QA ω) rfl λd y v=>?_
  .simp only[go_sem,R]
  obtain⟨rfl,F,n⟩:=v;rw[Mi]at n;have a0:h.length+2<=y.length:=by have:=n.len;simpa using this
  have K:∀l,l<h.length->l≠a->l ∉ t.QN->y[l]? = h[l]? := λl h1 h2 N=>(n.keep l ξ h2 N).trans (QE h1);have E:y[p]? = _:=(K p k T.pa T.pt).trans j;have J:y[m]? = _:=(K m o (Q9 T.am) T.mt).trans q;have V:=(n.keep h.length σ ω (λh1=>by have:=rM _ h1;omega)).trans (Vj rfl);have B:=Qc E;have I:=Qc J;have Pc:=Qc V;have z:m ∉ F.QN:=λh1=>by
   rcases n.mem m h1 with h2|h2
   .exact T.mt h2
   .simp only[Zo]at h2;omega
  have Z:p ∉ F.QN:=λh1=>by
   rcases n.mem p h1 with h2|h2
   .exact T.pt h2
   .simp only[Zo]at h2;omega
  have FK:m≠h.length:=ω;apply YQ g;apply Qx g i7;simp only[go_sem,Qa,E,B,J,I,V,Pc];simp only[O];apply VE [8] g [0,1,2,3,4,5,6,7,1008,9] [];simp only[go_sem,Qa,E,B,J,I,V,Pc,Ql (Q9 T.pm),Ql FK];refine wC g o8 (Tu (tl:=a) (t:=F) (L:=Vy b L) (n.is.set _ (Q9 T.am) z) ⟨i,b,f,b⟩ (rJ L i b) (by have:=rL b L;omega)) λd h8 v=>?_;obtain⟨rfl,Y,W⟩:=v;apply YQ g;refine T.done (H:=y) ⟨λl h1 h2=>K l h1 (by rintro rfl;exact h2 T.sa) (λN=>h2 (T.st l N)),ω⟩ E I rfl z Z (λl M=>?_) U W;rcases n.mem l M with h1|h1
  .exact .inl (T.st l h1)
  .simp only[Zo]at h1;exact .inr ω
def VI{h F:List Ob}(a:F=h.map Ob.ro)(l:Nat)(o:Ob)(e:(h.map Ob.ro)[l]? = some o):(F.map Ob.ro)[l]? = some o:=by
 have:=Hw (g:=[]) a l o e;rwa [JZ]at this
structure Qvq (h:List Ob) (p a m:Nat) (t:Tr) (c:Nat) (es:List ZF) (L:List It):Prop where
 o:(h.map Ob.ro)[p]? = some (FJ a m).ro
 ao:(h.map Ob.ro)[a]? = some (xR t).ro
 is:ju h t
 list:t.list=L
 sorted:Vw L
 mo:(h.map Ob.ro)[m]? = some (QS .i64 c es).ro
 mp:YA es (L.map DQ)
def FL(h:List Ob)(p:Nat)(L:List It):Prop:=∃a m t c b,Qvq h p a m t c b L
def WX.toR{S}{h}{p}{L}:WX S h p L->FL h p L:=λ⟨a,m,t,c,b,T⟩=>
 ⟨a,m,t,c,b,Z3 T.o,Z3 T.av.o,T.av.is.toR,T.av.list,T.av.sorted,Z3 T.mo,T.mp⟩
def FL.more{h h':List Ob}{p}{L}(e:∀(l:Nat) (o:Ob),(h.map Ob.ro)[l]? = some o->(h'.map Ob.ro)[l]? = some o):FL h p L->FL h' p L:=λ⟨a,m,t,c,b,T⟩=>
 ⟨a,m,t,c,b,e _ _ T.o,e _ _ T.ao,T.is.more e,T.list,T.sorted,e _ _ T.mo,T.mp⟩
def WX.frame{S}{h b:List Ob}{p}{L}(e:∀l,S l->l<h.length->b[l]? = h[l]?):WX S h p L->WX S b p L:=λ⟨a,m,t,c,i,T⟩=>
 have k:∀l o,S l->h[l]? = some o->b[l]? = some o:=λl o g f=>(e l g (Qc f)).trans f
 ⟨a,m,t,c,i,k _ _ T.sp T.o,⟨k _ _ T.sa T.av.o,T.av.is.frame λl d=>e l (T.st l d) (T.av.is.lt l d),T.av.list,T.av.nd,T.av.out,T.av.sorted⟩,k _ _ T.sm T.mo,T.mp,T.vi,T.pa,T.pm,T.am,T.pt,T.mt,T.sp,T.sa,T.sm,T.st⟩
def WX.mono{S b}{h}{p}{L}(e:∀l,S l->b l):WX S h p L->WX b h p L:=λ⟨a,m,t,c,f,T⟩=>
 ⟨a,m,t,c,f,T.o,T.av,T.mo,T.mp,T.vi,T.pa,T.pm,T.am,T.pt,T.mt,e _ T.sp,e _ T.sa,e _ T.sm,λl d=>e l (T.st l d)⟩
section
variable {h:List Ob}{p:Nat}{L:List It}(T:FL h p L)
include T
theorem Qvr(b):Zi prog 208 h [.ptr p 0 0 0,u64 b] (λd=>d=.tup [Qb ((L.find? λx=>decide (x.va<=min b 9223372036854775807)).getD default).ki,QX (L.find? λx=>decide (x.va<=min b 9223372036854775807)).isSome]):=by
 obtain⟨a,m,t,c,y,T⟩:=T;obtain⟨e,f,n,o,u,v,mp⟩:=T;have q:min (b:Int) 9223372036854775807=((min b 9223372036854775807:Nat):Int):=ω;have l:=f;refine ZJ func208 ntmps208 results208 λk w s F g z i=>?_;rw[<- g]at e f;have j:=Qc e;have r:=Qc f;simp only[go_sem,Qa,e,j,f,r,q];apply Ju i Qtt (Qu1 (VI g _ _ l) (n.more (VI g)) (min b 9223372036854775807));apply Qf i;simp only[go_sem,Qa,e,j];subst o;exact⟨_,rfl,rfl⟩
theorem Qvs:Zi prog 147 h [.ptr p 0 0 0] (λd=>d=.tup [u64 (L.head?.getD default).ka,QX L.head?.isSome]):=by
 obtain⟨a,m,t,c,u,T⟩:=T;obtain⟨b,e,l,n,r,s,mp⟩:=T;have k:=e;refine ZJ func147 ntmps147 results147 λj w q F f v g=>?_;rw[<- f]at b e;have i:=Qc b;have o:=Qc e;simp only[go_sem,Qa,b,i,e,o];apply Ju g Qfg (Qgo (VI f _ _ k) (l.more (VI f)));apply Qf g;simp only[go_sem,Qa,b,i];subst n;exact⟨_,rfl,rfl⟩
theorem rP:Zi prog 216 h [.ptr p 0 0 0] (λd=>d=Qb L.length):=by
 obtain⟨a,m,t,c,j,T⟩:=T;obtain⟨b,f,r,u,s,e,mp⟩:=T;have k:j.length=L.length:=by rw[mp.len,KK]
 refine ZJ func216 ntmps216 results216 λg w q F i x v=>?_;rw[<- i]at b f e;have l:=Qc b;have o:=Qc f;have n:=Qc e;simp only[go_sem,Qa,b,l,f,o,e,n,k];exact⟨[],σ⟩
def xT(L:List It):Nat:=L.foldl (λo x=>min o x.va) never
omit T in
theorem gq:∀(L:List It) (o:Nat),L.foldl (λo x=>min o x.va) o<=o/\(∀x∈L,L.foldl (λo x=>min o x.va) o<=x.va)/\(L.foldl (λo x=>min o x.va) o=o\/∃x∈L,L.foldl (λo x=>min o x.va) o=x.va)
 | [],o=>⟨QB _,σ,.inl rfl⟩
 | y::L,o=>by
  obtain⟨d,c,a⟩:=gq L (min o y.va);simp only[v8];refine⟨ω,λx hx=>?_,?_⟩
  .rcases QF.1 hx with rfl|hx
   .omega
   .exact c x hx
  .rcases a with a|⟨x,hx,a⟩
   .rw[a];by_cases b:o<=y.va
    .exact .inl (NH b)
    .exact .inr ⟨y,σ,NI ω⟩
   .exact .inr ⟨x,by simp[hx],a⟩
omit T in
theorem Qvt{x:It}{L}(h:Wf x L):xT L=min x.va never:=by
 obtain⟨e,c,a⟩:=gq L never;unfold xT;have d:=c x h.mem;rcases a with a|⟨y,b,a⟩
 .omega
 .have:=h.va b;omega
theorem QgL(z:∀x∈L,x.ka<=18446744073709551615):Zi prog 163 h [.ptr p 0 0 0] (λd=>d=u64 (xT L)):=by
 have r:=T;obtain⟨a,m,t,c,E,T⟩:=T;obtain⟨b,g,v,q,y,C,mp⟩:=T;have s:=g;by_cases n:L=[]
 .have d0:((L.length:Int)==0)=true:=by simp[n]
  refine ZJ func163 ntmps163 results163 λl w u F i B f=>?_;rw[<- i]at b g;have e:=Qc b;have o:=Qc g;simp only[go_sem,Qa,b,e,g,o];refine Xr f pc ?_ (rP (r.more (VI i))) ?_
  .simp only[go_sem,Qa,b,e,d0]
  apply Qf f;simp only[go_sem,Qa,b,e,d0];subst n;exact⟨[],by simp[xT,never]⟩
 .have d0:((L.length:Int)==0)=false:=by simp[n]
  refine ZJ func163 ntmps163 results163 λl w u F i B f=>?_;rw[<- i]at b g;have e:=Qc b;have o:=Qc g;simp only[go_sem,Qa,b,e,g,o];refine Xr f pc ?_ (rP (r.more (VI i))) ?_
  .simp only[go_sem,Qa,b,e,d0]
  apply Qf f;simp only[go_sem,Qa,b,e,d0];apply Qf f;simp only[go_sem,Qa,b,e];apply Ju f Qfk (Qgq (VI i _ _ s) (v.more (VI i)) 18446744073709551615);apply Qf f;simp only[go_sem,Qa,b,e];have j:=Tr.Tn 18446744073709551615 t none [] (by rw[q];exact y) rfl;rw[q,jM,An.2 (λx hx=>by simpa using z x hx)]at j;refine⟨_,rfl,?_⟩;cases k:t.zU 18446744073709551615 none with
  | none=>rw[k]at j;exact absurd j n
  | some x=>
   rw[k]at j;rw[Qvt j];simp only[Ky,never];congr 2;omega
end
def gu(a:Int)(L:List It):Bool:=(L.find? λx=>x.ki==a).isSome
def Qvu{S}{h}{p}{L:List It}(T:WX S h p L)(b)(Q:L.length<400000):
  QM prog 215 h [.ptr p 0 0 0,Qb b] (λd u=>d=Qb (if gu b L then 0 else 6)/\WX (more S h) u p (Vy b L)/\Step S h u):=by
 have K:=T;obtain⟨a,m,t,c,V,T⟩:=T;have f:=T.o;have k:=T.mo;have F:=T.av.o;have g:=T.mp.look b;rw[rG]at g;unfold gu;cases i:L.find? λx=>x.ki==b with
 | none=>
  rw[i,zE]at g;refine Q8 func215 ntmps215 results215 λo w C q=>?_;have n:=Qc f;have j:=Qc k;simp only[go_sem,Qa,f,n,k,j,g];rw[rI i];exact⟨rfl,(K.frame λl U J=>QE J).mono λl r=>.inl r,Step.app S h _⟩
 | some x=>
  rw[i,K6]at g;have v:x∈L:=wc i;have s:x.ki=b:=by have:=yj i;simpa using this
  have N:XD x.ka b L=Vy b L:=by rw[<- s];exact rH T.ids v
  have M:YT x.ka b L≠none:=λe=>by
   unfold YT at e;have:=jL.1 e x v;exact this (xO.2 ⟨rfl,s⟩)
  have P:∀l∈t.QN,l<h.length:=T.av.is.lt;have W:=Qc F;have z:=T.mp.del b;rw[rK]at z;refine Q8 func215 ntmps215 results215 λo w C q=>?_;have n:=Qc f;have j:=Qc k;simp only[go_sem,Qa,f,n,k,j,g];apply VE [6] q [0,1,2,3,4,5,1006,7] [];simp only[go_sem,Qa,f,n,k,j,Ql (Q9 T.pm)];refine yE q pf rfl ?_ (rq (tl:=a) (t:=t) (L:=L) ((T.av.set _ (Q9 T.am) T.mt).app _) x.ka b M ω) rfl λd R I=>?_
  .simp only[go_sem,s]
  obtain⟨rfl,O,B⟩:=I;rw[N]at B;apply YQ q;exact⟨rfl,T.fin (H:=h++_) (Step.app S h _) ((QE n).trans f) ξ (DF j).symm T.mt T.pt (λl r=>.inl (T.st l r)) z (λy E=>T.vi y (JH.1 E).1) B⟩
def QgN(h:List Ob):QM prog 92 h [] (λd b=>d=.ptr h.length 0 0 0/\b=h++[xR .nil]):=by
 refine Q8 func92 ntmps92 results92 λa w c e=>?_;simp only[go_sem,Qa]
def QgO{S}{h}{p}{L:List It}(T:WX S h p L)(b)(Q:L.length<400000):
  QM prog 200 h [.ptr p 0 0 0,Qb b] (λd u=>d=Qb (if gu b L then 0 else 6)/\WX (more S h) u p (Vy b L)/\Step S h u):=by
 have K:=T;obtain⟨a,m,t,c,V,T⟩:=T;have f:=T.o;have k:=T.mo;have F:=T.av.o;have g:=T.mp.look b;rw[rG]at g;unfold gu;cases i:L.find? λx=>x.ki==b with
 | none=>
  rw[i,zE]at g;refine Q8 func200 ntmps200 results200 λo w C q=>?_;have n:=Qc f;have j:=Qc k;simp only[go_sem,Qa,f,n,k,j,g];rw[rI i];exact⟨rfl,(K.frame λl U J=>QE J).mono λl r=>.inl r,Step.app S h _⟩
 | some x=>
  rw[i,K6]at g;have v:x∈L:=wc i;have s:x.ki=b:=by have:=yj i;simpa using this
  have N:XD x.ka b L=Vy b L:=by rw[<- s];exact rH T.ids v
  have M:YT x.ka b L≠none:=λe=>by
   unfold YT at e;have:=jL.1 e x v;exact this (xO.2 ⟨rfl,s⟩)
  have P:∀l∈t.QN,l<h.length:=T.av.is.lt;have W:=Qc F;have z:=T.mp.del b;rw[rK]at z;refine Q8 func200 ntmps200 results200 λo w C q=>?_;have n:=Qc f;have j:=Qc k;simp only[go_sem,Qa,f,n,k,j,g];apply VE [6] q [0,1,2,3,4,5,1006,7] [];simp only[go_sem,Qa,f,n,k,j,Ql (Q9 T.pm)];refine yE q pf rfl ?_ (rq (tl:=a) (t:=t) (L:=L) ((T.av.set _ (Q9 T.am) T.mt).app _) x.ka b M ω) rfl λd R I=>?_
  .simp only[go_sem,s]
  obtain⟨rfl,O,B⟩:=I;rw[N]at B;apply YQ q;exact⟨rfl,T.fin (H:=h++_) (Step.app S h _) ((QE n).trans f) ξ (DF j).symm T.mt T.pt (λl r=>.inl (T.st l r)) z (λy E=>T.vi y (JH.1 E).1) B⟩
section
variable {h:List Ob}{p:Nat}{L:List It}(T:FL h p L)
include T
theorem QgP:Zi prog 219 h [.ptr p 0 0 0] (λd=>d=Qb L.length):=by
 obtain⟨a,m,t,c,j,T⟩:=T;obtain⟨b,f,r,u,s,e,mp⟩:=T;have k:j.length=L.length:=by rw[mp.len,KK]
 refine ZJ func219 ntmps219 results219 λg w q F i x v=>?_;rw[<- i]at b f e;have l:=Qc b;have o:=Qc f;have n:=Qc e;simp only[go_sem,Qa,b,l,f,o,e,n,k];exact⟨[],σ⟩
theorem Qvv(b):Zi prog 207 h [.ptr p 0 0 0,u64 b] (λd=>∃o,yL o (L.filter λx=>decide (x.ka<=min b 9223372036854775807))/\d=.tup [Qb (o.getD default).ki,QX o.isSome]):=by
 obtain⟨a,m,t,c,C,T⟩:=T;obtain⟨e,f,r,i,s,B,mp⟩:=T;have v:min (b:Int) 9223372036854775807=((min b 9223372036854775807:Nat):Int):=ω;have q:=f;have k:=Tr.Tn (min b 9223372036854775807) t none [] (by rw[i];exact s) rfl;rw[i,jM]at k;refine Zi.mono (R:=λd=>d=.tup [Qb ((t.zU (min b 9223372036854775807) none).getD default).ki,QX (t.zU (min b 9223372036854775807) none).isSome]) ?_ (λd u=>⟨_,k,u⟩);refine ZJ func207 ntmps207 results207 λn w z F g E j=>?_;rw[<- g]at e f;have l:=Qc e;have y:=Qc f;simp only[go_sem,Qa,e,l,f,y,v];apply Ju j Qfk (Qgq (VI g _ _ q) (r.more (VI g)) (min b 9223372036854775807));apply Qf j;simp only[go_sem,Qa,e,l];exact⟨_,rfl⟩
theorem Qvw:Zi prog 162 h [.ptr p 0 0 0] (λd=>d=u64 (match L.head? with|some x=>min x.ka never|none=>never)):=by
 have n:=T;obtain⟨a,m,t,c,z,T⟩:=T;obtain⟨b,g,r,s,v,y,mp⟩:=T;have o:=g;cases k:L with
 | nil=>
  have d0:((L.length:Int)==0)=true:=by simp[k]
  refine ZJ func162 ntmps162 results162 λj w q F i u f=>?_;rw[<- i]at b g;have e:=Qc b;have l:=Qc g;simp only[go_sem,Qa,b,e,g,l];refine Xr f Qfj ?_ (QgP (n.more (VI i))) ?_
  .simp only[go_sem,Qa,b,e,d0]
  apply Qf f;simp only[go_sem,Qa,b,e,d0];exact⟨[],by simp[never]⟩
 | cons x M=>
  have d0:((L.length:Int)==0)=false:=by simp[k];omega
  refine ZJ func162 ntmps162 results162 λj w q F i u f=>?_;rw[<- i]at b g;have e:=Qc b;have l:=Qc g;simp only[go_sem,Qa,b,e,g,l];refine Xr f Qfj ?_ (QgP (n.more (VI i))) ?_
  .simp only[go_sem,Qa,b,e,d0]
  apply Qf f;simp only[go_sem,Qa,b,e,d0];apply Qf f;simp only[go_sem,Qa,b,e];apply Ju f Qfg (Qgo (VI i _ _ o) (r.more (VI i)));apply Qf f;simp only[go_sem,Qa,b,e];refine⟨_,rfl,?_⟩;rw[s,k];congr 2;show min (x.ka:Int) 9223372036854775808=((min x.ka never:Nat):Int);simp only[never];omega
end
def QgQ{S}{h}{p}{L:List It}(T:WX S h p L)(b)(f e)(I:L.length<400000):
  QM prog 146 h [.ptr p 0 0 0,Qb b,u64 f,u64 e] (λd B=>WX (more S h) B p (YB b f e L)/\Step S h B):=by
 have P:=T;obtain⟨a,m,t,c,C,T⟩:=T;have g:=T.o;refine Q8 func146 ntmps146 results146 λE w U i=>?_;have j:=Qc g;simp only[go_sem,Qa,g,j];refine JG i Qff (QgO P b I) λd z q=>?_;obtain⟨rfl,O,v⟩:=q;obtain⟨a,m,t,c,C,T⟩:=O;have g:=T.o;have n:=T.mo;have V:=T.av.o;have j:=Qc g;have k:=Qc n;have F:Vy b (Vy b L)=Vy b L:=by unfold Vy;rw[List.filter_filter];simp
 obtain⟨N,u,M,Q⟩:=T.mp.set .i64 c b (.agg (It.mk f b e b).cells);have K:J7 .i64 c C b (.agg [.raw (.int .u64 f),.raw (.int .i64 b),.raw (.int .u64 e),.raw (.int .i64 b)])=QS .i64 N u:=M;apply Qf i;simp only[go_sem,Qa,g,j,n,k];apply Qx i i7;simp only[go_sem,Qa,g,j,n,k];simp only[K];apply VE [8] i [0,1,2,3,4,5,6,7,1008,9] [];simp only[go_sem,Qa,g,j,n,k,Ql (Q9 T.pm)];refine wC i o8 (Tu (tl:=a) (t:=t) (L:=Vy b L) ((T.av.set _ (Q9 T.am) T.mt).app _) ⟨f,b,e,b⟩ (rJ L f b) (by have:=rL b L;omega)) λd J q=>?_;obtain⟨rfl,s,R⟩:=q;apply YQ i;have x:YB b f e (Vy b L)=YB b f e L:=by unfold YB;rw[F]
 have r:=T.done (H:=z++_) (h8:=J) (t'':=s) (Step.app _ z _) ((QE j).trans g) ξ (DF k).symm T.mt T.pt (λl o=>.inl (T.st l o)) Q (by rw[x];exact R);rw[x]at r;have W:=v.len;exact⟨r.1.mono λl o=>o.elim (λy=>y) λy=>.inr ω,v.trans r.2⟩
end Go.Fg.X
namespace Go.Fg
open Go.RowKit (Below)
section
variable {P:Program}{L:Je}{base nt:Nat}{s:St}{o:Oper}
def Qvx{t e:TypeId}{y:Ty}{k:IntKind}(g:P.underlying t=some (.slice e))(a:Xc P e y)(E:y.zero.length=y.size)(M:0<y.size)(w:World)(n:Nat)
  (C:n<=4294967296) (u:y.bytes<=1024) :
  (Instr.makeSlice t (.int k n) (.int k n)).run P w=.ok (.slice (some ⟨w.heap.size,0,none⟩) n n) (w.alloc (.cells (flat n y.size λ_ j=>Q7 y.zero j).toArray e)):=by
 obtain⟨z,f,d⟩:=a.zeroValue;obtain⟨i,h,O,x⟩:=a.typeInfo w;have p:∀w,(typeInfo e).run P w=.ok i w:=λw=>by
  have l:=a.info;cases hx:P.info? e with
  | none=>rw[hx]at l;cases l
  | some k=>
   simp[typeInfo,hx]at h ⊢;exact h
 have F:IntKind.i64.wrap (n:Int)=n:=by rw[IntKind.wrap_i64];omega
 have B:¬ (281474976710656<(i.bytes:Int)*(n:Int)):=by
  have r:y.bytes*n<=1024*4294967296:=Ys u C;rw[<- EF,x];omega
 have J:¬ ((n:Int)<0):=ω;have q:z.cells.size=y.size:=by rw[<- E,<- f];simp
 have v:(flat n y.size λ_ j=>Q7 y.zero j).toArray=(Array.range (n*y.size)).map (z.cells[· % z.cells.size]!):=by
  apply Array.ext
  .simp[zH]
  .intro j m N;simp only[GC,zH]at m;obtain⟨d1,d2,d3⟩:=div_lt m;have I:y.zero=z.cells.toList:=f.symm;have c:j % y.size<z.cells.size:=by rw[q];exact d2
   simp[flat,Q7,I,QY,q,c];rw[getElem!_pos z.cells _ c,jK c];rfl
 rw[v];by_cases b:n=0
 .subst b;have H:IntKind.i64.wrap 0=0:=rfl;simp[Instr.makeSlice,run_underlying g,a.sizeOf,p,d,asInt,asIntOf,newRow,Sem.run,H];congr 2;apply Array.ext<;>simp
 .have K:¬ (n*y.size=0):=Nat.mul_ne_zero b ω;simp[Instr.makeSlice,run_underlying g,a.sizeOf,p,d,asInt,asIntOf,F,b,J,K,B,newRow,Sem.run]
def Qvy(p:Z9 P L){t e:TypeId}{x0 x:Operand}{n:Nat}{a b:Nat}{z:List Value}{y:Ty}{k:IntKind}(K:o.op=.makeSlice t x x)(F:Qq s.fr x=.raw (.int k n))
  (I:ty L t=some ⟨.slice e,a,b,z⟩) (S:ty L e=some y) (d:y.zero.length=y.size) (J:0<y.size) (C:n<=4294967296) (B:y.bytes<=1024) :
  jQ P base nt o s (s.h++[⟨.arr,0,y.size,n,λ_=>y.zero.map J8⟩]) (.ref s.h.length 0 0 n):=by
 intro Z c U w r u;have g:=r.eval x;rw[F]at g;have H:=Jt g;have E:=p _ _ S;have Q:c.length=s.h.length:=r.o.len;have O:=Qvx (k:=k) (ym (p _ _ I) rfl) E d J w n C B;have f:∀b,b<w.heap.size->(w.alloc (.cells (flat n y.size λ_ j=>Q7 y.zero j).toArray e)).heap[b]? = w.heap[b]? := λb N=>xq w _ b N;have v:(w.alloc (.cells (flat n y.size λ_ j=>Q7 y.zero j).toArray e)).heap[w.heap.size]? = some (.cells (flat n y.size λ_ j=>Q7 y.zero j).toArray e (0,0)):=heap_alloc_new w _;have T:Tr s.h c w (s.h++[⟨.arr,0,y.size,n,λ_=>y.zero.map J8⟩]) (c++[some (w.heap.size,0)]) (w.alloc (.cells (flat n y.size λ_ j=>Q7 y.zero j).toArray e)):=Tr.push r.o f _ _ (by intro b q h;simp at h;omega);refine⟨.slice (some ⟨w.heap.size,0,none⟩) n n,_,_,.inl ?_,T,Zl.push r.o f _ rfl (QB _) u v (by simp[zH]) (λi m=>by simp[d]) (λi j m l=>⟨Q7 y.zero j,?_,?_⟩),.ref _ _ _ _ ⟨.arr,0,y.size,n,λ_=>y.zero.map J8⟩ (some (w.heap.size,0)) _ _ σ (by rw[<- Q];simp) rfl (QB _) (λ_=>.inr ⟨w.heap.size,0,_,_,rfl,σ,v,?_,QB _⟩),ER u _,λ_=>f⟩
 .simp only[execOp,K,H,O,Sem.run_bind,Result.andThen_ok,Sem.run_pure]
 .have M:=GM (vs:=λ_ j=>Q7 y.zero j) m l;rw[JR];simpa using M
 .have R:j<y.zero.length:=by rw[d];exact l
  have:nth (y.zero.map J8) j=J8 (Q7 y.zero j):=by simp[nth,Q7,QY,R]
  show QC Z _ _ _ (nth (y.zero.map J8) j) _;rw[this];exact .cl _ _ (Di _ _ _)
 .simp[zH]
end
section
variable {P:Program}{L:Je}{base nt:Nat}{w0:Start}{Q:Exit->St->Prop}
def Qvz(v:Z9 P L)(u:base<=w0.w.heap.size){k:List Item}{c:Option Nat}{B:TypeId}{pos:String}{d:Array Edge}{w:Option (Nat × Bool)}{r:List (Oper × G)}{s:St}{t e:TypeId}{x:Operand}{n:Nat}{a b:Nat}{g:List Value}{y:Ty}{i:IntKind}
  (m:Qq s.fr x=.raw (.int i n)) (o:ty L t=some ⟨.slice e,a,b,g⟩) (z:ty L e=some y) (l:y.zero.length=y.size) (p:0<y.size) (j:n<=4294967296) (h:y.bytes<=1024) (q:Zn nt c=true)
  (f:Qw P base nt w0 Q (.ops r::k) .normal ⟨Zg s.fr c (.ref s.h.length 0 0 n),s.h++[⟨.arr,0,y.size,n,λ_=>y.zero.map J8⟩]⟩) :
  Qw P base nt w0 Q (.ops ((⟨c,.makeSlice t x x,B,pos,d,w⟩,none)::r)::k) .normal s:=by
 simp only[Qw]at f ⊢;exact cZ u (Qvy (x0:=x) v rfl m o z l p j h) q f
end
end Go.Fg
namespace Go.Fg.X
open Go.Proofs Go.Fg
open Go.Proofs.Tryz
@[go_sem] def TH(a b first n:Nat):Ob:=⟨.one,0,3,1,λ_=>[.ref a 0 0 b,Qb first,Qb n]⟩
structure QvA (S:Nat->Prop) (h:List Ob) (r a room first:Nat) (row:Nat->List D) (L:List Pk):Prop where
 o:h[r]? = some (TH a room first L.length)
 ao:h[a]? = some ⟨.arr,0,6,room,row⟩
 ra:r≠a
 fl:first<room
 len:L.length<=room
 yO:room<=64
 rows:∀i,i<L.length->row ((first+i) % room)=(L.getD i default).cells
 lens:∀i,i<room->(row i).length=6
 sr:S r
 sa:S a
def vF(S:Nat->Prop)(h:List Ob)(r b:Nat)(L:List Pk):Prop:=∃a first c,QvA S h r a b first c L
structure Mj (h:List Ob) (r a room first:Nat) (row:Nat->List D) (L:List Pk):Prop where
 o:(h.map Ob.ro)[r]? = some (TH a room first L.length).ro
 ao:(h.map Ob.ro)[a]? = some (⟨.arr,0,6,room,row⟩:Ob).ro
 fl:first<room
 len:L.length<=room
 yO:room<=64
 rows:∀i,i<L.length->row ((first+i) % room)=(L.getD i default).cells
def TI(h:List Ob)(r b:Nat)(L:List Pk):Prop:=∃a first c,Mj h r a b first c L
def vF.toR{S}{h}{r b}{L}:vF S h r b L->TI h r b L:=λ⟨a,f,c,T⟩=>⟨a,f,c,Z3 T.o,Z3 T.ao,T.fl,T.len,T.yO,T.rows⟩
def Mj.more{h h':List Ob}{r a b first}{c}{L}(e:∀(l:Nat) (o:Ob),(h.map Ob.ro)[l]? = some o->(h'.map Ob.ro)[l]? = some o)(T:Mj h r a b first c L):Mj h' r a b first c L:=⟨e _ _ T.o,e _ _ T.ao,T.fl,T.len,T.yO,T.rows⟩
def TI.more{h h':List Ob}{r b}{L}(e:∀(l:Nat) (o:Ob),(h.map Ob.ro)[l]? = some o->(h'.map Ob.ro)[l]? = some o):TI h r b L->TI h' r b L:=λ⟨a,f,c,T⟩=>⟨a,f,c,e _ _ T.o,e _ _ T.ao,T.fl,T.len,T.yO,T.rows⟩
def vF.frame{S}{h d:List Ob}{r b}{L}(e:∀l,S l->l<h.length->d[l]? = h[l]?):vF S h r b L->vF S d r b L:=λ⟨a,f,c,T⟩=>
 ⟨a,f,c,(e _ T.sr (Qc T.o)).trans T.o,(e _ T.sa (Qc T.ao)).trans T.ao,T.ra,T.fl,T.len,T.yO,T.rows,T.lens,T.sr,T.sa⟩
def QgR{h:List Ob}{r a b first n:Nat}{f:Nat->List D}(c:(h.map Ob.ro)[r]? = some (TH a b first n).ro)(e:(h.map Ob.ro)[a]? = some (⟨.arr,0,6,b,f⟩:Ob).ro)(p:first<b)(q:b<=64)(i:Nat)(t:i<=64):
  Zi prog 193 h [.ptr r 0 0 0,Qb i] (λd=>d=Qb ((first+i) % b:Nat)):=by
 have o:IntKind.i64.wrap ((first:Int)+i)=((first+i:Nat):Int):=ZB;refine ZJ func193 ntmps193 results193 λk w s F m u l=>?_;rw[<- m]at c e;have g:=Qc c;have j:=Qc e;simp only[go_sem,Qa,c,g,e,j];apply Qx l [0,1,2,3,4,5,6,7,8,9,10,11,12];simp only[go_sem,Qa,c,g,e,j,o];refine⟨ω,[],σ,?_⟩;congr 2
section
variable {h:List Ob}{r a room first:Nat}{row:Nat->List D}{L:List Pk}(T:Mj h r a room first row L)
include T
theorem QgS(i:Nat)(b:i<=64):Zi prog 193 h [.ptr r 0 0 0,Qb i] (λd=>d=Qb ((first+i) % room:Nat)):=QgR T.o T.ao T.fl T.yO i b
theorem QgT:Zi prog 192 h [.ptr r 0 0 0] (λd=>d=Qb (room - L.length:Nat)):=by
 obtain⟨b,c,l,q,m,p⟩:=T;have k:IntKind.i64.wrap ((room:Int) - L.length)=((room - L.length:Nat):Int):=ZB;refine ZJ func192 ntmps192 results192 λg w n F j o i=>?_;rw[<- j]at b c;have e:=Qc b;have f:=Qc c;simp only[go_sem,Qa,b,e,c,f];apply Qx i i6;simp only[go_sem,Qa,b,e,c,f,k];exact⟨[],σ⟩
theorem QvB:Zi prog 142 h [.ptr r 0 0 0] (λd=>d=Qb L.length):=by
 obtain⟨b,c,j,p,k,o⟩:=T;refine ZJ func142 ntmps142 results142 λe w l F f n m=>?_;rw[<- f]at b c;have g:=Qc b;have i:=Qc c;simp only[go_sem,Qa,b,g,c,i];exact⟨[],σ⟩
theorem QgU(i)(m:i<L.length):Zi prog 251 h [.ptr r 0 0 0,Qb i] (λd=>d=.tup [.agg (L.getD i default).cells,Qb 0]):=by
 have n:=T;obtain⟨b,c,p,u,q,o⟩:=T;have d1:decide ((i:Int)<0)=false:=QH ω;have d2:decide (L.length<=i)=false:=QH ω;refine ZJ func251 ntmps251 results251 λl w s F k t g=>?_;rw[<- k]at b c;have e:=Qc b;have f:=Qc c;simp only[go_sem,Qa,b,e,c,f,d1,d2];apply Qx g [0,1,2,3,4,5,1006,7,8,1009,10];simp only[go_sem,Qa,b,e,c,f];apply XB g o5 (QgS (n.more (Hw k)) i ω);apply Zk g;simp only[go_sem,Qa,b,e,c,f];have j:(first+i) % room<room:=Xx _ ω;have ZU:=o i m;refine⟨j,j,?_⟩;simp only[go_sem,Qa,b,e,c,f,ZU];exact⟨_,rfl⟩
end
def rQ{f i n:Nat}(b:f<n)(a:i<=n):(f+i) % n=if f+i<n then f+i else f+i - n:=by
 split
 .exact Aq ‹_›
 .rw[Nat.mod_eq_sub_mod ω,Aq ω]
def QvC{S}{h}{r b}{L}(T:vF S h r b L)(x):
  QM prog 144 h [.ptr r 0 0 0,.agg x.cells] (λd z=>d=Qb (if L.length=b then 5 else 0)/\vF S z r b (if L.length=b then L else L++[x])/\Step S h z):=by
 have P:=T;obtain⟨a,first,o,T⟩:=T;have c:=T.o;have f:=T.ao;have Tr:=λg=>(show Mj (h++g) r a b first o L from ⟨Z3 ((QE (Qc T.o)).trans T.o),Z3 ((QE (Qc T.ao)).trans T.ao),T.fl,T.len,T.yO,T.rows⟩);by_cases s:L.length=b
 .have d0:(((b - L.length:Nat):Int)==0)=true:=ξ;refine Q8 func144 ntmps144 results144 λq w I n=>?_;have j:=Qc c;have m:=Qc f;simp only[go_sem,Qa,c,j,f,m];refine Xr n Qfc ?_ (QgT (Tr _)) ?_
  .simp only[go_sem,Qa,c,j,f,m,d0]
  apply Qf n;simp only[go_sem,Qa,c,j,f,m,d0];rw[Qe s,Qe s];exact⟨rfl,P.frame λl p N=>QE N,Step.app S h _⟩
 .have F:=T.len;have d0:(((b - L.length:Nat):Int)==0)=false:=ξ;refine Q8 func144 ntmps144 results144 λq w I n=>?_;have j:=Qc c;have m:=Qc f;simp only[go_sem,Qa,c,j,f,m];refine Xr n Qfc ?_ (QgT (Tr _)) ?_
  .simp only[go_sem,Qa,c,j,f,m,d0]
  apply Qf n;simp only[go_sem,Qa,c,j,f,m,d0];apply Qx n [0,1,2,3,4,5,6,7,8,10,1009,11,1012];simp only[go_sem,Qa,c,j,f,m];apply XB n o5 (QgS (Tr _) L.length (by have:=T.yO;omega));apply Zk n;simp only[go_sem,Qa,c,j,f,m];have t:(first+L.length) % b<b:=Xx _ (by have:=T.fl;omega);have Zu:(o ((first+L.length) % b)).drop 6=[]:=aW (by rw[T.lens _ t];exact QB _);refine⟨t,t,?_⟩;simp only[go_sem,Qa,c,j,f,m,Zu,Ql (Q9 T.ra)];rw[Qd s,Qd s];have C:=Qc c;have B:=Qc f;have v:=T.fl;have H:=T.yO;have O:IntKind.i64.wrap ((L.length:Int)+1)=((L.length+1:Nat):Int):=ZB;refine⟨rfl,⟨a,first,λk=>bif k==(first+L.length) % b then x.cells else o k,?_,?_,T.ra,T.fl,ξ,H,?_,?_,T.sr,T.sa⟩,?_,?_⟩
  .rw[QE (by simp;exact C),Xb (by simp;exact C),O];simp[TH,Qb]
  .rw[QE (by simp;exact B),JP T.ra,Xb B];rfl
  .intro i u;simp only[Zo,Kc]at u;by_cases p:i=L.length
   .subst p;simp
   .have E:i<L.length:=ω;have Q:((first+i) % b==(first+L.length) % b)=false:=by
     rw[rQ v ω,rQ v ω];simp only[jN];split<;>split<;>omega
    rw[Q];simp only[jl,T.rows i E,List.getD,JO E]
  .intro i u;show (bif _ then _ else _:List D).length=6;by_cases p:(i==(first+L.length) % b)=true
   .rw[p];rfl
   .rw[jj.2 p];exact T.lens i u
  .intro l M y;have K:a≠l:=λe=>y (e▸T.sa);have J:r≠l:=λe=>y (e▸T.sr);rw[QE (by simp;exact M),JP J,JP K]
  .simp
def QvD{S}{h}{r b}{x}{L}(T:vF S h r b (x::L)):
  QM prog 209 h [.ptr r 0 0 0] (λd C=>d=.tup [.agg x.cells,Qb 0]/\vF S C r b L/\Step S h C):=by
 have U:=T;obtain⟨a,first,j,T⟩:=T;have c:=T.o;have f:=T.ao;have Tr:=λg=>(show Mj (h++g) r a b first j (x::L) from ⟨Z3 ((QE (Qc T.o)).trans T.o),Z3 ((QE (Qc T.ao)).trans T.ao),T.fl,T.len,T.yO,T.rows⟩);have v:=T.yO;have o:=T.fl;have P:=T.len;simp only[Vo]at P;refine Q8 func209 ntmps209 results209 λI w R p=>?_;have m:=Qc c;have n:=Qc f;simp only[go_sem,Qa,c,m,f,n];refine Xr p Qfs ?_ (QgU (Tr _) 0 σ) ?_
 .simp only[go_sem,Qa,Qa,c,m,f,n]
 apply Qf p;simp only[go_sem,Qa,Qa,c,m,f,n];apply Qx p o07;simp only[go_sem,Qa,c,m,f,n];refine⟨o,o,?_⟩;have s:=Qc c;have q:=Qc f;have Zu:(j first).drop 6=[]:=aW (by rw[T.lens _ o];exact QB _);have H:∀A B,((h.set a A).set r B)[r]? = some B:=λA B=>Xb (by simp;exact s);have E:IntKind.i64.wrap (((L.length+1:Nat):Int) - 1)=(L.length:Int):=ZB;have Q:=λA g=>(show ((h.set a A++g).map Ob.ro)[r]? = some (TH a b first (L.length+1)).ro from Z3 ((QE (by simp;exact s)).trans ((JP (Q9 T.ra)).trans c)));have u:=λF g=>(show ((h.set a ⟨.arr,0,6,b,F⟩++g).map Ob.ro)[a]? = some (⟨.arr,0,6,b,F⟩:Ob).ro from Z3 ((QE (by simp;exact q)).trans (Xb q)));refine Xr p o5 ?_ (QgR (Q _ _) (u _ _) o v 1 ω) ?_
 .simp only[go_sem,Qa,Qa,c,m,f,n,Ql (Q9 T.ra),Zu,H,E]
 apply Qf p;simp only[go_sem,Qa,Qa,c,m,f,n,Ql (Q9 T.ra),Zu,H,E];refine⟨⟨a,(first+1) % b,λk=>bif k==first then (default:Pk).cells else j k,?_,?_,T.ra,Xx _ ω,ω,v,?_,?_,T.sr,T.sa⟩,?_,?_⟩
 .rw[QE (by simp;exact s),Xb (by simp;exact s)];rfl
 .rw[QE (by simp;exact q),JP T.ra,Xb q];rfl
 .intro i z;have N:((first+1) % b+i) % b=(first+(i+1)) % b:=by rw[Nat.mod_add_mod];congr 1;omega
  have t:i+1<b:=ω;have O:((first+(i+1)) % b==first)=false:=by
   rw[rQ o ω];simp only[jN];split<;>omega
  rw[N];simp only[O,jl,T.rows (i+1) ξ];simp
 .intro i z;show (bif _ then _ else _:List D).length=6;by_cases t:(i==first)=true
  .rw[t];rfl
  .rw[jj.2 t];exact T.lens i z
 .intro l M y;have K:a≠l:=λe=>y (e▸T.sa);have J:r≠l:=λe=>y (e▸T.sr);rw[QE (by simp;exact M),JP J,JP K]
 .simp
def QvF(h:List Ob)(n:Nat)(i:1<=n)(e:n<=64):QM prog 143 h [Qb n] (λd b=>d=.tup [.ptr (h.length+1) 0 0 0,Qb 0]/\vF (λl=>h.length<=l) b (h.length+1) n []/\∃g,b=h++g/\g.length=2):=by
 have d1:decide ((n:Int)<1)=false:=QH ω;have d2:decide ((64:Int)<n)=false:=QH ω;refine Q8 func143 ntmps143 results143 λc w f a=>?_;simp only[go_sem,Qa,d1,d2];refine Qvz Ca a rfl rfl rfl rfl π ω π rfl ?_;apply QV a;simp only[Zo,Kc,W9,qc,jM];refine⟨trivial,⟨h.length,0,λ_=>(default:Pk).cells,VP rfl,Vj rfl,ω,ω,σ,e,σ,λ_ _=>rfl,by show h.length<=_;omega,QB _⟩,_,rfl,rfl⟩
@[go_sem] def num(n:Nat):D:=.agg [u64 (n / 18446744073709551616),u64 (n % 18446744073709551616)]
def QgV(a b g f d c)(i:a=g*4294967296+f)(h:b=d*4294967296+c)(m:g<4294967296)(l:f<4294967296)(k:d<4294967296)(j:c<4294967296):
  ∃P Q R S:Nat,P=g*d/\Q=g*c/\R=f*d/\S=f*c/\a*b=P*18446744073709551616+(Q+R)*4294967296+S/\P<=18446744065119617025/\Q<=18446744065119617025/\R<=18446744065119617025/\S<=18446744065119617025:=by
 refine⟨_,_,_,_,rfl,rfl,rfl,rfl,?_,?_,?_,?_,?_⟩
 .subst i h;have e:(g*4294967296+f)*(d*4294967296+c)=g*d*(4294967296*4294967296)+(g*c+f*d)*4294967296+f*c:=by
   simp only[VM,Nat.mul_add,IP,Nat.mul_left_comm,IN];omega
  rw[e]
 all_goals (refine Kv (Ys (Nat.le_sub_one_of_lt ‹_›) (Nat.le_sub_one_of_lt ‹_›)) π)
def Ct(a b)(p:a<18446744073709551616)(g:b<18446744073709551616):QI prog 203 [u64 a,u64 b] (QO (num (a*b))):=by
 refine QZ 0 func203 ntmps203 results203 λe w g=>?_;simp only[go_sem,-Nat.reducePow];have o:(2:Nat) ^ min 32 64=4294967296:=rfl;have d:(2:Int) ^ min 32 64=((4294967296:Nat):Int):=rfl;obtain⟨P,Q,R,S,k,j,i,h,n,t,s,r,q⟩:=QgV a b (a / 4294967296) (a % 4294967296) (b / 4294967296) (b % 4294967296) ω ω ω ω ω ω;have c:∀x:Nat,((x:Int)).fdiv ((4294967296:Nat):Int)=((x / 4294967296:Nat):Int):=λx=>by have:=L6 x 32;rwa [show (2:Int) ^ 32=((4294967296:Nat):Int) from rfl,show (2:Nat) ^ 32=4294967296 from rfl]at this
 simp (disch:=omega) only [c,QuG,d,L0,Ci,<- k,<- j,<- i,<- h,n];have f:∀X:Nat,X*4294967296 % 18446744073709551616=X % 4294967296*4294967296:=λX=>ω;rw[f,QuH _ _ ω ω];have m:((P % 18446744073709551616+((Q % 18446744073709551616+S % 18446744073709551616 / 4294967296) % 18446744073709551616) / 4294967296) % 18446744073709551616+((R % 18446744073709551616+((Q % 18446744073709551616+S % 18446744073709551616 / 4294967296) % 18446744073709551616) % 4294967296) % 18446744073709551616) / 4294967296) % 18446744073709551616=(P*18446744073709551616+(Q+R)*4294967296+S) / 18446744073709551616:=ω;have l:((R % 18446744073709551616+((Q % 18446744073709551616+S % 18446744073709551616 / 4294967296) % 18446744073709551616) % 4294967296) % 18446744073709551616) % 4294967296*4294967296+S % 18446744073709551616 % 4294967296=(P*18446744073709551616+(Q+R)*4294967296+S) % 18446744073709551616:=ω;rw[m,l]
def rR(a b)(k:a<2 ^ 128)(i:b<2 ^ 128):QI prog 227 [num a,num b] (QO (Qb (if a<b then -1 else if a=b then 0 else 1))):=by
 refine QZ 0 func227 ntmps227 results227 λg w i=>?_;simp only[go_sem,-Nat.reducePow];refine Wu (λf=>?_) (λf=>?_)
 .simp only[go_sem,-Nat.reducePow,f];have:=qQ f;rw[Qe ω]
 simp only[go_sem,-Nat.reducePow,f];have l:=Dg f;refine Wu (λe=>?_) (λe=>?_)
 .have h:a / 18446744073709551616=b / 18446744073709551616:=by have:=eq_of_beq e;omega
  simp only[go_sem,-Nat.reducePow,e];refine Wu (λd=>?_) (λd=>?_)
  .have:=qQ d;simp only[go_sem,-Nat.reducePow,d];rw[Qe ω]
  .have j:=Dg d;simp only[go_sem,-Nat.reducePow,d];refine Wu (λc=>?_) (λc=>?_)
   .simp only[go_sem,-Nat.reducePow,c];simp only[ZL,zF]at c;rw[Qd ω,Qe ω]
   .simp only[go_sem,-Nat.reducePow,c];simp only[Gv,jN]at c;rw[Qd ω,Qd ω]
 .have h:=ne_of_beq_false e;simp only[go_sem,-Nat.reducePow,e,Gw];rw[Qd ω,Qd ω]
def QvH(a b c u:Nat)(e:a<18446744073709551616)(d:b<18446744073709551616)(g:c<2)(f:u=(a+18446744073709551616 - b+18446744073709551616 - c) % 18446744073709551616):
  (bits BinOp.or IntKind.u64 (bits BinOp.and IntKind.u64 (bits BinOp.xor IntKind.u64 (if IntKind.u64.signed=true then -1 else IntKind.u64.max) (a:Int)) (b:Int)) (bits BinOp.and IntKind.u64 (bits BinOp.xor IntKind.u64 (if IntKind.u64.signed=true then -1 else IntKind.u64.max) (bits BinOp.xor IntKind.u64 (a:Int) (b:Int))) (u:Int))).fdiv (2 ^ min 63 64)=((if a<b+c then 1 else 0:Nat):Int):=by
 have em:(if IntKind.u64.signed=true then -1 else IntKind.u64.max)=((18446744073709551615:Nat):Int):=π;have hx:a ^^^ b<2 ^ 64:=RQ ω ω;have i:18446744073709551615 ^^^ a<2 ^ 64:=RQ ω ω;have j:18446744073709551615 ^^^ (a ^^^ b)<2 ^ 64:=RQ ω ω;have k:(18446744073709551615 ^^^ a) &&& b<2 ^ 64:=bw _ ω;have h:(18446744073709551615 ^^^ (a ^^^ b)) &&& u<2 ^ 64:=bw _ ω;rw[em,u64_xor_nat a b e d,u64_xor_nat _ a π e,u64_xor_nat _ _ π ω,u64_and_nat _ b ω d,u64_and_nat _ u ω ω,u64_or_nat _ _ ω ω,L6];rw[show (2:Nat) ^ min 63 64=9223372036854775808 from rfl,pY _ _ ω ω,fS _ _ ω ω,fS _ _ ω ω,pZ _ _ ω ω,pZ _ _ ω ω,pZ _ _ ω ω];rw[QuI a b c _ _ _ u _ e d g f rfl rfl rfl rfl]
def QgW(a b)(c)(g:a<18446744073709551616)(f:b<18446744073709551616)(e:c<2):QI prog 279 [u64 a,u64 b,u64 c] (QO (.tup [u64 ((a+18446744073709551616 - b+18446744073709551616 - c) % 18446744073709551616),u64 (if a<b+c then 1 else 0)])):=by
 refine QZ 0 func279 ntmps279 results279 λd w f=>?_;simp only[go_sem,-Nat.reducePow];have h:IntKind.u64.wrap (IntKind.u64.wrap ((a:Int) - (b:Int)) - (c:Int))=(((a+18446744073709551616 - b+18446744073709551616 - c) % 18446744073709551616:Nat):Int):=by
  rw[pX a b ω,pX _ c ω];omega
 rw[h,QvH a b c _ g ‹_› e rfl]
def QvJ(a b)(k:a<2 ^ 128)(c:b<2 ^ 128):QI prog 267 [num a,num b] (QO (.tup [num ((a+2 ^ 128 - b) % 2 ^ 128),QX (decide (a<b))])):=by
 refine QZ 0 func267 ntmps267 results267 λg w c=>?_;simp only[go_sem,-Nat.reducePow];refine ZO c Qfz ?_ (QgW (a % 18446744073709551616) (b % 18446744073709551616) 0 ω ω ω) ?_
 .simp only[go_sem,-Nat.reducePow]
 apply Qf c;simp only[go_sem,-Nat.reducePow];refine ZO c Qfz ?_ (QgW (a / 18446744073709551616) (b / 18446744073709551616) (if a % 18446744073709551616<b % 18446744073709551616+0 then 1 else 0) ω ω (by split<;>omega)) ?_
 .simp only[go_sem,-Nat.reducePow]
 apply Qf c;simp only[go_sem,-Nat.reducePow];have l:∀x:Nat,(((if x=1 then (1:Nat) else 0:Nat):Int) != 0)=decide (x=1):=λx=>by by_cases h:x=1<;>simp[h]
 have j:(((if a / 18446744073709551616<b / 18446744073709551616+if a % 18446744073709551616<b % 18446744073709551616 then 1 else 0 then 1 else 0:Nat):Int) != 0)=decide (a<b):=by
  by_cases f:a % 18446744073709551616<b % 18446744073709551616
  .rw[Qe f];by_cases d:a / 18446744073709551616<b / 18446744073709551616+1
   .rw[Qe d];simp;omega
   .rw[Qd d];simp;omega
  .rw[Qd f];by_cases d:a / 18446744073709551616<b / 18446744073709551616+0
   .rw[Qe d];simp;omega
   .rw[Qd d];simp;omega
 have i:(a / 18446744073709551616+18446744073709551616 - b / 18446744073709551616+18446744073709551616 - if a % 18446744073709551616<b % 18446744073709551616 then 1 else 0) % 18446744073709551616=(a+2 ^ 128 - b) % 2 ^ 128 / 18446744073709551616:=by
  split<;>omega
 have e:(a % 18446744073709551616+18446744073709551616 - b % 18446744073709551616+18446744073709551616 - 0) % 18446744073709551616=(a+2 ^ 128 - b) % 2 ^ 128 % 18446744073709551616:=ω;try rw[EJ]at e
 try rw[EJ]at e
 rw[j,i,e]
def QvK(a b c u:Nat)(e:a<18446744073709551616)(d:b<18446744073709551616)(g:c<2)(f:u=(a+b+c) % 18446744073709551616):
  (bits BinOp.or IntKind.u64 (bits BinOp.and IntKind.u64 (a:Int) (b:Int)) (bits BinOp.andNot IntKind.u64 (bits BinOp.or IntKind.u64 (a:Int) (b:Int)) (u:Int))).fdiv (2 ^ min 63 64)=((if 18446744073709551616<=a+b+c then 1 else 0:Nat):Int):=by
 have hx:a ||| b<2 ^ 64:=Nat.or_lt_two_pow ω ω;have i:a &&& b<2 ^ 64:=bw _ ω;have h:(a ||| b) &&& (18446744073709551615 - u)<2 ^ 64:=bw _ ω;rw[u64_and_nat a b e d,u64_or_nat a b e d,u64_andNot_nat _ u ω ω,u64_or_nat _ _ ω ω,L6];rw[show (2:Nat) ^ min 63 64=9223372036854775808 from rfl,pY _ _ ω ω,fS _ _ ω ω,fS _ _ ω ω,pY _ _ ω ω];rw[show (18446744073709551615 - u) / 9223372036854775808=1 - u / 9223372036854775808 by omega];rw[QuJ a b c _ _ _ u _ e d g f rfl rfl rfl rfl]
def QgX(a b)(c)(g:a<18446744073709551616)(f:b<18446744073709551616)(e:c<2):QI prog 260 [u64 a,u64 b,u64 c] (QO (.tup [u64 ((a+b+c) % 18446744073709551616),u64 (if 18446744073709551616<=a+b+c then 1 else 0)])):=by
 refine QZ 0 func260 ntmps260 results260 λd w f=>?_;simp only[go_sem,-Nat.reducePow];have h:IntKind.u64.wrap (IntKind.u64.wrap ((a:Int)+(b:Int))+(c:Int))=(((a+b+c) % 18446744073709551616:Nat):Int):=by
  rw[Ci,Ci];omega
 rw[h,QvK a b c _ g ‹_› e rfl]
def TJ(a b)(j:a<2 ^ 128)(c:b<2 ^ 128):QI prog 241 [num a,num b] (QO (.tup [num ((a+b) % 2 ^ 128),QX (decide (2 ^ 128<=a+b))])):=by
 refine QZ 0 func241 ntmps241 results241 λg w c=>?_;simp only[go_sem,-Nat.reducePow];refine ZO c Qfw ?_ (QgX (a % 18446744073709551616) (b % 18446744073709551616) 0 ω ω ω) ?_
 .simp only[go_sem,-Nat.reducePow]
 apply Qf c;simp only[go_sem,-Nat.reducePow];refine ZO c Qfw ?_ (QgX (a / 18446744073709551616) (b / 18446744073709551616) (if 18446744073709551616<=a % 18446744073709551616+b % 18446744073709551616+0 then 1 else 0) ω ω (by split<;>omega)) ?_
 .simp only[go_sem,-Nat.reducePow]
 apply Qf c;simp only[go_sem,-Nat.reducePow];have i:(((if 18446744073709551616<=a / 18446744073709551616+b / 18446744073709551616+(if 18446744073709551616<=a % 18446744073709551616+b % 18446744073709551616 then 1 else 0) then 1 else 0:Nat):Int) != 0)=decide (2 ^ 128<=a+b):=by
  by_cases f:18446744073709551616<=a % 18446744073709551616+b % 18446744073709551616
  .rw[Qe f];by_cases d:18446744073709551616<=a / 18446744073709551616+b / 18446744073709551616+1
   .rw[Qe d];simp;omega
   .rw[Qd d];simp;omega
  .rw[Qd f];by_cases d:18446744073709551616<=a / 18446744073709551616+b / 18446744073709551616+0
   .rw[Qe d];simp;omega
   .rw[Qd d];simp;omega
 have h:(a / 18446744073709551616+b / 18446744073709551616+if 18446744073709551616<=a % 18446744073709551616+b % 18446744073709551616 then 1 else 0) % 18446744073709551616=(a+b) % 2 ^ 128 / 18446744073709551616:=by
  split<;>omega
 have e:(a % 18446744073709551616+b % 18446744073709551616) % 18446744073709551616=(a+b) % 2 ^ 128 % 18446744073709551616:=ω;try rw[EJ]at e
 try rw[EJ]at e
 rw[i,h,e]
def QgY(a)(f:a<18446744073709551616):QI prog 233 [u64 a] (QO (num a)):=by
 refine QZ 0 func233 ntmps233 results233 λb w e=>?_;simp only[go_sem,-Nat.reducePow];have d:a / 18446744073709551616=0:=ω;have c:a % 18446744073709551616=a:=ω;rw[d,c];rfl
def rS(x y:Nat)(b:x<9223372036854775808)(a:y<2):bits .or .u64 ((x*2:Nat):Int) (y:Int)=((x*2+y:Nat):Int):=by
 rw[u64_or_nat _ _ ω ω,nat_join 1 _ _ ω ω]
def rT(x:Nat):(x:Int).fdiv (2 ^ min 63 64)=((x / 9223372036854775808:Nat):Int):=by
 have:=L6 x 63;rwa [show (2:Int) ^ 63=2 ^ min 63 64 from rfl,show (2:Nat) ^ 63=9223372036854775808 from rfl]at this
def rU(x:Nat):IntKind.u64.wrap ((x:Int)*2 ^ min 1 64)=((x % 9223372036854775808*2:Nat):Int):=by
 rw[show (2:Int) ^ min 1 64=((2:Nat):Int) from rfl,L0];omega
def rV(r A:Nat)(a:A<2 ^ 128):bits .or .u64 (IntKind.u64.wrap ((r:Int)*2 ^ min 1 64)) ((A / 18446744073709551616 / 9223372036854775808:Nat):Int)=(((2*r+A / 2 ^ 127) % 18446744073709551616:Nat):Int):=by
 rw[rU,rS _ _ ω ω];congr 1;omega
def Pe(A)(a:A<2 ^ 128):bits .or .u64 (IntKind.u64.wrap (((A / 18446744073709551616:Nat):Int)*2 ^ min 1 64)) ((A % 18446744073709551616 / 9223372036854775808:Nat):Int)=(((A*2 % 2 ^ 128) / 18446744073709551616:Nat):Int):=by
 rw[rU,rS _ _ ω ω];congr 1;omega
def rW(A):IntKind.u64.wrap (((A % 18446744073709551616:Nat):Int)*2 ^ min 1 64)=(((A*2 % 2 ^ 128) % 18446744073709551616:Nat):Int):=by
 rw[rU];congr 1;omega
def gw(x):bits .or .u64 (((x*2 % 2 ^ 128) % 18446744073709551616:Nat):Int) 1=((((x*2+1) % 2 ^ 128) % 18446744073709551616:Nat):Int):=by
 have:=rS ((x*2 % 2 ^ 128) % 18446744073709551616 / 2) 1 ω ω;rw[show (x*2 % 2 ^ 128) % 18446744073709551616 / 2*2=(x*2 % 2 ^ 128) % 18446744073709551616 by omega]at this;rw[show ((1:Nat):Int)=1 from rfl]at this;rw[this];congr 1;omega
def rX{n:Nat}(h:n≠0):((n:Int) != 0)=true:=by simp[h]
def gy{n:Nat}(h:n=0):((n:Int) != 0)=false:=by simp[h]
def QvL(a k)(i:k<128):a / 2 ^ (128 - (k+1))=2*(a / 2 ^ (128 - k))+(a*2 ^ k % 2 ^ 128) / 2 ^ 127:=by
 obtain⟨m,h⟩:∃m,m=127 - k:=⟨_,rfl⟩;have g:128 - (k+1)=m:=ω;have f:128 - k=m+1:=ω;have e:(2:Nat) ^ 128=2 ^ (m+1)*2 ^ k:=by rw[<- Nat.pow_add];congr 1;omega
 have d:(2:Nat) ^ 127=2 ^ m*2 ^ k:=by rw[<- Nat.pow_add];congr 1;omega
 rw[g,f,e,d,Nat.mul_mod_mul_right,Nat.mul_div_mul_right _ _ (bC k),Nat.pow_succ];have b:=bC m;generalize 2 ^ m=M at *;have j:=bx a (M*2);have c:a=M*(2*(a / (M*2)))+a % (M*2):=by rw[<- IN];omega
 conv=>lhs;rw[c]
 rw[Nat.mul_add_div b]
def QvM(a k):a*2 ^ k % 2 ^ 128*2 % 2 ^ 128=a*2 ^ (k+1) % 2 ^ 128:=by
 have:a*2 ^ (k+1)=a*2 ^ k*2:=by rw[Nat.pow_succ,IN]
 rw[this];omega
def QvN(t b a)(c:0<b)(d:a<2):
  (b<=2*(t % b)+a->(2*t+a) / b=2*(t / b)+1/\(2*t+a) % b=2*(t % b)+a - b)/\(2*(t % b)+a<b->(2*t+a) / b=2*(t / b)/\(2*t+a) % b=2*(t % b)+a):=by
 have f:=bx t b;have e:=Xx t c;constructor
 .intro h;refine(bB c).2 ⟨?_,ω⟩;rw[Nat.mul_add,Nat.mul_left_comm];omega
 .intro h;refine(bB c).2 ⟨?_,ω⟩;rw[Nat.mul_left_comm];omega
def dA(a k:Nat):Nat:=a*2 ^ k % 2 ^ 128
def dT(a k:Nat):Nat:=a / 2 ^ (128 - k)
def QgZ(a k)(h:a<2 ^ 128):dT a k<2 ^ 128:=NG (bA _ _) h
def HF(a k):dA a k<2 ^ 128:=Xx _ π
def Qg0(a b)(l:a<2 ^ 128)(o:b<18446744073709551616):QI prog 280 [num a,u64 b] (QO (.tup [num (if b=0 then 0 else a / b),u64 (if b=0 then 0 else a % b),Qb (if b=0 then 1 else 0)])):=by
 refine QZ 0 func280 ntmps280 results280 λs w o=>?_;simp only[go_sem,-Nat.reducePow];by_cases g:b=0
 .subst g;simp only[go_sem,-Nat.reducePow,Vp];try rfl
 have t:=pC g;simp only[go_sem,-Nat.reducePow,t];have x:dA a 0=a:=by show a*2 ^ 0 % 2 ^ 128=a;rw[Nat.pow_zero,Nat.mul_one];exact Aq l
 have v:dT a 0=0:=Nat.div_eq_of_lt l;refine yB (G:=Nat) [1,2,4,7] (λk=>True) (λk f=>[(8,u64 (dT a k % b)),(13,Qb k)]) (λk f=>[⟨.one,0,2,1,λ_=>[u64 (dA a k / 18446744073709551616),u64 (dA a k % 18446744073709551616)]⟩,⟨.one,0,2,1,λ_=>[u64 0,u64 0]⟩,⟨.one,0,2,1,λ_=>[u64 (dT a k / b / 18446744073709551616),u64 (dT a k / b % 18446744073709551616)]⟩]) (128) (0) rfl (Qr.to 3 (by (simp only[go_sem,-Nat.reducePow,x,v,Nat.zero_div,Nat.zero_mod])<;>simp)) trivial ?_;intro k f j _;replace j:k<=128:=j;apply Qf o;simp only[go_sem,-Nat.reducePow];have p:=JT (show k<4611686018427387904 from ω);first|refine WS j (λd=>?_) (λd=>?_)|refine WT j (λd=>?_) (λd=>?_)
 .replace d:k<128:=d;have Qc:decide ((k:Int)<128)=true:=ξ;have r:0<b:=ω;have t1:dT a (k+1)=2*dT a k+dA a k / 2 ^ 127:=QvL a k d;have t2:dA a k*2 % 2 ^ 128=dA a (k+1):=QvM a k;have t3:=QvN (dT a k) b (dA a k / 2 ^ 127) r (by have:=HF a k;omega);have t4:=Xx (dT a k) r;have t5:=HF a k;have t6:=QgZ a (k+1) l;rw[<- t1]at t3;have t7:dT a (k+1) / b<2 ^ 128:=NG (bA _ _) t6;have t8:dT a k / b<2 ^ 128:=NG (bA _ _) (QgZ a k l);by_cases y:b<=2*(dT a k % b)+dA a k / 2 ^ 127
  .obtain⟨u,q⟩:=t3.1 y;have c:IntKind.u64.wrap ((((2*(dT a k % b)+dA a k / 2 ^ 127) % 18446744073709551616:Nat):Int) - (b:Int))=((dT a (k+1) % b:Nat):Int):=by
    rw[pX _ b ω,q];congr 1;omega
   have z:dT a k / b*2 % 2 ^ 128=dT a k / b*2:=ω;have e:((dT a k / b*2+1) % 2 ^ 128)=dT a (k+1) / b:=ω;have m:dT a k / b*2 % 2 ^ 128 / 18446744073709551616=dT a (k+1) / b / 18446744073709551616:=ω;by_cases i:dT a k % b / 9223372036854775808=0
   .have n:decide (b<=(2*(dT a k % b)+dA a k / 2 ^ 127) % 18446744073709551616)=true:=ξ;have h:((((dT a k % b / 9223372036854775808:Nat)):Int) != 0)=false:=gy i;simp only[go_sem,-Nat.reducePow,Qc,rV _ _ (HF a k),Pe _ (HF a k),Pe _ t8,rW,rT,h,n,c,t2,gw,e,m];repeat (refine And.intro δ ?_)
    refine⟨_,Qr.to 3 (by (simp only[go_sem,-Nat.reducePow,p,c,t2,gw,e,m])<;>simp),Vi.mk (f) (trivial)⟩
   .have h:((((dT a k % b / 9223372036854775808:Nat)):Int) != 0)=true:=rX i;simp only[go_sem,-Nat.reducePow,Qc,rV _ _ (HF a k),Pe _ (HF a k),Pe _ t8,rW,rT,h,c,t2,gw,e,m];repeat (refine And.intro δ ?_)
    refine⟨_,Qr.to 3 (by (simp only[go_sem,-Nat.reducePow,p,c,t2,gw,e,m])<;>simp),Vi.mk (f) (trivial)⟩
  .obtain⟨u,q⟩:=t3.2 ω;have c:(2*(dT a k % b)+dA a k / 2 ^ 127) % 18446744073709551616=dT a (k+1) % b:=ω;have e:dT a k / b*2 % 2 ^ 128=dT a (k+1) / b:=ω;have i:dT a k % b / 9223372036854775808=0:=ω;have n:decide (b<=dT a (k+1) % b)=false:=ξ;have h:=gy i;simp only[go_sem,-Nat.reducePow,Qc,rV _ _ (HF a k),Pe _ (HF a k),Pe _ t8,rW,rT,h,c,n,t2,e];repeat (refine And.intro δ ?_)
   refine⟨_,Qr.to 3 (by (simp only[go_sem,-Nat.reducePow,p,c,t2,e])<;>simp),Vi.mk (f) (trivial)⟩
 .have Qc:decide ((k:Int)<128)=false:=by rw[d];rfl
  have c:dT a k=a:=by rw[d];show a / 2 ^ 0=a;rw[Nat.pow_zero,Nat.div_one]
  simp only[go_sem,-Nat.reducePow,Qc,c];apply Qf o;simp only[go_sem,-Nat.reducePow];rw[Qd g,Qd g,Qd g]
def d0(n:Nat):Nat:=n % 4294967296
def d1(n:Nat):Nat:=n / 4294967296 % 4294967296
def d2(n:Nat):Nat:=n / 18446744073709551616 % 4294967296
def d3(n:Nat):Nat:=n / 79228162514264337593543950336 % 4294967296
def r5(n):d0 n<4294967296:=Xx _ π
def r6(n):d1 n<4294967296:=Xx _ π
def QvO(n):d2 n<4294967296:=Xx _ π
def QvP(n):d3 n<4294967296:=Xx _ π
@[go_sem] def dg(n:Nat):D:=.agg [u64 (d0 n),u64 (d1 n),u64 (d2 n),u64 (d3 n)]
def xU(s:Nat):((s:Int)).tmod 4294967296=((s % 4294967296:Nat):Int):=by
 rw[show (4294967296:Int)=((4294967296:Nat):Int) from rfl,<- Int.ofNat_tmod]
def Cw(s:Nat)(h:s<18446744073709551616):IntKind.u64.wrap (((s:Int)).tdiv 4294967296)=((s / 4294967296:Nat):Int):=by
 rw[show (4294967296:Int)=((4294967296:Nat):Int) from rfl,<- Int.ofNat_tdiv,IntKind.wrap_u64];omega
theorem YV:((0:Nat):Int)=0:=rfl
theorem XU:((1:Nat):Int)=1:=rfl
theorem jy:((2:Nat):Int)=2:=rfl
theorem Bd:((3:Nat):Int)=3:=rfl
theorem Mn:((4:Nat):Int)=4:=rfl
def TM:IntKind.i64.wrap 0=0:=π
def Be:IntKind.i64.wrap 1=1:=π
def Bf:IntKind.i64.wrap 2=2:=π
def Mp:IntKind.i64.wrap 3=3:=π
def wi4:IntKind.i64.wrap 4=4:=π
def le4{k}(h:k<=4):k=0\/k=1\/k=2\/k=3\/k=4:=ω
def gz{x y:Nat}(h:x≠y):((x:Int) != (y:Int))=true:=ξ
def gA{x y:Nat}(h:x=y):((x:Int) != (y:Int))=false:=by simp[h]
def r7(v)(b:v<18446744073709551616):QI prog 48 [u64 v] (QO (dg v)):=by
 refine QZ 0 func48 ntmps48 results48 λa w g=>?_;simp only[go_sem,-Nat.reducePow];simp only[xU,Cw v b];have f:v % 4294967296=d0 v:=rfl;have e:v / 4294967296=d1 v:=by unfold d1;omega
 have d:d2 v=0:=by unfold d2;omega
 have c:d3 v=0:=by unfold d3;omega
 rw[f,e,d,c];all_goals first|exact rfl|exact⟨π,π,rfl⟩
def QvQ(b a)(e:b<18446744073709551616)(d:a<18446744073709551616):QI prog 164 [u64 b,u64 a] (QO (dg (b*18446744073709551616+a))):=by
 refine QZ 0 func164 ntmps164 results164 λc w j=>?_;simp only[go_sem,-Nat.reducePow];simp only[xU,Cw b e,Cw a d];have i:a % 4294967296=d0 (b*18446744073709551616+a):=by unfold d0;omega
 have h:a / 4294967296=d1 (b*18446744073709551616+a):=by unfold d1;omega
 have g:b % 4294967296=d2 (b*18446744073709551616+a):=by unfold d2;omega
 have f:b / 4294967296=d3 (b*18446744073709551616+a):=by unfold d3;omega
 rw[i,h,g,f];all_goals first|exact rfl|exact⟨π,π,π,π,rfl⟩
def QvR(n)(h:n<2 ^ 128):QI prog 55 [dg n] (QO (u64 (n / 18446744073709551616))):=by
 refine QZ 0 func55 ntmps55 results55 λa w b=>?_;simp only[go_sem,-Nat.reducePow];rw[show (4294967296:Int)=((4294967296:Nat):Int) from rfl,L0,Ci];congr 3;unfold d3 d2;omega
def Qg3(n)(h:n<2 ^ 128):QI prog 53 [dg n] (QO (u64 (n % 18446744073709551616))):=by
 refine QZ 0 func53 ntmps53 results53 λa w b=>?_;simp only[go_sem,-Nat.reducePow];rw[show (4294967296:Int)=((4294967296:Nat):Int) from rfl,L0,Ci];congr 3;unfold d0 d1;omega
def QvS(a b)(r:a<2 ^ 128)(c:b<2 ^ 128):QI prog 29 [dg a,dg b] (QO (QX (decide (a<b)))):=by
 refine QZ 0 func29 ntmps29 results29 λm w c=>?_;simp only[go_sem,-Nat.reducePow];refine yB (G:=Nat) [2,3] (λk=>(1<=k->d3 a=d3 b)/\(2<=k->d2 a=d2 b)/\(3<=k->d1 a=d1 b)/\(4<=k->d0 a=d0 b)) (λk d=>[(6,Qb k)]) (λk d=>[⟨.one,0,4,1,λ_=>[u64 (d0 a),u64 (d1 a),u64 (d2 a),u64 (d3 a)]⟩,⟨.one,0,4,1,λ_=>[u64 (d0 b),u64 (d1 b),u64 (d2 b),u64 (d3 b)]⟩]) (4) (0) rfl (Qr.to 2 (by (simp only[go_sem,-Nat.reducePow])<;>simp)) ?_ ?_
 .exact⟨λh=>ω,λh=>ω,λh=>ω,λh=>ω⟩
 rintro k d o ⟨f,i,j,n⟩;obtain rfl|rfl|rfl|rfl|rfl:=le4 o
 .apply Qf c;simp only[go_sem,-Nat.reducePow,Mp,YV,XU];apply Qx c o04;simp only[go_sem,-Nat.reducePow,Mp,YV,XU];by_cases h:d3 a=d3 b
  .simp only[go_sem,-Nat.reducePow,gA h];repeat (refine And.intro δ ?_)
   refine⟨_,Qr.to 2 (by (simp only[go_sem,-Nat.reducePow,Mp,YV,XU,Int.reduceAdd,Be])<;>simp),Vi.mk (d) (⟨λ_=>h,λ_=>ω,λ_=>ω,λ_=>ω⟩)⟩
  .simp only[go_sem,-Nat.reducePow,gz h];apply Qx c Eq;simp only[go_sem,-Nat.reducePow,Mp,YV,XU];have q:decide (d3 a<d3 b)=decide (a<b):=by
    simp only[bE];simp only[d0,d1,d2,d3]at *;omega
   rw[q]
 .apply Qf c;simp only[go_sem,-Nat.reducePow,Bf,XU,jy];have e:=f ω;apply Qx c o04;simp only[go_sem,-Nat.reducePow,Bf,XU,jy];by_cases h:d2 a=d2 b
  .simp only[go_sem,-Nat.reducePow,gA h];repeat (refine And.intro δ ?_)
   refine⟨_,Qr.to 2 (by (simp only[go_sem,-Nat.reducePow,Bf,XU,jy,Int.reduceAdd,Bf])<;>simp),Vi.mk (d) (⟨λ_=>e,λ_=>h,λ_=>ω,λ_=>ω⟩)⟩
  .simp only[go_sem,-Nat.reducePow,gz h];apply Qx c Eq;simp only[go_sem,-Nat.reducePow,Bf,XU,jy];have q:decide (d2 a<d2 b)=decide (a<b):=by
    simp only[bE];simp only[d0,d1,d2,d3]at *;omega
   rw[q]
 .apply Qf c;simp only[go_sem,-Nat.reducePow,Be,jy,Bd];have e:=f ω;have g:=i ω;apply Qx c o04;simp only[go_sem,-Nat.reducePow,Be,jy,Bd];by_cases h:d1 a=d1 b
  .simp only[go_sem,-Nat.reducePow,gA h];repeat (refine And.intro δ ?_)
   refine⟨_,Qr.to 2 (by (simp only[go_sem,-Nat.reducePow,Be,jy,Bd,Int.reduceAdd,Mp])<;>simp),Vi.mk (d) (⟨λ_=>e,λ_=>g,λ_=>h,λ_=>ω⟩)⟩
  .simp only[go_sem,-Nat.reducePow,gz h];apply Qx c Eq;simp only[go_sem,-Nat.reducePow,Be,jy,Bd];have q:decide (d1 a<d1 b)=decide (a<b):=by
    simp only[bE];simp only[d0,d1,d2,d3]at *;omega
   rw[q]
 .apply Qf c;simp only[go_sem,-Nat.reducePow,TM,Bd,Mn];have e:=f ω;have g:=i ω;have l:=j ω;apply Qx c o04;simp only[go_sem,-Nat.reducePow,TM,Bd,Mn];by_cases h:d0 a=d0 b
  .simp only[go_sem,-Nat.reducePow,gA h];repeat (refine And.intro δ ?_)
   refine⟨_,Qr.to 2 (by (simp only[go_sem,-Nat.reducePow,TM,Bd,Mn,Int.reduceAdd,wi4])<;>simp),Vi.mk (d) (⟨λ_=>e,λ_=>g,λ_=>l,λ_=>h⟩)⟩
  .simp only[go_sem,-Nat.reducePow,gz h];apply Qx c Eq;simp only[go_sem,-Nat.reducePow,TM,Bd,Mn];have q:decide (d0 a<d0 b)=decide (a<b):=by
    simp only[bE];simp only[d0,d1,d2,d3]at *;omega
   rw[q]
 .apply Qf c;simp only[go_sem,-Nat.reducePow,Mn];have e:=f ω;have g:=i ω;have l:=j ω;have p:=n ω;have q:decide (a<b)=false:=by
   simp only[GF];simp only[d0,d1,d2,d3]at *;omega
  rw[q];apply Qf c;simp only[go_sem,-Nat.reducePow]
def Cy(n:Nat):Nat->List D
 | 0=>[u64 0,u64 0,u64 0,u64 0]
 | 1=>[u64 (d0 n),u64 0,u64 0,u64 0]
 | 2=>[u64 (d0 n),u64 (d1 n),u64 0,u64 0]
 | 3=>[u64 (d0 n),u64 (d1 n),u64 (d2 n),u64 0]
 | _=>[u64 (d0 n),u64 (d1 n),u64 (d2 n),u64 (d3 n)]
def VR(a b:Nat):Nat->Nat
 | 0=>0
 | 1=>(a % 4294967296+b % 4294967296) / 4294967296
 | 2=>(a % 18446744073709551616+b % 18446744073709551616) / 18446744073709551616
 | 3=>(a % 79228162514264337593543950336+b % 79228162514264337593543950336) / 79228162514264337593543950336
 | _=>(a+b) / 340282366920938463463374607431768211456
def QvT(a b)(d:a<2 ^ 128)(c:b<2 ^ 128):∀k,VR a b k<=1
 | 0=>Jj _
 | 1=>by simp only[VR];omega
 | 2=>by simp only[VR];omega
 | 3=>by simp only[VR];omega
 | _+4=>by simp only[VR];omega
def gB(x y c:Nat)(b:x<4294967296)(a:y<4294967296)(d:c<=1):IntKind.u64.wrap (IntKind.u64.wrap ((x:Int)+(y:Int))+(c:Int))=((x+y+c:Nat):Int):=by
 rw[Ci,Ci];congr 1;omega
def QvU(a b)(p:a<2 ^ 128)(d:b<2 ^ 128):QI prog 82 [dg a,dg b] (QO (.tup [dg (a+b),u64 ((a+b) / 340282366920938463463374607431768211456)])):=by
 refine QZ 0 func82 ntmps82 results82 λn w d=>?_;simp only[go_sem];refine yB (G:=Nat) [2,3,4,6] (λk=>True) (λk h=>[(7,u64 (VR a b k)),(11,Qb k)]) (λk h=>[⟨.one,0,4,1,λ_=>[u64 (d0 a),u64 (d1 a),u64 (d2 a),u64 (d3 a)]⟩,⟨.one,0,4,1,λ_=>[u64 (d0 b),u64 (d1 b),u64 (d2 b),u64 (d3 b)]⟩,⟨.one,0,4,1,λ_=>[u64 0,u64 0,u64 0,u64 0]⟩,⟨.one,0,4,1,λ_=>Cy (a+b) k⟩]) (4) (0) rfl (Qr.to 4 (by (simp only[go_sem,Cy,VR])<;>simp)) trivial ?_;intro k h o _;have f:=QvT a b p ‹_›;have m:=r5;have l:=r6;have j:=QvO;have i:=QvP;obtain rfl|rfl|rfl|rfl|rfl:=le4 o
 .have s:=gB (d0 a) (d0 b) (VR a b 0) (m a) (m b) (f 0);have e:(d0 a+d0 b+VR a b 0) % 4294967296=d0 (a+b):=by simp only[d0,VR];omega
  have g:(d0 a+d0 b+VR a b 0) / 4294967296=VR a b 1:=by simp only[d0,VR];omega
  have c:=Cw (d0 a+d0 b+VR a b 0) (by have:=m a;have:=m b;have:=f 0;omega);rw[g]at c;apply Qf d;simp only[go_sem,YV,Cy];apply Qx d Eq;simp only[go_sem,YV,s,xU,e,c];repeat (refine And.intro δ ?_)
  refine⟨_,Qr.to 4 (by (simp only[go_sem,YV,XU,s,xU,e,c,Int.reduceAdd,Be,Cy])<;>simp),Vi.mk (h) (trivial)⟩
 .have s:=gB (d1 a) (d1 b) (VR a b 1) (l a) (l b) (f 1);have e:(d1 a+d1 b+VR a b 1) % 4294967296=d1 (a+b):=by simp only[d1,VR];omega
  have g:(d1 a+d1 b+VR a b 1) / 4294967296=VR a b 2:=by simp only[d1,VR];omega
  have c:=Cw (d1 a+d1 b+VR a b 1) (by have:=l a;have:=l b;have:=f 1;omega);rw[g]at c;apply Qf d;simp only[go_sem,XU,Cy];apply Qx d Eq;simp only[go_sem,XU,s,xU,e,c];repeat (refine And.intro δ ?_)
  refine⟨_,Qr.to 4 (by (simp only[go_sem,XU,jy,s,xU,e,c,Int.reduceAdd,Bf,Cy])<;>simp),Vi.mk (h) (trivial)⟩
 .have s:=gB (d2 a) (d2 b) (VR a b 2) (j a) (j b) (f 2);have e:(d2 a+d2 b+VR a b 2) % 4294967296=d2 (a+b):=by simp only[d2,VR];omega
  have g:(d2 a+d2 b+VR a b 2) / 4294967296=VR a b 3:=by simp only[d2,VR];omega
  have c:=Cw (d2 a+d2 b+VR a b 2) (by have:=j a;have:=j b;have:=f 2;omega);rw[g]at c;apply Qf d;simp only[go_sem,jy,Cy];apply Qx d Eq;simp only[go_sem,jy,s,xU,e,c];repeat (refine And.intro δ ?_)
  refine⟨_,Qr.to 4 (by (simp only[go_sem,jy,Bd,s,xU,e,c,Int.reduceAdd,Mp,Cy])<;>simp),Vi.mk (h) (trivial)⟩
 .have s:=gB (d3 a) (d3 b) (VR a b 3) (i a) (i b) (f 3);have e:(d3 a+d3 b+VR a b 3) % 4294967296=d3 (a+b):=by simp only[d3,VR];omega
  have g:(d3 a+d3 b+VR a b 3) / 4294967296=VR a b 4:=by simp only[d3,VR];omega
  have c:=Cw (d3 a+d3 b+VR a b 3) (by have:=i a;have:=i b;have:=f 3;omega);rw[g]at c;apply Qf d;simp only[go_sem,Bd,Cy];apply Qx d Eq;simp only[go_sem,Bd,s,xU,e,c];repeat (refine And.intro δ ?_)
  refine⟨_,Qr.to 4 (by (simp only[go_sem,Bd,Mn,s,xU,e,c,Int.reduceAdd,wi4,Cy])<;>simp),Vi.mk (h) (trivial)⟩
 .apply Qf d;simp only[go_sem,Mn,Cy,VR];exact Yc d
def HG(a b)(e:a<2 ^ 128)(c:b<2 ^ 128):QI prog 49 [dg a,dg b] (QO (dg (a+b))):=by
 refine QZ 0 func49 ntmps49 results49 λd w c=>?_;simp only[go_sem];apply Jp c Qsb (QvU a b e ‹_›);exact Yc c
end Go.Fg.X
namespace Go.Fg.X
open Go.Proofs Go.Fg
open Go.Proofs.Tryz
def Vz(x y:Nat):Nat->Nat
 | 0=>0
 | 1=>d0 x*d0 y
 | 2=>d0 x*d0 y+d0 x*d1 y*4294967296
 | 3=>d0 x*d0 y+d0 x*d1 y*4294967296+d1 x*d0 y*4294967296
 | _=>d0 x*d0 y+d0 x*d1 y*4294967296+d1 x*d0 y*4294967296+d1 x*d1 y*18446744073709551616
def Pf(x y)(L:x<18446744073709551616)(K:y<18446744073709551616):QI prog 27 [u64 x,u64 y] (QO (dg (x*y))):=by
 obtain⟨P,Q,R,S,s,n,l,i,M,U,T,O,N⟩:=QgV x y (d1 x) (d0 x) (d1 y) (d0 y) (by unfold d1 d0;omega) (by unfold d1 d0;omega) (r6 x) (r5 x) (r6 y) (r5 y);have I:d0 0=0:=rfl;have H:d1 0=0:=rfl;have F:d2 0=0:=rfl;have E:d3 0=0:=rfl;have t:d2 x=0:=by unfold d2;omega
 have u:d3 x=0:=by unfold d3;omega
 have J:d2 y=0:=by unfold d2;omega
 have v:d3 y=0:=by unfold d3;omega
 have r:Vz x y 0=0:=rfl;have q:Vz x y 1=S:=by simp only[Vz,i]
 have p:Vz x y 2=S+R*4294967296:=by simp only[Vz,i,l]
 have o:Vz x y 3=S+R*4294967296+Q*4294967296:=by simp only[Vz,i,l,n]
 have B:Vz x y 4=S+R*4294967296+Q*4294967296+P*18446744073709551616:=by simp only[Vz,i,l,n,s]
 have z:Vz x y 4=x*y:=by rw[B,M];omega
 refine QZ 0 func27 ntmps27 results27 λC w a=>?_;simp only[go_sem,-Nat.reducePow];refine ZO a oO ?_ (r7 x L) ?_
 .simp only[go_sem,-Nat.reducePow]
 apply Qf a;simp only[go_sem,-Nat.reducePow];refine ZO a oO ?_ (r7 y K) ?_
 .simp only[go_sem,-Nat.reducePow,t,u]
 apply Qf a;simp only[go_sem,-Nat.reducePow,t,u];refine yB (G:=Nat) [4,5,6,7] (λk=>True) (λk c=>[(17,Qb k)]) (λk c=>[⟨.one,0,4,1,λ_=>[u64 0,u64 0,u64 0,u64 0]⟩,⟨.one,0,4,1,λ_=>[u64 (d0 x),u64 (d1 x),u64 0,u64 0]⟩,⟨.one,0,4,1,λ_=>[u64 (d0 y),u64 (d1 y),u64 0,u64 0]⟩,⟨.one,0,4,1,λ_=>[u64 (d0 (Vz x y (2*k))),u64 (d1 (Vz x y (2*k))),u64 (d2 (Vz x y (2*k))),u64 (d3 (Vz x y (2*k)))]⟩]) (2) (0) rfl (Qr.to 4 (by (simp only[go_sem,-Nat.reducePow,I,H,F,E,r,t,u,J,v,Nat.mul_zero])<;>simp)) trivial ?_;intro k c j _;have m:k=0\/k=1\/k=2:=by have:k<=2:=j;omega
 rcases m with rfl|rfl|rfl
 .apply Qf a;simp only[go_sem,-Nat.reducePow,YV];refine yB (G:=Nat) [4,5,6,7,8,17] (λk=>True) (λk c=>[(20,Qb k)]) (λk c=>[⟨.one,0,4,1,λ_=>[u64 0,u64 0,u64 0,u64 0]⟩,⟨.one,0,4,1,λ_=>[u64 (d0 x),u64 (d1 x),u64 0,u64 0]⟩,⟨.one,0,4,1,λ_=>[u64 (d0 y),u64 (d1 y),u64 0,u64 0]⟩,⟨.one,0,4,1,λ_=>[u64 (d0 (Vz x y (0+k))),u64 (d1 (Vz x y (0+k))),u64 (d2 (Vz x y (0+k))),u64 (d3 (Vz x y (0+k)))]⟩]) (2) (0) rfl (Qr.to 4 (by (simp only[go_sem,-Nat.reducePow,Ap])<;>simp)) trivial ?_;intro k c j _;have m:k=0\/k=1\/k=2:=by have:k<=2:=j;omega
  rcases m with rfl|rfl|rfl
  .obtain⟨Z,b⟩:∃Z,Z=S*1:=⟨_,rfl⟩;have e:IntKind.u64.wrap (((d0 x:Nat):Int)*((d0 y:Nat):Int))=((S:Nat):Int):=by rw[Ti _ _ (by rw[<- i];omega),i]
   have f0:d0 Z=S % 4294967296:=by rw[b];unfold d0;omega
   have f1:d1 Z=S / 4294967296:=by rw[b];unfold d1;omega
   have f2:d2 Z=0:=by rw[b];unfold d2;omega
   have f3:d3 Z=0:=by rw[b];unfold d3;omega
   have h:Vz x y 0+Z=Vz x y 1:=by have:=r;have:=q;omega
   have g:Vz x y 0<2 ^ 128:=by have:=r;omega
   have f:Z<2 ^ 128:=by rw[b];omega
   have d:=Cw S ω;apply Qf a;simp only[go_sem,-Nat.reducePow,YV,Nat.reduceAdd];apply Qx a [0,1,2,3,4,5,6,7];simp only[go_sem,-Nat.reducePow,e,xU,d,TM,Be,Int.reduceAdd];refine ZO a Hj ?_ (HG (Vz x y 0) Z g f) ?_
   .simp only[go_sem,-Nat.reducePow,f0,f1,f2,f3,YV]
   apply Qf a;simp only[go_sem,-Nat.reducePow,f0,f1,f2,f3,YV];repeat (refine And.intro δ ?_)
   refine⟨_,Qr.to 4 (by (simp only[go_sem,-Nat.reducePow,YV,XU,Int.reduceAdd,Be,Nat.reduceAdd,h])<;>simp),Vi.mk (c) (trivial)⟩
  .obtain⟨Z,b⟩:∃Z,Z=R*4294967296:=⟨_,rfl⟩;have e:IntKind.u64.wrap (((d0 x:Nat):Int)*((d1 y:Nat):Int))=((R:Nat):Int):=by rw[Ti _ _ (by rw[<- l];omega),l]
   have f0:d0 Z=0:=by rw[b];unfold d0;omega
   have f1:d1 Z=R % 4294967296:=by rw[b];unfold d1;omega
   have f2:d2 Z=R / 4294967296:=by rw[b];unfold d2;omega
   have f3:d3 Z=0:=by rw[b];unfold d3;omega
   have h:Vz x y 1+Z=Vz x y 2:=by have:=q;have:=p;omega
   have g:Vz x y 1<2 ^ 128:=by have:=q;omega
   have f:Z<2 ^ 128:=by rw[b];omega
   have d:=Cw R ω;apply Qf a;simp only[go_sem,-Nat.reducePow,XU,Nat.reduceAdd];apply Qx a [0,1,2,3,4,5,6,7];simp only[go_sem,-Nat.reducePow,e,xU,d,Be,Bf,Int.reduceAdd];refine ZO a Hj ?_ (HG (Vz x y 1) Z g f) ?_
   .simp only[go_sem,-Nat.reducePow,f0,f1,f2,f3,YV]
   apply Qf a;simp only[go_sem,-Nat.reducePow,f0,f1,f2,f3,YV];repeat (refine And.intro δ ?_)
   refine⟨_,Qr.to 4 (by (simp only[go_sem,-Nat.reducePow,XU,jy,Int.reduceAdd,Bf,Nat.reduceAdd,h])<;>simp),Vi.mk (c) (trivial)⟩
  .apply Qf a;simp only[go_sem,-Nat.reducePow,jy,Nat.reduceAdd];apply Qf a;simp only[go_sem,-Nat.reducePow];repeat (refine And.intro δ ?_)
   refine⟨_,Qr.to 4 (by (simp only[go_sem,-Nat.reducePow,YV,XU,Int.reduceAdd,Be,Nat.reduceAdd,Nat.reduceMul])<;>simp),Vi.mk (c) (trivial)⟩
 .apply Qf a;simp only[go_sem,-Nat.reducePow,XU];refine yB (G:=Nat) [4,5,6,7,8,17] (λk=>True) (λk c=>[(20,Qb k)]) (λk c=>[⟨.one,0,4,1,λ_=>[u64 0,u64 0,u64 0,u64 0]⟩,⟨.one,0,4,1,λ_=>[u64 (d0 x),u64 (d1 x),u64 0,u64 0]⟩,⟨.one,0,4,1,λ_=>[u64 (d0 y),u64 (d1 y),u64 0,u64 0]⟩,⟨.one,0,4,1,λ_=>[u64 (d0 (Vz x y (2+k))),u64 (d1 (Vz x y (2+k))),u64 (d2 (Vz x y (2+k))),u64 (d3 (Vz x y (2+k)))]⟩]) (2) (0) rfl (Qr.to 4 (by (simp only[go_sem,-Nat.reducePow,Ap])<;>simp)) trivial ?_;intro k c j _;have m:k=0\/k=1\/k=2:=by have:k<=2:=j;omega
  rcases m with rfl|rfl|rfl
  .obtain⟨Z,b⟩:∃Z,Z=Q*4294967296:=⟨_,rfl⟩;have e:IntKind.u64.wrap (((d1 x:Nat):Int)*((d0 y:Nat):Int))=((Q:Nat):Int):=by rw[Ti _ _ (by rw[<- n];omega),n]
   have f0:d0 Z=0:=by rw[b];unfold d0;omega
   have f1:d1 Z=Q % 4294967296:=by rw[b];unfold d1;omega
   have f2:d2 Z=Q / 4294967296:=by rw[b];unfold d2;omega
   have f3:d3 Z=0:=by rw[b];unfold d3;omega
   have h:Vz x y 2+Z=Vz x y 3:=by have:=p;have:=o;omega
   have g:Vz x y 2<2 ^ 128:=by have:=p;omega
   have f:Z<2 ^ 128:=by rw[b];omega
   have d:=Cw Q ω;apply Qf a;simp only[go_sem,-Nat.reducePow,YV,Nat.reduceAdd];apply Qx a [0,1,2,3,4,5,6,7];simp only[go_sem,-Nat.reducePow,e,xU,d,Be,Bf,Int.reduceAdd];refine ZO a Hj ?_ (HG (Vz x y 2) Z g f) ?_
   .simp only[go_sem,-Nat.reducePow,f0,f1,f2,f3,YV]
   apply Qf a;simp only[go_sem,-Nat.reducePow,f0,f1,f2,f3,YV];repeat (refine And.intro δ ?_)
   refine⟨_,Qr.to 4 (by (simp only[go_sem,-Nat.reducePow,YV,XU,Int.reduceAdd,Be,Nat.reduceAdd,h])<;>simp),Vi.mk (c) (trivial)⟩
  .obtain⟨Z,b⟩:∃Z,Z=P*18446744073709551616:=⟨_,rfl⟩;have e:IntKind.u64.wrap (((d1 x:Nat):Int)*((d1 y:Nat):Int))=((P:Nat):Int):=by rw[Ti _ _ (by rw[<- s];omega),s]
   have f0:d0 Z=0:=by rw[b];unfold d0;omega
   have f1:d1 Z=0:=by rw[b];unfold d1;omega
   have f2:d2 Z=P % 4294967296:=by rw[b];unfold d2;omega
   have f3:d3 Z=P / 4294967296:=by rw[b];unfold d3;omega
   have h:Vz x y 3+Z=Vz x y 4:=by have:=o;have:=B;omega
   have g:Vz x y 3<2 ^ 128:=by have:=o;omega
   have f:Z<2 ^ 128:=by rw[b];omega
   have d:=Cw P ω;apply Qf a;simp only[go_sem,-Nat.reducePow,XU,Nat.reduceAdd];apply Qx a [0,1,2,3,4,5,6,7];simp only[go_sem,-Nat.reducePow,e,xU,d,Bf,Mp,Int.reduceAdd];refine ZO a Hj ?_ (HG (Vz x y 3) Z g f) ?_
   .simp only[go_sem,-Nat.reducePow,f0,f1,f2,f3,YV]
   apply Qf a;simp only[go_sem,-Nat.reducePow,f0,f1,f2,f3,YV];repeat (refine And.intro δ ?_)
   refine⟨_,Qr.to 4 (by (simp only[go_sem,-Nat.reducePow,XU,jy,Int.reduceAdd,Bf,Nat.reduceAdd,h])<;>simp),Vi.mk (c) (trivial)⟩
  .apply Qf a;simp only[go_sem,-Nat.reducePow,jy,Nat.reduceAdd];apply Qf a;simp only[go_sem,-Nat.reducePow];repeat (refine And.intro δ ?_)
   refine⟨_,Qr.to 4 (by (simp only[go_sem,-Nat.reducePow,XU,jy,Int.reduceAdd,Bf,Nat.reduceAdd,Nat.reduceMul])<;>simp),Vi.mk (c) (trivial)⟩
 .apply Qf a;simp only[go_sem,-Nat.reducePow,jy,Nat.reduceMul,z];apply Qf a;simp only[go_sem,-Nat.reducePow]
def cdiv(n d:Nat):Nat:=(n+d - 1) / d
def QvW(n d)(a:0<d):cdiv n d=if n % d=0 then n / d else n / d+1:=by
 unfold cdiv;have c:=bx n d;have b:=Xx n a;split
 .rename_i h;have:(n+d - 1) / d=n / d/\(n+d - 1) % d=d - 1:=(bB a).2 ⟨ω,ω⟩;exact this.1
 .have:(n+d - 1) / d=n / d+1/\(n+d - 1) % d=n % d - 1:=(bB a).2 ⟨by rw[Nat.mul_add];omega,ω⟩;exact this.1
@[go_sem] def QGT(v e:Int):D:=.agg [.raw (.int .u64 v),.raw (.int .i64 e)]
def QvX(n d)(f:n<2 ^ 128)(g:0<d)(h:¬ n % d=0):n / d+1<2 ^ 128:=by
 have e:2<=d:=by
  rcases xn d 2 with h3|h3
  .have:d=1:=ω;subst this;omega
  .exact h3
 have:=Nat.div_le_div_left (c:=2) (b:=d) (a:=n) e π;omega
theorem dz0:d0 0=0:=rfl
theorem dz1:d1 0=0:=rfl
theorem dz2:d2 0=0:=rfl
theorem dz3:d3 0=0:=rfl
theorem gC:((65536:Nat):Int)=65536:=rfl
def TN(n:Nat):Nat:=if n<18446744073709551616 then n else 0
def Pg(n:Nat):Int:=if n<18446744073709551616 then 0 else 20
def Qg8(n)(e:n<2 ^ 128):QI prog 281 [num n] (QO (.tup [u64 (TN n),Qb (Pg n)])):=by
 refine QZ 0 func281 ntmps281 results281 λd w f=>?_;simp only[go_sem,-Nat.reducePow];by_cases h:n<18446744073709551616
 .have c:((((n / 18446744073709551616:Nat)):Int) != 0)=false:=gy ω;have b:TN n=n:=Qe h;have a:Pg n=0:=Qe h;simp only[go_sem,-Nat.reducePow,c,b,a];rw[Aq h]
 .have c:((((n / 18446744073709551616:Nat)):Int) != 0)=true:=rX ω;have b:TN n=0:=Qd h;have a:Pg n=20:=Qd h;simp only[go_sem,-Nat.reducePow,c,b,a]
def QvY(n d)(f:n<2 ^ 128)(j:d<18446744073709551616)(g:0<d):QI prog 268 [num n,u64 d] (QO (.tup [u64 (TN (cdiv n d)),Qb (Pg (cdiv n d))])):=by
 have c:=QvW n d g;have b:d≠0:=ω;have l:=bA n d;refine QZ 0 func268 ntmps268 results268 λi w a=>?_;simp only[go_sem,-Nat.reducePow];refine ZO a QfA ?_ (Qg0 n d f j) ?_
 .simp only[go_sem,-Nat.reducePow,b,YF]
 apply Qf a;simp only[go_sem,-Nat.reducePow,b,YF];by_cases h:n % d=0
 .rw[Qe h]at c;have e:=gy h;simp only[go_sem,-Nat.reducePow,e];refine ZO a QfB ?_ (Qg8 (n / d) ω) ?_
  .simp only[go_sem,-Nat.reducePow,c]
  apply Qf a;simp only[go_sem,-Nat.reducePow,c]
 .rw[Qd h]at c;have m:=QvX n d f g h;have e:=rX h;simp only[go_sem,-Nat.reducePow,e];apply Qx a [0,1001,1002,3,4,5,1006];simp only[go_sem,-Nat.reducePow];refine Vb a Qfn ?_ (QgY 1 π) ?_
  .simp only[go_sem,-Nat.reducePow,XU]
  apply Zk a;simp only[go_sem,-Nat.reducePow,XU];refine Vb a SV ?_ (TJ (n / d) 1 ω π) ?_
  .simp only[go_sem,-Nat.reducePow,XU]
  apply Zk a;simp only[go_sem,-Nat.reducePow,XU];have k:(n / d+1) % 2 ^ 128=cdiv n d:=ω;simp only[go_sem,-Nat.reducePow,k];refine ZO a QfB ?_ (Qg8 (cdiv n d) ω) ?_
  .simp only[go_sem,-Nat.reducePow]
  apply Qf a;simp only[go_sem,-Nat.reducePow]
def Kt(a d b:Nat):Int:=if 4294967295<a\/4294967295<b\/1048576<d then 0 else if a=0/\b=0/\d=0 then 1 else if d=0/\a=b then 2 else if d=0 then 0 else if b<a then 3 else if a=0/\0<b then 4 else 0
@[go_sem] def TO(a d b:Nat):D:=.agg [u64 a,u64 d,u64 b]
def gD(a d b):QI prog 12 [TO a d b] (QO (Qb (Kt a d b))):=by
 refine QZ 0 func12 ntmps12 results12 λc w e=>?_;simp only[go_sem,-Nat.reducePow]
 repeat' (first|((first|refine qu (λh=>?_) (λh=>?_)|refine qv (λh=>?_) (λh=>?_)|refine qw (λh=>?_) (λh=>?_)|refine Wu (λh=>?_) (λh=>?_)|refine qx (λh=>?_) (λh=>?_)|refine qy (λh=>?_) (λh=>?_)|refine qz (λh=>?_) (λh=>?_)|refine qp (λh=>?_) (λh=>?_))<;>(try simp only[go_sem,-Nat.reducePow]))|(refine And.intro ω ?_;try simp only[go_sem,-Nat.reducePow]))
 all_goals (congr 2;unfold Kt;(repeat' split)<;>omega)
def TP(a d b):QI prog 165 [TO a d b] (QO (Qb (Kt a d b))):=by
 refine QZ 0 func165 ntmps165 results165 λc w e=>?_;simp only[go_sem,-Nat.reducePow]
 repeat' (first|((first|refine qu (λh=>?_) (λh=>?_)|refine qv (λh=>?_) (λh=>?_)|refine qw (λh=>?_) (λh=>?_)|refine Wu (λh=>?_) (λh=>?_)|refine qx (λh=>?_) (λh=>?_)|refine qy (λh=>?_) (λh=>?_)|refine qz (λh=>?_) (λh=>?_)|refine qp (λh=>?_) (λh=>?_))<;>(try simp only[go_sem,-Nat.reducePow]))|(refine And.intro ω ?_;try simp only[go_sem,-Nat.reducePow]))
 all_goals (congr 2;(try simp only[ZL,Gv,yi,Db,zF,jN,bne_iff_ne,bne_eq_false_iff_eq,X4,GF,ne_eq]at *);(try unfold Kt);(repeat' split)<;>omega)
def Qha(a d b):Kt a d b=0\/Kt a d b=1\/Kt a d b=2\/Kt a d b=3\/Kt a d b=4:=by unfold Kt;(repeat' split)<;>simp
def gF{a d b}(h:Kt a d b≠0):a<=4294967295/\b<=4294967295/\d<=1048576:=by unfold Kt at h;split at h<;>omega
def r8(a d b):QI prog 174 [TO a d b] (QO (QX (Kt a d b != 0))):=by
 refine QZ 0 func174 ntmps174 results174 λe w c=>?_;simp only[go_sem,-Nat.reducePow];refine ZO c Fl ?_ (TP a d b) ?_
 .simp only[go_sem,-Nat.reducePow]
 apply Qf c;simp only[go_sem,-Nat.reducePow]
def Xi(a d b t:Nat):Nat:=if Kt a d b=0 then 0 else a*min t d+b*(t - min t d)
def Qhb(a d b t)(i:t<18446744073709551616):Xi a d b t<2 ^ 97:=by
 unfold Xi;split
 .decide
 .rename_i h;obtain⟨e,c,j⟩:=gF h;have g:a*min t d<=4294967295*1048576:=Ys e ω;have f:b*(t - min t d)<=4294967295*18446744073709551615:=Ys c ω;exact NG (Nat.add_le_add g f) π
def HH(a b:Nat):(min (a:Int) (b:Int))=((min a b:Nat):Int):=ω
def QvZ(a d b t)(j:t<18446744073709551616):QI prog 231 [TO a d b,u64 t] (QO (num (Xi a d b t))):=by
 refine QZ 0 func231 ntmps231 results231 λi w c=>?_;simp only[go_sem,-Nat.reducePow];refine ZO c OH ?_ (r8 a d b) ?_
 .simp only[go_sem,-Nat.reducePow]
 apply Qf c;simp only[go_sem,-Nat.reducePow];by_cases h:Kt a d b=0
 .have g:Xi a d b t=0:=Qe h;have f:(Kt a d b != 0)=false:=by simp[h]
  simp only[go_sem,-Nat.reducePow,g,f]
 .have g:Xi a d b t=a*min t d+b*(t - min t d):=Qd h;have f:(Kt a d b != 0)=true:=by simp[h]
  obtain⟨l,k,m⟩:=gF h;have e:=Th t (min t d) ω j;have o:a*min t d<=4294967295*1048576:=Ys l ω;have n:b*(t - min t d)<=4294967295*18446744073709551615:=Ys k ω;simp only[go_sem,-Nat.reducePow,g,f,HH,e];apply Qx c [0,1,2,4,5,6,7,8,1003,1009,1010,11,12,13,1014,1015,16];simp only[go_sem,-Nat.reducePow,HH,e];refine Vb c Cb ?_ (Ct a (min t d) ω ω) ?_
  .simp only[go_sem,-Nat.reducePow,HH,e]
  apply Zk c;simp only[go_sem,-Nat.reducePow,HH,e];refine Vb c Cb ?_ (Ct b (t - min t d) ω ω) ?_
  .simp only[go_sem,-Nat.reducePow,HH,e]
  apply Zk c;simp only[go_sem,-Nat.reducePow,HH,e];refine Vb c SV ?_ (TJ (a*min t d) (b*(t - min t d)) ω ω) ?_
  .simp only[go_sem,-Nat.reducePow,HH,e]
  apply Zk c;simp only[go_sem,-Nat.reducePow,HH,e];rw[Aq ω]
def Qv0(a d b t)(l:t<18446744073709551616):QI prog 51 [TO a d b,u64 t] (QO (dg (Xi a d b t))):=by
 refine QZ 0 func51 ntmps51 results51 λm w c=>?_;simp only[go_sem,-Nat.reducePow];refine ZO c qY ?_ (gD a d b) ?_
 .simp only[go_sem,-Nat.reducePow]
 apply Qf c;simp only[go_sem,-Nat.reducePow];by_cases h:Kt a d b=0
 .have i:Xi a d b t=0:=Qe h;have g:(Kt a d b==0)=true:=by simp[h]
  simp only[go_sem,-Nat.reducePow,i,g];rfl
 .have i:Xi a d b t=a*min t d+b*(t - min t d):=Qd h;have g:(Kt a d b==0)=false:=by simp[h]
  obtain⟨o,n,q⟩:=gF h;have p:b*(t - min t d)<=4294967295*18446744073709551615:=Ys n ω;by_cases j:t<=d
  .have k:decide (t<=d)=true:=QT j;have f:Xi a d b t=a*t:=by rw[i,NH j,Df,Nat.mul_zero,Ap]
   simp only[go_sem,-Nat.reducePow,g,k];refine ZO c OE ?_ (Pf a t ω l) ?_
   .simp only[go_sem,-Nat.reducePow,f]
   apply Qf c;simp only[go_sem,-Nat.reducePow,f]
  .have k:decide (t<=d)=false:=QH j;have f:Xi a d b t=a*d+b*(t - d):=by rw[i,NI ω]
   have r:a*d<=4294967295*1048576:=Ys o ω;have e:=Th t d ω l;rw[NI ω]at p;simp only[go_sem,-Nat.reducePow,g,k];apply Qx c [0,1,2,3,5,6,7,8,9,10,1004,1011,1012,1013];simp only[go_sem,-Nat.reducePow,e];refine Vb c OE ?_ (Pf a d ω ω) ?_
   .simp only[go_sem,-Nat.reducePow,e]
   apply Zk c;simp only[go_sem,-Nat.reducePow,e];refine Vb c OE ?_ (Pf b (t - d) ω ω) ?_
   .simp only[go_sem,-Nat.reducePow,e]
   apply Zk c;simp only[go_sem,-Nat.reducePow,e];refine Vb c Hj ?_ (HG (a*d) (b*(t - d)) ω ω) ?_
   .simp only[go_sem,-Nat.reducePow,f]
   apply Zk c;simp only[go_sem,-Nat.reducePow,f]
structure Ln where
 x:Nat
 y:Nat
 m:Nat
deriving DecidableEq
instance:Inhabited Ln:=⟨⟨0,0,0⟩⟩
structure Ln.Ok (l:Ln):Prop where
 x:l.x<18446744073709551616
 y:l.y<2 ^ 128
 m:l.m<18446744073709551616
@[go_sem] def Ln.cells(l:Ln):List D:=[u64 l.x,u64 (l.y / 18446744073709551616),u64 (l.y % 18446744073709551616),u64 l.m]
def vG(l:Ln)(x:Nat):Nat:=if x<=l.x then l.y else (l.y+l.m*(x - l.x)) % 2 ^ 128
def Qhc{a b}(d:a<18446744073709551616)(c:b<18446744073709551616):a*b<2 ^ 128:=by
 have:a*b<=18446744073709551615*18446744073709551615:=Ys ω ω;exact NG this π
def Qhd{l:Ln}(h:l.Ok)(x):vG l x<2 ^ 128:=by
 unfold vG;split
 .exact h.y
 .exact Xx _ π
def Qhe(l:Ln)(h:l.Ok)(x)(e:x<18446744073709551616):QI prog 259 [.agg l.cells,u64 x] (QO (num (vG l x))):=by
 unfold vG;refine QZ 0 func259 ntmps259 results259 λd w a=>?_;simp only[go_sem];by_cases b:x<=l.x
 .have d1:=QT b;simp only[go_sem,d1,Qe b]
 .have d1:=QH b;have c:=Th x l.x ω e;simp only[go_sem,d1,Qd b];apply Qx a o09;simp only[go_sem,c];refine Vb a Cb ?_ (Ct l.m (x - l.x) h.m ω) ?_
  .simp only[go_sem,c]
  apply Zk a;simp only[go_sem,c];apply Kw a SV (TJ l.y (l.m*(x - l.x)) h.y (Qhc h.m ω));exact Hn a
def Cz(l:Ln)(w:Nat):Nat:=
 if w<=l.y then 0
 else if l.m=0\/18446744073709551616<=cdiv (w - l.y) l.m\/never<=l.x\/never - l.x<=cdiv (w - l.y) l.m then never
 else l.x+cdiv (w - l.y) l.m
def Qhf(l)(w):Cz l w<=never:=by
 unfold Cz;split<;>try split
 .exact Jj _
 .exact QB _
 .omega
def Qv1(n)(c:n<2 ^ 128):QI prog 268 [num n,u64 0] (QO (.tup [u64 0,Qb 1])):=by
 refine QZ 0 func268 ntmps268 results268 λb w a=>?_;simp only[go_sem];refine ZO a QfA ?_ (Qg0 n 0 c π) ?_
 .simp only[go_sem,Vp]
 apply Qf a;simp only[go_sem,Vp]
def Qhg{a b:Nat}:((if a<b then (-1:Int) else if a=b then 0 else 1)<=0)↔a<=b:=by
 split
 .omega
 .split<;>omega
def Qv2{a b:Nat}:((if a<b then (-1:Int) else if a=b then 0 else 1)<0)↔a<b:=by
 split
 .omega
 .split<;>omega
def Qhh{a b}(c:a<2 ^ 128)(h:b<=a):(a+2 ^ 128 - b) % 2 ^ 128=a - b:=by
 rw[show a+2 ^ 128 - b=a - b+2 ^ 128 by omega,Nat.add_mod_right,Aq ω]
def gG(l:Ln)(h:l.Ok)(v)(g:v<2 ^ 128):QI prog 253 [.agg l.cells,num v] (QO (u64 (Cz l v))):=by
 unfold Cz;refine QZ 0 func253 ntmps253 results253 λn w a=>?_;simp only[go_sem];apply Jp a pe (rR v l.y g h.y);apply QV a;by_cases i:v<=l.y
 .have d1:=QT (Qhg.2 i);simp only[go_sem,d1,Qe i]
 .have d1:=QH (λc=>i (Qhg.1 c));rw[Qd i];simp only[go_sem,d1];refine ZO a Qtw ?_ (QvJ v l.y g h.y) ?_
  .simp only[go_sem,Qhh g (show l.y<=v from ω)]
  apply Qf a;simp only[go_sem,Qhh g (show l.y<=v from ω)];by_cases c:l.m=0
  .rw[Qe (.inl c)];refine ZO a Qfy ?_ (Qv1 (v - l.y) ω) ?_
   .simp only[go_sem,c]
   apply Qf a;simp only[go_sem,c];rfl
  .apply Jp a Qfy (QvY (v - l.y) l.m ω h.m ω);apply QV a;by_cases j:cdiv (v - l.y) l.m<18446744073709551616
   .have f:Pg (cdiv (v - l.y) l.m)=0:=Qe j;have k:TN (cdiv (v - l.y) l.m)=cdiv (v - l.y) l.m:=Qe j;by_cases e:never<=l.x
    .have d4:decide ((9223372036854775808:Int)<=(l.x:Int))=true:=QT (by unfold never at e;omega);rw[Qe (.inr (.inr (.inl e)))];simp only[go_sem,f,k,d4];rfl
    .have d4:decide ((9223372036854775808:Int)<=(l.x:Int))=false:=QH (by unfold never at e;omega);have m:IntKind.u64.wrap ((9223372036854775808:Int) - (l.x:Int))=((never - l.x:Nat):Int):=by
      have:=Th 9223372036854775808 l.x (by unfold never at e;omega) π;exact this
     by_cases d:never - l.x<=cdiv (v - l.y) l.m
     .have d5:=QT d;rw[Qe (.inr (.inr (.inr d)))];simp only[go_sem,f,k,d4,m,d5];rfl
     .have d5:=QH d;have o:=Qf4 l.x (cdiv (v - l.y) l.m) (by unfold never at d;omega);rw[Qd (by rintro (b|b|b|b);exact c b;omega;exact e b;exact d b)];simp only[go_sem,f,k,d4,m,d5,o]
   .have f:Pg (cdiv (v - l.y) l.m)=20:=Qd j;rw[Qe (.inr (.inl ω))];simp only[go_sem,f];rfl
def FN(a b:Ln):Ln:=if vG b (max a.x b.x)<vG a (max a.x b.x) then b else a
def Qhi{a b:Ln}(d:a.Ok)(c:b.Ok):(FN a b).Ok:=by unfold FN;split<;>assumption
def HI(a b:Nat):(max (a:Int) (b:Int))=((max a b:Nat):Int):=ω
def Qhj(a b:Ln)(e:a.Ok)(f:b.Ok):QI prog 240 [.agg a.cells,.agg b.cells] (QO (.agg (FN a b).cells)):=by
 have hx:max a.x b.x<18446744073709551616:=by have:=e.x;have:=f.x;omega
 unfold FN;obtain⟨k,h⟩:∃k,k=(if vG b (max a.x b.x)<vG a (max a.x b.x) then (-1:Int) else if vG b (max a.x b.x)=vG a (max a.x b.x) then 0 else 1):=⟨_,rfl⟩;have g:k<0↔vG b (max a.x b.x)<vG a (max a.x b.x):=by rw[h];exact Qv2
 refine QZ 0 func240 ntmps240 results240 λi w c=>?_;simp only[go_sem];simp only[go_sem,HI];apply Qx c [0,1,3,4,1002,1005,1006,7];simp only[go_sem,HI];refine Vb c Qfv ?_ (Qhe b f (max a.x b.x) hx) ?_
 .simp only[go_sem,HI]
 apply Zk c;simp only[go_sem,HI];refine Vb c Qfv ?_ (Qhe a e (max a.x b.x) hx) ?_
 .simp only[go_sem,HI]
 apply Zk c;simp only[go_sem,HI];refine Vb c pe ?_ (h▸rR (vG b (max a.x b.x)) (vG a (max a.x b.x)) (Qhd f _) (Qhd e _)) ?_
 .simp only[go_sem,HI]
 apply Zk c;simp only[go_sem,HI];by_cases d:vG b (max a.x b.x)<vG a (max a.x b.x)
 .have d1:=QT (g.2 d);simp only[go_sem,d1,Qe d]
 .have d1:=QH (λj=>d (g.1 j));rw[Qd d];simp only[go_sem,d1]
structure Rn where
 f:Ln
 t:Ln
 b:Bool
deriving DecidableEq
instance:Inhabited Rn:=⟨⟨default,default,false⟩⟩
structure Rn.Ok (r:Rn):Prop where
 f:r.f.Ok
 t:r.t.Ok
@[go_sem] def Rn.cells(r:Rn):List D:=[u64 r.f.x,u64 (r.f.y / 18446744073709551616),u64 (r.f.y % 18446744073709551616),u64 r.f.m,u64 r.t.x,u64 (r.t.y / 18446744073709551616),u64 (r.t.y % 18446744073709551616),u64 r.t.m,QX r.b]
def Qhk(n:Nat)(h:n<18446744073709551616):IntKind.u64.wrap (n:Int)=(n:Int):=η
@[go_sem] def cfg(t l:Int):D:=.agg [.raw (.int .i64 t),.raw (.int .i64 l)]
def Qv3(n t:Nat)(u:n<2 ^ 128)(s:t<=65536)(r:n*t<2 ^ 128):QI prog 228 [num n,Qb t] (QO (num (n*t))):=by
 obtain⟨b,a,q,rfl⟩:∃b a,a<18446744073709551616/\n=b*18446744073709551616+a:=⟨n / 18446744073709551616,n % 18446744073709551616,Xx _ π,ω⟩;have v:b<18446744073709551616:=ω;have l:(b*18446744073709551616+a) / 18446744073709551616=b:=ω;have k:(b*18446744073709551616+a) % 18446744073709551616=a:=ω;obtain⟨A,i⟩:∃A,A=a*t:=⟨_,rfl⟩;obtain⟨B,f⟩:∃B,B=b*t:=⟨_,rfl⟩;have j:(b*18446744073709551616+a)*t=B*18446744073709551616+A:=by rw[i,f,VM,IN,IP 18446744073709551616 t,<- IN]
 rw[j]at r;rw[j];have g:=Ct a t q ω;rw[<- i]at g;have d:=Qhk t ω;have c:=Ti b t (by rw[<- f];omega);rw[<- f]at c;have e:=Qf4 (A / 18446744073709551616) B ω;have p:(B*18446744073709551616+A) / 18446744073709551616=A / 18446744073709551616+B:=by rw[NC,Nat.add_mul_div_right _ _ π]
 have o:(B*18446744073709551616+A) % 18446744073709551616=A % 18446744073709551616:=by rw[NC,Nat.add_mul_mod_self_right]
 refine QZ 0 func228 ntmps228 results228 λm w h=>?_;simp only[go_sem];simp only[l,k,d,go_sem];refine ZO h Cb ?_ g ?_
 .simp only[go_sem,d,c,e]
 apply Qf h;simp only[go_sem,d,c,e];simp only[l,k,d,c,e,go_sem,p,o]
def Qhl(n t k:Nat)(h:n<2 ^ 111)(b:t<=65536)(f:k<18446744073709551616):QI prog 178 [num n,Qb t,u64 k] (QO (QX (decide (65536*k<n*t)))):=by
 have i:n*t<=n*65536:=Nat.mul_le_mul_left n b;have g:=rR (n*t) (65536*k) ω ω;have e:decide ((if n*t<65536*k then (-1:Int) else if n*t=65536*k then 0 else 1) > 0)=decide (65536*k<n*t):=by
  rw[vX];simp only[X4];(repeat' split)<;>omega
 have d:=Ct 65536 k π f;refine QZ 0 func178 ntmps178 results178 λc w a=>?_;simp only[go_sem];apply Jp a Qtl (Qv3 n t ω b ω);apply QV a;refine ZO a Cb ?_ d ?_
 .simp only[go_sem,gC]
 apply Qf a;simp only[go_sem,gC];refine ZO a pe ?_ g ?_
 .simp only[go_sem,e]
 apply Qf a;simp only[go_sem,e]
@[go_sem] def Vm(l:List Qm):D:=.imm 14 l.length (Qm.rows l)
def Qv4(h:List Ob):QM prog 61 h [] (λd b=>d=.ptr (h.length+1) 0 0 0/\b=h++[QS .i64 0 [],⟨.one,0,1,1,λ_=>[.mref h.length 0]⟩]):=by
 refine Q8 func61 ntmps61 results61 λa w c e=>?_;simp only[go_sem,Qa]
def q8(L:List Qm)(k:Int):Int:=match L.findIdx? (λc=>c.iD==k) with
 | some i=>i
 | none=>-1
def Qv5{L:List Qm}{k}{i}(a:i<L.length)(h:∀j,j<i->(L.getD j default).iD≠k)(d:(L.getD i default).iD=k):q8 L k=i:=by
 have e:L.findIdx? (λc=>c.iD==k)=some i:=by
  rw[Dc];refine⟨a,by simpa[QY,a] using d,λj b=>?_⟩;have:=h j b;simpa[QY,show j<L.length by omega] using this
 rw[q8,e]
def Qv6{L:List Qm}{k}(h:∀j,j<L.length->(L.getD j default).iD≠k):q8 L k=-1:=by
 have e:L.findIdx? (λc=>c.iD==k)=none:=by
  rw[EH];intro x hx;obtain⟨i,a,rfl⟩:=xl hx;have:=h i a;simpa[QY,a] using this
 rw[q8,e]
def Bg(L:List Qm)(k)(m:L.length<1000000):QI prog 15 [Vm L,Qb k] (QO (Qb (q8 L k))):=by
 refine QZ 0 func15 ntmps15 results15 λh w g=>?_;simp only[go_sem];refine ZW (λi s=>(∀j,j<i->(L.getD j default).iD≠k)/\s=⟨[(1,Qb k),(7,Vm L),(8,Qb L.length),(9,Qb i)],[]⟩) L.length QQ ⟨λj d=>absurd d ω,rfl⟩ ?_;rintro i s f ⟨c,rfl⟩;have l:=JT (show i<4611686018427387904 from ω);apply QV g;first|refine WS f (λa=>?_) (λa=>?_)|refine WT f (λa=>?_) (λa=>?_)
 .simp only[go_sem,a];by_cases b:(L.getD i default).iD=k
  .rw[Qv5 a c b];simp only[go_sem,WC b]
  .simp only[go_sem,VU b];refine⟨a,_,Qr.to 0 ⟨?_,by simp only[go_sem],?_,?_⟩,λj d=>?_,rfl⟩
   .simp only[go_sem,l]
   .simp only[go_sem]
   .simp only[go_sem]
   .rcases xo.1 d with e|rfl
    .exact c j e
    .exact b
 .have e:i=L.length:=ω;subst e;rw[Qv6 c];exact Yc g
structure V7 {α:Type} [Inhabited α] (enc:α->List D) (L:List α) (off:Nat) (row:Nat->List D):Prop where
 at_:∀i,i<L.length->row (off+i)=enc (L.getD i default)
 all:∀i,i<off+L.length->∃a,row i=enc a
def TQ{c:Type}[Inhabited c](f:Nat)(e:c->List D)(L:List c)(d:D)(h:List Ob):Prop:=∃g a b,d=.ref 0 g a L.length/\h=[⟨.arr,g,f,a+L.length,b⟩]/\V7 e L a b
def V7.nil{c:Type}[Inhabited c]{b:c->List D}{a:Nat->List D}:V7 b [] 0 a:=⟨λi hi=>absurd hi (X2 i),λi hi=>absurd hi (X2 i)⟩
def V7.app{g:Type}[Inhabited g]{a}{L:List g}{c}{b}(h:V7 a L c b)(x:g){r2}(j:r2 0=a x):V7 a (L++[x]) 0 (JC L.length c b r2):=by
 have e:∀i,i<L.length+1->JC L.length c b r2 i=a ((L++[x]).getD i default):=λi d=>by
  by_cases f:i<L.length
  .rw[AD f,h.at_ i f];simp[f,JO f]
  .have:i=L.length:=ω;subst this;rw[kS (QB _),Df,j];simp
 exact⟨λi d=>by simp at d;rw[JR];exact e i d,λi d=>by simp at d;exact⟨_,e i d⟩⟩
def V7.upto{e:Type}[Inhabited e]{d}{L:List e}{c}{b}(h:V7 d L c b){k}(f:∀a,xy k (d a)=true):∀i,i<c+L.length->xy k (b i)=true:=λi g=>by
 obtain⟨a,j⟩:=h.all i g;rw[j];exact f a
theorem Ph(a):xy 1 [Qb a]=true:=rfl
def kb(L:List Qm)(g:Qm->Bool):Nat->List Int
 | 0=>[]
 | i+1=>if g (L.getD i default)=true then kb L g i++[(L.getD i default).iD] else kb L g i
def Qhm(L)(g):∀i,(kb L g i).length<=i
 | 0=>QB _
 | i+1=>by
  have:=Qhm L g i;rw[kb];split
  .simp;omega
  .omega
def Qhn(L:List Qm)(g:Qm->Bool):∀i,i<=L.length->kb L g i=((L.take i).filter g).map (·.iD)
 | 0,_=>by simp[kb]
 | i+1,h=>by
  have b:i<L.length:=ω;rw[kb,Qhn L g i ω,zD,QG b];simp only[BH,IE,wa,QY,QG b,Ky];by_cases a:g L[i]=true
  .rw[Qe a,IG a];rfl
  .rw[Qd a,IF a];simp
def Qv7(L:List Qm)(g:Qm->Bool):kb L g L.length=(L.filter g).map (·.iD):=by rw[Qhn L g _ (QB _),Wc]
def Qv8(L:List Qm)(k)(B:L.length<1000000):QI prog 87 [Vm L,Qb k] (TQ 1 (λn:Int=>[Qb n]) (KE L k)):=by
 have z:KE L k=kb L (λy=>y.parent==k) L.length:=(Qv7 L _).symm;refine QZ 1 func87 ntmps87 results87 λt w o=>?_;simp only[go_sem];refine ZW (λi s=>∃g a b,V7 (λn:Int=>[Qb n]) (kb L (λy=>y.parent==k) i) a b/\s=⟨[(1,Qb k),(5,.ref 0 g a (kb L (λy=>y.parent==k) i).length),(8,Vm L),(9,Qb L.length),(10,Qb i)],[⟨.arr,g,1,a+(kb L (λy=>y.parent==k) i).length,b⟩]⟩) L.length
  (s0:=⟨[(1,Qb k),(5,.ref 0 0 0 0),(8,Vm L),(9,Qb L.length),(10,Qb 0)],[⟨.arr,0,1,0,λ_=>[]⟩]⟩)
  (Qr.trans (Qr.kP 5 1 (λi=>[]) rfl) QQ) ⟨0,0,λ_=>[],.nil,rfl⟩ ?_
 rintro i s l ⟨g,a,b,f,rfl⟩;have v:=Qhm L (λy=>y.parent==k) i;have q:=JT (show i<4611686018427387904 from ω);apply QV o;first|refine WS l (λd=>?_) (λd=>?_)|refine WT l (λd=>?_) (λd=>?_)
 .obtain⟨M,p⟩:∃M,M=kb L (λy=>y.parent==k) i:=⟨_,rfl⟩;obtain⟨e,m⟩:∃e,e=L.getD i default:=⟨_,rfl⟩;have c:kb L (λy=>y.parent==k) (i+1)=if (e.parent==k)=true then M++[e.iD] else M:=by rw[p,m];rfl
  rw[<- p]at f v ⊢;simp only[go_sem,d,<- m];by_cases j:e.parent=k
  .rw[Qe (WC j)]at c;have x:M.length<=4294967295:=ω;have h:V7 (λn:Int=>[Qb n]) (kb L (λy=>y.parent==k) (i+1)) 0 (JC M.length a b λ_=>[Qb e.iD]):=by rw[c];exact f.app e.iD rfl
   have r:(kb L (λy=>y.parent==k) (i+1)).length=M.length+1:=by rw[c];simp
   simp only[go_sem,WC j,x];refine⟨d,_,Qr.to 1 ⟨?_,by simp only[go_sem],?_,?_⟩,g+1,0,_,h,rfl⟩
   .simp only[go_sem,q,r]
   .exact⟨h.upto Ph,trivial⟩
   .simp only[go_sem,r]
  .rw[Qd (by simpa using j)]at c;have h:V7 (λn:Int=>[Qb n]) (kb L (λy=>y.parent==k) (i+1)) a b:=by rw[c];exact f
   simp only[go_sem,VU j];refine⟨d,_,Qr.to 1 ⟨?_,by simp only[go_sem],?_,?_⟩,g,a,b,h,rfl⟩
   .simp only[go_sem,q,c]
   .exact⟨h.upto Ph,trivial⟩
   .simp only[go_sem,c]
 .have u:i=L.length:=ω;subst u;rw[z];apply QV o;exact⟨f.upto Ph,g,a,b,rfl,rfl,f⟩
def TR(L:List Qm)(k):(Qy L k=none/\q8 L k=-1)\/∃i,i<L.length/\q8 L k=(i:Int)/\Qy L k=some (L.getD i default):=by
 cases h:L.findIdx? (λc=>c.iD==k) with
 | none=>
  refine .inl ⟨?_,by rw[q8,h]⟩;rw[Qy,jL];intro x hx;have:=EH.1 h x hx;simp[this]
 | some i=>
  obtain⟨a,e,d⟩:=Dc.1 h;refine .inr ⟨i,a,by rw[q8,h],?_⟩;rw[Qy,List.find?_eq_some_iff_getElem];refine⟨by simpa[QY,a] using e,i,a,by simp[QY,a],λj b=>?_⟩;have:=d j b;simpa using this
def gH(L:List Qm)(a)(m:L.length<1000000)(l:∀c∈L,c.Nn):QI prog 85 [Vm L,Qb a] (QO (QX (Vl L a))):=by
 refine QZ 0 func85 ntmps85 results85 λk w b=>?_;simp only[go_sem];apply Jp b AZ (Bg L a m);apply QV b;by_cases d:a=0
 .have e:Vl L a=true:=by simp[Vl,d]
  simp only[go_sem,WC d,Go.undef,e]
 .have e:Vl L a=decide (1<QJ ((Qy L a).getD default).ls):=by simp[Vl,d]
  rw[e];simp only[go_sem,VU d,Go.undef];rcases TR L a with ⟨j,h⟩|⟨i,f,h,j⟩
  .rw[j,h];simp only[go_sem,Go.undef];rfl
  .rw[j,h];have o:L.getD i default∈L:=by rw[QY,QG f];exact X0 f
   have g:=l _ o;have n:(0:Int)<=(i:Int):=ω;simp only[go_sem,Go.undef,QT n,f];refine ZO b qY ?_ (DJ (L.getD i default).ls g.2.1.1 g.2.1.2.1 g.2.1.2.2) ?_
   .simp only[go_sem,Go.undef,Ky]
   apply Qf b;simp only[go_sem,Go.undef,Ky]
def Qv9(L:List Qm)(h)(q:L.length<1000000):QI prog 32 [Vm L,Qb h] (TQ 1 (λn:Int=>[Qb n]) (ZT L 70 h)):=by
 refine QZ 1 func32 ntmps32 results32 λx w e=>?_;simp only[go_sem,-Nat.reducePow];refine ZW (λi s=>∃d a g b c,d++ZT L (70 - i) a=ZT L 70 h/\d.length=i/\V7 (λn:Int=>[Qb n]) d b c/\s=⟨[(0,Vm L),(5,.ref 0 g b d.length),(6,Qb a),(9,Qb i)],[⟨.arr,g,1,b+d.length,c⟩]⟩) 70
  (s0:=⟨[(0,Vm L),(5,.ref 0 0 0 0),(6,Qb h),(9,Qb 0)],[⟨.arr,0,1,0,λ_=>[]⟩]⟩)
  (Qr.trans (Qr.kP 5 1 (λi=>[]) rfl) (Qr.frame (by simp only[go_sem,-Nat.reducePow]))) ⟨[],h,0,0,λ_=>[],rfl,rfl,.nil,rfl⟩ ?_
 rintro i s E ⟨d,a,g,b,c,f,C,k,rfl⟩;have B:=JT (show i<4611686018427387904 from ω);by_cases z:i<70
 .have o:((i:Int)<70):=ω;obtain⟨n,y⟩:∃n,70 - i=n+1:=⟨69 - i,ω⟩;have F:70 - (i+1)=n:=ω;rw[y,ZT]at f;rcases TR L a with ⟨m,l⟩|⟨j,r,l,m⟩
  .rw[m,JZ]at f;rw[<- f];apply Qf e;simp only[go_sem,-Nat.reducePow,o,QT o];refine ZO e AZ ?_ (Bg L a q) ?_
   .simp only[go_sem,-Nat.reducePow,l]
   apply Qf e;simp only[go_sem,-Nat.reducePow,l];apply Qf e;simp only[go_sem,-Nat.reducePow];exact⟨k.upto Ph,g,b,c,rfl,rfl,k⟩
  .rw[m]at f;have v:d.length<=4294967295:=ω;have t:V7 (λn:Int=>[Qb n]) (d++[a]) 0 (JC d.length b c λ_=>[Qb a]):=k.app a rfl;have u:¬ ((j:Int)<0):=ω;apply Qf e;simp only[go_sem,-Nat.reducePow,o,QT o];refine ZO e AZ ?_ (Bg L a q) ?_
   .simp only[go_sem,-Nat.reducePow,l,v,QH u,r]
   apply Qf e;simp only[go_sem,-Nat.reducePow,l,v,QH u,r];refine⟨z,_,Qr.to 1 ⟨?_,by simp only[go_sem,-Nat.reducePow],?_,?_⟩,d++[a],(L.getD j default).parent,g+1,0,_,?_,by simp[C],t,rfl⟩
   .simp only[go_sem,-Nat.reducePow,B,Zo,Kc]
   .exact⟨t.upto Ph,trivial⟩
   .simp only[go_sem,-Nat.reducePow,Zo,Kc]
   .rw[show 69 - i=n by omega,<- f];simp
 .have m:i=70:=ω;subst m;rw[ZT,JZ]at f;rw[<- f];have p:decide (((70:Nat):Int)<70)=false:=π;apply Qf e;simp only[go_sem,-Nat.reducePow,p];apply Qf e;simp only[go_sem,-Nat.reducePow];exact⟨k.upto Ph,g,b,c,rfl,rfl,k⟩
def putAt(L:List Qm)(x:Qm):Nat->List Qm × Bool
 | 0=>([],false)
 | i+1=>
  let o:=if !(putAt L x i).2&&decide (x.iD<=(L.getD i default).iD) then (putAt L x i).1++[x] else (putAt L x i).1
  (if (L.getD i default).iD≠x.iD then o++[L.getD i default] else o,(putAt L x i).2 || decide (x.iD<=(L.getD i default).iD))
def CA(L:List Qm)(x:Qm):List Qm:=if (putAt L x L.length).2 then (putAt L x L.length).1 else (putAt L x L.length).1++[x]
def xV(x:Qm):List Qm->List Qm × Bool->List Qm × Bool
 | [],s=>s
 | c::r,s=>
  let o:=if !s.2&&decide (x.iD<=c.iD) then s.1++[x] else s.1
  xV x r (if c.iD≠x.iD then o++[c] else o,s.2 || decide (x.iD<=c.iD))
def Qho(x):∀(L:List Qm) (c:Qm) (s:List Qm × Bool),xV x (L++[c]) s=xV x [c] (xV x L s)
 | [],c,s=>rfl
 | d::L,c,s=>by simp only[qc];rw[xV,Qho x L c];rfl
def Qhp(L:List Qm)(x):∀i,i<=L.length->putAt L x i=xV x (L.take i) ([],false)
 | 0,_=>by simp[putAt,xV]
 | i+1,h=>by
  have a:i<L.length:=ω;rw[zD,QG a,BH,Qho,<- Qhp L x i ω];simp only[putAt,xV,QY,QG a,Ky]
def r9(x:Qm):∀(L o:List Qm),(∀c∈L,c.iD≠x.iD)->xV x L (o,true)=(o++L,true)
 | [],o,_=>by simp[xV]
 | c::L,o,h=>by
  have b:=h c σ;simp only[xV,Da,Gw,XZ,YF,RH];rw[Qe b,r9 x L _ λd a=>h d (by simp[a])];simp
def Qhq(x):∀(L o:List Qm),Wv L->(let s:=xV x L (o,false);if s.2 then s.1 else s.1++[x])=o++Vt L x
 | [],o,_=>by simp[xV,Vt]
 | c::L,o,h=>by
  have j:Wv L:=mJ h;have i:∀d∈L,c.iD<d.iD:=λd b=>(Ao.1 h).1 d b;simp only[xV,Vt,Gx,IB,IA,X4];by_cases f:x.iD<c.iD
  .have a:x.iD<=c.iD:=ω;have l:c.iD≠x.iD:=ω;rw[Qe f,Qe a,Qe l,QT a,r9 x L _ λd b=>by have:=i d b;omega];simp
  .by_cases a:c.iD=x.iD
   .have e:x.iD<=c.iD:=ω;rw[Qd f,Qe a,Qe e,Qd (show ¬ (c.iD≠x.iD) from λk=>k a),QT e,r9 x L _ λd b=>by have:=i d b;omega];simp
   .have e:¬ x.iD<=c.iD:=ω;have g:=Qhq x L (o++[c]) j;simp only at g;rw[Qd f,Qd a,Qd e,Qe a,QH e,g];simp
def Qhr{L}(h:Wv L)(x):CA L x=Vt L x:=by
 have:=Qhq x L [] h;simp only[jM]at this;rw[CA,Qhp L x _ (QB _),Wc,this]
structure Nc where
 a:Nat
 d:Nat
 b:Nat
instance:Inhabited Nc:=⟨⟨0,0,0⟩⟩
@[go_sem] def Nc.cells(c:Nc):List D:=[u64 c.a,u64 c.d,u64 c.b]
def Nc.rows(l:List Nc):Nat->List D:=λi=>(l.getD i default).cells
@[go_sem] theorem Nc.j4(l:List Nc)(i):Nc.rows l i=(l.getD i default).cells:=rfl
@[go_sem] def KO(l:List Nc):D:=.imm 3 l.length (Nc.rows l)
@[go_sem] def DS(c:Nc):D:=.agg c.cells
def Nc.of(c:Nc):Int:=Kt c.a c.d c.b
def Nc.Lt(c:Nc):Prop:=c.a<18446744073709551616/\c.d<18446744073709551616/\c.b<18446744073709551616
def Qhs(F:List Ob)(f a:Nat)(b:List D)(g:Nc->Nat):Prop:=∀(h:List Ob) (c:Nc),c.Lt->VQ F h->Zi prog f h (Z6 a b [DS c]) (λd=>d=num (g c))
def XF(g:Nc->Nat)(s:Nat)(c:Nc):Nat:=if c.of=0 then s else s+g c
def kf(g:Nc->Nat)(l:List Nc):Nat:=l.foldl (XF g) 0
def Pj{g}{M}(a:∀c:Nc,c.Lt->g c<=M):∀{l:List Nc} {s:Nat},(∀c∈l,c.Lt)->l.foldl (XF g) s<=s+l.length*M
 | [],s,_=>σ
 | c::l,s,h=>by
  have e:=a c (h c σ);have d:=Pj a (l:=l) (s:=XF g s c) λx hx=>h x (by simp[hx]);have b:XF g s c<=s+M:=by unfold XF;split<;>omega
  simp only[v8,Vo,VM,NJ];omega
def Mq(n:Nat):Ob:=⟨.one,0,2,1,λ_=>[u64 (n / 18446744073709551616),u64 (n % 18446744073709551616)]⟩
structure OvI (l:List Nc) (so:D) (g:Nc->Nat) (F:List Ob) (i:Nat) (s:St):Prop where
 ex:∃G:List Ob,s=⟨[(1,so),(4,.ptr F.length 0 0 0),(5,.ptr (F.length+1) 0 0 0),(8,KO l),(9,Qb l.length),(10,Qb i)],F++(Mq 0::Mq ((l.take i).foldl (XF g) 0)::G)⟩
def Qht(h:List Ob)(l:List Nc)(P:l.length<1048576)(t:∀c∈l,c.Lt)(j:D)(f q:Nat)(y:List D)(I:Qn prog f)(M:JF j=some (f,q,y))(g:Nc->Nat)(C:∀c:Nc,c.Lt->g c<=2 ^ 97)
  (H:Qhs (h.map Ob.ro) f q y g):Zi prog 229 h [KO l,j] (λd=>d=num (kf g l)):=by
 refine ZJ func229 ntmps229 results229 λE w O F K T b=>?_;simp only[go_sem,Qa];refine ZW (OvI l j g F) l.length (s0:=⟨[(1,j),(4,.ptr F.length 0 0 0),(5,.ptr (F.length+1) 0 0 0),(8,KO l),(9,Qb l.length),(10,Qb 0)],F++[Mq 0,Mq 0]⟩) QQ ⟨[],rfl⟩ ?_;rintro i s r ⟨G,rfl⟩;have z:=JT (show i<4611686018427387904 from ω);obtain⟨S,k⟩:∃S,S=(l.take i).foldl (XF g) 0:=⟨_,rfl⟩;have U:S<=2 ^ 117:=by
  have R:=Pj C (l:=l.take i) (s:=0) λx hx=>t x (bg hx);have L:(l.take i).length<=1048576:=ξ;have Q:=XL (2 ^ 97) L;rw[k];omega
 rw[<- k];apply QP b;first|refine WS r (λa=>?_) (λa=>?_)|refine WT r (λa=>?_) (λa=>?_)
 .obtain⟨c,p⟩:∃c,c=l.getD i default:=⟨_,rfl⟩;have u:c.Lt:=t c (by rw[p,QY,QG a];exact X0 a);have v:(l.take (i+1)).foldl (XF g) 0=XF g S c:=by
   rw[zD,QG a,BH,qd,k,p,QY,QG a];rfl
  simp only[go_sem,Qa,a,<- p];apply Yy b OH (r8 c.a c.d c.b);apply QP b;by_cases m:c.of=0
  .have o:Kt c.a c.d c.b=0:=m;have n:XF g S c=S:=by rw[XF,Qe m]
   simp only[go_sem,Qa,WC o,bne];refine⟨a,_,Qr.frame (fr':=[(1,j),(4,.ptr F.length 0 0 0),(5,.ptr (F.length+1) 0 0 0),(8,KO l),(9,Qb l.length),(10,Qb (i+1:Nat))]) (by simp only[go_sem,z]),⟨_,by rw[v,n]⟩⟩
  .have o:Kt c.a c.d c.b≠0:=m;have n:XF g S c=S+g c:=by rw[XF,Qd m]
   have N:=C c u;simp only[go_sem,Qa,VU o,bne];have B:=TJ S (g c) ω ω;rw[Aq (by omega:S+g c<2 ^ 128)]at B;apply Qx b [0,1,2,1003,1004,5,6,7,1008];simp only[go_sem,Qa,Mq];refine OA b I M ?_ (H _ c u (by rw[<- K];exact⟨_,rfl⟩)) rfl λd2 J=>?_
   .simp only[go_sem];exact DL _
   subst J;apply YQ b;apply S3 b SV B;apply YQ b;refine⟨a,_,Qr.frame (fr':=[(1,j),(4,.ptr F.length 0 0 0),(5,.ptr (F.length+1) 0 0 0),(8,KO l),(9,Qb l.length),(10,Qb (i+1:Nat))]) (by simp only[go_sem,z]),⟨G++[⟨.one,0,3,1,λ_=>c.cells⟩],?_⟩⟩;rw[v,n];rfl
 .subst a;rw[Wc]at k;have e:kf g l=S:=k.symm;rw[e];apply Qf b;simp only[go_sem,Qa,Mq];exact⟨_,rfl⟩
def Qwc(h)(c:Nc)(e:c.Lt):Zi prog 232 h [DS c] (λd=>d=num c.b):=by
 refine ZJ func232 ntmps232 results232 λb w f F g i a=>?_;simp only[go_sem,Qa];apply Yy a Qfn (QgY c.b e.2.2);apply QP a;exact⟨_,rfl⟩
def Qwd(l:List Nc)(e:l.length<1048576)(a:∀c∈l,c.Lt):QI prog 180 [KO l] (QO (num (kf (λc=>c.b) l))):=by
 refine QZ 0 func180 ntmps180 results180 λd w b=>?_;simp only[go_sem];refine XR b Qfm rfl ?_ (Qht _ l e a (.raw (.func (.func 232) ⟨[]⟩ ⟨[]⟩)) 232 0 [] Qto rfl (λc=>c.b) (λc h=>by have:=h.2.2;omega) (λg c a _=>Qwc g c a)) rfl λd2 f=>?_
 .simp only[go_sem]
 subst f;exact Yc b
def Qwe(h:List Ob)(f t)(i:t<18446744073709551616)(c:Nc)(a:(h.map Ob.ro)[f]? = some ⟨.Wh,0,1,1,λ_=>[u64 t]⟩):Zi prog 230 h [DS c,.ptr f 0 0 0] (λd=>d=num (Xi c.a c.d c.b t)):=by
 refine ZJ func230 ntmps230 results230 λg w k F j l e=>?_;rw[<- j]at a;have b:=Qc a;simp only[go_sem,Qa,a,b];refine ZO e Qtn ?_ (QvZ c.a c.d c.b t i) ?_
 .simp only[go_sem,Qa,a,b]
 apply Qf e;simp only[go_sem,Qa,a,b];exact⟨_,rfl⟩
def Qwf(l:List Nc)(t)(a:t<18446744073709551616)(f:l.length<1048576)(b:∀c∈l,c.Lt):QI prog 179 [KO l,u64 t] (QO (num (kf (λc=>Xi c.a c.d c.b t) l))):=by
 have j:∀c:Nc,c.Lt->Xi c.a c.d c.b t<=2 ^ 97:=λc _=>by have:=Qhb c.a c.d c.b t a;omega
 refine QZ 0 func179 ntmps179 results179 λe w d=>?_;simp only[go_sem];have h:Qhs (([⟨.one,0,1,1,λ_=>[u64 t]⟩,Mq 0]:List Ob).map Ob.ro) 230 0 [.ptr 0 0 0 0] (λc=>Xi c.a c.d c.b t):=λk c b hx=>by
  obtain⟨g,rfl⟩:=hx;exact Qwe _ 0 t a c rfl
 refine XR d Qfm rfl ?_ (Qht _ l f b (.clo 230 0 [.ptr 0 0 0 0]) 230 0 [.ptr 0 0 0 0] Qtm rfl (λc=>Xi c.a c.d c.b t) j h) rfl λd2 i=>?_
 .simp only[go_sem]
 subst i;exact Yc d
@[go_sem] theorem Ln.QGU(l:Ln):l.cells=[u64 l.x,u64 (l.y / 18446744073709551616),u64 (l.y % 18446744073709551616),u64 l.m]:=rfl
def xW(c:Nc)(x y:Nat):Rn:=
 if c.of=2\/c.of=4 then ⟨⟨0,0,0⟩,⟨x,y,c.b⟩,false⟩
 else if c.of=3 then ⟨⟨x,y,c.a⟩,⟨x,(y+(c.a - c.b)*c.d) % 2 ^ 128,c.b⟩,true⟩
 else ⟨⟨0,0,0⟩,⟨x,y,0⟩,false⟩
def Wx(c:Nc)(x y:Nat):Rn:=
 if c.of=4 then ⟨⟨0,0,0⟩,⟨(x+c.d) % 18446744073709551616,y,c.b⟩,false⟩ else xW c x y
def Ln.vH:(⟨0,0,0⟩:Ln).Ok:=⟨π,π,π⟩
def gI{c:Nc}(d:c.Lt){x y:Nat}(a:x<18446744073709551616)(b:y<2 ^ 128):(xW c x y).Ok:=by
 unfold xW;split
 .exact⟨Ln.vH,a,b,d.2.2⟩
 .split
  .exact⟨⟨a,b,d.1⟩,a,Xx _ π,d.2.2⟩
  .exact⟨Ln.vH,a,b,(by decide:(0:Nat)<18446744073709551616)⟩
def Ms{c:Nc}(b:c.Lt){x y:Nat}(d:x<18446744073709551616)(a:y<2 ^ 128):(Wx c x y).Ok:=by
 unfold Wx;split
 .exact⟨Ln.vH,Xx _ π,a,b.2.2⟩
 .exact gI b d a
def sf{c:Nc}(e:c.of=2\/c.of=4)(x y):xW c x y=⟨⟨0,0,0⟩,⟨x,y,c.b⟩,false⟩:=Qe e
def Qwg{c:Nc}(e:c.of=3)(x y):xW c x y=⟨⟨x,y,c.a⟩,⟨x,(y+(c.a - c.b)*c.d) % 2 ^ 128,c.b⟩,true⟩:=by unfold xW;rw[Qd ω,Qe e]
def Qhu{c:Nc}(e:c.of=0\/c.of=1)(x y):xW c x y=⟨⟨0,0,0⟩,⟨x,y,0⟩,false⟩:=by unfold xW;rw[Qd ω,Qd ω]
def Qhv(c:Nc)(d:c.Lt)(x y:Nat)(h:x<18446744073709551616)(g:y<2 ^ 128):QI prog 198 [DS c,u64 x,num y] (QO (.agg (xW c x y).cells)):=by
 refine QZ 0 func198 ntmps198 results198 λf w a=>?_;simp only[go_sem];apply Jp a Fl (TP c.a c.d c.b);apply QV a;rcases Qha c.a c.d c.b with e|e|e|e|e
 .rw[Qhu (.inl e)];simp only[go_sem,e]
 .rw[Qhu (.inr e)];simp only[go_sem,e]
 .rw[sf (.inl e)];simp only[go_sem,e]
 .have i:c.b<c.a/\c.a<=4294967295:=by
   unfold Kt at e
   repeat' (split at e)
   all_goals first|omega|contradiction
  have b:=Th c.a c.b ω ω;rw[Qwg e];simp only[go_sem,e,b];apply Qx a o09;simp only[go_sem,b];refine Vb a Cb ?_ (Ct (c.a - c.b) c.d ω d.2.1) ?_
  .simp only[go_sem,b]
  apply Zk a;simp only[go_sem,b];refine Vb a SV ?_ (TJ y ((c.a - c.b)*c.d) g (Qhc ω d.2.1)) ?_
  .simp only[go_sem,b]
  apply Zk a;simp only[go_sem,b]
 .rw[sf (.inr e)];simp only[go_sem,e]
def sg(c:Nc)(h:c.Lt)(x y:Nat)(g:x<18446744073709551616)(f:y<2 ^ 128):QI prog 197 [DS c,u64 x,num y] (QO (.agg (Wx c x y).cells)):=by
 refine QZ 0 func197 ntmps197 results197 λd w a=>?_;simp only[go_sem];apply Jp a Qfe (Qhv c h x y g f);apply QV a;apply Jp a Fl (TP c.a c.d c.b);apply QV a;by_cases e:c.of=4
 .have b:Kt c.a c.d c.b=4:=e;rw[sf (.inr e),show Wx c x y=⟨⟨0,0,0⟩,⟨(x+c.d) % 18446744073709551616,y,c.b⟩,false⟩ from Qe e];simp only[go_sem,b,Ci]
 .have b:(Kt c.a c.d c.b==4)=false:=by simpa[Nc.of] using e
  rw[show Wx c x y=xW c x y from Qd e];simp only[go_sem,b]
def zW(a b:Rn):Rn:=⟨if a.b then FN a.f b.f else ⟨0,0,0⟩,FN a.t b.t,a.b⟩
def si{a b:Rn}(d:a.Ok)(c:b.Ok):(zW a b).Ok:=by
 refine⟨?_,Qhi d.t c.t⟩;unfold zW;dsimp only;split
 .exact Qhi d.f c.f
 .exact Ln.vH
def gJ(a b:Rn)(d:a.Ok)(e:b.Ok):QI prog 196 [.agg a.cells,.agg b.cells] (QO (.agg (zW a b).cells)):=by
 refine QZ 0 func196 ntmps196 results196 λf w c=>?_;simp only[go_sem];apply Qx c [0,1,2,3,5,6,1004,7,1008,1009];simp only[go_sem];apply Kw c Qfo (Qhj a.t b.t d.t e.t);apply VD c;cases h:a.b with
 | true=>
  rw[show zW a b=⟨FN a.f b.f,FN a.t b.t,true⟩ from by unfold zW;rw[h];rfl];simp only[go_sem,h];apply Jp c Qfo (Qhj a.f b.f d.f e.f);exact Yc c
 | false=>
  rw[show zW a b=⟨⟨0,0,0⟩,FN a.t b.t,false⟩ from by unfold zW;rw[h];rfl];simp only[go_sem,h]
def zX(r:Rn)(w:Nat):Nat:=if r.b then max (Cz r.f w) (Cz r.t w) else Cz r.t w
def TS(r)(w):zX r w<=never:=by
 have:=Qhf r.f w;have:=Qhf r.t w;unfold zX;split<;>omega
def Qwh(r:Rn):QI prog 252 [.agg r.cells] (QO (.agg ((if r.b then r.f else r.t).cells++r.t.cells))):=by
 refine QZ 0 func252 ntmps252 results252 λa w b=>?_;simp only[go_sem];cases h:r.b with
 | true=>
  simp only[go_sem,h]
 | false=>
  simp only[go_sem,h]
def Bh(a:Nat):max (0:Int) (a:Int)=(a:Int):=ω
def gK(r:Rn)(f:r.Ok)(v)(e:v<2 ^ 128):QI prog 210 [.agg r.cells,num v] (QO (u64 (zX r v))):=by
 have d:∀a b:Nat,max (a:Int) (b:Int)=((max a b:Nat):Int):=λa b=>ω;refine QZ 0 func210 ntmps210 results210 λg w c=>?_;simp only[go_sem];apply Jp c Qtu (Qwh r);apply QV c;cases h:r.b with
 | true=>
  rw[show zX r v=max (Cz r.f v) (Cz r.t v) from by unfold zX;rw[h];rfl];simp only[go_sem,h];refine xJ 2 ?_;apply QV c;refine ZO c fu ?_ (gG r.f f.f v e) ?_
  .simp only[go_sem,Bh]
  apply Qf c;simp only[go_sem,Bh];apply Qf c;simp only[go_sem,Bh];apply Qf c;simp only[go_sem,Bh];refine ZO c fu ?_ (gG r.t f.t v e) ?_
  .simp only[go_sem,Bh,d]
  apply Qf c;simp only[go_sem,Bh,d];apply Qf c;simp only[go_sem,d];apply Qf c;simp only[go_sem,d]
 | false=>
  rw[show zX r v=max (Cz r.t v) (Cz r.t v) from by unfold zX;rw[h];simp];simp only[go_sem,h];refine xJ 2 ?_;apply QV c;refine ZO c fu ?_ (gG r.t f.t v e) ?_
  .simp only[go_sem,Bh]
  apply Qf c;simp only[go_sem,Bh];apply Qf c;simp only[go_sem,Bh];apply Qf c;simp only[go_sem,Bh];refine ZO c fu ?_ (gG r.t f.t v e) ?_
  .simp only[go_sem,Bh,d]
  apply Qf c;simp only[go_sem,Bh,d];apply Qf c;simp only[go_sem,d];apply Qf c;simp only[go_sem,d]
def Xt(n:Nat):Nat:=n % 18446744073709551616
def Mt(n):Xt n<18446744073709551616:=Xx _ π
def Qhw(a b:Nat):IntKind.u64.wrap ((a:Int)+(b:Int))=((Xt (a+b):Nat):Int):=Ci a b
structure Du where
 has:Bool
 dl:Rn
 rd:Rn
 JU:Nat
 YC:Nat
 dead:Nat
deriving DecidableEq
instance:Inhabited Du:=⟨⟨false,default,default,0,0,0⟩⟩
structure Du.Ok (d:Du):Prop where
 dl:d.dl.Ok
 rd:d.rd.Ok
 JU:d.JU<18446744073709551616
 YC:d.YC<=never
 dead:d.dead<=never
@[go_sem] def Du.cells(d:Du):List D:=[QX d.has,u64 d.dl.f.x,u64 (d.dl.f.y / 18446744073709551616),u64 (d.dl.f.y % 18446744073709551616),u64 d.dl.f.m,u64 d.dl.t.x,u64 (d.dl.t.y / 18446744073709551616),u64 (d.dl.t.y % 18446744073709551616),u64 d.dl.t.m,QX d.dl.b,
 u64 d.rd.f.x,u64 (d.rd.f.y / 18446744073709551616),u64 (d.rd.f.y % 18446744073709551616),u64 d.rd.f.m,u64 d.rd.t.x,u64 (d.rd.t.y / 18446744073709551616),u64 (d.rd.t.y % 18446744073709551616),u64 d.rd.t.m,QX d.rd.b,u64 d.JU,u64 d.YC,u64 d.dead]
def CC(l:Du)(a:Int):Du:=
 if 0<a then ⟨l.has,l.dl,l.rd,l.JU,zX l.rd (l.JU*65536),zX l.dl (Xt (l.JU+a.toNat)*65536)⟩ else ⟨l.has,l.dl,l.rd,l.JU,never,never⟩
def sj{l:Du}(d:l.dl.Ok)(c:l.rd.Ok)(b:l.JU<18446744073709551616)(a:Int):(CC l a).Ok:=by
 unfold CC;split
 .exact⟨d,c,b,TS _ _,TS _ _⟩
 .exact⟨d,c,b,QB _,QB _⟩
def gL(n)(c:n<18446744073709551616):QI prog 195 [u64 n] (QO (num (n*65536))):=by
 refine QZ 0 func195 ntmps195 results195 λb w a=>?_;simp only[go_sem];apply Jp a Cb (Ct n 65536 c π);exact Yc a
def Mu{n:Int}(b:0<=n)(a:n<18446744073709551616):IntKind.u64.wrap n=((n.toNat:Nat):Int):=η
def ss(l:Du)(g:l.dl.Ok)(f:l.rd.Ok)(d:l.JU<18446744073709551616)(a:Int)(k:a<9223372036854775808):QI prog 199 [.agg l.cells,Qb a] (QO (.agg (CC l a).cells)):=by
 have e:∀n:Nat,n<18446744073709551616->n*65536<2 ^ 128:=λn j=>ω;by_cases h:0<a
 .have d1:=QT h;have i:=Mu (n:=a) ω ω;rw[show CC l a=⟨l.has,l.dl,l.rd,l.JU,zX l.rd (l.JU*65536),zX l.dl (Xt (l.JU+a.toNat)*65536)⟩ from Qe h];refine QZ 0 func199 ntmps199 results199 λc w b=>?_;simp only[go_sem];simp only[go_sem,d1];apply Qx b [0,1,2,3,1004,1005,6,1007];simp only[go_sem];apply Kw b fm (gL l.JU d);apply VD b;apply Kw b fp (gK l.rd f (l.JU*65536) (e _ d));apply VD b;apply Qx b [0,1,2,3,4,5,6,1007,1008,9,1010];simp only[go_sem,i,Qhw];apply Kw b fm (gL (Xt (l.JU+a.toNat)) (Mt _));apply VD b;apply Kw b fp (gK l.dl g (Xt (l.JU+a.toNat)*65536) (e _ (Mt _)));exact Hn b
 .have d1:=QH h;rw[show CC l a=⟨l.has,l.dl,l.rd,l.JU,never,never⟩ from Qd h];refine QZ 0 func199 ntmps199 results199 λc w b=>?_;simp only[go_sem];simp only[go_sem,d1];rfl
def gM(l:Du)(b a:Int):Du:=CC { l with JU:=Xt (l.JU+b.toNat) } a
def Qwi(l:Du)(g:l.dl.Ok)(f:l.rd.Ok)(m:l.JU<18446744073709551616)(b a:Int)(j:0<=b)(k:b<9223372036854775808)(e:a<9223372036854775808):QI prog 211 [.agg l.cells,Qb b,Qb a] (QO (.agg (gM l b a).cells)):=by
 have i:max b 0=b:=ω;have h:=Mu (n:=b) j ω;refine QZ 0 func211 ntmps211 results211 λd w c=>?_;simp only[go_sem];simp only[go_sem,i,h,Qhw];apply Jp c o7 (ss { l with JU:=Xt (l.JU+b.toNat) } g f (Mt _) a e);apply QV c;rfl
def Qwj(l:Du)(g:l.dl.Ok)(f:l.rd.Ok)(e:l.JU<18446744073709551616)(a:Int)(d:a<9223372036854775808):QI prog 213 [.agg l.cells,Qb a] (QO (.agg (CC l a).cells)):=by
 refine QZ 0 func213 ntmps213 results213 λc w b=>?_;simp only[go_sem];apply Jp b o7 (ss l g f e a d);exact Yc b
end Go.Fg.X
