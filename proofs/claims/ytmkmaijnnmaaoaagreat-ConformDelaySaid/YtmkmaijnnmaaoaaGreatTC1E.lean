/- Contracts and laws on the way to the statement. No conditions. -/
import Derived.Test.YtmkmaijnnmaaoaaGreatCA2E
import Derived.Shelf.SlMaps.Clone
set_option maxRecDepth 100000
set_option maxHeartbeats 16000000
set_option linter.unusedVariables false
set_option linter.unusedSimpArgs false
set_option linter.unusedSectionVars false
set_option linter.defProp false
namespace Go.Fg.X
open Go.Proofs Go.Fg
open Go.Proofs.Tryz
def r8(a)(i)(b)(j):Q9 prog 254 [.agg [u64 a,Qb i],.agg [u64 b,Qb j]] (Zp (Qb (zV a i b j))):=by
 refine ZH 0 func254 ntmps254 results254 λc w d=>?_;simp only[go_sem]
 repeat' (first|((first|refine FF (λh=>?_) (λh=>?_)|refine FG (λh=>?_) (λh=>?_)|refine FH (λh=>?_) (λh=>?_)|refine q7 (λh=>?_) (λh=>?_)|refine FI (λh=>?_) (λh=>?_)|refine FJ (λh=>?_) (λh=>?_)|refine FK (λh=>?_) (λh=>?_)|refine FC (λh=>?_) (λh=>?_))<;>(try simp only[go_sem,Go.undef]))|(refine And.intro η ?_;try simp only[go_sem,Go.undef])|fail)
 all_goals (congr 2;(try simp only[ZX,Lf,B3,Ds,jr,j5,bne_iff_ne,bne_eq_false_iff_eq,Xd,Fb,ne_eq]at *);(try unfold zV KG);(repeat' split)<;>omega)
def Po(x y:It):Q9 prog 229 [.agg x.cells,.agg y.cells] (Zp (.agg (kB x y).cells)):=by
 have e:=r8 y.va y.vi x.va x.vi;have c2:=r8 y.ka y.ki x.ka x.ki;simp only[kB];generalize zV y.va y.vi x.va x.vi=p at *;generalize zV y.ka y.ki x.ka x.ki=q at *;refine ZH 0 func229 ntmps229 results229 λb w a=>?_;simp only[go_sem];apply JW a rj e;apply Za a
 repeat' (first|((first|refine FF (λh=>?_) (λh=>?_)|refine FG (λh=>?_) (λh=>?_)|refine FH (λh=>?_) (λh=>?_)|refine q7 (λh=>?_) (λh=>?_)|refine FI (λh=>?_) (λh=>?_)|refine FJ (λh=>?_) (λh=>?_)|refine FK (λh=>?_) (λh=>?_)|refine FC (λh=>?_) (λh=>?_))<;>(try simp only[go_sem,Go.undef]))|(refine And.intro η ?_;try simp only[go_sem,Go.undef])|(refine kv a [] rj rfl ?_ (c2) rfl ?_;(· simp only[go_sem,Go.undef]);intro d h c;obtain⟨rfl,rfl⟩:=c;(simp only[go_sem,Go.undef]);apply Qh a;simp only[go_sem,Go.undef])|fail)
 all_goals (try simp only[jr,j5,ne_eq]at *);(first|rw[Qf ω]|rw[Qe ω])
section
variable {h:List Ob}{t:Tr}(i:jz h t)
include i
theorem vM:Zf prog 268 h [t.ptr] (λd=>d=Qb t.high):=by
 cases t with
 | nil=>
  refine ZD func268 ntmps268 results268 λa w e F c g f=>?_;simp only[go_sem,Qa];exact⟨[],by simp[Tr.high]⟩
 | node k m l r=>
  have b:=i.1;refine ZD func268 ntmps268 results268 λa w e F c g f=>?_;rw[<- c]at b;have j:=Qc b;simp only[go_sem,Qa,b,j];exact⟨[],σ⟩
theorem FZ:Zf prog 269 h [t.ptr] (λd=>d=Qb t.size):=by
 cases t with
 | nil=>
  refine ZD func269 ntmps269 results269 λa w e F c g f=>?_;simp only[go_sem,Qa];exact⟨[],by simp[Tr.size]⟩
 | node k m l r=>
  have b:=i.1;refine ZD func269 ntmps269 results269 λa w e F c g f=>?_;rw[<- c]at b;have j:=Qc b;simp only[go_sem,Qa,b,j];exact⟨[],σ⟩
theorem r9(n):Zf prog 270 h [t.ptr,u64 n] (λd=>d=QZ (t.hasB n)):=by
 cases t with
 | nil=>
  refine ZD func270 ntmps270 results270 λa w e F c g f=>?_;simp only[go_sem,Qa];exact⟨[],by simp[Tr.hasB]⟩
 | node k m l r=>
  have b:=i.1;refine ZD func270 ntmps270 results270 λa w e F c g f=>?_;rw[<- c]at b;have j:=Qc b;simp only[go_sem,Qa,b,j];exact⟨[],by simp[Tr.hasB]⟩
end
structure Raw (h:List Ob) (loc:Nat) (it:It) (l r:Tr) (le:It) (hi n:Int):Prop where
 o:h[loc]? = some (FW it l.ptr r.ptr le hi n)
 il:Vs h l
 ir:Vs h r
def Vs.set{h:List Ob}{t:Tr}(i:Vs h t){k}(o)(a:k ∉ t.QP):Vs (h.set k o) t:=i.frame λl b=>Qm λe=>a (e▸b)
def Ec{h}{loc}{it}{l r:Tr}{le}{hi n}(i:Raw h loc it l r le hi n)(L:l.size<1000000)(M:r.size<1000000)(z:loc ∉ l.QP)(y:loc ∉ r.QP):
  QI prog 246 h [.ptr loc 0 0 0] (λd I=>I=h.set loc (FW it l.ptr r.ptr (Tr.node loc it l r).least ((Tr.node loc it l r).high:Nat) ((Tr.node loc it l r).size:Nat))):=by
 have f:=i.o;have s:=i.il;have q:=i.ir;have K:=l.Pj;have J:=r.Pj;have x:max (l.high:Int) (r.high:Int)=((max l.high r.high:Nat):Int):=ω;have v:IntKind.i64.wrap (1+((max l.high r.high:Nat):Int))=((1+max l.high r.high:Nat):Int):=ZK;have u:IntKind.i64.wrap (1+(l.size:Int))=((1+l.size:Nat):Int):=ZK;have t:IntKind.i64.wrap (((1+l.size:Nat):Int)+(r.size:Int))=((1+l.size+r.size:Nat):Int):=ZK;rcases l with _|⟨a,b,c,d⟩<;>rcases r with _|⟨B,H,F,E⟩
 .simp only[Tr.HM,Tr.Eb]at f;refine Q3 func246 ntmps246 results246 λp w C g=>?_;have e:=Qc f;simp only[go_sem,Qa,f,e];apply QB g o03;simp only[go_sem,Qa,f,e];apply WZ g vH (vM s.toR);apply Zd g;simp only[go_sem,Qa,f,e];refine qz g vH ?_ (vM q.toR) ?_
  .simp only[go_sem,Qa,f,e,x,v]
  apply Zd g;simp only[go_sem,Qa,f,e,x,v];apply QB g o04;simp only[go_sem,Qa,f,e,Qy e];refine qz g FM ?_ (FZ (s.set _ z).toR) ?_
  .simp only[go_sem,Qa,f,e,Qy e,u]
  apply Zd g;simp only[go_sem,Qa,f,e,Qy e,u];refine qz g FM ?_ (FZ (q.set _ y).toR) ?_
  .simp only[go_sem,Qa,f,e,Qy e,t]
  apply Zd g;simp only[go_sem,Qa,f,e,Qy e,t];refine x8 2 ?_;apply Qh g;simp only[go_sem,Qa,f,e,Qy e];apply Qh g;simp only[go_sem,Qa,f,e,Qy e];apply Qh g;simp only[go_sem,Qa,f,e,Qy e];rfl
 .simp only[Tr.HM,Tr.Eb]at f;have o:=q.1;have k:loc≠B:=by rintro rfl;exact y (by simp[Tr.QP])
  refine Q3 func246 ntmps246 results246 λp w C g=>?_;have e:=Qc f;simp only[go_sem,Qa,f,e];apply QB g o03;simp only[go_sem,Qa,f,e];apply WZ g vH (vM s.toR);apply Zd g;simp only[go_sem,Qa,f,e];refine qz g vH ?_ (vM q.toR) ?_
  .simp only[go_sem,Qa,f,e,x,v]
  apply Zd g;simp only[go_sem,Qa,f,e,x,v];apply QB g o04;simp only[go_sem,Qa,f,e,Qy e];refine qz g FM ?_ (FZ (s.set _ z).toR) ?_
  .simp only[go_sem,Qa,f,e,Qy e,u]
  apply Zd g;simp only[go_sem,Qa,f,e,Qy e,u];refine qz g FM ?_ (FZ (q.set _ y).toR) ?_
  .simp only[go_sem,Qa,f,e,Qy e,t]
  apply Zd g;simp only[go_sem,Qa,f,e,Qy e,t];refine x8 2 ?_;apply Qh g;simp only[go_sem,Qa,f,e,Qy e,o,Qm k];apply Qh g;simp only[go_sem,Qa,f,e,Qy e,o,Qm k];apply QB g o02;simp only[go_sem,Qa,f,e,Qy e,o,Qm k];refine KJ g O1 ?_ (Po it (Tr.node B H F E).least) ?_
  .simp only[go_sem,Qa,f,e,Qy e,o,Qm k]
  apply Zd g;simp only[go_sem,Qa,f,e,Qy e,o,Qm k];apply Qh g;simp only[go_sem,Qa,f,e,Qy e,o,Qm k];rfl
 .simp only[Tr.HM,Tr.Eb]at f;have j:=s.1;have m:loc≠a:=by rintro rfl;exact z (by simp[Tr.QP])
  refine Q3 func246 ntmps246 results246 λp w C g=>?_;have e:=Qc f;simp only[go_sem,Qa,f,e];apply QB g o03;simp only[go_sem,Qa,f,e];apply WZ g vH (vM s.toR);apply Zd g;simp only[go_sem,Qa,f,e];refine qz g vH ?_ (vM q.toR) ?_
  .simp only[go_sem,Qa,f,e,x,v]
  apply Zd g;simp only[go_sem,Qa,f,e,x,v];apply QB g o04;simp only[go_sem,Qa,f,e,Qy e];refine qz g FM ?_ (FZ (s.set _ z).toR) ?_
  .simp only[go_sem,Qa,f,e,Qy e,u]
  apply Zd g;simp only[go_sem,Qa,f,e,Qy e,u];refine qz g FM ?_ (FZ (q.set _ y).toR) ?_
  .simp only[go_sem,Qa,f,e,Qy e,t]
  apply Zd g;simp only[go_sem,Qa,f,e,Qy e,t];refine x8 2 ?_;apply Qh g;simp only[go_sem,Qa,f,e,Qy e,j,Qm m];apply QB g o02;simp only[go_sem,Qa,f,e,Qy e,j,Qm m];refine KJ g O1 ?_ (Po it (Tr.node a b c d).least) ?_
  .simp only[go_sem,Qa,f,e,Qy e,j,Qm m]
  apply Zd g;simp only[go_sem,Qa,f,e,Qy e,j,Qm m];apply Qh g;simp only[go_sem,Qa,f,e,Qy e,j,Qm m];apply Qh g;simp only[go_sem,Qa,f,e,Qy e,j,Qm m];rfl
 .simp only[Tr.HM,Tr.Eb]at f;have j:=s.1;have m:loc≠a:=by rintro rfl;exact z (by simp[Tr.QP])
  have o:=q.1;have k:loc≠B:=by rintro rfl;exact y (by simp[Tr.QP])
  refine Q3 func246 ntmps246 results246 λp w C g=>?_;have e:=Qc f;simp only[go_sem,Qa,f,e];apply QB g o03;simp only[go_sem,Qa,f,e];apply WZ g vH (vM s.toR);apply Zd g;simp only[go_sem,Qa,f,e];refine qz g vH ?_ (vM q.toR) ?_
  .simp only[go_sem,Qa,f,e,x,v]
  apply Zd g;simp only[go_sem,Qa,f,e,x,v];apply QB g o04;simp only[go_sem,Qa,f,e,Qy e];refine qz g FM ?_ (FZ (s.set _ z).toR) ?_
  .simp only[go_sem,Qa,f,e,Qy e,u]
  apply Zd g;simp only[go_sem,Qa,f,e,Qy e,u];refine qz g FM ?_ (FZ (q.set _ y).toR) ?_
  .simp only[go_sem,Qa,f,e,Qy e,t]
  apply Zd g;simp only[go_sem,Qa,f,e,Qy e,t];refine x8 2 ?_;apply Qh g;simp only[go_sem,Qa,f,e,Qy e,j,Qm m,o,Qm k];apply QB g o02;simp only[go_sem,Qa,f,e,Qy e,j,Qm m,o,Qm k];refine KJ g O1 ?_ (Po it (Tr.node a b c d).least) ?_
  .simp only[go_sem,Qa,f,e,Qy e,j,Qm m,o,Qm k]
  apply Zd g;simp only[go_sem,Qa,f,e,Qy e,j,Qm m,o,Qm k];apply Qh g;simp only[go_sem,Qa,f,e,Qy e,j,Qm m,o,Qm k];apply QB g o02;simp only[go_sem,Qa,f,e,Qy e,j,Qm m,o,Qm k];refine KJ g O1 ?_ (Po (kB it (Tr.node a b c d).least) (Tr.node B H F E).least) ?_
  .simp only[go_sem,Qa,f,e,Qy e,j,Qm m,o,Qm k]
  apply Zd g;simp only[go_sem,Qa,f,e,Qy e,j,Qm m,o,Qm k];apply Qh g;simp only[go_sem,Qa,f,e,Qy e,j,Qm m,o,Qm k];rfl
def sb{h:List Ob}{lx ly}{B K}{a b c:Tr}{e O}{p N q M}(v:h[lx]? = some (FW B (.ptr ly 0 0 0) c.ptr e p N))(u:h[ly]? = some (FW K a.ptr b.ptr O q M))
  (L:Vs h a) (E:Vs h b) (C:Vs h c) (V:(lx::ly::(a.QP++b.QP++c.QP)).Nodup) (W:a.size+b.size+c.size<900000) :
  QI prog 274 h [.ptr lx 0 0 0,Qb 0] (λd y=>d=.ptr ly 0 0 0/\Vs y (.node ly K a (.node lx B b c))/\y.length=h.length/\∀l,l≠lx->l≠ly->y[l]? = h[l]?):=by
 have P:=V;simp only[Z8,QG,QX,qV]at P;obtain⟨⟨I,⟨s,i⟩,g⟩,⟨⟨t,m⟩,k⟩,_⟩:=P;have z:ly≠lx:=Q8 I;rcases b with _|⟨T,S,R,Q⟩
 .simp only[Tr.HM,Tr.Eb]at v u;refine Q3 func274 ntmps274 results274 λJ w U j=>?_;have f:=Qc v;have o:=Qc u;simp only[go_sem,Qa,v,f,u,o];apply QB j i5;simp only[go_sem,Qa,v,f,u,o,Qm I,Qy f];refine VY j DV rfl ?_ (Ec (loc:=lx) (l:=Tr.nil) (r:=c) (it:=B) (hi:=p) (n:=N) (le:=e) ⟨?_,?_,?_⟩ ?_ ?_ i g) rfl λd y x=>?_
  .simp only[go_sem]
  .rw[Qm z,Qy f];rfl
  .exact(E.set _ i).set _ m
  .exact(C.set _ g).set _ k
  .omega
  .omega
  subst x;apply QM j;refine VY j DV rfl ?_ (Ec (loc:=ly) (l:=a) (r:=(.node lx B Tr.nil c)) (it:=K) (hi:=q) (n:=M) (le:=O) ⟨?_,?_,?_⟩ ?_ ?_ ?_ ?_) rfl λd y x=>?_
  .simp only[go_sem]
  .rw[Qm I,Qy (by simpa using o)];rfl
  .exact((L.set _ s).set _ t).set _ s
  .exact⟨Qy (by simpa using f),((E.set _ i).set _ m).set _ i,((C.set _ g).set _ k).set _ g⟩
  .simp only[Tr.size]at *;omega
  .simp only[Tr.size]at *;omega
  .exact t
  .intro hm;rcases QG.1 hm with hm|hm;exact z hm;rcases QX.1 hm with hm|hm;exact m hm;exact k hm
  subst x;apply QM j;exact⟨⟨Qy (by simpa using o),(((L.set _ s).set _ t).set _ s).set _ t,⟨by rw[Qm z,Qy (by simpa using f)];rfl,(((E.set _ i).set _ m).set _ i).set _ m,(((C.set _ g).set _ k).set _ g).set _ k⟩⟩,λl H F=>by rw[Qm (Q8 F),Qm (Q8 H),Qm (Q8 F),Qm (Q8 H)]⟩
 .simp only[Tr.HM,Tr.Eb]at v u;refine Q3 func274 ntmps274 results274 λJ w U j=>?_;have f:=Qc v;have o:=Qc u;simp only[go_sem,Qa,v,f,u,o];apply QB j i5;simp only[go_sem,Qa,v,f,u,o,Qm I,Qy f];refine VY j DV rfl ?_ (Ec (loc:=lx) (l:=(Tr.node T S R Q)) (r:=c) (it:=B) (hi:=p) (n:=N) (le:=e) ⟨?_,?_,?_⟩ ?_ ?_ i g) rfl λd y x=>?_
  .simp only[go_sem]
  .rw[Qm z,Qy f];rfl
  .exact(E.set _ i).set _ m
  .exact(C.set _ g).set _ k
  .omega
  .omega
  subst x;apply QM j;refine VY j DV rfl ?_ (Ec (loc:=ly) (l:=a) (r:=(.node lx B (Tr.node T S R Q) c)) (it:=K) (hi:=q) (n:=M) (le:=O) ⟨?_,?_,?_⟩ ?_ ?_ ?_ ?_) rfl λd y x=>?_
  .simp only[go_sem]
  .rw[Qm I,Qy (by simpa using o)];rfl
  .exact((L.set _ s).set _ t).set _ s
  .exact⟨Qy (by simpa using f),((E.set _ i).set _ m).set _ i,((C.set _ g).set _ k).set _ g⟩
  .simp only[Tr.size]at *;omega
  .simp only[Tr.size]at *;omega
  .exact t
  .intro hm;rcases QG.1 hm with hm|hm;exact z hm;rcases QX.1 hm with hm|hm;exact m hm;exact k hm
  subst x;apply QM j;exact⟨⟨Qy (by simpa using o),(((L.set _ s).set _ t).set _ s).set _ t,⟨by rw[Qm z,Qy (by simpa using f)];rfl,(((E.set _ i).set _ m).set _ i).set _ m,(((C.set _ g).set _ k).set _ g).set _ k⟩⟩,λl H F=>by rw[Qm (Q8 F),Qm (Q8 H),Qm (Q8 F),Qm (Q8 H)]⟩
def sf{h:List Ob}{lx ly}{B K}{a b c:Tr}{e O}{p N q M}(v:h[lx]? = some (FW B a.ptr (.ptr ly 0 0 0) e p N))(u:h[ly]? = some (FW K b.ptr c.ptr O q M))
  (E:Vs h a) (C:Vs h b) (L:Vs h c) (V:(lx::ly::(a.QP++b.QP++c.QP)).Nodup) (W:a.size+b.size+c.size<900000) :
  QI prog 274 h [.ptr lx 0 0 0,Qb 1] (λd y=>d=.ptr ly 0 0 0/\Vs y (.node ly K (.node lx B a b) c)/\y.length=h.length/\∀l,l≠lx->l≠ly->y[l]? = h[l]?):=by
 have P:=V;simp only[Z8,QG,QX,qV]at P;obtain⟨⟨I,⟨i,g⟩,s⟩,⟨⟨m,k⟩,t⟩,_⟩:=P;have z:ly≠lx:=Q8 I;rcases b with _|⟨T,S,R,Q⟩
 .simp only[Tr.HM,Tr.Eb]at v u;refine Q3 func274 ntmps274 results274 λJ w U j=>?_;have f:=Qc v;have o:=Qc u;simp only[go_sem,Qa,v,f,u,o];apply QB j i5;simp only[go_sem,Qa,v,f,u,o,Qm I,Qy f];refine VY j DV rfl ?_ (Ec (loc:=lx) (l:=a) (r:=Tr.nil) (it:=B) (hi:=p) (n:=N) (le:=e) ⟨?_,?_,?_⟩ ?_ ?_ i g) rfl λd y x=>?_
  .simp only[go_sem]
  .rw[Qm z,Qy f];rfl
  .exact(E.set _ i).set _ m
  .exact(C.set _ g).set _ k
  .omega
  .omega
  subst x;apply QM j;refine VY j DV rfl ?_ (Ec (loc:=ly) (l:=(.node lx B a Tr.nil)) (r:=c) (it:=K) (hi:=q) (n:=M) (le:=O) ⟨?_,?_,?_⟩ ?_ ?_ ?_ ?_) rfl λd y x=>?_
  .simp only[go_sem]
  .rw[Qm I,Qy (by simpa using o)];rfl
  .exact⟨Qy (by simpa using f),((E.set _ i).set _ m).set _ i,((C.set _ g).set _ k).set _ g⟩
  .exact((L.set _ s).set _ t).set _ s
  .simp only[Tr.size]at *;omega
  .simp only[Tr.size]at *;omega
  .intro hm;rcases QG.1 hm with hm|hm;exact z hm;rcases QX.1 hm with hm|hm;exact m hm;exact k hm
  .exact t
  subst x;apply QM j;exact⟨⟨Qy (by simpa using o),⟨by rw[Qm z,Qy (by simpa using f)];rfl,(((E.set _ i).set _ m).set _ i).set _ m,(((C.set _ g).set _ k).set _ g).set _ k⟩,(((L.set _ s).set _ t).set _ s).set _ t⟩,λl H F=>by rw[Qm (Q8 F),Qm (Q8 H),Qm (Q8 F),Qm (Q8 H)]⟩
 .simp only[Tr.HM,Tr.Eb]at v u;refine Q3 func274 ntmps274 results274 λJ w U j=>?_;have f:=Qc v;have o:=Qc u;simp only[go_sem,Qa,v,f,u,o];apply QB j i5;simp only[go_sem,Qa,v,f,u,o,Qm I,Qy f];refine VY j DV rfl ?_ (Ec (loc:=lx) (l:=a) (r:=(Tr.node T S R Q)) (it:=B) (hi:=p) (n:=N) (le:=e) ⟨?_,?_,?_⟩ ?_ ?_ i g) rfl λd y x=>?_
  .simp only[go_sem]
  .rw[Qm z,Qy f];rfl
  .exact(E.set _ i).set _ m
  .exact(C.set _ g).set _ k
  .omega
  .omega
  subst x;apply QM j;refine VY j DV rfl ?_ (Ec (loc:=ly) (l:=(.node lx B a (Tr.node T S R Q))) (r:=c) (it:=K) (hi:=q) (n:=M) (le:=O) ⟨?_,?_,?_⟩ ?_ ?_ ?_ ?_) rfl λd y x=>?_
  .simp only[go_sem]
  .rw[Qm I,Qy (by simpa using o)];rfl
  .exact⟨Qy (by simpa using f),((E.set _ i).set _ m).set _ i,((C.set _ g).set _ k).set _ g⟩
  .exact((L.set _ s).set _ t).set _ s
  .simp only[Tr.size]at *;omega
  .simp only[Tr.size]at *;omega
  .intro hm;rcases QG.1 hm with hm|hm;exact z hm;rcases QX.1 hm with hm|hm;exact m hm;exact k hm
  .exact t
  subst x;apply QM j;exact⟨⟨Qy (by simpa using o),⟨by rw[Qm z,Qy (by simpa using f)];rfl,(((E.set _ i).set _ m).set _ i).set _ m,(((C.set _ g).set _ k).set _ g).set _ k⟩,(((L.set _ s).set _ t).set _ s).set _ t⟩,λl H F=>by rw[Qm (Q8 F),Qm (Q8 H),Qm (Q8 F),Qm (Q8 H)]⟩
def sg{h}{loc}{it}{l r:Tr}{le}{hi n}(i:Raw h loc it l r le hi n)(g:(loc::(l.QP++r.QP)).Nodup)(hs:l.size+r.size<800000):
  QI prog 267 h [.ptr loc 0 0 0] (λd h'=>∃Z,d=Z.ptr/\kC h (.node loc it l r) (l.list++it::r.list) h' Z):=by
 have Y:=g;simp only[Z8,QX,qV]at Y;obtain⟨⟨P,O⟩,a2⟩:=Y;have hl:=l.Pj;have hr:=r.Pj;have el:IntKind.i64.wrap ((l.high:Int)+1)=((l.high+1:Nat):Int):=ZK;have er:IntKind.i64.wrap ((r.high:Int)+1)=((r.high+1:Nat):Int):=ZK;have h1:=i.o;refine Q3 func267 ntmps267 results267 λa1 w pl f=>?_;have QN:=Qc h1;simp only[go_sem,Qa,h1,QN];refine JO f DV (Ec (loc:=loc) i ω ω P O) λd M p=>?_;have a0:M.length=h.length:=by rw[p];simp
 have t2:Vs M (.node loc it l r):=by
  rw[p];exact⟨Qy QN,i.il.set _ P,i.ir.set _ O⟩
 have k2:∀k,k≠loc->M[k]? = h[k]? := λk o=>by rw[p,Qm (Q8 o)]
 clear p;have F:kC h (.node loc it l r) (Tr.node loc it l r).list M (.node loc it l r):=⟨t2,rfl,g,λ_ h=>.inl h,λk _ hn=>k2 k λe=>hn (by rw[e];simp[Tr.QP]),ω⟩;have j:=t2.1;have m:=Qc j;apply Qh f;simp only[go_sem,Qa,j,m];refine x8 2 ?_;apply Qh f;simp only[go_sem,Qa,j,m];apply QB f [0,2,3,4,5,6,7,8,1001,1009,10,11];simp only[go_sem,Qa,j,m];apply WZ f vH (vM t2.2.1.toR);apply Zd f;simp only[go_sem,Qa,j,m];refine qz f vH ?_ (vM t2.2.2.toR) ?_
 .simp only[go_sem,Qa,j,m,er]
 apply Zd f;simp only[go_sem,Qa,j,m,er];by_cases U:l.high<=r.high+1
 .have d0:=Q1 U;simp only[go_sem,Qa,d0];apply Qh f;simp only[go_sem,Qa,j,m];apply QB f [0,2,3,4,5,6,7,8,1001,1009,10,11];simp only[go_sem,Qa,j,m];apply WZ f vH (vM t2.2.2.toR);apply Zd f;simp only[go_sem,Qa,j,m];refine qz f vH ?_ (vM t2.2.1.toR) ?_
  .simp only[go_sem,Qa,j,m,el]
  apply Zd f;simp only[go_sem,Qa,j,m,el];by_cases T:r.high<=l.high+1
  .have d1:=Q1 T;simp only[go_sem,Qa,d1];apply Qh f;simp only[go_sem,Qa,j,m];apply Za f;exact⟨.node loc it l r,rfl,F⟩
  .have d1:=QU T;simp only[go_sem,Qa,d1];cases r with
   | nil=>exact absurd (Z9 _) T
   | node q y b a=>
    have L:=hs;simp only[Tr.size]at L;have s:=t2.2.2.1;have C:=Qc s;have V:loc≠q:=by rintro rfl;simp[Tr.QP,Z8,Kg,QG,QX]at g
    apply QB f [0,1,2,3,4,5,6,8,9,10,11,12,13,1007,1014,15];simp only[go_sem,Qa,j,m,s,C];apply WZ f vH (vM t2.2.2.2.1.toR);apply Zd f;simp only[go_sem,Qa,j,m,s,C];apply WZ f vH (vM t2.2.2.2.2.toR);apply Zd f;simp only[go_sem,Qa,j,m,s,C];by_cases c2:a.high<b.high
    .have d2:=Q1 c2;simp only[go_sem,Qa,d2];cases b with
     | nil=>exact absurd c2 (Xc _)
     | node t R B z=>
      simp only[Tr.Eb]at s;simp only[Tr.size]at L;have J:=t2.2.2.2.1.1;have W:=Qc J;have K:loc≠t:=by rintro rfl;simp[Tr.QP,Z8,Kg,QG,QX]at g
      have Bv:q≠t:=by rintro rfl;simp[Tr.QP,Z8,Kg,QG,QX]at g
      apply VD [5] f [0,1,2,3,4,6,7,1005,8,1009] [];simp only[go_sem,Qa,j,m];refine wV f O3 (sb (lx:=q) (ly:=t) (a:=B) (b:=z) (c:=a) s J t2.2.2.2.1.2.1 t2.2.2.2.1.2.2 t2.2.2.2.2 (by simp only[Tr.QP,Z8,Kg,QG,QX]at g ⊢;grind) ω) λd I p=>?_;obtain⟨rfl,t4,Q,x⟩:=p;have H:I[loc]? = _:=(x loc V K).trans j;have E:=Qc H;apply Zd f;simp only[go_sem,Qa,H,E];have N:Vs I l:=t2.2.1.frame λk o=>x k (by rintro rfl;simp only[Tr.QP,Z8,Kg,QG,QX]at g;grind) (by rintro rfl;simp only[Tr.QP,Z8,Kg,QG,QX]at g;grind);apply Za f;refine JO f O3 (sf (lx:=loc) (ly:=t) (a:=l) (b:=B) (c:=.node q y z a) (Qy E) ((Qm K).trans t4.1) (N.set _ P) (t4.2.1.set _ (by simp only[Tr.QP,Z8,Kg,QG,QX]at g ⊢;grind)) (t4.2.2.set _ (by simp only[Tr.QP,Z8,Kg,QG,QX]at g ⊢;grind)) (by simp only[Tr.QP,Z8,Kg,QG,QX]at g ⊢;grind) (by simp only[Tr.size];omega)) λd S p=>?_;obtain⟨rfl,t8,u,v⟩:=p;apply Za f;refine⟨(.node t R (.node loc it l B) (.node q y z a)),rfl,F.trans ⟨t8,by simp[Tr.list],by simp only[Tr.QP,Z8,Kg,QG,QX]at g ⊢;grind,λk o=>.inl (by simp only[Tr.QP,QG,QX]at o ⊢;grind),λk _ o=>?_,by rw[u,XG,Q];exact Qs _⟩⟩;simp only[Tr.QP,QG,QX,qV]at o;rw[v k (by grind) (by grind),Qm (by grind),x k (by grind) (by grind)]
    .have d2:=QU c2;simp only[go_sem,Qa,d2];apply Za f;refine JO f O3 (sf (lx:=loc) (ly:=q) (a:=l) (b:=b) (c:=a) j s t2.2.1 t2.2.2.2.1 t2.2.2.2.2 (by simp only[Tr.QP,Z8,Kg,QG,QX]at g ⊢;grind) ω) λd S p=>?_;obtain⟨rfl,t8,u,v⟩:=p;apply Za f;refine⟨(.node q y (.node loc it l b) a),rfl,F.trans ⟨t8,by simp[Tr.list],by simp only[Tr.QP,Z8,Kg,QG,QX]at g ⊢;grind,λk o=>.inl (by simp only[Tr.QP,QG,QX]at o ⊢;grind),λk _ o=>?_,by rw[u];exact Qs _⟩⟩;simp only[Tr.QP,QG,QX,qV]at o;exact v k (by grind) (by grind)
 .have d0:=QU U;simp only[go_sem,Qa,d0];cases l with
  | nil=>exact absurd (Z9 _) U
  | node q y a b=>
   have L:=hs;simp only[Tr.size]at L;have s:=t2.2.1.1;have C:=Qc s;have V:loc≠q:=by rintro rfl;simp[Tr.QP,Z8,Kg,QG,QX]at g
   apply QB f [0,1,2,3,4,5,6,8,9,10,11,12,13,1007,1014,15];simp only[go_sem,Qa,j,m,s,C];apply WZ f vH (vM t2.2.1.2.2.toR);apply Zd f;simp only[go_sem,Qa,j,m,s,C];apply WZ f vH (vM t2.2.1.2.1.toR);apply Zd f;simp only[go_sem,Qa,j,m,s,C];by_cases c2:a.high<b.high
   .have d2:=Q1 c2;simp only[go_sem,Qa,d2];cases b with
    | nil=>exact absurd c2 (Xc _)
    | node t R B z=>
     simp only[Tr.Eb]at s;simp only[Tr.size]at L;have J:=t2.2.1.2.2.1;have W:=Qc J;have K:loc≠t:=by rintro rfl;simp[Tr.QP,Z8,Kg,QG,QX]at g
     have Bv:q≠t:=by rintro rfl;simp[Tr.QP,Z8,Kg,QG,QX]at g
     apply VD [5] f [0,1,2,3,4,6,7,1005,8,1009] [];simp only[go_sem,Qa,j,m];refine wV f O3 (sf (lx:=q) (ly:=t) (a:=a) (b:=B) (c:=z) s J t2.2.1.2.1 t2.2.1.2.2.2.1 t2.2.1.2.2.2.2 (by simp only[Tr.QP,Z8,Kg,QG,QX]at g ⊢;grind) ω) λd I p=>?_;obtain⟨rfl,t4,Q,x⟩:=p;have H:I[loc]? = _:=(x loc V K).trans j;have E:=Qc H;apply Zd f;simp only[go_sem,Qa,H,E];have N:Vs I r:=t2.2.2.frame λk o=>x k (by rintro rfl;simp only[Tr.QP,Z8,Kg,QG,QX]at g;grind) (by rintro rfl;simp only[Tr.QP,Z8,Kg,QG,QX]at g;grind);apply Za f;refine JO f O3 (sb (lx:=loc) (ly:=t) (a:=.node q y a B) (b:=z) (c:=r) (Qy E) ((Qm K).trans t4.1) (t4.2.1.set _ (by simp only[Tr.QP,Z8,Kg,QG,QX]at g ⊢;grind)) (t4.2.2.set _ (by simp only[Tr.QP,Z8,Kg,QG,QX]at g ⊢;grind)) (N.set _ O) (by simp only[Tr.QP,Z8,Kg,QG,QX]at g ⊢;grind) (by simp only[Tr.size];omega)) λd S p=>?_;obtain⟨rfl,t8,u,v⟩:=p;apply Za f;refine⟨(.node t R (.node q y a B) (.node loc it z r)),rfl,F.trans ⟨t8,by simp[Tr.list],by simp only[Tr.QP,Z8,Kg,QG,QX]at g ⊢;grind,λk o=>.inl (by simp only[Tr.QP,QG,QX]at o ⊢;grind),λk _ o=>?_,by rw[u,XG,Q];exact Qs _⟩⟩;simp only[Tr.QP,QG,QX,qV]at o;rw[v k (by grind) (by grind),Qm (by grind),x k (by grind) (by grind)]
   .have d2:=QU c2;simp only[go_sem,Qa,d2];apply Za f;refine JO f O3 (sb (lx:=loc) (ly:=q) (a:=a) (b:=b) (c:=r) j s t2.2.1.2.1 t2.2.1.2.2 t2.2.2 (by simp only[Tr.QP,Z8,Kg,QG,QX]at g ⊢;grind) ω) λd S p=>?_;obtain⟨rfl,t8,u,v⟩:=p;apply Za f;refine⟨(.node q y a (.node loc it b r)),rfl,F.trans ⟨t8,by simp[Tr.list],by simp only[Tr.QP,Z8,Kg,QG,QX]at g ⊢;grind,λk o=>.inl (by simp only[Tr.QP,QG,QX]at o ⊢;grind),λk _ o=>?_,by rw[u];exact Qs _⟩⟩;simp only[Tr.QP,QG,QX,qV]at o;exact v k (by grind) (by grind)
def TZ(d):Ye d d=True:=by cases d<;>simp[Ye]
def si:∀l:List D,KQ l l
 | []=>trivial
 | d::r=>⟨(TZ d).mpr trivial,si r⟩
def QgJ{h}{c}{b:It}{l r}(i:jz h (.node c b l r))(a)(k):Zf prog 266 h [.ptr c 0 0 0,.agg [u64 a,Qb k]] (λd=>d=Qb (if KG b.ka b.ki a k then 1 else 0)):=by
 have f:=i.1;have q:=r8 a k b.ka b.ki;have j:(0<zV a k b.ka b.ki)↔KG b.ka b.ki a k:=Qu0;generalize zV a k b.ka b.ki=p at *;refine ZD func266 ntmps266 results266 λn w s F o t g=>?_;rw[<- o]at f;have m:=Qc f;simp only[go_sem,Qa,f,m];apply QB g [0,1,2,3,4,5,1006,7];simp only[go_sem,Qa,f,m];apply VR g rj q;apply WY g;by_cases e:0<p
 .have d1:=Q1 e;simp only[go_sem,Qa,d1];rw[Qf (j.1 e)];exact⟨_,rfl,rfl⟩
 .have d1:=QU e;simp only[go_sem,Qa,d1];rw[Qe (λh=>e (j.2 h))];exact⟨_,rfl,rfl⟩
structure sj (dv:D) (f nf:Nat) (Qx:List D) (B:List (Nat × Ob)) (a:Nat) (k:Int) (fL:Tr->List It) (N:Nat) (Nl:Prop):Prop where
 fok:Qn prog f
 cal:JU dv=some (f,nf,Qx)
 len:∀s,(fL s).length<=s.size+1
 run:∀(h:List Ob) (s:Tr),Vs h s->s.QP.Nodup->s.size<=N->Vt s.list->(s=.nil->Nl)->(∀loc it l r,s=.node loc it l r->it.ka=a/\it.ki=k)->(∀p∈B,h[p.1]? = some p.2/\p.1 ∉ s.QP) ->
  QI prog f h (Jm nf Qx [s.ptr]) (λd h'=>∃s',d=s'.ptr/\kC h s (fL s) h' s')
def ss{a}{k}{d:Tr->List It}(b:∀s,(d s).length<=s.size+1):∀t:Tr,(t.CQ a k d).length<=t.size+1
 | .nil=>b _
 | .node c e l r=>by
  have j:=ss (a:=a) (k:=k) b l;have i:=ss (a:=a) (k:=k) b r;have f:=b (.node c e l r);have h:=Tr.CN l;have g:=Tr.CN r;rw[Tr.CQ];split
  .exact f
  .split
   .simp only[ZT,VQ,Tr.size]at *;omega
   .simp only[ZT,VQ,Tr.size]at *;omega
def Vs.app{h}{t}(i:Vs h t)(g):Vs (h++g) t:=i.frame λl a=>QJ (i.lt l a)
def kC.under{h g c}{t b}{L}(u:kC (h++g) t L c b):kC h t L c b:=
 ⟨u.is,u.list,u.nd,λl a=>by
  rcases u.mem l a with h1|h1
  .exact .inl h1
  .exact .inr (by simp only[ZT]at h1;omega),λl a d=>by rw[u.keep l (by simp only[ZT];omega) d,QJ a],by have:=u.len;simp only[ZT]at this;omega⟩
def T6{dv}{f nf}{Qx}{B}{a}{k}{fL}{N}{Nl}(O:sj dv f nf Qx B a k fL N Nl)(hN:N<700000):
  ∀(t:Tr) (h:List Ob),Vs h t->t.QP.Nodup->t.size<=N->Vt t.list->(t.find a k=.nil->Nl)->(∀p∈B,h[p.1]? = some p.2/\p.1 ∉ t.QP) ->
   QI prog 244 h [t.ptr,.agg [u64 a,Qb k],dv] (λd h'=>∃s,d=s.ptr/\kC h t (t.CQ a k fL) h' s)
 | .nil,h,i,j,J,V,T,q=>by
  have hd:=O.run;have hO:=O.fok;have hc:=O.cal;refine Q3 func244 ntmps244 results244 λS w pl g=>?_;simp only[go_sem,Qa];apply QB g i6;simp only[go_sem,Qa];refine VY g hO hc (si _) (hd _ .nil trivial (by simp[Tr.QP]) (Z9 _) V (λ_=>T rfl) (λ_ _ _ _ e=>by cases e) λp m=>⟨(QJ (Qc (q p m).1)).trans (q p m).1,(q p m).2⟩) rfl λd h2 x=>?_;obtain⟨Z,rfl,u⟩:=x;apply Za g;exact⟨Z,rfl,u.under⟩
 | .node c y l r,h,i,j,J,V,T,q=>by
  have hd:=O.run;have hO:=O.fok;have hc:=O.cal;have C:=i.1;have yh:=j;simp only[Tr.QP,Z8,QX,qV]at yh;obtain⟨⟨nl,nr⟩,a0⟩:=yh;have F:=ss (a:=a) (k:=k) O.len;obtain⟨sl,sr,_,_⟩:=FX.1 (show Vt (l.list++y::r.list) from V);refine Q3 func244 ntmps244 results244 λS w pl g=>?_;have H:=Qc C;simp only[go_sem,Qa,C,H];apply QB g i6;simp only[go_sem,Qa,C,H];by_cases E:y.ka=a/\y.ki=k
  .have d1:((y.ka:Int)==(a:Int)&&y.ki==k)=true:=by simp[E.1,E.2]
   simp only[go_sem,Qa,d1,Tr.CQ,Qf E];refine VY g hO hc (si _) (hd _ (.node c y l r) (i.app _) j J V (λe=>by cases e) (λ_ _ _ _ e=>by cases e;exact E) λp m=>⟨(QJ (Qc (q p m).1)).trans (q p m).1,(q p m).2⟩) rfl λd h2 x=>?_;obtain⟨Z,rfl,u⟩:=x;apply Za g;exact⟨Z,rfl,u.under⟩
  have d1:((y.ka:Int)==(a:Int)&&y.ki==k)=false:=by
   rw[jW];intro hh;simp only[ZX,jr]at hh;exact E ⟨ω,hh.2⟩
  simp only[go_sem,Qa,d1,Tr.CQ,Qe E];apply JD g Qf5 (QgJ (i.app _).toR a k);apply Qh g;simp only[go_sem,Qa,C,H];by_cases U:KG y.ka y.ki a k
  .simp only[Qf U];apply VD [10] g [0,1,2,3,4,5,6,7,8,9,11,12,1010,13,1014] [];simp only[go_sem,Qa,C,H];refine y6 g Tz rfl ?_ (T6 O hN r _ (i.2.2.app _) (by simp only[Tr.QP,Z8,Kg,QG,QX]at j ⊢;grind) (by simp only[Tr.size]at J;omega) sr (λe=>T (by rw[Tr.find,Qe E,Qf U];exact e)) λp m=>⟨(QJ (Qc (q p m).1)).trans (q p m).1,λz=>(q p m).2 (by simp only[Tr.QP,QG,QX];grind)⟩) rfl λd Q x=>?_
   .simp only[go_sem,TZ]
   obtain⟨s,rfl,u⟩:=x;have u:=u.under;have P:Q[c]? = _:=(u.keep c H (by simp only[Tr.QP,Z8,Kg,QG,QX]at j ⊢;grind)).trans C;have K:=Qc P;have L:=u.list;have JQ:=Tr.CN s;rw[L]at JQ;have J7:=F r;have nt:c ∉ s.QP:=λz=>by
    rcases u.mem c z with b|b
    .simp only[Tr.QP,Z8,Kg,QG,QX]at j;grind
    .omega
   have no:∀k∈l.QP,k ∉ s.QP:=λk n z=>by
    have T7:=i.2.1.lt k n;rcases u.mem k z with b|b
    .simp only[Tr.QP,Z8,Kg,QG,QX]at j;grind
    .omega
   have Y:Vs Q l:=i.2.1.frame λk n=>u.keep k (i.2.1.lt k n) (by simp only[Tr.QP,Z8,Kg,QG,QX]at j ⊢;grind);apply Zd g;simp only[go_sem,Qa,P,K];apply Za g;refine VY g rk rfl ?_ (sg (loc:=c) (l:=l) (r:=s) ⟨Qy K,Y.set _ nl,u.is.set _ nt⟩ (by
    have a1:=u.nd;simp only[Tr.QP,Z8,Kg,QG,QX]at j ⊢;grind) (by simp only[Tr.size]at J;omega)) rfl λd h8 x=>?_
   .simp only[go_sem]
   obtain⟨I,rfl,v⟩:=x;apply Za g;have W:=v.list;refine⟨I,rfl,v.is,by rw[W,L],v.nd,λk n=>?_,λk n o=>?_,by have q1:=v.len;have q2:=u.len;simp only[XG]at q1;omega⟩
   .rcases v.mem k n with b|b
    .have R:=u.mem k;simp only[Tr.QP,QG,QX]at b ⊢;grind
    .have:=u.len;simp only[XG]at b;exact .inr ω
   .have R:=u.mem k;have a3:=u.len;rw[v.keep k (by simp only[XG];omega) (λb=>by
     simp only[Tr.QP,QG,QX]at b o;rcases b with b|b|b
     .exact o (.inl b)
     .exact o (.inr (.inl b))
     .rcases R b with M|M
      .exact o (.inr (.inr M))
      .omega),Qm (λb=>o (by rw[b];simp[Tr.QP])),u.keep k n (λb=>o (by simp only[Tr.QP,QG,QX];grind))]
  .simp only[Qe U];apply VD [10] g [0,1,2,3,4,5,6,7,8,9,11,12,1010,13,1014] [];simp only[go_sem,Qa,C,H];refine y6 g Tz rfl ?_ (T6 O hN l _ (i.2.1.app _) (by simp only[Tr.QP,Z8,Kg,QG,QX]at j ⊢;grind) (by simp only[Tr.size]at J;omega) sl (λe=>T (by rw[Tr.find,Qe E,Qe U];exact e)) λp m=>⟨(QJ (Qc (q p m).1)).trans (q p m).1,λz=>(q p m).2 (by simp only[Tr.QP,QG,QX];grind)⟩) rfl λd Q x=>?_
   .simp only[go_sem,TZ]
   obtain⟨s,rfl,u⟩:=x;have u:=u.under;have P:Q[c]? = _:=(u.keep c H (by simp only[Tr.QP,Z8,Kg,QG,QX]at j ⊢;grind)).trans C;have K:=Qc P;have L:=u.list;have JQ:=Tr.CN s;rw[L]at JQ;have J7:=F l;have nt:c ∉ s.QP:=λz=>by
    rcases u.mem c z with b|b
    .simp only[Tr.QP,Z8,Kg,QG,QX]at j;grind
    .omega
   have no:∀k∈r.QP,k ∉ s.QP:=λk n z=>by
    have T7:=i.2.2.lt k n;rcases u.mem k z with b|b
    .simp only[Tr.QP,Z8,Kg,QG,QX]at j;grind
    .omega
   have Y:Vs Q r:=i.2.2.frame λk n=>u.keep k (i.2.2.lt k n) (by simp only[Tr.QP,Z8,Kg,QG,QX]at j ⊢;grind);apply Zd g;simp only[go_sem,Qa,P,K];apply Za g;refine VY g rk rfl ?_ (sg (loc:=c) (l:=s) (r:=r) ⟨Qy K,u.is.set _ nt,Y.set _ nr⟩ (by
    have a1:=u.nd;simp only[Tr.QP,Z8,Kg,QG,QX]at j ⊢;grind) (by simp only[Tr.size]at J;omega)) rfl λd h8 x=>?_
   .simp only[go_sem]
   obtain⟨I,rfl,v⟩:=x;apply Za g;have W:=v.list;refine⟨I,rfl,v.is,by rw[W,L],v.nd,λk n=>?_,λk n o=>?_,by have q1:=v.len;have q2:=u.len;simp only[XG]at q1;omega⟩
   .rcases v.mem k n with b|b
    .have R:=u.mem k;simp only[Tr.QP,QG,QX]at b ⊢;grind
    .have:=u.len;simp only[XG]at b;exact .inr ω
   .have R:=u.mem k;have a3:=u.len;rw[v.keep k (by simp only[XG];omega) (λb=>by
     simp only[Tr.QP,QG,QX]at b o;rcases b with b|b|b
     .exact o (.inl b)
     .rcases R b with M|M
      .exact o (.inr (.inl M))
      .omega
     .exact o (.inr (.inr b))),Qm (λb=>o (by rw[b];simp[Tr.QP])),u.keep k n (λb=>o (by simp only[Tr.QP,QG,QX];grind))]
def yj(t:Tr):Ob:=⟨.one,0,1,1,λ_=>[t.ptr]⟩
attribute [go_sem] yj
def QgM{h:List Ob}{u}{t:Tr}(p:(h.map Ob.ro)[u]? = some (yj t).ro)(i:jz h t)(a)(k):
  Zf prog 243 h [.ptr u 0 0 0,.agg [u64 a,Qb k]] (λd=>d=(t.find a k).ptr):=by
 refine ZD func243 ntmps243 results243 λx w E F q I c=>?_;rw[<- q]at p;have B:=Qc p;simp only[go_sem,Qa,p,B];refine Js (λj y=>∃s:Tr,s.size+j<=t.size/\jz h s/\s.find a k=t.find a k/\y=⟨[(3,.ptr F.length 0 0 0),(5,s.ptr)],F++[⟨.one,0,2,1,λ_=>[u64 a,Qb k]⟩]⟩) t.size (s0:=⟨[(3,.ptr F.length 0 0 0),(5,t.ptr)],F++[⟨.one,0,2,1,λ_=>[u64 a,Qb k]⟩]⟩) ?_ ⟨t,ω,i,rfl,rfl⟩ ?_
 .exact QQ
 rintro j _ H ⟨s,z,n,b,rfl⟩;cases s with
 | nil=>
  apply QM c;apply QB c i6;simp only[go_sem,Qa,Go.undef];apply Za c;exact⟨_,rfl,by rw[<- b];rfl⟩
 | node C e l r=>
  have f:=n.1;rw[<- q]at f;have g:=Qc f;apply QM c;apply QB c i6;simp only[go_sem,Qa,f,g];rw[Tr.find]at b;by_cases m:e.ka=a/\e.ki=k
  .have d1:((e.ka:Int)==(a:Int)&&e.ki==k)=true:=by simp[m.1,m.2]
   rw[Qf m]at b;simp only[go_sem,Qa,d1,bne];apply Qh c;simp only[go_sem,g];exact⟨_,rfl,by rw[<- b];rfl⟩
  .have d1:((e.ka:Int)==(a:Int)&&e.ki==k)=false:=by
    rw[jW];intro v;simp only[ZX,jr]at v;exact m ⟨ω,v.2⟩
   rw[Qe m]at b;simp only[go_sem,Qa,d1,bne];apply QB c [0,1,2,4,5,1003,6,7,8];simp only[go_sem,Qa,f,g];apply WZ c Qf5 (QgJ (n.more (HN q)) a k);apply Zd c;simp only[go_sem,Qa,f,g];have J:l.size+j+1<=t.size/\r.size+j+1<=t.size:=by simp only[Tr.size]at z;omega
   by_cases o:KG e.ka e.ki a k
   .rw[Qf o]at b;simp only[go_sem,Qa,Qf o,f,g];refine⟨ω,_,QQ,r,ω,n.2.2,b,rfl⟩
   .rw[Qe o]at b;simp only[go_sem,Qa,Qe o,f,g];refine⟨ω,_,QQ,l,ω,n.2.1,b,rfl⟩
def Qu7{h:List Ob}{i g}{x:It}(k:h[i]? = some ⟨.one,0,2,1,λ_=>[u64 x.ka,Qb x.ki]⟩)(j:h[g]? = some ⟨.one,0,2,1,λ_=>[u64 x.va,Qb x.vi]⟩)(s):
  QI prog 245 h [s.ptr,.ptr i 0 0 0,.ptr g 0 0 0] (λd p=>∃f,d=f.ptr/\kC h s [x] p f):=by
 refine Q3 func245 ntmps245 results245 λo w q m=>?_;have e:=Qc k;have c:=Qc j;simp only[go_sem,Qa,k,e,j,c];refine JO m DV (Ec (loc:=h.length) (it:=x) (l:=.nil) (r:=.nil) (le:=⟨0,0,0,0⟩) (hi:=0) (n:=0) ⟨Vq rfl,trivial,trivial⟩ (by simp[Tr.size]) (by simp[Tr.size]) (by simp[Tr.QP]) (by simp[Tr.QP])) λd t b=>?_;apply Za m;refine⟨.node h.length x .nil .nil,rfl,⟨?_,trivial,trivial⟩,rfl,by simp[Tr.QP],λl a=>.inr (by simp[Tr.QP]at a;omega),λl a _=>?_,by rw[b];simp⟩
 .rw[b,Qy σ]
 .rw[b,Qm ω,QJ a]
structure Bw (h:List Ob) (tl:Nat) (t:Tr) (L:List It):Prop where
 o:h[tl]? = some (yj t)
 is:Vs h t
 list:t.list=L
 nd:t.QP.Nodup
 out:tl ∉ t.QP
 sorted:Vt L
structure Ua (h:List Ob) (tl:Nat) (t:Tr) (L:List It) (h':List Ob) (t':Tr):Prop where
 is:Bw h' tl t' L
 mem:∀l∈t'.QP,l∈t.QP\/h.length<=l
 keep:∀l,l<h.length->l≠tl->l ∉ t.QP->h'[l]? = h[l]?
 len:h.length<=h'.length
def Bw.app{h}{b}{t}{L}(a:Bw h b t L)(g):Bw (h++g) b t L:=⟨(QJ (Qc a.o)).trans a.o,a.is.app g,a.list,a.nd,a.out,a.sorted⟩
def Bw.to{h g d:List Ob}{b}{t c}{L e}(a:Bw h b t L)(u:kC (h++g) t e d c)(i:Vt e):Ua h b t e (d.set b (yj c)) c:=by
 have v:=u.under;have k:=Qc a.o;have p:d[b]? = some (yj t):=(v.keep b k a.out).trans a.o;have f:b ∉ c.QP:=λj=>by
  rcases v.mem b j with h3|h3
  .exact a.out h3
  .omega
 exact⟨⟨Qy (Qc p),v.is.set _ f,v.list,v.nd,f,i⟩,v.mem,λl h3 n m=>by rw[Qm (Q8 n)];exact v.keep l h3 m,by rw[XG];exact v.len⟩
def Ub{h}{tl}{t}{L:List It}(A:Bw h tl t L)(x:It)(n:YY x.ka x.ki L=none)(M:L.length<600000):
  QI prog 212 h [.ptr tl 0 0 0,.agg [u64 x.ka,Qb x.ki],.agg [u64 x.va,Qb x.vi]] (λd v=>d=Qb 0/\∃m,Ua h tl t (Yy x L) v m):=by
 have k:=A.o;have P:t.size=L.length:=by rw[<- Tr.CN,A.list]
 have H:(t.find x.ka x.ki)=.nil:=by
  have e:=Tr.TW (a:=x.ka) (i:=x.ki) t (by rw[A.list];exact A.sorted);rw[A.list,n]at e;cases z:t.find x.ka x.ki with
  | nil=>rfl
  | node a b c d=>rw[z]at e;cases e
 have y:=λg=>QgM (h:=h++g) (Jc (A.app g).o) (A.is.app g).toR x.ka x.ki;rw[H]at y;refine Q3 func212 ntmps212 results212 λbase w J f=>?_;have l:=Qc k;simp only[go_sem,Qa,k,l];apply JD f QfZ (y _);apply Qh f;simp only[go_sem,Qa,k,l];apply VD [7] f [0,1,2,3,4,5,6,1007,8,9,1010] [];simp only[go_sem,Qa,k,l];have O:sj (.clo 245 0 [.ptr h.length 0 0 0,.ptr (h.length+1) 0 0 0]) 245 0 [.ptr h.length 0 0 0,.ptr (h.length+1) 0 0 0] [(h.length,⟨.one,0,2,1,λ_=>[u64 x.ka,Qb x.ki]⟩),(h.length+1,⟨.one,0,2,1,λ_=>[u64 x.va,Qb x.vi]⟩)] x.ka x.ki (λ_=>[x]) 600000 True:=
  ⟨QtK,rfl,λs=>σ,λv s K I R _ _ _ r=>by
   have E:=(r (h.length,_) (Z3 ..)).1;have C:=(r (h.length+1,_) (Jw _ (Z3 ..))).1;exact Qu7 (x:=x) E C s⟩
 refine wV f Tz (T6 O π t _ (A.is.app _) A.nd ω (by rw[A.list];exact A.sorted) (λ_=>trivial) ?_) λd Q B=>?_
 .intro p o;have j:∀q,h.length<=q->q ∉ t.QP:=λq N j=>by have:=A.is.lt q j;omega
  simp only[QG,List.not_mem_nil,or_false]at o;rcases o with rfl|rfl
  .exact⟨Vq rfl,j _ (Qs _)⟩
  .exact⟨Wm rfl,j _ (by show h.length<=h.length+1;omega)⟩
 obtain⟨m,rfl,u⟩:=B;rw[r6 rfl t (by rw[A.list];exact A.sorted) (by rw[A.list];exact n),A.list]at u;have e:=(u.under.keep tl l A.out).trans A.o;have F:=Qc e;apply Zd f;simp only[go_sem,Qa,e,F];exact⟨m,A.to u (r5 A.sorted n)⟩
def Tr.Qva:∀t:Tr,t≠.nil->∃d,t.list=t.FY::d:=λt h=>by
 have c:=Tr.r7 t h;cases e:t.list with
 | nil=>rw[e]at c;cases c
 | cons a b=>rw[e]at c;simp only[List.head?_cons,Q4]at c;exact⟨b,by rw[c]⟩
def Qvb{x:It}{L}:YY x.ka x.ki (x::L)=some x:=by
 unfold YY;rw[vg,yg.2 ⟨rfl,rfl⟩]
def Qvc{x:It}{L}(a:Vt (x::L)):XQ x.ka x.ki (x::L)=L:=by
 have h:=QgH x.ka x.ki [] L x a;rw[Qf ⟨rfl,rfl⟩]at h;exact h
def QgN(N:Nat):Prop:=∀(h:List Ob) (s:Tr),Vs h s->s.QP.Nodup->s.size<=N->Vt s.list->s≠.nil ->
 QI prog 265 h [s.ptr] (λd b=>∃a,d=a.ptr/\kC h s s.Mw b a)
def QgO{N}(W:QgN N)(a)(k):sj (.raw (.func (.func 265) #[] #[])) 265 0 [] [] a k Tr.Mw N False:=
 ⟨QtV,rfl,λs=>by
  cases s with
  | nil=>simp[Tr.Mw]
  | node g j l r=>simp only[Tr.Mw,ZT,Tr.CN,Tr.size];omega,λh s i b c f d _ _=>W h s i b c f λe=>d e⟩
def QgP:∀N,N<600000->QgN N
 | 0,_,_,.nil,_,_,_,_,g=>absurd rfl g
 | 0,_,_,.node _ _ _ _,_,_,F,_,_=>by simp only[Tr.size]at F;omega
 | _+1,_,_,.nil,_,_,_,_,g=>absurd rfl g
 | N+1,hN,h,.node b E l .nil,i,f,F,VZ,_=>by
  have z:=i.1;refine Q3 func265 ntmps265 results265 λJ w pl m=>?_;have q:=Qc z;simp only[go_sem,Qa,z,q];refine⟨l,rfl,?_⟩;have u:=kC.refl i.2.1 (t:=l) (by simp only[Tr.QP,Z8,Kg]at f;exact f.2.1);simp only[Tr.Mw,Tr.list,Jv];exact⟨u.is,rfl,u.nd,λx hx=>.inl (by simp[Tr.QP,hx]),λ_ _ _=>rfl,Qs _⟩
 | N+1,hN,h,.node b E l (.node lr ir rl rr),i,f,F,VZ,_=>by
  have z:=i.1;refine Q3 func265 ntmps265 results265 λJ w pl m=>?_;have q:=Qc z;simp only[go_sem,Qa,z,q];have yh:=f;simp only[Tr.QP,Z8,Kg,QG,QX,qV]at yh;generalize hr:Tr.node lr ir rl rr=r at *;have I:r≠.nil:=by rw[<- hr];simp
  have W:D.ptr lr 0 0 0=r.ptr:=by rw[<- hr];rfl
  rw[W];refine Js (λj st=>∃s:Tr,s.size+j<=r.size/\s≠.nil/\Vs h s/\s.FY=r.FY/\(∀x∈s.QP,x∈r.QP)/\st=⟨[(0,.ptr b 0 0 0),(3,s.ptr)],h⟩) r.size (s0:=⟨[(0,.ptr b 0 0 0),(3,r.ptr)],h⟩) QQ ⟨r,ω,I,i.2.2,rfl,λ_ hx=>hx,rfl⟩ ?_;rintro j _ hj ⟨s,kD,Cn,is,hf,Xj,rfl⟩;rcases s with _|⟨P,n,sl,sr⟩
  .exact absurd rfl Cn
  have H:=is.1;have T:=Qc H;rcases sl with _|⟨a1,B,S,a4⟩
  .have zX:P∈r.QP:=Xj P (by simp[Tr.QP]);have QE:b≠P:=by rintro rfl;simp only[Tr.QP,Z8,Kg,QG,QX]at f;grind
   have nl:b ∉ l.QP:=by simp only[Tr.QP,Z8,Kg,QG,QX]at f;grind
   have O:b ∉ r.QP:=by simp only[Tr.QP,Z8,Kg,QG,QX]at f;grind
   have Jh:=Qm (h:=h) (o:=FW n l.ptr r.ptr (Tr.node b E l r).least ((Tr.node b E l r).high:Nat) ((Tr.node b E l r).size:Nat)) QE;obtain⟨s1,L,s3,s4⟩:=FX.1 (show Vt (l.list++E::r.list) from VZ);obtain⟨a0,C⟩:=Tr.Qva r I;have Mx:r.FY=n:=by rw[<- hf];rfl
   rw[Mx]at C;have Uc:r.find n.ka n.ki=.nil->False:=λe=>by
    have h5:=Tr.TW (a:=n.ka) (i:=n.ki) r L;rw[e,C,Qvb]at h5;cases h5
   have V:r.QP.Nodup:=by simp only[Tr.QP,Z8,Kg,QG,QX]at f;grind
   apply Qh m;simp only[go_sem,Qa,H,T];apply Qh m;simp only[go_sem,Qa,z,q,H,T];apply VD [11] m [0,1,2,3,4,5,6,7,8,9,10,12,13,1011,14,1015] [];simp only[go_sem,Qa,z,q,Qy q,Qm QE,H];refine y6 m Tz rfl ?_ (T6 (QgO (QgP N ω) n.ka n.ki) ω r _ (i.2.2.set _ O) V (by simp only[Tr.size]at F;omega) L Uc (λp hp=>by cases hp)) rfl λd h6 R=>?_
   .simp only[go_sem,TZ]
   obtain⟨K,rfl,u⟩:=R;rw[gN r L,C,Qvc (by rw[<- C];exact L)]at u;have h7:=(u.keep b (by simpa using q) O).trans (Qy q);have Y:=Qc h7;have nt:b ∉ K.QP:=λQ=>by
    rcases u.mem b Q with c|c
    .exact O c
    .simp only[XG]at c;omega
   have no:∀k∈l.QP,k ∉ K.QP:=λk y Q=>by
    have T7:=i.2.1.lt k y;rcases u.mem k Q with c|c
    .simp only[Tr.QP,Z8,Kg,QG,QX]at f;grind
    .simp only[XG]at c;omega
   have to:Vs h6 l:=(i.2.1.set _ nl).frame λk y=>u.keep k (by simpa using i.2.1.lt k y) (by simp only[Tr.QP,Z8,Kg,QG,QX]at f ⊢;grind);apply Zd m;simp only[go_sem,Qa,h7,Y];apply Za m;have Z:=u.list;have JQ:=Tr.CN K;rw[Z]at JQ;have XZ:=Tr.CN r;rw[C,VQ]at XZ;refine VY m rk rfl ?_ (sg (loc:=b) (l:=l) (r:=K) (it:=n) ⟨Qy Y,to.set _ nl,u.is.set _ nt⟩ (by
    have a1:=u.nd;simp only[Tr.QP,Z8,Kg,QG,QX]at f ⊢;grind) (by simp only[Tr.size]at F;omega)) rfl λd h8 R=>?_
   .simp only[go_sem]
   obtain⟨U,rfl,v⟩:=R;apply Za m;have vl:=v.list;refine⟨U,rfl,v.is,by rw[vl,Z,Tr.Mw,C],v.nd,λk y=>?_,λk y g=>?_,by have q1:=v.len;have M:=u.len;simp only[XG]at q1 M;omega⟩
   .have M:=u.len;rcases v.mem k y with c|c
    .have B:=u.mem k;simp only[Tr.QP,QG,QX,XG]at c B ⊢;grind
    .simp only[XG]at c M;exact .inr ω
   .have B:=u.mem k;have S:=u.len;simp only[XG]at B S;rw[v.keep k (by simp only[XG];omega) (λc=>by
     simp only[Tr.QP,QG,QX]at c g;rcases c with c|c|c
     .exact g (.inl c)
     .exact g (.inr (.inl c))
     .rcases B c with qW|qW
      .exact g (.inr (.inr qW))
      .omega),Qm (λc=>g (by rw[c];simp[Tr.QP])),u.keep k (by simpa using y) (λc=>g (by simp only[Tr.QP,QG,QX];grind)),Qm (λc=>g (by rw[c];simp[Tr.QP]))]
  .apply Qh m;simp only[go_sem,Qa,H,T];refine⟨by simp only[Tr.size]at kD;omega,_,QQ,.node a1 B S a4,by simp only[Tr.size]at kD ⊢;omega,σ,is.2.1,by rw[<- hf];rfl,λx hx=>Xj x (by rw[Tr.QP];simp[hx]),rfl⟩
@[go_sem] def su(o:Option It):D:=.tup [.agg (o.getD default).cells,QZ o.isSome]
def sv{h}{tl}{t}{L:List It}(A:Bw h tl t L)(a)(k)(r:YY a k L≠none)(z:L.length<500000):
  QI prog 242 h [.ptr tl 0 0 0,.agg [u64 a,Qb k]] (λd v=>d=Qb 0/\∃l,Ua h tl t (XQ a k L) v l):=by
 have f:=A.o;have B:t.size=L.length:=by rw[<- Tr.CN,A.list]
 have b:=Tr.TW (a:=a) (i:=k) t (by rw[A.list];exact A.sorted);rw[A.list]at b;have n:=λg=>QgM (h:=h++g) (Jc (A.app g).o) (A.is.app g).toR a k;cases m:t.find a k with
 | nil=>rw[m]at b;exact absurd b.symm r
 | node I H F E=>
  rw[m]at n;refine Q3 func242 ntmps242 results242 λo w y c=>?_;have j:=Qc f;simp only[go_sem,Qa,f,j];apply JD c QfZ (n _);apply Qh c;simp only[go_sem,Qa,f,j];apply VD [6] c [0,1,2,3,4,5,1006,7,8,1009] [];simp only[go_sem,Qa,f,j];refine y6 c Tz rfl ?_ (T6 (QgO (QgP 500000 π) a k) π t _ (A.is.app _) A.nd ω (by rw[A.list];exact A.sorted) (λe=>by rw[m]at e;cases e) (λp q=>by cases q)) rfl λd C s=>?_
  .simp only[go_sem,TZ]
  obtain⟨l,rfl,u⟩:=s;rw[gN t (by rw[A.list];exact A.sorted),A.list]at u;have b:=(u.under.keep tl j A.out).trans A.o;have x:=Qc b;apply Zd c;simp only[go_sem,Qa,b,x];exact⟨l,A.to u (Qu4 A.sorted)⟩
section
variable {h:List Ob}{tl:Nat}{t:Tr}(ht:(h.map Ob.ro)[tl]? = some (yj t).ro)(i:jz h t)
include ht i
theorem QgR:Zf prog 247 h [.ptr tl 0 0 0] (λd=>d=Qb t.size):=by
 refine ZD func247 ntmps247 results247 λf w j F b k a=>?_;rw[<- b]at ht;have c:=Qc ht;simp only[go_sem,Qa,ht,c];apply JD a FM (FZ (i.more λl o e=>by have:=HN (g:=[]) b l o e;rwa [Jv]at this));apply Qh a;simp only[go_sem,Qa,ht,c];exact⟨[],σ⟩
theorem QgS:Zf prog 213 h [.ptr tl 0 0 0] (λd=>d=su t.list.head?):=by
 have u:∀{F:List Ob},F=h.map Ob.ro->∀g,jz (F++g) t:=λe g=>i.more (HN e);have p:∀{F:List Ob},F=h.map Ob.ro->∀g,((F++g).map Ob.ro)[tl]? = some (yj t).ro:=λe g=>HN e _ _ ht;by_cases n:t=.nil
 .subst n;refine ZD func213 ntmps213 results213 λm w z F e I f=>?_;rw[<- e]at ht;have k:=Qc ht;simp only[go_sem,Qa,ht,k];refine Xg f Qf0 ?_ (QgR (p e _) (u e _)) ?_
  .simp only[go_sem,Qa,ht,k,Tr.size]
  apply Qh f;simp only[go_sem,Qa,ht,k,Tr.size];exact⟨_,rfl,rfl⟩
 .rw[Tr.r7 t n];have J:t.size≠0:=by cases t with
   | nil=>exact absurd rfl n
   | node a b c d=>simp only[Tr.size];omega
  have d0:((t.size:Int)==0)=false:=by simpa using J
  refine ZD func213 ntmps213 results213 λm w z F e I f=>?_;rw[<- e]at ht;have k:=Qc ht;simp only[go_sem,Qa,ht,k];refine Xg f Qf0 ?_ (QgR (p e _) (u e _)) ?_
  .simp only[go_sem,Qa,ht,k,d0]
  apply Qh f;simp only[go_sem,Qa,ht,k,d0];refine Js (λj x=>∃s:Tr,s.size+j<=t.size/\s≠.nil/\jz h s/\s.FY=t.FY/\x=⟨[(2,.ptr F.length 0 0 0),(4,s.ptr)],F++[⟨.one,0,4,1,λ_=>[u64 0,Qb 0,u64 0,Qb 0]⟩]⟩) t.size (s0:=⟨[(2,.ptr F.length 0 0 0),(4,t.ptr)],F++[⟨.one,0,4,1,λ_=>[u64 0,Qb 0,u64 0,Qb 0]⟩]⟩) QQ ⟨t,ω,n,i,rfl,rfl⟩ ?_;rintro j _ O ⟨s,q,K,r,v,rfl⟩;rcases s with _|⟨M,N,y,L⟩
  .exact absurd rfl K
  have l:=r.1;rw[<- e]at l;have o:=Qc l;rcases y with _|⟨H,E,C,B⟩
  .apply Qh f;simp only[go_sem,Qa,l,o];apply Qh f;simp only[go_sem,Qa,l,o];rw[<- v];exact⟨_,rfl,rfl⟩
  .apply Qh f;simp only[go_sem,Qa,l,o];refine⟨by simp only[Tr.size]at q;omega,_,QQ,.node H E C B,by simp only[Tr.size]at q ⊢;omega,σ,r.2.1,by rw[<- v];rfl,rfl⟩
omit ht i in
theorem Qvf{n b}{c:It}{l r:Tr}(h:(Tr.node b c l r).hasB n=true)(d:l.hasB n=false)(e:¬ c.va<=n):r.hasB n=true:=by
 rw[Tr.TX]at h ⊢;obtain⟨x,hx,a⟩:=h;simp only[Tr.list,QX,QG]at hx;rcases hx with hx|rfl|hx
 .have:=(Tr.TX n l).2 ⟨x,hx,a⟩;rw[d]at this;cases this
 .exact absurd a e
 .exact⟨x,hx,a⟩
theorem Qvg(n):Zf prog 249 h [.ptr tl 0 0 0,u64 n] (λd=>d=su (t.list.find? λx=>decide (x.va<=n))):=by
 have y:∀{F:List Ob},F=h.map Ob.ro->∀g,jz (F++g) t:=λa g=>i.more (HN a);rw[<- Tr.gO];cases l:t.hasB n with
 | false=>
  have K:t.first n=none:=by
   rw[Tr.gO,vh];intro x hx f;have:=(Tr.TX n t).2 ⟨x,hx,by simpa using f⟩;rw[l]at this;cases this
  rw[K];refine ZD func249 ntmps249 results249 λp w E F a J c=>?_;rw[<- a]at ht;have m:=Qc ht;simp only[go_sem,Qa,ht,m];refine Xg c rn ?_ (r9 (y a _) n) ?_
  .simp only[go_sem,Qa,ht,m,l]
  apply Qh c;simp only[go_sem,Qa,ht,m,l];exact⟨_,rfl,rfl⟩
 | true=>
  refine ZD func249 ntmps249 results249 λp w E F a J c=>?_;rw[<- a]at ht;have m:=Qc ht;simp only[go_sem,Qa,ht,m];refine Xg c rn ?_ (r9 (y a _) n) ?_
  .simp only[go_sem,Qa,ht,m,l]
  apply Qh c;simp only[go_sem,Qa,ht,m,l];have I:t≠.nil:=by rintro rfl;simp[Tr.hasB]at l
  refine Js (λj B=>∃s:Tr,s.size+j<=t.size/\s≠.nil/\jz h s/\s.hasB n=true/\s.first n=t.first n/\B=⟨[(1,u64 n),(4,.ptr F.length 0 0 0),(6,s.ptr)],F++[⟨.one,0,4,1,λ_=>[u64 0,Qb 0,u64 0,Qb 0]⟩]⟩) t.size (s0:=⟨[(1,u64 n),(4,.ptr F.length 0 0 0),(6,t.ptr)],F++[⟨.one,0,4,1,λ_=>[u64 0,Qb 0,u64 0,Qb 0]⟩]⟩) QQ ⟨t,ω,I,i,l,rfl,rfl⟩ ?_;rintro j _ N ⟨s,q,L,r,u,b,rfl⟩;rcases s with _|⟨M,H,v,C⟩
  .exact absurd rfl L
  have e:=r.1;rw[<- a]at e;have o:=Qc e;rw[Tr.first]at b;apply Qh c;simp only[go_sem,Qa,e,o];apply JD c rn (r9 (r.2.1.more (HN a)) n);apply Qh c;simp only[go_sem,Qa,e,o];cases k:v.hasB n with
  | true=>
   rw[k,Qf rfl]at b;simp only[go_sem,Qa,k,e,o];refine⟨by simp only[Tr.size]at q;omega,_,QQ,v,by simp only[Tr.size]at q;omega,by rintro rfl;simp[Tr.hasB]at k,r.2.1,k,b,rfl⟩
  | false=>
   rw[k,Qe π]at b;simp only[go_sem,Qa,k,e,o];by_cases f:H.va<=n
   .have d1:=Q1 f;rw[Qf f]at b;simp only[go_sem,Qa,d1,e,o];rw[<- b];exact⟨_,rfl,rfl⟩
   .have d1:=QU f;rw[Qe f]at b;simp only[go_sem,Qa,d1,e,o];have z:=Qvf u k f;refine⟨by simp only[Tr.size]at q;omega,_,QQ,C,by simp only[Tr.size]at q;omega,by rintro rfl;simp[Tr.hasB]at z,r.2.2,z,b,rfl⟩
end
@[go_sem] def sw(o:Option It):Ob:=⟨.one,0,4,1,λ_=>(o.getD default).cells⟩
@[go_sem] def sx(o:Option It):Ob:=⟨.one,0,1,1,λ_=>[QZ o.isSome]⟩
def Qvi(x):kB x x=x:=by rw[QgB,Qe (TV x)]
def QgT{h:List Ob}{lm lo}{o}(d:h[lm]? = some (sx o))(c:h[lo]? = some (sw o))(f:lm≠lo)(x):
  QI prog 228 h [.agg x.cells,.ptr lm 0 0 0,.ptr lo 0 0 0] (λ_ m=>∃g,m=(h.set lm (sx (zW o x))).set lo (sw (zW o x))++g):=by
 have e:=Q8 f;cases o with
 | none=>
  have k:=Po x x;rw[Qvi]at k;refine Q3 func228 ntmps228 results228 λj w l i=>?_;have b:=Qc d;have a:=Qc c;simp only[go_sem,Qa,d,b,c,a,Qm f,Qm e,xJ,wz,Vn,N3,zW,Qy b,Qy a];refine JG i O1 ?_ k ?_
  .simp only[go_sem,Qa,d,b,c,a,Qm f,Qm e,xJ,wz,Vn,N3,zW,Qy b,Qy a]
  apply Qh i;simp only[go_sem,Qa,d,b,c,a,Qm f,Qm e,xJ,wz,Vn,N3,zW,Qy b,Qy a];rw[List.set_comm _ _ e,JS];exact⟨_,rfl⟩
 | some y=>
  have k:=Po y x;refine Q3 func228 ntmps228 results228 λj w l i=>?_;have b:=Qc d;have a:=Qc c;simp only[go_sem,Qa,d,b,c,a,Qm f,Qm e,xJ,wz,Vn,N3,zW,Qy b,Qy a];refine JG i O1 ?_ k ?_
  .simp only[go_sem,Qa,d,b,c,a,Qm f,Qm e,xJ,wz,Vn,N3,zW,Qy b,Qy a]
  apply Qh i;simp only[go_sem,Qa,d,b,c,a,Qm f,Qm e,xJ,wz,Vn,N3,zW,Qy b,Qy a];exact⟨_,rfl⟩
def Tr.Qvj(n f)(e:It)(l r:Tr)(o):(Tr.node f e l r).jA n o=if n<e.ka then l.jA n o else r.jA n (match l with
  | .nil=>zW o e
  | .node a b c d=>zW (zW o e) (Tr.node a b c d).least):=by cases l<;>rfl
def Bx(F g:List Ob)(n:Nat)(s:Tr)(o:Option It):St:=
 ⟨[(1,u64 n),(4,.ptr F.length 0 0 0),(6,.ptr (F.length+1) 0 0 0),(7,.ptr (F.length+2) 0 0 0),(8,.clo 228 0 [.ptr (F.length+2) 0 0 0,.ptr (F.length+1) 0 0 0]),(9,s.ptr)],
  F++(⟨.one,0,4,1,λ_=>[u64 0,Qb 0,u64 0,Qb 0]⟩::sw o::sx o::g)⟩
section
variable {h:List Ob}{tl:Nat}{t:Tr}(ht:(h.map Ob.ro)[tl]? = some (yj t).ro)(i:jz h t)
include ht i
theorem QgU(n):Zf prog 175 h [.ptr tl 0 0 0,u64 n] (λd=>d=su (t.jA n none)):=by
 refine ZD func175 ntmps175 results175 λE w N F z Q f=>?_;rw[<- z]at ht;have L:=Qc ht;simp only[go_sem,Qa,ht,L];refine Js (λj H=>∃(s:Tr) (o:Option It) (g:List Ob),s.size+j<=t.size/\jz h s/\s.jA n o=t.jA n none/\H=Bx F g n s o) t.size (s0:=Bx F [] n t none) ?_ ⟨t,none,[],ω,i,rfl,rfl⟩ ?_
 .simp only[Bx];exact QQ
 rintro j _ P ⟨s,o,g,m,p,k,rfl⟩;rcases s with _|⟨O,q,x,u⟩
 .simp only[Bx];apply QM f;apply QM f;apply VD [] f [0] [1,2,3];simp only[go_sem,Qa];have I:o=t.jA n none:=k;subst I;refine⟨⟨_,rfl,rfl⟩,⟨_,rfl,rfl⟩⟩
 have l:=p.1;rw[<- z]at l;have r:=Qc l;rw[Tr.Qvj]at k;by_cases v:n<q.ka
 .have d1:=Q1 v;rw[Qf v]at k;simp only[Bx];apply Qh f;simp only[go_sem,Qa,l,r,d1];refine⟨by simp only[Tr.size]at m;omega,Bx F g n x o,?_,x,o,g,by simp only[Tr.size]at m;omega,p.2.1,k,rfl⟩;simp only[Bx];exact QQ
 .have d1:=QU v;rw[Qe v]at k;simp only[Bx];apply Qh f;simp only[go_sem,Qa,l,r,d1];refine JO f QfW (QgT (lm:=F.length+2) (lo:=F.length+1) (o:=o) (Wm rfl) (Wm rfl) ω q) λd J y=>?_;obtain⟨C,rfl⟩:=y;simp only[go_sem,Qa];cases x with
  | nil=>
   apply Qh f;simp only[go_sem,Qa,l,r];refine⟨by simp only[Tr.size]at m;omega,Bx F (g++C) n u (zW o q),?_,u,_,_,by simp only[Tr.size]at m;omega,p.2.2,k,rfl⟩;simp only[Bx];exact QQ
  | node a b c e=>
   have B:=p.2.1.1;rw[<- z]at B;have M:=Qc B;apply Qh f;simp only[go_sem,Qa,l,r,B,M];refine JO f QfW (QgT (lm:=F.length+2) (lo:=F.length+1) (o:=zW o q) (Wm rfl) (Wm rfl) ω (Tr.node a b c e).least) λd J y=>?_;obtain⟨K,rfl⟩:=y;simp only[go_sem,Qa];apply Qh f;simp only[go_sem,Qa,l,r];refine⟨by simp only[Tr.size]at m;omega,Bx F (g++(C++K)) n u (zW (zW o q) (Tr.node a b c e).least),?_,u,_,_,by simp only[Tr.size]at m;omega,p.2.2,k,rfl⟩;simp only[Bx];exact QQ
end
def X1(e:ZQ):Int × D:=(e.k,e.v)
structure Yz (es:List ZQ) (P:List (Int × D)):Prop where
 perm:(es.map X1).Perm P
 nd:(P.map Prod.fst).Nodup
def Yz.CJ{a}{P}(M:Yz a P):Yc a:=by
 have b:a.map (·.k)=(a.map X1).map Prod.fst:=by simp[X1,bB]
 unfold Yc;rw[b,(M.perm.map Prod.fst).nodup_iff];exact M.nd
def sy:∀{b:List ZQ},Yc b->∀{k:Int} {v:D},Ja b k=some v↔(k,v)∈b.map X1
 | [],_,k,v=>by simp[Ja]
 | e::b,a,k,v=>by
  have g:Yc b:=by unfold Yc at a ⊢;simp only[Jo,Z8]at a;exact a.2
  simp only[Ja];by_cases h:e.k=k
  .rw[Qf h];constructor
   .rintro⟨rfl⟩;simp[X1,h]
   .intro hm;simp only[Jo,QG]at hm;rcases hm with hm|hm
    .simp only[X1,Zh]at hm;rw[hm.2]
    .exfalso;obtain⟨d,f,c⟩:=JA.1 hm;simp only[X1,Zh]at c;unfold Yc at a;simp only[Jo,Z8,JA,Fc,not_and]at a;exact a.1 d f (by rw[c.1,h])
  .rw[Qe h,sy g];simp only[Jo,QG];constructor
   .exact λh=>.inr h
   .rintro (hm|hm)
    .simp only[X1,Zh]at hm;exact absurd hm.1.symm h
    .exact hm
def look(P:List (Int × D))(k:Int):Option D:=(P.find? λp=>p.1==k).map Prod.snd
def gQ:∀{P:List (Int × D)},(P.map Prod.fst).Nodup->∀{k:Int} {v:D},look P k=some v↔(k,v)∈P
 | [],_,k,v=>by simp[look]
 | p::P,a,k,v=>by
  simp only[Jo,Z8]at a;have b:=gQ a.2 (k:=k) (v:=v);unfold look at b ⊢;rw[vg];by_cases h:p.1=k
  .rw[jr.2 h];simp only[KA,Q4,QG];constructor
   .rintro rfl;exact .inl (by rw[<- h])
   .rintro (hm|hm)
    .rw[<- hm]
    .exact absurd (JA.2 ⟨_,hm,rfl⟩) (by rw[<- h];exact a.1)
  .have c:(p.1==k)=false:=by simpa using h
   rw[c,b,QG];constructor
   .exact λh=>.inr h
   .rintro (hm|hm)
    .exact absurd (by rw[<- hm]) h
    .exact hm
def Yz.look{b}{P}(M:Yz b P)(k):Ja b k=look P k:=by
 cases a:X.look P k with
 | some v=>
  rw[sy M.CJ,M.perm.mem_iff];exact(gQ M.nd).1 a
 | none=>
  cases c:Ja b k with
  | none=>rfl
  | some v=>
   rw[sy M.CJ,M.perm.mem_iff]at c;rw[(gQ M.nd).2 c]at a;cases a
def Yz.len{a:List ZQ}{P:List (Int × D)}(M:Yz a P):a.length=P.length:=by
 have:=M.perm.length_eq;rwa [KK]at this
def CS(P:List (Int × D))(k:Int):List (Int × D):=P.filter λp=>p.1 != k
def F1(P:List (Int × D))(k:Int)(v:D):List (Int × D):=(k,v)::CS P k
def QgV{P:List (Int × D)}(k:Int)(h:(P.map Prod.fst).Nodup):((CS P k).map Prod.fst).Nodup:=by
 unfold CS;exact List.Nodup.sublist (List.Sublist.map _ List.filter_sublist) h
def QgW{P:List (Int × D)}(k)(v:D)(h:(P.map Prod.fst).Nodup):((F1 P k v).map Prod.fst).Nodup:=by
 rw[F1,Jo,Z8];refine⟨λb=>?_,QgV k h⟩;obtain⟨p,a,e⟩:=JA.1 b;simp only[CS,JI,bne_iff_ne,ne_eq]at a;exact a.2 e
def QgX:∀{a:List ZQ} (k:Int) (v:D),Yc a->(∃u,Ja a k=some u)->((kg a k v).map X1).Perm ((k,v)::(a.map X1).filter λp=>p.1 != k)
 | [],k,v,_,h=>by obtain⟨u,c⟩:=h;cases c
 | e::a,k,v,d,h=>by
  have i:Yc a/\∀g∈a,g.k≠e.k:=by
   unfold Yc at d ⊢;simp only[Jo,Z8,JA,Fc,not_and]at d;exact⟨d.2,d.1⟩
  simp only[kg];by_cases b:e.k=k
  .rw[Qf b,Jo,Jo];have f:(X1 e).1=k:=b;rw[xD,show ((X1 e).1 != k)=false by rw[f];simp];simp only[YF,zG];rw[AP.2]
   .exact Sc _
   .intro p j;obtain⟨g,m,rfl⟩:=JA.1 j;have:=i.2 g m;simpa[X1,<- b] using this
  .rw[Qe b,Jo,Jo,xD];have f:((X1 e).1 != k)=true:=by simpa[X1] using b
   rw[f,Qf rfl];have l:∃u,Ja a k=some u:=by
    obtain⟨u,c⟩:=h;simp only[Ja,Qe b]at c;exact⟨u,c⟩
   exact(List.Perm.cons _ (QgX k v i.1 l)).trans (List.Perm.swap _ _ _)
def Yz.set{a}{P}(M:Yz a P)(q)(c)(k)(v):∃h b,Ki q c a k v=QR q h b/\Yz b (F1 P k v):=by
 unfold Ki;cases d:Ja a k with
 | some u=>
  refine⟨c,kg a k v,rfl,?_,QgW k v M.nd⟩;exact(QgX k v M.CJ ⟨u,d⟩).trans (List.Perm.cons _ (M.perm.filter _))
 | none=>
  refine⟨c+1,a++[⟨k,v,c⟩],rfl,?_,QgW k v M.nd⟩;rw[jZ,F1];have g:CS P k=P:=by
   unfold CS;rw[AP];intro p f;rw[bne_iff_ne];intro e;have:=(gQ M.nd (k:=k) (v:=p.2)).2 (by rw[<- e];exact f);rw[<- M.look,d]at this;cases this
  rw[g];exact(List.perm_append_comm.trans (List.Perm.cons _ M.perm))
def QgY:∀{a:List ZQ} (k:Int),Yc a->((Kc a k).map X1)=((a.map X1).filter λp=>p.1 != k)
 | [],_,_=>rfl
 | e::a,k,c=>by
  have f:Yc a/\∀d∈a,d.k≠e.k:=by
   unfold Yc at c ⊢;simp only[Jo,Z8,JA,Fc,not_and]at c;exact⟨c.2,c.1⟩
  simp only[Kc];by_cases b:e.k=k
  .rw[Qf b,Jo,xD,show ((X1 e).1 != k)=false by simpa[X1] using b];simp only[YF,zG];rw[AP.2];intro p g;obtain⟨d,h,rfl⟩:=JA.1 g;have:=f.2 d h;simpa[X1,<- b] using this
  .rw[Qe b,Jo,Jo,xD,show ((X1 e).1 != k)=true by simpa[X1] using b,Qf rfl,QgY k f.1]
def Yz.del{a}{P}(M:Yz a P)(k):Yz (Kc a k) (CS P k):=by
 refine⟨?_,QgV k M.nd⟩;rw[QgY k M.CJ];exact M.perm.filter _
def Yz.nil:Yz [] []:=⟨σ,σ⟩
def Yz.to{a}{P Q:List (Int × D)}(M:Yz a P)(h:P.Perm Q):Yz a Q:=⟨M.perm.trans h,((h.map Prod.fst).nodup_iff).1 M.nd⟩
structure Step (S:Nat->Prop) (h h':List Ob):Prop where
 keep:∀l,l<h.length->¬ S l->h'[l]? = h[l]?
 len:h.length<=h'.length
def more(S:Nat->Prop)(h:List Ob):Nat->Prop:=λl=>S l\/h.length<=l
def Step.trans{S}{h h' c}(a:Step S h h')(b:Step (more S h) h' c):Step S h c:=
 ⟨λl e d=>by rw[b.keep l (wy e a.len) (λf=>f.elim d ω),a.keep l e d],JL a.len b.len⟩
def Step.app(S)(h g):Step S h (h++g):=⟨λl a _=>QJ a,σ⟩
structure Vd (es:List ZQ) (f:Int->Option D):Prop where
 nd:Yc es
 at_:∀k,Ja es k=f k
section
variable {es:List ZQ}{f:Int->Option D}
def Vd.p(M:Vd es f):Yz es (es.map X1):=⟨Sc _,by
 have a:(es.map X1).map Prod.fst=es.map (·.k):=by simp[X1,bB]
 rw[a];exact M.nd⟩
def Vd.to{g}(M:Vd es f)(h:∀k,f k=g k):Vd es g:=⟨M.nd,λk=>(M.at_ k).trans (h k)⟩
def QgZ(P)(k j):look (CS P k) j=if j=k then none else look P j:=by
 unfold look CS;rw[List.find?_filter];by_cases h:j=k
 .subst h;rw[Qf rfl,ct,vh];intro p _ b;simp at b
 .rw[Qe h];congr 2;funext p;by_cases a:p.1=j
  .simp[a,h]
  .simp[a]
def Qvk(P)(k)(v)(j):look (F1 P k v) j=if j=k then some v else look P j:=by
 have a:=QgZ P k j;unfold look at a ⊢;unfold F1;rw[vg];by_cases h:j=k
 .subst h;simp
 .have b:((k,v).1==j)=false:=by simpa using Q8 h
  rw[b,Qe h];rw[Qe h]at a;exact a
def Vd.set(M:Vd es f)(q)(c)(k)(v):∃b a,Ki q c es k v=QR q b a/\Vd a (λj=>if j=k then some v else f j):=by
 obtain⟨b,a,e,d⟩:=M.p.set q c k v;refine⟨b,a,e,d.CJ,λj=>?_⟩;rw[d.look,Qvk];split
 .rfl
 .rw[<- M.p.look,M.at_]
def Vd.del(M:Vd es f)(k):Vd (Kc es k) (λj=>if j=k then none else f j):=by
 have a:=M.p.del k;refine⟨a.CJ,λj=>?_⟩;rw[a.look,QgZ];split
 .rfl
 .rw[<- M.p.look,M.at_]
def Vd.nil:Vd [] (λ_=>none):=⟨by simp[Yc],λ_=>rfl⟩
def Vd.Qg0(M:Vd es f):es.length=0↔∀k,f k=none:=by
 constructor
 .intro h k;rw[NO]at h;rw[<- M.at_,h];rfl
 .intro h;cases es with
  | nil=>rfl
  | cons e es=>
   have a:=M.at_ e.k;rw[h,Ja,Qf rfl]at a;cases a
end
def My(b:Bool):Int:=if b then 1 else 0
def wZ(T:List Qq)(k:Int):Option D:=match QC T k with
 | some c=>if 1<QS c.ls then some (.agg [Qb c.parent,Qb (My c.leaf)]) else none
 | none=>none
def By(T:List Qq)(A:List Int)(k:Int):Option D:=if k∈A then some (Qb ((QC T k).getD default).parent) else none
def Ed(a:Int->Option Nat)(k:Int):Option D:=(a k).map λl=>.mref l 0
def Af(f:Int->Bool)(i:Int):Option D:=if f i then some (Qb 1) else none
@[go_sem] def gR(c b a:Nat):Ob:=⟨.one,0,3,1,λ_=>[.mref c 0,.mref b 0,.mref a 0]⟩
structure jB (S:Nat->Prop) (h:List Ob) (p b1 b2 b3 c1 c2 c3:Nat) (ZV Jj K6:List ZQ) (kl:Int->Option Nat) (T:List Qq) (A:List Int) (Kd:Int->Int->Bool):Prop where
 o:h[p]? = some (gR b1 b2 b3)
 m1:h[b1]? = some (QR .i64 c1 ZV)
 f1:Vd ZV (wZ T)
 m2:h[b2]? = some (QR .i64 c2 Jj)
 f2:Vd Jj (By T A)
 m3:h[b3]? = some (QR .i64 c3 K6)
 f3:Vd K6 (Ed kl)
 ks:∀k l,kl k=some l->∃c es,h[l]? = some (QR .i64 c es)/\Vd es (Af (Kd k))
 kn:∀k i,kl k=none->Kd k i=false
 ki:∀k k' l,kl k=some l->kl k'=some l->k=k'
 Ud:b1≠b2
 Ue:b1≠b3
 Pp:b2≠b3
 gS:p≠b1
 Uf:p≠b2
 F2:p≠b3
 nk:∀k l,kl k=some l->l≠p/\l≠b1/\l≠b2/\l≠b3
 sp:S p
 s1:S b1
 s2:S b2
 s3:S b3
 sk:∀k l,kl k=some l->S l
def jC(S:Nat->Prop)(h:List Ob)(p:Nat)(T:List Qq)(A:List Int):Prop:=∃f e d c c2 b g j i a,jB S h p f e d c c2 b g j i a T A (zU T A)
def jB.step{S S'}{h h'}{p t s r n m j}{u x w}{g}{T}{A}{v}
  (e:∀l,l<h.length->S l->S' l/\h'[l]? = h[l]?) (a:jB S h p t s r n m j u x w g T A v):jB S' h' p t s r n m j u x w g T A v:=by
 have k:∀l o,S l->h[l]? = some o->S' l/\h'[l]? = some o:=λl o d b=>⟨(e l (Qc b) d).1,(e l (Qc b) d).2.trans b⟩;refine⟨(k _ _ a.sp a.o).2,(k _ _ a.s1 a.m1).2,a.f1,(k _ _ a.s2 a.m2).2,a.f2,(k _ _ a.s3 a.m3).2,a.f3,λq l f=>?_,a.kn,a.ki,a.Ud,a.Ue,a.Pp,a.gS,a.Uf,a.F2,a.nk,(k _ _ a.sp a.o).1,(k _ _ a.s1 a.m1).1,(k _ _ a.s2 a.m2).1,(k _ _ a.s3 a.m3).1,λq l f=>?_⟩
 .obtain⟨c,i,d,b⟩:=a.ks q l f;exact⟨c,i,(k _ _ (a.sk q l f) d).2,b⟩
 .obtain⟨c,i,d,b⟩:=a.ks q l f;exact(k _ _ (a.sk q l f) d).1
def jC.step{S S'}{h h':List Ob}{p}{T}{A}(e:∀l,l<h.length->S l->S' l/\h'[l]? = h[l]?):jC S h p T A->jC S' h' p T A:=
 λ⟨g,f,d,c,c2,b,i,k,j,a,O⟩=>⟨g,f,d,c,c2,b,i,k,j,a,O.step e⟩
structure Qvl (h:List Ob) (p b1 b2 b3 c1 c2 c3:Nat) (ZV Jj K6:List ZQ) (kl:Int->Option Nat) (T:List Qq) (A:List Int) (Kd:Int->Int->Bool):Prop where
 o:(h.map Ob.ro)[p]? = some (gR b1 b2 b3).ro
 m1:(h.map Ob.ro)[b1]? = some (QR .i64 c1 ZV).ro
 f1:Vd ZV (wZ T)
 m2:(h.map Ob.ro)[b2]? = some (QR .i64 c2 Jj).ro
 f2:Vd Jj (By T A)
 m3:(h.map Ob.ro)[b3]? = some (QR .i64 c3 K6).ro
 f3:Vd K6 (Ed kl)
 ks:∀k l,kl k=some l->∃c es,(h.map Ob.ro)[l]? = some (QR .i64 c es).ro/\Vd es (Af (Kd k))
 kn:∀k i,kl k=none->Kd k i=false
def HQ(h:List Ob)(p:Nat)(T:List Qq)(A:List Int):Prop:=∃f e d c c2 b g j i a,Qvl h p f e d c c2 b g j i a T A (zU T A)
def jC.toR{S}{h}{p}{T}{A}:jC S h p T A->HQ h p T A:=
 λ⟨n,m,j,i,c2,g,o,r,q,a,O⟩=>⟨n,m,j,i,c2,g,o,r,q,a,Jc O.o,Jc O.m1,O.f1,Jc O.m2,O.f2,Jc O.m3,O.f3,λk l b=>by
  obtain⟨c,f,e,d⟩:=O.ks k l b;exact⟨c,f,Jc e,d⟩,O.kn⟩
def HQ.more{h h':List Ob}{p}{T}{A}(e:∀(l:Nat) (o:Ob),(h.map Ob.ro)[l]? = some o->(h'.map Ob.ro)[l]? = some o):HQ h p T A->HQ h' p T A:=
 λ⟨q,n,m,j,c2,i,r,t,s,a,O⟩=>⟨q,n,m,j,c2,i,r,t,s,a,e _ _ O.o,e _ _ O.m1,O.f1,e _ _ O.m2,O.f2,e _ _ O.m3,O.f3,λk l b=>by
  obtain⟨c,g,f,d⟩:=O.ks k l b;exact⟨c,g,e _ _ f,d⟩,O.kn⟩
def Qvm{T}(I:KU T){A}(n:Ac T A)(b)(o:b≠0):(b∈A\/∃i,zU T A b i=true)↔Jx T A b=true:=by
 constructor
 .rintro (h|⟨i,j⟩)
  .obtain⟨c,f,e,g⟩:=n b h;exact zd.2 ⟨b,h,Yi I f⟩
  .obtain⟨c,f,e,g⟩:=yf.1 j;obtain⟨d,k,_⟩:=I.Zy c (Ab I f) (by rw[e];exact o);rw[e]at k;exact Ms I g (by rw[VT I f,e];exact Jw _ (Yi I k))
 .intro h;obtain⟨a,l,j⟩:=zd.1 h;by_cases m:a=b
  .subst m;exact .inl l
  .obtain⟨i,c,f,e,g⟩:=gK I j m;exact .inr ⟨i,yf.2 ⟨c,e,g,zd.2 ⟨a,l,f⟩⟩⟩
end Go.Fg.X
namespace Go.Fg.X
open Go.Proofs Go.Fg
open Go.RowKit (Below)
open Go.Proofs.Tryz
def Qg1{P}{f}{h}{u}{R}(B:D)(O:∀k,B.upto k=true)
  (hd:∀d g,R d g->Ky 6 d B\/∃c z x n a,h.length<=c/\(h++g)[c]? = some ⟨.arr,z,x,n,a⟩/\(∀i,i<n->(a i).all D.ko=true)/\Ky 6 (D.fz c z n x a d) B) (H:Xf P f h u R):Zf P f h u (λd=>d=B):=by
 intro Z t w j vs h1 h2 m I hc;have Ts:Zo Z w.heap.size (h.map Ob.ro) j w:=by
  refine⟨m.len,m.inj,m.VX,λl o b q V F=>⟨λU=>?_,(m.at_ l o b q V F).2⟩⟩;obtain⟨N,_,rfl⟩:=Hv V;rw[dD,Kd.toRo_ro]at U;cases U
 refine(H Z w.heap.size w j vs (Qs _) h2 Ts I hc).mono λe E he=>?_;obtain⟨v,d,_,s,rfl,⟨g,rfl,hR⟩,L,W,hT,hB⟩:=he;have Y:∀b,b<w.heap.size->E.heap[b]? = w.heap[b]? := λb hb=>hB.block b hb;have Zn:∀(l:Nat),l<h.length->s[l]? = j[l]? := λl I=>by
  have J7:l<j.length:=by rw[m.len];simpa using I
  obtain⟨N,p',T,m2,_,_,m3⟩:=hT.obj l _ _ (Jc (QT I)) (QT J7);rw[JY (by simpa using I),Jc (QT I)]at T;cases T;obtain⟨_,rfl⟩:=m3 rfl;rw[m2,QT J7]
 have e1:(h.map Ob.ro++g).take h.length=h.map Ob.ro:=List.take_left' σ;have gT:QF Z (h.map Ob.ro) j E B v->_:=λhx=>(⟨v,B,h.map Ob.ro,j,rfl,⟨[],(Jv _).symm,O _,rfl⟩,m.ext Y,hx,Go.Fg.Tr.ext m Y,hB.mono h1⟩:∃S d M s,Ending.returned v=.returned S/\(∃g,M=h.map Ob.ro++g/\d.upto h.length=true/\d=B)/\Zo Z t M s E/\QF Z M s E d S/\Go.Fg.Tr (h.map Ob.ro) j w M s E/\Below t w E);refine gT ?_;rcases hd _ _ hR with C|⟨c,z,x,n,a,J,ZM,Z1,C⟩
 .have r:=(xW 6 C W).take (O h.length);have Q:s.take h.length=j:=by
   apply AO;intro i;rw[X7];by_cases y:i<h.length
   .rw[Qf y,Zn i y]
   .rw[Qe y,B4 (by rw[m.len];simp;omega)]
  rw[e1,Q]at r;exact r
 have K:(h.map Ob.ro++g)[c]? = some ⟨.arr,z,x,n,a⟩:=by
  rw[Kw ω]at ZM;rw[Kw (by simpa using J)];simpa using ZM
 have Qc:c<s.length:=by rw[L.len];exact(Xa.1 K).1
 obtain⟨p,F⟩:∃p,s[c]? = some p:=⟨_,QT Qc⟩;have Pq:=W.fz (l:=c) (o:=⟨.arr,z,x,n,a⟩) (p:=p) K F rfl (λb q e=>by
  subst e;refine⟨h2 b ?_,λl' q' e'=>L.inj _ _ _ _ _ e' F,(L.at_ c _ b q K F).2.cells rfl⟩;exact(L.at_ c _ b q K F).1 rfl) Z1 (h':=(h.map Ob.ro++g).set c (Ob.gone ⟨.arr,z,x,n,a⟩)) (λl' N QE e=>by
  exact⟨N,by rw[JZ (Q8 QE)];exact e,rfl,rfl,rfl⟩)
 have r:=(xW 6 C Pq).take (O h.length);have e3:((h.map Ob.ro++g).set c (Ob.gone ⟨.arr,z,x,n,a⟩)).take h.length=h.map Ob.ro:=by
  rw[NT _ _ (by simpa using J)];exact List.take_left' σ
 have Q:(s.set c none).take h.length=j:=by
  apply AO;intro i;rw[X7];by_cases y:i<h.length
  .rw[Qf y,JZ ω,Zn i y]
  .rw[Qe y,B4 (by rw[m.len];simp;omega)]
 rw[e3,Q]at r;exact r
end Go.Fg.X
namespace Go.Fg.X
open Go.Proofs Go.Fg
open Go.Proofs.Tryz
section
variable (h:List Ob)(t m c:Nat){es:List ZQ}{L:List Qq}(T:VS es L)(hlen:L.length<1000000)
 (ht:(h.map Ob.ro)[t]? = some ⟨.WI,0,1,1,λ_=>[.mref m 0]⟩) (hm:(h.map Ob.ro)[m]? = some (QR .i64 c es).ro)
include T ht hm hlen
theorem Qvn:Xf prog 118 h [.ptr t 0 0 0] (λd g=>KC h.length (h++g) d ((L.filter (·.leaf)).map (·.iD))):=by
 refine Bn VK 200 func118 rfl ntmps118 results118 rfl λa w i F e f b=>?_;rw[<- e]at ht hm;have l:=Qc ht;have n:=Qc hm;simp only[go_sem,Qa,ht,l,hm,n];have k:TJ (F.map Ob.ro) 151 0 [] (λx=>x.leaf):=λp x o=>by
  refine ZD func151 ntmps151 results151 λa w i F e f b=>?_;simp only[go_sem,Qa];exact⟨_,rfl⟩
 refine Hw b fQ rfl ?_ (gE _ t m c T hlen (Jc ht) (Mn hm) (.raw (.func (.func 151) ⟨[]⟩ ⟨[]⟩)) 151 0 [] Qs6 rfl _ k) rfl λd g j=>?_
 .simp only[go_sem]
 apply QM b;exact KC.done f ⟨_,rfl⟩ j
end
def Ee{h g:List Ob}(l:Nat)(o:Ob)(e:(h.map Ob.ro)[l]? = some o):((h++g).map Ob.ro)[l]? = some o:=by
 rw[jZ,JY (KY e)];exact e
def KC.closed{P}{f}{h:List Ob}{a}{L}(H:Xf P f h a (λd g=>KC h.length (h++g) d L)):Zf P f h a (λd=>d=ints L):=by
 refine Qg1 (ints L) (λ_=>rfl) ?_ H;rintro d g (⟨rfl,m⟩|⟨c,e,p,b,rfl,⟨o,rfl⟩,l,j⟩)
 .subst m;exact .inl rfl
 .refine .inr ⟨c,e,1,_,b,o,l,λi k=>?_,?_⟩
  .have:=j i ω;rw[JM]at this;rw[this];rfl
  .have n:D.fz c e (0+L.length) 1 b (.ref c e 0 L.length)=.imm 1 L.length (rowFrom 0 b):=by simp[D.fz,eX]
   rw[n];simp only[ints];rw[fq];refine⟨rfl,rfl,λi k=>?_⟩;rw[Tp,j i k,QtY];exact Md (Hu _) _
def Qvo(h)(x):Zf prog 87 h [Yh x] (λd=>d=QZ true):=by
 refine ZD func87 ntmps87 results87 λa w b F e f c=>?_;simp only[go_sem,Qa];all_goals exact Wo
section
variable (h:List Ob)(t m c:Nat){es:List ZQ}{L:List Qq}(T:VS es L)(hlen:L.length<1000000)
 (ht:(h.map Ob.ro)[t]? = some ⟨.WI,0,1,1,λ_=>[.mref m 0]⟩) (hm:(h.map Ob.ro)[m]? = some (QR .i64 c es).ro)
include T ht hm hlen
theorem Qvp:Xf prog 35 h [.ptr t 0 0 0] (λd g=>KC h.length (h++g) d ((L.filter (λ_=>true)).map (·.iD))):=by
 refine Bn VK 200 func35 rfl ntmps35 results35 rfl λb w p F i l a=>?_;rw[<- i]at ht hm;have k:=Qc ht;have n:=Qc hm;simp only[go_sem,Qa,ht,k,hm,n];have f:TJ (F.map Ob.ro) 87 0 [] (λx=>true):=λj x o=>Qvo j x;refine Hw a fQ rfl ?_ (gE _ t m c T hlen (Jc ht) (Mn hm) (.raw (.func (.func 87) ⟨[]⟩ ⟨[]⟩)) 87 0 [] QsC rfl _ f) rfl λd g e=>?_
 .simp only[go_sem]
 apply QM a;exact KC.done l ⟨_,rfl⟩ e
end
def WA(S:Nat->Prop)(h:List Ob)(t:Nat)(T:List Qq):Prop:=∃m c a,h[t]? = some ⟨.one,0,1,1,λ_=>[.mref m 0]⟩/\h[m]? = some (QR .i64 c a)/\VS a T/\S t/\S m
def XR(h:List Ob)(t:Nat)(T:List Qq):Prop:=∃m c a,(h.map Ob.ro)[t]? = some ⟨.WI,0,1,1,λ_=>[.mref m 0]⟩/\(h.map Ob.ro)[m]? = some (QR .i64 c a).ro/\VS a T
def WA.toR{S}{h}{t}{T}:WA S h t T->XR h t T:=λ⟨m,c,e,d,b,a,_,_⟩=>⟨m,c,e,Jc d,Jc b,a⟩
def WA.step{S S'}{h h':List Ob}{t}{T}(e:∀l,l<h.length->S l->S' l/\h'[l]? = h[l]?):WA S h t T->WA S' h' t T:=λ⟨m,c,i,b,a,g,f,d⟩=>
 ⟨m,c,i,((e _ (Qc b) f).2).trans b,((e _ (Qc a) d).2).trans a,g,(e _ (Qc b) f).1,(e _ (Qc a) d).1⟩
def XR.more{h h':List Ob}{t}{T}(e:∀(l:Nat) (o:Ob),(h.map Ob.ro)[l]? = some o->(h'.map Ob.ro)[l]? = some o):XR h t T->XR h' t T:=λ⟨m,c,f,d,b,a⟩=>⟨m,c,f,e _ _ d,e _ _ b,a⟩
section
variable {h:List Ob}{t:Nat}{T:List Qq}(R:XR h t T)(hlen:T.length<1000000)
include R hlen
theorem gU:Zf prog 35 h [.ptr t 0 0 0] (λd=>d=ints (T.map (·.iD))):=by
 obtain⟨m,c,f,a,b,e⟩:=R;have:=KC.closed (Qvp h t m c e hlen a b);rwa [AP.2 (λ_ _=>rfl)]at this
theorem Qvq(a):Zf prog 191 h [.ptr t 0 0 0,Qb a] (λd=>d=ints (Xh T a)):=by
 obtain⟨m,c,g,b,e,f⟩:=R;exact KC.closed (rR h t m c f hlen b e a)
omit hlen in
theorem sA(I:TreeInv T)(a):Zf prog 115 h [.ptr t 0 0 0,Qb a] (λd=>d=ints (J3 T 16 a)):=by
 obtain⟨m,c,g,b,e,f⟩:=R;exact KC.closed (Qgm h t m c f b e a 16 π (I.ends a))
omit hlen in
theorem Pr(a:Int):Zf prog 77 h [.ptr t 0 0 0,Qb a] (λd=>d=.tup [Yh ((QC T a).getD default),Qb (if (QC T a).isSome then 0 else 6)]):=by
 obtain⟨m,c,g,b,e,f⟩:=R;exact Qgl h t m c f b e a
end
def gV{f}{a:List ZQ}(M:Vd a (Af f)):0<a.length↔∃i,f i=true:=by
 constructor
 .intro h;refine jX λd=>?_;have:=M.Qg0.2 λk=>by
   unfold Af;rw[Qe (λc=>d ⟨k,c⟩)]
  omega
 .rintro⟨i,b⟩;refine Nat.pos_of_ne_zero λh=>?_;have:=M.Qg0.1 h i;unfold Af at this;rw[Qf b]at this;cases this
def Ef{h}{p}{T}{A}(O:HQ h p T A)(I:KU T)(M:Ac T A)(a)(N:a≠0):Zf prog 88 h [.ptr p 0 0 0,Qb a] (λd=>d=QZ (Jx T A a)):=by
 obtain⟨W,V,U,S,c2,R,Y,Jj,Z,K,O⟩:=O;obtain⟨f,Q,f1,b,f2,j,f3,H,J⟩:=O;have t:=Qvm I M a N;have k:=f2.at_ a;have r:=f3.at_ a;by_cases n:a∈A
 .have e:Jx T A a=true:=t.1 (.inl n);rw[By,Qf n]at k;rw[e];refine ZD func88 ntmps88 results88 λg w z F m C B=>?_;rw[<- m]at f b;have o:=Qc f;have q:=Qc b;simp only[go_sem,Qa,f,o,b,q,k,Go.undef];all_goals exact Wo
 .rw[By,Qe n]at k;cases s:K a with
  | none=>
   have e:Jx T A a=false:=by
    rw[jW];intro h;rcases t.2 h with h|⟨i,h⟩
    .exact n h
    .rw[J a i s]at h;cases h
   rw[Ed,s,qU]at r;rw[e];refine ZD func88 ntmps88 results88 λg w z F m C B=>?_;rw[<- m]at f b j;have o:=Qc f;have q:=Qc b;have u:=Qc j;simp only[go_sem,Qa,f,o,b,q,j,u,k,r,Go.undef];all_goals exact Wo
  | some l=>
   obtain⟨c,x,ml,P⟩:=H a l s;rw[Ed,s,KA]at r;have L:=gV P;have y:0<x.length↔Jx T A a=true:=L.trans ⟨λh=>t.1 (.inr h),λh=>(t.2 h).elim (λh=>absurd h n) λh=>h⟩;have d0:decide (0<x.length)=Jx T A a:=by
    cases v:Jx T A a with
    | true=>exact Q1 (y.2 v)
    | false=>exact QU λh=>by rw[y.1 h]at v;cases v
   have d1:decide ((0:Int)<(x.length:Int))=Jx T A a:=by rw[<- d0];congr 1;rw[eq_iff_iff];omega
   refine ZD func88 ntmps88 results88 λg w z F m C B=>?_;rw[<- m]at f b j ml;have o:=Qc f;have q:=Qc b;have u:=Qc j;have E:=Qc ml;simp only[go_sem,Qa,f,o,b,q,j,u,ml,E,k,r,Go.undef,d1];all_goals exact Wo
def Step.Ug{S}{h H:List Ob}(s:Step S h H){l}(b:more S h l)(o):Step S h (H.set l o):=
 ⟨λj c a=>by
  have d:l≠j:=by
   rintro rfl;rcases b with h3|h3
   .exact a h3
   .omega
  rw[Qm d];exact s.keep j c a,by rw[XG];exact s.len⟩
def Step.sB{S}{h H}(s:Step S h H)(g):Step S h (H++g):=
 ⟨λj a b=>by rw[QJ (wy a s.len)];exact s.keep j a b,by have:=s.len;simp;omega⟩
structure Ps (S:Nat->Prop) (h:List Ob) (p:Nat) (T:List Qq) (A:List Int) (leaf:Int) (n:Nat) (s:St):Prop where
 ex:∃id dn c lo g row H S' b1 b2 b3 c1 c2 c3 ZV Jj K6 kl,up T leaf=dn++up T id/\QC T id=some c/\(up T id).length<=n/\(∀i∈dn++[id],Jx T A i=false) /\
  jB S' H p b1 b2 b3 c1 c2 c3 ZV Jj K6 kl T (leaf::A) (kz T A dn)/\(∀l,S' l->more S h l/\l<H.length)/\¬ S' lo/\h.length<=lo/\Step S h H /\
  H[lo]? = some ⟨.arr,g,1,dn.length+1,row⟩/\(∀i,i<dn.length+1->row i=[Qb ((dn++[id]).getD i 0)]) /\
  s=⟨[(0,.ptr p 0 0 0),(6,.ref lo g 0 (dn.length+1)),(7,Qb id)],H⟩
section
variable {S:Nat->Prop}{h:List Ob}{p b1 b2 b3 c1 c2 c3:Nat}{ZV Jj K6:List ZQ}{kl:Int->Option Nat}{T:List Qq}{A:List Int}{Kd:Int->Int->Bool}(O:jB S h p b1 b2 b3 c1 c2 c3 ZV Jj K6 kl T A Kd)
include O
theorem jB.Qg3{c2'}{a}{A'}(g:Vd a (By T A')):jB S (h.set b2 (QR .i64 c2' a)) p b1 b2 b3 c1 c2' c3 ZV a K6 kl T A' Kd:=by
 refine⟨(Qm (Q8 O.Uf)).trans O.o,(Qm (Q8 O.Ud)).trans O.m1,O.f1,Qy (Qc O.m2),g,(Qm O.Pp).trans O.m3,O.f3,λk l b=>?_,O.kn,O.ki,O.Ud,O.Ue,O.Pp,O.gS,O.Uf,O.F2,O.nk,O.sp,O.s1,O.s2,O.s3,O.sk⟩;obtain⟨c,f,e,d⟩:=O.ks k l b;exact⟨c,f,(Qm (Q8 (O.nk k l b).2.2.1)).trans e,d⟩
theorem jB.Qg4{k}{l c'}{es'}{Kd'}(b:kl k=some l)(M:Vd es' (Af (Kd' k)))(g:∀j,j≠k->∀i,Kd' j i=Kd j i):jB S (h.set l (QR .i64 c' es')) p b1 b2 b3 c1 c2 c3 ZV Jj K6 kl T A Kd':=by
 obtain⟨u,t,s,r⟩:=O.nk k l b;have v:l<h.length:=by
  obtain⟨c,q,f,n⟩:=O.ks k l b;exact Qc f
 refine⟨(Qm u).trans O.o,(Qm t).trans O.m1,O.f1,(Qm s).trans O.m2,O.f2,(Qm r).trans O.m3,O.f3,λj m a=>?_,λj i a=>?_,O.ki,O.Ud,O.Ue,O.Pp,O.gS,O.Uf,O.F2,O.nk,O.sp,O.s1,O.s2,O.s3,O.sk⟩
 .by_cases d:j=k
  .subst d;rw[b]at a;cases a;exact⟨c',es',Qy v,M⟩
  .obtain⟨c,q,f,n⟩:=O.ks j m a;have w:l≠m:=λe=>d (O.ki j k m a (by rw[<- e];exact b));exact⟨c,q,(Qm w).trans f,n.to λi=>by unfold Af;rw[g j d i]⟩
 .have d:j≠k:=by rintro rfl;rw[b]at a;cases a
  rw[g j d i];exact O.kn j i a
theorem jB.Qvr{k}{n c c3'}{e es3'}{Kd'}(u:h[n]? = some (QR .i64 c e))(M:Vd e (Af (Kd' k)))(x:n≠p)(w:n≠b1)(v:n≠b2)(s:n≠b3)(r:∀j l,kl j=some l->l≠n)(t:S n)
  (B:Vd es3' (λj=>if j=k then some (.mref n 0) else Ed kl j)) (q:∀j,j≠k->∀i,Kd' j i=Kd j i):jB S (h.set b3 (QR .i64 c3' es3')) p b1 b2 b3 c1 c2 c3' ZV Jj es3' (λj=>if j=k then some n else kl j) T A Kd':=by
 refine⟨(Qm (Q8 O.F2)).trans O.o,(Qm (Q8 O.Ue)).trans O.m1,O.f1,(Qm (Q8 O.Pp)).trans O.m2,O.f2,Qy (Qc O.m3),B.to λj=>?_,λj m a=>?_,λj i a=>?_,λj g m a d=>?_,O.Ud,O.Ue,O.Pp,O.gS,O.Uf,O.F2,λj m a=>?_,O.sp,O.s1,O.s2,O.s3,λj m a=>?_⟩
 .by_cases b:j=k<;>simp[Ed,b]
 .by_cases b:j=k
  .subst b;rw[Qf rfl]at a;cases a;exact⟨c,e,(Qm (Q8 s)).trans u,M⟩
  .rw[Qe b]at a;obtain⟨c,e,z,y⟩:=O.ks j m a;exact⟨c,e,(Qm (Q8 (O.nk j m a).2.2.2)).trans z,y.to λi=>by unfold Af;rw[q j b i]⟩
 .by_cases b:j=k
  .subst b;rw[Qf rfl]at a;cases a
  .rw[Qe b]at a;rw[q j b i];exact O.kn j i a
 .by_cases b:j=k
  .by_cases f:g=k
   .rw[b,f]
   .rw[Qf b]at a;rw[Qe f]at d;cases a;exact absurd rfl (r _ _ d)
  .by_cases f:g=k
   .rw[Qe b]at a;rw[Qf f]at d;cases d;exact absurd rfl (r _ _ a)
   .rw[Qe b]at a;rw[Qe f]at d;exact O.ki j g m a d
 .by_cases b:j=k
  .rw[Qf b]at a;cases a;exact⟨x,w,v,s⟩
  .rw[Qe b]at a;exact O.nk j m a
 .by_cases b:j=k
  .rw[Qf b]at a;cases a;exact t
  .rw[Qe b]at a;exact O.sk j m a
theorem jB.app(g):jB S (h++g) p b1 b2 b3 c1 c2 c3 ZV Jj K6 kl T A Kd:=O.step λl a b=>⟨b,QJ a⟩
end
def Ps.of{S}{h}{p}{T}{A}{a}{n}{b}{dn}{c}{e g k}(d){H}(f){t s r q o m}{u w v}{j}
  (x:up T a=dn++up T b) (C:QC T b=some c) (z:(up T b).length<=n) (E:∀i∈dn++[b],Jx T A i=false) (O:jB f H p t s r q o m u w v j T (a::A) (kz T A dn)) (F:∀l,f l->more S h l/\l<H.length) (L:¬ f e) (K:h.length<=e) (y:Step S h H)
  (B:k=dn.length+1) (J:H[e]? = some ⟨.arr,g,1,k,d⟩) (I:∀i,i<dn.length+1->d i=[Qb ((dn++[b]).getD i 0)]):Ps S h p T A a n ⟨[(0,.ptr p 0 0 0),(6,.ref e g 0 k),(7,Qb b)],H⟩:=by
 subst B;exact⟨⟨b,dn,c,e,g,d,H,f,t,s,r,q,o,m,u,w,v,j,x,C,z,E,O,F,L,K,y,J,I,rfl⟩⟩
def Qvs(T)(A)(a:Int)(k):(if k=a then some (Qb ((QC T a).getD default).parent) else By T A k)=By T (a::A) k:=by
 unfold By;by_cases h:k=a
 .subst h;simp
 .simp[h]
def Qg5{S}{h}{p}{T}{A}(O:jC S h p T A)(I:KU T)(hA:Ac T A)(a)(c:Qq)(hc:QC T a=some c)(vN:c.leaf=true)(zX:1<QS c.ls)(Jf:Jx T A a=false):
  QI prog 79 h [.ptr p 0 0 0,Qb a] (λd h'=>∃d1,d=.tup [d1,Qb 0]/\KC h.length h' d1 (XP T A a)/\jC (more S h) h' p T (a::A)/\Step S h h'):=by
 have O0:=O;have hR:=O.toR;obtain⟨b1,b2,J,c1,c2,c3,ZV,Jj,K6,kl,O⟩:=O;have x:=O.o;have P:=O.m1;have m2:=O.m2;have Z:=O.m3;have E:=O.f1.at_ a;rw[wZ,hc]at E;simp only[Qf zX,vN,My,VB]at E;have sC:a≠0:=λe=>by rw[e,FV I]at hc;cases hc
 have MA:=Ef hR I hA a sC;rw[Jf]at MA;obtain⟨Y,F3,U,M2⟩:=O.f2.set .i64 c2 a (Qb c.parent);simp only[go_sem]at U;refine Q3 func79 ntmps79 results79 λa5 w pl hb=>?_;have M:=Qc x;have w9:=Qc P;simp only[go_sem,Qa,x,M,P,w9,E];apply JD hb HA MA;apply Qh hb;simp only[go_sem,Qa,x,M];apply QB hb i5;simp only[go_sem,Qa,x,M,P,Qc P,m2,Qc m2,E];simp only[U];have Ui:Ps S h p T A a (up T a).length ⟨[(0,.ptr p 0 0 0),(6,.ref h.length 0 0 1),(7,Qb a)],h.set b2 (QR .i64 Y F3)++[⟨.arr,0,1,1,λ_=>[Qb a]⟩]⟩:=by
  have N:=((O.step (S':=λl=>S l/\l<h.length) λl B Q=>⟨⟨Q,B⟩,rfl⟩).Qg3 (c2':=Y) (M2.to λk=>by
   have hp:(QC T a).getD default=c:=by rw[hc];rfl
   have:=Qvs T A a k;rw[hp]at this;exact this)).app [⟨.arr,0,1,1,λ_=>[Qb a]⟩]
  refine⟨a,[],c,h.length,0,λ_=>[Qb a],_,λl=>S l/\l<h.length,b1,b2,J,c1,Y,c3,ZV,F3,K6,kl,rfl,hc,Qs _,λi q=>?_,?_,λl B=>⟨.inl B.1,by have:=B.2;simp;omega⟩,λB=>by have:=B.2;omega,Qs _,⟨λl B Q=>?_,σ⟩,?_,λi q=>?_,rfl⟩
  .simp only[Yr,Xq]at q;rw[q];exact Jf
  .rw[show kz T A []=zU T A from funext λp=>funext λi=>QuS T A p i];exact N
  .rw[QJ (by simpa using B),Qm (λ(e:b2=l)=>Q (e▸O.s2))]
  .rw[Vq σ];rfl
  .obtain rfl:i=0:=by simp at q;omega
   rfl
 refine Ot (Ps S h p T A a) (up T a).length QQ Ui ?_;clear Ui O P m2 Z x E U M2 MA O0 hR;rintro n s ⟨id,m,b,r,g,t,H,S',b1,b2,J,c1,c2,c3,ZV,Jj,K6,kl,hu,K,hn,HS,O,hS,ZM,jD,JB,kE,ZN,rfl⟩;have x:=O.o;have P:=O.m1;have Z:=O.m3;have M:=Qc x;have w9:=Qc P;have C:=Qc Z;have HT:=Qc kE;obtain⟨d0,Xy,Ks⟩:=Qgx I hc zX id (by rw[hu];exact NP _ (Yi I K));rw[K]at Xy;cases Xy;have E:=O.f1.at_ id;rw[wZ,K]at E;simp only[Qf Ks]at E;have k3:=O.f3.at_ b.parent;have JE:=QuQ I hA hu K HS;have gW:=QuR I (A:=A) (dn:=m) K;have sD:J≠r:=λe=>ZM (e▸O.s3);have a8:p≠r:=λe=>ZM (e▸O.sp);have a7:b1≠r:=λe=>ZM (e▸O.s1);have W:∀(V:List Ob) (S2:Nat->Prop) o f a0,jB S2 V p b1 b2 J c1 c2 o ZV Jj f a0 T (a::A) (kz T A (m++[id]))->(∀l,S2 l->more S h l)->Step S h V->V[r]? = some ⟨.arr,g,1,m.length+1,t⟩->(b.parent=0\/Jx T A b.parent=true) ->
   KC h.length V (.ref r g 0 (m.length+1)) (XP T A a)/\jC (more S h) V p T (a::A)/\Step S h V:=λV S2 o f a0 N MB HU a3 he=>by
  obtain⟨e1,U⟩:=QuT I hA hu K HS he;rw[<- e1];refine⟨.inr ⟨r,g,0,t,σ,⟨jD,rfl⟩,by simpa using a3,λi q=>?_⟩,?_,HU⟩
  .rw[JM];exact ZN i (by simpa using q)
  .rw[show kz T A (m++[id])=zU T (a::A) from funext λp=>funext λi=>U p i]at N;exact⟨_,_,_,_,_,_,_,_,_,_,N.step λl B Q=>⟨MB l Q,rfl⟩⟩
 by_cases Pt:∃i,kz T A m b.parent i=true
 ·
  cases z:kl b.parent with
  | none=>obtain⟨i,q⟩:=Pt;rw[O.kn _ i z]at q;cases q
  | some l=>
   obtain⟨c,R,ml,fl⟩:=O.ks _ l z;have yl:=Qc ml;rw[Ed,z,KA]at k3;have XI:0<R.length:=(gV fl).2 Pt;have d1:((R.length:Int)==0)=false:=XM ω;have d2:decide ((0:Int)<(R.length:Int))=true:=Q1 ω;have Eg:=(O.nk _ l z).2.2.2;have sF:l≠r:=λe=>ZM (e▸O.sk _ l z);obtain⟨c',a2,ea,M'⟩:=fl.set .i64 c id (Qb 1);simp only[go_sem]at ea;have he:b.parent=0\/Jx T A b.parent=true:=by
    by_cases u:b.parent=0
    .exact .inl u
    .obtain⟨d,hd,Ad⟩:=I.Zy b (Ab I K) u;exact .inr ((Qgw I hA hd Ad).2 (JE.1 Pt))
   have N:=O.Qg4 (c':=c') (es':=a2) (Kd':=kz T A (m++[id])) z (M'.to λj=>by
    unfold Af;rw[gW];by_cases F:j=id
    .simp[F]
    .simp[F]) (λj F i=>by rw[gW,Qe (λh=>F h.1)])
   apply Qh hb;simp only[go_sem,Qa,x,M,P,w9,Z,C,E,k3,ml,yl,d1,d2,Go.undef];simp only[ea];exact⟨_,rfl,W _ _ _ _ _ N (λl h=>(hS l h).1) (JB.Ug (hS l (O.sk _ l z)).1 _) ((Qm sF).trans kE) he⟩
 ·
  have hz:∀i,kz T A m b.parent i=false:=λi=>by
   rw[jW];exact λh=>Pt ⟨i,h⟩
  have hB:(kl b.parent=none/\True/\True/\True)\/∃l c R,kl b.parent=some l/\H[l]? = some (QR .i64 c R)/\l<H.length/\R.length=0:=by
   cases z:kl b.parent with
   | none=>exact .inl ⟨rfl,trivial,trivial,trivial⟩
   | some l=>
    obtain⟨c,R,ml,fl⟩:=O.ks _ l z;refine .inr ⟨l,c,R,rfl,ml,Qc ml,?_⟩;have:=(gV fl).1;by_cases u:0<R.length
    .exact absurd (this u) Pt
    .omega
  obtain⟨o,f,e3,M3⟩:=O.f3.set .i64 c3 b.parent (.mref H.length 0);obtain⟨Pu,Pv,e0,M0⟩:=Vd.nil.set .i64 0 id (Qb 1);simp only[go_sem]at e3 e0;have Uj:=M3.at_ b.parent;rw[Qf rfl]at Uj;have Uk:∀l,S' l->l≠H.length:=λl y e=>by have:=(hS l y).2;omega
  have a6:=JB.len;have N:=((O.app [QR .i64 Pu Pv]).step (S':=λl=>S' l\/l=H.length) λl _ Q=>⟨.inl Q,rfl⟩).Qvr (k:=b.parent) (n:=H.length) (c3':=o) (es3':=f) (Kd':=kz T A (m++[id])) (Vq rfl) (M0.to λj=>by
    unfold Af;rw[gW,hz];by_cases F:j=id
    .simp[F]
    .simp[F]) (λe=>Uk p O.sp e.symm) (λe=>Uk b1 O.s1 e.symm) (λe=>Uk b2 O.s2 e.symm) (λe=>Uk J O.s3 e.symm) (λj l F=>Uk l (O.sk j l F)) (.inr rfl) M3 (λj F i=>by rw[gW,Qe (λh=>F h.1)])
  rw[DT C]at N;have HU:=(JB.Ug (hS J O.s3).1 (QR .i64 o f)).sB [QR .i64 Pu Pv];have MC:((H.set J (QR .i64 o f))++[QR .i64 Pu Pv])[r]? = some ⟨.arr,g,1,m.length+1,t⟩:=by
   rw[QJ (by simpa using HT),Qm sD];exact kE
  have MB:∀l,(S' l\/l=H.length)->more S h l:=λl y=>y.elim (λh=>(hS l h).1) λe=>.inr ω;have Ad:m.length<=16:=by
   have e:=congrArg List.length hu;have:=CM (L:=T) (n:=16) (id:=a);rw[ZT]at e;unfold up at e;omega
  have xT:b.parent≠0->Ps S h p T A a (up T b.parent).length ⟨[(0,.ptr p 0 0 0),(6,.ref r (g+1) 0 (m.length+1+1)),(7,Qb b.parent)],
    (H.set J (QR .i64 o f)).set r ⟨.arr,g+1,1,m.length+1+1,KB (m.length+1) 0 t λ_=>[Qb b.parent]⟩++[QR .i64 Pu Pv,⟨.arr,0,1,1,λ_=>[Qb b.parent]⟩]⟩:=λu=>by
   obtain⟨d,hd,a4⟩:=I.Zy b (Ab I K) u;have e1:(m++[id]).length+1=m.length+1+1:=σ;have YV:Jx T A b.parent=false:=by
    rw[jW];exact λhq=>Pt (JE.2 ((Qgw I hA hd a4).1 hq))
   have gX:r<(H.set J (QR .i64 o f)).length:=by simpa using HT
   have U:(H.set J (QR .i64 o f)).set r ⟨.arr,g+1,1,m.length+1+1,KB (m.length+1) 0 t λ_=>[Qb b.parent]⟩++[QR .i64 Pu Pv,⟨.arr,0,1,1,λ_=>[Qb b.parent]⟩] =
     (H.set J (QR .i64 o f)++[QR .i64 Pu Pv]).set r ⟨.arr,g+1,1,m.length+1+1,KB (m.length+1) 0 t λ_=>[Qb b.parent]⟩++[⟨.arr,0,1,1,λ_=>[Qb b.parent]⟩]:=by
    rw[DT gX];simp
   rw[U];have a1:∀l,(S' l\/l=H.length)->l≠r:=λl y e=>by
    subst e;rcases y with y|y
    .exact ZM y
    .omega
   refine Ps.of (KB (m.length+1) 0 t λ_=>[Qb b.parent]) (λl=>S' l\/l=H.length) (dn:=m++[id]) ?_ hd (Qs _) (λi q=>?_) (N.step (λl B Q=>⟨Q,?_⟩)) (λl y=>⟨MB l y,?_⟩) (λB=>a1 r B rfl) jD ((HU.Ug (.inr jD) _).sB _) e1.symm ?_ ?_
   .rw[hu,VT I K];simp
   .rcases QX.1 q with q|q
    .exact HS i q
    .rw[Xq.1 q];exact YV
   .rw[QJ (by simpa using B),Qm (Q8 (a1 l Q))]
   .rcases y with y|y
    .have:=(hS l y).2;simp;omega
    .simp;omega
   .rw[QJ ξ,Qy ξ]
   .intro i q;have:=Mm (dn:=m++[id]) (off:=0) (row:=t) (v:=b.parent) (λi q=>by rw[JM];exact ZN i (by simpa using q)) i (by simpa using q);rw[JM]at this;simpa using this
  rcases hB with ⟨z,ml,yl,Ta⟩|⟨l,c,R,z,ml,yl,Ta⟩
  .rw[Ed,z,qU]at k3;apply Qh hb;simp only[go_sem,Qa,x,M,P,w9,Z,C,E,k3,ml,yl,Ta,Go.undef];simp only[e3];by_cases u:b.parent=0
   .have d0:(b.parent==0)=true:=by simpa using u
    simp only[go_sem,Qa,x,M,Qm (Q8 O.F2),Qy C,C,Uj,e0,d0];exact⟨_,rfl,W _ _ _ _ _ N MB HU MC (.inl u)⟩
   .have d0:(b.parent==0)=false:=by simpa using u
    simp only[go_sem,Qa,x,M,Qm (Q8 O.F2),Qy C,C,Uj,e0,d0,MC,kE,Qm sD,HT];refine⟨ω,(up T b.parent).length,⟨[(0,.ptr p 0 0 0),(6,.ref r (g+1) 0 (m.length+1+1)),(7,Qb b.parent)],_⟩,?_,QQ,xT u⟩;have:=congrArg List.length (VT I K);simp only[VQ]at this;omega
  .rw[Ed,z,KA]at k3;apply Qh hb;simp only[go_sem,Qa,x,M,P,w9,Z,C,E,k3,ml,yl,Ta,Go.undef];simp only[e3];by_cases u:b.parent=0
   .have d0:(b.parent==0)=true:=by simpa using u
    simp only[go_sem,Qa,x,M,Qm (Q8 O.F2),Qy C,C,Uj,e0,d0];exact⟨_,rfl,W _ _ _ _ _ N MB HU MC (.inl u)⟩
   .have d0:(b.parent==0)=false:=by simpa using u
    simp only[go_sem,Qa,x,M,Qm (Q8 O.F2),Qy C,C,Uj,e0,d0,MC,kE,Qm sD,HT];refine⟨ω,(up T b.parent).length,⟨[(0,.ptr p 0 0 0),(6,.ref r (g+1) 0 (m.length+1+1)),(7,Qb b.parent)],_⟩,?_,QQ,xT u⟩;have:=congrArg List.length (VT I K);simp only[VQ]at this;omega
structure Pw (S:Nat->Prop) (h:List Ob) (p:Nat) (T:List Qq) (A:List Int) (leaf:Int) (n:Nat) (s:St):Prop where
 ex:∃id dn c lo g row H S' b1 b2 b3 c1 c2 c3 ZV Jj K6 kl,up T leaf=dn++up T id/\QC T id=some c/\(up T id).length<=n/\(∀i∈dn++[id],Jx T (Ku A leaf) i=false) /\
  jB S' H p b1 b2 b3 c1 c2 c3 ZV Jj K6 kl T (Ku A leaf) (vK T A dn)/\(∀l,S' l->more S h l/\l<H.length)/\¬ S' lo/\h.length<=lo/\Step S h H /\
  H[lo]? = some ⟨.arr,g,1,dn.length+1,row⟩/\(∀i,i<dn.length+1->row i=[Qb ((dn++[id]).getD i 0)]) /\
  s=⟨[(0,.ptr p 0 0 0),(6,.ref lo g 0 (dn.length+1)),(7,Qb id)],H⟩
def Pw.of{S}{h}{p}{T}{A}{a}{n}{b}{dn}{c}{e g k}(d){H}(f){t s r q o m}{u w v}{j}
  (x:up T a=dn++up T b) (C:QC T b=some c) (z:(up T b).length<=n) (E:∀i∈dn++[b],Jx T (Ku A a) i=false) (O:jB f H p t s r q o m u w v j T (Ku A a) (vK T A dn)) (F:∀l,f l->more S h l/\l<H.length) (L:¬ f e) (K:h.length<=e) (y:Step S h H)
  (B:k=dn.length+1) (J:H[e]? = some ⟨.arr,g,1,k,d⟩) (I:∀i,i<dn.length+1->d i=[Qb ((dn++[b]).getD i 0)]):Pw S h p T A a n ⟨[(0,.ptr p 0 0 0),(6,.ref e g 0 k),(7,Qb b)],H⟩:=by
 subst B;exact⟨⟨b,dn,c,e,g,d,H,f,t,s,r,q,o,m,u,w,v,j,x,C,z,E,O,F,L,K,y,J,I,rfl⟩⟩
def Qvu(T)(A)(a)(k):(if k=a then none else By T A k)=By T (Ku A a) k:=by
 unfold By Ku;by_cases h:k=a
 .subst h;simp
 .simp[h,JI]
def Qvv{S}{h}{p}{T}{A}(O:jC S h p T A)(I:KU T)(hA:Ac T A)(a)(c:Qq)(P:QC T a=some c)(vN:c.leaf=true)(zX:1<QS c.ls)(W:a∈A)(Jf:Jx T (Ku A a) a=false):
  QI prog 223 h [.ptr p 0 0 0,Qb a] (λd h'=>∃d1,d=.tup [d1,Qb 0]/\KC h.length h' d1 (XP T (Ku A a) a)/\jC (more S h) h' p T (Ku A a)/\Step S h h'):=by
 have O0:=O;have hR:=O.toR;obtain⟨b1,b2,b3,c1,c2,c3,ZV,Jj,K6,kl,O⟩:=O;have x:=O.o;have z:=O.m1;have m2:=O.m2;have M:=O.m3;have Mz:=Qc m2;have t:=O.f1.at_ a;rw[wZ,P]at t;simp only[Qf zX,vN,My,VB]at t;have sC:a≠0:=λe=>by rw[e,FV I]at P;cases P
 have MA:=Ef hR I hA a sC;rw[(Mt W a).2 (.inl (Yi I P))]at MA;have M2:=O.f2.del a;refine Q3 func223 ntmps223 results223 λa3 w pl V=>?_;have Q:=Qc x;have U:=Qc z;simp only[go_sem,Qa,x,Q,z,U,t,Go.undef];apply JD V HA MA;apply Qh V;simp only[go_sem,Qa,x,Q,m2,Mz,Go.undef];have Ui:Pw S h p T A a (up T a).length ⟨[(0,.ptr p 0 0 0),(6,.ref h.length 0 0 1),(7,Qb a)],h.set b2 (QR .i64 c2 (Kc Jj a))++[⟨.arr,0,1,1,λ_=>[Qb a]⟩]⟩:=by
  have R:=((O.step (S':=λl=>S l/\l<h.length) λl f r=>⟨⟨r,f⟩,rfl⟩).Qg3 (c2':=c2) (A':=Ku A a) (M2.to λk=>Qvu T A a k)).app [⟨.arr,0,1,1,λ_=>[Qb a]⟩];rw[<- show vK T A []=zU T A from funext λp=>funext λi=>by simp[vK]]at R;refine Pw.of (λ_=>[Qb a]) (λl=>S l/\l<h.length) (dn:=[]) rfl P (Qs _) (λi o=>?_) R (λl f=>⟨.inl f.1,by have:=f.2;simp;omega⟩) (λf=>by have:=f.2;omega) (Qs _) ⟨λl f r=>?_,σ⟩ rfl ?_ (λi o=>?_)
  .simp only[Yr,Xq]at o;rw[o];exact Jf
  .rw[QJ (by simpa using f),Qm (λ(e:b2=l)=>r (e▸O.s2))]
  .rw[Vq σ];rfl
  .obtain rfl:i=0:=by simp at o;omega
   rfl
 refine Ot (Pw S h p T A a) (up T a).length QQ Ui ?_;clear Ui O z m2 M x t M2 MA O0 hR;rintro n s ⟨id,m,b,N,g,y,H,S',b1,b2,b3,c1,c2,c3,ZV,Jj,K6,kl,B,q,hn,HS,O,hS,ZM,jD,JB,kE,ZN,rfl⟩;have x:=O.o;have z:=O.m1;have M:=O.m3;have Q:=Qc x;have U:=Qc z;have ze:=Qc M;have HT:=Qc kE;obtain⟨d0,Xy,Ks⟩:=Qgx I P zX id (by rw[B];exact NP _ (Yi I q));rw[q]at Xy;cases Xy;have t:=O.f1.at_ id;rw[wZ,q]at t;simp only[Qf Ks]at t;have k3:=O.f3.at_ b.parent;have a2:Jx T A id=true:=(Mt W id).2 (.inl (by rw[B];exact NP _ (Yi I q)));have a1:id ∉ m:=λhm=>by
  have nd:=TQ I a;rw[B,Kg]at nd;exact nd.2.2 id hm id (Yi I q) rfl
 have Z:vK T A m b.parent id=true:=Pf.2 ⟨yf.2 ⟨b,q,rfl,a2⟩,a1⟩;have a0:∀j,j≠b.parent->∀i,vK T A (m++[id]) j i=vK T A m j i:=λj J i=>by
  rw[wx,Pf,Pf];constructor
  .exact λ⟨f,r⟩=>⟨f,λh3=>r (bL _ h3)⟩
  .rintro⟨f,r⟩;refine⟨f,λh3=>?_⟩;rcases QX.1 h3 with h3|h3
   .exact r h3
   .rw[Xq.1 h3]at f;obtain⟨e,h4,h5,_⟩:=yf.1 f;rw[q]at h4;cases h4;exact J h5.symm
 cases F:kl b.parent with
 | none=>rw[O.kn _ id F]at Z;cases Z
 | some l=>
  obtain⟨c,u,ml,fl⟩:=O.ks _ l F;have K:=Qc ml;rw[Ed,F,KA]at k3;obtain⟨n0,n1,n2,n3⟩:=O.nk _ l F;have sF:l≠N:=λe=>ZM (e▸O.sk _ l F);have M':Vd (Kc u id) (Af (vK T A (m++[id]) b.parent)):=(fl.del id).to λj=>by
   unfold Af vK;by_cases J:j=id
   .simp[J]
   .simp[J]
  have E:=gV M';have R:=O.Qg4 (c':=c) (es':=Kc u id) (Kd':=vK T A (m++[id])) F M' a0;have HU:=JB.Ug (hS l (O.sk _ l F)).1 (QR .i64 c (Kc u id));have MC:(H.set l (QR .i64 c (Kc u id)))[N]? = some ⟨.arr,g,1,m.length+1,y⟩:=(Qm sF).trans kE;have Y:(b.parent=0\/Jx T (Ku A a) b.parent=true) ->
    KC h.length (H.set l (QR .i64 c (Kc u id))) (.ref N g 0 (m.length+1)) (XP T (Ku A a) a)/\jC (more S h) (H.set l (QR .i64 c (Kc u id))) p T (Ku A a)/\Step S h (H.set l (QR .i64 c (Kc u id))):=λhe=>by
   obtain⟨e1,e2⟩:=QuU I W B q HS he;rw[<- e1];refine⟨.inr ⟨N,g,0,y,σ,⟨jD,rfl⟩,by simpa using MC,λi o=>?_⟩,?_,HU⟩
   .rw[JM];exact ZN i (by simpa using o)
   .rw[show vK T A (m++[id])=zU T (Ku A a) from funext λp=>funext λi=>e2 p i]at R;exact⟨_,_,_,_,_,_,_,_,_,_,R.step λl f r=>⟨(hS l r).1,rfl⟩⟩
  by_cases gY:∃i,vK T A (m++[id]) b.parent i=true
  .have XI:=E.2 gY;have d2:decide ((0:Int)<((Kc u id).length:Int))=true:=Q1 ω;have he:b.parent=0\/Jx T (Ku A a) b.parent=true:=by
    by_cases C:b.parent=0
    .exact .inl C
    .exact .inr ((Qgy I hA W B q HS C).1 gY)
   apply Qh V;simp only[go_sem,Qa,x,Q,z,U,M,ze,t,k3,ml,K,d2,Go.undef,Qm n0,Qm n3,Qy K];exact⟨_,rfl,Y he⟩
  .have hz:¬ 0<(Kc u id).length:=λh=>gY (E.1 h);have d2:decide ((0:Int)<((Kc u id).length:Int))=false:=QU ω;by_cases C:b.parent=0
   .have d0:(b.parent==0)=true:=by simpa using C
    apply Qh V;simp only[go_sem,Qa,x,Q,z,U,M,ze,t,k3,ml,K,d2,d0,Go.undef,Qm n0,Qm n3,Qy K];exact⟨_,rfl,Y (.inl C)⟩
   .have d0:(b.parent==0)=false:=by simpa using C
    have Ad:m.length<=16:=by
     have e:=congrArg List.length B;have:=CM (L:=T) (n:=16) (id:=a);rw[ZT]at e;unfold up at e;omega
    obtain⟨d,hd,a4⟩:=I.Zy b (Ab I q) C;have YV:Jx T (Ku A a) b.parent=false:=by
     rw[jW];exact λhq=>gY ((Qgy I hA W B q HS C).2 hq)
    have e1:(m++[id]).length+1=m.length+1+1:=σ;apply Qh V;simp only[go_sem,Qa,x,Q,z,U,M,ze,t,k3,ml,K,d2,d0,Go.undef,Qm n0,Qm n3,Qy K,MC,kE,HT];refine⟨ω,(up T b.parent).length,⟨[(0,.ptr p 0 0 0),(6,.ref N (g+1) 0 (m.length+1+1)),(7,Qb b.parent)],_⟩,?_,QQ,?_⟩
    .have:=congrArg List.length (VT I q);simp only[VQ]at this;omega
    .refine Pw.of (KB (m.length+1) 0 y λ_=>[Qb b.parent]) S' (dn:=m++[id]) ?_ hd (Qs _) (λi o=>?_) (R.step (λj f r=>⟨r,?_⟩)) (λj J=>⟨(hS j J).1,?_⟩) ZM jD ((HU.Ug (.inr jD) _).sB _) e1.symm ?_ ?_
     .rw[B,VT I q];simp
     .rcases QX.1 o with o|o
      .exact HS i o
      .rw[Xq.1 o];exact YV
     .rw[QJ (by simpa using f),Qm (λ(e:N=j)=>ZM (e▸r))]
     .have:=(hS j J).2;simp;omega
     .rw[QJ (by simpa using HT),Qy (by simpa using HT)];rfl
     .intro i o;have:=Mm (dn:=m++[id]) (off:=0) (row:=y) (v:=b.parent) (λi o=>by rw[JM];exact ZN i (by simpa using o)) i (by simpa using o);rw[JM]at this;simpa using this
def Qvz{T:List Qq}(e:Xw T){k}(a:k<T.length)(j):QC (T.take (k+1)) j=if j=(T.getD k default).iD then some (T.getD k default) else QC (T.take k) j:=by
 rw[getD_take T default k a];unfold QC;rw[List.find?_append];have g:T.getD k default∈T:=zR T default k a;by_cases h:j=(T.getD k default).iD
 .rw[Qf h];have:List.find? (λc=>c.iD==j) (T.take k)=none:=by
   rw[vh];intro x hx b;have d:=e;rw[<- EY k T]at d;have f:=(bM.1 d).2.2 x hx (T.getD k default) (by
    rw[Sd a,Q7,QT a];exact Z3 ..)
   simp at b;omega
  rw[this];simp[h]
 .rw[Qe h];have:((T.getD k default).iD==j)=false:=by simpa using Q8 h
  simp only[vg,this,List.find?_nil,Option.or_none]
def Qha{h:List Ob}{t}{T}(R:XR h t T)(I:KU T):QI prog 67 h [.ptr t 0 0 0] (λd H=>d=.ptr (h.length+3) 0 0 0/\jC (λl=>h.length<=l) H (h.length+3) T []/\∃g,H=h++g):=by
 have O:=I.len;have L:∀g,XR (h++g) t T:=λg=>R.more Ee;refine Q3 func67 ntmps67 results67 λP w Y a=>?_;simp only[go_sem,Qa,Qa];apply JD a fM (gU (L _) ω);apply QM a;refine Js (λk Q=>∃c o g,Vd o (wZ (T.take k))/\Q=⟨[(0,.ptr t 0 0 0),(3,.ptr (h.length+3) 0 0 0),(15,ints (T.map (·.iD))),(16,Qb T.length),(17,Qb k)],h++(QR .i64 c o::QR .i64 0 []::QR .i64 0 []::gR h.length (h.length+1) (h.length+2)::g)⟩) T.length (s0:=⟨[(0,.ptr t 0 0 0),(3,.ptr (h.length+3) 0 0 0),(15,ints (T.map (·.iD))),(16,Qb T.length),(17,Qb 0)],h++(QR .i64 0 []::QR .i64 0 []::QR .i64 0 []::gR h.length (h.length+1) (h.length+2)::[])⟩) (QH.frame (by simp only[go_sem,KK])) ⟨0,[],[],Vd.nil.to λk=>by simp[wZ,QC],rfl⟩ ?_;rintro k _ Z ⟨c,o,g,M,rfl⟩;by_cases b:k<T.length
 .have B:=Q1 b;have E:(T.map (·.iD)).getD k 0=(T.getD k default).iD:=getD_map _ _ _ _ _ b;have K:T.getD k default∈T:=zR T default k b;have F:QC T (T.getD k default).iD=some (T.getD k default):=(VL I.rising).2 ⟨K,rfl⟩;have p:=Qvz I.rising b;obtain⟨x,hx⟩:∃x,x=T.getD k default:=⟨_,rfl⟩;rw[<- hx]at E K F p;have z:=λg=>Pr (L g) x.iD;rw[F]at z;simp only[Vn,wz,VB]at z;have v:∀j,wZ (T.take (k+1)) j=if j=x.iD then (if 1<QS x.ls then some (.agg [Qb x.parent,Qb (My x.leaf)]) else none) else wZ (T.take k) j:=λj=>by
   unfold wZ;rw[p];by_cases n:j=x.iD
   .simp[n]
   .simp[n]
  have S:wZ (T.take k) x.iD=none:=by
   unfold wZ;have:QC (T.take k) x.iD=none:=by
    rw[HF];intro y U e;have C:=I.rising;rw[<- EY k T]at C;have h2:=(bM.1 C).2.2 y U x (by
     rw[Sd b,hx,Q7,QT b];exact Z3 ..)
    omega
   rw[this]
  apply Qh a;simp only[go_sem,Qa,B,b,E,KK];apply JD a wS (z _);apply QM a;apply qy a wT (wW x);apply QM a;by_cases r:1<QS x.ls
  .have s:=Q1 r;simp only[Qf r]at v;obtain⟨J,q,f,V⟩:=M.set .i64 c x.iD (.agg [Qb x.parent,Qb (My x.leaf)]);simp only[go_sem]at f;have N:=V.to λj=>(v j).symm;have u:=Vl (show k<4611686018427387904 from ω);cases m:x.leaf with
   | true=>
    rw[m]at f;simp only[My,VB]at f;simp only[go_sem,Qa,s,m];apply QB a i7;simp only[go_sem,Qa,m];simp only[f];exact⟨b,_,QH.frame (by simp only[go_sem,u]),J,q,_,N,rfl⟩
   | false=>
    rw[m]at f;simp only[My]at f;simp only[go_sem,Qa,s,m];apply QB a i7;simp only[go_sem,Qa,m];simp only[YF,zG]at f;simp only[f];exact⟨b,_,QH.frame (by simp only[go_sem,u]),J,q,_,N,rfl⟩
  .have s:=QU r;simp only[Qe r]at v;have u:=Vl (show k<4611686018427387904 from ω);simp only[go_sem,Qa,s];refine⟨b,_,QH.frame (by simp only[go_sem,u]),c,o,_,M.to λj=>?_,rfl⟩;rw[v];by_cases n:j=x.iD
   .rw[Qf n,n,S]
   .rw[Qe n]
 .have W:k=T.length:=ω;have B:=QU b;rw[W,YH]at M;apply Qh a;simp only[go_sem,Qa,B];apply QM a;refine⟨⟨h.length,h.length+1,h.length+2,c,0,0,o,[],[],λ_=>none,Wm rfl,Vq rfl,M,Wm rfl,Vd.nil.to (λj=>by simp[By]),Wm rfl,Vd.nil.to (λj=>rfl),(λ_ _ e=>nomatch e),(λk i _=>by simp[zU,Jx]),(λ_ _ _ e=>nomatch e),ω,ω,ω,ω,ω,ω,(λ_ _ e=>nomatch e),by show h.length<=_;omega,Qs _,by show h.length<=_;omega,by show h.length<=_;omega,(λ_ _ e=>nomatch e)⟩,_,rfl⟩
@[go_sem] def F4(a m:Nat):Ob:=⟨.one,0,2,1,λ_=>[.ptr a 0 0 0,.mref m 0]⟩
def Eh(x:It):Int × D:=(x.ki,.agg x.cells)
structure MD (S:Nat->Prop) (h:List Ob) (p a m:Nat) (t:Tr) (c:Nat) (es:List ZQ) (L:List It):Prop where
 o:h[p]? = some (F4 a m)
 av:Bw h a t L
 mo:h[m]? = some (QR .i64 c es)
 mp:Yz es (L.map Eh)
 vi:∀x∈L,x.vi=x.ki
 pa:p≠a
 pm:p≠m
 am:a≠m
 pt:p ∉ t.QP
 mt:m ∉ t.QP
 sp:S p
 sa:S a
 sm:S m
 st:∀l∈t.QP,S l
def W0(S:Nat->Prop)(h:List Ob)(p:Nat)(L:List It):Prop:=∃a m t c b,MD S h p a m t c b L
def sG{L:List It}(a:Int):look (L.map Eh) a=(L.find? λx=>x.ki==a).map λx=>.agg x.cells:=by
 unfold look;rw[List.find?_map,Sv];rfl
def Vv(a:Int)(L:List It):List It:=L.filter λx=>x.ki != a
def YA(a:Int)(c b:Nat)(L:List It):List It:=Yy ⟨c,a,b,a⟩ (Vv a L)
def MD.ids{S}{h}{p a m}{t}{c}{b}{L:List It}(T:MD S h p a m t c b L):(L.map It.ki).Nodup:=by
 have:=T.mp.nd;rwa [Dw]at this
def sH{L:List It}(b:(L.map It.ki).Nodup){x:It}(i:x∈L):XQ x.ka x.ki L=Vv x.ki L:=by
 unfold XQ Vv;apply bH;intro y g;by_cases h:y.ki=x.ki
 .have d:y=x:=by
   have:∀{l:List It},(l.map It.ki).Nodup->∀{u v:It},u∈l->v∈l->u.ki=v.ki->u=v:=by
    intro l;induction l with
    | nil=>intro _ u v c;cases c
    | cons a l f=>
     intro b u v c j e;simp only[Jo,Z8,JA,Fc,not_and]at b;rcases QG.1 c with h1|h1<;>rcases QG.1 j with h2|h2
     .rw[h1,h2]
     .exact absurd (by rw[<- e,h1]) (b.1 v h2)
     .exact absurd (by rw[e,h2]) (b.1 u h1)
     .exact f b.2 h1 h2 e
   exact this b g i h
  subst d;simp[CP]
 .have k:(y.ki==x.ki)=false:=by simpa using h
  simp[CP,k,bne]
def sI{L:List It}{a}(h:(L.find? λx=>x.ki==a)=none):Vv a L=L:=by
 unfold Vv;rw[AP];intro x hx;have:=vh.1 h x hx;simpa using this
def sJ(L)(a)(b):YY a b (Vv b L)=none:=by
 unfold YY Vv;rw[vh];intro x hx c;simp only[JI,bne_iff_ne,ne_eq]at hx;exact hx.2 (yg.1 c).2
def Qhc(y):∀L:List It,(Yy y L).Perm (y::L)
 | []=>Sc _
 | z::L=>by
  simp only[Yy];split
  .exact(List.Perm.cons _ (Qhc y L)).trans (List.Perm.swap _ _ _)
  .exact Sc _
def sK(a)(L:List It):CS (L.map Eh) a=(Vv a L).map Eh:=by
 unfold CS Vv;rw[Si];rfl
def Bw.set{h:List Ob}{a}{t:Tr}{L}(A:Bw h a t L){m}(o)(c:m≠a)(b:m ∉ t.QP):Bw (h.set m o) a t L:=⟨(Qm c).trans A.o,A.is.set o b,A.list,A.nd,A.out,A.sorted⟩
def QvB{a:Int}{c b}{L:List It}:(F1 (L.map Eh) a (.agg (It.mk c a b a).cells)).Perm ((YA a c b L).map Eh):=by
 unfold F1 YA;rw[sK];exact((Qhc ⟨c,a,b,a⟩ (Vv a L)).map Eh).symm
def sL(a)(L:List It):(Vv a L).length<=L.length:=qS _ _
def MD.fin{S}{h H e k}{p a m c n}{t f g}{J b}{L j}(T:MD S h p a m t c J L)(s:Step S h H)
  (E:H[p]? = some (F4 a m)) (F:m<H.length) (i:e=H.set m (QR .i64 n b)) (v:m ∉ f.QP) (u:p ∉ f.QP) (r:∀l∈f.QP,more S h l) (y:Yz b (j.map Eh)) (q:∀x∈j,x.vi=x.ki)
  (A:Ua e a f j k g):W0 (more S h) k p j/\Step S h k:=by
 have P:e.length=H.length:=by rw[i,XG]
 have O:=s.len;have M:e[p]? = some (F4 a m):=by rw[i,Qm (Q8 T.pm)];exact E
 have K:e[m]? = some (QR .i64 n b):=by rw[i,Qy F]
 have N:∀l,e.length<=l->h.length<=l:=λl d=>ω;have Q:=Qc T.o;have R:=Qc T.mo;refine⟨⟨a,m,g,n,b,?_,A.is,?_,y,q,T.pa,T.pm,T.am,?_,?_,.inl T.sp,.inl T.sa,.inl T.sm,?_⟩,⟨λl d h2=>?_,by have:=A.len;omega⟩⟩
 .rw[A.keep p ω T.pa u];exact M
 .rw[A.keep m ω (Q8 T.am) v];exact K
 .intro d;rcases A.mem p d with h2|h2
  .exact u h2
  .omega
 .intro d;rcases A.mem m d with h2|h2
  .exact v h2
  .omega
 .intro l d;rcases A.mem l d with h2|h2
  .exact r l h2
  .exact .inr (N l h2)
 .have C:l≠a:=by rintro rfl;exact h2 T.sa
  have B:l≠m:=by rintro rfl;exact h2 T.sm
  have z:l ∉ f.QP:=λI=>by
   rcases r l I with w|w
   .exact h2 w
   .omega
  rw[A.keep l ω C z,i,Qm (Q8 B)];exact s.keep l d h2
def MD.done{S}{h H i h8}{p a m c y}{t f t''}{w e}{L}{d}{g b}(T:MD S h p a m t c w L)(n:Step S h H)
  (s:H[p]? = some (F4 a m)) (u:m<H.length) (v:i=H.set m (QR .i64 y e)) (r:m ∉ f.QP) (q:p ∉ f.QP) (k:∀l∈f.QP,more S h l) (j:Yz e (F1 (L.map Eh) d (.agg (It.mk g d b d).cells)))
  (A:Ua i a f (YA d g b L) h8 t''):W0 (more S h) h8 p (YA d g b L)/\Step S h h8:=
 T.fin n s u v r q k (j.to QvB) (λx hx=>by
  rcases HP.1 hx with rfl|hx
  .rfl
  .exact T.vi x (JI.1 hx).1) A
def QvD{S}{h}{p}{L:List It}(T:W0 S h p L)(b)(i f)(hs:L.length<400000):
  QI prog 215 h [.ptr p 0 0 0,Qb b,u64 i,u64 f] (λd h'=>W0 (more S h) h' p (YA b i f L)/\Step S h h'):=by
 obtain⟨a,m,t,c,es,T⟩:=T;have j:=T.o;have q:=T.mo;have ha:=T.av.o;have s:=T.mp.look b;rw[sG]at s;cases u:L.find? λx=>x.ki==b with
 | none=>
  rw[u,qU]at s;have zf:=sI u;obtain⟨Q,r,P,U⟩:=T.mp.set .i64 c b (.agg (It.mk i b f b).cells);have O:Ki .i64 c es b (.agg [.raw (.int .u64 i),.raw (.int .i64 b),.raw (.int .u64 f),.raw (.int .i64 b)])=QR .i64 Q r:=P;refine Q3 func215 ntmps215 results215 λC w pl g=>?_;have k:=Qc j;have o:=Qc q;simp only[go_sem,Qa,j,k,q,o,s];apply QB g i7;simp only[go_sem,Qa,j,k,q,o];simp only[O];apply VD [8] g [0,1,2,3,4,5,6,7,1008,9] [];simp only[go_sem,Qa,j,k,q,o,Qm (Q8 T.pm)];refine wV g rb (Ub (tl:=a) (t:=t) (L:=Vv b L) (by rw[zf];exact(T.av.set _ (Q8 T.am) T.mt).app _) ⟨i,b,f,b⟩ (sJ L i b) (by have:=sL b L;omega)) λd h8 v=>?_;obtain⟨rfl,Y,W⟩:=v;apply Yx g;exact T.done (H:=h++_) (Step.app S h _) (QJ k |>.trans j) ξ (DT o).symm T.mt T.pt (λl M=>.inl (T.st l M)) U W
 | some x=>
  rw[u,KA]at s;obtain⟨Q,r,P,U⟩:=T.mp.set .i64 c b (.agg (It.mk i b f b).cells);have O:Ki .i64 c es b (.agg [.raw (.int .u64 i),.raw (.int .i64 b),.raw (.int .u64 f),.raw (.int .i64 b)])=QR .i64 Q r:=P;refine Q3 func215 ntmps215 results215 λC w pl g=>?_;have k:=Qc j;have o:=Qc q;simp only[go_sem,Qa,j,k,q,o,s];apply VD [6] g [0,1,2,3,4,5,1006] [];simp only[go_sem,Qa,j,k];have Xj:x∈L:=xF u;have R:x.ki=b:=by have:=yJ u;simpa using this
  have Ul:XQ x.ka b L=Vv b L:=by rw[<- R];exact sH T.ids Xj
  have QE:YY x.ka b L≠none:=λe=>by
   unfold YY at e;have:=vh.1 e x Xj;exact this (yg.2 ⟨rfl,R⟩)
  have sM:∀l∈t.QP,l<h.length:=T.av.is.lt;have Kf:=Qc ha;refine y6 g ri rfl ?_ (sv (tl:=a) (t:=t) (L:=L) (T.av.app _) x.ka b QE ω) rfl λd y v=>?_
  .simp only[go_sem,R]
  obtain⟨rfl,F,n⟩:=v;rw[Ul]at n;have a0:h.length+2<=y.length:=by have:=n.len;simpa using this
  have K:∀l,l<h.length->l≠a->l ∉ t.QP->y[l]? = h[l]? := λl h1 h2 N=>(n.keep l ξ h2 N).trans (QJ h1);have E:y[p]? = _:=(K p k T.pa T.pt).trans j;have J:y[m]? = _:=(K m o (Q8 T.am) T.mt).trans q;have V:=(n.keep h.length σ ω (λh1=>by have:=sM _ h1;omega)).trans (Vq rfl);have B:=Qc E;have I:=Qc J;have Px:=Qc V;have z:m ∉ F.QP:=λh1=>by
   rcases n.mem m h1 with h2|h2
   .exact T.mt h2
   .simp only[ZT]at h2;omega
  have Z:p ∉ F.QP:=λh1=>by
   rcases n.mem p h1 with h2|h2
   .exact T.pt h2
   .simp only[ZT]at h2;omega
  have F5:m≠h.length:=ω;apply Yx g;apply QB g i7;simp only[go_sem,Qa,E,B,J,I,V,Px];simp only[O];apply VD [8] g [0,1,2,3,4,5,6,7,1008,9] [];simp only[go_sem,Qa,E,B,J,I,V,Px,Qm (Q8 T.pm),Qm F5];refine wV g rb (Ub (tl:=a) (t:=F) (L:=Vv b L) (n.is.set _ (Q8 T.am) z) ⟨i,b,f,b⟩ (sJ L i b) (by have:=sL b L;omega)) λd h8 v=>?_;obtain⟨rfl,Y,W⟩:=v;apply Yx g;refine T.done (H:=y) ⟨λl h1 h2=>K l h1 (by rintro rfl;exact h2 T.sa) (λN=>h2 (T.st l N)),ω⟩ E I rfl z Z (λl M=>?_) U W;rcases n.mem l M with h1|h1
  .exact .inl (T.st l h1)
  .simp only[ZT]at h1;exact .inr ω
def KV{h F:List Ob}(a:F=h.map Ob.ro)(l:Nat)(o:Ob)(e:(h.map Ob.ro)[l]? = some o):(F.map Ob.ro)[l]? = some o:=by
 have:=HN (g:=[]) a l o e;rwa [Jv]at this
structure QvF (h:List Ob) (p a m:Nat) (t:Tr) (c:Nat) (es:List ZQ) (L:List It):Prop where
 o:(h.map Ob.ro)[p]? = some (F4 a m).ro
 ao:(h.map Ob.ro)[a]? = some (yj t).ro
 is:jz h t
 list:t.list=L
 sorted:Vt L
 mo:(h.map Ob.ro)[m]? = some (QR .i64 c es).ro
 mp:Yz es (L.map Eh)
def F6(h:List Ob)(p:Nat)(L:List It):Prop:=∃a m t c b,QvF h p a m t c b L
def W0.toR{S}{h}{p}{L}:W0 S h p L->F6 h p L:=λ⟨a,m,t,c,b,T⟩=>
 ⟨a,m,t,c,b,Jc T.o,Jc T.av.o,T.av.is.toR,T.av.list,T.av.sorted,Jc T.mo,T.mp⟩
def F6.more{h h':List Ob}{p}{L}(e:∀(l:Nat) (o:Ob),(h.map Ob.ro)[l]? = some o->(h'.map Ob.ro)[l]? = some o):F6 h p L->F6 h' p L:=λ⟨a,m,t,c,b,T⟩=>
 ⟨a,m,t,c,b,e _ _ T.o,e _ _ T.ao,T.is.more e,T.list,T.sorted,e _ _ T.mo,T.mp⟩
def W0.frame{S}{h b:List Ob}{p}{L}(e:∀l,S l->l<h.length->b[l]? = h[l]?):W0 S h p L->W0 S b p L:=λ⟨a,m,t,c,i,T⟩=>
 have k:∀l o,S l->h[l]? = some o->b[l]? = some o:=λl o g f=>(e l g (Qc f)).trans f
 ⟨a,m,t,c,i,k _ _ T.sp T.o,⟨k _ _ T.sa T.av.o,T.av.is.frame λl d=>e l (T.st l d) (T.av.is.lt l d),T.av.list,T.av.nd,T.av.out,T.av.sorted⟩,k _ _ T.sm T.mo,T.mp,T.vi,T.pa,T.pm,T.am,T.pt,T.mt,T.sp,T.sa,T.sm,T.st⟩
def W0.mono{S b}{h}{p}{L}(e:∀l,S l->b l):W0 S h p L->W0 b h p L:=λ⟨a,m,t,c,f,T⟩=>
 ⟨a,m,t,c,f,T.o,T.av,T.mo,T.mp,T.vi,T.pa,T.pm,T.am,T.pt,T.mt,e _ T.sp,e _ T.sa,e _ T.sm,λl d=>e l (T.st l d)⟩
section
variable {h:List Ob}{p:Nat}{L:List It}(T:F6 h p L)
include T
theorem QvG(b):Zf prog 217 h [.ptr p 0 0 0,u64 b] (λd=>d=.tup [Qb ((L.find? λx=>decide (x.va<=min b 9223372036854775807)).getD default).ki,QZ (L.find? λx=>decide (x.va<=min b 9223372036854775807)).isSome]):=by
 obtain⟨a,m,t,c,y,T⟩:=T;obtain⟨e,f,n,o,u,v,mp⟩:=T;have q:min (b:Int) 9223372036854775807=((min b 9223372036854775807:Nat):Int):=ω;have l:=f;refine ZD func217 ntmps217 results217 λk w s F g z i=>?_;rw[<- g]at e f;have j:=Qc e;have r:=Qc f;simp only[go_sem,Qa,e,j,f,r,q];apply JD i QtL (Qvg (KV g _ _ l) (n.more (KV g)) (min b 9223372036854775807));apply Qh i;simp only[go_sem,Qa,e,j];subst o;exact⟨_,rfl,rfl⟩
theorem QvH:Zf prog 157 h [.ptr p 0 0 0] (λd=>d=.tup [u64 (L.head?.getD default).ka,QZ L.head?.isSome]):=by
 obtain⟨a,m,t,c,u,T⟩:=T;obtain⟨b,e,l,n,r,s,mp⟩:=T;have k:=e;refine ZD func157 ntmps157 results157 λj w q F f v g=>?_;rw[<- f]at b e;have i:=Qc b;have o:=Qc e;simp only[go_sem,Qa,b,i,e,o];apply JD g QfS (QgS (KV f _ _ k) (l.more (KV f)));apply Qh g;simp only[go_sem,Qa,b,i];subst n;exact⟨_,rfl,rfl⟩
theorem sP:Zf prog 174 h [.ptr p 0 0 0] (λd=>d=Qb L.length):=by
 obtain⟨a,m,t,c,j,T⟩:=T;obtain⟨b,f,r,u,s,e,mp⟩:=T;have k:j.length=L.length:=by rw[mp.len,KK]
 refine ZD func174 ntmps174 results174 λg w q F i x v=>?_;rw[<- i]at b f e;have l:=Qc b;have o:=Qc f;have n:=Qc e;simp only[go_sem,Qa,b,l,f,o,e,n,k];exact⟨[],σ⟩
def Bz(L:List It):Nat:=L.foldl (λo x=>min o x.va) never
omit T in
theorem sQ:∀(L:List It) (o:Nat),L.foldl (λo x=>min o x.va) o<=o/\(∀x∈L,L.foldl (λo x=>min o x.va) o<=x.va)/\(L.foldl (λo x=>min o x.va) o=o\/∃x∈L,L.foldl (λo x=>min o x.va) o=x.va)
 | [],o=>⟨Qs _,σ,.inl rfl⟩
 | y::L,o=>by
  obtain⟨d,c,a⟩:=sQ L (min o y.va);simp only[xE];refine⟨ω,λx hx=>?_,?_⟩
  .rcases QG.1 hx with rfl|hx
   .omega
   .exact c x hx
  .rcases a with a|⟨x,hx,a⟩
   .rw[a];by_cases b:o<=y.va
    .exact .inl (yK b)
    .exact .inr ⟨y,σ,AS ω⟩
   .exact .inr ⟨x,by simp[hx],a⟩
omit T in
theorem QvI{x:It}{L}(h:V0 x L):Bz L=min x.va never:=by
 obtain⟨e,c,a⟩:=sQ L never;unfold Bz;have d:=c x h.mem;rcases a with a|⟨y,b,a⟩
 .omega
 .have:=h.va b;omega
theorem sS(z:∀x∈L,x.ka<=18446744073709551615):Zf prog 134 h [.ptr p 0 0 0] (λd=>d=u64 (Bz L)):=by
 have r:=T;obtain⟨a,m,t,c,E,T⟩:=T;obtain⟨b,g,v,q,y,C,mp⟩:=T;have u:=g;by_cases n:L=[]
 .have d0:((L.length:Int)==0)=true:=by simp[n]
  refine ZD func134 ntmps134 results134 λl w s F i B f=>?_;rw[<- i]at b g;have e:=Qc b;have o:=Qc g;simp only[go_sem,Qa,b,e,g,o];refine Xg f p5 ?_ (sP (r.more (KV i))) ?_
  .simp only[go_sem,Qa,b,e,d0]
  apply Qh f;simp only[go_sem,Qa,b,e,d0];subst n;exact⟨[],by simp[Bz,never]⟩
 .have d0:((L.length:Int)==0)=false:=by simp[n]
  refine ZD func134 ntmps134 results134 λl w s F i B f=>?_;rw[<- i]at b g;have e:=Qc b;have o:=Qc g;simp only[go_sem,Qa,b,e,g,o];refine Xg f p5 ?_ (sP (r.more (KV i))) ?_
  .simp only[go_sem,Qa,b,e,d0]
  apply Qh f;simp only[go_sem,Qa,b,e,d0];apply Qh f;simp only[go_sem,Qa,b,e];apply JD f QfK (QgU (KV i _ _ u) (v.more (KV i)) 18446744073709551615);apply Qh f;simp only[go_sem,Qa,b,e];have j:=Tr.TY 18446744073709551615 t none [] (by rw[q];exact y) rfl;rw[q,Yr,AP.2 (λx hx=>by simpa using z x hx)]at j;refine⟨_,rfl,?_⟩;cases k:t.jA 18446744073709551615 none with
  | none=>rw[k]at j;exact absurd j n
  | some x=>
   rw[k]at j;rw[QvI j];simp only[Vn,never];congr 2;omega
end
def ie(a:Int)(L:List It):Bool:=(L.find? λx=>x.ki==a).isSome
def QvJ{S}{h}{p}{L:List It}(T:W0 S h p L)(b)(Q:L.length<400000):
  QI prog 224 h [.ptr p 0 0 0,Qb b] (λd u=>d=Qb (if ie b L then 0 else 6)/\W0 (more S h) u p (Vv b L)/\Step S h u):=by
 have M:=T;obtain⟨a,m,t,c,V,T⟩:=T;have f:=T.o;have k:=T.mo;have F:=T.av.o;have g:=T.mp.look b;rw[sG]at g;unfold ie;cases i:L.find? λx=>x.ki==b with
 | none=>
  rw[i,qU]at g;refine Q3 func224 ntmps224 results224 λo w C q=>?_;have n:=Qc f;have j:=Qc k;simp only[go_sem,Qa,f,n,k,j,g];rw[sI i];exact⟨rfl,(M.frame λl U J=>QJ J).mono λl r=>.inl r,Step.app S h _⟩
 | some x=>
  rw[i,KA]at g;have v:x∈L:=xF i;have s:x.ki=b:=by have:=yJ i;simpa using this
  have K:XQ x.ka b L=Vv b L:=by rw[<- s];exact sH T.ids v
  have N:YY x.ka b L≠none:=λe=>by
   unfold YY at e;have:=vh.1 e x v;exact this (yg.2 ⟨rfl,s⟩)
  have P:∀l∈t.QP,l<h.length:=T.av.is.lt;have W:=Qc F;have z:=T.mp.del b;rw[sK]at z;refine Q3 func224 ntmps224 results224 λo w C q=>?_;have n:=Qc f;have j:=Qc k;simp only[go_sem,Qa,f,n,k,j,g];apply VD [6] q [0,1,2,3,4,5,1006,7] [];simp only[go_sem,Qa,f,n,k,j,Qm (Q8 T.pm)];refine y6 q ri rfl ?_ (sv (tl:=a) (t:=t) (L:=L) ((T.av.set _ (Q8 T.am) T.mt).app _) x.ka b N ω) rfl λd R I=>?_
  .simp only[go_sem,s]
  obtain⟨rfl,O,B⟩:=I;rw[K]at B;apply Yx q;exact⟨rfl,T.fin (H:=h++_) (Step.app S h _) ((QJ n).trans f) ξ (DT j).symm T.mt T.pt (λl r=>.inl (T.st l r)) z (λy E=>T.vi y (JI.1 E).1) B⟩
def Qhg(h:List Ob):QI prog 106 h [] (λd b=>d=.ptr h.length 0 0 0/\b=h++[yj .nil]):=by
 refine Q3 func106 ntmps106 results106 λa w c e=>?_;simp only[go_sem,Qa]
def Qhh{S}{h}{p}{L:List It}(T:W0 S h p L)(b)(Q:L.length<400000):
  QI prog 211 h [.ptr p 0 0 0,Qb b] (λd u=>d=Qb (if ie b L then 0 else 6)/\W0 (more S h) u p (Vv b L)/\Step S h u):=by
 have M:=T;obtain⟨a,m,t,c,V,T⟩:=T;have f:=T.o;have k:=T.mo;have F:=T.av.o;have g:=T.mp.look b;rw[sG]at g;unfold ie;cases i:L.find? λx=>x.ki==b with
 | none=>
  rw[i,qU]at g;refine Q3 func211 ntmps211 results211 λo w C q=>?_;have n:=Qc f;have j:=Qc k;simp only[go_sem,Qa,f,n,k,j,g];rw[sI i];exact⟨rfl,(M.frame λl U J=>QJ J).mono λl r=>.inl r,Step.app S h _⟩
 | some x=>
  rw[i,KA]at g;have v:x∈L:=xF i;have s:x.ki=b:=by have:=yJ i;simpa using this
  have K:XQ x.ka b L=Vv b L:=by rw[<- s];exact sH T.ids v
  have N:YY x.ka b L≠none:=λe=>by
   unfold YY at e;have:=vh.1 e x v;exact this (yg.2 ⟨rfl,s⟩)
  have P:∀l∈t.QP,l<h.length:=T.av.is.lt;have W:=Qc F;have z:=T.mp.del b;rw[sK]at z;refine Q3 func211 ntmps211 results211 λo w C q=>?_;have n:=Qc f;have j:=Qc k;simp only[go_sem,Qa,f,n,k,j,g];apply VD [6] q [0,1,2,3,4,5,1006,7] [];simp only[go_sem,Qa,f,n,k,j,Qm (Q8 T.pm)];refine y6 q ri rfl ?_ (sv (tl:=a) (t:=t) (L:=L) ((T.av.set _ (Q8 T.am) T.mt).app _) x.ka b N ω) rfl λd R I=>?_
  .simp only[go_sem,s]
  obtain⟨rfl,O,B⟩:=I;rw[K]at B;apply Yx q;exact⟨rfl,T.fin (H:=h++_) (Step.app S h _) ((QJ n).trans f) ξ (DT j).symm T.mt T.pt (λl r=>.inl (T.st l r)) z (λy E=>T.vi y (JI.1 E).1) B⟩
section
variable {h:List Ob}{p:Nat}{L:List It}(T:F6 h p L)
include T
theorem Qhi:Zf prog 227 h [.ptr p 0 0 0] (λd=>d=Qb L.length):=by
 obtain⟨a,m,t,c,j,T⟩:=T;obtain⟨b,f,r,u,s,e,mp⟩:=T;have k:j.length=L.length:=by rw[mp.len,KK]
 refine ZD func227 ntmps227 results227 λg w q F i x v=>?_;rw[<- i]at b f e;have l:=Qc b;have o:=Qc f;have n:=Qc e;simp only[go_sem,Qa,b,l,f,o,e,n,k];exact⟨[],σ⟩
theorem QvK(b):Zf prog 216 h [.ptr p 0 0 0,u64 b] (λd=>∃o,Ae o (L.filter λx=>decide (x.ka<=min b 9223372036854775807))/\d=.tup [Qb (o.getD default).ki,QZ o.isSome]):=by
 obtain⟨a,m,t,c,C,T⟩:=T;obtain⟨e,f,r,i,s,B,mp⟩:=T;have v:min (b:Int) 9223372036854775807=((min b 9223372036854775807:Nat):Int):=ω;have q:=f;have k:=Tr.TY (min b 9223372036854775807) t none [] (by rw[i];exact s) rfl;rw[i,Yr]at k;refine Zf.mono (R:=λd=>d=.tup [Qb ((t.jA (min b 9223372036854775807) none).getD default).ki,QZ (t.jA (min b 9223372036854775807) none).isSome]) ?_ (λd u=>⟨_,k,u⟩);refine ZD func216 ntmps216 results216 λn w z F g E j=>?_;rw[<- g]at e f;have l:=Qc e;have y:=Qc f;simp only[go_sem,Qa,e,l,f,y,v];apply JD j QfK (QgU (KV g _ _ q) (r.more (KV g)) (min b 9223372036854775807));apply Qh j;simp only[go_sem,Qa,e,l];exact⟨_,rfl⟩
theorem QvL:Zf prog 172 h [.ptr p 0 0 0] (λd=>d=u64 (match L.head? with|some x=>min x.ka never|none=>never)):=by
 have n:=T;obtain⟨a,m,t,c,z,T⟩:=T;obtain⟨b,g,r,s,v,y,mp⟩:=T;have q:=g;cases k:L with
 | nil=>
  have d0:((L.length:Int)==0)=true:=by simp[k]
  refine ZD func172 ntmps172 results172 λj w o F i u f=>?_;rw[<- i]at b g;have e:=Qc b;have l:=Qc g;simp only[go_sem,Qa,b,e,g,l];refine Xg f QfV ?_ (Qhi (n.more (KV i))) ?_
  .simp only[go_sem,Qa,b,e,d0]
  apply Qh f;simp only[go_sem,Qa,b,e,d0];exact⟨[],by simp[never]⟩
 | cons x M=>
  have d0:((L.length:Int)==0)=false:=by simp[k];omega
  refine ZD func172 ntmps172 results172 λj w o F i u f=>?_;rw[<- i]at b g;have e:=Qc b;have l:=Qc g;simp only[go_sem,Qa,b,e,g,l];refine Xg f QfV ?_ (Qhi (n.more (KV i))) ?_
  .simp only[go_sem,Qa,b,e,d0]
  apply Qh f;simp only[go_sem,Qa,b,e,d0];apply Qh f;simp only[go_sem,Qa,b,e];apply JD f QfS (QgS (KV i _ _ q) (r.more (KV i)));apply Qh f;simp only[go_sem,Qa,b,e];refine⟨_,rfl,?_⟩;rw[s,k];congr 2;show min (x.ka:Int) 9223372036854775808=((min x.ka never:Nat):Int);simp only[never];omega
end
def Qhj{S}{h}{p}{L:List It}(T:W0 S h p L)(b)(f e)(I:L.length<400000):
  QI prog 156 h [.ptr p 0 0 0,Qb b,u64 f,u64 e] (λd B=>W0 (more S h) B p (YA b f e L)/\Step S h B):=by
 have P:=T;obtain⟨a,m,t,c,C,T⟩:=T;have g:=T.o;refine Q3 func156 ntmps156 results156 λE w U i=>?_;have j:=Qc g;simp only[go_sem,Qa,g,j];refine JO i QfR (Qhh P b I) λd z q=>?_;obtain⟨rfl,O,v⟩:=q;obtain⟨a,m,t,c,C,T⟩:=O;have g:=T.o;have n:=T.mo;have V:=T.av.o;have j:=Qc g;have k:=Qc n;have F:Vv b (Vv b L)=Vv b L:=by unfold Vv;rw[List.filter_filter];simp
 obtain⟨N,u,M,Q⟩:=T.mp.set .i64 c b (.agg (It.mk f b e b).cells);have K:Ki .i64 c C b (.agg [.raw (.int .u64 f),.raw (.int .i64 b),.raw (.int .u64 e),.raw (.int .i64 b)])=QR .i64 N u:=M;apply Qh i;simp only[go_sem,Qa,g,j,n,k];apply QB i i7;simp only[go_sem,Qa,g,j,n,k];simp only[K];apply VD [8] i [0,1,2,3,4,5,6,7,1008,9] [];simp only[go_sem,Qa,g,j,n,k,Qm (Q8 T.pm)];refine wV i rb (Ub (tl:=a) (t:=t) (L:=Vv b L) ((T.av.set _ (Q8 T.am) T.mt).app _) ⟨f,b,e,b⟩ (sJ L f b) (by have:=sL b L;omega)) λd J q=>?_;obtain⟨rfl,s,R⟩:=q;apply Yx i;have x:YA b f e (Vv b L)=YA b f e L:=by unfold YA;rw[F]
 have r:=T.done (H:=z++_) (h8:=J) (t'':=s) (Step.app _ z _) ((QJ j).trans g) ξ (DT k).symm T.mt T.pt (λl o=>.inl (T.st l o)) Q (by rw[x];exact R);rw[x]at r;have W:=v.len;exact⟨r.1.mono λl o=>o.elim (λy=>y) λy=>.inr ω,v.trans r.2⟩
end Go.Fg.X
namespace Go.Fg
open Go.RowKit (Below)
section
variable {P:Program}{L:Jr}{base nt:Nat}{s:St}{o:Oper}
def QvM{t e:TypeId}{y:Ty}{k:IntKind}(g:P.underlying t=some (.slice e))(a:Xe P e y)(F:y.zero.length=y.size)(M:0<y.size)(w:World)(n:Nat)
  (u:n<=4294967296) (C:y.bytes<=1024) :
  (Instr.makeSlice t (.int k n) (.int k n)).run P w=.ok (.slice (some ⟨w.heap.size,0,none⟩) n n) (w.alloc (.cells (flat n y.size λ_ j=>Q5 y.zero j).toArray e)):=by
 obtain⟨z,f,d⟩:=a.zeroValue;obtain⟨i,h,O,B⟩:=a.typeInfo w;have p:∀w,(typeInfo e).run P w=.ok i w:=λw=>by
  have l:=a.info;cases hx:P.info? e with
  | none=>rw[hx]at l;cases l
  | some k=>
   simp[typeInfo,hx]at h ⊢;exact h
 have H:IntKind.i64.wrap (n:Int)=n:=by rw[IntKind.wrap_i64];omega
 have x:¬ (281474976710656<(i.bytes:Int)*(n:Int)):=by
  have r:y.bytes*n<=1024*4294967296:=X8 C u;rw[<- jm,B];omega
 have J:¬ ((n:Int)<0):=ω;have q:z.cells.size=y.size:=by rw[<- F,<- f];simp
 have v:(flat n y.size λ_ j=>Q5 y.zero j).toArray=(Array.range (n*y.size)).map (z.cells[· % z.cells.size]!):=by
  apply Array.ext
  .simp[zH]
  .intro j m N;simp only[GQ,zH]at m;obtain⟨d1,d2,d3⟩:=div_lt m;have I:y.zero=z.cells.toList:=f.symm;have c:j % y.size<z.cells.size:=by rw[q];exact d2
   simp[flat,Q5,I,Q7,q,c];rw[getElem!_pos z.cells _ c,jV c];rfl
 rw[v];by_cases b:n=0
 .subst b;have E:IntKind.i64.wrap 0=0:=rfl;simp[Instr.makeSlice,run_underlying g,a.sizeOf,p,d,asInt,asIntOf,newRow,Sem.run,E];congr 2;apply Array.ext<;>simp
 .have K:¬ (n*y.size=0):=Nat.mul_ne_zero b ω;simp[Instr.makeSlice,run_underlying g,a.sizeOf,p,d,asInt,asIntOf,H,b,J,K,x,newRow,Sem.run]
def QvN(m:Jl P L){t e:TypeId}{x0 x:Operand}{n:Nat}{a b:Nat}{z:List Value}{y:Ty}{k:IntKind}(K:o.op=.makeSlice t x x)(F:Qp s.fr x=.raw (.int k n))
  (I:ty L t=some ⟨.slice e,a,b,z⟩) (S:ty L e=some y) (d:y.zero.length=y.size) (J:0<y.size) (B:n<=4294967296) (C:y.bytes<=1024) :
  j8 P base nt o s (s.h++[⟨.arr,0,y.size,n,λ_=>y.zero.map Km⟩]) (.ref s.h.length 0 0 n):=by
 intro Z c U w r p;have v:=r.eval x;rw[F]at v;have H:=JJ v;have E:=m _ _ S;have O:c.length=s.h.length:=r.o.len;have Q:=QvM (k:=k) (yM (m _ _ I) rfl) E d J w n B C;have f:∀b,b<w.heap.size->(w.alloc (.cells (flat n y.size λ_ j=>Q5 y.zero j).toArray e)).heap[b]? = w.heap[b]? := λb N=>xK w _ b N;have u:(w.alloc (.cells (flat n y.size λ_ j=>Q5 y.zero j).toArray e)).heap[w.heap.size]? = some (.cells (flat n y.size λ_ j=>Q5 y.zero j).toArray e (0,0)):=heap_alloc_new w _;have T:Tr s.h c w (s.h++[⟨.arr,0,y.size,n,λ_=>y.zero.map Km⟩]) (c++[some (w.heap.size,0)]) (w.alloc (.cells (flat n y.size λ_ j=>Q5 y.zero j).toArray e)):=Tr.push r.o f _ _ (by intro b q h;simp at h;omega);refine⟨.slice (some ⟨w.heap.size,0,none⟩) n n,_,_,.inl ?_,T,Zo.push r.o f _ rfl (Qs _) p u (by simp[zH]) (λi l=>by simp[d]) (λi j l g=>⟨Q5 y.zero j,?_,?_⟩),.ref _ _ _ _ ⟨.arr,0,y.size,n,λ_=>y.zero.map Km⟩ (some (w.heap.size,0)) _ _ σ (by rw[<- O];simp) rfl (Qs _) (λ_=>.inr ⟨w.heap.size,0,_,_,rfl,σ,u,?_,Qs _⟩),Fj p _,λ_=>f⟩
 .simp only[execOp,K,H,Q,Sem.run_bind,Result.andThen_ok,Sem.run_pure]
 .have M:=G3 (vs:=λ_ j=>Q5 y.zero j) l g;rw[JM];simpa using M
 .have R:j<y.zero.length:=by rw[d];exact g
  have:nth (y.zero.map Km) j=Km (Q5 y.zero j):=by simp[nth,Q5,Q7,R]
  show QF Z _ _ _ (nth (y.zero.map Km) j) _;rw[this];exact .cl _ _ (Dz _ _ _)
 .simp[zH]
end
section
variable {P:Program}{L:Jr}{base nt:Nat}{w0:Start}{Q:Exit->St->Prop}
def QvO(v:Jl P L)(u:base<=w0.w.heap.size){k:List Item}{c:Option Nat}{B:TypeId}{pos:String}{d:Array Edge}{w:Option (Nat × Bool)}{r:List (Oper × G)}{s:St}{t e:TypeId}{x:Operand}{n:Nat}{a b:Nat}{g:List Value}{y:Ty}{i:IntKind}
  (m:Qp s.fr x=.raw (.int i n)) (o:ty L t=some ⟨.slice e,a,b,g⟩) (z:ty L e=some y) (l:y.zero.length=y.size) (p:0<y.size) (h:n<=4294967296) (j:y.bytes<=1024) (q:Zt nt c=true)
  (f:Qw P base nt w0 Q (.ops r::k) .normal ⟨Zk s.fr c (.ref s.h.length 0 0 n),s.h++[⟨.arr,0,y.size,n,λ_=>y.zero.map Km⟩]⟩) :
  Qw P base nt w0 Q (.ops ((⟨c,.makeSlice t x x,B,pos,d,w⟩,none)::r)::k) .normal s:=by
 simp only[Qw]at f ⊢;exact dS u (QvN (x0:=x) v rfl m o z l p h j) q f
end
end Go.Fg
namespace Go.Fg.X
open Go.Proofs Go.Fg
open Go.Proofs.Tryz
@[go_sem] def Um(a b first n:Nat):Ob:=⟨.one,0,3,1,λ_=>[.ref a 0 0 b,Qb first,Qb n]⟩
structure QvP (S:Nat->Prop) (h:List Ob) (r a room first:Nat) (row:Nat->List D) (L:List Pk):Prop where
 o:h[r]? = some (Um a room first L.length)
 ao:h[a]? = some ⟨.arr,0,6,room,row⟩
 ra:r≠a
 fl:first<room
 len:L.length<=room
 Ag:room<=64
 rows:∀i,i<L.length->row ((first+i) % room)=(L.getD i default).cells
 lens:∀i,i<room->(row i).length=6
 sr:S r
 sa:S a
def vO(S:Nat->Prop)(h:List Ob)(r b:Nat)(L:List Pk):Prop:=∃a first c,QvP S h r a b first c L
structure ME (h:List Ob) (r a room first:Nat) (row:Nat->List D) (L:List Pk):Prop where
 o:(h.map Ob.ro)[r]? = some (Um a room first L.length).ro
 ao:(h.map Ob.ro)[a]? = some (⟨.arr,0,6,room,row⟩:Ob).ro
 fl:first<room
 len:L.length<=room
 Ag:room<=64
 rows:∀i,i<L.length->row ((first+i) % room)=(L.getD i default).cells
def Un(h:List Ob)(r b:Nat)(L:List Pk):Prop:=∃a first c,ME h r a b first c L
def vO.toR{S}{h}{r b}{L}:vO S h r b L->Un h r b L:=λ⟨a,f,c,T⟩=>⟨a,f,c,Jc T.o,Jc T.ao,T.fl,T.len,T.Ag,T.rows⟩
def ME.more{h h':List Ob}{r a b first}{c}{L}(e:∀(l:Nat) (o:Ob),(h.map Ob.ro)[l]? = some o->(h'.map Ob.ro)[l]? = some o)(T:ME h r a b first c L):ME h' r a b first c L:=⟨e _ _ T.o,e _ _ T.ao,T.fl,T.len,T.Ag,T.rows⟩
def Un.more{h h':List Ob}{r b}{L}(e:∀(l:Nat) (o:Ob),(h.map Ob.ro)[l]? = some o->(h'.map Ob.ro)[l]? = some o):Un h r b L->Un h' r b L:=λ⟨a,f,c,T⟩=>⟨a,f,c,e _ _ T.o,e _ _ T.ao,T.fl,T.len,T.Ag,T.rows⟩
def vO.frame{S}{h d:List Ob}{r b}{L}(e:∀l,S l->l<h.length->d[l]? = h[l]?):vO S h r b L->vO S d r b L:=λ⟨a,f,c,T⟩=>
 ⟨a,f,c,(e _ T.sr (Qc T.o)).trans T.o,(e _ T.sa (Qc T.ao)).trans T.ao,T.ra,T.fl,T.len,T.Ag,T.rows,T.lens,T.sr,T.sa⟩
def Qhk{h:List Ob}{r a b first n:Nat}{f:Nat->List D}(c:(h.map Ob.ro)[r]? = some (Um a b first n).ro)(e:(h.map Ob.ro)[a]? = some (⟨.arr,0,6,b,f⟩:Ob).ro)(q:first<b)(p:b<=64)(i:Nat)(t:i<=64):
  Zf prog 204 h [.ptr r 0 0 0,Qb i] (λd=>d=Qb ((first+i) % b:Nat)):=by
 have o:IntKind.i64.wrap ((first:Int)+i)=((first+i:Nat):Int):=ZK;refine ZD func204 ntmps204 results204 λk w s F m u l=>?_;rw[<- m]at c e;have g:=Qc c;have j:=Qc e;simp only[go_sem,Qa,c,g,e,j];apply QB l [0,1,2,3,4,5,6,7,8,9,10,11,12];simp only[go_sem,Qa,c,g,e,j,o];refine⟨ω,[],σ,?_⟩;congr 2
section
variable {h:List Ob}{r a room first:Nat}{row:Nat->List D}{L:List Pk}(T:ME h r a room first row L)
include T
theorem Qhl(i:Nat)(b:i<=64):Zf prog 204 h [.ptr r 0 0 0,Qb i] (λd=>d=Qb ((first+i) % room:Nat)):=Qhk T.o T.ao T.fl T.Ag i b
theorem Qhm:Zf prog 203 h [.ptr r 0 0 0] (λd=>d=Qb (room - L.length:Nat)):=by
 obtain⟨b,c,m,q,l,p⟩:=T;have k:IntKind.i64.wrap ((room:Int) - L.length)=((room - L.length:Nat):Int):=ZK;refine ZD func203 ntmps203 results203 λg w n F j o i=>?_;rw[<- j]at b c;have e:=Qc b;have f:=Qc c;simp only[go_sem,Qa,b,e,c,f];apply QB i i6;simp only[go_sem,Qa,b,e,c,f,k];exact⟨[],σ⟩
theorem QvQ:Zf prog 152 h [.ptr r 0 0 0] (λd=>d=Qb L.length):=by
 obtain⟨b,c,k,p,j,o⟩:=T;refine ZD func152 ntmps152 results152 λe w l F f n m=>?_;rw[<- f]at b c;have g:=Qc b;have i:=Qc c;simp only[go_sem,Qa,b,g,c,i];exact⟨[],σ⟩
theorem Qhn(i)(m:i<L.length):Zf prog 250 h [.ptr r 0 0 0,Qb i] (λd=>d=.tup [.agg (L.getD i default).cells,Qb 0]):=by
 have n:=T;obtain⟨b,c,q,u,p,o⟩:=T;have d1:decide ((i:Int)<0)=false:=QU ω;have d2:decide (L.length<=i)=false:=QU ω;refine ZD func250 ntmps250 results250 λl w s F k t g=>?_;rw[<- k]at b c;have e:=Qc b;have f:=Qc c;simp only[go_sem,Qa,b,e,c,f,d1,d2];apply QB g [0,1,2,3,4,5,1006,7,8,1009,10];simp only[go_sem,Qa,b,e,c,f];apply WZ g p7 (Qhl (n.more (HN k)) i ω);apply Zd g;simp only[go_sem,Qa,b,e,c,f];have j:(first+i) % room<room:=YI _ ω;have ZN:=o i m;refine⟨j,j,?_⟩;simp only[go_sem,Qa,b,e,c,f,ZN];exact⟨_,rfl⟩
end
def sT{f i n:Nat}(b:f<n)(a:i<=n):(f+i) % n=if f+i<n then f+i else f+i - n:=by
 split
 .exact jq ‹_›
 .rw[Nat.mod_eq_sub_mod ω,jq ω]
def QvR{S}{h}{r b}{L}(T:vO S h r b L)(x):
  QI prog 154 h [.ptr r 0 0 0,.agg x.cells] (λd z=>d=Qb (if L.length=b then 5 else 0)/\vO S z r b (if L.length=b then L else L++[x])/\Step S h z):=by
 have P:=T;obtain⟨a,first,o,T⟩:=T;have c:=T.o;have f:=T.ao;have Tr:=λg=>(show ME (h++g) r a b first o L from ⟨Jc ((QJ (Qc T.o)).trans T.o),Jc ((QJ (Qc T.ao)).trans T.ao),T.fl,T.len,T.Ag,T.rows⟩);by_cases s:L.length=b
 .have d0:(((b - L.length:Nat):Int)==0)=true:=ξ;refine Q3 func154 ntmps154 results154 λq w I n=>?_;have j:=Qc c;have m:=Qc f;simp only[go_sem,Qa,c,j,f,m];refine Xg n QfO ?_ (Qhm (Tr _)) ?_
  .simp only[go_sem,Qa,c,j,f,m,d0]
  apply Qh n;simp only[go_sem,Qa,c,j,f,m,d0];rw[Qf s,Qf s];exact⟨rfl,P.frame λl p N=>QJ N,Step.app S h _⟩
 .have F:=T.len;have d0:(((b - L.length:Nat):Int)==0)=false:=ξ;refine Q3 func154 ntmps154 results154 λq w I n=>?_;have j:=Qc c;have m:=Qc f;simp only[go_sem,Qa,c,j,f,m];refine Xg n QfO ?_ (Qhm (Tr _)) ?_
  .simp only[go_sem,Qa,c,j,f,m,d0]
  apply Qh n;simp only[go_sem,Qa,c,j,f,m,d0];apply QB n [0,1,2,3,4,5,6,7,8,10,1009,11,1012];simp only[go_sem,Qa,c,j,f,m];apply WZ n p7 (Qhl (Tr _) L.length (by have:=T.Ag;omega));apply Zd n;simp only[go_sem,Qa,c,j,f,m];have t:(first+L.length) % b<b:=YI _ (by have:=T.fl;omega);have ZZ:(o ((first+L.length) % b)).drop 6=[]:=bG (by rw[T.lens _ t];exact Qs _);refine⟨t,t,?_⟩;simp only[go_sem,Qa,c,j,f,m,ZZ,Qm (Q8 T.ra)];rw[Qe s,Qe s];have C:=Qc c;have B:=Qc f;have v:=T.fl;have H:=T.Ag;have O:IntKind.i64.wrap ((L.length:Int)+1)=((L.length+1:Nat):Int):=ZK;refine⟨rfl,⟨a,first,λk=>bif k==(first+L.length) % b then x.cells else o k,?_,?_,T.ra,T.fl,ξ,H,?_,?_,T.sr,T.sa⟩,?_,?_⟩
  .rw[QJ (by simp;exact C),Xb (by simp;exact C),O];simp[Um,Qb]
  .rw[QJ (by simp;exact B),JZ T.ra,Xb B];rfl
  .intro i u;simp only[ZT,qT]at u;by_cases p:i=L.length
   .subst p;simp
   .have E:i<L.length:=ω;have Q:((first+i) % b==(first+L.length) % b)=false:=by
     rw[sT v ω,sT v ω];simp only[j5];split<;>split<;>omega
    rw[Q];simp only[js,T.rows i E,List.getD,JY E]
  .intro i u;show (bif _ then _ else _:List D).length=6;by_cases p:(i==(first+L.length) % b)=true
   .rw[p];rfl
   .rw[jW.2 p];exact T.lens i u
  .intro l M y;have K:a≠l:=λe=>y (e▸T.sa);have J:r≠l:=λe=>y (e▸T.sr);rw[QJ (by simp;exact M),JZ J,JZ K]
  .simp
def QvS{S}{h}{r b}{x}{L}(T:vO S h r b (x::L)):
  QI prog 218 h [.ptr r 0 0 0] (λd C=>d=.tup [.agg x.cells,Qb 0]/\vO S C r b L/\Step S h C):=by
 have U:=T;obtain⟨a,first,j,T⟩:=T;have c:=T.o;have f:=T.ao;have Tr:=λg=>(show ME (h++g) r a b first j (x::L) from ⟨Jc ((QJ (Qc T.o)).trans T.o),Jc ((QJ (Qc T.ao)).trans T.ao),T.fl,T.len,T.Ag,T.rows⟩);have v:=T.Ag;have o:=T.fl;have P:=T.len;simp only[VQ]at P;refine Q3 func218 ntmps218 results218 λI w R p=>?_;have m:=Qc c;have n:=Qc f;simp only[go_sem,Qa,c,m,f,n];refine Xg p Qf2 ?_ (Qhn (Tr _) 0 σ) ?_
 .simp only[go_sem,Qa,Qa,c,m,f,n]
 apply Qh p;simp only[go_sem,Qa,Qa,c,m,f,n];apply QB p o07;simp only[go_sem,Qa,c,m,f,n];refine⟨o,o,?_⟩;have s:=Qc c;have q:=Qc f;have ZZ:(j first).drop 6=[]:=bG (by rw[T.lens _ o];exact Qs _);have H:∀A B,((h.set a A).set r B)[r]? = some B:=λA B=>Xb (by simp;exact s);have E:IntKind.i64.wrap (((L.length+1:Nat):Int) - 1)=(L.length:Int):=ZK;have Q:=λA g=>(show ((h.set a A++g).map Ob.ro)[r]? = some (Um a b first (L.length+1)).ro from Jc ((QJ (by simp;exact s)).trans ((JZ (Q8 T.ra)).trans c)));have u:=λF g=>(show ((h.set a ⟨.arr,0,6,b,F⟩++g).map Ob.ro)[a]? = some (⟨.arr,0,6,b,F⟩:Ob).ro from Jc ((QJ (by simp;exact q)).trans (Xb q)));refine Xg p p7 ?_ (Qhk (Q _ _) (u _ _) o v 1 ω) ?_
 .simp only[go_sem,Qa,Qa,c,m,f,n,Qm (Q8 T.ra),ZZ,H,E]
 apply Qh p;simp only[go_sem,Qa,Qa,c,m,f,n,Qm (Q8 T.ra),ZZ,H,E];refine⟨⟨a,(first+1) % b,λk=>bif k==first then (default:Pk).cells else j k,?_,?_,T.ra,YI _ ω,ω,v,?_,?_,T.sr,T.sa⟩,?_,?_⟩
 .rw[QJ (by simp;exact s),Xb (by simp;exact s)];rfl
 .rw[QJ (by simp;exact q),JZ T.ra,Xb q];rfl
 .intro i z;have N:((first+1) % b+i) % b=(first+(i+1)) % b:=by rw[Nat.mod_add_mod];congr 1;omega
  have t:i+1<b:=ω;have O:((first+(i+1)) % b==first)=false:=by
   rw[sT o ω];simp only[j5];split<;>omega
  rw[N];simp only[O,js,T.rows (i+1) ξ];simp
 .intro i z;show (bif _ then _ else _:List D).length=6;by_cases t:(i==first)=true
  .rw[t];rfl
  .rw[jW.2 t];exact T.lens i z
 .intro l M y;have K:a≠l:=λe=>y (e▸T.sa);have J:r≠l:=λe=>y (e▸T.sr);rw[QJ (by simp;exact M),JZ J,JZ K]
 .simp
def QvU(h:List Ob)(n:Nat)(i:1<=n)(e:n<=64):QI prog 153 h [Qb n] (λd b=>d=.tup [.ptr (h.length+1) 0 0 0,Qb 0]/\vO (λl=>h.length<=l) b (h.length+1) n []/\∃g,b=h++g/\g.length=2):=by
 have d1:decide ((n:Int)<1)=false:=QU ω;have d2:decide ((64:Int)<n)=false:=QU ω;refine Q3 func153 ntmps153 results153 λc w f a=>?_;simp only[go_sem,Qa,d1,d2];refine QvO CH a rfl rfl rfl rfl π ω π rfl ?_;apply Za a;simp only[ZT,qT,Wu,YG,Yr];refine⟨trivial,⟨h.length,0,λ_=>(default:Pk).cells,Wm rfl,Vq rfl,ω,ω,σ,e,σ,λ_ _=>rfl,by show h.length<=_;omega,Qs _⟩,_,rfl,rfl⟩
@[go_sem] def num(n:Nat):D:=.agg [u64 (n / 18446744073709551616),u64 (n % 18446744073709551616)]
def QvV(a b g f d c)(i:a=g*4294967296+f)(h:b=d*4294967296+c)(m:g<4294967296)(l:f<4294967296)(k:d<4294967296)(j:c<4294967296):
  ∃P Q R S:Nat,P=g*d/\Q=g*c/\R=f*d/\S=f*c/\a*b=P*18446744073709551616+(Q+R)*4294967296+S/\P<=18446744065119617025/\Q<=18446744065119617025/\R<=18446744065119617025/\S<=18446744065119617025:=by
 refine⟨_,_,_,_,rfl,rfl,rfl,rfl,?_,?_,?_,?_,?_⟩
 .subst i h;have e:(g*4294967296+f)*(d*4294967296+c)=g*d*(4294967296*4294967296)+(g*c+f*d)*4294967296+f*c:=by
   simp only[Kh,xI,E6,Nat.mul_left_comm,Ss];omega
  rw[e]
 all_goals (refine JL (X8 (Nat.le_sub_one_of_lt ‹_›) (Nat.le_sub_one_of_lt ‹_›)) π)
def xg(a b)(p:a<18446744073709551616)(g:b<18446744073709551616):Q9 prog 41 [u64 a,u64 b] (Zp (num (a*b))):=by
 refine ZH 0 func41 ntmps41 results41 λe w g=>?_;simp only[go_sem,-Nat.reducePow];have o:(2:Nat) ^ min 32 64=4294967296:=rfl;have d:(2:Int) ^ min 32 64=((4294967296:Nat):Int):=rfl;obtain⟨P,Q,R,S,k,j,i,h,n,t,s,r,q⟩:=QvV a b (a / 4294967296) (a % 4294967296) (b / 4294967296) (b % 4294967296) ω ω ω ω ω ω;have c:∀x:Nat,((x:Int)).fdiv ((4294967296:Nat):Int)=((x / 4294967296:Nat):Int):=λx=>by have:=Mv x 32;rwa [show (2:Int) ^ 32=((4294967296:Nat):Int) from rfl,show (2:Nat) ^ 32=4294967296 from rfl]at this
 simp (disch:=omega) only [c,QuV,d,TS,Mu,<- k,<- j,<- i,<- h,n];have f:∀X:Nat,X*4294967296 % 18446744073709551616=X % 4294967296*4294967296:=λX=>ω;rw[f,QuW _ _ ω ω];have m:((P % 18446744073709551616+((Q % 18446744073709551616+S % 18446744073709551616 / 4294967296) % 18446744073709551616) / 4294967296) % 18446744073709551616+((R % 18446744073709551616+((Q % 18446744073709551616+S % 18446744073709551616 / 4294967296) % 18446744073709551616) % 4294967296) % 18446744073709551616) / 4294967296) % 18446744073709551616=(P*18446744073709551616+(Q+R)*4294967296+S) / 18446744073709551616:=ω;have l:((R % 18446744073709551616+((Q % 18446744073709551616+S % 18446744073709551616 / 4294967296) % 18446744073709551616) % 4294967296) % 18446744073709551616) % 4294967296*4294967296+S % 18446744073709551616 % 4294967296=(P*18446744073709551616+(Q+R)*4294967296+S) % 18446744073709551616:=ω;rw[m,l]
def Uo(a b)(k:a<2 ^ 128)(i:b<2 ^ 128):Q9 prog 43 [num a,num b] (Zp (Qb (if a<b then -1 else if a=b then 0 else 1))):=by
 refine ZH 0 func43 ntmps43 results43 λg w i=>?_;simp only[go_sem,-Nat.reducePow];refine q7 (λf=>?_) (λf=>?_)
 .simp only[go_sem,-Nat.reducePow,f];have:=X9 f;rw[Qf ω]
 simp only[go_sem,-Nat.reducePow,f];have l:=yL f;refine q7 (λe=>?_) (λe=>?_)
 .have h:a / 18446744073709551616=b / 18446744073709551616:=by have:=eq_of_beq e;omega
  simp only[go_sem,-Nat.reducePow,e];refine q7 (λd=>?_) (λd=>?_)
  .have:=X9 d;simp only[go_sem,-Nat.reducePow,d];rw[Qf ω]
  .have j:=yL d;simp only[go_sem,-Nat.reducePow,d];refine q7 (λc=>?_) (λc=>?_)
   .simp only[go_sem,-Nat.reducePow,c];simp only[ZX,jr]at c;rw[Qe ω,Qf ω]
   .simp only[go_sem,-Nat.reducePow,c];simp only[Lf,j5]at c;rw[Qe ω,Qe ω]
 .have h:=ne_of_beq_false e;simp only[go_sem,-Nat.reducePow,e,Lg];rw[Qe ω,Qe ω]
def QvX(a b c u:Nat)(e:a<18446744073709551616)(d:b<18446744073709551616)(g:c<2)(f:u=(a+18446744073709551616 - b+18446744073709551616 - c) % 18446744073709551616):
  (bits BinOp.or IntKind.u64 (bits BinOp.and IntKind.u64 (bits BinOp.xor IntKind.u64 (if IntKind.u64.signed=true then -1 else IntKind.u64.max) (a:Int)) (b:Int)) (bits BinOp.and IntKind.u64 (bits BinOp.xor IntKind.u64 (if IntKind.u64.signed=true then -1 else IntKind.u64.max) (bits BinOp.xor IntKind.u64 (a:Int) (b:Int))) (u:Int))).fdiv (2 ^ min 63 64)=((if a<b+c then 1 else 0:Nat):Int):=by
 have em:(if IntKind.u64.signed=true then -1 else IntKind.u64.max)=((18446744073709551615:Nat):Int):=π;have hx:a ^^^ b<2 ^ 64:=Su ω ω;have i:18446744073709551615 ^^^ a<2 ^ 64:=Su ω ω;have j:18446744073709551615 ^^^ (a ^^^ b)<2 ^ 64:=Su ω ω;have k:(18446744073709551615 ^^^ a) &&& b<2 ^ 64:=bX _ ω;have h:(18446744073709551615 ^^^ (a ^^^ b)) &&& u<2 ^ 64:=bX _ ω;rw[em,u64_xor_nat a b e d,u64_xor_nat _ a π e,u64_xor_nat _ _ π ω,u64_and_nat _ b ω d,u64_and_nat _ u ω ω,u64_or_nat _ _ ω ω,Mv];rw[show (2:Nat) ^ min 63 64=9223372036854775808 from rfl,rX _ _ ω ω,gL _ _ ω ω,gL _ _ ω ω,rY _ _ ω ω,rY _ _ ω ω,rY _ _ ω ω];rw[QuX a b c _ _ _ u _ e d g f rfl rfl rfl rfl]
def Qho(a b)(c)(g:a<18446744073709551616)(f:b<18446744073709551616)(e:c<2):Q9 prog 91 [u64 a,u64 b,u64 c] (Zp (.tup [u64 ((a+18446744073709551616 - b+18446744073709551616 - c) % 18446744073709551616),u64 (if a<b+c then 1 else 0)])):=by
 refine ZH 0 func91 ntmps91 results91 λd w f=>?_;simp only[go_sem,-Nat.reducePow];have h:IntKind.u64.wrap (IntKind.u64.wrap ((a:Int) - (b:Int)) - (c:Int))=(((a+18446744073709551616 - b+18446744073709551616 - c) % 18446744073709551616:Nat):Int):=by
  rw[rW a b ω,rW _ c ω];omega
 rw[h,QvX a b c _ g ‹_› e rfl]
def Qhp(a b)(k:a<2 ^ 128)(c:b<2 ^ 128):Q9 prog 40 [num a,num b] (Zp (.tup [num ((a+2 ^ 128 - b) % 2 ^ 128),QZ (decide (a<b))])):=by
 refine ZH 0 func40 ntmps40 results40 λg w c=>?_;simp only[go_sem,-Nat.reducePow];refine JG c Qfx ?_ (Qho (a % 18446744073709551616) (b % 18446744073709551616) 0 ω ω ω) ?_
 .simp only[go_sem,-Nat.reducePow]
 apply Qh c;simp only[go_sem,-Nat.reducePow];refine JG c Qfx ?_ (Qho (a / 18446744073709551616) (b / 18446744073709551616) (if a % 18446744073709551616<b % 18446744073709551616+0 then 1 else 0) ω ω (by split<;>omega)) ?_
 .simp only[go_sem,-Nat.reducePow]
 apply Qh c;simp only[go_sem,-Nat.reducePow];have l:∀x:Nat,(((if x=1 then (1:Nat) else 0:Nat):Int) != 0)=decide (x=1):=λx=>by by_cases h:x=1<;>simp[h]
 have j:(((if a / 18446744073709551616<b / 18446744073709551616+if a % 18446744073709551616<b % 18446744073709551616 then 1 else 0 then 1 else 0:Nat):Int) != 0)=decide (a<b):=by
  by_cases f:a % 18446744073709551616<b % 18446744073709551616
  .rw[Qf f];by_cases d:a / 18446744073709551616<b / 18446744073709551616+1
   .rw[Qf d];simp;omega
   .rw[Qe d];simp;omega
  .rw[Qe f];by_cases d:a / 18446744073709551616<b / 18446744073709551616+0
   .rw[Qf d];simp;omega
   .rw[Qe d];simp;omega
 have i:(a / 18446744073709551616+18446744073709551616 - b / 18446744073709551616+18446744073709551616 - if a % 18446744073709551616<b % 18446744073709551616 then 1 else 0) % 18446744073709551616=(a+2 ^ 128 - b) % 2 ^ 128 / 18446744073709551616:=by
  split<;>omega
 have e:(a % 18446744073709551616+18446744073709551616 - b % 18446744073709551616+18446744073709551616 - 0) % 18446744073709551616=(a+2 ^ 128 - b) % 2 ^ 128 % 18446744073709551616:=ω;try rw[B8]at e
 try rw[B8]at e
 rw[j,i,e]
def QvZ(a b c u:Nat)(e:a<18446744073709551616)(d:b<18446744073709551616)(g:c<2)(f:u=(a+b+c) % 18446744073709551616):
  (bits BinOp.or IntKind.u64 (bits BinOp.and IntKind.u64 (a:Int) (b:Int)) (bits BinOp.andNot IntKind.u64 (bits BinOp.or IntKind.u64 (a:Int) (b:Int)) (u:Int))).fdiv (2 ^ min 63 64)=((if 18446744073709551616<=a+b+c then 1 else 0:Nat):Int):=by
 have hx:a ||| b<2 ^ 64:=Nat.or_lt_two_pow ω ω;have i:a &&& b<2 ^ 64:=bX _ ω;have h:(a ||| b) &&& (18446744073709551615 - u)<2 ^ 64:=bX _ ω;rw[u64_and_nat a b e d,u64_or_nat a b e d,u64_andNot_nat _ u ω ω,u64_or_nat _ _ ω ω,Mv];rw[show (2:Nat) ^ min 63 64=9223372036854775808 from rfl,rX _ _ ω ω,gL _ _ ω ω,gL _ _ ω ω,rX _ _ ω ω];rw[show (18446744073709551615 - u) / 9223372036854775808=1 - u / 9223372036854775808 by omega];rw[QuY a b c _ _ _ u _ e d g f rfl rfl rfl rfl]
def Qhq(a b)(c)(g:a<18446744073709551616)(f:b<18446744073709551616)(e:c<2):Q9 prog 92 [u64 a,u64 b,u64 c] (Zp (.tup [u64 ((a+b+c) % 18446744073709551616),u64 (if 18446744073709551616<=a+b+c then 1 else 0)])):=by
 refine ZH 0 func92 ntmps92 results92 λd w f=>?_;simp only[go_sem,-Nat.reducePow];have h:IntKind.u64.wrap (IntKind.u64.wrap ((a:Int)+(b:Int))+(c:Int))=(((a+b+c) % 18446744073709551616:Nat):Int):=by
  rw[Mu,Mu];omega
 rw[h,QvZ a b c _ g ‹_› e rfl]
def HW(a b)(j:a<2 ^ 128)(c:b<2 ^ 128):Q9 prog 42 [num a,num b] (Zp (.tup [num ((a+b) % 2 ^ 128),QZ (decide (2 ^ 128<=a+b))])):=by
 refine ZH 0 func42 ntmps42 results42 λg w c=>?_;simp only[go_sem,-Nat.reducePow];refine JG c Qfy ?_ (Qhq (a % 18446744073709551616) (b % 18446744073709551616) 0 ω ω ω) ?_
 .simp only[go_sem,-Nat.reducePow]
 apply Qh c;simp only[go_sem,-Nat.reducePow];refine JG c Qfy ?_ (Qhq (a / 18446744073709551616) (b / 18446744073709551616) (if 18446744073709551616<=a % 18446744073709551616+b % 18446744073709551616+0 then 1 else 0) ω ω (by split<;>omega)) ?_
 .simp only[go_sem,-Nat.reducePow]
 apply Qh c;simp only[go_sem,-Nat.reducePow];have i:(((if 18446744073709551616<=a / 18446744073709551616+b / 18446744073709551616+(if 18446744073709551616<=a % 18446744073709551616+b % 18446744073709551616 then 1 else 0) then 1 else 0:Nat):Int) != 0)=decide (2 ^ 128<=a+b):=by
  by_cases f:18446744073709551616<=a % 18446744073709551616+b % 18446744073709551616
  .rw[Qf f];by_cases d:18446744073709551616<=a / 18446744073709551616+b / 18446744073709551616+1
   .rw[Qf d];simp;omega
   .rw[Qe d];simp;omega
  .rw[Qe f];by_cases d:18446744073709551616<=a / 18446744073709551616+b / 18446744073709551616+0
   .rw[Qf d];simp;omega
   .rw[Qe d];simp;omega
 have h:(a / 18446744073709551616+b / 18446744073709551616+if 18446744073709551616<=a % 18446744073709551616+b % 18446744073709551616 then 1 else 0) % 18446744073709551616=(a+b) % 2 ^ 128 / 18446744073709551616:=by
  split<;>omega
 have e:(a % 18446744073709551616+b % 18446744073709551616) % 18446744073709551616=(a+b) % 2 ^ 128 % 18446744073709551616:=ω;try rw[B8]at e
 try rw[B8]at e
 rw[i,h,e]
def ij(a)(f:a<18446744073709551616):Q9 prog 51 [u64 a] (Zp (num a)):=by
 refine ZH 0 func51 ntmps51 results51 λb w e=>?_;simp only[go_sem,-Nat.reducePow];have d:a / 18446744073709551616=0:=ω;have c:a % 18446744073709551616=a:=ω;rw[d,c];rfl
def sU(x y:Nat)(b:x<9223372036854775808)(a:y<2):bits .or .u64 ((x*2:Nat):Int) (y:Int)=((x*2+y:Nat):Int):=by
 rw[u64_or_nat _ _ ω ω,nat_join 1 _ _ ω ω]
def sV(x:Nat):(x:Int).fdiv (2 ^ min 63 64)=((x / 9223372036854775808:Nat):Int):=by
 have:=Mv x 63;rwa [show (2:Int) ^ 63=2 ^ min 63 64 from rfl,show (2:Nat) ^ 63=9223372036854775808 from rfl]at this
def sW(x:Nat):IntKind.u64.wrap ((x:Int)*2 ^ min 1 64)=((x % 9223372036854775808*2:Nat):Int):=by
 rw[show (2:Int) ^ min 1 64=((2:Nat):Int) from rfl,TS];omega
def sX(r A:Nat)(a:A<2 ^ 128):bits .or .u64 (IntKind.u64.wrap ((r:Int)*2 ^ min 1 64)) ((A / 18446744073709551616 / 9223372036854775808:Nat):Int)=(((2*r+A / 2 ^ 127) % 18446744073709551616:Nat):Int):=by
 rw[sW,sU _ _ ω ω];congr 1;omega
def Pz(A)(a:A<2 ^ 128):bits .or .u64 (IntKind.u64.wrap (((A / 18446744073709551616:Nat):Int)*2 ^ min 1 64)) ((A % 18446744073709551616 / 9223372036854775808:Nat):Int)=(((A*2 % 2 ^ 128) / 18446744073709551616:Nat):Int):=by
 rw[sW,sU _ _ ω ω];congr 1;omega
def sY(A):IntKind.u64.wrap (((A % 18446744073709551616:Nat):Int)*2 ^ min 1 64)=(((A*2 % 2 ^ 128) % 18446744073709551616:Nat):Int):=by
 rw[sW];congr 1;omega
def ik(x):bits .or .u64 (((x*2 % 2 ^ 128) % 18446744073709551616:Nat):Int) 1=((((x*2+1) % 2 ^ 128) % 18446744073709551616:Nat):Int):=by
 have:=sU ((x*2 % 2 ^ 128) % 18446744073709551616 / 2) 1 ω ω;rw[show (x*2 % 2 ^ 128) % 18446744073709551616 / 2*2=(x*2 % 2 ^ 128) % 18446744073709551616 by omega]at this;rw[show ((1:Nat):Int)=1 from rfl]at this;rw[this];congr 1;omega
def iq{n:Nat}(h:n≠0):((n:Int) != 0)=true:=by simp[h]
def PA{n:Nat}(h:n=0):((n:Int) != 0)=false:=by simp[h]
def Qv0(a k)(i:k<128):a / 2 ^ (128 - (k+1))=2*(a / 2 ^ (128 - k))+(a*2 ^ k % 2 ^ 128) / 2 ^ 127:=by
 obtain⟨m,h⟩:∃m,m=127 - k:=⟨_,rfl⟩;have g:128 - (k+1)=m:=ω;have f:128 - k=m+1:=ω;have e:(2:Nat) ^ 128=2 ^ (m+1)*2 ^ k:=by rw[<- Nat.pow_add];congr 1;omega
 have d:(2:Nat) ^ 127=2 ^ m*2 ^ k:=by rw[<- Nat.pow_add];congr 1;omega
 rw[g,f,e,d,Nat.mul_mod_mul_right,Nat.mul_div_mul_right _ _ (cn k),Nat.pow_succ];have b:=cn m;generalize 2 ^ m=M at *;have j:=NV a (M*2);have c:a=M*(2*(a / (M*2)))+a % (M*2):=by rw[<- Ss];omega
 conv=>lhs;rw[c]
 rw[Nat.mul_add_div b]
def Qv1(a k):a*2 ^ k % 2 ^ 128*2 % 2 ^ 128=a*2 ^ (k+1) % 2 ^ 128:=by
 have:a*2 ^ (k+1)=a*2 ^ k*2:=by rw[Nat.pow_succ,Ss]
 rw[this];omega
def Qv2(t b a)(c:0<b)(d:a<2):
  (b<=2*(t % b)+a->(2*t+a) / b=2*(t / b)+1/\(2*t+a) % b=2*(t % b)+a - b)/\(2*(t % b)+a<b->(2*t+a) / b=2*(t / b)/\(2*t+a) % b=2*(t % b)+a):=by
 have f:=NV t b;have e:=YI t c;constructor
 .intro h;refine(bY c).2 ⟨?_,ω⟩;rw[xI,Nat.mul_left_comm];omega
 .intro h;refine(bY c).2 ⟨?_,ω⟩;rw[Nat.mul_left_comm];omega
def dA(a k:Nat):Nat:=a*2 ^ k % 2 ^ 128
def dT(a k:Nat):Nat:=a / 2 ^ (128 - k)
def Qhr(a k)(h:a<2 ^ 128):dT a k<2 ^ 128:=EZ (NW _ _) h
def HX(a k):dA a k<2 ^ 128:=YI _ π
def sZ(a b)(l:a<2 ^ 128)(o:b<18446744073709551616):Q9 prog 93 [num a,u64 b] (Zp (.tup [num (if b=0 then 0 else a / b),u64 (if b=0 then 0 else a % b),Qb (if b=0 then 1 else 0)])):=by
 refine ZH 0 func93 ntmps93 results93 λt w o=>?_;simp only[go_sem,-Nat.reducePow];by_cases g:b=0
 .subst g;simp only[go_sem,-Nat.reducePow,VB];try rfl
 have q:=TA g;simp only[go_sem,-Nat.reducePow,q];have y:dA a 0=a:=by show a*2 ^ 0 % 2 ^ 128=a;rw[Nat.pow_zero,Nat.mul_one];exact jq l
 have x:dT a 0=0:=Nat.div_eq_of_lt l;refine fm (G:=Nat) [1,2,4,7] (λk=>True) (λk f=>[(8,u64 (dT a k % b)),(13,Qb k)]) (λk f=>[⟨.one,0,2,1,λ_=>[u64 (dA a k / 18446744073709551616),u64 (dA a k % 18446744073709551616)]⟩,⟨.one,0,2,1,λ_=>[u64 0,u64 0]⟩,⟨.one,0,2,1,λ_=>[u64 (dT a k / b / 18446744073709551616),u64 (dT a k / b % 18446744073709551616)]⟩]) (128) (0) rfl (QH.to 3 (by (simp only[go_sem,-Nat.reducePow,y,x,Nat.zero_div,Nat.zero_mod])<;>simp)) trivial ?_;intro k f j _;replace j:k<=128:=j;apply Qh o;simp only[go_sem,-Nat.reducePow];have p:=Vl (show k<4611686018427387904 from ω);first|refine yX j (λd=>?_) (λd=>?_)|refine yY j (λd=>?_) (λd=>?_)
 .replace d:k<128:=d;have Qc:decide ((k:Int)<128)=true:=ξ;have s:0<b:=ω;have t1:dT a (k+1)=2*dT a k+dA a k / 2 ^ 127:=Qv0 a k d;have t2:dA a k*2 % 2 ^ 128=dA a (k+1):=Qv1 a k;have t3:=Qv2 (dT a k) b (dA a k / 2 ^ 127) s (by have:=HX a k;omega);have t4:=YI (dT a k) s;have t5:=HX a k;have t6:=Qhr a (k+1) l;rw[<- t1]at t3;have t7:dT a (k+1) / b<2 ^ 128:=EZ (NW _ _) t6;have t8:dT a k / b<2 ^ 128:=EZ (NW _ _) (Qhr a k l);by_cases u:b<=2*(dT a k % b)+dA a k / 2 ^ 127
  .obtain⟨v,r⟩:=t3.1 u;have c:IntKind.u64.wrap ((((2*(dT a k % b)+dA a k / 2 ^ 127) % 18446744073709551616:Nat):Int) - (b:Int))=((dT a (k+1) % b:Nat):Int):=by
    rw[rW _ b ω,r];congr 1;omega
   have z:dT a k / b*2 % 2 ^ 128=dT a k / b*2:=ω;have e:((dT a k / b*2+1) % 2 ^ 128)=dT a (k+1) / b:=ω;have m:dT a k / b*2 % 2 ^ 128 / 18446744073709551616=dT a (k+1) / b / 18446744073709551616:=ω;by_cases i:dT a k % b / 9223372036854775808=0
   .have n:decide (b<=(2*(dT a k % b)+dA a k / 2 ^ 127) % 18446744073709551616)=true:=ξ;have h:((((dT a k % b / 9223372036854775808:Nat)):Int) != 0)=false:=PA i;simp only[go_sem,-Nat.reducePow,Qc,sX _ _ (HX a k),Pz _ (HX a k),Pz _ t8,sY,sV,h,n,c,t2,ik,e,m];repeat (refine And.intro η ?_)
    refine⟨_,QH.to 3 (by (simp only[go_sem,-Nat.reducePow,p,c,t2,ik,e,m])<;>simp),yW.mk (f) (trivial)⟩
   .have h:((((dT a k % b / 9223372036854775808:Nat)):Int) != 0)=true:=iq i;simp only[go_sem,-Nat.reducePow,Qc,sX _ _ (HX a k),Pz _ (HX a k),Pz _ t8,sY,sV,h,c,t2,ik,e,m];repeat (refine And.intro η ?_)
    refine⟨_,QH.to 3 (by (simp only[go_sem,-Nat.reducePow,p,c,t2,ik,e,m])<;>simp),yW.mk (f) (trivial)⟩
  .obtain⟨v,r⟩:=t3.2 ω;have c:(2*(dT a k % b)+dA a k / 2 ^ 127) % 18446744073709551616=dT a (k+1) % b:=ω;have e:dT a k / b*2 % 2 ^ 128=dT a (k+1) / b:=ω;have i:dT a k % b / 9223372036854775808=0:=ω;have n:decide (b<=dT a (k+1) % b)=false:=ξ;have h:=PA i;simp only[go_sem,-Nat.reducePow,Qc,sX _ _ (HX a k),Pz _ (HX a k),Pz _ t8,sY,sV,h,c,n,t2,e];repeat (refine And.intro η ?_)
   refine⟨_,QH.to 3 (by (simp only[go_sem,-Nat.reducePow,p,c,t2,e])<;>simp),yW.mk (f) (trivial)⟩
 .have Qc:decide ((k:Int)<128)=false:=by rw[d];rfl
  have c:dT a k=a:=by rw[d];show a / 2 ^ 0=a;rw[Nat.pow_zero,Nat.div_one]
  simp only[go_sem,-Nat.reducePow,Qc,c];apply Qh o;simp only[go_sem,-Nat.reducePow];rw[Qe g,Qe g,Qe g]
def d0(n:Nat):Nat:=n % 4294967296
def d1(n:Nat):Nat:=n / 4294967296 % 4294967296
def d2(n:Nat):Nat:=n / 18446744073709551616 % 4294967296
def d3(n:Nat):Nat:=n / 79228162514264337593543950336 % 4294967296
@[go_sem] def dg(n:Nat):D:=.agg [u64 (d0 n),u64 (d1 n),u64 (d2 n),u64 (d3 n)]
theorem Ei:((0:Nat):Int)=0:=rfl
theorem HY:((1:Nat):Int)=1:=rfl
def cdiv(n d:Nat):Nat:=(n+d - 1) / d
def tc(n d)(a:0<d):cdiv n d=if n % d=0 then n / d else n / d+1:=by
 unfold cdiv;have c:=NV n d;have b:=YI n a;split
 .rename_i h;have:(n+d - 1) / d=n / d/\(n+d - 1) % d=d - 1:=(bY a).2 ⟨ω,ω⟩;exact this.1
 .have:(n+d - 1) / d=n / d+1/\(n+d - 1) % d=n % d - 1:=(bY a).2 ⟨by rw[xI];omega,ω⟩;exact this.1
def Qhs(n)(b:n<18446744073709551616):Q9 prog 94 [num n] (Zp (.tup [u64 n,Qb 0])):=by
 refine ZH 0 func94 ntmps94 results94 λa w d=>?_;simp only[go_sem];have c:((((n / 18446744073709551616:Nat)):Int) != 0)=false:=PA ω;simp only[go_sem,c];rw[jq b]
def Qht(n d)(m:n<2 ^ 127)(i:d<18446744073709551616)(k:0<d)(g:cdiv n d<18446744073709551616):Q9 prog 44 [num n,u64 d] (Zp (.tup [u64 (cdiv n d),Qb 0])):=by
 have b:=tc n d k;have e:d≠0:=ω;have l:=NW n d;refine ZH 0 func44 ntmps44 results44 λf w a=>?_;simp only[go_sem];refine JG a pW ?_ (sZ n d ω i) ?_
 .simp only[go_sem,e,zG]
 apply Qh a;simp only[go_sem,e,zG];by_cases h:n % d=0
 .rw[Qf h]at b;have c:=PA h;simp only[go_sem,c];refine JG a fR ?_ (Qhs (n / d) ω) ?_
  .simp only[go_sem,b]
  apply Qh a;simp only[go_sem,b]
 .rw[Qe h]at b;have c:=iq h;simp only[go_sem,c];apply QB a [0,1001,1002,3,4,5,1006];simp only[go_sem];refine KJ a pR ?_ (ij 1 π) ?_
  .simp only[go_sem,HY]
  apply Zd a;simp only[go_sem,HY];refine KJ a Hz ?_ (HW (n / d) 1 ω π) ?_
  .simp only[go_sem,HY]
  apply Zd a;simp only[go_sem,HY];have j:(n / d+1) % 2 ^ 128=cdiv n d:=ω;simp only[go_sem,j];apply JW a fR (Qhs (cdiv n d) g);exact zT a
def Qv4(a b c)(h:a<18446744073709551616)(d:b<18446744073709551616)(g:c<18446744073709551616)(j:0<c)(i:a*b<2 ^ 127)(f:cdiv (a*b) c<18446744073709551616):Q9 prog 46 [u64 a,u64 b,u64 c] (Zp (.tup [u64 (cdiv (a*b) c),Qb 0])):=by
 refine ZH 0 func46 ntmps46 results46 λe w d=>?_;simp only[go_sem];apply JW d wR (xg a b h ‹_›);apply Za d;apply JW d fO (Qht (a*b) c i g j f);exact zT d
@[go_sem] def QHu(v e:Int):D:=.agg [.raw (.int .u64 v),.raw (.int .i64 e)]
def Qv5(n d)(f:n<2 ^ 128)(g:0<d)(h:¬ n % d=0):n / d+1<2 ^ 128:=by
 have e:2<=d:=by
  rcases B7 d 2 with h3|h3
  .have:d=1:=ω;subst this;omega
  .exact h3
 have:=Nat.div_le_div_left (c:=2) (b:=d) (a:=n) e π;omega
theorem YZ:((65536:Nat):Int)=65536:=rfl
def Ur(n:Nat):Nat:=if n<18446744073709551616 then n else 0
def PB(n:Nat):Int:=if n<18446744073709551616 then 0 else 20
def Qhu(n)(e:n<2 ^ 128):Q9 prog 94 [num n] (Zp (.tup [u64 (Ur n),Qb (PB n)])):=by
 refine ZH 0 func94 ntmps94 results94 λd w f=>?_;simp only[go_sem,-Nat.reducePow];by_cases h:n<18446744073709551616
 .have c:((((n / 18446744073709551616:Nat)):Int) != 0)=false:=PA ω;have b:Ur n=n:=Qf h;have a:PB n=0:=Qf h;simp only[go_sem,-Nat.reducePow,c,b,a];rw[jq h]
 .have c:((((n / 18446744073709551616:Nat)):Int) != 0)=true:=iq ω;have b:Ur n=0:=Qe h;have a:PB n=20:=Qe h;simp only[go_sem,-Nat.reducePow,c,b,a]
def Qv6(n d)(e:n<2 ^ 128)(j:d<18446744073709551616)(f:0<d):Q9 prog 44 [num n,u64 d] (Zp (.tup [u64 (Ur (cdiv n d)),Qb (PB (cdiv n d))])):=by
 have b:=tc n d f;have g:d≠0:=ω;have l:=NW n d;refine ZH 0 func44 ntmps44 results44 λi w a=>?_;simp only[go_sem,-Nat.reducePow];refine JG a pW ?_ (sZ n d e j) ?_
 .simp only[go_sem,-Nat.reducePow,g,zG]
 apply Qh a;simp only[go_sem,-Nat.reducePow,g,zG];by_cases h:n % d=0
 .rw[Qf h]at b;have c:=PA h;simp only[go_sem,-Nat.reducePow,c];refine JG a fR ?_ (Qhu (n / d) ω) ?_
  .simp only[go_sem,-Nat.reducePow,b]
  apply Qh a;simp only[go_sem,-Nat.reducePow,b]
 .rw[Qe h]at b;have m:=Qv5 n d e f h;have c:=iq h;simp only[go_sem,-Nat.reducePow,c];apply QB a [0,1001,1002,3,4,5,1006];simp only[go_sem,-Nat.reducePow];refine KJ a pR ?_ (ij 1 π) ?_
  .simp only[go_sem,-Nat.reducePow,HY]
  apply Zd a;simp only[go_sem,-Nat.reducePow,HY];refine KJ a Hz ?_ (HW (n / d) 1 ω π) ?_
  .simp only[go_sem,-Nat.reducePow,HY]
  apply Zd a;simp only[go_sem,-Nat.reducePow,HY];have k:(n / d+1) % 2 ^ 128=cdiv n d:=ω;simp only[go_sem,-Nat.reducePow,k];refine JG a fR ?_ (Qhu (cdiv n d) ω) ?_
  .simp only[go_sem,-Nat.reducePow]
  apply Qh a;simp only[go_sem,-Nat.reducePow]
def J5(a d b:Nat):Int:=if 4294967295<a\/4294967295<b\/1048576<d then 0 else if a=0/\b=0/\d=0 then 1 else if d=0/\a=b then 2 else if d=0 then 0 else if b<a then 3 else if a=0/\0<b then 4 else 0
@[go_sem] def iu(a d b:Nat):D:=.agg [u64 a,u64 d,u64 b]
def PC(a d b):Q9 prog 47 [iu a d b] (Zp (Qb (J5 a d b))):=by
 refine ZH 0 func47 ntmps47 results47 λc w e=>?_;simp only[go_sem,-Nat.reducePow]
 repeat' (first|((first|refine FF (λh=>?_) (λh=>?_)|refine FG (λh=>?_) (λh=>?_)|refine FH (λh=>?_) (λh=>?_)|refine q7 (λh=>?_) (λh=>?_)|refine FI (λh=>?_) (λh=>?_)|refine FJ (λh=>?_) (λh=>?_)|refine FK (λh=>?_) (λh=>?_)|refine FC (λh=>?_) (λh=>?_))<;>(try simp only[go_sem,-Nat.reducePow]))|(refine And.intro ω ?_;try simp only[go_sem,-Nat.reducePow]))
 all_goals (congr 2;(try simp only[ZX,Lf,B3,Ds,jr,j5,bne_iff_ne,bne_eq_false_iff_eq,Xd,Fb,ne_eq]at *);(try unfold J5);(repeat' split)<;>omega)
def Qv7(a d b):J5 a d b=0\/J5 a d b=1\/J5 a d b=2\/J5 a d b=3\/J5 a d b=4:=by unfold J5;(repeat' split)<;>simp
def iv{a d b}(h:J5 a d b≠0):a<=4294967295/\b<=4294967295/\d<=1048576:=by unfold J5 at h;split at h<;>omega
def iw(a d b):Q9 prog 45 [iu a d b] (Zp (QZ (J5 a d b != 0))):=by
 refine ZH 0 func45 ntmps45 results45 λe w c=>?_;simp only[go_sem,-Nat.reducePow];refine JG c DU ?_ (PC a d b) ?_
 .simp only[go_sem,-Nat.reducePow]
 apply Qh c;simp only[go_sem,-Nat.reducePow]
def Jk(a d b t:Nat):Nat:=if J5 a d b=0 then 0 else a*min t d+b*(t - min t d)
def Qv8(a d b t)(i:t<18446744073709551616):Jk a d b t<2 ^ 97:=by
 unfold Jk;split
 .decide
 .rename_i h;obtain⟨e,c,j⟩:=iv h;have g:a*min t d<=4294967295*1048576:=X8 e ω;have f:b*(t - min t d)<=4294967295*18446744073709551615:=X8 c ω;exact EZ (Nat.add_le_add g f) π
def HZ(a b:Nat):(min (a:Int) (b:Int))=((min a b:Nat):Int):=ω
def Qv9(a d b t)(j:t<18446744073709551616):Q9 prog 95 [iu a d b,u64 t] (Zp (num (Jk a d b t))):=by
 refine ZH 0 func95 ntmps95 results95 λi w c=>?_;simp only[go_sem,-Nat.reducePow];refine JG c Mf ?_ (iw a d b) ?_
 .simp only[go_sem,-Nat.reducePow]
 apply Qh c;simp only[go_sem,-Nat.reducePow];by_cases h:J5 a d b=0
 .have g:Jk a d b t=0:=Qf h;have f:(J5 a d b != 0)=false:=by simp[h]
  simp only[go_sem,-Nat.reducePow,g,f]
 .have g:Jk a d b t=a*min t d+b*(t - min t d):=Qe h;have f:(J5 a d b != 0)=true:=by simp[h]
  obtain⟨l,k,m⟩:=iv h;have e:=TU t (min t d) ω j;have o:a*min t d<=4294967295*1048576:=X8 l ω;have n:b*(t - min t d)<=4294967295*18446744073709551615:=X8 k ω;simp only[go_sem,-Nat.reducePow,g,f,HZ,e];apply QB c [0,1,2,4,5,6,7,8,1003,1009,1010,11,12,13,1014,1015,16];simp only[go_sem,-Nat.reducePow,HZ,e];refine KJ c wR ?_ (xg a (min t d) ω ω) ?_
  .simp only[go_sem,-Nat.reducePow,HZ,e]
  apply Zd c;simp only[go_sem,-Nat.reducePow,HZ,e];refine KJ c wR ?_ (xg b (t - min t d) ω ω) ?_
  .simp only[go_sem,-Nat.reducePow,HZ,e]
  apply Zd c;simp only[go_sem,-Nat.reducePow,HZ,e];refine KJ c Hz ?_ (HW (a*min t d) (b*(t - min t d)) ω ω) ?_
  .simp only[go_sem,-Nat.reducePow,HZ,e]
  apply Zd c;simp only[go_sem,-Nat.reducePow,HZ,e];rw[jq ω]
structure Ln where
 x:Nat
 y:Nat
 m:Nat
deriving DecidableEq
instance:Inhabited Ln:=⟨⟨0,0,0⟩⟩
structure Ln.Ok (l:Ln):Prop where
 x:l.x<18446744073709551616
 y:l.y<2 ^ 128
 m:l.m<18446744073709551616
@[go_sem] def Ln.cells(l:Ln):List D:=[u64 l.x,u64 (l.y / 18446744073709551616),u64 (l.y % 18446744073709551616),u64 l.m]
def qC(l:Ln)(x:Nat):Nat:=if x<=l.x then l.y else (l.y+l.m*(x - l.x)) % 2 ^ 128
def Qhv{a b}(d:a<18446744073709551616)(c:b<18446744073709551616):a*b<2 ^ 128:=by
 have:a*b<=18446744073709551615*18446744073709551615:=X8 ω ω;exact EZ this π
def Qhw{l:Ln}(h:l.Ok)(x):qC l x<2 ^ 128:=by
 unfold qC;split
 .exact h.y
 .exact YI _ π
def Qhx(l:Ln)(h:l.Ok)(x)(e:x<18446744073709551616):Q9 prog 264 [.agg l.cells,u64 x] (Zp (num (qC l x))):=by
 unfold qC;refine ZH 0 func264 ntmps264 results264 λd w a=>?_;simp only[go_sem];by_cases b:x<=l.x
 .have d1:=Q1 b;simp only[go_sem,d1,Qf b]
 .have d1:=QU b;have c:=TU x l.x ω e;simp only[go_sem,d1,Qe b];apply QB a o12;simp only[go_sem,c];refine KJ a wR ?_ (xg l.m (x - l.x) h.m ω) ?_
  .simp only[go_sem,c]
  apply Zd a;simp only[go_sem,c];apply VR a Hz (HW l.y (l.m*(x - l.x)) h.y (Qhv h.m ω));exact O8 a
def W3(l:Ln)(w:Nat):Nat:=
 if w<=l.y then 0
 else if l.m=0\/18446744073709551616<=cdiv (w - l.y) l.m\/never<=l.x\/never - l.x<=cdiv (w - l.y) l.m then never
 else l.x+cdiv (w - l.y) l.m
def Qhy(l)(w):W3 l w<=never:=by
 unfold W3;split<;>try split
 .exact Z9 _
 .exact Qs _
 .omega
def Qwa(n)(c:n<2 ^ 128):Q9 prog 44 [num n,u64 0] (Zp (.tup [u64 0,Qb 1])):=by
 refine ZH 0 func44 ntmps44 results44 λb w a=>?_;simp only[go_sem];refine JG a pW ?_ (sZ n 0 c π) ?_
 .simp only[go_sem,VB]
 apply Qh a;simp only[go_sem,VB]
def Qhz{a b:Nat}:((if a<b then (-1:Int) else if a=b then 0 else 1)<=0)↔a<=b:=by
 split
 .omega
 .split<;>omega
def Qwb{a b:Nat}:((if a<b then (-1:Int) else if a=b then 0 else 1)<0)↔a<b:=by
 split
 .omega
 .split<;>omega
def QhA{a b}(c:a<2 ^ 128)(h:b<=a):(a+2 ^ 128 - b) % 2 ^ 128=a - b:=by
 rw[show a+2 ^ 128 - b=a - b+2 ^ 128 by omega,Nat.add_mod_right,jq ω]
def iz(l:Ln)(h:l.Ok)(v)(g:v<2 ^ 128):Q9 prog 252 [.agg l.cells,num v] (Zp (u64 (W3 l v))):=by
 unfold W3;refine ZH 0 func252 ntmps252 results252 λn w a=>?_;simp only[go_sem];apply JW a Tu (Uo v l.y g h.y);apply Za a;by_cases i:v<=l.y
 .have d1:=Q1 (Qhz.2 i);simp only[go_sem,d1,Qf i]
 .have d1:=QU (λc=>i (Qhz.1 c));rw[Qe i];simp only[go_sem,d1];refine JG a Qfo ?_ (Qhp v l.y g h.y) ?_
  .simp only[go_sem,QhA g (show l.y<=v from ω)]
  apply Qh a;simp only[go_sem,QhA g (show l.y<=v from ω)];by_cases c:l.m=0
  .rw[Qf (.inl c)];refine JG a fO ?_ (Qwa (v - l.y) ω) ?_
   .simp only[go_sem,c]
   apply Qh a;simp only[go_sem,c];rfl
  .apply JW a fO (Qv6 (v - l.y) l.m ω h.m ω);apply Za a;by_cases j:cdiv (v - l.y) l.m<18446744073709551616
   .have f:PB (cdiv (v - l.y) l.m)=0:=Qf j;have k:Ur (cdiv (v - l.y) l.m)=cdiv (v - l.y) l.m:=Qf j;by_cases e:never<=l.x
    .have d4:decide ((9223372036854775808:Int)<=(l.x:Int))=true:=Q1 (by unfold never at e;omega);rw[Qf (.inr (.inr (.inl e)))];simp only[go_sem,f,k,d4];rfl
    .have d4:decide ((9223372036854775808:Int)<=(l.x:Int))=false:=QU (by unfold never at e;omega);have m:IntKind.u64.wrap ((9223372036854775808:Int) - (l.x:Int))=((never - l.x:Nat):Int):=by
      have:=TU 9223372036854775808 l.x (by unfold never at e;omega) π;exact this
     by_cases d:never - l.x<=cdiv (v - l.y) l.m
     .have d5:=Q1 d;rw[Qf (.inr (.inr (.inr d)))];simp only[go_sem,f,k,d4,m,d5];rfl
     .have d5:=QU d;have o:=Pg l.x (cdiv (v - l.y) l.m) (by unfold never at d;omega);rw[Qe (by rintro (b|b|b|b);exact c b;omega;exact e b;exact d b)];simp only[go_sem,f,k,d4,m,d5,o]
   .have f:PB (cdiv (v - l.y) l.m)=20:=Qe j;rw[Qf (.inr (.inl ω))];simp only[go_sem,f];rfl
def zY(a b:Ln):Ln:=if qC b (max a.x b.x)<qC a (max a.x b.x) then b else a
def QhB{a b:Ln}(d:a.Ok)(c:b.Ok):(zY a b).Ok:=by unfold zY;split<;>assumption
def H0(a b:Nat):(max (a:Int) (b:Int))=((max a b:Nat):Int):=ω
def QhC(a b:Ln)(e:a.Ok)(f:b.Ok):Q9 prog 241 [.agg a.cells,.agg b.cells] (Zp (.agg (zY a b).cells)):=by
 have hx:max a.x b.x<18446744073709551616:=by have:=e.x;have:=f.x;omega
 unfold zY;obtain⟨k,g⟩:∃k,k=(if qC b (max a.x b.x)<qC a (max a.x b.x) then (-1:Int) else if qC b (max a.x b.x)=qC a (max a.x b.x) then 0 else 1):=⟨_,rfl⟩;have h:k<0↔qC b (max a.x b.x)<qC a (max a.x b.x):=by rw[g];exact Qwb
 refine ZH 0 func241 ntmps241 results241 λi w c=>?_;simp only[go_sem];simp only[go_sem,H0];apply QB c [0,1,3,4,1002,1005,1006,7];simp only[go_sem,H0];refine KJ c Qf4 ?_ (Qhx b f (max a.x b.x) hx) ?_
 .simp only[go_sem,H0]
 apply Zd c;simp only[go_sem,H0];refine KJ c Qf4 ?_ (Qhx a e (max a.x b.x) hx) ?_
 .simp only[go_sem,H0]
 apply Zd c;simp only[go_sem,H0];refine KJ c Tu ?_ (g▸Uo (qC b (max a.x b.x)) (qC a (max a.x b.x)) (Qhw f _) (Qhw e _)) ?_
 .simp only[go_sem,H0]
 apply Zd c;simp only[go_sem,H0];by_cases d:qC b (max a.x b.x)<qC a (max a.x b.x)
 .have d1:=Q1 (h.2 d);simp only[go_sem,d1,Qf d]
 .have d1:=QU (λj=>d (h.1 j));rw[Qe d];simp only[go_sem,d1]
structure Rn where
 f:Ln
 t:Ln
 b:Bool
deriving DecidableEq
instance:Inhabited Rn:=⟨⟨default,default,false⟩⟩
structure Rn.Ok (r:Rn):Prop where
 f:r.f.Ok
 t:r.t.Ok
@[go_sem] def Rn.cells(r:Rn):List D:=[u64 r.f.x,u64 (r.f.y / 18446744073709551616),u64 (r.f.y % 18446744073709551616),u64 r.f.m,u64 r.t.x,u64 (r.t.y / 18446744073709551616),u64 (r.t.y % 18446744073709551616),u64 r.t.m,QZ r.b]
def Qwc(n:Nat)(h:n<18446744073709551616):IntKind.u64.wrap (n:Int)=(n:Int):=κ
@[go_sem] def cfg(t l:Int):D:=.agg [.raw (.int .i64 t),.raw (.int .i64 l)]
def Qwd(n t:Nat)(u:n<2 ^ 128)(s:t<=65536)(r:n*t<2 ^ 128):Q9 prog 176 [num n,Qb t] (Zp (num (n*t))):=by
 obtain⟨b,a,q,rfl⟩:∃b a,a<18446744073709551616/\n=b*18446744073709551616+a:=⟨n / 18446744073709551616,n % 18446744073709551616,YI _ π,ω⟩;have v:b<18446744073709551616:=ω;have l:(b*18446744073709551616+a) / 18446744073709551616=b:=ω;have k:(b*18446744073709551616+a) % 18446744073709551616=a:=ω;obtain⟨A,i⟩:∃A,A=a*t:=⟨_,rfl⟩;obtain⟨B,f⟩:∃B,B=b*t:=⟨_,rfl⟩;have j:(b*18446744073709551616+a)*t=B*18446744073709551616+A:=by rw[i,f,Kh,Ss,E6 18446744073709551616 t,<- Ss]
 rw[j]at r;rw[j];have g:=xg a t q ω;rw[<- i]at g;have d:=Qwc t ω;have c:=Qgz b t (by rw[<- f];omega);rw[<- f]at c;have e:=Pg (A / 18446744073709551616) B ω;have p:(B*18446744073709551616+A) / 18446744073709551616=A / 18446744073709551616+B:=by rw[Sn,Nat.add_mul_div_right _ _ π]
 have o:(B*18446744073709551616+A) % 18446744073709551616=A % 18446744073709551616:=by rw[Sn,Nat.add_mul_mod_self_right]
 refine ZH 0 func176 ntmps176 results176 λm w h=>?_;simp only[go_sem];simp only[l,k,d,go_sem];refine JG h wR ?_ g ?_
 .simp only[go_sem,d,c,e]
 apply Qh h;simp only[go_sem,d,c,e];simp only[l,k,d,c,e,go_sem,p,o]
def QhD(n t k:Nat)(h:n<2 ^ 111)(b:t<=65536)(f:k<18446744073709551616):Q9 prog 186 [num n,Qb t,u64 k] (Zp (QZ (decide (65536*k<n*t)))):=by
 have i:n*t<=n*65536:=E7 n b;have g:=Uo (n*t) (65536*k) ω ω;have e:decide ((if n*t<65536*k then (-1:Int) else if n*t=65536*k then 0 else 1) > 0)=decide (65536*k<n*t):=by
  rw[wx];simp only[Xd];(repeat' split)<;>omega
 have d:=xg 65536 k π f;refine ZH 0 func186 ntmps186 results186 λc w a=>?_;simp only[go_sem];apply JW a Qtp (Qwd n t ω b ω);apply Za a;refine JG a wR ?_ d ?_
 .simp only[go_sem,YZ]
 apply Qh a;simp only[go_sem,YZ];refine JG a Tu ?_ g ?_
 .simp only[go_sem,e]
 apply Qh a;simp only[go_sem,e]
@[go_sem] def kls(l:List Qq):D:=.imm 14 l.length (Qq.rows l)
def Qwe(h:List Ob):QI prog 59 h [] (λd b=>d=.ptr (h.length+1) 0 0 0/\b=h++[QR .i64 0 [],⟨.one,0,1,1,λ_=>[.mref h.length 0]⟩]):=by
 refine Q3 func59 ntmps59 results59 λa w c e=>?_;simp only[go_sem,Qa]
structure Ah {α:Type} [Inhabited α] (enc:α->List D) (L:List α) (off:Nat) (row:Nat->List D):Prop where
 at_:∀i,i<L.length->row (off+i)=enc (L.getD i default)
 all:∀i,i<off+L.length->∃a,row i=enc a
def QHw{c:Type}[Inhabited c](f:Nat)(e:c->List D)(L:List c)(d:D)(h:List Ob):Prop:=∃g a b,d=.ref 0 g a L.length/\h=[⟨.arr,g,f,a+L.length,b⟩]/\Ah e L a b
def Ah.nil{c:Type}[Inhabited c]{b:c->List D}{a:Nat->List D}:Ah b [] 0 a:=⟨λi hi=>absurd hi (Xc i),λi hi=>absurd hi (Xc i)⟩
def Ah.app{g:Type}[Inhabited g]{a}{L:List g}{c}{b}(h:Ah a L c b)(x:g){r2}(j:r2 0=a x):Ah a (L++[x]) 0 (KB L.length c b r2):=by
 have e:∀i,i<L.length+1->KB L.length c b r2 i=a ((L++[x]).getD i default):=λi d=>by
  by_cases f:i<L.length
  .rw[A4 f,h.at_ i f];simp[f,JY f]
  .have:i=L.length:=ω;subst this;rw[xM (Qs _),YJ,j];simp
 exact⟨λi d=>by simp at d;rw[JM];exact e i d,λi d=>by simp at d;exact⟨_,e i d⟩⟩
def Ah.upto{e:Type}[Inhabited e]{d}{L:List e}{c}{b}(h:Ah d L c b){k}(f:∀a,Ct k (d a)=true):∀i,i<c+L.length->Ct k (b i)=true:=λi g=>by
 obtain⟨a,j⟩:=h.all i g;rw[j];exact f a
end Go.Fg.X
namespace Go.Fg.X
open Go.Proofs Go.Fg
open Go.Proofs.Tryz
structure Nc where
 a:Nat
 d:Nat
 b:Nat
instance:Inhabited Nc:=⟨⟨0,0,0⟩⟩
@[go_sem] def Nc.cells(c:Nc):List D:=[u64 c.a,u64 c.d,u64 c.b]
def Nc.rows(l:List Nc):Nat->List D:=λi=>(l.getD i default).cells
@[go_sem] theorem Nc.xY(l:List Nc)(i):Nc.rows l i=(l.getD i default).cells:=rfl
@[go_sem] def Yl(l:List Nc):D:=.imm 3 l.length (Nc.rows l)
@[go_sem] def Ej(c:Nc):D:=.agg c.cells
def Nc.of(c:Nc):Int:=J5 c.a c.d c.b
def Nc.Lt(c:Nc):Prop:=c.a<18446744073709551616/\c.d<18446744073709551616/\c.b<18446744073709551616
def QhE(F:List Ob)(f a:Nat)(b:List D)(g:Nc->Nat):Prop:=∀(h:List Ob) (c:Nc),c.Lt->VE F h->Zf prog f h (Jm a b [Ej c]) (λd=>d=num (g c))
def xh(g:Nc->Nat)(s:Nat)(c:Nc):Nat:=if c.of=0 then s else s+g c
def BA(g:Nc->Nat)(l:List Nc):Nat:=l.foldl (xh g) 0
def iA{g}{M}(a:∀c:Nc,c.Lt->g c<=M):∀{l:List Nc} {s:Nat},(∀c∈l,c.Lt)->l.foldl (xh g) s<=s+l.length*M
 | [],s,_=>σ
 | c::l,s,h=>by
  have e:=a c (h c σ);have d:=iA a (l:=l) (s:=xh g s c) λx hx=>h x (by simp[hx]);have b:xh g s c<=s+M:=by unfold xh;split<;>omega
  simp only[xE,VQ,Kh,Ll];omega
def MI(n:Nat):Ob:=⟨.one,0,2,1,λ_=>[u64 (n / 18446744073709551616),u64 (n % 18446744073709551616)]⟩
structure OvI (l:List Nc) (so:D) (g:Nc->Nat) (F:List Ob) (i:Nat) (s:St):Prop where
 ex:∃G:List Ob,s=⟨[(1,so),(4,.ptr F.length 0 0 0),(5,.ptr (F.length+1) 0 0 0),(8,Yl l),(9,Qb l.length),(10,Qb i)],F++(MI 0::MI ((l.take i).foldl (xh g) 0)::G)⟩
def QhF(h:List Ob)(l:List Nc)(Q:l.length<1048576)(v:∀c∈l,c.Lt)(j:D)(f t:Nat)(B:List D)(I:Qn prog f)(M:JU j=some (f,t,B))(g:Nc->Nat)(m:∀c:Nc,c.Lt->g c<=2 ^ 97)
  (H:QhE (h.map Ob.ro) f t B g):Zf prog 178 h [Yl l,j] (λd=>d=num (BA g l)):=by
 refine ZD func178 ntmps178 results178 λE w P F K U b=>?_;simp only[go_sem,Qa];refine Js (OvI l j g F) l.length (s0:=⟨[(1,j),(4,.ptr F.length 0 0 0),(5,.ptr (F.length+1) 0 0 0),(8,Yl l),(9,Qb l.length),(10,Qb 0)],F++[MI 0,MI 0]⟩) QQ ⟨[],rfl⟩ ?_;rintro i s u ⟨G,rfl⟩;have y:=Vl (show i<4611686018427387904 from ω);obtain⟨S,k⟩:∃S,S=(l.take i).foldl (xh g) 0:=⟨_,rfl⟩;have O:S<=2 ^ 117:=by
  have T:=iA m (l:=l.take i) (s:=0) λx hx=>v x (List.mem_of_mem_take hx);have L:(l.take i).length<=1048576:=ξ;have R:=Vm (2 ^ 97) L;rw[k];omega
 rw[<- k];apply QM b;first|refine yX u (λa=>?_) (λa=>?_)|refine yY u (λa=>?_) (λa=>?_)
 .obtain⟨c,p⟩:∃c,c=l.getD i default:=⟨_,rfl⟩;have z:c.Lt:=v c (by rw[p,Q7,QT a];exact zF a);have C:(l.take (i+1)).foldl (xh g) 0=xh g S c:=by
   rw[GR,QT a,Option.toList_some,jY,k,p,Q7,QT a];rfl
  simp only[go_sem,Qa,a,<- p];apply qy b Mf (iw c.a c.d c.b);apply QM b;by_cases o:c.of=0
  .have q:J5 c.a c.d c.b=0:=o;have r:xh g S c=S:=by rw[xh,Qf o]
   simp only[go_sem,Qa,zS q,bne];refine⟨a,_,QH.frame (fr':=[(1,j),(4,.ptr F.length 0 0 0),(5,.ptr (F.length+1) 0 0 0),(8,Yl l),(9,Qb l.length),(10,Qb (i+1:Nat))]) (by simp only[go_sem,y]),⟨_,by rw[C,r]⟩⟩
  .have q:J5 c.a c.d c.b≠0:=o;have r:xh g S c=S+g c:=by rw[xh,Qe o]
   have N:=m c z;simp only[go_sem,Qa,XM q,bne];have n:=HW S (g c) ω ω;rw[jq (by omega:S+g c<2 ^ 128)]at n;apply QB b o08;simp only[go_sem,Qa,MI];refine OU b I M ?_ (H _ c z (by rw[<- K];exact⟨_,rfl⟩)) rfl λd2 J=>?_
   .simp only[go_sem];exact DZ _
   subst J;apply Yx b;apply Pa b Hz n;apply Yx b;refine⟨a,_,QH.frame (fr':=[(1,j),(4,.ptr F.length 0 0 0),(5,.ptr (F.length+1) 0 0 0),(8,Yl l),(9,Qb l.length),(10,Qb (i+1:Nat))]) (by simp only[go_sem,y]),⟨G++[⟨.one,0,3,1,λ_=>c.cells⟩],?_⟩⟩;rw[C,r];rfl
 .subst a;rw[YH]at k;have e:BA g l=S:=k.symm;rw[e];apply Qh b;simp only[go_sem,Qa,MI];exact⟨_,rfl⟩
def Qwg(h)(c:Nc)(e:c.Lt):Zf prog 179 h [Ej c] (λd=>d=num c.b):=by
 refine ZD func179 ntmps179 results179 λb w f F g i a=>?_;simp only[go_sem,Qa];apply qy a pR (ij c.b e.2.2);apply QM a;exact⟨_,rfl⟩
def Qwh(l:List Nc)(e:l.length<1048576)(a:∀c∈l,c.Lt):Q9 prog 137 [Yl l] (Zp (num (BA (λc=>c.b) l))):=by
 refine ZH 0 func137 ntmps137 results137 λd w b=>?_;simp only[go_sem];refine X0 b QfL rfl ?_ (QhF _ l e a (.raw (.func (.func 179) ⟨[]⟩ ⟨[]⟩)) 179 0 [] Qtq rfl (λc=>c.b) (λc h=>by have:=h.2.2;omega) (λg c a _=>Qwg g c a)) rfl λd2 f=>?_
 .simp only[go_sem]
 subst f;exact zT b
def Qwi(h:List Ob)(f t)(i:t<18446744073709551616)(c:Nc)(a:(h.map Ob.ro)[f]? = some ⟨.WI,0,1,1,λ_=>[u64 t]⟩):Zf prog 182 h [Ej c,.ptr f 0 0 0] (λd=>d=num (Jk c.a c.d c.b t)):=by
 refine ZD func182 ntmps182 results182 λg w k F j l e=>?_;rw[<- j]at a;have b:=Qc a;simp only[go_sem,Qa,a,b];refine JG e QsE ?_ (Qv9 c.a c.d c.b t i) ?_
 .simp only[go_sem,Qa,a,b]
 apply Qh e;simp only[go_sem,Qa,a,b];exact⟨_,rfl⟩
def Qwj(l:List Nc)(t)(a:t<18446744073709551616)(f:l.length<1048576)(b:∀c∈l,c.Lt):Q9 prog 139 [Yl l,u64 t] (Zp (num (BA (λc=>Jk c.a c.d c.b t) l))):=by
 have j:∀c:Nc,c.Lt->Jk c.a c.d c.b t<=2 ^ 97:=λc _=>by have:=Qv8 c.a c.d c.b t a;omega
 refine ZH 0 func139 ntmps139 results139 λe w d=>?_;simp only[go_sem];have h:QhE (([⟨.one,0,1,1,λ_=>[u64 t]⟩,MI 0]:List Ob).map Ob.ro) 182 0 [.ptr 0 0 0 0] (λc=>Jk c.a c.d c.b t):=λk c b hx=>by
  obtain⟨g,rfl⟩:=hx;exact Qwi _ 0 t a c rfl
 refine X0 d QfL rfl ?_ (QhF _ l f b (.clo 182 0 [.ptr 0 0 0 0]) 182 0 [.ptr 0 0 0 0] Qtt rfl (λc=>Jk c.a c.d c.b t) j h) rfl λd2 i=>?_
 .simp only[go_sem]
 subst i;exact zT d
@[go_sem] theorem Ln.QHy(l:Ln):l.cells=[u64 l.x,u64 (l.y / 18446744073709551616),u64 (l.y % 18446744073709551616),u64 l.m]:=rfl
def zZ(c:Nc)(x y:Nat):Rn:=
 if c.of=2\/c.of=4 then ⟨⟨0,0,0⟩,⟨x,y,c.b⟩,false⟩
 else if c.of=3 then ⟨⟨x,y,c.a⟩,⟨x,(y+(c.a - c.b)*c.d) % 2 ^ 128,c.b⟩,true⟩
 else ⟨⟨0,0,0⟩,⟨x,y,0⟩,false⟩
def Vw(c:Nc)(x y:Nat):Rn:=
 if c.of=4 then ⟨⟨0,0,0⟩,⟨(x+c.d) % 18446744073709551616,y,c.b⟩,false⟩ else zZ c x y
def Ln.vP:(⟨0,0,0⟩:Ln).Ok:=⟨π,π,π⟩
def iB{c:Nc}(d:c.Lt){x y:Nat}(a:x<18446744073709551616)(b:y<2 ^ 128):(zZ c x y).Ok:=by
 unfold zZ;split
 .exact⟨Ln.vP,a,b,d.2.2⟩
 .split
  .exact⟨⟨a,b,d.1⟩,a,YI _ π,d.2.2⟩
  .exact⟨Ln.vP,a,b,(by decide:(0:Nat)<18446744073709551616)⟩
def MJ{c:Nc}(b:c.Lt){x y:Nat}(d:x<18446744073709551616)(a:y<2 ^ 128):(Vw c x y).Ok:=by
 unfold Vw;split
 .exact⟨Ln.vP,YI _ π,a,b.2.2⟩
 .exact iB b d a
def Us{c:Nc}(e:c.of=2\/c.of=4)(x y):zZ c x y=⟨⟨0,0,0⟩,⟨x,y,c.b⟩,false⟩:=Qf e
def td{c:Nc}(e:c.of=3)(x y):zZ c x y=⟨⟨x,y,c.a⟩,⟨x,(y+(c.a - c.b)*c.d) % 2 ^ 128,c.b⟩,true⟩:=by unfold zZ;rw[Qe ω,Qf e]
def QhI{c:Nc}(e:c.of=0\/c.of=1)(x y):zZ c x y=⟨⟨0,0,0⟩,⟨x,y,0⟩,false⟩:=by unfold zZ;rw[Qe ω,Qe ω]
def QhJ(c:Nc)(d:c.Lt)(x y:Nat)(h:x<18446744073709551616)(g:y<2 ^ 128):Q9 prog 209 [Ej c,u64 x,num y] (Zp (.agg (zZ c x y).cells)):=by
 refine ZH 0 func209 ntmps209 results209 λf w a=>?_;simp only[go_sem];apply JW a DU (PC c.a c.d c.b);apply Za a;rcases Qv7 c.a c.d c.b with e|e|e|e|e
 .rw[QhI (.inl e)];simp only[go_sem,e]
 .rw[QhI (.inr e)];simp only[go_sem,e]
 .rw[Us (.inl e)];simp only[go_sem,e]
 .have i:c.b<c.a/\c.a<=4294967295:=by
   unfold J5 at e
   repeat' (split at e)
   all_goals first|omega|contradiction
  have b:=TU c.a c.b ω ω;rw[td e];simp only[go_sem,e,b];apply QB a o12;simp only[go_sem,b];refine KJ a wR ?_ (xg (c.a - c.b) c.d ω d.2.1) ?_
  .simp only[go_sem,b]
  apply Zd a;simp only[go_sem,b];refine KJ a Hz ?_ (HW y ((c.a - c.b)*c.d) g (Qhv ω d.2.1)) ?_
  .simp only[go_sem,b]
  apply Zd a;simp only[go_sem,b]
 .rw[Us (.inr e)];simp only[go_sem,e]
def tf(c:Nc)(h:c.Lt)(x y:Nat)(g:x<18446744073709551616)(f:y<2 ^ 128):Q9 prog 208 [Ej c,u64 x,num y] (Zp (.agg (Vw c x y).cells)):=by
 refine ZH 0 func208 ntmps208 results208 λd w a=>?_;simp only[go_sem];apply JW a QfQ (QhJ c h x y g f);apply Za a;apply JW a DU (PC c.a c.d c.b);apply Za a;by_cases e:c.of=4
 .have b:J5 c.a c.d c.b=4:=e;rw[Us (.inr e),show Vw c x y=⟨⟨0,0,0⟩,⟨(x+c.d) % 18446744073709551616,y,c.b⟩,false⟩ from Qf e];simp only[go_sem,b,Mu]
 .have b:(J5 c.a c.d c.b==4)=false:=by simpa[Nc.of] using e
  rw[show Vw c x y=zZ c x y from Qe e];simp only[go_sem,b]
def Y0(a b:Rn):Rn:=⟨if a.b then zY a.f b.f else ⟨0,0,0⟩,zY a.t b.t,a.b⟩
def th{a b:Rn}(d:a.Ok)(c:b.Ok):(Y0 a b).Ok:=by
 refine⟨?_,QhB d.t c.t⟩;unfold Y0;dsimp only;split
 .exact QhB d.f c.f
 .exact Ln.vP
def iC(a b:Rn)(d:a.Ok)(e:b.Ok):Q9 prog 207 [.agg a.cells,.agg b.cells] (Zp (.agg (Y0 a b).cells)):=by
 refine ZH 0 func207 ntmps207 results207 λf w c=>?_;simp only[go_sem];apply QB c [0,1,2,3,5,6,1004,7,1008,1009];simp only[go_sem];apply VR c QfY (QhC a.t b.t d.t e.t);apply WY c;cases h:a.b with
 | true=>
  rw[show Y0 a b=⟨zY a.f b.f,zY a.t b.t,true⟩ from by unfold Y0;rw[h];rfl];simp only[go_sem,h];apply JW c QfY (QhC a.f b.f d.f e.f);exact zT c
 | false=>
  rw[show Y0 a b=⟨⟨0,0,0⟩,zY a.t b.t,false⟩ from by unfold Y0;rw[h];rfl];simp only[go_sem,h]
def KD(r:Rn)(w:Nat):Nat:=if r.b then max (W3 r.f w) (W3 r.t w) else W3 r.t w
def Ut(r)(w):KD r w<=never:=by
 have:=Qhy r.f w;have:=Qhy r.t w;unfold KD;split<;>omega
def Qwk(r:Rn):Q9 prog 251 [.agg r.cells] (Zp (.agg ((if r.b then r.f else r.t).cells++r.t.cells))):=by
 refine ZH 0 func251 ntmps251 results251 λa w b=>?_;simp only[go_sem];cases h:r.b with
 | true=>
  simp only[go_sem,h]
 | false=>
  simp only[go_sem,h]
def BB(a:Nat):max (0:Int) (a:Int)=(a:Int):=ω
def iE(r:Rn)(f:r.Ok)(v)(e:v<2 ^ 128):Q9 prog 219 [.agg r.cells,num v] (Zp (u64 (KD r v))):=by
 have d:∀a b:Nat,max (a:Int) (b:Int)=((max a b:Nat):Int):=λa b=>ω;refine ZH 0 func219 ntmps219 results219 λg w c=>?_;simp only[go_sem];apply JW c QtM (Qwk r);apply Za c;cases h:r.b with
 | true=>
  rw[show KD r v=max (W3 r.f v) (W3 r.t v) from by unfold KD;rw[h];rfl];simp only[go_sem,h];refine x8 2 ?_;apply Za c;refine JG c gj ?_ (iz r.f f.f v e) ?_
  .simp only[go_sem,BB]
  apply Qh c;simp only[go_sem,BB];apply Qh c;simp only[go_sem,BB];apply Qh c;simp only[go_sem,BB];refine JG c gj ?_ (iz r.t f.t v e) ?_
  .simp only[go_sem,BB,d]
  apply Qh c;simp only[go_sem,BB,d];apply Qh c;simp only[go_sem,d];apply Qh c;simp only[go_sem,d]
 | false=>
  rw[show KD r v=max (W3 r.t v) (W3 r.t v) from by unfold KD;rw[h];simp];simp only[go_sem,h];refine x8 2 ?_;apply Za c;refine JG c gj ?_ (iz r.t f.t v e) ?_
  .simp only[go_sem,BB]
  apply Qh c;simp only[go_sem,BB];apply Qh c;simp only[go_sem,BB];apply Qh c;simp only[go_sem,BB];refine JG c gj ?_ (iz r.t f.t v e) ?_
  .simp only[go_sem,BB,d]
  apply Qh c;simp only[go_sem,BB,d];apply Qh c;simp only[go_sem,d];apply Qh c;simp only[go_sem,d]
def V5(n:Nat):Nat:=n % 18446744073709551616
def MK(n):V5 n<18446744073709551616:=YI _ π
def QhK(a b:Nat):IntKind.u64.wrap ((a:Int)+(b:Int))=((V5 (a+b):Nat):Int):=Mu a b
structure Du where
 has:Bool
 dl:Rn
 rd:Rn
 QA:Nat
 KN:Nat
 dead:Nat
deriving DecidableEq
instance:Inhabited Du:=⟨⟨false,default,default,0,0,0⟩⟩
structure Du.Ok (d:Du):Prop where
 dl:d.dl.Ok
 rd:d.rd.Ok
 QA:d.QA<18446744073709551616
 KN:d.KN<=never
 dead:d.dead<=never
@[go_sem] def Du.cells(d:Du):List D:=[QZ d.has,u64 d.dl.f.x,u64 (d.dl.f.y / 18446744073709551616),u64 (d.dl.f.y % 18446744073709551616),u64 d.dl.f.m,u64 d.dl.t.x,u64 (d.dl.t.y / 18446744073709551616),u64 (d.dl.t.y % 18446744073709551616),u64 d.dl.t.m,QZ d.dl.b,
 u64 d.rd.f.x,u64 (d.rd.f.y / 18446744073709551616),u64 (d.rd.f.y % 18446744073709551616),u64 d.rd.f.m,u64 d.rd.t.x,u64 (d.rd.t.y / 18446744073709551616),u64 (d.rd.t.y % 18446744073709551616),u64 d.rd.t.m,QZ d.rd.b,u64 d.QA,u64 d.KN,u64 d.dead]
def W6(l:Du)(a:Int):Du:=
 if 0<a then ⟨l.has,l.dl,l.rd,l.QA,KD l.rd (l.QA*65536),KD l.dl (V5 (l.QA+a.toNat)*65536)⟩ else ⟨l.has,l.dl,l.rd,l.QA,never,never⟩
def tm{l:Du}(d:l.dl.Ok)(c:l.rd.Ok)(b:l.QA<18446744073709551616)(a:Int):(W6 l a).Ok:=by
 unfold W6;split
 .exact⟨d,c,b,Ut _ _,Ut _ _⟩
 .exact⟨d,c,b,Qs _,Qs _⟩
def iF(n)(c:n<18446744073709551616):Q9 prog 206 [u64 n] (Zp (num (n*65536))):=by
 refine ZH 0 func206 ntmps206 results206 λb w a=>?_;simp only[go_sem];apply JW a wR (xg n 65536 c π);exact zT a
def ML{n:Int}(b:0<=n)(a:n<18446744073709551616):IntKind.u64.wrap n=((n.toNat:Nat):Int):=κ
def tn(l:Du)(g:l.dl.Ok)(f:l.rd.Ok)(d:l.QA<18446744073709551616)(a:Int)(k:a<9223372036854775808):Q9 prog 210 [.agg l.cells,Qb a] (Zp (.agg (W6 l a).cells)):=by
 have e:∀n:Nat,n<18446744073709551616->n*65536<2 ^ 128:=λn j=>ω;by_cases h:0<a
 .have d1:=Q1 h;have i:=ML (n:=a) ω ω;rw[show W6 l a=⟨l.has,l.dl,l.rd,l.QA,KD l.rd (l.QA*65536),KD l.dl (V5 (l.QA+a.toNat)*65536)⟩ from Qf h];refine ZH 0 func210 ntmps210 results210 λc w b=>?_;simp only[go_sem];simp only[go_sem,d1];apply QB b [0,1,2,3,1004,1005,6,1007];simp only[go_sem];apply VR b fX (iF l.QA d);apply WY b;apply VR b fZ (iE l.rd f (l.QA*65536) (e _ d));apply WY b;apply QB b [0,1,2,3,4,5,6,1007,1008,9,1010];simp only[go_sem,i,QhK];apply VR b fX (iF (V5 (l.QA+a.toNat)) (MK _));apply WY b;apply VR b fZ (iE l.dl g (V5 (l.QA+a.toNat)*65536) (e _ (MK _)));exact O8 b
 .have d1:=QU h;rw[show W6 l a=⟨l.has,l.dl,l.rd,l.QA,never,never⟩ from Qe h];refine ZH 0 func210 ntmps210 results210 λc w b=>?_;simp only[go_sem];simp only[go_sem,d1];rfl
def kF(l:Du)(b a:Int):Du:=W6 { l with QA:=V5 (l.QA+b.toNat) } a
def Qwl(l:Du)(g:l.dl.Ok)(f:l.rd.Ok)(m:l.QA<18446744073709551616)(b a:Int)(j:0<=b)(k:b<9223372036854775808)(e:a<9223372036854775808):Q9 prog 220 [.agg l.cells,Qb b,Qb a] (Zp (.agg (kF l b a).cells)):=by
 have i:max b 0=b:=ω;have h:=ML (n:=b) j ω;refine ZH 0 func220 ntmps220 results220 λd w c=>?_;simp only[go_sem];simp only[go_sem,i,h,QhK];apply JW c p9 (tn { l with QA:=V5 (l.QA+b.toNat) } g f (MK _) a e);apply Za c;rfl
def Qwm(l:Du)(g:l.dl.Ok)(f:l.rd.Ok)(e:l.QA<18446744073709551616)(a:Int)(d:a<9223372036854775808):Q9 prog 222 [.agg l.cells,Qb a] (Zp (.agg (W6 l a).cells)):=by
 refine ZH 0 func222 ntmps222 results222 λc w b=>?_;simp only[go_sem];apply JW b p9 (tn l g f e a d);exact zT b
structure Qu where
 l:List Pk
 ci:Nat
 co:Nat
 cd:Nat
 bi:Nat
 bo:Nat
 bd:Nat
instance:Inhabited Qu:=⟨⟨[],0,0,0,0,0,0⟩⟩
def Ym:List Pk->Nat
 | []=>0
 | p::l=>p.len.toNat+Ym l
def Qwn(l m):Ym (l++m)=Ym l+Ym m:=by
 induction l with
 | nil=>simp[Ym]
 | cons p l a=>simp only[YG,Ym,a];omega
def PD(p:Pk):Prop:=1<=p.len/\p.len<=16384
def QhL{l:List Pk}(h:∀p∈l,PD p):Ym l<=16384*l.length:=by
 induction l with
 | nil=>simp[Ym]
 | cons p l a=>
  have c:=h p σ;have d:=a λq b=>h q (by simp[b]);unfold PD at c;simp only[Ym,VQ];omega
@[go_sem] def Qu.Uu(q:Qu):List D:=[u64 q.ci,u64 q.co,u64 q.cd,u64 q.bi,u64 q.bo,u64 q.bd]
def vQ(b a:Int)(q:Qu)(p:Pk):Bool:=decide (a<Ym q.l+p.len) || decide ((q.l.length:Int)=b)
def X2(b a:Int)(q:Qu)(p:Pk):Qu:=
 if vQ b a q p then { q with cd:=V5 (q.cd+1),bd:=V5 (q.bd+p.len.toNat) }
 else { q with l:=q.l++[p],ci:=V5 (q.ci+1),bi:=V5 (q.bi+p.len.toNat) }
def Kv(q:Qu):Qu:={ q with l:=q.l.tail,co:=V5 (q.co+1),bo:=V5 (q.bo+(q.l.headD default).len.toNat) }
def Xk(q:Qu):Int:=match q.l with|[]=>0|p::_=>p.len
@[go_sem] def PE(r:Nat)(a:Int)(q:Qu):Ob:=⟨.one,0,9,1,λ_=>[.ptr r 0 0 0,Qb a,Qb (Ym q.l:Nat),u64 q.ci,u64 q.co,u64 q.cd,u64 q.bi,u64 q.bo,u64 q.bd]⟩
structure tq (S:Nat->Prop) (h:List Ob) (p r Z4:Nat) (room:Int) (q:Qu):Prop where
 o:h[p]? = some (PE r room q)
 ring:vO (λl=>S l/\l≠p) h r Z4 q.l
 rp:r≠p
 sp:S p
 lens:∀x∈q.l,PD x
 r0:0<=room
 r1:room<=1048576
def xi(S:Nat->Prop)(h:List Ob)(p b:Nat)(a:Int)(q:Qu):Prop:=∃r,tq S h p r b a q
def vO.step{S S'}{h h':List Ob}{r b}{L}(e:∀l,l<h.length->S l->S' l/\h'[l]? = h[l]?):vO S h r b L->vO S' h' r b L:=λ⟨a,f,c,T⟩=>
 ⟨a,f,c,((e _ (Qc T.o) T.sr).2).trans T.o,((e _ (Qc T.ao) T.sa).2).trans T.ao,T.ra,T.fl,T.len,T.Ag,T.rows,T.lens,(e _ (Qc T.o) T.sr).1,(e _ (Qc T.ao) T.sa).1⟩
def vO.tt{S}{h}{r b}{L:List Pk}:vO S h r b L->L.length<=b/\b<=64:=λ⟨a,f,c,T⟩=>⟨T.len,T.Ag⟩
def xi.step{S S'}{h h':List Ob}{p d}{a}{q}(e:∀l,l<h.length->S l->S' l/\h'[l]? = h[l]?):xi S h p d a q->xi S' h' p d a q:=λ⟨r,Q⟩=>
 ⟨r,((e _ (Qc Q.o) Q.sp).2).trans Q.o,Q.ring.step λl b ⟨c,f⟩=>⟨⟨(e l b c).1,f⟩,(e l b c).2⟩,Q.rp,(e _ (Qc Q.o) Q.sp).1,Q.lens,Q.r0,Q.r1⟩
structure Qwo (h:List Ob) (p r Z4:Nat) (room:Int) (q:Qu):Prop where
 o:(h.map Ob.ro)[p]? = some (PE r room q).ro
 ring:Un h r Z4 q.l
def PF(h:List Ob)(p b:Nat)(a:Int)(q:Qu):Prop:=∃r,Qwo h p r b a q
def xi.toR{S}{h}{p b}{a}{q}:xi S h p b a q->PF h p b a q:=λ⟨r,Q⟩=>⟨r,Jc Q.o,Q.ring.toR⟩
def PF.more{h h':List Ob}{p b}{a}{q}(e:∀(l:Nat) (o:Ob),(h.map Ob.ro)[l]? = some o->(h'.map Ob.ro)[l]? = some o):PF h p b a q->PF h' p b a q:=λ⟨r,Q⟩=>⟨r,e _ _ Q.o,Q.ring.more e⟩
section
variable {h:List Ob}{p Z4:Nat}{room:Int}{q:Qu}(Q:PF h p Z4 room q)
include Q
theorem PG:Zf prog 120 h [.ptr p 0 0 0] (λd=>d=Qb q.l.length):=by
 obtain⟨r,b,j⟩:=Q;refine ZD func120 ntmps120 results120 λi w l F e m c=>?_;rw[<- e]at b;have g:=Qc b;simp only[go_sem,Qa,b,g];obtain⟨a,f,k,T⟩:=j;apply JD c Qs7 (QvQ (T.more (KV e)));apply Qh c;simp only[go_sem,Qa,b,g];all_goals exact Wo
theorem Qwp:Zf prog 90 h [.ptr p 0 0 0] (λd=>d=.agg q.Uu):=by
 obtain⟨r,a,g⟩:=Q;refine ZD func90 ntmps90 results90 λb w f F c j i=>?_;rw[<- c]at a;have e:=Qc a;simp only[go_sem,Qa,a,e];all_goals exact Wo
theorem QhM:Zf prog 221 h [.ptr p 0 0 0] (λd=>d=Qb (Xk q)):=by
 have k:=Q;obtain⟨r,b,n⟩:=Q;obtain⟨a,f,s,T⟩:=n;unfold Xk;cases e:q.l with
 | nil=>
  refine ZD func221 ntmps221 results221 λj w m F i o g=>?_;rw[<- i]at b;have c:=Qc b;simp only[go_sem,Qa,b,c];refine Xg g OY ?_ (PG (k.more (KV i))) ?_
  .simp only[go_sem,Qa,b,c,e]
  apply Qh g;simp only[go_sem,Qa,b,c,e];all_goals exact Wo
 | cons x l=>
  have d0:(((l.length+1:Nat):Int)==0)=false:=ξ;refine ZD func221 ntmps221 results221 λj w m F i o g=>?_;rw[<- i]at b;have c:=Qc b;simp only[go_sem,Qa,b,c];refine Xg g OY ?_ (PG (k.more (KV i))) ?_
  .simp only[go_sem,Qa,b,c,e,d0]
  apply Qh g;simp only[go_sem,Qa,b,c,e,d0];refine Xg g Qf2 ?_ (Qhn (T.more (KV i)) 0 (by rw[e];simp)) ?_
  .simp only[go_sem,Qa,b,c,e]
  apply Qh g;simp only[go_sem,Qa,b,c,e];all_goals exact Wo
end
def Qwq(h:List Ob)(n:Nat)(a:Int)(k:1<=n)(j:n<=64)(s:1<=a)(r:a<=1048576):QI prog 121 h [Qb n,Qb a] (λd e=>d=.tup [.ptr (h.length+2) 0 0 0,Qb 0]/\xi (λl=>h.length<=l) e (h.length+2) n a ⟨[],0,0,0,0,0,0⟩/\∃g,e=h++g/\g.length=3):=by
 have d1:decide (a<1)=false:=QU ω;have d2:decide (1048576<a)=false:=QU ω;refine Q3 func121 ntmps121 results121 λf w p c=>?_;simp only[go_sem,Qa];refine VY c Qs8 rfl ?_ (QvU h n k j) rfl λd h i=>?_
 .simp only[go_sem,Qa,d1,d2]
 obtain⟨rfl,R,g,rfl,b⟩:=i;apply Qh c;simp only[go_sem,Qa,d1,d2];have q:(h++g).length=h.length+2:=by rw[ZT,b]
 refine⟨by rw[b],⟨h.length+1,?_,?_,ω,by show h.length<=_;omega,σ,ω,ω⟩,g++[PE (h.length+1) a ⟨[],0,0,0,0,0,0⟩],by rfl,by simp[b]⟩
 .rw[show h.length+2=(h++g).length by omega];rw[<- Wu,Kw (Qs _),YJ];rfl
 .rw[<- Wu];refine R.step λl m o=>⟨⟨o,ω⟩,JY m⟩
def MM(a b:Nat):IntKind.u64.wrap ((a:Int)+(b:Int))=((V5 (a+b):Nat):Int):=Mu a b
def MN(a:Nat):IntKind.u64.wrap ((a:Int)+1)=((V5 (a+1):Nat):Int):=Mu a 1
def tq.fin{S}{h H:List Ob}{p r f}{a}{q q':Qu}(Q:tq S h p r f a q)(g:H[p]? = some (PE r a q'))(d:∀l,l<h.length->l≠p->H[l]? = h[l]?)(i:h.length<=H.length)(e:q'.l=q.l):xi S H p f a q'/\Step S h H:=
 ⟨⟨r,g,by rw[e];exact Q.ring.step λl c b=>⟨b,d l c b.2⟩,Q.rp,Q.sp,by rw[e];exact Q.lens,Q.r0,Q.r1⟩,⟨λl c b=>d l c λj=>b (j▸Q.sp),i⟩⟩
def Qwr{S}{h}{p i}{a}{q}(Q:xi S h p i a q)(x)(C:PD x):
  QI prog 124 h [.ptr p 0 0 0,.agg x.cells] (λd J=>d=Qb (if vQ i a q x then 30 else 0)/\xi S J p i a (X2 i a q x)/\Step S h J):=by
 obtain⟨r,Q⟩:=Q;have m:=Q.o;have I:=Q.ring;have U:=C.1;have Y:=C.2;have R:=I.tt;have T:=QhL Q.lens;have V:=Q.r0;have W:=Q.r1;have d1:decide (x.len<1)=false:=QU ω;have d2:decide (16384<x.len)=false:=QU ω;have L:IntKind.i64.wrap (a - (Ym q.l:Nat))=a - (Ym q.l:Nat):=wrap64 ω ω;have z:IntKind.u64.wrap x.len=((x.len.toNat:Nat):Int):=ML ω ω;by_cases M:a<Ym q.l+x.len
 .have d3:decide (a - (Ym q.l:Nat)<x.len)=true:=Q1 ω;have s:vQ i a q x=true:=by unfold vQ;rw[Q1 M];rfl
  unfold X2;rw[s];refine Q3 func124 ntmps124 results124 λu w O k=>?_;have j:=Qc m;simp only[go_sem,Qa,m,j,d1,d2];apply QB k [0,1,2,3,4,5,6,7,8,9,10,11,12,13,14,15,16,17,1018,19,20,21];simp only[go_sem,Qa,m,j,L,d3,MN];apply QB k i5;simp only[go_sem,Qa,m,j,z,Qy j,MM];refine Q.fin (q':={ q with cd:=V5 (q.cd+1),bd:=V5 (q.bd+x.len.toNat) }) ?_ ?_ ?_ rfl
  .rw[QJ (by simpa using j),Qy j];rfl
  .intro l f b;rw[QJ (by simpa using f),Qm (Q8 b)]
  .simp
 .have d3:decide (a - (Ym q.l:Nat)<x.len)=false:=QU ω;refine Q3 func124 ntmps124 results124 λu w O k=>?_;have j:=Qc m;simp only[go_sem,Qa,m,j,d1,d2];apply VD [18] k [0,1,2,3,4,5,6,7,8,9,10,11,12,13,14,15,16,17,1018,19,20,21] [];simp only[go_sem,Qa,m,j,L,d3];have P:=I.step (S':=λl=>S l/\l≠p/\l<h.length) (h':=h++[⟨.one,0,6,1,λ_=>x.cells⟩]) λl f b=>⟨⟨b.1,b.2,f⟩,QJ f⟩;refine xH1 k Qs9 (QvR P x) λd E N=>?_;obtain⟨rfl,B,v⟩:=N;have H:h.length<E.length:=by have:=v.len;simp only[ZT,qT]at this;omega
  have n:E[p]? = some (PE r a q):=(v.keep p ξ (λh=>h.2.1 rfl)).trans ((QJ j).trans m);have g:=Qc n;have t:=(v.keep h.length σ (λh=>by have:=h.2.2;omega)).trans (Vq rfl);have keep:∀l,l<h.length->¬ S l->E[l]? = h[l]? := λl f b=>(v.keep l ξ (λh=>b h.1)).trans (QJ f);have F:p≠h.length:=ω;apply Zd k;by_cases c:q.l.length=i
  .have s:vQ i a q x=true:=by unfold vQ;rw[Q1 (show (q.l.length:Int)=(i:Int) from ω)];simp
   rw[Qf c]at B;simp only[go_sem,Qa,Qf c,n,g,t,MN];apply QB k i5;simp only[go_sem,Qa,n,g,z,Qy g,MM,t,H,Qm F];unfold X2;rw[s];refine⟨by rfl,⟨r,?_,B.step λl f b=>⟨⟨b.1,b.2.1⟩,?_⟩,Q.rp,Q.sp,Q.lens,Q.r0,Q.r1⟩,⟨λl f b=>?_,?_⟩⟩
   .rw[Qy g];rfl
   .rw[Qm (Q8 b.2.1)]
   .rw[Qm (λ(e:p=l)=>b (e▸Q.sp))];exact keep l f b
   .simp;omega
  .have s:vQ i a q x=false:=by unfold vQ;rw[QU M,QU (show ¬ (q.l.length:Int)=(i:Int) from ω)];rfl
   have K:IntKind.i64.wrap (((Ym q.l:Nat):Int)+x.len)=((Ym (q.l++[x]):Nat):Int):=by
    rw[Qwn];simp only[Ym];rw[wrap64 ω ω];omega
   rw[Qe c]at B;simp only[go_sem,Qa,Qe c,n,g,t,MN];apply QB k Eq;simp only[go_sem,Qa,n,g,z,Qy g,MM,MN,t,H,Qm F,K];apply QB k i5;simp only[go_sem,Qa,n,g,z,Qy g,MM,MN,t,H,Qm F,K];unfold X2;rw[s];refine⟨by rfl,⟨r,?_,B.step λl f b=>⟨⟨b.1,b.2.1⟩,?_⟩,Q.rp,Q.sp,?_,Q.r0,Q.r1⟩,⟨λl f b=>?_,?_⟩⟩
   .rw[Qy g];rfl
   .rw[Qm (Q8 b.2.1)]
   .intro y o;rcases QX.1 o with o|o
    .exact Q.lens y o
    .rw[Xq.1 o];exact C
   .rw[Qm (λ(e:p=l)=>b (e▸Q.sp))];exact keep l f b
   .simp;omega
def Qws{S}{h}{p J}{b}{q:Qu}{x}{L}(Q:xi S h p J b q)(g:q.l=x::L):
  QI prog 162 h [.ptr p 0 0 0] (λd E=>d=.tup [.agg x.cells,Qb 0]/\xi S E p J b (Kv q)/\Step S h E):=by
 obtain⟨r,Q⟩:=Q;have o:=Q.o;have z:=Q.ring;have hx:=Q.lens x (by rw[g];simp);have W:=hx.1;have Y:=hx.2;have R:=z.tt;have T:=QhL Q.lens;have I:IntKind.u64.wrap x.len=((x.len.toNat:Nat):Int):=ML ω ω;have H:IntKind.i64.wrap (((Ym q.l:Nat):Int) - x.len)=((Ym L:Nat):Int):=by
  have V:Ym q.l=x.len.toNat+Ym L:=by rw[g];rfl
  rw[wrap64 ω ω];omega
 refine Q3 func162 ntmps162 results162 λN w U n=>?_;have s:=Qc o;simp only[go_sem,Qa,o,s];have u:=z.step (S':=λl=>S l/\l≠p/\l<h.length) (h':=h++[⟨.one,0,6,1,λ_=>(default:Pk).cells⟩]) λl c a=>⟨⟨a.1,a.2,c⟩,QJ c⟩;rw[g]at u;refine DX n QtC (QvS u) λd j O=>?_;obtain⟨rfl,P,m⟩:=O;have M:h.length<j.length:=by have:=m.len;simp only[ZT,qT]at this;omega
 have k:j[p]? = some (PE r b q):=(m.keep p ξ (λh=>h.2.1 rfl)).trans ((QJ s).trans o);have i:=Qc k;have t:=(m.keep h.length σ (λh=>by have:=h.2.2;omega)).trans (Vq rfl);have keep:∀l,l<h.length->¬ S l->j[l]? = h[l]? := λl c a=>(m.keep l ξ (λh=>a h.1)).trans (QJ c);have K:p≠h.length:=ω;apply Qh n;simp only[go_sem,Qa,k,i,t];apply QB n Eq;simp only[go_sem,Qa,k,i,I,Qy i,MM,MN,t,M,Qm K,H];apply QB n i5;simp only[go_sem,Qa,k,i,I,Qy,MM,MN,t,M,Qm K,H];have f:∀(A B C:Ob) (l:Nat),l<h.length->(((j.set p A).set h.length B)++[C])[l]? = (j.set p A)[l]? := λA B C l c=>by
  rw[QJ ξ,Qm ω]
 have F:(Kv q).l=L:=by simp[Kv,g]
 refine⟨⟨r,?_,?_,Q.rp,Q.sp,?_,Q.r0,Q.r1⟩,⟨λl c a=>?_,?_⟩⟩
 .rw[f _ _ _ _ s,Qy i,Kv,g];rfl
 .rw[F];refine P.step λl c a=>⟨⟨a.1,a.2.1⟩,?_⟩;rw[f _ _ _ _ a.2.2,Qm (Q8 a.2.1)]
 .intro y v;rw[F]at v;exact Q.lens y (by rw[g];simp[v])
 .rw[f _ _ _ _ c,Qm (λ(e:p=l)=>a (e▸Q.sp))];exact keep l c a
 .simp;omega
def z6(l:Du)(b a:Rn):Rn:=if l.has then Y0 b a else a
def iH{l}{b a:Rn}(d:b.Ok)(c:a.Ok):(z6 l b a).Ok:=by unfold z6;split;exact th d c;exact c
def Xl(l:Du)(c:Nc)(a:Nat)(b:Int):Du:=
 W6 ⟨true,z6 l l.dl (Vw c a (l.QA*65536)),z6 l l.rd (zZ c a (l.QA*65536)),l.QA,l.KN,l.dead⟩ b
section
variable {h:List Ob}{b1 b2 b3:Nat}(l:Du)(h3:l.QA<18446744073709551616)(c:Nc)(hc:c.Lt)(now:Nat)(hn:now<18446744073709551616)
 (o1:(h.map Ob.ro)[b1]? = some ⟨.WI,0,3,1,λ_=>c.cells⟩) (o2:(h.map Ob.ro)[b2]? = some ⟨.WI,0,1,1,λ_=>[u64 now]⟩) (o3:(h.map Ob.ro)[b3]? = some ⟨.WI,0,22,1,λ_=>l.cells⟩)
include h3 hc hn o1 o2 o3
theorem Qwt(g:Rn)(k:g.Ok):Zf prog 205 h [.agg g.cells,.raw (.func (.func 208) #[] #[]),.ptr b1 0 0 0,.ptr b2 0 0 0,.ptr b3 0 0 0] (λd=>d=.agg (z6 l g (Vw c now (l.QA*65536))).cells):=by
 have m:=MJ hc hn (y:=l.QA*65536) ω;refine ZD func205 ntmps205 results205 λj w o F n p f=>?_;rw[<- n]at o1 o2 o3;have e:=Qc o1;have b:=Qc o2;have a:=Qc o3;simp only[go_sem,Qa,o1,e,o2,b,o3,a];apply QB f [0,1,2,3,4,1005,1006,1007,1008];simp only[go_sem,Qa,o1,e,o2,b,o3,a];refine KJ f fX ?_ (iF l.QA h3) ?_
 .simp only[go_sem,Qa,o1,e,o2,b,o3,a]
 apply Zd f;simp only[go_sem,Qa,o1,e,o2,b,o3,a];refine KJ f p8 ?_ (tf c hc now (l.QA*65536) hn ω) ?_
 .simp only[go_sem,Qa,o1,e,o2,b,o3,a]
 apply Zd f;simp only[go_sem,Qa,o1,e,o2,b,o3,a];unfold z6;cases i:l.has with
 | true=>
  simp only[go_sem,Qa,i];refine JG f fY ?_ (iC g _ k m) ?_
  .simp only[go_sem,Qa,o1,e,o2,b,o3,a]
  apply Qh f;simp only[go_sem,Qa,o1,e,o2,b,o3,a];all_goals exact Wo
 | false=>
  simp only[go_sem,Qa,i];all_goals exact Wo
theorem Qwu(g:Rn)(k:g.Ok):Zf prog 205 h [.agg g.cells,.raw (.func (.func 209) #[] #[]),.ptr b1 0 0 0,.ptr b2 0 0 0,.ptr b3 0 0 0] (λd=>d=.agg (z6 l g (zZ c now (l.QA*65536))).cells):=by
 have m:=iB hc hn (y:=l.QA*65536) ω;refine ZD func205 ntmps205 results205 λj w o F n p f=>?_;rw[<- n]at o1 o2 o3;have e:=Qc o1;have b:=Qc o2;have a:=Qc o3;simp only[go_sem,Qa,o1,e,o2,b,o3,a];apply QB f [0,1,2,3,4,1005,1006,1007,1008];simp only[go_sem,Qa,o1,e,o2,b,o3,a];refine KJ f fX ?_ (iF l.QA h3) ?_
 .simp only[go_sem,Qa,o1,e,o2,b,o3,a]
 apply Zd f;simp only[go_sem,Qa,o1,e,o2,b,o3,a];refine KJ f QfQ ?_ (QhJ c hc now (l.QA*65536) hn ω) ?_
 .simp only[go_sem,Qa,o1,e,o2,b,o3,a]
 apply Zd f;simp only[go_sem,Qa,o1,e,o2,b,o3,a];unfold z6;cases i:l.has with
 | true=>
  simp only[go_sem,Qa,i];refine JG f fY ?_ (iC g _ k m) ?_
  .simp only[go_sem,Qa,o1,e,o2,b,o3,a]
  apply Qh f;simp only[go_sem,Qa,o1,e,o2,b,o3,a];all_goals exact Wo
 | false=>
  simp only[go_sem,Qa,i];all_goals exact Wo
end
def Qwv(l:Du)(e:l.Ok)(c:Nc)(g:c.Lt)(a)(f:a<18446744073709551616)(b:Int)(m:b<9223372036854775808):Q9 prog 155 [.agg l.cells,Ej c,u64 a,Qb b] (Zp (.agg (Xl l c a b).cells)):=by
 have h:=e.QA;have j:=MJ g f (y:=l.QA*65536) ω;have k:=iB g f (y:=l.QA*65536) ω;refine ZH 0 func155 ntmps155 results155 λi w d=>?_;simp only[go_sem];apply QB d [0,1,2,4,5,6,1003,8,1007,1009,10,1011];simp only[go_sem];apply WZ d QfP (Qwt (b1:=1) (b2:=2) (b3:=0) l h c g a f rfl rfl rfl l.dl e.dl);apply Yx d;apply WZ d QfP (Qwu (b1:=1) (b2:=2) (b3:=0) l h c g a f rfl rfl rfl l.rd e.rd);apply Yx d;apply JW d p9 (tn ⟨true,z6 l l.dl (Vw c a (l.QA*65536)),z6 l l.rd (zZ c a (l.QA*65536)),l.QA,l.KN,l.dead⟩ (iH e.dl j) (iH e.rd k) h b m);apply Za d;rfl
def tv{l:Du}(d:l.Ok){c:Nc}(f:c.Lt){a}(e:a<18446744073709551616)(b:Int):(Xl l c a b).Ok:=by
 have g:=d.QA;exact tm (l:=⟨true,z6 l l.dl (Vw c a (l.QA*65536)),z6 l l.rd (zZ c a (l.QA*65536)),l.QA,l.KN,l.dead⟩) (iH d.dl (MJ f e (y:=l.QA*65536) ω)) (iH d.rd (iB f e (y:=l.QA*65536) ω)) g b
structure Sh where
 has:Bool
 run:Rn
 time:Nat
deriving DecidableEq
instance:Inhabited Sh:=⟨⟨false,default,0⟩⟩
structure Sh.Ok (x:Sh):Prop where
 run:x.run.Ok
 time:x.time<18446744073709551616
@[go_sem] def Sh.cells(x:Sh):List D:=[QZ x.has,u64 x.run.f.x,u64 (x.run.f.y / 18446744073709551616),u64 (x.run.f.y % 18446744073709551616),u64 x.run.f.m,u64 x.run.t.x,u64 (x.run.t.y / 18446744073709551616),u64 (x.run.t.y % 18446744073709551616),u64 x.run.t.m,QZ x.run.b,u64 x.time]
def F8(r:Rn)(a:Nat):Nat:=if r.b then max (max (KD r (a*65536)) r.t.x) r.f.x else max (KD r (a*65536)) r.t.x
def QhN{r:Rn}(h:r.Ok)(a):F8 r a<18446744073709551616:=by
 have b:=Ut r (a*65536);have d:=h.t.x;have c:=h.f.x;unfold never at b;unfold F8;split<;>omega
def PI(a b:Nat):max (a:Int) (b:Int)=((max a b:Nat):Int):=ω
def Uv(a:Nat):max (0:Int) (a:Int)=(a:Int):=ω
def Qww{h:List Ob}{b g}{a}(o:(h.map Ob.ro)[b]? = some ⟨.AU,g,1,2,a⟩)(x y)(i:a 0=[u64 x])(f:a 1=[u64 y]):Zf prog 248 h [.ref b g 0 2] (λd=>d=u64 (max x y)):=by
 refine ZD func248 ntmps248 results248 λj w l F k m c=>?_;rw[<- k]at o;have e:=Qc o;simp only[go_sem,Qa,o,e];refine x8 2 ?_;apply Qh c;simp only[go_sem,Qa,o,e,i,f];apply Qh c;simp only[go_sem,Qa,o,e,i,f,Uv,PI];apply Qh c;simp only[go_sem,Qa,o,e,i,f,Uv,PI];apply QM c;all_goals exact Wo
def Qwx{h:List Ob}{b g}{a}(o:(h.map Ob.ro)[b]? = some ⟨.AU,g,1,3,a⟩)(x y z)(j:a 0=[u64 x])(i:a 1=[u64 y])(f:a 2=[u64 z]):Zf prog 248 h [.ref b g 0 3] (λd=>d=u64 (max (max x y) z)):=by
 refine ZD func248 ntmps248 results248 λk w m F l n c=>?_;rw[<- l]at o;have e:=Qc o;simp only[go_sem,Qa,o,e];refine x8 3 ?_;apply Qh c;simp only[go_sem,Qa,o,e,j,i,f];apply Qh c;simp only[go_sem,Qa,o,e,j,i,f,Uv,PI];apply Qh c;simp only[go_sem,Qa,o,e,j,i,f,Uv,PI];apply Qh c;simp only[go_sem,Qa,o,e,j,i,f,Uv,PI];apply QM c;all_goals exact Wo
def tx(r:Rn)(f:r.Ok)(a)(e:a<18446744073709551616):Q9 prog 214 [.agg r.cells,u64 a] (Zp (u64 (F8 r a))):=by
 unfold F8;refine ZH 0 func214 ntmps214 results214 λd w c=>?_;simp only[go_sem];apply QB c [0,1,1002,1003,4];simp only[go_sem];apply VR c wR (xg a 65536 e π);apply WY c;apply VR c fZ (iE r f (a*65536) ω);apply WY c;cases h:r.b with
 | true=>
  simp only[go_sem,h];apply JD c Qf1 (Qwx (b:=1) (g:=0) (by exact rfl) (KD r (a*65536)) r.t.x r.f.x (by exact rfl) (by exact rfl) (by exact rfl));exact Mj c
 | false=>
  simp only[go_sem,h];apply JD c Qf1 (Qww (b:=1) (g:=0) (by exact rfl) (KD r (a*65536)) r.t.x (by exact rfl) (by exact rfl));exact Mj c
def MO(x:Sh)(c:Nc)(b a:Nat):Sh:=
 ⟨true,if x.has then Y0 x.run (Vw c b (a*65536)) else Vw c b (a*65536),F8 (if x.has then Y0 x.run (Vw c b (a*65536)) else Vw c b (a*65536)) a⟩
def H4(x:Sh)(a:Nat):Sh:=if x.has then ⟨true,x.run,F8 x.run a⟩ else x
def tz{x:Sh}(e:x.Ok){c:Nc}(g:c.Lt){b a}(f:b<18446744073709551616)(h:a<18446744073709551616):(if x.has then Y0 x.run (Vw c b (a*65536)) else Vw c b (a*65536)).Ok:=by
 have d:=MJ g f (y:=a*65536) ω;split
 .exact th e.run d
 .exact d
def Qwy{x:Sh}(d:x.Ok){c:Nc}(g:c.Lt){b a:Nat}(f:b<18446744073709551616)(e:a<18446744073709551616):(MO x c b a).Ok:=
 ⟨tz d g f e,QhN (tz d g f e) _⟩
def Qwz{x:Sh}(b:x.Ok)(a:Nat):(H4 x a).Ok:=by
 unfold H4;split
 .exact⟨b.run,QhN b.run _⟩
 .exact b
def QwA(x:Sh)(i:x.Ok)(c:Nc)(g:c.Lt)(b a:Nat)(f:b<18446744073709551616)(e:a<18446744073709551616):Q9 prog 158 [.agg x.cells,Ej c,u64 b,u64 a] (Zp (.agg (MO x c b a).cells)):=by
 have k:=MJ g f (y:=a*65536) ω;have j:=tz i g f e;refine ZH 0 func158 ntmps158 results158 λl w d=>?_;simp only[go_sem];apply QB d [0,1,2,1003,1004,1005,1006];simp only[go_sem];apply VR d wR (xg a 65536 e π);apply WY d;apply VR d p8 (tf c g b (a*65536) f ω);apply WY d;cases h:x.has with
 | true=>
  rw[h,Qf rfl]at j;rw[show MO x c b a=⟨true,Y0 x.run (Vw c b (a*65536)),F8 (Y0 x.run (Vw c b (a*65536))) a⟩ from by unfold MO;rw[h];rfl];simp only[go_sem,h];apply JW d fY (iC x.run _ i.run k);apply Za d;apply QB d [0,1,2,1003,4,1005];simp only[go_sem];apply VR d rf (tx (Y0 x.run (Vw c b (a*65536))) j a e);exact O8 d
 | false=>
  rw[show MO x c b a=⟨true,Vw c b (a*65536),F8 (Vw c b (a*65536)) a⟩ from by unfold MO;rw[h];rfl];simp only[go_sem,h];apply QB d [0,1,2,1003,4,1005];simp only[go_sem];apply VR d rf (tx (Vw c b (a*65536)) k a e);exact O8 d
def QwB(x:Sh)(d:x.Ok)(a:Nat)(e:a<18446744073709551616):Q9 prog 163 [.agg x.cells,u64 a] (Zp (.agg (H4 x a).cells)):=by
 cases h:x.has with
 | true=>
  rw[show H4 x a=⟨true,x.run,F8 x.run a⟩ from by unfold H4;rw[h];rfl];refine ZH 0 func163 ntmps163 results163 λb w c=>?_;simp only[go_sem];simp only[go_sem,h];apply JW c rf (tx x.run d.run a e);exact zT c
 | false=>
  rw[show H4 x a=x from by unfold H4;rw[h];rfl];refine ZH 0 func163 ntmps163 results163 λb w c=>?_;simp only[go_sem];simp only[go_sem,h]
structure Cp where
 has:Bool
 run:Rn
 fit:Nat
deriving DecidableEq
instance:Inhabited Cp:=⟨⟨false,default,0⟩⟩
structure Cp.Ok (x:Cp):Prop where
 run:x.run.Ok
 fit:x.fit<=never
@[go_sem] def Cp.cells(x:Cp):List D:=[QZ x.has,u64 x.run.f.x,u64 (x.run.f.y / 18446744073709551616),u64 (x.run.f.y % 18446744073709551616),u64 x.run.f.m,u64 x.run.t.x,u64 (x.run.t.y / 18446744073709551616),u64 (x.run.t.y % 18446744073709551616),u64 x.run.t.m,QZ x.run.b,u64 x.fit]
def tA:Cp:=⟨false,⟨⟨0,0,0⟩,⟨0,0,0⟩,false⟩,0⟩
def El(x:Cp)(a:Nat):Cp:=if x.has then ⟨true,x.run,KD x.run (a*65536)⟩ else x
def F9(x:Cp)(c:Nc)(b a:Nat):Cp:=
 if c.of=0\/c.of=1 then tA
 else ⟨true,if x.has then Y0 x.run (Vw c b (a*65536)) else Vw c b (a*65536),KD (if x.has then Y0 x.run (Vw c b (a*65536)) else Vw c b (a*65536)) (a*65536)⟩
def QwC:tA.Ok:=⟨⟨Ln.vP,Ln.vP⟩,Z9 _⟩
def QwD{x:Cp}(b:x.Ok)(a:Nat):(El x a).Ok:=by
 unfold El;split
 .exact⟨b.run,Ut _ _⟩
 .exact b
def QhO{x:Cp}(e:x.Ok){c:Nc}(g:c.Lt){b a}(f:b<18446744073709551616)(h:a<18446744073709551616):(if x.has then Y0 x.run (Vw c b (a*65536)) else Vw c b (a*65536)).Ok:=by
 have d:=MJ g f (y:=a*65536) ω;split
 .exact th e.run d
 .exact d
def QwE{x:Cp}(d:x.Ok){c:Nc}(g:c.Lt){b a:Nat}(f:b<18446744073709551616)(e:a<18446744073709551616):(F9 x c b a).Ok:=by
 unfold F9;split
 .exact QwC
 .exact⟨QhO d g f e,Ut _ _⟩
def tB(x:Cp)(d:x.Ok)(a:Nat)(e:a<18446744073709551616):Q9 prog 164 [.agg x.cells,u64 a] (Zp (.agg (El x a).cells)):=by
 cases h:x.has with
 | true=>
  rw[show El x a=⟨true,x.run,KD x.run (a*65536)⟩ from by unfold El;rw[h];rfl];refine ZH 0 func164 ntmps164 results164 λc w b=>?_;simp only[go_sem];simp only[go_sem,h];apply QB b [0,1,2,1003,1004,5,1006];simp only[go_sem];apply VR b wR (xg a 65536 e π);apply WY b;apply VR b fZ (iE x.run d.run (a*65536) ω);exact O8 b
 | false=>
  rw[show El x a=x from by unfold El;rw[h];rfl];refine ZH 0 func164 ntmps164 results164 λc w b=>?_;simp only[go_sem];simp only[go_sem,h]
def QwF(x:Cp)(k:x.Ok)(c:Nc)(j:c.Lt)(b a:Nat)(i:b<18446744073709551616)(g:a<18446744073709551616):Q9 prog 159 [.agg x.cells,Ej c,u64 b,u64 a] (Zp (.agg (F9 x c b a).cells)):=by
 have m:=MJ j i (y:=a*65536) ω;have l:=QhO k j i g;refine ZH 0 func159 ntmps159 results159 λn w d=>?_;simp only[go_sem];apply QB d [0,1,2,1003,1004,1005,1006];simp only[go_sem];apply VR d wR (xg a 65536 g π);apply WY d;apply VR d p8 (tf c j b (a*65536) i ω);apply WY d;apply JW d DU (PC c.a c.d c.b);apply Za d;by_cases e:c.of=0\/c.of=1
 .rw[show F9 x c b a=tA from Qf e];have f:J5 c.a c.d c.b=0\/J5 c.a c.d c.b=1:=e;rcases f with f|f
  .simp only[go_sem,f];rfl
  .simp only[go_sem,f];rfl
 .have d0:(J5 c.a c.d c.b==0)=false:=by rw[j5];exact λh=>e (.inl h)
  have d1:(J5 c.a c.d c.b==1)=false:=by rw[j5];exact λh=>e (.inr h)
  cases h:x.has with
  | true=>
   rw[h,Qf rfl]at l;rw[show F9 x c b a=El ⟨true,Y0 x.run (Vw c b (a*65536)),0⟩ a from by unfold F9;rw[Qe e,h];rfl];simp only[go_sem,d0,d1,h];apply JW d fY (iC x.run _ k.run m);apply Za d;apply JW d pZ (tB ⟨true,Y0 x.run (Vw c b (a*65536)),0⟩ ⟨l,Z9 _⟩ a g);exact zT d
  | false=>
   rw[show F9 x c b a=El ⟨true,Vw c b (a*65536),0⟩ a from by unfold F9;rw[Qe e,h];rfl];simp only[go_sem,d0,d1,h];apply JW d pZ (tB ⟨true,Vw c b (a*65536),0⟩ ⟨m,Z9 _⟩ a g);exact zT d
def QhP(a b):Q9 prog 133 [u64 a,u64 b] (Zp (u64 (max a b))):=by
 refine ZH 0 func133 ntmps133 results133 λc w d=>?_;simp only[go_sem];simp only[go_sem,PI]
def tC:Go.Shelf.Ren:=⟨fun|5=>132|7=>173|n=>n,fun|23=>198|25=>3|3=>55|4=>4|20=>20|n=>n,fun|n=>n⟩
def QwG:SlLaysW.n5 prog tC:={
 mixed:=τ
 f5:=⟨f132.name,τ,func132.trans (congrArg some (show f132={ SlBodyW.n5 tC with name:=f132.name } from τ))⟩
 f7:=func173.trans (congrArg some (show f173=SlBodyW.n7 tC from τ))
 t4:=underlying4
 a4:=isAgg4
 z4:=sizeOf4
 v4:=zeroValue4
 t20:=underlying20
 a20:=isAgg20
 z20:=sizeOf20
 v20:=zeroValue20
 t23:=underlying198
 a23:=isAgg198
 z23:=sizeOf198
 v23:=zeroValue198 }
def QwH{h:List Ob}{m c}{f}(r:h[m]? = some (QR .i64 c f)):QI prog 132 h [.mref m 0] (λd J=>d=.mref h.length 0/\J=h++[QR .i64 c f]):=by
 intro Z u w g z t S R y B;match z,y with
 | [v],_=>
 obtain⟨o,p,b,s,I,H,U,F⟩:=GW (B 0 σ);rw[r]at s;cases s;have C:=F rfl;subst C;have P:v=.map (some b):=H.2;subst P;obtain⟨_,x⟩:=R.at_ m _ b 0 r I;obtain⟨V,O,j,a,n,E,N,L,l,M⟩:=x.map rfl;refine(AnyW.maps_Clone QwG b j a w n).mono ?_;rintro e Q ⟨rfl,rfl⟩;have e:∀b,b<w.heap.size->(w.alloc (.map j a)).heap[b]? = w.heap[b]? := λb n=>xK w _ b n;have T:Go.Fg.Tr h g w (h++[QR .i64 c f]) (g++[some (w.heap.size,0)]) (w.alloc (.map j a)):=Go.Fg.Tr.push R e _ _ (by intro b q h;simp at h;omega);have K:g.length=h.length:=R.len;refine⟨.map (some w.heap.size),.mref h.length 0,h++[QR .i64 c f],g++[some (w.heap.size,0)],rfl,⟨rfl,rfl⟩,Zo.Sz R e _ (Qs _) t ?_,?_,T,Fj t _⟩
 .have hx:cu Z (h++[QR .i64 c f]) (g++[some (w.heap.size,0)]) (w.alloc (.map j a)) (QR .i64 c f) w.heap.size 0:=
   ⟨rfl,O,j,a,heap_alloc_new w _,E,N,L.tr T,λi e k=>⟨(l i e k).1,(l i e k).2.1.tr T,(l i e k).2.2.1.tr T,(l i e k).2.2.2.tr T⟩,M⟩
  exact hx
 .exact .mref _ _ (QR .i64 c f) (some (w.heap.size,0)) w.heap.size σ (by rw[<- K];simp) ⟨by simp[QR,Ww,Kd.ty],rfl⟩ (Qs _) (λ_=>rfl)
def QhQ{S}{h:List Ob}{t}{T}(R:WA S h t T):QI prog 85 h [.ptr t 0 0 0] (λd e=>d=.ptr (h.length+1) 0 0 0/\WA (λl=>h.length<=l) e (h.length+1) T/\∃g,e=h++g/\g.length=2):=by
 obtain⟨m,c,n,a,i,j,_,_⟩:=R;refine Q3 func85 ntmps85 results85 λf w p b=>?_;have o:=Qc a;simp only[go_sem,Qa,a,o];refine DX b QsY (QwH i) λd h k=>?_;obtain⟨rfl,rfl⟩:=k;apply QM b;exact⟨⟨h.length,c,n,Wm rfl,Vq rfl,j,by show h.length<=_;omega,Qs _⟩,_,rfl,rfl⟩
end Go.Fg.X
