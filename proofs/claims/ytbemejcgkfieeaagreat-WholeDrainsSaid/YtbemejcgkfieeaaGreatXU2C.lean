/- Contracts and laws on the way to the statement. No conditions. -/
import Derived.Test.YtbemejcgkfieeaaGreatSG8C
import Derived.Test.YtbemejcgkfieeaaGreatPR4C
import Derived.Test.YtbemejcgkfieeaaGreatCA2C
set_option maxRecDepth 100000
set_option maxHeartbeats 16000000
set_option linter.unusedVariables false
set_option linter.unusedSimpArgs false
set_option linter.unusedSectionVars false
set_option linter.defProp false
namespace Go.Fg.X
open Go.Proofs Go.Fg
open Go.Proofs.Tryz
def QAR{T}(e:Wv T){p j}:j∈KE T p↔∃c,Qy T j=some c/\c.parent=p:=by
 unfold KE;constructor
 .intro h;obtain⟨c,d,rfl⟩:=Jl.1 h;obtain⟨b,a⟩:=JH.1 d;exact⟨c,(VH e).2 ⟨b,rfl⟩,by simpa using a⟩
 .rintro⟨c,d,b⟩;obtain⟨a,rfl⟩:=(VH e).1 d;exact Jl.2 ⟨c,JH.2 ⟨a,by simpa using b⟩,rfl⟩
def QAS(M:Qo)(j a:Int)(h:a≠j):Qk (XX M j).N a=Qk M.N a:=Qah (f:=λn:Nd=>{ n with sh:=y5 }) (λ_=>rfl) a h
def QAT{c:Type}{a:Nd->c}(d:∀n:Nd,a { n with sh:=y5 }=a n)(M:Qo)(j b:Int):(Qk (XX M j).N b).map a=(Qk M.N b).map a:=
 Qag (f:=λn:Nd=>{ n with sh:=y5 }) (λ_=>rfl) d b
def Ie{b:Type}{key:Nd->b}(c:∀n:Nd,key { n with sh:=y5 }=key n)(M:Qo)(j a:Int):(Qk (JV M j).N a).map key=(Qk M.N a).map key:=by
 unfold JV;split
 .exact Ab (QAT c) _ (Wy M j) a
 .rfl
def lz(M)(j:Int):(JV M j).KT=(Wy M j).KT:=by
 unfold JV;split
 .exact(iI _ (Wy M j)).2.2.1
 .rfl
def Qj3{M:Qo}(I:Qz M){j:Int}{c}(h:Qy M.T j=some c):(QD M j).c=c:=by
 obtain⟨n,b,a⟩:=I.Uu h;unfold QD;rw[b];exact a
def Qj4{M:Qo}(I:Qz M)(j p:Int)(x:It):x∈(JV M j).KT p↔x∈M.KT p/\x.ki≠j:=by
 rw[lz];unfold Wy;dsimp only;split
 .rename_i e;rw[U2,e]
 .rename_i e;refine⟨λh=>⟨h,λd=>?_⟩,(·.1)⟩;obtain⟨c,a,b⟩:=I.vN p x h;rw[d]at a;rw[Qj3 I a]at e;exact e b.symm
def Qan:∀(l:List Int) {M:Qo},Qz M->∀(p:Int) (x:It),x∈(l.foldl JV M).KT p↔x∈M.KT p/\x.ki ∉ l
 | [],M,I,p,x=>σ
 | j::l,M,I,p,x=>by
  rw[v8,Qan l (I.JV j) p x,Qj4 I];simp[and_assoc]
def QAU{M:Qo}(I:Qz M){j p:Int}{x:It}(h:x∈(JV M j).KT p):Qk (JV M j).N x.ki=Qk M.N x.ki:=by
 have a:=h;rw[lz]at a;obtain⟨hx,l⟩:=(Qj4 I j p x).1 h;obtain⟨c,i,g⟩:=I.vN p x hx;unfold JV;split
 .rename_i e;refine lj QAS _ (Wy M j) x.ki λd=>?_;obtain⟨k,b,f⟩:=(QAR I.tree.rising).1 d;rw[i]at b;cases b;unfold Wy at a;dsimp only at a;rw[Qe (g.symm.trans f),e]at a;cases a
 .rfl
def Qj5:∀(l:List Int) {M:Qo},Qz M->∀{p:Int} {x:It},x∈(l.foldl JV M).KT p->Qk (l.foldl JV M).N x.ki=Qk M.N x.ki
 | [],M,I,p,x,h=>rfl
 | j::l,M,I,p,x,h=>by
  have a:=Qj5 l (I.JV j) h;exact a.trans (QAU I (p:=p) ((Qan l (I.JV j) p x).1 h).1)
def Qj6:∀(l:List Int) {M:Qo},Qz M->∀(i:Int),(∀j∈l,(QD M j).c.parent≠i)->(l.foldl JV M).KT i=M.KT i
 | [],M,I,i,h=>rfl
 | j::l,M,I,i,h=>by
  have e:(JV M j).KT i=M.KT i:=by
   rw[lz];unfold Wy;dsimp only;rw[Qd (λe=>h j Kx e.symm)]
  rw[v8,Qj6 l (I.JV j) i,e];intro k c;have a:=Ie (key:=λn:Nd=>n.c.parent) (λ_=>rfl) M j k;have g:(QD (JV M j) k).c.parent=(QD M k).c.parent:=by
   unfold QD;cases b:Qk M.N k with
   | none=>
    rw[b,zE,mL]at a;rw[a]
   | some n=>
    rw[b]at a;obtain⟨m,f,d⟩:=X3.1 a;rw[f];exact d
  rw[g];exact h k (Ki _ c)
def QAV{M}(V:Wb M)(j):Wb (JV M j):=by
 have b:∀(l:List Int) (M:Qo),Wb M->Wb (l.foldl XX M):=by
  intro l;induction l with
  | nil=>intro M h;exact h
  | cons j l a=>
   intro M h;exact a _ (Ic (f:=λn:Nd=>{ n with sh:=y5 }) (λ_=>rfl) (λn _ h=>⟨h.Z7,h.du,QiV,h.cp,h.c⟩) h)
 unfold JV;split
 .exact b _ (Wy M j) V
 .exact V
def Qao:∀(l:List Int) {M:Qo},Wb M->Wb (l.foldl JV M)
 | [],M,h=>h
 | j::l,M,h=>Qao l (QAV h j)
def Qj7:∀(l:List Int) {M:Qo},Ge M->Ge (l.foldl JV M)
 | [],M,h=>h
 | j::l,M,h=>by
  refine Qj7 l ⟨?_,λp=>?_⟩
  .rw[(QiW M j).2.2.2.2.2];exact h.1
  .rw[lz];unfold Wy;dsimp only;split
   .exact Qab (h.2 _)
   .exact h.2 p
def QAW(a)(M:Qo)(j b:Int)(h:b≠j):Qk (VX a M j).N b=Qk M.N b:=Qah (f:=CS a) (λ_=>rfl) b h
def Qj8(b:Nat){d:Type}{a:Nd->d}(e:∀n:Nd,a (CS b n)=a n)(M:Qo)(j c:Int):(Qk (VX b M j).N c).map a=(Qk M.N c).map a:=
 Qag (f:=CS b) (λ_=>rfl) e c
def Qap(a):∀(l:List Int) {M:Qo},Wb M->Wb (l.foldl (VX a) M)
 | [],M,h=>h
 | j::l,M,h=>Qap a l (Ic (f:=CS a) (λ_=>rfl) (λn _ b=>Qi5 b a) h)
def Qj9(M:Qo)(a:Int)(b)(r:Bool)(j:Int):Qk (VS M a b r).N j=if j=a/\1<QJ (QD M a).c.rt then (Qk M.N j).map (λn=>{ n with du:=zk (QD M a) b r }) else Qk M.N j:=by
 unfold VS;by_cases h:1<QJ (QD M a).c.rt
 .rw[Qe h];dsimp only;rw[kB (f:=λn:Nd=>{ n with du:=zk (QD M a) b r }) (λ_=>rfl)];simp[h]
 .rw[Qd h,Qd (λe=>h e.2)]
def Inv.take{M:Qo}(I:Qz M)(V:Inv M){a}{n:Nd}(Y:Qk M.N a=some n)(hl:n.c.leaf=true)(hq:n.q.l≠[])(r):Inv (Xk M a r):=by
 have Jb:QD M a=n:=by unfold QD;rw[Y];rfl
 have WZ:=I.some Y;have xu:a∈up M.T a:=Ye I.tree WZ;have Re:∀j,Qk (Xj M a).N j=if j=a then (Qk M.N j).map (λn=>{ n with q:=Xu (QD M a).q }) else Qk M.N j:=λj=>
  kB (f:=λn:Nd=>{ n with q:=Xu (QD M a).q }) (λ_=>rfl) j
 unfold Xk;dsimp only;rw[Jb];generalize e9:(n.q.l.headD default).len=d;obtain⟨u,P⟩:∃u,u=(up M.T a).foldl (VX d.toNat) (Xj M a):=⟨_,rfl⟩;rw[<- P];have I2:Qz u:=by rw[P];exact Qz.iM _ (I.Xj a)
 obtain⟨b1,b2,b3,b4,b5,b6,b7⟩:=MQ d.toNat (up M.T a) (Xj M a);rw[<- P]at b1 b2 b3 b4 b5 b6 b7;have e3:∀j,j ∉ up M.T a->Qk u.N j=Qk M.N j:=λj b=>by
  rw[P,lj (QAW d.toNat) _ _ j b,Re,Qd (λe=>b (by rw[e];exact xu))]
 have ZG:∀j,(Qk u.N j).map (λn=>(n.c,n.q,n.du))=(Qk (Xj M a).N j).map λn=>(n.c,n.q,n.du):=λj=>by
  rw[P];exact Ab (key:=λn:Nd=>(n.c,n.q,n.du)) (λM j a=>Qj8 d.toNat (λ_=>rfl) M j a) _ _ j
 have e1:(Qk u.N a).map (λn=>(n.c,n.q,n.du))=some (n.c,Xu n.q,n.du):=by
  rw[ZG,Re,Qe rfl,Y,Jb];rfl
 have FK:∀j,j≠a->(Qk u.N j).map (λn=>(n.c,n.q,n.du))=(Qk M.N j).map λn=>(n.c,n.q,n.du):=λj b=>by
  rw[ZG,Re,Qd b]
 obtain⟨C,XS,e2⟩:=X3.1 e1;simp only[Ze]at e2;obtain⟨c2,q2,d2⟩:=e2;have c4:QD u a=C:=by unfold QD;rw[XS];rfl
 have MX:Wb u:=by
  rw[P];exact Qap _ _ (Ic (f:=λn:Nd=>{ n with q:=Xu (QD M a).q }) (λ_=>rfl) (λn _ h=>⟨h.Z7,h.du,h.sh,h.cp,h.c⟩) V.ok)
 obtain⟨c,T⟩:∃c,c=VS u a d r:=⟨_,rfl⟩;rw[<- T];have I3:Qz c:=by rw[T];exact I2.VS XS d r
 obtain⟨a1,a2,a3,a4,a5,a6⟩:=PY u a d r;rw[<- T]at a1 a2 a3 a4 a5 a6;have hF:∀j,Qk c.N j=if j=a/\1<QJ n.c.rt then (Qk u.N j).map (λn=>{ n with du:=zk C d r }) else Qk u.N j:=λj=>by
  rw[T,Qj9,c4,c2]
 have U4:∀j,j ∉ up M.T a->Qk c.N j=Qk M.N j:=λj b=>by
  rw[hF,Qd (λe=>b (by rw[e.1];exact xu)),e3 j b]
 have O:∀j,j≠a->Qk c.N j=Qk u.N j:=λj b=>by rw[hF,Qd (λe=>b e.1)]
 obtain⟨m,Q,yR,MW,gU⟩:∃m,Qk c.N a=some m/\m.c=n.c/\m.q=Xu n.q/\(1<QJ n.c.rt->m.du=zk C d r):=by
  rw[hF,XS];by_cases h:1<QJ n.c.rt
  .rw[Qe ⟨rfl,h⟩];exact⟨_,rfl,c2,q2,λ_=>rfl⟩
  .rw[Qd (λe=>h e.2)];exact⟨_,rfl,c2,q2,λe=>absurd e h⟩
 have c3:Wb c:=λj k b=>by
  rw[hF]at b;split at b
  .obtain⟨k0,t,rfl⟩:=X3.1 b;have v:=MX j k0 t;exact⟨v.Z7,ua (MX a C XS) d r,v.sh,v.cp,v.c⟩
  .exact MX j k b
 have U5:c.Lv=if 1<QJ n.c.rt then (if (Xu n.q).l=[] then Vy a (YB a (zk C d r).YC (zk C d r).dead M.Lv) else YB a (zk C d r).YC (zk C d r).dead M.Lv) else M.Lv:=by
  rw[T];unfold VS;rw[c4,c2,q2];split
  .dsimp only;rw[b7];rfl
  .exact b7
 have Bv:El c:=V.lv.at_ Q (λj b=>by
   rw[O j b];exact Ib (λk=>(k.1,k.2.1.l.isEmpty,k.2.2.YC,k.2.2.dead)) (FK j b)) (λy B=>by
   rw[U5];split
   .split
    .rw[U2,H9];exact⟨λh=>h.1.elim (λe=>absurd (congrArg It.ki e) B) (·.1),λh=>⟨.inr ⟨h,B⟩,B⟩⟩
    .rw[H9];exact⟨λh=>h.elim (λe=>absurd (congrArg It.ki e) B) (·.1),λh=>.inr ⟨h,B⟩⟩
   .exact Iff.rfl) λy B=>by
   rw[U5,yR,MW];by_cases h:1<QJ n.c.rt
   .rw[Qe h,gU h];split
    .rename_i he;rw[U2];exact⟨λe=>absurd B e.2,λe=>absurd he e.2.1⟩
    .rename_i he;rw[H9];exact⟨λe=>e.elim (λe=>⟨hl,he,h,e⟩) λe=>absurd B e.2,λe=>.inl e.2.2.2⟩
   .rw[Qd h];refine⟨λe=>?_,λe=>absurd e.2.2.1 h⟩;obtain⟨k,t,_,_,H,_⟩:=(V.lv y).1 e;rw[B,Y]at t;cases t;exact absurd H h
 have c1:Ge c:=⟨by
   rw[U5];split
   .split
    .exact Qab (lh V.zw.1)
    .exact lh V.zw.1
   .exact V.zw.1,λp=>by rw[a3,b3];exact V.zw.2 p⟩
 have c0:Em c:=λj k b Ek=>by
  by_cases e:j=a
  .subst e;rw[Q]at b;cases b;rw[yR,hl]at Ek;cases Ek
  .rw[O j e]at b;obtain⟨k0,t,v⟩:=Eo (FK j e).symm b;simp only[Ze]at v;rw[<- v.2.1];exact V.Bw j k0 t (by rw[v.1];exact Ek)
 have E:c.T=M.T:=by rw[a1,b1];rfl
 have S:c.A=M.A:=by rw[a2,b2];rfl
 have L:c.KT=M.KT:=by rw[a3,b3];rfl
 have Um:∀p x,x.ki ∉ up M.T a->(x∈c.KT p↔zq c p x):=V.kt.part L (λj _=>by unfold Kg;rw[E,S]) λj b=>by rw[U4 j b]
 have b9:∀j,j≠a->(Qk c.N j).map Aa=(Qk M.N j).map Aa:=λj b=>by
  rw[O j b];exact Ib (λk=>(k.1,k.2.1.l.isEmpty)) (FK j b)
 have J:(a∈M.A↔(Xu n.q).l≠[]/\1<QJ n.c.ls)->Inv (Wg c (up M.T a)):=λZa=>by
  rw[<- E];refine Part.settle _ a I3 rfl ?_;rw[E];refine⟨Bv,Um,λp x hx Gf=>?_,V.act.at_ Q b9 (λj _=>by rw[S]) ?_,c0,c1,c3⟩
  .rw[L]at hx;obtain⟨_,_,_,h,_⟩:=(V.kt p x).1 hx;show Jq c.T c.A x.ki=true;rw[E,S];exact h
  .rw[S,yR,MW,Za];exact⟨λh=>⟨hl,h⟩,λh=>h.2⟩
 have Wt:a∈M.A↔1<QJ n.c.ls:=by
  rw[V.act a,Y];constructor
  .rintro⟨k,t,_,_,H⟩;cases t;exact H
  .intro h;exact⟨n,rfl,hl,hq,h⟩
 by_cases lD:(Xu n.q).l=[]
 .rw[Qe lD];have e0:QD c a=m:=by unfold QD;rw[Q];rfl
  unfold W7;rw[e0,yR];by_cases W:1<QJ n.c.ls
  .rw[Qe W];have e8:=Wt.2 W;obtain⟨s,w⟩:∃s,s={ c with A:=Kf c.A a }:=⟨_,rfl⟩;have Z:Qz s:=by rw[w];exact I3.act (I3.Y0.off a)
   rw[<- w];obtain⟨U,hU⟩:∃U,U=Xs c.T (Kf c.A a) a:=⟨_,rfl⟩;rw[<- hU];obtain⟨g,o⟩:∃g,g=U.foldl JV s:=⟨_,rfl⟩;rw[<- o];have I4:Qz g:=by rw[o];exact Qz.UC _ Z
   obtain⟨s1,s2,s3,s4,s5,s6⟩:=HT U s;rw[<- o]at s1 s2 s3 s4 s5 s6;have HV:g.T=M.T:=by rw[s1,w];exact E
   have lF:g.A=Kf M.A a:=by rw[s2,w];dsimp only;rw[S]
   have K:s.N=c.N:=by rw[w]
   have a0:s.KT=M.KT:=by rw[w];exact L
   have N:∀j∈U,j∈up M.T a:=λj b=>by
    rw[hU,E]at b;exact List.takeWhile_subset _ b
   have WE:∀p x,x∈g.KT p↔x∈M.KT p/\x.ki ∉ U:=λp x=>by
    rw[o,Qan U Z p x,a0]
   have vD:∀j,Kg M j=true↔j∈up M.T a\/Kg g j=true:=λj=>by
    unfold Kg;rw[HV,lF];exact LZ e8 j
   have e7:∀j,j∈up M.T a->j ∉ U->Kg g j=true:=λj b F9=>by
    rw[hU,E,S]at F9;unfold Kg;rw[HV,lF];unfold Xs at F9;have lG:=List.takeWhile_append_dropWhile (p:=λi=>!Jq M.T (Kf M.A a) i) (l:=up M.T a);rw[<- lG]at b;rcases Q3.1 b with b|b
    .exact absurd b F9
    .cases R:(up M.T a).dropWhile (λi=>!Jq M.T (Kf M.A a) i) with
     | nil=>rw[R]at b;cases b
     | cons k c5=>
      have hk:Jq M.T (Kf M.A a) k=true:=by
       have:=List.head_dropWhile_not (λi=>!Jq M.T (Kf M.A a) i) (l:=up M.T a) (by rw[R];simp);simp only[R,List.head_cons]at this;simpa using this
      rw[R]at b lG;have e6:k∈up M.T a:=by rw[<- lG];simp
      obtain⟨ck,a7⟩:=EK.1 (Ht e6);have AF:c5=up M.T ck.parent:=QuA I.tree (lG.symm) a7;rcases QF.1 b with rfl|b
      .exact hk
      .refine LY I.tree hk ?_;rw[Vu I.tree a7,<- AF];exact Ki _ b
   have b0:∀p x,x.ki ∉ up M.T a->x∈g.KT p->zq g p x:=λp x hx h=>by
    have c7:=((WE p x).1 h).1;obtain⟨z,t,v,h3,H⟩:=(V.kt p x).1 c7;have U6:Qk g.N x.ki=some z:=by
     have F:Qk g.N x.ki=Qk s.N x.ki:=by
      rw[o];rw[o]at h;exact Qj5 U Z h
     rw[F,K,U4 _ hx,t]
    have a9:Kg g x.ki=true:=((vD _).1 h3).resolve_left hx;refine⟨z,U6,v,a9,?_⟩;have c9:g.KT x.ki=M.KT x.ki:=by
     rw[o,Qj6 U Z x.ki,a0];intro j b e;obtain⟨cj,a8⟩:=EK.1 (Ht (N j b));have e5:Qy s.T j=some cj:=by rw[w];dsimp only;rw[E];exact a8
     rw[Qj3 Z e5]at e;refine hx (up_sub I.tree (N j b) ?_);rw[Vu I.tree a8,e];exact Ki _ (Ye I.tree (I.some t))
    rw[Qae (n:=z) rfl (by rw[a9,h3]) c9];exact H
   rw[<- HV];refine Part.settle _ a I4 rfl ?_;rw[HV];refine⟨?_,λp x hx=>⟨b0 p x hx,λR=>?_⟩,λp x h Gf=>e7 _ Gf ((WE p x).1 h).2,?_,?_,?_,?_⟩
   .refine Bv.of (by rw[s6,w]) λj=>?_;rw[o,Ab (Ie (key:=Ia) (λ_=>rfl)) U s j,K]
   .obtain⟨k,t,v,h3,H⟩:=R;have xv:(Qk g.N x.ki).map (λn=>n.c)=(Qk c.N x.ki).map λn=>n.c:=by
     rw[o,Ab (Ie (key:=λn:Nd=>n.c) (λ_=>rfl)) U s x.ki,K]
    obtain⟨z,F,h6⟩:=Eo xv.symm t;rw[U4 _ hx]at F;have e4:(⟨z.sh.time,x.ki,W5 M x.ki z,x.ki⟩:It)∈M.KT p:=(V.kt p _).2 ⟨z,F,by rw[h6];exact v,(vD _).2 (.inr h3),rfl⟩;have b8:=(WE p _).2 ⟨e4,λc8=>hx (N _ c8)⟩;obtain⟨k2,g1,g2,g3,g4⟩:=b0 p ⟨z.sh.time,x.ki,W5 M x.ki z,x.ki⟩ hx b8;dsimp only at g1 g4;rw[t]at g1;cases g1;rw[<- g4]at H;rw[H];exact b8
   .refine V.act.at_ (id:=a) (m:=(QD g a)) ?_ (λj b=>?_) (λj b=>?_) ?_
    .have xv:(Qk g.N a).map (λn=>n.c)=(Qk c.N a).map λn=>n.c:=by
      rw[o,Ab (Ie (key:=λn:Nd=>n.c) (λ_=>rfl)) U s a,K]
     obtain⟨k,F,_⟩:=Eo xv Q;unfold QD;rw[F];rfl
    .rw[o,Ab (Ie (key:=Aa) (λ_=>rfl)) U s j,K];exact b9 j b
    .rw[lF];simp[Kf,b]
    .have xv:(Qk g.N a).map (λn=>n.q)=(Qk c.N a).map λn=>n.q:=by
      rw[o,Ab (Ie (key:=λn:Nd=>n.q) (λ_=>rfl)) U s a,K]
     obtain⟨k,F,h6⟩:=Eo xv Q;have hk:QD g a=k:=by unfold QD;rw[F];rfl
     rw[hk,h6,MW,lF];simp[Kf,lD]
   .refine QjS c0 λj=>?_;rw[o,Ab (Ie (key:=λn:Nd=>(n.c,n.q)) (λ_=>rfl)) U s j,K]
   .rw[o];refine Qj7 U ?_;rw[w];exact c1
   .rw[o];refine Qao U ?_;rw[w];exact c3
  .rw[Qd W];exact J ⟨λh=>absurd (Wt.1 h) W,λh=>absurd h.2 W⟩
 .rw[Qd lD];exact J (Wt.trans ⟨λh=>⟨lD,h⟩,(·.2)⟩)
def WR(a:List Qm)(j:Int):Bool:=match Qy a j with
 | some c=>!c.leaf
 | none=>false
def Qkk{d}(M:Qo)(j a:Int):(J3 d M j).KT a=if a=j/\WR d j=true then [] else M.KT a:=by
 unfold J3 WR;cases f:Qy d j with
 | none=>simp
 | some c=>
  dsimp only;by_cases b:c.leaf=true
  .rw[Qe b,Qd (λe=>by rw[b]at e;exact absurd e.2 π)]
  .rw[Qd b];dsimp only;by_cases e:a=j
   .rw[Qe e,Qe ⟨e,by simpa using b⟩]
   .rw[Qd e,Qd (λh=>e h.1)]
def Qkl{b}(a):∀(l:List Int) (M:Qo),a ∉ l->(l.foldl (J3 b) M).KT a=M.KT a
 | [],M,_=>rfl
 | j::l,M,h=>by
  rw[QF,qP]at h;rw[v8,Qkl a l _ h.2,Qkk,Qd (λe=>h.1 e.1)]
def QA8{a}{M}(V:Ge M)(j):Ge (J3 a M j):=by
 refine⟨by rw[(Qjy (T2:=a) M j).2.1];exact V.1,λp=>?_⟩;rw[Qkk];split
 .simp[Vw]
 .exact V.2 p
def Qkm{a}:∀(l:List Int) {M:Qo},Ge M->Ge (l.foldl (J3 a) M)
 | [],M,h=>h
 | j::l,M,h=>Qkm l (QA8 h j)
def Qat(c)(a:Int):∀(l:List Int) (A:List Int),a∈l.foldl (wY c) A↔a∈A\/(a∈l/\1<QJ ((Qy c a).getD default).ls)
 | [],A=>σ
 | j::l,A=>by
  rw[v8,Qat c a l];unfold wY;constructor
  .rintro (h|⟨h,b⟩)
   .split at h
    .rename_i d;rcases QF.1 h with rfl|h
     .exact .inr ⟨Kx,d⟩
     .exact .inl h
    .exact .inl h
   .exact .inr ⟨Ki _ h,b⟩
  .rintro (h|⟨h,b⟩)
   .refine .inl ?_;split
    .exact Ki _ h
    .exact h
   .rcases QF.1 h with rfl|h
    .refine .inl ?_;rw[Qe b];exact Kx
    .exact .inr ⟨h,b⟩
def Er{M:Qo}(I:Qz M){b}:b∈VZ M↔∃n,Qk M.N b=some n/\n.c.leaf=true/\n.q.l≠[]:=by
 constructor
 .intro h;obtain⟨c,a⟩:=JH.1 (show b∈(vS M.T).filter _ from h);obtain⟨n,f,m,o⟩:=iZ I c;refine⟨n,f,m,λe=>?_⟩;unfold Gb QD at a;rw[f]at a;simp[e]at a
 .rintro⟨n,d,j,i⟩;have k:=I.some d;obtain⟨c,a⟩:=(VH I.tree.rising).1 k;refine JH.2 ⟨Jl.2 ⟨n.c,JH.2 ⟨c,j⟩,a⟩,?_⟩;unfold Gb QD;rw[d];cases g:n.q.l with
  | nil=>exact absurd g i
  | cons x l=>simp[g]
section
variable {M:Qo}(I:Qz M)(V:Inv M){T2:List Qm}(I2:KF T2)(K2:vM T2){b:Bool}(hb:je M T2 b=false)
include I V I2 K2 hb
theorem Inv.US:Qz (qJ M T2):=X.US I I2 K2 hb (Good.Bv I V.Rb) (Good.P5 I V.Rb)
omit I V I2 K2 in
theorem Rg{a}(d:x9 M a=true):a ∉ Kb M.T T2:=λc=>by
 unfold je at hb;rw[show (Kb M.T T2).any (x9 M)=true from vY.2 ⟨a,c,d⟩]at hb;cases hb
omit V K2 in
theorem lH{a}(c:x9 M a=true):Qk (XI M T2) a=Qk M.N a:=by
 rw[HZ I I2];unfold VK;rw[Gd I2.rising,Qd (Rg hb c)]
omit I V I2 K2 hb in
theorem Rh{a x}(d:a∈VZ M)(c:x∈up M.T a):x9 M x=true:=vY.2 ⟨a,d,by simpa using c⟩
omit V K2 in
theorem QA9{a}(m:a∈VZ M):∀(k:Nat) (x:Int),(up M.T x).length=k->(x=0\/x∈up M.T a)->up T2 x=up M.T x:=by
 intro k;induction k using Nat.strongRecOn with
 | ind k h=>
  intro x i hx;rcases hx with rfl|hx
  .rw[LX I2,LX I.tree]
  .obtain⟨c,f⟩:=EK.1 (Ht hx);have l:Qy T2 x=some c:=by
    refine jk λe=>?_;exact Rg hb (Rh m hx) (MI.2 (by rw[f];exact λn=>e n.symm))
   rw[Vu I2 l,Vu I.tree f];rw[Vu I.tree f,Vo]at i;congr 1;refine h _ ω c.parent rfl ?_;by_cases g:c.parent=0
   .exact .inl g
   .obtain⟨d,j,_⟩:=I.tree.J9 c (yJ I.tree f) g;refine .inr (up_sub I.tree hx ?_);rw[Vu I.tree f];exact Ki _ (Ye I.tree j)
omit V K2 in
theorem Qkn{a}(c:a∈VZ M):up T2 a=up M.T a:=by
 obtain⟨n,d,_⟩:=(Er I).1 c;exact QA9 I I2 hb c _ a rfl (.inr (Ye I.tree (I.some d)))
theorem QBa{d}:d∈VZ (qJ M T2)↔d∈VZ M:=by
 have i:=V.US I I2 K2 hb;rw[Er i];constructor
 .rintro⟨n,f,g,e⟩;have a:Qk (XI M T2) d=some n:=f;rw[HZ I I2]at a;unfold VK at a;rw[Gd I2.rising]at a;split at a
  .obtain⟨c,_,rfl⟩:=X3.1 a;exact absurd rfl e
  .exact(Er I).2 ⟨n,a,g,e⟩
 .intro h;obtain⟨n,f,g,e⟩:=(Er I).1 h;refine⟨n,?_,g,e⟩;show Qk (XI M T2) d=some n;rw[lH I I2 hb (Rh h (Ye I.tree (I.some f)))];exact f
theorem Qau{a}:a∈(y8 M T2).A↔a∈M.A:=by
 show a∈(VZ (qJ M T2)).foldl (wY T2) []↔_;rw[Qat,QBa I V I2 K2 hb,V.act a];constructor
 .rintro (h|⟨d,l⟩)
  .cases h
  .obtain⟨n,c,j,i⟩:=(Er I).1 d;refine⟨n,c,j,i,?_⟩;have f:a ∉ Kb M.T T2:=Rg hb (Rh d (Ye I.tree (I.some c)));have g:Qy T2 a=Qy M.T a:=jk λe=>f (MI.2 λk=>e k.symm);rw[g,I.some c]at l;exact l
 .rintro⟨n,c,j,i,g⟩;have d:a∈VZ M:=(Er I).2 ⟨n,c,j,i⟩;refine .inr ⟨d,?_⟩;have f:a ∉ Kb M.T T2:=Rg hb (Rh d (Ye I.tree (I.some c)));have m:Qy T2 a=Qy M.T a:=jk λe=>f (MI.2 λk=>e k.symm);rw[m,I.some c];exact g
theorem Qav(e):Kg (y8 M T2) e=Kg M e:=by
 have h:(y8 M T2).T=T2:=(HY (T2:=T2) (Kb M.T T2) { M with T:=T2 }).1;rw[vX];unfold Kg;rw[h,YS,YS];have f:∀a∈M.A,a∈VZ M:=λa c=>by
  obtain⟨n,k,j,i,_⟩:=(V.act a).1 c;exact(Er I).2 ⟨n,k,j,i⟩
 constructor
 .rintro⟨a,c,d⟩;have g:=(Qau I V I2 K2 hb).1 c;exact⟨a,g,by rw[<- Qkn I I2 hb (f a g)];exact d⟩
 .rintro⟨a,c,d⟩;exact⟨a,(Qau I V I2 K2 hb).2 c,by rw[Qkn I I2 hb (f a c)];exact d⟩
theorem Inv.change:Inv (y8 M T2):=by
 obtain⟨f1,f2,f3,f4,f5⟩:=HY (T2:=T2) (Kb M.T T2) { M with T:=T2 };have E:(y8 M T2).Lv=M.Lv:=f2;have F:(0:Int) ∉ Kb M.T T2:=λh=>MI.1 h (by rw[LW I.tree,LW I2]);have s:∀{id:Int} {n:Nd},Qk M.N id=some n->n.c.leaf=true->n.q.l≠[]->Qk (y8 M T2).N id=some n:=λ{id n} g f e=>by
  show Qk (XI M T2) id=some n;rw[lH I I2 hb (Rh ((Er I).2 ⟨n,g,f,e⟩) (Ye I.tree (I.some g)))];exact g
 have u:∀{id:Int} {n:Nd},Qk (y8 M T2).N id=some n->n.q.l≠[]->Qk M.N id=some n:=λ{id n} g e=>by
  have i:Qk (XI M T2) id=some n:=g;rw[HZ I I2]at i;unfold VK at i;rw[Gd I2.rising]at i;split at i
  .obtain⟨c,_,rfl⟩:=X3.1 i;exact absurd rfl e
  .exact i
 have m:∀{id:Int},Kg M id=true->x9 M id=true:=λ{id} h=>by
  obtain⟨a,C,w⟩:=YS.1 h;obtain⟨n,g,f,e,_⟩:=(V.act a).1 C;exact Rh ((Er I).2 ⟨n,g,f,e⟩) w
 have l:∀{id:Int},id ∉ Kb M.T T2->(y8 M T2).KT id=M.KT id:=λ{id} h=>Qkl id (Kb M.T T2) { M with T:=T2 } h;have v:∀{id:Int} {n:Nd},Kg M id=true->W5 (y8 M T2) id n=W5 M id n:=λ{id n} h=>Qae rfl (Qav I V I2 K2 hb id) (l (Rg hb (m h)));have q:∀p x,zq (y8 M T2) p x↔zq M p x:=λp x=>by
  constructor
  .rintro⟨n,g,f,e,j⟩;rw[Qav I V I2 K2 hb]at e;have k:Qk M.N x.ki=some n:=by
    have:Qk (XI M T2) x.ki=some n:=g;rwa [lH I I2 hb (m e)]at this
   exact⟨n,k,f,e,by rw[<- v e];exact j⟩
  .rintro⟨n,g,f,e,j⟩;refine⟨n,?_,f,by rw[Qav I V I2 K2 hb];exact e,by rw[v e];exact j⟩;show Qk (XI M T2) x.ki=some n;rw[lH I I2 hb (m e)];exact g
 have o:∀{p:Int} {x:It},zq M p x->p ∉ Kb M.T T2:=λ{p x} ⟨n,g,f,e,_⟩=>by
  by_cases r:p=0
  .rw[r];exact F
  .refine Rg hb (m (LY I.tree e ?_));have t:=I.some g;obtain⟨d,z,_⟩:=I.tree.J9 n.c (yJ I.tree t) (by rw[f];exact r);rw[Vu I.tree t,<- f];exact Ki _ (Ye I.tree z)
 refine⟨λx=>?_,λp x=>?_,λid=>?_,λid n h y=>?_,Qkm _ V.zw,λid n h=>?_⟩
 .rw[E,V.lv x];constructor
  .rintro⟨n,g,f,e,j,k⟩;exact⟨n,s g f e,f,e,j,k⟩
  .rintro⟨n,g,f,e,j,k⟩;exact⟨n,u g e,f,e,j,k⟩
 .rw[q];constructor
  .intro h;have f:x∈M.KT p:=lg p (Kb M.T T2) { M with T:=T2 } h;exact(V.kt p x).1 f
  .intro h;rw[l (o h)];exact(V.kt p x).2 h
 .rw[Qau I V I2 K2 hb,V.act id];constructor
  .rintro⟨n,g,f,e,j⟩;exact⟨n,s g f e,f,e,j⟩
  .rintro⟨n,g,f,e,j⟩;exact⟨n,u g e,f,e,j⟩
 .have i:Qk (XI M T2) id=some n:=h;rw[HZ I I2]at i;unfold VK at i;rw[Gd I2.rising]at i;split at i
  .obtain⟨c,_,rfl⟩:=X3.1 i;rfl
  .exact V.Bw id n i y
 .have i:Qk (XI M T2) id=some n:=h;rw[HZ I I2]at i;unfold VK at i;rw[Gd I2.rising]at i;split at i
  .obtain⟨c,B,rfl⟩:=X3.1 i;exact Qjw (K2 c (yJ I2 B))
  .exact V.ok id n i
end
def x7.uniq{M}{d}{o e}(a:x7 M d o)(b:x7 M d e):o=e:=by
 unfold x7 at a b;cases o with
 | none=>
  cases e with
  | none=>rfl
  | some y=>
   have f:_=[]:=a;have c:=Wf.mem b;rw[f]at c;cases c
 | some x=>
  cases e with
  | none=>
   have f:_=[]:=b;have c:=Wf.mem a;rw[f]at c;cases c
  | some y=>exact congrArg some (Wf.uniq a b)
def x7.QBb{M:Qo}{a}{o:Option It}(h:x7 M a o)(d:a<=4611686018427387904):o.isSome=true↔∃x∈M.Lv,x.ka<=a:=by
 have e:min a 9223372036854775807=a:=ω;unfold x7 at h;rw[e]at h;cases o with
 | none=>
  have c:M.Lv.filter (λx=>decide (x.ka<=a))=[]:=h;constructor
  .intro h;cases h
  .rintro⟨x,hx,b⟩;have:x∈M.Lv.filter (λx=>decide (x.ka<=a)):=JH.2 ⟨hx,by simpa using b⟩;rw[c]at this;cases this
 | some x=>
  refine⟨λ_=>?_,λ_=>rfl⟩;obtain⟨c,b⟩:=JH.1 (Wf.mem h);exact⟨x,c,by simpa using b⟩
def QBc{L}(b:Vw L){a}(e:a<=4611686018427387904):U1 L<=a↔∃x∈L,x.ka<=a:=by
 unfold U1;cases L with
 | nil=>simp[never];omega
 | cons y L=>
  simp only[List.head?_cons];have d:never=9223372036854775808:=rfl;constructor
  .intro h;exact⟨y,Kx,ω⟩
  .rintro⟨x,hx,h⟩;have f:y.ka<=x.ka:=by
    rcases QF.1 hx with rfl|hx
    .exact QB _
    .have c:y.lt x:=(Ao.1 b).1 x hx;unfold It.lt Ks at c;omega
   omega
def Qkp{L}{a}(e:a<=4611686018427387904):xT L<=a↔∃x∈L,x.va<=a:=by
 obtain⟨f,c,b⟩:=gq L never;have d:never=9223372036854775808:=rfl;unfold xT;constructor
 .intro h;rcases b with b|⟨x,hx,b⟩
  .omega
  .exact⟨x,hx,ω⟩
 .rintro⟨x,hx,h⟩;have:=c x hx;omega
def Qkq{M:Qo}{a}(b:a<=4611686018427387904){p:Int}:(firstM M a p).isSome=true↔∃x∈M.KT p,x.va<=a:=by
 unfold firstM;rw[List.find?_isSome];have e:min a 9223372036854775807=a:=ω;simp[e]
def QBe(T)(a:Int):(up T a).length<=16:=A7
def Qkr{M:Qo}(I:Qz M)(V:Inv M){a}(b:a<=4611686018427387904):∀(k:Nat) (p:Int),17<=k+(up M.T p).length->(∃x∈M.KT p,x.va<=a)->(Bp M a k p).isSome=true
 | 0,p,i,_=>by
  have:=QBe M.T p;omega
 | k+1,p,i,h=>by
  have g:=(Qkq b).2 h;unfold Bp;cases d:firstM M a p with
  | none=>rw[d]at g;cases g
  | some x=>
   dsimp only;have hx:x∈M.KT p:=wc d;have r:x.va<=a:=by
    have:=yj d;simp only[X4]at this;omega
   obtain⟨n,f,o,m,l⟩:=(V.kt p x).1 hx;have q:QD M x.ki=n:=by unfold QD;rw[f];rfl
   rw[q];by_cases c:n.c.leaf=true
   .rw[Qe c];rfl
   .rw[Qd c];have e:x.va=W5 M x.ki n:=congrArg It.va l;unfold W5 at e;rw[Qd (by rw[m];simp[c])]at e;have j:xT (M.KT x.ki)<=a:=ω;refine Qkr I V b k x.ki ?_ ((Qkp b).1 j);rw[Vu I.tree (I.some f),o,Vo];omega
def QBf{M}(I:Qz M)(V:Inv M){a}(b:a<=4611686018427387904){o:Option It}(e:x7 M a o):(VO M a o).isSome=true↔qK M<=a:=by
 have d:=e.QBb b;have j:=QBc V.zw.1 b;have i:=Qkp (L:=M.KT 0) b;have g:qK M<=a↔U1 M.Lv<=a\/xT (M.KT 0)<=a:=by unfold qK;omega
 rw[g,j,i];cases o with
 | some x=>simp only[VO,wh,true_iff];exact .inl (d.1 rfl)
 | none=>
  have f:¬ ∃x∈M.Lv,x.ka<=a:=λh=>by cases d.2 h
  simp only[VO,Option.isSome_map];constructor
  .intro h;refine .inr ?_;unfold Bp at h;cases c:firstM M a 0 with
   | none=>rw[c]at h;cases h
   | some x=>exact(Qkq b).1 (by rw[c];rfl)
  .rintro (h|h)
   .exact absurd h f
   .exact Qkr I V b 17 0 (by rw[LX I.tree];simp) h
def MY(c:Cf):Bool:=decide (1<=c.t)&&decide (c.t<=65536)&&decide (1<=c.JI)&&decide (c.JI<=16384)
def QBg(c:Cf):QI prog 21 [.agg c.cells] (QO (QX (MY c))):=by
 unfold MY;refine QZ 0 func21 ntmps21 results21 λa w g=>?_;simp only[go_sem];all_goals (cases f:decide (1<=c.t)<;>cases e:decide (c.t<=65536)<;>cases d:decide (1<=c.JI)<;>cases b:decide (c.JI<=16384)<;>simp only[go_sem,f,e,d,b])
def U7:List It->Option It
 | []=>none
 | x::l=>match U7 l with
  | none=>some x
  | some y=>some (j7 x y)
def Qks:∀L:List It,yL (U7 L) L
 | []=>rfl
 | x::l=>by
  have h:=Qks l;unfold U7;cases a:U7 l with
  | none=>
   rw[a]at h;have b:l=[]:=h;subst b;exact Wf.one x
  | some y=>
   rw[a]at h;exact Wf.join (Wf.one x) h
def Qkt(M:Qo)(a:Nat):Option It:=U7 (M.Lv.filter λx=>decide (x.ka<=min a 9223372036854775807))
def U8(M)(a):x7 M a (Qkt M a):=Qks _
def vT(M:Qo)(a:Nat):Option (Int × Bool):=if wT M a=true then VO (ZV M a) a (Qkt (ZV M a) a) else none
def takeN(M:Qo)(a:Nat):Qo:=match vT M a with
 | none=>ZV M a
 | some x=>Xk (ZV M a) x.1 x.2
def WJ(M:Qo)(a:Nat):Int:=match vT M a with
 | none=>0
 | some x=>x.1
def Vn(M:Qo)(a:Nat):Pk:=match vT M a with
 | none=>default
 | some x=>(QD M x.1).q.l.headD default
def By(M:Qo)(a:Nat):Bool:=match vT M a with
 | none=>false
 | some x=>x.2
def YE(M:Qo)(a:Nat):Bool:=(vT M a).isSome
def QBh{M c}{a}{d}(h:UH M a d c):c=takeN M a/\d=.tup [.agg (zn (WJ M a) (Vn M a) (By M a)),QX (YE M a)]:=by
 rcases h with ⟨f,rfl,rfl⟩|⟨f,o,i,b⟩
 .have e:vT c a=none:=by unfold vT;rw[Qd (by rw[f];exact BF)]
  have j:ZV c a=c:=by unfold ZV;rw[Qd (by rw[f];exact BF)]
  unfold takeN WJ Vn By YE;rw[e];exact⟨j.symm,rfl⟩
 .have e:vT M a=VO (ZV M a) a o:=by unfold vT;rw[Qe f,(U8 (ZV M a) a).uniq i]
  unfold takeN WJ Vn By YE;rw[e];cases g:VO (ZV M a) a o with
  | none=>
   rw[g]at b;exact⟨b.2,b.1⟩
  | some x=>
   rw[g]at b;exact⟨b.2,b.1⟩
structure jF (own:Nat->Tag) (h:List Ob) (p:Nat) (M:Qo):Prop where
 ex:∃L,ZD own h p L M
 I:Qz M
 V:Inv M
 K:W8 M.lk
def jF.step{a own'}{h h':List Ob}{p}{M}(C:jF a h p M)(e:∀l,l<h.length->Live (a l)->own' l=a l/\h'[l]? = h[l]?):jF own' h' p M:=
 ⟨C.ex.imp λ_ c=>c.step e,C.I,C.V,C.K⟩
def jF.PK{a}{h}{p}{M}(C:jF a h p M)(g):jF (Q4 a h .no) (h++g) p M:=C.step λl b _=>⟨Ku b,QE b⟩
def Qku(l:List Int)(M:Qo):(Wg M l).lk=M.lk:=(F6 l M).2.2.2.2.2.2.2.2
def QBi(M:Qo)(a:Int):(W7 M a).lk=M.lk:=by
 unfold W7;split
 .exact(HT _ _).2.2.1
 .rfl
def QBj(M:Qo)(a)(r:Bool):(Xk M a r).lk=M.lk:=by
 unfold Xk;dsimp only;rw[Qku];have b:(VS ((up M.T a).foldl (VX ((QD M a).q.l.headD default).len.toNat) (Xj M a)) a ((QD M a).q.l.headD default).len r).lk=M.lk:=by
  rw[(PY _ _ _ _).2.2.2.1,(MQ _ _ _).2.2.2.1];rfl
 split
 .rw[QBi,b]
 .exact b
def QBk(M:Qo)(b)(c)(a:Int):(Ym M b c a).lk=M.lk:=by
 unfold Ym;split
 .rw[Qku,(HQ _ _ _).2.2.2.1];exact MM.2.2.2
 .exact MM.2.2.2
def lI(M:Qo)(a:Nat):(ZV M a).lk=M.lk:=(Qjn M a).1
def QBl(M:Qo)(a)(b)(x:Pk):(Wa M a b x).lk=M.lk:=by
 unfold Wa;split
 .rfl
 .split
  .split
   .rw[QBk];rfl
   .rfl
  .rfl
def If(M:Qo)(a)(b)(x:Pk):(Jg M a b x).lk=M.lk:=by
 unfold Jg;split
 .rw[QBl,lI]
 .rfl
def Qkv(M:Qo)(a:Nat):(takeN M a).lk=M.lk:=by
 unfold takeN;split
 .exact lI M a
 .rw[QBj,lI]
def Ri(M:Qo)(b)(l:List Z4):(J4 M b l).lk=M.lk:=by
 unfold J4;split
 .exact(HY _ _).2.2.1
 .rfl
def QBm{M:Qo}{a}(h:wT M a=true):M.Qh<=a/\a<=4611686018427387904:=by
 unfold wT at h;simp only[zB,Db,GF]at h;omega
def Inv.pick{M:Qo}(I:Qz M)(V:Inv M){a}{o}(d:x7 M a o){b}{r}(c:VO M a o=some (b,r)):∃n,Qk M.N b=some n/\n.c.leaf=true/\n.q.l≠[]/\(1<QJ n.c.ls->b∈M.A):=Good.ur I V.Rb a o b r d c
def Inv.takeN{M}(I:Qz M)(V:Inv M)(a):Inv (takeN M a):=by
 unfold X.takeN;cases b:vT M a with
 | none=>exact V.told a
 | some x=>
  unfold vT at b;split at b
  .obtain⟨n,e,d,c,_⟩:=(V.told a).pick (Bq I a) (U8 _ _) b;exact(V.told a).take (Bq I a) e d c x.2
  .cases b
def Inv.J4{M}(I:Qz M)(V:Inv M)(b)(l)(e:∀c∈l,Z4.Ok c):Inv (J4 M b l):=by
 unfold X.J4;split
 .rename_i h;have f:je M (Jm M.T l) b=false:=by
   unfold Y3 at h;split at h
   .rename_i d;exact absurd h d
   .split at h
    .cases h
    .rename_i a;simpa using a
  obtain⟨d,a⟩:=PJ I.tree I.yY e;exact V.change I d a f
 .exact V
def QBn{c}:MY c=true↔W8 c:=by
 unfold MY;simp only[ZL,X4];exact⟨λh=>⟨h.1.1.1,h.1.1.2,h.1.2,h.2⟩,λh=>⟨⟨⟨h.t1,h.t2⟩,h.l1⟩,h.l2⟩⟩
section
variable {own:Nat->Tag}{h:List Ob}{p:Nat}{M:Qo}(C:jF own h p M)
include C
theorem QBo(b)(g:b<18446744073709551616)(e)(x):
  QM prog 78 h [.ptr p 0 0 0,u64 b,Qb e,.agg x.cells] (λd f=>d=Qb (qI M b e x)/\∃a,jF a f p (Jg M b e x)/\Zv own h a f):=by
 obtain⟨L,c⟩:=C.ex;refine QM.mono (Qzx c C.I C.K b g e x (Good.hA C.I C.V.Rb e)) ?_;rintro d f ⟨a,l,j,k,D,i,rfl⟩;exact⟨i,a,⟨⟨L,j⟩,k,C.V.Jg C.I b g e x,by rw[If];exact C.K⟩,D⟩
theorem QBp(a):
  QM prog 118 h [.ptr p 0 0 0,u64 a] (λd e=>d=.tup [.agg (zn (WJ M a) (Vn M a) (By M a)),QX (YE M a)]/\∃b,jF b e p (takeN M a)/\Zv own h b e):=by
 obtain⟨L,c⟩:=C.ex;refine QM.mono (Qzi c C.I a λo id r g f=>?_) ?_
 .obtain⟨n,q,m,l,k⟩:=(C.V.told a).pick (Bq C.I a) g f;exact⟨n,by rw[<- (Eh M a).1];exact q,m,l,by rw[<- (Eh M a).2.2];exact k⟩
 .rintro d e ⟨b,u,s,t,D,j⟩;obtain⟨rfl,i⟩:=QBh j;exact⟨i,b,⟨⟨L,s⟩,t,C.V.takeN C.I a,by rw[Qkv];exact C.K⟩,D⟩
theorem QBq(b)(l:List Z4)(f:∀c∈l,Z4.Ok c)(g:l.length<1000000):
  QM prog 44 h [.ptr p 0 0 0,QX b,F4 l] (λd e=>d=.tup [Qb (ya M l),Qb (Y3 M b l)]/\∃a,jF a e p (J4 M b l)/\Zv own h a e):=by
 obtain⟨L,c⟩:=C.ex;refine QM.mono (QAq c C.I C.K b l f g (Good.Bv C.I C.V.Rb) (Good.P5 C.I C.V.Rb)) ?_;rintro d e ⟨a,k,n,j,m,D,i,rfl⟩;exact⟨i,a,⟨⟨k,j⟩,m,C.V.J4 C.I b l f,by rw[Ri];exact C.K⟩,D⟩
end
def QBr(b)(h){c}(K:W8 c):
  QM prog 39 h [.agg c.cells] (λd e=>∃a p,d=.tup [.ptr p 0 0 0,Qb 0]/\jF a e p (M0 c)/\Zv b h a e):=by
 refine QM.mono (QzI (own:=b) c) ?_;rintro d e (⟨_,a,L,p,g,i,j,D⟩|⟨f,_⟩)
 .exact⟨a,p,g,⟨⟨L,i⟩,j,QjR c,K⟩,D⟩
 .exact absurd K f
end Go.Fg.X
namespace Go.Fg
open Go.RowKit (Below)
def Qr.QBs{w0}{f}{h}(t c)(p:get f t=.nil):
  Qr w0 ⟨f,h⟩ ⟨put f t (.ref h.length 0 0 0),h++[(⟨.arr,0,c,0,λ_=>[]⟩:Ob)]⟩:=by
 intro Z z i n d a w r b;have g:d.length=h.length:=r.o.len;have v:=r.o.kP ⟨.arr,0,c,0,λ_=>[]⟩ rfl;have l:Tr h d w (h++[(⟨.arr,0,c,0,λ_=>[]⟩:Ob)]) (d++[none]) w:=Tr.push r.o (λ_ _=>rfl) _ _ (by intro b q e;simp at e);have j:(h++[(⟨.arr,0,c,0,λ_=>[]⟩:Ob)])[h.length]? = some ⟨.arr,0,c,0,λ_=>[]⟩:=σ;have k:=r.fr t;rw[show get (St.fr ⟨f,h⟩) t=.nil from p]at k;obtain⟨s,o⟩:=Ax k;have m:Rel Z i n ⟨f,h++[⟨.arr,0,c,0,λ_=>[]⟩]⟩ (d++[none]) a w:=⟨r.nt,r.defers,λu=>(r.fr u).tr l,v⟩;refine⟨d++[none],m.tell (t:=t) ?_,b.step l (Below.refl _ _)⟩;rw[o];refine .ref _ _ _ _ ⟨.arr,0,c,0,λ_=>[]⟩ none s 0 j ?_ rfl (QB _) (λ_=>.inl ⟨rfl,rfl⟩);rw[<- g];simp
end Go.Fg
namespace Go.Fg.X
open Go.Proofs Go.Fg
open Go.Proofs.Tryz
def Zs(M:Qo)(a:Int):List Pk:=(QD M a).q.l
def CV(n:Nd):List Pk:=n.q.l
def U9{M c:Qo}{a:Int}(h:(Qk c.N a).map CV=(Qk M.N a).map CV):Zs c a=Zs M a:=by
 unfold Zs QD;cases b:Qk M.N a with
 | none=>
  rw[b,zE,mL]at h;rw[h]
 | some n=>
  rw[b]at h;obtain⟨m,e,d⟩:=X3.1 h;rw[e];exact d
def QBu(M:Qo)(b)(c)(a:Int)(j:Int):(Qk (Ym M b c a).N j).map CV=(Qk M.N j).map CV:=by
 have d:(Qk (VW M b c a).N j).map CV=(Qk M.N j).map CV:=by
  rw[Qaj];split
  .cases Qk M.N j<;>rfl
  .rfl
 unfold Ym;split
 .rw[(F6 _ _).1,Ab (key:=CV) (λM j c=>QjU b (λ_ _=>rfl) M j c)];exact d
 .exact d
def QBv{M}(g)(a)(x)(b):Zs (Wa M g a x) b=if VY M a x=0/\a=b then Zs M b++[x] else Zs M b:=by
 have push:∀j,j≠a->Zs (KY M a x) j=Zs M j:=λj o=>U9 (by rw[MV,Qd o]);cases c:Qk M.N a with
 | none=>
  have e:VY M a x=23:=by unfold VY;rw[c]
  unfold Wa;rw[e,Qd π,Qd π,Qd (λh=>absurd h.1 π)]
 | some n=>
  have m:QD M a=n:=by unfold QD;rw[c];rfl
  have i:Zs (KY M a x) a=(Yh n.c.ZR n.c.bytes n.q x).l:=by
   unfold Zs QD;rw[MV,Qe rfl,c,m];rfl
  have l:Zs M a=n.q.l:=by unfold Zs;rw[m]
  by_cases f:VY M a x=30
  .obtain⟨_,k⟩:=Qj2 c f;unfold Wa;rw[Qe f,Qd (λh=>by rw[f]at h;exact absurd h.1 π)];by_cases e:b=a
   .rw[e,i,l];unfold Yh;rw[Qe k]
   .exact push b e
  .by_cases d:VY M a x=0
   .obtain⟨_,k,_⟩:=Qam c d;have p:Zs (Wa M g a x) b=Zs (KY M a x) b:=by
     unfold Wa;rw[Qd f,Qe d];split
     .exact U9 (QBu _ _ _ _ _)
     .rfl
    rw[p];by_cases e:b=a
    .rw[Qe ⟨d,e.symm⟩,e,i,l,QjT k]
    .rw[Qd (λh=>e h.2.symm)];exact push b e
   .unfold Wa;rw[Qd f,Qd d,Qd (λh=>d h.1)]
def Qaw(M)(a:Nat)(b):Zs (ZV M a) b=Zs M b:=U9 (by rw[(Eh M a).1])
def Gg(M)(c)(b)(x)(a):Zs (Jg M c b x) a=if qI M c b x=0/\b=a then Zs M a++[x] else Zs M a:=by
 unfold Jg qI;split
 .rw[QBv,Qaw]
 .rw[Qd (λh=>absurd h.1 π)]
def QBw(M)(a)(r)(j:Int):Zs (Xk M a r) j=if j=a then (Zs M j).tail else Zs M j:=by
 have h:Zs (Xk M a r) j=Zs (Xj M a) j:=by
  refine U9 ?_;unfold Xk;dsimp only;rw[(F6 _ _).1];have b:(Qk (VS ((up M.T a).foldl (VX ((QD M a).q.l.headD default).len.toNat) (Xj M a)) a ((QD M a).q.l.headD default).len r).N j).map CV=(Qk (Xj M a).N j).map CV:=by
   rw[Qj9];have g:=Ab (key:=CV) (step:=VX ((QD M a).q.l.headD default).len.toNat) (λi j c=>Qj8 _ (λ_=>rfl) i j c) (up M.T a) (Xj M a) j;rw[<- g];split
   .cases Qk ((up M.T a).foldl (VX ((QD M a).q.l.headD default).len.toNat) (Xj M a)).N j<;>rfl
   .rfl
  split
  .unfold W7;split
   .rw[Ab (key:=CV) (Ie (λ_=>rfl))];exact b
   .exact b
  .exact b
 rw[h];have d:Qk (Xj M a).N j=if j=a then (Qk M.N j).map (λn=>{ n with q:=Xu (QD M a).q }) else Qk M.N j:=
  kB (f:=λn:Nd=>{ n with q:=Xu (QD M a).q }) (λ_=>rfl) j
 by_cases e:j=a
 .rw[Qe e];unfold Zs QD;rw[d,Qe e,e];unfold QD;cases k:Qk M.N a<;>rfl
 .rw[Qd e];exact U9 (by rw[d,Qd e])
def Es(M)(a)(j:Int):Zs (takeN M a) j=if YE M a=true/\WJ M a=j then (Zs M j).tail else Zs M j:=by
 unfold takeN YE WJ;cases b:vT M a with
 | none=>rw[Qd (λh=>by cases h.1)];exact Qaw M a j
 | some x=>
  dsimp only;rw[QBw,Qaw];by_cases e:j=x.1
  .rw[Qe e,Qe ⟨rfl,e.symm⟩]
  .rw[Qd e,Qd (λh=>e h.2.symm)]
def lJ{M}(I:Qz M)(V:Inv M){a}(h:YE M a=true):∃x l,Zs M (WJ M a)=x::l/\Vn M a=x:=by
 unfold YE at h;obtain⟨y,b⟩:=EK.1 h;have g:WJ M a=y.1:=by unfold WJ;rw[b]
 have f:Vn M a=(Zs M y.1).headD default:=by unfold Vn;rw[b];rfl
 unfold vT at b;split at b
 .obtain⟨n,e,j,i,_⟩:=(V.told a).pick (Bq I a) (U8 _ _) b;rw[(Eh M a).1]at e;have d:Zs M y.1=n.q.l:=by unfold Zs QD;rw[e];rfl
  cases c:n.q.l with
  | nil=>exact absurd c i
  | cons x l=>exact⟨x,l,by rw[g,d,c],by rw[f,d,c];rfl⟩
 .cases b
def Qkw{c}(b)(l)(j):Zs (J4 (M0 c) b l) j=[]:=by
 unfold J4;split
 .have r:∀(L:List Int) (g:List Qm) (M:Qo),(∀id n,Qk M.N id=some n->n.q.l=[])->∀id n,Qk (L.foldl (J3 g) M).N id=some n->n.q.l=[]:=by
   intro L g;induction L with
   | nil=>intro M h;exact h
   | cons i L m=>
    intro M h;refine m _ λid n a=>?_;unfold J3 at a;split at a
    .rw[Gc]at a;split at a
     .cases a
     .exact h id n a
    .have f:∀(k:Qm) (N:List Nd),Qk (XH k::jE N i) id=some n->(∀n,Qk N id=some n->n.q.l=[])->n.q.l=[]:=λk N a h=>by
      unfold Qk at a;rw[vZ]at a;split at a
      .cases a;rfl
      .have d:Qk (jE N i) id=some n:=a;rw[Gc]at d;split at d
       .cases d
       .exact h n d
     split at a
     .exact f _ _ a (h id)
     .exact f _ _ a (h id)
  have q:=r (Kb (M0 c).T (Jm (M0 c).T l)) (Jm (M0 c).T l) { M0 c with T:=Jm (M0 c).T l } (λid n a=>by simp[M0,Qk]at a);have p:∀id,(QD (VK (M0 c) (Jm (M0 c).T l)) id).q.l=[]:=λid=>by
   unfold QD VK;cases e:Qk ((Kb (M0 c).T (Jm (M0 c).T l)).foldl (J3 (Jm (M0 c).T l)) { M0 c with T:=Jm (M0 c).T l }).N id with
   | none=>rfl
   | some n=>exact q id n e
  unfold Zs QD;show ((Qk (XI (M0 c) (Jm (M0 c).T l)) j).getD default).q.l=[];cases e:Qk (XI (M0 c) (Jm (M0 c).T l)) j with
  | none=>rfl
  | some n=>
   have o:n∈XI (M0 c) (Jm (M0 c).T l):=wc e;obtain⟨k,_,rfl⟩:=Jl.1 o;exact p _
 .rfl
end Go.Fg.X
namespace Go.Fg.X
open Go.Proofs Go.Fg
open Go.Proofs.Tryz
def c6:Cf:=⟨1,100⟩
def MZ(a m:Int):Z4:=⟨1,⟨a,0,true,⟨0,0,0⟩,⟨m,0,m⟩,⟨0,0,0⟩,3,300⟩⟩
def Qkx(L:List Int)(M:Qo)(a:List Qm):Qo:=
 let D:=L.foldl (J3 a) { M with T:=a };let b:Qo:={ D with N:=a.map λc=>QD D c.iD,To:=a,A:=[] }
 { b with A:=(VZ b).foldl (wY a) [] }
theorem QBy(M:Qo)(a):y8 M a=Qkx (Kb M.T a) M a:=rfl
end Go.Fg.X
namespace Go.Fg.X
open Go.Proofs Go.Fg
open Go.Proofs.Tryz
def QBz(M:Qo)(l:List Int):Nat:=(l.map λj=>(QD M j).Z7).sum
structure QIe (M:Qo):Prop where
 leaf:∀id n,Qk M.N id=some n->n.c.leaf=true->n.Z7=n.q.bo
 inner:∀id n,Qk M.N id=some n->n.c.leaf=false->n.Z7=Xt (QBz M (KE M.T id))
def QIf(n:Nd):Qm × Nat × Nat:=(n.c,n.Z7,n.q.bo)
def QBA(M:Qo)(b)(c)(a:Int):(Ym M b c a).T=M.T:=by
 unfold Ym;split
 .rw[(F6 _ _).2.1,(HQ _ _ _).1];exact MM.1
 .exact MM.1
def QBB(M:Qo)(a)(r:Bool):(Xk M a r).T=M.T:=by
 unfold Xk;dsimp only;rw[(F6 _ _).2.1];have b:(VS ((up M.T a).foldl (VX ((QD M a).q.l.headD default).len.toNat) (Xj M a)) a ((QD M a).q.l.headD default).len r).T=M.T:=by
  rw[(PY _ _ _ _).1,(MQ _ _ _).1];rfl
 split
 .unfold W7;split
  .rw[(HT _ _).1];exact b
  .exact b
 .exact b
def Qz.up{M:Qo}(I:Qz M){id j}(h:j∈X.up M.T id):∃n,Qk M.N j=Option.some n:=by
 obtain⟨c,a⟩:=EK.1 (Ht h);obtain⟨n,b,_⟩:=I.Uu a;exact⟨n,b⟩
def Qz.lK:∀(l:List Int) {M:Qo},Qz M->Wb M->(∀j∈l,∃n,Qk M.N j=Option.some n)->Qz (Wg M l)
 | [],M,I,_,_=>I
 | id::l,M,I,V,h=>by
  obtain⟨n,b⟩:=h id Kx;have a:=(PL M id).1;exact Qz.lK l (tX I b (V id n b)) (by unfold Wb;rw[a];exact V) (by rw[a];exact λj c=>h j (Ki _ c))
def QBC{M:Qo}(V:Wb M){a}{n}(c:Qk M.N a=some n)(b)(r):Wb (VS M a b r):=by
 have d:QD M a=n:=by unfold QD;rw[c];rfl
 unfold VS;split
 .exact Ic (f:=λm:Nd=>{ m with du:=zk (QD M a) b r }) (λ_=>rfl) (λm _ h=>⟨h.Z7,by rw[d];exact ua (V a n c) b r,h.sh,h.cp,h.c⟩) V
 .exact V
def QBD{M}(V:Wb M)(a):Wb (W7 M a):=by
 unfold W7;split
 .exact Qao _ (M:={ M with A:=Kf M.A a }) V
 .exact V
def Qz.Xk{M:Qo}(I:Qz M)(V:Wb M){a}{n}(t:Qk M.N a=Option.some n)(r):Qz (Xk M a r):=by
 unfold X.Xk;dsimp only;generalize ((QD M a).q.l.headD default).len=b;obtain⟨c,d⟩:∃c,c=(X.up M.T a).foldl (X.VX b.toNat) (X.Xj M a):=⟨_,rfl⟩;rw[<- d];have p:Qz c:=by rw[d];exact Qz.iM _ (I.Xj a)
 obtain⟨k,_⟩:=MQ b.toNat (X.up M.T a) (X.Xj M a);rw[<- d]at k;have u:Wb c:=by
  rw[d];exact Qap _ _ (Ic (f:=λn:Nd=>{ n with q:=Xu (QD M a).q }) (λ_=>rfl) (λn _ h=>⟨h.Z7,h.du,h.sh,h.cp,h.c⟩) V)
 have s:c.T=M.T:=k;obtain⟨w,l⟩:=p.up (id:=a) (j:=a) (by rw[s];exact Ye I.tree (I.some t));have i:=p.VS l b r;have m:=QBC u l b r;have e:(X.VS c a b r).T=M.T:=(PY c a b r).1.trans s;split
 .have o:=i.W7 a;have v:(X.W7 (X.VS c a b r) a).T=M.T:=by
   unfold X.W7;split
   .rw[(HT _ _).1];exact e
   .exact e
  exact o.lK _ (QBD m a) λj g=>o.up (id:=a) (by rw[v];exact g)
 .exact i.lK _ m λj g=>i.up (id:=a) (by rw[e];exact g)
def QBE{M:Qo}(V:Wb M){b}{n}(f:Qk M.N b=some n)(c)(i:c<18446744073709551616)(a):Wb (VW M c b a):=λj k d=>by
 have l:QD M b=n:=by unfold QD;rw[f];rfl
 rw[Qaj,l]at d;split at d
 .obtain⟨g,h,rfl⟩:=X3.1 d;have e:=V j g h;exact⟨e.Z7,sx (V b n f).du (V b n f).c.2.2.2.1.lt i a,e.sh,e.cp,e.c⟩
 .exact V j k d
def Qky{a}(b:a<18446744073709551616):∀(l:List Int) (M:Qo),Qz M->Wb M->Wb (l.foldl (W6 a) M)
 | [],M,_,V=>V
 | j::l,M,I,V=>Qky b l _ (I.W6 a j) (Ic (f:=CN M a) (λ_=>rfl) (λn _ c=>ud I b c) V)
def Qz.Ym{M:Qo}(I:Qz M)(V:Wb M){d}{n:Nd}(e:Qk M.N d=Option.some n)(o:n.c.leaf=true)(c)(h:c<18446744073709551616)(b):Qz (Ym M c d b):=by
 have s:QD M d=n:=by unfold QD;rw[e];rfl
 have l:=I.VW e c b;have r:=QBE V e c h b;obtain⟨g,v,u,t⟩:=MM (M:=M) (now:=c) (id:=d) (head:=b);unfold X.Ym;rw[s];split
 .rename_i m;have k:Qz { X.VW M c d b with A:=d::M.A }:=l.act λa f=>by
   rw[g];rcases QF.1 f with rfl|f
   .exact⟨n.c,I.some e,o,m⟩
   .exact I.Y0 a f
  have i:=Qz.Uw (now:=c) (Xs M.T M.A d) k;have q:=Qky h (Xs M.T M.A d) _ k r;obtain⟨t1,_⟩:=HQ c (Xs M.T M.A d) { X.VW M c d b with A:=d::M.A };exact i.lK _ q λj p=>i.up (id:=d) (by rw[t1];show j∈X.up (X.VW M c d b).T d;rw[g];exact p)
 .exact l
def Qz.Wa{M}(I:Qz M)(V:Wb M)(b)(k:b<18446744073709551616)(a)(x):Qz (Wa M b a x):=by
 unfold X.Wa;cases c:Qk M.N a with
 | none=>
  have e:VY M a x=23:=by unfold VY;rw[c]
  rw[e,Qd π,Qd π];exact I
 | some n=>
  have f:QD M a=n:=by unfold QD;rw[c];rfl
  by_cases h:VY M a x=30
  .rw[Qe h];exact I.KY a x
  .rw[Qd h];by_cases d:VY M a x=0
   .rw[Qe d,f];obtain⟨j,o,m,l,i⟩:=Qam c d;have g:=(I.KY a x).kF i;split
    .refine g.Ym (Qai V a x) (n:={ n with q:=Yh n.c.ZR n.c.bytes n.q x }) ?_ j b k x.len;show Qk (X.KY M a x).N a=_;rw[MV,Qe rfl,c,f];rfl
    .exact g
   .rw[Qd d];exact I
def Qz.Jg{M}(I:Qz M)(V:Inv M)(a)(c:a<18446744073709551616)(b)(x):Qz (Jg M a b x):=by
 unfold X.Jg;split
 .exact(Bq I a).Wa (V.told a).ok a c b x
 .exact I
def Qz.takeN{M}(I:Qz M)(V:Inv M)(a):Qz (takeN M a):=by
 unfold X.takeN;cases b:vT M a with
 | none=>exact Bq I a
 | some x=>
  unfold vT at b;split at b
  .obtain⟨n,c,e,d,_⟩:=(V.told a).pick (Bq I a) (U8 _ _) b;exact(Bq I a).Xk (V.told a).ok c x.2
  .cases b
def Qz.J4{M}(I:Qz M)(V:Inv M)(b)(l)(k:∀c∈l,Z4.Ok c):Qz (J4 M b l):=by
 unfold X.J4;split
 .rename_i h;have r:je M (Jm M.T l) b=false:=by
   unfold Y3 at h;split at h
   .rename_i g;exact absurd h g
   .split at h
    .cases h
    .rename_i f;simpa using f
  obtain⟨g,f⟩:=PJ I.tree I.yY k;have i:=V.US I g f r;have o:(qJ M (Jm M.T l)).T=Jm M.T l:=(HY (T2:=Jm M.T l) (Kb M.T (Jm M.T l)) { M with T:=Jm M.T l }).1;refine i.act λa m=>?_;rcases (Qat (Jm M.T l) a (VZ (qJ M (Jm M.T l))) []).1 m with e|⟨e,j⟩
  .cases e
  .obtain⟨n,q,p,s⟩:=(Er i).1 e;have d:=i.some q;refine⟨n.c,d,p,?_⟩;rw[o]at d;rw[d]at j;exact j
 .exact I
def Qkz(l:List Int)(M:Qo):(Wg M l).Qh=M.Qh:=(F6 l M).2.2.2.2.2.2.1
def QBF(M:Qo)(a:Int):(W7 M a).Qh=M.Qh:=by
 unfold W7;split
 .exact(HT _ _).2.2.2.1
 .rfl
def QBG(M:Qo)(a)(r:Bool):(Xk M a r).Qh=M.Qh:=by
 unfold Xk;dsimp only;rw[Qkz];have b:(VS ((up M.T a).foldl (VX ((QD M a).q.l.headD default).len.toNat) (Xj M a)) a ((QD M a).q.l.headD default).len r).Qh=M.Qh:=by
  rw[(PY _ _ _ _).2.2.2.2.1,(MQ _ _ _).2.2.2.2.1];rfl
 split
 .rw[QBF,b]
 .exact b
def QkA(M:Qo)(b)(c)(a:Int):(VW M b c a).Qh=M.Qh:=by
 unfold VW;split<;>rfl
def QBH(M:Qo)(b)(c)(a:Int):(Ym M b c a).Qh=M.Qh:=by
 unfold Ym;split
 .rw[Qkz,(HQ _ _ _).2.2.2.2.1];exact QkA M b c a
 .exact QkA M b c a
def QBI(M:Qo)(a)(b)(x:Pk):(Wa M a b x).Qh=M.Qh:=by
 unfold Wa;split
 .rfl
 .split
  .split
   .rw[QBH];rfl
   .rfl
  .rfl
def Qax(M:Qo)(a:Nat):(ZV M a).Qh=M.Qh\/((ZV M a).Qh=a/\a<=4611686018427387904):=by
 unfold ZV;split
 .rename_i h;exact .inr ⟨rfl,(QBm h).2⟩
 .exact .inl rfl
def QkB{M:Qo}(I:Qz M)(V:Inv M){now}(c:now<=4611686018427387904)(e:M.Qh<=now):YE M now=decide (qK M<=now/\qK M<9223372036854775808):=by
 have b:wT M now=true:=by
  unfold wT;simp only[zB,Db,GF];omega
 have a:=QBf (Bq I now) (V.told now) c (U8 (ZV M now) now);have d:qK (ZV M now)=qK M:=by unfold ZV;split<;>rfl
 rw[d]at a;unfold YE vT;rw[Qe b,vX,a,X4];omega
def Jh(M:Qo):Nat:=(M.T.map λc=>(Zs M c.iD).length).sum
def Qay{f f':Int->Nat}{q:Int}:∀{l:List Qm},(l.map (·.iD)).Nodup->q∈l.map (·.iD)->f' q+1=f q->(∀j,j≠q->f' j=f j)->(l.map λc=>f' c.iD).sum+1=(l.map λc=>f c.iD).sum
 | [],_,h,_,_=>by cases h
 | a::l,b,h,k,d=>by
  simp only[JQ,ZY,RN]at b ⊢;by_cases e:a.iD=q
  .have g:(l.map λc=>f' c.iD)=l.map λc=>f c.iD:=Dd λc i=>d _ λm=>b.1 (by rw[e,<- m];exact Jl.2 ⟨c,i,rfl⟩);rw[g,e];omega
  .have n:=Qay b.2 ((QF.1 h).resolve_left λg=>e g.symm) k d;rw[d _ e];omega
def Ig(M:Qo)(a:Nat):(takeN M a).T=M.T:=by
 unfold takeN;split
 .exact(Eh M a).2.1
 .rw[QBB];exact(Eh M a).2.1
def QkC{M}(I:Qz M)(V:Inv M){c}(h:YE M c=true):Jh (takeN M c)+1=Jh M:=by
 obtain⟨x,l,d,p⟩:=lJ I V h;unfold Jh;rw[Ig];have o:(M.T.map (·.iD)).Nodup:=by
  have h:M.T.Pairwise (λa b=>a.iD<b.iD):=I.tree.rising;rw[RM,IJ];exact h.imp λr=>ω
 refine Qay (q:=WJ M c) (f:=λj=>(Zs M j).length) (f':=λj=>(Zs (takeN M c) j).length) o ?_ ?_ λj i=>?_
 .unfold Zs QD at d;cases g:Qk M.N (WJ M c) with
  | none=>rw[g]at d;cases d
  | some n=>
   obtain⟨m,k⟩:=(VH I.tree.rising).1 (I.some g);exact Jl.2 ⟨n.c,m,k⟩
 .rw[Es,Qe ⟨h,rfl⟩,d];simp
 .rw[Es,Qd λe=>i e.2.symm]
def vU(b a c:Nat):Nat:=min (max (max b a) c) 9223372036854775808
def QkD{M:Qo}(I:Qz M)(V:Inv M){a until_ b}(e:M.Qh<=a)(d:b<=4611686018427387904)(h:vU a until_ (qK M)<=b):
  YE M (vU a until_ (qK M))=true/\until_<=vU a until_ (qK M)/\a<=vU a until_ (qK M):=by
 have f:vU a until_ (qK M)=max (max a until_) (qK M):=by unfold vU at h ⊢;omega
 have c:=QkB I V (now:=vU a until_ (qK M)) ω ω;rw[c];refine⟨QT ⟨ω,ω⟩,ω,ω⟩
structure kG where
 p:Nat
 b:Nat
 r:Nat
 w:Nat
 l:Nat
instance:Inhabited kG:=⟨⟨0,0,0,0,0⟩⟩
def kG.Ok(r:kG):Prop:=r.p<18446744073709551616/\r.b<18446744073709551616/\r.r<18446744073709551616/\r.w<18446744073709551616/\r.l<18446744073709551616
structure Et where
 Jd:Int->List Nat
 rows:Int->kG
def w9(s:Et)(a:Int)(b:Nat):Et:={ s with Jd:=λk=>if k=a then s.Jd k++[b] else s.Jd k }
def Ac(r:kG)(a done:Nat)(b:Int)(c:Bool):kG:=
 ⟨(r.p+1) % 18446744073709551616,(r.b+b.toNat) % 18446744073709551616,if c=true then (r.r+1) % 18446744073709551616 else r.r,(r.w+(done - a)) % 18446744073709551616,max r.l (done - a)⟩
def Y6(s:Et)(c:Int)(done:Nat)(b:Int)(d:Bool):Et:=match s.Jd c with
 | []=>s
 | a::l=>if b<1 then s else if done<a then s else
  ⟨λk=>if k=c then l else s.Jd k,λk=>if k=c then Ac (s.rows k) a done b d else s.rows k⟩
def Zu(x:Pk):List Int:=[x.xF,x.xG,x.xH,x.xI]
def JX.mask(r:JX):List Int:=[r.A3,r.A4,r.Fo,r.DI]
def JX.want(r:JX):List Int:=[r.LO,r.LP,r.LQ,r.Fp]
def xg(a b:Int):Int:=bits .and .u16 a b
def af(h m:List Int):List Int:=List.zipWith xg h m
def jf(r:JX)(h:List Int):Bool:=af h r.mask==r.want
def Ad(r:JX):Bool:=decide (1<=r.cls)&&decide (r.cls<=65536)&&(af r.want r.mask==r.want)
def Jn(R:List JX)(h:List Int):Int:=match R.find? λr=>jf r h with
 | some r=>r.cls
 | none=>0
def zx(R:List JX):Int:=if 32<R.length then 2 else if R.all Ad=true then 0 else 1
structure ZE where
 M:Qo
 JW:Nat
 R:List JX
 st:Et
 Qh:Nat
 ops:Nat
def Y7(c:Cf)(a:Int):Nat:=a.toNat*c.t.toNat
def Bz(c b:Nat)(a:Int)(x:Pk):Ev:=⟨c,true,false,b,0,a,x.iD,x.len,x.xF,x.xG,x.xH,x.xI⟩
def Eu(d:Nat)(a:Bool)(c done:Nat)(b:Int)(x:Pk):Ev:=⟨d,false,a,c,done,b,x.iD,x.len,x.xF,x.xG,x.xH,x.xI⟩
def Jk(S:ZE)(b a:Nat):ZE × List Ev:=
 if a<S.JW then (S,[]) else
 if YE S.M a=true then
  ({ S with M:=takeN S.M a,JW:=a+Y7 S.M.lk (Vn S.M a).len,st:=Y6 S.st (WJ S.M a) (a+Y7 S.M.lk (Vn S.M a).len) (Vn S.M a).len (By S.M a) },
   [Eu b (By S.M a) a (a+Y7 S.M.lk (Vn S.M a).len) (WJ S.M a) (Vn S.M a)])
 else ({ S with M:=takeN S.M a },[])
def Q1(S:ZE):Nat:=vU S.Qh S.JW (qK S.M)
def JY(c e:Nat):Nat->ZE->ZE × List Ev
 | 0,S=>({ S with Qh:=e },[])
 | n+1,S=>if e<Q1 S then ({ S with Qh:=e },[]) else
  let a:=Jk { S with Qh:=Q1 S } c (Q1 S);let b:=JY c e n a.1
  (b.1,a.2++b.2)
structure Y8 where
 err:Int
 place:Int
 cls:Int
instance:Inhabited Y8:=⟨⟨0,0,0⟩⟩
structure Na where
 S:ZE
 r:Y8
 l:List Ev
def Yn(S:ZE)(b a:Nat):Na:=
 if 4611686018427387904 - S.Qh<a then ⟨S,⟨27,0,0⟩,[]⟩ else
 ⟨(JY b (S.Qh+a) (Jh S.M+1) S).1,⟨0,0,0⟩,(JY b (S.Qh+a) (Jh S.M+1) S).2⟩
def Yo(S:ZE)(b:Nat)(x:Pk):Na:=
 if Jn S.R (Zu x)=0 then ⟨S,⟨31,0,0⟩,[]⟩ else
 if qI S.M S.Qh (Jn S.R (Zu x)) x=0 then
  let a:=Jk { S with M:=Jg S.M S.Qh (Jn S.R (Zu x)) x,st:=w9 S.st (Jn S.R (Zu x)) S.Qh } b S.Qh
  ⟨a.1,⟨0,0,Jn S.R (Zu x)⟩,Bz b S.Qh (Jn S.R (Zu x)) x::a.2⟩
 else ⟨{ S with M:=Jg S.M S.Qh (Jn S.R (Zu x)) x },⟨qI S.M S.Qh (Jn S.R (Zu x)) x,0,Jn S.R (Zu x)⟩,[]⟩
def Km(S:ZE)(a:Nat)(o:Zd):Na:=
 if o.kind=1 then ⟨{ S with M:=J4 S.M (decide (S.JW<=S.Qh)) o.changes },⟨Y3 S.M (decide (S.JW<=S.Qh)) o.changes,ya S.M o.changes,0⟩,[]⟩
 else if o.kind=2 then (if zx o.rules=0 then ⟨{ S with R:=o.rules },⟨0,0,0⟩,[]⟩ else ⟨S,⟨zx o.rules,0,0⟩,[]⟩)
 else if o.kind=3 then Yo S a o.ZA
 else if o.kind=4 then Yn S a o.KM.toNat
 else ⟨S,⟨1,0,0⟩,[]⟩
def JN(S:ZE)(o:Zd):Na:=Km { S with ops:=S.ops+1 } S.ops o
def S0(c:Cf):ZE:=⟨M0 c,0,[],⟨λ_=>[],λ_=>default⟩,0,0⟩
def ZH(S:ZE):List Zd->ZE × List Y8 × List Ev
 | []=>(S,[],[])
 | o::l=>((ZH (JN S o).S l).1,(JN S o).r::(ZH (JN S o).S l).2.1,(JN S o).l++(ZH (JN S o).S l).2.2)
def lL:∀(l m:List Zd) (S:ZE),ZH S (l++m)=((ZH (ZH S l).1 m).1,(ZH S l).2.1++(ZH (ZH S l).1 m).2.1,(ZH S l).2.2++(ZH (ZH S l).1 m).2.2)
 | [],m,S=>rfl
 | o::l,m,S=>by simp only[qc,ZH,lL l m,W9]
structure Z5 (S:ZE):Prop where
 I:Qz S.M
 V:Inv S.M
 K:W8 S.M.lk
 len:∀j,∀x∈Zs S.M j,1<=x.len/\x.len<=S.M.lk.JI
 mc:S.M.Qh<=S.Qh
 cl:S.Qh<=4611686018427387904
 un:S.JW<=4611686018427387904+1073741824
 st:∀k,(S.st.rows k).Ok
 ca:∀k,∀a∈S.st.Jd k,a<18446744073709551616
def QkE{P:List Pk->Prop}(d:P [])(f:List Qm)(b:Int):∀(L:List Int) (M:Qo),(∀n,Qk M.N b=some n->P n.q.l)->∀n,Qk (L.foldl (J3 f) M).N b=some n->P n.q.l
 | [],M,h=>h
 | i::L,M,h=>QkE d f b L _ λn a=>by
  have e:∀(k:Qm),Qk (XH k::jE M.N i) b=some n->P n.q.l:=λk a=>by
   unfold Qk at a;rw[vZ]at a;split at a
   .cases a;exact d
   .have c:Qk (jE M.N i) b=some n:=a;rw[Gc]at c;split at c
    .cases c
    .exact h n c
  unfold J3 at a;split at a
  .rw[Gc]at a;split at a
   .cases a
   .exact h n a
  .split at a
   .exact e _ a
   .exact e _ a
def QBJ{P:List Pk->Prop}(b:P []){M:Qo}{j:Int}(h:P (Zs M j))(n:Nd)(a:Qk M.N j=some n):P n.q.l:=by
 unfold Zs QD at h;rw[a]at h;exact h
def QkF{P:List Pk->Prop}(a:P []){M:Qo}(b:Bool)(l:List Z4){j:Int}(h:P (Zs M j)):P (Zs (J4 M b l) j):=by
 unfold J4;split
 .have m:∀id,P (Zs M id)->P (QD (VK M (Jm M.T l)) id).q.l:=λid o=>by
   unfold QD VK;cases c:Qk ((Kb M.T (Jm M.T l)).foldl (J3 (Jm M.T l)) { M with T:=Jm M.T l }).N id with
   | none=>exact a
   | some n=>exact QkE a _ id _ { M with T:=Jm M.T l } (QBJ a o) n c
  unfold Zs QD;show P ((Qk (XI M (Jm M.T l)) j).getD default).q.l;cases c:Qk (XI M (Jm M.T l)) j with
  | none=>exact a
  | some n=>
   have g:n∈XI M (Jm M.T l):=wc c;have i:=yj c;obtain⟨k,p,rfl⟩:=Jl.1 g;have d:k.iD=j\/(QD (VK M (Jm M.T l)) k.iD).q.l=[]:=by
    by_cases e:(QD (VK M (Jm M.T l)) k.iD).c.iD=k.iD
    .left;rw[<- e];simpa using i
    .right;unfold QD at e ⊢;cases f:Qk (VK M (Jm M.T l)).N k.iD with
     | none=>rfl
     | some n=>
      rw[f]at e;have:=yj f;exact absurd (by simpa using this) e
   rcases d with rfl|d
   .exact m _ h
   .show P (QD (VK M (Jm M.T l)) k.iD).q.l;rw[d];exact a
 .exact h
def QBK{r:kG}(h:r.Ok){a done}(e:done<18446744073709551616)(b)(c:Bool):(Ac r a done b c).Ok:=by
 obtain⟨j,i,d,g,f⟩:=h;unfold Ac;refine⟨Xx _ π,Xx _ π,?_,Xx _ π,?_⟩
 .dsimp only;split
  .exact Xx _ π
  .exact d
 .dsimp only;omega
def Ih(M:Qo)(a:Nat):(takeN M a).lk=M.lk:=Qkv M a
def QBL(M:Qo)(a:Nat):(takeN M a).Qh=M.Qh\/((takeN M a).Qh=a/\a<=4611686018427387904):=by
 unfold takeN;split
 .exact Qax M _
 .rw[QBG];exact Qax M _
def QBM(M:Qo)(a)(b)(x:Pk):(Jg M a b x).Qh=M.Qh\/((Jg M a b x).Qh=a/\a<=4611686018427387904):=by
 unfold Jg;split
 .rw[QBI];exact Qax M _
 .exact .inl rfl
def QBN(M:Qo)(b)(l:List Z4):(J4 M b l).Qh=M.Qh:=by
 unfold J4;split
 .exact(HY _ _).2.2.2.1
 .rfl
def Qaz{M:Qo}{a}{b}{x:Pk}(h:qI M a b x=0):1<=x.len/\x.len<=M.lk.JI:=by
 unfold qI at h;split at h
 .have c:(ZV M a).lk=M.lk:=lI M a;unfold VY at h;split at h
  .cases h
  .split at h
   .cases h
   .split at h
    .cases h
    .rename_i d;rw[c]at d;omega
 .cases h
def QBO{s:Et}(h:(∀k,(s.rows k).Ok)/\∀k,∀a∈s.Jd k,a<18446744073709551616)(c){done}(f:done<18446744073709551616)(b)(d:Bool):(∀k,((Y6 s c done b d).rows k).Ok)/\∀k,∀a∈(Y6 s c done b d).Jd k,a<18446744073709551616:=by
 unfold Y6;cases g:s.Jd c with
 | nil=>exact h
 | cons a l=>
  dsimp only;split
  .exact h
  .split
   .exact h
   .refine⟨λk=>?_,λk x hx=>?_⟩
    .dsimp only;split
     .exact QBK (h.1 k) f _ _
     .exact h.1 k
    .dsimp only at hx;split at hx
     .rename_i e;exact h.2 c x (by rw[g];exact Ki _ hx)
     .exact h.2 k x hx
def ag{c:Cf}(K:W8 c){a}(h:1<=a/\a<=c.JI):1<=Y7 c a/\Y7 c a<=1073741824:=by
 have j:=K.t1;have i:=K.t2;have g:=K.l2;unfold Y7;have f:1<=a.toNat:=ω;have e:a.toNat<=16384:=ω;have d:1<=c.t.toNat:=ω;have b:c.t.toNat<=65536:=ω;exact⟨Ys f d,Ys e b⟩
def Z5.take_len{S:ZE}(T:Z5 S){a:Nat}(h:YE S.M a=true):1<=(Vn S.M a).len/\(Vn S.M a).len<=S.M.lk.JI:=by
 obtain⟨x,l,c,b⟩:=lJ T.I T.V h;rw[b];exact T.len _ x (by rw[c];exact Kx)
def Z5.takeN{S:ZE}(T:Z5 S):Z5 { S with M:=takeN S.M S.Qh } where
 I:=T.I.takeN T.V _
 V:=T.V.takeN T.I _
 K:=by show W8 (X.takeN S.M S.Qh).lk;rw[Ih];exact T.K
 len:=λj x hx=>by
  have hx:x∈Zs (X.takeN S.M S.Qh) j:=hx;show 1<=x.len/\x.len<=(X.takeN S.M S.Qh).lk.JI;rw[Ih];rw[Es]at hx;split at hx
  .exact T.len j x (List.mem_of_mem_tail hx)
  .exact T.len j x hx
 mc:=by
  show (X.takeN S.M S.Qh).Qh<=S.Qh;have:=T.mc;rcases QBL S.M S.Qh with h|h<;>omega
 cl:=T.cl
 un:=T.un
 st:=T.st
 ca:=T.ca
def Z5.Ii{S:ZE}(T:Z5 S)(c):Z5 (Jk S c S.Qh).1:=by
 unfold Jk;split
 .exact T
 .split
  .rename_i h;have e:=ag T.K (T.take_len h);have d:=T.cl;have a:=T.takeN;have b:=QBO ⟨T.st,T.ca⟩ (WJ S.M S.Qh) (done:=S.Qh+Y7 S.M.lk (Vn S.M S.Qh).len) ω (Vn S.M S.Qh).len (By S.M S.Qh);exact⟨a.I,a.V,a.K,a.len,a.mc,T.cl,by dsimp only;omega,b.1,b.2⟩
  .exact T.takeN
def Z5.at_{S:ZE}(T:Z5 S){e}(b:S.Qh<=e)(a:e<=4611686018427387904):Z5 { S with Qh:=e }:=
 ⟨T.I,T.V,T.K,T.len,Kv T.mc b,a,T.un,T.st,T.ca⟩
def Nb(S:ZE)(b a:Nat):(Jk S b a).1.Qh=S.Qh/\(Jk S b a).1.ops=S.ops/\(Jk S b a).1.R=S.R:=by
 unfold Jk;split
 .exact⟨rfl,rfl,rfl⟩
 .split<;>exact⟨rfl,rfl,rfl⟩
def Rj(S:ZE)(h:S.Qh<=4611686018427387904):S.Qh<=Q1 S:=by
 unfold Q1 vU;omega
def Z5.go{a e}(b:e<=4611686018427387904):∀(n:Nat) {S:ZE},Z5 S->S.Qh<=e->Z5 (JY a e n S).1
 | 0,S,T,h=>T.at_ h b
 | n+1,S,T,h=>by
  unfold JY;split
  .exact T.at_ h b
  .rename_i d;have c:=(T.at_ (Rj S T.cl) (show Q1 S<=4611686018427387904 from ω)).Ii a;refine Z5.go b n c ?_;have:=(Nb { S with Qh:=Q1 S } a (Q1 S)).1;rw[this];show Q1 S<=e;omega
def Z5.put{S:ZE}(T:Z5 S)(a)(x):Z5 { S with M:=Jg S.M S.Qh a x } where
 I:=T.I.Jg T.V _ (by have:=T.cl;omega) _ _
 V:=T.V.Jg T.I _ (by have:=T.cl;omega) _ _
 K:=by show W8 (Jg S.M S.Qh a x).lk;rw[If];exact T.K
 len:=λj y b=>by
  have b:y∈Zs (Jg S.M S.Qh a x) j:=b;show 1<=y.len/\y.len<=(Jg S.M S.Qh a x).lk.JI;rw[If];rw[Gg]at b;split at b
  .rename_i h;rcases Q3.1 b with h2|h2
   .exact T.len j y h2
   .simp only[X1]at h2;subst h2;exact Qaz h.1
  .exact T.len j y b
 mc:=by
  show (Jg S.M S.Qh a x).Qh<=S.Qh;have:=T.mc;rcases QBM S.M S.Qh a x with h|h<;>omega
 cl:=T.cl
 un:=T.un
 st:=T.st
 ca:=T.ca
def Z5.Jd{S:ZE}(T:Z5 S)(d)(a)(e:a<18446744073709551616):Z5 { S with st:=w9 S.st d a }:=
 ⟨T.I,T.V,T.K,T.len,T.mc,T.cl,T.un,T.st,λk b c=>by
  have c:b∈(if k=d then S.st.Jd k++[a] else S.st.Jd k):=c;split at c
  .rcases Q3.1 c with h|h
   .exact T.ca k b h
   .simp only[X1]at h;omega
  .exact T.ca k b c⟩
def Z5.change{S:ZE}(T:Z5 S)(b){l}(a:∀c∈l,Z4.Ok c):Z5 { S with M:=J4 S.M b l } where
 I:=T.I.J4 T.V b l a
 V:=T.V.J4 T.I b l a
 K:=by show W8 (J4 S.M b l).lk;rw[Ri];exact T.K
 len:=λj=>by
  show ∀x∈Zs (J4 S.M b l) j,1<=x.len/\x.len<=(J4 S.M b l).lk.JI;rw[Ri];exact QkF (P:=λq=>∀x∈q,1<=x.len/\x.len<=S.M.lk.JI) (λx hx=>by cases hx) b l (T.len j)
 mc:=by show (J4 S.M b l).Qh<=S.Qh;rw[QBN];exact T.mc
 cl:=T.cl
 un:=T.un
 st:=T.st
 ca:=T.ca
def Z5.one{S}(T:Z5 S)(a){o:Zd}(b:∀c∈o.changes,Z4.Ok c):Z5 (Km S a o).S:=by
 unfold Km;split
 .exact T.change _ b
 .split
  .split
   .exact⟨T.I,T.V,T.K,T.len,T.mc,T.cl,T.un,T.st,T.ca⟩
   .exact T
  .split
   .unfold Yo;split
    .exact T
    .split
     .exact Z5.Ii (S:={ S with M:=Jg S.M S.Qh (Jn S.R (Zu o.ZA)) o.ZA,st:=w9 S.st (Jn S.R (Zu o.ZA)) S.Qh }) ((T.put _ _).Jd _ _ (by have:=T.cl;show S.Qh<_;omega)) a
     .exact T.put _ _
   .split
    .unfold Yn;split
     .exact T
     .have:=T.cl;exact T.go ω _ ω
    .exact T
def Z5.ops{S}(T:Z5 S)(n):Z5 { S with ops:=n }:=⟨T.I,T.V,T.K,T.len,T.mc,T.cl,T.un,T.st,T.ca⟩
def Z5.do{S}(T:Z5 S){o:Zd}(a:∀c∈o.changes,Z4.Ok c):Z5 (JN S o).S:=(T.ops _).one _ a
def QaA(a e):∀(n:Nat) (S:ZE),(JY a e n S).1.ops=S.ops/\(JY a e n S).1.Qh=e
 | 0,S=>⟨rfl,rfl⟩
 | n+1,S=>by
  unfold JY;split
  .exact⟨rfl,rfl⟩
  .obtain⟨c,b⟩:=QaA a e n (Jk { S with Qh:=Q1 S } a (Q1 S)).1;exact⟨c.trans (Nb _ _ _).2.1,b⟩
def QBP(S:ZE)(a)(o:Zd):(Km S a o).S.ops=S.ops:=by
 unfold Km;split
 .rfl
 .split
  .split<;>rfl
  .split
   .unfold Yo;split
    .rfl
    .split
     .exact(Nb _ _ _).2.1
     .rfl
   .split
    .unfold Yn;split
     .rfl
     .exact(QaA _ _ _ _).1
    .rfl
def QkG(S:ZE)(o:Zd):(JN S o).S.ops=S.ops+1:=QBP _ _ _
def ahead(b:Int):Int->List Ev->Prop
 | _,[]=>True
 | a,v::l=>a<=v.at_/\v.at_<=b/\(v.J9=true->v.done=0)/\(v.J9=false->v.at_<v.done)/\ahead b v.at_ l
def QaB{S}(T:Z5 S)(a){e}(d:e<=4611686018427387904)(h:Q1 S<=e):
  Z5 (Jk { S with Qh:=Q1 S } a (Q1 S)).1/\Jh (Jk { S with Qh:=Q1 S } a (Q1 S)).1.M+1=Jh S.M/\S.Qh<=Q1 S/\(Jk { S with Qh:=Q1 S } a (Q1 S)).1.Qh=Q1 S:=by
 obtain⟨b,c,f⟩:=QkD T.I T.V (until_:=S.JW) T.mc d h;have g:=(T.at_ (Rj S T.cl) (show Q1 S<=4611686018427387904 from ω));refine⟨g.Ii a,?_,f,(Nb _ _ _).1⟩;have b:YE S.M (Q1 S)=true:=b;have c:S.JW<=Q1 S:=c;unfold Jk;rw[Qd (show ¬Q1 S<S.JW from ω)];show Jh (if YE S.M (Q1 S)=true then _ else _:ZE × List Ev).1.M+1=Jh S.M;rw[Qe b];exact QkC T.I T.V b
structure QIg (S:ZE) (D:Na):Prop where
 next:D.S.Qh<Q1 D.S
 Qh:S.Qh<=D.S.Qh
 ev:ahead D.S.Qh S.Qh D.l
def zy(r:JX):Bool:=r.A3==65535&&(r.A4==65535&&(r.Fo==65535&&r.DI==65535))
def ai(n:Int):Prop:=0<=n/\n<65536
def lM{a}(h:ai a):xg a 65535=a:=by
 obtain⟨n,rfl⟩:∃n:Nat,a=n:=⟨a.toNat,by have:=h.1;omega⟩;have c:n<65536:=by have:=h.2;omega
 have b:(BitVec.ofInt 16 (n:Int)).toNat=n:=by
  rw[BitVec.ofInt_natCast,BitVec.toNat_ofNat];exact Aq ω
 show IntKind.u16.wrap ((BitVec.ofInt 16 (n:Int) &&& BitVec.ofInt 16 65535).toNat:Int)=_;rw[BitVec.toNat_and,b,show (BitVec.ofInt 16 65535).toNat=2 ^ 16 - 1 from rfl,Nat.and_two_pow_sub_one_eq_mod];rw[show IntKind.u16.wrap ((n % 2 ^ 16:Nat):Int)=((n % 2 ^ 16:Nat):Int) % 65536 by simp[IntKind.wrap,IntKind.bits,IntKind.signed]];omega
def JK(R:List JX)(i:Nat):JX:=R.getD i default
def QaC(p:JX->Bool):∀(R:List JX) (i:Nat),i<R.length->p (JK R i)=true->(∀j,j<i->p (JK R j)=false)->R.find? p=some (JK R i)
 | [],i,b,_,_=>by simp at b
 | r::R,0,b,a,_=>by
  have a:p r=true:=a;rw[vZ,a];rfl
 | r::R,i+1,b,a,c=>by
  have d:p r=false:=c 0 ω;rw[vZ,d];exact QaC p R i (by simpa using b) a λj e=>c (j+1) ω
def QkH(p:JX->Bool):∀(R:List JX),(∀j,j<R.length->p (JK R j)=false)->R.find? p=none
 | [],_=>rfl
 | r::R,a=>by
  have c:p r=false:=a 0 σ;rw[vZ,c];exact QkH p R λj b=>a (j+1) (by simpa using b)
structure qa (R:List JX) (n:Nat) (es:List XN) (ms:List Nat):Prop where
 yes:∀k d,Xp es k=some d->∃i:Nat,d=Qb i/\i<n/\zy (JK R i)=true/\(JK R i).want=k/\∀j,j<i->¬(zy (JK R j)=true/\(JK R j).want=k)
 no:∀k,Xp es k=none->∀j,j<n->¬(zy (JK R j)=true/\(JK R j).want=k)
 mem:∀j,j∈ms↔j<n/\zy (JK R j)=false
 inc:ms.Pairwise (·<·)
 four:∀e∈es,e.k.length=4
def qa.nil(R:List JX):qa R 0 [] []:=⟨λk d h=>(by cases h),λk h j a=>absurd a (X2 j),λj=>σ,.nil,λe h=>(by cases h)⟩
def QaD:∀(a:List XN) (e:XN) (k:List Int),Xp (a++[e]) k=match Xp a k with
  | some d=>some d
  | none=>if e.k=k then some e.v else none
 | [],e,k=>by simp[Xp]
 | x::a,e,k=>by
  simp only[qc,Xp];split
  .rfl
  .exact QaD a e k
def qa.mask{R}{n}{l}{g}(T:qa R n l g)(h:zy (JK R n)=false):qa R (n+1) l (g++[n]) where
 yes:=λk d p=>by
  obtain⟨i,c,e,f⟩:=T.yes k d p;exact⟨i,c,ω,f⟩
 no:=λk m j o=>by
  rcases xo.1 o with c|rfl
  .exact T.no k m j c
  .exact λe=>by rw[h]at e;cases e.1
 mem:=λj=>by
  rw[Q3,T.mem j,X1];constructor
  .rintro (c|rfl)
   .exact⟨ω,c.2⟩
   .exact⟨ω,h⟩
  .rintro⟨c,e⟩;rcases xo.1 c with f|rfl
   .exact .inl ⟨f,e⟩
   .exact .inr rfl
 inc:=by
  rw[bj];exact⟨T.inc,List.pairwise_singleton _ _,λa r b q=>by
   simp only[X1]at q;have:=((T.mem a).1 r).1;omega⟩
 four:=T.four
def qa.QkI{R}{n}{e}{b}(T:qa R n e b)(h:zy (JK R n)=true):∀j,j∈b↔j<n+1/\zy (JK R j)=false:=λj=>by
 rw[T.mem j];constructor
 .rintro⟨c,a⟩;exact⟨ω,a⟩
 .rintro⟨c,a⟩;rcases xo.1 c with d|rfl
  .exact⟨d,a⟩
  .rw[h]at a;cases a
def qa.there{R}{n:Nat}{e}{f}(T:qa R n e f)(h:zy (JK R n)=true)(b:(Xp e (JK R n).want).isSome=true):qa R (n+1) e f where
 yes:=λk d m=>by
  obtain⟨i,c,b,a⟩:=T.yes k d m;exact⟨i,c,ω,a⟩
 no:=λk g j l=>by
  rcases xo.1 l with c|rfl
  .exact T.no k g j c
  .exact λa=>by rw[a.2,g]at b;cases b
 mem:=T.QkI h
 inc:=T.inc
 four:=T.four
def qa.new{R}{n:Nat}{f}{o}(T:qa R n f o)(h:zy (JK R n)=true)(q:Xp f (JK R n).want=none)(c):qa R (n+1) (f++[⟨(JK R n).want,Qb n,c⟩]) o where
 yes:=λk d b=>by
  rw[QaD]at b;cases a:Xp f k with
  | some d2=>
   rw[a]at b;cases b;obtain⟨i,h1,q,l⟩:=T.yes k d a;exact⟨i,h1,ω,l⟩
  | none=>
   rw[a]at b;dsimp only at b;split at b
   .rename_i e;cases b;exact⟨n,rfl,ω,h,e,λj g=>T.no k a j g⟩
   .cases b
 no:=λk a j g=>by
  rw[QaD]at a;cases m:Xp f k with
  | some d2=>rw[m]at a;cases a
  | none=>
   rw[m]at a;dsimp only at a;split at a
   .cases a
   .rename_i e;rcases xo.1 g with h1|rfl
    .exact T.no k m j h1
    .exact λl=>e l.2
 mem:=(T.QkI h)
 inc:=T.inc
 four:=λe p=>by
  rcases Q3.1 p with h1|h1
  .exact T.four e h1
  .simp only[X1]at h1;subst h1;rfl
def aj(x:Pk):Prop:=ai x.xF/\ai x.xG/\ai x.xH/\ai x.xI
def lN{r:JX}{x}(a:aj x)(h:zy r=true):jf r (Zu x)=(r.want==Zu x):=by
 unfold zy at h;simp only[ZL,zF]at h;obtain⟨e,d,c,b⟩:=h;unfold jf af Zu JX.mask;rw[e,d,c,b];simp only[List.zipWith_cons_cons,List.zipWith_nil_right,lM a.1,lM a.2.1,lM a.2.2.1,lM a.2.2.2];rw[vX];simp only[zF];exact eq_comm
section
variable {R:List JX}{es:List XN}{ms:List Nat}(T:qa R R.length es ms){x:Pk}(hx:aj x)
include T hx
theorem qa.XM{i}(h:i<R.length)(n:zy (JK R i)=false)(f:jf (JK R i) (Zu x)=true)(m:∀j∈ms,j<i->jf (JK R j) (Zu x)=false)
  (l:∀a:Nat,Xp es (Zu x)=some (Qb a)->¬a<i):R.find? (λr=>jf r (Zu x))=some (JK R i):=
 QaC _ R i h f λj g=>by
  cases b:zy (JK R j) with
  | false=>exact m j ((T.mem j).2 ⟨ω,b⟩) g
  | true=>
   rw[lN hx b,jN];intro e;cases c:Xp es (Zu x) with
   | none=>exact T.no _ c j ω ⟨b,e⟩
   | some d=>
    obtain⟨a,rfl,q,p,o,k⟩:=T.yes _ _ c;have:=l a c;exact k j ω ⟨b,e⟩
theorem qa.whole{a:Nat}(f:Xp es (Zu x)=some (Qb a))(l:∀j∈ms,j<a->jf (JK R j) (Zu x)=false):a<R.length/\R.find? (λr=>jf r (Zu x))=some (JK R a):=by
 obtain⟨i,e,d,k,h,g⟩:=T.yes _ _ f;have e:a=i:=by
  unfold Qb at e;simp only[D.raw.injEq,Value.int.injEq,yl]at e;omega
 subst e;refine⟨d,QaC _ R a d (by rw[lN hx k,h];simp) λj c=>?_⟩;cases b:zy (JK R j) with
 | false=>exact l j ((T.mem j).2 ⟨ω,b⟩) c
 | true=>
  rw[lN hx b,jN];exact λe=>g j c ⟨b,e⟩
theorem qa.none(c:Xp es (Zu x)=Option.none)(d:∀j∈ms,jf (JK R j) (Zu x)=false):R.find? (λr=>jf r (Zu x))=Option.none:=
 QkH _ R λj b=>by
  cases a:zy (JK R j) with
  | false=>exact d j ((T.mem j).2 ⟨b,a⟩)
  | true=>
   rw[lN hx a,jN];exact λe=>T.no _ c j b ⟨a,e⟩
end
@[go_sem] def kG.cells(r:kG):List D:=[u64 r.p,u64 r.b,u64 r.r,u64 r.w,u64 r.l]
@[go_sem] def jG(a b c d f e:Nat):Ob:=⟨.one,0,6,1,λ_=>[.ptr a 0 0 0,.ptr b 0 0 0,.ptr c 0 0 0,.ptr d 0 0 0,u64 f,Qb e]⟩
@[go_sem] def jH(a b c:Nat)(t:Int)(u:Nat):Ob:=⟨.one,0,5,1,λ_=>[u64 a,u64 b,u64 c,Qb t,u64 u]⟩
@[go_sem] def stO(c r:Nat):Ob:=⟨.one,0,2,1,λ_=>[.mref c 0,.mref r 0]⟩
@[go_sem] def Nf(d:D)(e:Nat)(m:D):Ob:=⟨.one,0,3,1,λ_=>[d,.mref e 0,m]⟩
inductive TT where
 | no|sys|ln|Ij|st|my
deriving DecidableEq
def Ji(a:Nat->TT)(h:List Ob)(t:TT):Nat->TT:=λl=>if h.length<=l then t else a l
def VT{a}{h:List Ob}{t}{l}(b:l<h.length):Ji a h t l=a l:=by unfold Ji;rw[Qd ω]
def Gi{a}{h:List Ob}{t}{l}(b:h.length<=l):Ji a h t l=t:=by unfold Ji;rw[Qe b]
def kH{a}{h:List Ob}{t}{l}(b:h.length<=l):Q4 a h t l=t:=by unfold Q4;rw[Qe b]
def XY{b:Type}[Inhabited b](S:Nat->Prop)(h:List Ob)(e:Nat)(f:b->List D)(d:D)(l:List b):Prop:=
 (d=.nil/\l=[])\/∃c g a,d=.ref c g 0 l.length/\S c/\h[c]? = some ⟨.arr,g,e,l.length,a⟩/\∀i,i<l.length->a i=f (l.getD i default)
def XY.step{a:Type}[Inhabited a]{S S':Nat->Prop}{h h':List Ob}{k:Nat}{f:a->List D}{d:D}{l:List a}(e:∀j,j<h.length->S j->S' j/\h'[j]? = h[j]?):XY S h k f d l->XY S' h' k f d l:=λH=>
 H.imp id λ⟨b,g,i,o,m,c,n⟩=>⟨b,g,i,o,(e b (Qc c) m).1,by rw[(e b (Qc c) m).2];exact c,n⟩
def Ng(S:Nat->Prop)(h:List Ob)(d:D)(l:List Nat):Prop:=
 (d=.nil/\l=[])\/∃c g a b,d=.ref c g a l.length/\S c/\h[c]? = some ⟨.arr,g,1,a+l.length,b⟩/\∀i,i<l.length->b (a+i)=[u64 (l.getD i 0)]
def Ng.step{S S'}{h h':List Ob}{d}{l}(e:∀j,j<h.length->S j->S' j/\h'[j]? = h[j]?):Ng S h d l->Ng S' h' d l:=λH=>
 H.imp id λ⟨a,g,f,c,m,i,b,k⟩=>⟨a,g,f,c,m,(e a (Qc b) i).1,by rw[(e a (Qc b) i).2];exact b,k⟩
def Ng.nil{S}{h}{l}(H:Ng S h .nil l):l=[]:=by
 rcases H with a|⟨_,_,_,_,a,_⟩
 .exact a.2
 .cases a
structure Gj (S:Nat->Prop) (h:List Ob) (p cm rm c1:Nat) (ZP:List ZF) (c2:Nat) (Z8:List ZF) (s:Et):Prop where
 o:h[p]? = some (stO cm rm)
 co:h[cm]? = some (QS .i64 c1 ZP)
 ro:h[rm]? = some (QS .i64 c2 Z8)
 ne:cm≠rm
 sp:S p
 sc:S cm
 sr:S rm
 ca:∀k,Ng S h ((ZZ ZP k).getD .nil) (s.Jd k)
 sep:∀k k' lo g off n g' xr n',ZZ ZP k=some (.ref lo g off n)->ZZ ZP k'=some (.ref lo g' xr n')->k=k'
 rw_:∀k,(ZZ Z8 k).getD (.agg (default:kG).cells)=.agg (s.rows k).cells
def qL(S:Nat->Prop)(h:List Ob)(p:Nat)(s:Et):Prop:=∃b a d e c f,Gj S h p b a d e c f s
def Gj.step{S S'}{h h':List Ob}{p d b g}{i}{f}{m}{s}(e:∀j,j<h.length->S j->S' j/\h'[j]? = h[j]?)(T:Gj S h p d b g i f m s):Gj S' h' p d b g i f m s:=
 have k:∀l o,S l->h[l]? = some o->S' l/\h'[l]? = some o:=λl o c a=>⟨(e l (Qc a) c).1,(e l (Qc a) c).2.trans a⟩
 ⟨(k _ _ T.sp T.o).2,(k _ _ T.sc T.co).2,(k _ _ T.sr T.ro).2,T.ne,(k _ _ T.sp T.o).1,(k _ _ T.sc T.co).1,(k _ _ T.sr T.ro).1,λj=>(T.ca j).step e,T.sep,T.rw_⟩
def qL.step{S S'}{h h':List Ob}{p}{s}(e:∀j,j<h.length->S j->S' j/\h'[j]? = h[j]?):qL S h p s->qL S' h' p s:=λ⟨a,b,c,d,f,g,T⟩=>⟨a,b,c,d,f,g,T.step e⟩
structure QaF (S:Nat->Prop) (h:List Ob) (p:Nat) (dr:D) (le:Nat) (dm:D) (c:Nat) (es:List XN) (ms:List Nat) (R:List JX):Prop where
 o:h[p]? = some (Nf dr le dm)
 eo:h[le]? = some (wv c es)
 rs:XY S h 9 JX.cells dr R
 mo:XY S h 1 (λi:Nat=>[Qb i]) dm ms
 sp:S p
 se:S le
 I:qa R R.length es ms
 ok:zx R=0
def Il(S:Nat->Prop)(h:List Ob)(p:Nat)(R:List JX):Prop:=∃e b f c d a,QaF S h p e b f c d a R
def Il.step{S S'}{h h':List Ob}{p}{R}(e:∀j,j<h.length->S j->S' j/\h'[j]? = h[j]?):Il S h p R->Il S' h' p R:=λ⟨i,f,m,c,g,d,T⟩=>
 have k:∀l o,S l->h[l]? = some o->S' l/\h'[l]? = some o:=λl o b a=>⟨(e l (Qc a) b).1,(e l (Qc a) b).2.trans a⟩
 ⟨i,f,m,c,g,d,(k _ _ T.sp T.o).2,(k _ _ T.se T.eo).2,T.rs.step e,T.mo.step e,(k _ _ T.sp T.o).1,(k _ _ T.se T.eo).1,T.I,T.ok⟩
structure WK (own:Nat->Tag) (tw:Nat->TT) (h:List Ob) (p ps pl pr pt:Nat) (S:ZE):Prop where
 o:h[p]? = some (jG ps pl pr pt S.Qh S.ops)
 tp:tw p=.sys
 co:jF own h ps S.M
 ln:∃a b c,h[pl]? = some (jH a b c S.M.lk.t S.JW)
 tl:tw pl=.ln
 tb:Il (λl=>tw l=.Ij) h pr S.R
 st:qL (λl=>tw l=.st) h pt S.st
 ap:∀l,tw l≠.no->own l=.no
def Yp(a:Nat->Tag)(b:Nat->TT)(h:List Ob)(p:Nat)(S:ZE):Prop:=∃d f e c,WK a b h p d f e c S
def lO(a:Nat->Tag)(c:Nat->TT)(h:List Ob)(b:Nat->Tag)(e:Nat->TT)(d:List Ob):Prop:=
 ∀l,l<h.length->(Live (a l)->b l=a l/\d[l]? = h[l]?)/\(c l≠.no->c l≠.my->e l=c l/\d[l]? = h[l]?)
def WK.step{j own'}{m i}{h h'}{p q u r n}{S}(T:WK j m h p q u r n S)(e:lO j m h own' i h')(x:∀l,i l≠.no->own' l=.no):WK own' i h' p q u r n S:=by
 have k:∀l o t,m l=t->t≠.no/\t≠.my->h[l]? = some o->i l=t/\h'[l]? = some o:=λl o t d g v=>by
  obtain⟨a,b⟩:=(e l (Qc v)).2 (by rw[d];exact g.1) (by rw[d];exact g.2);exact⟨by rw[a,d],b.trans v⟩
 have s:∀t,t≠.no/\t≠.my->∀l,l<h.length->m l=t->i l=t/\h'[l]? = h[l]? := λt g l f d=>by
  obtain⟨a,b⟩:=(e l f).2 (by rw[d];exact g.1) (by rw[d];exact g.2);exact⟨by rw[a,d],b⟩
 obtain⟨a,b,c,f⟩:=T.ln;exact⟨(k _ _ _ T.tp σ T.o).2,(k _ _ _ T.tp σ T.o).1,T.co.step λl f w=>(e l f).1 w,⟨a,b,c,(k _ _ _ T.tl σ f).2⟩,(k _ _ _ T.tl σ f).1,T.tb.step (s _ σ),T.st.step (s _ σ),x⟩
structure Jv (n:Nat) (own:Nat->Tag) (tw:Nat->TT) (h:List Ob) (own':Nat->Tag) (Js:Nat->TT) (h':List Ob):Prop where
 s1:∀l,l<h.length->own' l=own l
 s2:∀l,l<h.length->Js l=tw l
 keep:∀l,l<n->own l=Tag.no->tw l=TT.no->h'[l]? = h[l]?
 my:∀l,l<h.length->tw l=TT.my->h'[l]? = h[l]?
 len:h.length<=h'.length
def Jv.refl(n)(a)(b:Nat->TT)(h):Jv n a b h a b h:=⟨λ_ _=>rfl,λ_ _=>rfl,λ_ _ _ _=>rfl,λ_ _ _=>rfl,QB _⟩
def Jv.trans{n}{f d o}{i p g}{h h' j:List Ob}(k:n<=h.length)(a:Jv n f i h d p h')(b:Jv n d p h' o g j):Jv n f i h o g j:=
 ⟨λl c=>(b.s1 l (wg c a.len)).trans (a.s1 l c),λl c=>(b.s2 l (wg c a.len)).trans (a.s2 l c),
  λl c e m=>(b.keep l c ((a.s1 l (wg c k)).trans e) ((a.s2 l (wg c k)).trans m)).trans (a.keep l c e m),λl c e=>(b.my l (wg c a.len) ((a.s2 l c).trans e)).trans (a.my l c e),Kv a.len b.len⟩
def Jv.core{n}{b a}{d}{h f:List Ob}(g:∀l,d l≠.no->b l=.no)(i:n<=h.length)(D:Zv b h a f):Jv n b d h a (Ji d h .no) f:=
 ⟨D.same,λl c=>VT c,λl c e _=>D.keep l ω e,λl c e=>D.keep l c (g l (by rw[e];simp)),D.len⟩
def WK.core{j d}{g}{h i}{p m n v u}{S:ZE}(T:WK j g h p m n v u S)(D:Zv j h d i){M:Qo}(C:jF d i m M)(w:M.lk=S.M.lk):WK d (Ji g h .no) i p m n v u { S with M:=M }:=by
 have k:∀l o t,g l=t->t≠.no->h[l]? = some o->Ji g h .no l=t/\i[l]? = some o:=λl o t f r q=>
  ⟨by rw[VT (Qc q),f],(D.keep l (Qc q) (T.ap l (by rw[f];exact r))).trans q⟩
 have s:∀t,t≠.no->∀l,l<h.length->g l=t->Ji g h .no l=t/\i[l]? = h[l]? := λt r l e f=>
  ⟨by rw[VT e,f],D.keep l e (T.ap l (by rw[f];exact r))⟩
 obtain⟨a,b,c,e⟩:=T.ln;refine⟨(k _ _ _ T.tp σ T.o).2,(k _ _ _ T.tp σ T.o).1,C,⟨a,b,c,?_⟩,(k _ _ _ T.tl σ e).1,T.tb.step (s _ σ),T.st.step (s _ σ),λl e=>?_⟩
 .show i[n]? = some (jH a b c M.lk.t S.JW);rw[w];exact(k _ _ _ T.tl σ e).2
 .by_cases f:l<h.length
  .rw[VT f]at e;rw[D.same l f];exact T.ap l e
  .rw[Gi ω]at e;exact absurd rfl e
def WK.app{a}{b}{h}{p d f e c}{S}(T:WK a b h p d f e c S)(g):WK (Q4 a h .no) (Ji b h .no) (h++g) p d f e c S:=
 T.core (Zv.app a h g .no) (T.co.PK g) rfl
def Jv.app{n}(b)(c:Nat->TT)(h g:List Ob)(t:TT)(d:n<=h.length):Jv n b c h (Q4 b h .no) (Ji c h t) (h++g):=
 ⟨λl a=>Ku a,λl a=>VT a,λl a _ _=>QE ω,λl a _=>QE a,σ⟩
def WK.Gk{b}{c}{h}{p e i f d}{S}(T:WK b c h p e i f d S)(g):WK (Q4 b h .no) (Ji c h .my) (h++g) p e i f d S:=
 T.step (λl a=>⟨λ_=>⟨Ku a,QE a⟩,λ_ _=>⟨VT a,QE a⟩⟩) λl a=>by
  by_cases j:l<h.length
  .rw[VT j]at a;rw[Ku j];exact T.ap l a
  .exact kH ω
def WK.loc{a}{b}{h:List Ob}{p g k i f}{S}(T:WK a b h p g k i f S){l}(q:a l=.no)(n:b l=.no\/b l=.my)(o):WK a b (h.set l o) p g k i f S:=
 T.step (λj _=>⟨λc=>⟨rfl,Ql (λe=>c.1 (by rw[<- e,q]))⟩,λc m=>⟨rfl,Ql (λe=>n.elim (λd=>c (by rw[<- e,d])) (λd=>m (by rw[<- e,d])))⟩⟩) T.ap
def WK.part{own}{b}{h d}{p f j i g}{S}(T:WK own b h p f j i g S){t}(m:t≠.no)(s:Step (λl=>b l=t) h d):
  jF (Q4 own h .no) d f S.M/\(∀u,u≠.no->u≠t->∀l,l<h.length->b l=u->Ji b h t l=u/\d[l]? = h[l]?)/\(∀l,Ji b h t l≠.no->Q4 own h .no l=.no):=by
 refine⟨T.co.step λl a k=>⟨Ku a,s.keep l a λe=>k.1 (T.ap l (by rw[e];exact m))⟩,λu q n l a c=>⟨by rw[VT a,c],s.keep l a λe=>n (by rw[<- c,e])⟩,λl a=>?_⟩;by_cases c:l<h.length
 .rw[VT c]at a;rw[Ku c];exact T.ap l a
 .exact kH ω
def Jv.part{n}{own}{b}{h f:List Ob}{t}(d:t≠.no/\t≠.my)(g:n<=h.length)(s:Step (λl=>b l=t) h f):Jv n own b h (Q4 own h .no) (Ji b h t) f:=
 ⟨λl a=>Ku a,λl a=>VT a,λl a _ c=>s.keep l ω λe=>d.1 (by rw[<- e,c]),λl a c=>s.keep l a λe=>d.2 (by rw[<- e,c]),s.len⟩
def QBQ{b}{h}{t}(l):more (λl=>b l=t) h l->Ji b h t l=t:=λa=>by
 unfold Ji;split
 .rfl
 .rcases a with a|a
  .exact a
  .omega
section
variable {own:Nat->Tag}{tw:Nat->TT}{h h':List Ob}{p ps pl pr pt:Nat}{S:ZE}(T:WK own tw h p ps pl pr pt S)
include T
theorem WK.link{u a b c}(s:Step (λl=>tw l=.ln) h h')(f:h'[pl]? = some (jH a b c S.M.lk.t u)):WK (Q4 own h .no) (Ji tw h .ln) h' p ps pl pr pt { S with JW:=u }:=by
 obtain⟨C,r,ap⟩:=T.part σ s;have k:∀l o t,tw l=t->t≠.no->t≠.ln->h[l]? = some o->Ji tw h .ln l=t/\h'[l]? = some o:=λl o t j i g d=>by
  obtain⟨a,b⟩:=r t i g l (Qc d) j;exact⟨a,b.trans d⟩
 obtain⟨_,_,_,e⟩:=T.ln;exact⟨(k _ _ _ T.tp σ σ T.o).2,(k _ _ _ T.tp σ σ T.o).1,C,⟨a,b,c,f⟩,by rw[VT (Qc e)];exact T.tl,T.tb.step (r _ σ σ),T.st.step (r _ σ σ),ap⟩
theorem WK.stat{e}(s:Step (λl=>tw l=.st) h h')(g:qL (more (λl=>tw l=.st) h) h' pt e):WK (Q4 own h .no) (Ji tw h .st) h' p ps pl pr pt { S with st:=e }:=by
 obtain⟨C,r,ap⟩:=T.part σ s;have k:∀l o t,tw l=t->t≠.no->t≠.st->h[l]? = some o->Ji tw h .st l=t/\h'[l]? = some o:=λl o t m j i f=>by
  obtain⟨a,b⟩:=r t j i l (Qc f) m;exact⟨a,b.trans f⟩
 obtain⟨a,b,c,d⟩:=T.ln;exact⟨(k _ _ _ T.tp σ σ T.o).2,(k _ _ _ T.tp σ σ T.o).1,C,⟨a,b,c,(k _ _ _ T.tl σ σ d).2⟩,(k _ _ _ T.tl σ σ d).1,T.tb.step (r _ σ σ),g.step λl _ d=>⟨QBQ l d,rfl⟩,ap⟩
theorem WK.clock(c o):WK own tw (h.set p (jG ps pl pr pt c o)) p ps pl pr pt { S with Qh:=c,ops:=o }:=by
 have k:∀l x t,tw l=t->t≠.sys->h[l]? = some x->(h.set p (jG ps pl pr pt c o))[l]? = some x:=λl x t f g m=>by
  rw[Ql (λe=>g (by rw[<- f,<- e,T.tp]))];exact m
 have s:∀t,t≠.sys->∀l,l<h.length->tw l=t->tw l=t/\(h.set p (jG ps pl pr pt c o))[l]? = h[l]? := λt g l i f=>
  ⟨f,Ql (λe=>g (by rw[<- f,<- e,T.tp]))⟩
 obtain⟨a,b,d,i⟩:=T.ln;exact⟨Qt (Qc T.o),T.tp,T.co.step λl _ j=>⟨rfl,Ql (λe=>j.1 (T.ap l (by rw[<- e,T.tp];simp)))⟩,⟨a,b,d,k _ _ _ T.tl σ i⟩,T.tl,T.tb.step (s _ σ),T.st.step (s _ σ),T.ap⟩
theorem WK.rules{g}{i}{R}(r:Il (λl=>h.length<=l) (h++g) i R):
  WK (Q4 own h .no) (Ji tw h .Ij) ((h++g).set p (jG ps pl i pt S.Qh S.ops)) p ps pl i pt { S with R:=R }:=by
 have q:=Qc T.o;have k:∀l x t,tw l=t->t≠.no->t≠.sys->h[l]? = some x->Ji tw h .Ij l=t/\((h++g).set p (jG ps pl i pt S.Qh S.ops))[l]? = some x:=λl x t f u m j=>by
  refine⟨by rw[VT (Qc j),f],?_⟩;rw[Ql (λe=>m (by rw[<- f,<- e,T.tp])),QE (Qc j)];exact j
 have s:∀t,t≠.no->t≠.sys->∀l,l<h.length->tw l=t->Ji tw h .Ij l=t/\((h++g).set p (jG ps pl i pt S.Qh S.ops))[l]? = h[l]? := λt u m l c f=>
  ⟨by rw[VT c,f],by rw[Ql (λe=>m (by rw[<- f,<- e,T.tp])),QE c]⟩
 obtain⟨a,b,d,c⟩:=T.ln;refine⟨Qt ξ,by rw[VT q];exact T.tp,T.co.step λl c n=>⟨Ku c,by rw[Ql (λe=>n.1 (T.ap l (by rw[<- e,T.tp];simp))),QE c]⟩,⟨a,b,d,(k _ _ _ T.tl σ σ c).2⟩,(k _ _ _ T.tl σ σ c).1,
  r.step λl c f=>⟨Gi f,Ql (λe=>ω)⟩,T.st.step (s _ σ σ),λl c=>?_⟩
 by_cases f:l<h.length
 .rw[VT f]at c;rw[Ku f];exact T.ap l c
 .exact kH ω
end
@[go_sem] def an(n:Int):D:=.raw (.int .u64 n)
def lP(n m):QI prog 217 [Qb n,Qb m] (QO (QX (decide (1<=n/\n<=m)))):=by
 refine QZ 0 func217 ntmps217 results217 λa w b=>?_;simp only[go_sem];first|refine qu (λh=>?_) (λh=>?_)|refine qv (λh=>?_) (λh=>?_)|refine qw (λh=>?_) (λh=>?_)|refine Wu (λh=>?_) (λh=>?_)|refine qx (λh=>?_) (λh=>?_)|refine qy (λh=>?_) (λh=>?_)|refine qz (λh=>?_) (λh=>?_)|refine qp (λh=>?_) (λh=>?_)
 all_goals (simp only[go_sem];congr 2;rw[vX];simp only[X4,XZ,false_iff];omega)
def Ae(p:Pk)(m:Int):Int:=if ¬(1<=m/\m<=16384) then 1 else if ¬ (1<=p.len/\p.len<=m) then 26 else 0
def QBR(p:Pk)(m):QI prog 157 [.agg p.cells,Qb m] (QO (Qb (Ae p m))):=by
 refine QZ 0 func157 ntmps157 results157 λc w a=>?_;simp only[go_sem];apply Jp a fq (lP m 16384);apply QV a;by_cases h:1<=m/\m<=16384
 .simp only[go_sem,QT h];apply Jp a fq (lP p.len m);apply QV a;by_cases b:1<=p.len/\p.len<=m
  .simp only[go_sem,QT b];simp[Ae,h,b]
  .simp only[go_sem,QH b];simp[Ae,h,b]
 .simp only[go_sem,QH h];simp[Ae,h]
def xh(p:Pk)(t:Int):Int:=if (1<=t/\t<=65536)/\(1<=p.len/\p.len<=16384) then IntKind.u64.wrap (p.len*t) else 0
def Rl(p:Pk)(t:Int):Int:=if (1<=t/\t<=65536)/\(1<=p.len/\p.len<=16384) then 0 else 1
def QBS(p:Pk)(t):QI prog 158 [.agg p.cells,Qb t] (QO (.tup [an (xh p t),Qb (Rl p t)])):=by
 refine QZ 0 func158 ntmps158 results158 λc w a=>?_;simp only[go_sem];apply Jp a fq (lP t 65536);apply QV a;by_cases h:1<=t/\t<=65536
 .simp only[go_sem,QT h];apply Jp a fq (lP p.len 16384);apply QV a;by_cases b:1<=p.len/\p.len<=16384
  .simp only[go_sem,QT b];have e:IntKind.u64.wrap p.len=p.len:=fx ω ω;have d:IntKind.u64.wrap t=t:=fx ω ω;simp[e,d,xh,Rl,h,b]
  .simp only[go_sem,QH b];simp[xh,Rl,h,b]
 .simp only[go_sem,QH h];simp[xh,Rl,h]
def QBT(h:List Ob){t}(g:1<=t)(f:t<=65536):QM prog 40 h [Qb t] (λd b=>d=.tup [.ptr h.length 0 0 0,Qb 0]/\b=h++[jH 0 0 0 t 0]):=by
 have d1:decide (t<1)=false:=QH ω;have d2:decide (65536<t)=false:=QH ω;refine Q8 func40 ntmps40 results40 λa w c e=>?_;simp only[go_sem,Qa,d1,d2]
section
variable {h:List Ob}{lp a b c:Nat}{t:Int}{u:Nat}(ho:(h.map Ob.ro)[lp]? = some (jH a b c t u).ro)
include ho
theorem QaG(e):Zi prog 45 h [.ptr lp 0 0 0,u64 e] (λd=>d=QX (decide (u<=e))):=by
 refine ZJ func45 ntmps45 results45 λf w j F g l k=>?_;rw[<- g]at ho;have i:=Qc ho;simp only[go_sem,Qa,ho,i];all_goals exact Xg
theorem QBU:Zi prog 122 h [.ptr lp 0 0 0] (λd=>d=u64 u):=by
 refine ZJ func122 ntmps122 results122 λe w i F f k j=>?_;rw[<- f]at ho;have g:=Qc ho;simp only[go_sem,Qa,ho,g];all_goals exact Xg
end
def QBV(h:List Ob){f a b c}{t}{u}(g:h[f]? = some (jH a b c t u))(n)(k):QM prog 159 h [.ptr f 0 0 0,Qb n,u64 k] (λd s=>∃C B v,s=h.set f (jH C B v t u)):=by
 have e:∀(x y:Nat),∃z:Nat,IntKind.u64.wrap ((x:Int)+y)=z:=λx y=>⟨(IntKind.u64.wrap ((x:Int)+y)).toNat,η⟩;have l:∀(x:Nat) (y:Int),∃z:Nat,IntKind.u64.wrap ((x:Int)+y)=z:=λx y=>⟨(IntKind.u64.wrap ((x:Int)+y)).toNat,η⟩;obtain⟨q,j⟩:=l a 1;obtain⟨p,E⟩:=l b (IntKind.u64.wrap n);obtain⟨o,i⟩:=e c k;have r:=Qc g;refine Q8 func159 ntmps159 results159 λm w H I=>?_;have F:=Qc g;simp only[go_sem,Qa,g,F,j,E,i,Qt r];exact⟨q,p,o,rfl⟩
def QBY(h:List Ob){l a b c}{t}{u}(f:h[l]? = some (jH a b c t u))(B:1<=t)(z:t<=65536){e}(V:e<=4611686018427387904)(M:u<=e)(x:Pk)(s:1<=x.len/\x.len<=16384):
  QM prog 119 h [.ptr l 0 0 0,u64 e,.agg x.cells] (λd Q=>d=.tup [u64 (e+x.len.toNat*t.toNat),Qb 0]/\∃r q p g,Q=h.set l (jH r q p t (e+x.len.toNat*t.toNat))++g):=by
 have m:=Qc f;have S:decide ((4611686018427387904:Int)<(e:Int))=false:=QH ω;have R:Ae x 16384=0:=by unfold Ae;rw[Qd σ,Qd ξ]
 have L:x.len.toNat*t.toNat<=1073741824:=Ys (show x.len.toNat<=16384 from ω) (show t.toNat<=65536 from ω);have E:xh x t=((x.len.toNat*t.toNat:Nat):Int):=by
  have K:x.len*t=((x.len.toNat*t.toNat:Nat):Int):=by
   rw[EF,EG ω,EG ω]
  unfold xh;rw[Qe ⟨⟨B,z⟩,s⟩,K];exact fx ω ω
 obtain⟨k,N⟩:∃k,k=x.len.toNat*t.toNat:=⟨_,rfl⟩;rw[<- N]at L E ⊢;have C:IntKind.u64.wrap ((e:Int)+(k:Int))=((e+k:Nat):Int):=by rw[fx ω ω];omega
 have v:=QBS x t;have T:Rl x t=0:=by unfold Rl;rw[Qe ⟨⟨B,z⟩,s⟩]
 rw[E,T]at v;have y:=QBR x 16384;rw[R]at y;refine Q8 func119 ntmps119 results119 λI w U i=>?_;have j:=Qc f;simp only[go_sem,Qa,f,j,S];refine ZO i QsT ?_ y ?_
 .simp only[go_sem,Qa,f,j]
 apply Qf i;simp only[go_sem,Qa,f,j];apply Ju i eY (QaG (u:=u) (Z3 (by rw[QE m];exact f)) e);apply Qf i;simp only[go_sem,Qa,QT M,f,j];apply Qx i [0,1,2,3,4,1005,6,7,8,9,10];simp only[go_sem,Qa,f,j];refine Vb i QsU ?_ v ?_
 .simp only[go_sem,Qa,f,j,C,Qt m]
 apply Zk i;simp only[go_sem,Qa,f,j,C,Qt m];apply VE [6] i [0,1,2,3,4,5,1006] [];simp only[go_sem,Qa,f,j,Qt m];obtain⟨H,n⟩:∃H,H=h.set l (jH a b c t (e+k))++[(⟨.one,0,6,1,λ_=>x.cells⟩:Ob)]:=⟨_,rfl⟩;have F:H[l]? = some (jH a b c t (e+k)):=by rw[n,QE (by simpa using m),Qt m]
 have J:=Qc F;have O:∀o:Ob,H.set l o=h.set l o++[(⟨.one,0,6,1,λ_=>x.cells⟩:Ob)]:=λo=>by rw[n,DF (by simpa using m),JE]
 simp only[go_sem]at n;rw[<- n];refine wC i QsV (QBV H F x.len k) λd W P=>?_;obtain⟨r,q,p,rfl⟩:=P;apply Zk i;simp only[go_sem,Qt J];exact⟨r,q,p,_,O _⟩
def QBZ(a):QI prog 254 [u64 a] (QO (QX false)):=by
 have e:((a:Int) != (a:Int))=false:=σ;refine QZ 0 func254 ntmps254 results254 λb w c=>?_;simp only[go_sem];simp only[go_sem,e]
def QkK(a b):QI prog 218 [u64 a,u64 b] (QO (QX (decide (a<b)))):=by
 refine QZ 0 func218 ntmps218 results218 λd w c=>?_;simp only[go_sem];refine ZO c Qft ?_ (QBZ a) ?_
 .simp only[go_sem,Go.undef]
 apply Qf c;simp only[go_sem,Go.undef]
def QB0(h:List Ob)(a b c r)(i)(g:(h.map Ob.ro)[r]? = some ⟨.As,0,1,2,i⟩)(s:i 0=[u64 b])(n:i 1=[u64 c]):
  Zi prog 161 h [u64 a,.ref r 0 0 2] (λd=>d=u64 (max (max a b) c)):=by
 simp only[go_sem]at s n;refine ZJ func161 ntmps161 results161 λv w z F y B f=>?_;rw[<- y]at g;have l:=Qc g;simp only[go_sem,Qa,g,l];have x:IntKind.i64.wrap 1=1:=rfl;have o:IntKind.i64.wrap 2=2:=rfl;have j:∀m k:Nat,∃d:Bool,d=decide (m<k)/\max m k=bif d then k else m:=λm k=>⟨_,rfl,by
  by_cases e:m<k
  .rw[QT e];show _=k;omega
  .rw[QH e];show _=m;omega⟩
 obtain⟨d1,u,q⟩:=j a b;have L1:=QkK a b;rw[<- u]at L1;obtain⟨d2,t,p⟩:=j (max a b) c;have L2:=QkK (max a b) c;rw[<- t]at L2;rw[p];rw[q]at L2 ⊢;clear u t q p j;cases d1<;>cases d2;all_goals
  simp only[wi,jl]at L2 ⊢;refine xJ 2 ?_;apply Qf f;simp only[go_sem,Qa,g,l,s];apply Yy f jZ L1;apply QP f;apply Qf f;simp only[go_sem,Qa,g,l,n,x];apply Yy f jZ L2;apply QP f;apply Qf f;simp only[go_sem,Qa,g,l,n,o];apply Qf f;simp only[go_sem,Qa,g,l,n,o];all_goals exact Xg
def QB1(h:List Ob)(a k)(c)(b:(h.map Ob.ro)[k]? = some ⟨.As,0,1,1,c⟩)(f:c 0=[u64 a]):
  Zi prog 160 h [.ref k 0 0 1] (λd=>d=u64 (min 9223372036854775808 a)):=by
 simp only[go_sem]at f;have e:min (9223372036854775808:Int) (a:Int)=((min 9223372036854775808 a:Nat):Int):=ω;have i:IntKind.i64.wrap 1=1:=rfl;refine ZJ func160 ntmps160 results160 λl w n F m o j=>?_;rw[<- m]at b;have g:=Qc b;simp only[go_sem,Qa,b,g];refine xJ 1 ?_;apply Qf j;simp only[go_sem,Qa,b,g,f,e,i];apply Qf j;simp only[go_sem,Qa,b,g,f,e,i];apply Qf j;simp only[go_sem,Qa,b,g,f,e,i];all_goals exact Xg
def QB2(a b c):QI prog 121 [u64 a,u64 b,u64 c] (QO (u64 (vU a b c))):=by
 have e:vU a b c=min 9223372036854775808 (max (max a b) c):=by unfold vU;omega
 rw[e];refine QZ 0 func121 ntmps121 results121 λf w d=>?_;simp only[go_sem];apply Ju d QsX (QB0 _ a b c 0 _ (Z3 (o:=⟨.arr,0,1,2,_⟩) rfl) rfl rfl);apply QP d;obtain⟨m,g⟩:∃m,m=max (max a b) c:=⟨_,rfl⟩;rw[<- g];apply Ju d QsW (QB1 _ m 1 _ (Z3 (o:=⟨.arr,0,1,1,_⟩) rfl) rfl);exact Hm d
def QB3(h:List Ob):QM prog 42 h [] (λd b=>d=.ptr (h.length+2) 0 0 0/\b=h++[QS .i64 0 [],QS .i64 0 [],stO h.length (h.length+1)]):=by
 refine Q8 func42 ntmps42 results42 λa w c e=>?_;simp only[go_sem,Qa]
def Gj.put{S}{h w}{p q x E}{f}{J}{K}{s}(T:Gj S h p q x E f J K s){b}{d}{l}(i)
  (R:w[q]? = some (J7 .i64 E f b d)) (z:∀j o,h[j]? = some o->j≠q->j≠i->w[j]? = some o) (Q:Ng (more S h) w d l) (H:∀j g off n,d=.ref j g off n->j=i)
  (y:∀k j g off n,k≠b->ZZ f k=some (.ref j g off n)->j≠i) (P:p≠i) (O:x≠i) :
  qL (more S h) w p { s with Jd:=λk=>if k=b then l else s.Jd k }:=by
 obtain⟨Y,F,V,C⟩:=Qca .i64 E f b d;have N:p≠q:=λe=>by have:=T.o;rw[e,T.co]at this;cases this
 refine⟨q,x,Y,F,J,K,z _ _ T.o N P,by rw[R,V],z _ _ T.ro (Q9 T.ne) O,T.ne,.inl T.sp,.inl T.sc,.inl T.sr,λk=>?_,λv u j g off n W L M a c=>?_,T.rw_⟩
 .rw[C k];by_cases m:k=b
  .rw[Qe m];dsimp only;rw[Qe m];exact Q
  .rw[Qd m];dsimp only;rw[Qd m];rcases T.ca k with ⟨a,c⟩|⟨j,g,off,row,a,c,B,U⟩
   .exact .inl ⟨a,c⟩
   .have Z:ZZ f k=some (.ref j g off (s.Jd k).length):=by
     cases I:ZZ f k with
     | none=>rw[I]at a;cases a
     | some d'=>rw[I]at a;exact congrArg some a
    refine .inr ⟨j,g,off,row,a,.inl c,z j _ B (λe=>?_) (y k _ _ _ _ m Z),U⟩;rw[e,T.co]at B;cases B
 .rw[C v]at a;rw[C u]at c;by_cases t:v=b<;>by_cases r:u=b
  .rw[t,r]
  .rw[Qe t]at a;rw[Qd r]at c;exact absurd (H _ _ _ _ (NL a)) (y u _ _ _ _ r c)
  .rw[Qd t]at a;rw[Qe r]at c;exact absurd (H _ _ _ _ (NL c)) (y v _ _ _ _ t a)
  .rw[Qd t]at a;rw[Qd r]at c;exact T.sep v u j g off n W L M a c
def QB4{S}{h}{p}{s:Et}(T:qL S h p s)(b:Int)(a)(H:(s.Jd b).length<1000000):
  QM prog 79 h [.ptr p 0 0 0,Qb b,u64 a] (λd h'=>d=Qb 0/\Step S h h'/\qL (more S h) h' p (w9 s b a)):=by
 obtain⟨I,rm,R,C,c2,Z8,T⟩:=T;have r:=T.o;have v:=T.co;have z:=Qc r;have t:=Qc v;have P:=T.ca b;have u:p≠I:=λe=>by rw[e,v]at r;cases r
 have Za:w9 s b a={ s with Jd:=λk=>if k=b then s.Jd b++[a] else s.Jd k }:=by
  unfold w9;congr 1;funext k;by_cases f:k=b
  .rw[Qe f,Qe f,f]
  .rw[Qd f,Qd f]
 rw[Za];have R9:∀k j g m n,ZZ C k=some (.ref j g m n)->j<h.length:=λk j g m n f=>by
  rcases T.ca k with ⟨y,_⟩|⟨j',_,_,_,y,_,q,_⟩
  .rw[f]at y;cases y
  .rw[f]at y;cases y;exact Qc q
 have O:(ZZ C b=none\/ZZ C b=some .nil)->s.Jd b=[]->Step S h (h.set I (J7 .i64 R C b (.ref (h.length+1) 0 0 1))++[⟨.arr,0,1,1,λ_=>[u64 a]⟩,⟨.arr,0,1,1,λ_=>[u64 a]⟩]) /\
   qL (more S h) (h.set I (J7 .i64 R C b (.ref (h.length+1) 0 0 1))++[⟨.arr,0,1,1,λ_=>[u64 a]⟩,⟨.arr,0,1,1,λ_=>[u64 a]⟩]) p { s with Jd:=λk=>if k=b then s.Jd b++[a] else s.Jd k }:=λf V=>by
  refine⟨⟨λl W Q=>?_,σ⟩,T.put (d:=.ref (h.length+1) 0 0 1) (h.length+1) ?_ (λj o L y B=>?_) (.inr ⟨h.length+1,0,0,λ_=>[u64 a],by simp[V],.inr ω,?_,λi M=>?_⟩) (λj g m n e=>by cases e;rfl) (λk j g m n _ ZG=>by have:=R9 k _ _ _ _ ZG;omega) ω (by have:=Qc T.ro;omega)⟩
  .rw[QE (by simpa using W),Ql (λe=>Q (by rw[<- e];exact T.sc))]
  .rw[QE (by simpa using t),Qt t]
  .rw[QE (by simpa using Qc L),Ql (Q9 y),L]
  .rw[VP (k:=1) σ,V];rfl
  .rw[V]at M ⊢;simp at M;subst M;rfl
 cases f:ZZ C b with
 | none=>
  rw[f]at P;have c:=O (.inl f) P.nil;refine Q8 func79 ntmps79 results79 λE w Y H=>?_;have z:=Qc r;have t:=Qc v;simp only[go_sem,Qa,r,z,v,t,u,u.symm,f];apply VE [] H [0,1,2,4,5,6,7,8,9,10,11] [3,12,13,14];simp only[go_sem,Qa,r,z,v,t,u,u.symm,f,Qt,Ql,↓reduceIte];simp only[go_sem]at c ⊢
  repeat' apply And.intro
  all_goals first|exact c.1|exact c.2
 | some d=>
  rw[f]at P;rcases P with ⟨B,q⟩|⟨x,g,m,F,B,Z,q,h4⟩
  .simp only[Ky]at B;subst B;have c:=O (.inr f) q;refine Q8 func79 ntmps79 results79 λE w Y H=>?_;have z:=Qc r;have t:=Qc v;simp only[go_sem,Qa,r,z,v,t,u,u.symm,f];apply VE [] H [0,1,2,4,5,6,7,8,9,10,11] [3,12,13,14];simp only[go_sem,Qa,r,z,v,t,u,u.symm,f,Qt,Ql,↓reduceIte];simp only[go_sem]at c ⊢
   repeat' apply And.intro
   all_goals first|exact c.1|exact c.2
  .simp only[Ky]at B;subst B;have K:x≠p:=λe=>by rw[e,r]at q;cases q
   have J:x≠I:=λe=>by rw[e,v]at q;cases q
   have n3:x≠rm:=λe=>by rw[e,T.ro]at q;cases q
   have Vd:(s.Jd b).length<=4294967295:=ω;have h9:(s.Jd b).length+1<=4294967295:=ω;have N:=Qc q;have c:Step S h ((h.set x ⟨.arr,g+1,1,(s.Jd b).length+1,JC (s.Jd b).length m F λ_=>[u64 a]⟩).set I (J7 .i64 R C b (.ref x (g+1) 0 ((s.Jd b).length+1)))++[⟨.arr,0,1,1,λ_=>[u64 a]⟩]) /\
     qL (more S h) ((h.set x ⟨.arr,g+1,1,(s.Jd b).length+1,JC (s.Jd b).length m F λ_=>[u64 a]⟩).set I (J7 .i64 R C b (.ref x (g+1) 0 ((s.Jd b).length+1)))++[⟨.arr,0,1,1,λ_=>[u64 a]⟩]) p { s with Jd:=λk=>if k=b then s.Jd b++[a] else s.Jd k }:=by
    refine⟨⟨λl W Q=>?_,σ⟩,T.put (d:=.ref x (g+1) 0 ((s.Jd b).length+1)) x ?_ (λj o L y B=>?_) (.inr ⟨x,g+1,0,JC (s.Jd b).length m F λ_=>[u64 a],σ,.inl Z,?_,λi M=>?_⟩) (λj g m n e=>by cases e;rfl) (λk j g' xr n' QA ZK e=>?_) (Q9 K) (Q9 n3)⟩
    .rw[QE (by simpa using W),Ql (λe=>Q (by rw[<- e];exact T.sc)),Ql (λe=>Q (by rw[<- e];exact Z))]
    .rw[QE (by simpa using t),Qt (by simpa using t)]
    .rw[QE (by simpa using Qc L),Ql (Q9 y),Ql (Q9 B),L]
    .rw[QE (by simpa using N),Ql (Q9 J),Qt N];simp
    .simp at M;rw[JR];by_cases U:i<(s.Jd b).length
     .rw[AD U,h4 i U];simp[U,JO U]
     .have:i=(s.Jd b).length:=ω;subst this;rw[kS (QB _)];simp
    .subst e;exact QA (T.sep _ _ _ _ _ _ _ _ _ ZK f)
   refine Q8 func79 ntmps79 results79 λE w Y H=>?_;have z:=Qc r;have t:=Qc v;have N:=Qc q;simp only[go_sem,Qa,r,z,v,t,q,N,u,u.symm,f,K,J,K.symm,J.symm];apply VE [] H [0,1,2,4,5,6,7,8,9,10,11] [3,12,13,14];simp only[go_sem,Qa,r,z,v,t,u,u.symm,f,Qt,Ql,q,N,K,J,K.symm,J.symm,↓reduceIte,Vd,h9];simp only[go_sem]at c ⊢
   repeat' apply And.intro
   all_goals first|exact c.1|exact c.2
def Gj.row{S}{h h'}{p t a u}{v}{i}{l}{s}(T:Gj S h p t a u v i l s){cls}{r}
  (w:h'[a]? = some (J7 .i64 i l cls (.agg r.cells))) (c:∀j o,h[j]? = some o->j≠a->h'[j]? = some o) :
  ∃q E,Gj S h' p t a u v q E { s with rows:=λk=>if k=cls then r else s.rows k }:=by
 obtain⟨C,n,z,y⟩:=Qca .i64 i l cls (.agg r.cells);have F:p≠a:=λe=>by have:=T.o;rw[e,T.ro]at this;cases this
 refine⟨C,n,c _ _ T.o F,c _ _ T.co T.ne,by rw[w,z],T.ne,T.sp,T.sc,T.sr,λk=>?_,T.sep,λk=>?_⟩
 .rcases T.ca k with f|⟨j,g,m,row,f,B,d,x⟩
  .exact .inl f
  .refine .inr ⟨j,g,m,row,f,B,c j _ d (λe=>?_),x⟩;rw[e,T.ro]at d;cases d
 .rw[y k];dsimp only;by_cases b:k=cls
  .rw[Qe b,Qe b];rfl
  .rw[Qd b,Qd b];exact T.rw_ k
def kG.QB5{a b:kG}(h:a.cells=b.cells):a=b:=by
 obtain⟨u,t,s,q,o⟩:=a;obtain⟨n,m,k,j,i⟩:=b;simp only[kG.cells,u64,ID,D.raw.injEq,Value.int.injEq,yl,and_true]at h;obtain⟨g,f,e,d,c⟩:=h;congr 1<;>omega
def Rm(a b:Nat):IntKind.u64.wrap ((a:Int)+(b:Int))=(((a+b) % 18446744073709551616:Nat):Int):=by
 rw[IntKind.wrap_u64];omega
def QB6{S}{h}{p}{s}(T:qL S h p s)(b){done}(hd:done<18446744073709551616){bytes}(KB:1<=bytes)(ZN:bytes<=16384)(c):
  QM prog 120 h [.ptr p 0 0 0,Qb b,u64 done,Qb bytes,QX c] (λd h'=>Step S h h'/\qL (more S h) h' p (Y6 s b done bytes c)):=by
 obtain⟨Y,P,c1,Z,W,O,T⟩:=T;have m:=T.o;have B:=T.co;have M:=T.ro;have QA:=T.ne;have t:=Qc m;have C:=Qc B;have I:=Qc M;have hp:=T.ca b;have jW:p≠Y:=λe=>by rw[e,B]at m;cases m
 have Ew:p≠P:=λe=>by rw[e,M]at m;cases m
 have a0:∀g:List Ob,Y6 s b done bytes c=s->Step S h (h++g)/\qL (more S h) (h++g) p (Y6 s b done bytes c):=λg e=>by
  rw[e];exact⟨Step.app S h g,qL.step (λj V N=>⟨.inl N,QE V⟩) ⟨Y,P,c1,Z,W,O,T⟩⟩
 have lQ:Y6 s b done bytes c=s->Step S h h/\qL (more S h) h p (Y6 s b done bytes c):=λe=>by
  have:=a0 [] e;rwa [JZ]at this
 obtain⟨r,Au⟩:∃r,r=s.rows b:=⟨_,rfl⟩;have ZU:=T.rw_ b;rw[<- Au]at ZU;cases F:ZZ Z b with
 | none=>
  rw[F]at hp;have h0:=hp.nil;have u:=lQ (by unfold Y6;rw[h0]);refine Q8 func120 ntmps120 results120 λE w pl x=>?_;have t:=Qc m;have C:=Qc B;simp only[go_sem,Qa,m,t,B,C,F];exact u
 | some d=>
  rw[F]at hp;rcases hp with ⟨h2,f⟩|⟨R,g,q,a2,h2,hS,f,h4⟩
  .simp only[Ky]at h2;subst h2;have u:=lQ (by unfold Y6;rw[f]);refine Q8 func120 ntmps120 results120 λE w pl x=>?_;have t:=Qc m;have C:=Qc B;simp only[go_sem,Qa,m,t,B,C,F];exact u
  .simp only[Ky]at h2;subst h2;have v:=Qc f;cases hc:s.Jd b with
   | nil=>
    have u:=lQ (by unfold Y6;rw[hc]);rw[hc]at F;refine Q8 func120 ntmps120 results120 λE w pl x=>?_;have t:=Qc m;have C:=Qc B;simp only[go_sem,Qa,m,t,B,C,F];exact u
   | cons a l=>
    rw[hc]at F f h4;have K:=h4 0 σ;simp only[go_sem,Ap,List.getD_cons_zero]at K;have d1:decide (bytes<1)=false:=QH ω;have d0:(((l.length+1:Nat):Int)==0)=false:=ξ;have z:(0:Int)<((l.length+1:Nat):Int):=ω;have y:q<q+(l.length+1):=ω;have n1:R≠p:=λe=>by rw[e,m]at f;cases f
    have n2:R≠Y:=λe=>by rw[e,B]at f;cases f
    have Q:P≠R:=λe=>by rw[<- e,M]at f;cases f
    have R9:∀k j g q n,ZZ Z k=some (.ref j g q n)->j<h.length:=λk j g q n F=>by
     rcases T.ca k with ⟨N,_⟩|⟨j',_,_,_,N,_,f,_⟩
     .rw[F]at N;cases N
     .rw[F]at N;cases N;exact Qc f
    have uv:∀(H:kG) (o:Ob),Y6 s b done bytes c=⟨λk=>if k=b then l else s.Jd k,λk=>if k=b then H else s.rows k⟩ ->
      Step S h ((h.set P (J7 .i64 W O b (.agg H.cells))).set Y (J7 .i64 c1 Z b (.ref R g (q+1) l.length))++[o])/\qL (more S h) ((h.set P (J7 .i64 W O b (.agg H.cells))).set Y (J7 .i64 c1 Z b (.ref R g (q+1) l.length))++[o]) p (Y6 s b done bytes c):=λH o e=>by
     rw[e];obtain⟨a3,FH,T1⟩:=T.row (h':=h.set P (J7 .i64 W O b (.agg H.cells))) (r:=H) (cls:=b) (Qt I) (λj o V N=>by rw[Ql (Q9 N)];exact V);have a1:(h.set P (J7 .i64 W O b (.agg H.cells))).length=h.length:=σ;have Up:more S (h.set P (J7 .i64 W O b (.agg H.cells)))=more S h:=by unfold more;rw[a1]
     refine⟨⟨λj V hn=>?_,σ⟩,?_⟩
     .rw[QE (by simpa using V),Ql (λe=>hn (by rw[<- e];exact T.sc)),Ql (λe=>hn (by rw[<- e];exact T.sr))]
     .rw[<- Up];refine T1.put (d:=.ref R g (q+1) l.length) R ?_ (λj o V N h2=>?_) (.inr ⟨R,g,q+1,a2,rfl,.inl hS,?_,λi hi=>?_⟩) (λj g q n e=>by cases e;rfl) (λk j g' xr n' QA ZK e=>?_) (Q9 n1) Q
      .rw[QE (by simpa using C),Qt (by simpa using C)]
      .rw[QE (by have:=Qc V;simpa using this),Ql (Q9 N),V]
      .rw[QE (by simpa using v),Ql (Q9 n2),Ql Q,f];simp only[Vo,Q6,Ob.mk.injEq,yl,and_true];omega
      .rw[show q+1+i=q+(i+1) by omega,h4 (i+1) (by simpa using hi)];simp
      .subst e;exact QA (T.sep _ _ _ _ _ _ _ _ _ ZK F)
    by_cases h5:done<a
    .have d2:=QT h5;have u:=lQ (by unfold Y6;rw[hc];dsimp only;rw[Qd ω,Qe h5]);refine Q8 func120 ntmps120 results120 λE w pl x=>?_;have t:=Qc m;have C:=Qc B;have v:=Qc f;simp only[go_sem,Qa,m,t,B,C,f,v,F,d0,d1,d2,K];exact⟨z,y,u⟩
    .have d2:=QH h5;have e0:Y6 s b done bytes c=⟨λk=>if k=b then l else s.Jd k,λk=>if k=b then Ac r a done bytes c else s.rows k⟩:=by
      unfold Y6;rw[hc];dsimp only;rw[Qd ω,Qd h5];congr 1;funext k;by_cases q5:k=b
      .rw[Qe q5,Qe q5,q5,<- Au]
      .rw[Qd q5,Qd q5]
     have u:∀(o:Ob) (H:kG),H=Ac r a done bytes c->∀n,n=l.length->Step S h ((h.set P (J7 .i64 W O b (.agg H.cells))).set Y (J7 .i64 c1 Z b (.ref R g (q+1) n))++[o])/\qL (more S h) ((h.set P (J7 .i64 W O b (.agg H.cells))).set Y (J7 .i64 c1 Z b (.ref R g (q+1) n))++[o]) p (Y6 s b done bytes c):=λo H P6 n hn=>by
      subst hn;exact uv H o (by rw[e0,P6])
     have w1:IntKind.u64.wrap ((r.p:Int)+1)=(((r.p+1) % 18446744073709551616:Nat):Int):=Rm r.p 1;have w2:IntKind.u64.wrap bytes=((bytes.toNat:Nat):Int):=η;have w3:=Rm r.b bytes.toNat
     have w4:IntKind.u64.wrap ((r.r:Int)+1)=(((r.r+1) % 18446744073709551616:Nat):Int):=Rm r.r 1;have U:IntKind.u64.wrap ((done:Int) - (a:Int))=((done - a:Nat):Int):=η;have w6:=Rm r.w (done - a);have w7:max ((r.l:Nat):Int) ((done - a:Nat):Int)=((max r.l (done - a):Nat):Int):=ω;have J:(((l.length+1:Nat):Int) - 1).toNat=l.length:=ω;have ZG:(ZZ O b=some (.agg r.cells))\/(ZZ O b=none/\r=default):=by
      cases hh:ZZ O b with
      | some d=>rw[hh]at ZU;exact .inl (congrArg some ZU)
      | none=>
       rw[hh]at ZU;have ZU:D.agg (default:kG).cells=D.agg r.cells:=ZU;exact .inr ⟨rfl,(kG.QB5 (D.agg.inj ZU)).symm⟩
     rcases ZG with ZG|⟨ZG,Xl⟩
     .refine Q8 func120 ntmps120 results120 λE w pl x=>?_;have t:=Qc m;have C:=Qc B;have v:=Qc f;have I:=Qc M;simp only[go_sem,Qa,m,t,B,C,f,v,M,I,F,d0,d1,d2,K,ZG,w1,w2,w3];cases c with
      | true=>
       have L:=u ⟨.one,0,5,1,λ_=>(Ac r a done bytes true).cells⟩ _ rfl _ J;simp only[go_sem,Ac,↓reduceIte,J,XZ]at L;simp only[go_sem,Qa,w4];repeat (refine And.intro (by first|exact z|exact y|omega) ?_)
       apply Qx x i4;simp only[go_sem,Qa,m,t,f,v,K,U,w6];repeat (refine And.intro (by first|exact z|exact y|omega) ?_)
       apply Qx x i4;simp only[go_sem,Qa,m,t,f,v,K,U,w7];repeat (refine And.intro (by first|exact z|exact y|omega) ?_)
       apply Qx x i7;simp only[go_sem,Qa,m,t,f,v,M,I,Ql];repeat (refine And.intro (by first|exact z|exact y|omega) ?_)
       apply Qx x ut;simp only[go_sem,Qa,m,t,f,v,B,C,I,Ql Ew.symm,Ql QA.symm,Ql Q];repeat (refine And.intro (by first|exact z|exact y|omega) ?_)
       simp only[go_sem,J,Ql Q,f,ND];exact L
      | false=>
       have L:=u ⟨.one,0,5,1,λ_=>(Ac r a done bytes false).cells⟩ _ rfl _ J;simp only[go_sem,Ac,↓reduceIte,J,XZ]at L;simp only[go_sem,Qa];repeat (refine And.intro (by first|exact z|exact y|omega) ?_)
       apply Qx x i4;simp only[go_sem,Qa,m,t,f,v,K,U,w6];repeat (refine And.intro (by first|exact z|exact y|omega) ?_)
       apply Qx x i4;simp only[go_sem,Qa,m,t,f,v,K,U,w7];repeat (refine And.intro (by first|exact z|exact y|omega) ?_)
       apply Qx x i7;simp only[go_sem,Qa,m,t,f,v,M,I,Ql];repeat (refine And.intro (by first|exact z|exact y|omega) ?_)
       apply Qx x ut;simp only[go_sem,Qa,m,t,f,v,B,C,I,Ql Ew.symm,Ql QA.symm,Ql Q];repeat (refine And.intro (by first|exact z|exact y|omega) ?_)
       simp only[go_sem,J,Ql Q,f,ND];exact L
     .have Xl:r=⟨0,0,0,0,0⟩:=Xl;subst Xl;have v1:IntKind.u64.wrap 1=1:=rfl;have v3:IntKind.u64.wrap (0+((bytes.toNat:Nat):Int))=(((0+bytes.toNat) % 18446744073709551616:Nat):Int):=Rm 0 bytes.toNat
      have v6:IntKind.u64.wrap (0+((done - a:Nat):Int))=(((0+(done - a)) % 18446744073709551616:Nat):Int):=Rm 0 (done - a);have v7:max (0:Int) ((done - a:Nat):Int)=((max 0 (done - a):Nat):Int):=ω;refine Q8 func120 ntmps120 results120 λE w pl x=>?_;have t:=Qc m;have C:=Qc B;have v:=Qc f;have I:=Qc M;simp only[go_sem,Qa,m,t,B,C,f,v,M,I,F,d0,d1,d2,K,ZG,w2,v1,v3];cases c with
      | true=>
       have L:=u ⟨.one,0,5,1,λ_=>(Ac ⟨0,0,0,0,0⟩ a done bytes true).cells⟩ _ rfl _ J;simp only[go_sem,Ac,↓reduceIte,J,XZ]at L;simp only[go_sem,Qa,v1];repeat (refine And.intro (by first|exact z|exact y|omega) ?_)
       apply Qx x i4;simp only[go_sem,Qa,m,t,f,v,K,U,v6];repeat (refine And.intro (by first|exact z|exact y|omega) ?_)
       apply Qx x i4;simp only[go_sem,Qa,m,t,f,v,K,U,v7];repeat (refine And.intro (by first|exact z|exact y|omega) ?_)
       apply Qx x i7;simp only[go_sem,Qa,m,t,f,v,M,I,Ql];repeat (refine And.intro (by first|exact z|exact y|omega) ?_)
       apply Qx x ut;simp only[go_sem,Qa,m,t,f,v,B,C,I,Ql Ew.symm,Ql QA.symm,Ql Q];repeat (refine And.intro (by first|exact z|exact y|omega) ?_)
       simp only[go_sem,J,Ql Q,f,ND];exact L
      | false=>
       have L:=u ⟨.one,0,5,1,λ_=>(Ac ⟨0,0,0,0,0⟩ a done bytes false).cells⟩ _ rfl _ J;simp only[go_sem,Ac,↓reduceIte,J,XZ]at L;simp only[go_sem,Qa];repeat (refine And.intro (by first|exact z|exact y|omega) ?_)
       apply Qx x i4;simp only[go_sem,Qa,m,t,f,v,K,U,v6];repeat (refine And.intro (by first|exact z|exact y|omega) ?_)
       apply Qx x i4;simp only[go_sem,Qa,m,t,f,v,K,U,v7];repeat (refine And.intro (by first|exact z|exact y|omega) ?_)
       apply Qx x i7;simp only[go_sem,Qa,m,t,f,v,M,I,Ql];repeat (refine And.intro (by first|exact z|exact y|omega) ?_)
       apply Qx x ut;simp only[go_sem,Qa,m,t,f,v,B,C,I,Ql Ew.symm,Ql QA.symm,Ql Q];repeat (refine And.intro (by first|exact z|exact y|omega) ?_)
       simp only[go_sem,J,Ql Q,f,ND];exact L
@[go_sem] def QIh(k:List Int):List D:=k.map λn=>.raw (.int .u16 n)
def QkL:QI prog 67 [] (QO (.agg [.raw (.int .u16 65535),.raw (.int .u16 65535),.raw (.int .u16 65535),.raw (.int .u16 65535)])):=by
 refine QZ 0 func67 ntmps67 results67 λa w b=>?_;simp only[go_sem]
def QkM(j i h g f e d c):QI prog 66 [.agg [.raw (.int .u16 j),.raw (.int .u16 i),.raw (.int .u16 h),.raw (.int .u16 g)],.agg [.raw (.int .u16 f),.raw (.int .u16 e),.raw (.int .u16 d),.raw (.int .u16 c)]]
  (QO (.agg [.raw (.int .u16 (xg j f)),.raw (.int .u16 (xg i e)),.raw (.int .u16 (xg h d)),.raw (.int .u16 (xg g c))])):=by
 refine QZ 0 func66 ntmps66 results66 λk w a=>?_;simp only[go_sem];have n:IntKind.i64.wrap 1=1:=rfl;have m:IntKind.i64.wrap 2=2:=rfl;have l:IntKind.i64.wrap 3=3:=rfl;have b:IntKind.i64.wrap 4=4:=rfl;refine xJ 4 ?_;apply QP a;apply Qx a i9;simp only[go_sem];apply Qf a;simp only[go_sem,Qa,n];apply Qx a i9;simp only[go_sem];apply Qf a;simp only[go_sem,Qa,m];apply Qx a i9;simp only[go_sem];apply Qf a;simp only[go_sem,Qa,l];apply Qx a i9;simp only[go_sem];apply Qf a;simp only[go_sem,Qa,b];apply Qf a;simp only[go_sem,Qa,b];rfl
theorem QB7(r:JX)(x:Pk):jf r (Zu x)=(xg x.xF r.A3==r.LO&&(xg x.xG r.A4==r.LP&&(xg x.xH r.Fo==r.LQ&&(xg x.xI r.DI==r.Fp&&true)))):=rfl
@[go_sem] def lS(x:Pk):List D:=[.raw (.int .u16 x.xF),.raw (.int .u16 x.xG),.raw (.int .u16 x.xH),.raw (.int .u16 x.xI)]
def QkN(r:JX)(x):QI prog 114 [.agg r.cells,.agg (lS x)] (QO (QX (jf r (Zu x)))):=by
 rw[QB7];refine QZ 0 func114 ntmps114 results114 λb w a=>?_;simp only[go_sem];apply Qx a [0,1,2,4,5,1003,6,7];simp only[go_sem];apply Kw a oP (QkM x.xF x.xG x.xH x.xI r.A3 r.A4 r.Fo r.DI);exact Hn a
structure QkO (h:List Ob) (p:Nat) (dr:D) (le:Nat) (dm:D) (c:Nat) (es:List XN) (ms:List Nat) (R:List JX):Prop where
 o:(h.map Ob.ro)[p]? = some (Nf dr le dm).ro
 eo:(h.map Ob.ro)[le]? = some (wv c es).ro
 rs:(dr=.nil/\R=[])\/∃lo g row,dr=.ref lo g 0 R.length/\(h.map Ob.ro)[lo]? = some ⟨.As,g,9,R.length,row⟩/\∀i,i<R.length->row i=(R.getD i default).cells
 mo:(dm=.nil/\ms=[])\/∃lo g row,dm=.ref lo g 0 ms.length/\(h.map Ob.ro)[lo]? = some ⟨.As,g,1,ms.length,row⟩/\∀i,i<ms.length->row i=[Qb ((ms.getD i 0:Nat):Int)]
 I:qa R R.length es ms
 ok:zx R=0
def QaF.toR{S}{h}{p}{l}{j}{m}{c}{k}{i}{R}(T:QaF S h p l j m c k i R):QkO h p l j m c k i R:=
 ⟨Z3 T.o,Z3 T.eo,T.rs.imp id λ⟨b,g,a,f,_,e,d⟩=>⟨b,g,a,f,Z3 e,d⟩,T.mo.imp id λ⟨b,g,a,f,_,e,d⟩=>⟨b,g,a,f,Z3 e,d⟩,T.I,T.ok⟩
def QaH{R}(h:zx R=0):∀r∈R,1<=r.cls:=λr a=>by
 unfold zx at h;split at h
 .cases h
 .split at h
  .rename_i b;have:=zC.1 b r a;unfold Ad at this;simp only[ZL,X4]at this;exact this.1.1
  .cases h
def inc_le:∀(c:List Nat) (n b:Nat),c.Pairwise (·<·)->(∀j∈c,b<=j/\j<n)->c.length<=n - b
 | [],n,b,_,_=>Jj _
 | a::c,n,b,d,h=>by
  rw[Ao]at d;have f:=h a σ;have:=inc_le c n (a+1) d.2 λj e=>⟨d.1 j e,(h j (by simp[e])).2⟩;simp only[Vo];omega
def QB8{h}{p}{dr}{le}{dm}{c}{es}{b}{R}(T:QkO h p dr le dm c es b R)(x)(hx:aj x):
  Zi prog 77 h [.ptr p 0 0 0,.agg (lS x)] (λd=>d=.tup [Qb (Jn R (Zu x)),Qb (if Jn R (Zu x)=0 then 31 else 0)]):=by
 have g:=T.o;have v:=T.eo;have h4:=T.I.four;obtain⟨q,hq⟩:∃q,q=Xp es (Zu x):=⟨_,rfl⟩;have Ex:=hq;simp only[Zu]at Ex;have a0:∀j,j<b.length->b.getD j 0∈b:=λj l=>Yx b 0 j l;have aq:∀i∈b,∃j,j<b.length/\b.getD j 0=i:=λi N=>by
  obtain⟨j,l,e⟩:=xl N;exact⟨j,l,by rw[QY,QG l];exact e⟩
 have AJ:b.length<=32:=by
  have h1:=inc_le b R.length 0 T.I.inc λj l=>⟨Jj j,((T.I.mem j).1 l).1⟩;have h2:R.length<=32:=by
   have:=T.ok;unfold zx at this;split at this
   .cases this
   .omega
  omega
 have a2:∀j k,j<k->k<b.length->b.getD j 0<b.getD k 0:=λj k Ws hk=>by
  have:=List.pairwise_iff_getElem.1 T.I.inc j k ω hk Ws;rw[QY,QY,QG hk,QG (show j<b.length from ω)];exact this
 have Z:∀j k,j<b.length->b.getD j 0<b.getD k 0->j<k:=λj k l h=>jk λhc=>by
  rcases Nat.lt_or_eq_of_le (Nat.le_of_not_lt hc) with h2|h2
  .have:=a2 k j h2 l;omega
  .rw[h2]at h;omega
 cases q with
 | none=>
  have z:(∀j∈b,jf (JK R j) (Zu x)=false)->Jn R (Zu x)=0:=λE=>by
   unfold Jn;rw[T.I.none hx hq.symm E]
  rcases T.mo with ⟨rfl,rfl⟩|⟨lm,gm,a1,rfl,C,q7⟩
  .rw[z (λj l=>by cases l),Qe rfl];refine ZJ func77 ntmps77 results77 λJ w pl F S Zm f=>?_;rw[<- S]at g v;have m:=Qc g;have I:=Qc v;simp only[go_sem,Qa,g,m,v,I];apply Qx f i6;simp only[go_sem,Qa,g,m,v,I,<- Ex];refine⟨h4,?_⟩;refine xJ 0 ?_;apply QP f;apply QP f;all_goals exact Xg
  .refine ZJ func77 ntmps77 results77 λJ w pl F S Zm f=>?_;rw[<- S]at g v C;have m:=Qc g;have I:=Qc v;have U:=Qc C;simp only[go_sem,Qa,g,m,v,I,C,U];apply Qx f i6;simp only[go_sem,Qa,g,m,v,I,<- Ex];refine⟨h4,?_⟩;refine ZW (λk s=>(∀j,j<k->jf (JK R (b.getD j 0)) (Zu x)=false)/\s=⟨[(0,.ptr p 0 0 0),(3,.ptr F.length 0 0 0),(6,Qb 0),(7,QX false),(24,.ref lm gm 0 b.length),(25,Qb b.length),(26,Qb k)],F++[(⟨.one,0,4,1,λ_=>lS x⟩:Ob)]⟩) b.length QQ ⟨λj l=>absurd l (X2 j),rfl⟩ ?_;rintro k _ hk ⟨E,rfl⟩;by_cases y:k<b.length
   .have L:=QT y;have QU:=JT (show k<4611686018427387904 from ω);obtain⟨i,N⟩:∃i,i=b.getD k 0:=⟨_,rfl⟩;have Ma:=a0 k y;rw[<- N]at Ma;obtain⟨o,W⟩:=(T.I.mem i).1 Ma;have K:=q7 k y;rw[<- N]at K;rcases T.rs with ⟨h1,h2⟩|⟨lr,gr,lT,rfl,n,Au⟩
    .rw[h2]at o;simp at o
    rw[<- S]at n;have t:=Qc n;have u:lT i=(JK R i).cells:=Au i o;obtain⟨r,H⟩:∃r,r=JK R i:=⟨_,rfl⟩;rw[<- H]at u;have M:=QkN r x;simp only[go_sem]at u K;cases Q:jf r (Zu x) with
    | false=>
     rw[Q]at M;apply Qf f;simp only[go_sem,Qa,L,y,C,U,K,Go.undef];apply Qx f i9;simp only[go_sem,Qa,g,m,n,t,u,o];refine Vb f fg ?_ M ?_
     .simp only[go_sem,Qa,g,m,n,t,u,o]
     apply Zk f;simp only[go_sem,Qa,g,m,n,t,u,o];repeat (refine And.intro δ ?_)
     refine⟨_,Qr.frame (fr':=[(0,.ptr p 0 0 0),(3,.ptr F.length 0 0 0),(6,Qb 0),(7,QX false),(24,.ref lm gm 0 b.length),(25,Qb b.length),(26,Qb (k+1:Nat))]) (by simp only[go_sem,QU]),λj l=>?_,rfl⟩;rcases xo.1 l with h5|rfl
     .exact E j h5
     .rw[<- N,<- H];exact Q
    | true=>
     rw[Q]at M;have e0:Jn R (Zu x)=r.cls:=by
      unfold Jn;rw[T.I.XM hx o W (by rw[<- H];exact Q) (λj l wy=>?_) (λa' We=>?_),<- H]
      .obtain⟨B,P,O⟩:=aq j l;rw[<- O];exact E B (Z B k P ω)
      .rw[<- hq]at We;cases We
     have GR:=QaH T.ok r (by rw[H];exact Yx R default i o);rw[e0,Qd ω];apply Qf f;simp only[go_sem,Qa,L,y,C,U,K,Go.undef];apply Qx f i9;simp only[go_sem,Qa,g,m,n,t,u,o];refine Vb f fg ?_ M ?_
     .simp only[go_sem,Qa,g,m,n,t,u,o]
     apply Zk f;simp only[go_sem,Qa,g,m,n,t,u,o];all_goals exact Xg
   .have ZG:k=b.length:=ω;have L:=QH y;subst ZG;have Kr:∀j∈b,jf (JK R j) (Zu x)=false:=λj l=>by
     obtain⟨B,P,O⟩:=aq j l;rw[<- O];exact E B P
    rw[z Kr,Qe rfl];apply Qf f;simp only[go_sem,Qa,L];apply QP f;all_goals exact Xg
 | some d=>
  obtain⟨a,rfl,V,Oi,Ee,a4⟩:=T.I.yes _ _ hq.symm;rcases T.rs with ⟨h1,h2⟩|⟨lr,gr,lT,rfl,n,Au⟩
  .rw[h2]at V;simp at V
  have Ro:lT a=(JK R a).cells:=Au a V;obtain⟨ra,Y⟩:∃r,r=JK R a:=⟨_,rfl⟩;rw[<- Y]at Ro;have F1:=QaH T.ok ra (by rw[Y];exact Yx R default a V);have z:(∀j∈b,j<a->jf (JK R j) (Zu x)=false)->Jn R (Zu x)=ra.cls:=λE=>by
   unfold Jn;rw[(T.I.whole hx hq.symm E).2,<- Y]
  simp only[go_sem]at Ro;rcases T.mo with ⟨rfl,rfl⟩|⟨lm,gm,a1,rfl,C,q7⟩
  .rw[z (λj l=>by cases l),Qd ω];refine ZJ func77 ntmps77 results77 λJ w pl F S Zm f=>?_;rw[<- S]at g v n;have m:=Qc g;have I:=Qc v;have t:=Qc n;simp only[go_sem,Qa,g,m,v,I,n,t];apply Qx f i6;simp only[go_sem,Qa,g,m,v,I,<- Ex];refine⟨h4,?_⟩;refine xJ 0 ?_;apply Qf f;simp only[go_sem,Qa,g,m,n,t,Ro,V];apply Qf f;simp only[go_sem,Qa,g,m,n,t,Ro,V];all_goals exact Xg
  .refine ZJ func77 ntmps77 results77 λJ w pl F S Zm f=>?_;rw[<- S]at g v n C;have m:=Qc g;have I:=Qc v;have t:=Qc n;have U:=Qc C;simp only[go_sem,Qa,g,m,v,I,n,t,C,U];apply Qx f i6;simp only[go_sem,Qa,g,m,v,I,<- Ex];refine⟨h4,?_⟩;refine ZW (λk s=>(∀j,j<k->jf (JK R (b.getD j 0)) (Zu x)=false)/\s=⟨[(0,.ptr p 0 0 0),(3,.ptr F.length 0 0 0),(6,Qb a),(7,QX true),(24,.ref lm gm 0 b.length),(25,Qb b.length),(26,Qb k)],F++[(⟨.one,0,4,1,λ_=>lS x⟩:Ob)]⟩) b.length QQ ⟨λj l=>absurd l (X2 j),rfl⟩ ?_;rintro k _ hk ⟨E,rfl⟩;by_cases y:k<b.length
   .have L:=QT y;have QU:=JT (show k<4611686018427387904 from ω);obtain⟨i,N⟩:∃i,i=b.getD k 0:=⟨_,rfl⟩;have Ma:=a0 k y;rw[<- N]at Ma;obtain⟨o,W⟩:=(T.I.mem i).1 Ma;have K:=q7 k y;rw[<- N]at K;have u:lT i=(JK R i).cells:=Au i o;obtain⟨r,H⟩:∃r,r=JK R i:=⟨_,rfl⟩;rw[<- H]at u;have M:=QkN r x;simp only[go_sem]at u K;by_cases Pw:a<i
    .have da:=QT Pw;rw[z (λj l a3=>by
      obtain⟨B,P,O⟩:=aq j l;rw[<- O];exact E B (Z B k P ω)),Qd ω]
     apply Qf f;simp only[go_sem,Qa,L,y,C,U,K,da];apply Qf f;simp only[go_sem,Qa,g,m,n,t,Ro,V];all_goals exact Xg
    .have da:=QH Pw;cases Q:jf r (Zu x) with
     | false=>
      rw[Q]at M;apply Qf f;simp only[go_sem,Qa,L,y,C,U,K,da];apply Qx f i9;simp only[go_sem,Qa,g,m,n,t,u,o];refine Vb f fg ?_ M ?_
      .simp only[go_sem,Qa,g,m,n,t,u,o]
      apply Zk f;simp only[go_sem,Qa,g,m,n,t,u,o];repeat (refine And.intro δ ?_)
      refine⟨_,Qr.frame (fr':=[(0,.ptr p 0 0 0),(3,.ptr F.length 0 0 0),(6,Qb a),(7,QX true),(24,.ref lm gm 0 b.length),(25,Qb b.length),(26,Qb (k+1:Nat))]) (by simp only[go_sem,QU]),λj l=>?_,rfl⟩;rcases xo.1 l with h5|rfl
      .exact E j h5
      .rw[<- N,<- H];exact Q
     | true=>
      rw[Q]at M;have e0:Jn R (Zu x)=r.cls:=by
       unfold Jn;rw[T.I.XM hx o W (by rw[<- H];exact Q) (λj l wy=>?_) (λa' We=>?_),<- H]
       .obtain⟨B,P,O⟩:=aq j l;rw[<- O];exact E B (Z B k P ω)
       .rw[<- hq]at We;have:=NL We;simp only[Qb,D.raw.injEq,Value.int.injEq,yl]at this;omega
      have GR:=QaH T.ok r (by rw[H];exact Yx R default i o);rw[e0,Qd ω];apply Qf f;simp only[go_sem,Qa,L,y,C,U,K,da];apply Qx f i9;simp only[go_sem,Qa,g,m,n,t,u,o];refine Vb f fg ?_ M ?_
      .simp only[go_sem,Qa,g,m,n,t,u,o]
      apply Zk f;simp only[go_sem,Qa,g,m,n,t,u,o];all_goals exact Xg
   .have ZG:k=b.length:=ω;have L:=QH y;subst ZG;rw[z (λj l _=>by
     obtain⟨B,P,O⟩:=aq j l;rw[<- O];exact E B P),Qd ω]
    apply Qf f;simp only[go_sem,Qa,L];apply Qf f;simp only[go_sem,Qa,g,m,n,t,Ro,V];all_goals exact Xg
end Go.Fg.X
namespace Go.Fg
open Go.RowKit (Below)
variable {Z:Nat->Prop}
section
variable {P:Program}{L:Je}{base nt:Nat}{s:St}{o:Oper}
end
section
variable {P:Program}{L:Je}{base nt:Nat}{w0:Start}{Q:Exit->St->Prop}
end
def lU:D->Bool
 | .imm _ _ _=>true
 | .ref _ _ _ _=>true
 | .nil=>true
 | _=>false
section
variable {P:Program}{L:Je}{base nt:Nat}{s:St}{o:Oper}
end
section
variable {P:Program}{L:Je}{base nt:Nat}{w0:Start}{Q:Exit->St->Prop}
end
def ar:D->Nat
 | .imm _ n _=>n
 | _=>0
def QCa{h}{g}{w}{d}{v}(r:QC Z h g w d v)(j:lU d=true):∃a n b,v=.slice a n b/\(a.isNone=true->ar d=0):=by
 cases d<;>simp only[lU,XZ]at j;all_goals first
  | (obtain⟨a,e⟩:=Ax r;exact⟨_,_,_,e,λ_=>rfl⟩)
  | (obtain⟨a,b,_,_,_,e,k,_⟩:=RZ r;refine⟨_,_,_,e,λf=>Nat.eq_zero_of_not_pos λi=>?_⟩;have c:0<_:=i;simp only[ar]at c;rw[k c]at f;cases f)
  | (obtain⟨_,_,a,b,e,_⟩:=EO r;exact⟨_,_,_,e,λ_=>rfl⟩)
section
variable {P:Program}{L:Je}{base nt:Nat}{w0:Start}{Q:Exit->St->Prop}
def QCb(I:Z9 P L){Q:Exit->St->Prop}{o:Oper}{c:List (Oper × G)}{s:St}{t k e a b:Nat}{x:Operand}{j:List Value}(B:o.op=.binOp .eql t x (.const (.slice none 0 0)) k)(p:lU (Qq s.fr x)=true)(v:ty L t=some ⟨.slice e,a,b,j⟩)(h:Zn nt o.dst=true)
  (C:∀b:Bool,(b=true->ar (Qq s.fr x)=0)->AG P base nt w0 c Q ⟨Zg s.fr o.dst (.raw (.bool b)),s.h⟩):AG P base nt w0 ((o,none)::c) Q s:=by
 intro Z z l i w r b;obtain⟨d,n,f,q,H⟩:=QCa (r.eval x) p;have F:i.eval (.const (.slice none 0 0))=.slice none 0 0:=rfl;have J:(execOp i.eval o).run P w=.ok (.value (.bool d.isNone)) w:=by
  have u:=ym (I _ _ v) rfl;have E:(Op.equal t (.slice d n f) (.slice none 0 0)).run P w=.ok d.isNone w:=mU λm=>by
   cases d<;>simp[Op.equalIn,run_underlying u]
  have y:(eqGuard .eql t x (.const (.slice none 0 0)) (.slice d n f) (.slice none 0 0)).run P w=.ok () w:=by simp[eqGuard]
  simp[execOp,B,q,F,Go.binOp,E,y]
 simp only[qk,XA,Vp];unfold Oper.wp;rw[J];simp only[Oper.upon_value];refine C _ H Z z l _ w ?_ b;cases g:o.dst with
 | none=>exact r
 | some t=>rw[g]at h;exact r.to (Tr.ext r.o λ_ _=>rfl) r.o (kZ h) (.cl _ _ (.raw _))
def QCd(m:Z9 P L){k:List Item}{c:Option Nat}{o:TypeId}{pos:String}{d:Array Edge}{n:Option (Nat × Bool)}{r:List (Oper × G)}{s:St}{t h e a b:Nat}{x:Operand}{g:List Value}
  (i:lU (Qq s.fr x)=true) (j:ty L t=some ⟨.slice e,a,b,g⟩) (l:Zn nt c=true) (f:∀b:Bool,(b=true->ar (Qq s.fr x)=0)->Qw P base nt w0 Q (.ops r::k) .normal ⟨Zg s.fr c (.raw (.bool b)),s.h⟩) :
  Qw P base nt w0 Q (.ops ((⟨c,.binOp .eql t x (.const (.slice none 0 0)) h,o,pos,d,n⟩,none)::r)::k) .normal s:=by
 simp only[Qw]at f ⊢;exact QCb m rfl i j l f
end
end Go.Fg
namespace Go.Fg.X
open Go.Proofs Go.Fg
open Go.Proofs.Tryz
@[go_sem] def Gl(l:List JX):D:=.imm 9 l.length (JX.rows l)
def QCe(h:List Ob)(l:List JX)(n:l.length<1000000):QM prog 65 h [Gl l] (λd f=>∃g,f=h++g/\XY (λj=>h.length<=j) (h++g) 9 JX.cells d l):=by
 refine Q8 func65 ntmps65 results65 λe w m a=>?_;simp only[go_sem,Qa];refine QCd Ca (by simp only[go_sem];rfl) rfl rfl λb k=>?_;cases b with
 | true=>
  have c:=k rfl;simp only[go_sem,ar]at c;apply QP a;exact⟨[],(JZ h).symm,.inl ⟨rfl,RK.1 c⟩⟩
 | false=>
  apply QP a;refine⟨ω,_,rfl,.inr ⟨h.length,_,_,rfl,QB _,Vj rfl,λi o=>?_⟩⟩;rw[kS (Jj _)];rfl
def QCf(r:JX):(af r.want r.mask==r.want)=(xg r.LO r.A3==r.LO&&(xg r.LP r.A4==r.LP&&(xg r.LQ r.Fo==r.LQ&&xg r.Fp r.DI==r.Fp))):=by
 rw[<- Bool.and_true (xg r.Fp r.DI==r.Fp)];rfl
structure jJ (h H:List Ob) (l:List JX) (k p:Nat) (dr:D) (le:Nat) (dm:D) (c:Nat) (es:List XN) (ms:List Nat):Prop where
 ex:VQ h H
 o:H[p]? = some (Nf dr le dm)
 eo:H[le]? = some (wv c es)
 rs:XY (λj=>h.length<=j) H 9 JX.cells dr l
 mo:XY (λj=>h.length<=j) H 1 (λi:Nat=>[Qb i]) dm ms
 hp:h.length<=p
 he:h.length<=le
 I:qa l k es ms
 ok:∀j,j<k->Ad (JK l j)=true
def jJ.app{h H}{l}{k p}{i}{e}{m}{c}{f}{d}(N:jJ h H l k p i e m c f d)(g):jJ h (H++g) l k p i e m c f d:=
 ⟨N.ex.app g,(QE (Qc N.o)).trans N.o,(QE (Qc N.eo)).trans N.eo,N.rs.step λj a b=>⟨b,QE a⟩,N.mo.step λj a b=>⟨b,QE a⟩,N.hp,N.he,N.I,N.ok⟩
def jJ.next{h H}{l}{k p}{m}{f}{E}{c}{C}{s}(N:jJ h H l k p m f E c C s){e:List Ob}{d}{r}{b}{a}(t:VQ h e)(u:e[p]? = some (Nf m f d))(x:e[f]? = some (wv r b))
  (w:∀(j:Nat) (o:Ob),H[j]? = some o->o.kd=.arr->o.sz=9->e[j]? = some o) (v:XY (λj=>h.length<=j) e 1 (λi:Nat=>[Qb i]) d a) (I:qa l (k+1) b a) (F:∀j,j<k+1->Ad (JK l j)=true):jJ h e l (k+1) p m f d r b a:=
 ⟨t,u,x,N.rs.imp id λ⟨q,g,n,B,z,y,h4⟩=>⟨q,g,n,B,z,w q _ y rfl rfl,h4⟩,v,N.hp,N.he,I,F⟩
def XJ{H:List Ob}{a b:Nat}{o c:Ob}(d:H[a]? = some o)(f:H[b]? = some c)(h:o.kd≠c.kd\/o.sz≠c.sz):a≠b:=λe=>by
 rw[e,f]at d;cases d;rcases h with h|h<;>exact h rfl
def jJ.A3{h H}{l}{k p}{d}{a}{c}{f}(N:jJ h H l k p d a .nil c f [])(g:zy (JK l k)=false)(q:∀j,j<k+1->Ad (JK l j)=true)(o):
  jJ h (H.set p (Nf d a (.ref (H.length+2) 0 0 1))++[o,⟨.arr,0,1,1,λ_=>[Qb k]⟩,⟨.arr,0,1,1,λ_=>[Qb k]⟩]) l (k+1) p d a (.ref (H.length+2) 0 0 1) c f ([]++[k]):=by
 have hp:=Qc N.o;have n:p≠a:=XJ N.o N.eo (.inl nofun);refine N.next ((N.ex.set N.hp _).app _) ?_ ?_ (λj o b m r=>?_) (.inr ⟨H.length+2,0,λ_=>[Qb k],rfl,by have:=N.ex.len;omega,VP (k:=2) σ,λi e=>?_⟩) (N.I.mask g) q
 .rw[QE (by simpa using hp),Qt hp]
 .rw[QE (by simpa using Qc N.eo),Ql n];exact N.eo
 .rw[QE (by simpa using Qc b),Ql (XJ N.o b (.inl (by rw[m];nofun)))];exact b
 .simp at e;subst e;rfl
def jJ.A4{h H:List Ob}{l}{k p}{q}{e}{c}{r}{a:List Nat}{b g}{d}(N:jJ h H l k p q e (.ref b g 0 a.length) c r a)(s:h.length<=b)(f:H[b]? = some ⟨.arr,g,1,a.length,d⟩)(z:∀i,i<a.length->d i=[Qb ((a.getD i default:Nat):Int)])
  (v:zy (JK l k)=false) (F:∀j,j<k+1->Ad (JK l j)=true) (o u:Ob) :
  jJ h ((H.set b ⟨.arr,g+1,1,a.length+1,JC a.length 0 d λ_=>[Qb k]⟩).set p (Nf q e (.ref b (g+1) 0 (a.length+1)))++[o,u]) l (k+1) p q e (.ref b (g+1) 0 (a.length+1)) c r (a++[k]):=by
 have hp:=Qc N.o;have t:=Qc f;have C:p≠e:=XJ N.o N.eo (.inl nofun);have E:b≠p:=XJ f N.o (.inl nofun);have B:b≠e:=XJ f N.eo (.inl nofun);refine N.next (((N.ex.set s _).set N.hp _).app _) ?_ ?_ (λj o m y x=>?_) (.inr ⟨b,g+1,JC a.length 0 d λ_=>[Qb k],σ,s,?_,λi w=>?_⟩) (N.I.mask v) F
 .rw[QE (by simpa using hp),Qt (by simpa using hp)]
 .rw[QE (by simpa using Qc N.eo),Ql C,Ql B];exact N.eo
 .rw[QE (by simpa using Qc m),Ql (XJ N.o m (.inl (by rw[y];nofun))),Ql (XJ f m (.inr (by rw[x];show (1:Nat)≠9;decide)))];exact m
 .rw[QE (by simpa using t),Ql (Q9 E),Qt t];simp
 .simp at w;by_cases n:i<a.length
  .rw[AD n,JR,z i n];simp[n,JO n]
  .have:i=a.length:=ω;subst this;rw[kS (QB _)];simp
def jJ.new{h H}{l}{k p:Nat}{r}{f}{s}{c}{e}{m}(N:jJ h H l k p r f s c e m)(u:zy (JK l k)=true)(v:Xp e (JK l k).want=none)(y:∀j,j<k+1->Ad (JK l j)=true)(o):
  jJ h (H.set f (wv (c+1) (e++[⟨(JK l k).want,Qb k,c⟩]))++[o]) l (k+1) p r f s (c+1) (e++[⟨(JK l k).want,Qb k,c⟩]) m:=by
 have n:=Qc N.eo;have keep:∀(j:Nat) (a:Ob),H[j]? = some a->a.kd≠.map->(H.set f (wv (c+1) (e++[⟨(JK l k).want,Qb k,c⟩]))++[o])[j]? = some a:=λj a b d=>by
  rw[QE (by simpa using Qc b),Ql (XJ N.eo b (.inl (Q9 d)))];exact b
 refine N.next ((N.ex.set N.he _).app _) (keep _ _ N.o nofun) ?_ (λj a b d q=>keep j a b (by rw[d];nofun)) (N.mo.imp id λ⟨t,g,i,d,q,x,w⟩=>⟨t,g,i,d,q,keep _ _ x nofun,w⟩) (N.I.new u v c) y;rw[QE (by simpa using n),Qt n]
def QkQ(h)(l:List JX)(hl:l.length<1000000):
  QM prog 41 h [Gl l] (λd h'=>∃g,h'=h++g/\(zx l=0->∃p,d=.tup [.ptr p 0 0 0,Qb 0]/\Il (λj=>h.length<=j) (h++g) p l)/\(zx l≠0->d=.tup [.raw (.pointer none),Qb (zx l)])):=by
 by_cases ky:32<l.length
 .have d0:decide ((32:Int)<(l.length:Int))=true:=QT ω;have e:zx l=2:=by unfold zx;rw[Qe ky]
  rw[e];refine Q8 func41 ntmps41 results41 λR w pl a=>?_;simp only[go_sem,Qa,d0];exact⟨[],(JZ h).symm⟩
 .have d0:decide ((32:Int)<(l.length:Int))=false:=QH ω;refine Q8 func41 ntmps41 results41 λR w pl a=>?_;simp only[go_sem,Qa,d0];refine JG a Qr4 (QCe h l hl) λd h1 hR=>?_;obtain⟨t,rfl,XQ⟩:=hR;have O:=Qck .i64;simp only[QS]at O;have Q:Yu d=some [d]:=by rcases XQ with ⟨rfl,_⟩|⟨_,_,_,rfl,_⟩<;>rfl
  have P:d.Vr=true:=by rcases XQ with ⟨rfl,_⟩|⟨_,_,_,rfl,_⟩<;>rfl
  apply Qf a;simp only[go_sem,Qa,Q,P];obtain⟨H,L⟩:∃H,H=h++(t++[QS .i64 0 [],Nf d (h.length+t.length) .nil]):=⟨_,rfl⟩;have N0:jJ h H l 0 (h.length+(t.length+1)) d (h.length+t.length) .nil 0 [] []:=by
   rw[<- W9]at L;subst L;refine⟨((VQ.refl h).app t).app _,?_,?_,XQ.step λj f h1=>⟨h1,QE f⟩,.inl ⟨rfl,rfl⟩,ω,ω,qa.nil l,λj f=>absurd f (X2 j)⟩
   .rw[show h.length+(t.length+1)=(h++t).length+1 by simp;omega];exact VP (k:=1) rfl
   .rw[<- Qck .i64,show h.length+t.length=(h++t).length by simp];exact Vj rfl
  simp only[go_sem]at L;rw[<- L];obtain⟨p,hp⟩:∃p,p=h.length+(t.length+1):=⟨_,rfl⟩;rw[<- hp]at N0 ⊢;clear L;refine ZW (λk s=>∃H W T Y c M m,jJ h H l k p W T Y c M m/\s=⟨[(4,.ptr p 0 0 0),(17,Gl l),(18,Qb l.length),(19,Qb k)],H⟩) l.length QQ ⟨H,_,_,_,_,_,_,N0,rfl⟩ ?_;clear N0 XQ Q P O H hp d t;rintro k _ hk ⟨H,W,T,Y,c,M,m,N,rfl⟩;by_cases u:k<l.length
  .have I:=QT u;obtain⟨r,i⟩:∃r,r=JK l k:=⟨_,rfl⟩;have Z:l.getD k default=r:=i.symm;have WE:r∈l:=by rw[i];exact Yx l default k u
   have J:=JT (show k<4611686018427387904 from ω);have n:=N.o;have x:=Qc n;have V:=N.eo;have Jr:=Qc V;have h4:=N.I.four;have F:=QCf r;have B:Ad r=false->zx l=1:=λa=>by
    unfold zx;rw[Qd ky,Qd];intro Kr;have:=zC.1 Kr r WE;rw[a]at this;cases this
   have U:=QkM r.LO r.LP r.LQ r.Fp r.A3 r.A4 r.Fo r.DI;by_cases c1:r.cls<1
   .have d1:=QT c1;rw[B (by unfold Ad;rw[QH (show ¬1<=r.cls from ω)];rfl)];apply Qf a;simp only[go_sem,Qa,I,u,Z];apply Qx a o06;simp only[go_sem,Qa,d1,Go.undef];exact N.ex.app _
   have d1:=QH c1;by_cases c2:65536<r.cls
   .have d2:=QT c2;rw[B (by unfold Ad;rw[QH (show ¬r.cls<=65536 from ω),RG];rfl)];apply Qf a;simp only[go_sem,Qa,I,u,Z];apply Qx a o06;simp only[go_sem,Qa,d1,d2,Go.undef];exact N.ex.app _
   have d2:=QH c2;cases S:af r.want r.mask==r.want with
   | false=>
    rw[B (by unfold Ad;rw[S,RG])];rw[S]at F;apply Qf a;simp only[go_sem,Qa,I,u,Z];apply Qx a o06;simp only[go_sem,Qa,d1,d2,Go.undef];refine Vb a oP ?_ U ?_
    .simp only[go_sem,Qa,d1,d2,<- F]
    apply Zk a;simp only[go_sem,Qa,d1,d2,<- F];exact N.ex.app _
   | true=>
    rw[S]at F;have Jf:∀j,j<k+1->Ad (JK l j)=true:=λj f=>by
     rcases xo.1 f with h5|rfl
     .exact N.ok j h5
     .rw[<- i];unfold Ad;rw[S,QT (show 1<=r.cls from ω),QT (show r.cls<=65536 from ω)];rfl
    obtain⟨q,hq⟩:∃q,q=Xp M r.want:=⟨_,rfl⟩;have Ex:=hq;simp only[JX.want]at Ex;have K:zy r=(r.A3==65535&&(r.A4==65535&&(r.Fo==65535&&r.DI==65535))):=rfl;obtain⟨b,y⟩:∃b,b=zy r:=⟨_,rfl⟩;rw[<- y]at K;apply Qf a;simp only[go_sem,Qa,I,u,Z];apply Qx a o06;simp only[go_sem,Qa,d1,d2,Go.undef];refine Vb a oP ?_ U ?_
    .simp only[go_sem,Qa,d1,d2,<- F]
    apply Zk a;simp only[go_sem,Qa,d1,d2,<- F];cases q with
    | none=>
     apply Qx a [0,1,2,3,4,5,6,7,8,9,10,11];simp only[go_sem,Qa,n,x,V,Jr,<- Ex];refine⟨h4,?_⟩;apply Qx a [0,1,1002,3,4];simp only[go_sem,Qa];refine Vb a QeW ?_ QkL ?_
     .simp only[go_sem,Qa,<- K]
     apply Zk a;simp only[go_sem,Qa,<- K];cases b with
     | false=>
      rcases N.mo with ⟨rfl,rfl⟩|⟨lm,gm,a0,rfl,DY,v,q7⟩
      .have o:=N.A3 (by rw[<- i,<- y]) Jf ⟨.one,0,9,1,λ_=>r.cells⟩;simp only[go_sem,Qa,n,x];refine⟨u,_,Qr.frame (fr':=[(4,.ptr p 0 0 0),(17,Gl l),(18,Qb l.length),(19,Qb (k+1:Nat))]) (by simp only[go_sem,J]),_,_,_,_,_,_,_,o,rfl⟩
      .have o:=N.A4 DY v q7 (by rw[<- i,<- y]) Jf ⟨.one,0,9,1,λ_=>r.cells⟩ ⟨.arr,0,1,1,λ_=>[Qb k]⟩;have QR:=Qc v;have FK:lm≠p:=XJ v n (.inl nofun);have E:m.length<=4294967295:=by
        have:=inc_le m k 0 N.I.inc λj f=>⟨Jj j,((N.I.mem j).1 f).1⟩;omega
       have C:m.length+1<=4294967295:=by
        have:=inc_le m k 0 N.I.inc λj f=>⟨Jj j,((N.I.mem j).1 f).1⟩;omega
       simp only[go_sem,Qa,n,x,v,QR,Ql FK,E,C];repeat (refine And.intro δ ?_)
       refine⟨_,Qr.frame (fr':=[(4,.ptr p 0 0 0),(17,Gl l),(18,Qb l.length),(19,Qb (k+1:Nat))]) (by simp only[go_sem,J]),_,_,_,_,_,_,_,o,rfl⟩
     | true=>
      simp only[go_sem,Qa,n,x];apply Qx a ut;simp only[go_sem,Qa,n,x,V,Jr,<- Ex];have o:=N.new (by rw[<- i,<- y]) (by rw[<- i];exact hq.symm) Jf ⟨.one,0,9,1,λ_=>r.cells⟩;rw[<- i]at o;refine⟨h4,u,_,Qr.frame (fr':=[(4,.ptr p 0 0 0),(17,Gl l),(18,Qb l.length),(19,Qb (k+1:Nat))]) (by simp only[go_sem,J]),_,_,_,_,_,_,_,o,rfl⟩
    | some d=>
     apply Qx a [0,1,2,3,4,5,6,7,8,9,10,11];simp only[go_sem,Qa,n,x,V,Jr,<- Ex];refine⟨h4,?_⟩;apply Qx a [0,1,1002,3,4];simp only[go_sem,Qa];refine Vb a QeW ?_ QkL ?_
     .simp only[go_sem,Qa,<- K]
     apply Zk a;simp only[go_sem,Qa,<- K];cases b with
     | false=>
      rcases N.mo with ⟨rfl,rfl⟩|⟨lm,gm,a0,rfl,DY,v,q7⟩
      .have o:=N.A3 (by rw[<- i,<- y]) Jf ⟨.one,0,9,1,λ_=>r.cells⟩;simp only[go_sem,Qa,n,x];refine⟨u,_,Qr.frame (fr':=[(4,.ptr p 0 0 0),(17,Gl l),(18,Qb l.length),(19,Qb (k+1:Nat))]) (by simp only[go_sem,J]),_,_,_,_,_,_,_,o,rfl⟩
      .have o:=N.A4 DY v q7 (by rw[<- i,<- y]) Jf ⟨.one,0,9,1,λ_=>r.cells⟩ ⟨.arr,0,1,1,λ_=>[Qb k]⟩;have QR:=Qc v;have FK:lm≠p:=XJ v n (.inl nofun);have E:m.length<=4294967295:=by
        have:=inc_le m k 0 N.I.inc λj f=>⟨Jj j,((N.I.mem j).1 f).1⟩;omega
       have C:m.length+1<=4294967295:=by
        have:=inc_le m k 0 N.I.inc λj f=>⟨Jj j,((N.I.mem j).1 f).1⟩;omega
       simp only[go_sem,Qa,n,x,v,QR,Ql FK,E,C];repeat (refine And.intro δ ?_)
       refine⟨_,Qr.frame (fr':=[(4,.ptr p 0 0 0),(17,Gl l),(18,Qb l.length),(19,Qb (k+1:Nat))]) (by simp only[go_sem,J]),_,_,_,_,_,_,_,o,rfl⟩
     | true=>
      simp only[go_sem,Qa,n,x];have z:=N.app [⟨.one,0,9,1,λ_=>r.cells⟩];have o:jJ h (H++[⟨.one,0,9,1,λ_=>r.cells⟩]) l (k+1) p W T Y c M m:=⟨z.ex,z.o,z.eo,z.rs,z.mo,z.hp,z.he,N.I.there (by rw[<- i,<- y]) (by rw[<- i,<- hq];rfl),Jf⟩;refine⟨u,_,Qr.frame (fr':=[(4,.ptr p 0 0 0),(17,Gl l),(18,Qb l.length),(19,Qb (k+1:Nat))]) (by simp only[go_sem,J]),_,_,_,_,_,_,_,o,rfl⟩
  .have ZG:k=l.length:=ω;have I:=QH u;subst ZG;have O:zx l=0:=by
    unfold zx;rw[Qd ky,Qe];rw[zC];intro r i;obtain⟨j,f,e⟩:=xl i;have:=N.ok j f;unfold JK at this;rw[QY,QG f]at this;rw[<- e];exact this
   apply Qf a;simp only[go_sem,Qa,I];apply QP a;obtain⟨g,rfl⟩:=N.ex;refine⟨g,rfl,λ_=>⟨p,rfl,W,T,Y,c,M,m,N.o,N.eo,N.rs,N.mo,N.hp,N.he,N.I,O⟩,λh=>absurd O h⟩
@[go_sem] def BA(d:D):Ob:=⟨.one,0,1,1,λ_=>[d]⟩
structure jg (n:Nat) (own:Nat->Tag) (tw:Nat->TT) (h:List Ob) (bp bo op:Nat) (L:List Ev):Prop where
 hp:h[bp]? = some (BA (Qb op))
 ho:∃d,h[bo]? = some (BA d)/\XY (λl=>n<=l/\own l=.no/\tw l=.no/\l≠bp/\l≠bo) h 12 Ev.cells d L
 np:n<=bp
 no:n<=bo
 op:own bp=.no
 oo:own bo=.no
 tp:tw bp=.no
 to:tw bo=.no
 ne:bp≠bo
def jg.Af{n}{i g}{o u}{h r:List Ob}{s t p}{L}(E:jg n i o h s t p L)(D:Jv h.length i o h g u r):jg n g u r s t p L:=by
 obtain⟨d,q,v⟩:=E.ho;have k:=Qc E.hp;have l:=Qc q;exact⟨(D.keep _ k E.op E.tp).trans E.hp,⟨d,(D.keep _ l E.oo E.to).trans q,v.step λj m ⟨a,b,c,e,f⟩=>⟨⟨a,(D.s1 j m).trans b,(D.s2 j m).trans c,e,f⟩,D.keep j m b c⟩⟩,E.np,E.no,(D.s1 _ k).trans E.op,(D.s1 _ l).trans E.oo,(D.s2 _ k).trans E.tp,(D.s2 _ l).trans E.to,E.ne⟩
def Jv.YL{m n}{b a}{c e}{h d}(f:m<=n)(D:Jv n b c h a e d):Jv m b c h a e d:=⟨D.s1,D.s2,λl g=>D.keep l (wg g f),D.my,D.len⟩
def QCg{n}{a}{c}{h i:List Ob}{m d}(r:n<=m)(q:a m=.no)(p:c m=.no)(b:d<h.length->n<=d/\a d=.no/\c d=.no)(s:n<=h.length)(o:h.length<=i.length)
  (k:∀j,j<h.length->j≠m->j≠d->i[j]? = h[j]?):Jv n a c h (Q4 a h .no) (Ji c h .no) i/\lO a c h (Q4 a h .no) (Ji c h .no) i:=by
 refine⟨⟨λl b=>Ku b,λl b=>VT b,λl t _ _=>k l ω ω λe=>?_,λl Qc g=>k l Qc (λe=>by rw[e,p]at g;cases g) λe=>?_,o⟩,λl Qc=>⟨λf=>⟨Ku Qc,k l Qc (λe=>f.1 (by rw[e,q])) λe=>?_⟩,λf _=>⟨VT Qc,k l Qc (λe=>f (by rw[e,p])) λe=>?_⟩⟩⟩
 .have:=(b ω).1;omega
 .rw[e,(b ω).2.2]at g;cases g
 .exact f.1 (by rw[e];exact(b ω).2.1)
 .exact f (by rw[e];exact(b ω).2.2)
def lV{a}{b}{h}(e:∀l,b l≠.no->a l=.no):∀l,Ji b h .no l≠.no->Q4 a h .no l=.no:=λl c=>by
 by_cases d:l<h.length
 .rw[VT d]at c;rw[Ku d];exact e l c
 .exact kH ω
def QkT{n}{a}{f}{h:List Ob}{s p c}{L:List Ev}(E:jg n a f h s p c L)(V:n<=h.length)(hL:L.length<1000000000)(e:Ev):
  QM prog 43 h [.agg e.cells,.ptr s 0 0 0,.ptr p 0 0 0] (λd m=>d=.tup []/\jg n (Q4 a h .no) (Ji f h .no) m s p c (L++[{ e with op:=c }])/\Jv n a f h (Q4 a h .no) (Ji f h .no) m/\lO a f h (Q4 a h .no) (Ji f h .no) m):=by
 have q:=E.hp;obtain⟨d,v,W⟩:=E.ho;have t:=E.ne;have B:=Qc q;have r:=Qc v;have b:∀(m:List Ob) (F:D) (o:Nat),m[s]? = some (BA (Qb c))->m[p]? = some (BA F)->XY (λl=>n<=l/\Q4 a h .no l=.no/\Ji f h .no l=.no/\l≠s/\l≠p) m 12 Ev.cells F (L++[{ e with op:=c }])->(o<h.length->n<=o/\a o=.no/\f o=.no)->h.length<=m.length ->
   (∀j,j<h.length->j≠p->j≠o->m[j]? = h[j]?)->jg n (Q4 a h .no) (Ji f h .no) m s p c (L++[{ e with op:=c }])/\Jv n a f h (Q4 a h .no) (Ji f h .no) m/\lO a f h (Q4 a h .no) (Ji f h .no) m:=λm F o a1 a2 a3 a4 a5 Z=>
  ⟨⟨a1,⟨F,a2,a3⟩,E.np,E.no,(Ku B).trans E.op,(Ku r).trans E.oo,(VT B).trans E.tp,(VT r).trans E.to,E.ne⟩,QCg E.no E.oo E.to a4 V a5 Z⟩
 rcases W with ⟨rfl,rfl⟩|⟨o,g,x,rfl,⟨R,Q,P,I,z⟩,J,U⟩
 .have b:=b (h.set p (BA (.ref (h.length+2) 0 0 1))++[⟨.one,0,12,1,λ_=>({ e with op:=c }:Ev).cells⟩,⟨.arr,0,12,1,λ_=>({ e with op:=c }:Ev).cells⟩,⟨.arr,0,12,1,λ_=>({ e with op:=c }:Ev).cells⟩]) (.ref (h.length+2) 0 0 1) h.length
   (by rw[QE (by simpa using B),Ql t.symm];exact q) (by rw[QE (by simpa using r),Qt r])
   (.inr ⟨h.length+2,0,λ_=>({ e with op:=c }:Ev).cells,rfl,⟨ω,kH ω,Gi ω,ω,ω⟩,VP (k:=2) σ,λi C=>by
    simp at C;subst C;rfl⟩) (λh=>absurd h (GD _)) σ (λj K M S=>by rw[QE (by simpa using K),Ql (Q9 M)])
  refine Q8 func43 ntmps43 results43 λy w T Y=>?_;have N:=Qc q;have O:=Qc v;simp only[go_sem,Qa,q,N,v,O,t,t.symm];simp only[go_sem]at b ⊢;exact b
 .have u:=Qc J;have U3:L.length<=4294967295:=ω;have U5:L.length+1<=4294967295:=ω;have b:=b ((h.set o ⟨.arr,g+1,12,L.length+1,JC L.length 0 x λ_=>({ e with op:=c }:Ev).cells⟩).set p (BA (.ref o (g+1) 0 (L.length+1)))++[⟨.one,0,12,1,λ_=>({ e with op:=c }:Ev).cells⟩,⟨.arr,0,12,1,λ_=>({ e with op:=c }:Ev).cells⟩]) (.ref o (g+1) 0 (L.length+1)) o
   (by rw[QE (by simpa using B),Ql t.symm,Ql I];exact q) (by rw[QE (by simpa using r),Qt (by simpa using r)])
   (.inr ⟨o,g+1,JC L.length 0 x λ_=>({ e with op:=c }:Ev).cells,σ,⟨R,(Ku u).trans Q,(VT u).trans P,I,z⟩,by rw[QE (by simpa using u),Ql z.symm,Qt u];simp,λi C=>by
    simp at C;by_cases H:i<L.length
    .rw[AD H,JR,U i H];simp[H,JO H]
    .have:i=L.length:=ω;subst this;rw[kS (QB _)];simp⟩) (λ_=>⟨R,Q,P⟩) σ (λj K M S=>by rw[QE (by simpa using K),Ql (Q9 M),Ql (Q9 S)])
  refine Q8 func43 ntmps43 results43 λy w T Y=>?_;have N:=Qc q;have O:=Qc v;have u:=Qc J;simp only[go_sem,Qa,q,N,v,O,J,u,t,t.symm,I,z,Ql z,U3,U5];simp only[go_sem]at b ⊢;repeat (refine And.intro δ ?_)
  exact b
def QCh{l}{n}{h}{p}{S}(T:Yp l n h p S):Zi prog 81 h [.ptr p 0 0 0] (λd=>d=u64 (Q1 S)):=by
 obtain⟨u,o,x,t,T⟩:=T;have g:=Z3 T.o;obtain⟨a,b,c,i⟩:=T.ln;have i:=Z3 i;obtain⟨L,C⟩:=T.co.ex;have k:=QjO C.ro T.co.I;have r:=λ(F:List Ob) (f:F=h.map Ob.ro)=>QBU (h:=F) (VI f _ _ i);have k:=λ(F:List Ob) (f:F=h.map Ob.ro)=>QjO (C.ro.more (VI f)) T.co.I;clear T C;unfold Q1;obtain⟨v,q⟩:∃v,v=qK S.M:=⟨_,rfl⟩;rw[<- q]at k ⊢;refine ZJ func81 ntmps81 results81 λm w o F f y e=>?_;rw[<- f]at g i;have j:=Qc g;have s:=Qc i;simp only[go_sem,Qa,g,j,i,s];apply Qx e [0,1,2,3,4,5,6,7,9,10,11,12,1008,1013,1014,15];simp only[go_sem,Qa,g,j];apply XB e Qsw (r F f);apply Zk e;simp only[go_sem,Qa,g,j];apply XB e Qsx (k F f);apply Zk e;simp only[go_sem,Qa,g,j];apply S3 e Qsv (QB2 S.Qh S.JW v);apply YQ e;all_goals exact Xg
def QkU{n}{o}{x}{h:List Ob}{p}{S}(T:Yp o x h p S)(V:Z5 S){bp bo s}{L:List Ev}(E:jg n o x h bp bo s L)(C:n<=h.length)(hL:L.length<100000000):
  QM prog 80 h [.ptr p 0 0 0,u64 S.Qh,.clo 43 0 [.ptr bp 0 0 0,.ptr bo 0 0 0]] (λd F=>d=.tup []/\∃r Js,Yp r Js F p (Jk S s S.Qh).1/\jg n r Js F bp bo s (L++(Jk S s S.Qh).2)/\Jv n o x h r Js F):=by
 obtain⟨ps,lp,pr,pt,T⟩:=T;have z:=T.o;obtain⟨a,b,c,hl⟩:=T.ln;have Y:=QaG (Z3 hl) S.Qh;by_cases hu:S.JW<=S.Qh
 .have du:=QT hu;rw[du]at Y;refine Q8 func80 ntmps80 results80 λR w pl i=>?_;have J:=Qc z;simp only[go_sem,Qa,z,J];apply Ju i eY Y;apply Qf i;simp only[go_sem,Qa,z,J];refine Fu i Qss (QBp T.co S.Qh) λd f y=>?_;obtain⟨rfl,P,C1,D1⟩:=y;have T1:=T.core D1 C1 (Ih S.M S.Qh);have O:Jv h.length o x h P (Ji x h .no) f:=Jv.core T.ap (QB _) D1;obtain⟨Wn,a8⟩:∃t,t=Ji x h .no:=⟨_,rfl⟩;rw[<- a8]at T1 O;have E1:=E.Af O;have UN:=O.len;obtain⟨j,hj⟩:∃j,j=WJ S.M S.Qh:=⟨_,rfl⟩;obtain⟨k,Z⟩:∃k,k=Vn S.M S.Qh:=⟨_,rfl⟩;obtain⟨b,Aw⟩:∃b,b=By S.M S.Qh:=⟨_,rfl⟩;cases ht:YE S.M S.Qh with
  | false=>
   have e:Jk S s S.Qh=({ S with M:=takeN S.M S.Qh },[]):=by unfold Jk;rw[Qd ω,Qd (by rw[ht];exact BF)]
   rw[e,<- hj,<- Z,<- Aw];apply QP i;have u:=T1.Gk [⟨.one,0,8,1,λ_=>zn j k b⟩];have v:=Jv.app (n:=f.length) P Wn f [⟨.one,0,8,1,λ_=>zn j k b⟩] .my (QB _);exact⟨_,_,⟨_,_,_,_,u⟩,E1.Af v,(O.YL C).trans C (v.YL ω)⟩
  | true=>
   have m:=V.take_len ht;have Xn:=ag V.K m;rw[<- Z]at m Xn;have DY:=V.K.l2;have Zx:=V.cl;obtain⟨done,Q⟩:∃d,d=S.Qh+Y7 S.M.lk k.len:=⟨_,rfl⟩;have e:Jk S s S.Qh=({ S with M:=takeN S.M S.Qh,JW:=done,st:=Y6 S.st j done k.len b },[Eu s b S.Qh done j k]):=by
    unfold Jk;rw[Qd ω,Qe ht,<- Z,<- Q,<- hj,<- Aw]
   rw[e,<- hj,<- Z,<- Aw];have u:=T1.Gk [⟨.one,0,8,1,λ_=>zn j k b⟩];have v:=O.trans (QB _) ((Jv.app (n:=f.length) P Wn f [⟨.one,0,8,1,λ_=>zn j k b⟩] .my (QB _)).YL UN);have E2:=E.Af v;have H:(f++[(⟨.one,0,8,1,λ_=>zn j k b⟩:Ob)])[f.length]? = some ⟨.one,0,8,1,λ_=>zn j k b⟩:=Vj rfl;have n2:Q4 P f .no f.length=.no:=kH (QB _);have m2:Ji Wn f .my f.length=.my:=Gi (QB _);apply QP i;obtain⟨q,Rq⟩:∃q,q=f++[(⟨.one,0,8,1,λ_=>zn j k b⟩:Ob)]:=⟨_,rfl⟩;rw[<- Rq]at u v E2 H;simp only[go_sem,zn]at Rq;rw[<- Rq];clear Rq;generalize Q4 P f .no=Kj at u v E2 n2;generalize Ji Wn f .my=qb at u v E2 m2;have VN:=u.o;have z8:=Qc VN;have U:=Qc H;obtain⟨a2,b2,c2,Jx⟩:=u.ln;have z7:(takeN S.M S.Qh).lk=S.M.lk:=Ih S.M S.Qh;have W:=QBY q Jx (by show 1<=(takeN S.M S.Qh).lk.t;rw[z7];exact V.K.t1) (by show (takeN S.M S.Qh).lk.t<=65536;rw[z7];exact V.K.t2) Zx hu k ⟨m.1,ω⟩;have a7:S.Qh+k.len.toNat*(takeN S.M S.Qh).lk.t.toNat=done:=by rw[z7,Q];rfl
   have W:QM prog 119 q [.ptr lp 0 0 0,u64 S.Qh,.agg k.cells] (λd F=>d=.tup [u64 done,Qb 0]/\∃a' b' c' g,F=q.set lp (jH a' b' c' (takeN S.M S.Qh).lk.t done)++g):=by
    rw[<- a7];exact W
   simp only[go_sem,zn]at H;apply VE [7] i [0,1,2,3,4,5,6,1007,8,9,10,11,12] [];simp only[go_sem,Qa,VN,z8,H,U];refine wC i Qst W λd B y=>?_;obtain⟨rfl,a3,b3,c3,g3,au⟩:=y;have a0:=u.tl;have s3:Step (λl=>qb l=.ln) q B:=by
    rw[au];exact⟨λl hl QA=>by rw[QE (by simpa using hl),Ql (λe=>QA (by rw[<- e];exact a0))],σ⟩
   have FI:B[lp]? = some (jH a3 b3 c3 (takeN S.M S.Qh).lk.t done):=by rw[au,QE (by simpa using Qc Jx),Qt (Qc Jx)]
   have I:=u.link s3 FI;have N:=v.trans (QB _) ((Jv.part (n:=q.length) (own:=Kj) (t:=.ln) ⟨σ,σ⟩ (QB _) s3).YL v.len);have E3:=E.Af N;have zl:B[f.length]? = some _:=(s3.keep _ U (by rw[m2];simp)).trans H;have n3:Q4 Kj q .no f.length=.no:=(Ku U).trans n2;have m3:Ji qb q .ln f.length=.my:=(VT U).trans m2;clear au W;generalize Q4 Kj q .no=Br at I N E3 n3;generalize Ji qb q .ln=lZ at I N E3 m3;have Xw:=I.o;have jC:=Qc Xw;have CP:=Qc zl;apply YQ i;have a6:=QB6 I.st j (done:=done) ω (bytes:=k.len) m.1 ω b;apply VE [12] i [0,1,2,3,4,5,6,7,8,9,10,11,1012] [];simp only[go_sem,Qa,Xw,jC,zl,CP];refine wC i Qsu a6 λd h4 y=>?_;obtain⟨s4,a4⟩:=y;have T4:=I.stat s4 a4;have K:=N.trans (QB _) ((Jv.part (n:=B.length) (own:=Br) (t:=.st) ⟨σ,σ⟩ (QB _) s4).YL N.len);have E4:=E.Af K;have Vd:h4[f.length]? = some _:=(s4.keep _ CP (by rw[m3];simp)).trans zl;generalize Q4 Br B .no=a9 at T4 K E4;generalize Ji lZ B .st=b0 at T4 K E4;have a5:=Qc Vd;apply Zk i;simp only[go_sem,Qa,Vd,a5];have U6:n<=h4.length:=Kv C K.len;refine V5 i QeR rfl ?_ (QkT E4 U6 ω (Eu 0 b S.Qh done j k)) rfl λd h5 y=>?_
   .simp only[go_sem,Eu]
   obtain⟨rfl,E5,K5,a1⟩:=y;have T5:=T4.step a1 (lV T4.ap);have BP:({ Eu 0 b S.Qh done j k with op:=(s:Int) }:Ev)=Eu s b S.Qh done j k:=rfl;rw[BP]at E5;apply QP i;exact⟨_,_,⟨_,_,_,_,T5⟩,E5,(K.YL C).trans C K5⟩
 .have du:=QH hu;rw[du]at Y;have e:Jk S s S.Qh=(S,[]):=by unfold Jk;rw[Qe ω]
  rw[e];refine Q8 func80 ntmps80 results80 λR w pl i=>?_;have J:=Qc z;simp only[go_sem,Qa,z,J];apply Ju i eY Y;apply Qf i;simp only[go_sem,Qa,z,J];exact⟨o,x,⟨_,_,_,_,T⟩,E,Jv.refl n o x h⟩
@[go_sem] def Y8.cells(r:Y8):List D:=[Qb r.err,Qb r.place,Qb r.cls]
def jg.loc{n}{a}{f}{h:List Ob}{b c i}{L}(E:jg n a f h b c i L){l}{j:Ob}(p:h[l]? = some j)(q:j.kd≠.arr)(s:l≠b)(r:l≠c)(o):jg n a f (h.set l o) b c i L:=by
 obtain⟨d,x,w⟩:=E.ho;exact⟨by rw[Ql s];exact E.hp,⟨d,by rw[Ql r];exact x,w.imp id λ⟨m,g,e,v,u,k,t⟩=>⟨m,g,e,v,u,by rw[Ql (XJ p k (.inl q))];exact k,t⟩⟩,E.np,E.no,E.op,E.oo,E.tp,E.to,E.ne⟩
def Jv.Ef{n}{b a}{e f}{h H:List Ob}(D:Jv n b e h a f H){l}(k:n<=l)(i:h.length<=l)(o):Jv n b e h a f (H.set l o):=⟨D.s1,D.s2,λj d c g=>by rw[Ql ω];exact D.keep j d c g,λj d c=>by rw[Ql ω];exact D.my j d c,by simpa using D.len⟩
def QCo{n}{g}{O}{h:List Ob}{p}{S:ZE}(T:Yp g O h p S)(V:Z5 S){bp bo f}{L:List Ev}(E:jg n g O h bp bo f L)(C:n<=h.length)(hL:L.length<10000000)(F1:∀k,(S.st.Jd k).length<1000000)(x)(hx:aj x):
  QM prog 46 h [.ptr p 0 0 0,.agg x.cells,.clo 43 0 [.ptr bp 0 0 0,.ptr bo 0 0 0]] (λd h'=>d=.agg (Yo S f x).r.cells/\∃q Js,Yp q Js h' p (Yo S f x).S/\jg n q Js h' bp bo f (L++(Yo S f x).l)/\Jv n g O h q Js h'):=by
 obtain⟨ps,lp,pr,pt,T⟩:=T;have Zx:=V.cl;have s:=T.Gk [⟨.one,0,6,1,λ_=>x.cells⟩,⟨.one,0,3,1,λ_=>[Qb 0,Qb 0,Qb 0]⟩];have J:=Jv.app (n:=h.length) g O h [⟨.one,0,6,1,λ_=>x.cells⟩,⟨.one,0,3,1,λ_=>[Qb 0,Qb 0,Qb 0]⟩] .my (QB _);have E1:=E.Af J;have l:(h++[(⟨.one,0,6,1,λ_=>x.cells⟩:Ob),⟨.one,0,3,1,λ_=>[Qb 0,Qb 0,Qb 0]⟩])[h.length]? = some ⟨.one,0,6,1,λ_=>x.cells⟩:=Vj rfl;have y:(h++[(⟨.one,0,6,1,λ_=>x.cells⟩:Ob),⟨.one,0,3,1,λ_=>[Qb 0,Qb 0,Qb 0]⟩])[h.length+1]? = some ⟨.one,0,3,1,λ_=>[Qb 0,Qb 0,Qb 0]⟩:=VP (k:=1) rfl;have Q:∀i,h.length<=i->Q4 g h .no i=.no:=λi hi=>kH hi;have m1:∀i,h.length<=i->Ji O h .my i=.my:=λi hi=>Gi hi;have UN:h.length+2=(h++[(⟨.one,0,6,1,λ_=>x.cells⟩:Ob),⟨.one,0,3,1,λ_=>[Qb 0,Qb 0,Qb 0]⟩]).length:=σ;refine Q8 func46 ntmps46 results46 λb3 w pl b=>?_;simp only[go_sem,Qa];obtain⟨j,CW⟩:∃j,j=h++[(⟨.one,0,6,1,λ_=>x.cells⟩:Ob),⟨.one,0,3,1,λ_=>[Qb 0,Qb 0,Qb 0]⟩]:=⟨_,rfl⟩;rw[<- CW]at s J E1 l y UN;simp only[go_sem]at CW;rw[<- CW];clear CW;generalize Q4 g h .no=Jz at s J E1 Q;generalize Ji O h .my=U at s J E1 m1;have v:=s.o;have I:=Qc v;have r:=Qc l;have m:=Qc y;obtain⟨dr,le,dm,cc,es,ms,Tb⟩:=s.tb;have F:=QB8 Tb.toR x hx;obtain⟨a,B⟩:∃c,c=Jn S.R (Zu x):=⟨_,rfl⟩;rw[<- B]at F;by_cases R:a=0
 .have e:Yo S f x=⟨S,⟨31,0,0⟩,[]⟩:=by unfold Yo;rw[Qe (by rw[<- B];exact R)]
  rw[e];rw[Qe R,R]at F;simp only[go_sem]at l;apply Qx b [0,1,2,3,4,5,1006,7,8,9,10,11];simp only[go_sem,Qa,v,I,l,r];refine js b QeY ?_ F ?_
  .simp only[go_sem,Qa,v,I,l,r,y,m,Qt m]
  apply Zk b;simp only[go_sem,Qa,v,I,l,r,y,m,Qt m];exact⟨Jz,U,⟨_,_,_,_,s.loc (Q _ ω) (.inr (m1 _ ω)) _⟩,E1.loc y nofun (by have:=Qc E.hp;omega) (by obtain⟨d,j,_⟩:=E.ho;have:=Qc j;omega) _,(J.YL C).Ef ω ω _⟩
 .have nb:h.length+1≠bp/\h.length+1≠bo:=by
   obtain⟨d,j,_⟩:=E.ho;have:=Qc j;have:=Qc E.hp;omega
  rw[Qd R]at F;have P:=QBo s.co S.Qh ω a x;simp only[go_sem]at l;obtain⟨t,l6⟩:∃e,e=qI S.M S.Qh a x:=⟨_,rfl⟩;rw[<- l6]at P;apply Qx b [0,1,2,3,4,5,1006,7,8,9,10,11];simp only[go_sem,Qa,v,I,l,r];refine js b QeY ?_ F ?_
  .simp only[go_sem,Qa,v,I,l,r,y,m,Qt m]
  apply Zk b;simp only[go_sem,Qa,v,I,l,r,y,m,Qt m];apply VE [10] b [0,1,2,3,4,5,6,7,8,9,1010,11] [];simp only[go_sem,Qa,v,I,l,r];refine wC b Qr8 P λd o H=>?_;obtain⟨rfl,z,C2,W⟩:=H;have T2:=s.core W C2 (If S.M S.Qh a x);have a4:Jv j.length Jz U j z (Ji U j .no) o:=Jv.core s.ap (QB _) W;have K2:=J.trans (QB _) (a4.YL J.len);have E2:=E1.Af a4;have Wq:o[h.length]? = some _:=(W.keep _ r (Q _ (QB _))).trans l;have Zy:o[h.length+1]? = some _:=(W.keep _ m (Q _ ω)).trans y;have n2:z (h.length+1)=.no:=(W.same _ m).trans (Q _ ω);have b5:z h.length=.no:=(W.same _ r).trans (Q _ ω);have m2:Ji U j .no (h.length+1)=.my:=(VT m).trans (m1 _ ω);have a0:Ji U j .no h.length=.my:=(VT r).trans (m1 _ ω);generalize Ji U j .no=Y at T2 K2 E2 m2 a0;have VN:=T2.o;have z8:=Qc VN;have a1:=Qc Wq;have Z:=Qc Zy;apply Zk b;simp only[go_sem,Qa,VN,z8,Wq,a1];by_cases he:t=0
  .have PS:(t != 0)=false:=by simpa using he
   have a8:Z5 { S with M:=Jg S.M S.Qh a x,st:=w9 S.st a S.Qh }:=(V.put a x).Jd a S.Qh (by show S.Qh<_;omega);have e:Yo S f x=⟨(Jk { S with M:=Jg S.M S.Qh a x,st:=w9 S.st a S.Qh } f S.Qh).1,⟨0,0,a⟩,Bz f S.Qh a x::(Jk { S with M:=Jg S.M S.Qh a x,st:=w9 S.st a S.Qh } f S.Qh).2⟩:=by
    unfold Yo;rw[Qd (by rw[<- B];exact R),Qe (by rw[<- B,<- l6];exact he),<- B]
   rw[e];have b1:=QB4 T2.st a S.Qh (F1 a);simp only[go_sem,Qa,PS];apply VE [9] b [0,1,2,3,4,5,6,7,8,1009] [];simp only[go_sem,Qa,VN,z8];refine wC b Qr9 b1 λd u H=>?_;obtain⟨rfl,s3,a7⟩:=H;have T3:=T2.stat s3 a7;have a3:Jv o.length z Y o (Q4 z o .no) (Ji Y o .st) u:=Jv.part ⟨σ,σ⟩ (QB _) s3;have K3:=K2.trans (QB _) (a3.YL K2.len);have E3:=E2.Af a3;have Cu:u[h.length]? = some _:=(s3.keep _ a1 (by rw[a0];simp)).trans Wq;have yW:u[h.length+1]? = some _:=(s3.keep _ Z (by rw[m2];simp)).trans Zy;have n3:Q4 z o .no (h.length+1)=.no:=(Ku Z).trans n2;have m3:Ji Y o .st (h.length+1)=.my:=(VT Z).trans m2;generalize Q4 z o .no=Br at T3 K3 E3 n3;generalize Ji Y o .st=lZ at T3 K3 E3 m3;have Xw:=T3.o;have jC:=Qc Xw;have b0:=Qc Cu;have Nh:=Qc yW;have A9:n<=u.length:=Kv C K3.len;apply YQ b;apply VE [8] b [0,1,2,3,4,5,6,7,1008] [];simp only[go_sem,Qa,Xw,jC,Cu,b0];refine yE b QeR rfl ?_ (QkT E3 A9 ω (Bz 0 S.Qh a x)) rfl λd h4 H=>?_
   .simp only[go_sem,Bz]
   obtain⟨rfl,E4,l7,a6⟩:=H;have T4:=T3.step a6 (lV T3.ap);have K4:=(K3.YL C).trans C l7;have Pv:h4[h.length+1]? = some _:=(l7.my _ Nh m3).trans yW;have n4:Q4 Br u .no (h.length+1)=.no:=(Ku Nh).trans n3;have m4:Ji lZ u .no (h.length+1)=.my:=(VT Nh).trans m3;have BP:({ Bz 0 S.Qh a x with op:=(f:Int) }:Ev)=Bz f S.Qh a x:=rfl;rw[BP]at E4;generalize Q4 Br u .no=b2 at T4 E4 K4 l7 n4;generalize Ji lZ u .no=b4 at T4 E4 K4 l7 m4;have HU:=T4.o;have PU:=Qc HU;have N:=Qc Pv;have U6:n<=h4.length:=Kv C K4.len;apply Zk b;simp only[go_sem,Qa,HU,PU];have a9:=QkU (T:=⟨_,_,_,_,T4⟩) a8 E4 U6 ξ;refine JG b QeZ a9 λd h5 H=>?_;obtain⟨rfl,Bo,a5,⟨_,_,_,_,T5⟩,E5,K5⟩:=H;have K:h5[h.length+1]? = some _:=(K5.my _ N m4).trans Pv;have n5:=(K5.s1 _ N).trans n4;have m5:=(K5.s2 _ N).trans m4;have a2:=Qc K;rw[W9]at E5;apply Qf b;simp only[go_sem,Qa,K,a2,Qt a2];exact⟨Bo,a5,⟨_,_,_,_,T5.loc n5 (.inr m5) _⟩,E5.loc K nofun nb.1 nb.2 _,(K4.trans C K5).Ef ω ω _⟩
  .have e:Yo S f x=⟨{ S with M:=Jg S.M S.Qh a x },⟨t,0,a⟩,[]⟩:=by unfold Yo;rw[Qd (by rw[<- B];exact R),Qd (by rw[<- B,<- l6];exact he),<- B,<- l6]
   have PS:(t != 0)=true:=by simpa using he
   rw[e];simp only[go_sem,Qa,PS,Zy,Z,Qt Z];exact⟨z,Y,⟨_,_,_,_,T2.loc n2 (.inr m2) _⟩,E2.loc Zy nofun nb.1 nb.2 _,(K2.YL C).Ef ω ω _⟩
def jF.q64{a}{h}{p}{M}(C:jF a h p M)(j:Int):(Zs M j).length<=64:=by
 unfold Zs QD;cases b:Qk M.N j with
 | none=>exact Jj _
 | some n=>
  show n.q.l.length<=64;cases d:n.c.leaf with
  | true=>
   obtain⟨L,c⟩:=C.ex;obtain⟨k,e,r,Q⟩:=c.XG j n b d;have:=Q.ring.sv;omega
  | false=>rw[C.V.Bw j n b d];exact Jj _
def aw(f:Qm->Nat)(b):∀l:List Qm,(∀c∈l,f c<=b)->(l.map f).sum<=l.length*b
 | [],_=>σ
 | c::l,h=>by
  have g:=h c σ;have e:=aw f b l λd a=>h d (by simp[a]);simp only[JQ,RN,Vo,VM,NJ];omega
def jF.ay{a}{h}{p}{M}(C:jF a h p M):Jh M<=4096:=by
 have e:=aw (λc=>(Zs M c.iD).length) 64 M.T λc _=>C.q64 c.iD;have b:=C.I.tree.len;unfold Jh;have d:M.T.length*64<=64*64:=XL 64 b;omega
def az(S:ZE)(b a:Nat):(Jk S b a).2.length<=1:=by
 unfold Jk;split
 .exact Jj _
 .split
  .exact QB _
  .exact Jj _
def Jv.QaU{n}{c a}{d k}{h H:List Ob}(D:Jv n c d h a k H){p}(i:d p=.sys)(o):Jv n c d h a k (H.set p o):=
 ⟨D.s1,D.s2,λj g b f=>by rw[Ql (λe=>by rw[<- e,i]at f;cases f)];exact D.keep j g b f,λj g b=>by rw[Ql (λe=>by rw[<- e,i]at b;cases b)];exact D.my j g b,by simpa using D.len⟩
structure Qk1 (n:Nat) (own:Nat->Tag) (tw:Nat->TT) (h:List Ob) (p:Nat) (S:ZE) (bp bo op e:Nat) (L:List Ev) (r k:Nat) (own':Nat->Tag) (Js:Nat->TT) (H:List Ob) (S':ZE) (L':List Ev):Prop where
 T:Yp own' Js H p S'
 V:Z5 S'
 E:jg n own' Js H bp bo op (L++L')
 K:Jv n own tw h own' Js H
 hr:H[r]? = some ⟨.one,0,3,1,λ_=>[Qb 0,Qb 0,Qb 0]⟩
 nr:own' r=.no
 mr:Js r=.my
 hk:Jh S'.M+k=Jh S.M
 cl:S'.Qh<=e
 go:JY op e (Jh S.M+1) S=((JY op e (Jh S'.M+1) S').1,L'++(JY op e (Jh S'.M+1) S').2)
 ln:L'.length<=k
def QCv{n}{c}{g}{h:List Ob}{p}{S}(T:Yp c g h p S)(V:Z5 S){j l b}{L:List Ev}(E:jg n c g h j l b L)(z:n<=h.length)(hL:L.length<10000000)(i)(Xn:i<18446744073709551616):
  QM prog 47 h [.ptr p 0 0 0,u64 i,.clo 43 0 [.ptr j 0 0 0,.ptr l 0 0 0]] (λd h'=>d=.agg (Yn S b i).r.cells/\∃f C,Yp f C h' p (Yn S b i).S/\jg n f C h' j l b (L++(Yn S b i).l)/\Jv n c g h f C h'):=by
 obtain⟨ps,lp,pr,pt,T⟩:=T;have Zx:=V.cl;have nb:h.length≠j/\h.length≠l:=by
  obtain⟨d,m,_⟩:=E.ho;have:=Qc m;have:=Qc E.hp;omega
 have T1:=T.Gk [⟨.one,0,3,1,λ_=>[Qb 0,Qb 0,Qb 0]⟩];have K1:=Jv.app (n:=h.length) c g h [⟨.one,0,3,1,λ_=>[Qb 0,Qb 0,Qb 0]⟩] .my (QB _);have E1:=E.Af K1;have Wd:(h++[(⟨.one,0,3,1,λ_=>[Qb 0,Qb 0,Qb 0]⟩:Ob)])[h.length]? = some ⟨.one,0,3,1,λ_=>[Qb 0,Qb 0,Qb 0]⟩:=Vj rfl;have n1:Q4 c h .no h.length=.no:=kH (QB _);have m1:Ji g h .my h.length=.my:=Gi (QB _);have y:=T.o;have Q:=Qc y;have w1:IntKind.u64.wrap ((4611686018427387904:Int) - (S.Qh:Int))=((4611686018427387904 - S.Qh:Nat):Int):=η;by_cases M:4611686018427387904 - S.Qh<i
 .have e:Yn S b i=⟨S,⟨27,0,0⟩,[]⟩:=by unfold Yn;rw[Qe M]
  rw[e];have d0:=QT M;refine Q8 func47 ntmps47 results47 λI w pl o=>?_;have Q:=Qc y;simp only[go_sem,Qa,y,Q,w1,d0];exact⟨_,_,⟨_,_,_,_,T.Gk _⟩,E.Af (Jv.app c g h _ .my (QB _)),(Jv.app c g h _ .my (QB _)).YL z⟩
 .have d0:=QH M;obtain⟨e,he⟩:∃e,e=S.Qh+i:=⟨_,rfl⟩;have w2:IntKind.u64.wrap ((S.Qh:Int)+(i:Int))=((e:Nat):Int):=η;have hA:Yn S b i=⟨(JY b e (Jh S.M+1) S).1,⟨0,0,0⟩,(JY b e (Jh S.M+1) S).2⟩:=by unfold Yn;rw[Qd M,<- he]
  rw[hA];refine Q8 func47 ntmps47 results47 λI w pl o=>?_;have Q:=Qc y;simp only[go_sem,Qa,y,Q,w1,d0,w2];have A0:Qk1 n c g h p S j l b e L h.length 0 (Q4 c h .no) (Ji g h .my) (h++[(⟨.one,0,3,1,λ_=>[Qb 0,Qb 0,Qb 0]⟩:Ob)]) S []:=
   ⟨⟨_,_,_,_,T1⟩,V,by rw[JZ];exact E1,K1.YL z,Wd,n1,m1,ω,ω,rfl,QB _⟩
  have a4:=T.co.ay;refine ZW (λk s=>∃f C H S' L',Qk1 n c g h p S j l b e L h.length k f C H S' L'/\s=⟨[(0,.ptr p 0 0 0),(2,.clo 43 0 [.ptr j 0 0 0,.ptr l 0 0 0]),(6,.ptr h.length 0 0 0),(7,u64 e)],H⟩) (Jh S.M) QQ ⟨_,_,_,S,[],A0,rfl⟩ ?_;clear A0 T1 K1 E1 Wd n1 m1;rintro k _ hk ⟨Kj,qb,H,a,L2,A,rfl⟩;obtain⟨x,v,u,t,r⟩:=A.T;have q:=r.o;have Y:=Qc q;have N:=QCh ⟨x,v,u,t,r⟩;obtain⟨Z,J⟩:∃Z,Z=Q1 a:=⟨_,rfl⟩;rw[<- J]at N;have O:=A.hr;have qN:=Qc O;have K:p≠j/\p≠l:=⟨λe=>(by have m:=r.tp;rw[e,A.E.tp]at m;cases m),λe=>(by have m:=r.tp;rw[e,A.E.to]at m;cases m)⟩;have Ew:p≠h.length:=λe=>by have:=T.o;have:=Qc this;omega
  apply QP o;apply Ju o Qsa N;apply Qf o;simp only[go_sem,Qa,q,Y];by_cases R:e<Z
  .have d1:=QT R;have W:JY b e (Jh a.M+1) a=({ a with Qh:=e },[]):=by
    unfold JY;rw[Qe (by rw[<- J];exact R)]
   have B:=A.go;rw[W,JZ]at B;rw[B];simp only[go_sem,Qa,d1,q,Y,Ql Ew,O,qN,Qt];have a1:(H.set p (jG x v u t e a.ops))[h.length]? = some ⟨.one,0,3,1,λ_=>[Qb 0,Qb 0,Qb 0]⟩:=(Ql Ew).trans O;exact⟨Kj,qb,⟨_,_,_,_,(r.clock e a.ops).loc A.nr (.inr A.mr) _⟩,(A.E.loc q nofun K.1 K.2 _).loc a1 nofun nb.1 nb.2 _,(A.K.QaU T.tp _).Ef z (QB _) _⟩
  .have d1:=QH R;have F:Q1 a<=e:=ω;obtain⟨V3,c1,c2,c3⟩:=QaB A.V b ω F;have W:JY b e (Jh a.M+1) a=((JY b e (Jh a.M) (Jk { a with Qh:=Q1 a } b (Q1 a)).1).1,(Jk { a with Qh:=Q1 a } b (Q1 a)).2++(JY b e (Jh a.M) (Jk { a with Qh:=Q1 a } b (Q1 a)).1).2):=by
    conv=>lhs;unfold JY
    rw[Qd (by rw[<- J];exact R)]
   have B:=A.go;rw[W,<- c1,<- W9]at B;have Zb:=az { a with Qh:=Q1 a } b (Q1 a);subst J;have T3:=r.clock (Q1 a) a.ops;have V2:Z5 { a with Qh:=Q1 a,ops:=a.ops }:=A.V.at_ c2 ω;have E3:=A.E.loc q nofun K.1 K.2 (jG x v u t (Q1 a) a.ops);have yW:(H.set p (jG x v u t (Q1 a) a.ops))[h.length]? = some _:=(Ql Ew).trans O;have K3:=A.K.QaU T.tp (jG x v u t (Q1 a) a.ops);have A9:n<=(H.set p (jG x v u t (Q1 a) a.ops)).length:=Kv z K3.len;have Fc:=A.ln;have yr:=A.hk;have P:=QkU (T:=⟨_,_,_,_,T3⟩) V2 E3 A9 (by rw[Zo];omega);simp only[go_sem,Qa,d1,q,Y];refine JG o QeZ P λd h5 hR=>?_;obtain⟨rfl,Bo,a0,T5,E5,U⟩:=hR;have Nh:=Qc yW;apply QP o;have a3:Jh (Jk { a with Qh:=Q1 a } b (Q1 a)).1.M+(k+1)=Jh S.M:=ω;have a2:(L2++(Jk { a with Qh:=Q1 a } b (Q1 a)).2).length<=k+1:=by rw[Zo];omega
   refine⟨ω,_,Qr.frame (fr':=[(0,.ptr p 0 0 0),(2,.clo 43 0 [.ptr j 0 0 0,.ptr l 0 0 0]),(6,.ptr h.length 0 0 0),(7,u64 e)]) (by simp only[go_sem]),Bo,a0,h5,_,L2++(Jk { a with Qh:=Q1 a } b (Q1 a)).2,⟨T5,V3,by rw[<- W9];exact E5,K3.trans z U,(U.my _ Nh A.mr).trans yW,(U.s1 _ Nh).trans A.nr,(U.s2 _ Nh).trans A.mr,a3,by rw[c3];exact F,B,a2⟩,rfl⟩
def BB(a:Nat->TT)(n:Nat):Nat->TT:=λl=>if l=n+2\/l=n+3 then .no else if n<=l then .my else a l
def l9{a}{n l}(h:l<n):BB a n l=a l:=by unfold BB;rw[Qd ω,Qd ω]
def Qk2{a}{n l}(h:l=n+2\/l=n+3):BB a n l=.no:=by unfold BB;rw[Qe h]
def QCz{a}{n l}(h:n<=l)(c:l≠n+2)(b:l≠n+3):BB a n l=.my:=by unfold BB;rw[Qd ω,Qe h]
structure aA (S:ZE):Prop where
 ca:∀k,(S.st.Jd k).length<=S.ops
structure Gm (own:Nat->Tag) (tw:Nat->TT) (h:List Ob) (p:Nat) (op:Nat) (S':ZE) (L:List Ev) (r:Y8) (own':Nat->Tag) (Js:Nat->TT) (H:List Ob) (d:D):Prop where
 T:Yp own' Js H p S'
 E:jg h.length own' Js H (h.length+3) (h.length+2) op L
 K:Jv h.length own tw h own' Js H
 BY:H[h.length+1]? = some ⟨.one,0,3,1,λ_=>[Qb 0,Qb 0,Qb 0]⟩
 hr:H[h.length+4]? = some ⟨.one,0,3,1,λ_=>r.cells⟩
 ho:H[h.length+2]? = some (BA d)
 hs:XY (λl=>h.length<=l/\own' l=.no/\Js l=.no/\l≠h.length+3/\l≠h.length+2) H 12 Ev.cells d L
 n1:own' (h.length+1)=.no
 m1:Js (h.length+1)=.my
 n4:own' (h.length+4)=.no
 m4:Js (h.length+4)=.my
def DoR(e:Nat->Tag)(g:Nat->TT)(h:List Ob)(p:Nat)(Y:Na)(d:D)(b:List Ob):Prop:=
 ∃f a c,d=.tup [.agg Y.r.cells,f]/\Yp a c b p Y.S/\XY (λl=>h.length<=l/\a l=.no/\c l=.no) b 12 Ev.cells f Y.l/\Jv h.length e g h a c b
def Gm.done{b}{f}{h}{p l}{j}{L}{r}{a}{k}{H}{d}(I:Gm b f h p l j L r a k H d)(o):
  DoR b f h p ⟨j,r,L⟩ (.tup [.agg r.cells,d]) (H.set (h.length+1) o):=by
 obtain⟨t,v,u,s,T⟩:=I.T;refine⟨d,a,k,rfl,⟨_,_,_,_,T.loc I.n1 (.inr I.m1) o⟩,I.hs.imp id λ⟨m,g,e,q,c,i,n⟩=>⟨m,g,e,q,⟨c.1,c.2.1,c.2.2.1⟩,by rw[Ql (XJ I.BY i (.inl nofun))];exact i,n⟩,I.K.Ef ω ω o⟩
def Gm.next{b}{k}{h}{p g}{v}{L}{r}{o}{l}{H}{d}(I:Gm b k h p g v L r o l H d){m}{n}{e}{c}{f}
  (u:Yp e c f p m) (q:jg h.length e c f (h.length+3) (h.length+2) g n) (a:Jv h.length o l H e c f):∃d2,Gm b k h p g m n r e c f d2:=by
 obtain⟨d2,t,s⟩:=q.ho;have j:=Qc I.BY;have i:=Qc I.hr;exact⟨d2,u,q,I.K.trans (QB _) a,(a.my _ j I.m1).trans I.BY,(a.my _ i I.m4).trans I.hr,t,s,(a.s1 _ j).trans I.n1,(a.s2 _ j).trans I.m1,(a.s1 _ i).trans I.n4,(a.s2 _ i).trans I.m4⟩
def Gm.aB{a}{c}{h:List Ob}{p f}{k}{L}{r}{l}{j}{H:List Ob}{d}(I:Gm a c h p f k L r l j H d)(e:Y8):Gm a c h p f k L e l j (H.set (h.length+4) ⟨.one,0,3,1,λ_=>e.cells⟩) d:=by
 obtain⟨t,v,u,s,T⟩:=I.T;exact⟨⟨_,_,_,_,T.loc I.n4 (.inr I.m4) _⟩,I.E.loc I.hr nofun ω ω _,I.K.Ef ω ω _,by rw[Ql ω];exact I.BY,Qt (Qc I.hr),by rw[Ql ω];exact I.ho,
  I.hs.imp id λ⟨m,g,b,q,o,i,n⟩=>⟨m,g,b,q,o,by rw[Ql (XJ I.hr i (.inl nofun))];exact i,n⟩,I.n1,I.m1,I.n4,I.m4⟩
def QCA{f}{v}{h}{p}{S:ZE}(T:Yp f v h p S)(V:Z5 S)(hC:aA S)(c9:S.ops<1000000)(o:Zd)(ho:Zd.Ok o)(hc:o.changes.length<1000000)(JS:o.rules.length<1000000):
  QM prog 24 h [.ptr p 0 0 0,.agg o.cells] (λd h'=>DoR f v h p (JN S o) d h'):=by
 obtain⟨ps,lp,pr,pt,T⟩:=T;have hp:=T.o;have Rp:=Qc hp;have QU:=JT (show S.ops<4611686018427387904 from ω);have eS:JN S o=Km { S with ops:=S.ops+1 } S.ops o:=rfl;rw[eS];obtain⟨a,Px⟩:∃a,a={ S with ops:=S.ops+1 }:=⟨_,rfl⟩;have T0:WK f v (h.set p (jG ps lp pr pt S.Qh (S.ops+1))) p ps lp pr pt { S with ops:=S.ops+1 }:=T.clock S.Qh (S.ops+1);rw[<- Px]at T0 ⊢;obtain⟨H,hH⟩:∃H,H=h.set p (jG ps lp pr pt S.Qh (S.ops+1))++[(⟨.one,0,10,1,λ_=>o.cells⟩:Ob),⟨.one,0,3,1,λ_=>[Qb 0,Qb 0,Qb 0]⟩,BA .nil,BA (Qb S.ops),⟨.one,0,3,1,λ_=>[Qb 1,Qb 0,Qb 0]⟩]:=⟨_,rfl⟩;have jr:(h.set p (jG ps lp pr pt S.Qh (S.ops+1))).length=h.length:=σ;have ne:∀l,l<h.length->(BB v h.length l)=v l:=λl m=>l9 m;have u:WK (Q4 f h .no) (BB v h.length) H p ps lp pr pt a:=by
  rw[hH];refine T0.step (λl m=>⟨λ_=>⟨Ku (by rw[<- jr];exact m),QE m⟩,λ_ _=>⟨l9 (by rw[<- jr];exact m),QE m⟩⟩) λl m=>?_;by_cases h1:l<h.length
  .rw[l9 h1]at m;rw[Ku h1];exact T.ap l m
  .exact kH ω
 have K1:Jv h.length f v h (Q4 f h .no) (BB v h.length) H:=by
  rw[hH];refine⟨λl m=>Ku m,λl m=>l9 m,λl m h1 z=>?_,λl m h1=>?_,σ⟩
  .rw[QE (by rw[jr];exact m),Ql (λe=>by rw[<- e,T.tp]at z;cases z)]
  .rw[QE (by rw[jr];exact m),Ql (λe=>by rw[<- e,T.tp]at h1;cases h1)]
 have q:∀k x,[(⟨.one,0,10,1,λ_=>o.cells⟩:Ob),⟨.one,0,3,1,λ_=>[Qb 0,Qb 0,Qb 0]⟩,BA .nil,BA (Qb S.ops),⟨.one,0,3,1,λ_=>[Qb 1,Qb 0,Qb 0]⟩][k]? = some x->H[h.length+k]? = some x:=λk x hk=>by
  rw[hH,VP (k:=k) jr];exact hk
 have Q:jg h.length (Q4 f h .no) (BB v h.length) H (h.length+3) (h.length+2) S.ops []:=
  ⟨q 3 _ rfl,⟨.nil,q 2 _ rfl,.inl ⟨rfl,rfl⟩⟩,ω,ω,kH ω,kH ω,Qk2 (.inr rfl),Qk2 (.inl rfl),ω⟩
 have N:H[h.length]? = some ⟨.one,0,10,1,λ_=>o.cells⟩:=q 0 _ rfl;have aC:=q 1 _ rfl;have aD:=q 2 _ rfl;have Wd:=q 4 _ rfl;have n1:∀i,h.length<=i->Q4 f h .no i=.no:=λi hi=>kH hi;have m1:∀i,h.length<=i->i≠h.length+2->i≠h.length+3->BB v h.length i=.my:=λi hi z h3=>QCz hi z h3;clear q ne jr;generalize Fk:Q4 f h .no=O at u K1 Q n1;generalize Rv:BB v h.length=J at u K1 Q m1;have X5:=u.o;have a7:=Qc X5;have KX:=Qc N;have c0:=Qc aC;have b9:=Qc aD;have jh:=Qc Wd;have c8:a.Qh=S.Qh:=by rw[Px]
 have V1:Z5 a:=by rw[Px];exact V.ops _
 have KN:h.length<=H.length:=K1.len;refine Q8 func24 ntmps24 results24 λc5 w pl j=>?_;have Rp:=Qc hp;simp only[go_sem,Qa,hp,Rp,QU];simp only[go_sem]at hH N Wd aC aD;rw[<- hH];clear hH;have Rw:h.length+1≠h.length+2:=ω;have aE:h.length+4≠h.length+2:=ω;have aF:h.length+4≠h.length+1:=ω;have I0:Gm f v h p S.ops a [] ⟨1,0,0⟩ O J H .nil:=⟨⟨_,_,_,_,u⟩,Q,K1,aC,Wd,aD,.inl ⟨rfl,rfl⟩,n1 _ ω,m1 _ ω ω ω,n1 _ ω,m1 _ ω ω ω⟩;obtain⟨yu,⟨_,x8⟩,⟨_,c7⟩,c2,Xn,_⟩:=ho;by_cases L:o.kind=1
 .have W:(o.kind==1)=true:=by simpa using L
  obtain⟨la,lb,lc,ZI⟩:=u.ln;have F:=QaG (Z3 ZI) a.Qh;obtain⟨bf,b0⟩:∃b,b=decide (a.JW<=a.Qh):=⟨_,rfl⟩;have e:Km a S.ops o=⟨{ a with M:=J4 a.M bf o.changes },⟨Y3 a.M bf o.changes,ya a.M o.changes,0⟩,[]⟩:=by unfold Km;rw[Qe L,<- b0]
  rw[e];rw[<- b0]at F;have C:=QBq u.co bf o.changes x8 hc;obtain⟨ce,c3⟩:∃x,x=Y3 a.M bf o.changes:=⟨_,rfl⟩;obtain⟨ca,F1⟩:∃x,x=ya a.M o.changes:=⟨_,rfl⟩;rw[<- c3,<- F1]at C ⊢;simp only[go_sem,Qa,W];apply VE [15] j [0,1,2,3,4,5,6,7,8,9,10,11,13,14,1012,1015,16,17,18,19,20] [];simp only[go_sem,Qa,X5,a7,N,KX];apply XB j eY F;apply Zk j;simp only[go_sem,Qa,X5,a7,N,KX];refine wC j QrU C λd z E=>?_;obtain⟨rfl,Kj,C2,D2⟩:=E;have Z:=u.core D2 C2 (Ri a.M bf o.changes);have y:Jv H.length O J H Kj (Ji J H .no) z:=Jv.core u.ap (QB _) D2;obtain⟨d2,c⟩:=I0.next ⟨_,_,_,_,Z⟩ (Q.Af y) (y.YL KN);have I:=c.aB ⟨ce,ca,0⟩;have n:=c.hr;have r:=Qc n;have s:=c.ho;have B:=Qc s;have t:=c.BY;have K:=Qc t;apply Zk j;simp only[go_sem,Qa,n,r];apply VE [] j [0] [1,2,3];simp only[go_sem,Qa,n,r,s,B,t,K,Qt,Ql Rw,Ql aE,Ql aF];exact⟨I.done _,I.done _⟩
 have W:(o.kind==1)=false:=by simpa using L
 by_cases U:o.kind=2
 .have b2:(o.kind==2)=true:=by simpa using U
  have R:=QkQ H o.rules JS;by_cases yV:zx o.rules=0
  .have e:Km a S.ops o=⟨{ a with R:=o.rules },⟨0,0,0⟩,[]⟩:=by unfold Km;rw[Qd L,Qe U,Qe yV]
   rw[e];simp only[go_sem,Qa,W,b2,N,KX];refine JG j oN R λd z E=>?_;obtain⟨g,rfl,a5,_⟩:=E;obtain⟨p2,rfl,hT⟩:=a5 yV;have Z:=u.rules hT;have mg:(H++g)[p]? = some _:=(QE a7).trans X5;have b8:=Qc mg;have y:Jv H.length O J H (Q4 O H .no) (Ji J H .Ij) (H++g):=Jv.app O J H g .Ij (QB _);have E2:=(Q.Af y).loc mg nofun (by have:=Qc T.o;omega) (by have:=Qc T.o;omega) (jG ps lp p2 pt a.Qh a.ops);obtain⟨d2,c⟩:=I0.next ⟨_,_,_,_,Z⟩ E2 ((y.YL KN).QaU u.tp _);have I:=c.aB ⟨0,0,0⟩;have n:=c.hr;have r:=Qc n;have s:=c.ho;have B:=Qc s;have t:=c.BY;have K:=Qc t;have Zb:=Qc T.o;have p4:p≠h.length+4:=ω;have a8:p≠h.length+2:=ω;have c1:p≠h.length+1:=ω;have Iq:(H++g)[h.length+4]? = some _:=(QE jh).trans Wd;have a4:(H++g)[h.length+2]? = some _:=(QE b9).trans aD;have a9:(H++g)[h.length+1]? = some _:=(QE c0).trans aC;have a6:=Qc Iq;have b7:=Qc a4;have b6:=Qc a9;have KD:d2=.nil:=by
    have h5:=c.ho;rw[Ql a8,a4]at h5;simp only[BA,Q6,Ob.mk.injEq,yl]at h5;have:=congrFun h5 0;simp only[ID,and_true]at this;exact this.symm
   rw[KD]at I;have x4:h.length+4<H.length+g.length:=by have:=a6;simpa using this
   have x2:h.length+2<H.length+g.length:=by have:=b7;simpa using this
   have x1:h.length+1<H.length+g.length:=by have:=b6;simpa using this
   apply Qf j;simp only[go_sem,Qa,mg,b8,Ql p4,Iq,a6,Qt];apply VE [] j [0] [1,2,3];simp only[go_sem,Qa,x4,x2,x1,mg,b8,Ql p4,Ql a8,Ql c1,Iq,a6,a4,b7,a9,b6,Qt,Ql Rw,Ql aE,Ql aF];exact⟨I.done _,I.done _⟩
  .have e:Km a S.ops o=⟨a,⟨zx o.rules,0,0⟩,[]⟩:=by unfold Km;rw[Qd L,Qe U,Qd yV]
   have b5:(zx o.rules==0)=false:=by simpa using yV
   rw[e];obtain⟨re,c4⟩:∃x,x=zx o.rules:=⟨_,rfl⟩;rw[<- c4]at R b5 yV ⊢;simp only[go_sem,Qa,W,b2,N,KX];refine JG j oN R λd z E=>?_;obtain⟨g,rfl,_,a5⟩:=E;have hd:=a5 yV;subst hd;have y:Jv H.length O J H (Q4 O H .no) (Ji J H .my) (H++g):=Jv.app O J H g .my (QB _);obtain⟨d2,c⟩:=I0.next ⟨_,_,_,_,u.Gk g⟩ (Q.Af y) (y.YL KN);have I:=c.aB ⟨re,0,0⟩;have n:=c.hr;have r:=Qc n;have s:=c.ho;have B:=Qc s;have t:=c.BY;have K:=Qc t;have x4:h.length+4<H.length+g.length:=by have:=r;simpa using this
   have x2:h.length+2<H.length+g.length:=by have:=B;simpa using this
   have x1:h.length+1<H.length+g.length:=by have:=K;simpa using this
   apply Qf j;simp only[go_sem,Qa,b5,n,r];apply VE [] j [0] [1,2,3];simp only[go_sem,Qa,x4,x2,x1,n,r,s,B,t,K,Qt,Ql Rw,Ql aE,Ql aF];exact⟨I.done _,I.done _⟩
 have b2:(o.kind==2)=false:=by simpa using U
 by_cases k3:o.kind=3
 .have b3:(o.kind==3)=true:=by simpa using k3
  have e:Km a S.ops o=Yo a S.ops o.ZA:=by unfold Km;rw[Qd L,Qd U,Qe k3]
  rw[e];obtain⟨CW,Rq,au,Ir⟩:aj o.ZA:=by
   obtain⟨_,_,a0,a1,a2,a3,_⟩:=c2;have:=wf_u16 a0;have:=wf_u16 a1;have:=wf_u16 a2;have:=wf_u16 a3;exact⟨⟨ω,ω⟩,⟨ω,ω⟩,⟨ω,ω⟩,⟨ω,ω⟩⟩
  have P:=QCo ⟨_,_,_,_,u⟩ V1 Q KN σ (λk=>by rw[Px];have:=hC.ca k;show (S.st.Jd k).length<1000000;omega) o.ZA ⟨CW,Rq,au,Ir⟩;obtain⟨Y,hY⟩:∃Y,Y=Yo a S.ops o.ZA:=⟨_,rfl⟩;rw[<- hY]at P ⊢;simp only[go_sem,Qa,W,b2,b3,N,KX];refine JG j QrV P λd z E=>?_;obtain⟨rfl,Kj,qb,Z,E2,y⟩:=E;rw[jM]at E2;obtain⟨d2,c⟩:=I0.next Z E2 y;have I:=c.aB Y.r;have n:=c.hr;have r:=Qc n;have s:=c.ho;have B:=Qc s;have t:=c.BY;have K:=Qc t;apply Qf j;simp only[go_sem,Qa,n,r];apply VE [] j [0] [1,2,3];simp only[go_sem,Qa,n,r,s,B,t,K,Qt,Ql Rw,Ql aE,Ql aF];exact⟨I.done _,I.done _⟩
 have b3:(o.kind==3)=false:=by simpa using k3
 by_cases k4:o.kind=4
 .have b4:(o.kind==4)=true:=by simpa using k4
  have e:Km a S.ops o=Yn a S.ops o.KM.toNat:=by unfold Km;rw[Qd L,Qd U,Qd k3,Qe k4]
  rw[e];have hw:=wf_u64 Xn;have P:=QCv ⟨_,_,_,_,u⟩ V1 Q KN σ o.KM.toNat ω;obtain⟨Y,hY⟩:∃Y,Y=Yn a S.ops o.KM.toNat:=⟨_,rfl⟩;rw[<- hY,show u64 o.KM.toNat=.raw (.int .u64 o.KM) by show D.raw (.int .u64 (o.KM.toNat:Int))=_;rw[EG hw.1]]at P;rw[<- hY];simp only[go_sem,Qa,W,b2,b3,b4,N,KX];refine JG j QrW P λd z E=>?_;obtain⟨rfl,Kj,qb,Z,E2,y⟩:=E;rw[jM]at E2;obtain⟨d2,c⟩:=I0.next Z E2 y;have I:=c.aB Y.r;have n:=c.hr;have r:=Qc n;have s:=c.ho;have B:=Qc s;have t:=c.BY;have K:=Qc t;apply Qf j;simp only[go_sem,Qa,n,r];apply VE [] j [0] [1,2,3];simp only[go_sem,Qa,n,r,s,B,t,K,Qt,Ql Rw,Ql aE,Ql aF];exact⟨I.done _,I.done _⟩
 have b4:(o.kind==4)=false:=by simpa using k4
 have e:Km a S.ops o=⟨a,⟨1,0,0⟩,[]⟩:=by unfold Km;rw[Qd L,Qd U,Qd k3,Qd k4]
 rw[e];simp only[go_sem,Qa,W,b2,b3,b4];apply VE [] j [0] [1,2,3];simp only[go_sem,Qa,Wd,jh,aD,b9,aC,c0,Qt,Ql Rw];exact⟨I0.done _,I0.done _⟩
def QCG(h:List Ob):QM prog 41 h [.nil] (λd a=>∃g p,a=h++g/\d=.tup [.ptr p 0 0 0,Qb 0]/\Il (λj=>h.length<=j) (h++g) p []):=
 (QM.Qdu (cs':=[.nil]) (QkQ h [] π) ⟨rfl,trivial⟩).mono λd a ⟨g,f,e,_⟩=>by
  obtain⟨p,c,b⟩:=e rfl;exact⟨g,p,f,c,b⟩
def qL.fresh(h:List Ob)(S)(a:∀j,h.length<=j->S j):qL S (h++[QS .i64 0 [],QS .i64 0 [],stO h.length (h.length+1)]) (h.length+2) ⟨λ_=>[],λ_=>default⟩:=
 ⟨h.length,h.length+1,0,[],0,[],VP (k:=2) rfl,Vj rfl,VP (k:=1) rfl,ω,a _ ω,a _ ω,a _ ω,λk=>.inl ⟨rfl,rfl⟩,λk i f g c n l d e b=>(by cases b),λk=>rfl⟩
def QCH{own}{tw}(ap:∀l,tw l≠.no->own l=.no)(h){c}(K:W8 c):
  QM prog 23 h [.agg c.cells] (λd U=>∃n Z p,d=.tup [.ptr p 0 0 0,Qb 0]/\Yp n Z U p (S0 c)/\Jv h.length own tw h n Z U):=by
 have O:(h++[(⟨.one,0,2,1,λ_=>c.cells⟩:Ob)])[h.length]? = some ⟨.one,0,2,1,λ_=>c.cells⟩:=Vj rfl;have M:=QBr (Q4 own h .no) (h++[(⟨.one,0,2,1,λ_=>c.cells⟩:Ob)]) K;have C:=Jv.app own tw h [(⟨.one,0,2,1,λ_=>c.cells⟩:Ob)] .no (QB _);have F:=lV (h:=h) ap;have Q:Q4 own h .no h.length=.no:=kH (QB _);refine Q8 func23 ntmps23 results23 λa0 w pl k=>?_;simp only[go_sem,Qa];obtain⟨f,J⟩:∃x,x=h++[(⟨.one,0,2,1,λ_=>c.cells⟩:Ob)]:=⟨_,rfl⟩;rw[<- J]at O M C;simp only[go_sem]at J;rw[<- J];clear J;have KX:=Qc O;generalize Q4 own h .no=Jz at M C F Q;generalize Ji tw h .no=V at C F;refine JG k QrR M λd a o=>?_;obtain⟨Y,L,rfl,C2,P⟩:=o;have B:=C.trans (QB _) ((Jv.core F (QB _) P).YL C.len);have W:a[h.length]? = some _:=(P.keep _ KX Q).trans O;have z8:=Qc W;apply Qf k;simp only[go_sem,Qa,W,z8];refine Fu k QrS (QBT a K.t1 K.t2) λd h o=>?_;obtain⟨rfl,rfl⟩:=o;apply QP k;refine JG k oN (QCG _) λd e o=>?_;obtain⟨g,E,s,rfl,y⟩:=o;apply QP k;refine JG k QrT (QB3 e) λd i o=>?_;obtain⟨rfl,q⟩:=o;apply QP k;have s:e=(a++[jH 0 0 0 c.t 0])++g:=s;have y:Il (λj=>(a++[jH 0 0 0 c.t 0]).length<=j) ((a++[jH 0 0 0 c.t 0])++g) E []:=y;rw[<- s]at y;have R:(a++[jH 0 0 0 c.t 0]).length=a.length+1:=σ;rw[R]at y;have l4:a.length+1<=e.length:=by rw[s,Zo,R];omega
 have l5:i.length=e.length+3:=by rw[q];simp
 have N:∀l,l<a.length->e[l]? = a[l]? := λl b=>by rw[s,W9,QE b]
 have v:∀l,l<e.length->i[l]? = e[l]? := λl b=>by rw[q,QE b]
 have Fc:e[a.length]? = some (jH 0 0 0 c.t 0):=by rw[s,W9];exact Vj rfl
 have Za:qL (λl=>e.length<=l) i (e.length+2) ⟨λ_=>[],λ_=>default⟩:=by rw[q];exact qL.fresh e _ λ_ h=>h
 obtain⟨H,I⟩:∃H,H=i++[jG L a.length E (e.length+2) 0 0]:=⟨_,rfl⟩;have r:∀l,l<i.length->H[l]? = i[l]? := λl b=>by rw[I,QE b]
 have hp:H[i.length]? = some (jG L a.length E (e.length+2) 0 0):=by rw[I];exact Vj rfl
 obtain⟨m,z⟩:∃t:Nat->TT,t=λl=>if l<a.length then Ji V f .no l else if l=a.length then .ln else if l<e.length then .Ij else if l<i.length then .st else if l=i.length then .sys else .no:=⟨_,rfl⟩;have t0:∀l,l<a.length->m l=Ji V f .no l:=λl b=>by rw[z];dsimp only;rw[Qe b]
 have t1:m a.length=.ln:=by rw[z];dsimp only;rw[Qd ω,Qe rfl]
 have t2:∀l,a.length+1<=l->l<e.length->m l=.Ij:=λl f a=>by rw[z];dsimp only;rw[Qd ω,Qd ω,Qe a]
 have t3:∀l,e.length<=l->l<i.length->m l=.st:=λl f a=>by rw[z];dsimp only;rw[Qd ω,Qd ω,Qd ω,Qe a]
 have t4:m i.length=.sys:=by rw[z];dsimp only;rw[Qd ω,Qd ω,Qd ω,Qd ω,Qe rfl]
 have X:WK (Q4 Y a .no) m H i.length L a.length E (e.length+2) (S0 c):=by
  refine⟨hp,t4,C2.step λl b _=>⟨Ku b,by rw[r l ω,v l ω,N l b]⟩,⟨0,0,0,?_⟩,t1,y.step λj u f=>⟨t2 j f u,by rw[r j ω,v j u]⟩,Za.step λj u f=>⟨t3 j f u,r j u⟩,λl b=>?_⟩
  .rw[r _ ω,v _ ω];exact Fc
  .by_cases T:l<a.length
   .rw[t0 l T]at b;rw[Ku T];by_cases S:l<f.length
    .rw[VT S]at b;rw[P.same l S];exact F l b
    .rw[Gi ω]at b;exact absurd rfl b
   .exact kH ω
 have KH:Jv h.length own tw h (Q4 Y a .no) m H:=by
  have a1:=B.len;exact⟨λl b=>by rw[Ku ω];exact B.s1 l b,λl b=>by rw[t0 l ω];exact B.s2 l b,λl b f a=>by rw[r l ω,v l ω,N l ω];exact B.keep l b f a,λl b f=>by rw[r l ω,v l ω,N l ω];exact B.my l b f,by rw[I];simp;omega⟩
 subst I;exact⟨_,m,_,rfl,⟨_,_,_,_,X⟩,KH⟩
end Go.Fg.X
namespace Go.Fg.X
open Go.Proofs Go.Fg
open Go.RowKit (Below)
open Go.Proofs.Tryz
def Qa0{P}{f}{C}{R}(J:D)(W:J.upto 0=true)
  (hd:∀d u,R d u->JD 6 d J\/(∃a g t n k,u[a]? = some ⟨.arr,g,t,n,k⟩/\(∀i,i<n->(k i).all D.XO=true)/\JD 6 (D.fz a g n t k d) J) \/
   ∃a g t n k F T V K E,u[a]? = some ⟨.arr,g,t,n,k⟩/\u[F]? = some ⟨.arr,T,V,K,E⟩/\F≠a/\(∀i,i<n->(k i).all D.XO=true)/\(∀i,i<K->(E i).all D.XO=true)/\JD 6 (D.fz F T K V E (D.fz a g n t k d)) J) (h:QI P f C R):QI P f C (QO J):=by
 intro Z S w pl vs h1 h2 h3 hl hc;have N:pl=[]:=by have:=h3.len;simpa using this
 subst N;refine(h Z S w [] vs h1 h2 h3 hl hc).mono λe w' he=>?_;obtain⟨v,d,u,B,rfl,hR,y,hV,hT,hB⟩:=he;suffices a0:QC Z [] [] w' J v by
  exact⟨v,_,[],[],rfl,⟨rfl,rfl⟩,Zl.nil,a0,⟨λb L Qc=>⟨L,(hT.Ko b L Qc).2⟩,λl o p e=>by simp at e,λl o I b q e=>by simp at e⟩,hB⟩
 rcases hd _ _ hR with s|⟨a,g,t,n,k,x,Zx,s⟩|⟨a,g,t,n,k,F,T,V,K,E,x,H,a1,Zx,Q,s⟩
 .exact(vn 6 s hV).take W
 .have Qc:a<B.length:=by rw[y.len];exact(Xa.1 x).1
  obtain⟨p,m⟩:∃p,B[a]? = some p:=⟨_,QG Qc⟩;have Cr:=hV.fz (l:=a) (o:=⟨.arr,g,t,n,k⟩) (p:=p) x m rfl (λb q e=>by
   subst e;refine⟨h2 b ?_,λr q' z=>?_,(y.at_ a _ b q x m).2.cells rfl⟩
   .rcases xn b w.heap.size with Qc|Xd
    .exact absurd m ((hT.Ko b (λi q e=>by simp at e) Qc).1 a q)
    .exact Xd
   .exact y.inj _ _ _ _ _ z m) Zx (h':=u.set a (Ob.gone ⟨.arr,g,t,n,k⟩)) (λr I O e=>by
   exact⟨I,by rw[JP (Q9 O)];exact e,rfl,rfl,rfl⟩)
  exact(vn 6 s Cr).take W
 .have pos:∀{a:Nat} {o:Ob},u[a]? = some o->∃p,B[a]? = some p:=λ{a o} x=>by
   have Qc:a<B.length:=by rw[y.len];exact(Xa.1 x).1
   exact⟨_,QG Qc⟩
  have zb:∀{a b q:Nat},B[a]? = some (some (b,q))->Z b:=λ{a b q} m=>h2 b (by
   rcases xn b w.heap.size with Qc|Xd
   .exact absurd m ((hT.Ko b (λi q e=>by simp at e) Qc).1 a q)
   .exact Xd)
  obtain⟨p,m⟩:=pos x;obtain⟨p',U⟩:=pos H;have r1:=hV.fz (l:=a) (o:=⟨.arr,g,t,n,k⟩) (p:=p) x m rfl (λb q e=>by
   subst e;exact⟨zb m,λr q' z=>y.inj _ _ _ _ _ z m,(y.at_ a _ b q x m).2.cells rfl⟩) Zx (h':=u) (λr I O e=>⟨I,e,rfl,rfl,rfl⟩)
  have N:∀(r:Nat),r≠a->(B.set a none)[r]? = B[r]? := λr YI=>by rw[JP (Q9 YI)]
  have O:F≠a:=a1;have r2:=r1.fz (l:=F) (o:=⟨.arr,T,V,K,E⟩) (p:=p') H ((N _ O).trans U) rfl (λb q e=>by
   subst e;refine⟨zb U,λr q' z=>?_,?_⟩
   .by_cases M:r=a
    .subst M;rw[Xb (Wp m)]at z;cases z
    .rw[N _ M]at z;exact y.inj _ _ _ _ _ z U
   .obtain⟨c,el,c1,c2,c3,c4⟩:=(y.at_ F _ b q H U).2.cells rfl;refine⟨c,el,c1,c2,c3,λi j Y hj=>?_⟩;obtain⟨v,hv,hr⟩:=c4 i j Y hj;have h5:=Q i Y;rw[zC]at h5;have h6:j<(E i).length:=by rw[c3 i Y];exact hj
    have h7:(nth (E i) j).XO=true:=h5 _ (by
     simp only[nth,QY,QG h6,Ky];exact X0 h6)
    exact⟨v,hv,.cl _ _ ((G4 hr h7).mono (N':=free Z (B.set a none)) (w':=w') λb L _=>⟨⟨L.1,λl q e=>by
     by_cases M:l=a
     .subst M;rw[Xb (Wp m)]at e;cases e
     .rw[N _ M]at e;exact L.2 l q e⟩,rfl⟩)⟩) Q (h':=u) (λr I O e=>⟨I,e,rfl,rfl,rfl⟩)
  exact(vn 6 s r2).take W
end Go.Fg.X
namespace Go.Fg.X
open Go.Proofs Go.Fg
open Go.Proofs.Tryz
def Qle(u)(a b):∀c:List (Nat × D),put (put c u a) u b=put c u b
 | []=>by simp[put]
 | (t,e)::r=>by
  cases h:Nat.beq t u with
  | true=>simp[put,h]
  | false=>simp[put,h,Qle u a b r]
def QCJ{k:Type}[Inhabited k]{w0:Start}(m:w0.F=[])(B:w0.pl=[]){S:Nat->Prop}{j:Nat}{f:k->List D}(C:∀a,(f a).all D.XO=true){fr:List (Nat × D)}{h:List Ob}{d:D}{L:List k}(t:Nat)(s:get fr t=d)(E:XY S h j f d L):
  ∃b p,Qr w0 ⟨fr,h⟩ ⟨put fr t (.imm j L.length b),p⟩/\(∀i,i<L.length->b i=f (L.getD i default))/\h.length<=p.length/\∀l,l<h.length->¬S l->p[l]? = h[l]? := by
 have r:w0.pl.length=w0.F.length:=by rw[m,B];rfl
 have v:∀h:List Ob,QfI w0.F h:=λh l o e=>by rw[m]at e;simp at e
 have hz:∀n,w0.F.length<=n:=λn=>by rw[m];exact Jj _
 rcases E with ⟨rfl,rfl⟩|⟨z,g,b,rfl,q,F,y⟩
 .refine⟨rowFrom 0 (λ_=>[]),h++[(⟨.arr,0,j,0,λ_=>[]⟩:Ob).gone],?_,λi c=>absurd c (X2 i),σ,λl u x=>QE u⟩;have H:=Qr.QBs (w0:=w0) (h:=h) t j s;have w:=Qr.SZ r (v _) t h.length (hz _) (fr:=put fr t (.ref h.length 0 0 0)) (h:=h++[(⟨.arr,0,j,0,λ_=>[]⟩:Ob)]) (o:=⟨.arr,0,j,0,λ_=>[]⟩) (off:=0) (len:=0) (by rw[EM,Qe rfl]) (Vj rfl) (QB 0) rfl (λi c=>absurd c (X2 i));rw[Qle,eG rfl]at w;exact Qr.trans H w
 .refine⟨rowFrom 0 b,_,Qr.SZ r (v _) t z (hz _) s F (by show 0+L.length<=L.length;omega) rfl (λi c=>?_),λi c=>?_,σ,λl u x=>?_⟩
  .show (b i).all D.XO=true;rw[y i c];exact C _
  .rw[He,JR,y i c]
  .exact Ql λe=>x (by rw[<- e];exact q)
def Yp.far{a}{b}{h f:List Ob}{p}{S}(T:Yp a b h p S)(m:h.length<=f.length)(e:∀l,l<h.length->¬(a l=.no/\b l=.no)->f[l]? = h[l]?):Yp (Q4 a h .no) (Ji b h .no) f p S:=by
 obtain⟨i,k,j,g,T⟩:=T;exact⟨_,_,_,_,T.step (λl Qc=>⟨λc=>⟨Ku Qc,e l Qc λd=>c.1 d.1⟩,λc _=>⟨VT Qc,e l Qc λd=>c d.2⟩⟩) (lV T.ap)⟩
structure Zd.Small (o:Zd):Prop where
 c:o.changes.length<1000000
 r:o.rules.length<1000000
def Qlf(S:ZE)(f d:Nat)(k:Int):((Jk S f d).1.st.Jd k).length<=(S.st.Jd k).length:=by
 have g:∀(s:Et) (c:Int) (done:Nat) (bytes:Int) (b:Bool),((Y6 s c done bytes b).Jd k).length<=(s.Jd k).length:=λs c done bytes b=>by
  unfold Y6;cases h:s.Jd c with
  | nil=>exact QB _
  | cons a l=>
   dsimp only;split
   .exact QB _
   .split
    .exact QB _
    .dsimp only;split
     .rename_i e;rw[e,h];simp
     .exact QB _
 unfold Jk;split
 .exact QB _
 .split
  .exact g _ _ _ _ _
  .exact QB _
def Qlg(a e)(k:Int):∀(n:Nat) (S:ZE),((JY a e n S).1.st.Jd k).length<=(S.st.Jd k).length
 | 0,S=>QB _
 | n+1,S=>by
  unfold JY;split
  .exact QB _
  .exact Kv (Qlg a e k n _) (Qlf { S with Qh:=Q1 S } a (Q1 S) k)
def aA.do{S}(C:aA S)(o:Zd):aA (JN S o).S:=by
 refine⟨λk=>?_⟩;rw[QkG];have a:=C.ca k;show ((Km { S with ops:=S.ops+1 } S.ops o).S.st.Jd k).length<=S.ops+1;unfold Km;split
 .show (S.st.Jd k).length<=_;omega
 .split
  .split<;>(show (S.st.Jd k).length<=_;omega)
  .split
   .unfold Yo;split
    .show (S.st.Jd k).length<=_;omega
    .split
     .refine Kv (Qlf _ _ _ k) ?_;show (if k=_ then S.st.Jd k++[S.Qh] else S.st.Jd k).length<=_;split
      .rw[Zo];show _+1<=_;omega
      .omega
     .show (S.st.Jd k).length<=_;omega
   .split
    .unfold Yn;split
     .show (S.st.Jd k).length<=_;omega
     .exact Kv (Qlg _ _ k _ _) (by show (S.st.Jd k).length<=_;omega)
    .show (S.st.Jd k).length<=_;omega
def Yp.QCM{a}{c}{h g:List Ob}{p}{S}(T:Yp a c h p S)(e:∀l,l<h.length->¬(a l=.no/\(c l=.no\/c l=.my))->g[l]? = h[l]?):Yp (Q4 a h .no) (Ji c h .my) g p S:=by
 obtain⟨k,n,m,j,T⟩:=T;refine⟨_,_,_,_,T.step (λl Qc=>⟨λd=>⟨Ku Qc,e l Qc λb=>d.1 b.1⟩,λd i=>⟨VT Qc,e l Qc λb=>b.2.elim d i⟩⟩) λl f=>?_⟩;by_cases b:l<h.length
 .rw[VT b]at f;rw[Ku b];exact T.ap l f
 .exact kH ω
def Y8.rows(l:List Y8):Nat->List D:=λi=>(l.getD i default).cells
@[go_sem] theorem Y8.j4(l:List Y8)(i):Y8.rows l i=(l.getD i default).cells:=rfl
@[go_sem] def Nj(l:List Y8):D:=.imm 3 l.length (Y8.rows l)
structure aG (x:WU) (p q k:Nat) (own:Nat->Tag) (tw:Nat->TT) (H:List Ob) (S:ZE) (R:List Y8) (E:List Ev) (dR dE:D):Prop where
 T:Yp own tw H p S
 V:Z5 S
 C:aA S
 ops:S.ops=k
 hx:H[0]? = some ⟨.one,0,3,1,λ_=>x.cells⟩
 hr:H[1]? = some ⟨.one,0,2,1,λ_=>[.nil,.nil]⟩
 hq:H[q]? = some ⟨.one,0,2,1,λ_=>[dR,dE]⟩
 q2:2<=q
 my:∀l,l=0\/l=1\/l=q->own l=.no/\tw l=.my
 sR:XY (λl=>own l=.no/\tw l=.my) H 3 Y8.cells dR R
 sE:XY (λl=>own l=.no/\tw l=.my) H 12 Ev.cells dE E
 run:ZH (S0 x.config) (x.ops.take k)=(S,R,E)
 lR:R.length=k
 lE:E.length<=5000*k
def Qlh(S:ZE)(o:Zd)(h:Jh S.M<=4096):(JN S o).l.length<=5000:=by
 have d:∀(a e n:Nat) (S:ZE),(JY a e n S).2.length<=n:=by
  intro a e n;induction n with
  | zero=>exact λS=>QB _
  | succ n c=>
   intro S;unfold JY;split
   .exact Jj _
   .have f:=c (Jk { S with Qh:=Q1 S } a (Q1 S)).1;have b:=az { S with Qh:=Q1 S } a (Q1 S);dsimp only;rw[Zo];omega
 show (Km { S with ops:=S.ops+1 } S.ops o).l.length<=5000;unfold Km;split
 .exact Jj _
 .split
  .split<;>exact Jj _
  .split
   .unfold Yo;split
    .exact Jj _
    .split
     .have b:=az { { S with ops:=S.ops+1 } with M:=Jg S.M S.Qh (Jn S.R (Zu o.ZA)) o.ZA,st:=w9 S.st (Jn S.R (Zu o.ZA)) S.Qh } S.ops S.Qh;show (_::_:List Ev).length<=5000;rw[Vo];exact Kv (Nat.succ_le_succ b) π
     .exact Jj _
   .split
    .unfold Yn;split
     .exact Jj _
     .have:=d S.ops (S.Qh+o.KM.toNat) (Jh S.M+1) { S with ops:=S.ops+1 };exact Kv this ω
    .exact Jj _
def Z5.start{b}{d}{h}{p}{c}(T:Yp b d h p (S0 c)):Z5 (S0 c):=by
 obtain⟨_,_,_,_,T⟩:=T;exact⟨T.co.I,T.co.V,T.co.K,λj x hx=>(by cases hx),QB _,Jj _,Jj _,λk=>⟨Ar _,Ar _,Ar _,Ar _,Ar _⟩,λk a e=>(by cases e)⟩
def mi{a:Type}[Inhabited a]{f:a->List D}{L M:List a}{c r2:Nat->List D}(g:∀i,i<L.length->c i=f (L.getD i default))(e:∀i,i<M.length->r2 i=f (M.getD i default)):∀i,i<(L++M).length->JC L.length 0 c r2 i=f ((L++M).getD i default):=by
 intro i d;rw[Zo]at d;rw[QY];by_cases b:i<L.length
 .rw[AD b,JR,g i b,JO b,QY]
 .rw[kS ω,e _ ω,Kh ω,QY]
def aG.next{x:WU}{p q k}{g}{t}{H}{S}{R}{E}{L M}(I:aG x p q k g t H S R E L M)(v:k<x.ops.length)(z:∀c∈(x.ops.getD k default).changes,Z4.Ok c){own4}{tw4}{h4 h':List Ob}{Y:Na}(f:Y=JN S (x.ops.getD k default))(T:Yp own4 tw4 h4 p Y.S)(h:h4.length<=h'.length)(e:∀l,l<h4.length->¬(own4 l=.no/\(tw4 l=.no\/tw4 l=.my))->h'[l]? = h4[l]?)
  (i:∀l o,l<H.length->g l=.no->t l=.my->H[l]? = some o->own4 l=.no/\tw4 l=.my/\h4[l]? = some o) {a b:D}
  (K:h'[0]? = h4[0]?) (J:h'[1]? = h4[1]?) (F:h'[q]? = some ⟨.one,0,2,1,λ_=>[a,b]⟩)
  (w:XY (λl=>h4.length<=l\/own4 l=.no/\tw4 l=.my) h' 3 Y8.cells a (R++[Y.r])) (y:XY (λl=>h4.length<=l\/own4 l=.no/\tw4 l=.my) h' 12 Ev.cells b (E++Y.l)) :
  aG x p q (k+1) (Q4 own4 h4 .no) (Ji tw4 h4 .my) h' Y.S (R++[Y.r]) (E++Y.l) a b:=by
 have d:∀l,(h4.length<=l\/own4 l=.no/\tw4 l=.my)->Q4 own4 h4 .no l=.no/\Ji tw4 h4 .my l=.my:=λl h=>by
  by_cases s:l<h4.length
  .rw[Ku s,VT s];exact h.resolve_left ω
  .exact⟨kH ω,Gi ω⟩
 have n:=i 0 _ (Qc I.hx) (I.my 0 (.inl rfl)).1 (I.my 0 (.inl rfl)).2 I.hx;have m:=i 1 _ (Qc I.hr) (I.my 1 (.inr (.inl rfl))).1 (I.my 1 (.inr (.inl rfl))).2 I.hr;have u:=i q _ (Qc I.hq) (I.my q (.inr (.inr rfl))).1 (I.my q (.inr (.inr rfl))).2 I.hq;have B:x.ops.take (k+1)=x.ops.take k++[x.ops.getD k default]:=by
  rw[zD,QG v,QY,QG v];rfl
 refine⟨T.QCM e,?_,?_,?_,K.trans n.2.2,J.trans m.2.2,F,I.q2,λl h=>?_,w.step λj _ r=>⟨d j r,rfl⟩,y.step λj _ r=>⟨d j r,rfl⟩,?_,?_,?_⟩
 .rw[f];exact I.V.do z
 .rw[f];exact I.C.do _
 .rw[f,QkG,I.ops]
 .rcases h with rfl|rfl|rfl
  .exact d _ (.inr ⟨n.1,n.2.1⟩)
  .exact d _ (.inr ⟨m.1,m.2.1⟩)
  .exact d _ (.inr ⟨u.1,u.2.1⟩)
 .rw[B,lL,I.run,f];simp only[ZH,JZ]
 .rw[Zo,I.lR];rfl
 .obtain⟨_,_,_,_,N⟩:=I.T;have s:=Qlh S (x.ops.getD k default) N.co.ay;have O:=I.lE;rw[Zo,f];omega
def Qli{b:List Y8}{a}(h:∀i,i<b.length->a i=Y8.cells (b.getD i default)){k}:JD (k+1) (.imm 3 b.length (rowFrom 0 a)) (Nj b):=⟨rfl,rfl,λi c=>by rw[He,JR,h i c];exact vm (qX _) _⟩
def Qlj{b:List Ev}{a}(h:∀i,i<b.length->a i=Ev.cells (b.getD i default)){k}:JD (k+1) (.imm 12 b.length (rowFrom 0 a)) (Fq b):=⟨rfl,rfl,λi c=>by rw[He,JR,h i c];exact vm (qX _) _⟩
def run_freeze{S}{u}{I J}{f}{j}(N:XY S u 3 Y8.cells I f)(F:XY S u 12 Ev.cells J j){d}(e:d=.tup [.agg [I,J],Qb 0]):
  JD 6 d (.tup [.agg [Nj f,Fq j],Qb 0])\/(∃q g t n c,u[q]? = some ⟨.arr,g,t,n,c⟩/\(∀i,i<n->(c i).all D.XO=true)/\JD 6 (D.fz q g n t c d) (.tup [.agg [Nj f,Fq j],Qb 0])) \/
   ∃q g t n c E H L z B,u[q]? = some ⟨.arr,g,t,n,c⟩/\u[E]? = some ⟨.arr,H,L,z,B⟩/\E≠q/\(∀i,i<n->(c i).all D.XO=true)/\(∀i,i<z->(B i).all D.XO=true)/\JD 6 (D.fz E H z L B (D.fz q g n t c d)) (.tup [.agg [Nj f,Fq j],Qb 0]):=by
 subst e;have M:∀{a b:Nat},a≠b->Nat.beq a b=false:=λ{a b} h=>by rw[<- Yq,Wo];exact h
 rcases N with ⟨rfl,rfl⟩|⟨l,r,s,rfl,_,C,y⟩
 .rcases F with ⟨rfl,rfl⟩|⟨k,o,p,rfl,_,x,w⟩
  .exact .inl ⟨⟨rfl,rfl,trivial⟩,rfl,trivial⟩
  .refine .inr (.inl ⟨k,o,12,_,p,x,λi m=>by rw[w i m];rfl,?_⟩);have v:D.fz k o j.length 12 p (.tup [.agg [.nil,.ref k o 0 j.length],Qb 0])=.tup [.agg [.nil,.imm 12 j.length (rowFrom 0 p)],Qb 0]:=by simp[D.fz,zQ,Ff,Qb]
   rw[v];exact⟨⟨rfl,Qlj w,trivial⟩,rfl,trivial⟩
 .rcases F with ⟨rfl,rfl⟩|⟨k,o,p,rfl,_,x,w⟩
  .refine .inr (.inl ⟨l,r,3,_,s,C,λi m=>by rw[y i m];rfl,?_⟩);have v:D.fz l r f.length 3 s (.tup [.agg [.ref l r 0 f.length,.nil],Qb 0])=.tup [.agg [.imm 3 f.length (rowFrom 0 s),.nil],Qb 0]:=by simp[D.fz,zQ,Ff,Qb]
   rw[v];exact⟨⟨Qli y,rfl,trivial⟩,rfl,trivial⟩
  .have K:k≠l:=XJ x C (.inr nofun);refine .inr (.inr ⟨l,r,3,_,s,k,o,12,_,p,C,x,K,λi m=>by rw[y i m];rfl,λi m=>by rw[w i m];rfl,?_⟩);have v:D.fz k o j.length 12 p (D.fz l r f.length 3 s (.tup [.agg [.ref l r 0 f.length,.ref k o 0 j.length],Qb 0]))=.tup [.agg [.imm 3 f.length (rowFrom 0 s),.imm 12 j.length (rowFrom 0 p)],Qb 0]:=by simp[D.fz,zQ,Ff,M K,Qb]
   rw[v];exact⟨⟨Qli y,Qlj w,trivial⟩,rfl,trivial⟩
def Qa4(x:WU)(K:W8 x.config)(c:x.ops.length<=1000)(Jf:∀o∈x.ops,Zd.Ok o/\Zd.Small o):
  QI prog 9 [.agg x.cells] (QO (.tup [.agg [Nj (ZH (S0 x.config) x.ops).2.1,Fq (ZH (S0 x.config) x.ops).2.2],Qb 0])):=by
 have dl:decide ((1000:Int)<(x.ops.length:Int))=false:=QH ω;refine Qa0 (R:=λd hh=>∃(S:Nat->Prop) (dR dE:D),d=.tup [.agg [dR,dE],Qb 0]/\XY S hh 3 Y8.cells dR (ZH (S0 x.config) x.ops).2.1/\XY S hh 12 Ev.cells dE (ZH (S0 x.config) x.ops).2.2) _ rfl (λd hh ⟨S,dR,dE,e,z,t⟩=>run_freeze z t e) ?_;refine oy KS 200 func9 rfl ntmps9 results9 rfl λc7 w L=>?_;simp only[go_sem,Qa];have hN:=QCH (own:=λ_=>.no) (tw:=λ_=>.my) (λ_ _=>rfl) [(⟨.one,0,3,1,λ_=>x.cells⟩:Ob),⟨.one,0,2,1,λ_=>[.nil,.nil]⟩] K;refine Fu L QrL hN λd z hR=>?_;obtain⟨Jz,Wn,p,rfl,T1,N⟩:=hR;have Xz:z[0]? = some _:=N.my 0 σ rfl;have Wd:z[1]? = some _:=N.my 1 σ rfl;have vV:=Qc Xz;apply Qf L;simp only[go_sem,Qa,Xz,vV,dl];have jh:=Qc Wd;have c5:=T1;obtain⟨_,_,_,_,b7⟩:=c5;have I0:aG x p z.length 0 (Q4 Jz z .no) (Ji Wn z .my) (z++[(⟨.one,0,2,1,λ_=>[.nil,.nil]⟩:Ob)]) (S0 x.config) [] [] .nil .nil:=by
  refine⟨⟨_,_,_,_,b7.Gk _⟩,Z5.start T1,⟨λk=>Jj _⟩,rfl,(QE vV).trans Xz,(QE jh).trans Wd,Vj rfl,by have:=N.len;simpa using this,λl YI=>?_,.inl ⟨rfl,rfl⟩,.inl ⟨rfl,rfl⟩,rfl,rfl,Jj _⟩;rcases YI with rfl|rfl|rfl
  .exact⟨(Ku vV).trans (N.s1 0 σ),(VT vV).trans (N.s2 0 σ)⟩
  .exact⟨(Ku jh).trans (N.s1 1 σ),(VT jh).trans (N.s2 1 σ)⟩
  .exact⟨kH (QB _),Gi (QB _)⟩
 obtain⟨q,hq⟩:∃q,q=z.length:=⟨_,rfl⟩;rw[<- hq]at I0 ⊢;refine ZW (λk s=>∃O tw H S R E dR dE,aG x p q k O tw H S R E dR dE/\s=⟨[(2,.ptr 1 0 0 0),(3,Qb 0),(4,.ptr p 0 0 0),(5,Qb 0),(6,.ptr q 0 0 0),(29,.imm 10 x.ops.length (Zd.rows x.ops)),(30,Qb x.ops.length),(31,Qb k)],H⟩) x.ops.length QQ ⟨_,_,_,_,_,_,_,_,I0,rfl⟩ ?_;clear I0 T1 b7 N Xz Wd vV jh hN hq;rintro k _ hk ⟨O,tw,H,S,R,E,dR,dE,I,rfl⟩;by_cases T:k<x.ops.length
 .have dk:=QT T;have QU:=JT (show k<4611686018427387904 from ω);obtain⟨o,ho⟩:∃o,o=x.ops.getD k default:=⟨_,rfl⟩;have mj:o∈x.ops:=by rw[ho];exact Yx x.ops default k T
  obtain⟨⟨_,_,_,_,Tx⟩,hV,hC,c8⟩:=And.intro I.T (And.intro I.V (And.intro I.C I.ops));have T1:=Tx.Gk [⟨.one,0,10,1,λ_=>o.cells⟩];have N:=Jv.app (n:=H.length) O tw H [⟨.one,0,10,1,λ_=>o.cells⟩] .my (QB _);have c3:=QCA ⟨_,_,_,_,T1⟩ hV hC ω o (Jf o mj).1 (Jf o mj).2.c (Jf o mj).2.r;apply Qf L;simp only[go_sem,Qa,dk,T,<- ho];refine JG L QrM c3 λd t hR=>?_;obtain⟨dl,Kj,qb,rfl,T2,s2,K2⟩:=hR;refine AU KS L 10 ?_;simp only[go_sem,Qa];obtain⟨Y,hY⟩:∃Y,Y=JN S o:=⟨_,rfl⟩;rw[<- hY]at T2 s2 ⊢;obtain⟨_,_,_,_,c4⟩:=T2;have GX:H.length+1<=t.length:=by have:=K2.len;simpa using this
  have T3:=c4.Gk [⟨.one,0,3,1,λ_=>Y.r.cells⟩];have s3:XY (λl=>l<t.length/\Kj l=.no/\qb l=.no) (t++[(⟨.one,0,3,1,λ_=>Y.r.cells⟩:Ob)]) 12 Ev.cells dl Y.l:=s2.step λj hj z=>⟨⟨hj,z.2⟩,QE hj⟩;have c1:∀l Z,l<H.length->O l=.no->tw l=.my->H[l]? = some Z->Kj l=.no/\qb l=.my/\t[l]? = some Z:=λl Z c z t h3=>by
   have ZI:l<(H++[(⟨.one,0,10,1,λ_=>o.cells⟩:Ob)]).length:=ξ;have a1:=(N.s1 l c).trans z;have a2:=(N.s2 l c).trans t;exact⟨(K2.s1 l ZI).trans a1,(K2.s2 l ZI).trans a2,(K2.my l ZI a2).trans ((QE c).trans h3)⟩
  obtain⟨m,r,W4,ZU,TG,k4⟩:=QCJ (w0:=⟨w,[],[]⟩) rfl rfl (λa=>rfl) (fr:=[(2,.ptr 1 0 0 0),(3,Qb 0),(4,.ptr p 0 0 0),(5,Qb 0),(6,.ptr q 0 0 0),(9,.ptr t.length 0 0 0),(10,dl),(29,.imm 10 x.ops.length (Zd.rows x.ops)),(30,Qb x.ops.length),(31,Qb k),(41,.ptr q 0 0 0)]) (h:=t++[(⟨.one,0,3,1,λ_=>Y.r.cells⟩:Ob)]) 10 rfl s3;have TG:t.length+1<=r.length:=by simpa using TG
  have aH:r[t.length]? = some ⟨.one,0,3,1,λ_=>Y.r.cells⟩:=by rw[k4 _ σ (λh=>absurd h.1 (GD _))];exact Vj rfl
  obtain⟨b,b9⟩:∃f,f=Q4 (Q4 Kj t .no) (t++[(⟨.one,0,3,1,λ_=>Y.r.cells⟩:Ob)]) .no:=⟨_,rfl⟩;obtain⟨v,b8⟩:∃f,f=Ji (Ji qb t .my) (t++[(⟨.one,0,3,1,λ_=>Y.r.cells⟩:Ob)]) .no:=⟨_,rfl⟩;have T4:Yp b v r p Y.S:=by
   rw[b9,b8];refine Yp.far ⟨_,_,_,_,T3⟩ (by simpa using TG) λl c y=>k4 l c λhh=>y ?_;exact⟨(Ku hh.1).trans hh.2.1,(VT hh.1).trans hh.2.2⟩
  have W:∀l Z,l<H.length->O l=.no->tw l=.my->H[l]? = some Z->b l=.no/\v l=.my/\r[l]? = some Z:=λl Z c z qg h3=>by
   obtain⟨V,Q,M⟩:=c1 l Z c z qg h3;have Jx:l<t.length:=ω;have FI:l<(t++[(⟨.one,0,3,1,λ_=>Y.r.cells⟩:Ob)]).length:=ξ;refine⟨by rw[b9,Ku FI,Ku Jx];exact V,by rw[b8,VT FI,VT Jx];exact Q,?_⟩;rw[k4 l FI λh=>(by rw[Q]at h;cases h.2.2),QE Jx];exact M
  refine DD (Qr.trans (Qr.frame (fr':=[(2,.ptr 1 0 0 0),(3,Qb 0),(4,.ptr p 0 0 0),(5,Qb 0),(6,.ptr q 0 0 0),(9,.ptr t.length 0 0 0),(10,dl),(29,.imm 10 x.ops.length (Zd.rows x.ops)),(30,Qb x.ops.length),(31,Qb k),(41,.ptr q 0 0 0)]) (by simp only[go_sem])) W4) ?_;have WW:=Qc I.hx;have VB:=Qc I.hr;have a9:=Qc I.hq;obtain⟨qo,qt,Iu⟩:=W q _ a9 (I.my q (.inr (.inr rfl))).1 (I.my q (.inr (.inr rfl))).2 I.hq;have J:=Qc Iu;have mm:=Qc aH;have c0:XY (λl=>b l=.no/\v l=.my) r 3 Y8.cells dR R:=I.sR.imp id λ⟨U,g,m,a1,a2,a3,a4⟩=>by
   obtain⟨V,Q,M⟩:=W U _ (Qc a3) a2.1 a2.2 a3;exact⟨U,g,m,a1,⟨V,Q⟩,M,a4⟩
  have b0:XY (λl=>b l=.no/\v l=.my) r 12 Ev.cells dE E:=I.sE.imp id λ⟨U,g,m,a1,a2,a3,a4⟩=>by
   obtain⟨V,Q,M⟩:=W U _ (Qc a3) a2.1 a2.2 a3;exact⟨U,g,m,a1,⟨V,Q⟩,M,a4⟩
  have UN:=I.lR;have UF:=I.lE;have q4:=I.q2;obtain⟨_,_,_,_,Tc⟩:=I.T;have c2:=Qlh S o Tc.co.ay;rw[<- hY]at c2;have vQ:=λh'=>I.next (h':=h') T (ho▸(Jf o mj).1.2.1.2) (by rw[<- ho];exact hY) (own4:=b) (tw4:=v) (h4:=r) T4;have Zx:∀i,i<Y.l.length->(m i).all D.Vr=true:=λi u=>by rw[ZU i u];rfl
  have P:∀{l},¬(b l=.no/\(v l=.no\/v l=.my))->∀{l'},b l'=.no/\v l'=.my->l'≠l:=λh l' h' e=>h (e▸⟨h'.1,.inr h'.2⟩);have n0:q≠0:=ω;have n1:q≠1:=ω;have z0:0<r.length:=ω;have z1:1<r.length:=ω;have a5:=(W 0 _ WW (I.my 0 (.inl rfl)).1 (I.my 0 (.inl rfl)).2 I.hx).2.2;have a0:=(W 1 _ VB (I.my 1 (.inr (.inl rfl))).1 (I.my 1 (.inr (.inl rfl))).2 I.hr).2.2;rcases c0 with ⟨rfl,rfl⟩|⟨yc,gR,Nk,rfl,mn,CY,No⟩
  .rcases b0 with ⟨rfl,rfl⟩|⟨kI,gE,Gn,rfl,aI,F,Gp⟩
   .apply Qf L;simp only[go_sem,Qa,Iu,J,aH,mm,Qt];refine⟨⟨ω,Zx⟩,T,_,Qr.frame (by simp only[go_sem,QU]),_,_,_,_,_,_,_,_,vQ _ σ (λl c y=>(QE (by rw[K0];exact c)).trans (Ql (P y ⟨qo,qt⟩))) W ((QE (by rw[K0];exact z0)).trans (Ql n0)) ((QE (by rw[K0];exact z1)).trans (Ql n1)) ((QE (by rw[K0];exact J)).trans (Qt J)) (.inr ⟨r.length+1,0,_,rfl,.inl (IM _),VP (by rw[K0]),λi u=>?_⟩) (.inr ⟨r.length+2,0,_,rfl,.inl ω,VP (by rw[K0]),λi u=>ZU i u⟩),rfl⟩;obtain rfl:i=0:=by simpa using u
    rfl
   .have Np:=Qc F;have Nq:kI≠q:=XJ F Iu (.inl nofun);apply Qf L;simp only[go_sem,Qa,Iu,J,aH,mm,F,Np,Qt,Ql Nq,Ql Nq.symm];have aJ:∀(A B C:Ob) {l},l<r.length->l<(((r.set q A).set kI B).set q C).length:=λA B C l c=>by simp only[K0];exact c
    have a8:=XJ F a5 (.inl nofun);have a7:=XJ F a0 (.inl nofun);refine⟨⟨ω,Zx⟩,T,_,Qr.frame (by simp only[go_sem,QU]),_,_,_,_,_,_,_,_,vQ _ σ (λl c y=>by rw[QE (aJ _ _ _ c),Ql (P y ⟨qo,qt⟩),Ql (P y aI),Ql (P y ⟨qo,qt⟩)]) W (by rw[QE (aJ _ _ _ z0),Ql n0,Ql a8,Ql n0]) (by rw[QE (aJ _ _ _ z1),Ql n1,Ql a7,Ql n1]) ((QE (aJ _ _ _ J)).trans (Qt (by simp only[K0];exact J))) (.inr ⟨r.length+1,0,_,rfl,.inl (IM _),VP (by simp only[K0]),λi u=>?_⟩) (.inr ⟨kI,gE+1,_,?_,.inr aI,?_,mi (r2:=m) Gp λi u=>ZU i u⟩),rfl⟩
    .obtain rfl:i=0:=by simpa using u
     rfl
    .rw[Zo]
    .rw[QE (aJ _ _ _ Np),Ql Nq.symm,Qt (by simp only[K0];exact Np),Zo]
  .have Rx:=Qc CY;have Nr:yc≠q:=XJ CY Iu (.inl nofun);have b6:=XJ CY a5 (.inl nofun);have b5:=XJ CY a0 (.inl nofun);rcases b0 with ⟨rfl,rfl⟩|⟨kI,gE,Gn,rfl,aI,F,Gp⟩
   .apply Qf L;simp only[go_sem,Qa,Iu,J,aH,mm,CY,Rx,Qt,Ql Nr,Ql Nr.symm];have aK:∀(A B:Ob) {l},l<r.length->l<((r.set yc A).set q B).length:=λA B l c=>by simp only[K0];exact c
    refine⟨ω,⟨ω,Zx⟩,T,_,Qr.frame (by simp only[go_sem,QU]),_,_,_,_,_,_,_,_,vQ _ σ (λl c y=>by rw[QE (aK _ _ c),Ql (P y ⟨qo,qt⟩),Ql (P y mn)]) W (by rw[QE (aK _ _ z0),Ql n0,Ql b6]) (by rw[QE (aK _ _ z1),Ql n1,Ql b5]) ((QE (aK _ _ J)).trans (Qt (by simp only[K0];exact J))) (.inr ⟨yc,gR+1,_,?_,.inr mn,?_,mi (r2:=λ_=>Y.r.cells) No λi u=>?_⟩) (.inr ⟨r.length+1,0,_,rfl,.inl (IM _),VP (by simp only[K0]),λi u=>ZU i u⟩),rfl⟩
    .rw[Zo];rfl
    .rw[QE (aK _ _ Rx),Ql Nr.symm,Qt Rx,Zo];rfl
    .obtain rfl:i=0:=by simpa using u
     rfl
   .have Np:=Qc F;have Nq:kI≠q:=XJ F Iu (.inl nofun);have a6:kI≠yc:=XJ F CY (.inr nofun);have a8:=XJ F a5 (.inl nofun);have a7:=XJ F a0 (.inl nofun);apply Qf L;simp only[go_sem,Qa,Iu,J,aH,mm,CY,Rx,F,Np,Qt,Ql Nr,Ql Nr.symm,Ql Nq,Ql Nq.symm,Ql a6,Ql a6.symm];have Ry:∀(A B C D:Ob) {l},l<r.length->l<((((r.set yc A).set q B).set kI C).set q D).length:=λA B C D l c=>by simp only[K0];exact c
    refine⟨ω,⟨ω,Zx⟩,T,_,Qr.frame (by simp only[go_sem,QU]),_,_,_,_,_,_,_,_,vQ _ σ (λl c y=>by rw[QE (Ry _ _ _ _ c),Ql (P y ⟨qo,qt⟩),Ql (P y aI),Ql (P y ⟨qo,qt⟩),Ql (P y mn)]) W (by rw[QE (Ry _ _ _ _ z0),Ql n0,Ql a8,Ql n0,Ql b6]) (by rw[QE (Ry _ _ _ _ z1),Ql n1,Ql a7,Ql n1,Ql b5]) ((QE (Ry _ _ _ _ J)).trans (Qt (by simp only[K0];exact J))) (.inr ⟨yc,gR+1,_,?_,.inr mn,?_,mi (r2:=λ_=>Y.r.cells) No λi u=>?_⟩) (.inr ⟨kI,gE+1,_,?_,.inr aI,?_,mi Gp λi u=>ZU i u⟩),rfl⟩
    .rw[Zo];rfl
    .rw[QE (Ry _ _ _ _ Rx),Ql Nr.symm,Ql a6,Ql Nr.symm,Qt Rx,Zo];rfl
    .obtain rfl:i=0:=by simpa using u
     rfl
    .rw[Zo]
    .rw[QE (Ry _ _ _ _ Np),Ql Nq.symm,Qt (by simp only[K0];exact Np),Zo]
 .obtain rfl:k=x.ops.length:=ω;have dk:=QH T;have hr:=I.hr;have VB:=Qc hr;have hq:=I.hq;have a9:=Qc hq;apply Qf L;simp only[go_sem,Qa,dk,T];have oR:dR.Vr=true:=by rcases I.sR with ⟨rfl,_⟩|⟨_,_,_,rfl,_⟩<;>rfl
  have oE:dE.Vr=true:=by rcases I.sE with ⟨rfl,_⟩|⟨_,_,_,rfl,_⟩<;>rfl
  have Zf:=I.run;rw[Wc]at Zf;rw[Zf];apply Qf L;simp only[go_sem,Qa,hr,VB,hq,a9,Qt,oR,oE];refine⟨_,_,_,rfl,I.sR.imp id λ⟨U,g,m,V,Q,M,b4⟩=>⟨U,g,m,V,Q,by rw[Ql (XJ hr M (.inl nofun))];exact M,b4⟩,I.sE.imp id λ⟨U,g,m,V,Q,M,b4⟩=>⟨U,g,m,V,Q,by rw[Ql (XJ hr M (.inl nofun))];exact M,b4⟩⟩
def Ns(o:Zd):Bool:=decide (o.changes.length<=40)&&decide (o.rules.length<=40)
def BD(x:WU)(m:Nat):Bool:=decide (x.ops.length<=m)&&x.ops.all Ns
def mu{b:Type}(l:List b)(d:b)(f):l.all f=true↔∀j,j<l.length->f (l.getD j d)=true:=by
 rw[zC];constructor
 .intro h j e;exact h _ (Yx l d j e)
 .intro h a g;obtain⟨i,c,rfl⟩:=xl g;have:=h i c;simpa[QY,c] using this
def QCT(x:WU)(m:Nat)(t:m<1000000):QI prog 22 [.agg x.cells,Qb m] (QO (QX (BD x m))):=by
 refine QZ 0 func22 ntmps22 results22 λp w l=>?_;simp only[go_sem];by_cases q:m<x.ops.length
 .simp only[go_sem,q,decide_true];have:BD x m=false:=by simp[BD];omega
  rw[this]
 .have s:decide (m<x.ops.length)=false:=ξ;simp only[go_sem,s];refine yB (G:=Nat) [13,14] (λk=>∀j,j<k->Ns (x.ops.getD j default)=true) (λk e=>[(15,Qb k)]) (λk e=>[]) (x.ops.length) (0) rfl (Qr.to 0 (by (simp only[go_sem])<;>simp)) ?_ ?_
  .intro j g;omega
  intro k e f o;apply QV l;have r:=JT (show k<4611686018427387904 from ω);first|refine WS f (λc=>?_) (λc=>?_)|refine WT f (λc=>?_) (λc=>?_)
  .simp only[go_sem,c];have n:¬ (∀j,j<x.ops.length->Ns (x.ops.getD j default)=true)->BD x m=false:=λd=>by
    rw[jj];intro i;simp only[BD,ZL]at i;exact d ((mu _ default _).1 i.2)
   first|refine qu (λb=>?_) (λb=>?_)|refine qv (λb=>?_) (λb=>?_)|refine qw (λb=>?_) (λb=>?_)|refine Wu (λb=>?_) (λb=>?_)|refine qx (λb=>?_) (λb=>?_)|refine qy (λb=>?_) (λb=>?_)|refine qz (λb=>?_) (λb=>?_)|refine qp (λb=>?_) (λb=>?_)
   .simp only[go_sem];rw[n (λd=>by have:=d k c;simp only[Ns,ZL,X4]at this;omega)]
   .simp only[go_sem];first|refine qu (λa=>?_) (λa=>?_)|refine qv (λa=>?_) (λa=>?_)|refine qw (λa=>?_) (λa=>?_)|refine Wu (λa=>?_) (λa=>?_)|refine qx (λa=>?_) (λa=>?_)|refine qy (λa=>?_) (λa=>?_)|refine qz (λa=>?_) (λa=>?_)|refine qp (λa=>?_) (λa=>?_)
    .simp only[go_sem];rw[n (λd=>by have:=d k c;simp only[Ns,ZL,X4]at this;omega)]
    .simp only[go_sem];repeat (refine And.intro δ ?_)
     refine⟨_,Qr.to 0 (by (simp only[go_sem,r])<;>simp),Vi.mk (0) (?_)⟩;intro j g;rcases xo.1 g with h|rfl
     .exact o j h
     .simp only[Ns,ZL,X4];omega
  .simp only[go_sem];apply QV l;subst c;have:BD x m=true:=by
    simp only[BD,ZL];exact⟨ξ,(mu _ default _).2 o⟩
   rw[this]
def mv:Zd:=⟨1,[MZ 1 65536],[],⟨0,0,0,0,0,0⟩,0⟩
def Qlq:Zd:=⟨2,[],[⟨0,0,0,0,0,0,0,0,1⟩],⟨0,0,0,0,0,0⟩,0⟩
def mw:Zd:=⟨3,[],[],⟨7,100,0,0,0,0⟩,0⟩
def Qlr:Zd:=⟨4,[],[],⟨0,0,0,0,0,0⟩,150⟩
def aL:List Zd:=[mv,Qlq,mw,mw,Qlr]
def Rz:WU:=⟨c6,aL⟩
def QCU:∀o∈aL,Zd.Ok o/\Zd.Small o:=by
 have c:Pk.Ok ⟨0,0,0,0,0,0⟩:=⟨π,π,π,π,π,π,trivial⟩;have f:Pk.Ok ⟨7,100,0,0,0,0⟩:=⟨π,π,π,π,π,π,trivial⟩;have j:Z4.Ok (MZ 1 65536):=⟨π,⟨π,π,trivial,⟨π,π,π,trivial⟩,⟨π,π,π,trivial⟩,⟨π,π,π,trivial⟩,π,π,trivial⟩,trivial⟩;have i:JX.Ok ⟨0,0,0,0,0,0,0,0,1⟩:=⟨π,π,π,π,π,π,π,π,π,trivial⟩;have b:∀{e:Type} {P:e->Prop},∀a∈([]:List e),P a:=λa h=>(by cases h);intro o g;simp only[aL,QF,List.not_mem_nil,or_false]at g;rcases g with rfl|rfl|rfl|rfl|rfl
 .exact⟨⟨π,⟨π,λa d=>by obtain rfl:=X1.1 d;exact j⟩,⟨π,b⟩,c,π,trivial⟩,π,π⟩
 .exact⟨⟨π,⟨π,b⟩,⟨π,λa d=>by obtain rfl:=X1.1 d;exact i⟩,c,π,trivial⟩,π,π⟩
 .exact⟨⟨π,⟨π,b⟩,⟨π,b⟩,f,π,trivial⟩,π,π⟩
 .exact⟨⟨π,⟨π,b⟩,⟨π,b⟩,f,π,trivial⟩,π,π⟩
 .exact⟨⟨π,⟨π,b⟩,⟨π,b⟩,c,π,trivial⟩,π,π⟩
def T7:List Qm:=[(MZ 1 65536).cls]
def Qls:Jm [] [MZ 1 65536]=T7:=τ
def Qlt:Kb [] T7=[1]:=by
 unfold Kb;have h:yX [] T7=[1]:=τ;rw[h,QfQ (Ny [1]) σ];rfl
def M7:Qo:=Qkx [1] (M0 c6) T7
def QCV:je (M0 c6) T7 true=false:=by
 unfold je iw;have h:(M0 c6).T=[]:=rfl;rw[h,Qlt];decide +kernel
def QCW:Y3 (M0 c6) true [MZ 1 65536]=0:=by
 unfold Y3;have h:(M0 c6).T=[]:=rfl;rw[h,Qls,QCV];decide +kernel
def QCX:J4 (M0 c6) true [MZ 1 65536]=M7:=by
 unfold J4;rw[Qe QCW,show (M0 c6).T=[] from rfl,Qls,QBy,show (M0 c6).T=[] from rfl,Qlt];rfl
def S7:ZE:=⟨M7,0,[],⟨λ_=>[],λ_=>default⟩,0,1⟩
def QCY:(JN (S0 c6) mv).S=S7:=by
 show ZE.mk (J4 (M0 c6) true [MZ 1 65536]) 0 [] _ 0 1=S7;rw[QCX];rfl
def Iv:List Ev:=[⟨2,true,false,0,0,1,7,100,0,0,0,0⟩,⟨2,false,false,0,100,1,7,100,0,0,0,0⟩,⟨3,true,false,0,0,1,7,100,0,0,0,0⟩,⟨4,false,false,100,200,1,7,100,0,0,0,0⟩]
def QCZ:(ZH (S0 c6) aL).2.2=Iv:=by
 show (JN (S0 c6) mv).l++(ZH (JN (S0 c6) mv).S [Qlq,mw,mw,Qlr]).2.2=Iv;rw[QCY];kernel_rfl
theorem QC0:(ZH (S0 c6) aL).2.1.length=5:=rfl
def QC1{x:WU}{m}(h:BD x m=true)(d:∀a∈x.ops,Zd.Ok a):x.ops.length<=m/\∀o∈x.ops,Zd.Ok o/\Zd.Small o:=by
 simp only[BD,ZL,X4]at h;obtain⟨b,e⟩:=h;refine⟨b,λo c=>?_⟩;have:=zC.1 e o c;simp only[Ns,ZL,X4]at this;exact⟨d o c,ω,ω⟩
def QC2(S:ZE)(c b:Nat):∀e∈(Jk S c b).2,e.op=c:=by
 unfold Jk;split
 .intro e a;cases a
 .split
  .intro e a;simp only[X1]at a;rw[a];rfl
  .intro e a;cases a
def QL(S:ZE)(n:Nat):Prop:=∀j,(Zs S.M j).length<=n
def QL.take{S:ZE}{n}(h:QL S n)(a)(j:Int):(Zs (takeN S.M a) j).length<=n:=by
 rw[Es];have:=h j;split
 .rw[List.length_tail];omega
 .exact this
def QL.put{S:ZE}{n}(h:QL S n)(a)(b)(x)(j:Int):(Zs (Jg S.M a b x) j).length<=n+1:=by
 rw[Gg];have:=h j;split
 .rw[Zo,Kc];omega
 .omega
def QL.Ii{S}{n}(h:QL S n)(b a:Nat):QL (Jk S b a).1 n:=by
 unfold Jk;split
 .exact h
 .split
  .exact h.take a
  .exact h.take a
def QL.go{a e n}:∀(k:Nat) {S:ZE},QL S n->QL (JY a e k S).1 n
 | 0,S,h=>h
 | k+1,S,h=>by
  unfold JY;split
  .exact h
  .exact QL.go k (QL.Ii (S:={ S with Qh:=Q1 S }) h a (Q1 S))
def QL.do{S}{n}(h:QL S n)(o:Zd):QL (JN S o).S (n+1):=by
 have a:QL S (n+1):=λj=>Nat.le_succ_of_le (h j);show QL (Km { S with ops:=S.ops+1 } S.ops o).S (n+1);unfold Km;split
 .exact λj=>QkF (P:=λq=>q.length<=n+1) (Jj _) _ _ (a j)
 .split
  .split<;>exact a
  .split
   .unfold Yo;split
    .exact a
    .split
     .exact QL.Ii (S:={ { S with ops:=S.ops+1 } with M:=Jg S.M S.Qh (Jn S.R (Zu o.ZA)) o.ZA,st:=w9 S.st (Jn S.R (Zu o.ZA)) S.Qh }) (λj=>h.put _ _ _ j) _ _
     .exact λj=>h.put _ _ _ j
   .split
    .unfold Yn;split
     .exact a
     .exact QL.go _ a
    .exact a
def Z5.RC{c}(K:W8 c):Z5 (S0 c):=⟨uK c,QjR c,K,λj x hx=>(by cases hx),QB _,Jj _,Jj _,λk=>⟨Ar _,Ar _,Ar _,Ar _,Ar _⟩,λk a b=>(by cases b)⟩
def QL.ay{S:ZE}{n}(h:QL S n)(I:Qz S.M):Jh S.M<=64*n:=by
 have d:=aw (λc=>(Zs S.M c.iD).length) n S.M.T λc _=>h c.iD;have a:=I.tree.len;unfold Jh;have b:S.M.T.length*n<=64*n:=XL n a;omega
def Qlu(a e):∀(n:Nat) (S:ZE),(JY a e n S).2.length<=n
 | 0,S=>QB _
 | n+1,S=>by
  unfold JY;split
  .exact Jj _
  .have c:=Qlu a e n (Jk { S with Qh:=Q1 S } a (Q1 S)).1;have b:=az { S with Qh:=Q1 S } a (Q1 S);dsimp only;rw[Zo];omega
def QC3(S:ZE)(o:Zd):(JN S o).l.length<=Jh S.M+2:=by
 show (Km { S with ops:=S.ops+1 } S.ops o).l.length<=_;unfold Km;split
 .exact Jj _
 .split
  .split<;>exact Jj _
  .split
   .unfold Yo;split
    .exact Jj _
    .split
     .have a:=az { { S with ops:=S.ops+1 } with M:=Jg S.M S.Qh (Jn S.R (Zu o.ZA)) o.ZA,st:=w9 S.st (Jn S.R (Zu o.ZA)) S.Qh } S.ops S.Qh;show (_::_:List Ev).length<=_;rw[Vo];exact Kv (Nat.succ_le_succ a) (Nat.le_add_left 2 _)
     .exact Jj _
   .split
    .unfold Yn;split
     .exact Jj _
     .exact Kv (Qlu S.ops (S.Qh+o.KM.toNat) (Jh S.M+1) { S with ops:=S.ops+1 }) (IM _)
    .exact Jj _
def Qlv:∀(l:List Zd) {S:ZE} {n:Nat},Z5 S->QL S n->(∀o∈l,Zd.Ok o)->(ZH S l).2.2.length<=l.length*(64*(n+l.length)+2)
 | [],S,n,T,h,b=>Jj _
 | o::l,S,n,T,h,b=>by
  have c:=(b o Kx).2.1.2;have f:=Qlv l (T.do c) (h.do o) λa d=>b a (Ki _ d);have j:=QC3 S o;have i:=h.ay T.I;show ((JN S o).l++(ZH (JN S o).S l).2.2).length<=_;rw[Zo,Vo];have e:n+1+l.length=n+(l.length+1):=ω;rw[e]at f;rw[VM,NJ];have g:64*n<=64*(n+(l.length+1)):=Nat.mul_le_mul_left 64 (Nat.le_add_right _ _);omega
def Qlw{x:WU}{m}(K:W8 x.config)(c:x.ops.length<=m)(b:m<=1000)(a:∀o∈x.ops,Zd.Ok o):(ZH (S0 x.config) x.ops).2.2.length<100000000:=by
 have h:=Qlv x.ops (Z5.RC K) (n:=0) (λj=>Jj _) a;have d:x.ops.length*(64*(0+x.ops.length)+2)<=1000*(64*1000+2):=Ys ω ω;omega
def Qba(t:Int):Int->List Ev->Prop
 | _,[]=>True
 | u,v::l=>if v.J9=true then Qba t u l else u<=v.at_/\1<=v.len/\v.len<=16384/\0<=v.at_/\v.at_<=4611686018427387904/\v.done=v.at_+v.len*t/\Qba t v.done l
def Qbb:Int->List Ev->Int
 | u,[]=>u
 | u,v::l=>if v.J9=true then Qbb u l else Qbb v.done l
structure PkR (c:Cf) (S S':ZE) (l:List Ev):Prop where
 ok:Qba c.t S.JW l
 un:Qbb S.JW l=S'.JW
 lk:S'.M.lk=c
def yd(n:Nd):Prop:=n.c.ul.Nn/\(¬1<QJ n.c.ul->n.cp.has=false/\n.cp.fit=0)
def Jw(M:Qo):Prop:=∀n∈M.N,yd n
def of_le{c:Cv}(h:c.Nn)(a:¬1<QJ c):(Ka c).of=0\/(Ka c).of=1:=by
 obtain⟨e,d,b⟩:=h;unfold QJ at a;unfold Nc.of Kt Ka;dsimp only
 (repeat' split at a)<;>(repeat' split)<;>omega
def yd.Qak{n}(h:yd n)(M)(a):yd (CN M a n):=by
 refine⟨h.1,λb=>?_⟩;have b:¬1<QJ n.c.ul:=b;show (Bk n.cp (Ka n.c.ul) a n.Z7).has=false/\(Bk n.cp (Ka n.c.ul) a n.Z7).fit=0;unfold Bk;rw[Qe (of_le h.1 b)];exact⟨rfl,rfl⟩
def yd.BM{n}(h:yd n)(a):yd (CS a n):=by
 refine⟨h.1,λd=>?_⟩;obtain⟨b,c⟩:=h.2 d;show (yQ n.cp (Xt (n.Z7+a))).has=false/\(yQ n.cp (Xt (n.Z7+a))).fit=0;unfold yQ;rw[b,Qd BF];exact⟨b,c⟩
def Jw.Ve{M M':Qo}(h:Jw M){c}{f}(e:M'.N=Ve M.N c f)(d:∀n,yd n->yd (f n)):Jw M':=λn a=>by
 rw[e]at a;obtain⟨m,b,rfl⟩:=Jl.1 a;split
 .exact d m (h m b)
 .exact h m b
def Jw.fold{c:Type}{g}(b:∀M a,Jw M->Jw (g M a)):∀(l:List c) (M:Qo),Jw M->Jw (l.foldl g M)
 | [],M,h=>h
 | a::l,M,h=>Jw.fold b l _ (b M a h)
def Jw.same{M M':Qo}(h:Jw M)(e:M'.N=M.N):Jw M':=λn a=>h n (e▸a)
def Jw.settle{M:Qo}(h:Jw M)(l):Jw (Wg M l):=h.same (F6 l M).1
def Jw.VW{M}(h:Jw M)(b)(c a):Jw (X.VW M b c a):=by
 unfold X.VW;split
 .exact h.Ve rfl λn d=>d
 .exact h
def Jw.Ym{M}(h:Jw M)(a)(c b):Jw (X.Ym M a c b):=by
 unfold X.Ym;split
 .exact(Jw.fold (g:=W6 a) (λM j e=>e.Ve (M':=W6 a M j) rfl λn d=>d.Qak M a) (Xs M.T M.A c) _ (Jw.same (M':={ X.VW M a c b with A:=c::M.A }) (h.VW a c b) rfl)).settle _
 .exact h.VW a c b
def Jw.W7{M}(h:Jw M)(b):Jw (X.W7 M b):=by
 unfold X.W7;split
 .refine Jw.fold (λM j a=>?_) _ _ (h.same rfl);unfold JV;split
  .exact Jw.fold (g:=XX) (λM c a=>a.Ve (M':=XX M c) (f:=λn=>{ n with sh:=y5 }) rfl λn d=>d) _ _ (a.same (M':=Wy M j) rfl)
  .exact a.same rfl
 .exact h
def Jw.VS{M}(h:Jw M)(a c)(r):Jw (X.VS M a c r):=by
 unfold X.VS;split
 .exact h.Ve rfl λn b=>b
 .exact h
def Jw.Xk{M}(h:Jw M)(a)(r):Jw (X.Xk M a r):=by
 unfold X.Xk;dsimp only;have c:Jw (X.VS ((up M.T a).foldl (VX ((QD M a).q.l.headD default).len.toNat) (Xj M a)) a ((QD M a).q.l.headD default).len r):=
  (Jw.fold (λM j d=>d.Ve (M':=VX ((QD _ a).q.l.headD default).len.toNat M j) rfl λn b=>b.BM _) _ _ (h.Ve (M':=Xj M a) rfl λn b=>b)).VS _ _ _
 split
 .exact(c.W7 a).settle _
 .exact c.settle _
def Jw.told{M}(h:Jw M)(a):Jw (ZV M a):=by
 unfold ZV;split
 .exact h.same rfl
 .exact h
def Jw.takeN{M}(h:Jw M)(a):Jw (X.takeN M a):=by
 unfold X.takeN;split
 .exact h.told a
 .exact(h.told a).Xk _ _
def Jw.KY{M}(h:Jw M)(a)(x):Jw (X.KY M a x):=h.Ve rfl λn b=>b
def Jw.Jg{M}(h:Jw M)(a)(b)(x):Jw (X.Jg M a b x):=by
 unfold X.Jg;split
 .have h:=h.told a;unfold Wa;split
  .exact h.KY _ _
  .split
   .split
    .exact Jw.Ym (Jw.same (M':=kF (X.KY (ZV M a) b x) ((ZV M a).acc+x.len.toNat)) (h.KY b x) rfl) _ _ _
    .exact Jw.same (M':=kF (X.KY (ZV M a) b x) ((ZV M a).acc+x.len.toNat)) (h.KY b x) rfl
   .exact h
 .exact h
def yd.new{c}(h:Qm.Ok c):yd (XH c):=⟨h.nn.2.2,λ_=>⟨rfl,rfl⟩⟩
def Jw.J4{M}(h:Jw M)(I:Qz M)(b){l}(m:∀c∈l,Z4.Ok c):Jw (X.J4 M b l):=by
 unfold X.J4;split
 .obtain⟨i,q⟩:=PJ I.tree I.yY m;have k:Jw (VK M (Jm M.T l)):=by
   unfold VK;refine Jw.fold (λf j p=>?_) _ _ (h.same rfl);have e:∀n∈jE f.N j,yd n:=λn a=>p n (JH.1 a).1;unfold J3;cases o:Qy (Jm M.T l) j with
   | none=>exact e
   | some c=>
    have d:=yd.new (q c ((VH i.rising).1 o).1);have g:∀n∈XH c::jE f.N j,yd n:=λn a=>by
     rcases QF.1 a with rfl|a
     .exact d
     .exact e n a
    dsimp only;split
    .exact g
    .exact g
  intro n a;obtain⟨c,d,rfl⟩:=Jl.1 (show n∈XI M (Jm M.T l) from a);exact k _ (wc (uQ I i d).1)
 .exact h
def Gr(M:Qo)(a)(b)(x:Pk):(Jg M a b x).T=M.T:=by
 have h:=(Eh M a).2.1;unfold Jg;split
 .unfold Wa;split
  .exact h
  .split
   .split
    .rw[QBA];exact h
    .exact h
   .exact h
 .rfl
def QC4(d:D)(a:List Ob):D->List Ob->Prop:=λb h=>b=d/\h=a
attribute [go_sem] QC4
structure Kn where
 zz:Int
 since:Int
 work:Nat
@[go_sem] def Kn.cells(k:Kn):List D:=[.raw (.int .u64 k.zz),.raw (.int .u64 k.since),.raw (.int .i64 k.work)]
def Kn.next(k:Kn)(e:Ev):Kn:=
 if e.J9=true then ⟨k.zz,if k.work=0 then e.at_ else k.since,k.work+1⟩ else ⟨max k.zz e.done,k.since,k.work - 1⟩
def Kn.late(k:Kn)(e:Ev):Bool:=!e.J9&&(decide (0<k.work)&&decide (max k.zz k.since<e.at_))
@[go_sem] def QIp(k:Kn):Ob:=⟨.one,0,3,1,λ_=>k.cells⟩
def Ey(l:List Ev):Nat->Kn
 | 0=>⟨0,0,0⟩
 | k+1=>(Ey l k).next (l.getD k default)
def WB(l:List Ev)(k:Nat):Bool:=(Ey l k).late (l.getD k default)
end Go.Fg.X
