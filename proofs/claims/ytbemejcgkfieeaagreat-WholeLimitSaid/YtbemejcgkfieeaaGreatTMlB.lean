/- Contracts and laws on the way to the statement. No conditions. -/
import Derived.Test.YtbemejcgkfieeaaGreatSG8B
import Derived.Test.YtbemejcgkfieeaaGreatYHrB
import Derived.Test.YtbemejcgkfieeaaGreatCA2B
set_option maxRecDepth 100000
set_option maxHeartbeats 16000000
set_option linter.unusedVariables false
set_option linter.unusedSimpArgs false
set_option linter.unusedSectionVars false
set_option linter.defProp false
namespace Go.Fg.X
open Go.Proofs Go.Fg
open Go.Proofs.Tryz
def QBz{T}(e:Ws T){p j}:j∈KE T p↔∃c,Qw T j=some c/\c.parent=p:=by
 unfold KE;constructor;intro h;obtain⟨c,d,rfl⟩:=Ji.1 h;obtain⟨b,a⟩:=Jt.1 d;exact⟨c,(VF e).2 ⟨b,rfl⟩,by simpa using a⟩;rintro⟨c,d,b⟩;obtain⟨a,rfl⟩:=(VF e).1 d;exact Ji.2 ⟨c,Jt.2 ⟨a,by simpa using b⟩,rfl⟩
def QBA(M:Qn)(j a:Int)(h:a≠j):Qi (Yt M j).N a=Qi M.N a:=lN (f:=λn:Nd=>{ n with sh:=AU }) (λ_=>rfl) a h
def QBB{c:Type}{a:Nd->c}(d:∀n:Nd,a { n with sh:=AU }=a n)(M:Qn)(j b:Int):(Qi (Yt M j).N b).map a=(Qi M.N b).map a:=
 MM (f:=λn:Nd=>{ n with sh:=AU }) (λ_=>rfl) d b
def F2{b:Type}{key:Nd->b}(c:∀n:Nd,key { n with sh:=AU }=key n)(M:Qn)(j a:Int):(Qi (JR M j).N a).map key=(Qi M.N a).map key:=by
 unfold JR;split;exact xU (QBB c) _ (WI M j) a;rfl
def lP(M)(j:Int):(JR M j).KT=(WI M j).KT:=by
 unfold JR;split;exact(iZ _ (WI M j)).2.2.1;rfl
def QaG{M:Qn}(I:QA M){j:Int}{c}(h:Qw M.T j=some c):(Qy M j).c=c:=by
 obtain⟨n,b,a⟩:=I.PD h;unfold Qy;rw[b];exact a
def Qkm{M:Qn}(I:QA M)(j p:Int)(x:It):x∈(JR M j).KT p↔x∈M.KT p/\x.ki≠j:=by
 rw[lP];unfold WI;dsimp only;split;rename_i e;rw[UX,e];rename_i e;refine⟨λh=>⟨h,λd=>?_⟩,(·.1)⟩;obtain⟨c,a,b⟩:=I.vr p x h;rw[d]at a;rw[QaG I a]at e;exact e b.symm
def QaH:∀(l:List Int) {M:Qn},QA M->∀(p:Int) (x:It),x∈(l.foldl JR M).KT p↔x∈M.KT p/\x.ki ∉ l
 | [],M,I,p,x=>σ
 | j::l,M,I,p,x=>by
  rw[jt,QaH l (I.JR j) p x,Qkm I];simp[and_assoc]
def QBC{M:Qn}(I:QA M){j p:Int}{x:It}(h:x∈(JR M j).KT p):Qi (JR M j).N x.ki=Qi M.N x.ki:=by
 have a:=h;rw[lP]at a;obtain⟨hx,k⟩:=(Qkm I j p x).1 h;obtain⟨c,i,g⟩:=I.vr p x hx;unfold JR;split;rename_i e;refine ML QBA _ (WI M j) x.ki λd=>?_;obtain⟨c2,b,f⟩:=(QBz I.tree.rising).1 d;rw[i]at b;cases b;unfold WI at a;dsimp only at a;rw[Qd (g.symm.trans f),e]at a;cases a;rfl
def Qkn:∀(l:List Int) {M:Qn},QA M->∀{p:Int} {x:It},x∈(l.foldl JR M).KT p->Qi (l.foldl JR M).N x.ki=Qi M.N x.ki
 | [],M,I,p,x,h=>rfl
 | j::l,M,I,p,x,h=>by
  have a:=Qkn l (I.JR j) h;exact a.trans (QBC I (p:=p) ((QaH l (I.JR j) p x).1 h).1)
def Qko:∀(l:List Int) {M:Qn},QA M->∀(i:Int),(∀j∈l,(Qy M j).c.parent≠i)->(l.foldl JR M).KT i=M.KT i
 | [],M,I,i,h=>rfl
 | j::l,M,I,i,h=>by
  have e:(JR M j).KT i=M.KT i:=by
   rw[lP];unfold WI;dsimp only;rw[Qc (λe=>h j Ky e.symm)]
  rw[jt,Qko l (I.JR j) i,e];intro k c;have a:=F2 (key:=λn:Nd=>n.c.parent) (λ_=>rfl) M j k;have g:(Qy (JR M j) k).c.parent=(Qy M k).c.parent:=by
   unfold Qy;cases b:Qi M.N k with
   | none=>
    rw[b,qw,bw]at a;rw[a]
   | some n=>
    rw[b]at a;obtain⟨m,f,d⟩:=VT.1 a;rw[f];exact d
  rw[g];exact h k (J8 _ c)
def QBD{M}(V:V0 M)(j):V0 (JR M j):=by
 have b:∀(l:List Int) (M:Qn),V0 M->V0 (l.foldl Yt M):=by
  intro l;induction l with
  | nil=>intro M h;exact h
  | cons j l a=>
   intro M h;exact a _ (HT (f:=λn:Nd=>{ n with sh:=AU }) (λ_=>rfl) (λn _ h=>⟨h.QT,h.du,Qjd,h.cp,h.c⟩) h)
 unfold JR;split;exact b _ (WI M j) V;exact V
def QaI:∀(l:List Int) {M:Qn},V0 M->V0 (l.foldl JR M)
 | [],M,h=>h
 | j::l,M,h=>QaI l (QBD h j)
def Qkp:∀(l:List Int) {M:Qn},F0 M->F0 (l.foldl JR M)
 | [],M,h=>h
 | j::l,M,h=>by
  refine Qkp l ⟨?_,λp=>?_⟩;rw[(Qje M j).2.2.2.2.2];exact h.1;rw[lP];unfold WI;dsimp only;split;exact Qay (h.2 _);exact h.2 p
def lQ(a)(M:Qn)(j b:Int)(h:b≠j):Qi (VP a M j).N b=Qi M.N b:=lN (f:=yQ a) (λ_=>rfl) b h
def Qkq(b:Nat){d:Type}{a:Nd->d}(e:∀n:Nd,a (yQ b n)=a n)(M:Qn)(j c:Int):(Qi (VP b M j).N c).map a=(Qi M.N c).map a:=
 MM (f:=yQ b) (λ_=>rfl) e c
def QaJ(a):∀(l:List Int) {M:Qn},V0 M->V0 (l.foldl (VP a) M)
 | [],M,h=>h
 | j::l,M,h=>QaJ a l (HT (f:=yQ a) (λ_=>rfl) (λn _ b=>Qjn b a) h)
def QaK(M:Qn)(a:Int)(b)(r:Bool)(j:Int):Qi (V9 M a b r).N j=if j=a/\1<QH (Qy M a).c.rt then (Qi M.N j).map (λn=>{ n with du:=qM (Qy M a) b r }) else Qi M.N j:=by
 unfold V9;by_cases h:1<QH (Qy M a).c.rt;rw[Qd h];dsimp only;rw[zI (f:=λn:Nd=>{ n with du:=qM (Qy M a) b r }) (λ_=>rfl)];simp[h];rw[Qc h,Qc (λe=>h e.2)]
def Inv.take{M:Qn}(I:QA M)(V:Inv M){a}{n:Nd}(Z:Qi M.N a=some n)(hl:n.c.leaf=true)(hq:n.q.l≠[])(r):Inv (Xy M a r):=by
 have Z9:Qy M a=n:=by unfold Qy;rw[Z];rfl
 have Wu:=I.some Z;have wY:a∈up M.T a:=XJ I.tree Wu;have P0:∀j,Qi (Xc M a).N j=if j=a then (Qi M.N j).map (λn=>{ n with q:=Xb (Qy M a).q }) else Qi M.N j:=λj=>
  zI (f:=λn:Nd=>{ n with q:=Xb (Qy M a).q }) (λ_=>rfl) j
 unfold Xy;dsimp only;rw[Z9];generalize e8:(n.q.l.headD default).len=d;obtain⟨u,Q⟩:∃u,u=(up M.T a).foldl (VP d.toNat) (Xc M a):=⟨_,rfl⟩;rw[<- Q];have I2:QA u:=by rw[Q];exact QA.lh _ (I.Xc a)
 obtain⟨b1,b2,b3,b4,b5,b6,b7⟩:=MG d.toNat (up M.T a) (Xc M a);rw[<- Q]at b1 b2 b3 b4 b5 b6 b7;have e7:∀j,j ∉ up M.T a->Qi u.N j=Qi M.N j:=λj b=>by
  rw[Q,ML (lQ d.toNat) _ _ j b,P0,Qc (λe=>b (by rw[e];exact wY))]
 have ZJ:∀j,(Qi u.N j).map (λn=>(n.c,n.q,n.du))=(Qi (Xc M a).N j).map λn=>(n.c,n.q,n.du):=λj=>by
  rw[Q];exact xU (key:=λn:Nd=>(n.c,n.q,n.du)) (λM j a=>Qkq d.toNat (λ_=>rfl) M j a) _ _ j
 have e6:(Qi u.N a).map (λn=>(n.c,n.q,n.du))=some (n.c,Xb n.q,n.du):=by
  rw[ZJ,P0,Qd rfl,Z,Z9];rfl
 have Fy:∀j,j≠a->(Qi u.N j).map (λn=>(n.c,n.q,n.du))=(Qi M.N j).map λn=>(n.c,n.q,n.du):=λj b=>by
  rw[ZJ,P0,Qc b]
 obtain⟨C,Y6,e2⟩:=VT.1 e6;simp only[Q9]at e2;obtain⟨c2,q2,d2⟩:=e2;have c3:Qy u a=C:=by unfold Qy;rw[Y6];rfl
 have P:V0 u:=by
  rw[Q];exact QaJ _ _ (HT (f:=λn:Nd=>{ n with q:=Xb (Qy M a).q }) (λ_=>rfl) (λn _ h=>⟨h.QT,h.du,h.sh,h.cp,h.c⟩) V.ok)
 obtain⟨c,W⟩:∃c,c=V9 u a d r:=⟨_,rfl⟩;rw[<- W];have I3:QA c:=by rw[W];exact I2.V9 Y6 d r
 obtain⟨a1,a2,a3,a4,a5,a6⟩:=PQ u a d r;rw[<- W]at a1 a2 a3 a4 a5 a6;have hF:∀j,Qi c.N j=if j=a/\1<QH n.c.rt then (Qi u.N j).map (λn=>{ n with du:=qM C d r }) else Qi u.N j:=λj=>by
  rw[W,QaK,c3,c2]
 have U0:∀j,j ∉ up M.T a->Qi c.N j=Qi M.N j:=λj b=>by
  rw[hF,Qc (λe=>b (by rw[e.1];exact wY)),e7 j b]
 have O:∀j,j≠a->Qi c.N j=Qi u.N j:=λj b=>by rw[hF,Qc (λe=>b e.1)]
 obtain⟨m,R,yH,MO,iz⟩:∃m,Qi c.N a=some m/\m.c=n.c/\m.q=Xb n.q/\(1<QH n.c.rt->m.du=qM C d r):=by
  rw[hF,Y6];by_cases h:1<QH n.c.rt;rw[Qd ⟨rfl,h⟩];exact⟨_,rfl,c2,q2,λ_=>rfl⟩;rw[Qc (λe=>h e.2)];exact⟨_,rfl,c2,q2,λe=>absurd e h⟩
 have c1:V0 c:=λj k b=>by
  rw[hF]at b;split at b;obtain⟨k0,t,rfl⟩:=VT.1 b;have v:=P j k0 t;exact⟨v.QT,uD (P a C Y6) d r,v.sh,v.cp,v.c⟩;exact P j k b
 have lS:c.Lv=if 1<QH n.c.rt then (if (Xb n.q).l=[] then Vn a (Ym a (qM C d r).Yp (qM C d r).dead M.Lv) else Ym a (qM C d r).Yp (qM C d r).dead M.Lv) else M.Lv:=by
  rw[W];unfold V9;rw[c3,c2,q2];split;dsimp only;rw[b7];rfl;exact b7
 have AZ:DU c:=V.lv.at_ R (λj b=>by
   rw[O j b];exact HS (λk=>(k.1,k.2.1.l.isEmpty,k.2.2.Yp,k.2.2.dead)) (Fy j b)) (λy B=>by
   rw[lS];split;split;rw[UX,HP];exact⟨λh=>h.1.elim (λe=>absurd (congrArg It.ki e) B) (·.1),λh=>⟨.inr ⟨h,B⟩,B⟩⟩;rw[HP];exact⟨λh=>h.elim (λe=>absurd (congrArg It.ki e) B) (·.1),λh=>.inr ⟨h,B⟩⟩;exact Iff.rfl) λy B=>by
   rw[lS,yH,MO];by_cases h:1<QH n.c.rt;rw[Qd h,iz h];split;rename_i he;rw[UX];exact⟨λe=>absurd B e.2,λe=>absurd he e.2.1⟩;rename_i he;rw[HP];exact⟨λe=>e.elim (λe=>⟨hl,he,h,e⟩) λe=>absurd B e.2,λe=>.inl e.2.2.2⟩;rw[Qc h];refine⟨λe=>?_,λe=>absurd e.2.2.1 h⟩;obtain⟨k,t,_,_,H,_⟩:=(V.lv y).1 e;rw[B,Z]at t;cases t;exact absurd H h
 have c0:F0 c:=⟨by
   rw[lS];split;split;exact Qay (lM V.qQ.1);exact lM V.qQ.1;exact V.qQ.1,λp=>by rw[a3,b3];exact V.qQ.2 p⟩
 have b9:DV c:=λj k b DT=>by
  by_cases e:j=a;subst e;rw[R]at b;cases b;rw[yH,hl]at DT;cases DT;rw[O j e]at b;obtain⟨k0,t,v⟩:=DW (Fy j e).symm b;simp only[Q9]at v;rw[<- v.2.1];exact V.A3 j k0 t (by rw[v.1];exact DT)
 have E:c.T=M.T:=by rw[a1,b1];rfl
 have T:c.A=M.A:=by rw[a2,b2];rfl
 have L:c.KT=M.KT:=by rw[a3,b3];rfl
 have Uk:∀p x,x.ki ∉ up M.T a->(x∈c.KT p↔qP c p x):=V.kt.part L (λj _=>by unfold Kq;rw[E,T]) λj b=>by rw[U0 j b]
 have b8:∀j,j≠a->(Qi c.N j).map yX=(Qi M.N j).map yX:=λj b=>by
  rw[O j b];exact HS (λk=>(k.1,k.2.1.l.isEmpty)) (Fy j b)
 have J:(a∈M.A↔(Xb n.q).l≠[]/\1<QH n.c.ls)->Inv (Wl c (up M.T a)):=λQZ=>by
  rw[<- E];refine Part.settle _ a I3 rfl ?_;rw[E];refine⟨AZ,Uk,λp x hx F1=>?_,V.act.at_ R b8 (λj _=>by rw[T]) ?_,b9,c0,c1⟩;rw[L]at hx;obtain⟨_,_,_,h,_⟩:=(V.kt p x).1 hx;show Jm c.T c.A x.ki=true;rw[E,T];exact h;rw[T,yH,MO,QZ];exact⟨λh=>⟨hl,h⟩,λh=>h.2⟩
 have VC:a∈M.A↔1<QH n.c.ls:=by
  rw[V.act a,Z];constructor;rintro⟨k,t,_,_,H⟩;cases t;exact H;intro h;exact⟨n,rfl,hl,hq,h⟩
 by_cases lT:(Xb n.q).l=[];rw[Qd lT];have MP:Qy c a=m:=by unfold Qy;rw[R];rfl
 unfold Xl;rw[MP,yH];by_cases Y:1<QH n.c.ls;rw[Qd Y];have e5:=VC.2 Y;obtain⟨s,w⟩:∃s,s={ c with A:=J6 c.A a }:=⟨_,rfl⟩;have Io:QA s:=by rw[w];exact I3.act (I3.Xk.off a)
 rw[<- w];obtain⟨U,hU⟩:∃U,U=VH c.T (J6 c.A a) a:=⟨_,rfl⟩;rw[<- hU];obtain⟨g,o⟩:∃g,g=U.foldl JR s:=⟨_,rfl⟩;rw[<- o];have I4:QA g:=by rw[o];exact QA.UA _ Io
 obtain⟨s1,s2,s3,s4,s5,s6⟩:=HF U s;rw[<- o]at s1 s2 s3 s4 s5 s6;have HG:g.T=M.T:=by rw[s1,w];exact E
 have lU:g.A=J6 M.A a:=by rw[s2,w];dsimp only;rw[T]
 have K:s.N=c.N:=by rw[w]
 have a0:s.KT=M.KT:=by rw[w];exact L
 have N:∀j∈U,j∈up M.T a:=λj b=>by
  rw[hU,E]at b;exact m7 _ b
 have WC:∀p x,x∈g.KT p↔x∈M.KT p/\x.ki ∉ U:=λp x=>by
  rw[o,QaH U Io p x,a0]
 have xC:∀j,Kq M j=true↔j∈up M.T a\/Kq g j=true:=λj=>by
  unfold Kq;rw[HG,lU];exact LK e5 j
 have e4:∀j,j∈up M.T a->j ∉ U->Kq g j=true:=λj b FW=>by
  rw[hU,E,T]at FW;unfold Kq;rw[HG,lU];unfold VH at FW;have lV:=List.takeWhile_append_dropWhile (p:=λi=>!Jm M.T (J6 M.A a) i) (l:=up M.T a);rw[<- lV]at b;rcases Q1.1 b with b|b;exact absurd b FW;cases S:(up M.T a).dropWhile (λi=>!Jm M.T (J6 M.A a) i) with
  | nil=>rw[S]at b;cases b
  | cons k c5=>
   have hk:Jm M.T (J6 M.A a) k=true:=by
    have:=List.head_dropWhile_not (λi=>!Jm M.T (J6 M.A a) i) (l:=up M.T a) (by rw[S];simp);simp only[S,List.head_cons]at this;simpa using this
   rw[S]at b lV;have e3:k∈up M.T a:=by rw[<- lV];simp
   obtain⟨ck,a7⟩:=Er.1 (Hj e3);have Ai:c5=up M.T ck.parent:=QuX I.tree (lV.symm) a7;rcases QK.1 b with rfl|b;exact hk;refine LJ I.tree hk ?_;rw[Vf I.tree a7,<- Ai];exact J8 _ b
 have b0:∀p x,x.ki ∉ up M.T a->x∈g.KT p->qP g p x:=λp x hx h=>by
  have c7:=((WC p x).1 h).1;obtain⟨z,t,v,h3,H⟩:=(V.kt p x).1 c7;have U1:Qi g.N x.ki=some z:=by
   have F:Qi g.N x.ki=Qi s.N x.ki:=by
    rw[o];rw[o]at h;exact Qkn U Io h
   rw[F,K,U0 _ hx,t]
  have a9:Kq g x.ki=true:=((xC _).1 h3).resolve_left hx;refine⟨z,U1,v,a9,?_⟩;have c9:g.KT x.ki=M.KT x.ki:=by
   rw[o,Qko U Io x.ki,a0];intro j b e;obtain⟨cj,a8⟩:=Er.1 (Hj (N j b));have e1:Qw s.T j=some cj:=by rw[w];dsimp only;rw[E];exact a8
   rw[QaG Io e1]at e;refine hx (up_sub I.tree (N j b) ?_);rw[Vf I.tree a8,e];exact J8 _ (XJ I.tree (I.some t))
  rw[QaA (n:=z) rfl (by rw[a9,h3]) c9];exact H
 rw[<- HG];refine Part.settle _ a I4 rfl ?_;rw[HG];refine⟨?_,λp x hx=>⟨b0 p x hx,λS=>?_⟩,λp x h F1=>e4 _ F1 ((WC p x).1 h).2,?_,?_,?_,?_⟩;refine AZ.of (by rw[s6,w]) λj=>?_;rw[o,xU (F2 (key:=HQ) (λ_=>rfl)) U s j,K];obtain⟨k,t,v,h3,H⟩:=S;have w9:(Qi g.N x.ki).map (λn=>n.c)=(Qi c.N x.ki).map λn=>n.c:=by
  rw[o,xU (F2 (key:=λn:Nd=>n.c) (λ_=>rfl)) U s x.ki,K]
 obtain⟨z,F,h6⟩:=DW w9.symm t;rw[U0 _ hx]at F;have e0:(⟨z.sh.time,x.ki,X5 M x.ki z,x.ki⟩:It)∈M.KT p:=(V.kt p _).2 ⟨z,F,by rw[h6];exact v,(xC _).2 (.inr h3),rfl⟩;have c4:=(WC p _).2 ⟨e0,λc8=>hx (N _ c8)⟩;obtain⟨k2,g1,g2,g3,g4⟩:=b0 p ⟨z.sh.time,x.ki,X5 M x.ki z,x.ki⟩ hx c4;dsimp only at g1 g4;rw[t]at g1;cases g1;rw[<- g4]at H;rw[H];exact c4;refine V.act.at_ (id:=a) (m:=(Qy g a)) ?_ (λj b=>?_) (λj b=>?_) ?_;have w9:(Qi g.N a).map (λn=>n.c)=(Qi c.N a).map λn=>n.c:=by
  rw[o,xU (F2 (key:=λn:Nd=>n.c) (λ_=>rfl)) U s a,K]
 obtain⟨k,F,_⟩:=DW w9 R;unfold Qy;rw[F];rfl;rw[o,xU (F2 (key:=yX) (λ_=>rfl)) U s j,K];exact b8 j b;rw[lU];simp[J6,b];have w9:(Qi g.N a).map (λn=>n.q)=(Qi c.N a).map λn=>n.q:=by
  rw[o,xU (F2 (key:=λn:Nd=>n.q) (λ_=>rfl)) U s a,K]
 obtain⟨k,F,h6⟩:=DW w9 R;have hk:Qy g a=k:=by unfold Qy;rw[F];rfl
 rw[hk,h6,MO,lU];simp[J6,lT];refine Qkb b9 λj=>?_;rw[o,xU (F2 (key:=λn:Nd=>(n.c,n.q)) (λ_=>rfl)) U s j,K];rw[o];refine Qkp U ?_;rw[w];exact c0;rw[o];refine QaI U ?_;rw[w];exact c1;rw[Qc Y];exact J ⟨λh=>absurd (VC.1 h) Y,λh=>absurd h.2 Y⟩;rw[Qc lT];exact J (VC.trans ⟨λh=>⟨lT,h⟩,(·.2)⟩)
def WU(a:List Ql)(j:Int):Bool:=match Qw a j with
 | some c=>!c.leaf
 | none=>false
def QkB{d}(M:Qn)(j a:Int):(JM d M j).KT a=if a=j/\WU d j=true then [] else M.KT a:=by
 unfold JM WU;cases f:Qw d j with
 | none=>simp
 | some c=>
  dsimp only;by_cases b:c.leaf=true;rw[Qd b,Qc (λe=>by rw[b]at e;exact absurd e.2 π)];rw[Qc b];dsimp only;by_cases e:a=j;rw[Qd e,Qd ⟨e,by simpa using b⟩];rw[Qc e,Qc (λh=>e h.1)]
def QkC{b}(a):∀(l:List Int) (M:Qn),a ∉ l->(l.foldl (JM b) M).KT a=M.KT a
 | [],M,_=>rfl
 | j::l,M,h=>by
  rw[QK,qx]at h;rw[jt,QkC a l _ h.2,QkB,Qc (λe=>h.1 e.1)]
def QBO{a}{M}(V:F0 M)(j):F0 (JM a M j):=by
 refine⟨by rw[(QjT (T2:=a) M j).2.1];exact V.1,λp=>?_⟩;rw[QkB];split;simp[Vm];exact V.2 p
def QkD{a}:∀(l:List Int) {M:Qn},F0 M->F0 (l.foldl (JM a) M)
 | [],M,h=>h
 | j::l,M,h=>QkD l (QBO h j)
def QaP(c)(a:Int):∀(l:List Int) (A:List Int),a∈l.foldl (wD c) A↔a∈A\/(a∈l/\1<QH ((Qw c a).getD default).ls)
 | [],A=>σ
 | j::l,A=>by
  rw[jt,QaP c a l];unfold wD;constructor;rintro (h|⟨h,b⟩);split at h;rename_i d;rcases QK.1 h with rfl|h;exact .inr ⟨Ky,d⟩;exact .inl h;exact .inl h;exact .inr ⟨J8 _ h,b⟩;rintro (h|⟨h,b⟩);refine .inl ?_;split;exact J8 _ h;exact h;rcases QK.1 h with rfl|h;refine .inl ?_;rw[Qd b];exact Ky;exact .inr ⟨h,b⟩
def DY{M:Qn}(I:QA M){b}:b∈VS M↔∃n,Qi M.N b=some n/\n.c.leaf=true/\n.q.l≠[]:=by
 constructor;intro h;obtain⟨c,a⟩:=Jt.1 (show b∈(vz M.T).filter _ from h);obtain⟨n,f,m,o⟩:=lI I c;refine⟨n,f,m,λe=>?_⟩;unfold FY Qy at a;rw[f]at a;simp[e]at a;rintro⟨n,d,j,i⟩;have k:=I.some d;obtain⟨c,a⟩:=(VF I.tree.rising).1 k;refine Jt.2 ⟨Ji.2 ⟨n.c,Jt.2 ⟨c,j⟩,a⟩,?_⟩;unfold FY Qy;rw[d];cases g:n.q.l with
 | nil=>exact absurd g i
 | cons x l=>simp[g]
section
variable {M:Qn}(I:QA M)(V:Inv M){T2:List Ql}(I2:JQ T2)(K2:jg T2){b:Bool}(hb:zM M T2 b=false)
include I V I2 K2 hb
theorem Inv.UN:QA (ql M T2):=X.UN I I2 K2 hb (Good.AZ I V.CA) (Good.PU I V.CA)
omit I V I2 K2 in
theorem P4{a}(d:xT M a=true):a ∉ JX M.T T2:=λc=>by
 unfold zM at hb;rw[show (JX M.T T2).any (xT M)=true from vG.2 ⟨a,c,d⟩]at hb;cases hb
omit V K2 in
theorem lW{a}(c:xT M a=true):Qi (Xz M T2) a=Qi M.N a:=by
 rw[HM I I2];unfold VK;rw[FZ I2.rising,Qc (P4 hb c)]
omit I V I2 K2 hb in
theorem P5{a x}(d:a∈VS M)(c:x∈up M.T a):xT M x=true:=vG.2 ⟨a,d,by simpa using c⟩
omit V K2 in
theorem QBP{a}(m:a∈VS M):∀(k:Nat) (x:Int),(up M.T x).length=k->(x=0\/x∈up M.T a)->up T2 x=up M.T x:=by
 intro k;induction k using Nat.strongRecOn with
 | ind k h=>
  intro x i hx;rcases hx with rfl|hx;rw[Hi I2,Hi I.tree];obtain⟨c,f⟩:=Er.1 (Hj hx);have l:Qw T2 x=some c:=by
   refine wP λe=>?_;exact P4 hb (P5 m hx) (Mw.2 (by rw[f];exact λn=>e n.symm))
  rw[Vf I2 l,Vf I.tree f];rw[Vf I.tree f,Kw]at i;congr 1;refine h _ ω c.parent rfl ?_;by_cases g:c.parent=0;exact .inl g;obtain⟨d,j,_⟩:=I.tree.J9 c (yw I.tree f) g;refine .inr (up_sub I.tree hx ?_);rw[Vf I.tree f];exact J8 _ (XJ I.tree j)
omit V K2 in
theorem QkE{a}(c:a∈VS M):up T2 a=up M.T a:=by
 obtain⟨n,d,_⟩:=(DY I).1 c;exact QBP I I2 hb c _ a rfl (.inr (XJ I.tree (I.some d)))
theorem QBQ{d}:d∈VS (ql M T2)↔d∈VS M:=by
 have i:=V.UN I I2 K2 hb;rw[DY i];constructor;rintro⟨n,f,g,e⟩;have a:Qi (Xz M T2) d=some n:=f;rw[HM I I2]at a;unfold VK at a;rw[FZ I2.rising]at a;split at a;obtain⟨c,_,rfl⟩:=VT.1 a;exact absurd rfl e;exact(DY I).2 ⟨n,a,g,e⟩;intro h;obtain⟨n,f,g,e⟩:=(DY I).1 h;refine⟨n,?_,g,e⟩;show Qi (Xz M T2) d=some n;rw[lW I I2 hb (P5 h (XJ I.tree (I.some f)))];exact f
theorem QaQ{a}:a∈(yU M T2).A↔a∈M.A:=by
 show a∈(VS (ql M T2)).foldl (wD T2) []↔_;rw[QaP,QBQ I V I2 K2 hb,V.act a];constructor;rintro (h|⟨d,l⟩);cases h;obtain⟨n,c,j,i⟩:=(DY I).1 d;refine⟨n,c,j,i,?_⟩;have f:a ∉ JX M.T T2:=P4 hb (P5 d (XJ I.tree (I.some c)));have g:Qw T2 a=Qw M.T a:=wP λe=>f (Mw.2 λk=>e k.symm);rw[g,I.some c]at l;exact l;rintro⟨n,c,j,i,g⟩;have d:a∈VS M:=(DY I).2 ⟨n,c,j,i⟩;refine .inr ⟨d,?_⟩;have f:a ∉ JX M.T T2:=P4 hb (P5 d (XJ I.tree (I.some c)));have m:Qw T2 a=Qw M.T a:=wP λe=>f (Mw.2 λk=>e k.symm);rw[m,I.some c];exact g
theorem QaR(e):Kq (yU M T2) e=Kq M e:=by
 have h:(yU M T2).T=T2:=(HL (T2:=T2) (JX M.T T2) { M with T:=T2 }).1;rw[vF];unfold Kq;rw[h,Yj,Yj];have f:∀a∈M.A,a∈VS M:=λa c=>by
  obtain⟨n,k,j,i,_⟩:=(V.act a).1 c;exact(DY I).2 ⟨n,k,j,i⟩
 constructor;rintro⟨a,c,d⟩;have g:=(QaQ I V I2 K2 hb).1 c;exact⟨a,g,by rw[<- QkE I I2 hb (f a g)];exact d⟩;rintro⟨a,c,d⟩;exact⟨a,(QaQ I V I2 K2 hb).2 c,by rw[QkE I I2 hb (f a c)];exact d⟩
theorem Inv.change:Inv (yU M T2):=by
 obtain⟨f1,f2,f3,f4,f5⟩:=HL (T2:=T2) (JX M.T T2) { M with T:=T2 };have C:(yU M T2).Lv=M.Lv:=f2;have E:(0:Int) ∉ JX M.T T2:=λh=>Mw.1 h (by rw[LH I.tree,LH I2]);have r:∀{id:Int} {n:Nd},Qi M.N id=some n->n.c.leaf=true->n.q.l≠[]->Qi (yU M T2).N id=some n:=λ{id n} g f e=>by
  show Qi (Xz M T2) id=some n;rw[lW I I2 hb (P5 ((DY I).2 ⟨n,g,f,e⟩) (XJ I.tree (I.some g)))];exact g
 have u:∀{id:Int} {n:Nd},Qi (yU M T2).N id=some n->n.q.l≠[]->Qi M.N id=some n:=λ{id n} g e=>by
  have i:Qi (Xz M T2) id=some n:=g;rw[HM I I2]at i;unfold VK at i;rw[FZ I2.rising]at i;split at i;obtain⟨c,_,rfl⟩:=VT.1 i;exact absurd rfl e;exact i
 have m:∀{id:Int},Kq M id=true->xT M id=true:=λ{id} h=>by
  obtain⟨a,B,v⟩:=Yj.1 h;obtain⟨n,g,f,e,_⟩:=(V.act a).1 B;exact P5 ((DY I).2 ⟨n,g,f,e⟩) v
 have l:∀{id:Int},id ∉ JX M.T T2->(yU M T2).KT id=M.KT id:=λ{id} h=>QkC id (JX M.T T2) { M with T:=T2 } h;have t:∀{id:Int} {n:Nd},Kq M id=true->X5 (yU M T2) id n=X5 M id n:=λ{id n} h=>QaA rfl (QaR I V I2 K2 hb id) (l (P4 hb (m h)));have o:∀p x,qP (yU M T2) p x↔qP M p x:=λp x=>by
  constructor;rintro⟨n,g,f,e,j⟩;rw[QaR I V I2 K2 hb]at e;have k:Qi M.N x.ki=some n:=by
   have:Qi (Xz M T2) x.ki=some n:=g;rwa [lW I I2 hb (m e)]at this
  exact⟨n,k,f,e,by rw[<- t e];exact j⟩;rintro⟨n,g,f,e,j⟩;refine⟨n,?_,f,by rw[QaR I V I2 K2 hb];exact e,by rw[t e];exact j⟩;show Qi (Xz M T2) x.ki=some n;rw[lW I I2 hb (m e)];exact g
 have F:∀{p:Int} {x:It},qP M p x->p ∉ JX M.T T2:=λ{p x} ⟨n,g,f,e,_⟩=>by
  by_cases q:p=0;rw[q];exact E;refine P4 hb (m (LJ I.tree e ?_));have s:=I.some g;obtain⟨d,y,_⟩:=I.tree.J9 n.c (yw I.tree s) (by rw[f];exact q);rw[Vf I.tree s,<- f];exact J8 _ (XJ I.tree y)
 refine⟨λx=>?_,λp x=>?_,λid=>?_,λid n h w=>?_,QkD _ V.qQ,λid n h=>?_⟩;rw[C,V.lv x];constructor;rintro⟨n,g,f,e,j,k⟩;exact⟨n,r g f e,f,e,j,k⟩;rintro⟨n,g,f,e,j,k⟩;exact⟨n,u g e,f,e,j,k⟩;rw[o];constructor;intro h;have f:x∈M.KT p:=lK p (JX M.T T2) { M with T:=T2 } h;exact(V.kt p x).1 f;intro h;rw[l (F h)];exact(V.kt p x).2 h;rw[QaQ I V I2 K2 hb,V.act id];constructor;rintro⟨n,g,f,e,j⟩;exact⟨n,r g f e,f,e,j⟩;rintro⟨n,g,f,e,j⟩;exact⟨n,u g e,f,e,j⟩;have i:Qi (Xz M T2) id=some n:=h;rw[HM I I2]at i;unfold VK at i;rw[FZ I2.rising]at i;split at i;obtain⟨c,_,rfl⟩:=VT.1 i;rfl;exact V.A3 id n i w;have i:Qi (Xz M T2) id=some n:=h;rw[HM I I2]at i;unfold VK at i;rw[FZ I2.rising]at i;split at i;obtain⟨c,z,rfl⟩:=VT.1 i;exact QjR (K2 c (yw I2 z));exact V.ok id n i
end
def xQ.uniq{M}{d}{o e}(a:xQ M d o)(b:xQ M d e):o=e:=by
 unfold xQ at a b;cases o with
 | none=>
  cases e with
  | none=>rfl
  | some y=>
   have f:_=[]:=a;have c:=V7.mem b;rw[f]at c;cases c
 | some x=>
  cases e with
  | none=>
   have f:_=[]:=b;have c:=V7.mem a;rw[f]at c;cases c
  | some y=>exact congrArg some (V7.uniq a b)
def xQ.QBR{M:Qn}{a}{o:Option It}(h:xQ M a o)(d:a<=4611686018427387904):o.isSome=true↔∃x∈M.Lv,x.ka<=a:=by
 have e:min a 9223372036854775807=a:=ω;unfold xQ at h;rw[e]at h;cases o with
 | none=>
  have c:M.Lv.filter (λx=>decide (x.ka<=a))=[]:=h;constructor;intro h;cases h;rintro⟨x,hx,b⟩;have:x∈M.Lv.filter (λx=>decide (x.ka<=a)):=Jt.2 ⟨hx,by simpa using b⟩;rw[c]at this;cases this
 | some x=>
  refine⟨λ_=>?_,λ_=>rfl⟩;obtain⟨c,b⟩:=Jt.1 (V7.mem h);exact⟨x,c,by simpa using b⟩
def QBS{L}(b:Vm L){a}(e:a<=4611686018427387904):UW L<=a↔∃x∈L,x.ka<=a:=by
 unfold UW;cases L with
 | nil=>simp[never];omega
 | cons y L=>
  simp only[List.head?_cons];have d:never=9223372036854775808:=rfl;constructor;intro h;exact⟨y,Ky,ω⟩;rintro⟨x,hx,h⟩;have f:y.ka<=x.ka:=by
   rcases QK.1 hx with rfl|hx;exact QB _;have c:y.lt x:=(Aa.1 b).1 x hx;unfold It.lt Ko at c;omega
  omega
def QkG{L}{a}(e:a<=4611686018427387904):B8 L<=a↔∃x∈L,x.va<=a:=by
 obtain⟨f,c,b⟩:=sv L never;have d:never=9223372036854775808:=rfl;unfold B8;constructor;intro h;rcases b with b|⟨x,hx,b⟩;omega;exact⟨x,hx,ω⟩;rintro⟨x,hx,h⟩;have:=c x hx;omega
def QkH{M:Qn}{a}(b:a<=4611686018427387904){p:Int}:(firstM M a p).isSome=true↔∃x∈M.KT p,x.va<=a:=by
 unfold firstM;rw[List.find?_isSome];have e:min a 9223372036854775807=a:=ω;simp[e]
def QBT(T)(a:Int):(up T a).length<=16:=yu
def QkI{M:Qn}(I:QA M)(V:Inv M){a}(b:a<=4611686018427387904):∀(k:Nat) (p:Int),17<=k+(up M.T p).length->(∃x∈M.KT p,x.va<=a)->(xP M a k p).isSome=true
 | 0,p,i,_=>by
  have:=QBT M.T p;omega
 | k+1,p,i,h=>by
  have g:=(QkH b).2 h;unfold xP;cases d:firstM M a p with
  | none=>rw[d]at g;cases g
  | some x=>
   dsimp only;have hx:x∈M.KT p:=vI d;have r:x.va<=a:=by
    have:=wS d;simp only[Xo]at this;omega
   obtain⟨n,f,o,m,l⟩:=(V.kt p x).1 hx;have q:Qy M x.ki=n:=by unfold Qy;rw[f];rfl
   rw[q];by_cases c:n.c.leaf=true;rw[Qd c];rfl;rw[Qc c];have e:x.va=X5 M x.ki n:=congrArg It.va l;unfold X5 at e;rw[Qc (by rw[m];simp[c])]at e;have j:B8 (M.KT x.ki)<=a:=ω;refine QkI I V b k x.ki ?_ ((QkG b).1 j);rw[Vf I.tree (I.some f),o,Kw];omega
def QBU{M}(I:QA M)(V:Inv M){a}(b:a<=4611686018427387904){o:Option It}(e:xQ M a o):(Vj M a o).isSome=true↔jk M<=a:=by
 have d:=e.QBR b;have j:=QBS V.qQ.1 b;have i:=QkG (L:=M.KT 0) b;have g:jk M<=a↔UW M.Lv<=a\/B8 (M.KT 0)<=a:=by unfold jk;omega
 rw[g,j,i];cases o with
 | some x=>simp only[Vj,Ab,true_iff];exact .inl (d.1 rfl)
 | none=>
  have f:¬ ∃x∈M.Lv,x.ka<=a:=λh=>by cases d.2 h
  simp only[Vj,Option.isSome_map];constructor;intro h;refine .inr ?_;unfold xP at h;cases c:firstM M a 0 with
  | none=>rw[c]at h;cases h
  | some x=>exact(QkH b).1 (by rw[c];rfl)
  rintro (h|h);exact absurd h f;exact QkI I V b 17 0 (by rw[Hi I.tree];simp) h
def MQ(c:Cf):Bool:=decide (1<=c.t)&&decide (c.t<=65536)&&decide (1<=c.Jb)&&decide (c.Jb<=16384)
def QBV(c:Cf):QI prog 21 [.agg c.cells] (QN (QU (MQ c))):=by
 unfold MQ;refine QY 0 func21 ntmps21 results21 λa w f=>?_;simp only[go_sem];all_goals (cases g:decide (1<=c.t)<;>cases e:decide (c.t<=65536)<;>cases d:decide (1<=c.Jb)<;>cases b:decide (c.Jb<=16384)<;>simp only[go_sem,e,d,b])
def U2:List It->Option It
 | []=>none
 | x::l=>match U2 l with
  | none=>some x
  | some y=>some (jM x y)
def QkJ:∀L:List It,yy (U2 L) L
 | []=>rfl
 | x::l=>by
  have h:=QkJ l;unfold U2;cases a:U2 l with
  | none=>
   rw[a]at h;have b:l=[]:=h;subst b;exact V7.one x
  | some y=>
   rw[a]at h;exact V7.join (V7.one x) h
def QkK(M:Qn)(a:Nat):Option It:=U2 (M.Lv.filter λx=>decide (x.ka<=min a 9223372036854775807))
def MS(M)(a):xQ M a (QkK M a):=QkJ _
def Yu(M:Qn)(a:Nat):Option (Int × Bool):=if wz M a=true then Vj (ZU M a) a (QkK (ZU M a) a) else none
def takeN(M:Qn)(a:Nat):Qn:=match Yu M a with
 | none=>ZU M a
 | some x=>Xy (ZU M a) x.1 x.2
def Kh(M:Qn)(a:Nat):Int:=match Yu M a with
 | none=>0
 | some x=>x.1
def Kb(M:Qn)(a:Nat):Pk:=match Yu M a with
 | none=>default
 | some x=>(Qy M x.1).q.l.headD default
def YP(M:Qn)(a:Nat):Bool:=match Yu M a with
 | none=>false
 | some x=>x.2
def XP(M:Qn)(a:Nat):Bool:=(Yu M a).isSome
def QBW{M c}{a}{d}(h:UF M a d c):c=takeN M a/\d=.tup [.agg (qN (Kh M a) (Kb M a) (YP M a)),QU (XP M a)]:=by
 rcases h with ⟨f,rfl,rfl⟩|⟨f,o,i,b⟩;have e:Yu c a=none:=by unfold Yu;rw[Qc (by rw[f];exact CL)]
 have j:ZU c a=c:=by unfold ZU;rw[Qc (by rw[f];exact CL)]
 unfold takeN Kh Kb YP XP;rw[e];exact⟨j.symm,rfl⟩;have e:Yu M a=Vj (ZU M a) a o:=by unfold Yu;rw[Qd f,(MS (ZU M a) a).uniq i]
 unfold takeN Kh Kb YP XP;rw[e];cases g:Vj (ZU M a) a o with
 | none=>
  rw[g]at b;exact⟨b.2,b.1⟩
 | some x=>
  rw[g]at b;exact⟨b.2,b.1⟩
structure jl (own:Nat->Tag) (h:List Ob) (p:Nat) (M:Qn):Prop where
 ex:∃L,ZB own h p L M
 I:QA M
 V:Inv M
 K:WZ M.lk
def jl.step{a own'}{h h':List Ob}{p}{M}(C:jl a h p M)(e:∀l,l<h.length->Live (a l)->own' l=a l/\h'[l]? = h[l]?):jl own' h' p M:=
 ⟨C.ex.imp λ_ c=>c.step e,C.I,C.V,C.K⟩
def jl.PC{a}{h}{p}{M}(C:jl a h p M)(g):jl (Q3 a h .no) (h++g) p M:=C.step λl b _=>⟨Kp b,QE b⟩
def QkL(l:List Int)(M:Qn):(Wl M l).lk=M.lk:=(DM l M).2.2.2.2.2.2.2.2
def QBX(M:Qn)(a:Int):(Xl M a).lk=M.lk:=by
 unfold Xl;split;exact(HF _ _).2.2.1;rfl
def QBY(M:Qn)(a)(r:Bool):(Xy M a r).lk=M.lk:=by
 unfold Xy;dsimp only;rw[QkL];have b:(V9 ((up M.T a).foldl (VP ((Qy M a).q.l.headD default).len.toNat) (Xc M a)) a ((Qy M a).q.l.headD default).len r).lk=M.lk:=by
  rw[(PQ _ _ _ _).2.2.2.1,(MG _ _ _).2.2.2.1];rfl
 split;rw[QBX,b];exact b
def QBZ(M:Qn)(b)(c)(a:Int):(YO M b c a).lk=M.lk:=by
 unfold YO;split;rw[QkL,(HC _ _ _).2.2.2.1];exact MA.2.2.2;exact MA.2.2.2
def lY(M:Qn)(a:Nat):(ZU M a).lk=M.lk:=(QjI M a).1
def QB0(M:Qn)(a)(b)(x:Pk):(VR M a b x).lk=M.lk:=by
 unfold VR;split;rfl;split;split;rw[QBZ];rfl;rfl;rfl
def MT(M:Qn)(a)(b)(x:Pk):(JD M a b x).lk=M.lk:=by
 unfold JD;split;rw[QB0,lY];rfl
def QkM(M:Qn)(a:Nat):(takeN M a).lk=M.lk:=by
 unfold takeN;split;exact lY M a;rw[QBY,lY]
def P6(M:Qn)(b)(l:List Jc):(Kt M b l).lk=M.lk:=by
 unfold Kt;split;exact(HL _ _).2.2.1;rfl
def QB1{M:Qn}{a}(h:wz M a=true):M.Qe<=a/\a<=4611686018427387904:=by
 unfold wz at h;simp only[qv,Gq,Iy]at h;omega
def Inv.pick{M:Qn}(I:QA M)(V:Inv M){a}{o}(d:xQ M a o){b}{r}(c:Vj M a o=some (b,r)):∃n,Qi M.N b=some n/\n.c.leaf=true/\n.q.l≠[]/\(1<QH n.c.ls->b∈M.A):=Good.uV I V.CA a o b r d c
def Inv.takeN{M}(I:QA M)(V:Inv M)(a):Inv (takeN M a):=by
 unfold X.takeN;cases b:Yu M a with
 | none=>exact V.told a
 | some x=>
  unfold Yu at b;split at b;obtain⟨n,e,d,c,_⟩:=(V.told a).pick (wB I a) (MS _ _) b;exact(V.told a).take (wB I a) e d c x.2;cases b
def Inv.Kt{M}(I:QA M)(V:Inv M)(b)(l)(e:∀c∈l,Jc.Ok c):Inv (Kt M b l):=by
 unfold X.Kt;split;rename_i h;have f:zM M (Je M.T l) b=false:=by
  unfold qm at h;split at h;rename_i d;exact absurd h d;split at h;cases h;rename_i a;simpa using a
 obtain⟨d,a⟩:=Ur I.tree I.AS e;exact V.change I d a f;exact V
def QB2{c}:MQ c=true↔WZ c:=by
 unfold MQ;simp only[ZE,Xo];exact⟨λh=>⟨h.1.1.1,h.1.1.2,h.1.2,h.2⟩,λh=>⟨⟨⟨h.t1,h.t2⟩,h.l1⟩,h.l2⟩⟩
section
variable {own:Nat->Tag}{h:List Ob}{p:Nat}{M:Qn}(C:jl own h p M)
include C
theorem QB3(b)(g:b<18446744073709551616)(e)(x):
  QM prog 78 h [.ptr p 0 0 0,u64 b,Qa e,.agg x.cells] (λd f=>d=Qa (vw M b e x)/\∃a,jl a f p (JD M b e x)/\Zu own h a f):=by
 obtain⟨L,c⟩:=C.ex;refine QM.mono (QAc c C.I C.K b g e x (Good.hA C.I C.V.CA e)) ?_;rintro d f ⟨a,l,j,k,D,i,rfl⟩;exact⟨i,a,⟨⟨L,j⟩,k,C.V.JD C.I b g e x,by rw[MT];exact C.K⟩,D⟩
theorem QB4(a):
  QM prog 118 h [.ptr p 0 0 0,u64 a] (λd e=>d=.tup [.agg (qN (Kh M a) (Kb M a) (YP M a)),QU (XP M a)]/\∃b,jl b e p (takeN M a)/\Zu own h b e):=by
 obtain⟨L,c⟩:=C.ex;refine QM.mono (QzU c C.I a λo id r g f=>?_) ?_;obtain⟨n,q,m,l,k⟩:=(C.V.told a).pick (wB C.I a) g f;exact⟨n,by rw[<- (xS M a).1];exact q,m,l,by rw[<- (xS M a).2.2];exact k⟩;rintro d e ⟨b,u,s,t,D,j⟩;obtain⟨rfl,i⟩:=QBW j;exact⟨i,b,⟨⟨L,s⟩,t,C.V.takeN C.I a,by rw[QkM];exact C.K⟩,D⟩
theorem QB5(b)(l:List Jc)(f:∀c∈l,Jc.Ok c)(g:l.length<1000000):
  QM prog 44 h [.ptr p 0 0 0,QU b,FQ l] (λd e=>d=.tup [Qa (yV M l),Qa (qm M b l)]/\∃a,jl a e p (Kt M b l)/\Zu own h a e):=by
 obtain⟨L,c⟩:=C.ex;refine QM.mono (QA7 c C.I C.K b l f g (Good.AZ C.I C.V.CA) (Good.PU C.I C.V.CA)) ?_;rintro d e ⟨a,k,n,j,m,D,i,rfl⟩;exact⟨i,a,⟨⟨k,j⟩,m,C.V.Kt C.I b l f,by rw[P6];exact C.K⟩,D⟩
end
def QB6(b)(h){c}(K:WZ c):
  QM prog 39 h [.agg c.cells] (λd e=>∃a p,d=.tup [.ptr p 0 0 0,Qa 0]/\jl a e p (M0 c)/\Zu b h a e):=by
 refine QM.mono (QAn (own:=b) c) ?_;rintro d e (⟨_,a,L,p,g,i,j,D⟩|⟨f,_⟩);exact⟨a,p,g,⟨⟨L,i⟩,j,Qka c,K⟩,D⟩;exact absurd K f
end Go.Fg.X
namespace Go.Fg
open Go.RowKit (Below)
def Qo.QB7{w0}{f}{h}(t c)(p:get f t=.nil):
  Qo w0 ⟨f,h⟩ ⟨put f t (.ref h.length 0 0 0),h++[(⟨.arr,0,c,0,λ_=>[]⟩:Ob)]⟩:=by
 intro Z z i n d a w r b;have g:d.length=h.length:=r.o.len;have v:=r.o.jw ⟨.arr,0,c,0,λ_=>[]⟩ rfl;have l:Tr h d w (h++[(⟨.arr,0,c,0,λ_=>[]⟩:Ob)]) (d++[none]) w:=Tr.push r.o (λ_ _=>rfl) _ _ (by intro b q e;simp at e);have j:(h++[(⟨.arr,0,c,0,λ_=>[]⟩:Ob)])[h.length]?=some ⟨.arr,0,c,0,λ_=>[]⟩:=σ;have k:=r.fr t;rw[show get (St.fr ⟨f,h⟩) t=.nil from p]at k;obtain⟨s,o⟩:=Ae k;have m:Rel Z i n ⟨f,h++[⟨.arr,0,c,0,λ_=>[]⟩]⟩ (d++[none]) a w:=⟨r.nt,r.defers,λu=>(r.fr u).tr l,v⟩;refine⟨d++[none],m.tell (t:=t) ?_,b.step l (Below.refl _ _)⟩;rw[o];refine .ref _ _ _ _ ⟨.arr,0,c,0,λ_=>[]⟩ none s 0 j ?_ rfl (QB _) (λ_=>.inl ⟨rfl,rfl⟩);rw[<- g];simp
end Go.Fg
namespace Go.Fg.X
open Go.Proofs Go.Fg
open Go.Proofs.Tryz
def Zm(M:Qn)(a:Int):List Pk:=(Qy M a).q.l
def CC(n:Nd):List Pk:=n.q.l
def U3{M c:Qn}{a:Int}(h:(Qi c.N a).map CC=(Qi M.N a).map CC):Zm c a=Zm M a:=by
 unfold Zm Qy;cases b:Qi M.N a with
 | none=>
  rw[b,qw,bw]at h;rw[h]
 | some n=>
  rw[b]at h;obtain⟨m,e,d⟩:=VT.1 h;rw[e];exact d
def QB9(M:Qn)(b)(c)(a:Int)(j:Int):(Qi (YO M b c a).N j).map CC=(Qi M.N j).map CC:=by
 have d:(Qi (VZ M b c a).N j).map CC=(Qi M.N j).map CC:=by
  rw[QaD];split;cases Qi M.N j<;>rfl;rfl
 unfold YO;split;rw[(DM _ _).1,xU (key:=CC) (λM j c=>Qkd b (λ_ _=>rfl) M j c)];exact d;exact d
def QCa{M}(g)(a)(x)(b):Zm (VR M g a x) b=if VQ M a x=0/\a=b then Zm M b++[x] else Zm M b:=by
 have push:∀j,j≠a->Zm (Vr M a x) j=Zm M j:=λj o=>U3 (by rw[MN,Qc o]);cases c:Qi M.N a with
 | none=>
  have e:VQ M a x=23:=by unfold VQ;rw[c]
  unfold VR;rw[e,Qc π,Qc π,Qc (λh=>absurd h.1 π)]
 | some n=>
  have m:Qy M a=n:=by unfold Qy;rw[c];rfl
  have i:Zm (Vr M a x) a=(Xw n.c.ZK n.c.bytes n.q x).l:=by
   unfold Zm Qy;rw[MN,Qd rfl,c,m];rfl
  have l:Zm M a=n.q.l:=by unfold Zm;rw[m]
  by_cases f:VQ M a x=30;obtain⟨_,k⟩:=Qkl c f;unfold VR;rw[Qd f,Qc (λh=>by rw[f]at h;exact absurd h.1 π)];by_cases e:b=a;rw[e,i,l];unfold Xw;rw[Qd k];exact push b e;by_cases d:VQ M a x=0;obtain⟨_,k,_⟩:=QaF c d;have p:Zm (VR M g a x) b=Zm (Vr M a x) b:=by
   unfold VR;rw[Qc f,Qd d];split;exact U3 (QB9 _ _ _ _ _);rfl
  rw[p];by_cases e:b=a;rw[Qd ⟨d,e.symm⟩,e,i,l,Qkc k];rw[Qc (λh=>e h.2.symm)];exact push b e;unfold VR;rw[Qc f,Qc d,Qc (λh=>d h.1)]
def QaT(M)(a:Nat)(b):Zm (ZU M a) b=Zm M b:=U3 (by rw[(xS M a).1])
def P7(M)(c)(b)(x)(a):Zm (JD M c b x) a=if vw M c b x=0/\b=a then Zm M a++[x] else Zm M a:=by
 unfold JD vw;split;rw[QCa,QaT];rw[Qc (λh=>absurd h.1 π)]
def QCb(M)(a)(r)(j:Int):Zm (Xy M a r) j=if j=a then (Zm M j).tail else Zm M j:=by
 have h:Zm (Xy M a r) j=Zm (Xc M a) j:=by
  refine U3 ?_;unfold Xy;dsimp only;rw[(DM _ _).1];have b:(Qi (V9 ((up M.T a).foldl (VP ((Qy M a).q.l.headD default).len.toNat) (Xc M a)) a ((Qy M a).q.l.headD default).len r).N j).map CC=(Qi (Xc M a).N j).map CC:=by
   rw[QaK];have g:=xU (key:=CC) (step:=VP ((Qy M a).q.l.headD default).len.toNat) (λi j c=>Qkq _ (λ_=>rfl) i j c) (up M.T a) (Xc M a) j;rw[<- g];split;cases Qi ((up M.T a).foldl (VP ((Qy M a).q.l.headD default).len.toNat) (Xc M a)).N j<;>rfl;rfl
  split;unfold Xl;split;rw[xU (key:=CC) (F2 (λ_=>rfl))];exact b;exact b;exact b
 rw[h];have d:Qi (Xc M a).N j=if j=a then (Qi M.N j).map (λn=>{ n with q:=Xb (Qy M a).q }) else Qi M.N j:=
  zI (f:=λn:Nd=>{ n with q:=Xb (Qy M a).q }) (λ_=>rfl) j
 by_cases e:j=a;rw[Qd e];unfold Zm Qy;rw[d,Qd e,e];unfold Qy;cases k:Qi M.N a<;>rfl;rw[Qc e];exact U3 (by rw[d,Qc e])
def F3(M)(a)(j:Int):Zm (takeN M a) j=if XP M a=true/\Kh M a=j then (Zm M j).tail else Zm M j:=by
 unfold takeN XP Kh;cases b:Yu M a with
 | none=>rw[Qc (λh=>by cases h.1)];exact QaT M a j
 | some x=>
  dsimp only;rw[QCb,QaT];by_cases e:j=x.1;rw[Qd e,Qd ⟨rfl,e.symm⟩];rw[Qc e,Qc (λh=>e h.2.symm)]
def lZ{M}(I:QA M)(V:Inv M){a}(h:XP M a=true):∃x l,Zm M (Kh M a)=x::l/\Kb M a=x:=by
 unfold XP at h;obtain⟨y,b⟩:=Er.1 h;have g:Kh M a=y.1:=by unfold Kh;rw[b]
 have f:Kb M a=(Zm M y.1).headD default:=by unfold Kb;rw[b];rfl
 unfold Yu at b;split at b;obtain⟨n,e,j,i,_⟩:=(V.told a).pick (wB I a) (MS _ _) b;rw[(xS M a).1]at e;have d:Zm M y.1=n.q.l:=by unfold Zm Qy;rw[e];rfl
 cases c:n.q.l with
 | nil=>exact absurd c i
 | cons x l=>exact⟨x,l,by rw[g,d,c],by rw[f,d,c];rfl⟩
 cases b
def QCd{c}(b)(l)(j):Zm (Kt (M0 c) b l) j=[]:=by
 unfold Kt;split;have r:∀(L:List Int) (g:List Ql) (M:Qn),(∀id n,Qi M.N id=some n->n.q.l=[])->∀id n,Qi (L.foldl (JM g) M).N id=some n->n.q.l=[]:=by
  intro L g;induction L with
  | nil=>intro M h;exact h
  | cons i L m=>
   intro M h;refine m _ λid n a=>?_;unfold JM at a;split at a;rw[Cy]at a;split at a;cases a;exact h id n a;have f:∀(k:Ql) (N:List Nd),Qi (XO k::jj N i) id=some n->(∀n,Qi N id=some n->n.q.l=[])->n.q.l=[]:=λk N a h=>by
    unfold Qi at a;rw[km]at a;split at a;cases a;rfl;have d:Qi (jj N i) id=some n:=a;rw[Cy]at d;split at d;cases d;exact h n d
   split at a;exact f _ _ a (h id);exact f _ _ a (h id)
 have q:=r (JX (M0 c).T (Je (M0 c).T l)) (Je (M0 c).T l) { M0 c with T:=Je (M0 c).T l } (λid n a=>by simp[M0,Qi]at a);have p:∀id,(Qy (VK (M0 c) (Je (M0 c).T l)) id).q.l=[]:=λid=>by
  unfold Qy VK;cases e:Qi ((JX (M0 c).T (Je (M0 c).T l)).foldl (JM (Je (M0 c).T l)) { M0 c with T:=Je (M0 c).T l }).N id with
  | none=>rfl
  | some n=>exact q id n e
 unfold Zm Qy;show ((Qi (Xz (M0 c) (Je (M0 c).T l)) j).getD default).q.l=[];cases e:Qi (Xz (M0 c) (Je (M0 c).T l)) j with
 | none=>rfl
 | some n=>
  have o:n∈Xz (M0 c) (Je (M0 c).T l):=vI e;obtain⟨k,_,rfl⟩:=Ji.1 o;exact p _
 rfl
end Go.Fg.X
namespace Go.Fg.X
open Go.Proofs Go.Fg
open Go.Proofs.Tryz
def c6:Cf:=⟨1,100⟩
def MU(a m:Int):Jc:=⟨1,⟨a,0,true,⟨0,0,0⟩,⟨m,0,m⟩,⟨0,0,0⟩,3,300⟩⟩
def QkN(L:List Int)(M:Qn)(a:List Ql):Qn:=
 let D:=L.foldl (JM a) { M with T:=a };let b:Qn:={ D with N:=a.map λc=>Qy D c.iD,To:=a,A:=[] }
 { b with A:=(VS b).foldl (wD a) [] }
theorem QCe(M:Qn)(a):yU M a=QkN (JX M.T a) M a:=rfl
end Go.Fg.X
namespace Go.Fg.X
open Go.Proofs Go.Fg
open Go.Proofs.Tryz
def QCf(M:Qn)(l:List Int):Nat:=(l.map λj=>(Qy M j).QT).sum
structure QJE (M:Qn):Prop where
 leaf:∀id n,Qi M.N id=some n->n.c.leaf=true->n.QT=n.q.bo
 inner:∀id n,Qi M.N id=some n->n.c.leaf=false->n.QT=V8 (QCf M (KE M.T id))
def QJF(n:Nd):Ql × Nat × Nat:=(n.c,n.QT,n.q.bo)
def QCg{e:Type}{a:Nd->e}{M d:Qn}{b:Int}(h:(Qi d.N b).map a=(Qi M.N b).map a):a (Qy d b)=a (Qy M b):=by
 unfold Qy;cases c:Qi M.N b with
 | none=>
  rw[c,qw,bw]at h;rw[h]
 | some n=>
  rw[c]at h;obtain⟨m,g,f⟩:=VT.1 h;rw[g];exact f
def QCh(M:Qn)(b)(c)(a:Int):(YO M b c a).T=M.T:=by
 unfold YO;split;rw[(DM _ _).2.1,(HC _ _ _).1];exact MA.1;exact MA.1
def QCi(M:Qn)(a)(r:Bool):(Xy M a r).T=M.T:=by
 unfold Xy;dsimp only;rw[(DM _ _).2.1];have b:(V9 ((up M.T a).foldl (VP ((Qy M a).q.l.headD default).len.toNat) (Xc M a)) a ((Qy M a).q.l.headD default).len r).T=M.T:=by
  rw[(PQ _ _ _ _).1,(MG _ _ _).1];rfl
 split;unfold Xl;split;rw[(HF _ _).1];exact b;exact b;exact b
def QkO(b):∀(l:List Int) (M:Qn) (j:Int),l.Nodup->j∈l->Qi (l.foldl (VP b) M).N j=(Qi M.N j).map (yQ b)
 | [],_,_,_,h=>by cases h
 | a::l,M,j,c,h=>by
  rw[ZV]at c;rw[jt];by_cases e:j=a;subst e;rw[ML (lQ b) l _ j c.1];exact(zI (f:=yQ b) (λ_=>rfl) j).trans (Qd rfl);rw[QkO b l _ j c.2 ((QK.1 h).resolve_left e),lQ b M a j e]
def QA.up{M:Qn}(I:QA M){id j}(h:j∈X.up M.T id):∃n,Qi M.N j=Option.some n:=by
 obtain⟨c,a⟩:=Er.1 (Hj h);obtain⟨n,b,_⟩:=I.PD a;exact⟨n,b⟩
def QA.l6:∀(l:List Int) {M:Qn},QA M->V0 M->(∀j∈l,∃n,Qi M.N j=Option.some n)->QA (Wl M l)
 | [],M,I,_,_=>I
 | id::l,M,I,V,h=>by
  obtain⟨n,b⟩:=h id Ky;have a:=(PF M id).1;exact QA.l6 l (uA I b (V id n b)) (by unfold V0;rw[a];exact V) (by rw[a];exact λj c=>h j (J8 _ c))
def QCj{M:Qn}(V:V0 M){a}{n}(c:Qi M.N a=some n)(b)(r):V0 (V9 M a b r):=by
 have d:Qy M a=n:=by unfold Qy;rw[c];rfl
 unfold V9;split;exact HT (f:=λm:Nd=>{ m with du:=qM (Qy M a) b r }) (λ_=>rfl) (λm _ h=>⟨h.QT,by rw[d];exact uD (V a n c) b r,h.sh,h.cp,h.c⟩) V;exact V
def QCk{M}(V:V0 M)(a):V0 (Xl M a):=by
 unfold Xl;split;exact QaI _ (M:={ M with A:=J6 M.A a }) V;exact V
def QA.Xy{M:Qn}(I:QA M)(V:V0 M){a}{n}(t:Qi M.N a=Option.some n)(r):QA (Xy M a r):=by
 unfold X.Xy;dsimp only;generalize ((Qy M a).q.l.headD default).len=b;obtain⟨c,d⟩:∃c,c=(X.up M.T a).foldl (X.VP b.toNat) (X.Xc M a):=⟨_,rfl⟩;rw[<- d];have p:QA c:=by rw[d];exact QA.lh _ (I.Xc a)
 obtain⟨k,_⟩:=MG b.toNat (X.up M.T a) (X.Xc M a);rw[<- d]at k;have u:V0 c:=by
  rw[d];exact QaJ _ _ (HT (f:=λn:Nd=>{ n with q:=Xb (Qy M a).q }) (λ_=>rfl) (λn _ h=>⟨h.QT,h.du,h.sh,h.cp,h.c⟩) V)
 have s:c.T=M.T:=k;obtain⟨w,m⟩:=p.up (id:=a) (j:=a) (by rw[s];exact XJ I.tree (I.some t));have i:=p.V9 m b r;have l:=QCj u m b r;have e:(X.V9 c a b r).T=M.T:=(PQ c a b r).1.trans s;split;have o:=i.Xl a;have v:(X.Xl (X.V9 c a b r) a).T=M.T:=by
  unfold X.Xl;split;rw[(HF _ _).1];exact e;exact e
 exact o.l6 _ (QCk l a) λj g=>o.up (id:=a) (by rw[v];exact g);exact i.l6 _ l λj g=>i.up (id:=a) (by rw[e];exact g)
def QCl{M:Qn}(V:V0 M){b}{n}(f:Qi M.N b=some n)(c)(l:c<18446744073709551616)(a):V0 (VZ M c b a):=λj k d=>by
 have i:Qy M b=n:=by unfold Qy;rw[f];rfl
 rw[QaD,i]at d;split at d;obtain⟨g,h,rfl⟩:=VT.1 d;have e:=V j g h;exact⟨e.QT,te (V b n f).du (V b n f).c.2.2.2.1.lt l a,e.sh,e.cp,e.c⟩;exact V j k d
def QkP{a}(b:a<18446744073709551616):∀(l:List Int) (M:Qn),QA M->V0 M->V0 (l.foldl (WG a) M)
 | [],M,_,V=>V
 | j::l,M,I,V=>QkP b l _ (I.WG a j) (HT (f:=yM M a) (λ_=>rfl) (λn _ c=>uG I b c) V)
def QA.YO{M:Qn}(I:QA M)(V:V0 M){d}{n:Nd}(e:Qi M.N d=Option.some n)(o:n.c.leaf=true)(c)(h:c<18446744073709551616)(b):QA (YO M c d b):=by
 have q:Qy M d=n:=by unfold Qy;rw[e];rfl
 have l:=I.VZ e c b;have s:=QCl V e c h b;obtain⟨g,v,u,t⟩:=MA (M:=M) (now:=c) (id:=d) (head:=b);unfold X.YO;rw[q];split;rename_i m;have k:QA { X.VZ M c d b with A:=d::M.A }:=l.act λa f=>by
  rw[g];rcases QK.1 f with rfl|f;exact⟨n.c,I.some e,o,m⟩;exact I.Xk a f
 have i:=QA.Uu (now:=c) (VH M.T M.A d) k;have r:=QkP h (VH M.T M.A d) _ k s;obtain⟨t1,_⟩:=HC c (VH M.T M.A d) { X.VZ M c d b with A:=d::M.A };exact i.l6 _ r λj p=>i.up (id:=d) (by rw[t1];show j∈X.up (X.VZ M c d b).T d;rw[g];exact p);exact l
def QA.VR{M}(I:QA M)(V:V0 M)(b)(k:b<18446744073709551616)(a)(x):QA (VR M b a x):=by
 unfold X.VR;cases c:Qi M.N a with
 | none=>
  have e:VQ M a x=23:=by unfold VQ;rw[c]
  rw[e,Qc π,Qc π];exact I
 | some n=>
  have f:Qy M a=n:=by unfold Qy;rw[c];rfl
  by_cases h:VQ M a x=30;rw[Qd h];exact I.Vr a x;rw[Qc h];by_cases d:VQ M a x=0;rw[Qd d,f];obtain⟨j,o,m,l,i⟩:=QaF c d;have g:=(I.Vr a x).j8 i;split;refine g.YO (QaC V a x) (n:={ n with q:=Xw n.c.ZK n.c.bytes n.q x }) ?_ j b k x.len;show Qi (X.Vr M a x).N a=_;rw[MN,Qd rfl,c,f];rfl;exact g;rw[Qc d];exact I
def QA.JD{M}(I:QA M)(V:Inv M)(a)(c:a<18446744073709551616)(b)(x):QA (JD M a b x):=by
 unfold X.JD;split;exact(wB I a).VR (V.told a).ok a c b x;exact I
def QA.takeN{M}(I:QA M)(V:Inv M)(a):QA (takeN M a):=by
 unfold X.takeN;cases b:Yu M a with
 | none=>exact wB I a
 | some x=>
  unfold Yu at b;split at b;obtain⟨n,c,e,d,_⟩:=(V.told a).pick (wB I a) (MS _ _) b;exact(wB I a).Xy (V.told a).ok c x.2;cases b
def QA.Kt{M}(I:QA M)(V:Inv M)(b)(l)(k:∀c∈l,Jc.Ok c):QA (Kt M b l):=by
 unfold X.Kt;split;rename_i h;have r:zM M (Je M.T l) b=false:=by
  unfold qm at h;split at h;rename_i g;exact absurd h g;split at h;cases h;rename_i f;simpa using f
 obtain⟨g,f⟩:=Ur I.tree I.AS k;have i:=V.UN I g f r;have o:(ql M (Je M.T l)).T=Je M.T l:=(HL (T2:=Je M.T l) (JX M.T (Je M.T l)) { M with T:=Je M.T l }).1;refine i.act λa m=>?_;rcases (QaP (Je M.T l) a (VS (ql M (Je M.T l))) []).1 m with e|⟨e,j⟩;cases e;obtain⟨n,q,p,s⟩:=(DY i).1 e;have d:=i.some q;refine⟨n.c,d,p,?_⟩;rw[o]at d;rw[d]at j;exact j;exact I
def QkQ(l:List Int)(M:Qn):(Wl M l).Qe=M.Qe:=(DM l M).2.2.2.2.2.2.1
def QCm(M:Qn)(a:Int):(Xl M a).Qe=M.Qe:=by
 unfold Xl;split;exact(HF _ _).2.2.2.1;rfl
def QCn(M:Qn)(a)(r:Bool):(Xy M a r).Qe=M.Qe:=by
 unfold Xy;dsimp only;rw[QkQ];have b:(V9 ((up M.T a).foldl (VP ((Qy M a).q.l.headD default).len.toNat) (Xc M a)) a ((Qy M a).q.l.headD default).len r).Qe=M.Qe:=by
  rw[(PQ _ _ _ _).2.2.2.2.1,(MG _ _ _).2.2.2.2.1];rfl
 split;rw[QCm,b];exact b
def QkR(M:Qn)(b)(c)(a:Int):(VZ M b c a).Qe=M.Qe:=by
 unfold VZ;split<;>rfl
def QCo(M:Qn)(b)(c)(a:Int):(YO M b c a).Qe=M.Qe:=by
 unfold YO;split;rw[QkQ,(HC _ _ _).2.2.2.2.1];exact QkR M b c a;exact QkR M b c a
def QCp(M:Qn)(a)(b)(x:Pk):(VR M a b x).Qe=M.Qe:=by
 unfold VR;split;rfl;split;split;rw[QCo];rfl;rfl;rfl
def QaU(M:Qn)(a:Nat):(ZU M a).Qe=M.Qe\/((ZU M a).Qe=a/\a<=4611686018427387904):=by
 unfold ZU;split;rename_i h;exact .inr ⟨rfl,(QB1 h).2⟩;exact .inl rfl
def QCq{M:Qn}(I:QA M)(V:Inv M){now}(c:now<=4611686018427387904)(e:M.Qe<=now):XP M now=decide (jk M<=now/\jk M<9223372036854775808):=by
 have b:wz M now=true:=by
  unfold wz;simp only[qv,Gq,Iy];omega
 have a:=QBU (wB I now) (V.told now) c (MS (ZU M now) now);have d:jk (ZU M now)=jk M:=by unfold ZU;split<;>rfl
 rw[d]at a;unfold XP Yu;rw[Qd b,vF,a,Xo];omega
def Wa(M:Qn):Nat:=(M.T.map λc=>(Zm M c.iD).length).sum
def QkS{f f':Int->Nat}{q:Int}:∀{l:List Ql},(l.map (·.iD)).Nodup->q∈l.map (·.iD)->f' q+1=f q->(∀j,j≠q->f' j=f j)->(l.map λc=>f' c.iD).sum+1=(l.map λc=>f c.iD).sum
 | [],_,h,_,_=>by cases h
 | a::l,b,h,k,d=>by
  simp only[JT,ZV,List.sum_cons]at b ⊢;by_cases e:a.iD=q;have g:(l.map λc=>f' c.iD)=l.map λc=>f c.iD:=Il λc i=>d _ λm=>b.1 (by rw[e,<- m];exact Ji.2 ⟨c,i,rfl⟩);rw[g,e];omega;have n:=QkS b.2 ((QK.1 h).resolve_left λg=>e g.symm) k d;rw[d _ e];omega
def l7(M:Qn)(a:Nat):(takeN M a).T=M.T:=by
 unfold takeN;split;exact(xS M a).2.1;rw[QCi];exact(xS M a).2.1
def QCr{M}(I:QA M)(V:Inv M){c}(h:XP M c=true):Wa (takeN M c)+1=Wa M:=by
 obtain⟨x,l,d,p⟩:=lZ I V h;unfold Wa;rw[l7];have o:(M.T.map (·.iD)).Nodup:=by
  have h:M.T.Pairwise (λa b=>a.iD<b.iD):=I.tree.rising;rw[List.nodup_iff_pairwise_ne,RI];exact h.imp λr=>ω
 refine QkS (q:=Kh M c) (f:=λj=>(Zm M j).length) (f':=λj=>(Zm (takeN M c) j).length) o ?_ ?_ λj i=>?_;unfold Zm Qy at d;cases g:Qi M.N (Kh M c) with
 | none=>rw[g]at d;cases d
 | some n=>
  obtain⟨m,k⟩:=(VF I.tree.rising).1 (I.some g);exact Ji.2 ⟨n.c,m,k⟩
 rw[F3,Qd ⟨h,rfl⟩,d];simp;rw[F3,Qc λe=>i e.2.symm]
def A5(b a c:Nat):Nat:=min (max (max b a) c) 9223372036854775808
def QCs{M:Qn}(I:QA M)(V:Inv M){a until_ b}(e:M.Qe<=a)(d:b<=4611686018427387904)(h:A5 a until_ (jk M)<=b):
  XP M (A5 a until_ (jk M))=true/\until_<=A5 a until_ (jk M)/\a<=A5 a until_ (jk M):=by
 have f:A5 a until_ (jk M)=max (max a until_) (jk M):=by unfold A5 at h ⊢;omega
 have c:=QCq I V (now:=A5 a until_ (jk M)) ω ω;rw[c];refine⟨QS ⟨ω,ω⟩,ω,ω⟩
structure j9 where
 p:Nat
 b:Nat
 r:Nat
 w:Nat
 l:Nat
instance:Inhabited j9:=⟨⟨0,0,0,0,0⟩⟩
def j9.Ok(r:j9):Prop:=r.p<18446744073709551616/\r.b<18446744073709551616/\r.r<18446744073709551616/\r.w<18446744073709551616/\r.l<18446744073709551616
structure DZ where
 Jg:Int->List Nat
 rows:Int->j9
def wF(s:DZ)(a:Int)(b:Nat):DZ:={ s with Jg:=λk=>if k=a then s.Jg k++[b] else s.Jg k }
def yY(r:j9)(a done:Nat)(b:Int)(c:Bool):j9:=
 ⟨(r.p+1)%18446744073709551616,(r.b+b.toNat)%18446744073709551616,if c=true then (r.r+1)%18446744073709551616 else r.r,(r.w+(done-a))%18446744073709551616,max r.l (done-a)⟩
def qn(s:DZ)(c:Int)(done:Nat)(b:Int)(d:Bool):DZ:=match s.Jg c with
 | []=>s
 | a::l=>if b<1 then s else if done<a then s else
  ⟨λk=>if k=c then l else s.Jg k,λk=>if k=c then yY (s.rows k) a done b d else s.rows k⟩
def Z1(x:Pk):List Int:=[x.xq,x.xr,x.xu,x.xv]
def JP.mask(r:JP):List Int:=[r.AA,r.AB,r.E7,r.Dn]
def JP.want(r:JP):List Int:=[r.Lx,r.Lz,r.LA,r.E8]
def wG(a b:Int):Int:=bits .and .u16 a b
def U4(h m:List Int):List Int:=List.zipWith wG h m
def zN(r:JP)(h:List Int):Bool:=U4 h r.mask==r.want
def yZ(r:JP):Bool:=decide (1<=r.cls)&&decide (r.cls<=65536)&&(U4 r.want r.mask==r.want)
def Ki(R:List JP)(h:List Int):Int:=match R.find? λr=>zN r h with
 | some r=>r.cls
 | none=>0
def qR(R:List JP):Int:=if 32<R.length then 2 else if R.all yZ=true then 0 else 1
structure Z2 where
 M:Qn
 X6:Nat
 R:List JP
 st:DZ
 Qe:Nat
 ops:Nat
def qp(c:Cf)(a:Int):Nat:=a.toNat*c.t.toNat
def vA(c b:Nat)(a:Int)(x:Pk):Ev:=⟨c,true,false,b,0,a,x.iD,x.len,x.xq,x.xr,x.xu,x.xv⟩
def wH(d:Nat)(a:Bool)(c done:Nat)(b:Int)(x:Pk):Ev:=⟨d,false,a,c,done,b,x.iD,x.len,x.xq,x.xr,x.xu,x.xv⟩
def Jy(S:Z2)(b a:Nat):Z2 × List Ev:=
 if a<S.X6 then (S,[]) else
 if XP S.M a=true then
  ({ S with M:=takeN S.M a,X6:=a+qp S.M.lk (Kb S.M a).len,st:=qn S.st (Kh S.M a) (a+qp S.M.lk (Kb S.M a).len) (Kb S.M a).len (YP S.M a) },
   [wH b (YP S.M a) a (a+qp S.M.lk (Kb S.M a).len) (Kh S.M a) (Kb S.M a)])
 else ({ S with M:=takeN S.M a },[])
def Zy(S:Z2):Nat:=A5 S.Qe S.X6 (jk S.M)
def Vs(c e:Nat):Nat->Z2->Z2 × List Ev
 | 0,S=>({ S with Qe:=e },[])
 | n+1,S=>if e<Zy S then ({ S with Qe:=e },[]) else
  let a:=Jy { S with Qe:=Zy S } c (Zy S);let b:=Vs c e n a.1
  (b.1,a.2++b.2)
structure YQ where
 err:Int
 place:Int
 cls:Int
instance:Inhabited YQ:=⟨⟨0,0,0⟩⟩
structure MV where
 S:Z2
 r:YQ
 l:List Ev
def zO(S:Z2)(b a:Nat):MV:=
 if 4611686018427387904-S.Qe<a then ⟨S,⟨27,0,0⟩,[]⟩ else
 ⟨(Vs b (S.Qe+a) (Wa S.M+1) S).1,⟨0,0,0⟩,(Vs b (S.Qe+a) (Wa S.M+1) S).2⟩
def qq(S:Z2)(b:Nat)(x:Pk):MV:=
 if Ki S.R (Z1 x)=0 then ⟨S,⟨31,0,0⟩,[]⟩ else
 if vw S.M S.Qe (Ki S.R (Z1 x)) x=0 then
  let a:=Jy { S with M:=JD S.M S.Qe (Ki S.R (Z1 x)) x,st:=wF S.st (Ki S.R (Z1 x)) S.Qe } b S.Qe
  ⟨a.1,⟨0,0,Ki S.R (Z1 x)⟩,vA b S.Qe (Ki S.R (Z1 x)) x::a.2⟩
 else ⟨{ S with M:=JD S.M S.Qe (Ki S.R (Z1 x)) x },⟨vw S.M S.Qe (Ki S.R (Z1 x)) x,0,Ki S.R (Z1 x)⟩,[]⟩
def V5(S:Z2)(a:Nat)(o:ZO):MV:=
 if o.kind=1 then ⟨{ S with M:=Kt S.M (decide (S.X6<=S.Qe)) o.changes },⟨qm S.M (decide (S.X6<=S.Qe)) o.changes,yV S.M o.changes,0⟩,[]⟩
 else if o.kind=2 then (if qR o.rules=0 then ⟨{ S with R:=o.rules },⟨0,0,0⟩,[]⟩ else ⟨S,⟨qR o.rules,0,0⟩,[]⟩)
 else if o.kind=3 then qq S a o.ZX
 else if o.kind=4 then zO S a o.Wz.toNat
 else ⟨S,⟨1,0,0⟩,[]⟩
def Ku(S:Z2)(o:ZO):MV:=V5 { S with ops:=S.ops+1 } S.ops o
def S0(c:Cf):Z2:=⟨M0 c,0,[],⟨λ_=>[],λ_=>default⟩,0,0⟩
def Zx(S:Z2):List ZO->Z2 × List YQ × List Ev
 | []=>(S,[],[])
 | o::l=>((Zx (Ku S o).S l).1,(Ku S o).r::(Zx (Ku S o).S l).2.1,(Ku S o).l++(Zx (Ku S o).S l).2.2)
def QkT:∀(l m:List ZO) (S:Z2),Zx S (l++m)=((Zx (Zx S l).1 m).1,(Zx S l).2.1++(Zx (Zx S l).1 m).2.1,(Zx S l).2.2++(Zx (Zx S l).1 m).2.2)
 | [],m,S=>rfl
 | o::l,m,S=>by simp only[YT,Zx,QkT l m,WL]
structure Jn (S:Z2):Prop where
 I:QA S.M
 V:Inv S.M
 K:WZ S.M.lk
 len:∀j,∀x∈Zm S.M j,1<=x.len/\x.len<=S.M.lk.Jb
 mc:S.M.Qe<=S.Qe
 cl:S.Qe<=4611686018427387904
 un:S.X6<=4611686018427387904+1073741824
 st:∀k,(S.st.rows k).Ok
 ca:∀k,∀a∈S.st.Jg k,a<18446744073709551616
def QkU{P:List Pk->Prop}(d:P [])(f:List Ql)(b:Int):∀(L:List Int) (M:Qn),(∀n,Qi M.N b=some n->P n.q.l)->∀n,Qi (L.foldl (JM f) M).N b=some n->P n.q.l
 | [],M,h=>h
 | i::L,M,h=>QkU d f b L _ λn a=>by
  have e:∀(k:Ql),Qi (XO k::jj M.N i) b=some n->P n.q.l:=λk a=>by
   unfold Qi at a;rw[km]at a;split at a;cases a;exact d;have c:Qi (jj M.N i) b=some n:=a;rw[Cy]at c;split at c;cases c;exact h n c
  unfold JM at a;split at a;rw[Cy]at a;split at a;cases a;exact h n a;split at a;exact e _ a;exact e _ a
def QCt{P:List Pk->Prop}(b:P []){M:Qn}{j:Int}(h:P (Zm M j))(n:Nd)(a:Qi M.N j=some n):P n.q.l:=by
 unfold Zm Qy at h;rw[a]at h;exact h
def QkV{P:List Pk->Prop}(a:P []){M:Qn}(b:Bool)(l:List Jc){j:Int}(h:P (Zm M j)):P (Zm (Kt M b l) j):=by
 unfold Kt;split;have m:∀id,P (Zm M id)->P (Qy (VK M (Je M.T l)) id).q.l:=λid o=>by
  unfold Qy VK;cases c:Qi ((JX M.T (Je M.T l)).foldl (JM (Je M.T l)) { M with T:=Je M.T l }).N id with
  | none=>exact a
  | some n=>exact QkU a _ id _ { M with T:=Je M.T l } (QCt a o) n c
 unfold Zm Qy;show P ((Qi (Xz M (Je M.T l)) j).getD default).q.l;cases c:Qi (Xz M (Je M.T l)) j with
 | none=>exact a
 | some n=>
  have g:n∈Xz M (Je M.T l):=vI c;have i:=wS c;obtain⟨k,p,rfl⟩:=Ji.1 g;have d:k.iD=j\/(Qy (VK M (Je M.T l)) k.iD).q.l=[]:=by
   by_cases e:(Qy (VK M (Je M.T l)) k.iD).c.iD=k.iD;left;rw[<- e];simpa using i;right;unfold Qy at e ⊢;cases f:Qi (VK M (Je M.T l)).N k.iD with
   | none=>rfl
   | some n=>
    rw[f]at e;have:=wS f;exact absurd (by simpa using this) e
  rcases d with rfl|d;exact m _ h;show P (Qy (VK M (Je M.T l)) k.iD).q.l;rw[d];exact a
 exact h
def QCu{r:j9}(h:r.Ok){a done}(e:done<18446744073709551616)(b)(c:Bool):(yY r a done b c).Ok:=by
 obtain⟨j,i,d,g,f⟩:=h;unfold yY;refine⟨WM _ π,WM _ π,?_,WM _ π,?_⟩;dsimp only;split;exact WM _ π;exact d;dsimp only;omega
def MW(M:Qn)(a:Nat):(takeN M a).lk=M.lk:=QkM M a
def QCv(M:Qn)(a:Nat):(takeN M a).Qe=M.Qe\/((takeN M a).Qe=a/\a<=4611686018427387904):=by
 unfold takeN;split;exact QaU M _;rw[QCn];exact QaU M _
def QCw(M:Qn)(a)(b)(x:Pk):(JD M a b x).Qe=M.Qe\/((JD M a b x).Qe=a/\a<=4611686018427387904):=by
 unfold JD;split;rw[QCp];exact QaU M _;exact .inl rfl
def QCx(M:Qn)(b)(l:List Jc):(Kt M b l).Qe=M.Qe:=by
 unfold Kt;split;exact(HL _ _).2.2.2.1;rfl
def QkW{M:Qn}{a}{b}{x:Pk}(h:vw M a b x=0):1<=x.len/\x.len<=M.lk.Jb:=by
 unfold vw at h;split at h;have c:(ZU M a).lk=M.lk:=lY M a;unfold VQ at h;split at h;cases h;split at h;cases h;split at h;cases h;rename_i d;rw[c]at d;omega;cases h
def QCy{s:DZ}(h:(∀k,(s.rows k).Ok)/\∀k,∀a∈s.Jg k,a<18446744073709551616)(c){done}(f:done<18446744073709551616)(b)(d:Bool):(∀k,((qn s c done b d).rows k).Ok)/\∀k,∀a∈(qn s c done b d).Jg k,a<18446744073709551616:=by
 unfold qn;cases g:s.Jg c with
 | nil=>exact h
 | cons a l=>
  dsimp only;split;exact h;split;exact h;refine⟨λk=>?_,λk x hx=>?_⟩;dsimp only;split;exact QCu (h.1 k) f _ _;exact h.1 k;dsimp only at hx;split at hx;rename_i e;exact h.2 c x (by rw[g];exact J8 _ hx);exact h.2 k x hx
def l9{c:Cf}(K:WZ c){a}(h:1<=a/\a<=c.Jb):1<=qp c a/\qp c a<=1073741824:=by
 have j:=K.t1;have i:=K.t2;have g:=K.l2;unfold qp;have f:1<=a.toNat:=ω;have e:a.toNat<=16384:=ω;have d:1<=c.t.toNat:=ω;have b:c.t.toNat<=65536:=ω;exact⟨Yb f d,Yb e b⟩
def Jn.take_len{S:Z2}(T:Jn S){a:Nat}(h:XP S.M a=true):1<=(Kb S.M a).len/\(Kb S.M a).len<=S.M.lk.Jb:=by
 obtain⟨x,l,c,b⟩:=lZ T.I T.V h;rw[b];exact T.len _ x (by rw[c];exact Ky)
def Jn.takeN{S:Z2}(T:Jn S):Jn { S with M:=takeN S.M S.Qe } where
 I:=T.I.takeN T.V _
 V:=T.V.takeN T.I _
 K:=by show WZ (X.takeN S.M S.Qe).lk;rw[MW];exact T.K
 len:=λj x hx=>by
  have hx:x∈Zm (X.takeN S.M S.Qe) j:=hx;show 1<=x.len/\x.len<=(X.takeN S.M S.Qe).lk.Jb;rw[MW];rw[F3]at hx;split at hx;exact T.len j x (List.mem_of_mem_tail hx);exact T.len j x hx
 mc:=by
  show (X.takeN S.M S.Qe).Qe<=S.Qe;have:=T.mc;rcases QCv S.M S.Qe with h|h<;>omega
 cl:=T.cl
 un:=T.un
 st:=T.st
 ca:=T.ca
def Jn.HU{S:Z2}(T:Jn S)(c):Jn (Jy S c S.Qe).1:=by
 unfold Jy;split;exact T
 .split
  .rename_i h;have e:=l9 T.K (T.take_len h);have d:=T.cl;have a:=T.takeN;have b:=QCy ⟨T.st,T.ca⟩ (Kh S.M S.Qe) (done:=S.Qe+qp S.M.lk (Kb S.M S.Qe).len) ω (Kb S.M S.Qe).len (YP S.M S.Qe);exact⟨a.I,a.V,a.K,a.len,a.mc,T.cl,by dsimp only;omega,b.1,b.2⟩
  exact T.takeN
def Jn.at_{S:Z2}(T:Jn S){e}(b:S.Qe<=e)(a:e<=4611686018427387904):Jn { S with Qe:=e }:=
 ⟨T.I,T.V,T.K,T.len,JY T.mc b,a,T.un,T.st,T.ca⟩
def P8(S:Z2)(b a:Nat):(Jy S b a).1.Qe=S.Qe/\(Jy S b a).1.ops=S.ops/\(Jy S b a).1.R=S.R:=by
 unfold Jy;split;exact⟨rfl,rfl,rfl⟩;split<;>exact⟨rfl,rfl,rfl⟩
def mg(S:Z2)(h:S.Qe<=4611686018427387904):S.Qe<=Zy S:=by
 unfold Zy A5;omega
def Jn.go{a e}(b:e<=4611686018427387904):∀(n:Nat) {S:Z2},Jn S->S.Qe<=e->Jn (Vs a e n S).1
 | 0,S,T,h=>T.at_ h b
 | n+1,S,T,h=>by
  unfold Vs;split;exact T.at_ h b;rename_i d;have c:=(T.at_ (mg S T.cl) (show Zy S<=4611686018427387904 from ω)).HU a;refine Jn.go b n c ?_;have:=(P8 { S with Qe:=Zy S } a (Zy S)).1;rw[this];show Zy S<=e;omega
def Jn.put{S:Z2}(T:Jn S)(a)(x):Jn { S with M:=JD S.M S.Qe a x } where
 I:=T.I.JD T.V _ (by have:=T.cl;omega) _ _
 V:=T.V.JD T.I _ (by have:=T.cl;omega) _ _
 K:=by show WZ (JD S.M S.Qe a x).lk;rw[MT];exact T.K
 len:=λj y b=>by
  have b:y∈Zm (JD S.M S.Qe a x) j:=b;show 1<=y.len/\y.len<=(JD S.M S.Qe a x).lk.Jb;rw[MT];rw[P7]at b;split at b;rename_i h;rcases Q1.1 b with h2|h2;exact T.len j y h2;simp only[Yx]at h2;subst h2;exact QkW h.1;exact T.len j y b
 mc:=by
  show (JD S.M S.Qe a x).Qe<=S.Qe;have:=T.mc;rcases QCw S.M S.Qe a x with h|h<;>omega
 cl:=T.cl
 un:=T.un
 st:=T.st
 ca:=T.ca
def Jn.Jg{S:Z2}(T:Jn S)(d)(a)(e:a<18446744073709551616):Jn { S with st:=wF S.st d a }:=
 ⟨T.I,T.V,T.K,T.len,T.mc,T.cl,T.un,T.st,λk b c=>by
  have c:b∈(if k=d then S.st.Jg k++[a] else S.st.Jg k):=c;split at c;rcases Q1.1 c with h|h;exact T.ca k b h;simp only[Yx]at h;omega;exact T.ca k b c⟩
def Jn.change{S:Z2}(T:Jn S)(b){l}(a:∀c∈l,Jc.Ok c):Jn { S with M:=Kt S.M b l } where
 I:=T.I.Kt T.V b l a
 V:=T.V.Kt T.I b l a
 K:=by show WZ (Kt S.M b l).lk;rw[P6];exact T.K
 len:=λj=>by
  show ∀x∈Zm (Kt S.M b l) j,1<=x.len/\x.len<=(Kt S.M b l).lk.Jb;rw[P6];exact QkV (P:=λq=>∀x∈q,1<=x.len/\x.len<=S.M.lk.Jb) (λx hx=>by cases hx) b l (T.len j)
 mc:=by show (Kt S.M b l).Qe<=S.Qe;rw[QCx];exact T.mc
 cl:=T.cl
 un:=T.un
 st:=T.st
 ca:=T.ca
def Jn.one{S}(T:Jn S)(a){o:ZO}(b:∀c∈o.changes,Jc.Ok c):Jn (V5 S a o).S:=by
 unfold V5;split;exact T.change _ b;split;split;exact⟨T.I,T.V,T.K,T.len,T.mc,T.cl,T.un,T.st,T.ca⟩;exact T;split;unfold qq;split;exact T;split;exact Jn.HU (S:={ S with M:=JD S.M S.Qe (Ki S.R (Z1 o.ZX)) o.ZX,st:=wF S.st (Ki S.R (Z1 o.ZX)) S.Qe }) ((T.put _ _).Jg _ _ (by have:=T.cl;show S.Qe<_;omega)) a;exact T.put _ _;split;unfold zO;split;exact T;have:=T.cl;exact T.go ω _ ω;exact T
def Jn.ops{S}(T:Jn S)(n):Jn { S with ops:=n }:=⟨T.I,T.V,T.K,T.len,T.mc,T.cl,T.un,T.st,T.ca⟩
def Jn.do{S}(T:Jn S){o:ZO}(a:∀c∈o.changes,Jc.Ok c):Jn (Ku S o).S:=(T.ops _).one _ a
def QkX(a e):∀(n:Nat) (S:Z2),(Vs a e n S).1.ops=S.ops/\(Vs a e n S).1.Qe=e
 | 0,S=>⟨rfl,rfl⟩
 | n+1,S=>by
  unfold Vs;split;exact⟨rfl,rfl⟩;obtain⟨c,b⟩:=QkX a e n (Jy { S with Qe:=Zy S } a (Zy S)).1;exact⟨c.trans (P8 _ _ _).2.1,b⟩
def QCz(S:Z2)(a)(o:ZO):(V5 S a o).S.ops=S.ops:=by
 unfold V5;split;rfl;split;split<;>rfl;split;unfold qq;split;rfl;split;exact(P8 _ _ _).2.1;rfl;split;unfold zO;split;rfl;exact(QkX _ _ _ _).1;rfl
def QkY(S:Z2)(o:ZO):(Ku S o).S.ops=S.ops+1:=QCz _ _ _
def ahead(b:Int):Int->List Ev->Prop
 | _,[]=>True
 | a,v::l=>a<=v.at_/\v.at_<=b/\(v.J9=true->v.done=0)/\(v.J9=false->v.at_<v.done)/\ahead b v.at_ l
def QCA{S}(T:Jn S)(a){e}(d:e<=4611686018427387904)(h:Zy S<=e):
  Jn (Jy { S with Qe:=Zy S } a (Zy S)).1/\Wa (Jy { S with Qe:=Zy S } a (Zy S)).1.M+1=Wa S.M/\S.Qe<=Zy S/\(Jy { S with Qe:=Zy S } a (Zy S)).1.Qe=Zy S:=by
 obtain⟨b,c,f⟩:=QCs T.I T.V (until_:=S.X6) T.mc d h;have g:=(T.at_ (mg S T.cl) (show Zy S<=4611686018427387904 from ω));refine⟨g.HU a,?_,f,(P8 _ _ _).1⟩;have b:XP S.M (Zy S)=true:=b;have c:S.X6<=Zy S:=c;unfold Jy;rw[Qc (show ¬Zy S<S.X6 from ω)];show Wa (if XP S.M (Zy S)=true then _ else _:Z2 × List Ev).1.M+1=Wa S.M;rw[Qd b];exact QCr T.I T.V b
structure QJG (S:Z2) (D:MV):Prop where
 next:D.S.Qe<Zy D.S
 Qe:S.Qe<=D.S.Qe
 ev:ahead D.S.Qe S.Qe D.l
def qS(r:JP):Bool:=r.AA==65535&&(r.AB==65535&&(r.E7==65535&&r.Dn==65535))
def U5(n:Int):Prop:=0<=n/\n<65536
def mh{a}(h:U5 a):wG a 65535=a:=by
 obtain⟨n,rfl⟩:∃n:Nat,a=n:=⟨a.toNat,by have:=h.1;omega⟩;have c:n<65536:=by have:=h.2;omega
 have b:(BitVec.ofInt 16 (n:Int)).toNat=n:=by
  rw[BitVec.ofInt_natCast,BitVec.toNat_ofNat];exact qW ω
 show IntKind.u16.wrap ((BitVec.ofInt 16 (n:Int) &&& BitVec.ofInt 16 65535).toNat:Int)=_;rw[BitVec.toNat_and,b,show (BitVec.ofInt 16 65535).toNat=2^16-1 from rfl,Nat.and_two_pow_sub_one_eq_mod];rw[show IntKind.u16.wrap ((n%2^16:Nat):Int)=((n%2^16:Nat):Int)%65536 by simp[IntKind.wrap,IntKind.bits,IntKind.signed]];omega
def JF(R:List JP)(i:Nat):JP:=R.getD i default
def QaV(p:JP->Bool):∀(R:List JP) (i:Nat),i<R.length->p (JF R i)=true->(∀j,j<i->p (JF R j)=false)->R.find? p=some (JF R i)
 | [],i,b,_,_=>by simp at b
 | r::R,0,b,a,_=>by
  have a:p r=true:=a;rw[km,a];rfl
 | r::R,i+1,b,a,c=>by
  have d:p r=false:=c 0 ω;rw[km,d];exact QaV p R i (by simpa using b) a λj e=>c (j+1) ω
def QkZ(p:JP->Bool):∀(R:List JP),(∀j,j<R.length->p (JF R j)=false)->R.find? p=none
 | [],_=>rfl
 | r::R,a=>by
  have c:p r=false:=a 0 σ;rw[km,c];exact QkZ p R λj b=>a (j+1) (by simpa using b)
structure YR (R:List JP) (n:Nat) (es:List XF) (ms:List Nat):Prop where
 yes:∀k d,Xh es k=some d->∃i:Nat,d=Qa i/\i<n/\qS (JF R i)=true/\(JF R i).want=k/\∀j,j<i->¬(qS (JF R j)=true/\(JF R j).want=k)
 no:∀k,Xh es k=none->∀j,j<n->¬(qS (JF R j)=true/\(JF R j).want=k)
 mem:∀j,j∈ms↔j<n/\qS (JF R j)=false
 inc:ms.Pairwise (·<·)
 four:∀e∈es,e.k.length=4
def YR.nil(R:List JP):YR R 0 [] []:=⟨λk d h=>(by cases h),λk h j a=>absurd a (Yc j),λj=>σ,.nil,λe h=>(by cases h)⟩
def QaW:∀(a:List XF) (e:XF) (k:List Int),Xh (a++[e]) k=match Xh a k with
  | some d=>some d
  | none=>if e.k=k then some e.v else none
 | [],e,k=>by simp[Xh]
 | x::a,e,k=>by
  simp only[YT,Xh];split;rfl;exact QaW a e k
def YR.mask{R}{n}{l}{g}(T:YR R n l g)(h:qS (JF R n)=false):YR R (n+1) l (g++[n]) where
 yes:=λk d p=>by
  obtain⟨i,c,e,f⟩:=T.yes k d p;exact⟨i,c,ω,f⟩
 no:=λk m j o=>by
  rcases vK.1 o with c|rfl;exact T.no k m j c;exact λe=>by rw[h]at e;cases e.1
 mem:=λj=>by
  rw[Q1,T.mem j,Yx];constructor;rintro (c|rfl);exact⟨ω,c.2⟩;exact⟨ω,h⟩;rintro⟨c,e⟩;rcases vK.1 c with f|rfl;exact .inl ⟨f,e⟩;exact .inr rfl
 inc:=by
  rw[aY];exact⟨T.inc,List.pairwise_singleton _ _,λa r b q=>by
   simp only[Yx]at q;have:=((T.mem a).1 r).1;omega⟩
 four:=T.four
def YR.Qk0{R}{n}{e}{b}(T:YR R n e b)(h:qS (JF R n)=true):∀j,j∈b↔j<n+1/\qS (JF R j)=false:=λj=>by
 rw[T.mem j];constructor;rintro⟨c,a⟩;exact⟨ω,a⟩;rintro⟨c,a⟩;rcases vK.1 c with d|rfl;exact⟨d,a⟩;rw[h]at a;cases a
def YR.there{R}{n:Nat}{e}{f}(T:YR R n e f)(h:qS (JF R n)=true)(b:(Xh e (JF R n).want).isSome=true):YR R (n+1) e f where
 yes:=λk d m=>by
  obtain⟨i,c,b,a⟩:=T.yes k d m;exact⟨i,c,ω,a⟩
 no:=λk g j l=>by
  rcases vK.1 l with c|rfl;exact T.no k g j c;exact λa=>by rw[a.2,g]at b;cases b
 mem:=T.Qk0 h
 inc:=T.inc
 four:=T.four
def YR.new{R}{n:Nat}{f}{o}(T:YR R n f o)(h:qS (JF R n)=true)(q:Xh f (JF R n).want=none)(c):YR R (n+1) (f++[⟨(JF R n).want,Qa n,c⟩]) o where
 yes:=λk d b=>by
  rw[QaW]at b;cases a:Xh f k with
  | some d2=>
   rw[a]at b;cases b;obtain⟨i,h1,q,l⟩:=T.yes k d a;exact⟨i,h1,ω,l⟩
  | none=>
   rw[a]at b;dsimp only at b;split at b;rename_i e;cases b;exact⟨n,rfl,ω,h,e,λj g=>T.no k a j g⟩;cases b
 no:=λk a j g=>by
  rw[QaW]at a;cases m:Xh f k with
  | some d2=>rw[m]at a;cases a
  | none=>
   rw[m]at a;dsimp only at a;split at a;cases a;rename_i e;rcases vK.1 g with h1|rfl;exact T.no k m j h1;exact λl=>e l.2
 mem:=(T.Qk0 h)
 inc:=T.inc
 four:=λe p=>by
  rcases Q1.1 p with h1|h1;exact T.four e h1;simp only[Yx]at h1;subst h1;rfl
def U6(x:Pk):Prop:=U5 x.xq/\U5 x.xr/\U5 x.xu/\U5 x.xv
def mi{r:JP}{x}(a:U6 x)(h:qS r=true):zN r (Z1 x)=(r.want==Z1 x):=by
 unfold qS at h;simp only[ZE,qX]at h;obtain⟨e,d,c,b⟩:=h;unfold zN U4 Z1 JP.mask;rw[e,d,c,b];simp only[List.zipWith_cons_cons,List.zipWith_nil_right,mh a.1,mh a.2.1,mh a.2.2.1,mh a.2.2.2];rw[vF];simp only[qX];exact eq_comm
section
variable {R:List JP}{es:List XF}{ms:List Nat}(T:YR R R.length es ms){x:Pk}(hx:U6 x)
include T hx
theorem YR.XE{i}(h:i<R.length)(n:qS (JF R i)=false)(f:zN (JF R i) (Z1 x)=true)(l:∀j∈ms,j<i->zN (JF R j) (Z1 x)=false)
  (m:∀a:Nat,Xh es (Z1 x)=some (Qa a)->¬a<i):R.find? (λr=>zN r (Z1 x))=some (JF R i):=
 QaV _ R i h f λj g=>by
  cases b:qS (JF R j) with
  | false=>exact l j ((T.mem j).2 ⟨ω,b⟩) g
  | true=>
   rw[mi hx b,jv];intro e;cases c:Xh es (Z1 x) with
   | none=>exact T.no _ c j ω ⟨b,e⟩
   | some d=>
    obtain⟨a,rfl,q,p,o,k⟩:=T.yes _ _ c;have:=m a c;exact k j ω ⟨b,e⟩
theorem YR.whole{a:Nat}(f:Xh es (Z1 x)=some (Qa a))(l:∀j∈ms,j<a->zN (JF R j) (Z1 x)=false):a<R.length/\R.find? (λr=>zN r (Z1 x))=some (JF R a):=by
 obtain⟨i,e,d,k,h,g⟩:=T.yes _ _ f;have e:a=i:=by
  unfold Qa at e;simp only[D.raw.injEq,Value.int.injEq,vM]at e;omega
 subst e;refine⟨d,QaV _ R a d (by rw[mi hx k,h];simp) λj c=>?_⟩;cases b:qS (JF R j) with
 | false=>exact l j ((T.mem j).2 ⟨ω,b⟩) c
 | true=>
  rw[mi hx b,jv];exact λe=>g j c ⟨b,e⟩
theorem YR.none(c:Xh es (Z1 x)=Option.none)(d:∀j∈ms,zN (JF R j) (Z1 x)=false):R.find? (λr=>zN r (Z1 x))=Option.none:=
 QkZ _ R λj b=>by
  cases a:qS (JF R j) with
  | false=>exact d j ((T.mem j).2 ⟨b,a⟩)
  | true=>
   rw[mi hx a,jv];exact λe=>T.no _ c j b ⟨a,e⟩
end
@[go_sem] def j9.cells(r:j9):List D:=[u64 r.p,u64 r.b,u64 r.r,u64 r.w,u64 r.l]
@[go_sem] def jm(a b c d f e:Nat):Ob:=⟨.one,0,6,1,λ_=>[.ptr a 0 0 0,.ptr b 0 0 0,.ptr c 0 0 0,.ptr d 0 0 0,u64 f,Qa e]⟩
@[go_sem] def jo(a b c:Nat)(t:Int)(u:Nat):Ob:=⟨.one,0,5,1,λ_=>[u64 a,u64 b,u64 c,Qa t,u64 u]⟩
@[go_sem] def stO(c r:Nat):Ob:=⟨.one,0,2,1,λ_=>[.mref c 0,.mref r 0]⟩
@[go_sem] def MX(d:D)(e:Nat)(m:D):Ob:=⟨.one,0,3,1,λ_=>[d,.mref e 0,m]⟩
inductive TT where
 | no|sys|ln|HV|st|my
deriving DecidableEq
def Jh(a:Nat->TT)(h:List Ob)(t:TT):Nat->TT:=λl=>if h.length<=l then t else a l
def VL{a}{h:List Ob}{t}{l}(b:l<h.length):Jh a h t l=a l:=by unfold Jh;rw[Qc ω]
def F4{a}{h:List Ob}{t}{l}(b:h.length<=l):Jh a h t l=t:=by unfold Jh;rw[Qd b]
def kb{a}{h:List Ob}{t}{l}(b:h.length<=l):Q3 a h t l=t:=by unfold Q3;rw[Qd b]
def XQ{b:Type}[Inhabited b](S:Nat->Prop)(h:List Ob)(e:Nat)(f:b->List D)(d:D)(l:List b):Prop:=
 (d=.nil/\l=[])\/∃c g a,d=.ref c g 0 l.length/\S c/\h[c]?=some ⟨.arr,g,e,l.length,a⟩/\∀i,i<l.length->a i=f (l.getD i default)
def XQ.step{a:Type}[Inhabited a]{S S':Nat->Prop}{h h':List Ob}{k:Nat}{f:a->List D}{d:D}{l:List a}(e:∀j,j<h.length->S j->S' j/\h'[j]? = h[j]?):XQ S h k f d l->XQ S' h' k f d l:=λH=>
 H.imp id λ⟨b,g,i,o,m,c,n⟩=>⟨b,g,i,o,(e b (Qb c) m).1,by rw[(e b (Qb c) m).2];exact c,n⟩
def MY(S:Nat->Prop)(h:List Ob)(d:D)(l:List Nat):Prop:=
 (d=.nil/\l=[])\/∃c g a b,d=.ref c g a l.length/\S c/\h[c]?=some ⟨.arr,g,1,a+l.length,b⟩/\∀i,i<l.length->b (a+i)=[u64 (l.getD i 0)]
def MY.step{S S'}{h h':List Ob}{d}{l}(e:∀j,j<h.length->S j->S' j/\h'[j]? = h[j]?):MY S h d l->MY S' h' d l:=λH=>
 H.imp id λ⟨a,g,f,c,m,i,b,k⟩=>⟨a,g,f,c,m,(e a (Qb b) i).1,by rw[(e a (Qb b) i).2];exact b,k⟩
def MY.nil{S}{h}{l}(H:MY S h .nil l):l=[]:=by
 rcases H with a|⟨_,_,_,_,a,_⟩;exact a.2;cases a
structure F5 (S:Nat->Prop) (h:List Ob) (p cm rm c1:Nat) (ZM:List ZC) (c2:Nat) (Z7:List ZC) (s:DZ):Prop where
 o:h[p]?=some (stO cm rm)
 co:h[cm]?=some (QR .i64 c1 ZM)
 ro:h[rm]?=some (QR .i64 c2 Z7)
 ne:cm≠rm
 sp:S p
 sc:S cm
 sr:S rm
 ca:∀k,MY S h ((ZY ZM k).getD .nil) (s.Jg k)
 sep:∀k k' lo g off n g' wX n',ZY ZM k=some (.ref lo g off n)->ZY ZM k'=some (.ref lo g' wX n')->k=k'
 rw_:∀k,(ZY Z7 k).getD (.agg (default:j9).cells)=.agg (s.rows k).cells
def qs(S:Nat->Prop)(h:List Ob)(p:Nat)(s:DZ):Prop:=∃b a c d c2 e,F5 S h p b a c d c2 e s
def F5.step{S S'}{h h':List Ob}{p d b g}{i}{f}{m}{s}(e:∀j,j<h.length->S j->S' j/\h'[j]? = h[j]?)(T:F5 S h p d b g i f m s):F5 S' h' p d b g i f m s:=
 have k:∀l o,S l->h[l]?=some o->S' l/\h'[l]?=some o:=λl o c a=>⟨(e l (Qb a) c).1,(e l (Qb a) c).2.trans a⟩
 ⟨(k _ _ T.sp T.o).2,(k _ _ T.sc T.co).2,(k _ _ T.sr T.ro).2,T.ne,(k _ _ T.sp T.o).1,(k _ _ T.sc T.co).1,(k _ _ T.sr T.ro).1,λj=>(T.ca j).step e,T.sep,T.rw_⟩
def qs.step{S S'}{h h':List Ob}{p}{s}(e:∀j,j<h.length->S j->S' j/\h'[j]? = h[j]?):qs S h p s->qs S' h' p s:=λ⟨a,b,c,d,f,g,T⟩=>⟨a,b,c,d,f,g,T.step e⟩
structure QaY (S:Nat->Prop) (h:List Ob) (p:Nat) (dr:D) (le:Nat) (dm:D) (c:Nat) (es:List XF) (ms:List Nat) (R:List JP):Prop where
 o:h[p]?=some (MX dr le dm)
 eo:h[le]?=some (vT c es)
 rs:XQ S h 9 JP.cells dr R
 mo:XQ S h 1 (λi:Nat=>[Qa i]) dm ms
 sp:S p
 se:S le
 I:YR R R.length es ms
 ok:qR R=0
def HW(S:Nat->Prop)(h:List Ob)(p:Nat)(R:List JP):Prop:=∃e b f c d a,QaY S h p e b f c d a R
def HW.step{S S'}{h h':List Ob}{p}{R}(e:∀j,j<h.length->S j->S' j/\h'[j]? = h[j]?):HW S h p R->HW S' h' p R:=λ⟨i,f,m,c,g,d,T⟩=>
 have k:∀l o,S l->h[l]?=some o->S' l/\h'[l]?=some o:=λl o b a=>⟨(e l (Qb a) b).1,(e l (Qb a) b).2.trans a⟩
 ⟨i,f,m,c,g,d,(k _ _ T.sp T.o).2,(k _ _ T.se T.eo).2,T.rs.step e,T.mo.step e,(k _ _ T.sp T.o).1,(k _ _ T.se T.eo).1,T.I,T.ok⟩
structure WJ (own:Nat->Tag) (tw:Nat->TT) (h:List Ob) (p ps pl pr pt:Nat) (S:Z2):Prop where
 o:h[p]?=some (jm ps pl pr pt S.Qe S.ops)
 tp:tw p=.sys
 co:jl own h ps S.M
 ln:∃a b c,h[pl]?=some (jo a b c S.M.lk.t S.X6)
 tl:tw pl=.ln
 tb:HW (λl=>tw l=.HV) h pr S.R
 st:qs (λl=>tw l=.st) h pt S.st
 ap:∀l,tw l≠.no->own l=.no
def X7(a:Nat->Tag)(b:Nat->TT)(h:List Ob)(p:Nat)(S:Z2):Prop:=∃d f e c,WJ a b h p d f e c S
def mj(a:Nat->Tag)(c:Nat->TT)(h:List Ob)(b:Nat->Tag)(e:Nat->TT)(d:List Ob):Prop:=
 ∀l,l<h.length->(Live (a l)->b l=a l/\d[l]? = h[l]?)/\(c l≠.no->c l≠.my->e l=c l/\d[l]? = h[l]?)
def WJ.step{j own'}{m i}{h h'}{p q u r n}{S}(T:WJ j m h p q u r n S)(e:mj j m h own' i h')(x:∀l,i l≠.no->own' l=.no):WJ own' i h' p q u r n S:=by
 have k:∀l o t,m l=t->t≠.no/\t≠.my->h[l]?=some o->i l=t/\h'[l]?=some o:=λl o t d g v=>by
  obtain⟨a,b⟩:=(e l (Qb v)).2 (by rw[d];exact g.1) (by rw[d];exact g.2);exact⟨by rw[a,d],b.trans v⟩
 have s:∀t,t≠.no/\t≠.my->∀l,l<h.length->m l=t->i l=t/\h'[l]? = h[l]? := λt g l f d=>by
  obtain⟨a,b⟩:=(e l f).2 (by rw[d];exact g.1) (by rw[d];exact g.2);exact⟨by rw[a,d],b⟩
 obtain⟨a,b,c,f⟩:=T.ln;exact⟨(k _ _ _ T.tp σ T.o).2,(k _ _ _ T.tp σ T.o).1,T.co.step λl f w=>(e l f).1 w,⟨a,b,c,(k _ _ _ T.tl σ f).2⟩,(k _ _ _ T.tl σ f).1,T.tb.step (s _ σ),T.st.step (s _ σ),x⟩
structure Jv (n:Nat) (own:Nat->Tag) (tw:Nat->TT) (h:List Ob) (own':Nat->Tag) (Js:Nat->TT) (h':List Ob):Prop where
 s1:∀l,l<h.length->own' l=own l
 s2:∀l,l<h.length->Js l=tw l
 keep:∀l,l<n->own l=Tag.no->tw l=TT.no->h'[l]? = h[l]?
 my:∀l,l<h.length->tw l=TT.my->h'[l]? = h[l]?
 len:h.length<=h'.length
def Jv.refl(n)(a)(b:Nat->TT)(h):Jv n a b h a b h:=⟨λ_ _=>rfl,λ_ _=>rfl,λ_ _ _ _=>rfl,λ_ _ _=>rfl,QB _⟩
def Jv.trans{n}{f d o}{i p g}{h h' m:List Ob}(j:n<=h.length)(a:Jv n f i h d p h')(b:Jv n d p h' o g m):Jv n f i h o g m:=
 ⟨λl c=>(b.s1 l (vJ c a.len)).trans (a.s1 l c),λl c=>(b.s2 l (vJ c a.len)).trans (a.s2 l c),
  λl c e k=>(b.keep l c ((a.s1 l (vJ c j)).trans e) ((a.s2 l (vJ c j)).trans k)).trans (a.keep l c e k),λl c e=>(b.my l (vJ c a.len) ((a.s2 l c).trans e)).trans (a.my l c e),JY a.len b.len⟩
def Jv.core{n}{b a}{d}{h f:List Ob}(g:∀l,d l≠.no->b l=.no)(i:n<=h.length)(D:Zu b h a f):Jv n b d h a (Jh d h .no) f:=
 ⟨D.same,λl c=>VL c,λl c e _=>D.keep l ω e,λl c e=>D.keep l c (g l (by rw[e];simp)),D.len⟩
def WJ.core{j d}{g}{h i}{p m n v u}{S:Z2}(T:WJ j g h p m n v u S)(D:Zu j h d i){M:Qn}(C:jl d i m M)(w:M.lk=S.M.lk):WJ d (Jh g h .no) i p m n v u { S with M:=M }:=by
 have k:∀l o t,g l=t->t≠.no->h[l]?=some o->Jh g h .no l=t/\i[l]?=some o:=λl o t f r q=>
  ⟨by rw[VL (Qb q),f],(D.keep l (Qb q) (T.ap l (by rw[f];exact r))).trans q⟩
 have s:∀t,t≠.no->∀l,l<h.length->g l=t->Jh g h .no l=t/\i[l]? = h[l]? := λt r l e f=>
  ⟨by rw[VL e,f],D.keep l e (T.ap l (by rw[f];exact r))⟩
 obtain⟨a,b,c,e⟩:=T.ln;refine⟨(k _ _ _ T.tp σ T.o).2,(k _ _ _ T.tp σ T.o).1,C,⟨a,b,c,?_⟩,(k _ _ _ T.tl σ e).1,T.tb.step (s _ σ),T.st.step (s _ σ),λl e=>?_⟩;show i[n]?=some (jo a b c M.lk.t S.X6);rw[w];exact(k _ _ _ T.tl σ e).2;by_cases f:l<h.length;rw[VL f]at e;rw[D.same l f];exact T.ap l e;rw[F4 ω]at e;exact absurd rfl e
def WJ.app{a}{b}{h}{p d f e c}{S}(T:WJ a b h p d f e c S)(g):WJ (Q3 a h .no) (Jh b h .no) (h++g) p d f e c S:=
 T.core (Zu.app a h g .no) (T.co.PC g) rfl
def Jv.app{n}(b)(c:Nat->TT)(h g:List Ob)(t:TT)(d:n<=h.length):Jv n b c h (Q3 b h .no) (Jh c h t) (h++g):=
 ⟨λl a=>Kp a,λl a=>VL a,λl a _ _=>QE ω,λl a _=>QE a,σ⟩
def WJ.F6{b}{c}{h}{p e i f d}{S}(T:WJ b c h p e i f d S)(g):WJ (Q3 b h .no) (Jh c h .my) (h++g) p e i f d S:=
 T.step (λl a=>⟨λ_=>⟨Kp a,QE a⟩,λ_ _=>⟨VL a,QE a⟩⟩) λl a=>by
  by_cases j:l<h.length;rw[VL j]at a;rw[Kp j];exact T.ap l a;exact kb ω
def WJ.loc{a}{b}{h:List Ob}{p g k i f}{S}(T:WJ a b h p g k i f S){l}(q:a l=.no)(n:b l=.no\/b l=.my)(o):WJ a b (h.set l o) p g k i f S:=
 T.step (λj _=>⟨λc=>⟨rfl,Qp (λe=>c.1 (by rw[<- e,q]))⟩,λc m=>⟨rfl,Qp (λe=>n.elim (λd=>c (by rw[<- e,d])) (λd=>m (by rw[<- e,d])))⟩⟩) T.ap
def WJ.part{own}{b}{h d}{p f j i g}{S}(T:WJ own b h p f j i g S){t}(m:t≠.no)(s:Step (λl=>b l=t) h d):
  jl (Q3 own h .no) d f S.M/\(∀u,u≠.no->u≠t->∀l,l<h.length->b l=u->Jh b h t l=u/\d[l]? = h[l]?)/\(∀l,Jh b h t l≠.no->Q3 own h .no l=.no):=by
 refine⟨T.co.step λl a k=>⟨Kp a,s.keep l a λe=>k.1 (T.ap l (by rw[e];exact m))⟩,λu q n l a c=>⟨by rw[VL a,c],s.keep l a λe=>n (by rw[<- c,e])⟩,λl a=>?_⟩;by_cases c:l<h.length;rw[VL c]at a;rw[Kp c];exact T.ap l a;exact kb ω
def Jv.part{n}{own}{b}{h f:List Ob}{t}(d:t≠.no/\t≠.my)(g:n<=h.length)(s:Step (λl=>b l=t) h f):Jv n own b h (Q3 own h .no) (Jh b h t) f:=
 ⟨λl a=>Kp a,λl a=>VL a,λl a _ c=>s.keep l ω λe=>d.1 (by rw[<- e,c]),λl a c=>s.keep l a λe=>d.2 (by rw[<- e,c]),s.len⟩
def QCB{b}{h}{t}(l):more (λl=>b l=t) h l->Jh b h t l=t:=λa=>by
 unfold Jh;split;rfl;rcases a with a|a;exact a;omega
section
variable {own:Nat->Tag}{tw:Nat->TT}{h h':List Ob}{p ps pl pr pt:Nat}{S:Z2}(T:WJ own tw h p ps pl pr pt S)
include T
theorem WJ.link{u a b c}(s:Step (λl=>tw l=.ln) h h')(f:h'[pl]?=some (jo a b c S.M.lk.t u)):WJ (Q3 own h .no) (Jh tw h .ln) h' p ps pl pr pt { S with X6:=u }:=by
 obtain⟨C,r,ap⟩:=T.part σ s;have k:∀l o t,tw l=t->t≠.no->t≠.ln->h[l]?=some o->Jh tw h .ln l=t/\h'[l]?=some o:=λl o t j i g d=>by
  obtain⟨a,b⟩:=r t i g l (Qb d) j;exact⟨a,b.trans d⟩
 obtain⟨_,_,_,e⟩:=T.ln;exact⟨(k _ _ _ T.tp σ σ T.o).2,(k _ _ _ T.tp σ σ T.o).1,C,⟨a,b,c,f⟩,by rw[VL (Qb e)];exact T.tl,T.tb.step (r _ σ σ),T.st.step (r _ σ σ),ap⟩
theorem WJ.stat{e}(s:Step (λl=>tw l=.st) h h')(g:qs (more (λl=>tw l=.st) h) h' pt e):WJ (Q3 own h .no) (Jh tw h .st) h' p ps pl pr pt { S with st:=e }:=by
 obtain⟨C,r,ap⟩:=T.part σ s;have k:∀l o t,tw l=t->t≠.no->t≠.st->h[l]?=some o->Jh tw h .st l=t/\h'[l]?=some o:=λl o t m j i f=>by
  obtain⟨a,b⟩:=r t j i l (Qb f) m;exact⟨a,b.trans f⟩
 obtain⟨a,b,c,d⟩:=T.ln;exact⟨(k _ _ _ T.tp σ σ T.o).2,(k _ _ _ T.tp σ σ T.o).1,C,⟨a,b,c,(k _ _ _ T.tl σ σ d).2⟩,(k _ _ _ T.tl σ σ d).1,T.tb.step (r _ σ σ),g.step λl _ d=>⟨QCB l d,rfl⟩,ap⟩
theorem WJ.clock(c o):WJ own tw (h.set p (jm ps pl pr pt c o)) p ps pl pr pt { S with Qe:=c,ops:=o }:=by
 have k:∀l x t,tw l=t->t≠.sys->h[l]?=some x->(h.set p (jm ps pl pr pt c o))[l]?=some x:=λl x t f g m=>by
  rw[Qp (λe=>g (by rw[<- f,<- e,T.tp]))];exact m
 have s:∀t,t≠.sys->∀l,l<h.length->tw l=t->tw l=t/\(h.set p (jm ps pl pr pt c o))[l]? = h[l]? := λt g l i f=>
  ⟨f,Qp (λe=>g (by rw[<- f,<- e,T.tp]))⟩
 obtain⟨a,b,d,i⟩:=T.ln;exact⟨QF (Qb T.o),T.tp,T.co.step λl _ j=>⟨rfl,Qp (λe=>j.1 (T.ap l (by rw[<- e,T.tp];simp)))⟩,⟨a,b,d,k _ _ _ T.tl σ i⟩,T.tl,T.tb.step (s _ σ),T.st.step (s _ σ),T.ap⟩
theorem WJ.rules{g}{i}{R}(r:HW (λl=>h.length<=l) (h++g) i R):
  WJ (Q3 own h .no) (Jh tw h .HV) ((h++g).set p (jm ps pl i pt S.Qe S.ops)) p ps pl i pt { S with R:=R }:=by
 have q:=Qb T.o;have k:∀l x t,tw l=t->t≠.no->t≠.sys->h[l]?=some x->Jh tw h .HV l=t/\((h++g).set p (jm ps pl i pt S.Qe S.ops))[l]?=some x:=λl x t f u m j=>by
  refine⟨by rw[VL (Qb j),f],?_⟩;rw[Qp (λe=>m (by rw[<- f,<- e,T.tp])),QE (Qb j)];exact j
 have s:∀t,t≠.no->t≠.sys->∀l,l<h.length->tw l=t->Jh tw h .HV l=t/\((h++g).set p (jm ps pl i pt S.Qe S.ops))[l]? = h[l]? := λt u m l c f=>
  ⟨by rw[VL c,f],by rw[Qp (λe=>m (by rw[<- f,<- e,T.tp])),QE c]⟩
 obtain⟨a,b,d,c⟩:=T.ln;refine⟨QF ξ,by rw[VL q];exact T.tp,T.co.step λl c n=>⟨Kp c,by rw[Qp (λe=>n.1 (T.ap l (by rw[<- e,T.tp];simp))),QE c]⟩,⟨a,b,d,(k _ _ _ T.tl σ σ c).2⟩,(k _ _ _ T.tl σ σ c).1,
  r.step λl c f=>⟨F4 f,Qp (λe=>ω)⟩,T.st.step (s _ σ σ),λl c=>?_⟩
 by_cases f:l<h.length;rw[VL f]at c;rw[Kp f];exact T.ap l c;exact kb ω
end
@[go_sem] def U8(n:Int):D:=.raw (.int .u64 n)
def mm(n m):QI prog 217 [Qa n,Qa m] (QN (QU (decide (1<=n/\n<=m)))):=by
 refine QY 0 func217 ntmps217 results217 λa w b=>?_;simp only[go_sem];first|refine zg (λh=>?_) (λh=>?_)|refine zj (λh=>?_) (λh=>?_)|refine zk (λh=>?_) (λh=>?_)|refine VV (λh=>?_) (λh=>?_)|refine zl (λh=>?_) (λh=>?_)|refine zn (λh=>?_) (λh=>?_)|refine zo (λh=>?_) (λh=>?_)|refine ze (λh=>?_) (λh=>?_)
 all_goals (simp only[go_sem];congr 2;rw[vF];simp only[Xo,qu,false_iff];omega)
def vB(p:Pk)(m:Int):Int:=if ¬(1<=m/\m<=16384) then 1 else if ¬ (1<=p.len/\p.len<=m) then 26 else 0
def QCC(p:Pk)(m):QI prog 157 [.agg p.cells,Qa m] (QN (Qa (vB p m))):=by
 refine QY 0 func157 ntmps157 results157 λc w a=>?_;simp only[go_sem];apply QV a fx (mm m 16384);apply Qg a;by_cases h:1<=m/\m<=16384;simp only[go_sem,QS h];apply QV a fx (mm p.len m);apply Qg a;by_cases b:1<=p.len/\p.len<=m;simp only[go_sem,QS b];simp[vB,h,b];simp only[go_sem,QG b];simp[vB,h,b];simp only[go_sem,QG h];simp[vB,h]
def wJ(p:Pk)(t:Int):Int:=if (1<=t/\t<=65536)/\(1<=p.len/\p.len<=16384) then IntKind.u64.wrap (p.len*t) else 0
def P9(p:Pk)(t:Int):Int:=if (1<=t/\t<=65536)/\(1<=p.len/\p.len<=16384) then 0 else 1
def QCD(p:Pk)(t):QI prog 158 [.agg p.cells,Qa t] (QN (.tup [U8 (wJ p t),Qa (P9 p t)])):=by
 refine QY 0 func158 ntmps158 results158 λc w a=>?_;simp only[go_sem];apply QV a fx (mm t 65536);apply Qg a;by_cases h:1<=t/\t<=65536;simp only[go_sem,QS h];apply QV a fx (mm p.len 16384);apply Qg a;by_cases b:1<=p.len/\p.len<=16384;simp only[go_sem,QS b];have e:IntKind.u64.wrap p.len=p.len:=fF ω ω;have d:IntKind.u64.wrap t=t:=fF ω ω;simp[e,d,wJ,P9,h,b];simp only[go_sem,QG b];simp[wJ,P9,h,b];simp only[go_sem,QG h];simp[wJ,P9,h]
def QCE(h:List Ob){t}(g:1<=t)(f:t<=65536):QM prog 40 h [Qa t] (λd b=>d=.tup [.ptr h.length 0 0 0,Qa 0]/\b=h++[jo 0 0 0 t 0]):=by
 have d1:decide (t<1)=false:=QG ω;have d2:decide (65536<t)=false:=QG ω;refine Q7 func40 ntmps40 results40 λa w c e=>?_;simp only[go_sem,d1,d2]
section
variable {h:List Ob}{lp a b c:Nat}{t:Int}{u:Nat}(ho:(h.map Ob.ro)[lp]?=some (jo a b c t u).ro)
include ho
theorem QaZ(e):Zf prog 45 h [.ptr lp 0 0 0,u64 e] (λd=>d=QU (decide (u<=e))):=by
 refine ZH func45 ntmps45 results45 λf w i F g k j=>?_;rw[<- g]at ho;have l:=Qb ho;simp only[go_sem,ho];all_goals exact W9
theorem QCF:Zf prog 122 h [.ptr lp 0 0 0] (λd=>d=u64 u):=by
 refine ZH func122 ntmps122 results122 λe w g F f j i=>?_;rw[<- f]at ho;have k:=Qb ho;simp only[go_sem,ho];all_goals exact W9
end
def QCG(h:List Ob){f a b c}{t}{u}(g:h[f]?=some (jo a b c t u))(n)(k):QM prog 159 h [.ptr f 0 0 0,Qa n,u64 k] (λd s=>∃C B v,s=h.set f (jo C B v t u)):=by
 have e:∀(x y:Nat),∃z:Nat,IntKind.u64.wrap ((x:Int)+y)=z:=λx y=>⟨(IntKind.u64.wrap ((x:Int)+y)).toNat,η⟩;have l:∀(x:Nat) (y:Int),∃z:Nat,IntKind.u64.wrap ((x:Int)+y)=z:=λx y=>⟨(IntKind.u64.wrap ((x:Int)+y)).toNat,η⟩;obtain⟨q,j⟩:=l a 1;obtain⟨p,E⟩:=l b (IntKind.u64.wrap n);obtain⟨o,i⟩:=e c k;have r:=Qb g;refine Q7 func159 ntmps159 results159 λm w F H=>?_;have I:=Qb g;simp only[go_sem,Qj,g,j,E,i,QF r];exact⟨q,p,o,rfl⟩
def QCJ(h:List Ob){i a b c}{t}{u}(j:h[i]?=some (jo a b c t u))(z:1<=t)(y:t<=65536){e}(V:e<=4611686018427387904)(K:u<=e)(x:Pk)(r:1<=x.len/\x.len<=16384):
  QM prog 119 h [.ptr i 0 0 0,u64 e,.agg x.cells] (λd O=>d=.tup [u64 (e+x.len.toNat*t.toNat),Qa 0]/\∃q p n g,O=h.set i (jo q p n t (e+x.len.toNat*t.toNat))++g):=by
 have l:=Qb j;have R:decide ((4611686018427387904:Int)<(e:Int))=false:=QG ω;have Q:vB x 16384=0:=by unfold vB;rw[Qc σ,Qc ξ]
 have J:x.len.toNat*t.toNat<=1073741824:=Yb (show x.len.toNat<=16384 from ω) (show t.toNat<=65536 from ω);have B:wJ x t=((x.len.toNat*t.toNat:Nat):Int):=by
  have I:x.len*t=((x.len.toNat*t.toNat:Nat):Int):=by
   rw[Bg,Ei ω,Ei ω]
  unfold wJ;rw[Qd ⟨⟨z,y⟩,r⟩,I];exact fF ω ω
 obtain⟨k,L⟩:∃k,k=x.len.toNat*t.toNat:=⟨_,rfl⟩;rw[<- L]at J B ⊢;have P:IntKind.u64.wrap ((e:Int)+(k:Int))=((e+k:Nat):Int):=by rw[fF ω ω];omega
 have s:=QCD x t;have S:P9 x t=0:=by unfold P9;rw[Qd ⟨⟨z,y⟩,r⟩]
 rw[B,S]at s;have v:=QCC x 16384;rw[Q]at v;refine Q7 func119 ntmps119 results119 λF w U f=>?_;have E:=Qb j;simp only[go_sem,Qj,R];apply QV f Qti v;apply J5 f;apply Zz f fa (QaZ (u:=u) (Z4 (by rw[QE l];exact j)) e);apply Qh f;simp only[go_sem,QS K];apply Qv f [0,1,2,3,4,1005,6,7,8,9,10];simp only[go_sem,Qj,j,E];apply ZD f Qtj s;apply ZT f;simp only[go_sem,Qj,j,E,P];apply Vx [6] f [0,1,2,3,4,5,1006] [];simp only[go_sem,Qj];obtain⟨H,m⟩:∃H,H=h.set i (jo a b c t (e+k))++[(⟨.one,0,6,1,λ_=>x.cells⟩:Ob)]:=⟨_,rfl⟩;have C:H[i]?=some (jo a b c t (e+k)):=by rw[m,QE (by simpa using l),QF l]
 have T:=Qb C;have M:∀o:Ob,H.set i o=h.set i o++[(⟨.one,0,6,1,λ_=>x.cells⟩:Ob)]:=λo=>by rw[m,Dj (by simpa using l),JN]
 simp only[go_sem]at m;rw[<- m];refine kS f Qtk (QCG H C x.len k) λd W N=>?_;obtain⟨q,p,n,rfl⟩:=N;apply ZT f;simp only[go_sem,QF T];exact⟨q,p,n,_,M _⟩
def QCK(a):QI prog 254 [u64 a] (QN (QU false)):=by
 have e:((a:Int) != (a:Int))=false:=σ;refine QY 0 func254 ntmps254 results254 λb w c=>?_;simp only[go_sem];simp only[go_sem,e]
def Qk2(a b):QI prog 218 [u64 a,u64 b] (QN (QU (decide (a<b)))):=by
 refine QY 0 func218 ntmps218 results218 λd w c=>?_;simp only[go_sem];apply QV c QfI (QCK a);apply Qh c;simp only[go_sem,Go.undef]
def QCL(h:List Ob)(a b c o)(g)(j:(h.map Ob.ro)[o]?=some ⟨.Ac,0,1,2,g⟩)(q:g 0=[u64 b])(p:g 1=[u64 c]):
  Zf prog 161 h [u64 a,.ref o 0 0 2] (λd=>d=u64 (max (max a b) c)):=by
 simp only[go_sem]at q p;refine ZH func161 ntmps161 results161 λt w y F u z f=>?_;rw[<- u]at j;have B:=Qb j;simp only[go_sem];have x:IntKind.i64.wrap 1=1:=rfl;have v:IntKind.i64.wrap 2=2:=rfl;have i:∀m k:Nat,∃d:Bool,d=decide (m<k)/\max m k=bif d then k else m:=λm k=>⟨_,rfl,by
  by_cases e:m<k;rw[QS e];show _=k;omega;rw[QG e];show _=m;omega⟩
 obtain⟨d1,s,n⟩:=i a b;have L1:=Qk2 a b;rw[<- s]at L1;obtain⟨d2,r,l⟩:=i (max a b) c;have L2:=Qk2 (max a b) c;rw[<- r]at L2;rw[l];rw[n]at L2 ⊢;clear s r n l i;cases d1<;>cases d2;all_goals
  simp only[vL,zT]at L2 ⊢;refine xw 2 ?_;apply Qh f;simp only[go_sem,j,q];apply QV f jH L1;apply Qg f;apply Qh f;simp only[go_sem,j,p];apply QV f jH L2;apply Qg f;apply Qg f;apply Qg f;all_goals exact W9
def QCM(h:List Ob)(a g)(b)(c:(h.map Ob.ro)[g]?=some ⟨.Ac,0,1,1,b⟩)(i:b 0=[u64 a]):
  Zf prog 160 h [.ref g 0 0 1] (λd=>d=u64 (min 9223372036854775808 a)):=by
 simp only[go_sem]at i;have e:min (9223372036854775808:Int) (a:Int)=((min 9223372036854775808 a:Nat):Int):=ω;have k:IntKind.i64.wrap 1=1:=rfl;refine ZH func160 ntmps160 results160 λj w m F l n f=>?_;rw[<- l]at c;have o:=Qb c;simp only[go_sem];refine xw 1 ?_;apply Qh f;simp only[go_sem,c,i,e,k];apply Qg f;apply Qg f;all_goals exact W9
def QCN(a b c):QI prog 121 [u64 a,u64 b,u64 c] (QN (u64 (A5 a b c))):=by
 have e:A5 a b c=min 9223372036854775808 (max (max a b) c):=by unfold A5;omega
 rw[e];refine QY 0 func121 ntmps121 results121 λf w d=>?_;simp only[go_sem];apply Zz d Qtm (QCL _ a b c 0 _ (Z4 (o:=⟨.arr,0,1,2,_⟩) rfl) rfl rfl);apply Qg d;obtain⟨m,g⟩:∃m,m=max (max a b) c:=⟨_,rfl⟩;rw[<- g];apply Zz d Qtl (QCM _ m 1 _ (Z4 (o:=⟨.arr,0,1,1,_⟩) rfl) rfl);exact VE d
def QCO(h:List Ob):QM prog 42 h [] (λd b=>d=.ptr (h.length+2) 0 0 0/\b=h++[QR .i64 0 [],QR .i64 0 [],stO h.length (h.length+1)]):=by
 refine Q7 func42 ntmps42 results42 λa w c e=>?_;simp only[go_sem,Qj]
def F5.put{S}{h w}{p q x E}{f}{J}{K}{s}(T:F5 S h p q x E f J K s){b}{d}{l}(i)
  (Q:w[q]?=some (J1 .i64 E f b d)) (z:∀j o,h[j]?=some o->j≠q->j≠i->w[j]?=some o) (P:MY (more S h) w d l) (H:∀j g off n,d=.ref j g off n->j=i)
  (y:∀k j g off n,k≠b->ZY f k=some (.ref j g off n)->j≠i) (O:p≠i) (N:x≠i) :
  qs (more S h) w p { s with Jg:=λk=>if k=b then l else s.Jg k }:=by
 obtain⟨W,F,U,C⟩:=Qcs .i64 E f b d;have Z:p≠q:=λe=>by have:=T.o;rw[e,T.co]at this;cases this
 refine⟨q,x,W,F,J,K,z _ _ T.o Z O,by rw[Q,U],z _ _ T.ro (Q8 T.ne) N,T.ne,.inl T.sp,.inl T.sc,.inl T.sr,λk=>?_,λv u j g off n V L M a c=>?_,T.rw_⟩;rw[C k];by_cases m:k=b;rw[Qd m];dsimp only;rw[Qd m];exact P;rw[Qc m];dsimp only;rw[Qc m];rcases T.ca k with ⟨a,c⟩|⟨j,g,off,row,a,c,B,R⟩;exact .inl ⟨a,c⟩;have Y:ZY f k=some (.ref j g off (s.Jg k).length):=by
  cases I:ZY f k with
  | none=>rw[I]at a;cases a
  | some d'=>rw[I]at a;exact congrArg some a
 refine .inr ⟨j,g,off,row,a,.inl c,z j _ B (λe=>?_) (y k _ _ _ _ m Y),R⟩;rw[e,T.co]at B;cases B;rw[C v]at a;rw[C u]at c;by_cases t:v=b<;>by_cases r:u=b;rw[t,r];rw[Qd t]at a;rw[Qc r]at c;exact absurd (H _ _ _ _ (Ix a)) (y u _ _ _ _ r c);rw[Qc t]at a;rw[Qd r]at c;exact absurd (H _ _ _ _ (Ix c)) (y v _ _ _ _ t a);rw[Qc t]at a;rw[Qc r]at c;exact T.sep v u j g off n V L M a c
def QCP{S}{h}{p}{s:DZ}(T:qs S h p s)(b:Int)(a)(E:(s.Jg b).length<1000000):
  QM prog 79 h [.ptr p 0 0 0,Qa b,u64 a] (λd Z=>d=Qa 0/\Step S h Z/\qs (more S h) Z p (wF s b a)):=by
 obtain⟨F,rm,O,z,c2,Z7,T⟩:=T;have t:=T.o;have v:=T.co;have H:=Qb t;have u:=Qb v;have M:=T.ca b;have SC:p≠F:=λe=>by rw[e,v]at t;cases t
 have QZ:wF s b a={ s with Jg:=λk=>if k=b then s.Jg b++[a] else s.Jg k }:=by
  unfold wF;congr 1;funext k;by_cases m:k=b;rw[Qd m,Qd m,m];rw[Qc m,Qc m]
 rw[QZ];have R8:∀k j g f n,ZY z k=some (.ref j g f n)->j<h.length:=λk j g f n m=>by
  rcases T.ca k with ⟨x,_⟩|⟨j',_,_,_,x,_,q,_⟩;rw[m]at x;cases x;rw[m]at x;cases x;exact Qb q
 have K:(ZY z b=none\/ZY z b=some .nil)->s.Jg b=[]->Step S h (h.set F (J1 .i64 O z b (.ref (h.length+1) 0 0 1))++[⟨.arr,0,1,1,λ_=>[u64 a]⟩,⟨.arr,0,1,1,λ_=>[u64 a]⟩]) /\
   qs (more S h) (h.set F (J1 .i64 O z b (.ref (h.length+1) 0 0 1))++[⟨.arr,0,1,1,λ_=>[u64 a]⟩,⟨.arr,0,1,1,λ_=>[u64 a]⟩]) p { s with Jg:=λk=>if k=b then s.Jg b++[a] else s.Jg k }:=λm Q=>by
  refine⟨⟨λl R N=>?_,σ⟩,T.put (d:=.ref (h.length+1) 0 0 1) (h.length+1) ?_ (λj o I x y=>?_) (.inr ⟨h.length+1,0,0,λ_=>[u64 a],by simp[Q],.inr ω,?_,λi J=>?_⟩) (λj g f n e=>by cases e;rfl) (λk j g f n _ ZJ=>by have:=R8 k _ _ _ _ ZJ;omega) ω (by have:=Qb T.ro;omega)⟩;rw[QE (by simpa using R),Qp (λe=>N (by rw[<- e];exact T.sc))];rw[QE (by simpa using u),QF u];rw[QE (by simpa using Qb I),Qp (Q8 x),I];rw[VD (k:=1) σ,Q];rfl;rw[Q]at J ⊢;simp at J;subst J;rfl
 cases m:ZY z b with
 | none=>
  rw[m]at M;have c:=K (.inl m) M.nil;refine Q7 func79 ntmps79 results79 λB w U E=>?_;have H:=Qb t;have u:=Qb v;simp only[go_sem];apply Vx [] E [0,1,2,4,5,6,7,8,9,10,11] [3,12,13,14];simp only[go_sem,Qj,t,H,v,u,m];simp only[go_sem]at c ⊢
  repeat' apply And.intro
  all_goals first|exact c.1|exact c.2
 | some d=>
  rw[m]at M;rcases M with ⟨y,q⟩|⟨r,g,f,C,y,Y,q,h4⟩
  .simp only[KW]at y;subst y;have c:=K (.inr m) q;refine Q7 func79 ntmps79 results79 λB w U E=>?_;have H:=Qb t;have u:=Qb v;simp only[go_sem];apply Vx [] E [0,1,2,4,5,6,7,8,9,10,11] [3,12,13,14];simp only[go_sem,Qj,t,H,v,u,m];simp only[go_sem]at c ⊢
   repeat' apply And.intro
   all_goals first|exact c.1|exact c.2
  .simp only[KW]at y;subst y;have W:r≠p:=λe=>by rw[e,t]at q;cases q
   have V:r≠F:=λe=>by rw[e,v]at q;cases q
   have n3:r≠rm:=λe=>by rw[e,T.ro]at q;cases q
   have VX:(s.Jg b).length<=4294967295:=ω;have h9:(s.Jg b).length+1<=4294967295:=ω;have P:=Qb q;have c:Step S h ((h.set r ⟨.arr,g+1,1,(s.Jg b).length+1,JO (s.Jg b).length f C λ_=>[u64 a]⟩).set F (J1 .i64 O z b (.ref r (g+1) 0 ((s.Jg b).length+1)))++[⟨.arr,0,1,1,λ_=>[u64 a]⟩]) /\
     qs (more S h) ((h.set r ⟨.arr,g+1,1,(s.Jg b).length+1,JO (s.Jg b).length f C λ_=>[u64 a]⟩).set F (J1 .i64 O z b (.ref r (g+1) 0 ((s.Jg b).length+1)))++[⟨.arr,0,1,1,λ_=>[u64 a]⟩]) p { s with Jg:=λk=>if k=b then s.Jg b++[a] else s.Jg k }:=by
    refine⟨⟨λl R N=>?_,σ⟩,T.put (d:=.ref r (g+1) 0 ((s.Jg b).length+1)) r ?_ (λj o I x y=>?_) (.inr ⟨r,g+1,0,JO (s.Jg b).length f C λ_=>[u64 a],σ,.inl Y,?_,λi J=>?_⟩) (λj g f n e=>by cases e;rfl) (λk j g' wX n' QC ZI e=>?_) (Q8 W) (Q8 n3)⟩;rw[QE (by simpa using R),Qp (λe=>N (by rw[<- e];exact T.sc)),Qp (λe=>N (by rw[<- e];exact Y))];rw[QE (by simpa using u),QF (by simpa using u)];rw[QE (by simpa using Qb I),Qp (Q8 x),Qp (Q8 y),I];rw[QE (by simpa using P),Qp (Q8 V),QF P];simp;simp at J;rw[Jz];by_cases L:i<(s.Jg b).length;rw[Bo L,h4 i L];simp[L,JJ L];have:i=(s.Jg b).length:=ω;subst this;rw[x9 (QB _)];simp;subst e;exact QC (T.sep _ _ _ _ _ _ _ _ _ ZI m)
   refine Q7 func79 ntmps79 results79 λB w U E=>?_;have H:=Qb t;have u:=Qb v;have P:=Qb q;simp only[go_sem];apply Vx [] E [0,1,2,4,5,6,7,8,9,10,11] [3,12,13,14];simp only[go_sem,Qj,t,H,v,u,m,Qp,q,P,W,V,VX];simp only[go_sem]at c ⊢
   repeat' apply And.intro
   all_goals first|exact c.1|exact c.2
def F5.row{S}{h h'}{p t a u}{v}{i}{l}{s}(T:F5 S h p t a u v i l s){cls}{r}
  (w:h'[a]?=some (J1 .i64 i l cls (.agg r.cells))) (c:∀j o,h[j]?=some o->j≠a->h'[j]?=some o) :
  ∃q E,F5 S h' p t a u v q E { s with rows:=λk=>if k=cls then r else s.rows k }:=by
 obtain⟨C,n,z,y⟩:=Qcs .i64 i l cls (.agg r.cells);have F:p≠a:=λe=>by have:=T.o;rw[e,T.ro]at this;cases this
 refine⟨C,n,c _ _ T.o F,c _ _ T.co T.ne,by rw[w,z],T.ne,T.sp,T.sc,T.sr,λk=>?_,T.sep,λk=>?_⟩;rcases T.ca k with f|⟨j,g,m,row,f,B,d,x⟩;exact .inl f;refine .inr ⟨j,g,m,row,f,B,c j _ d (λe=>?_),x⟩;rw[e,T.ro]at d;cases d;rw[y k];dsimp only;by_cases b:k=cls;rw[Qd b,Qd b];rfl;rw[Qc b,Qc b];exact T.rw_ k
def j9.QCQ{a b:j9}(h:a.cells=b.cells):a=b:=by
 obtain⟨u,t,s,q,o⟩:=a;obtain⟨n,m,k,j,i⟩:=b;simp only[j9.cells,u64,Ig,D.raw.injEq,Value.int.injEq,vM,and_true]at h;obtain⟨g,f,e,d,c⟩:=h;congr 1<;>omega
def Ra(a b:Nat):IntKind.u64.wrap ((a:Int)+(b:Int))=(((a+b)%18446744073709551616:Nat):Int):=by
 rw[IntKind.wrap_u64];omega
def QCR{S}{h}{p}{s}(T:qs S h p s)(b){done}(hd:done<18446744073709551616){bytes}(KO:1<=bytes)(ZR:bytes<=16384)(c):
  QM prog 120 h [.ptr p 0 0 0,Qa b,u64 done,Qa bytes,QU c] (λd h'=>Step S h h'/\qs (more S h) h' p (qn s b done bytes c)):=by
 obtain⟨U,O,c1,V,c2,N,T⟩:=T;have q:=T.o;have y:=T.co;have L:=T.ro;have QC:=T.ne;have F:=Qb q;have J:=Qb y;have W:=Qb L;have hp:=T.ca b;have SC:p≠U:=λe=>by rw[e,y]at q;cases q
 have Ea:p≠O:=λe=>by rw[e,L]at q;cases q
 have a0:∀g:List Ob,qn s b done bytes c=s->Step S h (h++g)/\qs (more S h) (h++g) p (qn s b done bytes c):=λg e=>by
  rw[e];exact⟨Step.app S h g,qs.step (λj R M=>⟨.inl M,QE R⟩) ⟨U,O,c1,V,c2,N,T⟩⟩
 have mn:qn s b done bytes c=s->Step S h h/\qs (more S h) h p (qn s b done bytes c):=λe=>by
  have:=a0 [] e;rwa [JS]at this
 obtain⟨r,Bk⟩:∃r,r=s.rows b:=⟨_,rfl⟩;have ZW:=T.rw_ b;rw[<- Bk]at ZW;cases C:ZY V b with
 | none=>
  rw[C]at hp;have h0:=hp.nil;have t:=mn (by unfold qn;rw[h0]);refine Q7 func120 ntmps120 results120 λz w pl u=>?_;have F:=Qb q;have J:=Qb y;simp only[go_sem,q,y,C];exact t
 | some d=>
  rw[C]at hp;rcases hp with ⟨Z,f⟩|⟨P,g,m,a2,Z,hS,f,h4⟩;simp only[KW]at Z;subst Z;have t:=mn (by unfold qn;rw[f]);refine Q7 func120 ntmps120 results120 λz w pl u=>?_;have F:=Qb q;have J:=Qb y;simp only[go_sem,q,y,C];exact t
  .simp only[KW]at Z;subst Z;have B:=Qb f;cases hc:s.Jg b with
   | nil=>
    have t:=mn (by unfold qn;rw[hc]);rw[hc]at C;refine Q7 func120 ntmps120 results120 λz w pl u=>?_;have F:=Qb q;have J:=Qb y;simp only[go_sem,q,y,C];exact t
   | cons a l=>
    rw[hc]at C f h4;have I:=h4 0 σ;simp only[go_sem,x6,List.getD_cons_zero]at I;have d1:decide (bytes<1)=false:=QG ω;have d0:(((l.length+1:Nat):Int)==0)=false:=ξ;have x:(0:Int)<((l.length+1:Nat):Int):=ω;have v:m<m+(l.length+1):=ω;have n1:P≠p:=λe=>by rw[e,q]at f;cases f
    have n2:P≠U:=λe=>by rw[e,y]at f;cases f
    have Y:O≠P:=λe=>by rw[<- e,L]at f;cases f
    have R8:∀k j g m n,ZY V k=some (.ref j g m n)->j<h.length:=λk j g m n C=>by
     rcases T.ca k with ⟨M,_⟩|⟨j',_,_,_,M,_,f,_⟩;rw[C]at M;cases M;rw[C]at M;cases M;exact Qb f
    have uX:∀(E:j9) (o:Ob),qn s b done bytes c=⟨λk=>if k=b then l else s.Jg k,λk=>if k=b then E else s.rows k⟩ ->
      Step S h ((h.set O (J1 .i64 c2 N b (.agg E.cells))).set U (J1 .i64 c1 V b (.ref P g (m+1) l.length))++[o])/\qs (more S h) ((h.set O (J1 .i64 c2 N b (.agg E.cells))).set U (J1 .i64 c1 V b (.ref P g (m+1) l.length))++[o]) p (qn s b done bytes c):=λE o e=>by
     rw[e];obtain⟨a4,Fv,T1⟩:=T.row (h':=h.set O (J1 .i64 c2 N b (.agg E.cells))) (r:=E) (cls:=b) (QF W) (λj o R M=>by rw[Qp (Q8 M)];exact R);have a1:(h.set O (J1 .i64 c2 N b (.agg E.cells))).length=h.length:=σ;have Un:more S (h.set O (J1 .i64 c2 N b (.agg E.cells)))=more S h:=by unfold more;rw[a1]
     refine⟨⟨λj R hn=>?_,σ⟩,?_⟩;rw[QE (by simpa using R),Qp (λe=>hn (by rw[<- e];exact T.sc)),Qp (λe=>hn (by rw[<- e];exact T.sr))];rw[<- Un];refine T1.put (d:=.ref P g (m+1) l.length) P ?_ (λj o R M Z=>?_) (.inr ⟨P,g,m+1,a2,rfl,.inl hS,?_,λi hi=>?_⟩) (λj g m n e=>by cases e;rfl) (λk j g' wX n' QC ZI e=>?_) (Q8 n1) Y;rw[QE (by simpa using J),QF (by simpa using J)];rw[QE (by have:=Qb R;simpa using this),Qp (Q8 M),R];rw[QE (by simpa using B),Qp (Q8 n2),Qp Y,f];simp only[Kw,Q5,Ob.mk.injEq,vM,and_true];omega;rw[show m+1+i=m+(i+1) by omega,h4 (i+1) (by simpa using hi)];simp;subst e;exact QC (T.sep _ _ _ _ _ _ _ _ _ ZI C)
    by_cases h5:done<a;have d2:=QS h5;have t:=mn (by unfold qn;rw[hc];dsimp only;rw[Qc ω,Qd h5]);refine Q7 func120 ntmps120 results120 λz w pl u=>?_;have F:=Qb q;have J:=Qb y;have B:=Qb f;simp only[go_sem,q,y,f,C,d0,d1,d2,I];exact⟨x,v,t⟩
    .have d2:=QG h5;have e0:qn s b done bytes c=⟨λk=>if k=b then l else s.Jg k,λk=>if k=b then yY r a done bytes c else s.rows k⟩:=by
      unfold qn;rw[hc];dsimp only;rw[Qc ω,Qc h5];congr 1;funext k;by_cases qH:k=b;rw[Qd qH,Qd qH,qH,<- Bk];rw[Qc qH,Qc qH]
     have t:∀(o:Ob) (E:j9),E=yY r a done bytes c->∀n,n=l.length->Step S h ((h.set O (J1 .i64 c2 N b (.agg E.cells))).set U (J1 .i64 c1 V b (.ref P g (m+1) n))++[o])/\qs (more S h) ((h.set O (J1 .i64 c2 N b (.agg E.cells))).set U (J1 .i64 c1 V b (.ref P g (m+1) n))++[o]) p (qn s b done bytes c):=λo E a3 n hn=>by
      subst hn;exact uX E o (by rw[e0,a3])
     have w1:IntKind.u64.wrap ((r.p:Int)+1)=(((r.p+1)%18446744073709551616:Nat):Int):=Ra r.p 1;have w2:IntKind.u64.wrap bytes=((bytes.toNat:Nat):Int):=η;have w3:=Ra r.b bytes.toNat
     have w4:IntKind.u64.wrap ((r.r:Int)+1)=(((r.r+1)%18446744073709551616:Nat):Int):=Ra r.r 1;have Q:IntKind.u64.wrap ((done:Int)-(a:Int))=((done-a:Nat):Int):=η;have w6:=Ra r.w (done-a);have w7:max ((r.l:Nat):Int) ((done-a:Nat):Int)=((max r.l (done-a):Nat):Int):=ω;have H:(((l.length+1:Nat):Int)-1).toNat=l.length:=ω;have ZJ:(ZY N b=some (.agg r.cells))\/(ZY N b=none/\r=default):=by
      cases hh:ZY N b with
      | some d=>rw[hh]at ZW;exact .inl (congrArg some ZW)
      | none=>
       rw[hh]at ZW;have ZW:D.agg (default:j9).cells=D.agg r.cells:=ZW;exact .inr ⟨rfl,(j9.QCQ (D.agg.inj ZW)).symm⟩
     rcases ZJ with ZJ|⟨ZJ,Xe⟩
     .refine Q7 func120 ntmps120 results120 λz w pl u=>?_;have F:=Qb q;have J:=Qb y;have B:=Qb f;have W:=Qb L;simp only[go_sem,Qj,q,y,f,L,C,d0,d1,d2,I,ZJ,w1,w2,w3];cases c with
      | true=>
       have K:=t ⟨.one,0,5,1,λ_=>(yY r a done bytes true).cells⟩ _ rfl _ H;simp only[go_sem,yY,↓reduceIte,H]at K;simp only[go_sem,Qj,w4];repeat (refine And.intro (by first|exact x|exact v|omega) ?_)
       apply Qv u i5;simp only[go_sem,Qj,f,B,I,Q,w6];repeat (refine And.intro (by first|exact x|exact v|omega) ?_)
       apply Qv u i5;simp only[go_sem,Qj,f,B,I,Q,w7];repeat (refine And.intro (by first|exact x|exact v|omega) ?_)
       apply Qv u i7;simp only[go_sem,Qj,q,F,L,W];repeat (refine And.intro (by first|exact x|exact v|omega) ?_)
       apply Qv u ut;simp only[go_sem,Qj,q,F,f,B,y,J,Qp Ea.symm,Qp QC.symm,Qp Y];repeat (refine And.intro (by first|exact x|exact v|omega) ?_)
       simp only[go_sem,H];exact K
      | false=>
       have K:=t ⟨.one,0,5,1,λ_=>(yY r a done bytes false).cells⟩ _ rfl _ H;simp only[go_sem,yY,↓reduceIte,H,qu]at K;simp only[go_sem];repeat (refine And.intro (by first|exact x|exact v|omega) ?_)
       apply Qv u i5;simp only[go_sem,Qj,f,B,I,Q,w6];repeat (refine And.intro (by first|exact x|exact v|omega) ?_)
       apply Qv u i5;simp only[go_sem,Qj,f,B,I,Q,w7];repeat (refine And.intro (by first|exact x|exact v|omega) ?_)
       apply Qv u i7;simp only[go_sem,Qj,q,F,L,W];repeat (refine And.intro (by first|exact x|exact v|omega) ?_)
       apply Qv u ut;simp only[go_sem,Qj,q,F,f,B,y,J,Qp Ea.symm,Qp QC.symm,Qp Y];repeat (refine And.intro (by first|exact x|exact v|omega) ?_)
       simp only[go_sem,H];exact K
     .have Xe:r=⟨0,0,0,0,0⟩:=Xe;subst Xe;have v1:IntKind.u64.wrap 1=1:=rfl;have v3:IntKind.u64.wrap (0+((bytes.toNat:Nat):Int))=(((0+bytes.toNat)%18446744073709551616:Nat):Int):=Ra 0 bytes.toNat
      have v6:IntKind.u64.wrap (0+((done-a:Nat):Int))=(((0+(done-a))%18446744073709551616:Nat):Int):=Ra 0 (done-a);have v7:max (0:Int) ((done-a:Nat):Int)=((max 0 (done-a):Nat):Int):=ω;refine Q7 func120 ntmps120 results120 λz w pl u=>?_;have F:=Qb q;have J:=Qb y;have B:=Qb f;have W:=Qb L;simp only[go_sem,Qj,q,y,f,L,C,d0,d1,d2,I,ZJ,w2,v1,v3];cases c with
      | true=>
       have K:=t ⟨.one,0,5,1,λ_=>(yY ⟨0,0,0,0,0⟩ a done bytes true).cells⟩ _ rfl _ H;simp only[go_sem,yY,↓reduceIte,H]at K;simp only[go_sem,Qj,v1];repeat (refine And.intro (by first|exact x|exact v|omega) ?_)
       apply Qv u i5;simp only[go_sem,Qj,f,B,I,Q,v6];repeat (refine And.intro (by first|exact x|exact v|omega) ?_)
       apply Qv u i5;simp only[go_sem,Qj,f,B,I,Q,v7];repeat (refine And.intro (by first|exact x|exact v|omega) ?_)
       apply Qv u i7;simp only[go_sem,Qj,q,F,L,W];repeat (refine And.intro (by first|exact x|exact v|omega) ?_)
       apply Qv u ut;simp only[go_sem,Qj,q,F,f,B,y,J,Qp Ea.symm,Qp QC.symm,Qp Y];repeat (refine And.intro (by first|exact x|exact v|omega) ?_)
       simp only[go_sem,H];exact K
      | false=>
       have K:=t ⟨.one,0,5,1,λ_=>(yY ⟨0,0,0,0,0⟩ a done bytes false).cells⟩ _ rfl _ H;simp only[go_sem,yY,↓reduceIte,H,qu]at K;simp only[go_sem];repeat (refine And.intro (by first|exact x|exact v|omega) ?_)
       apply Qv u i5;simp only[go_sem,Qj,f,B,I,Q,v6];repeat (refine And.intro (by first|exact x|exact v|omega) ?_)
       apply Qv u i5;simp only[go_sem,Qj,f,B,I,Q,v7];repeat (refine And.intro (by first|exact x|exact v|omega) ?_)
       apply Qv u i7;simp only[go_sem,Qj,q,F,L,W];repeat (refine And.intro (by first|exact x|exact v|omega) ?_)
       apply Qv u ut;simp only[go_sem,Qj,q,F,f,B,y,J,Qp Ea.symm,Qp QC.symm,Qp Y];repeat (refine And.intro (by first|exact x|exact v|omega) ?_)
       simp only[go_sem,H];exact K
@[go_sem] def QJH(k:List Int):List D:=k.map λn=>.raw (.int .u16 n)
def Qk3:QI prog 67 [] (QN (.agg [.raw (.int .u16 65535),.raw (.int .u16 65535),.raw (.int .u16 65535),.raw (.int .u16 65535)])):=by
 refine QY 0 func67 ntmps67 results67 λa w b=>?_;simp only[go_sem]
def Qk4(i h g f e d c b):QI prog 66 [.agg [.raw (.int .u16 i),.raw (.int .u16 h),.raw (.int .u16 g),.raw (.int .u16 f)],.agg [.raw (.int .u16 e),.raw (.int .u16 d),.raw (.int .u16 c),.raw (.int .u16 b)]]
  (QN (.agg [.raw (.int .u16 (wG i e)),.raw (.int .u16 (wG h d)),.raw (.int .u16 (wG g c)),.raw (.int .u16 (wG f b))])):=by
 refine QY 0 func66 ntmps66 results66 λj w a=>?_;simp only[go_sem];have n:IntKind.i64.wrap 1=1:=rfl;have m:IntKind.i64.wrap 2=2:=rfl;have l:IntKind.i64.wrap 3=3:=rfl;have k:IntKind.i64.wrap 4=4:=rfl;refine xw 4 ?_;apply Qg a;apply Qv a i9;simp only[go_sem];apply Qg a;apply Qv a i9;simp only[go_sem];apply Qg a;apply Qv a i9;simp only[go_sem];apply Qg a;apply Qv a i9;simp only[go_sem];apply Qg a;apply Qg a;rfl
theorem QCS(r:JP)(x:Pk):zN r (Z1 x)=(wG x.xq r.AA==r.Lx&&(wG x.xr r.AB==r.Lz&&(wG x.xu r.E7==r.LA&&(wG x.xv r.Dn==r.E8&&true)))):=rfl
@[go_sem] def mu(x:Pk):List D:=[.raw (.int .u16 x.xq),.raw (.int .u16 x.xr),.raw (.int .u16 x.xu),.raw (.int .u16 x.xv)]
def Qk5(r:JP)(x):QI prog 114 [.agg r.cells,.agg (mu x)] (QN (QU (zN r (Z1 x)))):=by
 rw[QCS];refine QY 0 func114 ntmps114 results114 λb w a=>?_;simp only[go_sem];apply Qv a [0,1,2,4,5,1003,6,7];simp only[go_sem];apply ZD a ph (Qk4 x.xq x.xr x.xu x.xv r.AA r.AB r.E7 r.Dn);exact Fb a
structure Qk6 (h:List Ob) (p:Nat) (dr:D) (le:Nat) (dm:D) (c:Nat) (es:List XF) (ms:List Nat) (R:List JP):Prop where
 o:(h.map Ob.ro)[p]?=some (MX dr le dm).ro
 eo:(h.map Ob.ro)[le]?=some (vT c es).ro
 rs:(dr=.nil/\R=[])\/∃lo g row,dr=.ref lo g 0 R.length/\(h.map Ob.ro)[lo]?=some ⟨.Ac,g,9,R.length,row⟩/\∀i,i<R.length->row i=(R.getD i default).cells
 mo:(dm=.nil/\ms=[])\/∃lo g row,dm=.ref lo g 0 ms.length/\(h.map Ob.ro)[lo]?=some ⟨.Ac,g,1,ms.length,row⟩/\∀i,i<ms.length->row i=[Qa ((ms.getD i 0:Nat):Int)]
 I:YR R R.length es ms
 ok:qR R=0
def QaY.toR{S}{h}{p}{l}{j}{m}{c}{k}{i}{R}(T:QaY S h p l j m c k i R):Qk6 h p l j m c k i R:=
 ⟨Z4 T.o,Z4 T.eo,T.rs.imp id λ⟨b,g,a,f,_,e,d⟩=>⟨b,g,a,f,Z4 e,d⟩,T.mo.imp id λ⟨b,g,a,f,_,e,d⟩=>⟨b,g,a,f,Z4 e,d⟩,T.I,T.ok⟩
def Qa0{R}(h:qR R=0):∀r∈R,1<=r.cls:=λr a=>by
 unfold qR at h;split at h;cases h;split at h;rename_i b;have:=qV.1 b r a;unfold yZ at this;simp only[ZE,Xo]at this;exact this.1.1;cases h
def inc_le:∀(c:List Nat) (n b:Nat),c.Pairwise (·<·)->(∀j∈c,b<=j/\j<n)->c.length<=n-b
 | [],n,b,_,_=>Jj _
 | a::c,n,b,d,h=>by
  rw[Aa]at d;have f:=h a σ;have:=inc_le c n (a+1) d.2 λj e=>⟨d.1 j e,(h j (by simp[e])).2⟩;simp only[Kw];omega
def QCT{h}{p}{dr}{le}{dm}{c}{es}{b}{R}(T:Qk6 h p dr le dm c es b R)(x)(hx:U6 x):
  Zf prog 77 h [.ptr p 0 0 0,.agg (mu x)] (λd=>d=.tup [Qa (Ki R (Z1 x)),Qa (if Ki R (Z1 x)=0 then 31 else 0)]):=by
 have l:=T.o;have y:=T.eo;have h4:=T.I.four;obtain⟨q,Y⟩:∃q,q=Xh es (Z1 x):=⟨_,rfl⟩;have Eb:=Y;simp only[Z1]at Eb;have a0:∀j,j<b.length->b.getD j 0∈b:=λj g=>qE b 0 j g;have U9:∀i∈b,∃j,j<b.length/\b.getD j 0=i:=λi K=>by
  obtain⟨j,g,e⟩:=vH K;exact⟨j,g,by rw[QW,QJ g];exact e⟩
 have Am:b.length<=32:=by
  have h1:=inc_le b R.length 0 T.I.inc λj g=>⟨Jj j,((T.I.mem j).1 g).1⟩;have h2:R.length<=32:=by
   have:=T.ok;unfold qR at this;split at this;cases this;omega
  omega
 have a2:∀j k,j<k->k<b.length->b.getD j 0<b.getD k 0:=λj k Wr hk=>by
  have:=List.pairwise_iff_getElem.1 T.I.inc j k ω hk Wr;rw[QW,QW,QJ hk,QJ (show j<b.length from ω)];exact this
 have W:∀j k,j<b.length->b.getD j 0<b.getD k 0->j<k:=λj k g h=>wP λhc=>by
  rcases Nat.lt_or_eq_of_le (Nat.le_of_not_lt hc) with h2|h2;have:=a2 k j h2 g;omega;rw[h2]at h;omega
 cases q with
 | none=>
  have u:(∀j∈b,zN (JF R j) (Z1 x)=false)->Ki R (Z1 x)=0:=λz=>by
   unfold Ki;rw[T.I.none hx Y.symm z]
  rcases T.mo with ⟨rfl,rfl⟩|⟨lm,gm,a1,rfl,J,qI⟩
  .rw[u (λj g=>by cases g),Qd rfl];refine ZH func77 ntmps77 results77 λH w pl F P Zj f=>?_;rw[<- P]at l y;have n:=Qb l;have Q:=Qb y;simp only[go_sem];apply Qv f i4;simp only[go_sem,Qj,l,n,y,Q,<- Eb];refine⟨h4,?_⟩;refine xw 0 ?_;apply Qg f;apply Qg f;all_goals exact W9
  .refine ZH func77 ntmps77 results77 λH w pl F P Zj f=>?_;rw[<- P]at l y J;have n:=Qb l;have Q:=Qb y;have Z:=Qb J;simp only[go_sem];apply Qv f i4;simp only[go_sem,Qj,l,n,y,Q,<- Eb];refine⟨h4,?_⟩;refine ZN (λk s=>(∀j,j<k->zN (JF R (b.getD j 0)) (Z1 x)=false)/\s=⟨[(0,.ptr p 0 0 0),(3,.ptr F.length 0 0 0),(6,Qa 0),(7,QU false),(24,.ref lm gm 0 b.length),(25,Qa b.length),(26,Qa k)],F++[(⟨.one,0,4,1,λ_=>mu x⟩:Ob)]⟩) b.length QO ⟨λj g=>absurd g (Yc j),rfl⟩ ?_;rintro k _ hk ⟨z,rfl⟩;by_cases t:k<b.length
   .have dk:=QS t;have QQ:=Jr (show k<4611686018427387904 from ω);obtain⟨i,K⟩:∃i,i=b.getD k 0:=⟨_,rfl⟩;have LQ:=a0 k t;rw[<- K]at LQ;obtain⟨o,U⟩:=(T.I.mem i).1 LQ;have I:=qI k t;rw[<- K]at I;rcases T.rs with ⟨h1,h2⟩|⟨lr,gr,mv,rfl,m,Bk⟩;rw[h2]at o;simp at o;rw[<- P]at m;have C:=Qb m;have B:mv i=(JF R i).cells:=Bk i o;obtain⟨r,E⟩:∃r,r=JF R i:=⟨_,rfl⟩;rw[<- E]at B;have M:=Qk5 r x;simp only[go_sem]at B I;cases O:zN r (Z1 x) with
    | false=>
     rw[O]at M;apply Qh f;simp only[go_sem,Qj,t,J,Z,I,Go.undef];apply Qv f i9;simp only[go_sem,Qj,l,n,m,C,B,o];apply ZD f fm M;apply LC f;repeat (refine And.intro δ ?_)
     refine⟨_,Qo.frame (fr':=[(0,.ptr p 0 0 0),(3,.ptr F.length 0 0 0),(6,Qa 0),(7,QU false),(24,.ref lm gm 0 b.length),(25,Qa b.length),(26,Qa (k+1:Nat))]) (by simp only[go_sem,QQ]),λj g=>?_,rfl⟩;rcases vK.1 g with h5|rfl;exact z j h5;rw[<- K,<- E];exact O
    | true=>
     rw[O]at M;have e0:Ki R (Z1 x)=r.cls:=by
      unfold Ki;rw[T.I.XE hx o U (by rw[<- E];exact O) (λj g vV=>?_) (λa' V6=>?_),<- E];obtain⟨v,N,L⟩:=U9 j g;rw[<- L];exact z v (W v k N ω);rw[<- Y]at V6;cases V6
     have Al:=Qa0 T.ok r (by rw[E];exact qE R default i o);rw[e0,Qc ω];apply Qh f;simp only[go_sem,Qj,t,J,Z,I,Go.undef];apply Qv f i9;simp only[go_sem,Qj,l,n,m,C,B,o];apply ZD f fm M;apply ZT f;simp only[go_sem,Qj,l,n,m,C,B,o];all_goals exact W9
   .have ZJ:k=b.length:=ω;have dk:=QG t;subst ZJ;have KB:∀j∈b,zN (JF R j) (Z1 x)=false:=λj g=>by
     obtain⟨v,N,L⟩:=U9 j g;rw[<- L];exact z v N
    rw[u KB,Qd rfl];apply Qh f;simp only[go_sem,dk];apply Qg f;all_goals exact W9
 | some d=>
  obtain⟨a,rfl,S,Og,DK,a4⟩:=T.I.yes _ _ Y.symm;rcases T.rs with ⟨h1,h2⟩|⟨lr,gr,mv,rfl,m,Bk⟩;rw[h2]at S;simp at S;have af:mv a=(JF R a).cells:=Bk a S;obtain⟨ra,V⟩:∃r,r=JF R a:=⟨_,rfl⟩;rw[<- V]at af;have FN:=Qa0 T.ok ra (by rw[V];exact qE R default a S);have u:(∀j∈b,j<a->zN (JF R j) (Z1 x)=false)->Ki R (Z1 x)=ra.cls:=λz=>by
   unfold Ki;rw[(T.I.whole hx Y.symm z).2,<- V]
  simp only[go_sem]at af;rcases T.mo with ⟨rfl,rfl⟩|⟨lm,gm,a1,rfl,J,qI⟩
  .rw[u (λj g=>by cases g),Qc ω];refine ZH func77 ntmps77 results77 λH w pl F P Zj f=>?_;rw[<- P]at l y m;have n:=Qb l;have Q:=Qb y;have C:=Qb m;simp only[go_sem];apply Qv f i4;simp only[go_sem,Qj,l,n,y,Q,<- Eb];refine⟨h4,?_⟩;refine xw 0 ?_;apply Qg f;apply Qh f;simp only[go_sem,Qj,l,n,m,C,af,S];all_goals exact W9
  .refine ZH func77 ntmps77 results77 λH w pl F P Zj f=>?_;rw[<- P]at l y m J;have n:=Qb l;have Q:=Qb y;have C:=Qb m;have Z:=Qb J;simp only[go_sem];apply Qv f i4;simp only[go_sem,Qj,l,n,y,Q,<- Eb];refine⟨h4,?_⟩;refine ZN (λk s=>(∀j,j<k->zN (JF R (b.getD j 0)) (Z1 x)=false)/\s=⟨[(0,.ptr p 0 0 0),(3,.ptr F.length 0 0 0),(6,Qa a),(7,QU true),(24,.ref lm gm 0 b.length),(25,Qa b.length),(26,Qa k)],F++[(⟨.one,0,4,1,λ_=>mu x⟩:Ob)]⟩) b.length QO ⟨λj g=>absurd g (Yc j),rfl⟩ ?_;rintro k _ hk ⟨z,rfl⟩;by_cases t:k<b.length
   .have dk:=QS t;have QQ:=Jr (show k<4611686018427387904 from ω);obtain⟨i,K⟩:∃i,i=b.getD k 0:=⟨_,rfl⟩;have LQ:=a0 k t;rw[<- K]at LQ;obtain⟨o,U⟩:=(T.I.mem i).1 LQ;have I:=qI k t;rw[<- K]at I;have B:mv i=(JF R i).cells:=Bk i o;obtain⟨r,E⟩:∃r,r=JF R i:=⟨_,rfl⟩;rw[<- E]at B;have M:=Qk5 r x;simp only[go_sem]at B I;by_cases Pq:a<i
    .have da:=QS Pq;rw[u (λj g a3=>by
      obtain⟨v,N,L⟩:=U9 j g;rw[<- L];exact z v (W v k N ω)),Qc ω]
     apply Qh f;simp only[go_sem,Qj,t,J,Z,I,da];apply Qh f;simp only[go_sem,Qj,l,n,m,C,af,S];all_goals exact W9
    .have da:=QG Pq;cases O:zN r (Z1 x) with
     | false=>
      rw[O]at M;apply Qh f;simp only[go_sem,Qj,t,J,Z,I,da];apply Qv f i9;simp only[go_sem,Qj,l,n,m,C,B,o];apply ZD f fm M;apply LC f;repeat (refine And.intro δ ?_)
      refine⟨_,Qo.frame (fr':=[(0,.ptr p 0 0 0),(3,.ptr F.length 0 0 0),(6,Qa a),(7,QU true),(24,.ref lm gm 0 b.length),(25,Qa b.length),(26,Qa (k+1:Nat))]) (by simp only[go_sem,QQ]),λj g=>?_,rfl⟩;rcases vK.1 g with h5|rfl;exact z j h5;rw[<- K,<- E];exact O
     | true=>
      rw[O]at M;have e0:Ki R (Z1 x)=r.cls:=by
       unfold Ki;rw[T.I.XE hx o U (by rw[<- E];exact O) (λj g vV=>?_) (λa' V6=>?_),<- E];obtain⟨v,N,L⟩:=U9 j g;rw[<- L];exact z v (W v k N ω);rw[<- Y]at V6;have:=Ix V6;simp only[Qa,D.raw.injEq,Value.int.injEq,vM]at this;omega
      have Al:=Qa0 T.ok r (by rw[E];exact qE R default i o);rw[e0,Qc ω];apply Qh f;simp only[go_sem,Qj,t,J,Z,I,da];apply Qv f i9;simp only[go_sem,Qj,l,n,m,C,B,o];apply ZD f fm M;apply ZT f;simp only[go_sem,Qj,l,n,m,C,B,o];all_goals exact W9
   .have ZJ:k=b.length:=ω;have dk:=QG t;subst ZJ;rw[u (λj g _=>by
     obtain⟨v,N,L⟩:=U9 j g;rw[<- L];exact z v N),Qc ω]
    apply Qh f;simp only[go_sem,dk];apply Qh f;simp only[go_sem,Qj,l,n,m,C,af,S];all_goals exact W9
end Go.Fg.X
namespace Go.Fg
open Go.RowKit (Below)
variable {Z:Nat->Prop}
section
variable {P:Program}{L:Jf}{base nt:Nat}{s:St}{o:Oper}
end
section
variable {P:Program}{L:Jf}{base nt:Nat}{w0:Start}{Q:Exit->St->Prop}
end
def mw:D->Bool
 | .imm _ _ _=>true
 | .ref _ _ _ _=>true
 | .nil=>true
 | _=>false
section
variable {P:Program}{L:Jf}{base nt:Nat}{s:St}{o:Oper}
end
section
variable {P:Program}{L:Jf}{base nt:Nat}{w0:Start}{Q:Exit->St->Prop}
end
def ag:D->Nat
 | .imm _ n _=>n
 | _=>0
def QCV{h}{g}{w}{d}{v}(r:QD Z h g w d v)(j:mw d=true):∃a n b,v=.slice a n b/\(a.isNone=true->ag d=0):=by
 cases d<;>simp only[mw,qu]at j;all_goals first
  | (obtain⟨a,e⟩:=Ae r;exact⟨_,_,_,e,λ_=>rfl⟩)
  | (obtain⟨a,b,_,_,_,e,k,_⟩:=RY r;refine⟨_,_,_,e,λf=>Nat.eq_zero_of_not_pos λi=>?_⟩;have c:0<_:=i;simp only[ag]at c;rw[k c]at f;cases f)
  | (obtain⟨_,_,a,b,e,_⟩:=Ex r;exact⟨_,_,_,e,λ_=>rfl⟩)
section
variable {P:Program}{L:Jf}{base nt:Nat}{w0:Start}{Q:Exit->St->Prop}
def QCW(I:Z8 P L){Q:Exit->St->Prop}{o:Oper}{c:List (Oper × G)}{s:St}{t k e a b:Nat}{x:Operand}{j:List Value}(B:o.op=.binOp .eql t x (.const (.slice none 0 0)) k)(p:mw (Qs s.fr x)=true)(v:ty L t=some ⟨.slice e,a,b,j⟩)(h:Zn nt o.dst=true)
  (C:∀b:Bool,(b=true->ag (Qs s.fr x)=0)->AG P base nt w0 c Q ⟨Zb s.fr o.dst (.raw (.bool b)),s.h⟩):AG P base nt w0 ((o,none)::c) Q s:=by
 intro Z z l i w r b;obtain⟨d,n,f,q,H⟩:=QCV (r.eval x) p;have F:i.eval (.const (.slice none 0 0))=.slice none 0 0:=rfl;have J:(execOp i.eval o).run P w=.ok (.value (.bool d.isNone)) w:=by
  have u:=x7 (I _ _ v) rfl;have E:(Op.equal t (.slice d n f) (.slice none 0 0)).run P w=.ok d.isNone w:=nw λm=>by
   cases d<;>simp[Op.equalIn,run_underlying u]
  have y:(eqGuard .eql t x (.const (.slice none 0 0)) (.slice d n f) (.slice none 0 0)).run P w=.ok () w:=by simp[eqGuard]
  simp[execOp,B,q,F,Go.binOp,E,y]
 simp only[YY,Xq,Vu];unfold Oper.wp;rw[J];simp only[Oper.upon_value];refine C _ H Z z l _ w ?_ b;cases g:o.dst with
 | none=>exact r
 | some t=>rw[g]at h;exact r.to (Tr.ext r.o λ_ _=>rfl) r.o (kF h) (.cl _ _ (.raw _))
def QCY(m:Z8 P L){k:List Item}{c:Option Nat}{o:TypeId}{pos:String}{d:Array Edge}{n:Option (Nat × Bool)}{r:List (Oper × G)}{s:St}{t h e a b:Nat}{x:Operand}{g:List Value}
  (i:mw (Qs s.fr x)=true) (j:ty L t=some ⟨.slice e,a,b,g⟩) (l:Zn nt c=true) (f:∀b:Bool,(b=true->ag (Qs s.fr x)=0)->Qz P base nt w0 Q (.ops r::k) .normal ⟨Zb s.fr c (.raw (.bool b)),s.h⟩) :
  Qz P base nt w0 Q (.ops ((⟨c,.binOp .eql t x (.const (.slice none 0 0)) h,o,pos,d,n⟩,none)::r)::k) .normal s:=by
 simp only[Qz]at f ⊢;exact QCW m rfl i j l f
end
end Go.Fg
namespace Go.Fg.X
open Go.Proofs Go.Fg
open Go.Proofs.Tryz
@[go_sem] def F7(l:List JP):D:=.imm 9 l.length (JP.rows l)
def QCZ(h:List Ob)(l:List JP)(n:l.length<1000000):QM prog 65 h [F7 l] (λd f=>∃g,f=h++g/\XQ (λj=>h.length<=j) (h++g) 9 JP.cells d l):=by
 refine Q7 func65 ntmps65 results65 λe w m a=>?_;simp only[go_sem];refine QCY BS (by simp only[go_sem];rfl) rfl rfl λb k=>?_;cases b with
 | true=>
  have c:=k rfl;simp only[go_sem,ag]at c;apply Qg a;exact⟨[],(JS h).symm,.inl ⟨rfl,El.1 c⟩⟩
 | false=>
  apply J5 a;refine⟨ω,_,rfl,.inr ⟨h.length,_,_,rfl,QB _,Vc rfl,λi o=>?_⟩⟩;rw[x9 (Jj _)];rfl
def QC0(r:JP):(U4 r.want r.mask==r.want)=(wG r.Lx r.AA==r.Lx&&(wG r.Lz r.AB==r.Lz&&(wG r.LA r.E7==r.LA&&wG r.E8 r.Dn==r.E8))):=by
 rw[<- Bool.and_true (wG r.E8 r.Dn==r.E8)];rfl
structure jq (h H:List Ob) (l:List JP) (k p:Nat) (dr:D) (le:Nat) (dm:D) (c:Nat) (es:List XF) (ms:List Nat):Prop where
 ex:VG h H
 o:H[p]?=some (MX dr le dm)
 eo:H[le]?=some (vT c es)
 rs:XQ (λj=>h.length<=j) H 9 JP.cells dr l
 mo:XQ (λj=>h.length<=j) H 1 (λi:Nat=>[Qa i]) dm ms
 hp:h.length<=p
 he:h.length<=le
 I:YR l k es ms
 ok:∀j,j<k->yZ (JF l j)=true
def jq.app{h H}{l}{k p}{i}{e}{m}{c}{f}{d}(N:jq h H l k p i e m c f d)(g):jq h (H++g) l k p i e m c f d:=
 ⟨N.ex.app g,(QE (Qb N.o)).trans N.o,(QE (Qb N.eo)).trans N.eo,N.rs.step λj a b=>⟨b,QE a⟩,N.mo.step λj a b=>⟨b,QE a⟩,N.hp,N.he,N.I,N.ok⟩
def jq.next{h H}{l}{k p}{m}{f}{E}{c}{C}{s}(N:jq h H l k p m f E c C s){e:List Ob}{d}{r}{b}{a}(t:VG h e)(u:e[p]?=some (MX m f d))(x:e[f]?=some (vT r b))
  (w:∀(j:Nat) (o:Ob),H[j]?=some o->o.kd=.arr->o.sz=9->e[j]?=some o) (v:XQ (λj=>h.length<=j) e 1 (λi:Nat=>[Qa i]) d a) (I:YR l (k+1) b a) (F:∀j,j<k+1->yZ (JF l j)=true):jq h e l (k+1) p m f d r b a:=
 ⟨t,u,x,N.rs.imp id λ⟨q,g,n,B,z,y,h4⟩=>⟨q,g,n,B,z,w q _ y rfl rfl,h4⟩,v,N.hp,N.he,I,F⟩
def XA{H:List Ob}{a b:Nat}{o c:Ob}(d:H[a]?=some o)(f:H[b]?=some c)(h:o.kd≠c.kd\/o.sz≠c.sz):a≠b:=λe=>by
 rw[e,f]at d;cases d;rcases h with h|h<;>exact h rfl
def jq.AA{h H}{l}{k p}{d}{a}{c}{f}(N:jq h H l k p d a .nil c f [])(g:qS (JF l k)=false)(n:∀j,j<k+1->yZ (JF l j)=true)(o):
  jq h (H.set p (MX d a (.ref (H.length+2) 0 0 1))++[o,⟨.arr,0,1,1,λ_=>[Qa k]⟩,⟨.arr,0,1,1,λ_=>[Qa k]⟩]) l (k+1) p d a (.ref (H.length+2) 0 0 1) c f ([]++[k]):=by
 have hp:=Qb N.o;have q:p≠a:=XA N.o N.eo (.inl nofun);refine N.next ((N.ex.set N.hp _).app _) ?_ ?_ (λj o b m r=>?_) (.inr ⟨H.length+2,0,λ_=>[Qa k],rfl,by have:=N.ex.len;omega,VD (k:=2) σ,λi e=>?_⟩) (N.I.mask g) n;rw[QE (by simpa using hp),QF hp];rw[QE (by simpa using Qb N.eo),Qp q];exact N.eo;rw[QE (by simpa using Qb b),Qp (XA N.o b (.inl (by rw[m];nofun)))];exact b;simp at e;subst e;rfl
def jq.AB{h H:List Ob}{l}{k p}{q}{e}{c}{r}{a:List Nat}{b g}{d}(N:jq h H l k p q e (.ref b g 0 a.length) c r a)(s:h.length<=b)(m:H[b]?=some ⟨.arr,g,1,a.length,d⟩)(z:∀i,i<a.length->d i=[Qa ((a.getD i default:Nat):Int)])
  (v:qS (JF l k)=false) (B:∀j,j<k+1->yZ (JF l j)=true) (o u:Ob) :
  jq h ((H.set b ⟨.arr,g+1,1,a.length+1,JO a.length 0 d λ_=>[Qa k]⟩).set p (MX q e (.ref b (g+1) 0 (a.length+1)))++[o,u]) l (k+1) p q e (.ref b (g+1) 0 (a.length+1)) c r (a++[k]):=by
 have hp:=Qb N.o;have t:=Qb m;have C:p≠e:=XA N.o N.eo (.inl nofun);have E:b≠p:=XA m N.o (.inl nofun);have F:b≠e:=XA m N.eo (.inl nofun);refine N.next (((N.ex.set s _).set N.hp _).app _) ?_ ?_ (λj o n y x=>?_) (.inr ⟨b,g+1,JO a.length 0 d λ_=>[Qa k],σ,s,?_,λi w=>?_⟩) (N.I.mask v) B;rw[QE (by simpa using hp),QF (by simpa using hp)];rw[QE (by simpa using Qb N.eo),Qp C,Qp F];exact N.eo;rw[QE (by simpa using Qb n),Qp (XA N.o n (.inl (by rw[y];nofun))),Qp (XA m n (.inr (by rw[x];show (1:Nat)≠9;decide)))];exact n;rw[QE (by simpa using t),Qp (Q8 E),QF t];simp;simp at w;by_cases f:i<a.length;rw[Bo f,Jz,z i f];simp[f,JJ f];have:i=a.length:=ω;subst this;rw[x9 (QB _)];simp
def jq.new{h H}{l}{k p:Nat}{r}{f}{s}{c}{e}{m}(N:jq h H l k p r f s c e m)(u:qS (JF l k)=true)(v:Xh e (JF l k).want=none)(y:∀j,j<k+1->yZ (JF l j)=true)(o):
  jq h (H.set f (vT (c+1) (e++[⟨(JF l k).want,Qa k,c⟩]))++[o]) l (k+1) p r f s (c+1) (e++[⟨(JF l k).want,Qa k,c⟩]) m:=by
 have n:=Qb N.eo;have keep:∀(j:Nat) (a:Ob),H[j]?=some a->a.kd≠.map->(H.set f (vT (c+1) (e++[⟨(JF l k).want,Qa k,c⟩]))++[o])[j]?=some a:=λj a b d=>by
  rw[QE (by simpa using Qb b),Qp (XA N.eo b (.inl (Q8 d)))];exact b
 refine N.next ((N.ex.set N.he _).app _) (keep _ _ N.o nofun) ?_ (λj a b d q=>keep j a b (by rw[d];nofun)) (N.mo.imp id λ⟨t,g,i,d,q,x,w⟩=>⟨t,g,i,d,q,keep _ _ x nofun,w⟩) (N.I.new u v c) y;rw[QE (by simpa using n),QF n]
def Qk8(h)(l:List JP)(hl:l.length<1000000):
  QM prog 41 h [F7 l] (λd h'=>∃g,h'=h++g/\(qR l=0->∃p,d=.tup [.ptr p 0 0 0,Qa 0]/\HW (λj=>h.length<=j) (h++g) p l)/\(qR l≠0->d=.tup [.raw (.pointer none),Qa (qR l)])):=by
 by_cases jZ:32<l.length;have d0:decide ((32:Int)<(l.length:Int))=true:=QS ω;have e:qR l=2:=by unfold qR;rw[Qd jZ]
 rw[e];refine Q7 func41 ntmps41 results41 λM w pl a=>?_;simp only[go_sem,d0];exact⟨[],(JS h).symm⟩;have d0:decide ((32:Int)<(l.length:Int))=false:=QG ω;refine Q7 func41 ntmps41 results41 λM w pl a=>?_;simp only[go_sem,d0];refine ZL a Qsr (QCZ h l hl) λd h1 hR=>?_;obtain⟨o,rfl,V⟩:=hR;have J:=QcC .i64;simp only[QR]at J;have L:Yf d=some [d]:=by rcases V with ⟨rfl,_⟩|⟨_,_,_,rfl,_⟩<;>rfl
 have K:d.Vh=true:=by rcases V with ⟨rfl,_⟩|⟨_,_,_,rfl,_⟩<;>rfl
 apply Qh a;simp only[go_sem,Qj,L,K];obtain⟨H,F⟩:∃H,H=h++(o++[QR .i64 0 [],MX d (h.length+o.length) .nil]):=⟨_,rfl⟩;have N0:jq h H l 0 (h.length+(o.length+1)) d (h.length+o.length) .nil 0 [] []:=by
  rw[<- WL]at F;subst F;refine⟨((VG.refl h).app o).app _,?_,?_,V.step λj f h1=>⟨h1,QE f⟩,.inl ⟨rfl,rfl⟩,ω,ω,YR.nil l,λj f=>absurd f (Yc j)⟩;rw[show h.length+(o.length+1)=(h++o).length+1 by simp;omega];exact VD (k:=1) rfl;rw[<- QcC .i64,show h.length+o.length=(h++o).length by simp];exact Vc rfl
 simp only[go_sem]at F;rw[<- F];obtain⟨p,hp⟩:∃p,p=h.length+(o.length+1):=⟨_,rfl⟩;rw[<- hp]at N0 ⊢;clear F;refine ZN (λk s=>∃H R O S c I m,jq h H l k p R O S c I m/\s=⟨[(4,.ptr p 0 0 0),(17,F7 l),(18,Qa l.length),(19,Qa k)],H⟩) l.length QO ⟨H,_,_,_,_,_,_,N0,rfl⟩ ?_;clear N0 V L K J H hp d o;rintro k _ hk ⟨H,R,O,S,c,I,m,N,rfl⟩;by_cases t:k<l.length;have dk:=QS t;obtain⟨r,i⟩:∃r,r=JF l k:=⟨_,rfl⟩;have T:l.getD k default=r:=i.symm;have WC:r∈l:=by rw[i];exact qE l default k t
 have E:=Jr (show k<4611686018427387904 from ω);have u:=N.o;have y:=Qb u;have Q:=N.eo;have Yr:=Qb Q;have h4:=N.I.four;have P:=QC0 r;have B:yZ r=false->qR l=1:=λa=>by
  unfold qR;rw[Qc jZ,Qc];intro KB;have:=qV.1 KB r WC;rw[a]at this;cases this
 have U:=Qk4 r.Lx r.Lz r.LA r.E8 r.AA r.AB r.E7 r.Dn;by_cases c1:r.cls<1;have d1:=QS c1;rw[B (by unfold yZ;rw[QG (show ¬1<=r.cls from ω)];rfl)];apply Qh a;simp only[go_sem,Qj,t,T];apply Qv a o08;simp only[go_sem,Qj,d1,Go.undef];exact N.ex.app _;have d1:=QG c1;by_cases c2:65536<r.cls;have d2:=QS c2;rw[B (by unfold yZ;rw[QG (show ¬r.cls<=65536 from ω),Bool.and_false];rfl)];apply Qh a;simp only[go_sem,Qj,t,T];apply Qv a o08;simp only[go_sem,Qj,d1,d2,Go.undef];exact N.ex.app _;have d2:=QG c2;cases Y:U4 r.want r.mask==r.want with
 | false=>
  rw[B (by unfold yZ;rw[Y,Bool.and_false])];rw[Y]at P;apply Qh a;simp only[go_sem,Qj,t,T];apply Qv a o08;simp only[go_sem,Qj,d1,d2];apply ZD a ph U;apply ZT a;simp only[go_sem,Qj,<- P];exact N.ex.app _
 | true=>
  rw[Y]at P;have ZS:∀j,j<k+1->yZ (JF l j)=true:=λj f=>by
   rcases vK.1 f with h5|rfl;exact N.ok j h5;rw[<- i];unfold yZ;rw[Y,QS (show 1<=r.cls from ω),QS (show r.cls<=65536 from ω)];rfl
  obtain⟨q,hq⟩:∃q,q=Xh I r.want:=⟨_,rfl⟩;have W:=hq;simp only[JP.want]at W;have hw:qS r=(r.AA==65535&&(r.AB==65535&&(r.E7==65535&&r.Dn==65535))):=rfl;obtain⟨b,x⟩:∃b,b=qS r:=⟨_,rfl⟩;rw[<- x]at hw;apply Qh a;simp only[go_sem,Qj,t,T];apply Qv a o08;simp only[go_sem,Qj,d1,d2];apply ZD a ph U;apply ZT a;simp only[go_sem,Qj,<- P];cases q with
  | none=>
   apply Qv a [0,1,2,3,4,5,6,7,8,9,10,11];simp only[go_sem,Qj,u,y,Q,Yr,<- W];refine⟨h4,?_⟩;apply Qv a [0,1,1002,3,4];simp only[go_sem,Qj];apply ZD a Qfb Qk3;apply ZT a;simp only[go_sem,Qj,<- hw];cases b with
   | false=>
    rcases N.mo with ⟨rfl,rfl⟩|⟨lm,gm,a0,rfl,X0,v,Z⟩;have n:=N.AA (by rw[<- i,<- x]) ZS ⟨.one,0,9,1,λ_=>r.cells⟩;simp only[go_sem,Qj,u,y];refine⟨t,_,Qo.frame (fr':=[(4,.ptr p 0 0 0),(17,F7 l),(18,Qa l.length),(19,Qa (k+1:Nat))]) (by simp only[go_sem,E]),_,_,_,_,_,_,_,n,rfl⟩;have n:=N.AB X0 v Z (by rw[<- i,<- x]) ZS ⟨.one,0,9,1,λ_=>r.cells⟩ ⟨.arr,0,1,1,λ_=>[Qa k]⟩;have Zl:=Qb v;have Fy:lm≠p:=XA v u (.inl nofun);have C:m.length<=4294967295:=by
     have:=inc_le m k 0 N.I.inc λj f=>⟨Jj j,((N.I.mem j).1 f).1⟩;omega
    have a1:m.length+1<=4294967295:=by
     have:=inc_le m k 0 N.I.inc λj f=>⟨Jj j,((N.I.mem j).1 f).1⟩;omega
    simp only[go_sem,Qj,u,y,v,Zl,Qp Fy,C];repeat (refine And.intro δ ?_)
    refine⟨_,Qo.frame (fr':=[(4,.ptr p 0 0 0),(17,F7 l),(18,Qa l.length),(19,Qa (k+1:Nat))]) (by simp only[go_sem,E]),_,_,_,_,_,_,_,n,rfl⟩
   | true=>
    simp only[go_sem];apply Qv a ut;simp only[go_sem,Qj,u,y,Q,Yr,<- W];have n:=N.new (by rw[<- i,<- x]) (by rw[<- i];exact hq.symm) ZS ⟨.one,0,9,1,λ_=>r.cells⟩;rw[<- i]at n;refine⟨h4,t,_,Qo.frame (fr':=[(4,.ptr p 0 0 0),(17,F7 l),(18,Qa l.length),(19,Qa (k+1:Nat))]) (by simp only[go_sem,E]),_,_,_,_,_,_,_,n,rfl⟩
  | some d=>
   apply Qv a [0,1,2,3,4,5,6,7,8,9,10,11];simp only[go_sem,Qj,u,y,Q,Yr,<- W];refine⟨h4,?_⟩;apply Qv a [0,1,1002,3,4];simp only[go_sem,Qj];apply ZD a Qfb Qk3;apply ZT a;simp only[go_sem,Qj,<- hw];cases b with
   | false=>
    rcases N.mo with ⟨rfl,rfl⟩|⟨lm,gm,a0,rfl,X0,v,Z⟩;have n:=N.AA (by rw[<- i,<- x]) ZS ⟨.one,0,9,1,λ_=>r.cells⟩;simp only[go_sem,Qj,u,y];refine⟨t,_,Qo.frame (fr':=[(4,.ptr p 0 0 0),(17,F7 l),(18,Qa l.length),(19,Qa (k+1:Nat))]) (by simp only[go_sem,E]),_,_,_,_,_,_,_,n,rfl⟩;have n:=N.AB X0 v Z (by rw[<- i,<- x]) ZS ⟨.one,0,9,1,λ_=>r.cells⟩ ⟨.arr,0,1,1,λ_=>[Qa k]⟩;have Zl:=Qb v;have Fy:lm≠p:=XA v u (.inl nofun);have C:m.length<=4294967295:=by
     have:=inc_le m k 0 N.I.inc λj f=>⟨Jj j,((N.I.mem j).1 f).1⟩;omega
    have a1:m.length+1<=4294967295:=by
     have:=inc_le m k 0 N.I.inc λj f=>⟨Jj j,((N.I.mem j).1 f).1⟩;omega
    simp only[go_sem,Qj,u,y,v,Zl,Qp Fy,C];repeat (refine And.intro δ ?_)
    refine⟨_,Qo.frame (fr':=[(4,.ptr p 0 0 0),(17,F7 l),(18,Qa l.length),(19,Qa (k+1:Nat))]) (by simp only[go_sem,E]),_,_,_,_,_,_,_,n,rfl⟩
   | true=>
    simp only[go_sem];have z:=N.app [⟨.one,0,9,1,λ_=>r.cells⟩];have n:jq h (H++[⟨.one,0,9,1,λ_=>r.cells⟩]) l (k+1) p R O S c I m:=⟨z.ex,z.o,z.eo,z.rs,z.mo,z.hp,z.he,N.I.there (by rw[<- i,<- x]) (by rw[<- i,<- hq];rfl),ZS⟩;refine⟨t,_,Qo.frame (fr':=[(4,.ptr p 0 0 0),(17,F7 l),(18,Qa l.length),(19,Qa (k+1:Nat))]) (by simp only[go_sem,E]),_,_,_,_,_,_,_,n,rfl⟩
 have ZJ:k=l.length:=ω;have dk:=QG t;subst ZJ;have J:qR l=0:=by
  unfold qR;rw[Qc jZ,Qd];rw[qV];intro r i;obtain⟨j,f,e⟩:=vH i;have:=N.ok j f;unfold JF at this;rw[QW,QJ f]at this;rw[<- e];exact this
 apply Qh a;simp only[go_sem,dk];apply Qg a;obtain⟨g,rfl⟩:=N.ex;refine⟨g,rfl,λ_=>⟨p,rfl,R,O,S,c,I,m,N.o,N.eo,N.rs,N.mo,N.hp,N.he,N.I,J⟩,λh=>absurd J h⟩
@[go_sem] def A7(d:D):Ob:=⟨.one,0,1,1,λ_=>[d]⟩
structure zP (n:Nat) (own:Nat->Tag) (tw:Nat->TT) (h:List Ob) (bp bo op:Nat) (L:List Ev):Prop where
 hp:h[bp]?=some (A7 (Qa op))
 ho:∃d,h[bo]?=some (A7 d)/\XQ (λl=>n<=l/\own l=.no/\tw l=.no/\l≠bp/\l≠bo) h 12 Ev.cells d L
 np:n<=bp
 no:n<=bo
 op:own bp=.no
 oo:own bo=.no
 tp:tw bp=.no
 to:tw bo=.no
 ne:bp≠bo
def zP.y0{n}{i g}{o u}{h r:List Ob}{s t p}{L}(E:zP n i o h s t p L)(D:Jv h.length i o h g u r):zP n g u r s t p L:=by
 obtain⟨d,q,v⟩:=E.ho;have k:=Qb E.hp;have l:=Qb q;exact⟨(D.keep _ k E.op E.tp).trans E.hp,⟨d,(D.keep _ l E.oo E.to).trans q,v.step λj m ⟨a,b,c,e,f⟩=>⟨⟨a,(D.s1 j m).trans b,(D.s2 j m).trans c,e,f⟩,D.keep j m b c⟩⟩,E.np,E.no,(D.s1 _ k).trans E.op,(D.s1 _ l).trans E.oo,(D.s2 _ k).trans E.tp,(D.s2 _ l).trans E.to,E.ne⟩
def Jv.YE{m n}{b a}{c e}{h d}(f:m<=n)(D:Jv n b c h a e d):Jv m b c h a e d:=⟨D.s1,D.s2,λl g=>D.keep l (vJ g f),D.my,D.len⟩
def QC2{n}{a}{c}{h i:List Ob}{m d}(r:n<=m)(q:a m=.no)(p:c m=.no)(b:d<h.length->n<=d/\a d=.no/\c d=.no)(s:n<=h.length)(o:h.length<=i.length)
  (k:∀j,j<h.length->j≠m->j≠d->i[j]? = h[j]?):Jv n a c h (Q3 a h .no) (Jh c h .no) i/\mj a c h (Q3 a h .no) (Jh c h .no) i:=by
 refine⟨⟨λl b=>Kp b,λl b=>VL b,λl t _ _=>k l ω ω λe=>?_,λl Qb g=>k l Qb (λe=>by rw[e,p]at g;cases g) λe=>?_,o⟩,λl Qb=>⟨λf=>⟨Kp Qb,k l Qb (λe=>f.1 (by rw[e,q])) λe=>?_⟩,λf _=>⟨VL Qb,k l Qb (λe=>f (by rw[e,p])) λe=>?_⟩⟩⟩;have:=(b ω).1;omega;rw[e,(b ω).2.2]at g;cases g;exact f.1 (by rw[e];exact(b ω).2.1);exact f (by rw[e];exact(b ω).2.2)
def mz{a}{b}{h}(e:∀l,b l≠.no->a l=.no):∀l,Jh b h .no l≠.no->Q3 a h .no l=.no:=λl c=>by
 by_cases d:l<h.length;rw[VL d]at c;rw[Kp d];exact e l c;exact kb ω
def Qlb{n}{a}{f}{h:List Ob}{s p c}{L:List Ev}(E:zP n a f h s p c L)(V:n<=h.length)(hL:L.length<1000000000)(e:Ev):
  QM prog 43 h [.agg e.cells,.ptr s 0 0 0,.ptr p 0 0 0] (λd m=>d=.tup []/\zP n (Q3 a h .no) (Jh f h .no) m s p c (L++[{ e with op:=c }])/\Jv n a f h (Q3 a h .no) (Jh f h .no) m/\mj a f h (Q3 a h .no) (Jh f h .no) m):=by
 have q:=E.hp;obtain⟨d,u,W⟩:=E.ho;have S:=E.ne;have z:=Qb q;have r:=Qb u;have b:∀(m:List Ob) (C:D) (o:Nat),m[s]?=some (A7 (Qa c))->m[p]?=some (A7 C)->XQ (λl=>n<=l/\Q3 a h .no l=.no/\Jh f h .no l=.no/\l≠s/\l≠p) m 12 Ev.cells C (L++[{ e with op:=c }])->(o<h.length->n<=o/\a o=.no/\f o=.no)->h.length<=m.length ->
   (∀j,j<h.length->j≠p->j≠o->m[j]? = h[j]?)->zP n (Q3 a h .no) (Jh f h .no) m s p c (L++[{ e with op:=c }])/\Jv n a f h (Q3 a h .no) (Jh f h .no) m/\mj a f h (Q3 a h .no) (Jh f h .no) m:=λm C o a1 a2 a3 a4 a5 Z=>
  ⟨⟨a1,⟨C,a2,a3⟩,E.np,E.no,(Kp z).trans E.op,(Kp r).trans E.oo,(VL z).trans E.tp,(VL r).trans E.to,E.ne⟩,QC2 E.no E.oo E.to a4 V a5 Z⟩
 rcases W with ⟨rfl,rfl⟩|⟨o,g,v,rfl,⟨Q,P,O,N,F⟩,H,U⟩;have b:=b (h.set p (A7 (.ref (h.length+2) 0 0 1))++[⟨.one,0,12,1,λ_=>({ e with op:=c }:Ev).cells⟩,⟨.arr,0,12,1,λ_=>({ e with op:=c }:Ev).cells⟩,⟨.arr,0,12,1,λ_=>({ e with op:=c }:Ev).cells⟩]) (.ref (h.length+2) 0 0 1) h.length
  (by rw[QE (by simpa using z),Qp S.symm];exact q) (by rw[QE (by simpa using r),QF r])
  (.inr ⟨h.length+2,0,λ_=>({ e with op:=c }:Ev).cells,rfl,⟨ω,kb ω,F4 ω,ω,ω⟩,VD (k:=2) σ,λi B=>by
   simp at B;subst B;rfl⟩) (λh=>absurd h (Gx _)) σ (λj I J R=>by rw[QE (by simpa using I),Qp (Q8 J)])
 refine Q7 func43 ntmps43 results43 λx w T Y=>?_;have K:=Qb q;have M:=Qb u;simp only[go_sem,Qj,q,K,u,M];simp only[go_sem]at b ⊢;exact b;have t:=Qb H;have UZ:L.length<=4294967295:=ω;have lS:L.length+1<=4294967295:=ω;have b:=b ((h.set o ⟨.arr,g+1,12,L.length+1,JO L.length 0 v λ_=>({ e with op:=c }:Ev).cells⟩).set p (A7 (.ref o (g+1) 0 (L.length+1)))++[⟨.one,0,12,1,λ_=>({ e with op:=c }:Ev).cells⟩,⟨.arr,0,12,1,λ_=>({ e with op:=c }:Ev).cells⟩]) (.ref o (g+1) 0 (L.length+1)) o
  (by rw[QE (by simpa using z),Qp S.symm,Qp N];exact q) (by rw[QE (by simpa using r),QF (by simpa using r)])
  (.inr ⟨o,g+1,JO L.length 0 v λ_=>({ e with op:=c }:Ev).cells,σ,⟨Q,(Kp t).trans P,(VL t).trans O,N,F⟩,by rw[QE (by simpa using t),Qp F.symm,QF t];simp,λi B=>by
   simp at B;by_cases y:i<L.length;rw[Bo y,Jz,U i y];simp[y,JJ y];have:i=L.length:=ω;subst this;rw[x9 (QB _)];simp⟩) (λ_=>⟨Q,P,O⟩) σ (λj I J R=>by rw[QE (by simpa using I),Qp (Q8 J),Qp (Q8 R)])
 refine Q7 func43 ntmps43 results43 λx w T Y=>?_;have K:=Qb q;have M:=Qb u;have t:=Qb H;simp only[go_sem,Qj,q,K,u,M,H,t,Qp F,UZ];simp only[go_sem]at b ⊢;repeat (refine And.intro δ ?_)
 exact b
def QC3{k}{m}{h}{p}{S}(T:X7 k m h p S):Zf prog 81 h [.ptr p 0 0 0] (λd=>d=u64 (Zy S)):=by
 obtain⟨s,n,t,r,T⟩:=T;have i:=Z4 T.o;obtain⟨a,b,c,g⟩:=T.ln;have g:=Z4 g;obtain⟨L,C⟩:=T.co.ex;have j:=Qj7 C.ro T.co.I;have q:=λ(F:List Ob) (f:F=h.map Ob.ro)=>QCF (h:=F) (Vz f _ _ g);have j:=λ(F:List Ob) (f:F=h.map Ob.ro)=>Qj7 (C.ro.more (Vz f)) T.co.I;clear T C;unfold Zy;obtain⟨v,o⟩:∃v,v=jk S.M:=⟨_,rfl⟩;rw[<- o]at j ⊢;refine ZH func81 ntmps81 results81 λl w n F f x e=>?_;rw[<- f]at i g;have y:=Qb i;have u:=Qb g;simp only[go_sem];apply Qv e [0,1,2,3,4,5,6,7,9,10,11,12,1008,1013,1014,15];simp only[go_sem,i];apply KQ e QsU (q F f);apply Zp e;apply KQ e QsV (j F f);apply Zp e;apply ZD e QsT (QCN S.Qe S.X6 v);apply Zp e;all_goals exact W9
def Qlc{n}{o}{x}{h:List Ob}{p}{S}(T:X7 o x h p S)(V:Jn S){bp bo s}{L:List Ev}(E:zP n o x h bp bo s L)(C:n<=h.length)(hL:L.length<100000000):
  QM prog 80 h [.ptr p 0 0 0,u64 S.Qe,.clo 43 0 [.ptr bp 0 0 0,.ptr bo 0 0 0]] (λd F=>d=.tup []/\∃r Js,X7 r Js F p (Jy S s S.Qe).1/\zP n r Js F bp bo s (L++(Jy S s S.Qe).2)/\Jv n o x h r Js F):=by
 obtain⟨ps,lp,pr,pt,T⟩:=T;have B:=T.o;obtain⟨a,b,c,hl⟩:=T.ln;have U:=QaZ (Z4 hl) S.Qe;by_cases hu:S.X6<=S.Qe
 .have du:=QS hu;rw[du]at U;refine Q7 func80 ntmps80 results80 λQ w pl i=>?_;have Qr:=Qb B;simp only[go_sem,B];apply Zz i fa U;apply Qh i;simp only[go_sem,B];refine ZL i QsQ (QB4 T.co S.Qe) λd f y=>?_;obtain⟨rfl,O,C1,D1⟩:=y;have T1:=T.core D1 C1 (MW S.M S.Qe);have N:Jv h.length o x h O (Jh x h .no) f:=Jv.core T.ap (QB _) D1;obtain⟨Y,a7⟩:∃t,t=Jh x h .no:=⟨_,rfl⟩;rw[<- a7]at T1 N;have E1:=E.y0 N;have UK:=N.len;obtain⟨j,hj⟩:∃j,j=Kh S.M S.Qe:=⟨_,rfl⟩;obtain⟨k,W⟩:∃k,k=Kb S.M S.Qe:=⟨_,rfl⟩;obtain⟨b,vN⟩:∃b,b=YP S.M S.Qe:=⟨_,rfl⟩;cases ht:XP S.M S.Qe with
  | false=>
   have e:Jy S s S.Qe=({ S with M:=takeN S.M S.Qe },[]):=by unfold Jy;rw[Qc ω,Qc (by rw[ht];exact CL)]
   rw[e,<- hj,<- W,<- vN];apply J5 i;have u:=T1.F6 [⟨.one,0,8,1,λ_=>qN j k b⟩];have v:=Jv.app (n:=f.length) O Y f [⟨.one,0,8,1,λ_=>qN j k b⟩] .my (QB _);exact⟨_,_,⟨_,_,_,_,u⟩,E1.y0 v,(N.YE C).trans C (v.YE ω)⟩
  | true=>
   have m:=V.take_len ht;have wZ:=l9 V.K m;rw[<- W]at m wZ;have X0:=V.K.l2;have Zs:=V.cl;obtain⟨done,P⟩:∃d,d=S.Qe+qp S.M.lk k.len:=⟨_,rfl⟩;have e:Jy S s S.Qe=({ S with M:=takeN S.M S.Qe,X6:=done,st:=qn S.st j done k.len b },[wH s b S.Qe done j k]):=by
    unfold Jy;rw[Qc ω,Qd ht,<- W,<- P,<- hj,<- vN]
   rw[e,<- hj,<- W,<- vN];have u:=T1.F6 [⟨.one,0,8,1,λ_=>qN j k b⟩];have v:=N.trans (QB _) ((Jv.app (n:=f.length) O Y f [⟨.one,0,8,1,λ_=>qN j k b⟩] .my (QB _)).YE UK);have E2:=E.y0 v;have H:(f++[(⟨.one,0,8,1,λ_=>qN j k b⟩:Ob)])[f.length]?=some ⟨.one,0,8,1,λ_=>qN j k b⟩:=Vc rfl;have n2:Q3 O f .no f.length=.no:=kb (QB _);have m2:Jh Y f .my f.length=.my:=F4 (QB _);apply J5 i;obtain⟨q,Rc⟩:∃q,q=f++[(⟨.one,0,8,1,λ_=>qN j k b⟩:Ob)]:=⟨_,rfl⟩;rw[<- Rc]at u v E2 H;simp only[go_sem,qN]at Rc;rw[<- Rc];clear Rc;generalize Q3 O f .no=Ka at u v E2 n2;generalize Jh Y f .my=YS at u v E2 m2;have VN:=u.o;have FV:=Qb VN;have DP:=Qb H;obtain⟨a2,b2,c2,Jq⟩:=u.ln;have zH:(takeN S.M S.Qe).lk=S.M.lk:=MW S.M S.Qe;have R:=QCJ q Jq (by show 1<=(takeN S.M S.Qe).lk.t;rw[zH];exact V.K.t1) (by show (takeN S.M S.Qe).lk.t<=65536;rw[zH];exact V.K.t2) Zs hu k ⟨m.1,ω⟩;have a6:S.Qe+k.len.toNat*(takeN S.M S.Qe).lk.t.toNat=done:=by rw[zH,P];rfl
   have R:QM prog 119 q [.ptr lp 0 0 0,u64 S.Qe,.agg k.cells] (λd F=>d=.tup [u64 done,Qa 0]/\∃a' b' c' g,F=q.set lp (jo a' b' c' (takeN S.M S.Qe).lk.t done)++g):=by
    rw[<- a6];exact R
   simp only[go_sem,qN]at H;apply Vx [7] i [0,1,2,3,4,5,6,1007,8,9,10,11,12] [];simp only[go_sem,VN,H];refine kS i QsR R λd z y=>?_;obtain⟨rfl,a3,b3,c3,g3,ai⟩:=y;have a0:=u.tl;have s3:Step (λl=>YS l=.ln) q z:=by
    rw[ai];exact⟨λl hl QC=>by rw[QE (by simpa using hl),Qp (λe=>QC (by rw[<- e];exact a0))],σ⟩
   have Fw:z[lp]?=some (jo a3 b3 c3 (takeN S.M S.Qe).lk.t done):=by rw[ai,QE (by simpa using Qb Jq),QF (Qb Jq)]
   have I:=u.link s3 Fw;have K:=v.trans (QB _) ((Jv.part (n:=q.length) (own:=Ka) (t:=.ln) ⟨σ,σ⟩ (QB _) s3).YE v.len);have E3:=E.y0 K;have jh:z[f.length]?=some _:=(s3.keep _ DP (by rw[m2];simp)).trans H;have n3:Q3 Ka q .no f.length=.no:=(Kp DP).trans n2;have m3:Jh YS q .ln f.length=.my:=(VL DP).trans m2;clear ai R;generalize Q3 Ka q .no=AW at I K E3 n3;generalize Jh YS q .ln=mC at I K E3 m3;have Ys:=I.o;have ME:=Qb Ys;have Uz:=Qb jh;apply Zp i;have a5:=QCR I.st j (done:=done) ω (bytes:=k.len) m.1 ω b;apply Vx [12] i [0,1,2,3,4,5,6,7,8,9,10,11,1012] [];simp only[go_sem,Ys,jh];refine kS i QsS a5 λd h4 y=>?_;obtain⟨s4,a4⟩:=y;have Z:=I.stat s4 a4;have J:=K.trans (QB _) ((Jv.part (n:=z.length) (own:=AW) (t:=.st) ⟨σ,σ⟩ (QB _) s4).YE K.len);have E4:=E.y0 J;have VX:h4[f.length]?=some _:=(s4.keep _ Uz (by rw[m3];simp)).trans jh;generalize Q3 AW z .no=a8 at Z J E4;generalize Jh mC z .st=a9 at Z J E4;have b0:=Qb VX;apply ZT i;simp only[go_sem,VX];have U1:n<=h4.length:=JY C J.len;refine zy i Qe6 rfl ?_ (Qlb E4 U1 ω (wH 0 b S.Qe done j k)) rfl λd h5 y=>?_;simp only[go_sem,wH];obtain⟨rfl,E5,K5,a1⟩:=y;have T5:=Z.step a1 (mz Z.ap);have Bs:({ wH 0 b S.Qe done j k with op:=(s:Int) }:Ev)=wH s b S.Qe done j k:=rfl;rw[Bs]at E5;apply Qg i;exact⟨_,_,⟨_,_,_,_,T5⟩,E5,(J.YE C).trans C K5⟩
 have du:=QG hu;rw[du]at U;have e:Jy S s S.Qe=(S,[]):=by unfold Jy;rw[Qd ω]
 rw[e];refine Q7 func80 ntmps80 results80 λQ w pl i=>?_;have Qr:=Qb B;simp only[go_sem,B];apply Zz i fa U;apply Qg i;exact⟨o,x,⟨_,_,_,_,T⟩,E,Jv.refl n o x h⟩
@[go_sem] def YQ.cells(r:YQ):List D:=[Qa r.err,Qa r.place,Qa r.cls]
def zP.loc{n}{a}{f}{h:List Ob}{b c i}{L}(E:zP n a f h b c i L){l}{j:Ob}(p:h[l]?=some j)(q:j.kd≠.arr)(s:l≠b)(r:l≠c)(o):zP n a f (h.set l o) b c i L:=by
 obtain⟨d,x,w⟩:=E.ho;exact⟨by rw[Qp s];exact E.hp,⟨d,by rw[Qp r];exact x,w.imp id λ⟨m,g,e,v,u,k,t⟩=>⟨m,g,e,v,u,by rw[Qp (XA p k (.inl q))];exact k,t⟩⟩,E.np,E.no,E.op,E.oo,E.tp,E.to,E.ne⟩
def Jv.DL{n}{b a}{e f}{h H:List Ob}(D:Jv n b e h a f H){l}(k:n<=l)(i:h.length<=l)(o):Jv n b e h a f (H.set l o):=⟨D.s1,D.s2,λj d c g=>by rw[Qp ω];exact D.keep j d c g,λj d c=>by rw[Qp ω];exact D.my j d c,by simpa using D.len⟩
def QC9{n}{g}{H}{h:List Ob}{p}{S:Z2}(T:X7 g H h p S)(V:Jn S){bp bo f}{L:List Ev}(E:zP n g H h bp bo f L)(v:n<=h.length)(hL:L.length<10000000)(FN:∀k,(S.st.Jg k).length<1000000)(x)(hx:U6 x):
  QM prog 46 h [.ptr p 0 0 0,.agg x.cells,.clo 43 0 [.ptr bp 0 0 0,.ptr bo 0 0 0]] (λd h'=>d=.agg (qq S f x).r.cells/\∃m Js,X7 m Js h' p (qq S f x).S/\zP n m Js h' bp bo f (L++(qq S f x).l)/\Jv n g H h m Js h'):=by
 obtain⟨ps,lp,pr,pt,T⟩:=T;have Zs:=V.cl;have o:=T.F6 [⟨.one,0,6,1,λ_=>x.cells⟩,⟨.one,0,3,1,λ_=>[Qa 0,Qa 0,Qa 0]⟩];have z:=Jv.app (n:=h.length) g H h [⟨.one,0,6,1,λ_=>x.cells⟩,⟨.one,0,3,1,λ_=>[Qa 0,Qa 0,Qa 0]⟩] .my (QB _);have W:=E.y0 z;have s:(h++[(⟨.one,0,6,1,λ_=>x.cells⟩:Ob),⟨.one,0,3,1,λ_=>[Qa 0,Qa 0,Qa 0]⟩])[h.length]?=some ⟨.one,0,6,1,λ_=>x.cells⟩:=Vc rfl;have Q:(h++[(⟨.one,0,6,1,λ_=>x.cells⟩:Ob),⟨.one,0,3,1,λ_=>[Qa 0,Qa 0,Qa 0]⟩])[h.length+1]?=some ⟨.one,0,3,1,λ_=>[Qa 0,Qa 0,Qa 0]⟩:=VD (k:=1) rfl;have I:∀i,h.length<=i->Q3 g h .no i=.no:=λi hi=>kb hi;have m1:∀i,h.length<=i->Jh H h .my i=.my:=λi hi=>F4 hi;have UK:h.length+2=(h++[(⟨.one,0,6,1,λ_=>x.cells⟩:Ob),⟨.one,0,3,1,λ_=>[Qa 0,Qa 0,Qa 0]⟩]).length:=σ;refine Q7 func46 ntmps46 results46 λb0 w pl b=>?_;simp only[go_sem,Qj];obtain⟨j,CD⟩:∃j,j=h++[(⟨.one,0,6,1,λ_=>x.cells⟩:Ob),⟨.one,0,3,1,λ_=>[Qa 0,Qa 0,Qa 0]⟩]:=⟨_,rfl⟩;rw[<- CD]at o z W s Q UK;simp only[go_sem]at CD;rw[<- CD];clear CD;generalize Q3 g h .no=Jx at o z W I;generalize Jh H h .my=K at o z W m1;have ZZ:=o.o;have MB:=Qb ZZ;have F8:=Qb s;have CE:=Qb Q;obtain⟨dr,le,dm,cc,es,ms,Tb⟩:=o.tb;have F:=QCT Tb.toR x hx;obtain⟨a,u⟩:∃c,c=Ki S.R (Z1 x):=⟨_,rfl⟩;rw[<- u]at F;by_cases J:a=0;have e:qq S f x=⟨S,⟨31,0,0⟩,[]⟩:=by unfold qq;rw[Qd (by rw[<- u];exact J)]
 rw[e];rw[Qd J,J]at F;simp only[go_sem]at s;apply Qv b [0,1,2,3,4,5,1006,7,8,9,10,11];simp only[go_sem,ZZ,s];apply KQ b Qfd F;apply ZT b;simp only[go_sem,Q,QF CE];exact⟨Jx,K,⟨_,_,_,_,o.loc (I _ ω) (.inr (m1 _ ω)) _⟩,W.loc Q nofun (by have:=Qb E.hp;omega) (by obtain⟨d,j,_⟩:=E.ho;have:=Qb j;omega) _,(z.YE v).DL ω ω _⟩;have nb:h.length+1≠bp/\h.length+1≠bo:=by
  obtain⟨d,j,_⟩:=E.ho;have:=Qb j;have:=Qb E.hp;omega
 rw[Qc J]at F;have P:=QB3 o.co S.Qe ω a x;simp only[go_sem]at s;obtain⟨q,mD⟩:∃e,e=vw S.M S.Qe a x:=⟨_,rfl⟩;rw[<- mD]at P;apply Qv b [0,1,2,3,4,5,1006,7,8,9,10,11];simp only[go_sem,ZZ,s];apply KQ b Qfd F;apply Zp b;apply Vx [10] b [0,1,2,3,4,5,6,7,8,9,1010,11] [];simp only[go_sem,ZZ,s];refine kS b Qsv P λd l y=>?_;obtain⟨rfl,t,C2,N⟩:=y;have U:=o.core N C2 (MT S.M S.Qe a x);have a0:Jv j.length Jx K j t (Jh K j .no) l:=Jv.core o.ap (QB _) N;have K2:=z.trans (QB _) (a0.YE z.len);have E2:=W.y0 a0;have WQ:l[h.length]?=some _:=(N.keep _ F8 (I _ (QB _))).trans s;have Zt:l[h.length+1]?=some _:=(N.keep _ CE (I _ ω)).trans Q;have n2:t (h.length+1)=.no:=(N.same _ CE).trans (I _ ω);have b2:t h.length=.no:=(N.same _ F8).trans (I _ ω);have m2:Jh K j .no (h.length+1)=.my:=(VL CE).trans (m1 _ ω);have Y:Jh K j .no h.length=.my:=(VL F8).trans (m1 _ ω);generalize Jh K j .no=O at U K2 E2 m2 Y;have VN:=U.o;have FV:=Qb VN;have a8:=Qb WQ;have wL:=Qb Zt;apply Zp b;by_cases he:q=0;have PK:(q != 0)=false:=by simpa using he
 have a4:Jn { S with M:=JD S.M S.Qe a x,st:=wF S.st a S.Qe }:=(V.put a x).Jg a S.Qe (by show S.Qe<_;omega);have e:qq S f x=⟨(Jy { S with M:=JD S.M S.Qe a x,st:=wF S.st a S.Qe } f S.Qe).1,⟨0,0,a⟩,vA f S.Qe a x::(Jy { S with M:=JD S.M S.Qe a x,st:=wF S.st a S.Qe } f S.Qe).2⟩:=by
  unfold qq;rw[Qc (by rw[<- u];exact J),Qd (by rw[<- u,<- mD];exact he),<- u]
 rw[e];have a7:=QCP U.st a S.Qe (FN a);simp only[go_sem,PK];apply Vx [9] b [0,1,2,3,4,5,6,7,8,1009] [];simp only[go_sem,VN];refine kS b Qsw a7 λd r y=>?_;obtain⟨rfl,s3,a3⟩:=y;have R:=U.stat s3 a3;have Z:Jv l.length t O l (Q3 t l .no) (Jh O l .st) r:=Jv.part ⟨σ,σ⟩ (QB _) s3;have K3:=K2.trans (QB _) (Z.YE K2.len);have E3:=E2.y0 Z;have DC:r[h.length]?=some _:=(s3.keep _ a8 (by rw[Y];simp)).trans WQ;have yK:r[h.length+1]?=some _:=(s3.keep _ wL (by rw[m2];simp)).trans Zt;have n3:Q3 t l .no (h.length+1)=.no:=(Kp wL).trans n2;have m3:Jh O l .st (h.length+1)=.my:=(VL wL).trans m2;generalize Q3 t l .no=AW at R K3 E3 n3;generalize Jh O l .st=mC at R K3 E3 m3;have Ys:=R.o;have ME:=Qb Ys;have b4:=Qb DC;have Na:=Qb yK;have AI:n<=r.length:=JY v K3.len;apply Zp b;apply Vx [8] b [0,1,2,3,4,5,6,7,1008] [];simp only[go_sem,Ys,DC];refine yq b Qe6 rfl ?_ (Qlb E3 AI ω (vA 0 S.Qe a x)) rfl λd h4 y=>?_;simp only[go_sem,vA];obtain⟨rfl,E4,mE,a2⟩:=y;have T4:=R.step a2 (mz R.ap);have K4:=(K3.YE v).trans v mE;have Pp:h4[h.length+1]?=some _:=(mE.my _ Na m3).trans yK;have n4:Q3 AW r .no (h.length+1)=.no:=(Kp Na).trans n3;have m4:Jh mC r .no (h.length+1)=.my:=(VL Na).trans m3;have Bs:({ vA 0 S.Qe a x with op:=(f:Int) }:Ev)=vA f S.Qe a x:=rfl;rw[Bs]at E4;generalize Q3 AW r .no=a9 at T4 E4 K4 mE n4;generalize Jh mC r .no=b1 at T4 E4 K4 mE m4;have PM:=T4.o;have b3:=Qb PM;have C:=Qb Pp;have U1:n<=h4.length:=JY v K4.len;apply ZT b;simp only[go_sem,PM];have a6:=Qlc (T:=⟨_,_,_,_,T4⟩) a4 E4 U1 ξ;refine ZL b Qfe a6 λd h5 y=>?_;obtain⟨rfl,AV,a1,⟨_,_,_,_,T5⟩,E5,K5⟩:=y;have B:h5[h.length+1]?=some _:=(K5.my _ C m4).trans Pp;have n5:=(K5.s1 _ C).trans n4;have m5:=(K5.s2 _ C).trans m4;have a5:=Qb B;rw[WL]at E5;apply Qh b;simp only[go_sem,B,QF a5];exact⟨AV,a1,⟨_,_,_,_,T5.loc n5 (.inr m5) _⟩,E5.loc B nofun nb.1 nb.2 _,(K4.trans v K5).DL ω ω _⟩;have e:qq S f x=⟨{ S with M:=JD S.M S.Qe a x },⟨q,0,a⟩,[]⟩:=by unfold qq;rw[Qc (by rw[<- u];exact J),Qc (by rw[<- u,<- mD];exact he),<- u,<- mD]
 have PK:(q != 0)=true:=by simpa using he
 rw[e];simp only[go_sem,PK,Zt,QF wL];exact⟨t,O,⟨_,_,_,_,U.loc n2 (.inr m2) _⟩,E2.loc Zt nofun nb.1 nb.2 _,(K2.YE v).DL ω ω _⟩
def jl.q64{a}{h}{p}{M}(C:jl a h p M)(j:Int):(Zm M j).length<=64:=by
 unfold Zm Qy;cases b:Qi M.N j with
 | none=>exact Jj _
 | some n=>
  show n.q.l.length<=64;cases d:n.c.leaf with
  | true=>
   obtain⟨L,c⟩:=C.ex;obtain⟨k,e,r,Q⟩:=c.Xx j n b d;have:=Q.ring.sY;omega
  | false=>rw[C.V.A3 j n b d];exact Jj _
def Qbc(f:Ql->Nat)(b):∀l:List Ql,(∀c∈l,f c<=b)->(l.map f).sum<=l.length*b
 | [],_=>σ
 | c::l,h=>by
  have g:=h c σ;have e:=Qbc f b l λd a=>h d (by simp[a]);simp only[JT,List.sum_cons,Kw,VM,NG];omega
def jl.aj{a}{h}{p}{M}(C:jl a h p M):Wa M<=4096:=by
 have e:=Qbc (λc=>(Zm M c.iD).length) 64 M.T λc _=>C.q64 c.iD;have b:=C.I.tree.len;unfold Wa;have d:M.T.length*64<=64*64:=XC 64 b;omega
def ak(S:Z2)(b a:Nat):(Jy S b a).2.length<=1:=by
 unfold Jy;split;exact Jj _;split;exact QB _;exact Jj _
def Jv.Qbd{n}{c a}{d k}{h H:List Ob}(D:Jv n c d h a k H){p}(i:d p=.sys)(o):Jv n c d h a k (H.set p o):=
 ⟨D.s1,D.s2,λj g b f=>by rw[Qp (λe=>by rw[<- e,i]at f;cases f)];exact D.keep j g b f,λj g b=>by rw[Qp (λe=>by rw[<- e,i]at b;cases b)];exact D.my j g b,by simpa using D.len⟩
structure Qlh (n:Nat) (own:Nat->Tag) (tw:Nat->TT) (h:List Ob) (p:Nat) (S:Z2) (bp bo op e:Nat) (L:List Ev) (r k:Nat) (own':Nat->Tag) (Js:Nat->TT) (H:List Ob) (S':Z2) (L':List Ev):Prop where
 T:X7 own' Js H p S'
 V:Jn S'
 E:zP n own' Js H bp bo op (L++L')
 K:Jv n own tw h own' Js H
 hr:H[r]?=some ⟨.one,0,3,1,λ_=>[Qa 0,Qa 0,Qa 0]⟩
 nr:own' r=.no
 mr:Js r=.my
 hk:Wa S'.M+k=Wa S.M
 cl:S'.Qe<=e
 go:Vs op e (Wa S.M+1) S=((Vs op e (Wa S'.M+1) S').1,L'++(Vs op e (Wa S'.M+1) S').2)
 ln:L'.length<=k
def QDh{n}{c}{g}{h:List Ob}{p}{S}(T:X7 c g h p S)(V:Jn S){j l b}{L:List Ev}(E:zP n c g h j l b L)(y:n<=h.length)(hL:L.length<10000000)(i)(wZ:i<18446744073709551616):
  QM prog 47 h [.ptr p 0 0 0,u64 i,.clo 43 0 [.ptr j 0 0 0,.ptr l 0 0 0]] (λd Z=>d=.agg (zO S b i).r.cells/\∃f C,X7 f C Z p (zO S b i).S/\zP n f C Z j l b (L++(zO S b i).l)/\Jv n c g h f C Z):=by
 obtain⟨ps,lp,pr,pt,T⟩:=T;have Zs:=V.cl;have nb:h.length≠j/\h.length≠l:=by
  obtain⟨d,m,_⟩:=E.ho;have:=Qb m;have:=Qb E.hp;omega
 have T1:=T.F6 [⟨.one,0,3,1,λ_=>[Qa 0,Qa 0,Qa 0]⟩];have K1:=Jv.app (n:=h.length) c g h [⟨.one,0,3,1,λ_=>[Qa 0,Qa 0,Qa 0]⟩] .my (QB _);have E1:=E.y0 K1;have WN:(h++[(⟨.one,0,3,1,λ_=>[Qa 0,Qa 0,Qa 0]⟩:Ob)])[h.length]?=some ⟨.one,0,3,1,λ_=>[Qa 0,Qa 0,Qa 0]⟩:=Vc rfl;have n1:Q3 c h .no h.length=.no:=kb (QB _);have m1:Jh g h .my h.length=.my:=F4 (QB _);have x:=T.o;have Q:=Qb x;have w1:IntKind.u64.wrap ((4611686018427387904:Int)-(S.Qe:Int))=((4611686018427387904-S.Qe:Nat):Int):=η;by_cases M:4611686018427387904-S.Qe<i;have e:zO S b i=⟨S,⟨27,0,0⟩,[]⟩:=by unfold zO;rw[Qd M]
 rw[e];have d0:=QS M;refine Q7 func47 ntmps47 results47 λI w pl o=>?_;have Q:=Qb x;simp only[go_sem,Qj,x,Q,w1,d0];exact⟨_,_,⟨_,_,_,_,T.F6 _⟩,E.y0 (Jv.app c g h _ .my (QB _)),(Jv.app c g h _ .my (QB _)).YE y⟩;have d0:=QG M;obtain⟨e,he⟩:∃e,e=S.Qe+i:=⟨_,rfl⟩;have w2:IntKind.u64.wrap ((S.Qe:Int)+(i:Int))=((e:Nat):Int):=η;have hA:zO S b i=⟨(Vs b e (Wa S.M+1) S).1,⟨0,0,0⟩,(Vs b e (Wa S.M+1) S).2⟩:=by unfold zO;rw[Qc M,<- he]
 rw[hA];refine Q7 func47 ntmps47 results47 λI w pl o=>?_;have Q:=Qb x;simp only[go_sem,Qj,x,Q,w1,d0,w2];have A0:Qlh n c g h p S j l b e L h.length 0 (Q3 c h .no) (Jh g h .my) (h++[(⟨.one,0,3,1,λ_=>[Qa 0,Qa 0,Qa 0]⟩:Ob)]) S []:=
  ⟨⟨_,_,_,_,T1⟩,V,by rw[JS];exact E1,K1.YE y,WN,n1,m1,ω,ω,rfl,QB _⟩
 have a4:=T.co.aj;refine ZN (λk s=>∃f C H S' L',Qlh n c g h p S j l b e L h.length k f C H S' L'/\s=⟨[(0,.ptr p 0 0 0),(2,.clo 43 0 [.ptr j 0 0 0,.ptr l 0 0 0]),(6,.ptr h.length 0 0 0),(7,u64 e)],H⟩) (Wa S.M) QO ⟨_,_,_,S,[],A0,rfl⟩ ?_;clear A0 T1 K1 E1 WN n1 m1;rintro k _ hk ⟨Ka,YS,H,a,L2,A,rfl⟩;obtain⟨v,u,t,r,q⟩:=A.T;have B:=q.o;have FV:=Qb B;have N:=QC3 ⟨v,u,t,r,q⟩;obtain⟨Y,J⟩:∃Y,Y=Zy a:=⟨_,rfl⟩;rw[<- J]at N;have O:=A.hr;have wL:=Qb O;have K:p≠j/\p≠l:=⟨λe=>(by have m:=q.tp;rw[e,A.E.tp]at m;cases m),λe=>(by have m:=q.tp;rw[e,A.E.to]at m;cases m)⟩;have Ea:p≠h.length:=λe=>by have:=T.o;have:=Qb this;omega
 apply Qg o;apply Zz o Qsx N;apply Qg o;by_cases R:e<Y;have d1:=QS R;have W:Vs b e (Wa a.M+1) a=({ a with Qe:=e },[]):=by
  unfold Vs;rw[Qd (by rw[<- J];exact R)]
 have z:=A.go;rw[W,JS]at z;rw[z];simp only[go_sem,Qj,d1,B,Qp Ea,O,wL,QF];have a1:(H.set p (jm v u t r e a.ops))[h.length]?=some ⟨.one,0,3,1,λ_=>[Qa 0,Qa 0,Qa 0]⟩:=(Qp Ea).trans O;exact⟨Ka,YS,⟨_,_,_,_,(q.clock e a.ops).loc A.nr (.inr A.mr) _⟩,(A.E.loc B nofun K.1 K.2 _).loc a1 nofun nb.1 nb.2 _,(A.K.Qbd T.tp _).DL y (QB _) _⟩;have d1:=QG R;have F:Zy a<=e:=ω;obtain⟨V3,c1,c2,c3⟩:=QCA A.V b ω F;have W:Vs b e (Wa a.M+1) a=((Vs b e (Wa a.M) (Jy { a with Qe:=Zy a } b (Zy a)).1).1,(Jy { a with Qe:=Zy a } b (Zy a)).2++(Vs b e (Wa a.M) (Jy { a with Qe:=Zy a } b (Zy a)).1).2):=by
  conv=>lhs;unfold Vs
  rw[Qc (by rw[<- J];exact R)]
 have z:=A.go;rw[W,<- c1,<- WL]at z;have Ze:=ak { a with Qe:=Zy a } b (Zy a);subst J;have T3:=q.clock (Zy a) a.ops;have V2:Jn { a with Qe:=Zy a,ops:=a.ops }:=A.V.at_ c2 ω;have E3:=A.E.loc B nofun K.1 K.2 (jm v u t r (Zy a) a.ops);have yK:(H.set p (jm v u t r (Zy a) a.ops))[h.length]?=some _:=(Qp Ea).trans O;have K3:=A.K.Qbd T.tp (jm v u t r (Zy a) a.ops);have AI:n<=(H.set p (jm v u t r (Zy a) a.ops)).length:=JY y K3.len;have ES:=A.ln;have kD:=A.hk;have P:=Qlc (T:=⟨_,_,_,_,T3⟩) V2 E3 AI (by rw[Zk];omega);simp only[go_sem,d1,B];refine ZL o Qfe P λd h5 hR=>?_;obtain⟨rfl,AV,a0,T5,E5,U⟩:=hR;have Na:=Qb yK;apply Qg o;have a3:Wa (Jy { a with Qe:=Zy a } b (Zy a)).1.M+(k+1)=Wa S.M:=ω;have a2:(L2++(Jy { a with Qe:=Zy a } b (Zy a)).2).length<=k+1:=by rw[Zk];omega
 refine⟨ω,_,Qo.frame (fr':=[(0,.ptr p 0 0 0),(2,.clo 43 0 [.ptr j 0 0 0,.ptr l 0 0 0]),(6,.ptr h.length 0 0 0),(7,u64 e)]) (by simp only[go_sem]),AV,a0,h5,_,L2++(Jy { a with Qe:=Zy a } b (Zy a)).2,⟨T5,V3,by rw[<- WL];exact E5,K3.trans y U,(U.my _ Na A.mr).trans yK,(U.s1 _ Na).trans A.nr,(U.s2 _ Na).trans A.mr,a3,by rw[c3];exact F,z,a2⟩,rfl⟩
def A9(a:Nat->TT)(n:Nat):Nat->TT:=λl=>if l=n+2\/l=n+3 then .no else if n<=l then .my else a l
def mF{a}{n l}(h:l<n):A9 a n l=a l:=by unfold A9;rw[Qc ω,Qc ω]
def Qli{a}{n l}(h:l=n+2\/l=n+3):A9 a n l=.no:=by unfold A9;rw[Qd h]
def QDl{a}{n l}(h:n<=l)(c:l≠n+2)(b:l≠n+3):A9 a n l=.my:=by unfold A9;rw[Qc ω,Qd h]
structure an (S:Z2):Prop where
 ca:∀k,(S.st.Jg k).length<=S.ops
structure F9 (own:Nat->Tag) (tw:Nat->TT) (h:List Ob) (p:Nat) (op:Nat) (S':Z2) (L:List Ev) (r:YQ) (own':Nat->Tag) (Js:Nat->TT) (H:List Ob) (d:D):Prop where
 T:X7 own' Js H p S'
 E:zP h.length own' Js H (h.length+3) (h.length+2) op L
 K:Jv h.length own tw h own' Js H
 BC:H[h.length+1]?=some ⟨.one,0,3,1,λ_=>[Qa 0,Qa 0,Qa 0]⟩
 hr:H[h.length+4]?=some ⟨.one,0,3,1,λ_=>r.cells⟩
 ho:H[h.length+2]?=some (A7 d)
 hs:XQ (λl=>h.length<=l/\own' l=.no/\Js l=.no/\l≠h.length+3/\l≠h.length+2) H 12 Ev.cells d L
 n1:own' (h.length+1)=.no
 m1:Js (h.length+1)=.my
 n4:own' (h.length+4)=.no
 m4:Js (h.length+4)=.my
def DoR(e:Nat->Tag)(g:Nat->TT)(h:List Ob)(p:Nat)(Y:MV)(d:D)(b:List Ob):Prop:=
 ∃f a c,d=.tup [.agg Y.r.cells,f]/\X7 a c b p Y.S/\XQ (λl=>h.length<=l/\a l=.no/\c l=.no) b 12 Ev.cells f Y.l/\Jv h.length e g h a c b
def F9.done{b}{f}{h}{p l}{j}{L}{r}{a}{k}{H}{d}(I:F9 b f h p l j L r a k H d)(o):
  DoR b f h p ⟨j,r,L⟩ (.tup [.agg r.cells,d]) (H.set (h.length+1) o):=by
 obtain⟨t,v,u,s,T⟩:=I.T;refine⟨d,a,k,rfl,⟨_,_,_,_,T.loc I.n1 (.inr I.m1) o⟩,I.hs.imp id λ⟨m,g,e,q,c,i,n⟩=>⟨m,g,e,q,⟨c.1,c.2.1,c.2.2.1⟩,by rw[Qp (XA I.BC i (.inl nofun))];exact i,n⟩,I.K.DL ω ω o⟩
def F9.next{b}{k}{h}{p g}{v}{L}{r}{o}{l}{H}{d}(I:F9 b k h p g v L r o l H d){m}{n}{e}{c}{f}
  (u:X7 e c f p m) (q:zP h.length e c f (h.length+3) (h.length+2) g n) (a:Jv h.length o l H e c f):∃d2,F9 b k h p g m n r e c f d2:=by
 obtain⟨d2,t,s⟩:=q.ho;have j:=Qb I.BC;have i:=Qb I.hr;exact⟨d2,u,q,I.K.trans (QB _) a,(a.my _ j I.m1).trans I.BC,(a.my _ i I.m4).trans I.hr,t,s,(a.s1 _ j).trans I.n1,(a.s2 _ j).trans I.m1,(a.s1 _ i).trans I.n4,(a.s2 _ i).trans I.m4⟩
def F9.aq{a}{c}{h:List Ob}{p f}{k}{L}{r}{l}{j}{H:List Ob}{d}(I:F9 a c h p f k L r l j H d)(e:YQ):F9 a c h p f k L e l j (H.set (h.length+4) ⟨.one,0,3,1,λ_=>e.cells⟩) d:=by
 obtain⟨t,v,u,s,T⟩:=I.T;exact⟨⟨_,_,_,_,T.loc I.n4 (.inr I.m4) _⟩,I.E.loc I.hr nofun ω ω _,I.K.DL ω ω _,by rw[Qp ω];exact I.BC,QF (Qb I.hr),by rw[Qp ω];exact I.ho,
  I.hs.imp id λ⟨m,g,b,q,o,i,n⟩=>⟨m,g,b,q,o,by rw[Qp (XA I.hr i (.inl nofun))];exact i,n⟩,I.n1,I.m1,I.n4,I.m4⟩
def QDm{f}{u}{h}{p}{S:Z2}(T:X7 f u h p S)(V:Jn S)(hC:an S)(e2:S.ops<1000000)(o:ZO)(ho:ZO.Ok o)(hc:o.changes.length<1000000)(J3:o.rules.length<1000000):
  QM prog 24 h [.ptr p 0 0 0,.agg o.cells] (λd h'=>DoR f u h p (Ku S o) d h'):=by
 obtain⟨ps,lp,pr,pt,T⟩:=T;have hp:=T.o;have Rb:=Qb hp;have QQ:=Jr (show S.ops<4611686018427387904 from ω);have eS:Ku S o=V5 { S with ops:=S.ops+1 } S.ops o:=rfl;rw[eS];obtain⟨a,Ps⟩:∃a,a={ S with ops:=S.ops+1 }:=⟨_,rfl⟩;have T0:WJ f u (h.set p (jm ps lp pr pt S.Qe (S.ops+1))) p ps lp pr pt { S with ops:=S.ops+1 }:=T.clock S.Qe (S.ops+1);rw[<- Ps]at T0 ⊢;obtain⟨H,hH⟩:∃H,H=h.set p (jm ps lp pr pt S.Qe (S.ops+1))++[(⟨.one,0,10,1,λ_=>o.cells⟩:Ob),⟨.one,0,3,1,λ_=>[Qa 0,Qa 0,Qa 0]⟩,A7 .nil,A7 (Qa S.ops),⟨.one,0,3,1,λ_=>[Qa 1,Qa 0,Qa 0]⟩]:=⟨_,rfl⟩;have zZ:(h.set p (jm ps lp pr pt S.Qe (S.ops+1))).length=h.length:=σ;have ne:∀l,l<h.length->(A9 u h.length l)=u l:=λl m=>mF m;have t:WJ (Q3 f h .no) (A9 u h.length) H p ps lp pr pt a:=by
  rw[hH];refine T0.step (λl m=>⟨λ_=>⟨Kp (by rw[<- zZ];exact m),QE m⟩,λ_ _=>⟨mF (by rw[<- zZ];exact m),QE m⟩⟩) λl m=>?_;by_cases h1:l<h.length;rw[mF h1]at m;rw[Kp h1];exact T.ap l m;exact kb ω
 have K1:Jv h.length f u h (Q3 f h .no) (A9 u h.length) H:=by
  rw[hH];refine⟨λl m=>Kp m,λl m=>mF m,λl m h1 y=>?_,λl m h1=>?_,σ⟩;rw[QE (by rw[zZ];exact m),Qp (λe=>by rw[<- e,T.tp]at y;cases y)];rw[QE (by rw[zZ];exact m),Qp (λe=>by rw[<- e,T.tp]at h1;cases h1)]
 have n:∀k x,[(⟨.one,0,10,1,λ_=>o.cells⟩:Ob),⟨.one,0,3,1,λ_=>[Qa 0,Qa 0,Qa 0]⟩,A7 .nil,A7 (Qa S.ops),⟨.one,0,3,1,λ_=>[Qa 1,Qa 0,Qa 0]⟩][k]?=some x->H[h.length+k]?=some x:=λk x hk=>by
  rw[hH,VD (k:=k) zZ];exact hk
 have L:zP h.length (Q3 f h .no) (A9 u h.length) H (h.length+3) (h.length+2) S.ops []:=
  ⟨n 3 _ rfl,⟨.nil,n 2 _ rfl,.inl ⟨rfl,rfl⟩⟩,ω,ω,kb ω,kb ω,Qli (.inr rfl),Qli (.inl rfl),ω⟩
 have U:H[h.length]?=some ⟨.one,0,10,1,λ_=>o.cells⟩:=n 0 _ rfl;have ar:=n 1 _ rfl;have au:=n 2 _ rfl;have WN:=n 4 _ rfl;have n1:∀i,h.length<=i->Q3 f h .no i=.no:=λi hi=>kb hi;have m1:∀i,h.length<=i->i≠h.length+2->i≠h.length+3->A9 u h.length i=.my:=λi hi y h3=>QDl hi y h3;clear n ne zZ;generalize EY:Q3 f h .no=K at t K1 L n1;generalize Ri:A9 u h.length=B at t K1 L m1;have Ye:=t.o;have c7:=Qb Ye;have MB:=Qb U;have b6:=Qb ar;have c5:=Qb au;have CE:=Qb WN;have e1:a.Qe=S.Qe:=by rw[Ps]
 have V1:Jn a:=by rw[Ps];exact V.ops _
 have KU:h.length<=H.length:=K1.len;refine Q7 func24 ntmps24 results24 λc8 w pl j=>?_;have Rb:=Qb hp;simp only[go_sem,Qj,hp,Rb,QQ];simp only[go_sem]at hH U WN ar au;rw[<- hH];clear hH;have Rj:h.length+1≠h.length+2:=ω;have aw:h.length+4≠h.length+2:=ω;have ay:h.length+4≠h.length+1:=ω;have Z:F9 f u h p S.ops a [] ⟨1,0,0⟩ K B H .nil:=⟨⟨_,_,_,_,t⟩,L,K1,ar,WN,au,.inl ⟨rfl,rfl⟩,n1 _ ω,m1 _ ω ω ω,n1 _ ω,m1 _ ω ω ω⟩;obtain⟨yf,⟨_,xR⟩,⟨_,c9⟩,b8,wZ,_⟩:=ho;by_cases J:o.kind=1
 .have Q:(o.kind==1)=true:=by simpa using J
  obtain⟨la,lb,lc,Jp⟩:=t.ln;have F:=QaZ (Z4 Jp) a.Qe;obtain⟨bf,b0⟩:∃b,b=decide (a.X6<=a.Qe):=⟨_,rfl⟩;have e:V5 a S.ops o=⟨{ a with M:=Kt a.M bf o.changes },⟨qm a.M bf o.changes,yV a.M o.changes,0⟩,[]⟩:=by unfold V5;rw[Qd J,<- b0]
  rw[e];rw[<- b0]at F;have C:=QB5 t.co bf o.changes xR hc;obtain⟨ce,b9⟩:∃x,x=qm a.M bf o.changes:=⟨_,rfl⟩;obtain⟨ca,FN⟩:∃x,x=yV a.M o.changes:=⟨_,rfl⟩;rw[<- b9,<- FN]at C ⊢;simp only[go_sem,Q];apply Vx [15] j [0,1,2,3,4,5,6,7,8,9,10,11,13,14,1012,1015,16,17,18,19,20] [];simp only[go_sem,Ye,U];apply KQ j fa F;apply Zp j;refine kS j Qsi C λd y z=>?_;obtain⟨rfl,Ka,C2,D2⟩:=z;have W:=t.core D2 C2 (P6 a.M bf o.changes);have v:Jv H.length K B H Ka (Jh B H .no) y:=Jv.core t.ap (QB _) D2;obtain⟨d2,c⟩:=Z.next ⟨_,_,_,_,W⟩ (L.y0 v) (v.YE KU);have I:=c.aq ⟨ce,ca,0⟩;have q:=c.hr;have E:=Qb q;have r:=c.ho;have DP:=Qb r;have s:=c.BC;have N:=Qb s;apply ZT j;simp only[go_sem,q];apply Vx [] j [0] [1,2,3];simp only[go_sem,Qj,E,r,s,N,QF,Qp Rj,Qp aw,Qp ay];exact⟨I.done _,I.done _⟩
 have Q:(o.kind==1)=false:=by simpa using J
 by_cases O:o.kind=2
 .have b2:(o.kind==2)=true:=by simpa using O
  have R:=Qk8 H o.rules J3;by_cases yJ:qR o.rules=0
  .have e:V5 a S.ops o=⟨{ a with R:=o.rules },⟨0,0,0⟩,[]⟩:=by unfold V5;rw[Qc J,Qd O,Qd yJ]
   rw[e];simp only[go_sem,Q,b2,U];refine ZL j pg R λd y z=>?_;obtain⟨g,rfl,a6,_⟩:=z;obtain⟨p2,rfl,hT⟩:=a6 yJ;have W:=t.rules hT;have a4:(H++g)[p]?=some _:=(QE c7).trans Ye;have e0:=Qb a4;have v:Jv H.length K B H (Q3 K H .no) (Jh B H .HV) (H++g):=Jv.app K B H g .HV (QB _);have E2:=(L.y0 v).loc a4 nofun (by have:=Qb T.o;omega) (by have:=Qb T.o;omega) (jm ps lp p2 pt a.Qe a.ops);obtain⟨d2,c⟩:=Z.next ⟨_,_,_,_,W⟩ E2 ((v.YE KU).Qbd t.tp _);have I:=c.aq ⟨0,0,0⟩;have q:=c.hr;have E:=Qb q;have r:=c.ho;have DP:=Qb r;have s:=c.BC;have N:=Qb s;have Ze:=Qb T.o;have p4:p≠h.length+4:=ω;have a7:p≠h.length+2:=ω;have b7:p≠h.length+1:=ω;have a9:(H++g)[h.length+4]?=some _:=(QE CE).trans WN;have a5:(H++g)[h.length+2]?=some _:=(QE c5).trans au;have a8:(H++g)[h.length+1]?=some _:=(QE b6).trans ar;have c4:=Qb a9;have c3:=Qb a5;have c1:=Qb a8;have KS:d2=.nil:=by
    have h5:=c.ho;rw[Qp a7,a5]at h5;simp only[A7,Q5,Ob.mk.injEq,vM]at h5;have:=congrFun h5 0;simp only[Ig,and_true]at this;exact this.symm
   rw[KS]at I;have x4:h.length+4<H.length+g.length:=by have:=c4;simpa using this
   have x2:h.length+2<H.length+g.length:=by have:=c3;simpa using this
   have x1:h.length+1<H.length+g.length:=by have:=c1;simpa using this
   apply Qh j;simp only[go_sem,a4,Qp p4,a9];apply Vx [] j [0] [1,2,3];simp only[go_sem,Qj,x4,x1,Qp a7,Qp b7,a5,a8,QF,Qp Rj,Qp aw,Qp ay];exact⟨I.done _,I.done _⟩
  .have e:V5 a S.ops o=⟨a,⟨qR o.rules,0,0⟩,[]⟩:=by unfold V5;rw[Qc J,Qd O,Qc yJ]
   have b5:(qR o.rules==0)=false:=by simpa using yJ
   rw[e];obtain⟨re,c0⟩:∃x,x=qR o.rules:=⟨_,rfl⟩;rw[<- c0]at R b5 yJ ⊢;simp only[go_sem,Q,b2,U];refine ZL j pg R λd y z=>?_;obtain⟨g,rfl,_,a6⟩:=z;have hd:=a6 yJ;subst hd;have v:Jv H.length K B H (Q3 K H .no) (Jh B H .my) (H++g):=Jv.app K B H g .my (QB _);obtain⟨d2,c⟩:=Z.next ⟨_,_,_,_,t.F6 g⟩ (L.y0 v) (v.YE KU);have I:=c.aq ⟨re,0,0⟩;have q:=c.hr;have E:=Qb q;have r:=c.ho;have DP:=Qb r;have s:=c.BC;have N:=Qb s;have x4:h.length+4<H.length+g.length:=by have:=E;simpa using this
   have x2:h.length+2<H.length+g.length:=by have:=DP;simpa using this
   have x1:h.length+1<H.length+g.length:=by have:=N;simpa using this
   apply Qh j;simp only[go_sem,b5,q];apply Vx [] j [0] [1,2,3];simp only[go_sem,Qj,x4,x1,r,s,QF,Qp Rj,Qp aw,Qp ay];exact⟨I.done _,I.done _⟩
 have b2:(o.kind==2)=false:=by simpa using O
 by_cases k3:o.kind=3
 .have b3:(o.kind==3)=true:=by simpa using k3
  have e:V5 a S.ops o=qq a S.ops o.ZX:=by unfold V5;rw[Qc J,Qc O,Qd k3]
  rw[e];obtain⟨CD,Rc,ai,HY⟩:U6 o.ZX:=by
   obtain⟨_,_,a0,a1,a2,a3,_⟩:=b8;have:=wf_u16 a0;have:=wf_u16 a1;have:=wf_u16 a2;have:=wf_u16 a3;exact⟨⟨ω,ω⟩,⟨ω,ω⟩,⟨ω,ω⟩,⟨ω,ω⟩⟩
  have P:=QC9 ⟨_,_,_,_,t⟩ V1 L KU σ (λk=>by rw[Ps];have:=hC.ca k;show (S.st.Jg k).length<1000000;omega) o.ZX ⟨CD,Rc,ai,HY⟩;obtain⟨Y,hY⟩:∃Y,Y=qq a S.ops o.ZX:=⟨_,rfl⟩;rw[<- hY]at P ⊢;simp only[go_sem,Q,b2,b3,U];refine ZL j Qsj P λd y z=>?_;obtain⟨rfl,Ka,YS,W,E2,v⟩:=z;rw[zR]at E2;obtain⟨d2,c⟩:=Z.next W E2 v;have I:=c.aq Y.r;have q:=c.hr;have E:=Qb q;have r:=c.ho;have DP:=Qb r;have s:=c.BC;have N:=Qb s;apply Qh j;simp only[go_sem,q];apply Vx [] j [0] [1,2,3];simp only[go_sem,Qj,E,r,s,N,QF,Qp Rj,Qp aw,Qp ay];exact⟨I.done _,I.done _⟩
 have b3:(o.kind==3)=false:=by simpa using k3
 by_cases k4:o.kind=4
 .have b4:(o.kind==4)=true:=by simpa using k4
  have e:V5 a S.ops o=zO a S.ops o.Wz.toNat:=by unfold V5;rw[Qc J,Qc O,Qc k3,Qd k4]
  rw[e];have hw:=wf_u64 wZ;have P:=QDh ⟨_,_,_,_,t⟩ V1 L KU σ o.Wz.toNat ω;obtain⟨Y,hY⟩:∃Y,Y=zO a S.ops o.Wz.toNat:=⟨_,rfl⟩;rw[<- hY,show u64 o.Wz.toNat=.raw (.int .u64 o.Wz) by show D.raw (.int .u64 (o.Wz.toNat:Int))=_;rw[Ei hw.1]]at P;rw[<- hY];simp only[go_sem,Q,b2,b3,b4,U];refine ZL j Qsk P λd y z=>?_;obtain⟨rfl,Ka,YS,W,E2,v⟩:=z;rw[zR]at E2;obtain⟨d2,c⟩:=Z.next W E2 v;have I:=c.aq Y.r;have q:=c.hr;have E:=Qb q;have r:=c.ho;have DP:=Qb r;have s:=c.BC;have N:=Qb s;apply Qh j;simp only[go_sem,q];apply Vx [] j [0] [1,2,3];simp only[go_sem,Qj,E,r,s,N,QF,Qp Rj,Qp aw,Qp ay];exact⟨I.done _,I.done _⟩
 have b4:(o.kind==4)=false:=by simpa using k4
 have e:V5 a S.ops o=⟨a,⟨1,0,0⟩,[]⟩:=by unfold V5;rw[Qc J,Qc O,Qc k3,Qc k4]
 rw[e];simp only[go_sem,Q,b2,b3,b4];apply Vx [] j [0] [1,2,3];simp only[go_sem,WN,au,ar,b6,QF,Qp Rj];exact⟨Z.done _,Z.done _⟩
def QDx(h:List Ob):QM prog 41 h [.nil] (λd a=>∃g p,a=h++g/\d=.tup [.ptr p 0 0 0,Qa 0]/\HW (λj=>h.length<=j) (h++g) p []):=
 (QM.QdJ (cs':=[.nil]) (Qk8 h [] π) ⟨rfl,trivial⟩).mono λd a ⟨g,f,e,_⟩=>by
  obtain⟨p,c,b⟩:=e rfl;exact⟨g,p,f,c,b⟩
def qs.fresh(h:List Ob)(S)(a:∀j,h.length<=j->S j):qs S (h++[QR .i64 0 [],QR .i64 0 [],stO h.length (h.length+1)]) (h.length+2) ⟨λ_=>[],λ_=>default⟩:=
 ⟨h.length,h.length+1,0,[],0,[],VD (k:=2) rfl,Vc rfl,VD (k:=1) rfl,ω,a _ ω,a _ ω,a _ ω,λk=>.inl ⟨rfl,rfl⟩,λk i f g c n l d e b=>(by cases b),λk=>rfl⟩
def QDy{own}{tw}(ap:∀l,tw l≠.no->own l=.no)(h){c}(K:WZ c):
  QM prog 23 h [.agg c.cells] (λd U=>∃n Z p,d=.tup [.ptr p 0 0 0,Qa 0]/\X7 n Z U p (S0 c)/\Jv h.length own tw h n Z U):=by
 have O:(h++[(⟨.one,0,2,1,λ_=>c.cells⟩:Ob)])[h.length]?=some ⟨.one,0,2,1,λ_=>c.cells⟩:=Vc rfl;have M:=QB6 (Q3 own h .no) (h++[(⟨.one,0,2,1,λ_=>c.cells⟩:Ob)]) K;have C:=Jv.app own tw h [(⟨.one,0,2,1,λ_=>c.cells⟩:Ob)] .no (QB _);have F:=mz (h:=h) ap;have Q:Q3 own h .no h.length=.no:=kb (QB _);refine Q7 func23 ntmps23 results23 λa0 w pl k=>?_;simp only[go_sem,Qj];obtain⟨f,J⟩:∃x,x=h++[(⟨.one,0,2,1,λ_=>c.cells⟩:Ob)]:=⟨_,rfl⟩;rw[<- J]at O M C;simp only[go_sem]at J;rw[<- J];clear J;have MB:=Qb O;generalize Q3 own h .no=Jx at M C F Q;generalize Jh tw h .no=V at C F;refine ZL k Qsf M λd a o=>?_;obtain⟨Y,L,rfl,C2,P⟩:=o;have B:=C.trans (QB _) ((Jv.core F (QB _) P).YE C.len);have W:a[h.length]?=some _:=(P.keep _ MB Q).trans O;have FV:=Qb W;apply Qh k;simp only[go_sem,W];refine ZL k Qsg (QCE a K.t1 K.t2) λd h o=>?_;obtain⟨rfl,rfl⟩:=o;apply Qg k;refine ZL k pg (QDx _) λd e o=>?_;obtain⟨g,E,s,rfl,y⟩:=o;apply Qg k;refine ZL k Qsh (QCO e) λd i o=>?_;obtain⟨rfl,q⟩:=o;apply Qg k;have s:e=(a++[jo 0 0 0 c.t 0])++g:=s;have y:HW (λj=>(a++[jo 0 0 0 c.t 0]).length<=j) ((a++[jo 0 0 0 c.t 0])++g) E []:=y;rw[<- s]at y;have R:(a++[jo 0 0 0 c.t 0]).length=a.length+1:=σ;rw[R]at y;have l4:a.length+1<=e.length:=by rw[s,Zk,R];omega
 have l5:i.length=e.length+3:=by rw[q];simp
 have N:∀l,l<a.length->e[l]? = a[l]? := λl b=>by rw[s,WL,QE b]
 have v:∀l,l<e.length->i[l]? = e[l]? := λl b=>by rw[q,QE b]
 have ES:e[a.length]?=some (jo 0 0 0 c.t 0):=by rw[s,WL];exact Vc rfl
 have QZ:qs (λl=>e.length<=l) i (e.length+2) ⟨λ_=>[],λ_=>default⟩:=by rw[q];exact qs.fresh e _ λ_ h=>h
 obtain⟨H,I⟩:∃H,H=i++[jm L a.length E (e.length+2) 0 0]:=⟨_,rfl⟩;have r:∀l,l<i.length->H[l]? = i[l]? := λl b=>by rw[I,QE b]
 have hp:H[i.length]?=some (jm L a.length E (e.length+2) 0 0):=by rw[I];exact Vc rfl
 obtain⟨m,z⟩:∃t:Nat->TT,t=λl=>if l<a.length then Jh V f .no l else if l=a.length then .ln else if l<e.length then .HV else if l<i.length then .st else if l=i.length then .sys else .no:=⟨_,rfl⟩;have t0:∀l,l<a.length->m l=Jh V f .no l:=λl b=>by rw[z];dsimp only;rw[Qd b]
 have t1:m a.length=.ln:=by rw[z];dsimp only;rw[Qc ω,Qd rfl]
 have t2:∀l,a.length+1<=l->l<e.length->m l=.HV:=λl f a=>by rw[z];dsimp only;rw[Qc ω,Qc ω,Qd a]
 have t3:∀l,e.length<=l->l<i.length->m l=.st:=λl f a=>by rw[z];dsimp only;rw[Qc ω,Qc ω,Qc ω,Qd a]
 have t4:m i.length=.sys:=by rw[z];dsimp only;rw[Qc ω,Qc ω,Qc ω,Qc ω,Qd rfl]
 have X:WJ (Q3 Y a .no) m H i.length L a.length E (e.length+2) (S0 c):=by
  refine⟨hp,t4,C2.step λl b _=>⟨Kp b,by rw[r l ω,v l ω,N l b]⟩,⟨0,0,0,?_⟩,t1,y.step λj u f=>⟨t2 j f u,by rw[r j ω,v j u]⟩,QZ.step λj u f=>⟨t3 j f u,r j u⟩,λl b=>?_⟩;rw[r _ ω,v _ ω];exact ES;by_cases T:l<a.length;rw[t0 l T]at b;rw[Kp T];by_cases S:l<f.length;rw[VL S]at b;rw[P.same l S];exact F l b;rw[F4 ω]at b;exact absurd rfl b;exact kb ω
 have KH:Jv h.length own tw h (Q3 Y a .no) m H:=by
  have a1:=B.len;exact⟨λl b=>by rw[Kp ω];exact B.s1 l b,λl b=>by rw[t0 l ω];exact B.s2 l b,λl b f a=>by rw[r l ω,v l ω,N l ω];exact B.keep l b f a,λl b f=>by rw[r l ω,v l ω,N l ω];exact B.my l b f,by rw[I];simp;omega⟩
 subst I;exact⟨_,m,_,rfl,⟨_,_,_,_,X⟩,KH⟩
end Go.Fg.X
namespace Go.Fg.X
open Go.Proofs Go.Fg
open Go.RowKit (Below)
open Go.Proofs.Tryz
def Qbi{P}{f}{C}{R}(J:D)(W:J.upto 0=true)
  (hd:∀d u,R d u->JC 6 d J\/(∃a g t n k,u[a]?=some ⟨.arr,g,t,n,k⟩/\(∀i,i<n->(k i).all D.XV=true)/\JC 6 (D.fz a g n t k d) J) \/
   ∃a g t n k F T V K E,u[a]?=some ⟨.arr,g,t,n,k⟩/\u[F]?=some ⟨.arr,T,V,K,E⟩/\F≠a/\(∀i,i<n->(k i).all D.XV=true)/\(∀i,i<K->(E i).all D.XV=true)/\JC 6 (D.fz F T K V E (D.fz a g n t k d)) J) (h:QI P f C R):QI P f C (QN J):=by
 intro Z S w pl vs h1 h2 h3 hl hc;have N:pl=[]:=by have:=h3.len;simpa using this
 subst N;refine(h Z S w [] vs h1 h2 h3 hl hc).mono λe w' he=>?_;obtain⟨v,d,u,B,rfl,hR,y,hV,hT,hB⟩:=he;suffices a0:QD Z [] [] w' J v by
  exact⟨v,_,[],[],rfl,⟨rfl,rfl⟩,Zh.nil,a0,⟨λb L Qb=>⟨L,(hT.JU b L Qb).2⟩,λl o p e=>by simp at e,λl o I b q e=>by simp at e⟩,hB⟩
 rcases hd _ _ hR with s|⟨a,g,t,n,k,x,Zs,s⟩|⟨a,g,t,n,k,F,T,V,K,E,x,H,a1,Zs,Q,s⟩;exact(kP 6 s hV).take W;have Qb:a<B.length:=by rw[y.len];exact(W3.1 x).1
 obtain⟨p,m⟩:∃p,B[a]?=some p:=⟨_,QJ Qb⟩;have B6:=hV.fz (l:=a) (o:=⟨.arr,g,t,n,k⟩) (p:=p) x m rfl (λb q e=>by
  subst e;refine⟨h2 b ?_,λr q' z=>?_,(y.at_ a _ b q x m).2.cells rfl⟩;rcases wU b w.heap.size with Qb|WS;exact absurd m ((hT.JU b (λi q e=>by simp at e) Qb).1 a q);exact WS;exact y.inj _ _ _ _ _ z m) Zs (h':=u.set a (Ob.gone ⟨.arr,g,t,n,k⟩)) (λr I O e=>by
  exact⟨I,by rw[JG (Q8 O)];exact e,rfl,rfl,rfl⟩)
 exact(kP 6 s B6).take W;have pos:∀{a:Nat} {o:Ob},u[a]?=some o->∃p,B[a]?=some p:=λ{a o} x=>by
  have Qb:a<B.length:=by rw[y.len];exact(W3.1 x).1
  exact⟨_,QJ Qb⟩
 have zb:∀{a b q:Nat},B[a]?=some (some (b,q))->Z b:=λ{a b q} m=>h2 b (by
  rcases wU b w.heap.size with Qb|WS;exact absurd m ((hT.JU b (λi q e=>by simp at e) Qb).1 a q);exact WS)
 obtain⟨p,m⟩:=pos x;obtain⟨p',U⟩:=pos H;have r1:=hV.fz (l:=a) (o:=⟨.arr,g,t,n,k⟩) (p:=p) x m rfl (λb q e=>by
  subst e;exact⟨zb m,λr q' z=>y.inj _ _ _ _ _ z m,(y.at_ a _ b q x m).2.cells rfl⟩) Zs (h':=u) (λr I O e=>⟨I,e,rfl,rfl,rfl⟩)
 have N:∀(r:Nat),r≠a->(B.set a none)[r]? = B[r]? := λr YA=>by rw[JG (Q8 YA)]
 have O:F≠a:=a1;have r2:=r1.fz (l:=F) (o:=⟨.arr,T,V,K,E⟩) (p:=p') H ((N _ O).trans U) rfl (λb q e=>by
  subst e;refine⟨zb U,λr q' z=>?_,?_⟩;by_cases M:r=a;subst M;rw[W5 (Wp m)]at z;cases z;rw[N _ M]at z;exact y.inj _ _ _ _ _ z U;obtain⟨c,el,c1,c2,c3,c4⟩:=(y.at_ F _ b q H U).2.cells rfl;refine⟨c,el,c1,c2,c3,λi j Y hj=>?_⟩;obtain⟨v,hv,hr⟩:=c4 i j Y hj;have h5:=Q i Y;rw[qV]at h5;have h6:j<(E i).length:=by rw[c3 i Y];exact hj
  have h7:(nth (E i) j).XV=true:=h5 _ (by
   simp only[nth,QW,QJ h6,KW];exact Xn h6)
  exact⟨v,hv,.cl _ _ ((GX hr h7).mono (N':=free Z (B.set a none)) (w':=w') λb L _=>⟨⟨L.1,λl q e=>by
   by_cases M:l=a;subst M;rw[W5 (Wp m)]at e;cases e;rw[N _ M]at e;exact L.2 l q e⟩,rfl⟩)⟩) Q (h':=u) (λr I O e=>⟨I,e,rfl,rfl,rfl⟩)
 exact(kP 6 s r2).take W
end Go.Fg.X
namespace Go.Fg.X
open Go.Proofs Go.Fg
open Go.Proofs.Tryz
def Qlr(u)(a b):∀c:List (Nat × D),put (put c u a) u b=put c u b
 | []=>by simp[put]
 | (t,e)::r=>by
  cases h:Nat.beq t u with
  | true=>simp[put,h]
  | false=>simp[put,h,Qlr u a b r]
def QDA{k:Type}[Inhabited k]{w0:Start}(m:w0.F=[])(B:w0.pl=[]){S:Nat->Prop}{j:Nat}{f:k->List D}(C:∀a,(f a).all D.XV=true){fr:List (Nat × D)}{h:List Ob}{d:D}{L:List k}(t:Nat)(s:get fr t=d)(E:XQ S h j f d L):
  ∃b p,Qo w0 ⟨fr,h⟩ ⟨put fr t (.imm j L.length b),p⟩/\(∀i,i<L.length->b i=f (L.getD i default))/\h.length<=p.length/\∀l,l<h.length->¬S l->p[l]? = h[l]? := by
 have r:w0.pl.length=w0.F.length:=by rw[m,B];rfl
 have v:∀h:List Ob,QfZ w0.F h:=λh l o e=>by rw[m]at e;simp at e
 have hz:∀n,w0.F.length<=n:=λn=>by rw[m];exact Jj _
 rcases E with ⟨rfl,rfl⟩|⟨z,g,b,rfl,q,F,y⟩;refine⟨rowFrom 0 (λ_=>[]),h++[(⟨.arr,0,j,0,λ_=>[]⟩:Ob).gone],?_,λi c=>absurd c (Yc i),σ,λl u x=>QE u⟩;have H:=Qo.QB7 (w0:=w0) (h:=h) t j s;have w:=Qo.SW r (v _) t h.length (hz _) (fr:=put fr t (.ref h.length 0 0 0)) (h:=h++[(⟨.arr,0,j,0,λ_=>[]⟩:Ob)]) (o:=⟨.arr,0,j,0,λ_=>[]⟩) (off:=0) (len:=0) (by rw[Eu,Qd rfl]) (Vc rfl) (QB 0) rfl (λi c=>absurd c (Yc i));rw[Qlr,eF rfl]at w;exact Qo.trans H w;refine⟨rowFrom 0 b,_,Qo.SW r (v _) t z (hz _) s F (by show 0+L.length<=L.length;omega) rfl (λi c=>?_),λi c=>?_,σ,λl u x=>?_⟩;show (b i).all D.XV=true;rw[y i c];exact C _;rw[G7,Jz,y i c];exact Qp λe=>x (by rw[<- e];exact q)
def X7.far{a}{b}{h f:List Ob}{p}{S}(T:X7 a b h p S)(m:h.length<=f.length)(e:∀l,l<h.length->¬(a l=.no/\b l=.no)->f[l]? = h[l]?):X7 (Q3 a h .no) (Jh b h .no) f p S:=by
 obtain⟨i,k,j,g,T⟩:=T;exact⟨_,_,_,_,T.step (λl Qb=>⟨λc=>⟨Kp Qb,e l Qb λd=>c.1 d.1⟩,λc _=>⟨VL Qb,e l Qb λd=>c d.2⟩⟩) (mz T.ap)⟩
structure ZO.Small (o:ZO):Prop where
 c:o.changes.length<1000000
 r:o.rules.length<1000000
def Qls(S:Z2)(f d:Nat)(k:Int):((Jy S f d).1.st.Jg k).length<=(S.st.Jg k).length:=by
 have g:∀(s:DZ) (c:Int) (done:Nat) (bytes:Int) (b:Bool),((qn s c done bytes b).Jg k).length<=(s.Jg k).length:=λs c done bytes b=>by
  unfold qn;cases h:s.Jg c with
  | nil=>exact QB _
  | cons a l=>
   dsimp only;split;exact QB _;split;exact QB _;dsimp only;split;rename_i e;rw[e,h];simp;exact QB _
 unfold Jy;split;exact QB _;split;exact g _ _ _ _ _;exact QB _
def Qlt(a e)(k:Int):∀(n:Nat) (S:Z2),((Vs a e n S).1.st.Jg k).length<=(S.st.Jg k).length
 | 0,S=>QB _
 | n+1,S=>by
  unfold Vs;split;exact QB _;exact JY (Qlt a e k n _) (Qls { S with Qe:=Zy S } a (Zy S) k)
def an.do{S}(C:an S)(o:ZO):an (Ku S o).S:=by
 refine⟨λk=>?_⟩;rw[QkY];have a:=C.ca k;show ((V5 { S with ops:=S.ops+1 } S.ops o).S.st.Jg k).length<=S.ops+1;unfold V5;split;show (S.st.Jg k).length<=_;omega;split;split<;>(show (S.st.Jg k).length<=_;omega);split;unfold qq;split;show (S.st.Jg k).length<=_;omega;split;refine JY (Qls _ _ _ k) ?_;show (if k=_ then S.st.Jg k++[S.Qe] else S.st.Jg k).length<=_;split;rw[Zk];show _+1<=_;omega;omega;show (S.st.Jg k).length<=_;omega;split;unfold zO;split;show (S.st.Jg k).length<=_;omega;exact JY (Qlt _ _ k _ _) (by show (S.st.Jg k).length<=_;omega);show (S.st.Jg k).length<=_;omega
def X7.QDD{a}{c}{h g:List Ob}{p}{S}(T:X7 a c h p S)(e:∀l,l<h.length->¬(a l=.no/\(c l=.no\/c l=.my))->g[l]? = h[l]?):X7 (Q3 a h .no) (Jh c h .my) g p S:=by
 obtain⟨k,n,m,j,T⟩:=T;refine⟨_,_,_,_,T.step (λl Qb=>⟨λd=>⟨Kp Qb,e l Qb λb=>d.1 b.1⟩,λd i=>⟨VL Qb,e l Qb λb=>b.2.elim d i⟩⟩) λl f=>?_⟩;by_cases b:l<h.length;rw[VL b]at f;rw[Kp b];exact T.ap l f;exact kb ω
def YQ.rows(l:List YQ):Nat->List D:=λi=>(l.getD i default).cells
@[go_sem] theorem YQ.xp(l:List YQ)(i):YQ.rows l i=(l.getD i default).cells:=rfl
@[go_sem] def Nf(l:List YQ):D:=.imm 3 l.length (YQ.rows l)
structure az (x:Xr) (p q k:Nat) (own:Nat->Tag) (tw:Nat->TT) (H:List Ob) (S:Z2) (R:List YQ) (E:List Ev) (dR dE:D):Prop where
 T:X7 own tw H p S
 V:Jn S
 C:an S
 ops:S.ops=k
 hx:H[0]?=some ⟨.one,0,3,1,λ_=>x.cells⟩
 hr:H[1]?=some ⟨.one,0,2,1,λ_=>[.nil,.nil]⟩
 hq:H[q]?=some ⟨.one,0,2,1,λ_=>[dR,dE]⟩
 q2:2<=q
 my:∀l,l=0\/l=1\/l=q->own l=.no/\tw l=.my
 sR:XQ (λl=>own l=.no/\tw l=.my) H 3 YQ.cells dR R
 sE:XQ (λl=>own l=.no/\tw l=.my) H 12 Ev.cells dE E
 run:Zx (S0 x.config) (x.ops.take k)=(S,R,E)
 lR:R.length=k
 lE:E.length<=5000*k
def Qlu(S:Z2)(o:ZO)(h:Wa S.M<=4096):(Ku S o).l.length<=5000:=by
 have d:∀(a e n:Nat) (S:Z2),(Vs a e n S).2.length<=n:=by
  intro a e n;induction n with
  | zero=>exact λS=>QB _
  | succ n c=>
   intro S;unfold Vs;split;exact Jj _;have f:=c (Jy { S with Qe:=Zy S } a (Zy S)).1;have b:=ak { S with Qe:=Zy S } a (Zy S);dsimp only;rw[Zk];omega
 show (V5 { S with ops:=S.ops+1 } S.ops o).l.length<=5000;unfold V5;split;exact Jj _;split;split<;>exact Jj _;split;unfold qq;split;exact Jj _;split;have b:=ak { { S with ops:=S.ops+1 } with M:=JD S.M S.Qe (Ki S.R (Z1 o.ZX)) o.ZX,st:=wF S.st (Ki S.R (Z1 o.ZX)) S.Qe } S.ops S.Qe;show (_::_:List Ev).length<=5000;rw[Kw];exact JY (Nat.succ_le_succ b) π;exact Jj _;split;unfold zO;split;exact Jj _;have:=d S.ops (S.Qe+o.Wz.toNat) (Wa S.M+1) { S with ops:=S.ops+1 };exact JY this ω;exact Jj _
def Jn.start{b}{d}{h}{p}{c}(T:X7 b d h p (S0 c)):Jn (S0 c):=by
 obtain⟨_,_,_,_,T⟩:=T;exact⟨T.co.I,T.co.V,T.co.K,λj x hx=>(by cases hx),QB _,Jj _,Jj _,λk=>⟨CN _,CN _,CN _,CN _,CN _⟩,λk a e=>(by cases e)⟩
def mH{a:Type}[Inhabited a]{f:a->List D}{L M:List a}{c r2:Nat->List D}(g:∀i,i<L.length->c i=f (L.getD i default))(e:∀i,i<M.length->r2 i=f (M.getD i default)):∀i,i<(L++M).length->JO L.length 0 c r2 i=f ((L++M).getD i default):=by
 intro i d;rw[Zk]at d;rw[QW];by_cases b:i<L.length;rw[Bo b,Jz,g i b,JJ b,QW];rw[x9 ω,e _ ω,Kc ω,QW]
def az.next{x:Xr}{p q k}{g}{t}{H}{S}{R}{E}{L M}(I:az x p q k g t H S R E L M)(v:k<x.ops.length)(z:∀c∈(x.ops.getD k default).changes,Jc.Ok c){own4}{tw4}{h4 h':List Ob}{Y:MV}(f:Y=Ku S (x.ops.getD k default))(T:X7 own4 tw4 h4 p Y.S)(h:h4.length<=h'.length)(e:∀l,l<h4.length->¬(own4 l=.no/\(tw4 l=.no\/tw4 l=.my))->h'[l]? = h4[l]?)
  (i:∀l o,l<H.length->g l=.no->t l=.my->H[l]?=some o->own4 l=.no/\tw4 l=.my/\h4[l]?=some o) {a b:D}
  (K:h'[0]? = h4[0]?) (J:h'[1]? = h4[1]?) (F:h'[q]?=some ⟨.one,0,2,1,λ_=>[a,b]⟩)
  (w:XQ (λl=>h4.length<=l\/own4 l=.no/\tw4 l=.my) h' 3 YQ.cells a (R++[Y.r])) (y:XQ (λl=>h4.length<=l\/own4 l=.no/\tw4 l=.my) h' 12 Ev.cells b (E++Y.l)) :
  az x p q (k+1) (Q3 own4 h4 .no) (Jh tw4 h4 .my) h' Y.S (R++[Y.r]) (E++Y.l) a b:=by
 have d:∀l,(h4.length<=l\/own4 l=.no/\tw4 l=.my)->Q3 own4 h4 .no l=.no/\Jh tw4 h4 .my l=.my:=λl h=>by
  by_cases s:l<h4.length;rw[Kp s,VL s];exact h.resolve_left ω;exact⟨kb ω,F4 ω⟩
 have n:=i 0 _ (Qb I.hx) (I.my 0 (.inl rfl)).1 (I.my 0 (.inl rfl)).2 I.hx;have m:=i 1 _ (Qb I.hr) (I.my 1 (.inr (.inl rfl))).1 (I.my 1 (.inr (.inl rfl))).2 I.hr;have u:=i q _ (Qb I.hq) (I.my q (.inr (.inr rfl))).1 (I.my q (.inr (.inr rfl))).2 I.hq;have B:x.ops.take (k+1)=x.ops.take k++[x.ops.getD k default]:=by
  rw[zS,QJ v,QW,QJ v];rfl
 refine⟨T.QDD e,?_,?_,?_,K.trans n.2.2,J.trans m.2.2,F,I.q2,λl h=>?_,w.step λj _ r=>⟨d j r,rfl⟩,y.step λj _ r=>⟨d j r,rfl⟩,?_,?_,?_⟩;rw[f];exact I.V.do z;rw[f];exact I.C.do _;rw[f,QkY,I.ops];rcases h with rfl|rfl|rfl;exact d _ (.inr ⟨n.1,n.2.1⟩);exact d _ (.inr ⟨m.1,m.2.1⟩);exact d _ (.inr ⟨u.1,u.2.1⟩);rw[B,QkT,I.run,f];simp only[Zx,JS];rw[Zk,I.lR];rfl;obtain⟨_,_,_,_,N⟩:=I.T;have s:=Qlu S (x.ops.getD k default) N.co.aj;have O:=I.lE;rw[Zk,f];omega
def Qlv{b:List YQ}{a}(h:∀i,i<b.length->a i=YQ.cells (b.getD i default)){k}:JC (k+1) (.imm 3 b.length (rowFrom 0 a)) (Nf b):=⟨rfl,rfl,λi c=>by rw[G7,Jz,h i c];exact vW (zx _) _⟩
def Qlw{b:List Ev}{a}(h:∀i,i<b.length->a i=Ev.cells (b.getD i default)){k}:JC (k+1) (.imm 12 b.length (rowFrom 0 a)) (YI b):=⟨rfl,rfl,λi c=>by rw[G7,Jz,h i c];exact vW (zx _) _⟩
def run_freeze{S}{u}{I J}{f}{j}(N:XQ S u 3 YQ.cells I f)(F:XQ S u 12 Ev.cells J j){d}(e:d=.tup [.agg [I,J],Qa 0]):
  JC 6 d (.tup [.agg [Nf f,YI j],Qa 0])\/(∃q g t n c,u[q]?=some ⟨.arr,g,t,n,c⟩/\(∀i,i<n->(c i).all D.XV=true)/\JC 6 (D.fz q g n t c d) (.tup [.agg [Nf f,YI j],Qa 0])) \/
   ∃q g t n c E H L z B,u[q]?=some ⟨.arr,g,t,n,c⟩/\u[E]?=some ⟨.arr,H,L,z,B⟩/\E≠q/\(∀i,i<n->(c i).all D.XV=true)/\(∀i,i<z->(B i).all D.XV=true)/\JC 6 (D.fz E H z L B (D.fz q g n t c d)) (.tup [.agg [Nf f,YI j],Qa 0]):=by
 subst e;have M:∀{a b:Nat},a≠b->Nat.beq a b=false:=λ{a b} h=>by rw[<- Ya,Wo];exact h
 rcases N with ⟨rfl,rfl⟩|⟨l,r,s,rfl,_,C,y⟩;rcases F with ⟨rfl,rfl⟩|⟨k,o,p,rfl,_,x,w⟩;exact .inl ⟨⟨rfl,rfl,trivial⟩,rfl,trivial⟩;refine .inr (.inl ⟨k,o,12,_,p,x,λi m=>by rw[w i m];rfl,?_⟩);have v:D.fz k o j.length 12 p (.tup [.agg [.nil,.ref k o 0 j.length],Qa 0])=.tup [.agg [.nil,.imm 12 j.length (rowFrom 0 p)],Qa 0]:=by simp[D.fz,zq,EU,Qa]
 rw[v];exact⟨⟨rfl,Qlw w,trivial⟩,rfl,trivial⟩;rcases F with ⟨rfl,rfl⟩|⟨k,o,p,rfl,_,x,w⟩;refine .inr (.inl ⟨l,r,3,_,s,C,λi m=>by rw[y i m];rfl,?_⟩);have v:D.fz l r f.length 3 s (.tup [.agg [.ref l r 0 f.length,.nil],Qa 0])=.tup [.agg [.imm 3 f.length (rowFrom 0 s),.nil],Qa 0]:=by simp[D.fz,zq,EU,Qa]
 rw[v];exact⟨⟨Qlv y,rfl,trivial⟩,rfl,trivial⟩;have K:k≠l:=XA x C (.inr nofun);refine .inr (.inr ⟨l,r,3,_,s,k,o,12,_,p,C,x,K,λi m=>by rw[y i m];rfl,λi m=>by rw[w i m];rfl,?_⟩);have v:D.fz k o j.length 12 p (D.fz l r f.length 3 s (.tup [.agg [.ref l r 0 f.length,.ref k o 0 j.length],Qa 0]))=.tup [.agg [.imm 3 f.length (rowFrom 0 s),.imm 12 j.length (rowFrom 0 p)],Qa 0]:=by simp[D.fz,zq,EU,M K,Qa]
 rw[v];exact⟨⟨Qlv y,Qlw w,trivial⟩,rfl,trivial⟩
def Qlx(x:Xr)(K:WZ x.config)(c:x.ops.length<=1000)(ZS:∀o∈x.ops,ZO.Ok o/\ZO.Small o):
  QI prog 9 [.agg x.cells] (QN (.tup [.agg [Nf (Zx (S0 x.config) x.ops).2.1,YI (Zx (S0 x.config) x.ops).2.2],Qa 0])):=by
 have dl:decide ((1000:Int)<(x.ops.length:Int))=false:=QG ω;refine Qbi (R:=λd hh=>∃(S:Nat->Prop) (dR dE:D),d=.tup [.agg [dR,dE],Qa 0]/\XQ S hh 3 YQ.cells dR (Zx (S0 x.config) x.ops).2.1/\XQ S hh 12 Ev.cells dE (Zx (S0 x.config) x.ops).2.2) _ rfl (λd hh ⟨S,dR,dE,e,z,t⟩=>run_freeze z t e) ?_;refine oP Vd 200 func9 rfl ntmps9 results9 rfl λc8 w L=>?_;simp only[go_sem];have hN:=QDy (own:=λ_=>.no) (tw:=λ_=>.my) (λ_ _=>rfl) [(⟨.one,0,3,1,λ_=>x.cells⟩:Ob),⟨.one,0,2,1,λ_=>[.nil,.nil]⟩] K;refine ZL L Qr8 hN λd z hR=>?_;obtain⟨Jx,Wm,p,rfl,T1,N⟩:=hR;have YC:z[0]?=some _:=N.my 0 σ rfl;have WN:z[1]?=some _:=N.my 1 σ rfl;have F8:=Qb YC;apply Qh L;simp only[go_sem,Qj,YC,F8,dl];have CE:=Qb WN;have c7:=T1;obtain⟨_,_,_,_,b6⟩:=c7;have I0:az x p z.length 0 (Q3 Jx z .no) (Jh Wm z .my) (z++[(⟨.one,0,2,1,λ_=>[.nil,.nil]⟩:Ob)]) (S0 x.config) [] [] .nil .nil:=by
  refine⟨⟨_,_,_,_,b6.F6 _⟩,Jn.start T1,⟨λk=>Jj _⟩,rfl,(QE F8).trans YC,(QE CE).trans WN,Vc rfl,by have:=N.len;simpa using this,λl YA=>?_,.inl ⟨rfl,rfl⟩,.inl ⟨rfl,rfl⟩,rfl,rfl,Jj _⟩;rcases YA with rfl|rfl|rfl;exact⟨(Kp F8).trans (N.s1 0 σ),(VL F8).trans (N.s2 0 σ)⟩;exact⟨(Kp CE).trans (N.s1 1 σ),(VL CE).trans (N.s2 1 σ)⟩;exact⟨kb (QB _),F4 (QB _)⟩
 obtain⟨q,hq⟩:∃q,q=z.length:=⟨_,rfl⟩;rw[<- hq]at I0 ⊢;refine ZN (λk s=>∃O tw H S R E dR dE,az x p q k O tw H S R E dR dE/\s=⟨[(2,.ptr 1 0 0 0),(3,Qa 0),(4,.ptr p 0 0 0),(5,Qa 0),(6,.ptr q 0 0 0),(29,.imm 10 x.ops.length (ZO.rows x.ops)),(30,Qa x.ops.length),(31,Qa k)],H⟩) x.ops.length QO ⟨_,_,_,_,_,_,_,_,I0,rfl⟩ ?_;clear I0 T1 b6 N YC WN F8 CE hN hq;rintro k _ hk ⟨O,tw,H,S,R,E,dR,dE,I,rfl⟩;by_cases T:k<x.ops.length
 .have dk:=QS T;have QQ:=Jr (show k<4611686018427387904 from ω);obtain⟨o,ho⟩:∃o,o=x.ops.getD k default:=⟨_,rfl⟩;have mI:o∈x.ops:=by rw[ho];exact qE x.ops default k T
  obtain⟨⟨_,_,_,_,Tx⟩,hV,hC,e0⟩:=And.intro I.T (And.intro I.V (And.intro I.C I.ops));have T1:=Tx.F6 [⟨.one,0,10,1,λ_=>o.cells⟩];have N:=Jv.app (n:=H.length) O tw H [⟨.one,0,10,1,λ_=>o.cells⟩] .my (QB _);have c4:=QDm ⟨_,_,_,_,T1⟩ hV hC ω o (ZS o mI).1 (ZS o mI).2.c (ZS o mI).2.r;apply Qh L;simp only[go_sem,Qj,T,<- ho];refine ZL L Qr9 c4 λd t hR=>?_;obtain⟨dl,Ka,YS,rfl,T2,s2,K2⟩:=hR;refine EV Vd L 10 ?_;simp only[go_sem,Qj];obtain⟨Y,hY⟩:∃Y,Y=Ku S o:=⟨_,rfl⟩;rw[<- hY]at T2 s2 ⊢;obtain⟨_,_,_,_,c5⟩:=T2;have GP:H.length+1<=t.length:=by have:=K2.len;simpa using this
  have T3:=c5.F6 [⟨.one,0,3,1,λ_=>Y.r.cells⟩];have s3:XQ (λl=>l<t.length/\Ka l=.no/\YS l=.no) (t++[(⟨.one,0,3,1,λ_=>Y.r.cells⟩:Ob)]) 12 Ev.cells dl Y.l:=s2.step λj hj z=>⟨⟨hj,z.2⟩,QE hj⟩;have c1:∀l Z,l<H.length->O l=.no->tw l=.my->H[l]?=some Z->Ka l=.no/\YS l=.my/\t[l]?=some Z:=λl Z c z t h3=>by
   have Jp:l<(H++[(⟨.one,0,10,1,λ_=>o.cells⟩:Ob)]).length:=ξ;have a1:=(N.s1 l c).trans z;have a2:=(N.s2 l c).trans t;exact⟨(K2.s1 l Jp).trans a1,(K2.s2 l Jp).trans a2,(K2.my l Jp a2).trans ((QE c).trans h3)⟩
  obtain⟨m,r,W4,ZW,TA,k4⟩:=QDA (w0:=⟨w,[],[]⟩) rfl rfl (λa=>rfl) (fr:=[(2,.ptr 1 0 0 0),(3,Qa 0),(4,.ptr p 0 0 0),(5,Qa 0),(6,.ptr q 0 0 0),(9,.ptr t.length 0 0 0),(10,dl),(29,.imm 10 x.ops.length (ZO.rows x.ops)),(30,Qa x.ops.length),(31,Qa k),(41,.ptr q 0 0 0)]) (h:=t++[(⟨.one,0,3,1,λ_=>Y.r.cells⟩:Ob)]) 10 rfl s3;have TA:t.length+1<=r.length:=by simpa using TA
  have aA:r[t.length]?=some ⟨.one,0,3,1,λ_=>Y.r.cells⟩:=by rw[k4 _ σ (λh=>absurd h.1 (Gx _))];exact Vc rfl
  obtain⟨b,b7⟩:∃f,f=Q3 (Q3 Ka t .no) (t++[(⟨.one,0,3,1,λ_=>Y.r.cells⟩:Ob)]) .no:=⟨_,rfl⟩;obtain⟨v,b9⟩:∃f,f=Jh (Jh YS t .my) (t++[(⟨.one,0,3,1,λ_=>Y.r.cells⟩:Ob)]) .no:=⟨_,rfl⟩;have T4:X7 b v r p Y.S:=by
   rw[b7,b9];refine X7.far ⟨_,_,_,_,T3⟩ (by simpa using TA) λl c y=>k4 l c λhh=>y ?_;exact⟨(Kp hh.1).trans hh.2.1,(VL hh.1).trans hh.2.2⟩
  have W:∀l Z,l<H.length->O l=.no->tw l=.my->H[l]?=some Z->b l=.no/\v l=.my/\r[l]?=some Z:=λl Z c z YV h3=>by
   obtain⟨V,Q,M⟩:=c1 l Z c z YV h3;have Jq:l<t.length:=ω;have Fw:l<(t++[(⟨.one,0,3,1,λ_=>Y.r.cells⟩:Ob)]).length:=ξ;refine⟨by rw[b7,Kp Fw,Kp Jq];exact V,by rw[b9,VL Fw,VL Jq];exact Q,?_⟩;rw[k4 l Fw λh=>(by rw[Q]at h;cases h.2.2),QE Jq];exact M
  refine G4 (Qo.trans (Qo.frame (fr':=[(2,.ptr 1 0 0 0),(3,Qa 0),(4,.ptr p 0 0 0),(5,Qa 0),(6,.ptr q 0 0 0),(9,.ptr t.length 0 0 0),(10,dl),(29,.imm 10 x.ops.length (ZO.rows x.ops)),(30,Qa x.ops.length),(31,Qa k),(41,.ptr q 0 0 0)]) (by simp only[go_sem])) W4) ?_;have jO:=Qb I.hx;have Yv:=Qb I.hr;have b8:=Qb I.hq;obtain⟨qo,qt,H0⟩:=W q _ b8 (I.my q (.inr (.inr rfl))).1 (I.my q (.inr (.inr rfl))).2 I.hq;have J:=Qb H0;have c9:=Qb aA;have c0:XQ (λl=>b l=.no/\v l=.my) r 3 YQ.cells dR R:=I.sR.imp id λ⟨U,g,m,a1,a2,a3,a4⟩=>by
   obtain⟨V,Q,M⟩:=W U _ (Qb a3) a2.1 a2.2 a3;exact⟨U,g,m,a1,⟨V,Q⟩,M,a4⟩
  have a8:XQ (λl=>b l=.no/\v l=.my) r 12 Ev.cells dE E:=I.sE.imp id λ⟨U,g,m,a1,a2,a3,a4⟩=>by
   obtain⟨V,Q,M⟩:=W U _ (Qb a3) a2.1 a2.2 a3;exact⟨U,g,m,a1,⟨V,Q⟩,M,a4⟩
  have UK:=I.lR;have UD:=I.lE;have q4:=I.q2;obtain⟨_,_,_,_,Tc⟩:=I.T;have c3:=Qlu S o Tc.co.aj;rw[<- hY]at c3;have qk:=λh'=>I.next (h':=h') T (ho▸(ZS o mI).1.2.1.2) (by rw[<- ho];exact hY) (own4:=b) (tw4:=v) (h4:=r) T4;have Zs:∀i,i<Y.l.length->(m i).all D.Vh=true:=λi u=>by rw[ZW i u];rfl
  have P:∀{l},¬(b l=.no/\(v l=.no\/v l=.my))->∀{l'},b l'=.no/\v l'=.my->l'≠l:=λh l' h' e=>h (e▸⟨h'.1,.inr h'.2⟩);have n0:q≠0:=ω;have n1:q≠1:=ω;have z0:0<r.length:=ω;have z1:1<r.length:=ω;have a5:=(W 0 _ jO (I.my 0 (.inl rfl)).1 (I.my 0 (.inl rfl)).2 I.hx).2.2;have a0:=(W 1 _ Yv (I.my 1 (.inr (.inl rfl))).1 (I.my 1 (.inr (.inl rfl))).2 I.hr).2.2;rcases c0 with ⟨rfl,rfl⟩|⟨xV,gR,Ng,rfl,mJ,CH,Nh⟩;rcases a8 with ⟨rfl,rfl⟩|⟨kg,gE,Ga,rfl,aB,F,Gb⟩;apply Qh L;simp only[go_sem,Qj,H0,J,aA,QF];refine⟨⟨ω,Zs⟩,T,_,Qo.frame (by simp only[go_sem,QQ]),_,_,_,_,_,_,_,_,qk _ σ (λl c y=>(QE (by rw[Kx];exact c)).trans (Qp (P y ⟨qo,qt⟩))) W ((QE (by rw[Kx];exact z0)).trans (Qp n0)) ((QE (by rw[Kx];exact z1)).trans (Qp n1)) ((QE (by rw[Kx];exact J)).trans (QF J)) (.inr ⟨r.length+1,0,_,rfl,.inl (Em _),VD (by rw[Kx]),λi u=>?_⟩) (.inr ⟨r.length+2,0,_,rfl,.inl ω,VD (by rw[Kx]),λi u=>ZW i u⟩),rfl⟩;obtain rfl:i=0:=by simpa using u
  rfl;have Ni:=Qb F;have Nj:kg≠q:=XA F H0 (.inl nofun);apply Qh L;simp only[go_sem,Qj,H0,J,aA,F,Ni,QF,Qp Nj,Qp Nj.symm];have aC:∀(A B C:Ob) {l},l<r.length->l<(((r.set q A).set kg B).set q C).length:=λA B C l c=>by simp only[Kx];exact c
  have a7:=XA F a5 (.inl nofun);have a6:=XA F a0 (.inl nofun);refine⟨⟨ω,Zs⟩,T,_,Qo.frame (by simp only[go_sem,QQ]),_,_,_,_,_,_,_,_,qk _ σ (λl c y=>by rw[QE (aC _ _ _ c),Qp (P y ⟨qo,qt⟩),Qp (P y aB),Qp (P y ⟨qo,qt⟩)]) W (by rw[QE (aC _ _ _ z0),Qp n0,Qp a7,Qp n0]) (by rw[QE (aC _ _ _ z1),Qp n1,Qp a6,Qp n1]) ((QE (aC _ _ _ J)).trans (QF (by simp only[Kx];exact J))) (.inr ⟨r.length+1,0,_,rfl,.inl (Em _),VD (by simp only[Kx]),λi u=>?_⟩) (.inr ⟨kg,gE+1,_,?_,.inr aB,?_,mH (r2:=m) Gb λi u=>ZW i u⟩),rfl⟩;obtain rfl:i=0:=by simpa using u
  rfl;rw[Zk];rw[QE (aC _ _ _ Ni),Qp Nj.symm,QF (by simp only[Kx];exact Ni),Zk];have Rl:=Qb CH;have aD:xV≠q:=XA CH H0 (.inl nofun);have b0:=XA CH a5 (.inl nofun);have a9:=XA CH a0 (.inl nofun);rcases a8 with ⟨rfl,rfl⟩|⟨kg,gE,Ga,rfl,aB,F,Gb⟩;apply Qh L;simp only[go_sem,Qj,H0,J,aA,CH,Rl,QF,Qp aD];have aE:∀(A B:Ob) {l},l<r.length->l<((r.set xV A).set q B).length:=λA B l c=>by simp only[Kx];exact c
  refine⟨ω,⟨ω,Zs⟩,T,_,Qo.frame (by simp only[go_sem,QQ]),_,_,_,_,_,_,_,_,qk _ σ (λl c y=>by rw[QE (aE _ _ c),Qp (P y ⟨qo,qt⟩),Qp (P y mJ)]) W (by rw[QE (aE _ _ z0),Qp n0,Qp b0]) (by rw[QE (aE _ _ z1),Qp n1,Qp a9]) ((QE (aE _ _ J)).trans (QF (by simp only[Kx];exact J))) (.inr ⟨xV,gR+1,_,?_,.inr mJ,?_,mH (r2:=λ_=>Y.r.cells) Nh λi u=>?_⟩) (.inr ⟨r.length+1,0,_,rfl,.inl (Em _),VD (by simp only[Kx]),λi u=>ZW i u⟩),rfl⟩;rw[Zk];rfl;rw[QE (aE _ _ Rl),Qp aD.symm,QF Rl,Zk];rfl;obtain rfl:i=0:=by simpa using u
  rfl;have Ni:=Qb F;have Nj:kg≠q:=XA F H0 (.inl nofun);have b5:kg≠xV:=XA F CH (.inr nofun);have a7:=XA F a5 (.inl nofun);have a6:=XA F a0 (.inl nofun);apply Qh L;simp only[go_sem,Qj,H0,J,aA,CH,Rl,F,Ni,QF,Qp aD,Qp Nj,Qp Nj.symm,Qp b5.symm];have Rm:∀(A B C D:Ob) {l},l<r.length->l<((((r.set xV A).set q B).set kg C).set q D).length:=λA B C D l c=>by simp only[Kx];exact c
  refine⟨ω,⟨ω,Zs⟩,T,_,Qo.frame (by simp only[go_sem,QQ]),_,_,_,_,_,_,_,_,qk _ σ (λl c y=>by rw[QE (Rm _ _ _ _ c),Qp (P y ⟨qo,qt⟩),Qp (P y aB),Qp (P y ⟨qo,qt⟩),Qp (P y mJ)]) W (by rw[QE (Rm _ _ _ _ z0),Qp n0,Qp a7,Qp n0,Qp b0]) (by rw[QE (Rm _ _ _ _ z1),Qp n1,Qp a6,Qp n1,Qp a9]) ((QE (Rm _ _ _ _ J)).trans (QF (by simp only[Kx];exact J))) (.inr ⟨xV,gR+1,_,?_,.inr mJ,?_,mH (r2:=λ_=>Y.r.cells) Nh λi u=>?_⟩) (.inr ⟨kg,gE+1,_,?_,.inr aB,?_,mH Gb λi u=>ZW i u⟩),rfl⟩;rw[Zk];rfl;rw[QE (Rm _ _ _ _ Rl),Qp aD.symm,Qp b5,Qp aD.symm,QF Rl,Zk];rfl;obtain rfl:i=0:=by simpa using u
  rfl;rw[Zk];rw[QE (Rm _ _ _ _ Ni),Qp Nj.symm,QF (by simp only[Kx];exact Ni),Zk]
 obtain rfl:k=x.ops.length:=ω;have dk:=QG T;have hr:=I.hr;have Yv:=Qb hr;have hq:=I.hq;have b8:=Qb hq;apply Qh L;simp only[go_sem,T];have oR:dR.Vh=true:=by rcases I.sR with ⟨rfl,_⟩|⟨_,_,_,rfl,_⟩<;>rfl
 have oE:dE.Vh=true:=by rcases I.sE with ⟨rfl,_⟩|⟨_,_,_,rfl,_⟩<;>rfl
 have Za:=I.run;rw[Wn]at Za;rw[Za];apply Qh L;simp only[go_sem,hr,Yv,hq,QF,oR,oE];refine⟨_,_,_,rfl,I.sR.imp id λ⟨U,g,m,V,Q,M,b4⟩=>⟨U,g,m,V,Q,by rw[Qp (XA hr M (.inl nofun))];exact M,b4⟩,I.sE.imp id λ⟨U,g,m,V,Q,M,b4⟩=>⟨U,g,m,V,Q,by rw[Qp (XA hr M (.inl nofun))];exact M,b4⟩⟩
def Nk(o:ZO):Bool:=decide (o.changes.length<=40)&&decide (o.rules.length<=40)
def y5(x:Xr)(m:Nat):Bool:=decide (x.ops.length<=m)&&x.ops.all Nk
def QlG{b:Type}(l:List b)(d:b)(f):l.all f=true↔∀j,j<l.length->f (l.getD j d)=true:=by
 rw[qV];constructor;intro h j e;exact h _ (qE l d j e);intro h a g;obtain⟨i,c,rfl⟩:=vH g;have:=h i c;simpa[QW,c] using this
def QDK(x:Xr)(m:Nat)(t:m<1000000):QI prog 22 [.agg x.cells,Qa m] (QN (QU (y5 x m))):=by
 refine QY 0 func22 ntmps22 results22 λp w l=>?_;simp only[go_sem];by_cases q:m<x.ops.length;simp only[go_sem,q,decide_true];have:y5 x m=false:=by simp[y5];omega
 rw[this];have s:decide (m<x.ops.length)=false:=ξ;simp only[go_sem,s];refine kO (G:=Nat) [13,14] (λk=>∀j,j<k->Nk (x.ops.getD j default)=true) (λk e=>[(15,Qa k)]) (λk e=>[]) (x.ops.length) (0) rfl (Qo.to 0 (by (simp only[go_sem])<;>simp)) ?_ ?_;intro j g;omega;intro k e f o;apply Qg l;have r:=Jr (show k<4611686018427387904 from ω);first|refine We f (λc=>?_) (λc=>?_)|refine Wf f (λc=>?_) (λc=>?_)
 simp only[go_sem,c];have n:¬ (∀j,j<x.ops.length->Nk (x.ops.getD j default)=true)->y5 x m=false:=λd=>by
  rw[X9];intro i;simp only[y5,ZE]at i;exact d ((QlG _ default _).1 i.2)
 first|refine zg (λb=>?_) (λb=>?_)|refine zj (λb=>?_) (λb=>?_)|refine zk (λb=>?_) (λb=>?_)|refine VV (λb=>?_) (λb=>?_)|refine zl (λb=>?_) (λb=>?_)|refine zn (λb=>?_) (λb=>?_)|refine zo (λb=>?_) (λb=>?_)|refine ze (λb=>?_) (λb=>?_)
 simp only[go_sem];rw[n (λd=>by have:=d k c;simp only[Nk,ZE,Xo]at this;omega)];simp only[go_sem];first|refine zg (λa=>?_) (λa=>?_)|refine zj (λa=>?_) (λa=>?_)|refine zk (λa=>?_) (λa=>?_)|refine VV (λa=>?_) (λa=>?_)|refine zl (λa=>?_) (λa=>?_)|refine zn (λa=>?_) (λa=>?_)|refine zo (λa=>?_) (λa=>?_)|refine ze (λa=>?_) (λa=>?_)
 simp only[go_sem];rw[n (λd=>by have:=d k c;simp only[Nk,ZE,Xo]at this;omega)];simp only[go_sem];repeat (refine And.intro δ ?_)
 refine⟨_,Qo.to 0 (by (simp only[go_sem,r])<;>simp),JW.mk (0) (?_)⟩;intro j g;rcases vK.1 g with h|rfl;exact o j h;simp only[Nk,ZE,Xo];omega;simp only[go_sem];apply Qg l;subst c;have:y5 x m=true:=by
  simp only[y5,ZE];exact⟨ξ,(QlG _ default _).2 o⟩
 rw[this]
def mK:ZO:=⟨1,[MU 1 65536],[],⟨0,0,0,0,0,0⟩,0⟩
def QlH:ZO:=⟨2,[],[⟨0,0,0,0,0,0,0,0,1⟩],⟨0,0,0,0,0,0⟩,0⟩
def mL:ZO:=⟨3,[],[],⟨7,100,0,0,0,0⟩,0⟩
def QlI:ZO:=⟨4,[],[],⟨0,0,0,0,0,0⟩,150⟩
def aF:List ZO:=[mK,QlH,mL,mL,QlI]
def Ro:Xr:=⟨c6,aF⟩
def QDL:∀o∈aF,ZO.Ok o/\ZO.Small o:=by
 have c:Pk.Ok ⟨0,0,0,0,0,0⟩:=⟨π,π,π,π,π,π,trivial⟩;have f:Pk.Ok ⟨7,100,0,0,0,0⟩:=⟨π,π,π,π,π,π,trivial⟩;have j:Jc.Ok (MU 1 65536):=⟨π,⟨π,π,trivial,⟨π,π,π,trivial⟩,⟨π,π,π,trivial⟩,⟨π,π,π,trivial⟩,π,π,trivial⟩,trivial⟩;have i:JP.Ok ⟨0,0,0,0,0,0,0,0,1⟩:=⟨π,π,π,π,π,π,π,π,π,trivial⟩;have b:∀{e:Type} {P:e->Prop},∀a∈([]:List e),P a:=λa h=>(by cases h);intro o g;simp only[aF,QK,aX,or_false]at g;rcases g with rfl|rfl|rfl|rfl|rfl;exact⟨⟨π,⟨π,λa d=>by obtain rfl:=Yx.1 d;exact j⟩,⟨π,b⟩,c,π,trivial⟩,π,π⟩;exact⟨⟨π,⟨π,b⟩,⟨π,λa d=>by obtain rfl:=Yx.1 d;exact i⟩,c,π,trivial⟩,π,π⟩;exact⟨⟨π,⟨π,b⟩,⟨π,b⟩,f,π,trivial⟩,π,π⟩;exact⟨⟨π,⟨π,b⟩,⟨π,b⟩,f,π,trivial⟩,π,π⟩;exact⟨⟨π,⟨π,b⟩,⟨π,b⟩,c,π,trivial⟩,π,π⟩
def T7:List Ql:=[(MU 1 65536).cls]
def QlJ:Je [] [MU 1 65536]=T7:=τ
def QlK:JX [] T7=[1]:=by
 unfold JX;have h:yL [] T7=[1]:=τ;rw[h,Qf9 (Nx [1]) σ];rfl
def M7:Qn:=QkN [1] (M0 c6) T7
def QDM:zM (M0 c6) T7 true=false:=by
 unfold zM iP;have h:(M0 c6).T=[]:=rfl;rw[h,QlK];decide +kernel
def QDN:qm (M0 c6) true [MU 1 65536]=0:=by
 unfold qm;have h:(M0 c6).T=[]:=rfl;rw[h,QlJ,QDM];decide +kernel
def QDO:Kt (M0 c6) true [MU 1 65536]=M7:=by
 unfold Kt;rw[Qd QDN,show (M0 c6).T=[] from rfl,QlJ,QCe,show (M0 c6).T=[] from rfl,QlK];rfl
def S7:Z2:=⟨M7,0,[],⟨λ_=>[],λ_=>default⟩,0,1⟩
def QDP:(Ku (S0 c6) mK).S=S7:=by
 show Z2.mk (Kt (M0 c6) true [MU 1 65536]) 0 [] _ 0 1=S7;rw[QDO];rfl
def No:List Ev:=[⟨2,true,false,0,0,1,7,100,0,0,0,0⟩,⟨2,false,false,0,100,1,7,100,0,0,0,0⟩,⟨3,true,false,0,0,1,7,100,0,0,0,0⟩,⟨4,false,false,100,200,1,7,100,0,0,0,0⟩]
def QDQ:(Zx (S0 c6) aF).2.2=No:=by
 show (Ku (S0 c6) mK).l++(Zx (Ku (S0 c6) mK).S [QlH,mL,mL,QlI]).2.2=No;rw[QDP];kernel_rfl
theorem QDR:(Zx (S0 c6) aF).2.1.length=5:=rfl
def QDS{x:Xr}{m}(h:y5 x m=true)(d:∀a∈x.ops,ZO.Ok a):x.ops.length<=m/\∀o∈x.ops,ZO.Ok o/\ZO.Small o:=by
 simp only[y5,ZE,Xo]at h;obtain⟨b,e⟩:=h;refine⟨b,λo c=>?_⟩;have:=qV.1 e o c;simp only[Nk,ZE,Xo]at this;exact⟨d o c,ω,ω⟩
def QDT(S:Z2)(c b:Nat):∀e∈(Jy S c b).2,e.op=c:=by
 unfold Jy;split;intro e a;cases a;split;intro e a;simp only[Yx]at a;rw[a];rfl;intro e a;cases a
def QL(S:Z2)(n:Nat):Prop:=∀j,(Zm S.M j).length<=n
def QL.take{S:Z2}{n}(h:QL S n)(a)(j:Int):(Zm (takeN S.M a) j).length<=n:=by
 rw[F3];have:=h j;split;rw[List.length_tail];omega;exact this
def QL.put{S:Z2}{n}(h:QL S n)(a)(b)(x)(j:Int):(Zm (JD S.M a b x) j).length<=n+1:=by
 rw[P7];have:=h j;split;rw[Zk,Kr];omega;omega
def QL.HU{S}{n}(h:QL S n)(b a:Nat):QL (Jy S b a).1 n:=by
 unfold Jy;split;exact h;split;exact h.take a;exact h.take a
def QL.go{a e n}:∀(k:Nat) {S:Z2},QL S n->QL (Vs a e k S).1 n
 | 0,S,h=>h
 | k+1,S,h=>by
  unfold Vs;split;exact h;exact QL.go k (QL.HU (S:={ S with Qe:=Zy S }) h a (Zy S))
def QL.do{S}{n}(h:QL S n)(o:ZO):QL (Ku S o).S (n+1):=by
 have a:QL S (n+1):=λj=>Nat.le_succ_of_le (h j);show QL (V5 { S with ops:=S.ops+1 } S.ops o).S (n+1);unfold V5;split;exact λj=>QkV (P:=λq=>q.length<=n+1) (Jj _) _ _ (a j);split;split<;>exact a;split;unfold qq;split;exact a;split;exact QL.HU (S:={ { S with ops:=S.ops+1 } with M:=JD S.M S.Qe (Ki S.R (Z1 o.ZX)) o.ZX,st:=wF S.st (Ki S.R (Z1 o.ZX)) S.Qe }) (λj=>h.put _ _ _ j) _ _;exact λj=>h.put _ _ _ j;split;unfold zO;split;exact a;exact QL.go _ a;exact a
def Jn.mM{c}(K:WZ c):Jn (S0 c):=⟨QjL c,Qka c,K,λj x hx=>(by cases hx),QB _,Jj _,Jj _,λk=>⟨CN _,CN _,CN _,CN _,CN _⟩,λk a b=>(by cases b)⟩
def QL.aj{S:Z2}{n}(h:QL S n)(I:QA S.M):Wa S.M<=64*n:=by
 have d:=Qbc (λc=>(Zm S.M c.iD).length) n S.M.T λc _=>h c.iD;have a:=I.tree.len;unfold Wa;have b:S.M.T.length*n<=64*n:=XC n a;omega
def QlL(a e):∀(n:Nat) (S:Z2),(Vs a e n S).2.length<=n
 | 0,S=>QB _
 | n+1,S=>by
  unfold Vs;split;exact Jj _;have c:=QlL a e n (Jy { S with Qe:=Zy S } a (Zy S)).1;have b:=ak { S with Qe:=Zy S } a (Zy S);dsimp only;rw[Zk];omega
def QDU(S:Z2)(o:ZO):(Ku S o).l.length<=Wa S.M+2:=by
 show (V5 { S with ops:=S.ops+1 } S.ops o).l.length<=_;unfold V5;split;exact Jj _;split;split<;>exact Jj _;split;unfold qq;split;exact Jj _;split;have a:=ak { { S with ops:=S.ops+1 } with M:=JD S.M S.Qe (Ki S.R (Z1 o.ZX)) o.ZX,st:=wF S.st (Ki S.R (Z1 o.ZX)) S.Qe } S.ops S.Qe;show (_::_:List Ev).length<=_;rw[Kw];exact JY (Nat.succ_le_succ a) (Nat.le_add_left 2 _);exact Jj _;split;unfold zO;split;exact Jj _;exact JY (QlL S.ops (S.Qe+o.Wz.toNat) (Wa S.M+1) { S with ops:=S.ops+1 }) (Em _);exact Jj _
def QlM:∀(l:List ZO) {S:Z2} {n:Nat},Jn S->QL S n->(∀o∈l,ZO.Ok o)->(Zx S l).2.2.length<=l.length*(64*(n+l.length)+2)
 | [],S,n,T,h,b=>Jj _
 | o::l,S,n,T,h,b=>by
  have c:=(b o Ky).2.1.2;have f:=QlM l (T.do c) (h.do o) λa d=>b a (J8 _ d);have j:=QDU S o;have i:=h.aj T.I;show ((Ku S o).l++(Zx (Ku S o).S l).2.2).length<=_;rw[Zk,Kw];have e:n+1+l.length=n+(l.length+1):=ω;rw[e]at f;rw[VM,NG];have g:64*n<=64*(n+(l.length+1)):=Iv 64 (br _ _);omega
def Qbp{x:Xr}{m}(K:WZ x.config)(c:x.ops.length<=m)(b:m<=1000)(a:∀o∈x.ops,ZO.Ok o):(Zx (S0 x.config) x.ops).2.2.length<100000000:=by
 have h:=QlM x.ops (Jn.mM K) (n:=0) (λj=>Jj _) a;have d:x.ops.length*(64*(0+x.ops.length)+2)<=1000*(64*1000+2):=Yb ω ω;omega
def Qbq(t:Int):Int->List Ev->Prop
 | _,[]=>True
 | u,v::l=>if v.J9=true then Qbq t u l else u<=v.at_/\1<=v.len/\v.len<=16384/\0<=v.at_/\v.at_<=4611686018427387904/\v.done=v.at_+v.len*t/\Qbq t v.done l
def Qbr:Int->List Ev->Int
 | u,[]=>u
 | u,v::l=>if v.J9=true then Qbr u l else Qbr v.done l
structure PkR (c:Cf) (S S':Z2) (l:List Ev):Prop where
 ok:Qbq c.t S.X6 l
 un:Qbr S.X6 l=S'.X6
 lk:S'.M.lk=c
def QDV(n:Nd):Prop:=n.c.ul.Nn/\(¬1<QH n.c.ul->n.cp.has=false/\n.cp.fit=0)
def QlN(M:Qn):Prop:=∀n∈M.N,QDV n
def Qbs(M:Qn)(a)(b)(x:Pk):(JD M a b x).T=M.T:=by
 have h:=(xS M a).2.1;unfold JD;split;unfold VR;split;exact h;split;split;rw[QCh];exact h;exact h;exact h;rfl
def QDW(d:D)(a:List Ob):D->List Ob->Prop:=λb h=>b=d/\h=a
attribute [go_sem] QDW
structure Kn where
 Rp:Int
 since:Int
 work:Nat
@[go_sem] def Kn.cells(k:Kn):List D:=[.raw (.int .u64 k.Rp),.raw (.int .u64 k.since),.raw (.int .i64 k.work)]
def Kn.next(k:Kn)(e:Ev):Kn:=
 if e.J9=true then ⟨k.Rp,if k.work=0 then e.at_ else k.since,k.work+1⟩ else ⟨max k.Rp e.done,k.since,k.work-1⟩
def Kn.late(k:Kn)(e:Ev):Bool:=!e.J9&&(decide (0<k.work)&&decide (max k.Rp k.since<e.at_))
@[go_sem] def QJT(k:Kn):Ob:=⟨.one,0,3,1,λ_=>k.cells⟩
def QlO(l:List Ev):Nat->Kn
 | 0=>⟨0,0,0⟩
 | k+1=>(QlO l k).next (l.getD k default)
def Wx(l:List Ev)(k:Nat):Bool:=(QlO l k).late (l.getD k default)
structure QlP (T:List Ql):Prop where
 ul:∀c∈T,¬1<QH c.ul
 ls:∀c∈T,c.leaf=true->1<QH c.ls
section
variable {M:Qn}(I:QA M)(V:Inv M)(F:QlN M)(P:QlP M.T)
include I V F P
end
structure QDX (k:Kn) (S:Z2):Prop where
 w:k.work=Wa S.M
 u:k.Rp=S.X6
 s:k.since<=S.Qe
 F:QlN S.M
 P:QlP S.M.T
structure QJU (k:Kn) (S:Z2):Prop extends QDX k S where
 b:0<Wa S.M->S.Qe<S.X6
structure CI where
 W0:Int
 to:Int
instance:Inhabited CI:=⟨⟨0,0⟩⟩
@[go_sem] def CI.cells(s:CI):List D:=[.raw (.int .u64 s.W0),.raw (.int .u64 s.to)]
def CI.rows(l:List CI):Nat->List D:=λi=>(l.getD i default).cells
@[go_sem] theorem CI.xp(l:List CI)(i):CI.rows l i=(l.getD i default).cells:=rfl
@[go_sem] def strs(l:List CI):D:=.imm 2 l.length (CI.rows l)
structure StS where
 l:List CI
 Rp:Int
def rw_(l:List Ev):Nat->Nat
 | 0=>0
 | k+1=>if (l.getD k default).J9=true then rw_ l k+1 else rw_ l k-1
@[simp] theorem QJW(l:List Ev):rw_ l 0=0:=rfl
end Go.Fg.X
namespace Go.Fg.X
open Go.Proofs Go.Fg
open Go.Proofs.Tryz
def Ec(l:List ZO):Bool:=(l.drop 1).all λo=>o.kind != 1
def still_at{l:List ZO}(h:Ec l=true){k}(a:k<l.length)(c:0<k):(l.getD k default).kind≠1:=by
 have b:=qV.1 h (l.getD k default) (by
  rw[QW,QJ a];obtain⟨j,rfl⟩:∃j,k=j+1:=⟨k-1,ω⟩;refine NB (i:=j) ?_;rw[Gr,NC,QJ a];rfl)
 simpa using b
def QDY(L:List Ql)(x:Ql):List Ql:=if kW L x (up L x.parent).length=0 then Vk L x else L
structure QJX (L T:List Ql):Prop where
 ok:JQ L
 sub:∀c∈L,c∈T
section
variable {T:List Ql}(I:JQ T)
include I
end
section
variable {T:List Ql}(I:JQ T)
include I
def rounds(T:List Ql):Nat->List Ql
 | 0=>[]
 | r+1=>T.foldl QDY (rounds T r)
end
end Go.Fg.X
