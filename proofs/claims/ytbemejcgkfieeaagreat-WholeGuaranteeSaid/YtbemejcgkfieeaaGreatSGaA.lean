/- Contracts and laws on the way to the statement. No conditions. -/
import Derived.Test.YtbemejcgkfieeaaGreatTR3A
import Derived.Test.YtbemejcgkfieeaaGreatPK1A
import Derived.Test.YtbemejcgkfieeaaGreatCA2A
set_option maxRecDepth 100000
set_option maxHeartbeats 16000000
set_option linter.unusedVariables false
set_option linter.unusedSimpArgs false
set_option linter.unusedSectionVars false
set_option linter.defProp false
namespace Go.Fg.X
open Go.Proofs Go.Fg
open Go.Proofs.Tryz
def QAA(x y:Ql):(x.iD==y.iD&&(x.parent==y.parent&&(x.leaf==y.leaf&&(x.rt.m1==y.rt.m1&&(x.rt.d==y.rt.d&&(x.rt.m2==y.rt.m2&&(x.ls.m1==y.ls.m1&&(x.ls.d==y.ls.d&&(x.ls.m2==y.ls.m2&&(x.ul.m1==y.ul.m1&&(x.ul.d==y.ul.d&&(x.ul.m2==y.ul.m2&&(x.ZV==y.ZV&&x.bytes==y.bytes)))))))))))))=decide (x=y):=by
 rw[wz];simp only[ZM,qZ,W3];constructor;rintro⟨l,k,j,i,h,g,f,e,d,c,M,N,b,a⟩;obtain⟨L,K,J,⟨I,H,F⟩,⟨E,C,B⟩,⟨z,w,v⟩,u,t⟩:=x;obtain⟨s,c2,r,⟨q,p,c6⟩,⟨o,n,m⟩,⟨d1,d2,d3⟩,d4,d5⟩:=y
 simp_all
 rintro rfl;simp
theorem bTF:(true==false)=false:=rfl
theorem bFT:(false==true)=false:=rfl
def QAD:QM prog 101 [.nil] (QR .nil):=by refine Q1 0 func101 ntmps101 results101 λa w b=>?_;simp only[go_sem]
def QAE{h:List Ob}{lo g}{Z:List Int}(f:h[lo]?=some (CS g Z.toArray))(k:Z.length<1000000000):
  QO prog 101 h [.ref lo g 0 Z.length] (λc b=>c=.ref lo g 0 (jK Z).length/\∃a,b=h.set lo ⟨.arr,g,1,(jK Z).length,a⟩/\∀i,i<(jK Z).length->a i=[Qa ((jK Z).getD i 0)]):=by
 have e:cN (λi=>Z.toArray[i]!) Z.toArray.size=jK Z:=by unfold jK;congr 1;funext i;simp
 have j:=QAt f (zC k);rw[e]at j;have l:=Qb f;refine QO.cut (R:=λc b=>c=.ref lo g 0 (jK Z).length/\∃a,b=h.set lo ⟨.arr,g,1,Z.toArray.size,a⟩/\(∀i,i<(jK Z).length->a i=[jI ((jK Z).getD i 0)])/\∀i,∃x,a i=[jI x]) (zC j) ?_;rintro d b ⟨rfl,a,rfl,m,_⟩;refine⟨lo,_,(jK Z).length,QI l,rfl,?_,rfl,a,by rw[J4],m⟩;have:=P7 (λi=>Z.getD i 0) Z.length;show (jK Z).length<=Z.toArray.size;simpa[jK] using this
structure CU (F:List Ob) (A B:List Ql) (t1 t2:Nat) (L:List Int) (k:Nat) (s:St):Prop where
 ex:∃d H,Kt F.length H d ((L.take k).filter (Xg A B))/\VZ F H/\s=⟨[(0,.ptr t1 0 0 0),(1,.ptr t2 0 0 0),(5,d),(17,ints L),(18,Qa L.length),(19,Qa k)],H⟩
def CU.of{F:List Ob}{A B b a}{L:List Int}{k:Nat}{d H}(e:Kt F.length H d ((L.take k).filter (Xg A B)))(c:VZ F H):CU F A B b a L k ⟨[(0,.ptr b 0 0 0),(1,.ptr a 0 0 0),(5,d),(17,ints L),(18,Qa L.length),(19,Qa k)],H⟩:=⟨⟨d,H,e,c,rfl⟩⟩
def QAG{h f n}{A B:List Ql}(RA:XQ h f A)(RB:XQ h n B)(hA:A.length<100000)(hB:B.length<100000):
  Xo prog 69 h [.ptr f 0 0 0,.ptr n 0 0 0] (λd g=>Kt h.length (h++g) d (J1 A B)):=by
 refine Cg Vr 200 func69 rfl ntmps69 results69 rfl λa1 w pl F hF Zp a=>?_;simp only[go_sem];have UX:XQ F f A:=RA.more (VM hF);have UY:XQ F n B:=RB.more (VM hF);apply ZH a rf (sM UX ω);apply Qg a;apply ZH a rf (sM UY ω);apply Qg a;obtain⟨L,T⟩:=Zc (A.map (·.iD)++B.map (·.iD));have uZ:L.length<200000:=by rw[T];simp;omega
 have Km:∀J:Nat->List D,J 0=[ints (A.map (·.iD))]->J 1=[ints (B.map (·.iD))]->Zl prog 99 (F++[⟨.arr,0,1,2,J⟩]) [.ref F.length 0 0 2] (λd=>d=ints L):=λJ e0 e1=>by rw[T];exact QAx _ F.length J _ _ ξ (Jf (show (F++[⟨.arr,0,1,2,J⟩])[F.length]?=some ⟨.arr,0,1,2,J⟩ by rw[Vq rfl];rfl)) e0 e1
 apply ZH a Qt4 (Km _ (by exact rfl) (by exact rfl));apply Qg a;refine ZY (CU F A B f n L) L.length (s0:=⟨[(0,.ptr f 0 0 0),(1,.ptr n 0 0 0),(5,.nil),(17,ints L),(18,Qa L.length),(19,Qa 0)],_⟩) QP ⟨⟨_,_,.inl ⟨rfl,σ⟩,⟨_,rfl⟩,rfl⟩⟩ ?_;rintro k _ hk ⟨d,H,C,hx,rfl⟩;have a0:∀g,XQ (H++g) f A:=λg=>by obtain⟨x,rfl⟩:=hx;exact UX.more λl o e=>by rw[WJ];exact HU l o e
 have W:∀g,XQ (H++g) n B:=λg=>by obtain⟨x,rfl⟩:=hx;exact UY.more λl o e=>by rw[WJ];exact HU l o e
 have Y:XQ H f A:=by have:=a0 [];rwa [JN]at this
 by_cases m:k<L.length;have U:=QY m;obtain⟨id,P⟩:=Zc (L.getD k 0);have c:(L.take (k+1)).filter (Xg A B)=(L.take k).filter (Xg A B)++(if Xg A B id then [id] else []):=by rw[getD_take L 0 k m,EU,<-P];cases b:Xg A B id<;>simp[b]
 have E:=PI Y id;have t:=λg=>PI (W g) id;have I:=JJ (show k<4611686018427387904 from ω);cases M:Qw A id with
 | some x=>
  rw[M]at E;simp only[Va,BL,Vu]at E;cases v:Qw B id with
  | some y=>
   rw[v]at t;simp only[Va,BL,Vu]at t;apply Qh a;simp only[go_sem,m,<-P];apply ZH a wQ E;apply Kh a;apply ZH a wQ (t _);apply Qh a;simp only[go_sem,Qj,bne,QAA];by_cases e:x=y;have b:Xg A B id=false:=by unfold Xg;rw[M,v,e];simp
   have Q:=QY e;simp only[go_sem,Q];refine⟨m,_,Qs.frame (fr':=[(0,.ptr f 0 0 0),(1,.ptr n 0 0 0),(5,d),(17,ints L),(18,Qa L.length),(19,Qa (k+1:Nat))]) (by simp only[go_sem,I]),CU.of (by rw[c,b,Qd π,JN];exact C.app _) (hx.app _)⟩;have b:Xg A B id=true:=by unfold Xg;rw[M,v];simpa using e
   have Q:=QN e;rcases C with ⟨rfl,r⟩|⟨q,g,N,s,rfl,⟨u,rfl⟩,p,K⟩;simp only[go_sem,Qj,Q];refine⟨m,_,Qs.frame (fr':=[(0,.ptr f 0 0 0),(1,.ptr n 0 0 0),(5,.ref (H.length+3) 0 0 1),(17,ints L),(18,Qa L.length),(19,Qa (k+1:Nat))]) (by simp only[go_sem,I]),CU.of (.inr ⟨H.length+3,0,0,λ_=>[Qa id],?_,⟨by have:=hx.len;omega,rfl⟩,?_,?_⟩) (hx.app _)⟩;rw[c,r,b];rfl;rw[c,r,b,VS rfl];rfl;rw[c,r,b];intro i z;obtain rfl:i=0:=by simp at z;omega
   rfl;have j:=Qb p;rw[JG]at p;simp only[go_sem,Qj,Q,p,j];refine⟨by have:=Yg (Xg A B) (L.take k);simp at this;omega,m,_,Qs.frame (fr':=[(0,.ptr f 0 0 0),(1,.ptr n 0 0 0),(5,.ref q (g+1) 0 (((L.take k).filter (Xg A B)).length+1)),(17,ints L),(18,Qa L.length),(19,Qa (k+1:Nat))]) (by simp only[go_sem,I]),CU.of (.inr ⟨q,g+1,0,J8 ((L.take k).filter (Xg A B)).length 0 s (λ_=>[Qa id]),?_,⟨u,rfl⟩,?_,?_⟩) ((hx.set u _).app _)⟩;rw[c,b];simp;rw[c,b,QG (zC j),QI j];simp[Qa];rw[c,b];exact Mt K
  | none=>
   rw[v]at t;simp only[E7,qq,q5]at t;have b:Xg A B id=true:=by unfold Xg;rw[M,v];simp
   apply Qh a;simp only[go_sem,m,<-P];apply ZH a wQ E;apply Kh a;apply ZH a wQ (t _);apply Qh a;simp only[go_sem,Qj,bne,Go.undef,bTF];rcases C with ⟨rfl,r⟩|⟨q,g,N,s,rfl,⟨u,rfl⟩,p,K⟩
   (try simp only[go_sem])
   refine⟨m,_,Qs.frame (fr':=[(0,.ptr f 0 0 0),(1,.ptr n 0 0 0),(5,.ref (H.length+3) 0 0 1),(17,ints L),(18,Qa L.length),(19,Qa (k+1:Nat))]) (by simp only[go_sem,I]),CU.of (.inr ⟨H.length+3,0,0,λ_=>[Qa id],?_,⟨by have:=hx.len;omega,rfl⟩,?_,?_⟩) (hx.app _)⟩;rw[c,r,b];rfl;rw[c,r,b,VS rfl];rfl;rw[c,r,b];intro i z;obtain rfl:i=0:=by simp at z;omega
   rfl;have j:=Qb p;rw[JG]at p;simp only[go_sem,Qj,p,j];refine⟨by have:=Yg (Xg A B) (L.take k);simp at this;omega,m,_,Qs.frame (fr':=[(0,.ptr f 0 0 0),(1,.ptr n 0 0 0),(5,.ref q (g+1) 0 (((L.take k).filter (Xg A B)).length+1)),(17,ints L),(18,Qa L.length),(19,Qa (k+1:Nat))]) (by simp only[go_sem,I]),CU.of (.inr ⟨q,g+1,0,J8 ((L.take k).filter (Xg A B)).length 0 s (λ_=>[Qa id]),?_,⟨u,rfl⟩,?_,?_⟩) ((hx.set u _).app _)⟩;rw[c,b];simp;rw[c,b,QG (zC j),QI j];simp[Qa];rw[c,b];exact Mt K
 | none=>
  rw[M]at E;simp only[E7,qq,q5]at E;cases v:Qw B id with
  | some y=>
   rw[v]at t;simp only[Va,BL,Vu]at t;have b:Xg A B id=true:=by unfold Xg;rw[M,v];simp
   apply Qh a;simp only[go_sem,m,<-P];apply ZH a wQ E;apply Kh a;apply ZH a wQ (t _);apply Qh a;simp only[go_sem,Qj,bne,Go.undef,bFT];rcases C with ⟨rfl,r⟩|⟨q,g,N,s,rfl,⟨u,rfl⟩,p,K⟩
   (try simp only[go_sem])
   refine⟨m,_,Qs.frame (fr':=[(0,.ptr f 0 0 0),(1,.ptr n 0 0 0),(5,.ref (H.length+3) 0 0 1),(17,ints L),(18,Qa L.length),(19,Qa (k+1:Nat))]) (by simp only[go_sem,I]),CU.of (.inr ⟨H.length+3,0,0,λ_=>[Qa id],?_,⟨by have:=hx.len;omega,rfl⟩,?_,?_⟩) (hx.app _)⟩;rw[c,r,b];rfl;rw[c,r,b,VS rfl];rfl;rw[c,r,b];intro i z;obtain rfl:i=0:=by simp at z;omega
   rfl;have j:=Qb p;rw[JG]at p;simp only[go_sem,Qj,p,j];refine⟨by have:=Yg (Xg A B) (L.take k);simp at this;omega,m,_,Qs.frame (fr':=[(0,.ptr f 0 0 0),(1,.ptr n 0 0 0),(5,.ref q (g+1) 0 (((L.take k).filter (Xg A B)).length+1)),(17,ints L),(18,Qa L.length),(19,Qa (k+1:Nat))]) (by simp only[go_sem,I]),CU.of (.inr ⟨q,g+1,0,J8 ((L.take k).filter (Xg A B)).length 0 s (λ_=>[Qa id]),?_,⟨u,rfl⟩,?_,?_⟩) ((hx.set u _).app _)⟩;rw[c,b];simp;rw[c,b,QG (zC j),QI j];simp[Qa];rw[c,b];exact Mt K
  | none=>
   rw[v]at t;simp only[E7,qq,q5]at t;have b:Xg A B id=false:=by unfold Xg;rw[M,v];simp
   apply Qh a;simp only[go_sem,m,<-P];apply ZH a wQ E;apply Kh a;apply ZH a wQ (t _);apply Qh a;simp only[go_sem,Qj,bne];refine⟨m,_,Qs.frame (fr':=[(0,.ptr f 0 0 0),(1,.ptr n 0 0 0),(5,d),(17,ints L),(18,Qa L.length),(19,Qa (k+1:Nat))]) (by simp only[go_sem,I]),CU.of (by rw[c,b,Qd π,JN];exact C.app _) (hx.app _)⟩
 .have ZJ:k=L.length:=ω;have U:=QN m;rw[ZJ,Wo]at C;have wY:Ac A B=L.filter (Xg A B):=by rw[T];rfl
  rw[<-wY]at C;have a2:(Ac A B).length<200000:=by have:=Yg (Xg A B) L;rw[wY];omega
  rcases C with ⟨rfl,r⟩|⟨q,g,N,s,rfl,⟨u,rfl⟩,p,K⟩
  .apply Qh a;simp only[go_sem,U];apply Qg a;refine ZT a fY (Qg9 H) λd h O=>?_;obtain⟨rfl,rfl⟩:=O;apply Qg a;have R:J1 A B=[]:=by unfold J1;rw[r];simp[sorted,jK,cN]
   apply QZ a Qgc QAD;apply Qg a;exact Kt.done Zp hx (.inl ⟨rfl,R⟩)
  .have j:=Qb p;apply Qh a;simp only[go_sem,U];apply Qg a;refine ZT a fY (Qg8 p ω K ω) λd h O=>?_;obtain⟨rfl,rfl⟩:=O;apply Qg a;obtain⟨Z,S⟩:=Zc (sorted (Ac A B));have V:Z.length=(Ac A B).length:=by rw[S,HL]
   rw[<-S,<-V];refine DM (Qs.rows q (Nq Z.toArray) (QI j) (λi z=>?_)) ?_;dsimp only at z ⊢;unfold wT;rw[Qe ⟨Z7 _,ω⟩,Dn,QAq];simp[jI];rw[J4];dsimp only;have R:jK Z=J1 A B:=by rw[S];rfl
   have hc:=QAE (h:=H.set q (CS g Z.toArray)) (lo:=q) (g:=g) (Z:=Z) (QI j) ω;rw[R]at hc;have JO:Z.toArray.size=Z.length:=σ;rw[<-JO];refine ZT a Qgc (JO▸hc) λd h O=>?_;obtain⟨rfl,KQ,rfl,Ii⟩:=O;apply Qg a;rw[J4];refine Kt.done Zp (hx.set u _) (.inr ⟨q,g,0,KQ,rfl,⟨u,rfl⟩,by rw[QI j,JG],λi z=>by rw[JG];exact Ii i z⟩)
def Qj2{h b a}{A B:List Ql}(g:XQ h b A)(f:XQ h a B)(e:A.length<100000)(c:B.length<100000):
  Zl prog 69 h [.ptr b 0 0 0,.ptr a 0 0 0] (λd=>d=ints (J1 A B)):=Kt.closed (QAG g f e c)
def jL(T:List Ql):Prop:=∀c∈T,Ql.Ok c
def Cv.Ok.nn{c:Cv}(h:Cv.Ok c):c.Nn:=⟨(wf_u64 h.1).1,(wf_u64 h.2.1).1,(wf_u64 h.2.2.1).1⟩
def Ql.Ok.nn{c:Ql}(h:Ql.Ok c):c.Nn:=⟨h.2.2.2.1.nn,h.2.2.2.2.1.nn,h.2.2.2.2.2.1.nn⟩
def Cv.Ok.lt{c:Cv}(h:Cv.Ok c):(Jv c).Lt:=by have e:=wf_u64 h.1;have b:=wf_u64 h.2.1;have a:=wf_u64 h.2.2.1;refine⟨?_,?_,?_⟩<;>(simp only[Jv];omega)
def jL.Qj3{T}(h:jL T):∀c∈Vl T,c.Lt:=λc a=>by obtain⟨x,hx,rfl⟩:=Jw.1 a;exact(h x (JB.1 hx).1).2.2.2.1.lt
def jL.one{T}(h:jL T)(a:WD T){c}(b:Jj.Ok c):jL (yj T c):=by unfold yj;split;split;exact λd hd=>h d (JB.1 hd).1;intro d hd;rcases yS a c.cls hd with rfl|hd;exact b.2.1;exact h d hd;exact h
def VD:List Ql->List Jj->Nat->Int × Nat × List Ql
 | T,[],_=>(0,0,T)
 | T,c::l,i=>if qK T c≠0 then (qK T c,i,T) else VD (yj T c) l (i+1)
def Yc(T:List Ql)(t:Int)(l:List Jj):Int:=
 if 32<l.length then 2 else if (VD T l 0).1≠0 then (VD T l 0).1 else zE t (Vl (VD T l 0).2.2)
def Em(T:List Ql)(l:List Jj):Nat:=if 32<l.length then 0 else if (VD T l 0).1≠0 then (VD T l 0).2.1 else 0
def Z5(T:List Ql)(l:List Jj):List Ql:=(VD T l 0).2.2
def Qj4:∀(l:List Jj) (T:List Ql) (i:Nat),KF T->jL T->(∀c∈l,Jj.Ok c)->KF (VD T l i).2.2/\jL (VD T l i).2.2
 | [],T,i,I,K,_=>⟨I,K⟩
 | c::l,T,i,I,K,a=>by rw[VD];split;exact⟨I,K⟩;exact Qj4 l _ _ (I.one c) (K.one I.rising (a c σ)) λd b=>a d (by simp[b])
def Qj5{b T}{l:List Jj}{k}(a:k<l.length)(h:VD b l 0=VD T (l.drop k) k):VD b l 0=if qK T (l.getD k default)≠0 then (qK T (l.getD k default),k,T) else VD (yj T (l.getD k default)) (l.drop (k+1)) (k+1):=by rw[h,Sm a,VD,QU,QH a];rfl
@[go_sem] def Gl(l:List Jj):D:=.imm 15 l.length (Jj.rows l)
def QAL{S h t T}(R:WU S h t T)(I:KF T)(K:jL T)(n)(KY:1<=n)(KX:n<=65536)(l:List Jj)(W:∀c∈l,Jj.Ok c)(hl:l.length<1000000):
  QO prog 68 h [.ptr t 0 0 0,Qa n,Gl l] (λd o=>∃p,d=.tup [if Yc T n l=0 then .ptr p 0 0 0 else .raw (.pointer none),Qa (Em T l),Qa (Yc T n l)]/\(Yc T n l=0->WU (λl=>h.length<=l) o p (Z5 T l))/\∃g,o=h++g):=by
 have d1:decide (n<1)=false:=QN ω;have d2:decide (65536<n)=false:=QN ω;by_cases v:32<l.length;have d3:decide ((32:Int)<(l.length:Int))=true:=QY ω;have e1:Yc T n l=2:=Qe v;have e2:Em T l=0:=Qe v;refine Q9 func68 ntmps68 results68 λs w U e=>?_;simp only[go_sem,d1,d2,d3];rw[e1,e2];exact⟨0,rfl,(λh=>absurd h π),[],(JN _).symm⟩;have d3:decide ((32:Int)<(l.length:Int))=false:=QN ω;refine Q9 func68 ntmps68 results68 λs w U e=>?_;simp only[go_sem,d1,d2,d3];refine ZT e Qt0 (Qyq R) λd h C=>?_;obtain⟨rfl,R2,g,rfl,hg⟩:=C;apply Qg e;have B:Em T l=if (VD T l 0).1≠0 then (VD T l 0).2.1 else 0:=Qd v;have z:Yc T n l=if (VD T l 0).1≠0 then (VD T l 0).1 else zE n (Vl (VD T l 0).2.2):=Qd v;refine ZY (λk P=>∃a H,WU (λl=>h.length<=l) H (h.length+1) a/\KF a/\jL a/\VD T l 0=VD a (l.drop k) k/\(∃g,H=h++g)/\P=⟨[(1,Qa n),(9,.ptr (h.length+1) 0 0 0),(30,Gl l),(31,Qa l.length),(32,Qa k)],H⟩) l.length (s0:=⟨[(1,Qa n),(9,.ptr (h.length+1) 0 0 0),(30,Gl l),(31,Qa l.length),(32,Qa 0)],h++g⟩) QP ⟨T,_,R2,I,K,rfl,⟨_,rfl⟩,rfl⟩ ?_;rintro k _ hk ⟨a,H,F,y,J,u,⟨f,rfl⟩,rfl⟩;by_cases j:k<l.length;have M:=QY j;have q:=Qj5 j u;have N:Jj.Ok (l.getD k default):=W _ (YZ l default k j);obtain⟨x,hx⟩:=Zc (l.getD k default);rw[<-hx]at q N;have LC:=λg=>(show QO prog 96 (h++(f++g)) [.ptr (h.length+1) 0 0 0,.agg x.cells] (λd o=>d=Qa (qK a x)/\WU (λl=>h.length<=l/\l<(h++f).length) o (h.length+1) (yj a x)/\Step (λl=>h.length<=l/\l<(h++f).length) (h++(f++g)) o) by rw[<-WJ];exact Qyz (F.app g) y x);have QS:=JJ (show k<4611686018427387904 from ω);apply Qh e;simp only[go_sem,Qj,j,Jj.vN,<-hx];refine ZT e Qt1 (LC _) λd E C=>?_;obtain⟨rfl,R6,Q⟩:=C;have r:∃g,E=h++g:=by refine⟨E.drop h.length,?_⟩;apply AA;intro i;by_cases L:i<h.length;rw[QG L,Q.keep i ξ (λh=>by have:=h.1;omega),QG L];rw[Ks ω,GX];congr 1;omega
 have R7:WU (λl=>h.length<=l) E (h.length+1) (yj a x):=R6.step λl _ V=>⟨V.1,rfl⟩;apply Qg e;by_cases b:qK a x=0;rw[Qd (zC b)]at q;have d0:(qK a x != 0)=false:=by simpa using b
 simp only[go_sem,d0];exact⟨j,_,Qs.frame (by simp only[go_sem,QS]),yj a x,_,R7,y.one x,J.one y.rising N,q,r,rfl⟩;rw[Qe (zC b)]at q;have d0:(qK a x != 0)=true:=by simpa using b
 simp only[go_sem,d0];rw[B,z,q];simp only[Qe (show qK a x≠0 from b),Qd b];exact⟨0,trivial,(λh=>absurd h b),r⟩;have ZJ:k=l.length:=ω;have M:=QN j;rw[ZJ,List.drop_length,VD]at u;rw[u]at B z;simp only[ne_eq,not_true_eq_false,q5]at B z;have Y:Z5 T l=a:=by unfold Z5;rw[u]
 have O:=y.len;have Aa:Zl prog 98 (h++f) [.ptr (h.length+1) 0 0 0] (λd=>d=K0 (Vl a)):=by obtain⟨m,c,es,h1,h2,Z⟩:=F.toR;exact QAp _ _ m c Z ω h1 h2 (λx hx=>(J x hx).nn)
 have Kf:=uV a;apply Qh e;simp only[go_sem,M];apply Qg e;apply ZH e Qt3 Aa;apply Qg e;apply QZ e Qt2 (QzJ n (Vl a) ω J.Qj3);apply Kh e;rw[B,z,Y];by_cases b:zE n (Vl a)=0;have d0:(zE n (Vl a) != 0)=false:=by simpa using b
 simp only[go_sem,d0];rw[b];exact⟨h.length+1,σ,λ_=>F,f,rfl⟩;have d0:(zE n (Vl a) != 0)=true:=by simpa using b
 simp only[go_sem,d0];exact⟨0,by simp[b],λh=>absurd h b,f,rfl⟩
def Re{T}(I:KF T)(K:jL T){l}(a:∀c∈l,Jj.Ok c):KF (Z5 T l)/\jL (Z5 T l):=Qj4 l T 0 I K a
def Ij(T:List Ql)(a:Int):Bool:=decide (1<QJ ((Qw T a).getD default).rt)
def lP(A B:List Ql):Bool:=(J1 A B).any λid=>Ij A id || Ij B id
structure Nd where
 c:Ql
 JD:Nat
 du:Du
 sh:Sh
 cp:Cp
 q:Qu
instance:Inhabited Nd:=⟨⟨default,0,default,default,default,default⟩⟩
def Vf(d:D)(n:Nd):List D:=d::(n.c.cells++(u64 n.JD::(n.du.cells++(n.sh.cells++n.cp.cells))))
section
variable (d:D)(n:Nd)
theorem QKh:(Vf d n).getD 0 D.undef=d:=rfl
theorem QKi:(List.drop 1 (Vf d n)).getD 0 D.undef=Qa n.c.iD:=rfl
theorem QKj:(List.drop 2 (Vf d n)).getD 0 D.undef=Qa n.c.parent:=rfl
theorem QKk:(List.drop 3 (Vf d n)).getD 0 D.undef=QV n.c.leaf:=rfl
theorem QKl:(List.drop 15 (Vf d n)).getD 0 D.undef=u64 n.JD:=rfl
theorem QKm:(List.drop 36 (Vf d n)).getD 0 D.undef=u64 n.du.Vt:=rfl
theorem QKn:(List.drop 37 (Vf d n)).getD 0 D.undef=u64 n.du.dead:=rfl
theorem QKo:(List.drop 48 (Vf d n)).getD 0 D.undef=u64 n.sh.time:=rfl
theorem QKp:(List.drop 59 (Vf d n)).getD 0 D.undef=u64 n.cp.fit:=rfl
theorem QKq:List.take 14 (List.drop 1 (Vf d n))=n.c.cells:=rfl
theorem QKr:List.take 3 (List.drop 4 (Vf d n))=n.c.rt.cells:=rfl
theorem QKs:List.take 3 (List.drop 7 (Vf d n))=n.c.ls.cells:=rfl
theorem QKt:List.take 3 (List.drop 10 (Vf d n))=n.c.ul.cells:=rfl
theorem QKu:List.take 22 (List.drop 16 (Vf d n))=n.du.cells:=rfl
theorem QKv:List.take 11 (List.drop 38 (Vf d n))=n.sh.cells:=rfl
theorem QKw:List.take 11 (List.drop 49 (Vf d n))=n.cp.cells:=rfl
theorem QKx(v):List.take 15 (Vf d n)++(.raw (.int .u64 ((v:Nat):Int))::List.drop 16 (Vf d n))=Vf d { n with JD:=v }:=rfl
theorem QKy(x:Du):List.take 16 (Vf d n)++(.raw (.bool x.has)::.raw (.int .u64 ((x.dl.f.x:Nat):Int))::.raw (.int .u64 ((x.dl.f.y/18446744073709551616:Nat):Int))::.raw (.int .u64 ((x.dl.f.y%18446744073709551616:Nat):Int))::.raw (.int .u64 ((x.dl.f.m:Nat):Int))::.raw (.int .u64 ((x.dl.t.x:Nat):Int))::.raw (.int .u64 ((x.dl.t.y/18446744073709551616:Nat):Int))::.raw (.int .u64 ((x.dl.t.y%18446744073709551616:Nat):Int))::.raw (.int .u64 ((x.dl.t.m:Nat):Int))::.raw (.bool x.dl.b)::.raw (.int .u64 ((x.rd.f.x:Nat):Int))::.raw (.int .u64 ((x.rd.f.y/18446744073709551616:Nat):Int))::.raw (.int .u64 ((x.rd.f.y%18446744073709551616:Nat):Int))::.raw (.int .u64 ((x.rd.f.m:Nat):Int))::.raw (.int .u64 ((x.rd.t.x:Nat):Int))::.raw (.int .u64 ((x.rd.t.y/18446744073709551616:Nat):Int))::.raw (.int .u64 ((x.rd.t.y%18446744073709551616:Nat):Int))::.raw (.int .u64 ((x.rd.t.m:Nat):Int))::.raw (.bool x.rd.b)::.raw (.int .u64 ((x.QC:Nat):Int))::.raw (.int .u64 ((x.Vt:Nat):Int))::.raw (.int .u64 ((x.dead:Nat):Int))::List.drop 38 (Vf d n))=Vf d { n with du:=x }:=rfl
theorem QAM(x:Sh):List.take 38 (Vf d n)++(.raw (.bool x.has)::.raw (.int .u64 ((x.run.f.x:Nat):Int))::.raw (.int .u64 ((x.run.f.y/18446744073709551616:Nat):Int))::.raw (.int .u64 ((x.run.f.y%18446744073709551616:Nat):Int))::.raw (.int .u64 ((x.run.f.m:Nat):Int))::.raw (.int .u64 ((x.run.t.x:Nat):Int))::.raw (.int .u64 ((x.run.t.y/18446744073709551616:Nat):Int))::.raw (.int .u64 ((x.run.t.y%18446744073709551616:Nat):Int))::.raw (.int .u64 ((x.run.t.m:Nat):Int))::.raw (.bool x.run.b)::.raw (.int .u64 ((x.time:Nat):Int))::List.drop 49 (Vf d n))=Vf d { n with sh:=x }:=rfl
theorem QKz(x:Cp):List.take 49 (Vf d n)++(.raw (.bool x.has)::.raw (.int .u64 ((x.run.f.x:Nat):Int))::.raw (.int .u64 ((x.run.f.y/18446744073709551616:Nat):Int))::.raw (.int .u64 ((x.run.f.y%18446744073709551616:Nat):Int))::.raw (.int .u64 ((x.run.f.m:Nat):Int))::.raw (.int .u64 ((x.run.t.x:Nat):Int))::.raw (.int .u64 ((x.run.t.y/18446744073709551616:Nat):Int))::.raw (.int .u64 ((x.run.t.y%18446744073709551616:Nat):Int))::.raw (.int .u64 ((x.run.t.m:Nat):Int))::.raw (.bool x.run.b)::.raw (.int .u64 ((x.fit:Nat):Int))::List.drop 60 (Vf d n))=Vf d { n with cp:=x }:=rfl
attribute[go_sem]QKh QKi QKj QKk QKl QKm QKn QKo QKp QKq QKr QKs QKt QKu QKv QKw QKx QKy QAM QKz
end
inductive Tag where
 | no|sc|tree|u0|x7 (id:Int)|zF (id:Int)|on|lv|mk|Yr (id:Int)|QAN
deriving DecidableEq
def Q5(a:Nat->Tag)(h:List Ob)(t:Tag):Nat->Tag:=λl=>if h.length<=l then t else a l
def lQ{a h t}(l):more (λl=>a l=t) h l->Q5 a h t l=t:=λb=>by unfold Q5;split;rfl;rcases b with b|b;exact b;omega
def KB{a}{h:List Ob}{t l}(b:l<h.length):Q5 a h t l=a l:=by unfold Q5;rw[Qd ω]
structure Qn where
 lk:Cf
 T:List Ql
 To:List Ql
 N:List Nd
 A:List Int
 Lv:List It
 ks:Int->Bool
 KT:Int->List It
 Qc:Nat
 acc:Nat
structure Loc where
 t:Nat
 b:Nat
 o:Nat
 v:Nat
 m:Nat
 cb:Nat
 cm:Nat
 eb:List ZL
 em:List ZL
 le:Int->Nat
 lq:Int->Nat
 lk:Int->Nat
def Qi(N:List Nd)(a:Int):Option Nd:=N.find? λn=>n.c.iD==a
@[go_sem] def kU(c:Cf)(t b o v m d a:Nat):Ob:=⟨.one,0,9,1,λ_=>[Qa c.t,Qa c.Ze,.ptr t 0 0 0,.mref b 0,.ptr o 0 0 0,.ptr v 0 0 0,.mref m 0,u64 d,u64 a]⟩
@[go_sem] def qb(d:D)(n:Nd):Ob:=⟨.one,0,60,1,λ_=>Vf d n⟩
def qD(a:Int->Nat)(n:Nd):D:=if n.c.leaf=true then .ptr (a n.c.iD) 0 0 0 else .raw (.pointer none)
structure Nd.Ok (n:Nd):Prop where
 JD:n.JD<18446744073709551616
 du:n.du.Ok
 sh:n.sh.Ok
 cp:n.cp.Ok
 c:Ql.Ok n.c
structure ZI (own:Nat->Tag) (h:List Ob) (p:Nat) (L:Loc) (M:Qn):Prop where
 ob:h[p]?=some (kU M.lk L.t L.b L.o L.v L.m M.Qc M.acc)
 op:own p=.sc
 tr:WU (λl=>own l=.tree) h L.t M.T
 Wc:h[L.b]?=some (QT .i64 L.cb L.eb)
 KC:Vk L.eb (λid=>(Qi M.N id).map λ_=>.ptr (L.le id) 0 0 0)
 ow:own L.b=.u0
 JL:∀id n,Qi M.N id=some n->h[L.le id]?=some (qb (qD L.lq n) n)/\own (L.le id)=.x7 id
 XS:∀id n,Qi M.N id=some n->n.c.leaf=true->∃k:Nat,n.c.ZV=k/\xh (λl=>own l=.zF id) h (L.lq id) k n.c.bytes n.q
 zG:jF (λl=>own l=.on) h L.o M.To M.A
 Ys:Xd (λl=>own l=.lv) h L.v M.Lv
 Wt:h[L.m]?=some (QT .i64 L.cm L.em)
 Yt:Vk L.em (λid=>if M.ks id=true then some (.ptr (L.lk id) 0 0 0) else none)
 om:own L.m=.mk
 kids:∀id,M.ks id=true->Xd (λl=>own l=.Yr id) h (L.lk id) (M.KT id)
 qL:∀id n,Qi M.N id=some n->n.Ok
def Xd.step{S S'}{h h':List Ob}{p L}(e:∀l,l<h.length->S l->S' l/\h'[l]? = h[l]?):Xd S h p L->Xd S' h' p L:=λ⟨a,m,t,c,g,T⟩=>
 have k:∀l o,S l->h[l]?=some o->h'[l]?=some o:=λl o f d=>(e l (Qb d) f).2.trans d
 ⟨a,m,t,c,g,k _ _ T.sp T.o,⟨k _ _ T.sa T.av.o,T.av.is.frame λl b=>(e l (T.av.is.lt l b) (T.st l b)).2,T.av.list,T.av.nd,T.av.out,T.av.sorted⟩,k _ _ T.sm T.mo,T.mp,T.vi,T.pa,T.pm,T.am,T.pt,T.mt,(e _ (Qb T.o) T.sp).1,(e _ (Qb T.av.o) T.sa).1,(e _ (Qb T.mo) T.sm).1,λl b=>(e l (T.av.is.lt l b) (T.st l b)).1⟩
def Live(t:Tag):Prop:=t≠.no/\t≠.QAN
def ZI.step{c own'}{h h':List Ob}{p L M}(C:ZI c h p L M)(e:∀l,l<h.length->Live (c l)->own' l=c l/\h'[l]? = h[l]?):ZI own' h' p L M:=by
 have k:∀l o t,c l=t->Live t->h[l]?=some o->h'[l]?=some o:=λl o t d f i=>(e l (Qb i) (by rw[d];exact f)).2.trans i;have g:∀l o t,c l=t->Live t->h[l]?=some o->own' l=t:=λl o t d f i=>by rw[(e l (Qb i) (by rw[d];exact f)).1,d]
 have s:∀t,Live t->∀l,l<h.length->c l=t->own' l=t/\h'[l]? = h[l]? := λt f l m d=>by obtain⟨a,b⟩:=e l m (by rw[d];exact f);exact⟨by rw[a,d],b⟩
 refine⟨k _ _ _ C.op (by simp[Live]) C.ob,g _ _ _ C.op (by simp[Live]) C.ob,C.tr.step (s _ (by simp[Live])),k _ _ _ C.ow (by simp[Live]) C.Wc,C.KC,g _ _ _ C.ow (by simp[Live]) C.Wc,λid n j=>?_,λid n j m=>?_,C.zG.step (s _ (by simp[Live])),C.Ys.step (s _ (by simp[Live])),k _ _ _ C.om (by simp[Live]) C.Wt,C.Yt,g _ _ _ C.om (by simp[Live]) C.Wt,λid r=>(C.kids id r).step (s _ (by simp[Live])),C.qL⟩;obtain⟨d,f⟩:=C.JL id n j;exact⟨k _ _ _ f (by simp[Live]) d,g _ _ _ f (by simp[Live]) d⟩;obtain⟨q,d,f⟩:=C.XS id n j m;exact⟨q,d,f.step (s _ (by simp[Live]))⟩
structure ZC (own:Nat->Tag) (h:List Ob) (own':Nat->Tag) (h':List Ob):Prop where
 same:∀l,l<h.length->own' l=own l
 keep:∀l,l<h.length->own l=Tag.no->h'[l]? = h[l]?
 len:h.length<=h'.length
def ZC.refl(a h):ZC a h a h:=⟨λ_ _=>rfl,λ_ _ _=>rfl,Qv _⟩
def ZC.trans{e c i h h' f}(a:ZC e h c h')(b:ZC c h' i f):ZC e h i f:=
 ⟨λl d=>(b.same l (wB d a.len)).trans (a.same l d),λl d g=>(b.keep l (wB d a.len) ((a.same l d).trans g)).trans (a.keep l d g),J5 a.len b.len⟩
def ZC.app(a h g t):ZC a h (Q5 a h t) (h++g):=⟨λl b=>KB b,λl b _=>QG b,σ⟩
def ZC.of{own h b t}(c:t≠.no)(s:Step (λl=>own l=t) h b):ZC own h (Q5 own h t) b:=
 ⟨λl a=>KB a,λl a d=>s.keep l a (by rw[d];exact λe=>c e.symm),s.len⟩
def ZC.set{own}{h:List Ob}{l}(o)(b:own l≠.no):ZC own h own (h.set l o):=⟨λ_ _=>rfl,λj c a=>Qo (λe=>b (e▸a)),σ⟩
section
variable {own:Nat->Tag}{h h':List Ob}{p:Nat}{L:Loc}{M:Qn}(C:ZI own h p L M)
include C
theorem ZI.Rf(g):ZI (Q5 own h .no) (h++g) p L M:=C.step λl a _=>⟨KB a,QG a⟩
theorem ZI.loc{l}(a:own l=.no)(o):ZI own (h.set l o) p L M:=C.step λj _ b=>⟨rfl,Qo (λe=>b.1 (by rw[<-e,a]))⟩
theorem ZI.rest{t}(s:Step (λl=>own l=t) h h'):∀u,u≠t->∀l,l<h.length->own l=u->Q5 own h t l=u/\h'[l]? = h[l]? := λu c l a b=>⟨by rw[KB a,b],s.keep l a (by rw[b];exact c)⟩
theorem ZI.Yr(c)(x:M.ks c=true){B}(w:Xd (more (λl=>own l=.Yr c) h) h' (L.lk c) B)(s:Step (λl=>own l=.Yr c) h h'):ZI (Q5 own h (.Yr c)) h' p L { M with KT:=λj=>if j=c then B else M.KT j }:=by
 have r:=C.rest s;have k:∀l o t,own l=t->t≠.Yr c->h[l]?=some o->h'[l]?=some o/\Q5 own h (.Yr c) l=t:=λl o t f d q=>by obtain⟨a,b⟩:=r t d l (Qb q) f;exact⟨b.trans q,a⟩
 refine⟨(k _ _ _ C.op σ C.ob).1,(k _ _ _ C.op σ C.ob).2,C.tr.step (r _ σ),(k _ _ _ C.ow σ C.Wc).1,C.KC,(k _ _ _ C.ow σ C.Wc).2,λi n g=>?_,λi n g m=>?_,C.zG.step (r _ σ),C.Ys.step (r _ σ),(k _ _ _ C.om σ C.Wt).1,C.Yt,(k _ _ _ C.om σ C.Wt).2,λi v=>?_,C.qL⟩;obtain⟨f,d⟩:=C.JL i n g;exact k _ _ _ d σ f;obtain⟨u,f,d⟩:=C.XS i n g m;exact⟨u,f,d.step (r _ σ)⟩;by_cases e:i=c;subst e;dsimp only;rw[Qe rfl];exact w.mono λl m=>lQ l m;dsimp only;rw[Qd e];exact(C.kids i v).step (r _ (zC e))
theorem ZI.lv{B}(q:Xd (more (λl=>own l=.lv) h) h' L.v B)(s:Step (λl=>own l=.lv) h h'):ZI (Q5 own h .lv) h' p L { M with Lv:=B }:=by
 have r:=C.rest s;have k:∀l o t,own l=t->t≠.lv->h[l]?=some o->h'[l]?=some o/\Q5 own h .lv l=t:=λl o t d c g=>by obtain⟨a,b⟩:=r t c l (Qb g) d;exact⟨b.trans g,a⟩
 refine⟨(k _ _ _ C.op σ C.ob).1,(k _ _ _ C.op σ C.ob).2,C.tr.step (r _ σ),(k _ _ _ C.ow σ C.Wc).1,C.KC,(k _ _ _ C.ow σ C.Wc).2,λi n e=>?_,λi n e f=>?_,C.zG.step (r _ σ),q.mono λl f=>lQ l f,(k _ _ _ C.om σ C.Wt).1,C.Yt,(k _ _ _ C.om σ C.Wt).2,λi m=>(C.kids i m).step (r _ σ),C.qL⟩;obtain⟨d,c⟩:=C.JL i n e;exact k _ _ _ c σ d;obtain⟨j,d,c⟩:=C.XS i n e f;exact⟨j,d,c.step (r _ σ)⟩
theorem ZI.act{j}(u:jF (more (λl=>own l=.on) h) h' L.o M.To j)(s:Step (λl=>own l=.on) h h'):ZI (Q5 own h .on) h' p L { M with A:=j }:=by
 have r:=C.rest s;have k:∀l o t,own l=t->t≠.on->h[l]?=some o->h'[l]?=some o/\Q5 own h .on l=t:=λl o t d c g=>by obtain⟨a,b⟩:=r t c l (Qb g) d;exact⟨b.trans g,a⟩
 refine⟨(k _ _ _ C.op σ C.ob).1,(k _ _ _ C.op σ C.ob).2,C.tr.step (r _ σ),(k _ _ _ C.ow σ C.Wc).1,C.KC,(k _ _ _ C.ow σ C.Wc).2,λi n e=>?_,λi n e f=>?_,u.step λl _ f=>⟨lQ l f,rfl⟩,C.Ys.step (r _ σ),(k _ _ _ C.om σ C.Wt).1,C.Yt,(k _ _ _ C.om σ C.Wt).2,λi q=>(C.kids i q).step (r _ σ),C.qL⟩;obtain⟨d,c⟩:=C.JL i n e;exact k _ _ _ c σ d;obtain⟨m,d,c⟩:=C.XS i n e f;exact⟨m,d,c.step (r _ σ)⟩
end
def ZC.Ep{b}{h:List Ob}{a}{H:List Ob}(D:ZC b h a H){l}(e:h.length<=l)(o):ZC b h a (H.set l o):=⟨D.same,λj d c=>by rw[Qo ω];exact D.keep j d c,by simpa using D.len⟩
def Wl(N:List Nd)(a:Int)(f:Nd->Nd):List Nd:=N.map λn=>if n.c.iD=a then f n else n
def jM{N id f}(c:∀n,(f n).c.iD=n.c.iD)(j:Int):Qi (Wl N id f) j=if j=id then (Qi N j).map f else Qi N j:=by
 unfold Qi Wl;rw[List.find?_map];have e:((λn:Nd=>n.c.iD==j) ∘ λn=>if n.c.iD=id then f n else n)=λn=>n.c.iD==j:=by funext n;simp only[Function.comp_apply];split<;>simp[c]
 rw[e];by_cases b:j=id;subst b;rw[Qe rfl];cases a:N.find? λn=>n.c.iD==j with
 | none=>rfl
 | some n=>have:=yy a;simp only[qZ]at this;simp[this]
 rw[Qd b];cases a:N.find? λn=>n.c.iD==j with
 | none=>rfl
 | some n=>have:=yy a;simp only[qZ]at this;simp only[Kq];rw[Qd (by rw[this];exact b)]
section
variable {own:Nat->Tag}{h:List Ob}{p:Nat}{L:Loc}{M:Qn}(C:ZI own h p L M)
include C
theorem ZI.x7{b}{n:Nd}(g:Qi M.N b=some n)(f)(w:∀n,(f n).c=n.c)(z:∀n,(f n).q=n.q)(I:(f n).Ok):ZI own (h.set (L.le b) (qb (qD L.lq n) (f n))) p L { M with N:=Wl M.N b f }:=by
 obtain⟨F,x⟩:=C.JL b n g;have s:∀l o t,own l=t->t≠.x7 b->h[l]?=some o->(h.set (L.le b) (qb (qD L.lq n) (f n)))[l]?=some o:=λl o t q E B=>by rw[Qo (λe=>E (by rw[<-q,<-e,x]))];exact B
 have r:∀t,t≠.x7 b->∀l,l<h.length->own l=t->own l=t/\(h.set (L.le b) (qb (qD L.lq n) (f n)))[l]? = h[l]? := λt y l k q=>⟨q,Qo (λe=>y (by rw[<-q,<-e,x]))⟩;have H:∀n,(f n).c.iD=n.c.iD:=λn=>by rw[w]
 have u:=jM (N:=M.N) (id:=b) H;refine⟨s _ _ _ C.op σ C.ob,C.op,C.tr.step (r _ σ),s _ _ _ C.ow σ C.Wc,C.KC.to λj=>?_,C.ow,λj m a=>?_,λj m a k=>?_,C.zG.step (r _ σ),C.Ys.step (r _ σ),s _ _ _ C.om σ C.Wt,C.Yt,C.om,λj c=>(C.kids j c).step (r _ σ),λj m a=>?_⟩;dsimp only;rw[u];split;cases Qi M.N j<;>rfl;rfl;dsimp only at a;rw[u]at a;by_cases c:j=b;subst c;rw[Qe rfl,g,Kq]at a;cases a;refine⟨?_,x⟩;rw[QI (Qb F)];unfold qD;rw[w];rw[Qd c]at a;obtain⟨i,d⟩:=C.JL j m a;exact⟨s _ _ _ d (zC c) i,d⟩;dsimp only at a;rw[u]at a;by_cases c:j=b;subst c;rw[Qe rfl,g,Kq]at a;cases a;rw[w]at k ⊢;rw[z];obtain⟨v,i,d⟩:=C.XS j n g k;exact⟨v,i,d.step (r _ σ)⟩;rw[Qd c]at a;obtain⟨v,i,d⟩:=C.XS j m a k;exact⟨v,i,d.step (r _ σ)⟩;dsimp only at a;rw[u]at a;by_cases c:j=b;subst c;rw[Qe rfl,g,Kq]at a;cases a;exact I;rw[Qd c]at a;exact C.qL j m a
theorem ZI.zF{w:List Ob}{d:Int}{n:Nd}(i:Qi M.N d=some n)(J:n.c.leaf=true){k:Nat}(H:n.c.ZV=k){y:Qu}(Q:xh (λl=>own l=.zF d) w (L.lq d) k n.c.bytes y)(s:Step (λl=>own l=.zF d) h w):ZI (Q5 own h (.zF d)) w p L { M with N:=Wl M.N d λn=>{ n with q:=y } }:=by
 have r:=C.rest s;have g:∀l o t,own l=t->t≠.zF d->h[l]?=some o->w[l]?=some o/\Q5 own h (.zF d) l=t:=λl o t z I E=>by obtain⟨a,b⟩:=r t I l (Qb E) z;exact⟨b.trans E,a⟩
 have x:=jM (N:=M.N) (id:=d) (f:=λn=>{ n with q:=y }) (λ_=>rfl);refine⟨(g _ _ _ C.op σ C.ob).1,(g _ _ _ C.op σ C.ob).2,C.tr.step (r _ σ),(g _ _ _ C.ow σ C.Wc).1,C.KC.to λj=>?_,(g _ _ _ C.ow σ C.Wc).2,λj m c=>?_,λj m c F=>?_,C.zG.step (r _ σ),C.Ys.step (r _ σ),(g _ _ _ C.om σ C.Wt).1,C.Yt,(g _ _ _ C.om σ C.Wt).2,λj e=>(C.kids j e).step (r _ σ),λj m c=>?_⟩;dsimp only;rw[x];split;cases Qi M.N j<;>rfl;rfl;dsimp only at c;rw[x]at c;by_cases e:j=d;subst e;rw[Qe rfl,i,Kq]at c;cases c;obtain⟨v,u⟩:=C.JL j n i;exact g _ _ _ u σ v;rw[Qd e]at c;obtain⟨v,u⟩:=C.JL j m c;exact g _ _ _ u σ v;dsimp only at c;rw[x]at c;by_cases e:j=d;subst e;rw[Qe rfl,i,Kq]at c;cases c;exact⟨k,H,Q.step λl _ z=>⟨lQ l (.inl z),rfl⟩⟩;rw[Qd e]at c;obtain⟨B,v,u⟩:=C.XS j m c F;exact⟨B,v,u.step (r _ (zC e))⟩;dsimp only at c;rw[x]at c;by_cases e:j=d;subst e;rw[Qe rfl,i,Kq]at c;cases c;have:=C.qL j n i;exact⟨this.JD,this.du,this.sh,this.cp,this.c⟩;rw[Qd e]at c;exact C.qL j m c
theorem ZI.Qc(c a):ZI own (h.set p (kU M.lk L.t L.b L.o L.v L.m c a)) p L { M with Qc:=c,acc:=a }:=by
 have i:∀l o t,own l=t->t≠.sc->h[l]?=some o->(h.set p (kU M.lk L.t L.b L.o L.v L.m c a))[l]?=some o:=λl o t b v u=>by rw[Qo (λe=>v (by rw[<-b,<-e,C.op]))];exact u
 have r:∀t,t≠.sc->∀l,l<h.length->own l=t->own l=t/\(h.set p (kU M.lk L.t L.b L.o L.v L.m c a))[l]? = h[l]? := λt q l k b=>⟨b,Qo (λe=>q (by rw[<-b,<-e,C.op]))⟩;refine⟨QI (Qb C.ob),C.op,C.tr.step (r _ σ),i _ _ _ C.ow σ C.Wc,C.KC,C.ow,λj m f=>?_,λj m f k=>?_,C.zG.step (r _ σ),C.Ys.step (r _ σ),i _ _ _ C.om σ C.Wt,C.Yt,C.om,λj s=>(C.kids j s).step (r _ σ),C.qL⟩;obtain⟨g,d⟩:=C.JL j m f;exact⟨i _ _ _ d σ g,d⟩;obtain⟨n,g,d⟩:=C.XS j m f k;exact⟨n,g,d.step (r _ σ)⟩
end
structure QB (M:Qn):Prop where
 tree:KF M.T
 xn:jL M.T
 to:M.To=M.T
 nodes:M.T=M.N.map (·.c)
 qc:yU M.T M.A
 ks:∀id,M.ks id=true↔id=0\/∃n,Qi M.N id=some n/\n.c.leaf=false
 Bp:∀x∈M.Lv,(Qw M.T x.ki).isSome=true
 wh:∀id,∀x∈M.KT id,∃c,Qw M.T x.ki=some c/\c.parent=id
 xo:∀id,∀x∈M.KT id,x.ka<=18446744073709551615
 Qc:M.Qc<=4611686018427387904
 acc:M.acc<=1099511627776
def u6(N:List Nd)(a:Int):Qw (N.map (·.c)) a=(Qi N a).map (·.c):=by unfold Qw Qi;rw[List.find?_map];rfl
section
variable {M:Qn}(I:QB M)
include I
theorem QB.find(a:Int):Qw M.T a=(Qi M.N a).map (·.c):=by rw[I.nodes,u6]
theorem QB.u7(a):∀x∈M.KT a,(Qw M.T x.ki).isSome=true:=λx hx=>by obtain⟨c,b,_⟩:=I.wh a x hx;rw[b];rfl
theorem QB.some{a}{n:Nd}(h:Qi M.N a=some n):Qw M.T a=Option.some n.c:=by rw[I.find,h];rfl
omit I in
theorem QB.id{a}{n:Nd}(h:Qi M.N a=Option.some n):n.c.iD=a:=by have:=yy h;simpa using this
theorem QB.lS{a n}(h:Qi M.N a=Option.some n):a≠0:=λe=>by have:=I.some h;rw[e,FR I.tree]at this;cases this
theorem QB.Nt{a c}(h:Qw M.T a=Option.some c):∃n,Qi M.N a=Option.some n/\n.c=c:=by
 rw[I.find]at h;cases b:Qi M.N a with
 | none=>rw[b]at h;cases h
 | some n=>rw[b]at h;exact⟨n,rfl,Oq h⟩
end
def Xd.nd{S h p}{L:List It}:Xd S h p L->(L.map It.ki).Nodup:=λ⟨a,m,t,c,b,T⟩=>T.ids
def U0{T}(I:KF T){L:List It}(d:(L.map It.ki).Nodup)(b:∀x∈L,(Qw T x.ki).isSome=true):L.length<=64:=by
 have f:(L.map It.ki).length<=(T.map (·.iD)).length:=by refine List.Nodup.length_le_of_subset d λi e=>?_;obtain⟨x,hx,rfl⟩:=Jw.1 e;obtain⟨c,a⟩:=E6.1 (b x hx);exact Jw.2 ⟨c,yT I a,Qwh I a⟩
 have:=I.len;simp only[KJ]at f;omega
def KD(M:Qn)(a:Int):Bool:=JE M.T M.A a
def qM(M:Qn)(a:Int)(n:Nd):Nat:=if n.c.leaf=true\/KD M a=false then n.cp.fit else max n.cp.fit (CD (M.KT a))
section
variable {own:Nat->Tag}{h:List Ob}{p:Nat}{L:Loc}{M:Qn}(C:ZI own h p L M)(I:QB M)
include C I
omit I in
theorem ZI.look{a n}(b:Qi M.N a=some n):Je L.eb a=some (.ptr (L.le a) 0 0 0):=by have:=C.KC.at_ a;rw[b]at this;exact this
theorem ZI.lT:MF h L.o M.T M.A:=by have:=C.zG.toR;rwa [I.to]at this
theorem QAP{a n}(i:Qi M.N a=some n):Zl prog 206 h [.ptr p 0 0 0,.ptr (L.le a) 0 0 0] (λd=>d=u64 (qM M a n)):=by
 have e:=Jf C.ob;have c:=Jf (C.JL a n i).1;have m:=Jf C.Wt;have j:=QB.id i;have q:=PJ (C.lT I) I.tree I.qc a (I.lS i);unfold qM;cases k:n.c.leaf with
 | true=>rw[Qe (.inl rfl)];refine ZN func206 ntmps206 results206 λg w r F f u b=>?_;rw[<-f]at e c;have x:=Qb e;have v:=Qb c;simp only[go_sem];apply Qy b o08;simp only[go_sem,c,k,Go.undef];all_goals exact Xp
 | false=>
  have t:M.ks a=true:=(I.ks a).2 (.inr ⟨n,i,k⟩);have s:=C.Yt.at_ a;rw[Qe t]at s;have z:=(C.kids a t).toR;have y:JE M.T M.A a=KD M a:=rfl;rw[y]at q;cases l:KD M a with
  | false=>rw[l]at q;rw[Qe (.inr rfl)];refine ZN func206 ntmps206 results206 λg w r F f u b=>?_;rw[<-f]at e c;have x:=Qb e;have v:=Qb c;simp only[go_sem];apply Qy b o08;simp only[go_sem,e,c,k];have o:JE M.T M.A a=false:=l;refine QgV b TA ?_ (PJ ((C.lT I).more (VM f)) I.tree I.qc a (I.lS i)) ?_;simp only[go_sem,j];apply Jb b;simp only[go_sem,c,j,o];all_goals exact Xp
  | true=>rw[l]at q;rw[Qd σ];have o:JE M.T M.A a=true:=l;refine ZN func206 ntmps206 results206 λg w r F f u b=>?_;rw[<-f]at e c m;have x:=Qb e;have v:=Qb c;have B:=Qb m;simp only[go_sem];apply Qy b o08;simp only[go_sem,e,c,k];refine QgV b TA ?_ (PJ ((C.lT I).more (VM f)) I.tree I.qc a (I.lS i)) ?_;simp only[go_sem,j];apply Jb b;simp only[go_sem,j,o];apply Qy b [0,1,2,3,4,5,6,7,8,9,10,11,12,13,14,1015,1016,17];simp only[go_sem,e,c,m,s,j];apply KW b Qgj (QhZ (z.more (VM f)) (I.xo a));apply ZB b;apply ZP b Qvd (Qyn n.cp.fit (CD (M.KT a)));apply ZB b;all_goals exact Xp
end
def Qz(M:Qn)(a:Int):Nd:=(Qi M.N a).getD default
def VN(M:Qn)(a:Int):Qn:=
 if KD M a=true then { M with KT:=λj=>if j=(Qz M a).c.parent then YH a (Qz M a).sh.time (qM M a (Qz M a)) (M.KT (Qz M a).c.parent) else M.KT j } else M
def Wu(M:Qn):List Int->Qn
 | []=>M
 | id::r=>Wu (VN M id) r
def Qj7(M):∀(l r:List Int),Wu M (l++r)=Wu (Wu M l) r
 | [],r=>rfl
 | id::l,r=>Qj7 (VN M id) l r
def Rh(M:Qn)(a:Int):(VN M a).N=M.N/\(VN M a).T=M.T/\(VN M a).To=M.To/\(VN M a).A=M.A/\(VN M a).Lv=M.Lv/\(VN M a).ks=M.ks/\(VN M a).Qc=M.Qc/\(VN M a).acc=M.acc/\(VN M a).lk=M.lk:=by unfold VN;split<;>exact⟨rfl,rfl,rfl,rfl,rfl,rfl,rfl,rfl,rfl⟩
def Er:∀(l:List Int) (M:Qn),(Wu M l).N=M.N/\(Wu M l).T=M.T/\(Wu M l).To=M.To/\(Wu M l).A=M.A/\(Wu M l).Lv=M.Lv/\(Wu M l).ks=M.ks/\(Wu M l).Qc=M.Qc/\(Wu M l).acc=M.acc/\(Wu M l).lk=M.lk
 | [],M=>⟨rfl,rfl,rfl,rfl,rfl,rfl,rfl,rfl,rfl⟩
 | id::l,M=>by obtain⟨s,r,q,p,o,n,m,k,j⟩:=Er l (VN M id);obtain⟨i,h,g,f,e,d,c,b,a⟩:=Rh M id;exact⟨s.trans i,r.trans h,q.trans g,p.trans f,o.trans e,n.trans d,m.trans c,k.trans b,j.trans a⟩
def u9{M:Qn}(I:QB M){b}{n:Nd}(c:Qi M.N b=some n)(o:n.Ok):QB (VN M b):=by
 obtain⟨d,a,m,l,k,i,h,g,p⟩:=Rh M b;have e:Qz M b=n:=by unfold Qz;rw[c];rfl
 refine⟨by rw[a];exact I.tree,by rw[a];exact I.xn,by rw[a,m];exact I.to,by rw[a,d];exact I.nodes,by rw[a,l];exact I.qc,by rw[i,d];exact I.ks,by rw[k,a];exact I.Bp,λj x hx=>?_,λj x hx=>?_,by rw[h];exact I.Qc,by rw[g];exact I.acc⟩;rw[a];unfold VN at hx;split at hx;dsimp only at hx;split at hx;rename_i f;subst f;rcases HT.1 hx with rfl|hx;exact⟨n.c,I.some c,by rw[e]⟩;exact I.wh _ x (JB.1 hx).1;exact I.wh _ x hx;exact I.wh _ x hx;unfold VN at hx;split at hx;dsimp only at hx;split at hx;rcases HT.1 hx with rfl|hx;rw[e];have:=o.sh.time;show n.sh.time<=_;omega;exact I.xo _ x (JB.1 hx).1;exact I.xo _ x hx;exact I.xo _ x hx
structure Ri (own:Nat->Tag) (h:List Ob) (p:Nat) (L:Loc) (M:Qn) (U:List Int) (k:Nat) (s:St):Prop where
 ex:∃own' H,ZI own' H p L (Wu M (U.take k))/\QB (Wu M (U.take k))/\ZC own h own' H/\s=⟨[(0,.ptr p 0 0 0),(12,ints U),(13,Qa U.length),(14,Qa k)],H⟩
def Ri.of{own h p L M}{U:List Int}{k a H}(C:ZI a H p L (Wu M (U.take k)))(I:QB (Wu M (U.take k)))(D:ZC own h a H):Ri own h p L M U k ⟨[(0,.ptr p 0 0 0),(12,ints U),(13,Qa U.length),(14,Qa k)],H⟩:=⟨⟨a,H,C,I,D,rfl⟩⟩
def Qaa{M:Qn}(I:QB M){b}{n:Nd}(c:Qi M.N b=some n):M.ks n.c.parent=true:=by rw[I.ks];by_cases a:n.c.parent=0;exact .inl a;obtain⟨d,g,f⟩:=I.tree.Jz n.c (yT I.tree (I.some c)) a;obtain⟨m,e,rfl⟩:=I.Nt g;exact .inr ⟨m,e,f⟩
def Qab{l h p L}{M:Qn}(C:ZI l h p L M)(I:QB M)(a):QO prog 150 h [.ptr p 0 0 0,Qa a] (λd N=>∃f,ZI f N p L (Wu M (up M.T a))/\QB (Wu M (up M.T a))/\ZC l h f N):=by
 have q:=C.ob;have T:(up M.T a).length<=16:=Bf;refine Q9 func150 ntmps150 results150 λS w pl g=>?_;have Qq:=Qb q;simp only[go_sem,q];apply ZH g fZ (sN C.tr.toR I.tree.toTreeInv a);apply Qg g;obtain⟨U,s⟩:=Zc (up M.T a);rw[show ZZ M.T 16 a=U from s.symm];rw[<-s]at T ⊢;refine ZY (Ri l h p L M U) U.length QP (Ri.of (k:=0) C I (ZC.refl l h)) ?_;rintro k _ hk ⟨f,H,c,e,v,rfl⟩;by_cases m:k<U.length;have P:=QY m;obtain⟨id,t⟩:=Zc (U.getD k 0);have x:id∈up M.T a:=by rw[t,<-s];exact YZ U 0 k m
 obtain⟨e1,O,e3,e4,e5,e6,e7,Z,Y⟩:=Er (U.take k) M;have u:=HP x;have o:Wu M (U.take (k+1))=VN (Wu M (U.take k)) id:=by rw[getD_take U 0 k m,Qj7,<-t];rfl
 obtain⟨b,Gn⟩:=Zc (Wu M (U.take k));rw[<-Gn]at c e e1 O e3 e4 e5 e6 e7 Z Y o;obtain⟨n,i⟩:∃n,Qi b.N id=some n:=by
  rw[<-O,e.find]at u;cases V:Qi b.N id with
  | none=>rw[V]at u;cases u
  | some n=>exact⟨n,rfl⟩
 have Ji:Qz b id=n:=by unfold Qz;rw[i];rfl
 have YJ:=c.look i;have q:=c.ob;have Qq:=Qb q;have Q:=c.Wc;have Px:=Qb Q;obtain⟨F,_⟩:=c.JL id n i;have YK:=Qb F;have E:=c.Wt;have Zq:=Qb E;have r:=Qaa e i;have z:=c.Yt.at_ n.c.parent;rw[Qe r]at z;have R:=JJ (show k<4611686018427387904 from ω);apply Qh g;simp only[go_sem,m,<-t,q,Q,YJ];apply ZH g TA (PJ (c.lT e) e.tree e.qc id (e.lS i));apply Qg g;cases J:JE b.T b.A id with
 | false=>
  have Ej:VN b id=b:=by unfold VN;rw[Qd (by unfold KD;rw[J];decide)]
  rw[Ej]at o;simp only[go_sem];exact⟨m,_,Qs.frame (by simp only[go_sem,R]),Ri.of (by rw[o];exact c) (by rw[o];exact e) v⟩
 | true=>
  have B:VN b id={ b with KT:=λj=>if j=n.c.parent then YH id n.sh.time (qM b id n) (b.KT n.c.parent) else b.KT j }:=by unfold VN;rw[Qe (show KD b id=true from J),Ji]
  have K:=c.kids _ r;have Rj:=QB.id i;have FP:=U0 e.tree K.nd (e.u7 _);simp only[go_sem];apply VI [19] g [0,1,2,3,4,5,6,7,8,9,10,11,12,13,14,15,16,17,1018,1019] [];simp only[go_sem,q,F,E,z];apply KW g QuV (QAP c e i);apply ZB g;refine vO g QuU (Qw5 K id n.sh.time (qM b id n) ω) λd h8 W=>?_;obtain⟨T8,y⟩:=W;have C8:=c.Yr _ r T8 y;apply ZB g;rw[B]at o;exact⟨m,_,Qs.frame (by simp only[go_sem,R]),Ri.of (by rw[o];exact C8) (by rw[o,<-B];exact u9 e i (c.qL id n i)) (v.trans (ZC.of σ y))⟩
 have ZJ:k=U.length:=ω;have P:=QN m;rw[ZJ,Wo]at c e;apply Qh g;simp only[go_sem,P];exact⟨f,c,e,v⟩
def xp(M:Qn)(a:Nat):Bool:=!(decide (a<M.Qc) || decide (4611686018427387904<a))
def ZA(M:Qn)(a:Nat):Qn:=if xp M a=true then { M with Qc:=a } else M
section
variable {own:Nat->Tag}{h:List Ob}{p:Nat}{L:Loc}{M:Qn}(C:ZI own h p L M)
include C
theorem Qj8(a):QO prog 115 h [.ptr p 0 0 0,u64 a] (λd j=>d=QV (xp M a)/\ZI own j p L (ZA M a)/\ZC own h own j):=by have c:=C.ob;unfold ZA xp;by_cases i:a<M.Qc;have d1:=QY i;refine Q9 func115 ntmps115 results115 λb w e f=>?_;have k:=Qb c;simp only[go_sem,c,d1,Go.undef];exact⟨by simpa using C,ZC.refl own h⟩;have d1:=QN i;by_cases g:4611686018427387904<a;have d2:decide ((4611686018427387904:Int)<(a:Int))=true:=QY ω;have d3:=QY g;refine Q9 func115 ntmps115 results115 λb w e f=>?_;have k:=Qb c;simp only[go_sem,c,d1,d2,d3];exact⟨by simpa using C,ZC.refl own h⟩;have d2:decide ((4611686018427387904:Int)<(a:Int))=false:=QN ω;have d3:=QN g;refine Q9 func115 ntmps115 results115 λb w e f=>?_;have k:=Qb c;simp only[go_sem,c,d1,d2,d3];exact⟨C.Qc a M.acc,ZC.set _ (by rw[C.op];decide)⟩
end
def qN(n:Nd)(b:Int)(a:Bool):Du:=if a then xg n.du b (XR n.q) else X8 n.du (XR n.q)
def Wv(M:Qn)(a:Int)(c:Int)(b:Bool):Qn:=
 if 1<QJ (Qz M a).c.rt then { M with
   N:=Wl M.N a λn=>{ n with du:=qN (Qz M a) c b }
   Lv:=if (Qz M a).q.l=[] then Vz a (YH a (qN (Qz M a) c b).Vt (qN (Qz M a) c b).dead M.Lv) else YH a (qN (Qz M a) c b).Vt (qN (Qz M a) c b).dead M.Lv }
 else M
def Qac{n:Nd}(h:n.Ok)(a)(b:Bool):(qN n a b).Ok:=by unfold qN;split;exact tK (l:={ n.du with QC:=Wj (n.du.QC+a.toNat) }) h.du.dl h.du.rd (MV _) _;exact tK h.du.dl h.du.rd h.du.QC _
section
variable {own:Nat->Tag}{h:List Ob}{p:Nat}{L:Loc}{M:Qn}(C:ZI own h p L M)(I:QB M)
include C I
theorem QAR{b}{n:Nd}(g:Qi M.N b=some n)(F:n.c.leaf=true)(e)(Y7:0<=e)(Jk:e<9223372036854775808)(z):
  QO prog 155 h [.ptr p 0 0 0,.ptr (L.le b) 0 0 0,Qa e,QV z] (λd h'=>∃j,ZI j h' p L (Wv M b e z)/\ZC own h j h'):=by
 have i:=C.ob;have c:=(C.JL b n g).1;have O:=QB.id g;have Ji:Qz M b=n:=by unfold Qz;rw[g];rfl
 have ZS:=C.qL b n g;have q:=ZS.du;obtain⟨kq,Nu,K⟩:=C.XS b n g F;have T:qD L.lq n=.ptr (L.lq b) 0 0 0:=by unfold qD;rw[Qe F,O]
 rw[T]at c;have Il:XR n.q<9223372036854775808:=by
  obtain⟨r,Q⟩:=K;unfold XR;cases Z:n.q.l with
  | nil=>decide
  | cons x l=>have:=(Q.lens x (by rw[Z];simp)).2;show x.len<_;omega
 unfold Wv;rw[Ji];by_cases B:1<QJ n.c.rt
 .rw[Qe B];have N:=QY B;refine Q9 func155 ntmps155 results155 λv w pl a=>?_;have R:=Qb i;have P:=Qb c;simp only[go_sem,c];apply QZ a DP (FM n.c);apply Qh a;simp only[go_sem,N];have s:=Qac ZS e z;cases z
  case' true=>have hx:qN n e true=xg n.du e (XR n.q):=rfl;rw[hx]at s ⊢;simp only[go_sem];apply Qy a [0,1,2,3,4,5,6,7,8,9,1010,1011,12,13,1014];simp only[go_sem,c];apply KW a Qgr (QiO K.toR);apply ZB a;apply ZP a QuZ (Qx1 n.du q.dl q.rd q.QC e (XR n.q) Y7 Jk Il);apply Jb a;simp only[go_sem,Qj,c];generalize xg n.du e (XR n.q)=x at s ⊢
  case' false=>have hx:qN n e false=X8 n.du (XR n.q):=rfl;rw[hx]at s ⊢;simp only[go_sem];apply Qy a [0,1,2,3,4,5,6,7,8,1009,1010,11,12,1013];simp only[go_sem,c];apply KW a Qgr (QiO K.toR);apply ZB a;apply ZP a Qu0 (Qx2 n.du q.dl q.rd q.QC (XR n.q) Il);apply Jb a;simp only[go_sem,Qj,c];generalize X8 n.du (XR n.q)=x at s ⊢
  all_goals
   have o:=C.x7 g (λm=>{ m with du:=x }) (λ_=>rfl) (λ_=>rfl) ⟨ZS.JD,s,ZS.sh,ZS.cp,ZS.c⟩;have U:=ZC.set (own:=own) (h:=h) (qb (qD L.lq n) { n with du:=x }) (l:=L.le b) (by rw[(C.JL b n g).2];simp);rw[T]at o U;generalize hH:h.set (L.le b) (qb (.ptr (L.lq b) 0 0 0) { n with du:=x })=H at o U;have HO:h.set (L.le b) ⟨.one,0,60,1,λ_=>Vf (.ptr (L.lq b) 0 0 0) { n with du:=x }⟩=H:=hH;have S:Qi (Wl M.N b λm=>{ m with du:=x }) b=some { n with du:=x }:=by rw[jM (f:=λm=>{ m with du:=x }) (λ_=>rfl),Qe rfl,g];rfl
   have i:=o.ob;have R:=Qb i;have c:=(o.JL b _ S).1;have u:qD L.lq { n with du:=x }=.ptr (L.lq b) 0 0 0:=T;rw[u]at c;have P:=Qb c;have FP:=U0 I.tree o.Ys.nd I.Bp;simp only[HO];apply VI [19] a [0,1,2,3,4,5,6,7,8,9,10,11,12,13,14,15,16,17,18,1019] [];simp only[go_sem,i,c];refine yP a Qgi rfl ?_ (Qh4 o.Ys b x.Vt x.dead ω) rfl λd h8 J=>?_;simp only[go_sem,O];obtain⟨T8,Y⟩:=J;have k:=o.lv T8 Y;have D8:=U.trans (ZC.of (own:=own) (t:=.lv) σ Y);have i:=k.ob;have R:=Qb i;have c:=(k.JL b _ S).1;rw[u]at c;have P:=Qb c;obtain⟨a0,a1,V⟩:=k.XS b _ S F;apply Jb a;simp only[go_sem,c];apply ZH a Pj (PY V.toR);apply Qg a;cases Z:n.q.l with
   | cons y l=>have dq:(((l.length+1:Nat):Int)==0)=false:=VY ω;rw[Qd σ];simp only[go_sem,dq];exact⟨_,k,D8⟩
   | nil=>
    rw[Qe rfl];have FP:=U0 I.tree k.Ys.nd (λy E=>by rcases HT.1 E with rfl|E;rw[I.some g];rfl;exact I.Bp y (JB.1 E).1)
    simp only[go_sem];apply VI [9] a [0,1,2,3,4,5,6,7,8,1009] [];simp only[go_sem,i,c];refine yP a Qgp rfl ?_ (Qh2 k.Ys b ω) rfl λd h9 J=>?_;simp only[go_sem,O];obtain⟨rfl,T9,W⟩:=J;apply ZB a;exact⟨_,k.lv T9 W,D8.trans (ZC.of σ W)⟩
 rw[Qd B];have N:=QN B;refine Q9 func155 ntmps155 results155 λv w pl a=>?_;have R:=Qb i;have P:=Qb c;simp only[go_sem,c];apply QZ a DP (FM n.c);apply Qh a;simp only[go_sem,N];exact⟨own,C,ZC.refl own h⟩
end
def Nv(L:List It):Nat:=(L.head?.getD default).ka
def Es(M:Qn)(a:Nat)(n:Nd):Nd:={ n with sh:=MY n.sh (Jv n.c.ls) (Nv (M.KT n.c.parent)) n.JD,cp:=F9 n.cp (Jv n.c.ul) a n.JD }
def XG(a:Nat)(M:Qn)(j:Int):Qn:={ M with N:=Wl M.N j (Es M a) }
def WW(M:Qn)(c:Nat)(b:Int)(a:Int):Qn:=
 if 1<QJ (Qz M b).c.rt then { M with
   N:=Wl M.N b λn=>{ n with du:=XC (Qz M b).du (Jv (Qz M b).c.rt) c a }
   Lv:=YH b (XC (Qz M b).du (Jv (Qz M b).c.rt) c a).Vt (XC (Qz M b).du (Jv (Qz M b).c.rt) c a).dead M.Lv }
 else M
def qd(M:Qn)(b:Nat)(c:Int)(a:Int):Qn:=
 if 1<QJ (Qz M c).c.ls then Wu ((XO M.T M.A c).foldl (XG b) { WW M b c a with A:=c::M.A }) (up M.T c)
 else WW M b c a
def QAS(N:List Nd)(a)(f:Nd->Nd)(b:∀n,(f n).c=n.c):(Wl N a f).map (·.c)=N.map (·.c):=by unfold Wl;rw[Dj];congr 1;funext n;simp only[Function.comp_apply];split;exact b n;rfl
def QB.Wl{M:Qn}(I:QB M)(d f)(b:∀n,(f n).c=n.c):QB { M with N:=X.Wl M.N d f }:=by
 refine⟨I.tree,I.xn,I.to,by dsimp only;rw[QAS _ _ _ b];exact I.nodes,I.qc,λj=>?_,I.Bp,I.wh,I.xo,I.Qc,I.acc⟩;dsimp only;rw[I.ks,jM (λn=>by rw[b])];by_cases g:j=d;subst g;rw[Qe rfl];constructor;rintro (h|⟨n,a,c⟩);exact .inl h;exact .inr ⟨f n,by rw[a];rfl,by rw[b];exact c⟩;rintro (h|⟨n,a,c⟩);exact .inl h;cases e:Qi M.N j with
 | none=>rw[e]at a;cases a
 | some m=>rw[e]at a;cases a;exact .inr ⟨m,rfl,by rw[<-b];exact c⟩
 rw[Qd g]
def QB.lv{M:Qn}(I:QB M){B}(h:∀x∈B,(Qw M.T x.ki).isSome=true):QB { M with Lv:=B }:=
 ⟨I.tree,I.xn,I.to,I.nodes,I.qc,I.ks,h,I.wh,I.xo,I.Qc,I.acc⟩
def QB.act{M:Qn}(I:QB M){B}(h:yU M.T B):QB { M with A:=B }:=
 ⟨I.tree,I.xn,I.to,I.nodes,h,I.ks,I.Bp,I.wh,I.xo,I.Qc,I.acc⟩
def Qae{c a b L}{x:It}(h:x∈YH c a b L):x.ki=c\/x∈L:=by rcases HT.1 h with rfl|h;exact .inl rfl;exact .inr (JB.1 h).1
def Qaf{M}(I:QB M){a}(c:a<18446744073709551616){n:Nd}(h:n.Ok):(Es M a n).Ok:=by
 have d:Nv (M.KT n.c.parent)<18446744073709551616:=by
  unfold Nv;cases b:M.KT n.c.parent with
  | nil=>decide
  | cons x l=>have:=I.xo n.c.parent x (by rw[b];simp);show x.ka<_;omega
 exact⟨h.JD,h.du,Qyf h.sh h.c.2.2.2.2.1.lt d h.JD,Qyl h.cp h.c.2.2.2.2.2.1.lt c h.JD,h.c⟩
def QB.XG{M}(I:QB M)(a j):QB (XG a M j):=I.Wl j (Es M a) λ_=>rfl
def Im(a):∀(l:List Int) (M:Qn),(l.foldl (XG a) M).T=M.T/\(l.foldl (XG a) M).A=M.A/\(l.foldl (XG a) M).KT=M.KT/\(l.foldl (XG a) M).lk=M.lk/\(l.foldl (XG a) M).Qc=M.Qc/\(l.foldl (XG a) M).acc=M.acc
 | [],M=>⟨rfl,rfl,rfl,rfl,rfl,rfl⟩
 | j::l,M=>Im a l (X.XG a M j)
def QB.U1{now}:∀(l:List Int) {M:Qn},QB M->QB (l.foldl (X.XG now) M)
 | [],M,I=>I
 | j::l,M,I=>QB.U1 l (I.XG now j)
def Nw{M:Qn}{now id}{head:Int}:(WW M now id head).T=M.T/\(WW M now id head).A=M.A/\(WW M now id head).KT=M.KT/\(WW M now id head).lk=M.lk:=by unfold WW;split<;>exact⟨rfl,rfl,rfl,rfl⟩
def QB.WW{M:Qn}(I:QB M){b n}(d:Qi M.N b=Option.some n)(c a):QB (WW M c b a):=by unfold X.WW;split;refine(I.Wl b (λn=>{ n with du:=XC (Qz M b).du (Jv (Qz M b).c.rt) c a }) λ_=>rfl).lv λx hx=>?_;rcases Qae hx with h|h;rw[h];show (Qw M.T b).isSome=true;rw[I.some d];rfl;exact I.Bp x h;exact I
def QAT{M:Qn}{b c}{a:Int}(j){n:Nd}(d:Qi M.N j=some n):∃m,Qi (WW M b c a).N j=some m/\m.c=n.c:=by unfold WW;split;dsimp only;rw[jM (f:=λn=>{ n with du:=XC (Qz M c).du (Jv (Qz M c).c.rt) b a }) (λ_=>rfl)];split;rw[d];exact⟨_,rfl,rfl⟩;exact⟨n,d,rfl⟩;exact⟨n,d,rfl⟩
def Qag{c:Cv}(h:Cv.Ok c):(((Jv c).a:Nat):Int)=c.m1/\(((Jv c).d:Nat):Int)=c.d/\(((Jv c).b:Nat):Int)=c.m2:=by have d:=wf_u64 h.1;have b:=wf_u64 h.2.1;have a:=wf_u64 h.2.2.1;refine⟨?_,?_,?_⟩;show ((c.m1.toNat:Nat):Int)=_;omega;show ((c.d.toNat:Nat):Int)=_;omega;show ((c.m2.toNat:Nat):Int)=_;omega
structure U2 (own:Nat->Tag) (h:List Ob) (p:Nat) (L:Loc) (M:Qn) (now:Nat) (id:Int) (lo g:Nat) (row:Nat->List D) (U:List Int) (k:Nat) (s:St):Prop where
 ex:∃own' H,ZI own' H p L ((U.take k).foldl (XG now) M)/\ZC own h own' H/\own' lo=.on/\H[lo]?=some ⟨.arr,g,1,U.length,row⟩ /\
  s=⟨[(0,.ptr p 0 0 0),(1,u64 now),(8,Qa id),(72,.ref lo g 0 U.length),(73,Qa U.length),(74,Qa k)],H⟩
def U2.of{own h p L M b e d g c}{U:List Int}{k:Nat}{a}{H:List Ob}(C:ZI a H p L ((U.take k).foldl (XG b) M))(D:ZC own h a H)(i:a d=.on)(f:H[d]?=some ⟨.arr,g,1,U.length,c⟩):
  U2 own h p L M b e d g c U k ⟨[(0,.ptr p 0 0 0),(1,u64 b),(8,Qa e),(72,.ref d g 0 U.length),(73,Qa U.length),(74,Qa k)],H⟩:=⟨⟨a,H,C,D,i,f,rfl⟩⟩
def QAU{r h p L}{M:Qn}(C:ZI r h p L M)(I:QB M){i}{n:Nd}(z:Qi M.N i=some n)(hl:n.c.leaf=true)(b)(Wd:b<18446744073709551616)(c)(hh:c<9223372036854775808)(Z4:KD M i=false):
  QO prog 117 h [.ptr p 0 0 0,u64 b,.ptr (L.le i) 0 0 0,Qa c] (λd h'=>∃v,ZI v h' p L (qd M b i c)/\QB (qd M b i c)/\ZC r h v h'):=by
 have ho:=C.ob;have V:=(C.JL i n z).1;have Zs:=QB.id z;have Ji:Qz M i=n:=by unfold Qz;rw[z];rfl
 have ZS:=C.qL i n z;obtain⟨r1,r2,r3⟩:=Qag ZS.c.2.2.2.1;have J:=QB.WW I z b c;have b3:L.le i≠p:=λe=>by have h1:=(C.JL i n z).2;rw[e,C.op]at h1;cases h1
 obtain⟨q,W⟩:=Zc (WW M b i c);have R:qd M b i c=if 1<QJ n.c.ls then Wu ((XO M.T M.A i).foldl (XG b) { q with A:=i::M.A }) (up M.T i) else q:=by unfold qd;rw[Ji,W]
 by_cases hr:1<QJ n.c.rt
 case' pos=>
  have dr:=QY hr;have ji:=tS ZS.du ZS.c.2.2.2.1.lt Wd c;refine Q9 func117 ntmps117 results117 λa3 w pl o=>?_;have Qq:=Qb ho;have YK:=Qb V;simp only[go_sem,V];apply QZ o DP (FM n.c);apply Qh o;simp only[go_sem,dr];apply Qy o [0,1,2,3,4,5,6,7,8,9,10,11,1012,13,14,1015];simp only[go_sem,V];refine yQ o Quv ?_ (Qyb n.du ZS.du (Jv n.c.rt) ZS.c.2.2.2.1.lt b Wd c hh) ?_;simp only[go_sem,r1,r2,r3];apply Jb o;simp only[go_sem,Qj,V];have lV:q={ M with N:=Wl M.N i λm=>{ m with du:=XC n.du (Jv n.c.rt) b c },Lv:=YH i (XC n.du (Jv n.c.rt) b c).Vt (XC n.du (Jv n.c.rt) b c).dead M.Lv }:=by rw[W];unfold WW;rw[Ji,Qe hr]
  generalize XC n.du (Jv n.c.rt) b c=x at ji lV ⊢;have Y:=C.x7 z (λm=>{ m with du:=x }) (λ_=>rfl) (λ_=>rfl) ⟨ZS.JD,ji,ZS.sh,ZS.cp,ZS.c⟩;have D1:=ZC.set (own:=r) (h:=h) (qb (qD L.lq n) { n with du:=x }) (l:=L.le i) (by rw[(C.JL i n z).2];simp);generalize hH:h.set (L.le i) (qb (qD L.lq n) { n with du:=x })=H at Y D1;have HO:h.set (L.le i) ⟨.one,0,60,1,λ_=>Vf (qD L.lq n) { n with du:=x }⟩=H:=hH;have KY:Qi (Wl M.N i λm=>{ m with du:=x }) i=some { n with du:=x }:=by rw[jM (f:=λm=>{ m with du:=x }) (λ_=>rfl),Qe rfl,z];rfl
  have Z9:=Y.ob;have Nx:=Qb Z9;have CV:=(Y.JL i _ KY).1;have a7:=Qb CV;have FP:=U0 I.tree Y.Ys.nd I.Bp;simp only[HO];apply VI [15] o [0,1,2,3,4,5,6,7,8,9,10,11,12,13,14,1015] [];simp only[go_sem,Z9,CV];refine yP o Qgi rfl ?_ (Qh4 Y.Ys i x.Vt x.dead ω) rfl λd h8 Z=>?_;simp only[go_sem,Zs];obtain⟨T8,s8⟩:=Z;have E:=Y.lv T8 s8;have DR:=D1.trans (ZC.of (own:=r) (t:=.lv) σ s8);rw[<-lV]at E;apply ZB o;generalize Q5 r H .lv=b2 at E DR;generalize h8=HR at E DR ⊢
 case' neg=>
  have dr:=QN hr;refine Q9 func117 ntmps117 results117 λa3 w pl o=>?_;have Qq:=Qb ho;have YK:=Qb V;simp only[go_sem,V];apply QZ o DP (FM n.c);apply Qh o;simp only[go_sem,dr];have lV:q=M:=by rw[W];unfold WW;rw[Ji,Qd hr]
  have E:=C;rw[<-lV]at E;have DR:=ZC.refl r h
 all_goals
  rw[<-W]at J;obtain⟨kT,kA,kK,kl⟩:=Nw (M:=M) (now:=b) (id:=i) (head:=c);rw[<-W]at kT kA kK kl;obtain⟨m,hm,y7⟩:∃m,Qi q.N i=some m/\m.c=n.c:=by rw[W];exact QAT i z
  have Rm:=(E.JL i m hm).1;have b1:=Qb Rm;have VQ:=E.ob;have Gq:=Qb VQ;simp only[go_sem,Rm,y7];apply QZ o wR (wS n.c);apply Qg o;by_cases S:1<QJ n.c.ls;case neg=>have ds:=QN S;simp only[go_sem,ds];rw[R,Qd S];exact⟨_,E,J,DR⟩
  have ds:=QY S;rw[Qe S,<-kA,<-kT]at R;rw[R];have WH:Qw q.T i=some n.c:=by rw[kT];exact I.some z
  have hO:=E.zG;rw[J.to]at hO;have a2:JE q.T q.A i=false:=by rw[kT,kA];exact Z4
  simp only[go_sem,ds,VQ];refine z6 o p8 rfl ?_ (QhP hO J.tree J.qc i n.c WH hl S a2) rfl λd h9 Z=>?_;simp only[go_sem,Zs];obtain⟨d1,rfl,Cd,O9,s9⟩:=Z;rw[<-J.to]at O9;have C9:=E.act O9 s9;have D9:=DR.trans (ZC.of (t:=.on) σ s9);have I9:QB { q with A:=i::q.A }:=J.act (λa ha=>by rcases QK.1 ha with rfl|ha;exact⟨n.c,WH,hl,S⟩;exact J.qc a ha)
  obtain⟨U,hU⟩:=Zc (XO q.T q.A i);rw[<-hU]at Cd ⊢;have lU:U.length<=16:=by rw[hU];exact J5 (ct _).length_le Bf
  have a5:∀j∈U,j∈up q.T i:=λj T=>by rw[hU]at T;exact(ct _).subset T
  obtain⟨F,U3⟩:∃F,F={ q with A:=i::q.A }:=⟨_,rfl⟩;have lW:F.T=q.T:=by rw[U3]
  rw[<-U3]at C9 I9 ⊢;rcases Cd with ⟨rfl,U4⟩|⟨lo,g,a6,a0,rfl,⟨ZW,rfl⟩,Ny,Z3⟩;exfalso;rw[hU,XO,V0 J.tree WH,cr,a2]at U4;cases U4;have b4:=Qb Ny;rw[JG]at Ny;apply Qg o;refine ZY (U2 r h p L F b i lo g a0 U) U.length (Qs.frame (by simp only[go_sem,Zs])) (U2.of (k:=0) C9 D9 (by unfold Q5;rw[Qe ZW]) Ny) ?_;rintro k _ hk ⟨v,H,u,Dk,FD,Kf,rfl⟩;have a9:=Qb Kf;by_cases P:k<U.length;case neg=>have ZJ:k=U.length:=ω;have dk:=QN P;rw[ZJ,Wo]at u;have Q:=QB.U1 (now:=b) U I9;have Nz:=(Im b U F).1;have Zd:=Qab u Q i;rw[Nz,lW]at Zd;apply Qh o;simp only[go_sem,dk];apply Qg o;refine ZT o rh Zd λd zR Z=>?_;obtain⟨lY,Ad,lZ,Ip⟩:=Z;apply Qg o;exact⟨lY,Ad,lZ,Dk.trans Ip⟩
  have dk:=QY P;obtain⟨j,T⟩:=Zc (U.getD k 0);have Gr:j∈up q.T i:=a5 j (by rw[T];exact YZ U 0 k P);have U5:a0 k=[Qa j]:=by have:=Z3 k P;rw[JG]at this;rw[this,T]
  have Jn:(U.take (k+1)).foldl (XG b) F=XG b ((U.take k).foldl (XG b) F) j:=by rw[getD_take U 0 k P,qu,<-T];rfl
  have Q:=QB.U1 (now:=b) (U.take k) I9;have Nz:=(Im b (U.take k) F).1;obtain⟨B,Gn⟩:=Zc ((U.take k).foldl (XG b) F);rw[<-Gn]at u Q Nz Jn;obtain⟨y,O⟩:∃y,Qi B.N j=some y:=by
   have Yi:=HP Gr;rw[<-lW,<-Nz,Q.find]at Yi;cases hq:Qi B.N j with
   | none=>rw[hq]at Yi;cases Yi
   | some y=>exact⟨y,rfl⟩
  have K:=u.qL j y O;obtain⟨l1,l2,l3⟩:=Qag K.c.2.2.2.2.1;obtain⟨u1,u2,u3⟩:=Qag K.c.2.2.2.2.2.1;have YJ:=u.look O;have YL:=u.ob;have NA:=Qb YL;have jN:=u.Wc;have U6:=Qb jN;have CW:=(u.JL j y O).1;have l6:=Qb CW;have FO:=u.Wt;have a8:=Qb FO;have kV:=Qaa Q O;have kW:=u.Yt.at_ y.c.parent;rw[Qe kV]at kW;have kY:=(u.kids _ kV).toR;have QS:=JJ (show k<4611686018427387904 from ω);have OY:Nv (B.KT y.c.parent)<18446744073709551616:=by
   unfold Nv;cases hq:B.KT y.c.parent with
   | nil=>decide
   | cons x l=>have:=Q.xo y.c.parent x (by rw[hq];simp);show x.ka<_;omega
  have QE:L.le j≠lo:=λe=>by have h1:=(u.JL j y O).2;rw[e,FD]at h1;cases h1
  apply Qh o;simp only[go_sem,P,U5,YL,jN,Kf,YJ];apply Qy o [0,1,2,3,4,5,6,7,8,9,1010,11,12,13,14,15];simp only[go_sem,YL,CW,FO,kW];apply KW o Quw (Qxa kY);apply ZB o;have a4:(((B.KT y.c.parent).head?.getD default).ka:Int)=((Nv (B.KT y.c.parent):Nat):Int):=rfl;simp only[a4];apply Qy o o10;simp only[go_sem,CW];refine yQ o Qux ?_ (Qyh y.sh K.sh (Jv y.c.ls) K.c.2.2.2.2.1.lt (Nv (B.KT y.c.parent)) y.JD OY K.JD) ?_;simp only[go_sem,l1,l2,l3];apply Jb o;simp only[go_sem,Qj,CW];have a1:∀s,(H.set (L.le j) ⟨.one,0,60,1,λ_=>Vf (qD L.lq y) s⟩)[L.le j]?=some ⟨.one,0,60,1,λ_=>Vf (qD L.lq y) s⟩:=λs=>QI l6;have b0:∀s,L.le j<(H.set (L.le j) s).length:=λs=>by simpa using l6
  apply Qy o o10;simp only[go_sem,a1];refine yQ o Quy ?_ (Qym y.cp K.cp (Jv y.c.ul) K.c.2.2.2.2.2.1.lt b y.JD Wd K.JD) ?_;simp only[go_sem,u1,u2,u3];apply Jb o;simp only[go_sem,Qj,a1];have C4:=u.x7 O (Es B b) (λ_=>rfl) (λ_=>rfl) (Qaf Q Wd K);have D4:=ZC.set (own:=v) (h:=H) (qb (qD L.lq y) (Es B b y)) (l:=L.le j) (by rw[(u.JL j y O).2];simp);refine⟨P,_,Qs.frame (by simp only[go_sem,QS]),U2.of (by rw[Jn];exact C4) (Dk.trans D4) FD (by rw[Qo QE];exact Kf)⟩
def QAX{S h p T A}(O:jF S h p T A)(a)(c:Ql)(j:Qw T a=some c)(i:¬ 1<QJ c.ls):
  QO prog 214 h [.ptr p 0 0 0,Qa a] (λd k=>d=.tup [.nil,Qa 6]/\k=h):=by
 obtain⟨t,s,r,q,c2,o,u,z,v,m,O⟩:=O;have f:=O.o;have e:=O.m1;have b:=O.f1.at_ a;rw[w9,j]at b;simp only[Qd i]at b;refine Q9 func214 ntmps214 results214 λg w l n=>?_;have y:=Qb f;have x:=Qb e;simp only[go_sem,f,e,b,Go.undef]
def Bq:Sh:=⟨false,⟨⟨0,0,0⟩,⟨0,0,0⟩,false⟩,0⟩
def Qkd:Bq.Ok:=⟨⟨Ln.v8,Ln.v8⟩,π⟩
def YM(M:Qn)(c:Int):Qn:={ M with N:=Wl M.N c λn=>{ n with sh:=Bq } }
def WX(M:Qn)(j:Int):Qn:={ M with KT:=λi=>if i=(Qz M j).c.parent then Vz j (M.KT (Qz M j).c.parent) else M.KT i }
def J7(M:Qn)(j:Int):Qn:=
 if Vz j (M.KT (Qz M j).c.parent)=[] then (KZ M.T (Qz M j).c.parent).foldl YM (WX M j) else WX M j
def XT(M:Qn)(a:Int):Qn:=
 if 1<QJ (Qz M a).c.ls then (XO M.T (Kj M.A a) a).foldl J7 { M with A:=Kj M.A a } else M
def QB.YM{M}(I:QB M)(c):QB (YM M c):=I.Wl c (λn=>{ n with sh:=Bq }) λ_=>rfl
def l7:∀(l:List Int) (M:Qn),(l.foldl YM M).T=M.T/\(l.foldl YM M).A=M.A/\(l.foldl YM M).KT=M.KT/\(l.foldl YM M).lk=M.lk/\(l.foldl YM M).Qc=M.Qc/\(l.foldl YM M).acc=M.acc/\(l.foldl YM M).Lv=M.Lv
 | [],M=>⟨rfl,rfl,rfl,rfl,rfl,rfl,rfl⟩
 | j::l,M=>l7 l (YM M j)
def QB.Qak:∀(l:List Int) {M:Qn},QB M->QB (l.foldl X.YM M)
 | [],M,I=>I
 | j::l,M,I=>QB.Qak l (I.YM j)
def QB.WX{M}(I:QB M)(j):QB (WX M j):=by refine⟨I.tree,I.xn,I.to,I.nodes,I.qc,I.ks,I.Bp,λi x hx=>?_,λi x hx=>?_,I.Qc,I.acc⟩;unfold X.WX at hx;dsimp only at hx;split at hx;rename_i a;subst a;exact I.wh _ x (JB.1 hx).1;exact I.wh _ x hx;unfold X.WX at hx;dsimp only at hx;split at hx;exact I.xo _ x (JB.1 hx).1;exact I.xo _ x hx
def QB.J7{M}(I:QB M)(j):QB (J7 M j):=by unfold X.J7;split;exact QB.Qak _ (I.WX j);exact I.WX j
def QB.U7:∀(l:List Int) {M:Qn},QB M->QB (l.foldl X.J7 M)
 | [],M,I=>I
 | j::l,M,I=>QB.U7 l (I.J7 j)
def Qke(M:Qn)(j:Int):(J7 M j).T=M.T/\(J7 M j).A=M.A/\(J7 M j).lk=M.lk/\(J7 M j).Qc=M.Qc/\(J7 M j).acc=M.acc/\(J7 M j).Lv=M.Lv:=by unfold J7;split;obtain⟨f,e,g,d,c,b,a⟩:=l7 (KZ M.T (Qz M j).c.parent) (WX M j);exact⟨f,e,d,c,b,a⟩;exact⟨rfl,rfl,rfl,rfl,rfl,rfl⟩
def Iq:∀(l:List Int) (M:Qn),(l.foldl J7 M).T=M.T/\(l.foldl J7 M).A=M.A/\(l.foldl J7 M).lk=M.lk/\(l.foldl J7 M).Qc=M.Qc/\(l.foldl J7 M).acc=M.acc/\(l.foldl J7 M).Lv=M.Lv
 | [],M=>⟨rfl,rfl,rfl,rfl,rfl,rfl⟩
 | j::l,M=>by obtain⟨n,m,k,i,h,g⟩:=Iq l (J7 M j);obtain⟨f,e,d,c,b,a⟩:=Qke M j;exact⟨n.trans f,m.trans e,k.trans d,i.trans c,h.trans b,g.trans a⟩
def QB.XT{M}(I:QB M)(a):QB (XT M a):=by unfold X.XT;split;exact QB.U7 _ (I.act (I.qc.off a));exact I
structure Ro (own:Nat->Tag) (h:List Ob) (p:Nat) (L:Loc) (M:Qn) (lo g:Nat) (row:Nat->List D) (U:List Int) (k:Nat) (s:St):Prop where
 ex:∃own' H,ZI own' H p L ((U.take k).foldl J7 M)/\ZC own h own' H/\own' lo=.on/\H[lo]?=some ⟨.arr,g,1,U.length,row⟩ /\
  s=⟨[(0,.ptr p 0 0 0),(22,.ref lo g 0 U.length),(23,Qa U.length),(24,Qa k)],H⟩
def Ro.of{own h p L M c g b}{U:List Int}{k:Nat}{a}{H:List Ob}(C:ZI a H p L ((U.take k).foldl J7 M))(D:ZC own h a H)(e:a c=.on)(d:H[c]?=some ⟨.arr,g,1,U.length,b⟩):
  Ro own h p L M c g b U k ⟨[(0,.ptr p 0 0 0),(22,.ref c g 0 U.length),(23,Qa U.length),(24,Qa k)],H⟩:=⟨⟨a,H,C,D,e,d,rfl⟩⟩
structure U8 (own:Nat->Tag) (h:List Ob) (p:Nat) (L:Loc) (M:Qn) (lo g:Nat) (row:Nat->List D) (U V:List Int) (k:Nat) (i:Nat) (s:St):Prop where
 ex:∃own' H,ZI own' H p L ((V.take i).foldl YM M)/\ZC own h own' H/\own' lo=.on/\H[lo]?=some ⟨.arr,g,1,U.length,row⟩ /\
  s=⟨[(0,.ptr p 0 0 0),(22,.ref lo g 0 U.length),(23,Qa U.length),(24,Qa k),(59,ints V),(60,Qa V.length),(61,Qa i)],H⟩
def U8.of{own h p L M c g b}{U V:List Int}{k i:Nat}{a}{H:List Ob}(C:ZI a H p L ((V.take i).foldl YM M))(D:ZC own h a H)(e:a c=.on)(d:H[c]?=some ⟨.arr,g,1,U.length,b⟩):
  U8 own h p L M c g b U V k i ⟨[(0,.ptr p 0 0 0),(22,.ref c g 0 U.length),(23,Qa U.length),(24,Qa k),(59,ints V),(60,Qa V.length),(61,Qa i)],H⟩:=⟨⟨a,H,C,D,e,d,rfl⟩⟩
def QAY{o h p L}{M:Qn}(C:ZI o h p L M)(I:QB M){b}{n:Nd}(hn:Qi M.N b=some n)(hl:n.c.leaf=true)(V8:1<QJ n.c.ls->b∈M.A)(Z4:JE M.T (Kj M.A b) b=false):
  QO prog 156 h [.ptr p 0 0 0,Qa b] (λd h'=>∃f,ZI f h' p L (XT M b)/\QB (XT M b)/\ZC o h f h'):=by
 have ho:=C.ob;have Ji:Qz M b=n:=by unfold Qz;rw[hn];rfl
 have WH:Qw M.T b=some n.c:=I.some hn;have hO:=C.zG;have a9:=I.tree.len;rw[I.to]at hO;by_cases Q:1<QJ n.c.ls;case neg=>
  have hM:XT M b=M:=by unfold XT;rw[Ji,Qd Q]
  refine Q9 func156 ntmps156 results156 λa5 w pl m=>?_;have Qq:=Qb ho;simp only[go_sem,ho];refine ZT m Qgs (QAX hO b n.c WH Q) λd h9 R=>?_;obtain⟨rfl,rfl⟩:=R;apply Qg m;rw[hM];exact⟨o,C,I,ZC.refl o h9⟩
 have hM:XT M b=(XO M.T (Kj M.A b) b).foldl J7 { M with A:=Kj M.A b }:=by unfold XT;rw[Ji,Qe Q]
 have I9:QB { M with A:=Kj M.A b }:=I.act (I.qc.off b);have J:=QB.U7 (XO M.T (Kj M.A b) b) I9;rw[hM];refine Q9 func156 ntmps156 results156 λa5 w pl m=>?_;have Qq:=Qb ho;simp only[go_sem,ho];refine ZT m Qgs (QwX hO I.tree I.qc b n.c WH hl Q (V8 Q) Z4) λd h9 R=>?_;obtain⟨d1,rfl,Cd,O9,s9⟩:=R;rw[<-I.to]at O9;have C9:=C.act O9 s9;have D9:=ZC.of (own:=o) (t:=.on) σ s9;obtain⟨U,hU⟩:=Zc (XO M.T (Kj M.A b) b);rw[<-hU]at Cd J ⊢;have lU:U.length<=16:=by rw[hU];exact J5 (ct _).length_le Bf
 have a8:∀j∈U,j∈up M.T b:=λj N=>by rw[hU]at N;exact(ct _).subset N
 obtain⟨v,U3⟩:∃v,v={ M with A:=Kj M.A b }:=⟨_,rfl⟩;have lW:v.T=M.T:=by rw[U3]
 rw[<-U3]at C9 I9 J ⊢;rcases Cd with ⟨rfl,U4⟩|⟨K,g,b0,s,rfl,⟨ZW,rfl⟩,Ny,Z3⟩;exfalso;rw[hU,XO,V0 I.tree WH,cr,Z4]at U4;cases U4;have b8:=Qb Ny;rw[JG]at Ny;apply Qg m;refine ZY (Ro o h p L v K g s U) U.length QP (Ro.of (k:=0) C9 D9 (by unfold Q5;rw[Qe ZW]) Ny) ?_;rintro k _ hk ⟨f,H,q,Dk,FD,Kf,rfl⟩;have a4:=Qb Kf;by_cases u:k<U.length;case neg=>have ZJ:k=U.length:=ω;have dk:=QN u;rw[ZJ,Wo]at q;apply Qh m;simp only[go_sem,dk];exact⟨f,q,J,Dk⟩
 have dk:=QY u;obtain⟨j,N⟩:=Zc (U.getD k 0);have Gr:j∈up M.T b:=a8 j (by rw[N];exact YZ U 0 k u);have U5:s k=[Qa j]:=by have:=Z3 k u;rw[JG]at this;rw[this,N]
 have Jn:(U.take (k+1)).foldl J7 v=J7 ((U.take k).foldl J7 v) j:=by rw[getD_take U 0 k u,qu,<-N];rfl
 have z:=QB.U7 (U.take k) I9;have Nz:=(Iq (U.take k) v).1;obtain⟨a,Gn⟩:=Zc ((U.take k).foldl J7 v);rw[<-Gn]at q z Nz Jn;obtain⟨y,hy⟩:∃y,Qi a.N j=some y:=by
  have B:=HP Gr;rw[<-lW,<-Nz,z.find]at B;cases hq:Qi a.N j with
  | none=>rw[hq]at B;cases B
  | some y=>exact⟨y,rfl⟩
 have UO:Qz a j=y:=by unfold Qz;rw[hy];rfl
 have YJ:=q.look hy;have YL:=q.ob;have NA:=Qb YL;have jN:=q.Wc;have U6:=Qb jN;have CW:=(q.JL j y hy).1;have l6:=Qb CW;have FO:=q.Wt;have b2:=Qb FO;have kV:=Qaa z hy;have kW:=q.Yt.at_ y.c.parent;rw[Qe kV]at kW;have kY:=q.kids _ kV;have QS:=JJ (show k<4611686018427387904 from ω);have FP:=U0 z.tree kY.nd (z.u7 _);apply Qh m;simp only[go_sem,u,U5,YL,jN,Kf,YJ,CW,FO,kW];refine ZT m Qu1 (Qxc kY j ω) λd zR R=>?_;obtain⟨rfl,Z,F⟩:=R;have E:=q.Yr _ kV Z F;have Ip:=Dk.trans (ZC.of (t:=.Yr y.c.parent) σ F);have Z1:{ a with KT:=λi=>if i=y.c.parent then Vz j (a.KT y.c.parent) else a.KT i }=WX a j:=by unfold WX;rw[UO]
 rw[Z1]at E;have lZ:=z.WX j;have lY:Q5 f H (.Yr y.c.parent) K=.on:=by rw[KB a4];exact FD
 have a3:zR[K]?=some ⟨.arr,g,1,U.length,s⟩:=(F.keep K a4 (by rw[FD];simp)).trans Kf;have S:J7 a j=if Vz j (a.KT y.c.parent)=[] then (KZ a.T y.c.parent).foldl YM (WX a j) else WX a j:=by unfold J7;rw[UO]
 have Rp:=E.ob;have b7:=Qb Rp;have Y:=E.Wt;have b6:=Qb Y;have a2:=E.Yt.at_ y.c.parent;rw[Qe (show (WX a j).ks y.c.parent=true from kV)]at a2;have Is:F4 zR (L.lk y.c.parent) (Vz j (a.KT y.c.parent)):=Z.toR;apply Qh m;simp only[go_sem,Rp,Y,a2];apply ZH m ry (tc Is);apply Qg m;by_cases hz:Vz j (a.KT y.c.parent)=[];case neg=>have Yh:0<(Vz j (a.KT y.c.parent)).length:=Sr.2 hz;have dz:decide ((0:Int)<((Vz j (a.KT y.c.parent)).length:Int))=true:=QY ω;rw[Qd hz]at S;simp only[go_sem,dz];exact⟨u,_,Qs.frame (by simp only[go_sem,QS]),Ro.of (by rw[Jn,S];exact E) Ip lY a3⟩
 rw[Qe hz]at S;have dz:decide ((0:Int)<((Vz j (a.KT y.c.parent)).length:Int))=false:=QN (by rw[hz];simp);simp only[go_sem,dz,Rp];apply ZH m rj (QwS E.tr.toR (by have:=lZ.tree.len;omega) y.c.parent);apply Qg m;obtain⟨V,hV⟩:=Zc (KZ a.T y.c.parent);have b1:V.length<=64:=by rw[hV];unfold KZ;rw[KJ];exact J5 (Yg _ _) z.tree.len
 have a7:∀c∈V,(Qw a.T c).isSome=true:=λc O=>by rw[hV]at O;obtain⟨x,hx,rfl⟩:=Jw.1 O;rw[(VK z.tree.rising).2 ⟨(JB.1 hx).1,rfl⟩];rfl
 rw[show KZ (WX a j).T y.c.parent=V from hV.symm];rw[<-hV]at S;refine ZY (U8 o h p L (WX a j) K g s U V k) V.length QP (U8.of (i:=0) E Ip lY a3) ?_;rintro i _ hi ⟨Br,H5,r,D5,Gs,a1,rfl⟩;by_cases P:i<V.length;case neg=>have KM:i=V.length:=ω;have di:=QN P;rw[KM,Wo]at r;apply Qh m;simp only[go_sem,di];apply Qg m;exact⟨u,_,Qs.frame (by simp only[go_sem,QS]),Ro.of (by rw[Jn,S];exact r) D5 Gs a1⟩
 have di:=QY P;have l9:=JJ (show i<4611686018427387904 from ω);obtain⟨c,O⟩:=Zc (V.getD i 0);have a6:c∈V:=by rw[O];exact YZ V 0 i P
 have a0:(V.take (i+1)).foldl YM (WX a j)=YM ((V.take i).foldl YM (WX a j)) c:=by rw[getD_take V 0 i P,qu,<-O];rfl
 have I5:=QB.Qak (V.take i) lZ;have W:=(l7 (V.take i) (WX a j)).1;obtain⟨T,Rq⟩:=Zc ((V.take i).foldl YM (WX a j));rw[<-Rq]at r I5 W a0;obtain⟨x,hx⟩:∃x,Qi T.N c=some x:=by
  have B:=a7 c a6;rw[show a.T=T.T from W.symm,I5.find]at B;cases hq:Qi T.N c with
  | none=>rw[hq]at B;cases B
  | some x=>exact⟨x,rfl⟩
 have ji:=r.qL c x hx;have mg:=r.look hx;have Et:=r.ob;have b5:=Qb Et;have CP:=r.Wc;have b4:=Qb CP;have NB:=(r.JL c x hx).1;have b3:=Qb NB;have QE:L.le c≠K:=λe=>by have h1:=(r.JL c x hx).2;rw[e,Gs]at h1;cases h1
 apply Qh m;simp only[go_sem,Qj,P,<-O,Et,CP,mg,NB];have C6:=r.x7 hx (λn=>{ n with sh:=Bq }) (λ_=>rfl) (λ_=>rfl) ⟨ji.JD,ji.du,Qkd,ji.cp,ji.c⟩;have D6:=ZC.set (own:=Br) (h:=H5) (qb (qD L.lq x) { x with sh:=Bq }) (l:=L.le c) (by rw[(r.JL c x hx).2];simp);have DJ:(⟨.one,0,60,1,λ_=>List.take 38 (Vf (qD L.lq x) x)++.raw (.bool false)::.raw (.int .u64 0)::.raw (.int .u64 0)::.raw (.int .u64 0)::.raw (.int .u64 0)::.raw (.int .u64 0)::.raw (.int .u64 0)::.raw (.int .u64 0)::.raw (.int .u64 0)::.raw (.bool false)::.raw (.int .u64 0)::List.drop 49 (Vf (qD L.lq x) x)⟩:Ob)=qb (qD L.lq x) { x with sh:=Bq }:=by unfold qb;rw[<-QAM (qD L.lq x) x Bq];rfl
 rw[DJ];refine⟨_,Qs.frame (by simp only[go_sem,l9]),U8.of (by rw[a0];exact C6) (D5.trans D6) Gs (by rw[Qo QE];exact a1)⟩
def firstM(M:Qn)(a:Nat)(b:Int):Option It:=(M.KT b).find? λx=>decide (x.va<=min a 9223372036854775807)
def Bs(M:Qn)(a:Nat):Nat->Int->Option Int
 | 0,_=>none
 | n+1,id=>match firstM M a id with
  | none=>none
  | some x=>if (Qz M x.ki).c.leaf=true then some x.ki else Bs M a n x.ki
def Qkm(o:Option Int):D:=.tup [Qa (o.getD 0),QV false,QV o.isSome]
def yo(M:Qn)(a:Nat)(o:Option It):Prop:=yV o (M.Lv.filter λx=>decide (x.ka<=min a 9223372036854775807))
def Rr(M:Qn)(a:Nat)(o:Option It):D:=match o with
 | some x=>.tup [Qa x.ki,QV true,QV true]
 | none=>Qkm (Bs M a 17 0)
section
variable {own:Nat->Tag}{h:List Ob}{p:Nat}{L:Loc}{M:Qn}(C:ZI own h p L M)(I:QB M)
include C I
theorem QA2(a):Zl prog 151 h [.ptr p 0 0 0,u64 a] (λd=>∃o,yo M a o/\d=Rr M a o):=by
 have f:=Jf C.ob;have l:=Jf C.Wt;have r:=Jf C.Wc;have N:=C.Ys.toR;refine ZN func151 ntmps151 results151 λE w V F j Z g=>?_;rw[<-j]at f l r;have Qq:=Qb f;have Y:=Qb l;have Px:=Qb r;simp only[go_sem,f];refine rT g QuW (Qxd (N.more (VM j)) a) λd P=>?_;obtain⟨o,e,rfl⟩:=P;apply Qg g;cases o with
 | some x=>simp only[go_sem,BL,Va];exact⟨[],(JN F).symm,some x,e,rfl⟩
 | none=>
  simp only[go_sem,E7];have U:(up M.T 0).length=0:=by rw[Mw I.tree];rfl
  refine Hy (λn H=>∃id,M.ks id=true/\(up M.T id).length+n=16/\Bs M a 17 0=Bs M a (n+1) id/\H=⟨[(0,.ptr p 0 0 0),(1,u64 a),(9,Qa id)],F⟩) 16 QP ⟨0,(I.ks 0).2 (.inl rfl),ω,rfl,rfl⟩ ?_;rintro n _ ⟨id,v,B,b,rfl⟩;have u:=C.Yt.at_ id;rw[Qe v]at u;have O:=(C.kids id v).toR
  conv at b=>rhs;rw[Bs]
  apply Qh g;simp only[go_sem,f,l,u];apply ZH g QuX (Qw9 (O.more (VM j)) a);apply Qg g;have t:(M.KT id).find? (λx=>decide (x.va<=min a 9223372036854775807))=firstM M a id:=rfl;rw[t];cases k:firstM M a id with
  | none=>rw[k]at b;simp only[go_sem,E7];exact⟨[],(JN F).symm,none,e,by unfold Rr;rw[b];rfl⟩
  | some x=>
   rw[k]at b;have s:x∈M.KT id:=xG k;obtain⟨c,z,J⟩:=I.wh id x s;obtain⟨y,i,S⟩:=I.Nt z;have R:Qz M x.ki=y:=by unfold Qz;rw[i];rfl
   have W:(up M.T x.ki).length=(up M.T id).length+1:=by rw[V0 I.tree z,J];rfl
   have T:(up M.T x.ki).length<=16:=Bf;have Q:=C.look i;have q:=Jf (C.JL x.ki y i).1;rw[<-j]at q;have YK:=Qb q;dsimp only at b;rw[R]at b;simp only[go_sem,BL,Va,f,r,Q,q];cases m:y.c.leaf with
   | true=>rw[m,Qe rfl]at b;simp only[go_sem];exact⟨[],(JN F).symm,none,e,by unfold Rr;rw[b];rfl⟩
   | false=>rw[m,Qd π]at b;obtain⟨n,rfl⟩:∃K,n=K+1:=⟨n-1,ω⟩;simp only[go_sem];exact⟨n,_,ω,QP,x.ki,(I.ks _).2 (.inr ⟨y,i,m⟩),ω,b,rfl⟩
end
def QA4{T}(I:KF T){b a}{c:Ql}(f:Qw T b=some c)(l:c.leaf=true)(h:b∈up T a):a=b:=by
 refine j5 λo=>?_;obtain⟨i,d,p,m,k⟩:=gZ I h o;have n:d.parent≠0:=λe=>by rw[<-k,e,FR I]at f;cases f
 obtain⟨e,j,g⟩:=I.Jz d (yT I m) n;rw[k,f]at j;cases j;rw[l]at g;cases g
def mh{T}(I:KF T){b}{c:Ql}(d:Qw T b=some c)(e:c.leaf=true)(A):JE T A b=true↔b∈A:=by rw[zz];constructor;rintro⟨a,f,h⟩;rw[<-QA4 I d e h];exact f;exact λh=>⟨b,h,Yp I d⟩
def QA5{T}(I:KF T){a}{c:Ql}(d:Qw T a=some c)(b:c.leaf=true)(A):JE T (Kj A a) a=false:=by rw[jZ];intro h;have:=(mh I d b _).1 h;simp[Kj]at this
def Eu(a:Nat)(n:Nd):Nd:={ n with JD:=Wj (n.JD+a),sh:=H4 n.sh (Wj (n.JD+a)),cp:=Ee n.cp (Wj (n.JD+a)) }
def VO(a:Nat)(M:Qn)(j:Int):Qn:={ M with N:=Wl M.N j (Eu a) }
def Qkn{n:Nd}(h:n.Ok)(a):(Eu a n).Ok:=⟨MV _,h.du,Qyg h.sh _,Qyk h.cp _,h.c⟩
def QB.VO{M}(I:QB M)(a j):QB (VO a M j):=I.Wl j (Eu a) λ_=>rfl
def QB.mi{len}:∀(l:List Int) {M:Qn},QB M->QB (l.foldl (X.VO len) M)
 | [],M,I=>I
 | j::l,M,I=>QB.mi l (I.VO len j)
def NC(a):∀(l:List Int) (M:Qn),(l.foldl (VO a) M).T=M.T/\(l.foldl (VO a) M).A=M.A/\(l.foldl (VO a) M).KT=M.KT/\(l.foldl (VO a) M).lk=M.lk/\(l.foldl (VO a) M).Qc=M.Qc/\(l.foldl (VO a) M).acc=M.acc/\(l.foldl (VO a) M).Lv=M.Lv
 | [],M=>⟨rfl,rfl,rfl,rfl,rfl,rfl,rfl⟩
 | j::l,M=>NC a l (VO a M j)
def Qko{N j f}(a:∀n,(f n).c=n.c)(i){n:Nd}(h:Qi N i=some n):∃m,Qi (Wl N j f) i=some m/\m.c=n.c/\(m=n\/(i=j/\m=f n)):=by rw[jM (λn=>by rw[a])];by_cases e:i=j;rw[Qe e,h];exact⟨f n,rfl,a n,.inr ⟨e,rfl⟩⟩;rw[Qd e];exact⟨n,h,rfl,.inl rfl⟩
def Qas(a):∀(l:List Int) (M:Qn) (i:Int) {n:Nd},Qi M.N i=some n->∃m,Qi (l.foldl (VO a) M).N i=some m/\m.c=n.c/\m.q=n.q/\m.du=n.du
 | [],M,i,n,h=>⟨n,h,rfl,rfl,rfl⟩
 | j::l,M,i,n,h=>by obtain⟨m,p,o,b⟩:=Qko (f:=Eu a) (j:=j) (λ_=>rfl) i h;obtain⟨c,k,g,e,d⟩:=Qas a l (VO a M j) i p;refine⟨c,k,g.trans o,?_,?_⟩;rw[e];rcases b with rfl|⟨_,rfl⟩<;>rfl;rw[d];rcases b with rfl|⟨_,rfl⟩<;>rfl
def Ww(M:Qn)(a:Int):Qn:={ M with N:=Wl M.N a λn=>{ n with q:=Kv (Qz M a).q } }
def QB.Ww{M}(I:QB M)(a:Int):QB (Ww M a):=I.Wl a (λn=>{ n with q:=Kv (Qz M a).q }) λ_=>rfl
def QB.Wv{M:Qn}(I:QB M){a n}(c:Qi M.N a=Option.some n)(b r):QB (Wv M a b r):=by
 unfold X.Wv;split;refine(I.Wl a (λn=>{ n with du:=qN (Qz M a) b r }) λ_=>rfl).lv λx hx=>?_;have d:x.ki=a\/x∈M.Lv:=by split at hx;exact Qae (JB.1 hx).1;exact Qae hx
 rcases d with h|h;rw[h];show (Qw M.T a).isSome=true;rw[I.some c];rfl;exact I.Bp x h;exact I
def Rs(M:Qn)(a b)(r:Bool):(Wv M a b r).T=M.T/\(Wv M a b r).A=M.A/\(Wv M a b r).KT=M.KT/\(Wv M a b r).lk=M.lk/\(Wv M a b r).Qc=M.Qc/\(Wv M a b r).acc=M.acc:=by unfold Wv;split<;>exact⟨rfl,rfl,rfl,rfl,rfl,rfl⟩
def QA6(M:Qn)(a b)(r:Bool)(i){n:Nd}(h:Qi M.N i=some n):∃m,Qi (Wv M a b r).N i=some m/\m.c=n.c/\m.q=n.q:=by unfold Wv;split;obtain⟨m,e,d,c⟩:=Qko (f:=λn=>{ n with du:=qN (Qz M a) b r }) (j:=a) (λ_=>rfl) i h;exact⟨m,e,d,by rcases c with rfl|⟨_,rfl⟩<;>rfl⟩;exact⟨n,h,rfl,rfl⟩
def Vo(M:Qn)(a:Nat)(o:Option It):Option (Int × Bool):=match o with
 | some x=>some (x.ki,true)
 | none=>(Bs M a 17 0).map λid=>(id,false)
def XU(M:Qn)(a:Int)(r:Bool):Qn:=
 let b:=((Qz M a).q.l.headD default).len;let c:=Wv ((up M.T a).foldl (VO b.toNat) (Ww M a)) a b r;let d:=if (Kv (Qz M a).q).l=[] then XT c a else c
 Wu d (up M.T a)
def zH(a:Int)(x:Pk)(r:Bool):List D:=[Qa a,.raw (.int .u64 x.iD),.raw (.int .i64 x.len),.raw (.int .u16 x.xX),.raw (.int .u16 x.xY),.raw (.int .u16 x.xZ),.raw (.int .u16 x.x5),QV r]
def wi:Ob:=⟨.one,0,8,1,λ_=>zH 0 default false⟩
def zI(x:Pk):Ob:=⟨.one,0,6,1,λ_=>x.cells⟩
attribute[go_sem]zH wi zI
def xq(M:Qn)(a:Nat):(ZA M a).N=M.N/\(ZA M a).T=M.T/\(ZA M a).A=M.A:=by unfold ZA;split<;>exact⟨rfl,rfl,rfl⟩
def Af{M}(I:QB M)(a):QB (ZA M a):=by unfold ZA;split;rename_i h;unfold xp at h;simp only[qV,EP,G2]at h;exact⟨I.tree,I.xn,I.to,I.nodes,I.qc,I.ks,I.Bp,I.wh,I.xo,by show a<=_;omega,I.acc⟩;exact I
structure ag (own:Nat->Tag) (h:List Ob) (p:Nat) (L:Loc) (M:Qn) (id:Int) (r:Bool) (lb:Nat) (x:Pk) (U:List Int) (k:Nat) (s:St):Prop where
 ex:∃own' H,ZI own' H p L ((U.take k).foldl (VO x.len.toNat) M)/\ZC own h own' H/\own' h.length=.no/\H[h.length]?=some wi/\own' lb=.no/\H[lb]?=some (zI x) /\
  s=⟨[(0,.ptr p 0 0 0),(4,.ptr h.length 0 0 0),(6,Qa id),(7,QV r),(9,.ptr (L.le id) 0 0 0),(10,.ptr lb 0 0 0),(53,ints U),(54,Qa U.length),(55,Qa k)],H⟩
def ag.of{own}{h:List Ob}{p L M c r b}{x:Pk}{U:List Int}{k:Nat}{a}{H:List Ob}(C:ZI a H p L ((U.take k).foldl (VO x.len.toNat) M))(D:ZC own h a H)(g:a h.length=.no)(f:H[h.length]?=some wi)(e:a b=.no)(d:H[b]?=some (zI x)):
  ag own h p L M c r b x U k ⟨[(0,.ptr p 0 0 0),(4,.ptr h.length 0 0 0),(6,Qa c),(7,QV r),(9,.ptr (L.le c) 0 0 0),(10,.ptr b 0 0 0),(53,ints U),(54,Qa U.length),(55,Qa k)],H⟩:=⟨⟨a,H,C,D,g,f,e,d,rfl⟩⟩
def ai(M:Qn)(a:Nat)(d:D)(b:Qn):Prop:=
 (xp M a=false/\d=.tup [.agg (zH 0 default false),QV false]/\b=M) \/
 (xp M a=true/\∃o,yo (ZA M a) a o/\match Vo (ZA M a) a o with
  | none=>d=.tup [.agg (zH 0 default false),QV false]/\b=ZA M a
  | some (id,r)=>d=.tup [.agg (zH id ((Qz M id).q.l.headD default) r),QV true]/\b=XU (ZA M a) id r)
def QA7{g h p L M}(C:ZI g h p L M)(I:QB M)(a)
  (e9:∀o id r,yo (ZA M a) a o->Vo (ZA M a) a o=some (id,r)->∃n,Qi M.N id=some n/\n.c.leaf=true/\n.q.l≠[]/\(1<QJ n.c.ls->id∈M.A)) :
  QO prog 118 h [.ptr p 0 0 0,u64 a] (λd h'=>∃b O,ZI b h' p L O/\QB O/\ZC g h b h'/\ai M a d O):=by
 have ho:=C.ob;have C0:=C.Rf [wi];have D0:=ZC.app g h [wi] .no;have y8:Q5 g h .no h.length=.no:=by unfold Q5;rw[Qe (Qv _)]
 have ZF:(h++[wi])[h.length]?=some wi:=by rw[Vq rfl];rfl
 refine Q9 func118 ntmps118 results118 λh0 w pl c=>?_;have Qq:=Qb ho;simp only[go_sem];refine ZT c Qge (Qj8 C0 a) λd T E=>?_;obtain⟨rfl,P,D1⟩:=E;have I1:=Af I a;obtain⟨t1,t2,t3⟩:=xq M a;have Ag:=D0.trans D1;have KU:T[h.length]?=some wi:=(D1.keep h.length σ y8).trans ZF;have ND:=Qb KU;obtain⟨JM,NF⟩:=Zc (Q5 g h .no);have jv:∀o,(T.set h.length o)[h.length]?=some o:=λo=>QI ND;rw[<-NF]at Ag P y8;apply Qh c;cases ht:xp M a with
 | false=>
  simp only[go_sem,KU,jv];have hM:ZA M a=M:=by unfold ZA;rw[ht];rfl
  rw[hM]at P;exact⟨JM,M,P.loc y8 _,I,Ag.Ep (Qv _) _,.inl ⟨ht,rfl,rfl⟩⟩
 | true=>
  simp only[go_sem];refine rT c Quz (QA2 P I1 a) λd E=>?_;obtain⟨o,a1,rfl⟩:=E;apply Qh c;have e8:Vo (ZA M a) a o=none->∃b O,ZI b (T.set h.length wi) p L O/\QB O/\ZC g h b (T.set h.length wi)/\ai M a (.tup [.agg (zH 0 default false),QV false]) O:=λhp=>⟨JM,ZA M a,P.loc y8 _,I1,Ag.Ep (Qv _) _,.inr ⟨ht,o,a1,by rw[hp];exact⟨rfl,rfl⟩⟩⟩
  have Ah:∀id r b H,Vo (ZA M a) a o=some (id,r)->ZI b H p L (XU (ZA M a) id r)->QB (XU (ZA M a) id r)->ZC g h b H->ai M a (.tup [.agg (zH id ((Qz M id).q.l.headD default) r),QV true]) (XU (ZA M a) id r):=λid r b H hp _ _ _=>
   .inr ⟨ht,o,a1,by rw[hp];exact⟨rfl,rfl⟩⟩
  obtain⟨id,r,Zs,hp⟩|hp:(∃id r,Rr (ZA M a) a o=.tup [Qa id,QV r,QV true]/\Vo (ZA M a) a o=some (id,r))\/(Rr (ZA M a) a o=.tup [Qa 0,QV false,QV false]/\Vo (ZA M a) a o=none):=by
   cases o with
   | some x=>exact .inl ⟨x.ki,true,rfl,rfl⟩
   | none=>
    unfold Rr Qkm Vo;dsimp only;cases Bs (ZA M a) a 17 0 with
    | none=>exact .inr ⟨rfl,rfl⟩
    | some i=>exact .inl ⟨i,false,rfl,rfl⟩
  case inr=>obtain⟨hd,hp⟩:=hp;rw[hd];simp only[go_sem,KU,jv];exact e8 hp
  rw[Zs];obtain⟨n,hn,hl,hq,V8⟩:=e9 o id r a1 hp;have KY:Qi (ZA M a).N id=some n:=by rw[t1];exact hn
  have Ji:Qz M id=n:=by unfold Qz;rw[hn];rfl
  have a2:Qz (ZA M a) id=n:=by unfold Qz;rw[KY];rfl
  obtain⟨x,q,Rt⟩:∃x q,n.q.l=x::q:=by
   cases wg:n.q.l with
   | nil=>exact absurd wg hq
   | cons x q=>exact⟨x,q,rfl⟩
  have YJ:=P.look KY;have Z9:=P.ob;have Nx:=Qb Z9;have jy:=P.Wc;have h9:=Qb jy;have CV:=(P.JL id n KY).1;have h5:=Qb CV;obtain⟨kq,Nu,hQ⟩:=P.XS id n KY hl;have Rj:=QB.id hn;have Gp:qD L.lq n=.ptr (L.lq id) 0 0 0:=by unfold qD;rw[Qe hl,Rj]
  rw[Gp]at CV;simp only[go_sem,Z9,jy,YJ,CV];refine ZT c QuA (Qx8 hQ Rt) λd u E=>?_;obtain⟨rfl,Q2,s2⟩:=E;have C2:=P.zF KY hl Nu Q2 s2;have e0:{ ZA M a with N:=Wl (ZA M a).N id λm=>{ m with q:=Kv n.q } }=Ww (ZA M a) id:=by unfold Ww;rw[a2]
  rw[e0]at C2;have D2:=Ag.trans (ZC.of (t:=.zF id) σ s2);have ZX:u[h.length]?=some wi:=(s2.keep h.length ND (by rw[y8];simp)).trans KU;have KX:Q5 JM T (.zF id) h.length=.no:=by rw[KB ND];exact y8
  have JY:=s2.len;have C3:=C2.Rf [zI x];have D3:=D2.trans (ZC.app _ u [zI x] .no);have jN:(u++[zI x])[h.length]?=some wi:=(QG (Qb ZX)).trans ZX;have Bh:Q5 (Q5 JM T (.zF id)) u .no h.length=.no:=by rw[KB (Qb ZX)];exact KX
  have Ea:(u++[zI x])[u.length]?=some (zI x):=by rw[Vq rfl];rfl
  have Bt:Q5 (Q5 JM T (.zF id)) u .no u.length=.no:=by unfold Q5;rw[Qe (Qv _)]
  have I3:=I1.Ww id;have YL:=C3.ob;have NA:=Qb YL;generalize e5:u++[zI x]=H3 at C3 D3 jN Ea YL NA;generalize Q5 (Q5 JM T (.zF id)) u .no=Bv at C3 D3 Bh Bt;apply Kh c;have e7:u++[(⟨.one,0,6,1,λ_=>[.raw (.int .u64 x.iD),.raw (.int .i64 x.len),.raw (.int .u16 x.xX),.raw (.int .u16 x.xY),.raw (.int .u16 x.xZ),.raw (.int .u16 x.x5)]⟩:Ob)]=H3:=e5;simp only[e7];simp only[go_sem,YL];apply ZH c fZ (sN C3.tr.toR I3.tree.toTreeInv id);apply Qg c;obtain⟨U,hU⟩:=Zc (up M.T id);have e1:ZZ (Ww (ZA M a) id).T 16 id=U:=by rw[hU];show up (ZA M a).T id=_;rw[t2]
  rw[e1];have lU:U.length<=16:=by rw[hU];exact Bf
  obtain⟨F,jj⟩:=Zc (Ww (ZA M a) id);have c0:F.T=M.T:=by rw[jj];exact t2
  have g9:F.A=M.A:=by rw[jj];exact t3
  rw[<-jj]at C3 I3;have VR:PV x:=by obtain⟨r2,Q⟩:=hQ;exact Q.lens x (by rw[Rt];simp)
  have ex:IntKind.u64.wrap x.len=((x.len.toNat:Nat):Int):=MW (by have:=VR.1;omega) (by have:=VR.2;omega);obtain⟨n3,g8,b9,g7⟩:∃m,Qi F.N id=some m/\m.c=n.c/\m.q=Kv n.q:=by rw[jj];unfold Ww;rw[a2];refine⟨{ n with q:=Kv n.q },?_,rfl,rfl⟩;rw[jM (f:=λm=>{ m with q:=Kv n.q }) (λ_=>rfl),Qe rfl,KY];rfl
  refine ZY (ag g h p L F id r u.length x U) U.length QP (ag.of (k:=0) C3 D3 Bh jN Bt Ea) ?_;rintro k _ hk ⟨Br,H5,B,D5,mj,CP,mm,Ru,rfl⟩;have c4:=Qb CP;have b8:=Qb Ru;have I5:=QB.mi (len:=x.len.toNat) (U.take k) I3;obtain⟨kT,kA,kK,h4,kc,ka,kL⟩:=NC x.len.toNat (U.take k) F;by_cases Qf:k<U.length;case pos=>
   have dk:=QY Qf;obtain⟨j,hj⟩:=Zc (U.getD k 0);have Gr:j∈up M.T id:=by rw[hj,<-hU];exact YZ U 0 k Qf
   have Jn:(U.take (k+1)).foldl (VO x.len.toNat) F=VO x.len.toNat ((U.take k).foldl (VO x.len.toNat) F) j:=by rw[getD_take U 0 k Qf,qu,<-hj];rfl
   obtain⟨R,Rq⟩:=Zc ((U.take k).foldl (VO x.len.toNat) F);rw[<-Rq]at B I5 kT Jn;obtain⟨y,hy⟩:∃y,Qi R.N j=some y:=by
    have Yi:=HP Gr;rw[<-c0,<-kT,I5.find]at Yi;cases hq:Qi R.N j with
    | none=>rw[hq]at Yi;cases Yi
    | some y=>exact⟨y,rfl⟩
   have Ae:=B.qL j y hy;have mg:=B.look hy;have Et:=B.ob;have g0:=Qb Et;have aj:=B.Wc;have h6:=Qb aj;have NB:=(B.JL j y hy).1;have c3:=Qb NB;have Gs:=(B.JL j y hy).2;have QS:=JJ (show k<4611686018427387904 from ω);have nb:L.le j≠h.length:=λe=>by rw[e,mj]at Gs;cases Gs
   have nx:L.le j≠u.length:=λe=>by rw[e,mm]at Gs;cases Gs
   have Y:∀s,(H5.set (L.le j) ⟨.one,0,60,1,λ_=>Vf (qD L.lq y) s⟩)[L.le j]?=some ⟨.one,0,60,1,λ_=>Vf (qD L.lq y) s⟩:=λs=>QI c3;have HX:∀s,(H5.set (L.le j) s)[u.length]?=some (zI x):=λs=>(Qo nx).trans Ru;apply Qh c;simp only[go_sem,Qf,<-hj,Et,aj,mg];apply Qy c o04;simp only[go_sem,Qj,NB,Ru,ex,UD];have e3:=Qyi y.sh Ae.sh (Wj (y.JD+x.len.toNat)) (MV _);have Ew:=tW y.cp Ae.cp (Wj (y.JD+x.len.toNat)) (MV _);apply Qy c o01;simp only[go_sem,Y];apply ZP c QuB e3;apply Jb c;simp only[go_sem,Qj,Y];apply Qy c o01;simp only[go_sem,Y];apply ZP c ri Ew;apply Jb c;simp only[go_sem,Qj,Y];have Z:=B.x7 hy (Eu x.len.toNat) (λ_=>rfl) (λ_=>rfl) (Qkn Ae _);have D6:=ZC.set (own:=Br) (h:=H5) (qb (qD L.lq y) (Eu x.len.toNat y)) (l:=L.le j) (by rw[Gs];simp);refine⟨Qf,_,Qs.frame (by simp only[go_sem,QS]),ag.of (by rw[Jn];exact Z) (D5.trans D6) mj (by rw[Qo nb];exact CP) mm (by rw[Qo nx];exact Ru)⟩
  have ZJ:k=U.length:=ω;have dk:=QN Qf;rw[ZJ,Wo]at B I5 kT kA;obtain⟨R,Rq⟩:=Zc (U.foldl (VO x.len.toNat) F);obtain⟨n5,Rv,b7,g6,_⟩:=Qas x.len.toNat U F id g8;rw[<-Rq]at B I5 kT kA Rv;have b1:n5.c.leaf=true:=by rw[b7,b9];exact hl
  have mg:=B.look Rv;have Et:=B.ob;have g0:=Qb Et;have NB:=(B.JL id n5 Rv).1;have c3:=Qb NB;apply Qh c;simp only[go_sem,dk];apply Qh c;simp only[go_sem,Ru];refine ZT c QuC (QAR B I5 Rv b1 x.len (by have:=VR.1;omega) (by have:=VR.2;omega) r) λd H6 E=>?_;obtain⟨b6,Z,D6⟩:=E;have I6:=I5.Wv Rv x.len r;obtain⟨a6,a7,_⟩:=Rs R id x.len r;obtain⟨S,ak,b5,g5⟩:=QA6 R id x.len r id Rv;obtain⟨V,b4⟩:=Zc (Wv R id x.len r);rw[<-b4]at Z I6 a6 a7 ak;have F7:H6[h.length]?=some wi:=(D6.keep _ c4 mj).trans CP;have mn:b6 h.length=.no:=(D6.same _ c4).trans mj;have HX:H6[u.length]?=some (zI x):=(D6.keep _ b8 mm).trans Ru;have a5:b6 u.length=.no:=(D6.same _ b8).trans mm;have mu:=Qb F7;have iE:=Qb HX;have c5:=D5.trans D6;have MX:S.c.leaf=true:=by rw[b5];exact b1
  have c9:S.q=Kv n.q:=by rw[g5,g6,g7]
  have b2:S.c=n.c:=by rw[b5,b7,b9]
  have H0:=Z.ob;have CJ:=Qb H0;have Y:=(Z.JL id S ak).1;have h8:=Qb Y;have g4:qD L.lq S=.ptr (L.lq id) 0 0 0:=by unfold qD;rw[Qe MX,b2,Rj]
  rw[g4]at Y;obtain⟨h3,h7,e4⟩:=Z.XS id S ak MX;have c8:S.q.l.length=q.length:=by rw[c9];unfold Kv;rw[Rt];rfl
  have WH:Qw V.T id=some S.c:=I6.some ak;have YB:XU (ZA M a) id r=Wu (if (Kv n.q).l=[] then XT V id else V) (up (ZA M a).T id):=by unfold XU;simp only[a2,Rt,List.headD_cons];rw[show up (ZA M a).T id=U by rw[t2];exact hU.symm,<-jj,<-Rq,<-b4]
  have a0:V.T=M.T:=by rw[a6,kT,c0]
  have e6:V.A=M.A:=by rw[a7,kA,g9]
  apply Qh c;simp only[go_sem,Y];apply ZH c Pj (PY e4.toR);apply Qh c;simp only[go_sem,c8];have iw:∀K v,ZI K v p L (XU (ZA M a) id r)->QB (XU (ZA M a) id r)->ZC g h K v->v[h.length]?=some wi->K h.length=.no ->
    ∃b O,ZI b (v.set h.length ⟨.one,0,8,1,λ_=>zH id x r⟩) p L O/\QB O/\ZC g h b (v.set h.length ⟨.one,0,8,1,λ_=>zH id x r⟩)/\ai M a (.tup [.agg (zH id x r),QV true]) O:=λK v C8 I8 J W an=>
   ⟨K,_,C8.loc an _,I8,J.Ep (Qv _) _,by have:=Ah id r K v hp C8 I8 J;rwa [Ji,Rt,List.headD_cons]at this⟩
  have c7:(Kv n.q).l=q:=by unfold Kv;rw[Rt];rfl
  rw[c7]at YB;cases a9:q with
  | cons z q2=>have dz:(((q2.length+1:Nat):Int)==0)=false:=VY ω;rw[a9,Qd σ]at YB;have Zd:=Qab Z I6 id;rw[a0,<-t2,<-YB]at Zd;simp only[go_sem,dz];refine ZT c rh Zd λd v E=>?_;obtain⟨K,C8,I8,J⟩:=E;have W:v[h.length]?=some wi:=(J.keep _ mu mn).trans F7;have aq:v[u.length]?=some (zI x):=(J.keep _ iE a5).trans HX;have an:K h.length=.no:=(J.same _ mu).trans mn;have a4:=Qb W;have g3:=Qb aq;have a3:∀o,(v.set h.length o)[h.length]?=some o:=λo=>QI a4;apply Qh c;simp only[go_sem,W,aq,a3];exact iw K v C8 I8 (c5.trans J) W an
  | nil=>
   rw[a9,Qe rfl]at YB;simp only[go_sem];refine ZT c QuD (QAY Z I6 ak MX (by rw[b2,e6];exact V8) (QA5 I6.tree WH MX _)) λd H7 E=>?_;obtain⟨jO,C7,I7,D7⟩:=E;have b3:H7[h.length]?=some wi:=(D7.keep _ mu mn).trans F7;have a8:H7[u.length]?=some (zI x):=(D7.keep _ iE a5).trans HX;have b0:jO h.length=.no:=(D7.same _ mu).trans mn;have g2:jO u.length=.no:=(D7.same _ iE).trans a5;have c1:=Qb b3;have g1:=Qb a8;have Zd:=Qab C7 I7 id;have e2:(XT V id).T=M.T:=by unfold XT;split;rw[(Iq _ _).1];exact a0;exact a0
   rw[e2,<-t2,<-YB]at Zd;apply Qg c;refine ZT c rh Zd λd v E=>?_;obtain⟨K,C8,I8,J⟩:=E;have W:v[h.length]?=some wi:=(J.keep _ c1 b0).trans b3;have aq:v[u.length]?=some (zI x):=(J.keep _ g1 g2).trans a8;have an:K h.length=.no:=(J.same _ c1).trans b0;have a4:=Qb W;have g3:=Qb aq;have a3:∀o,(v.set h.length o)[h.length]?=some o:=λo=>QI a4;apply Qh c;simp only[go_sem,W,aq,a3];exact iw K v C8 I8 ((c5.trans D7).trans J) W an
structure Wm (c:Cf):Prop where
 t1:1<=c.t
 t2:c.t<=65536
 l1:1<=c.Ze
 l2:c.Ze<=16384
def K6(M:Qn)(a:Int)(x:Pk):Qn:={ M with N:=Wl M.N a λm=>{ m with q:=X9 (Qz M a).c.ZV (Qz M a).c.bytes (Qz M a).q x } }
def jP(M:Qn)(a:Nat):Qn:={ M with acc:=a }
def VP(M:Qn)(a:Int)(x:Pk):Int:=
 match Qi M.N a with
 | none=>23
 | some n=>if n.c.leaf=false then 29 else if x.len<1\/M.lk.Ze<x.len then 26 else if 1099511627776<M.acc+x.len.toNat then 28
  else if wa n.c.ZV n.c.bytes n.q x=true then 30 else 0
def VE(M:Qn)(b:Nat)(a:Int)(x:Pk):Qn:=
 if VP M a x=30 then K6 M a x
 else if VP M a x=0 then (if (Qz M a).q.l=[] then qd (jP (K6 M a x) (M.acc+x.len.toNat)) b a x.len else jP (K6 M a x) (M.acc+x.len.toNat))
 else M
def QB.K6{M}(I:QB M)(a:Int)(x):QB (K6 M a x):=I.Wl a (λm=>{ m with q:=X9 (Qz M a).c.ZV (Qz M a).c.bytes (Qz M a).q x }) λ_=>rfl
def QB.jP{M}(I:QB M){a}(h:a<=1099511627776):QB (jP M a):=⟨I.tree,I.xn,I.to,I.nodes,I.qc,I.ks,I.Bp,I.wh,I.xo,I.Qc,h⟩
def QkH(M:Qn)(a:Nat):(ZA M a).lk=M.lk/\(ZA M a).acc=M.acc:=by unfold ZA;split<;>exact⟨rfl,rfl⟩
def qO(M:Qn)(a:Nat)(b:Int)(x:Pk):Int:=if xp M a=true then VP (ZA M a) b x else 27
def Zx(M:Qn)(a:Nat)(b:Int)(x:Pk):Qn:=if xp M a=true then VE (ZA M a) a b x else M
def QBp{v h p L}{M:Qn}(C:ZI v h p L M)(I:QB M)(K:Wm M.lk)(i)(Wd:i<18446744073709551616)(c)(x)
  (hA:∀n,Qi M.N c=some n->n.c.leaf=true->n.q.l=[]->c ∉ M.A) :
  QO prog 78 h [.ptr p 0 0 0,u64 i,Qa c,.agg x.cells] (λd h'=>∃j z,ZI j h' p L z/\QB z/\ZC v h j h' /\
   d=Qa (qO M i c x)/\z=Zx M i c x):=by
 have ho:=C.ob;have C0:=C.Rf [zI x];have D0:=ZC.app v h [zI x] .no;have y8:Q5 v h .no h.length=.no:=by unfold Q5;rw[Qe (Qv _)]
 have ZF:(h++[zI x])[h.length]?=some (zI x):=by rw[Vq rfl];rfl
 refine Q9 func78 ntmps78 results78 λb2 w pl k=>?_;have Qq:=Qb ho;simp only[go_sem];refine ZT k Qge (Qj8 C0 i) λd F hR=>?_;obtain⟨rfl,s,D1⟩:=hR;have O:=Af I i;obtain⟨t1,t2,t3⟩:=xq M i;obtain⟨t4,t5⟩:=QkH M i;have U:=D0.trans D1;have J:F[h.length]?=some (zI x):=(D1.keep h.length σ y8).trans ZF;have ND:=Qb J;obtain⟨T,NF⟩:=Zc (Q5 v h .no);rw[<-NF]at U s y8;have R:=s.ob;have Nx:=Qb R;have jy:=s.Wc;have b8:=Qb jy;apply Qh k;cases ht:xp M i with
 | false=>
  have hM:ZA M i=M:=by unfold ZA;rw[ht];rfl
  rw[hM]at s;simp only[go_sem];exact⟨T,M,s,I,U,by rw[show qO M i c x=27 from Qd (by rw[ht];exact xE)],(Qd (by rw[ht];exact xE)).symm⟩
 | true=>
  have P:∀j H z,ZI j H p L z->QB z->ZC v h j H->z=VE (ZA M i) i c x->∀e,VP (ZA M i) c x=e->∃j z,ZI j H p L z/\QB z/\ZC v h j H/\Qa e=Qa (qO M i c x)/\z=Zx M i c x:=
   λj H z F Q h3 h4 e he=>⟨j,z,F,Q,h3,by rw[<-he];unfold qO;rw[Qe ht],by unfold Zx;rw[Qe ht];exact h4⟩
  obtain⟨g,a4⟩:=Zc (ZA M i);rw[<-a4]at s O t1 t2 t3 t4 t5 P R;cases u:Qi g.N c with
  | none=>
   have hk:=s.KC.at_ c;rw[u,qY]at hk;have r:VP g c x=23:=by unfold VP;rw[u]
   have E:VE g i c x=g:=by unfold VE;rw[r];rfl
   simp only[go_sem,R,jy,hk];exact P T F g s O U E.symm 23 r
  | some n=>
   have hk:=s.look u;have CV:=(s.JL c n u).1;have b5:=Qb CV;have Rj:=QB.id u;simp only[go_sem,R,jy,hk,CV];cases B:n.c.leaf with
   | false=>
    have r:VP g c x=29:=by unfold VP;rw[u];simp[B]
    have E:VE g i c x=g:=by unfold VE;rw[r];rfl
    simp only[go_sem];exact P T F g s O U E.symm 29 r
   | true=>
    have ar:=J;have jv:∀o,(F.set h.length o)[h.length]?=some o:=λo=>QI ND;obtain⟨S,Nu,hQ⟩:=s.XS c n u B;have Gp:qD L.lq n=.ptr (L.lq c) 0 0 0:=by unfold qD;rw[Qe B,Rj]
    rw[Gp]at CV;have Ji:Qz g c=n:=by unfold Qz;rw[u];rfl
    have K1:Wm g.lk:=by rw[t4];exact K
    have JC:=K1.l1;have JY:=K1.l2;have b7:=O.acc;have fE:(x.len<1\/g.lk.Ze<x.len)->VP g c x=26:=λh=>by unfold VP;rw[u];simp only[B];rw[Qd σ,Qe h]
    have fP:(x.len<1\/g.lk.Ze<x.len)->VE g i c x=g:=λh=>by unfold VE;rw[fE h];rfl
    cases d1:decide (x.len<1) with
    | true=>have:=qw d1;simp only[go_sem];apply Qy k o06;simp only[go_sem,J,d1];exact P T F g s O U (fP (.inl this)).symm 26 (fE (.inl this))
    | false=>
     have x1:1<=x.len:=by have:=Dq d1;omega
     cases d2:decide (g.lk.Ze<x.len) with
     | true=>have:=qw d2;simp only[go_sem];apply Qy k o06;simp only[go_sem,J,R,d1,d2];exact P T F g s O U (fP (.inr this)).symm 26 (fE (.inr this))
     | false=>
      have x2:x.len<=g.lk.Ze:=by have:=Dq d2;omega
      have hx:PV x:=⟨x1,ω⟩;have TH:(x.len.toNat:Int)=x.len:=ET ω;obtain⟨a,Y⟩:=Zc x.len.toNat;rw[<-Y]at TH;have ex:IntKind.u64.wrap x.len=(a:Int):=by rw[Y];exact MW ω ω
      have ew:IntKind.u64.wrap ((g.acc:Int)+(a:Int))=((g.acc+a:Nat):Int):=by rw[MW ω ω];omega
      have ge:¬ (x.len<1\/g.lk.Ze<x.len):=ω;cases d3:decide ((1099511627776:Int)<((g.acc+a:Nat):Int)) with
      | true=>
       have a6:=qw d3;have r:VP g c x=28:=by unfold VP;rw[u];simp only[B];rw[Qd σ,Qd ge,Qe (by rw[<-Y];omega)]
       have E:VE g i c x=g:=by unfold VE;rw[r];rfl
       simp only[go_sem];apply Qy k o06;simp only[go_sem,J,R,d1,d2];apply Qy k Eq;simp only[go_sem,J,R,ex,ew,d3];exact P T F g s O U E.symm 28 r
      | false=>
       have a6:=Dq d3;simp only[go_sem];apply Qy k o06;simp only[go_sem,J,R,d1,d2];apply Qy k Eq;simp only[go_sem,J,R,ex,ew,d3];apply VI [5] k [0,1,2,3,4,1005,6] [];simp only[go_sem,J,CV];refine vO k Qub (Qx7 hQ x hx) λd Q hR=>?_;obtain⟨rfl,Q2,s2⟩:=hR;have KX:Q5 T F (.zF c) h.length=.no:=by rw[KB ND];exact y8
       have ZX:Q[h.length]?=some (zI x):=(s2.keep h.length ND (by rw[y8];simp)).trans J;have Ex:=Qb ZX;have V:=s.zF u B Nu Q2 s2;have D2:=U.trans (ZC.of (t:=.zF c) σ s2);have a1:{ g with N:=Wl g.N c λm=>{ m with q:=X9 S n.c.bytes n.q x } }=K6 g c x:=by unfold K6;rw[Ji,Nu]
       rw[a1]at V;have I2:=O.K6 c x;have vS:∀b,wa S n.c.bytes n.q x=b->VP g c x=if b=true then 30 else 0:=λb k=>by unfold VP;rw[u];simp only[B];rw[Qd σ,Qd ge,Qd (by rw[<-Y];omega),Nu,k]
       generalize Q5 T F (.zF c)=Kr at V D2 KX;apply Jb k;cases W:wa S n.c.bytes n.q x with
       | true=>
        have r:VP g c x=30:=vS _ W;have E:VE g i c x=K6 g c x:=by unfold VE;rw[r];rfl
        simp only[go_sem];exact P Kr Q _ V I2 D2 E.symm 30 r
       | false=>
        have r:VP g c x=0:=vS _ W;have VQ:=V.ob;have Gq:=Qb VQ;have b1:(K6 g c x).acc=g.acc:=rfl;have b0:(K6 g c x).lk=g.lk:=rfl;have a9:(K6 g c x).Qc=g.Qc:=rfl;have Z:ZI Kr (Q.set p (kU g.lk L.t L.b L.o L.v L.m g.Qc (g.acc+a))) p L (jP (K6 g c x) (g.acc+a)):=V.Qc g.Qc (g.acc+a);have I3:QB (jP (K6 g c x) (g.acc+a)):=I2.jP ω;have D3:=D2.trans (ZC.set (own:=Kr) (h:=Q) (l:=p) (kU g.lk L.t L.b L.o L.v L.m g.Qc (g.acc+a)) (by rw[V.op];decide));have a2:p≠h.length:=λe=>by have:=V.op;rw[e,KX]at this;cases this
        have jN:(Q.set p (kU g.lk L.t L.b L.o L.v L.m g.Qc (g.acc+a)))[h.length]?=some (zI x):=(Qo a2).trans ZX;have U6:=Qb jN;generalize a5:Q.set p (kU g.lk L.t L.b L.o L.v L.m g.Qc (g.acc+a))=H3 at Z D3 jN U6;have a7:Q.set p ⟨.one,0,9,1,λ_=>[.raw (.int .i64 g.lk.t),.raw (.int .i64 g.lk.Ze),.ptr L.t 0 0 0,.mref L.b 0,.ptr L.o 0 0 0,.ptr L.v 0 0 0,.mref L.m 0,.raw (.int .u64 (g.Qc:Nat)),.raw (.int .u64 ((g.acc+a:Nat):Int))]⟩=H3:=a5;have Bh:Qi (jP (K6 g c x) (g.acc+a)).N c=some { n with q:=X9 S n.c.bytes n.q x }:=by show Qi (K6 g c x).N c=_;unfold K6;dsimp only;rw[Ji,Nu,jM (f:=λm:Nd=>{ m with q:=X9 S n.c.bytes n.q x }) (λ_=>rfl) c,Qe rfl,u,Kq]
        have CW:=(Z.JL c _ Bh).1;have a8:qD L.lq { n with q:=X9 S n.c.bytes n.q x }=.ptr (L.lq c) 0 0 0:=by unfold qD;rw[Qe B,Rj]
        rw[a8]at CW;have l6:=Qb CW;obtain⟨b3,b6,a3⟩:=Z.XS c _ Bh B;simp only[go_sem];apply Qy k o04;simp only[go_sem,ZX,VQ,ex,ew,b1,b0,a9,a7,CW];have Zk:(X9 S n.c.bytes n.q x).l.length=n.q.l.length+1:=by unfold X9;rw[Qd (by rw[W];exact xE)];simp
        have b4:({ n with q:=X9 S n.c.bytes n.q x }:Nd).q.l.length=n.q.l.length+1:=Zk;have YL:=Z.ob;have NA:=Qb YL;apply ZH k Pj (PY a3.toR);apply Qh k;simp only[go_sem,Zk];cases hq:n.q.l with
        | cons y q=>
         have dz:(((q.length+1+1:Nat):Int)==1)=false:=VY ω;have E:VE g i c x=jP (K6 g c x) (g.acc+a):=by unfold VE;rw[r,Ji,hq,<-Y];rfl
         simp only[go_sem,Kx,dz];exact P Kr H3 _ Z I3 D3 E.symm 0 r
        | nil=>
         have dz:(((0+1:Nat):Int)==1)=true:=rfl;have Z4:KD (jP (K6 g c x) (g.acc+a)) c=false:=by rw[jZ];intro h9;have h8:=(mh O.tree (O.some u) B g.A).1 h9;rw[t3]at h8;exact hA n (by rw[<-t1];exact u) B hq h8
         have E:VE g i c x=qd (jP (K6 g c x) (g.acc+a)) i c x.len:=by unfold VE;rw[r,Ji,hq,<-Y];rfl
         simp only[go_sem,Lf];simp only[go_sem,jN];refine ZT k Quc (QAU Z I3 Bh B i Wd x.len ω Z4) λd h4 hR=>?_;obtain⟨a0,C4,I4,D4⟩:=hR;apply Qg k;exact P a0 h4 _ C4 I4 (D3.trans D4) E.symm 0 r
@[go_sem] def mv(c:Cf):Ob:=⟨.one,0,2,1,λ_=>c.cells⟩
def M0(c:Cf):Qn:=⟨c,[],[],[],[],[],λid=>decide (id=0),λ_=>[],0,0⟩
def mw(a:Nat->Tag)(b:Nat)(l:Nat):Tag:=
 if l<b then a l else if l<b+2 then .tree else if l<b+5 then .lv else if l<b+8 then .Yr 0 else if l=b+8 then .mk else if l=b+9 then .u0 else if l=b+10 then .sc else .on
def QBx(h:List Ob):Xo prog 61 h [] (λd g=>d=.ptr (h.length+1) 0 0 0/\g=[QT .i64 0 [],⟨.one,0,1,1,λ_=>[.mref h.length 0]⟩]):=
 QO.mono (QxP (h.map Ob.ro)) λd c ⟨b,a⟩=>⟨_,a,by rw[b,KJ],by rw[KJ]⟩
def Ai(b:Nat):List Ob:=[yg .nil,QT .i64 0 [],F2 b (b+1)]
def QBy(h:List Ob):Xo prog 62 h [] (λd g=>d=.ptr (h.length+2) 0 0 0/\g=Ai h.length):=by
 have:QO prog 62 (h.map Ob.ro) [] (λd b=>d=.ptr ((h.map Ob.ro).length+2) 0 0 0/\b=h.map Ob.ro++Ai (h.map Ob.ro).length):=by generalize h.map Ob.ro=h;refine Q9 func62 ntmps62 results62 λc w j a=>?_;simp only[go_sem];refine ZT a Qgb (Qh1 h) λd h e=>?_;obtain⟨rfl,rfl⟩:=e;apply Kh a;rfl
 exact QO.mono this λd b ⟨i,f⟩=>⟨_,f,by rw[i,KJ],by rw[KJ]⟩
def QkI(h:List Ob):Xo prog 63 h [] (λd g=>d=.ptr (h.length+2) 0 0 0/\g=Ai h.length):=by
 have:QO prog 63 (h.map Ob.ro) [] (λd b=>d=.ptr ((h.map Ob.ro).length+2) 0 0 0/\b=h.map Ob.ro++Ai (h.map Ob.ro).length):=by generalize h.map Ob.ro=h;refine Q9 func63 ntmps63 results63 λc w j a=>?_;simp only[go_sem];refine ZT a Qgb (Qh1 h) λd h e=>?_;obtain⟨rfl,rfl⟩:=e;apply Kh a;rfl
 exact QO.mono this λd b ⟨i,f⟩=>⟨_,f,by rw[i,KJ],by rw[KJ]⟩
def QaH{H:List Ob}{S b}(g:H[b]?=some (yg .nil))(f:H[b+1]?=some (QT .i64 0 []))(e:H[b+2]?=some (F2 b (b+1)))(d:S b)(c:S (b+1))(a:S (b+2)):Xd S H (b+2) []:=
 ⟨b,b+1,.nil,0,[],e,⟨g,trivial,rfl,by simp[Tr.QQ],by simp[Tr.QQ],by simp[Vy]⟩,f,YG.nil,σ,ω,ω,ω,by simp[Tr.QQ],by simp[Tr.QQ],a,d,c,by simp[Tr.QQ]⟩
def QkJ:KF []:=⟨TreeInv.nil,σ,σ,σ,σ⟩
def QkK(c):QB (M0 c):=
 ⟨QkJ,λc b=>by simp[M0]at b,rfl,rfl,λa d=>by simp[M0]at d,λid=>by simp[M0,Qi],λx hx=>by simp[M0]at hx,λid x hx=>by simp[M0]at hx,λid x hx=>by simp[M0]at hx,by simp[M0],by simp[M0]⟩
def QBz{own h}(c):
  QO prog 39 h [.agg c.cells] (λd y=>(Wm c/\∃q L p,d=.tup [.ptr p 0 0 0,Qa 0]/\ZI q y p L (M0 c)/\QB (M0 c)/\ZC own h q y)\/(¬ Wm c/\d=.tup [.raw (.pointer none),Qa 1]/\∃g,y=h++g)):=by
 have ZF:∀g,(h++mv c::g)[h.length]?=some (mv c):=λg=>Vq rfl;by_cases K:Wm c;have d1:decide (c.t<1)=false:=QN (by have:=K.t1;omega);have d2:decide (65536<c.t)=false:=QN (by have:=K.t2;omega);have d3:decide (c.Ze<1)=false:=QN (by have:=K.l1;omega);have d4:decide (16384<c.Ze)=false:=QN (by have:=K.l2;omega);refine Q9 func39 ntmps39 results39 λf w x b=>?_;simp only[go_sem,Qj,Qj,d1,d2,d3,d4];apply Qy b [0,1001,1003,1005,1004,1006,7,1002,8,1009,10];simp only[go_sem,Qj];refine Tv b QtN rfl ?_ (QBx _) rfl λd h m=>?_;simp only[go_sem];obtain⟨rfl,rfl⟩:=m;apply Ms b;refine Tv b QtO rfl ?_ (QBy _) rfl λd h m=>?_;simp only[go_sem];obtain⟨rfl,rfl⟩:=m;apply Jb b;simp only[go_sem,Qj,Ai];refine Tv b Qf4 rfl ?_ (QkI _) rfl λd h m=>?_;simp only[go_sem];obtain⟨rfl,rfl⟩:=m;apply Jb b;simp only[go_sem,Qj,Ai];refine QyB Ch b rfl rfl rfl rfl (VS (k:=9) rfl) ?_;apply Ms b;obtain⟨cm,em,UW,YE⟩:=Vk.nil.set .i64 0 0 (.ptr (h.length+6+2) 0 0 0);obtain⟨G,a⟩:∃G:List Ob,G=[mv c,QT .i64 0 [],⟨.one,0,1,1,λ_=>[.mref (h.length+1) 0]⟩,yg .nil,QT .i64 0 [],F2 (h.length+3) (h.length+3+1),yg .nil,QT .i64 0 [],F2 (h.length+6) (h.length+6+1),Kb .i64 0 [] 0 (.ptr (h.length+6+2) 0 0 0),QT .i64 0 [],⟨.one,0,9,1,λ_=>[Qa c.t,Qa c.Ze,.ptr (h.length+1+1) 0 0 0,.mref (h.length+10) 0,.raw (.pointer none),.ptr (h.length+3+2) 0 0 0,.mref (h.length+9) 0,u64 0,u64 0]⟩]:=⟨_,rfl⟩;have Rc:G.length=12:=by rw[a];rfl
 have z:∀k o,G[k]?=some o->(h++G)[h.length+k]?=some o:=λk o e=>by rw[Ks ω,cw];exact e
 have Z:=z 2 _ (by rw[a];rfl);have hm:=z 1 _ (by rw[a];rfl);have U:=z 11 _ (by rw[a];rfl);have Iw:=Qb U;have R:XQ (h++G) (h.length+2) []:=WU.toR (S:=λ_=>True) ⟨h.length+1,0,[],Z,hm,VJ.nil,trivial,trivial⟩;have V:=QhU R QkJ;rw[a]at V;refine z6 b Qf5 rfl ?_ V rfl λd y m=>?_;simp only[go_sem];rw[<-a]at m;obtain⟨rfl,hO,g,rfl⟩:=m;apply Qh b;have Y:((h++G)++g)[h.length+11]? = _:=(QG Iw).trans U;have Ey:=Qb Y;have a0:(h++G).length=h.length+12:=by rw[Zn,Rc]
 simp only[go_sem,Y];obtain⟨I,T⟩:=Zc (Q5 own h .no);obtain⟨t,s⟩:=Zc (mw I (h.length+1));have i:∀k,k<12->t (h.length+k)=if k<1 then .no else if k<3 then .tree else if k<6 then .lv else if k<9 then .Yr 0 else if k=9 then .mk else if k=10 then .u0 else .sc:=λk v=>by rw[s];unfold mw;by_cases Q:k<1;rw[Qe ω,Qe Q,T];unfold Q5;rw[Qe ω];rw[Qd ω,Qd Q];by_cases P:k<3;rw[Qe ω,Qe P];rw[Qd ω,Qd P];by_cases O:k<6;rw[Qe ω,Qe O];rw[Qd ω,Qd O];by_cases N:k<9;rw[Qe ω,Qe N];rw[Qd ω,Qd N];by_cases M:k=9;rw[Qe ω,Qe M];rw[Qd ω,Qd M];by_cases J:k=10;rw[Qe ω,Qe J];rw[Qd ω,Qd J,Qe ω]
 have C:∀l,h.length+12<=l->t l=.on:=λl u=>by rw[s];unfold mw;rw[Qd ω,Qd ω,Qd ω,Qd ω,Qd ω,Qd ω,Qd ω]
 have E:∀l,l<h.length->t l=own l:=λl u=>by rw[s];unfold mw;rw[Qe ω,T];exact KB u
 generalize hS:(⟨.one,0,9,1,_⟩:Ob)=S0;have j:∀k o,k<11->G[k]?=some o->((h++G++g).set (h.length+11) S0)[h.length+k]?=some o:=λk o v e=>(Qo ω).trans ((QG ω).trans (z k o e));have g1:=j 1 _ ω (by rw[a];rfl);have g2:=j 2 _ ω (by rw[a];rfl);have g3:=j 3 _ ω (by rw[a];rfl);have g4:=j 4 _ ω (by rw[a];rfl);have g5:=j 5 _ ω (by rw[a];rfl);have g6:=j 6 _ ω (by rw[a];rfl);have g7:=j 7 _ ω (by rw[a];rfl);have g8:=j 8 _ ω (by rw[a];rfl);have W:=j 9 _ ω (by rw[a];rfl);have H:=j 10 _ ω (by rw[a];rfl);have F:((h++G++g).set (h.length+11) S0)[h.length+11]?=some S0:=QI Ey;rw[UW]at W;have B:∀id n,Qi (M0 c).N id=some n->False:=by intro id n r;cases r
 refine .inl ⟨K,t,⟨h.length+2,h.length+10,(h++G).length+3,h.length+5,h.length+9,0,cm,[],em,λ_=>0,λ_=>0,λ_=>h.length+8⟩,h.length+11,rfl,⟨?_,(i 11 ω).trans rfl,⟨h.length+1,0,[],g2,g1,VJ.nil,(i 2 ω).trans rfl,(i 1 ω).trans rfl⟩,H,Vk.nil.to λk=>rfl,(i 10 ω).trans rfl,λid n r=>(B id n r).elim,λid n r=>(B id n r).elim,?_,QaH (S:=λl=>t l=.lv) g3 g4 g5 ((i 3 ω).trans rfl) ((i 4 ω).trans rfl) ((i 5 ω).trans rfl),W,YE.to λk=>?_,(i 9 ω).trans rfl,λid Zs=>?_,λid n r=>(B id n r).elim⟩,QkK c,⟨E,?_,?_⟩⟩;rw[F,<-hS];rfl;exact hO.step λl u ho=>⟨C l ω,Qo ω⟩;by_cases v:k=0;subst v;rfl;show (if k=0 then _ else _)=if decide (k=0)=true then _ else _;rw[Qd v,Qd (zC v)];have:id=0:=by simpa[M0] using Zs
 subst this;exact QaH (S:=λl=>t l=.Yr 0) g6 g7 g8 ((i 6 ω).trans rfl) ((i 7 ω).trans rfl) ((i 8 ω).trans rfl);intro l u Z4;exact(Qo ω).trans ((QG ω).trans (QG u));simp only[Ky,Zn];omega;have a1:∀d,d=D.tup [.raw (.pointer none),Qa 1]->∃g,h++[mv c]=h++g:=λ_ _=>⟨_,rfl⟩;cases d1:decide (c.t<1) with
 | true=>refine Q9 func39 ntmps39 results39 λf w x b=>?_;simp only[go_sem,Qj,Qj,d1];exact .inr ⟨K,_,rfl⟩
 | false=>
  cases d2:decide (65536<c.t) with
  | true=>refine Q9 func39 ntmps39 results39 λf w x b=>?_;simp only[go_sem,Qj,Qj,d1,d2];exact .inr ⟨K,_,rfl⟩
  | false=>
   cases d3:decide (c.Ze<1) with
   | true=>refine Q9 func39 ntmps39 results39 λf w x b=>?_;simp only[go_sem,Qj,Qj,d1,d2,d3];exact .inr ⟨K,_,rfl⟩
   | false=>
    have d4:decide (16384<c.Ze)=true:=by have e1:=Dq d1;have e2:=Dq d2;have e3:=Dq d3;refine QY (j5 λe4=>K ⟨ω,ω,ω,ω⟩)
    refine Q9 func39 ntmps39 results39 λf w x b=>?_;simp only[go_sem,Qj,Qj,d1,d2,d3,d4];exact .inr ⟨K,_,rfl⟩
def mz{l:List Int}{k}(h:k<l.length):l.getD k 0∈l:=by rw[QU,QH h];exact XK h
def QaJ(l:List Int)(F:List Ob)(f a:Nat)(b:List D)(g:Int->Bool):Prop:=∀(h:List Ob) (n:Int),n∈l->VZ F h->Zl prog f h (Jh a b [Qa n]) (λd=>d=QV (g n))
def au(l:List Int)(F:List Ob)(b:Nat)(f a:Nat)(c:List D)(g:Int->Bool):Prop:=∀(h:List Ob) (n:Int),n∈l->F.length<=h.length->(∀l,l<F.length->l≠b->h[l]? = F[l]?)->Zl prog f h (Jh a c [Qa n]) (λd=>d=QV (g n))
section
variable (h:List Ob)(l:List Int)(lo gn off:Nat)(row:Nat->List D)(hlen:l.length<1000000)(ho:(h.map Ob.ro)[lo]?=some ⟨.AH,gn,1,off+l.length,row⟩)(hr:∀i,i<l.length->row (off+i)=[Qa (l.getD i 0)])
include hlen ho hr
theorem QBD(e:D)(f j:Nat)(q:List D)(x:Qm prog f)(B:JP e=some (f,j,q))(c:Int->Bool)(v:QaJ l (h.map Ob.ro) f j q c):
  Zl prog 102 h [.ref lo gn off l.length,e] (λd=>d=Qa (x8 c l)):=by
 refine ZN func102 ntmps102 results102 λr w H F p I b=>?_;rw[<-p]at ho;have C:=Qb ho;simp only[go_sem];refine ZY (λk s=>(∀i,i<k->c (l.getD i 0)=false)/\s=⟨[(0,.ref lo gn off l.length),(1,e),(7,Qa l.length),(8,Qa k)],F⟩) l.length QP ⟨λi o=>absurd o ω,rfl⟩ ?_;rintro k s n ⟨g,rfl⟩;apply Qg b;have C:=Qb ho;have E:=JJ (show k<4611686018427387904 from ω);first|refine WN n (λa=>?_) (λa=>?_)|refine WO n (λa=>?_) (λa=>?_)
 have u:=hr k a;have t:off+k<off+l.length:=ω;simp only[go_sem,ho,a,u,t];refine X4 b x B ?_ (v F (l.getD k 0) (mz a) (by rw[<-p];exact VZ.refl F)) rfl λd2 y=>?_;simp only[go_sem];exact DV _;subst y;apply Qh b;cases m:c (l.getD k 0);simp only[go_sem];refine⟨a,_,Qs.frame (by simp only[go_sem,E]),λi o=>?_,rfl⟩;by_cases z:i<k;exact g i z;have:i=k:=ω;subst this;exact m;rw[r8 a g m];simp only[go_sem];exact⟨[],(JN F).symm⟩;have a:k=l.length:=ω;subst a;simp only[go_sem,BK];rw[r9 g];apply Qg b;exact⟨[],(JN F).symm⟩
end
section
variable (h:List Ob)(l:List Int)(lo gn off:Nat)(row:Nat->List D)(hlen:l.length<1000000)(ho:h[lo]?=some ⟨.arr,gn,1,off+l.length,row⟩)(hr:∀i,i<l.length->row (off+i)=[Qa (l.getD i 0)])
include hlen ho hr
theorem QBE(e:D)(f v:Nat)(z:List D)(U:Qm prog f)(V9:JP e=some (f,v,z))(a:Int->Bool)(hg:au l h lo f v z a)(O:au l (h.map Ob.ro) lo f v z a):
  QO prog 108 h [.ref lo gn off l.length,e] (λd Y=>d=.ref lo gn off (xm a l).length/\∃KQ,Y=h.set lo ⟨.arr,gn,1,off+l.length,KQ⟩/\∀i,i<(xm a l).length->KQ (off+i)=[Qa ((xm a l).getD i 0)]):=by
 refine Q9 func108 ntmps108 results108 λa0 w pl c=>?_;have B:=Qb ho;simp only[go_sem];refine X4 c Tz rfl ?_ (QBD h l lo gn off row hlen (Jf ho) hr e f v z U V9 a (λY n hm hx=>?_)) rfl λd2 H=>?_;simp only[go_sem];exact Mv e;obtain⟨g,rfl⟩:=hx;exact O _ n hm σ λl hl _=>QG hl;subst H;have T:h.set lo ⟨.arr,gn,1,off+l.length,row⟩=h:=AA λi=>by by_cases q:lo=i;subst q;rw[Xi B,ho];rw[JT q]
 rcases QAd (g:=a) (l:=l) with ⟨q,W⟩|⟨i,hi,q,W,V⟩;rw[q,W];apply Qg c;exact⟨row,T.symm,hr⟩;rw[q];have QE:(((i:Nat):Int)==-1)=false:=σ;have C:=JJ (show i<4611686018427387904 from ω);apply Qh c;simp only[go_sem,QE,C];refine ZY (λk s=>∃b:Nat->List D,(∀x,x<l.length->(b (off+x)).length=1)/\(∀j,j<((l.take (i+1+k)).filter λx=>!a x).length->b (off+j)=[Qa (((l.take (i+1+k)).filter λx=>!a x).getD j 0)])/\(∀j,i+1+k<=j->j<l.length->b (off+j)=[Qa (l.getD j 0)]) /\
  s=⟨[(0,.ref lo gn off l.length),(1,e),(5,Qa ((l.take (i+1+k)).filter λx=>!a x).length),(6,Qa (i+1+k:Nat))],h.set lo ⟨.arr,gn,1,off+l.length,b⟩⟩) (l.length-(i+1))
  (s0:=⟨[(0,.ref lo gn off l.length),(1,e),(5,Qa i),(6,Qa (i+1:Nat))],h⟩) QP ⟨row,λx hx=>by rw[hr x hx];rfl,?_,λj _ p=>hr j p,?_⟩ ?_
 rw[vn,V];intro j p;simp at p;rw[hr j ω];simp[QU,p,show j<l.length by omega];rw[vn,V,T];simp[wC (On hi)];rintro k s hk ⟨b,J,u,F,rfl⟩;have af:=QjT l (λx=>!a x) (i+1+k);obtain⟨M,t⟩:=Zc ((l.take (i+1+k)).filter λx=>!a x);obtain⟨j,p⟩:=Zc (i+1+k);have JC:lo<(h.set lo ⟨.arr,gn,1,off+l.length,b⟩).length:=by simpa using B
 have y:(h.set lo ⟨.arr,gn,1,off+l.length,b⟩)[lo]?=some ⟨.arr,gn,1,off+l.length,b⟩:=QI B;rw[<-p]at t u F af ⊢;rw[<-t]at u af ⊢;have EA:j<=l.length:=ω;have C:=JJ (show j<4611686018427387904 from ω);have R:=JJ (show M.length<4611686018427387904 from ω);have Q:∀x,x<h.length->x≠lo->(h.set lo ⟨.arr,gn,1,off+l.length,b⟩)[x]? = h[x]? := λx _ hx=>Qo (Zb hx);apply Qg c;first|refine WN EA (λm=>?_) (λm=>?_)|refine WO EA (λm=>?_) (λm=>?_)
 have U5:=F j (Qv _) m;have E:off+j<off+l.length:=ω;simp only[go_sem,m,y,U5,E];refine X4 c U V9 ?_ (hg _ (l.getD j 0) (mz m) σ Q) rfl λd2 H=>?_;simp only[go_sem];exact DV _;subst H;have o:=uT l (λx=>!a x) j m;rw[<-t,show l.getD j default=l.getD j 0 from rfl]at o;cases S:a (l.getD j 0);rw[Qe (by simp only[S,GW])]at o;have ZX:M.length<l.length:=ω;have jN:off+M.length<off+l.length:=ω;have P:List.drop 1 (b (off+M.length))=[]:=bV (by rw[J _ ZX];exact Qv _);apply Qh c;simp only[go_sem,Qj,y,C,R,ZX,jN,P];have Z:i+1+(k+1)=j+1:=ω;have CP:(M++[l.getD j 0]).length=M.length+1:=σ;refine⟨ω,_,Qs.frame (fr':=[(0,.ref lo gn off l.length),(1,e),(5,Qa (M.length+1:Nat)),(6,Qa (j+1:Nat))]) (by simp only[go_sem]),λx=>bif x==off+M.length then [Qa (l.getD j 0)] else b x,?_,?_,?_,?_⟩;intro x hx;show (bif off+x==off+M.length then [Qa (l.getD j 0)] else b (off+x)).length=1;cases (off+x==off+M.length);exact J x hx;rfl;rw[Z,o];intro x hx;simp at hx;by_cases L:x=M.length;subst L;simp only[Ot,wD];simp;rfl;have I:(off+x==off+M.length)=false:=ξ;have:=u x ω;simp only[I,ju,this];rw[QU,QU,JX ω];rfl;intro x YS K;have I:(off+x==off+M.length)=false:=ξ;simp only[I,ju];exact F x ω K;rw[Z,o,CP];rfl;rw[Qd (by simp only[S,BI];decide)]at o;apply Qh c;simp only[go_sem,C];refine⟨ω,_,Qs.frame (fr':=[(0,.ref lo gn off l.length),(1,e),(5,Qa M.length),(6,Qa (j+1:Nat))]) (by simp only[go_sem]),b,J,?_,?_,?_⟩;rw[show i+1+(k+1)=j+1 by omega,o];exact u;intro x YS K;exact F x ω K;rw[show i+1+(k+1)=j+1 by omega,o];rfl;subst m;rw[Wo]at t;have jk:M=xm a l:=t;rw[<-jk];have E:M.length<=l.length:=ω;apply Qh c;simp only[go_sem,y,E];refine rQ Ch c rfl y rfl rfl rfl rfl ξ rfl rfl rfl rfl ?_;have N:∀r:Ob,(h.set lo r)[lo]?=some r:=λr=>QI B;apply Qh c;simp only[go_sem,Qj,N,E];refine⟨σ,_,rfl,λx hx=>by rw[rO ω];exact u x hx⟩
theorem QBJ(g:D)(f c:Nat)(e:List D)(n:Qm prog f)(o:JP g=some (f,c,e))(a:Int->Bool)(m:au l h lo f c e a)(j:au l (h.map Ob.ro) lo f c e a):
  QO prog 108 h [.ref lo gn off l.length,g] (λd k=>d=.ref lo gn off (xm a l).length/\∃b,k=h.set lo ⟨.arr,gn,1,off+(xm a l).length,b⟩/\∀i,i<(xm a l).length->b (off+i)=[Qa ((xm a l).getD i 0)]):=by
 refine QO.cut (QBE h l lo gn off row hlen ho hr g f c e n o a m j) ?_;rintro d k ⟨rfl,b,rfl,p⟩;have:=Yg (λx=>!a x) l;refine⟨lo,⟨.arr,gn,1,off+l.length,b⟩,off+(xm a l).length,QI (Qb ho),rfl,by simp only[xm];omega,rfl,b,by rw[J4],p⟩
end
section
variable (h:List Ob)(l:List Int)(hlen:l.length<1000000)
include hlen
theorem QBK(e:D)(f j:Nat)(p:List D)(t:Qm prog f)(y:JP e=some (f,j,p))(c:Int->Bool)(r:QaJ l (h.map Ob.ro) f j p c):
  Zl prog 102 h [ints l,e] (λd=>d=Qa (x8 c l)):=by
 refine ZN func102 ntmps102 results102 λq w B F v C b=>?_;simp only[go_sem];refine ZY (λk s=>(∀i,i<k->c (l.getD i 0)=false)/\s=⟨[(0,ints l),(1,e),(7,Qa l.length),(8,Qa k)],F⟩) l.length QP ⟨λi o=>absurd o ω,rfl⟩ ?_;rintro k s n ⟨g,rfl⟩;apply Qg b;have z:=JJ (show k<4611686018427387904 from ω);first|refine WN n (λa=>?_) (λa=>?_)|refine WO n (λa=>?_) (λa=>?_)
 simp only[go_sem,a];refine X4 b t y ?_ (r F (l.getD k 0) (mz a) (by rw[<-v];exact VZ.refl F)) rfl λd2 u=>?_;simp only[go_sem];exact DV _;subst u;apply Qh b;cases m:c (l.getD k 0);simp only[go_sem];refine⟨a,_,Qs.frame (by simp only[go_sem,z]),λi o=>?_,rfl⟩;by_cases x:i<k;exact g i x;have:i=k:=ω;subst this;exact m;rw[r8 a g m];simp only[go_sem];exact⟨[],(JN F).symm⟩;have a:k=l.length:=ω;subst a;simp only[go_sem,BK];rw[r9 g];apply Qg b;exact⟨[],(JN F).symm⟩
theorem QaL(a:D)(f b:Nat)(e:List D)(m:Qm prog f)(r:JP a=some (f,b,e))(c:Int->Bool)(k:QaJ l (h.map Ob.ro) f b e c):
  Zl prog 70 h [ints l,a] (λd=>d=QV (decide (0<=x8 c l))):=by
 refine ZN func70 ntmps70 results70 λi w s F p t g=>?_;simp only[go_sem];refine X4 g Tz rfl ?_ (QBK F l hlen a f b e m r c (λq n j hx=>?_)) rfl λd2 o=>?_;simp only[go_sem];exact Mv a;rw[p,r7]at hx;exact k q n j hx;subst o;apply Qg g;exact⟨[],(JN F).symm⟩
end
structure xr (h:List Ob) (p:Nat) (L:Loc) (M:Qn):Prop where
 ob:(h.map Ob.ro)[p]?=some (kU M.lk L.t L.b L.o L.v L.m M.Qc M.acc).ro
 tr:XQ h L.t M.T
 Wc:(h.map Ob.ro)[L.b]?=some (QT .i64 L.cb L.eb).ro
 KC:Vk L.eb (λid=>(Qi M.N id).map λ_=>.ptr (L.le id) 0 0 0)
 JL:∀id n,Qi M.N id=some n->(h.map Ob.ro)[L.le id]?=some (qb (qD L.lq n) n).ro
 XS:∀id n,Qi M.N id=some n->n.c.leaf=true->∃k:Nat,n.c.ZV=k/\PX h (L.lq id) k n.c.bytes n.q
 zG:MF h L.o M.To M.A
 Ys:F4 h L.v M.Lv
 Wt:(h.map Ob.ro)[L.m]?=some (QT .i64 L.cm L.em).ro
 Yt:Vk L.em (λid=>if M.ks id=true then some (.ptr (L.lk id) 0 0 0) else none)
 kids:∀id,M.ks id=true->F4 h (L.lk id) (M.KT id)
def ZI.ro{b h p L M}(C:ZI b h p L M):xr h p L M:=
 ⟨Jf C.ob,C.tr.toR,Jf C.Wc,C.KC,λid n a=>Jf (C.JL id n a).1,λid n a c=>by obtain⟨k,f,e⟩:=C.XS id n a c;exact⟨k,f,e.toR⟩,C.zG.toR,C.Ys.toR,Jf C.Wt,C.Yt,λid d=>(C.kids id d).toR⟩
def xr.more{h h':List Ob}{p L M}(e:∀(l:Nat) (o:Ob),(h.map Ob.ro)[l]?=some o->(h'.map Ob.ro)[l]?=some o)(C:xr h p L M):xr h' p L M:=
 ⟨e _ _ C.ob,C.tr.more e,e _ _ C.Wc,C.KC,λid n a=>e _ _ (C.JL id n a),λid n a b=>by obtain⟨k,f,d⟩:=C.XS id n a b;exact⟨k,f,d.more e⟩,C.zG.more e,C.Ys.more e,e _ _ C.Wt,C.Yt,λid c=>(C.kids id c).more e⟩
def xr.look{h p}{L:Loc}{M:Qn}(C:xr h p L M){a n}(b:Qi M.N a=some n):Je L.eb a=some (.ptr (L.le a) 0 0 0):=by rw[C.KC.at_,b];rfl
def QBL{h:List Ob}{p q L}{M:Qn}(C:xr h p L M){a}{n:Nd}(g:Qi M.N a=some n)(j:n.c.leaf=true)(t:n.c.iD=a)(i:(h.map Ob.ro)[q]?=some ⟨.Wp,0,1,1,λ_=>[.ptr p 0 0 0]⟩):
  Zl prog 110 h [Qa a,.ptr q 0 0 0] (λd=>d=QV (n.q.l.isEmpty)):=by
 have f:=C.ob;have c:=C.Wc;have b:=C.JL a n g;have u:=C.look g;obtain⟨k,z,s⟩:=C.XS a n g j;have v:qD L.lq n=.ptr (L.lq a) 0 0 0:=by unfold qD;rw[Qe j,t]
 rw[v]at b;have e:((n.q.l.length:Int)==0)=(n.q.l.isEmpty):=by
  cases n.q.l with
  | nil=>rfl
  | cons x l=>simp;omega
 refine ZN func110 ntmps110 results110 λr w y F o B m=>?_;rw[<-o]at i f c b;have I:=Qb i;have H:=Qb f;have J:=Qb c;have E:=Qb b;simp only[go_sem,i,f,c,b,u];apply ZH m Pj (PY (s.more (VM o)));apply Qh m;simp only[go_sem,e];exact⟨[],(JN F).symm⟩
def QBM(h a):Zl prog 108 h [.nil,a] (λd=>d=.nil):=by refine ZN func108 ntmps108 results108 λc w f F g i b=>?_;simp only[go_sem];refine X4 b Tz rfl ?_ (Qhe F a) rfl λd2 e=>?_;simp only[go_sem];exact Mv a;subst e;apply Qg b;exact⟨[],(JN F).symm⟩
def wj(T:List Ql):List Int:=(T.filter (·.leaf)).map (·.iD)
def Gt(M:Qn)(a:Int):Bool:=(Qz M a).q.l.isEmpty
def V5(M:Qn):List Int:=xm (Gt M) (wj M.T)
def mA{M:Qn}(I:QB M){id}(h:id∈wj M.T):∃n,Qi M.N id=some n/\n.c.leaf=true/\n.c.iD=id:=by
 obtain⟨c,e,rfl⟩:=Jw.1 h;obtain⟨f,d⟩:=JB.1 e;have a:=(VK I.tree.rising).2 ⟨f,rfl⟩;rw[I.nodes,u6]at a;cases b:Qi M.N c.iD with
 | none=>rw[b]at a;cases a
 | some n=>rw[b,Kq,Q7]at a;exact⟨n,rfl,by rw[a];exact d,by rw[a]⟩
section
variable {h:List Ob}{p:Nat}{L:Loc}{M:Qn}(C:xr h p L M)(I:QB M)
include C I
theorem QBN:Xo prog 73 h [.ptr p 0 0 0] (λd g=>Kt h.length (h++g) d (V5 M)):=by
 have XY:(wj M.T).length<1000000:=by have:=Yg (λc:Ql=>c.leaf) M.T;have y:=I.tree.len;simp only[wj,KJ];omega
 have t:=C.ob;refine Cg Vr 200 func73 rfl ntmps73 results73 rfl λW w pl F Q Zp i=>?_;rw[<-Q]at t;have Qq:=Qb t;simp only[go_sem,Qj,t,Qq];obtain⟨B,v⟩:∃B:List Ob,B=[⟨.one,0,1,1,λ_=>[.ptr p 0 0 0]⟩]:=⟨_,rfl⟩;have r:B.length=1:=by rw[v];rfl
 have ZF:B[0]?=some ⟨.one,0,1,1,λ_=>[.ptr p 0 0 0]⟩:=by rw[v];rfl
 have Rb:=v;rw[<-Rb];have V:xr F p L M:=C.more (VM Q);have CB:xr (F++B) p L M:=V.more HU;obtain⟨m,c,es,Z,hm,hT⟩:=CB.tr;refine HG i Qt8 rfl ?_ (QwP _ L.t m c hT (by have:=I.tree.len;omega) Z hm) rfl λd g O=>?_;simp only[go_sem];rw[show (M.T.filter (·.leaf)).map (·.iD)=wj M.T from rfl]at O;rcases O with ⟨rfl,h3⟩|⟨b,s,a,l,rfl,E,YL,hr⟩;apply Kh i;refine X4 i Qgd rfl ?_ (QBM _ (.clo 110 0 [.ptr F.length 0 0 0])) rfl λd2 u=>?_;simp only[go_sem];subst u;apply Qg i;refine⟨_,rfl,.inl ⟨rfl,?_⟩⟩;rw[V5,h3];rfl
 .apply Kh i;have yY:F.length+1<=b:=by have R:(F++B).length<=b:=E.1;rw[Zn,r]at R;exact R
  obtain⟨H,j⟩:=Zc (F++(B++g));have K:∀x:Nat,x<F.length->H[x]? = F[x]? := λx hx=>by rw[j];exact QG hx
  have T:H[b]?=some ⟨.arr,s,1,a+(wj M.T).length,l⟩:=by rw[j,<-WJ];exact YL
  have a1:F.length+1<=H.length:=by rw[j];simp[r]
  have N:H[F.length]?=some ⟨.one,0,1,1,λ_=>[.ptr p 0 0 0]⟩:=by rw[j,Vq rfl,QG ω];exact ZF
  rw[<-j];have f:∀k:List Ob,(∀x:Nat,H[x]? = k[x]?\/(k[x]? = (H[x]?).map Ob.ro))->k.length=H.length->au (wj M.T) k b 110 0 [.ptr F.length 0 0 0] (Gt M):=by
   intro k y JY S n WT a0 J;have q:∀(x:Nat) (o:Ob),x<F.length+1->(H.map Ob.ro)[x]?=some o->(S.map Ob.ro)[x]?=some o:=λx o hx e=>by have e1:=J x ω ω;rw[KR]at e ⊢;rw[e1];rcases y x with z|z;rw[<-z];exact e;rw[z,Sz,<-e];congr 1;funext o;exact ro_ro o
   obtain⟨Y,P,hl,Zs⟩:=mA I WT;have Ji:Qz M n=Y:=by unfold Qz;rw[P];rfl
   have:=QBL (V.more (h':=S) λx o e=>q x o (by have:=Qb e;rw[KJ]at this;omega) (by rw[KR,K x (by have:=Qb e;rw[KJ]at this;omega),<-KR];exact e)) P hl Zs (q F.length ⟨.Wp,0,1,1,λ_=>[.ptr p 0 0 0]⟩ ω (by rw[KR,N];rfl));unfold Gt;rw[Ji];exact this
  refine ZT i Qgd (QBJ H (wj M.T) b s a l XY T hr (.clo 110 0 [.ptr F.length 0 0 0]) 110 0 [.ptr F.length 0 0 0] Qt9 rfl (Gt M) (f H (λx=>.inl rfl) rfl) (f (H.map Ob.ro) (λx=>.inr (by rw[KR])) σ)) λd y u=>?_;obtain⟨rfl,U,rfl,Ii⟩:=u;apply Qg i;refine Kt.done Zp ⟨(B++g).set (b-F.length) ⟨.arr,s,1,a+(xm (Gt M) (wj M.T)).length,U⟩,?_⟩ (.inr ⟨b,s,a,U,rfl,?_,?_,Ii⟩);rw[j,Li _ _ (by omega:F.length<=b)];exact⟨by have:=E.1;omega,E.2⟩;exact QI (Qb T)
theorem QaM:Zl prog 73 h [.ptr p 0 0 0] (λd=>d=ints (V5 M)):=Kt.closed (QBN C I)
end
def aw(l:List Int)(v:Int):Int:=if l.contains v then (l.idxOf v:Nat) else -1
def QBR(l:List Int)(a)(n:l.length<2147483648):QM prog 140 [ints l,Qa a] (QR (Qa (aw l a))):=by
 refine Q1 0 func140 ntmps140 results140 λi w e=>?_;simp only[go_sem];refine ZY (λk s=>(l.take k).contains a=false/\s=⟨[(0,ints l),(1,Qa a),(6,ints l),(7,Qa l.length),(8,Qa k)],[]⟩) l.length (s0:=⟨[(0,ints l),(1,Qa a),(6,ints l),(7,Qa l.length),(8,Qa 0)],[]⟩) QP ⟨σ,rfl⟩ ?_;rintro k s o ⟨c,rfl⟩;apply Qg e;refine VX (λh=>?_) (λh=>?_);have d:k<l.length:=by simpa using h
 have g:=getD_take l 0 k d;simp only[go_sem,d];refine VX (λb=>?_) (λb=>?_);simp only[go_sem];have f:l=l.take k++a::l.drop (k+1):=by
  conv=>lhs;rw[<-AF (k+1) l,g]
  simp at b;simp[b]
 have:aw l a=k:=by
  have j:l.contains a=true:=by rw[f];simp
  have m:¬ a∈l.take k:=by simpa using c
  rw[aw,j];simp only[Vu];rw[f,List.idxOf_append,Qd m];simp;omega
 rw[this];simp only[go_sem];refine⟨ω,_,Qs.frame (by simp only[go_sem,JJ (show k<4611686018427387904 from ω)]),?_,rfl⟩;rw[g];simp at c b ⊢;exact⟨c,b⟩;have d:k=l.length:=by simp at h;omega
 simp only[go_sem];apply Qg e;subst d;simp at c;simp[aw,c]
def QBS(l:List Int)(a)(d:l.length<2147483648):QM prog 104 [ints l,Qa a] (QR (QV (l.contains a))):=by refine Q1 0 func104 ntmps104 results104 λc w b=>?_;simp only[go_sem];apply QZ b Quq (QBR l a d);apply Qg b;unfold aw;cases l.contains a<;>simp
def QBT{h:List Ob}{p j i L M}(C:xr h p L M)(I:QB M)(b n)(f:(h.map Ob.ro)[j]?=some ⟨.Wp,0,1,1,λ_=>[.ptr p 0 0 0]⟩)(e:(h.map Ob.ro)[i]?=some ⟨.Wp,0,1,1,λ_=>[Qa b]⟩):
  Zl prog 103 h [Qa n,.ptr j 0 0 0,.ptr i 0 0 0] (λd=>d=QV ((up M.T n).contains b)):=by
 have c:=C.ob;refine ZN func103 ntmps103 results103 λk w m F g o a=>?_;rw[<-g]at c f e;have q:=Qb c;have r:=Qb f;have l:=Qb e;simp only[go_sem];apply Qy a [0,1,2,3,4,6,1005,1007,8];simp only[go_sem,c,f,e];apply KW a fZ (sN (C.tr.more (VM g)) I.tree.toTreeInv n);apply ZB a;have s:(ZZ M.T 16 n).length<=16:=Bf (L:=M.T) (n:=16) (id:=n);apply ZP a Qt6 (QBS (ZZ M.T 16 n) b ω);apply ZB a;exact⟨[],(JN F).symm,rfl⟩
def QBU(g)(l:List Int):(xm g l).length<=l.length:=Yg _ _
def yq(M:Qn)(a:Int):Bool:=(V5 M).any λn=>(up M.T n).contains a
def QkM{M:Qn}(I:QB M):(V5 M).length<=64:=by have a:=QBU (Gt M) (wj M.T);have d:=Yg (λc:Ql=>c.leaf) M.T;have b:=I.tree.len;simp only[V5,wj,KJ]at a ⊢;omega
def QBV{h p L M}(C:xr h p L M)(I:QB M)(b):
  Zl prog 71 h [.ptr p 0 0 0,Qa b] (λd=>d=QV (yq M b)):=by
 have K:=QkM I;have i:=C.ob;refine Cg Vr 200 func71 rfl ntmps71 results71 rfl λq w y F j J c=>?_;rw[<-j]at i;have N:=Qb i;simp only[go_sem,Qj];have x:xr F p L M:=C.more (VM j);obtain⟨B,f⟩:∃B:List Ob,B=[⟨.one,0,1,1,λ_=>[.ptr p 0 0 0]⟩,⟨.one,0,1,1,λ_=>[Qa b]⟩]:=⟨_,rfl⟩;have u:B[0]?=some ⟨.one,0,1,1,λ_=>[.ptr p 0 0 0]⟩:=by rw[f];rfl
 have v:B[1]?=some ⟨.one,0,1,1,λ_=>[Qa b]⟩:=by rw[f];rfl
 have k:=f;simp only[go_sem]at k;rw[<-k];have m:xr (F++B) p L M:=x.more HU;apply ZH c p7 (QaM m I);apply Qg c;refine X4 c Tw rfl ?_ (QaL (F++B) (V5 M) ω (.clo 103 0 [.ptr F.length 0 0 0,.ptr (F.length+1) 0 0 0]) 103 0 [.ptr F.length 0 0 0,.ptr (F.length+1) 0 0 0] Qt5 rfl (λn=>(up M.T n).contains b) (λs n E hx=>?_)) rfl λd2 r=>?_;simp only[go_sem];have a:∀(l:Nat) (o:Ob),((F++B).map Ob.ro)[l]?=some o->(s.map Ob.ro)[l]?=some o:=λl o e=>by obtain⟨g,rfl⟩:=hx;have t:=Jf ((QG (Qb e)).trans e:((F++B).map Ob.ro++g)[l]?=some o);rw[t];rw[KR]at e;obtain⟨z,H,rfl⟩:=WK.1 e;rw[ro_ro]
 exact QBT (m.more a) I b n (a _ _ (by rw[KR,Vq rfl,u];rfl)) (a _ _ (by rw[KR,VS rfl,v];rfl));subst r;apply Qg c;refine⟨B,rfl,?_⟩;rw[gV];rfl
def QBW{h:List Ob}{l k p o}{A B:List Ql}(v:XQ h l A)(u:XQ h k B)(b)(j:(h.map Ob.ro)[p]?=some ⟨.Wp,0,1,1,λ_=>[.ptr l 0 0 0]⟩)(i:(h.map Ob.ro)[o]?=some ⟨.Wp,0,1,1,λ_=>[.ptr k 0 0 0]⟩)(E:A.length<100000)(C:B.length<100000):
  Zl prog 106 h [Qa b,.ptr p 0 0 0,.ptr o 0 0 0] (λd=>d=QV (Ij A b || Ij B b)):=by
 obtain⟨x,hx⟩:=Zc ((Qw A b).getD default);obtain⟨y,m⟩:=Zc ((Qw B b).getD default);have t:Ij A b=decide (1<QJ x.rt):=by rw[hx];rfl
 have s:Ij B b=decide (1<QJ y.rt):=by rw[m];rfl
 rw[t,s];refine ZN func106 ntmps106 results106 λq w z F f H a=>?_;rw[<-f]at j i;have I:=Qb j;have r:=Qb i;simp only[go_sem,j];have e:=PI (v.more (VM f)) b;have c:=λG:List Ob=>PI ((u.more (VM f)).more (HU (g:=G))) b;rw[<-hx]at e;simp only[<-m]at c;apply ZH a wQ e;apply Qh a;simp only[go_sem,Qj,i,r];apply ZH a wQ (c _);apply Kh a;cases n:decide (1<QJ x.rt) with
 | true=>apply QZ a DP (FM x);apply Qh a;simp only[go_sem,Qj,n];exact⟨_,rfl⟩
 | false=>apply QZ a DP (FM x);apply Qh a;simp only[go_sem,Qj,n];apply QZ a DP (FM y);apply Kh a;exact⟨_,rfl⟩
def QaN{h c b}{A B:List Ql}(z:XQ h c A)(y:XQ h b B)(m:A.length<100000)(k:B.length<100000)(s:(J1 A B).length<1000000):
  Zl prog 72 h [.ptr c 0 0 0,.ptr b 0 0 0] (λd=>d=QV (lP A B)):=by
 refine Cg Vr 200 func72 rfl ntmps72 results72 rfl λr w E F j K f=>?_;simp only[go_sem,Qj];obtain⟨G,i⟩:∃G:List Ob,G=[⟨.one,0,1,1,λ_=>[.ptr c 0 0 0]⟩,⟨.one,0,1,1,λ_=>[.ptr b 0 0 0]⟩]:=⟨_,rfl⟩;have x:G[0]?=some ⟨.one,0,1,1,λ_=>[.ptr c 0 0 0]⟩:=by rw[i];rfl
 have C:G[1]?=some ⟨.one,0,1,1,λ_=>[.ptr b 0 0 0]⟩:=by rw[i];rfl
 rw[<-i];have q:XQ (F++G) c A:=(z.more (VM j)).more HU;have p:XQ (F++G) b B:=(y.more (VM j)).more HU;apply ZH f Qf7 (Qj2 q p m k);apply Qg f;refine X4 f Tw rfl ?_ (QaL (F++G) (J1 A B) s (.clo 106 0 [.ptr F.length 0 0 0,.ptr (F.length+1) 0 0 0]) 106 0 [.ptr F.length 0 0 0,.ptr (F.length+1) 0 0 0] Qt7 rfl (λid=>Ij A id || Ij B id) (λu n I hx=>?_)) rfl λd2 t=>?_;simp only[go_sem];have a:∀(l:Nat) (o:Ob),((F++G).map Ob.ro)[l]?=some o->(u.map Ob.ro)[l]?=some o:=λl o e=>by obtain⟨g,rfl⟩:=hx;have v:=Jf ((QG (Qb e)).trans e:((F++G).map Ob.ro++g)[l]?=some o);rw[v];rw[KR]at e;obtain⟨H,J,rfl⟩:=WK.1 e;rw[ro_ro]
 exact QBW (q.more a) (p.more a) n (a _ _ (by rw[KR,Vq rfl,x];rfl)) (a _ _ (by rw[KR,VS rfl,C];rfl)) m k;subst t;apply Qg f;refine⟨G,rfl,?_⟩;rw[gV];rfl
def Yd(c:Ql):Nd:=⟨c,0,default,default,default,⟨[],0,0,0,0,0,0⟩⟩
def QkP(h:List Ob)(c:Ql)(d:D)(a:List Ob):Prop:=
 d=.ptr (h.length+1) 0 0 0/\∃g b,a=h++g/\2<=g.length/\a[h.length+1]?=some (qb (if c.leaf=true then .ptr b 0 0 0 else .raw (.pointer none)) (Yd c)) /\
  (c.leaf=true->∃k:Nat,c.ZV=k/\xh (λl=>h.length+2<=l) a b k c.bytes ⟨[],0,0,0,0,0,0⟩)
@[go_sem] theorem QKR(d a n):a::List.drop 1 (Vf d n)=Vf a n:=rfl
def QBX(h)(c:Ql)(N:c.leaf=true->1<=c.ZV/\c.ZV<=64/\1<=c.bytes/\c.bytes<=1048576):
  QO prog 75 h [Xc c] (λd O=>QkP h c d O):=by
 obtain⟨o,n,J,m,j,i,z,f⟩:=c;cases J with
 | false=>refine Q9 func75 ntmps75 results75 λb w I p=>?_;simp only[go_sem,Qj,Qj];refine⟨rfl,_,0,rfl,σ,?_,λe=>by cases e⟩;rw[VS (k:=1) rfl];show some (_:Ob)=some (qb (.raw (.pointer none)) _);refine congrArg some ?_;unfold qb Vf Yd;refine congrArg (Ob.mk .one 0 60 1) ?_;funext _;dsimp only;simp only[Ql.cells,qs,qv];rfl
 | true=>
  obtain⟨L,K,y,x⟩:=N rfl;dsimp only at L K y x;obtain⟨k,rfl⟩:∃k:Nat,z=k:=⟨z.toNat,ω⟩;refine Q9 func75 ntmps75 results75 λb w I p=>?_;simp only[go_sem,Qj,Qj];generalize R:(⟨.one,0,14,1,_⟩:Ob)=P;generalize t:(⟨.one,0,60,1,_⟩:Ob)=H;have C:H=qb (.raw (.pointer none)) (Yd ⟨o,n,true,m,j,i,(k:Int),f⟩):=by rw[<-t];unfold qb Vf Yd;refine congrArg (Ob.mk .one 0 60 1) ?_;funext _;dsimp only;simp only[Ql.cells,qs,qv];rfl
  obtain⟨G,a⟩:∃G:List Ob,G=[P,H]:=⟨_,rfl⟩;have q:G.length=2:=by rw[a];rfl
  have M:=Qx6 (h++G) k f ω ω y x;have U:(h++G)[h.length+1]?=some (qb (.raw (.pointer none)) (Yd ⟨o,n,true,m,j,i,(k:Int),f⟩)):=by rw[a,<-C];exact VS (k:=1) rfl
  have v:=M;rw[a]at v;refine ZT p Qua v λd T B=>?_;rw[<-a]at B;obtain⟨rfl,Q,g,rfl,S⟩:=B;have E:(G++g)[1]?=some (qb (.raw (.pointer none)) (Yd ⟨o,n,true,m,j,i,(k:Int),f⟩)):=by rw[a,<-C];rfl
  have u:=Qb E;apply Qh p;simp only[go_sem,Qj,E];have r:(h++G).length=h.length+2:=by rw[Zn,q]
  refine⟨rfl,_,h.length+G.length+2,rfl,by simp[q],?_,λ_=>⟨k,rfl,?_⟩⟩;rw[VS (k:=1) rfl];rw[QI u];rfl;rw[r]at Q;rw[q];refine(Q.step (S':=λl=>h.length+2<=l) λl V F=>⟨F,?_⟩);have W:h.length+2<=l:=F;have e:∀X:Ob,h++(G++g).set 1 X=(h++G++g).set (h.length+1) X:=λX=>by rw[WJ,Li (s:=h) (h.length+1) X ω,cw]
  rw[e];exact Qo ω
def NG{a:Nat->Tag}{h:List Ob}{l:Nat}{b:Tag}(f:a l=b)(o:Ob):∀t,t≠b->∀j,j<h.length->a j=t->a j=t/\(h.set l o)[j]? = h[j]? :=
 λt d j _ c=>⟨c,Qo (λe=>d (by rw[<-c,<-e,f]))⟩
def jl{a:Nat->Tag}{h:List Ob}{l:Nat}{b:Tag}(e:a l=b)(o:Ob){j:Nat}{x:Ob}{t:Tag}(f:a j=t)(d:t≠b)(c:h[j]?=some x):(h.set l o)[j]?=some x:=
 ((NG e o t d j (Qb c) f).2).trans c
section
variable {own:Nat->Tag}{h:List Ob}{p:Nat}{L:Loc}{M:Qn}(C:ZI own h p L M)
include C
theorem ZI.congrN{N}(e:∀id,Qi N id=Qi M.N id):ZI own h p L { M with N:=N }:=
 ⟨C.ob,C.op,C.tr,C.Wc,C.KC.to λid=>by dsimp only;rw[e],C.ow,λid n a=>C.JL id n (by rw[<-e];exact a),λid n a=>C.XS id n (by rw[<-e];exact a),C.zG,C.Ys,C.Wt,C.Yt,C.om,C.kids,λid n a=>C.qL id n (by rw[<-e];exact a)⟩
theorem ZI.QB1{b c}(R:WU (λl=>own l=.tree) h b c):ZI own (h.set p (kU M.lk b L.b L.o L.v L.m M.Qc M.acc)) p { L with t:=b } { M with T:=c }:=by
 have r:=NG (h:=h) C.op (kU M.lk b L.b L.o L.v L.m M.Qc M.acc);exact⟨QI (Qb C.ob),C.op,R.step (r _ σ),jl C.op _ C.ow σ C.Wc,C.KC,C.ow,λj m a=>⟨jl C.op _ (C.JL j m a).2 σ (C.JL j m a).1,(C.JL j m a).2⟩,λj m a d=>by obtain⟨k,g,f⟩:=C.XS j m a d;exact⟨k,g,f.step (r _ σ)⟩,C.zG.step (r _ σ),C.Ys.step (r _ σ),jl C.op _ C.om σ C.Wt,C.Yt,C.om,λj e=>(C.kids j e).step (r _ σ),C.qL⟩
theorem ZI.QB2{b c d}(R:jF (λl=>own l=.on) h b c d):ZI own (h.set p (kU M.lk L.t L.b b L.v L.m M.Qc M.acc)) p { L with o:=b } { M with To:=c,A:=d }:=by
 have r:=NG (h:=h) C.op (kU M.lk L.t L.b b L.v L.m M.Qc M.acc);exact⟨QI (Qb C.ob),C.op,C.tr.step (r _ σ),jl C.op _ C.ow σ C.Wc,C.KC,C.ow,λj m a=>⟨jl C.op _ (C.JL j m a).2 σ (C.JL j m a).1,(C.JL j m a).2⟩,λj m a e=>by obtain⟨k,i,g⟩:=C.XS j m a e;exact⟨k,i,g.step (r _ σ)⟩,R.step (r _ σ),C.Ys.step (r _ σ),jl C.op _ C.om σ C.Wt,C.Yt,C.om,λj f=>(C.kids j f).step (r _ σ),C.qL⟩
end
def jQ(N:List Nd)(a:Int):List Nd:=N.filter λn=>n.c.iD != a
def CX(N a j):Qi (jQ N a) j=if j=a then none else Qi N j:=by
 unfold Qi jQ;rw[List.find?_filter];split;rename_i e;subst e;rw[j7];intro x _;simp;rename_i e;congr 1;funext x;cases b:x.c.iD==j with
 | false=>simp
 | true=>
  have:x.c.iD=j:=by simpa using b
  simp[this,e]
section
variable {own:Nat->Tag}{h:List Ob}{p:Nat}{L:Loc}{M:Qn}(C:ZI own h p L M)
include C
theorem ZI.QB3(b):ZI own (h.set L.b (QT .i64 L.cb (J9 L.eb b))) p { L with eb:=J9 L.eb b } { M with N:=jQ M.N b }:=by
 have r:=NG (h:=h) C.ow (QT .i64 L.cb (J9 L.eb b));have f:∀j m,Qi (jQ M.N b) j=some m->Qi M.N j=some m:=λj m a=>by rw[CX]at a;split at a;cases a;exact a
 refine⟨jl C.ow _ C.op σ C.ob,C.op,C.tr.step (r _ σ),QI (Qb C.Wc),(C.KC.del b).to λj=>?_,C.ow,λj m a=>⟨jl C.ow _ (C.JL j m (f j m a)).2 σ (C.JL j m (f j m a)).1,(C.JL j m (f j m a)).2⟩,λj m a c=>?_,C.zG.step (r _ σ),C.Ys.step (r _ σ),jl C.ow _ C.om σ C.Wt,C.Yt,C.om,λj d=>(C.kids j d).step (r _ σ),λj m a=>C.qL j m (f j m a)⟩;dsimp only;rw[CX];split;rfl;rfl;obtain⟨k,g,e⟩:=C.XS j m (f j m a) c;exact⟨k,g,e.step (r _ σ)⟩
theorem ZI.QB4(a):ZI own (h.set L.m (QT .i64 L.cm (J9 L.em a))) p { L with em:=J9 L.em a } { M with ks:=λj=>if j=a then false else M.ks j }:=by have r:=NG (h:=h) C.om (QT .i64 L.cm (J9 L.em a));refine⟨jl C.om _ C.op σ C.ob,C.op,C.tr.step (r _ σ),jl C.om _ C.ow σ C.Wc,C.KC,C.ow,λj m b=>⟨jl C.om _ (C.JL j m b).2 σ (C.JL j m b).1,(C.JL j m b).2⟩,λj m b d=>?_,C.zG.step (r _ σ),C.Ys.step (r _ σ),QI (Qb C.Wt),(C.Yt.del a).to λj=>?_,C.om,λj c=>?_,C.qL⟩;obtain⟨k,g,f⟩:=C.XS j m b d;exact⟨k,g,f.step (r _ σ)⟩;dsimp only;by_cases e:j=a<;>simp[e];dsimp only at c;by_cases e:j=a;rw[Qe e]at c;cases c;rw[Qd e]at c;exact(C.kids j c).step (r _ σ)
theorem ZI.QB5(a){k}(T:Xd (λl=>own l=.Yr a) h k []):∃c d,Kb .i64 L.cm L.em a (.ptr k 0 0 0)=QT .i64 c d /\
  ZI own (h.set L.m (Kb .i64 L.cm L.em a (.ptr k 0 0 0))) p { L with cm:=c,em:=d,lk:=λj=>if j=a then k else L.lk j } { M with ks:=λj=>if j=a then true else M.ks j,KT:=λj=>if j=a then [] else M.KT j }:=by
 obtain⟨c,d,f,i⟩:=C.Yt.set .i64 L.cm a (.ptr k 0 0 0);refine⟨c,d,f,?_⟩;rw[f];have r:=NG (h:=h) C.om (QT .i64 c d);refine⟨jl C.om _ C.op σ C.ob,C.op,C.tr.step (r _ σ),jl C.om _ C.ow σ C.Wc,C.KC,C.ow,λj m b=>⟨jl C.om _ (C.JL j m b).2 σ (C.JL j m b).1,(C.JL j m b).2⟩,λj m b n=>?_,C.zG.step (r _ σ),C.Ys.step (r _ σ),QI (Qb C.Wt),i.to λj=>?_,C.om,λj g=>?_,C.qL⟩;obtain⟨k,f,i⟩:=C.XS j m b n;exact⟨k,f,i.step (r _ σ)⟩;dsimp only;by_cases e:j=a<;>simp[e];dsimp only at g ⊢;by_cases e:j=a;subst e;rw[Qe rfl,Qe rfl];exact T.step (r _ σ);rw[Qd e]at g;rw[Qd e,Qd e];exact(C.kids j g).step (r _ σ)
theorem ZI.QB6{n:Nd}{e q}(E:Qi M.N n.c.iD=none)(w:h[e]?=some (qb (if n.c.leaf=true then .ptr q 0 0 0 else .raw (.pointer none)) n))(o:own e=.x7 n.c.iD)
  (v:n.c.leaf=true->∃k:Nat,n.c.ZV=k/\xh (λl=>own l=.zF n.c.iD) h q k n.c.bytes n.q) (B:n.Ok):∃c b,Kb .i64 L.cb L.eb n.c.iD (.ptr e 0 0 0)=QT .i64 c b /\
  ZI own (h.set L.b (Kb .i64 L.cb L.eb n.c.iD (.ptr e 0 0 0))) p { L with cb:=c,eb:=b,le:=λj=>if j=n.c.iD then e else L.le j,lq:=λj=>if j=n.c.iD then q else L.lq j } { M with N:=n::M.N }:=by
 obtain⟨c,b,t,y⟩:=C.KC.set .i64 L.cb n.c.iD (.ptr e 0 0 0);refine⟨c,b,t,?_⟩;rw[t];have r:=NG (h:=h) C.ow (QT .i64 c b);have d:∀j,Qi (n::M.N) j=if j=n.c.iD then some n else Qi M.N j:=λj=>by unfold Qi;rw[vm];by_cases e:j=n.c.iD;subst e;rw[Qe rfl,Ot];rw[Qd e,VY (λx=>e x.symm)]
 have z:∀j m,Qi M.N j=some m->m.c.iD=j:=λj m a=>QB.id a;have u:∀j m,j≠n.c.iD->Qi M.N j=some m->qD (λj=>if j=n.c.iD then q else L.lq j) m=qD L.lq m:=λj m f a=>by unfold qD;simp only[z j m a,Qd f]
 refine⟨jl C.ow _ C.op σ C.ob,C.op,C.tr.step (r _ σ),QI (Qb C.Wc),y.to λj=>?_,C.ow,λj m a=>?_,λj m a s=>?_,C.zG.step (r _ σ),C.Ys.step (r _ σ),jl C.ow _ C.om σ C.Wt,C.Yt,C.om,λj f=>(C.kids j f).step (r _ σ),λj m a=>?_⟩;dsimp only;rw[d];by_cases e:j=n.c.iD;rw[Qe e,Qe e,Qe e];rfl;rw[Qd e,Qd e,Qd e];dsimp only at a ⊢;rw[d]at a;by_cases e:j=n.c.iD;rw[Qe e]at a;cases a;rw[Qe e,e];refine⟨?_,o⟩;rw[jl C.ow _ o σ w];unfold qD;dsimp only;rw[Qe rfl];rw[Qd e]at a;rw[Qd e,u j m e a];exact⟨jl C.ow _ (C.JL j m a).2 σ (C.JL j m a).1,(C.JL j m a).2⟩;dsimp only at a ⊢;rw[d]at a;by_cases e:j=n.c.iD;rw[Qe e]at a;cases a;rw[Qe e,e];obtain⟨k,i,g⟩:=v s;exact⟨k,i,g.step (r _ σ)⟩;rw[Qd e]at a;rw[Qd e];obtain⟨k,i,g⟩:=C.XS j m a s;exact⟨k,i,g.step (r _ σ)⟩;dsimp only at a;rw[d]at a;by_cases e:j=n.c.iD;rw[Qe e]at a;cases a;exact B;rw[Qd e]at a;exact C.qL j m a
end
def J2(b:List Ql)(M:Qn)(a:Int):Qn:=
 match Qw b a with
 | none=>{ M with N:=jQ M.N a,ks:=λj=>if j=a then false else M.ks j }
 | some c=>if c.leaf=true then { M with N:=Yd c::jQ M.N a,ks:=λj=>if j=a then false else M.ks j }
  else { M with N:=Yd c::jQ M.N a,ks:=λj=>if j=a then true else M.ks j,KT:=λj=>if j=a then [] else M.KT j }
def VV(M:Qn)(a:List Ql):Qn:=(J1 M.T a).foldl (J2 a) { M with T:=a }
def jm(M:Qn)(a:List Ql)(b:Bool):Bool:=(J1 M.T a).any (yq M) || (lP M.T a&&(!b || decide (0<(V5 M).length)))
def XV(M:Qn)(a:List Ql):List Nd:=a.map λc=>Qz (VV M a) c.iD
def xu(b:List Ql)(A:List Int)(a:Int):List Int:=if 1<QJ ((Qw b a).getD default).ls then a::A else A
def qP(M:Qn)(a:List Ql):Qn:={ VV M a with N:=XV M a,To:=a,A:=[] }
def wm(M:Qn)(a:List Ql):Qn:={ qP M a with A:=(V5 (qP M a)).foldl (xu a) [] }
def qf(M:Qn)(b:Bool)(l:List Jj):Int:=
 if Yc M.T M.lk.t l≠0 then Yc M.T M.lk.t l else if jm M (Z5 M.T l) b=true then 24 else 0
def Aj(M:Qn)(l:List Jj):Nat:=if Yc M.T M.lk.t l≠0 then Em M.T l else 0
def Kp(M:Qn)(b:Bool)(l:List Jj):Qn:=if qf M b l=0 then wm M (Z5 M.T l) else M
def QB7(h)(c:Ql)(f:c.leaf=true->1<=c.ZV/\c.ZV<=64/\1<=c.bytes/\c.bytes<=1048576):
  Xo prog 75 h [Xc c] (λd g=>QkP h c d (h++g)):=by
 refine QO.mono (QBX (h.map Ob.ro) c f) ?_;rintro d p ⟨rfl,g,e,rfl,m,a,j⟩;refine⟨g,rfl,by rw[KJ],g,e,rfl,m,?_,λb=>?_⟩;rw[KJ]at a;rw[Ks (by rw[KJ];omega),KJ]at a;rw[Ks ω];exact a;obtain⟨k,i,Q⟩:=j b;refine⟨k,i,Q.step λl _ n=>?_⟩;have o:h.length+2<=l:=by have:(h.map Ob.ro).length+2<=l:=n;rwa [KJ]at this
 exact⟨o,by rw[Ks ω,Ks (by rw[KJ];omega),KJ]⟩
def QkQ{c:Ql}(h:Ql.Ok c):(Yd c).Ok:=
 have z:(0:Nat)<18446744073709551616:=π
 ⟨z,⟨⟨Ln.v8,Ln.v8⟩,⟨Ln.v8,Ln.v8⟩,z,Z7 _,Z7 _⟩,⟨⟨Ln.v8,Ln.v8⟩,z⟩,⟨⟨Ln.v8,Ln.v8⟩,Z7 _⟩,h⟩
def QB8(A B:List Ql):(J1 A B).length<=A.length+B.length:=by
 have b:=P7 (λi=>(sorted (Ac A B)).getD i 0) (sorted (Ac A B)).length;have d:(sorted (Ac A B)).length=(Ac A B).length:=HL _;have a:(Ac A B).length<=(A.map (·.iD)++B.map (·.iD)).length:=Yg _ _;have c:(J1 A B).length<=(sorted (Ac A B)).length:=by simpa[J1,jK] using b
 simp at a;omega
section
variable {T2:List Ql}(hr:WD T2)
include hr
theorem QB9(M:Qn)(j a:Int):Qi (J2 T2 M j).N a=if a=j then (Qw T2 a).map Yd else Qi M.N a:=by
 unfold J2;cases d:Qw T2 j with
 | none=>dsimp only;rw[CX];by_cases e:a=j;subst e;rw[Qe rfl,Qe rfl,d];rfl;rw[Qd e,Qd e]
 | some c=>
  have f:=((VK hr).1 d).2;have b:Qi (Yd c::jQ M.N j) a=if a=j then (Qw T2 a).map Yd else Qi M.N a:=by
   by_cases e:a=j;subst e;rw[Qe rfl,d];unfold Qi;rw[vm,show ((Yd c).c.iD==a)=true by rw[show (Yd c).c.iD=c.iD from rfl,f];exact Ot _];rfl;rw[Qd e];have:Qi (Yd c::jQ M.N j) a=Qi (jQ M.N j) a:=by unfold Qi;rw[vm,show ((Yd c).c.iD==a)=false by rw[show (Yd c).c.iD=c.iD from rfl,f];exact VY (λx=>e x.symm)]
   rw[this,CX,Qd e]
  dsimp only;split;exact b;exact b
theorem Gu(a:Int):∀(l:List Int) (M:Qn),Qi (l.foldl (J2 T2) M).N a=if a∈l then (Qw T2 a).map Yd else Qi M.N a
 | [],M=>σ
 | j::l,M=>by rw[qX,Gu a l,QB9 hr];by_cases c:a∈l;rw[Qe c,Qe (Js _ c)];rw[Qd c];by_cases b:a=j;rw[Qe b,Qe (by rw[b];exact Jo)];rw[Qd b,Qd (by simp[c,b])]
omit hr in
theorem QCa(M:Qn)(j a:Int):(J2 T2 M j).ks a=if a=j then (match Qw T2 a with|none=>false|some c=>!c.leaf) else M.ks a:=by
 unfold J2;by_cases e:a=j;subst e;rw[Qe rfl];cases d:Qw T2 a with
 | none=>simp
 | some c=>cases b:c.leaf<;>simp[b]
 rw[Qd e];cases d:Qw T2 j with
 | none=>simp[e]
 | some c=>cases b:c.leaf<;>simp[e,b]
omit hr in
theorem QkR(a):∀(l:List Int) (M:Qn),(l.foldl (J2 T2) M).ks a=if a∈l then (match Qw T2 a with|none=>false|some c=>!c.leaf) else M.ks a
 | [],M=>σ
 | j::l,M=>by rw[qX,QkR a l,QCa];by_cases d:a∈l;rw[Qe d,Qe (Js _ d)];rw[Qd d];by_cases b:a=j;rw[Qe b,Qe (by rw[b];exact Jo)];rw[Qd b,Qd (by simp[d,b])]
omit hr in
theorem QCb(M:Qn)(j a:Int){x}(h:x∈(J2 T2 M j).KT a):x∈M.KT a:=by unfold J2 at h;split at h;exact h;split at h;exact h;dsimp only at h;split at h;cases h;exact h
omit hr in
theorem mC(a){x}:∀(l:List Int) (M:Qn),x∈(l.foldl (J2 T2) M).KT a->x∈M.KT a
 | [],M,h=>h
 | j::l,M,h=>QCb M j a (mC a l (J2 T2 M j) h)
omit hr in
theorem QkS(M:Qn)(j:Int):(J2 T2 M j).T=M.T/\(J2 T2 M j).Lv=M.Lv/\(J2 T2 M j).lk=M.lk/\(J2 T2 M j).Qc=M.Qc/\(J2 T2 M j).acc=M.acc:=by unfold J2;split;exact⟨rfl,rfl,rfl,rfl,rfl⟩;split<;>exact⟨rfl,rfl,rfl,rfl,rfl⟩
omit hr in
theorem EB:∀(l:List Int) (M:Qn),(l.foldl (J2 T2) M).T=M.T/\(l.foldl (J2 T2) M).Lv=M.Lv/\(l.foldl (J2 T2) M).lk=M.lk/\(l.foldl (J2 T2) M).Qc=M.Qc/\(l.foldl (J2 T2) M).acc=M.acc
 | [],M=>⟨rfl,rfl,rfl,rfl,rfl⟩
 | j::l,M=>by obtain⟨k,i,h,g,f⟩:=EB l (J2 T2 M j);obtain⟨e,d,c,b,a⟩:=QkS (T2:=T2) M j;rw[qX];exact⟨k.trans e,i.trans d,h.trans c,g.trans b,f.trans a⟩
end
section
variable {M:Qn}{T2:List Ql}(I:QB M)(I2:KF T2)
include I I2
theorem QkT(a:Int):(Qi (VV M T2).N a).map (·.c)=Qw T2 a:=by unfold VV;rw[Gu I2.rising];by_cases h:a∈J1 M.T T2;rw[Qe h];cases Qw T2 a<;>rfl;rw[Qd h];have:=λe=>h (Ih.2 e);have e:Qw M.T a=Qw T2 a:=j5 this;rw[<-e,I.find]
theorem QkU{c:Ql}(d:c∈T2):Qi (VV M T2).N c.iD=some (Qz (VV M T2) c.iD)/\(Qz (VV M T2) c.iD).c=c:=by
 have a:=QkT I I2 c.iD;rw[(VK I2.rising).2 ⟨d,rfl⟩]at a;unfold Qz;cases b:Qi (VV M T2).N c.iD with
 | none=>rw[b]at a;cases a
 | some n=>rw[b,Kq,Q7]at a;exact⟨rfl,a⟩
theorem QkV:(XV M T2).map (·.c)=T2:=by
 unfold XV;rw[Dj]
 conv=>rhs;rw[<-List.map_id T2]
 exact AB λc a=>(QkU I I2 a).2
theorem Ix:∀id,Qi (XV M T2) id=Qi (VV M T2).N id:=λid=>by
 have d:=u6 (XV M T2) id;rw[QkV I I2]at d;have b:=QkT I I2 id;cases a:Qi (XV M T2) id with
 | none=>
  rw[a]at d;rw[d]at b;cases f:Qi (VV M T2).N id with
  | none=>rfl
  | some m=>rw[f]at b;cases b
 | some n=>have j:n∈XV M T2:=xG a;have e:=QB.id (M:=qP M T2) a;obtain⟨c,g,rfl⟩:=Jw.1 j;obtain⟨i,h⟩:=QkU I I2 g;rw[h]at e;rw[<-e,i]
theorem ay(H:jL T2){b}(g:jm M T2 b=false)(J:∀x∈M.Lv,x.ki∈V5 M)(F:∀id,∀x∈M.KT id,∃n∈V5 M,x.ki∈up M.T n):QB (qP M T2):=by
 obtain⟨s,r,K,q,p⟩:=EB (T2:=T2) (J1 M.T T2) { M with T:=T2 };have d:(qP M T2).T=T2:=s;have m:∀id,yq M id=true->Qw T2 id=Qw M.T id:=λid E=>by refine j5 λe=>?_;have v:=Ih.2 (λx=>e x.symm:Qw M.T id≠Qw T2 id);unfold jm at g;rw[show (J1 M.T T2).any (yq M)=true from j6.2 ⟨id,v,E⟩]at g;cases g
 have o:∀x n,n∈V5 M->x∈up M.T n->yq M x=true:=λx n j i=>j6.2 ⟨n,j,by simpa using i⟩;have C:(0:Int) ∉ J1 M.T T2:=λh=>by
  have f0:∀T:List Ql,KF T->Qw T 0=none:=λT I=>by rw[HM];intro c w e;have:=I.ids c w;omega
  exact Ih.1 h (by rw[f0 _ I.tree,f0 _ I2])
 refine⟨by rw[d];exact I2,by rw[d];exact H,d.symm,d.trans (QkV I I2).symm,λa y=>(List.not_mem_nil y).elim,λid=>?_,λx hx=>?_,λid x hx=>?_,λid x hx=>?_,?_,?_⟩;show (VV M T2).ks id=true↔id=0\/∃n,Qi (XV M T2) id=some n/\n.c.leaf=false;rw[Ix I I2];unfold VV;rw[QkR,Gu I2.rising];by_cases h:id∈J1 M.T T2;rw[Qe h,Qe h];have l:id≠0:=λe=>C (e▸h);cases Qw T2 id with
 | none=>simp[l]
 | some c=>simp[l,Yd]
 rw[Qd h,Qd h];exact I.ks id;have f:x∈M.Lv:=by rw[<-r];exact hx
 have k:=J x f;obtain⟨n,u,_,_⟩:=mA I (JB.1 (show x.ki∈(wj M.T).filter _ from k)).1;have t:x.ki∈up M.T x.ki:=by rw[gY I.tree,I.some u];exact Jo
 rw[d,m _ (o _ _ k t)];exact I.Bp x f;have f:x∈M.KT id:=mC id (J1 M.T T2) { M with T:=T2 } hx;obtain⟨c,j,i⟩:=I.wh id x f;obtain⟨n,B,z⟩:=F id x f;exact⟨c,by rw[d,m _ (o _ _ B z)];exact j,i⟩;exact I.xo id x (mC id (J1 M.T T2) { M with T:=T2 } hx);show (VV M T2).Qc<=_;exact q▸I.Qc;show (VV M T2).acc<=_;exact p▸I.acc
end
def QCc{c:Ql}(h:Vd c=0):c.leaf=true->1<=c.ZV/\c.ZV<=64/\1<=c.bytes/\c.bytes<=1048576:=by
 intro b;have a:vP c=true:=by
  cases e:vP c with
  | true=>rfl
  | false=>exfalso;unfold Vd at h;rw[b,e]at h;simp only[GW,Bool.and_true,Sk,Vu]at h;split at h;omega;split at h<;>omega
 unfold vP yR at a;simp only[ZM,W3]at a;omega
def QCd(b)(M:Qn)(a:Int):(J2 b M a).T=M.T:=by unfold J2;split;rfl;split<;>rfl
def QaO(a):∀(l:List Int) (M:Qn),(l.foldl (J2 a) M).T=M.T
 | [],_=>rfl
 | id::l,M=>by rw[qX,QaO a l,QCd]
def QCe{S h p T A}(O:jF S h p T A)(a)(c:Ql)(j:Qw T a=some c)(i:¬ 1<QJ c.ls):
  QO prog 76 h [.ptr p 0 0 0,Qa a] (λd k=>d=.tup [.nil,Qa 6]/\k=h):=by
 obtain⟨t,s,r,q,c2,o,u,z,v,m,O⟩:=O;have f:=O.o;have e:=O.m1;have b:=O.f1.at_ a;rw[w9,j]at b;simp only[Qd i]at b;refine Q9 func76 ntmps76 results76 λg w l n=>?_;have y:=Qb f;have x:=Qb e;simp only[go_sem,f,e,b]
def QkW{b a}:∀(l A:List Int),a∈l.foldl (xu b) A->a∈l\/a∈A
 | [],A,h=>.inr h
 | id::l,A,h=>by rw[qX]at h;rcases QkW l _ h with h|h;exact .inl (Js _ h);unfold xu at h;split at h;rcases QK.1 h with h|h;exact .inl (h▸Jo);exact .inr h;exact .inr h
def QCf{l:List Int}(h:l.Nodup){k}(a:k<l.length):l.getD k 0 ∉ l.take k:=λb=>by rw[<-AF k l,Ka]at h;refine h.2.2 _ b (l.getD k 0) ?_ rfl;rw[QU,QH a,Sm a];exact Jo
def QCg{M:Qn}{a}(h:a∈V5 M):a∈wj M.T:=by unfold V5 xm at h;exact(JB.1 h).1
def QCh{T:List Ql}(h:WD T):(wj T).Nodup:=by unfold wj;have c:(T.filter (·.leaf)).Pairwise (λa b=>a.iD<b.iD):=Od _ h;rw[nW,Su];exact c.imp λd=>ω
def QCi{M:Qn}(I:QB M):(V5 M).Nodup:=Od _ (QCh I.tree.rising)
def QCj{u h p L}{M:Qn}(C:ZI u h p L M)(I:QB M)(K:Wm M.lk)(b)(l:List Jj)(hc:∀c∈l,Jj.Ok c)(s:l.length<1000000)
  (Bx:∀x∈M.Lv,x.ki∈V5 M) (Rw:∀id,∀x∈M.KT id,∃n∈V5 M,x.ki∈up M.T n) :
  QO prog 44 h [.ptr p 0 0 0,QV b,Gl l] (λd h'=>∃y L' M',ZI y h' p L' M'/\QB M'/\ZC u h y h' /\
   d=.tup [Qa (Aj M l),Qa (qf M b l)]/\M'=Kp M b l):=by
 have ho:=C.ob;refine Q9 func44 ntmps44 results44 λi2 w pl i=>?_;have Qq:=Qb ho;simp only[go_sem];apply VI [10] i [0,1,2,3,4,5,6,7,8,9,1010,11,12,13,14,15,16,17] [];simp only[go_sem,ho];have hT:=Qb C.ob;refine vO i QtQ (QAL C.tr I.tree I.xn M.lk.t K.t1 K.t2 l hc s) λd h1 P=>?_;obtain⟨t2,rfl,c5,g,rfl⟩:=P;obtain⟨JM,NF⟩:=Zc (Q5 u h .tree);have C1:ZI JM (h++g) p L M:=by rw[NF];exact C.step λl s _=>⟨KB s,QG s⟩
 have D1:ZC u h JM (h++g):=by rw[NF];exact ZC.app u h g .tree
 apply ZB i;by_cases R:Yc M.T M.lk.t l=0;case neg=>
  have dE:(Yc M.T M.lk.t l != 0)=true:=by simpa using R
  have J:qf M b l=Yc M.T M.lk.t l:=by unfold qf;rw[Qe R]
  have e2:Aj M l=Em M.T l:=by unfold Aj;rw[Qe R]
  have e3:Kp M b l=M:=by unfold Kp;rw[J,Qd R]
  simp only[go_sem,dE];exact⟨JM,L,M,C1,I,D1,by rw[J,e2],e3.symm⟩
 have dE:(Yc M.T M.lk.t l != 0)=false:=by simpa using R
 have KS:Em M.T l=0\/True:=.inr trivial;have R2:WU (λl=>JM l=.tree) (h++g) t2 (Z5 M.T l):=(c5 R).step λl _ h1=>⟨by rw[NF];unfold Q5;rw[Qe h1],rfl⟩;obtain⟨f,Ew⟩:=Zc (Z5 M.T l);rw[<-Ew]at R2;obtain⟨Z,K2⟩:=Re I.tree I.xn hc;rw[<-Ew]at Z K2;have Z9:=C1.ob;have Nx:=Qb Z9;have i1:=I.tree.len;have af:=Z.len;simp only[go_sem,dE,Z9,Qe R];have R1:=C1.tr.toR;have By:(J1 M.T f).length<1000000:=by have:=QB8 M.T f;omega
 apply ZH i Qf7 (Qj2 R1 R2.toR ω ω);refine FA Vr i 2 ?_;simp only[go_sem];first|refine za ?_|skip
 refine iZ (λst=>jm M f b=false/\st=⟨[(0,.ptr p 0 0 0),(1,QV b),(6,Qa 0),(7,Qa 0),(8,.ptr t2 0 0 0),(11,ints (J1 M.T f))],h++g⟩) ?_ ?_;apply Qg i;refine rT i Tw (QaL (h++g) (J1 M.T f) By (.clo 71 1 [.ptr p 0 0 0]) 71 1 [.ptr p 0 0 0] QtR rfl (yq M) (λh' n hm hx=>?_)) λd P=>?_;have c0:∀(l:Nat) (o:Ob),((h++g).map Ob.ro)[l]?=some o->(h'.map Ob.ro)[l]?=some o:=λl o e=>by obtain⟨g2,rfl⟩:=hx;have e2:=Jf ((QG (Qb e)).trans e:((h++g).map Ob.ro++g2)[l]?=some o);rw[e2];rw[KR]at e;obtain⟨o2,h2,rfl⟩:=WK.1 e;rw[ro_ro]
 exact QBV (C1.ro.more c0) I n;subst P;rw[gV];apply Qh i;obtain⟨y,k1⟩:=Zc JM;have a4:jm M f b=true->∃y L' M',ZI y (h++g) p L' M'/\QB M'/\ZC u h y (h++g)/\D.tup [Qa 0,Qa 24]=.tup [Qa (Aj M l),Qa (qf M b l)]/\M'=Kp M b l:=λhB=>by
  have J:qf M b l=24:=by unfold qf;rw[Qd (by rw[R];simp),<-Ew,Qe hB]
  have e2:Aj M l=0:=by unfold Aj;rw[Qd (by rw[R];simp)]
  have e3:Kp M b l=M:=by unfold Kp;rw[J];rfl
  exact⟨JM,L,M,C1,I,D1,by rw[J,e2];rfl,e3.symm⟩
 cases KU:(J1 M.T f).any (yq M) with
 | true=>simp only[go_sem];exact a4 (by unfold jm;rw[KU];rfl)
 | false=>
  simp only[go_sem,Z9];cases B8:lP M.T f with
  | false=>apply ZH i p6 (QaN R1 R2.toR ω ω By);apply Qh i;simp only[go_sem,B8];refine⟨_,⟨by unfold jm;rw[KU,B8];rfl,rfl⟩,?_⟩;exact QP
  | true=>
   cases b with
   | false=>apply ZH i p6 (QaN R1 R2.toR ω ω By);apply Qh i;simp only[go_sem,B8];exact a4 (by unfold jm;rw[B8];simp)
   | true=>
    apply ZH i p6 (QaN R1 R2.toR ω ω By);apply Qh i;simp only[go_sem,B8];apply ZH i p7 (QaM C1.ro I);apply Qg i;cases hd:decide ((0:Int)<((V5 M).length:Int)) with
    | true=>simp only[go_sem];exact a4 (by unfold jm;rw[B8];simp;right;simpa using hd)
    | false=>simp only[go_sem];refine⟨_,⟨by unfold jm;rw[KU,B8];simp;simpa using hd,rfl⟩,?_⟩;exact QP
 rintro st ⟨B7,rfl⟩;have C2:=C1.QB1 R2;have D2:=D1.trans (ZC.set (own:=JM) (h:=h++g) (l:=p) (kU M.lk t2 L.b L.o L.v L.m M.Qc M.acc) (by rw[C1.op];decide));generalize e0:(h++g).set p (kU M.lk t2 L.b L.o L.v L.m M.Qc M.acc)=H2 at C2 D2;have g4:(h++g).set p ⟨.one,0,9,1,λ_=>[.raw (.int .i64 M.lk.t),.raw (.int .i64 M.lk.Ze),.ptr t2 0 0 0,.mref L.b 0,.ptr L.o 0 0 0,.ptr L.v 0 0 0,.mref L.m 0,.raw (.int .u64 (M.Qc:Nat)),.raw (.int .u64 (M.acc:Nat))]⟩=H2:=e0;apply Qh i;simp only[go_sem,Z9,g4];obtain⟨E,a7⟩:=Zc (J1 M.T f);rw[<-a7]at By;rw[<-a7];refine ZY (λk st=>∃U H L2,ZI U H p L2 ((E.take k).foldl (J2 f) { M with T:=f })/\L2.t=t2/\ZC u h U H/\st=⟨[(0,.ptr p 0 0 0),(6,Qa 0),(7,Qa 0),(8,.ptr t2 0 0 0),(71,ints E),(72,Qa E.length),(73,Qa k)],H⟩) E.length (s0:=⟨[(0,.ptr p 0 0 0),(6,Qa 0),(7,Qa 0),(8,.ptr t2 0 0 0),(71,ints E),(72,Qa E.length),(73,Qa 0)],H2⟩) QP ⟨JM,H2,_,C2,rfl,D2,rfl⟩ ?_;rintro k st hk ⟨U,H,L2,B,DU,Dk,rfl⟩;by_cases Qf:k<E.length;have dk:=QY Qf;obtain⟨id,Zs⟩:=Zc (E.getD k 0);obtain⟨O,Gn⟩:∃O,O=(E.take k).foldl (J2 f) { M with T:=f }:=⟨_,rfl⟩;have Jn:(E.take (k+1)).foldl (J2 f) { M with T:=f }=J2 f O id:=by rw[zQ,QH Qf,qu,<-Gn,Zs,QU,QH Qf];rfl
 have Rx:O.T=f:=by rw[Gn];exact QaO _ _ _
 rw[<-Gn]at B;have QS:=JJ (show k<4611686018427387904 from ω);have RT:XQ H t2 f:=by have:=B.tr.toR;rwa [DU,Rx]at this
 obtain⟨x,hx⟩:=Zc ((Qw f id).getD default);have YC:=PI RT id;rw[<-hx]at YC;have VQ:=B.ob;have Gq:=Qb VQ;have q8:=B.Wc;have g3:=Qb q8;have YE:=B.Wt;have rZ:=Qb YE;have OG:L2.b≠L2.m:=λe=>by have:=B.ow;rw[e,B.om]at this;cases this
 have zf:L2.b≠p:=λe=>by have:=B.ow;rw[e,B.op]at this;cases this
 have i8:L2.m≠p:=λe=>by have:=B.om;rw[e,B.op]at this;cases this
 apply Qh i;simp only[go_sem,Qf,<-Zs];apply ZH i wQ YC;apply Qh i;simp only[go_sem,Qj,VQ,Gq,q8,g3,YE,rZ,Qo OG,Qo zf];have C3:=B.QB3 id;have D3:=Dk.trans (ZC.set (own:=U) (h:=H) (l:=L2.b) (QT .i64 L2.cb (J9 L2.eb id)) (by rw[B.ow];decide));have C4:=C3.QB4 id;have D4:=D3.trans (ZC.set (own:=U) (h:=H.set L2.b (QT .i64 L2.cb (J9 L2.eb id))) (l:=L2.m) (QT .i64 L2.cm (J9 L2.em id)) (by rw[B.om];decide));have C5:=C4.Rf [⟨.one,0,14,1,λ_=>x.cells⟩];have D5:=D4.trans (ZC.app U _ [⟨.one,0,14,1,λ_=>x.cells⟩] .no);have vY:((H.set L2.b (QT .i64 L2.cb (J9 L2.eb id))).set L2.m (QT .i64 L2.cm (J9 L2.em id))).length=H.length:=σ;generalize b3:(H.set L2.b (QT .i64 L2.cb (J9 L2.eb id))).set L2.m (QT .i64 L2.cm (J9 L2.em id))++[⟨.one,0,14,1,λ_=>x.cells⟩]=r at C5 D5;have a6:=b3;simp only[go_sem]at a6;have aA:r[H.length]?=some ⟨.one,0,14,1,λ_=>x.cells⟩:=by rw[<-b3,<-vY,Vq rfl];rfl
 have g1:=Qb aA;generalize Q5 U ((H.set L2.b (QT .i64 L2.cb (J9 L2.eb id))).set L2.m (QT .i64 L2.cm (J9 L2.em id))) .no=Br at C5 D5;have Et:=C5.ob;have j1:=Qb Et;have aj:=C5.Wc;have b9:=Qb aj;have c1:=C5.Wt;have k0:=Qb c1;cases hf:Qw f id with
 | none=>
  have J:J2 f O id={ O with N:=jQ O.N id,ks:=λj=>if j=id then false else O.ks j }:=by unfold J2;rw[hf]
  have h6:ZI Br r p { L2 with eb:=J9 L2.eb id,em:=J9 L2.em id } (J2 f O id):=by rw[J];exact C5
  rw[hf]at YC;simp only[go_sem,E7,a6];exact⟨Qf,_,Qs.frame (by simp only[go_sem,QS]),Br,r,{ L2 with eb:=J9 L2.eb id,em:=J9 L2.em id },(by rw[Jn];exact h6),DU,D5,rfl⟩
 | some c=>
  have gD:x=c:=by rw[hx,hf];rfl
  obtain⟨WT,mB⟩:=(VK Z.rising).1 hf;subst gD;have jH:=QCc (Z.right x WT);have Yk:=QB7 r x jH;simp only[go_sem,BL,a6];apply Qy i [0,1,2,3,4,5,1006,1007];simp only[go_sem,Et,aA];refine Tv i QtS rfl ?_ Yk rfl λd Y P=>?_;simp only[go_sem];obtain⟨rfl,g8,lq,c3,j4,PZ,g0⟩:=P;obtain rfl:Y=g8:=List.append_cancel_left c3;subst mB;obtain⟨F,a5⟩:∃o:Nat->Tag,o=λl=>if l<r.length then Br l else if l=r.length then .no else if l=r.length+1 then .x7 x.iD else .zF x.iD:=⟨_,rfl⟩;have w7:∀l,l<r.length->F l=Br l:=λl s=>by rw[a5];exact Qe s
  have we:F (r.length+1)=.x7 x.iD:=by rw[a5];dsimp only;rw[Qd ω,Qd ω,Qe rfl]
  have wq:∀l,r.length+2<=l->F l=.zF x.iD:=λl s=>by rw[a5];dsimp only;rw[Qd ω,Qd ω,Qd ω]
  have C7:=C5.step (own':=F) (h':=r++Y) λl s _=>⟨w7 l s,QG s⟩;have D7:ZC u h F (r++Y):=D5.trans ⟨w7,λl s _=>QG s,σ⟩;obtain⟨c8,e4,j0,C8⟩:=C7.QB6 (n:=Yd x) (e:=r.length+1) (q:=lq) (by dsimp only;rw[CX];exact Qe rfl) PZ we (λW=>by obtain⟨k8,aB,c7⟩:=g0 W;exact⟨k8,aB,c7.step λl _ s=>⟨wq l s,rfl⟩⟩) (QkQ (K2 x WT))
  obtain⟨M8,a1⟩:∃M8,M8={ O with N:=Yd x::jQ O.N x.iD,ks:=λj=>if j=x.iD then false else O.ks j }:=⟨_,rfl⟩;obtain⟨v,a2⟩:∃v:Loc,v={ L2 with em:=J9 L2.em x.iD,cb:=c8,eb:=e4,le:=λj=>if j=x.iD then r.length+1 else L2.le j,lq:=λj=>if j=x.iD then lq else L2.lq j }:=⟨_,rfl⟩;have C8:ZI F ((r++Y).set L2.b (Kb .i64 L2.cb (J9 L2.eb x.iD) x.iD (.ptr (r.length+1) 0 0 0))) p v M8:=by rw[a2,a1];exact C8
  have b1:v.t=t2:=by rw[a2];exact DU
  have i3:v.m=L2.m:=by rw[a2]
  have D8:=D7.trans (ZC.set (own:=F) (h:=r++Y) (l:=L2.b) (Kb .i64 L2.cb (J9 L2.eb x.iD) x.iD (.ptr (r.length+1) 0 0 0)) (by rw[C7.ow];decide));have eH:(r++Y).set L2.b (Kb .i64 L2.cb (J9 L2.eb x.iD) x.iD (.ptr (r.length+1) 0 0 0))=r.set L2.b (Kb .i64 L2.cb (J9 L2.eb x.iD) x.iD (.ptr (r.length+1) 0 0 0))++Y:=cn _ _ b9;have e9:L2.b≠H.length:=λe=>by have h1:=Qb B.Wc;omega
  have aC:((r++Y).set L2.b (Kb .i64 L2.cb (J9 L2.eb x.iD) x.iD (.ptr (r.length+1) 0 0 0)))[H.length]?=some ⟨.one,0,14,1,λ_=>x.cells⟩:=(Qo e9).trans ((QG g1).trans aA);rw[eH]at aC C8 D8;generalize c9:r.set L2.b (Kb .i64 L2.cb (J9 L2.eb x.iD) x.iD (.ptr (r.length+1) 0 0 0))++Y=m at aC C8 D8;have j3:=Qb aC;have b2:=C8.ob;have j2:=Qb b2;have b8:=C8.Wt;have b7:=Qb b8;apply Jb i;simp only[go_sem,Qj,aj,b9,c9];cases W:x.leaf with
  | true=>
   simp only[go_sem,aC,W];have J:J2 f O x.iD=M8:=by unfold J2;rw[hf,a1];dsimp only;rw[Qe W]
   exact⟨Qf,_,Qs.frame (by simp only[go_sem,QS]),F,m,v,(by rw[Jn,J];exact C8),b1,D8,rfl⟩
  | false=>
   simp only[go_sem,aC,W];have C9:=C8.step (own':=Q5 F m (.Yr x.iD)) (h':=m++Ai m.length) λl s _=>⟨KB s,QG s⟩;have D9:ZC u h (Q5 F m (.Yr x.iD)) (m++Ai m.length):=D8.trans (ZC.app F m (Ai m.length) (.Yr x.iD));have un:∀l,m.length<=l->Q5 F m (.Yr x.iD) l=.Yr x.iD:=λl s=>by unfold Q5;rw[Qe s]
   obtain⟨e6,e8,k4,Ad⟩:=C9.QB5 x.iD (k:=m.length+2) (QaH (S:=λl=>Q5 F m (.Yr x.iD) l=.Yr x.iD) (by rw[Vq rfl];rfl) (by rw[VS (k:=1) rfl];rfl) (by rw[VS (k:=2) rfl];rfl) (un _ ω) (un _ ω) (un _ ω));have Ip:=D9.trans (ZC.set (own:=Q5 F m (.Yr x.iD)) (h:=m++Ai m.length) (l:=v.m) (Kb .i64 v.cm v.em x.iD (.ptr (m.length+2) 0 0 0)) (by rw[C9.om];decide));have e5:(m++Ai m.length).set v.m (Kb .i64 v.cm v.em x.iD (.ptr (m.length+2) 0 0 0))=m.set v.m (Kb .i64 v.cm v.em x.iD (.ptr (m.length+2) 0 0 0))++Ai m.length:=cn _ _ b7;rw[e5]at Ad Ip;generalize e7:m.set v.m (Kb .i64 v.cm v.em x.iD (.ptr (m.length+2) 0 0 0))++Ai m.length=h3 at Ad Ip;apply Qy i [0,1,2,3,4,1005,1006];simp only[go_sem,b2];refine Tv i Qf4 rfl ?_ (QkI m) rfl λd g9 P=>?_;simp only[go_sem];obtain⟨rfl,rfl⟩:=P;apply Jb i;simp only[go_sem,Qj,b8,b7,e7];have J:J2 f O x.iD={ M8 with ks:=λj=>if j=x.iD then true else M8.ks j,KT:=λj=>if j=x.iD then [] else M8.KT j }:=by unfold J2;rw[hf,a1];dsimp only;rw[Qd (by rw[W];exact xE)];congr 1;funext j;by_cases e:j=x.iD;rw[Qe e,Qe e];rw[Qd e,Qd e,Qd e]
   exact⟨Qf,_,Qs.frame (by simp only[go_sem,QS]),Q5 F m (.Yr x.iD),h3,{ v with cm:=e6,em:=e8,lk:=λj=>if j=x.iD then m.length+2 else v.lk j },(by rw[Jn,J];exact Ad),b1,Ip,rfl⟩
 have ZJ:k=E.length:=ω;subst ZJ;have c4:(E.take E.length).foldl (J2 f) { M with T:=f }=VV M f:=by rw[Wo,a7];rfl
 rw[c4]at B;have Rx:(VV M f).T=f:=QaO _ _ _;have RT:XQ H t2 f:=by have:=B.tr.toR;rwa [DU,Rx]at this
 have dk:decide (E.length<E.length)=false:=QN ω;apply Qh i;simp only[go_sem,dk];apply Qg i;refine ZT i Qf5 (QhU RT Z) λd Oz P=>?_;obtain⟨rfl,hO,Q,rfl⟩:=P;have b0:=B.step (own':=Q5 U H .on) (h':=H++Q) λl s _=>⟨KB s,QG s⟩;have h5:=Dk.trans (ZC.app U H Q .on);have LQ:jF (λl=>Q5 U H .on l=.on) (H++Q) (H.length+3) f []:=hO.step λl _ s=>⟨by unfold Q5;rw[Qe s],rfl⟩;have i0:=b0.QB2 LQ;have aD:=h5.trans (ZC.set (own:=Q5 U H .on) (h:=H++Q) (l:=p) (kU (VV M f).lk L2.t L2.b (H.length+3) L2.v L2.m (VV M f).Qc (VV M f).acc) (by rw[b0.op];decide));have Ry:ZI _ _ p { L2 with o:=H.length+3 } (qP M f):=i0.congrN (N:=XV M f) (Ix I Z);have Rz:QB (qP M f):=ay I Z K2 B7 Bx Rw;have aE:=b0.ob;have k3:=Qb aE;generalize YJ:(VV M f).lk=a0 at Ry aD aE;generalize mD:(VV M f).Qc=b6 at Ry aD aE;generalize k5:(VV M f).acc=b5 at Ry aD aE;generalize h0:(H++Q).set p (kU a0 L2.t L2.b (H.length+3) L2.v L2.m b6 b5)=a8 at Ry aD;have g6:(H++Q).set p ⟨.one,0,9,1,λ_=>[.raw (.int .i64 a0.t),.raw (.int .i64 a0.Ze),.ptr L2.t 0 0 0,.mref L2.b 0,.ptr (H.length+3) 0 0 0,.ptr L2.v 0 0 0,.mref L2.m 0,.raw (.int .u64 (b6:Nat)),.raw (.int .u64 (b5:Nat))]⟩=a8:=h0;apply Qh i;simp only[go_sem,aE,g6];apply ZH i p7 (QaM Ry.ro Rz);apply Qg i;obtain⟨z,XY⟩:=Zc (V5 (qP M f));have k2:z.length<=64:=by rw[XY];exact QkM Rz
 rw[<-XY];refine ZY (λk st=>∃Bv H3,ZI Bv H3 p { L2 with o:=H.length+3 } { qP M f with A:=(z.take k).foldl (xu f) [] }/\QB { qP M f with A:=(z.take k).foldl (xu f) [] }/\ZC u h Bv H3/\st=⟨[(0,.ptr p 0 0 0),(6,Qa 0),(7,Qa 0),(122,ints z),(123,Qa z.length),(124,Qa k)],H3⟩) z.length (s0:=⟨[(0,.ptr p 0 0 0),(6,Qa 0),(7,Qa 0),(122,ints z),(123,Qa z.length),(124,Qa 0)],a8⟩) QP ⟨_,a8,Ry,Rz,aD,rfl⟩ ?_;rintro k st hk ⟨Bv,H3,Iy,NH,a9,rfl⟩;by_cases zy:k<z.length;have b4:=QY zy;obtain⟨id,Zs⟩:=Zc (z.getD k 0);have QS:=JJ (show k<4611686018427387904 from ω);obtain⟨V,a3⟩:=Zc ((z.take k).foldl (xu f) []);have Jn:(z.take (k+1)).foldl (xu f) []=xu f V id:=by rw[zQ,QH zy,qu,<-a3,Zs,QU,QH zy];rfl
 rw[<-a3]at Iy NH;have g5:id∈V5 (qP M f):=by rw[<-XY,Zs];exact mz zy
 obtain⟨nd,hn,W,pC⟩:=mA Rz (id:=id) (QCg g5);have WH:Qw f id=some nd.c:=by have:=Rz.some hn;rwa [show (qP M f).T=f from Rx]at this
 have ja:xu f V id=if 1<QJ nd.c.ls then id::V else V:=by unfold xu;rw[WH];rfl
 have Z4:JE f V id=false:=by
  rw[jZ];intro h9;have h8:=(mh Z WH W V).1 h9;rw[a3]at h8;rcases QkW _ _ h8 with h7|h7;have Ji:z.Nodup:=by rw[XY];exact QCi Rz
  rw[Zs]at h7;exact QCf Ji zy h7;cases h7
 have YL:=Iy.ob;have NA:=Qb YL;apply Qh i;simp only[go_sem,zy,<-Zs,YL];by_cases hs:1<QJ nd.c.ls;rw[Qe hs]at ja;refine ZT i p8 (QhP Iy.zG Z (by have:=NH.qc;rwa [show ({ qP M f with A:=V }:Qn).T=f from Rx]at this) id nd.c WH W hs Z4) λd h4 P=>?_;obtain⟨d1,rfl,Cd,O4,s4⟩:=P;have C4:=Iy.act O4 s4;have I4:QB { qP M f with A:=id::V }:=NH.act (λa ha=>by rcases QK.1 ha with e|e;exact⟨nd.c,by rw[e,show ({ qP M f with A:=V }:Qn).T=f from Rx];exact WH,W,hs⟩;exact NH.qc a e)
 have D4:=a9.trans (ZC.of (t:=.on) σ s4);apply Qg i;exact⟨zy,_,Qs.frame (by simp only[go_sem,QS]),_,h4,by rw[Jn,ja];exact C4,by rw[Jn,ja];exact I4,D4,rfl⟩;rw[Qd hs]at ja;refine ZT i p8 (QCe Iy.zG id nd.c WH hs) λd h4 P=>?_;obtain⟨rfl,rfl⟩:=P;apply Qg i;exact⟨zy,_,Qs.frame (by simp only[go_sem,QS]),Bv,h4,by rw[Jn,ja];exact Iy,by rw[Jn,ja];exact NH,a9,rfl⟩;have Hq:k=z.length:=ω;subst Hq;have b4:decide (z.length<z.length)=false:=QN ω;have J:qf M b l=0:=by unfold qf;rw[Qd (by rw[R];simp),<-Ew,Qd (by rw[B7];exact xE)]
 have e2:Aj M l=0:=by unfold Aj;rw[Qd (by rw[R];simp)]
 have e3:Kp M b l={ qP M f with A:=z.foldl (xu f) [] }:=by unfold Kp;rw[Qe J,<-Ew,XY];rfl
 rw[Wo,<-e3]at Iy NH;apply Qh i;simp only[go_sem,b4];apply Qg i;exact⟨Bv,_,_,Iy,NH,a9,by rw[J,e2];rfl,rfl⟩
section
variable {h:List Ob}{p:Nat}{L:Loc}{M:Qn}(C:xr h p L M)
include C
def RC(L:List It):Nat:=match L.head? with
 | some x=>min x.ka never
 | none=>never
def Vm(M:Qn):Nat:=min (RC M.Lv) (CD (M.KT 0))
theorem Qk6(I:QB M):Zl prog 123 h [.ptr p 0 0 0] (λd=>d=u64 (Vm M)):=by have b:=C.ob;have c:=C.Wt;have f:M.ks 0=true:=(I.ks 0).2 (.inl rfl);have g:=C.Yt.at_ 0;rw[Qe f]at g;have k:=C.kids 0 f;refine ZN func123 ntmps123 results123 λi w l F e n a=>?_;rw[<-e]at b c;have o:=Qb b;have m:=Qb c;simp only[go_sem];apply Qy a [0,1,2,3,5,6,7,8,9,1004,1010,11,12];simp only[go_sem,b,c,g];have j:Zl prog 162 F [.ptr L.v 0 0 0] (λd=>d=u64 (RC M.Lv)):=Qxe (C.Ys.more (VM e));apply KW a QuJ j;apply ZB a;apply KW a Qgj (QhZ (k.more (VM e)) (I.xo 0));apply ZB a;refine⟨[],(JN F).symm,?_⟩;unfold Vm;rw[Nat.min_def,Int.min_def];congr 2;split<;>split<;>omega
end
structure Good (M:Qn):Prop where
 lv:∀x∈M.Lv,∃n,Qi M.N x.ki=some n/\n.c.leaf=true/\n.q.l≠[]
 kt:∀id,∀x∈M.KT id,KD M x.ki=true
 act:∀id,id∈M.A↔∃n,Qi M.N id=some n/\n.c.leaf=true/\n.q.l≠[]/\1<QJ n.c.ls
section
variable {M:Qn}(I:QB M)(G:Good M)
include I G
theorem Good.Qk7{b}{n:Nd}(c:Qi M.N b=some n)(e:n.c.leaf=true)(d:n.q.l≠[]):b∈V5 M:=by
 have f:=I.some c;obtain⟨h,g⟩:=(VK I.tree.rising).1 f;refine JB.2 ⟨Jw.2 ⟨n.c,JB.2 ⟨h,e⟩,g⟩,?_⟩;unfold Gt Qz;rw[c];cases a:n.q.l with
 | nil=>exact absurd a d
 | cons x l=>simp[a]
theorem Good.hA(a):∀n,Qi M.N a=some n->n.c.leaf=true->n.q.l=[]->a ∉ M.A:=λn d g c e=>by obtain⟨m,b,_,f,_⟩:=(G.act a).1 e;rw[d]at b;cases b;exact f c
theorem Good.Bx:∀x∈M.Lv,x.ki∈V5 M:=λx hx=>by obtain⟨n,c,b,a⟩:=G.lv x hx;exact Good.Qk7 I G c b a
theorem Good.Rw:∀id,∀x∈M.KT id,∃n∈V5 M,x.ki∈up M.T n:=λid x hx=>by obtain⟨a,c,b⟩:=zz.1 (G.kt id x hx);obtain⟨n,f,e,d,_⟩:=(G.act a).1 c;exact⟨a,Good.Qk7 I G f e d,b⟩
theorem Good.leaf{a}{n:Nd}(b:Qi M.N a=some n)(e:n.c.leaf=true)(f:KD M a=true):n.q.l≠[]/\a∈M.A:=by have d:=(mh I.tree (I.some b) e M.A).1 f;obtain⟨m,c,_,g,_⟩:=(G.act a).1 d;rw[b]at c;cases c;exact⟨g,d⟩
theorem Good.share(a):∀k p id,Bs M a k p=some id->∃n,Qi M.N id=some n/\n.c.leaf=true/\KD M id=true
 | 0,_,_,h=>by cases h
 | k+1,p,id,h=>by
  unfold Bs at h;cases d:firstM M a p with
  | none=>rw[d]at h;cases h
  | some x=>
   rw[d]at h;dsimp only at h;have f:x∈M.KT p:=xG d;split at h;rename_i c;cases h;have b:=I.u7 p x f;rw[I.find]at b;cases e:Qi M.N x.ki with
   | none=>rw[e]at b;cases b
   | some n=>exact⟨n,rfl,by unfold Qz at c;rw[e]at c;exact c,G.kt p x f⟩
   exact Good.share a k x.ki id h
theorem Good.Qat(a):∀o id r,yo M a o->Vo M a o=some (id,r)->∃n,Qi M.N id=some n/\n.c.leaf=true/\n.q.l≠[]/\(1<QJ n.c.ls->id∈M.A):=λo id r g d=>by
 cases o with
 | some x=>simp only[Vo,Q7,Zg]at d;obtain⟨rfl,rfl⟩:=d;have hx:x∈M.Lv:=(JB.1 g.1).1;obtain⟨n,c,b,e⟩:=G.lv x hx;exact⟨n,c,b,e,λf=>(G.act x.ki).2 ⟨n,c,b,e,f⟩⟩
 | none=>simp only[Vo,WK]at d;obtain⟨i,h,j⟩:=d;cases j;obtain⟨n,c,b,e⟩:=Good.share I G a 17 0 _ h;obtain⟨f,k⟩:=Good.leaf I G c b e;exact⟨n,c,b,f,λ_=>k⟩
omit I in
end
def zJ(M:Qn)(p:Int)(x:It):Prop:=∃n,Qi M.N x.ki=some n/\n.c.parent=p/\KD M x.ki=true/\x=⟨n.sh.time,x.ki,qM M x.ki n,x.ki⟩
def CY(M:Qn)(x:It):Prop:=∃n,Qi M.N x.ki=some n/\n.c.leaf=true/\n.q.l≠[]/\1<QJ n.c.rt/\x=⟨n.du.Vt,x.ki,n.du.dead,x.ki⟩
def EC(M:Qn):Prop:=∀x,x∈M.Lv↔CY M x
def RD(M:Qn):Prop:=∀p x,x∈M.KT p↔zJ M p x
def Iz(M:Qn):Prop:=∀id,id∈M.A↔∃n,Qi M.N id=some n/\n.c.leaf=true/\n.q.l≠[]/\1<QJ n.c.ls
def ED(M:Qn):Prop:=∀id n,Qi M.N id=some n->n.c.leaf=false->n.q=⟨[],0,0,0,0,0,0⟩
def We(M:Qn):Prop:=∀id n,Qi M.N id=some n->n.Ok
def Gv(M:Qn):Prop:=Vy M.Lv/\∀p,Vy (M.KT p)
structure Inv (M:Qn):Prop where
 lv:EC M
 kt:RD M
 act:Iz M
 CZ:ED M
 qg:Gv M
 ok:We M
def Inv.EF{M}(V:Inv M):Good M:=
 ⟨λx hx=>by
  obtain⟨n,c,b,a,_⟩:=(V.lv x).1 hx;exact⟨n,c,b,a⟩,λp x hx=>by
  obtain⟨n,_,_,h,_⟩:=(V.kt p x).1 hx;exact h,V.act⟩
def Qk8(c):Inv (M0 c):=by refine⟨λx=>?_,λp x=>?_,λid=>by simp[M0,Qi],λid n h=>by simp[M0,Qi]at h,⟨by simp[M0,Vy],λp=>by simp[M0,Vy]⟩,λid n h=>by simp[M0,Qi]at h⟩;simp[M0,CY,Qi];simp[M0,zJ,Qi]
def QCE{a i L}(h:∀x∈L,x.ki≠i):Y3 a i L=none:=by unfold Y3;rw[j7];intro x hx b;exact h x hx (yd.1 b).2
def Qa2{a L}(h:Vy L):Vy (Vz a L):=Od _ h
def aF{a L}{x:It}:x∈Vz a L↔x∈L/\x.ki≠a:=by simp[Vz]
def mE{c a b L}(h:Vy L):Vy (YH c a b L):=
 su (Qa2 h) (QCE λx hx=>(aF.1 hx).2)
def IA{c a b L}{x:It}:x∈YH c a b L↔x=⟨a,c,b,c⟩\/(x∈L/\x.ki≠c):=by unfold YH;rw[HT,aF]
structure Part (M:Qn) (U:List Int):Prop where
 lv:EC M
 kt:∀p x,x.ki ∉ U->(x∈M.KT p↔zJ M p x)
 ka:∀p x,x∈M.KT p->x.ki∈U->KD M x.ki=true
 act:Iz M
 CZ:ED M
 qg:Gv M
 ok:We M
def QCF{M}{a j:Int}{m}(h:(Qz M a).c.parent≠j):qM (VN M a) j m=qM M j m:=by
 have f:KD (VN M a) j=KD M j:=by obtain⟨_,c,_,b,_⟩:=Rh M a;unfold KD;rw[c,b]
 unfold qM;rw[f];have d:(VN M a).KT j=M.KT j:=by unfold VN;split;dsimp only;rw[Qd (λe=>h e.symm)];rfl
 rw[d]
def Part.step{M:Qn}(I:QB M){a}{n:Nd}(o:Qi M.N a=some n)(V:Part M (a::up M.T n.c.parent)):Part (VN M a) (up M.T n.c.parent):=by
 obtain⟨i,C,P,w,v,O,N,L,K⟩:=Rh M a;have z:Qz M a=n:=by unfold Qz;rw[o];rfl
 have s:∀j,KD (VN M a) j=KD M j:=λj=>by unfold KD;rw[C,w]
 have y:=I.some o;have H:a ∉ up M.T n.c.parent:=by have:=TQ I.tree a;rw[V0 I.tree y,Z6]at this;exact this.1
 have B:∀j m,Qi M.N j=some m->j ∉ up M.T n.c.parent->qM (VN M a) j m=qM M j m:=λj m E F=>QCF λe=>by rw[z]at e;refine F ?_;rw[e];exact Yp I.tree (I.some E)
 have u:∀p x,x.ki ∉ up M.T n.c.parent->(zJ (VN M a) p x↔zJ M p x):=λp x hx=>by unfold zJ;rw[i];constructor;rintro⟨m,b,f,g,l⟩;exact⟨m,b,f,by rw[<-s];exact g,by rw[<-B _ m b hx];exact l⟩;rintro⟨m,b,f,g,l⟩;exact⟨m,b,f,by rw[s];exact g,by rw[B _ m b hx];exact l⟩
 have t:∀p x,x∈M.KT p->x.ki=a->n.c.parent=p:=λp x hx e=>by obtain⟨c,b,f⟩:=I.wh p x hx;rw[e,y]at b;cases b;exact f
 refine⟨?_,λp x hx=>?_,λp x hx q=>?_,?_,?_,?_,by unfold We;rw[i];exact V.ok⟩;intro x;unfold CY;rw[i,v];exact V.lv x;rw[u p x hx];by_cases e:x.ki=a;cases k:KD M a with
 | true=>
  have r:(VN M a).KT=λj=>if j=n.c.parent then YH a n.sh.time (qM M a n) (M.KT n.c.parent) else M.KT j:=by unfold VN;rw[Qe k,z]
  rw[r];dsimp only;split;rename_i d;subst d;rw[IA];unfold zJ;rw[e,o];constructor;rintro (h|h);exact⟨n,rfl,rfl,k,h⟩;exact absurd rfl h.2;rintro⟨m,b,_,_,l⟩;cases b;exact .inl l;rename_i d;constructor;intro h;exact absurd (t p x h e).symm d;rintro⟨m,b,f,_⟩;rw[e,o]at b;cases b;exact absurd f.symm d
 | false=>
  have r:VN M a=M:=by unfold VN;rw[Qd (by rw[k];exact xE)]
  rw[r];constructor;intro h;have:=V.ka p x h (by rw[e];exact Jo);rw[e,k]at this;cases this;rintro⟨m,_,_,g,_⟩;rw[e,k]at g;cases g
 have q:x.ki ∉ a::up M.T n.c.parent:=λh=>(QK.1 h).elim e hx;rw[<-V.kt p x q];unfold VN;split;dsimp only;split;rename_i d;rw[IA,d];constructor;rintro (h|h);exact absurd (congrArg It.ki h) e;exact h.1;intro h;exact .inr ⟨h,e⟩;exact Iff.rfl;exact Iff.rfl;rw[s];have J:x.ki≠a:=λe=>H (e▸q);refine V.ka p x ?_ (Js _ q);unfold VN at hx;split at hx;dsimp only at hx;split at hx;rename_i d;rcases IA.1 hx with h|h;exact absurd (congrArg It.ki h) J;rw[d];exact h.1;exact hx;exact hx;intro j;rw[i,w];exact V.act j;unfold ED;rw[i];exact V.CZ;refine⟨by rw[v];exact V.qg.1,λp=>?_⟩;unfold VN;split;dsimp only;split;exact mE (V.qg.2 _);exact V.qg.2 p;exact V.qg.2 p
def Part.settle:∀(k:Nat) {M:Qn} (id:Int),QB M->(up M.T id).length=k->Part M (up M.T id)->Inv (Wu M (up M.T id)):=by
 intro k;induction k with
 | zero=>intro M id I a V;have e:=Sq.1 a;rw[e]at V ⊢;exact⟨V.lv,λp x=>V.kt p x σ,V.act,V.CZ,V.qg,V.ok⟩
 | succ k h=>
  intro M id I a V;cases d:Qw M.T id with
  | none=>rw[TO I.tree d]at a;cases a
  | some c=>obtain⟨n,b,rfl⟩:=I.Nt d;have e:=V0 I.tree d;rw[e]at a V ⊢;obtain⟨j,f,_⟩:=Rh M id;have g:=V.step I b;have i:=u9 I b (V.ok _ _ b);show Inv (Wu (VN M id) (up M.T n.c.parent));rw[<-f]at g ⊢;exact h n.c.parent i (by rw[f];simpa using a) g
def EG{d:Type}{a:Nd->d}{N c:List Nd}{b:Int}(e:(Qi c b).map a=(Qi N b).map a){n:Nd}(h:Qi N b=some n):∃m,Qi c b=some m/\a m=a n:=by rw[h]at e;exact WK.1 e
def Al(n:Nd):Ql × Nat × Nat:=(n.c,n.sh.time,n.cp.fit)
def IB(n:Nd):Ql × Bool × Nat × Nat:=(n.c,n.q.l.isEmpty,n.du.Vt,n.du.dead)
def Am(n:Nd):Ql × Bool:=(n.c,n.q.l.isEmpty)
def RE{l:List Pk}:l≠[]↔l.isEmpty=false:=by cases l<;>simp
def CY.to{M c:Qn}{x:It}(h:(Qi c.N x.ki).map IB=(Qi M.N x.ki).map IB):CY M x->CY c x:=λ⟨n,j,i,g,f,e⟩=>by obtain⟨m,d,a⟩:=EG h j;simp only[IB,Zg]at a;obtain⟨b,o,l,k⟩:=a;exact⟨m,d,by rw[b];exact i,RE.2 (by rw[o];exact RE.1 g),by rw[b];exact f,by rw[l,k];exact e⟩
def EC.of{M a:Qn}(V:EC M)(c:a.Lv=M.Lv)(b:∀id,(Qi a.N id).map IB=(Qi M.N id).map IB):EC a:=λx=>by rw[c,V x];exact⟨CY.to (b _),CY.to (b _).symm⟩
def EC.at_{M a:Qn}(V:EC M){id m}(h:Qi a.N id=some m)(g:∀j,j≠id->(Qi a.N j).map IB=(Qi M.N j).map IB)
  (i:∀y:It,y.ki≠id->(y∈a.Lv↔y∈M.Lv)) (k:∀y:It,y.ki=id->(y∈a.Lv↔(m.c.leaf=true/\m.q.l≠[]/\1<QJ m.c.rt/\y=⟨m.du.Vt,id,m.du.dead,id⟩))):EC a:=λx=>by
 by_cases e:x.ki=id;rw[k x e];unfold CY;rw[e,h];constructor;rintro⟨f,d,c,b⟩;exact⟨m,rfl,f,d,c,b⟩;rintro⟨n,l,f,d,c,b⟩;cases l;exact⟨f,d,c,b⟩;rw[i x e,V x];exact⟨CY.to (g _ e),CY.to (g _ e).symm⟩
def Iz.at_{M d:Qn}(V:Iz M){id m}(q:Qi d.N id=some m)(k:∀j,j≠id->(Qi d.N j).map Am=(Qi M.N j).map Am)
  (s:∀j,j≠id->(j∈d.A↔j∈M.A)) (r:id∈d.A↔(m.c.leaf=true/\m.q.l≠[]/\1<QJ m.c.ls)):Iz d:=λj=>by
 by_cases e:j=id;subst e;rw[r,q];constructor;rintro⟨c,b,a⟩;exact⟨m,rfl,c,b,a⟩;rintro⟨g,u,c,b,a⟩;cases u;exact⟨c,b,a⟩;rw[s j e,V j];have l:∀{N f:List Nd},(Qi f j).map Am=(Qi N j).map Am->(∃n,Qi N j=some n/\n.c.leaf=true/\n.q.l≠[]/\1<QJ n.c.ls)->∃n,Qi f j=some n/\n.c.leaf=true/\n.q.l≠[]/\1<QJ n.c.ls:=λ{N f} h ⟨n,c,b,a,t⟩=>by obtain⟨g,p,i⟩:=EG h c;simp only[Am,Zg]at i;obtain⟨o,v⟩:=i;exact⟨g,p,by rw[o];exact b,RE.2 (by rw[v];exact RE.1 a),by rw[o];exact t⟩
 exact⟨l (k _ e),l (k _ e).symm⟩
def Iz.of{M b:Qn}(V:Iz M)(k:b.A=M.A)(d:∀id,(Qi b.N id).map Am=(Qi M.N id).map Am):Iz b:=λj=>by
 rw[k,V j];have e:∀{N a:List Nd},(Qi a j).map Am=(Qi N j).map Am->(∃n,Qi N j=some n/\n.c.leaf=true/\n.q.l≠[]/\1<QJ n.c.ls)->∃n,Qi a j=some n/\n.c.leaf=true/\n.q.l≠[]/\1<QJ n.c.ls:=λ{N a} h ⟨n,p,o,m,l⟩=>by obtain⟨g,i,c⟩:=EG h p;simp only[Am,Zg]at c;obtain⟨f,q⟩:=c;exact⟨g,i,by rw[f];exact o,RE.2 (by rw[q];exact RE.1 m),by rw[f];exact l⟩
 exact⟨e (d _),e (d _).symm⟩
def Qa5{M a:Qn}{j n m}(e:Al m=Al n)(b:KD a j=KD M j)(c:a.KT j=M.KT j):qM a j m=qM M j n:=by simp only[Al,Zg]at e;unfold qM;rw[b,c,e.1,e.2.2]
def zJ.to{M a:Qn}{p}{x:It}(h:(Qi a.N x.ki).map Al=(Qi M.N x.ki).map Al)(c:KD a x.ki=KD M x.ki)(f:a.KT x.ki=M.KT x.ki):zJ M p x->zJ a p x:=λ⟨n,k,j,i,g⟩=>by obtain⟨m,d,b⟩:=EG h k;have e:=Qa5 b c f;simp only[Al,Zg]at b;obtain⟨o,l,q⟩:=b;exact⟨m,d,by rw[o];exact j,by rw[c];exact i,by rw[e,l];exact g⟩
def RD.part{M a:Qn}(V:RD M){U:List Int}(b:a.KT=M.KT)(c:∀j,j ∉ U->KD a j=KD M j)(d:∀j,j ∉ U->(Qi a.N j).map Al=(Qi M.N j).map Al):
  ∀p x,x.ki ∉ U->(x∈a.KT p↔zJ a p x):=λp x hx=>by
 rw[b,V p x];exact⟨zJ.to (d _ hx) (c _ hx) (by rw[b]),zJ.to (d _ hx).symm (c _ hx).symm (by rw[b])⟩
def RD.of{M a:Qn}(V:RD M)(b:a.KT=M.KT)(c:∀j,KD a j=KD M j)(d:∀j,(Qi a.N j).map Al=(Qi M.N j).map Al):RD a:=λp x=>by rw[b,V p x];exact⟨zJ.to (d _) (c _) (by rw[b]),zJ.to (d _).symm (c _).symm (by rw[b])⟩
def Qa6(n:Nd):Ql × Bool × Du × Sh × Cp:=(n.c,n.q.l.isEmpty,n.du,n.sh,n.cp)
def IC{g d:Type}{a}(f:g->d){N c}{b:Int}(e:(Qi c b).map a=(Qi N b).map a):(Qi c b).map (λn=>f (a n))=(Qi N b).map λn=>f (a n):=by have:=congrArg (Option.map f) e;rwa [Sz,Sz]at this
def Inv.num{M a:Qn}(V:Inv M)(c:a.Lv=M.Lv)(d:a.KT=M.KT)(h:a.T=M.T)(e:a.A=M.A)(b:∀id,(Qi a.N id).map Qa6=(Qi M.N id).map Qa6)(f:ED a)(g:We a):Inv a:=
 ⟨V.lv.of c λid=>IC (λk=>(k.1,k.2.1,k.2.2.1.Vt,k.2.2.1.dead)) (b id),V.kt.of d (λj=>by unfold KD;rw[h,e]) λid=>IC (λk=>(k.1,k.2.2.2.1.time,k.2.2.2.2.fit)) (b id),V.act.of e λid=>IC (λk=>(k.1,k.2.1)) (b id),f,⟨by rw[c];exact V.qg.1,λp=>by rw[d];exact V.qg.2 p⟩,g⟩
def Inv.told{M}(V:Inv M)(a):Inv (ZA M a):=by unfold ZA;split;exact⟨V.lv,V.kt,V.act,V.CZ,V.qg,V.ok⟩;exact V
def Inv.acc{M}(V:Inv M)(a):Inv (jP M a):=⟨V.lv,V.kt,V.act,V.CZ,V.qg,V.ok⟩
def wo{b:Type}{key:Nd->b}{step:Qn->Int->Qn}(a:∀M j id,(Qi (step M j).N id).map key=(Qi M.N id).map key):∀(l:List Int) (M:Qn) (id:Int),(Qi (l.foldl step M).N id).map key=(Qi M.N id).map key
 | [],M,id=>rfl
 | j::l,M,id=>(wo a l (step M j) id).trans (a M j id)
def mF{a}(b:∀M j id,id≠j->Qi (a M j).N id=Qi M.N id):∀(l:List Int) (M:Qn) (id:Int),id ∉ l->Qi (l.foldl a M).N id=Qi M.N id
 | [],M,id,_=>rfl
 | j::l,M,id,h=>by rw[QK,q6]at h;exact(mF b l (a M j) id h.2).trans (b M j id h.1)
def aG{c:Type}{a:Nd->c}{N:List Nd}{j:Int}{f:Nd->Nd}(e:∀n,(f n).c=n.c)(d:∀n,a (f n)=a n)(b:Int):(Qi (Wl N j f) b).map a=(Qi N b).map a:=by rw[jM (λn=>by rw[e])];split;rw[Sz];congr 1;funext n;exact d n;rfl
def Qa7{N j f}(b:∀n,(f n).c=n.c)(a)(h:a≠j):Qi (Wl N j f) a=Qi N a:=by rw[jM (λn=>by rw[b]),Qd h]
def QCG{N j f}(a:∀n,(f n).c=n.c){n}(h:Qi N j=some n):Qi (Wl N j f) j=some (f n):=by rw[jM (λn=>by rw[a]),Qe rfl,h];rfl
def ID{N j f}(d:∀n,(f n).c=n.c)(c:∀n,Qi N j=some n->n.Ok->(f n).Ok)(h:∀id n,Qi N id=some n->n.Ok):∀id n,Qi (Wl N j f) id=some n->n.Ok:=λid n a=>by rw[jM (λn=>by rw[d])]at a;split at a;rename_i e;subst e;obtain⟨m,b,rfl⟩:=WK.1 a;exact c m b (h _ _ b);exact h _ _ a
def Qk9{M b:Qn}(V:ED M)(e:∀id,(Qi b.N id).map (λn=>(n.c,n.q))=(Qi M.N id).map λn=>(n.c,n.q)):ED b:=λid n c d=>by obtain⟨m,f,a⟩:=EG (e id).symm c;have h:m.c=n.c:=congrArg Prod.fst a;have g:m.q=n.q:=congrArg Prod.snd a;rw[<-g];exact V id m f (by rw[h];exact d)
def NI(M:Qn)(a:Int)(x:Pk)(j:Int):Qi (K6 M a x).N j=if j=a then (Qi M.N j).map (λm=>{ m with q:=X9 (Qz M a).c.ZV (Qz M a).c.bytes (Qz M a).q x }) else Qi M.N j:=
 jM (f:=λm:Nd=>{ m with q:=X9 (Qz M a).c.ZV (Qz M a).c.bytes (Qz M a).q x }) (λ_=>rfl) j
def Qla{p b}{q:Qu}{x:Pk}(h:wa p b q x=false):(X9 p b q x).l=q.l++[x]:=by unfold X9;rw[Qd (by rw[h];exact xE)]
def Qa8{M}(V:We M)(a x):We (K6 M a x):=
 ID (f:=λm:Nd=>{ m with q:=X9 (Qz M a).c.ZV (Qz M a).c.bytes (Qz M a).q x }) (λ_=>rfl) (λn _ h=>⟨h.JD,h.du,h.sh,h.cp,h.c⟩) V
def QCH{M:Qn}(V:ED M){c}{n:Nd}(d:Qi M.N c=some n)(f:n.c.leaf=true)(x):ED (K6 M c x):=λj m a b=>by rw[NI]at a;split at a;rename_i e;subst e;rw[d]at a;cases a;rw[f]at b;cases b;exact V j m a b
def Inv.push{M:Qn}(V:Inv M){a}{n:Nd}(b:Qi M.N a=some n)(d:n.c.leaf=true)(x)(h:wa n.c.ZV n.c.bytes n.q x=true\/n.q.l≠[]):Inv (K6 M a x):=by
 refine V.num rfl rfl rfl rfl (λj=>?_) (QCH V.CZ b d x) (Qa8 V.ok a x);have f:Qz M a=n:=by unfold Qz;rw[b];rfl
 rw[NI,f];split;rename_i e;subst e;rw[b];have e:(X9 n.c.ZV n.c.bytes n.q x).l.isEmpty=n.q.l.isEmpty:=by
  unfold X9;rcases h with h|h;rw[Qe h];split;rfl;cases c:n.q.l with
  | nil=>exact absurd c h
  | cons y l=>simp
 simp only[Kq,Qa6];rw[e];rfl
def mG(M:Qn)(c)(b:Int)(a:Int)(j:Int):Qi (WW M c b a).N j=if j=b/\1<QJ (Qz M b).c.rt then (Qi M.N j).map (λn=>{ n with du:=XC (Qz M b).du (Jv (Qz M b).c.rt) c a }) else Qi M.N j:=by unfold WW;by_cases h:1<QJ (Qz M b).c.rt;rw[Qe h];dsimp only;rw[jM (f:=λn:Nd=>{ n with du:=XC (Qz M b).du (Jv (Qz M b).c.rt) c a }) (λ_=>rfl)];simp[h];rw[Qd h,Qd (λe=>h e.2)]
def Qa9(b:Nat){d:Type}{a:Nd->d}(e:∀M n,a (Es M b n)=a n)(M:Qn)(j c:Int):(Qi (XG b M j).N c).map a=(Qi M.N c).map a:=
 aG (f:=Es M b) (λ_=>rfl) (e M) c
def Qlb(a):∀(l:List Int) (M:Qn),(l.foldl (XG a) M).Lv=M.Lv
 | [],M=>rfl
 | j::l,M=>Qlb a l (XG a M j)
def Inv.aH{M g:Qn}(P:QB g)(V:Inv M){b}{n q:Nd}(L:Qi M.N b=some n)(F:Qi g.N b=some q)(hl:n.c.leaf=true)(Bm:n.q.l=[])(hq:q.q.l≠[])(xN:(q.c,q.du,q.sh,q.cp)=(n.c,n.du,n.sh,n.cp))
  (AO:∀j,j≠b->Qi g.N j=Qi M.N j) (hL:g.Lv=M.Lv) (hK:g.KT=M.KT) (hT:g.T=M.T) (O:g.A=M.A) (Z:We g) (c:Nat) (Wd:c<18446744073709551616) (o:Int):Inv (qd g c b o):=by
 simp only[Zg]at xN;obtain⟨z,ed,es,ep⟩:=xN;have Ji:Qz g b=q:=by unfold Qz;rw[F];rfl
 have JC:q.c.leaf=true:=by rw[z];exact hl
 have Z4:b ∉ M.A:=λh=>by obtain⟨m,s,_,h3,_⟩:=(V.act b).1 h;rw[L]at s;cases s;exact h3 Bm
 have a0:∀y∈M.Lv,y.ki≠b:=λy v e=>by obtain⟨m,s,_,h3,_⟩:=(V.lv y).1 v;rw[e,L]at s;cases s;exact h3 Bm
 obtain⟨r,K⟩:=Zc (WW g c b o);have I2:QB r:=by rw[K];exact P.WW F c o
 obtain⟨B,W,J,w4⟩:=Nw (M:=g) (now:=c) (id:=b) (head:=o);rw[<-K]at B W J w4;have hF:∀j,Qi r.N j=if j=b/\1<QJ q.c.rt then (Qi g.N j).map (λn=>{ n with du:=XC q.du (Jv q.c.rt) c o }) else Qi g.N j:=λj=>by rw[K,mG,Ji]
 have E:∀j,j≠b->Qi r.N j=Qi M.N j:=λj d=>by rw[hF,Qd (λe=>d e.1),AO j d]
 have aI:r.Lv=if 1<QJ q.c.rt then YH b (XC q.du (Jv q.c.rt) c o).Vt (XC q.du (Jv q.c.rt) c o).dead M.Lv else M.Lv:=by rw[K];unfold WW;rw[Ji];split;dsimp only;rw[hL];exact hL
 obtain⟨m,N,H,NJ,a1,a2,lj⟩:∃m,Qi r.N b=some m/\m.c=n.c/\m.q=q.q/\m.sh=n.sh/\m.cp=n.cp/\(1<QJ q.c.rt->m.du=XC q.du (Jv q.c.rt) c o):=by rw[hF,F];by_cases h:1<QJ q.c.rt;rw[Qe ⟨rfl,h⟩];exact⟨_,rfl,z,rfl,es,ep,λ_=>rfl⟩;rw[Qd (λe=>h e.2)];exact⟨_,rfl,z,rfl,es,ep,λe=>absurd e h⟩
 have Bx:EC r:=V.lv.at_ N (λj d=>by rw[E j d]) (λy v=>by
   rw[aI];split;rw[IA];exact⟨λh=>h.elim (λe=>absurd (congrArg It.ki e) v) (·.1),λh=>.inr ⟨h,v⟩⟩;exact Iff.rfl) λy v=>by
   rw[aI,H,NJ];by_cases h:1<QJ q.c.rt;rw[Qe h,IA,lj h];rw[<-z];exact⟨λe=>e.elim (λe=>⟨JC,hq,h,e⟩) λe=>absurd v e.2,λe=>.inl e.2.2.2⟩;rw[Qd h];rw[<-z];exact⟨λe=>absurd v (a0 y e),λe=>absurd e.2.2.1 h⟩
 have ZJ:∀j,(Qi r.N j).map Al=(Qi M.N j).map Al:=λj=>by by_cases e:j=b;subst e;rw[N,L];simp only[Kq,Al,H,a1,a2];rw[E j e]
 have U:ED r:=λj k d EA=>by by_cases e:j=b;subst e;rw[N]at d;cases d;rw[H,hl]at EA;cases EA;rw[E j e]at d;exact V.CZ j k d EA
 have T:We r:=λj k d=>by rw[hF]at d;split at d;obtain⟨k0,s,rfl⟩:=WK.1 d;have h2:=Z j k0 s;exact⟨h2.JD,tS (Z b q F).du (Z b q F).c.2.2.2.1.lt Wd o,h2.sh,h2.cp,h2.c⟩;exact Z j k d
 have S:Vy r.Lv:=by rw[aI];split;exact mE V.qg.1;exact V.qg.1
 unfold qd;rw[Ji,<-K];by_cases C:1<QJ q.c.ls;rw[Qe C];obtain⟨t,u⟩:∃t,t=(XO g.T g.A b).foldl (XG c) { r with A:=b::g.A }:=⟨_,rfl⟩;rw[<-u];obtain⟨t1,t2,t3,t4,t5,t6⟩:=Im c (XO g.T g.A b) { r with A:=b::g.A };rw[<-u]at t1 t2 t3 t4 t5 t6;dsimp only at t1 t2 t3;have tL:=Qlb c (XO g.T g.A b) { r with A:=b::g.A };rw[<-u]at tL;have WH:Qw g.T b=some q.c:=P.some F;have Q:g.T=t.T:=by rw[t1,B]
 have I3:QB t:=by rw[u];refine QB.U1 _ (I2.act λa w=>?_);rw[B];rcases QK.1 w with rfl|w;exact⟨q.c,WH,JC,C⟩;exact P.qc a w
 rw[Q];have xV:∀j,j ∉ up g.T b->j ∉ XO g.T g.A b:=λj d h=>d (List.takeWhile_subset _ h);have Y:∀j,(Qi t.N j).map (λn=>(n.c,n.q,n.du))=(Qi r.N j).map λn=>(n.c,n.q,n.du):=λj=>by rw[u];exact wo (key:=λn:Nd=>(n.c,n.q,n.du)) (λM j b=>Qa9 c (λ_ _=>rfl) M j b) _ _ j
 have aJ:∀j,j ∉ up g.T b->Qi t.N j=Qi M.N j:=λj d=>by
  have s:Qi t.N j=Qi r.N j:=by rw[u];exact mF (λM i b h=>Qa7 (f:=Es M c) (λ_=>rfl) b h) _ _ j (xV j d)
  rw[s];exact E j λe=>d (by rw[e];exact Yp P.tree WH)
 have R:∀j,KD t j=true↔j∈up g.T b\/KD M j=true:=λj=>by unfold KD;rw[t1,t2,B,O,hT,zz,zz];simp
 refine Part.settle _ b I3 rfl ?_;rw[<-Q];refine⟨?_,?_,λp x hx Gw=>(R _).2 (.inl Gw),?_,?_,⟨by rw[tL];exact S,λp=>by rw[t3,J,hK];exact V.qg.2 p⟩,?_⟩;exact Bx.of tL λj=>IC (λk=>(k.1,k.2.1.l.isEmpty,k.2.2.Vt,k.2.2.dead)) (Y j);refine V.kt.part (by rw[t3,J,hK]) (λj d=>?_) λj d=>by rw[aJ j d]
 rw[wz,R];exact⟨λh=>h.resolve_left d,.inr⟩;obtain⟨m3,g1,g2⟩:=EG (Y b) N;simp only[Zg]at g2;obtain⟨g3,g4,g5⟩:=g2;refine V.act.at_ g1 (λj d=>?_) (λj d=>?_) ?_;rw[<-E j d];exact IC (λk=>(k.1,k.2.1.l.isEmpty)) (Y j);rw[t2,O];simp[d];rw[t2,g3,g4,H,NJ,<-z];exact⟨λ_=>⟨JC,hq,C⟩,λ_=>Jo⟩;exact Qk9 U λj=>IC (λk=>(k.1,k.2.1)) (Y j);rw[u];have:∀(l:List Int) (M:Qn),QB M->We M->We (l.foldl (XG c) M):=by
  intro l;induction l with
  | nil=>intro M _ h;exact h
  | cons j l ih=>intro M I h;refine ih _ (I.XG c j) ?_;exact ID (f:=Es M c) (λ_=>rfl) (λn _ L=>Qaf I Wd L) h
 refine this _ _ (I2.act λa w=>?_) T;rw[B];rcases QK.1 w with rfl|w;exact⟨q.c,WH,JC,C⟩;exact P.qc a w;rw[Qd C];refine⟨Bx,V.kt.of (by rw[J,hK]) (λj=>by unfold KD;rw[B,W,hT,O]) ZJ,?_,U,⟨S,λp=>by rw[J,hK];exact V.qg.2 p⟩,T⟩;refine V.act.at_ N (λj d=>by rw[E j d]) (λj d=>by rw[W,O]) ?_;rw[W,O,H,NJ,<-z];exact⟨λh=>absurd h Z4,λh=>absurd h.2.2 C⟩
def Qlh{M:Qn}{a}{x:Pk}{n:Nd}(b:Qi M.N a=some n):VP M a x=if n.c.leaf=false then 29 else if x.len<1\/M.lk.Ze<x.len then 26 else if 1099511627776<M.acc+x.len.toNat then 28
   else if wa n.c.ZV n.c.bytes n.q x=true then 30 else 0:=by unfold VP;rw[b]
def Qli{M:Qn}{a x}{n:Nd}(b:Qi M.N a=some n)(h:VP M a x=30):n.c.leaf=true/\wa n.c.ZV n.c.bytes n.q x=true:=by rw[Qlh b]at h;split at h;cases h;rename_i d;split at h;cases h;split at h;cases h;split at h;rename_i c;exact⟨by simpa using d,c⟩;cases h
def Qba{M:Qn}{a}{x:Pk}{n:Nd}(b:Qi M.N a=some n)(h:VP M a x=0):n.c.leaf=true/\wa n.c.ZV n.c.bytes n.q x=false/\1<=x.len/\x.len<=M.lk.Ze/\M.acc+x.len.toNat<=1099511627776:=by rw[Qlh b]at h;split at h;cases h;rename_i d;split at h;cases h;rename_i f;split at h;cases h;rename_i e;split at h;cases h;rename_i c;exact⟨by simpa using d,by simpa using c,ω,ω,ω⟩
def Inv.put{M}(I:QB M)(V:Inv M)(c)(o:c<18446744073709551616)(a x):Inv (VE M c a x):=by
 unfold VE;cases b:Qi M.N a with
 | none=>
  have e:VP M a x=23:=by unfold VP;rw[b]
  rw[e,Qd π,Qd π];exact V
 | some n=>
  have k:Qz M a=n:=by unfold Qz;rw[b];rfl
  by_cases i:VP M a x=30;rw[Qe i];obtain⟨f,g⟩:=Qli b i;exact V.push b f x (.inl g);rw[Qd i];by_cases h:VP M a x=0;rw[Qe h,k];obtain⟨f,g,s,r,m⟩:=Qba b h;by_cases d:n.q.l=[];rw[Qe d];have p:Qi (jP (K6 M a x) (M.acc+x.len.toNat)).N a=some { n with q:=X9 n.c.ZV n.c.bytes n.q x }:=by show Qi (K6 M a x).N a=_;rw[NI,Qe rfl,b,k];rfl
  refine Inv.aH ((I.K6 a x).jP m) V b p f d ?_ rfl (λj l=>?_) rfl rfl rfl rfl (Qa8 V.ok a x) c o x.len;dsimp only;rw[Qla g];simp;show Qi (K6 M a x).N j=_;rw[NI,Qd l];rw[Qd d];exact(V.push b f x (.inr d)).acc _;rw[Qd h];exact V
def Inv.Zx{M}(I:QB M)(V:Inv M)(a)(c:a<18446744073709551616)(b x):Inv (Zx M a b x):=by unfold X.Zx;split;exact Inv.put (Af I a) (V.told a) a c b x;exact V
def QCK{T}(e:WD T){p j}:j∈KZ T p↔∃c,Qw T j=some c/\c.parent=p:=by unfold KZ;constructor;intro h;obtain⟨c,d,rfl⟩:=Jw.1 h;obtain⟨b,a⟩:=JB.1 d;exact⟨c,(VK e).2 ⟨b,rfl⟩,by simpa using a⟩;rintro⟨c,d,b⟩;obtain⟨a,rfl⟩:=(VK e).1 d;exact Jw.2 ⟨c,JB.2 ⟨a,by simpa using b⟩,rfl⟩
def QCL(M:Qn)(j a:Int)(h:a≠j):Qi (YM M j).N a=Qi M.N a:=Qa7 (f:=λn:Nd=>{ n with sh:=Bq }) (λ_=>rfl) a h
def QCM{c:Type}{a:Nd->c}(d:∀n:Nd,a { n with sh:=Bq }=a n)(M:Qn)(j b:Int):(Qi (YM M j).N b).map a=(Qi M.N b).map a:=
 aG (f:=λn:Nd=>{ n with sh:=Bq }) (λ_=>rfl) d b
def Gx{b:Type}{key:Nd->b}(c:∀n:Nd,key { n with sh:=Bq }=key n)(M:Qn)(j a:Int):(Qi (J7 M j).N a).map key=(Qi M.N a).map key:=by unfold J7;split;exact wo (QCM c) _ (WX M j) a;rfl
def mI(M)(j:Int):(J7 M j).KT=(WX M j).KT:=by unfold J7;split;exact(l7 _ (WX M j)).2.2.1;rfl
def Qlj{M:Qn}(I:QB M){j:Int}{c}(h:Qw M.T j=some c):(Qz M j).c=c:=by obtain⟨n,b,a⟩:=I.Nt h;unfold Qz;rw[b];exact a
def Qlk{M:Qn}(I:QB M)(j p:Int)(x:It):x∈(J7 M j).KT p↔x∈M.KT p/\x.ki≠j:=by rw[mI];unfold WX;dsimp only;split;rename_i e;rw[aF,e];rename_i e;refine⟨λh=>⟨h,λd=>?_⟩,(·.1)⟩;obtain⟨c,a,b⟩:=I.wh p x h;rw[d]at a;rw[Qlj I a]at e;exact e b.symm
def Qbb:∀(l:List Int) {M:Qn},QB M->∀(p:Int) (x:It),x∈(l.foldl J7 M).KT p↔x∈M.KT p/\x.ki ∉ l
 | [],M,I,p,x=>σ
 | j::l,M,I,p,x=>by rw[qX,Qbb l (I.J7 j) p x,Qlk I];simp[and_assoc]
def QCN{M:Qn}(I:QB M){j p:Int}{x:It}(h:x∈(J7 M j).KT p):Qi (J7 M j).N x.ki=Qi M.N x.ki:=by have a:=h;rw[mI]at a;obtain⟨hx,k⟩:=(Qlk I j p x).1 h;obtain⟨c,i,g⟩:=I.wh p x hx;unfold J7;split;rename_i e;refine mF QCL _ (WX M j) x.ki λd=>?_;obtain⟨c2,b,f⟩:=(QCK I.tree.rising).1 d;rw[i]at b;cases b;unfold WX at a;dsimp only at a;rw[Qe (g.symm.trans f),e]at a;cases a;rfl
def Qll:∀(l:List Int) {M:Qn},QB M->∀{p:Int} {x:It},x∈(l.foldl J7 M).KT p->Qi (l.foldl J7 M).N x.ki=Qi M.N x.ki
 | [],M,I,p,x,h=>rfl
 | j::l,M,I,p,x,h=>by have a:=Qll l (I.J7 j) h;exact a.trans (QCN I (p:=p) ((Qbb l (I.J7 j) p x).1 h).1)
def Qlm:∀(l:List Int) {M:Qn},QB M->∀(i:Int),(∀j∈l,(Qz M j).c.parent≠i)->(l.foldl J7 M).KT i=M.KT i
 | [],M,I,i,h=>rfl
 | j::l,M,I,i,h=>by
  have e:(J7 M j).KT i=M.KT i:=by rw[mI];unfold WX;dsimp only;rw[Qd (λe=>h j Jo e.symm)]
  rw[qX,Qlm l (I.J7 j) i,e];intro k c;have a:=Gx (key:=λn:Nd=>n.c.parent) (λ_=>rfl) M j k;have g:(Qz (J7 M j) k).c.parent=(Qz M k).c.parent:=by
   unfold Qz;cases b:Qi M.N k with
   | none=>rw[b,qY,cG]at a;rw[a]
   | some n=>rw[b]at a;obtain⟨m,f,d⟩:=WK.1 a;rw[f];exact d
  rw[g];exact h k (Js _ c)
def QCO{M}(V:We M)(j):We (J7 M j):=by
 have b:∀(l:List Int) (M:Qn),We M->We (l.foldl YM M):=by
  intro l;induction l with
  | nil=>intro M h;exact h
  | cons j l a=>intro M h;exact a _ (ID (f:=λn:Nd=>{ n with sh:=Bq }) (λ_=>rfl) (λn _ h=>⟨h.JD,h.du,Qkd,h.cp,h.c⟩) h)
 unfold J7;split;exact b _ (WX M j) V;exact V
def Qbc:∀(l:List Int) {M:Qn},We M->We (l.foldl J7 M)
 | [],M,h=>h
 | j::l,M,h=>Qbc l (QCO h j)
def Qln:∀(l:List Int) {M:Qn},Gv M->Gv (l.foldl J7 M)
 | [],M,h=>h
 | j::l,M,h=>by refine Qln l ⟨?_,λp=>?_⟩;rw[(Qke M j).2.2.2.2.2];exact h.1;rw[mI];unfold WX;dsimp only;split;exact Qa2 (h.2 _);exact h.2 p
def QCP(a)(M:Qn)(j b:Int)(h:b≠j):Qi (VO a M j).N b=Qi M.N b:=Qa7 (f:=Eu a) (λ_=>rfl) b h
def Qbd(b:Nat){d:Type}{a:Nd->d}(e:∀n:Nd,a (Eu b n)=a n)(M:Qn)(j c:Int):(Qi (VO b M j).N c).map a=(Qi M.N c).map a:=
 aG (f:=Eu b) (λ_=>rfl) e c
def Qbe(a):∀(l:List Int) {M:Qn},We M->We (l.foldl (VO a) M)
 | [],M,h=>h
 | j::l,M,h=>Qbe a l (ID (f:=Eu a) (λ_=>rfl) (λn _ b=>Qkn b a) h)
def Qbf(M:Qn)(a:Int)(b)(r:Bool)(j:Int):Qi (Wv M a b r).N j=if j=a/\1<QJ (Qz M a).c.rt then (Qi M.N j).map (λn=>{ n with du:=qN (Qz M a) b r }) else Qi M.N j:=by unfold Wv;by_cases h:1<QJ (Qz M a).c.rt;rw[Qe h];dsimp only;rw[jM (f:=λn:Nd=>{ n with du:=qN (Qz M a) b r }) (λ_=>rfl)];simp[h];rw[Qd h,Qd (λe=>h e.2)]
def Inv.take{M:Qn}(I:QB M)(V:Inv M){a}{n:Nd}(Z:Qi M.N a=some n)(hl:n.c.leaf=true)(hq:n.q.l≠[])(r):Inv (XU M a r):=by
 have Ji:Qz M a=n:=by unfold Qz;rw[Z];rfl
 have WH:=I.some Z;have xL:a∈up M.T a:=Yp I.tree WH;have IE:∀j,Qi (Ww M a).N j=if j=a then (Qi M.N j).map (λn=>{ n with q:=Kv (Qz M a).q }) else Qi M.N j:=λj=>jM (f:=λn:Nd=>{ n with q:=Kv (Qz M a).q }) (λ_=>rfl) j
 unfold XU;dsimp only;rw[Ji];generalize e8:(n.q.l.headD default).len=d;obtain⟨u,Q⟩:=Zc ((up M.T a).foldl (VO d.toNat) (Ww M a));rw[<-Q];have I2:QB u:=by rw[Q];exact QB.mi _ (I.Ww a)
 obtain⟨b1,b2,b3,b4,b5,b6,b7⟩:=NC d.toNat (up M.T a) (Ww M a);rw[<-Q]at b1 b2 b3 b4 b5 b6 b7;have e7:∀j,j ∉ up M.T a->Qi u.N j=Qi M.N j:=λj b=>by rw[Q,mF (QCP d.toNat) _ _ j b,IE,Qd (λe=>b (by rw[e];exact xL))]
 have ZJ:∀j,(Qi u.N j).map (λn=>(n.c,n.q,n.du))=(Qi (Ww M a).N j).map λn=>(n.c,n.q,n.du):=λj=>by rw[Q];exact wo (key:=λn:Nd=>(n.c,n.q,n.du)) (λM j a=>Qbd d.toNat (λ_=>rfl) M j a) _ _ j
 have e6:(Qi u.N a).map (λn=>(n.c,n.q,n.du))=some (n.c,Kv n.q,n.du):=by rw[ZJ,IE,Qe rfl,Z,Ji];rfl
 have F3:∀j,j≠a->(Qi u.N j).map (λn=>(n.c,n.q,n.du))=(Qi M.N j).map λn=>(n.c,n.q,n.du):=λj b=>by rw[ZJ,IE,Qd b]
 obtain⟨C,YE,e2⟩:=WK.1 e6;simp only[Zg]at e2;obtain⟨c2,q2,d2⟩:=e2;have mJ:Qz u a=C:=by unfold Qz;rw[YE];rfl
 have P:We u:=by rw[Q];exact Qbe _ _ (ID (f:=λn:Nd=>{ n with q:=Kv (Qz M a).q }) (λ_=>rfl) (λn _ h=>⟨h.JD,h.du,h.sh,h.cp,h.c⟩) V.ok)
 obtain⟨c,W⟩:=Zc (Wv u a d r);rw[<-W];have I3:QB c:=by rw[W];exact I2.Wv YE d r
 obtain⟨a1,a2,a3,a4,a5,a6⟩:=Rs u a d r;rw[<-W]at a1 a2 a3 a4 a5 a6;have hF:∀j,Qi c.N j=if j=a/\1<QJ n.c.rt then (Qi u.N j).map (λn=>{ n with du:=qN C d r }) else Qi u.N j:=λj=>by rw[W,Qbf,mJ,c2]
 have aJ:∀j,j ∉ up M.T a->Qi c.N j=Qi M.N j:=λj b=>by rw[hF,Qd (λe=>b (by rw[e.1];exact xL)),e7 j b]
 have O:∀j,j≠a->Qi c.N j=Qi u.N j:=λj b=>by rw[hF,Qd (λe=>b e.1)]
 obtain⟨m,R,y7,NJ,lj⟩:∃m,Qi c.N a=some m/\m.c=n.c/\m.q=Kv n.q/\(1<QJ n.c.rt->m.du=qN C d r):=by rw[hF,YE];by_cases h:1<QJ n.c.rt;rw[Qe ⟨rfl,h⟩];exact⟨_,rfl,c2,q2,λ_=>rfl⟩;rw[Qd (λe=>h e.2)];exact⟨_,rfl,c2,q2,λe=>absurd e h⟩
 have c3:We c:=λj k b=>by rw[hF]at b;split at b;obtain⟨k0,t,rfl⟩:=WK.1 b;have v:=P j k0 t;exact⟨v.JD,Qac (P a C YE) d r,v.sh,v.cp,v.c⟩;exact P j k b
 have mK:c.Lv=if 1<QJ n.c.rt then (if (Kv n.q).l=[] then Vz a (YH a (qN C d r).Vt (qN C d r).dead M.Lv) else YH a (qN C d r).Vt (qN C d r).dead M.Lv) else M.Lv:=by rw[W];unfold Wv;rw[mJ,c2,q2];split;dsimp only;rw[b7];rfl;exact b7
 have Bx:EC c:=V.lv.at_ R (λj b=>by
   rw[O j b];exact IC (λk=>(k.1,k.2.1.l.isEmpty,k.2.2.Vt,k.2.2.dead)) (F3 j b)) (λy B=>by
   rw[mK];split;split;rw[aF,IA];exact⟨λh=>h.1.elim (λe=>absurd (congrArg It.ki e) B) (·.1),λh=>⟨.inr ⟨h,B⟩,B⟩⟩;rw[IA];exact⟨λh=>h.elim (λe=>absurd (congrArg It.ki e) B) (·.1),λh=>.inr ⟨h,B⟩⟩;exact Iff.rfl) λy B=>by
   rw[mK,y7,NJ];by_cases h:1<QJ n.c.rt;rw[Qe h,lj h];split;rename_i he;rw[aF];exact⟨λe=>absurd B e.2,λe=>absurd he e.2.1⟩;rename_i he;rw[IA];exact⟨λe=>e.elim (λe=>⟨hl,he,h,e⟩) λe=>absurd B e.2,λe=>.inl e.2.2.2⟩;rw[Qd h];refine⟨λe=>?_,λe=>absurd e.2.2.1 h⟩;obtain⟨k,t,_,_,H,_⟩:=(V.lv y).1 e;rw[B,Z]at t;cases t;exact absurd H h
 have c1:Gv c:=⟨by rw[mK];split;split;exact Qa2 (mE V.qg.1);exact mE V.qg.1;exact V.qg.1,λp=>by rw[a3,b3];exact V.qg.2 p⟩
 have c0:ED c:=λj k b EA=>by by_cases e:j=a;subst e;rw[R]at b;cases b;rw[y7,hl]at EA;cases EA;rw[O j e]at b;obtain⟨k0,t,v⟩:=EG (F3 j e).symm b;simp only[Zg]at v;rw[<-v.2.1];exact V.CZ j k0 t (by rw[v.1];exact EA)
 have E:c.T=M.T:=by rw[a1,b1];rfl
 have T:c.A=M.A:=by rw[a2,b2];rfl
 have L:c.KT=M.KT:=by rw[a3,b3];rfl
 have Ej:∀p x,x.ki ∉ up M.T a->(x∈c.KT p↔zJ c p x):=V.kt.part L (λj _=>by unfold KD;rw[E,T]) λj b=>by rw[aJ j b]
 have b9:∀j,j≠a->(Qi c.N j).map Am=(Qi M.N j).map Am:=λj b=>by rw[O j b];exact IC (λk=>(k.1,k.2.1.l.isEmpty)) (F3 j b)
 have J:(a∈M.A↔(Kv n.q).l≠[]/\1<QJ n.c.ls)->Inv (Wu c (up M.T a)):=λZd=>by rw[<-E];refine Part.settle _ a I3 rfl ?_;rw[E];refine⟨Bx,Ej,λp x hx Gw=>?_,V.act.at_ R b9 (λj _=>by rw[T]) ?_,c0,c1,c3⟩;rw[L]at hx;obtain⟨_,_,_,h,_⟩:=(V.kt p x).1 hx;show JE c.T c.A x.ki=true;rw[E,T];exact h;rw[T,y7,NJ,Zd];exact⟨λh=>⟨hl,h⟩,λh=>h.2⟩
 have V8:a∈M.A↔1<QJ n.c.ls:=by rw[V.act a,Z];constructor;rintro⟨k,t,_,_,H⟩;cases t;exact H;intro h;exact⟨n,rfl,hl,hq,h⟩
 by_cases mL:(Kv n.q).l=[];rw[Qe mL];have e5:Qz c a=m:=by unfold Qz;rw[R];rfl
 unfold XT;rw[e5,y7];by_cases Y:1<QJ n.c.ls;rw[Qe Y];have e4:=V8.2 Y;obtain⟨s,w⟩:∃s,s={ c with A:=Kj c.A a }:=⟨_,rfl⟩;have Io:QB s:=by rw[w];exact I3.act (I3.qc.off a)
 rw[<-w];obtain⟨U,hU⟩:=Zc (XO c.T (Kj c.A a) a);rw[<-hU];obtain⟨g,o⟩:=Zc (U.foldl J7 s);rw[<-o];have I4:QB g:=by rw[o];exact QB.U7 _ Io
 obtain⟨s1,s2,s3,s4,s5,s6⟩:=Iq U s;rw[<-o]at s1 s2 s3 s4 s5 s6;have Is:g.T=M.T:=by rw[s1,w];exact E
 have mM:g.A=Kj M.A a:=by rw[s2,w];dsimp only;rw[T]
 have K:s.N=c.N:=by rw[w]
 have a0:s.KT=M.KT:=by rw[w];exact L
 have N:∀j∈U,j∈up M.T a:=λj b=>by rw[hU,E]at b;exact List.takeWhile_subset _ b
 have WT:∀p x,x∈g.KT p↔x∈M.KT p/\x.ki ∉ U:=λp x=>by rw[o,Qbb U Io p x,a0]
 have yc:∀j,KD M j=true↔j∈up M.T a\/KD g j=true:=λj=>by unfold KD;rw[Is,mM];exact My e4 j
 have e3:∀j,j∈up M.T a->j ∉ U->KD g j=true:=λj b Gr=>by
  rw[hU,E,T]at Gr;unfold KD;rw[Is,mM];unfold XO at Gr;have mN:=List.takeWhile_append_dropWhile (p:=λi=>!JE M.T (Kj M.A a) i) (l:=up M.T a);rw[<-mN]at b;rcases Q3.1 b with b|b;exact absurd b Gr;cases S:(up M.T a).dropWhile (λi=>!JE M.T (Kj M.A a) i) with
  | nil=>rw[S]at b;cases b
  | cons k c4=>
   have hk:JE M.T (Kj M.A a) k=true:=by have:=List.head_dropWhile_not (λi=>!JE M.T (Kj M.A a) i) (l:=up M.T a) (by rw[S];simp);simp only[S,List.head_cons]at this;simpa using this
   rw[S]at b mN;have e1:k∈up M.T a:=by rw[<-mN];simp
   obtain⟨ck,a7⟩:=E6.1 (HP e1);have AO:c4=up M.T ck.parent:=Qwj I.tree (mN.symm) a7;rcases QK.1 b with rfl|b;exact hk;refine Mx I.tree hk ?_;rw[V0 I.tree a7,<-AO];exact Js _ b
 have b0:∀p x,x.ki ∉ up M.T a->x∈g.KT p->zJ g p x:=λp x hx h=>by
  have c5:=((WT p x).1 h).1;obtain⟨z,t,v,h3,H⟩:=(V.kt p x).1 c5;have aK:Qi g.N x.ki=some z:=by
   have F:Qi g.N x.ki=Qi s.N x.ki:=by rw[o];rw[o]at h;exact Qll U Io h
   rw[F,K,aJ _ hx,t]
  have a9:KD g x.ki=true:=((yc _).1 h3).resolve_left hx;refine⟨z,aK,v,a9,?_⟩;have c8:g.KT x.ki=M.KT x.ki:=by
   rw[o,Qlm U Io x.ki,a0];intro j b e;obtain⟨cj,a8⟩:=E6.1 (HP (N j b));have e0:Qw s.T j=some cj:=by rw[w];dsimp only;rw[E];exact a8
   rw[Qlj Io e0]at e;refine hx (up_sub I.tree (N j b) ?_);rw[V0 I.tree a8,e];exact Js _ (Yp I.tree (I.some t))
  rw[Qa5 (n:=z) rfl (by rw[a9,h3]) c8];exact H
 rw[<-Is];refine Part.settle _ a I4 rfl ?_;rw[Is];refine⟨?_,λp x hx=>⟨b0 p x hx,λS=>?_⟩,λp x h Gw=>e3 _ Gw ((WT p x).1 h).2,?_,?_,?_,?_⟩;refine Bx.of (by rw[s6,w]) λj=>?_;rw[o,wo (Gx (key:=IB) (λ_=>rfl)) U s j,K];obtain⟨k,t,v,h3,H⟩:=S;have xN:(Qi g.N x.ki).map (λn=>n.c)=(Qi c.N x.ki).map λn=>n.c:=by rw[o,wo (Gx (key:=λn:Nd=>n.c) (λ_=>rfl)) U s x.ki,K]
 obtain⟨z,F,h6⟩:=EG xN.symm t;rw[aJ _ hx]at F;have c9:(⟨z.sh.time,x.ki,qM M x.ki z,x.ki⟩:It)∈M.KT p:=(V.kt p _).2 ⟨z,F,by rw[h6];exact v,(yc _).2 (.inr h3),rfl⟩;have b8:=(WT p _).2 ⟨c9,λc7=>hx (N _ c7)⟩;obtain⟨k2,g1,g2,g3,g4⟩:=b0 p ⟨z.sh.time,x.ki,qM M x.ki z,x.ki⟩ hx b8;dsimp only at g1 g4;rw[t]at g1;cases g1;rw[<-g4]at H;rw[H];exact b8;refine V.act.at_ (id:=a) (m:=(Qz g a)) ?_ (λj b=>?_) (λj b=>?_) ?_;have xN:(Qi g.N a).map (λn=>n.c)=(Qi c.N a).map λn=>n.c:=by rw[o,wo (Gx (key:=λn:Nd=>n.c) (λ_=>rfl)) U s a,K]
 obtain⟨k,F,_⟩:=EG xN R;unfold Qz;rw[F];rfl;rw[o,wo (Gx (key:=Am) (λ_=>rfl)) U s j,K];exact b9 j b;rw[mM];simp[Kj,b];have xN:(Qi g.N a).map (λn=>n.q)=(Qi c.N a).map λn=>n.q:=by rw[o,wo (Gx (key:=λn:Nd=>n.q) (λ_=>rfl)) U s a,K]
 obtain⟨k,F,h6⟩:=EG xN R;have hk:Qz g a=k:=by unfold Qz;rw[F];rfl
 rw[hk,h6,NJ,mM];simp[Kj,mL];refine Qk9 c0 λj=>?_;rw[o,wo (Gx (key:=λn:Nd=>(n.c,n.q)) (λ_=>rfl)) U s j,K];rw[o];refine Qln U ?_;rw[w];exact c1;rw[o];refine Qbc U ?_;rw[w];exact c3;rw[Qd Y];exact J ⟨λh=>absurd (V8.1 h) Y,λh=>absurd h.2 Y⟩;rw[Qd mL];exact J (V8.trans ⟨λh=>⟨mL,h⟩,(·.2)⟩)
def Xb(a:List Ql)(j:Int):Bool:=match Qw a j with
 | some c=>!c.leaf
 | none=>false
def Qlx{d}(M:Qn)(j a:Int):(J2 d M j).KT a=if a=j/\Xb d j=true then [] else M.KT a:=by
 unfold J2 Xb;cases f:Qw d j with
 | none=>simp
 | some c=>dsimp only;by_cases b:c.leaf=true;rw[Qe b,Qd (λe=>by rw[b]at e;exact absurd e.2 π)];rw[Qd b];dsimp only;by_cases e:a=j;rw[Qe e,Qe ⟨e,by simpa using b⟩];rw[Qd e,Qd (λh=>e h.1)]
def Qbk{b}(a):∀(l:List Int) (M:Qn),a ∉ l->(l.foldl (J2 b) M).KT a=M.KT a
 | [],M,_=>rfl
 | j::l,M,h=>by rw[QK,q6]at h;rw[qX,Qbk a l _ h.2,Qlx,Qd (λe=>h.1 e.1)]
def QC1{a M}(V:Gv M)(j):Gv (J2 a M j):=by refine⟨by rw[(QkS (T2:=a) M j).2.1];exact V.1,λp=>?_⟩;rw[Qlx];split;simp[Vy];exact V.2 p
def Qly{a}:∀(l:List Int) {M:Qn},Gv M->Gv (l.foldl (J2 a) M)
 | [],M,h=>h
 | j::l,M,h=>Qly l (QC1 h j)
def Qbl(c)(a:Int):∀(l:List Int) (A:List Int),a∈l.foldl (xu c) A↔a∈A\/(a∈l/\1<QJ ((Qw c a).getD default).ls)
 | [],A=>σ
 | j::l,A=>by rw[qX,Qbl c a l];unfold xu;constructor;rintro (h|⟨h,b⟩);split at h;rename_i d;rcases QK.1 h with rfl|h;exact .inr ⟨Jo,d⟩;exact .inl h;exact .inl h;exact .inr ⟨Js _ h,b⟩;rintro (h|⟨h,b⟩);refine .inl ?_;split;exact Js _ h;exact h;rcases QK.1 h with rfl|h;refine .inl ?_;rw[Qe b];exact Jo;exact .inr ⟨h,b⟩
def EI{M:Qn}(I:QB M){b}:b∈V5 M↔∃n,Qi M.N b=some n/\n.c.leaf=true/\n.q.l≠[]:=by
 constructor;intro h;obtain⟨c,a⟩:=JB.1 (show b∈(wj M.T).filter _ from h);obtain⟨n,g,m,o⟩:=mA I c;refine⟨n,g,m,λe=>?_⟩;unfold Gt Qz at a;rw[g]at a;simp[e]at a;rintro⟨n,f,j,i⟩;have k:=I.some f;obtain⟨c,a⟩:=(VK I.tree.rising).1 k;refine JB.2 ⟨Jw.2 ⟨n.c,JB.2 ⟨c,j⟩,a⟩,?_⟩;unfold Gt Qz;rw[f];cases d:n.q.l with
 | nil=>exact absurd d i
 | cons x l=>simp[d]
section
variable {M:Qn}(I:QB M)(V:Inv M){T2:List Ql}(I2:KF T2)(K2:jL T2){b:Bool}(hb:jm M T2 b=false)
include I V I2 K2 hb
theorem Inv.ay:QB (qP M T2):=X.ay I I2 K2 hb (Good.Bx I V.EF) (Good.Rw I V.EF)
omit I V I2 K2 in
theorem RG{a}(d:yq M a=true):a ∉ J1 M.T T2:=λc=>by unfold jm at hb;rw[show (J1 M.T T2).any (yq M)=true from j6.2 ⟨a,c,d⟩]at hb;cases hb
omit V K2 in
theorem mO{a}(c:yq M a=true):Qi (XV M T2) a=Qi M.N a:=by rw[Ix I I2];unfold VV;rw[Gu I2.rising,Qd (RG hb c)]
omit I V I2 K2 hb in
theorem RH{a x}(d:a∈V5 M)(c:x∈up M.T a):yq M x=true:=j6.2 ⟨a,d,by simpa using c⟩
omit V K2 in
theorem QC2{a}(m:a∈V5 M):∀(k:Nat) (x:Int),(up M.T x).length=k->(x=0\/x∈up M.T a)->up T2 x=up M.T x:=by
 intro k;induction k using Nat.strongRecOn with
 | ind k h=>
  intro x i hx;rcases hx with rfl|hx;rw[Mw I2,Mw I.tree];obtain⟨c,f⟩:=E6.1 (HP hx);have l:Qw T2 x=some c:=by refine j5 λe=>?_;exact RG hb (RH m hx) (Ih.2 (by rw[f];exact λn=>e n.symm))
  rw[V0 I2 l,V0 I.tree f];rw[V0 I.tree f,Kx]at i;congr 1;refine h _ ω c.parent rfl ?_;by_cases g:c.parent=0;exact .inl g;obtain⟨d,j,_⟩:=I.tree.Jz c (yT I.tree f) g;refine .inr (up_sub I.tree hx ?_);rw[V0 I.tree f];exact Js _ (Yp I.tree j)
omit V K2 in
theorem Qlz{a}(c:a∈V5 M):up T2 a=up M.T a:=by obtain⟨n,d,_⟩:=(EI I).1 c;exact QC2 I I2 hb c _ a rfl (.inr (Yp I.tree (I.some d)))
theorem QC3{d}:d∈V5 (qP M T2)↔d∈V5 M:=by have i:=V.ay I I2 K2 hb;rw[EI i];constructor;rintro⟨n,f,g,e⟩;have a:Qi (XV M T2) d=some n:=f;rw[Ix I I2]at a;unfold VV at a;rw[Gu I2.rising]at a;split at a;obtain⟨c,_,rfl⟩:=WK.1 a;exact absurd rfl e;exact(EI I).2 ⟨n,a,g,e⟩;intro h;obtain⟨n,f,g,e⟩:=(EI I).1 h;refine⟨n,?_,g,e⟩;show Qi (XV M T2) d=some n;rw[mO I I2 hb (RH h (Yp I.tree (I.some f)))];exact f
theorem Qbm{a}:a∈(wm M T2).A↔a∈M.A:=by show a∈(V5 (qP M T2)).foldl (xu T2) []↔_;rw[Qbl,QC3 I V I2 K2 hb,V.act a];constructor;rintro (h|⟨d,l⟩);cases h;obtain⟨n,c,j,i⟩:=(EI I).1 d;refine⟨n,c,j,i,?_⟩;have f:a ∉ J1 M.T T2:=RG hb (RH d (Yp I.tree (I.some c)));have g:Qw T2 a=Qw M.T a:=j5 λe=>f (Ih.2 λk=>e k.symm);rw[g,I.some c]at l;exact l;rintro⟨n,c,j,i,g⟩;have d:a∈V5 M:=(EI I).2 ⟨n,c,j,i⟩;refine .inr ⟨d,?_⟩;have f:a ∉ J1 M.T T2:=RG hb (RH d (Yp I.tree (I.some c)));have m:Qw T2 a=Qw M.T a:=j5 λe=>f (Ih.2 λk=>e k.symm);rw[m,I.some c];exact g
theorem Qbn(e):KD (wm M T2) e=KD M e:=by
 have h:(wm M T2).T=T2:=(EB (T2:=T2) (J1 M.T T2) { M with T:=T2 }).1;rw[wz];unfold KD;rw[h,zz,zz];have f:∀a∈M.A,a∈V5 M:=λa c=>by obtain⟨n,k,j,i,_⟩:=(V.act a).1 c;exact(EI I).2 ⟨n,k,j,i⟩
 constructor;rintro⟨a,c,d⟩;have g:=(Qbm I V I2 K2 hb).1 c;exact⟨a,g,by rw[<-Qlz I I2 hb (f a g)];exact d⟩;rintro⟨a,c,d⟩;exact⟨a,(Qbm I V I2 K2 hb).2 c,by rw[Qlz I I2 hb (f a c)];exact d⟩
theorem Inv.change:Inv (wm M T2):=by
 obtain⟨f1,f2,f3,f4,f5⟩:=EB (T2:=T2) (J1 M.T T2) { M with T:=T2 };have E:(wm M T2).Lv=M.Lv:=f2;have F:(0:Int) ∉ J1 M.T T2:=λh=>Ih.1 h (by rw[FR I.tree,FR I2]);have s:∀{id:Int} {n:Nd},Qi M.N id=some n->n.c.leaf=true->n.q.l≠[]->Qi (wm M T2).N id=some n:=λ{id n} g f e=>by show Qi (XV M T2) id=some n;rw[mO I I2 hb (RH ((EI I).2 ⟨n,g,f,e⟩) (Yp I.tree (I.some g)))];exact g
 have v:∀{id:Int} {n:Nd},Qi (wm M T2).N id=some n->n.q.l≠[]->Qi M.N id=some n:=λ{id n} g e=>by have i:Qi (XV M T2) id=some n:=g;rw[Ix I I2]at i;unfold VV at i;rw[Gu I2.rising]at i;split at i;obtain⟨c,_,rfl⟩:=WK.1 i;exact absurd rfl e;exact i
 have m:∀{id:Int},KD M id=true->yq M id=true:=λ{id} h=>by obtain⟨a,C,w⟩:=zz.1 h;obtain⟨n,g,f,e,_⟩:=(V.act a).1 C;exact RH ((EI I).2 ⟨n,g,f,e⟩) w
 have l:∀{id:Int},id ∉ J1 M.T T2->(wm M T2).KT id=M.KT id:=λ{id} h=>Qbk id (J1 M.T T2) { M with T:=T2 } h;have u:∀{id:Int} {n:Nd},KD M id=true->qM (wm M T2) id n=qM M id n:=λ{id n} h=>Qa5 rfl (Qbn I V I2 K2 hb id) (l (RG hb (m h)));have q:∀p x,zJ (wm M T2) p x↔zJ M p x:=λp x=>by
  constructor;rintro⟨n,g,f,e,j⟩;rw[Qbn I V I2 K2 hb]at e;have k:Qi M.N x.ki=some n:=by have:Qi (XV M T2) x.ki=some n:=g;rwa [mO I I2 hb (m e)]at this
  exact⟨n,k,f,e,by rw[<-u e];exact j⟩;rintro⟨n,g,f,e,j⟩;refine⟨n,?_,f,by rw[Qbn I V I2 K2 hb];exact e,by rw[u e];exact j⟩;show Qi (XV M T2) x.ki=some n;rw[mO I I2 hb (m e)];exact g
 have o:∀{p:Int} {x:It},zJ M p x->p ∉ J1 M.T T2:=λ{p x} ⟨n,g,f,e,_⟩=>by by_cases r:p=0;rw[r];exact F;refine RG hb (m (Mx I.tree e ?_));have t:=I.some g;obtain⟨d,z,_⟩:=I.tree.Jz n.c (yT I.tree t) (by rw[f];exact r);rw[V0 I.tree t,<-f];exact Js _ (Yp I.tree z)
 refine⟨λx=>?_,λp x=>?_,λid=>?_,λid n h y=>?_,Qly _ V.qg,λid n h=>?_⟩;rw[E,V.lv x];constructor;rintro⟨n,g,f,e,j,k⟩;exact⟨n,s g f e,f,e,j,k⟩;rintro⟨n,g,f,e,j,k⟩;exact⟨n,v g e,f,e,j,k⟩;rw[q];constructor;intro h;have f:x∈M.KT p:=mC p (J1 M.T T2) { M with T:=T2 } h;exact(V.kt p x).1 f;intro h;rw[l (o h)];exact(V.kt p x).2 h;rw[Qbm I V I2 K2 hb,V.act id];constructor;rintro⟨n,g,f,e,j⟩;exact⟨n,s g f e,f,e,j⟩;rintro⟨n,g,f,e,j⟩;exact⟨n,v g e,f,e,j⟩;have i:Qi (XV M T2) id=some n:=h;rw[Ix I I2]at i;unfold VV at i;rw[Gu I2.rising]at i;split at i;obtain⟨c,_,rfl⟩:=WK.1 i;rfl;exact V.CZ id n i y;have i:Qi (XV M T2) id=some n:=h;rw[Ix I I2]at i;unfold VV at i;rw[Gu I2.rising]at i;split at i;obtain⟨c,B,rfl⟩:=WK.1 i;exact QkQ (K2 c (yT I2 B));exact V.ok id n i
end
end Go.Fg.X
