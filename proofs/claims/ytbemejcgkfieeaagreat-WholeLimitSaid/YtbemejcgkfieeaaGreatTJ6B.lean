/- Contracts and laws on the way to the statement. No conditions. -/
import Derived.Test.YtbemejcgkfieeaaGreatTMlB
import Derived.Test.YtbemejcgkfieeaaGreatPB2B
import Derived.Test.YtbemejcgkfieeaaGreatCA2B
import Derived.Test.YtbemejcgkfieeaaGreatYHrB
import Derived.Test.YtbemejcgkfieeaaGreatSG8B
set_option maxRecDepth 100000
set_option maxHeartbeats 16000000
set_option linter.unusedVariables false
set_option linter.unusedSimpArgs false
set_option linter.unusedSectionVars false
set_option linter.defProp false
namespace Go.Fg.X
open Go.Proofs Go.Fg
open Go.Proofs.Tryz
def Gd(l:Ln):Int:=l.y-(l.m:Int)*l.x
structure Ed (m X:Nat) (l:Ln):Prop where
 m:l.m=m
 x:l.x<=X
 y:l.y<=1329227995784915872903807060280344576
def Ed.le{m X Y}{l}(h:Ed m X l)(e:X<=Y):Ed m Y l:=⟨h.m,JY h.x e,h.y⟩
def QlQ{m d}(a:m<=4294967295)(b:d<=9223372036854775807):m*d<=39614081247908796759917199360:=JY (Yb a b) π
def Qbt{m X x}{l}(h:Ed m X l)(a:m<=4294967295)(d:X<=x)(c:x<=9223372036854775807):(qd l x:Int)=Gd l+(m:Int)*x:=by
 have hx:=h.x;have b:=h.y;have e:qd l x=l.y+m*(x-l.x):=by
  unfold qd;split;rw[show x-l.x=0 by omega];rfl;have:=QlQ a (show x-l.x<=9223372036854775807 from ω);rw[h.m,qW ω]
 have f:((m*(x-l.x):Nat):Int)=(m:Int)*x-(m:Int)*l.x:=by
  rw[Bg,Int.natCast_sub ω,Int.mul_sub]
 unfold Gd;rw[e,h.m];omega
def QlR{m X}{a b}(d:Ed m X a)(c:Ed m X b)(e:m<=4294967295)(h:X<=9223372036854775807):Ed m X (xJ a b)/\Gd (xJ a b)<=Gd a/\Gd (xJ a b)<=Gd b:=by
 have j:=d.x;have i:=c.x;have g:=Qbt ⟨d.m,show a.x<=max a.x b.x by omega,d.y⟩ e (QB _) ω;have f:=Qbt ⟨c.m,show b.x<=max a.x b.x by omega,c.y⟩ e (QB _) ω;unfold xJ;split;exact⟨c,ω,Eh _⟩;exact⟨d,Eh _,ω⟩
def QDZ{n m}(a:0<m):n<=m*cdiv n m:=by
 unfold cdiv;have:=RL (n+m-1) m;have:=WM (n+m-1) a;omega
def QlS{m X a w}{l}(h:Ed m X l)(c:m<=4294967295)(g:X<=a)(f:a<=9223372036854775807)(b:wk l w<=a):(w:Int)<=Gd l+(m:Int)*a:=by
 have hx:=h.x;rw[<- Qbt h c g f];have e:qd l a=l.y+m*(a-l.x):=by
  unfold qd;have j:=h.y;split;rw[show a-l.x=0 by omega];rfl;have:=QlQ c (show a-l.x<=9223372036854775807 from ω);rw[h.m,qW ω]
 rw[e];unfold wk at b;split at b;have:w<=l.y+m*(a-l.x):=ω
 exact_mod_cast this
 split at b;unfold never at b;omega;rename_i d;rw[h.m]at b d;have k:=QDZ (n:=w-l.y) (m:=m) ω;have i:m*cdiv (w-l.y) m<=m*(a-l.x):=Iv m ω;have:w<=l.y+m*(a-l.x):=ω
 exact_mod_cast this
structure Ge (c:Nc) (X:Nat) (r:Rn):Prop where
 b:r.b=decide (c.of=3)
 t:Ed c.b X r.t
 f:c.of=3->Ed c.a X r.f
structure Rq (c:Nc) (A base:Nat) (r:Rn):Prop where
 t:Gd r.t<=(base:Int)*65536+(if c.of=3 then ((c.a:Int)-c.b)*c.d else 0)-(c.b:Int)*A
 f:c.of=3->Gd r.f<=(base:Int)*65536-(c.a:Int)*A
structure Np (c:Nc):Prop where
 k:c.of=2\/c.of=3
 a:c.a<=4294967295
 b:c.b<=4294967295
 d:c.d<=1048576
 ba:c.of=3->c.b<c.a
 two:c.of=2->c.d=0
def Ge.le{c}{X Y}{r}(h:Ge c X r)(e:X<=Y):Ge c Y r:=⟨h.b,h.t.le e,λk=>(h.f k).le e⟩
def QD0{c}(C:Np c){now a}(i:a<18446744073709551616):Ge c now (Vp c now (a*65536))/\Rq c now a (Vp c now (a*65536)):=by
 have hk:=C.k;have e:Vp c now (a*65536)=wm c now (a*65536):=Qc ω;rw[e];rcases hk with hk|hk;rw[gT (.inl hk)];have b:¬c.of=3:=ω;refine⟨⟨(QG b).symm,⟨rfl,QB _,by show a*65536<=_;omega⟩,λk=>absurd k b⟩,⟨?_,λk=>absurd k b⟩⟩;rw[Qc b];show ((a*65536:Nat):Int)-(c.b:Int)*now<=_;omega;rw[QhI hk];have h:=C.ba hk;have d:(c.a-c.b)*c.d<=4503599626321920:=by
  have j:=C.a;have f:=C.d;exact JY (Yb (show c.a-c.b<=4294967295 from ω) f) π
 have em:(a*65536+(c.a-c.b)*c.d)%2^128=a*65536+(c.a-c.b)*c.d:=qW ω;have g:(((c.a-c.b)*c.d:Nat):Int)=((c.a:Int)-c.b)*c.d:=by rw[Bg,Int.natCast_sub ω]
 rw[em];refine⟨⟨(QS hk).symm,⟨rfl,QB _,by show a*65536+(c.a-c.b)*c.d<=_;omega⟩,λ_=>⟨rfl,QB _,by show a*65536<=_;omega⟩⟩,⟨?_,λ_=>?_⟩⟩;rw[Qd hk,<- g];show ((a*65536+(c.a-c.b)*c.d:Nat):Int)-(c.b:Int)*now<=_;omega;show ((a*65536:Nat):Int)-(c.a:Int)*now<=_;omega
def QD2{c}(C:Np c){X}(i:X<=4611686018427387904){r s}(d:Ge c X r)(f:Ge c X s):
  Ge c X (XL r s)/\(∀A a,Rq c A a r\/Rq c A a s->Rq c A a (XL r s)):=by
 obtain⟨t1,t2,t3⟩:=QlR d.t f.t C.b ω;by_cases b:c.of=3;have g:r.b=true:=d.b.trans (QS b);obtain⟨f1,f2,f3⟩:=QlR (d.f b) (f.f b) C.a ω;have e:(XL r s).f=xJ r.f s.f:=by unfold XL;rw[g];rfl
 refine⟨⟨d.b,t1,λ_=>by rw[e];exact f1⟩,λA a h=>?_⟩;rcases h with h|h;exact⟨Nv t2 h.t,λk=>by rw[e];exact Nv f2 (h.f k)⟩;exact⟨Nv t3 h.t,λk=>by rw[e];exact Nv f3 (h.f k)⟩;refine⟨⟨d.b,t1,λk=>absurd k b⟩,λA a h=>?_⟩;rcases h with h|h;exact⟨Nv t2 h.t,λk=>absurd k b⟩;exact⟨Nv t3 h.t,λk=>absurd k b⟩
def QD3{c}(C:Np c){X a A b e}{r}(h:Ge c X r)(l:Rq c A b r)(m:X<=a)(z:a<=4611686018427387904)(y:A<=a)(d:Yo r (e*65536)<=a):
  e*65536<=b*65536+KJ c.a c.d c.b (a-A):=by
 have hk:=C.k;have j:Kf c.a c.d c.b=c.of:=rfl;have p:KJ c.a c.d c.b (a-A)=c.a*min (a-A) c.d+c.b*(a-A-min (a-A) c.d):=by
  unfold KJ;rw[j,Qc ω]
 have s:wk r.t (e*65536)<=a:=by
  unfold Yo at d;split at d<;>omega
 have w:=QlS h.t C.b m ω s;have f:=l.t;obtain⟨t,n⟩:∃t,t=a-A:=⟨_,rfl⟩;have k:(a:Int)=A+t:=ω;rw[p,<- n];have B:(c.b:Int)*a=(c.b:Int)*A+(c.b:Int)*t:=by rw[k,Int.mul_add]
 rcases hk with hk|hk;have o:¬c.of=3:=ω;have g:=C.two hk;rw[Qc o]at f;rw[g,Nat.min_zero,RO,Ep,Jz];have:((c.b*t:Nat):Int)=(c.b:Int)*t:=Bg _ _;omega;have u:=C.ba hk;rw[Qd hk]at f;by_cases g:t<=c.d;have i:wk r.f (e*65536)<=a:=by
  unfold Yo at d;rw[Qd (h.b.trans (QS hk))]at d;omega
 have x:=QlS (h.f hk) C.a m ω i;have v:=l.f hk;have E:(c.a:Int)*a=(c.a:Int)*A+(c.a:Int)*t:=by rw[k,Int.mul_add]
 rw[Gy g,wV,RO,x6];have:((c.a*t:Nat):Int)=(c.a:Int)*t:=Bg _ _;omega;rw[NF ω];have H:((c.a*c.d:Nat):Int)=(c.a:Int)*c.d:=Bg _ _;have F:((c.b*(t-c.d):Nat):Int)=(c.b:Int)*t-(c.b:Int)*c.d:=by rw[Bg,Int.natCast_sub ω,Int.mul_sub]
 have q:((c.a:Int)-c.b)*c.d=(c.a:Int)*c.d-(c.b:Int)*c.d:=Int.sub_mul _ _ _;rw[q]at f;omega
def XR(n:Nd):Ql × Nat × Cp:=(n.c,n.QT,n.cp)
def aG(a:Nat)(n:Nd):Ql × Nat × Cp:=(n.c,n.QT,yE n.cp (Jk n.c.ul) a n.QT)
def Qbu(a:Nat)(n:Nd):Ql × Nat × Cp:=(n.c,V8 (n.QT+a),jV n.cp (V8 (n.QT+a)))
def QlT(a)(M:Qn)(j b:Int)(h:b≠j):Qi (WG a M j).N b=Qi M.N b:=lN (f:=yM M a) (λ_=>rfl) b h
def QlU(b):∀(l:List Int) (M:Qn) (j:Int),l.Nodup->(Qi (l.foldl (WG b) M).N j).map XR=(Qi M.N j).map (if j∈l then aG b else XR)
 | [],_,_,_=>σ
 | a::l,M,j,c=>by
  rw[ZV]at c;rw[jt];by_cases e:j=a;subst e;rw[ML (QlT b) l _ j c.1,Qd Ky,show Qi (WG b M j).N j=(Qi M.N j).map (yM M b) from (zI (f:=yM M b) (λ_=>rfl) j).trans (Qd rfl),Iw];rfl;rw[QlU b l _ j c.2,QlT b M a j e];simp only[QK,e,false_or]
def QD6{M b:Qn}{a:Int}(h:(Qi b.N a).map XR=(Qi M.N a).map XR):(Qy b a).c=(Qy M a).c:=by
 have:=QCg h;exact congrArg Prod.fst this
def QD7{T}(I:JQ T)(A)(a:Int):(VH T A a).Nodup:=aO (RK _) (Fi I a)
def QD8(M:Qn)(a)(x:Pk)(j:Int):(Qi (Vr M a x).N j).map XR=(Qi M.N j).map XR:=
 MM (f:=λm=>{ m with q:=Xw (Qy M a).c.ZK (Qy M a).c.bytes (Qy M a).q x }) (λ_=>rfl) (λ_=>rfl) j
def QD9{M:Qn}(I:JQ M.T)(b)(c a)(j):
  (Qi (YO M b c a).N j).map XR=(Qi M.N j).map (if 1<QH (Qy M c).c.ls/\j∈VH M.T M.A c then aG b else XR):=by
 have m:(VZ M b c a).N=M.N\/∃d,(VZ M b c a).N=Wj M.N c λn=>{ n with du:=d }:=by
  unfold VZ;split;exact .inr ⟨_,rfl⟩;exact .inl rfl
 have i:∀{k:Type} (f:Nd->k) (_:∀(n:Nd) d,f { n with du:=d }=f n),(Qi (VZ M b c a).N j).map f=(Qi M.N j).map f:=λf l=>by
  rcases m with h|⟨d,h⟩;rw[h];rw[h];exact MM (f:=λn:Nd=>{ n with du:=d }) (λ_=>rfl) (λn=>l n d) j
 unfold YO;split;rename_i g;rw[(DM _ _).1,QlU b _ _ j (QD7 I _ _)];show (Qi (VZ M b c a).N j).map _=_;by_cases e:j∈VH M.T M.A c;rw[Qd e,Qd ⟨g,e⟩];exact i _ λ_ _=>rfl;rw[Qc e,Qc λh=>e h.2];exact i _ λ_ _=>rfl;rename_i g;rw[Qc λh=>g h.1];exact i _ λ_ _=>rfl
def QEa{M:Qn}(I:JQ M.T)(b)(a)(x)(j):
  (Qi (VR M b a x).N j).map XR=(Qi M.N j).map (if VQ M a x=0/\(Qy M a).q.l=[]/\1<QH (Qy M a).c.ls/\j∈VH M.T M.A a then aG b else XR):=by
 have c:=λj=>QD8 M a x j;unfold VR;split;rename_i h;rw[Qc λk=>by rw[k.1]at h;cases h];exact c j;split;rename_i g;split;rename_i e;rw[QD9 (M:=j8 (Vr M a x) (M.acc+x.len.toNat)) I];have i:(Qy (j8 (Vr M a x) (M.acc+x.len.toNat)) a).c=(Qy M a).c:=QD6 (c a);rw[i];show (Qi (Vr M a x).N j).map (if 1<QH (Qy M a).c.ls/\j∈VH M.T M.A a then aG b else XR)=_;by_cases d:1<QH (Qy M a).c.ls/\j∈VH M.T M.A a;rw[Qd d,Qd ⟨g,e,d⟩];exact MM (f:=λm=>{ m with q:=Xw (Qy M a).c.ZK (Qy M a).c.bytes (Qy M a).q x }) (λ_=>rfl) (λ_=>rfl) j;rw[Qc d,Qc λh=>d h.2.2];exact c j;rename_i e;rw[Qc λh=>e h.2.1];exact c j;rename_i g;rw[Qc λh=>g h.1]
def QEb(M:Qn)(a j:Int):(Qi (Xl M a).N j).map XR=(Qi M.N j).map XR:=by
 unfold Xl;split;rw[xU (key:=XR) (F2 (λ_=>rfl))];rfl
def QEc(M:Qn)(a b)(r:Bool)(j:Int):(Qi (V9 M a b r).N j).map XR=(Qi M.N j).map XR:=by
 rw[QaK];split;cases Qi M.N j<;>rfl;rfl
def QEd{M:Qn}(I:JQ M.T)(b)(r)(j):
  (Qi (Xy M b r).N j).map XR=(Qi M.N j).map (if j∈up M.T b then Qbu ((Qy M b).q.l.headD default).len.toNat else XR):=by
 unfold Xy;dsimp only;rw[(DM _ _).1];generalize ((Qy M b).q.l.headD default).len=a;have e:(Qi (V9 ((up M.T b).foldl (VP a.toNat) (Xc M b)) b a r).N j).map XR=(Qi M.N j).map (if j∈up M.T b then Qbu a.toNat else XR):=by
  rw[QEc];have d:∀{g:Type} (f:Nd->g) (_:∀(n:Nd) q,f { n with q:=q }=f n),(Qi (Xc M b).N j).map f=(Qi M.N j).map f:=λf h=>
   MM (f:=λn:Nd=>{ n with q:=Xb (Qy M b).q }) (λ_=>rfl) (λn=>h n _) j
  by_cases c:j∈up M.T b;rw[QkO a.toNat _ _ j (Fi I b) c,Qd c,Iw];exact d (XR ∘ yQ a.toNat) λ_ _=>rfl;rw[ML (lQ a.toNat) _ _ j c,Qc c];exact d _ λ_ _=>rfl
 split;rw[QEb];exact e;exact e
def QEe(M)(a)(n:Nd):n.cp.fit<=X5 M a n:=by
 unfold X5;split<;>omega
def QlV{M:Qn}(I:QA M)(V:Inv M){a}:∀(k:Nat) (p id:Int),xP M a k p=some id->∀j∈up M.T id,j ∉ up M.T p->(Qy M j).cp.fit<=a
 | 0,p,id,h,_,_,_=>by cases h
 | k+1,p,id,h,j,d,g=>by
  unfold xP at h;cases c:firstM M a p with
  | none=>rw[c]at h;cases h
  | some x=>
   rw[c]at h;dsimp only at h;have hx:x∈M.KT p:=vI c;have r:x.va<=a:=by
    have:=wS c;simp only[Xo]at this;omega
   obtain⟨n,e,o,t,m⟩:=(V.kt p x).1 hx;have q:Qy M x.ki=n:=by unfold Qy;rw[e];rfl
   have s:x.va=X5 M x.ki n:=congrArg It.va m;have f:up M.T x.ki=x.ki::up M.T p:=by rw[Vf I.tree (I.some e),o]
   have l:(Qy M x.ki).cp.fit<=a:=by
    rw[q];have:=QEe M x.ki n;omega
   by_cases b:j∈up M.T x.ki;rw[f]at b;rcases QK.1 b with rfl|i;exact l;exact absurd i g;split at h;cases h;exact absurd d b;exact QlV I V k x.ki id h j d b
def QEf{T}(I:JQ T){A}{f u}(h:u∈up T f)(F:Jm T A u=false):u∈VH T A f:=by
 obtain⟨l,q⟩:=LI I h;cases w:Qw T u with
 | none=>
  exfalso;have R:=Dw I w;rw[R,JS]at q;have:∀(k:Nat) (i:Int),(up T i).length=k->u∈up T i->(Qw T u).isSome=true:=λk=>by
   induction k with
   | zero=>intro i d hu;rw[El.1 d]at hu;cases hu
   | succ k v=>
    intro i d hu;cases g:Qw T i with
    | none=>rw[Dw I g]at d;cases d
    | some c=>
     rw[Vf I g]at d hu;rcases QK.1 hu with rfl|hu;rw[g];rfl;exact v c.parent (by simpa using d) hu
  have:=this _ f rfl h;rw[w]at this;cases this
 | some c=>
  have hu:=Vf I w;have S:∀y∈l,Jm T A y=false:=λy p=>by
   rw[X9];intro L;obtain⟨a,Q,H⟩:=Yj.1 L;have B:y∈up T f:=by rw[q];exact Gu _ p
   obtain⟨C,n⟩:=LI I B;have x:u∈up T y:=by
    have K:=Fi I f;have E:u∈up T f:=h;rw[n]at E;rcases Q1.1 E with h3|h3;exfalso;have e:l++up T u=C++up T y:=q.symm.trans n;rw[n,JK]at K;rw[hu]at e;have z:y ∉ C:=λP=>by
     cases o:Qw T y with
     | none=>
      rw[Dw I o,JS]at n e;have r:=Dw I o;obtain⟨b,c2,-⟩:∃a b:Int,a=b:=⟨0,0,rfl⟩;exact absurd H (by
       intro O;have:∀(k:Nat) (i:Int),(up T i).length=k->y∈up T i->(Qw T y).isSome=true:=λk=>by
        induction k with
        | zero=>intro i d hu;rw[El.1 d]at hu;cases hu
        | succ k v=>
         intro i d hu;cases g:Qw T i with
         | none=>rw[Dw I g]at d;cases d
         | some c=>
          rw[Vf I g]at d hu;rcases QK.1 hu with rfl|hu;rw[g];rfl;exact v c.parent (by simpa using d) hu
       have:=this _ a rfl O;rw[o]at this;cases this)
     | some W=>exact K.2.2 y P y (XJ I o) rfl
    obtain⟨s,t,rfl⟩:=List.append_of_mem h3;obtain⟨j,t2,rfl⟩:=List.append_of_mem p;have J:(j++y::t2)++(u::up T c.parent)=(s++u::t)++up T y:=e;have m:=Fi I f;rw[n]at m;have V:((s++u::t)++up T y).idxOf u=s.length:=by
     rw[WL,Nz,Qc,YT,List.idxOf_cons_self,Jz];intro r;rw[WL,JK]at m;exact m.2.2 u r u σ rfl
    have N:((j++y::t2)++(u::up T c.parent)).idxOf u=(j++y::t2).length:=by
     rw[Nz,Qc,List.idxOf_cons_self,Jz];intro r;rw[<- J,JK]at m;exact m.2.2 u r u σ rfl
    have M:((j++y::t2)++(u::up T c.parent)).idxOf y<(j++y::t2).length:=by
     rw[Nz,Qd σ];exact List.idxOf_lt_length_of_mem σ
    have U:(s++u::t).length<=((s++u::t)++up T y).idxOf y:=by
     rw[Nz,Qc z];omega
    rw[J]at N M;simp only[Zk,Kw]at *;omega;exact h3
   exact X9.1 F (Yj.2 ⟨a,Q,up_sub I H x⟩)
  unfold VH;rw[q,m6 (λy p=>by rw[S y p];rfl),hu,RJ,F];simp
def QEj{M:Qn}(I:JQ M.T)(a)(j):
  (Qi (takeN M a).N j).map XR=(Qi M.N j).map (if XP M a=true/\j∈up M.T (Kh M a) then Qbu (Kb M a).len.toNat else XR):=by
 obtain⟨t1,t2,_⟩:=xS M a;unfold takeN XP Kh Kb;cases c:Yu M a with
 | none=>rw[Qc (λh=>by cases h.1),t1]
 | some x=>
  dsimp only;have b:∀id,Qy (ZU M a) id=Qy M id:=λid=>by unfold Qy;rw[t1]
  rw[QEd (M:=ZU M a) (by rw[t2];exact I),t1,t2,b];simp only[Ab,vM]
def QEk{M:Qn}(I:QA M)(V:Inv M){a}(h:XP M a=true)(c:YP M a=false):∀j∈up M.T (Kh M a),(Qy M j).cp.fit<=a:=by
 obtain⟨t1,t2,_⟩:=xS M a;have d:∀id,Qy (ZU M a) id=Qy M id:=λid=>by unfold Qy;rw[t1]
 unfold XP at h;unfold YP at c;unfold Kh;cases b:Yu M a with
 | none=>rw[b]at h;cases h
 | some x=>
  rw[b]at c;dsimp only at c ⊢;unfold Yu at b;split at b;unfold Vj at b;split at b;cases b;cases c;obtain⟨id,f,rfl⟩:=VT.1 b;intro j e;have:=QlV (wB I a) (V.told a) 17 0 id f j (by rw[t2];exact e) (by rw[Hi (wB I a).tree];exact aX);rw[d]at this;exact this;cases b
def QEl{M:Qn}(V:Inv M){a}(c:YP M a=true):∃n,Qi M.N (Kh M a)=some n/\1<QH n.c.rt:=by
 obtain⟨t1,_,_⟩:=xS M a;unfold YP at c;unfold Kh;cases b:Yu M a with
 | none=>rw[b]at c;cases c
 | some x=>
  rw[b]at c;dsimp only at c ⊢;unfold Yu at b;split at b;unfold Vj at b;have d:=MS (ZU M a) a;split at b;rename_i y f;cases b;rw[f]at d;have g:y∈(ZU M a).Lv:=(Jt.1 d.1).1;obtain⟨n,e,_,_,h,_⟩:=((V.told a).lv y).1 g;exact⟨n,by rw[<- t1];exact e,h⟩;obtain⟨id,e,rfl⟩:=VT.1 b;cases c;cases b
def QEm{M:Qn}(I:QA M)(V:Inv M){a}(h:XP M a=true):∃n,Qi M.N (Kh M a)=some n/\n.c.leaf=true:=by
 obtain⟨t1,_,_⟩:=xS M a;unfold XP at h;unfold Kh;cases b:Yu M a with
 | none=>rw[b]at h;cases h
 | some x=>
  unfold Yu at b;split at b;obtain⟨n,d,c,_⟩:=(V.told a).pick (wB I a) (MS _ _) b;exact⟨n,by rw[<- t1];exact d,c⟩;cases b
def QEn{M:Qn}(I:JQ M.T)(a)(b)(x)(j):
  (Qi (JD M a b x).N j).map XR=(Qi M.N j).map (if vw M a b x=0/\Zm M b=[]/\1<QH (Qy M b).c.ls/\j∈VH M.T M.A b then aG a else XR):=by
 obtain⟨t1,t2,t3⟩:=xS M a;have c:∀id,Qy (ZU M a) id=Qy M id:=λid=>by unfold Qy;rw[t1]
 unfold JD vw;split;rw[QEa (M:=ZU M a) (by rw[t2];exact I),t1,t2,t3,c];rfl;rw[Qc (λh=>absurd h.1 π)]
structure Gh where
 n:Nat
 g:List (Nat × Nat)
 k:Nat
def Gh.next(a:List Int)(s:Gh)(e:Ev):Gh:=
 if a.contains e.cls=true then (if e.J9=true then ⟨s.n+1,if s.n=0 then (e.at_.toNat,0)::s.g else s.g,s.k⟩ else ⟨s.n-1,s.g.map λx=>(x.1,x.2+e.len.toNat),s.k+1⟩) else s
def QlW(c:Nc)(b:Nat)(a:List Int)(s:Gh)(e:Ev):Prop:=
 a.contains e.cls=true->e.J9=false->∀x∈(s.next a e).g,(x.1:Int)<=e.at_/\x.2<=KJ c.a c.d c.b (e.at_.toNat-x.1)/65536+b
def xW(c:Nc)(b:Nat)(a:List Int):Gh->List Ev->Prop
 | _,[]=>True
 | s,e::l=>QlW c b a s e/\xW c b a (s.next a e) l
def Qbv{c}{f}{d}:∀(a b:List Ev) (s:Gh),xW c f d s a->xW c f d (a.foldl (Gh.next d) s) b->xW c f d s (a++b)
 | [],b,s,_,h=>h
 | e::a,b,s,g,i=>⟨g.1,Qbv a b _ g.2 i⟩
def QlX(a)(s:Gh)(e:Ev):(s.next a e).k<=s.k+1:=by
 unfold Gh.next;split;split;exact Em _;exact QB _;exact Em _
def Qbw(a):∀(l:List Ev) (s:Gh),(l.foldl (Gh.next a) s).k<=s.k+l.length
 | [],s=>QB _
 | e::l,s=>by
  have c:=Qbw a l (s.next a e);have b:=QlX a s e;simp only[jt,Kw];omega
structure kh (c:Nc) (g:List (Nat × Nat)) (k X QT:Nat) (cp:Cp):Prop where
 tk:QT<=16384*k
 has:g≠[]->cp.has=true
 run:cp.has=true->Ge c X cp.run/\cp.fit=Yo cp.run (QT*65536)
 g:∀x∈g,x.1<=X/\x.2<=QT/\Rq c x.1 (QT-x.2) cp.run
def kh.Qe{c}{g}{k X Y b}{a}(h:kh c g k X b a)(e:X<=Y):kh c g k Y b a:=
 ⟨h.tk,h.has,λk=>⟨(h.run k).1.le e,(h.run k).2⟩,λx hx=>⟨JY (h.g x hx).1 e,(h.g x hx).2⟩⟩
def kh.QaE{c}(C:Np c){g}{k X a}{b}(h:kh c g k X a b)(o:X<=4611686018427387904)(s:k<=1000000000):kh c ((X,0)::g) k X a (yE b c X a):=by
 have j:=h.tk;have t:=C.k;obtain⟨f,d⟩:=QD0 C (now:=X) (show a<18446744073709551616 from ω);have e:yE b c X a=⟨true,if b.has then XL b.run (Vp c X (a*65536)) else Vp c X (a*65536),Yo (if b.has then XL b.run (Vp c X (a*65536)) else Vp c X (a*65536)) (a*65536)⟩:=Qc ω;rw[e];cases l:b.has with
 | true=>
  obtain⟨m,_⟩:=h.run l;obtain⟨n,i⟩:=QD2 C o m f;refine⟨j,λ_=>rfl,λ_=>⟨n,rfl⟩,λx hx=>?_⟩;rcases QK.1 hx with rfl|hx;exact⟨QB _,Jj _,i _ _ (.inr d)⟩;obtain⟨r,q,p⟩:=h.g x hx;exact⟨r,q,i _ _ (.inl p)⟩
 | false=>
  refine⟨j,λ_=>rfl,λ_=>⟨f,rfl⟩,λx hx=>?_⟩;rcases QK.1 hx with rfl|hx;exact⟨QB _,Jj _,d⟩;have:=h.has (List.ne_nil_of_mem hx);rw[l]at this;cases this
def kh.sub{c}{y}{g}{k X b}{a}(h:kh c (y::g) k X b a):kh c g k X b a:=
 ⟨h.tk,λd=>h.has (List.cons_ne_nil _ _),h.run,λx hx=>h.g x (J8 _ hx)⟩
def kh.Bp{c}{g}{k X b}{d}(h:kh c g k X b d)(s:k<=1000000000){a}(r:a<=16384):
  kh c (g.map λx=>(x.1,x.2+a)) (k+1) X (V8 (b+a)) (jV d (V8 (b+a))):=by
 have q:=h.tk;have p:V8 (b+a)=b+a:=by unfold V8;exact qW ω
 rw[p];have f:(jV d (b+a)).run=d.run/\(jV d (b+a)).has=d.has:=by
  unfold jV;split;rename_i m;exact⟨rfl,m.symm⟩;exact⟨rfl,rfl⟩
 refine⟨ω,λl=>?_,λi=>?_,λx hx=>?_⟩;rw[f.2];exact h.has λe=>l (by rw[e];rfl);rw[f.2]at i;rw[f.1];refine⟨(h.run i).1,?_⟩;unfold jV;rw[Qd i];obtain⟨y,j,rfl⟩:=Ji.1 hx;obtain⟨o,t,n⟩:=h.g y j;rw[f.1];refine⟨o,by show y.2+a<=b+a;omega,?_⟩;rw[show b+a-(y.2+a)=b-y.2 by omega];exact n
def kh.fits{c}(C:Np c){g}{k X o}{f:Cp}(h:kh c g k X o f)(l:X<=4611686018427387904)(e:f.fit<=X){a b}(p:a<=b):
  ∀x∈(g.map (λx=>(x.1,x.2+a)):List (Nat × Nat)),(x.1:Int)<=(X:Int)/\x.2<=KJ c.a c.d c.b (X-x.1)/65536+b:=λx hx=>by
 obtain⟨y,d,rfl⟩:=Ji.1 hx;obtain⟨n,q,m⟩:=h.g y d;obtain⟨j,i⟩:=h.run (h.has (List.ne_nil_of_mem d));rw[i]at e;have:=QD3 C j m (QB _) l n e;refine⟨by show (y.1:Int)<=X;omega,?_⟩;show y.2+a<=KJ c.a c.d c.b (X-y.1)/65536+b;omega
def QEo{M:Qn}(I:QA M)(V:Inv M){j}(h:Zm M j≠[]):j∈VS M/\j∈up M.T j:=by
 unfold Zm Qy at h;cases c:Qi M.N j with
 | none=>rw[c]at h;exact absurd rfl h
 | some n=>
  have d:n.c.leaf=true:=by
   cases d:n.c.leaf with
   | true=>rfl
   | false=>
    have:=V.A3 j n c d;rw[c]at h;refine absurd ?_ h;show n.q.l=[];rw[this]
  have f:=QA.id (M:=M) c;refine⟨Jt.2 ⟨Ji.2 ⟨n.c,Jt.2 ⟨((VF I.tree.rising).1 (I.some c)).1,d⟩,f⟩,?_⟩,?_⟩;show (!(Qy M j).q.l.isEmpty)=true;unfold Qy;rw[c];rw[c]at h;cases e:n.q.l with
  | nil=>exact absurd e h
  | cons a b=>show (!((some n).getD default).q.l.isEmpty)=true;show (!n.q.l.isEmpty)=true;rw[e];rfl
  rw[fY I.tree,I.some c];exact Ky
def QEp{M}(I:QA M)(V:Inv M)(b){l}(i:∀c∈l,Jc.Ok c)(j):Zm (Kt M b l) j=Zm M j:=by
 unfold Kt;split;rename_i a;have g:=(Ur I.tree I.AS i).1;have f:zM M (Je M.T l) b=false:=by
  unfold qm at a;split at a;rename_i h;exact absurd a h;split at a;cases a;rename_i h;simpa using h
 have d:Qi (yU M (Je M.T l)).N j=if j∈JX M.T (Je M.T l) then (Qw (Je M.T l) j).map XO else Qi M.N j:=by
  show Qi (Xz M (Je M.T l)) j=_;rw[HM I g];exact FZ g.rising j _ _
 by_cases e:j∈JX M.T (Je M.T l);rw[Qd e]at d;have n:Zm M j=[]:=wP λh=>by
  obtain⟨m,k⟩:=QEo I V h;have:xT M j=true:=vG.2 ⟨j,m,by simpa using k⟩;unfold zM at f;rw[show (JX M.T (Je M.T l)).any (xT M)=true from vG.2 ⟨j,e,this⟩]at f;cases f
 rw[n];unfold Zm Qy;rw[d];cases Qw (Je M.T l) j<;>rfl;rw[Qc e]at d;unfold Zm Qy;rw[d];rfl
def QlY{M}(I:QA M){j}(h:Zm M j≠[]):1<=j:=by
 unfold Zm Qy at h;cases a:Qi M.N j with
 | none=>rw[a]at h;exact absurd rfl h
 | some n=>
  have b:=QA.id (M:=M) a;have:=I.tree.ids n.c ((VF I.tree.rising).1 (I.some a)).1;omega
def Ev.pk(e:Ev):Pk:=⟨e.id,e.len,e.h0,e.h1,e.h2,e.h3⟩
def Rr(a b:Pk):Bool:=a.iD==b.iD&&(a.len==b.len&&(a.xq==b.xq&&(a.xr==b.xr&&(a.xu==b.xu&&a.xv==b.xv))))
def QEq(a b):Rr a b=true↔a=b:=by
 obtain⟨n,m,l,k,j,i⟩:=a;obtain⟨h,g,f,e,d,c⟩:=b;simp[Rr]
@[go_sem] def QlZ(x:Cf)(a:Nat)(l:Ev)(done:Int)(q:D):List D:=[Qa x.t,Qa x.Jb,.mref a 0,Qa l.op,QU l.J9,QU l.real,U8 l.at_,U8 l.done,Qa l.cls,U8 l.id,Qa l.len,.raw (.int .u16 l.h0),.raw (.int .u16 l.h1),.raw (.int .u16 l.h2),.raw (.int .u16 l.h3),U8 done,q]
section
variable (h:List Ob)(lb la lm:Nat)(x:Cf)(l:Ev)(done:Int)(q:D)(e:Ev)
 (UQ:(h.map Ob.ro)[lb]?=some ⟨.Wb,0,1,1,λ_=>[.ptr la 0 0 0]⟩) (ha:(h.map Ob.ro)[la]?=some ⟨.Wb,0,17,1,λ_=>QlZ x lm l done q⟩)
include UQ ha
def QEr(f:Ob->Ob)(h:List Ob)(d:D)(p:List Pk):Prop:=(d=.nil/\p=[])\/∃c g a b,d=.ref c g a p.length/\h[c]?=some (f ⟨.arr,g,6,a+p.length,b⟩)/\∀i,i<p.length->b (a+i)=(p.getD i default).cells
variable {es:List ZC}{c:Nat}{p:List Pk}(hm:(h.map Ob.ro)[lm]?=some (QR .i64 c es).ro)
include hm
end
section
variable (h:List Ob)(lw:Nat)(e:Ev)(f:FuncId)(lc:Nat)(B:Bool)
end
structure QEs (h:List Ob) (es:List ZC) (W:Int->List Pk):Prop where
 at_:∀k,QEr id h ((ZY es k).getD .nil) (W k)
 sep:∀k k' lo g off n g' wX n',ZY es k=some (.ref lo g off n)->ZY es k'=some (.ref lo g' wX n')->k=k'
def QEt(h a:List Ob):Prop:=∀(l:Nat) (o:Ob),h[l]?=some o->o.kd.ty=0->o.sz≠17->o.sz≠6->a[l]?=some o
def xX(W:Int->List Pk)(e:Ev):Int->List Pk:=λk=>if k=e.cls then (if e.J9 then W k++[e.pk] else (W k).tail) else W k
structure QJY (h:List Ob) (la lm:Nat) (x:Cf) (e:Ev) (done:Int) (q:D) (W:Int->List Pk) (h':List Ob):Prop where
 a:h'[la]?=some ⟨.one,0,17,1,λ_=>QlZ x lm e done q⟩
 m:∃c' es',h'[lm]?=some (QR .i64 c' es')/\QEs h' es' W
 s:QEt h h'
def aH:Ev:=⟨0,false,false,0,0,0,0,0,0,0,0,0⟩
def wAt(l:List Ev):Nat->Int->List Pk
 | 0=>λ_=>[]
 | i+1=>xX (wAt l i) (l.getD i default)
def Rs(l:List Ev):Nat->Ev
 | 0=>aH
 | i+1=>l.getD i default
def Qby(l:List Ev):Nat->Int
 | 0=>0
 | i+1=>if (l.getD i default).J9 then Qby l i else (l.getD i default).done
def mP(x:Cf)(W:Int->List Pk)(a:Ev)(done:Int)(e:Ev):Nat->Bool
 | 0=>decide (e.op<0\/e.op<a.op\/e.cls<1)
 | 1=>decide (e.at_<a.at_\/4611686018427387904<e.at_)
 | 2=>vB e.pk x.Jb != 0
 | 3=>e.J9&&(e.done != 0 || e.real)
 | 4=>!e.J9&&(W e.cls).length==0
 | 5=>!e.J9&&!Rr ((W e.cls).getD 0 default) e.pk
 | 6=>!e.J9&&decide (e.at_<done)
 | _=>!e.J9&&e.done != IntKind.u64.wrap (e.at_+wJ e.pk x.t)
def qAt(x:Cf)(l:List Ev)(i k:Nat):Bool:=mP x (wAt l i) (Rs l i) (Qby l i) (l.getD i default) k
def QEu:Nat->Int
 | 0=>1
 | 1=>27
 | 2=>26
 | 3=>4
 | 4=>6
 | 5=>8
 | 6=>24
 | _=>20
section
end
end Go.Fg.X
namespace Go.Fg.X
open Go.Proofs Go.Fg
open Go.Proofs.Tryz
def QEv(l:List Pk):D:=.imm 6 l.length (Pk.rows l)
attribute [go_sem] QEv
end Go.Fg.X
namespace Go.Fg.X
open Go.Proofs Go.Fg
open Go.Proofs.Tryz
def Ql0(x:Cf)(l:List Ev)(i:Nat):Option Nat:=(List.range 8).find? (qAt x l i)
def QEw(x:Cf)(l:List Ev):Option Nat:=(List.range l.length).find? λi=>(Ql0 x l i).isSome
def QbA(x:Cf)(l:List Ev):Int × Int:=if 1<=x.t/\x.t<=65536/\1<=x.Jb/\x.Jb<=16384 then (match QEw x l with
 | some i=>(i,match Ql0 x l i with
  | some k=>QEu k
  | none=>0)
 | none=>(0,0)) else (0,7)
def lA:Ev:=⟨0,true,false,5,0,3,7,100,0,0,0,0⟩
def lB:Ev:=⟨0,false,false,5,105,3,7,100,0,0,0,0⟩
def lC:Ev:=⟨0,false,false,5,104,3,7,100,0,0,0,0⟩
def lX:Cf:=⟨1,100⟩
def v1:QbA lX [lA,lB]=(0,0):=π
def v2:QbA lX [lA,lC]=(1,20):=π
def v3:QbA lX [lB]=(0,6):=π
def Gf(d:Int)(e:Ev):Int:=if e.J9=true then d else e.done
def Nq(x:Cf):(Int->List Pk)->Ev->Int->List Ev->Prop
 | _,_,_,[]=>True
 | W,a,d,e::l=>(∀k,k<8->mP x W a d e k=false)/\Nq x (xX W e) e (Gf d e) l
def Ql1(x):∀(l m:List Ev) (W:Int->List Pk) (a:Ev) (d:Int),Nq x W a d l->Nq x (l.foldl xX W) (l.foldl (λ_ e=>e) a) (l.foldl Gf d) m->Nq x W a d (l++m)
 | [],m,W,a,d,_,h=>h
 | e::l,m,W,a,d,b,c=>⟨b.1,Ql1 x l m _ _ _ b.2 c⟩
def Ql2(l:List Ev):∀k,k<=l.length->wAt l k=(l.take k).foldl xX (λ_=>[])/\Rs l k=(l.take k).foldl (λ_ e=>e) aH/\Qby l k=(l.take k).foldl Gf 0
 | 0,_=>⟨rfl,rfl,rfl⟩
 | k+1,h=>by
  obtain⟨b,c,a⟩:=Ql2 l k ω;rw[getD_take _ default _ ω,zQ,zQ,zQ,<- b,<- a];exact⟨rfl,rfl,rfl⟩
def Ql3(x):∀(l:List Ev) (W:Int->List Pk) (a:Ev) (d:Int),Nq x W a d l->∀i,i<l.length->∀k,k<8->mP x ((l.take i).foldl xX W) ((l.take i).foldl (λ_ e=>e) a) ((l.take i).foldl Gf d) (l.getD i default) k=false
 | [],_,_,_,_,i,c,_,_=>absurd c (Yc i)
 | e::l,W,a,d,h,0,_,k,b=>h.1 k b
 | e::l,W,a,d,h,i+1,c,k,b=>Ql3 x l _ _ _ h.2 i (by simpa using c) k b
def Ql4{x}{l:List Ev}(h:Nq x (λ_=>[]) aH 0 l){i}(b:i<l.length){k}(a:k<8):qAt x l i k=false:=by
 obtain⟨e,d,c⟩:=Ql2 l i ω;unfold qAt;rw[e,d,c];exact Ql3 x l _ _ _ h i b k a
structure Gg (x:Cf) (W:Int->List Pk) (a:Ev) (d:Int) (S:Z2):Prop where
 w:∀j,W j=Zm S.M j
 d:d=S.X6
 at_:a.at_<=S.Qe
 o0:a.op<=S.ops
 lk:S.M.lk=x
structure Gi (x:Cf) (W:Int->List Pk) (a:Ev) (d:Int) (l:List Ev) (S':Z2):Prop where
 ok:Nq x W a d l
 st:Gg x (l.foldl xX W) (l.foldl (λ_ e=>e) a) (l.foldl Gf d) S'
def QEx(p:Pk):Rr p p=true:=(QEq p p).2 rfl
def Ql5{x:Cf}(K:WZ x){p:Pk}(h:1<=p.len/\p.len<=x.Jb):vB p x.Jb=0:=by
 have:=K.l1;have:=K.l2;unfold vB;rw[Qc ω,Qc ω]
def QEy{x:Cf}(K:WZ x){p:Pk}(h:1<=p.len/\p.len<=x.Jb):wJ p x.t=qp x p.len:=by
 have d:=K.t1;have c:=K.t2;have b:=K.l2;have e:=l9 K h;have a:((qp x p.len:Nat):Int)=p.len*x.t:=by
  unfold qp;rw[Bg,Ei ω,Ei ω]
 unfold wJ;rw[Qd ω,<- a,IntKind.wrap_u64];omega
def Ql6{x}{S:Z2}(T:Jn S){W}{a:Ev}{d}(A:Gg x W a d S){op}(r:op<=S.ops)(w:a.op<=op):Gi x W a d (Jy S op S.Qe).2 (Jy S op S.Qe).1/\(∀e∈(Jy S op S.Qe).2,e.op=op):=by
 refine⟨?_,QDT S op S.Qe⟩;unfold Jy;split;exact⟨trivial,A⟩;rename_i p;split;rename_i h;have b:=T.take_len h;obtain⟨y,L,i,m⟩:=lZ T.I T.V h;have f:WZ x:=A.lk▸T.K;rw[A.lk]at b;have q:=l9 f b;have t:=T.cl;have z:=T.un;have u:=QlY T.I (j:=Kh S.M S.Qe) (by rw[i];exact List.cons_ne_nil _ _);have c:=A.w (Kh S.M S.Qe);rw[i]at c;rw[<- m]at c;have v:=A.at_;have s:=A.d;refine⟨⟨λk o=>?_,trivial⟩,?_,?_,?_,?_,?_⟩;have l:W (Kh S.M S.Qe)=Kb S.M S.Qe::L:=c;match k,o with
 | 0,_=>exact QG (by show ¬((op:Int)<0\/(op:Int)<a.op\/Kh S.M S.Qe<1);omega)
 | 1,_=>exact QG (by show ¬((S.Qe:Int)<a.at_\/4611686018427387904<(S.Qe:Int));omega)
 | 2,_=>show (vB (Kb S.M S.Qe) x.Jb != 0)=false;rw[Ql5 f b];rfl
 | 3,_=>rfl
 | 4,_=>show ((W (Kh S.M S.Qe)).length==0)=false;rw[l];rfl
 | 5,_=>show (!Rr ((W (Kh S.M S.Qe)).getD 0 default) (Kb S.M S.Qe))=false;rw[l];show (!Rr (Kb S.M S.Qe) (Kb S.M S.Qe))=false;rw[QEx];rfl
 | 6,_=>exact QG (by show ¬((S.Qe:Int)<d);omega)
 | 7,_=>
  show (((S.Qe+qp S.M.lk (Kb S.M S.Qe).len:Nat):Int) != IntKind.u64.wrap ((S.Qe:Int)+wJ (Kb S.M S.Qe) x.t))=false;rw[QEy f b,A.lk,IntKind.wrap_u64];refine Quf ?_;omega
 | n+8,h=>exact absurd h ω
 intro j;show xX W (wH op (YP S.M S.Qe) S.Qe (S.Qe+qp S.M.lk (Kb S.M S.Qe).len) (Kh S.M S.Qe) (Kb S.M S.Qe)) j=Zm (takeN S.M S.Qe) j;rw[F3];unfold xX;by_cases e:j=Kh S.M S.Qe;rw[Qd (show j=(wH op (YP S.M S.Qe) S.Qe (S.Qe+qp S.M.lk (Kb S.M S.Qe).len) (Kh S.M S.Qe) (Kb S.M S.Qe)).cls from e),Qd (show XP S.M S.Qe=true/\Kh S.M S.Qe=j from ⟨h,e.symm⟩),A.w j];rfl;rw[Qc (show ¬j=(wH op (YP S.M S.Qe) S.Qe (S.Qe+qp S.M.lk (Kb S.M S.Qe).len) (Kh S.M S.Qe) (Kb S.M S.Qe)).cls from e),Qc (show ¬(XP S.M S.Qe=true/\Kh S.M S.Qe=j) from λg=>e g.2.symm)];exact A.w j;rfl;show ((S.Qe:Nat):Int)<=(S.Qe:Nat);omega;show ((op:Nat):Int)<=(S.ops:Nat);omega;exact(MW _ _).trans A.lk;rename_i h;refine⟨trivial,⟨λj=>?_,A.d,A.at_,A.o0,(MW _ _).trans A.lk⟩⟩;show W j=Zm (takeN S.M S.Qe) j;rw[F3,Qc λg=>h g.1];exact A.w j
def QEz{l:List Ev}{a:Ev}{c:Nat}(h:∀e∈l,e.op=c)(g:a.op<=c):(l.foldl (λ_ e=>e) a).op<=c:=by
 induction l generalizing a with
 | nil=>exact g
 | cons e l d=>exact d (λb f=>h b (J8 _ f)) (Int.le_of_eq (h e Ky))
def Gi.app{x}{W}{a}{d}{l m:List Ev}{c b}(A:Gi x W a d l c)(B:Gi x (l.foldl xX W) (l.foldl (λ_ e=>e) a) (l.foldl Gf d) m b):Gi x W a d (l++m) b:=
 ⟨Ql1 x l m W a d A.ok B.ok,by rw[zQ,zQ,zQ];exact B.st⟩
def Ql7{x}{b e}(k:e<=4611686018427387904):∀(n:Nat) {S:Z2} {W:Int->List Pk} {a:Ev} {d:Int},Jn S->S.Qe<=e->Gg x W a d S->b<=S.ops->a.op<=b->Gi x W a d (Vs b e n S).2 (Vs b e n S).1
 | 0,S,W,a,d,T,h,A,_,_=>⟨trivial,⟨A.w,A.d,by have:=A.at_;show a.at_<=(e:Nat);omega,A.o0,A.lk⟩⟩
 | n+1,S,W,a,d,T,h,A,c,j=>by
  have r:=A.at_;unfold Vs;split;exact⟨trivial,⟨A.w,A.d,by show a.at_<=(e:Nat);omega,A.o0,A.lk⟩⟩;rename_i q;have l:=mg S T.cl;have g:=T.at_ l (show Zy S<=4611686018427387904 from ω);have p:Gg x W a d { S with Qe:=Zy S }:=⟨A.w,A.d,by show a.at_<=(Zy S:Nat);omega,A.o0,A.lk⟩;obtain⟨i,o⟩:=Ql6 g p c j;have m:=g.HU b;have f:=P8 { S with Qe:=Zy S } b (Zy S);have R:=Ql7 k n m (by
   have:=f.1;show (Jy { S with Qe:=Zy S } b (Zy S)).1.Qe<=e;rw[this];show Zy S<=e;omega) i.st (by show b<=(Jy { S with Qe:=Zy S } b (Zy S)).1.ops;rw[f.2.1];exact c) (QEz o j)
  exact i.app R
def QEA{x}{S}(T:Jn S){W}{a}{d}(A:Gg x W a d S){o:ZO}(r:∀c∈o.changes,Jc.Ok c):Gi x W a d (Ku S o).l (Ku S o).S:=by
 have b:Gg x W a d { S with ops:=S.ops+1 }:=⟨A.w,A.d,A.at_,by have:=A.o0;show a.op<=((S.ops+1:Nat):Int);omega,A.lk⟩;have w:=A.o0;show Gi x W a d (V5 { S with ops:=S.ops+1 } S.ops o).l (V5 { S with ops:=S.ops+1 } S.ops o).S;unfold V5;split;exact⟨trivial,⟨λj=>(A.w j).trans (QEp T.I T.V _ r j).symm,b.d,b.at_,b.o0,(P6 _ _ _).trans A.lk⟩⟩;split;split;exact⟨trivial,⟨b.w,b.d,b.at_,b.o0,b.lk⟩⟩;exact⟨trivial,b⟩;split;unfold qq;split;exact⟨trivial,b⟩;split;rename_i g;have g:vw S.M S.Qe (Ki S.R (Z1 o.ZX)) o.ZX=0:=g;have p:=(T.ops (S.ops+1)).put (Ki S.R (Z1 o.ZX)) o.ZX;have v:=p.Jg (Ki S.R (Z1 o.ZX)) S.Qe (by have:=T.cl;omega);have l:=QkW g;rw[A.lk]at l;have s:WZ x:=A.lk▸T.K;have z:=T.cl;have C:=A.at_;have i:∀j,Zm (JD S.M S.Qe (Ki S.R (Z1 o.ZX)) o.ZX) j=if Ki S.R (Z1 o.ZX)=j then Zm S.M j++[o.ZX] else Zm S.M j:=λj=>by
  rw[P7];by_cases e:Ki S.R (Z1 o.ZX)=j;rw[Qd ⟨g,e⟩,Qd e];rw[Qc λh=>e h.2,Qc e]
 have B:=QlY p.I (j:=Ki S.R (Z1 o.ZX)) (by show Zm (JD S.M S.Qe (Ki S.R (Z1 o.ZX)) o.ZX) _≠[];rw[i,Qd rfl];simp);obtain⟨E,f⟩:∃E,E=vA S.ops S.Qe (Ki S.R (Z1 o.ZX)) o.ZX:=⟨_,rfl⟩;have y:Gg x (xX W E) E d { { S with ops:=S.ops+1 } with M:=JD S.M S.Qe (Ki S.R (Z1 o.ZX)) o.ZX,st:=wF S.st (Ki S.R (Z1 o.ZX)) S.Qe }:=by
  refine⟨λj=>?_,A.d,?_,?_,(MT _ _ _ _).trans A.lk⟩;show xX W E j=Zm (JD S.M S.Qe (Ki S.R (Z1 o.ZX)) o.ZX) j;rw[i];unfold xX;subst f;by_cases e:Ki S.R (Z1 o.ZX)=j;rw[Qd e,Qd (show j=(vA S.ops S.Qe (Ki S.R (Z1 o.ZX)) o.ZX).cls from e.symm),A.w j];rfl;rw[Qc e,Qc (show ¬j=(vA S.ops S.Qe (Ki S.R (Z1 o.ZX)) o.ZX).cls from λh=>e h.symm)];exact A.w j;subst f;show ((S.Qe:Nat):Int)<=(S.Qe:Nat);omega;subst f;show ((S.ops:Nat):Int)<=((S.ops+1:Nat):Int);omega
 obtain⟨q,_⟩:=Ql6 v y (op:=S.ops) (Em _) (by subst f;exact Eh _);have t:∀k,k<8->mP x W a d E k=false:=λk u=>by
  subst f;match k,u with
  | 0,_=>exact QG (by show ¬((S.ops:Int)<0\/(S.ops:Int)<a.op\/Ki S.R (Z1 o.ZX)<1);omega)
  | 1,_=>exact QG (by show ¬((S.Qe:Int)<a.at_\/4611686018427387904<(S.Qe:Int));omega)
  | 2,_=>show (vB o.ZX x.Jb != 0)=false;rw[Ql5 s l];rfl
  | 3,_=>rfl
  | 4,_=>rfl
  | 5,_=>rfl
  | 6,_=>rfl
  | 7,_=>rfl
  | n+8,h=>exact absurd h ω
 have m:Gf d E=d:=by subst f;rfl
 rw[<- f];refine⟨⟨t,?_⟩,?_⟩;rw[m];exact q.ok;show Gg x (List.foldl xX (xX W E) _) (List.foldl _ E _) (List.foldl Gf (Gf d E) _) _;rw[m];exact q.st;rename_i g;refine⟨trivial,⟨λj=>?_,b.d,b.at_,b.o0,(MT _ _ _ _).trans A.lk⟩⟩;show W j=Zm (JD S.M S.Qe (Ki S.R (Z1 o.ZX)) o.ZX) j;rw[P7,Qc λh=>g h.1];exact A.w j;split;unfold zO;split;exact⟨trivial,b⟩;rename_i Qb;have:=T.cl;have Qb:¬(4611686018427387904-S.Qe<o.Wz.toNat):=Qb;exact Ql7 (S:={ S with ops:=S.ops+1 }) (by show S.Qe+o.Wz.toNat<=_;omega) _ (T.ops _) (by show S.Qe<=S.Qe+_;omega) b (Em _) w;exact⟨trivial,b⟩
def QbB{x}:∀(l:List ZO) {S:Z2} {W:Int->List Pk} {a:Ev} {d:Int},Jn S->Gg x W a d S->(∀o∈l,ZO.Ok o)->Gi x W a d (Zx S l).2.2 (Zx S l).1
 | [],S,W,a,d,T,A,c=>⟨trivial,A⟩
 | o::l,S,W,a,d,T,A,c=>by
  have e:=(c o Ky).2.1.2;have f:=QEA T A e;exact f.app (QbB l (T.do e) f.st λb g=>c b (J8 _ g))
def Yw(W:Int->List Pk)(a:List Int):Nat:=(a.map λn=>(W n).length).sum
def Rt{W b}{a}(h:∀n∈a,b n=W n):Yw b a=Yw W a:=by
 unfold Yw;congr 1;exact Il λn c=>by rw[h n c]
def QbC{W W'}{q:Int}{a b}:∀{c:List Int},c.Nodup->q∈c->(W' q).length+a=(W q).length+b->(∀n,n≠q->W' n=W n)->Yw W' c+a=Yw W c+b
 | [],_,h,_,_=>by cases h
 | x::c,d,h,j,f=>by
  rw[ZV]at d;have k:Yw W' (x::c)=(W' x).length+Yw W' c:=by simp[Yw]
  have g:Yw W (x::c)=(W x).length+Yw W c:=by simp[Yw]
  rw[k,g];by_cases e:x=q;subst e;rw[Rt λn i=>f n λe=>d.1 (e▸i)];omega;have l:=QbC d.2 ((QK.1 h).resolve_left λg=>e g.symm) j f;rw[f x e];omega
def Ql8:∀b:List Int,Yw (λ_=>[]) b=0
 | []=>rfl
 | a::l=>by
  have:=Ql8 l;show ([]:List Pk).length+Yw (λ_=>[]) l=0;rw[this];rfl
structure QbD (T:List Ql) (u:Int) (c:Nc) (lv:List Int):Prop where
 ul:Np c
 Xk:∀j k,Qw T j=some k->k.leaf=true->(j∈lv↔u∈up T j)
 free:∀j∈lv,∀k,Qw T j=some k->¬1<QH k.rt/\1<QH k.ls
 nd:lv.Nodup
structure Bb (T:List Ql) (u:Int) (c:Nc) (lm:Nat) (lv:List Int) (s:Gh) (S:Z2):Prop where
 T:S.M.T=T
 n:s.n=Yw (Zm S.M) lv
 lm:S.M.lk.Jb.toNat=lm
 BI:∃m,Qi S.M.N u=some m/\Jk m.c.ul=c/\kh c s.g s.k S.Qe m.QT m.cp
def QbE{W}:∀{b:List Int},Yw W b=0->∀j∈b,(W j).length=0
 | [],_,j,h=>by cases h
 | a::b,h,j,c=>by
  have e:Yw W (a::b)=(W a).length+Yw W b:=by simp[Yw]
  rw[e]at h;rcases QK.1 c with rfl|c;omega;exact QbE ω j c
section
variable {T:List Ql}{u:Int}{c:Nc}{lm:Nat}{lv:List Int}(CT:QbD T u c lv)
include CT
theorem Ql9{s:Gh}{S:Z2}(I:Jn S)(h:Bb T u c lm lv s S)(l)(z:s.k+(Jy S l S.Qe).2.length<=1000000000):
  xW c lm lv s (Jy S l S.Qe).2/\Bb T u c lm lv ((Jy S l S.Qe).2.foldl (Gh.next lv) s) (Jy S l S.Qe).1:=by
 obtain⟨m,Q,H,w⟩:=h.BI;have d:=QEj I.I.tree S.Qe u;rw[Q,KM]at d;have M:(takeN S.M S.Qe).T=T:=(l7 _ _).trans h.T;have N:(takeN S.M S.Qe).lk.Jb.toNat=lm:=by rw[MW];exact h.lm
 unfold Jy at z ⊢;split at z;rename_i J;rw[Qd J];exact⟨trivial,h⟩
 .rename_i J;rw[Qc J];split at z
  .rename_i k;rw[Qd k];obtain⟨n,P,O⟩:=QEm I.I I.V k;have C:=I.I.some P;rw[h.T]at C;obtain⟨y,L,Z,hy⟩:=lZ I.I I.V k;have Y:=I.take_len k;have Jq:=I.K.l2;have U:∀j,j≠Kh S.M S.Qe->Zm (takeN S.M S.Qe) j=Zm S.M j:=λj B=>by
    rw[F3,Qc λg=>B g.2.symm]
   by_cases o:Kh S.M S.Qe∈lv
   .have E:=(CT.Xk _ _ C O).1 o;rw[Qd ⟨k,by rw[h.T];exact E⟩]at d;obtain⟨f,t,i⟩:=VT.1 d;have r:f.c=m.c:=congrArg Prod.fst i;have p:f.QT=V8 (m.QT+(Kb S.M S.Qe).len.toNat):=congrArg (λx=>x.2.1) i;have q:f.cp=jV m.cp (V8 (m.QT+(Kb S.M S.Qe).len.toNat)):=congrArg (λx=>x.2.2) i;have K:YP S.M S.Qe=false:=by
     rw[X9];intro K;obtain⟨n',V,g⟩:=QEl I.V K;rw[P]at V;cases V;exact(CT.free _ o _ C).1 g
    have R:=QEk I.I I.V k K u (by rw[h.T];exact E);have Z9:Qy S.M u=m:=by unfold Qy;rw[Q];rfl
    rw[Z9]at R;have F:lv.contains (Kh S.M S.Qe)=true:=by simpa using o
    have Qf:s.k+1<=1000000000:=z;have v:s.next lv (wH l (YP S.M S.Qe) S.Qe (S.Qe+qp S.M.lk (Kb S.M S.Qe).len) (Kh S.M S.Qe) (Kb S.M S.Qe))=⟨s.n-1,s.g.map λx=>(x.1,x.2+(Kb S.M S.Qe).len.toNat),s.k+1⟩:=by
     unfold Gh.next;rw[Qd (show lv.contains (wH l (YP S.M S.Qe) S.Qe (S.Qe+qp S.M.lk (Kb S.M S.Qe).len) (Kh S.M S.Qe) (Kb S.M S.Qe)).cls=true from F)];rfl
    refine⟨⟨λ_ _=>?_,trivial⟩,?_⟩;rw[v];exact w.fits CT.ul I.cl R (by have:=h.lm;omega)
    .show Bb T u c lm lv (s.next lv (wH l (YP S.M S.Qe) S.Qe (S.Qe+qp S.M.lk (Kb S.M S.Qe).len) (Kh S.M S.Qe) (Kb S.M S.Qe))) _;rw[v];refine⟨M,?_,N,f,t,by rw[r];exact H,?_⟩;show s.n-1=Yw (Zm (takeN S.M S.Qe)) lv;have:=QbC (W:=Zm S.M) (W':=Zm (takeN S.M S.Qe)) (a:=1) (b:=0) CT.nd o (by rw[F3,Qd ⟨k,rfl⟩,Z];simp) U;have:=h.n;omega;rw[p,q];exact w.Bp ω ω
   .have E:u ∉ up T (Kh S.M S.Qe):=λg=>o ((CT.Xk _ _ C O).2 g);rw[Qc (by rw[h.T];exact λg=>E g.2)]at d;obtain⟨f,t,i⟩:=VT.1 d;have r:f.c=m.c:=congrArg Prod.fst i;have p:f.QT=m.QT:=congrArg (λx=>x.2.1) i;have q:f.cp=m.cp:=congrArg (λx=>x.2.2) i;have F:¬lv.contains (Kh S.M S.Qe)=true:=by simpa using o
    have v:s.next lv (wH l (YP S.M S.Qe) S.Qe (S.Qe+qp S.M.lk (Kb S.M S.Qe).len) (Kh S.M S.Qe) (Kb S.M S.Qe))=s:=by
     unfold Gh.next;rw[Qc (show ¬lv.contains (wH l (YP S.M S.Qe) S.Qe (S.Qe+qp S.M.lk (Kb S.M S.Qe).len) (Kh S.M S.Qe) (Kb S.M S.Qe)).cls=true from F)]
    refine⟨⟨λg _=>absurd g F,trivial⟩,?_⟩;show Bb T u c lm lv (s.next lv (wH l (YP S.M S.Qe) S.Qe (S.Qe+qp S.M.lk (Kb S.M S.Qe).len) (Kh S.M S.Qe) (Kb S.M S.Qe))) _;rw[v];refine⟨M,?_,N,f,t,by rw[r];exact H,by rw[p,q];exact w⟩;exact h.n.trans (Rt λj B=>U j λe=>o (e▸B)).symm
  rename_i k;rw[Qc k];rw[Qc λg=>k g.1]at d;obtain⟨f,t,i⟩:=VT.1 d;have r:f.c=m.c:=congrArg Prod.fst i;have p:f.QT=m.QT:=congrArg (λx=>x.2.1) i;have q:f.cp=m.cp:=congrArg (λx=>x.2.2) i;refine⟨trivial,⟨M,?_,N,f,t,by rw[r];exact H,by rw[p,q];exact w⟩⟩;exact h.n.trans (Rt λj B=>by
   show Zm (takeN S.M S.Qe) j=Zm S.M j;rw[F3,Qc λg=>k g.1]).symm
theorem Qma{a e}(t:e<=4611686018427387904):∀(n:Nat) {s:Gh} {S:Z2},Jn S->S.Qe<=e->Bb T u c lm lv s S->s.k+(Vs a e n S).2.length<=1000000000 ->
  xW c lm lv s (Vs a e n S).2/\Bb T u c lm lv ((Vs a e n S).2.foldl (Gh.next lv) s) (Vs a e n S).1
 | 0,s,S,I,i,h,b=>by
  obtain⟨m,g,f,d⟩:=h.BI;exact⟨trivial,⟨h.T,h.n,h.lm,m,g,f,d.Qe i⟩⟩
 | n+1,s,S,I,i,h,b=>by
  obtain⟨m,g,f,d⟩:=h.BI;unfold Vs at b ⊢;split at b;rename_i j;rw[Qd j];exact⟨trivial,⟨h.T,h.n,h.lm,m,g,f,d.Qe i⟩⟩
  .rename_i j;rw[Qc j];have k:=mg S I.cl;have l:=I.at_ k (show Zy S<=4611686018427387904 from ω);have v:Bb T u c lm lv s { S with Qe:=Zy S }:=⟨h.T,h.n,h.lm,m,g,f,d.Qe k⟩;dsimp only at b ⊢;rw[Zk]at b;obtain⟨r,q⟩:=Ql9 CT l v a (by
    show s.k+(Jy { S with Qe:=Zy S } a (Zy S)).2.length<=_;omega)
   have w:=P8 { S with Qe:=Zy S } a (Zy S);have x:=Qbw lv (Jy { S with Qe:=Zy S } a (Zy S)).2 s;obtain⟨p,o⟩:=Qma t n (l.HU a) (by
    show (Jy { S with Qe:=Zy S } a (Zy S)).1.Qe<=e;rw[w.1];show Zy S<=e;omega) q (by show (List.foldl (Gh.next lv) s (Jy { S with Qe:=Zy S } a (Zy S)).2).k+(Vs a e n (Jy { S with Qe:=Zy S } a (Zy S)).1).2.length<=_;omega)
   refine⟨Qbv _ _ _ r p,?_⟩;rw[zQ];exact o
theorem QEB{s:Gh}{S}(I:Jn S)(h:Bb T u c lm lv s S){o:ZO}(ho:o.kind≠1)(i:s.k+(Ku S o).l.length<=1000000000):
  xW c lm lv s (Ku S o).l/\Bb T u c lm lv ((Ku S o).l.foldl (Gh.next lv) s) (Ku S o).S:=by
 have F:Bb T u c lm lv s { S with ops:=S.ops+1 }:=⟨h.T,h.n,h.lm,h.BI⟩;have I0:=I.ops (S.ops+1);unfold Ku V5 at i ⊢;rw[Qc ho]at i ⊢;split at i;rename_i p;rw[Qd p];split;exact⟨trivial,⟨h.T,h.n,h.lm,h.BI⟩⟩;exact⟨trivial,F⟩
 .rename_i p;rw[Qc p];split at i
  .rename_i Z;rw[Qd Z];unfold qq at i ⊢;split at i;rename_i q;rw[Qd q];exact⟨trivial,F⟩
   .rename_i q;rw[Qc q];obtain⟨m,m1,C,N⟩:=h.BI;obtain⟨J,a0⟩:∃J,J=Ki S.R (Z1 o.ZX):=⟨_,rfl⟩;dsimp only at i q ⊢;rw[<- a0]at i q ⊢;have f:=QEn I.I.tree S.Qe J o.ZX u;rw[m1,KM]at f;have R:(JD S.M S.Qe J o.ZX).T=T:=(Qbs _ _ _ _).trans h.T;have X0:(JD S.M S.Qe J o.ZX).lk.Jb.toNat=lm:=by rw[MT];exact h.lm
    split at i
    .rename_i z;rw[Qd z];have I1:=I0.put J o.ZX;have I2:=I1.Jg J S.Qe (by have:=I.cl;omega);have O:∀j,Zm (JD S.M S.Qe J o.ZX) j=if J=j then Zm S.M j++[o.ZX] else Zm S.M j:=λj=>by
      rw[P7];by_cases e:J=j;rw[Qd ⟨z,e⟩,Qd e];rw[Qc λh=>e h.2,Qc e]
     have a3:∃k,Qw T J=some k/\k.leaf=true:=by
      have B:Zm (JD S.M S.Qe J o.ZX) J≠[]:=by rw[O,Qd rfl];simp
      unfold Zm Qy at B;cases P:Qi (JD S.M S.Qe J o.ZX).N J with
      | none=>rw[P]at B;exact absurd rfl B
      | some n=>
       rw[P]at B;have Y:n.c.leaf=true:=by
        cases Y:n.c.leaf with
        | true=>rfl
        | false=>rw[KW,I1.V.A3 J n P Y]at B;exact absurd rfl B
       exact⟨n.c,by rw[<- R];exact I1.I.some P,Y⟩
     obtain⟨kk,L,Fq⟩:=a3;rw[Kw]at i;have kD:=QlX lv s (vA S.ops S.Qe J o.ZX);have H:Bb T u c lm lv (s.next lv (vA S.ops S.Qe J o.ZX)) { S with ops:=S.ops+1,M:=JD S.M S.Qe J o.ZX,st:=wF S.st J S.Qe }:=by
      by_cases t:J∈lv
      .have H9:=(CT.Xk _ _ L Fq).1 t;have Ez:lv.contains J=true:=by simpa using t
       have U:s.next lv (vA S.ops S.Qe J o.ZX)=⟨s.n+1,if s.n=0 then (S.Qe,0)::s.g else s.g,s.k⟩:=by
        unfold Gh.next;rw[Qd (show lv.contains (vA S.ops S.Qe J o.ZX).cls=true from Ez)];rfl
       rw[U];refine⟨R,?_,X0,?_⟩;show s.n+1=Yw (Zm (JD S.M S.Qe J o.ZX)) lv;have:=QbC (W:=Zm S.M) (W':=Zm (JD S.M S.Qe J o.ZX)) (a:=0) (b:=1) CT.nd t (by rw[O,Qd rfl,Zk];rfl) (λj Q=>by rw[O,Qc λe=>Q e.symm]);have:=h.n;omega;by_cases V:vw S.M S.Qe J o.ZX=0/\Zm S.M J=[]/\1<QH (Qy S.M J).c.ls/\u∈VH S.M.T S.M.A J;rw[Qd V]at f;obtain⟨d,y,g⟩:=VT.1 f;have w:d.c=m.c:=congrArg Prod.fst g;have v:d.QT=m.QT:=congrArg (λx=>x.2.1) g;have r:d.cp=yE m.cp (Jk m.c.ul) S.Qe m.QT:=congrArg (λx=>x.2.2) g;rw[C]at r;refine⟨d,y,by rw[w];exact C,?_⟩;have dh:=N.QaE CT.ul I.cl ω;show kh c (if s.n=0 then (S.Qe,0)::s.g else s.g) s.k S.Qe d.QT d.cp;rw[v,r];split;exact dh;exact dh.sub;rw[Qc V]at f;obtain⟨d,y,g⟩:=VT.1 f;have w:d.c=m.c:=congrArg Prod.fst g;have v:d.QT=m.QT:=congrArg (λx=>x.2.1) g;have r:d.cp=m.cp:=congrArg (λx=>x.2.2) g;refine⟨d,y,by rw[w];exact C,?_⟩;show kh c (if s.n=0 then (S.Qe,0)::s.g else s.g) s.k S.Qe d.QT d.cp;rw[v,r,Qc];exact N;intro vp;refine V ⟨z,?_,?_,?_⟩;have l:Yw (Zm S.M) lv=0:=h.n.symm.trans vp;exact El.1 (QbE l J t);have UY:=QaG I.I (by rw[h.T];exact L:Qw S.M.T J=some kk);rw[UY];exact(CT.free J t kk L).2;refine QEf I.I.tree (by rw[h.T];exact H9) (X9.2 λha=>?_);obtain⟨a,a1,a2⟩:=Yj.1 ha;obtain⟨na,b1,b2,b3,_⟩:=(I.V.act a).1 a1;rw[h.T]at a2;have K:=I.I.some b1;rw[h.T]at K;have Ru:=(CT.Xk a _ K b2).2 a2;have l:Yw (Zm S.M) lv=0:=h.n.symm.trans vp;have E:=El.1 (QbE l a Ru);unfold Zm Qy at E;rw[b1]at E;exact b3 E
      .have Ez:¬lv.contains J=true:=by simpa using t
       have H9:u ∉ up T J:=λp=>t ((CT.Xk _ _ L Fq).2 p);have U:s.next lv (vA S.ops S.Qe J o.ZX)=s:=by
        unfold Gh.next;rw[Qc (show ¬lv.contains (vA S.ops S.Qe J o.ZX).cls=true from Ez)]
       rw[U];rw[Qc λp=>H9 (by rw[<- h.T];exact m7 _ p.2.2.2)]at f;obtain⟨d,y,g⟩:=VT.1 f;have w:d.c=m.c:=congrArg Prod.fst g;have v:d.QT=m.QT:=congrArg (λx=>x.2.1) g;have r:d.cp=m.cp:=congrArg (λx=>x.2.2) g;refine⟨R,?_,X0,d,y,by rw[w];exact C,by rw[v,r];exact N⟩;exact h.n.trans (Rt λj Q=>by
        show Zm (JD S.M S.Qe J o.ZX) j=Zm S.M j;rw[O,Qc λe:J=j=>t (by rw[e];exact Q)]).symm
     obtain⟨p1,p2⟩:=Ql9 CT I2 H S.ops (by
      show (s.next lv (vA S.ops S.Qe J o.ZX)).k+(Jy { S with ops:=S.ops+1,M:=JD S.M S.Qe J o.ZX,st:=wF S.st J S.Qe } S.ops S.Qe).2.length<=_;omega)
     exact⟨⟨λ_ l=>(by have E:true=false:=l;cases E),p1⟩,p2⟩
    rename_i z;rw[Qc z];rw[Qc λp=>z p.1]at f;obtain⟨d,y,g⟩:=VT.1 f;have w:d.c=m.c:=congrArg Prod.fst g;have v:d.QT=m.QT:=congrArg (λx=>x.2.1) g;have r:d.cp=m.cp:=congrArg (λx=>x.2.2) g;refine⟨trivial,⟨R,?_,X0,d,y,by rw[w];exact C,by rw[v,r];exact N⟩⟩;exact h.n.trans (Rt λj Q=>by
     show Zm (JD S.M S.Qe J o.ZX) j=Zm S.M j;rw[P7,Qc λp=>z p.1]).symm
  rename_i Z;rw[Qc Z];split at i;rename_i q;rw[Qd q];unfold zO at i ⊢;split at i;rename_i l;rw[Qd l];exact⟨trivial,F⟩;rename_i l;rw[Qc l];have:=I.cl;have l:¬(4611686018427387904-S.Qe<o.Wz.toNat):=l;exact Qma CT (S:={ S with ops:=S.ops+1 }) (by show S.Qe+o.Wz.toNat<=_;omega) _ I0 (by show S.Qe<=S.Qe+_;omega) F i;rename_i q;rw[Qc q];exact⟨trivial,F⟩
theorem Qmc:∀(l:List ZO) {s:Gh} {S:Z2},Jn S->Bb T u c lm lv s S->(∀o∈l,o.kind≠1/\ZO.Ok o)->s.k+(Zx S l).2.2.length<=1000000000->xW c lm lv s (Zx S l).2.2
 | [],s,S,I,h,d,a=>trivial
 | o::l,s,S,I,h,d,a=>by
  obtain⟨i,g⟩:=d o Ky;have a:s.k+((Ku S o).l++(Zx (Ku S o).S l).2.2).length<=1000000000:=a;rw[Zk]at a;obtain⟨f,e⟩:=QEB CT I h i ω;have k:=Qbw lv (Ku S o).l s;exact Qbv _ _ _ f (Qmc l (I.do g.2.1.2) e (λb j=>d b (J8 _ j)) ω)
end
end Go.Fg.X
namespace Go.Fg.X.SP
open Go.Proofs Go.Fg
open Go.Proofs.Tryz
def Gj(n:Nat)(e:Ev)(a:List Int):Nat:=if a.contains e.cls then (if e.J9 then n+1 else n-1) else n
def Kv(a:List Int)(l:List Ev):Nat->Nat
 | 0=>0
 | k+1=>Gj (Kv a l k) (l.getD k default) a
def Qmd(a)(l:List Ev):∀k,Kv a l k<=k
 | 0=>QB _
 | k+1=>by have:=Qmd a l k;simp only[Kv,Gj];split<;>(try split)<;>omega
structure Sp where
 W0:Int
 to:Int
 fst:Int
 CJ:Int
 qU:Bool
instance:Inhabited Sp:=⟨⟨0,0,0,0,false⟩⟩
@[go_sem] def Sp.cells(s:Sp):List D:=[.raw (.int .u64 s.W0),.raw (.int .u64 s.to),.raw (.int .i64 s.fst),.raw (.int .i64 s.CJ),.raw (.bool s.qU)]
def Rv(b:List Int)(i:Nat)(e:Ev)(n:Nat)(a:List Sp):List Sp:=
 if n=0/\0<Gj n e b then a++[⟨e.at_,0,i,0,true⟩]
 else if 0<n/\Gj n e b=0 then a.set (a.length-1) { a.getD (a.length-1) default with to:=e.at_,CJ:=i,qU:=false }
 else a
def Vt(a:List Int)(l:List Ev):Nat->List Sp
 | 0=>[]
 | k+1=>Rv a k (l.getD k default) (Kv a l k) (Vt a l k)
def Qme(a)(l:List Ev):∀k,(Vt a l k).length<=k
 | 0=>QB _
 | k+1=>by have:=Qme a l k;simp only[Vt,Rv];split<;>(try split)<;>simp<;>omega
def Qmf(a)(l:List Ev):∀k,0<Kv a l k->0<(Vt a l k).length
 | 0,h=>by simp[Kv]at h
 | k+1,h=>by
  have:=Qmf a l k;simp only[Kv]at h;simp only[Vt,Rv];split<;>(try split)<;>simp<;>omega
end Go.Fg.X.SP
namespace Go.Fg.X
open Go.Proofs Go.Fg Go.Fg.X.SP
open Go.Proofs.Tryz
def Bc(a d b t c:Nat):Nat:=min (KJ a d b t/65536+c) 18446744073709551615
def Ev.bN(e:Ev):Nat:=e.len.toNat
def X8(a:List Int)(e:Ev):Bool:=!e.J9&&a.contains e.cls
def pk(a:List Int)(l:List Ev)(F:Int):Nat->Nat
 | 0=>0
 | k+1=>if F<(k:Int)/\X8 a (l.getD k default)=true then (pk a l F k+(l.getD k default).bN)%18446744073709551616 else pk a l F k
def QbF(a)(l:List Ev)(F):∀k,pk a l F k<18446744073709551616
 | 0=>by simp[pk]
 | k+1=>by have:=QbF a l F k;simp only[pk];split<;>omega
def wN(s:Sp)(e:Ev):Nat:=(max e.at_ s.W0-s.W0).toNat
def vC(a d b:Nat)(e:Int)(c:List Int)(l:List Ev)(s:Sp)(i:Nat):Bool:=
 decide (s.fst<(i:Int))&&(X8 c (l.getD i default)&&((s.qU || decide ((i:Int)<=s.CJ))&&decide (Bc a d b (wN s (l.getD i default)) e.toNat<pk c l s.fst (i+1))))
def BkR(V:Sp->Nat->Bool)(L:List Sp)(n:Nat)(R:Nat->Bool->D)(d:D):Prop:=
 (∃j i,j<L.length/\i<n/\V (L.getD j default) i=true/\(∀b,b<j->∀a,a<n->V (L.getD b default) a=false)/\(∀a,a<i->V (L.getD j default) a=false)/\d=R i true) \/
 ((∀j,j<L.length->∀i,i<n->V (L.getD j default) i=false)/\d=R 0 false)
def QEF(a d b){t c}(h:t<=c):KJ a d b t<=KJ a d b c:=by
 unfold KJ;split;exact QB _;by_cases f:c<=d;rw[Gy f,Gy ω,wV,wV];exact Nat.add_le_add_right (Iv a h) _;rw[NF (show d<=c from ω)];by_cases e:t<=d;rw[Gy e,wV,RO];exact JY (Iv a e) (br _ _);rw[NF ω];exact Nat.add_le_add_left (Iv b ω) _
def Rw{a:Type}[Inhabited a]{l:List a}{k}(h:k<l.length):l.getD k default∈l:=by
 rw[QW,QJ h];exact Xn h
structure aI (lv:List Int) (l:List Ev):Prop where
 at0:∀e∈l,0<=e.at_
 inc:∀i j,i<=j->j<l.length->(l.getD i default).at_<=(l.getD j default).at_
 len:∀e∈l,e.J9=false->0<=e.len/\e.len<=16384
 y5:l.length<100000000
def Ee(a:List Int)(l:List Ev)(k:Nat):Gh:=(l.take k).foldl (Gh.next a) ⟨0,[],0⟩
def aJ(a)(l:List Ev){k:Nat}(h:k<l.length):Ee a l (k+1)=(Ee a l k).next a (l.getD k default):=by
 unfold Ee;rw[getD_take l default k h,zQ];rfl
def Qmh{c}{d}{a}:∀(l:List Ev) (s:Gh),xW c d a s l->∀k,k<l.length->QlW c d a ((l.take k).foldl (Gh.next a) s) (l.getD k default)
 | [],s,_,k,b=>absurd b (Yc k)
 | e::l,s,h,0,_=>h.1
 | e::l,s,h,k+1,b=>Qmh l _ h.2 k (by simpa using b)
def Qmi(a)(l:List Ev):∀k,k<=l.length->(Ee a l k).n=Kv a l k
 | 0,_=>rfl
 | k+1,h=>by
  have b:=Qmi a l k ω;rw[aJ a l ω];simp only[Kv,Gj];rw[<- b];unfold Gh.next;split;split<;>rfl;rfl
section
variable {c:Nc}{lm:Nat}{lv:List Int}{l:List Ev}(E:aI lv l)(H:xW c lm lv ⟨0,[],0⟩ l)
include E H
theorem Qmj(k)(h:k<l.length)(x)(hx:x∈(Ee lv l (k+1)).g)
  (a:∀y∈(Ee lv l k).g,(y.1:Int)<=(l.getD k default).at_/\y.2<=KJ c.a c.d c.b ((l.getD k default).at_.toNat-y.1)/65536+lm) :
  (x.1:Int)<=(l.getD k default).at_/\x.2<=KJ c.a c.d c.b ((l.getD k default).at_.toNat-x.1)/65536+lm:=by
 have e:=Qmh l _ H k h;have f:=E.at0 _ (Rw h);rw[aJ lv l h]at hx;by_cases b:lv.contains (l.getD k default).cls=true
 .by_cases d:(l.getD k default).J9=true
  .unfold Gh.next at hx;rw[Qd b,Qd d]at hx;dsimp only at hx;split at hx;rcases QK.1 hx with rfl|hx;exact⟨by show (((l.getD k default).at_.toNat:Nat):Int)<=_;omega,Jj _⟩;exact a x hx;exact a x hx
  exact e b (by simpa using d) x hx
 .unfold Gh.next at hx;rw[Qc b]at hx;exact a x hx
theorem Qmk:∀k,k<l.length->∀x∈(Ee lv l (k+1)).g,(x.1:Int)<=(l.getD k default).at_/\x.2<=KJ c.a c.d c.b ((l.getD k default).at_.toNat-x.1)/65536+lm
 | 0,h,x,hx=>Qmj E H 0 h x hx λy a=>by cases a
 | k+1,h,x,hx=>Qmj E H (k+1) h x hx λy a=>by
  obtain⟨f,e⟩:=Qmk k ω y a;have d:=E.inc k (k+1) ω h;have b:=QEF c.a c.d c.b (show (l.getD k default).at_.toNat-y.1<=(l.getD (k+1) default).at_.toNat-y.1 from ω);exact⟨ω,by
   have:KJ c.a c.d c.b ((l.getD k default).at_.toNat-y.1)/65536<=KJ c.a c.d c.b ((l.getD (k+1) default).at_.toNat-y.1)/65536:=Nat.div_le_div_right b;omega⟩
omit H in
theorem Qml:∀k,k<=l.length->∀x∈(Ee lv l k).g,x.2<=16384*k
 | 0,_,x,hx=>by cases hx
 | k+1,h,x,hx=>by
  have a:=Qml k ω;rw[aJ lv l ω]at hx;unfold Gh.next at hx;split at hx;split at hx;dsimp only at hx;split at hx;rcases QK.1 hx with rfl|hx;exact Jj _;have:=a x hx;omega;have:=a x hx;omega;rename_i d;obtain⟨y,b,rfl⟩:=Ji.1 hx;have e:=E.len _ (Rw (show k<l.length from ω)) (by simpa using d);have:=a y b;show y.2+(l.getD k default).len.toNat<=_;omega;have:=a x hx;omega
end
def Qmm(a:List Int)(l:List Ev)(F:Nat):∀k,k<=F+1->pk a l F k=0
 | 0,_=>rfl
 | k+1,h=>by
  unfold pk;rw[Qc ω];exact Qmm a l F k ω
def Qmn{a}{l:List Ev}(E:aI a l):∀k,k<=l.length->∀s∈Vt a l k,∃F:Nat,s.fst=F/\F<k/\0<=s.W0/\∀i,F<i->i<=k->(s.W0.toNat,pk a l F i)∈(Ee a l i).g
 | 0,_,s,hs=>by cases hs
 | k+1,h,s,hs=>by
  have j:k<l.length:=ω;have u:=Qmn E k ω;have x:=E.at0 _ (Rw j);have w:=Qmi a l k ω;have JU:∀c,c∈Vt a l k->s.fst=c.fst->s.W0=c.W0->∃F:Nat,s.fst=F/\F<k+1/\0<=s.W0/\∀i,F<i->i<=k+1->(s.W0.toNat,pk a l F i)∈(Ee a l i).g:=λc y z q=>by
   obtain⟨F,f1,f2,f3,f4⟩:=u c y;refine⟨F,z.trans f1,ω,by rw[q];exact f3,λi o v=>?_⟩;rw[q];by_cases f:i<=k;exact f4 i o f
   .have f:i=k+1:=ω;subst f;have e:=f4 k f2 (QB _);have t:=Qml E k ω _ e;have C:=E.y5;rw[aJ a l j];unfold pk;by_cases g:a.contains (l.getD k default).cls=true
    .by_cases b:(l.getD k default).J9=true
     .have d:X8 a (l.getD k default)=false:=by unfold X8;rw[b];rfl
      rw[d,Qc (λh=>by cases h.2)];unfold Gh.next;rw[Qd g,Qd b];dsimp only;split;exact J8 _ e;exact e
     .have b:(l.getD k default).J9=false:=by simpa using b
      have d:X8 a (l.getD k default)=true:=by unfold X8;rw[b,g];rfl
      have H:=E.len _ (Rw j) b;rw[Qd ⟨ω,d⟩];have n:(l.getD k default).bN=(l.getD k default).len.toNat:=rfl;rw[qW (by rw[n];dsimp only at t;omega)];unfold Gh.next;rw[Qd g,Qc (by rw[b];decide)];exact Ji.2 ⟨_,e,rfl⟩
    .have d:X8 a (l.getD k default)=false:=by unfold X8;rw[X9.2 g,Bool.and_false]
     rw[d,Qc (λh=>by cases h.2)];unfold Gh.next;rw[Qc g];exact e
  unfold Vt Rv at hs;split at hs
  .rename_i p;rcases Q1.1 hs with hs|hs;exact JU s hs rfl rfl
   .rw[Yx]at hs;subst hs;refine⟨k,rfl,ω,x,λi o v=>?_⟩;have f:i=k+1:=ω;subst f;rw[Qmm a l k _ (QB _),aJ a l j];obtain⟨r,m⟩:=p;unfold Gj at m;rw[r]at m;split at m
    .rename_i B;split at m
     .rename_i c2;unfold Gh.next;rw[Qd B,Qd c2,w,r,Qd rfl];exact Ky
     omega
    omega
  split at hs;rename_i p;have I:=Qmf a l k ω;rcases List.mem_or_eq_of_mem_set hs with hs|hs;exact JU s hs rfl rfl;subst hs;exact JU _ (Rw (show (Vt a l k).length-1<(Vt a l k).length from ω)) rfl rfl;exact JU s hs rfl rfl
def Qmo{c}{b:Int}{a}{l:List Ev}(E:aI a l)(H:xW c b.toNat a ⟨0,[],0⟩ l){s}(d:s∈Vt a l l.length){i}(f:i<l.length):
  s.fst<(i:Int)->0<=s.W0/\s.W0<=(l.getD i default).at_/\pk a l s.fst (i+1)<=Bc c.a c.d c.b ((l.getD i default).at_-s.W0).toNat b.toNat:=λg=>by
 obtain⟨F,f1,f2,f3,f4⟩:=Qmn E l.length (QB _) s d;rw[f1]at g ⊢;have e:=f4 (i+1) ω ω;obtain⟨j,h⟩:=Qmk E H i f _ e;have k:=QbF a l F (i+1);dsimp only at j h;refine⟨f3,ω,?_⟩;rw[show ((l.getD i default).at_-s.W0).toNat=(l.getD i default).at_.toNat-s.W0.toNat by omega];unfold Bc;omega
def QEH{c:Nc}{d:Int}{a}{l:List Ev}(E:aI a l)(H:xW c d.toNat a ⟨0,[],0⟩ l):∀j,j<(Vt a l l.length).length->∀i,i<l.length->vC c.a c.d c.b d a l ((Vt a l l.length).getD j default) i=false:=λj g i h=>by
 rw[X9];intro b;unfold vC at b;simp only[ZE,Xo]at b;obtain⟨v1,_,_,f⟩:=b;obtain⟨n,k,m⟩:=Qmo E H (Rw g) h v1;have e:wN ((Vt a l l.length).getD j default) (l.getD i default)=((l.getD i default).at_-((Vt a l l.length).getD j default).W0).toNat:=by
  unfold wN;rw[Int.max_eq_left k]
 rw[e]at f;omega
def QEI{c:Ql}(a:KD c=0)(d:c.ul.Nn)(b:1<QH c.ul):Np (Jk c.ul):=by
 have f:QH c.ul≠4:=by
  unfold KD at a;split at a;cases a;split at a;cases a;rename_i h;simp only[Dr,qv,Bool.not_eq_false,ZE,bne_iff_ne,ne_eq]at h;intro e;rw[e]at h;simp at h
 obtain⟨m,l,k⟩:=d;have n:(Jk c.ul).of=2/\c.ul.d=0/\c.ul.m1<=4294967295/\c.ul.m2<=4294967295\/(Jk c.ul).of=3/\c.ul.m2<c.ul.m1/\c.ul.m1<=4294967295/\c.ul.m2<=4294967295/\c.ul.d<=1048576:=by
  unfold QH at b f;unfold Nc.of Kf Jk;dsimp only
  (repeat' split at b)<;>(try omega)<;>(repeat' split)<;>omega
 have j:(Jk c.ul).a=c.ul.m1.toNat:=rfl;have i:(Jk c.ul).b=c.ul.m2.toNat:=rfl;have g:(Jk c.ul).d=c.ul.d.toNat:=rfl;refine⟨ω,ω,ω,ω,λh=>ω,λh=>ω⟩
def QEJ{c:Ql}(a:KD c=0)(d:c.leaf=true)(e:¬1<QH c.rt):1<QH c.ls:=by
 unfold KD at a;split at a;cases a;split at a;cases a;split at a;cases a;rename_i h;rw[d]at h;simp only[jJ,Be,Ie,Bool.or_false,If,QG e,Gn]at h;by_cases b:1<QH c.ls;exact b;rw[QG b]at h;simp at h
def Qmp{S:Z2}{o:ZO}(f:o.kind≠1):(Ku S o).S.M.T=S.M.T:=by
 have c:∀(S:Z2) (a b:Nat),(Jy S a b).1.M.T=S.M.T:=λS a b=>by
  unfold Jy;split;rfl;split;exact l7 _ _;exact l7 _ _
 have g:∀(a e n:Nat) (S:Z2),(Vs a e n S).1.M.T=S.M.T:=λa e n=>by
  induction n with
  | zero=>intro S;rfl
  | succ n d=>
   intro S;unfold Vs;split;rfl;exact(d _).trans (c _ _ _)
 unfold Ku V5;rw[Qc f];split;split<;>rfl;split;unfold qq;split;rfl;split;exact(c _ _ _).trans (Qbs _ _ _ _);exact Qbs _ _ _ _;split;unfold zO;split;rfl;exact g _ _ _ _;rfl
def QbG:∀(l:List ZO) (S:Z2),(∀o∈l,o.kind≠1)->(Zx S l).1.M.T=S.M.T
 | [],S,_=>rfl
 | o::l,S,h=>(QbG l _ λb a=>h b (J8 _ a)).trans (Qmp (h o Ky))
def QEK{c}(b)(l:List Jc):∀id n,Qi (Kt (M0 c) b l).N id=some n->n.QT=0/\n.cp=default/\n.du=default:=by
 unfold Kt;split;have p:∀(L:List Int) (f:List Ql) (M:Qn),(∀id n,Qi M.N id=some n->n.QT=0/\n.cp=default/\n.du=default)->∀id n,Qi (L.foldl (JM f) M).N id=some n->n.QT=0/\n.cp=default/\n.du=default:=by
  intro L f;induction L with
  | nil=>intro M h;exact h
  | cons i L g=>
   intro M h;refine g _ λid n a=>?_;unfold JM at a;split at a;rw[Cy]at a;split at a;cases a;exact h id n a;have e:∀(k:Ql) (N:List Nd),Qi (XO k::jj N i) id=some n->(∀n,Qi N id=some n->n.QT=0/\n.cp=default/\n.du=default)->n.QT=0/\n.cp=default/\n.du=default:=λk N a h=>by
    unfold Qi at a;rw[km]at a;split at a;cases a;exact⟨rfl,rfl,rfl⟩;have d:Qi (jj N i) id=some n:=a;rw[Cy]at d;split at d;cases d;exact h n d
   split at a;exact e _ _ a (h id);exact e _ _ a (h id)
 have o:=p (JX (M0 c).T (Je (M0 c).T l)) (Je (M0 c).T l) { M0 c with T:=Je (M0 c).T l } (λid n a=>by simp[M0,Qi]at a);intro id n a;have j:n∈Xz (M0 c) (Je (M0 c).T l):=vI a;obtain⟨k,_,rfl⟩:=Ji.1 j;unfold Qy VK;cases m:Qi ((JX (M0 c).T (Je (M0 c).T l)).foldl (JM (Je (M0 c).T l)) { M0 c with T:=Je (M0 c).T l }).N k.iD with
 | none=>exact⟨rfl,rfl,rfl⟩
 | some n=>exact o k.iD n m
 intro id n a;simp[M0,Qi]at a
def QEL{c}(K:WZ c)(b:List ZO)(y:b.length<=1000)(v:∀o∈b,ZO.Ok o)(w):aI w (Zx (S0 c) b).2.2:=by
 have A:=QbB (x:=c) b (Jn.mM K) (W:=λ_=>[]) (a:=aH) (d:=0) ⟨λj=>rfl,rfl,Eh _,Eh _,rfl⟩ v;have n:=λ{i:Nat} (g:i<(Zx (S0 c) b).2.2.length) {k:Nat} (z:k<8)=>Ql4 A.ok g z;have f:=Qbp (x:=⟨c,b⟩) K y (QB _) v;have f:(Zx (S0 c) b).2.2.length<100000000:=f;obtain⟨l,s⟩:∃l,l=(Zx (S0 c) b).2.2:=⟨_,rfl⟩;rw[<- s]at n f ⊢;have r:∀i,i<l.length->(Rs l i).at_<=(l.getD i default).at_:=λi g=>by
  have h:decide ((l.getD i default).at_<(Rs l i).at_\/4611686018427387904<(l.getD i default).at_)=false:=n g (k:=1) π;rw[Iy]at h;omega
 have B:∀i,i<l.length->0<=(l.getD i default).at_:=λi=>by
  induction i with
  | zero=>intro g;exact r 0 g
  | succ i m=>
   intro g;have u:=m ω;have q:(l.getD i default).at_<=(l.getD (i+1) default).at_:=r (i+1) g;omega
 refine⟨λe p=>?_,λi j=>?_,λe p _=>?_,f⟩;obtain⟨i,g,rfl⟩:=aV.1 p;have:=B i g;rw[QW,QJ g]at this;exact this;induction j with
 | zero=>intro u q;rw[show i=0 by omega];exact Eh _
 | succ j m=>
  intro u q;by_cases e:i=j+1;rw[e];exact Eh _;have E:=m ω ω;have C:(l.getD j default).at_<=(l.getD (j+1) default).at_:=r (j+1) q;omega
 obtain⟨i,g,rfl⟩:=aV.1 p;have h:(vB (l.getD i default).pk c.Jb != 0)=false:=n g (k:=2) π;rw[QW,QJ g]at h;have h:(vB (l[i]).pk c.Jb != 0)=false:=h;have F:=K.l2;unfold vB at h;split at h;cases h;split at h;cases h;rename_i t;have t:¬¬(1<=(l[i]).len/\(l[i]).len<=c.Jb):=t;omega
def QEM{c}(K:WZ c)(a:List ZO)(t:a.length<=1000)(p:∀o∈a,ZO.Ok o)(i:∀o∈a.tail,o.kind≠1){u}{k}{f}
  (g:Qw (Zx (S0 c) a).1.M.T u=some k) (s:QbD (Zx (S0 c) a).1.M.T u (Jk k.ul) f):xW (Jk k.ul) c.Jb.toNat f ⟨0,[],0⟩ (Zx (S0 c) a).2.2:=by
 cases a with
 | nil=>trivial
 | cons o l=>
  have i:∀b∈l,b.kind≠1:=i;have v:(Zx (S0 c) (o::l)).1.M.T=(Ku (S0 c) o).S.M.T:=QbG l _ i;rw[v]at g s;have d:=Qbp (x:=⟨c,o::l⟩) K t (QB _) p;have d:((Ku (S0 c) o).l++(Zx (Ku (S0 c) o).S l).2.2).length<100000000:=d;rw[Zk]at d;by_cases q:o.kind=1;have e:Ku (S0 c) o=⟨{ S0 c with ops:=1,M:=Kt (M0 c) (decide ((S0 c).X6<=(S0 c).Qe)) o.changes },⟨qm (M0 c) (decide ((S0 c).X6<=(S0 c).Qe)) o.changes,yV (M0 c) o.changes,0⟩,[]⟩:=by
   unfold Ku V5;rw[Qd q];rfl
  have B:=(p o Ky).2.1.2;have I:=(Jn.mM K).do (o:=o) B;show xW (Jk k.ul) c.Jb.toNat f ⟨0,[],0⟩ ((Ku (S0 c) o).l++(Zx (Ku (S0 c) o).S l).2.2);rw[show (Ku (S0 c) o).l=[] by rw[e],zR];refine Qmc s l I ⟨rfl,?_,?_,?_⟩ (λb r=>⟨i b r,p b (J8 _ r)⟩) (by show 0+_<=_;omega);have hz:∀j,Zm (Ku (S0 c) o).S.M j=[]:=λj=>by rw[e];exact QCd _ _ j
  show 0=Yw (Zm (Ku (S0 c) o).S.M) f;rw[Rt (W:=λ_=>[]) λj _=>hz j,Ql8];rw[e];show (Kt (M0 c) _ o.changes).lk.Jb.toNat=_;rw[P6];rfl;obtain⟨n,m,z⟩:=I.I.PD g;refine⟨n,m,by rw[z],?_⟩;rw[e]at m;obtain⟨y,w,_⟩:=QEK _ _ _ _ m;rw[y,w];exact⟨Jj _,λh=>absurd rfl h,λh=>(by cases h),λx hx=>(by cases hx)⟩;rw[Qmp q]at g;cases g
end Go.Fg.X
namespace Go.Fg.X
open Go.Proofs Go.Fg
open Go.Proofs.Tryz
def QEN{c:Cf}{o:ZO}(a:o.kind=1)(b:Yq [] c.t o.changes=0):(Ku (S0 c) o).S.M.T=Je [] o.changes:=by
 have d:qm (M0 c) true o.changes=0:=by
  unfold qm;rw[Qc (show ¬ Yq (M0 c).T (M0 c).lk.t o.changes≠0 from λh=>h b)];rw[Qc];intro h;unfold zM at h;rw[Bf]at h;rcases h with h|h;obtain⟨x,_,h⟩:=vG.1 h;cases h;rw[ZE]at h;have f:(false || decide (0<0))=true:=h.2;exact absurd f π
 have e:(Ku (S0 c) o).S.M=Kt (M0 c) true o.changes:=by
  show (V5 { S0 c with ops:=1 } 0 o).S.M=_;unfold V5;simp only[Qd a];rfl
 rw[e];unfold Kt;rw[Qd d];exact(HL (T2:=Je [] o.changes) (JX (M0 c).T (Je [] o.changes)) { M0 c with T:=Je [] o.changes }).1
def QEO{c:Cf}{ops:List ZO}(f:0<ops.length)(d:(ops.getD 0 default).kind=1)(e:Yq [] c.t (ops.getD 0 default).changes=0)(b:∀o∈ops.tail,o.kind≠1):
  (Zx (S0 c) ops).1.M.T=Je [] (ops.getD 0 default).changes/\(Zx (S0 c) (ops.take 1)).1.M.T=Je [] (ops.getD 0 default).changes:=by
 cases ops with
 | nil=>cases f
 | cons o l=>
  have a:=QEN (c:=c) (o:=o) d e;exact⟨(QbG l _ b).trans a,a⟩
end Go.Fg.X
namespace Go.Fg.X
open Go.Proofs Go.Fg
open Go.Proofs.Tryz
def Qmq{l:List ZO}:Ec l=true↔∀k,k<l.length->0<k->(l.getD k default).kind≠1:=by
 refine⟨λh k b d=>still_at h b d,λh=>?_⟩;unfold Ec;rw[qV];intro o a;obtain⟨i,c,rfl⟩:=vH a;rw[aS]at c;have:=h (i+1) ω ω;rw[List.getElem_drop];rw[QW,QJ ω]at this;have e:1+i=i+1:=NC 1 i;simp only[e];simpa using this
def QEP(x:Xr)(m:Nat)(d:m<1000000):QI prog 7 [.agg x.cells,Qa m] (QN (QU (MQ x.config&&y5 x m))):=by
 have c:=QBV x.config;have e:=QDK x m d;cases h:MQ x.config with
 | false=>
  rw[h]at c;refine QY 0 func7 ntmps7 results7 λb w a=>?_;simp only[go_sem];apply QV a Qe3 c;apply Qh a;simp only[go_sem,Go.undef]
 | true=>
  rw[h]at c;refine QY 0 func7 ntmps7 results7 λb w a=>?_;simp only[go_sem];apply QV a Qe3 c;apply Qg a;apply QV a Qr7 e;exact VE a
end Go.Fg.X
namespace Go.Fg.X.SP
open Go.Proofs Go.Fg
open Go.Proofs.Tryz
def LP(l:List Int)(a)(j:l.length<2147483648):QI prog 31 [ints l,Qa a] (QN (QU (l.contains a))):=by
 refine QY 0 func31 ntmps31 results31 λi w f=>?_;simp only[go_sem];refine G2 (λm s=>∃k:Nat,k+m=l.length/\(l.take k).contains a=false/\s=⟨[(1,Qa a),(7,ints l),(8,Qa l.length),(9,Qa k)],[]⟩) l.length (s0:=⟨[(1,Qa a),(7,ints l),(8,Qa l.length),(9,Qa 0)],[]⟩) QO ⟨0,σ,σ,rfl⟩ ?_;rintro m s ⟨k,n,c,rfl⟩;apply Qg f;refine VV (λh=>?_) (λh=>?_);have d:k<l.length:=by simpa using h
 have g:=getD_take l 0 k d;simp only[go_sem,d];refine VV (λb=>?_) (λb=>?_);simp only[go_sem];have:l.contains a=true:=by
  rw[<- Bh (k+1) l,g];simp at b ⊢;simp[b]
 rw[this];simp only[go_sem];refine⟨m-1,_,ω,Qo.frame (by simp only[go_sem,Jr (show k<4611686018427387904 from ω)]),k+1,ω,?_,rfl⟩;rw[g];simp at c b ⊢;exact⟨c,λe=>b e.symm⟩;have d:k=l.length:=by simp at h;omega
 simp only[go_sem];apply Qg f;subst d;simp at c;simp[c]
def indexOf(l:List Int)(v:Int):Int:=if l.contains v then (l.idxOf v:Nat) else -1
def Qb2(l:List Int)(a)(n:l.length<2147483648):QI prog 140 [ints l,Qa a] (QN (Qa (indexOf l a))):=by
 refine QY 0 func140 ntmps140 results140 λi w e=>?_;simp only[go_sem];refine ZN (λk s=>(l.take k).contains a=false/\s=⟨[(0,ints l),(1,Qa a),(6,ints l),(7,Qa l.length),(8,Qa k)],[]⟩) l.length (s0:=⟨[(0,ints l),(1,Qa a),(6,ints l),(7,Qa l.length),(8,Qa 0)],[]⟩) QO ⟨σ,rfl⟩ ?_;rintro k s o ⟨c,rfl⟩;apply Qg e;refine VV (λh=>?_) (λh=>?_);have d:k<l.length:=by simpa using h
 have g:=getD_take l 0 k d;simp only[go_sem,d];refine VV (λb=>?_) (λb=>?_);simp only[go_sem];have f:l=l.take k++a::l.drop (k+1):=by
  conv=>lhs;rw[<- Bh (k+1) l,g]
  simp at b;simp[b]
 have:indexOf l a=k:=by
  have j:l.contains a=true:=by rw[f];simp
  have m:¬ a∈l.take k:=by simpa using c
  rw[indexOf,j];simp only[Vu];rw[f,Nz,Qc m];simp;omega
 rw[this];simp only[go_sem];refine⟨ω,_,Qo.frame (by simp only[go_sem,Jr (show k<4611686018427387904 from ω)]),?_,rfl⟩;rw[g];simp at c b ⊢;exact⟨c,b⟩;have d:k=l.length:=by simp at h;omega
 simp only[go_sem];apply Qg e;subst d;simp at c;simp[indexOf,c]
end Go.Fg.X.SP
namespace Go.Fg.X
open Go.Proofs Go.Fg
open Go.Proofs.Tryz
def QbH(L:List Ql)(a n:Int):Bool:=!(a==0)&&!(ZF L 16 n).contains a
section
variable (h:List Ob)(t m c:Nat){es:List ZC}{L:List Ql}(T:Vy es L)(hE:∀n,Ends L 16 n)
 (ht:(h.map Ob.ro)[t]?=some ⟨.Wb,0,1,1,λ_=>[.mref m 0]⟩) (hm:(h.map Ob.ro)[m]?=some (QR .i64 c es).ro)
include T ht hm hE
end
def Rx(L:List Ql):List Int:=(L.filter (·.leaf)).map (·.iD)
def xY(L:List Ql)(a:Int):List Int:=zG (QbH L a) (Rx L)
section
variable (h:List Ob)(t m c:Nat){es:List ZC}{L:List Ql}(T:Vy es L)(hlen:L.length<1000000)(hE:∀n,Ends L 16 n)
 (ht:(h.map Ob.ro)[t]?=some ⟨.Wb,0,1,1,λ_=>[.mref m 0]⟩) (hm:(h.map Ob.ro)[m]?=some (QR .i64 c es).ro)
include T ht hm hE hlen
end
@[go_sem] def QEQ(c:Jc):D:=.agg c.cells
def Ef(L:List Ql)(c:Jc):Int:=if c.kind=1 then FO L c.cls else if c.kind=2 then Cq L c.cls.iD else if c.kind=3 then Mt L c.cls else 1
def Ry(L:List Ql)(c:Jc):List Ql:=if Ef L c=0 then (if c.kind=2 then Wt L c.cls.iD else Cc L c.cls) else L
def QER(L:List Ql)(c:Jc)(e:L.length<1000000)(g:∀c∈L,c.Nn)(f:c.cls.Nn):QI prog 36 [KK L,QEQ c] (QN (.agg [KK (Ry L c),Qa (Ef L c)])):=by
 refine QY 0 func36 ntmps36 results36 λi w a=>?_;simp only[go_sem]
 repeat' (first|((first|refine zg (λh=>?_) (λh=>?_)|refine zj (λh=>?_) (λh=>?_)|refine zk (λh=>?_) (λh=>?_)|refine VV (λh=>?_) (λh=>?_)|refine zl (λh=>?_) (λh=>?_)|refine zn (λh=>?_) (λh=>?_)|refine zo (λh=>?_) (λh=>?_)|refine ze (λh=>?_) (λh=>?_))<;>(try simp only[go_sem]))|(refine And.intro δ ?_;try simp only[go_sem,Go.undef])|(refine Wy a [] Qsm rfl ?_ (QyW L c.cls e g f) rfl ?_;(· simp only[go_sem]);intro d h b;obtain⟨rfl,rfl⟩:=b;(simp only[go_sem]);apply Qh a;simp only[go_sem])|(refine Wy a [] Qsn rfl ?_ (QyY L c.cls.iD e) rfl ?_;(· simp only[go_sem]);intro d h b;obtain⟨rfl,rfl⟩:=b;(simp only[go_sem]);apply Qh a;simp only[go_sem])|(refine Wy a [] Qso rfl ?_ (QyZ L c.cls e g f) rfl ?_;(· simp only[go_sem]);intro d h b;obtain⟨rfl,rfl⟩:=b;(simp only[go_sem]);apply Qh a;simp only[go_sem])|fail)
 all_goals simp_all[Ry,Ef]
def Gk(L:List Ql)(a:Int):List Int:=(L.filter λc=>c.leaf&&((a==0) || (ZF L 70 c.iD).contains a)).map (·.iD)
def vD(L:List Ql)(a:Int)(c:Ql):Bool:=c.leaf&&((a==0) || (ZF L 70 c.iD).contains a)
def QES(L:List Ql)(b)(H:L.length<1000000):QI prog 14 [KK L,Qa b] (QN (ints (Gk L b))):=by
 have N:Gk L b=((L.take L.length).filter (vD L b)).map (·.iD):=by rw[Wn];rfl
 have mR:=λc:Ql=>yu (L:=L) (n:=70) (id:=c.iD);refine Ul (λ_=>rfl) (?_:QI _ _ _ (Pc 1 (λn:Int=>[Qa n]) (Gk L b)));refine QY 1 func14 ntmps14 results14 λF w l=>?_;simp only[go_sem];refine ZN (λi s=>∃g k o,VJ (λn:Int=>[Qa n]) (((L.take i).filter (vD L b)).map (·.iD)) k o/\s=⟨[(0,KK L),(1,Qa b),(5,.ref 0 g k (((L.take i).filter (vD L b)).map (·.iD)).length),(8,KK L),(9,Qa L.length),(10,Qa i)],[⟨.arr,g,1,k+(((L.take i).filter (vD L b)).map (·.iD)).length,o⟩]⟩) L.length
  (s0:=⟨[(0,KK L),(1,Qa b),(5,.ref 0 0 0 0),(8,KK L),(9,Qa L.length),(10,Qa 0)],[⟨.arr,0,1,0,λ_=>[]⟩]⟩)
  (Qo.trans (Qo.jw 5 1 (λi=>[]) rfl) QO) ⟨0,0,λ_=>[],.nil,rfl⟩ ?_
 rintro i s z ⟨g,k,o,p,rfl⟩;have K:=uo L (vD L b) i;have x:=Jr (show i<4611686018427387904 from ω);apply Qg l;first|refine We z (λt=>?_) (λt=>?_)|refine Wf z (λt=>?_) (λt=>?_)
 obtain⟨M,y⟩:∃M,M=((L.take i).filter (vD L b)).map (·.iD):=⟨_,rfl⟩;obtain⟨e,B⟩:∃e,e=L.getD i default:=⟨_,rfl⟩;have f:((L.take (i+1)).filter (vD L b)).map (·.iD)=if vD L b e=true then M++[e.iD] else M:=by
  rw[iN L _ i t,<- B,y];split<;>simp
 have O:M.length<=i:=by rw[y,Kj];exact K
 rw[<- y]at p ⊢;have E:M.length<=4294967295:=ω;simp only[go_sem,t,<- B];have P:=mR e;have v:VJ (λn:Int=>[Qa n]) (M++[e.iD]) 0 (JO M.length k o λ_=>[Qa e.iD]):=p.app e.iD rfl;cases u:e.leaf;have l:vD L b e=false:=by simp[vD,u]
 rw[l,Qc π]at f;simp only[go_sem,Go.undef];repeat (refine And.intro ω ?_)
 refine⟨_,Qo.to 1 ⟨?_,by simp only[go_sem],?_,?_⟩,g,k,_,by rw[f];exact p,rfl⟩;simp only[go_sem,x,f];exact⟨λj q=>(p).upto (λa=>rfl) j (by have m:=q;simp only[f]at m;simpa using m),trivial⟩;simp only[go_sem,f];by_cases r:b=0;have l:vD L b e=true:=by simp[vD,u,r]
 rw[l,Qd rfl]at f;simp only[go_sem,Go.undef,WA r,E];repeat (refine And.intro ω ?_)
 refine⟨_,Qo.to 1 ⟨?_,by simp only[go_sem],?_,?_⟩,(g+1),0,_,by rw[f];exact v,rfl⟩;simp only[go_sem,x,f,Zk,Kr];exact⟨λj q=>(v).upto (λa=>rfl) j (by have m:=q;simp only[f]at m;simpa using m),trivial⟩;simp only[go_sem,f,Zk,Kr];simp only[go_sem,Vw r];refine Wy l [] pf rfl ?_ (uk L e.iD H) rfl λd h I=>?_;simp only[go_sem];obtain⟨rfl,rfl⟩:=I;simp only[go_sem];apply Qg l;apply QV l pe (SP.LP (ZF L 70 e.iD) b ω);apply Qg l;cases C:(ZF L 70 e.iD).contains b;have l:vD L b e=false:=by simp only[vD,u,C,Vw r];rfl
 rw[l,Qc π]at f;simp only[go_sem];repeat (refine And.intro ω ?_)
 refine⟨_,Qo.to 1 ⟨?_,by simp only[go_sem],?_,?_⟩,g,k,_,by rw[f];exact p,rfl⟩;simp only[go_sem,x,f];exact⟨λj q=>(p).upto (λa=>rfl) j (by have m:=q;simp only[f]at m;simpa using m),trivial⟩;simp only[go_sem,f];have l:vD L b e=true:=by simp only[vD,u,C,Vw r];rfl
 rw[l,Qd rfl]at f;simp only[go_sem,E];repeat (refine And.intro ω ?_)
 refine⟨_,Qo.to 1 ⟨?_,by simp only[go_sem],?_,?_⟩,(g+1),0,_,by rw[f];exact v,rfl⟩;simp only[go_sem,x,f,Zk,Kr];exact⟨λj q=>(v).upto (λa=>rfl) j (by have m:=q;simp only[f]at m;simpa using m),trivial⟩;simp only[go_sem,f,Zk,Kr];have J:i=L.length:=ω;subst J;rw[N];apply Qg l;exact⟨p.upto Ma,g,k,o,rfl,rfl,p⟩
structure xZ (L:List Ql) (n:Nat):Prop where
 tree:TreeInv L
 nn:∀c∈L,c.Nn
 len:L.length<=n
def mS{L}{k}:qf L k<0↔Qw L k=none:=by
 rcases Pd L k with ⟨b,a⟩|⟨i,c,b,a⟩;rw[b,a];simp;rw[b,a];simp
def mR{L}{n}(I:xZ L n)(a):ZF L 70 a=ZF L 16 a:=QuU (I.tree.ends a) π
def add_same{L}{n}(I:xZ L n)(x:Ql):kW L x (ZF L 16 x.parent).length=FO L x:=by
 have a:=mS (L:=L) (k:=x.iD);have f:=mS (L:=L) (k:=x.parent);have l:=yu (L:=L) (n:=16) (id:=x.parent);unfold kW FO;rw[Qf4,mR I];have i:((Qw L x.iD).isSome=true)=(0<=qf L x.iD):=by
  rw[Iz];cases b:Qw L x.iD with
  | none=>rw[b]at a;simp at a ⊢;exact a
  | some c=>rw[b]at a;simp at a ⊢;exact a
 have h:((x.parent≠0/\(Qw L x.parent).isNone=true)\/((Qw L x.parent).getD default).leaf=true)=(x.parent≠0/\(qf L x.parent<0\/((Qw L x.parent).getD default).leaf=true)):=by
  rw[Iz,f];cases b:Qw L x.parent with
  | none=>simp[default]
  | some c=>
   have d:x.parent≠0:=by
    intro d;obtain⟨e,j⟩:=(VF I.tree.rising).1 b;have:=I.tree.ids c e;omega
   simp[d]
 have g:((ZF L 16 x.parent).length=16)=(16<=(ZF L 16 x.parent).length):=by rw[Iz];omega
 simp only[i,h,g]
def Qmr{L}(k):wa L k=Cq L k:=by
 have a:=mS (L:=L) (k:=k);unfold wa Cq;have b:((Qw L k).isNone=true)=(qf L k<0):=by rw[a,Iz];simp
 simp only[b]
def QET{L}(I:TreeInv L){k a}(h:a∈KE L k):a≠0:=by
 simp only[KE,Ji,Jt]at h;obtain⟨c,⟨b,_⟩,rfl⟩:=h;have:=I.ids c b;omega
def any_congr{c:Type}{p q}:∀{l:List c},(∀a∈l,p a=q a)->l.any p=l.any q
 | [],_=>rfl
 | a::l,h=>by rw[List.any_cons,List.any_cons,h a σ,any_congr λb d=>h b (by simp[d])]
def Qms{L}{n}(I:xZ L n)(x):wc L x=Mt L x:=by
 have d:=mS (L:=L) (k:=x.iD);unfold wc Mt;rw[Qf4];have i:((Qw L x.iD).isNone=true)=(qf L x.iD<0):=by rw[d,Iz];simp
 have g:(x.parent≠((Qw L x.iD).getD default).parent\/x.leaf≠((Qw L x.iD).getD default).leaf)=(¬ (((Qw L x.iD).getD default).parent=x.parent/\((Qw L x.iD).getD default).leaf=x.leaf)):=by
  rw[Iz,Decidable.not_and_iff_not_or_not];constructor<;>rintro (h|h);exact .inl λe=>h e.symm;exact .inr λe=>h e.symm;exact .inl λe=>h e.symm;exact .inr λe=>h e.symm
 have f:((KE L x.iD).any (kY L))=((KE L x.iD).any λid=>Ve L id):=any_congr λa c=>by
  have:=QET I.tree c;simp[Ve,kY,this]
 simp only[i,g,f];by_cases l:KD x≠0;simp[l];by_cases j:qf L x.iD<0;simp[j];by_cases b:1<QH x.ls/\Ve L x.parent=false;simp[b];simp[b]
def QEU{L:List Ql}(h:Ws L)(x:Ql):(Vk L x).length<=L.length+1:=by
 have a:=(Hg x h).length_eq;have b:=XS (λc:Ql=>c.iD != x.iD) L;simp only[Kw]at a;rw[a];exact Nat.succ_le_succ b
def Qmt{L}{n}(I:xZ L n){c:Jc}(t:c.cls.Nn):xZ (Ry L c) (n+1):=by
 have g:xZ L (n+1):=⟨I.tree,I.nn,by have:=I.len;omega⟩;have o:∀J:TreeInv (Vk L c.cls),xZ (Vk L c.cls) (n+1):=λJ=>
  ⟨J,λd k=>by
   rcases yv I.tree.rising _ k with rfl|h;exact t;exact I.nn d h,by have:=QEU I.tree.rising c.cls;have:=I.len;omega⟩
 unfold Ry;split
 .rename_i a;split;rename_i i;have e:wa L c.cls.iD=0:=by rw[Qmr];rw[Ef,Qc ω,Qd i]at a;exact a
  have s:KE L c.cls.iD=[]:=by
   unfold wa at e;split at e;cases e;split at e;cases e;rename_i h;simpa using h
  exact⟨I.tree.del s,λd k=>I.nn d (Jt.1 k).1,by
   have:=XS (λd:Ql=>d.iD != c.cls.iD) L;have:=I.len;simp only[Wt];omega⟩
  .rename_i i;rw[QhF I.tree.rising];by_cases l:c.kind=1
   .have e:kW L c.cls (ZF L 16 c.cls.parent).length=0:=by rw[add_same I];rw[Ef,Qd l]at a;exact a
    unfold kW at e
    repeat' split at e
    all_goals try (cases e;done)
    all_goals try contradiction
    rename_i m f j r v u;refine o (I.tree.add (by simpa using m) ?_ ?_ u);cases b:Qw L c.cls.iD with
    | none=>rfl
    | some _=>rw[b]at f;simp at f
    by_cases p:c.cls.parent=0;exact .inl p;refine .inr ?_;cases b:Qw L c.cls.parent with
    | none=>exact absurd (.inl ⟨p,by rw[b];rfl⟩) r
    | some _=>rfl
   .by_cases q:c.kind=3
    .have e:wc L c.cls=0:=by rw[Qms I];rw[Ef,Qc l,Qc i,Qd q]at a;exact a
     unfold wc at e
     repeat' split at e
     all_goals try (cases e;done)
     all_goals try contradiction
     rename_i m f j r;cases b:Qw L c.cls.iD with
     | none=>rw[b]at f;simp at f
     | some y=>
      refine o (I.tree.set (by simpa using m) b ?_);rw[b]at j;simp at j;exact j.1
    rw[Ef,Qc l,Qc i,Qc q]at a;cases a
 exact g
def QEV{L}{n}(I:xZ L n)(a):xY L a=Gk L a:=by
 unfold xY Gk zG Rx;rw[Ny,List.filter_filter];congr 1;refine RF λc _=>?_;simp only[Function.comp,QbH,mR I];cases c.leaf<;>cases (a==0)<;>cases (ZF L 16 c.iD).contains a<;>rfl
def Qmu{L}{n}(I:xZ L n)(c):Ef L c=qh L c/\Ry L c=xL L c:=by
 have h:Ef L c=qh L c:=by
  unfold Ef qh;by_cases d:c.kind=1;rw[Qd d,Qd d];exact(add_same I c.cls).symm;rw[Qc d,Qc d];by_cases b:c.kind=2;rw[Qd b,Qc ω,Qd b];exact(Qmr c.cls.iD).symm;rw[Qc b,Qc b];by_cases a:c.kind=3;rw[Qd a,Qd a];exact(Qms I c.cls).symm;rw[Qc a,Qc a]
 refine⟨h,?_⟩;unfold Ry xL;rw[h,QhF I.tree.rising]
def Qmv:∀(l:List Jc) (L:List Ql) (i n:Nat),xZ L n->(∀c∈l,Jc.Ok c)->xZ (Vq L l i).2.2 (n+l.length)
 | [],L,i,n,I,_=>I
 | c::l,L,i,n,I,a=>by
  rw[Vq];split;exact⟨I.tree,I.nn,JY I.len (br _ _)⟩;have J:=Qmt I (c:=c) (a c σ).2.1.nn;rw[(Qmu I c).2]at J;have:=Qmv l _ (i+1) (n+1) J λd b=>a d (by simp[b]);rw[Kw,show n+(l.length+1)=n+1+l.length by omega];exact this
def Ae:xZ [] 0:=⟨TreeInv.nil,λc h=>(by cases h),QB _⟩
def Ia(t:Int)(l:List Jc):Int:=if t<1\/65536<t then 1 else Yq [] t l
def aK(t:Int)(l:List Jc):Nat:=if t<1\/65536<t then 0 else DJ [] l
def Eg(t:Int)(l:List Jc):List Ql:=if t<1\/65536<t\/32<l.length\/(Vq [] l 0).1≠0 then [] else Je [] l
def QEW(t)(l)(N:∀c∈l,Jc.Ok c):
  QI prog 20 [KK [],Qa t,FQ l] (QN (.agg [KK (Eg t l),Qa (aK t l),Qa (Ia t l)])):=by
 refine Qbi (R:=λd M=>JC 6 d (.agg [KK (Eg t l),Qa (aK t l),Qa (Ia t l)])) _ rfl (λd M h=>.inl h) ?_;by_cases j:t<1
 .have d1:=QS j;have q:Ia t l=1:=Qd (.inl j);have p:aK t l=0:=Qd (.inl j);have o:Eg t l=[]:=Qd (.inl j);rw[q,p,o];refine QY 1 func20 ntmps20 results20 λf w e=>?_;simp only[go_sem];simp only[go_sem,d1,Go.undef];all_goals first|trivial|exact⟨rfl,rfl,rfl,trivial⟩
 have d1:=QG j;by_cases i:65536<t
 .have d2:=QS i;have q:Ia t l=1:=Qd (.inr i);have p:aK t l=0:=Qd (.inr i);have o:Eg t l=[]:=Qd (.inr (.inl i));rw[q,p,o];refine QY 1 func20 ntmps20 results20 λf w e=>?_;simp only[go_sem];simp only[go_sem,d1,d2];all_goals first|trivial|exact⟨rfl,rfl,rfl,trivial⟩
 have d2:=QG i;have q:Ia t l=Yq [] t l:=Qc ω;have p:aK t l=DJ [] l:=Qc ω;rw[q,p];by_cases g:32<l.length
 .have d3:decide ((32:Int)<(l.length:Int))=true:=QS ω;have o:Eg t l=[]:=Qd (.inr (.inr (.inl g)));have f1:Yq [] t l=2:=Qd g;have f2:DJ [] l=0:=Qd g;rw[o,f1,f2];refine QY 1 func20 ntmps20 results20 λf w e=>?_;simp only[go_sem];simp only[go_sem,d1,d2,d3];all_goals first|trivial|exact⟨rfl,rfl,rfl,trivial⟩
 have d3:decide ((32:Int)<(l.length:Int))=false:=QG ω;have z:DJ [] l=if (Vq [] l 0).1≠0 then (Vq [] l 0).2.1 else 0:=Qc g;have y:Yq [] t l=if (Vq [] l 0).1≠0 then (Vq [] l 0).1 else vq t (VO (Vq [] l 0).2.2):=Qc g;have u:Eg t l=if (Vq [] l 0).1≠0 then [] else Je [] l:=by
  unfold Eg;by_cases h:(Vq [] l 0).1≠0;rw[Qd h,Qd (.inr (.inr (.inr h)))];rw[Qc h,Qc (λP=>by rcases P with a|a|a|a;exact j a;exact i a;exact g a;exact h a)]
 refine QY 1 func20 ntmps20 results20 λf w e=>?_;simp only[go_sem];simp only[go_sem,d1,d2,d3];refine ZN (λk K=>∃b,xZ b k/\jg b/\Vq [] l 0=Vq b (l.drop k) k/\K=⟨[(1,Qa t),(6,.ptr 0 0 0 0),(7,KK b),(23,FQ l),(24,Qa l.length),(25,Qa k)],[⟨.one,0,3,1,λ_=>[.nil,Qa 0,Qa 0]⟩]⟩) l.length (s0:=⟨[(1,Qa t),(6,.ptr 0 0 0 0),(7,KK []),(23,FQ l),(24,Qa l.length),(25,Qa 0)],[⟨.one,0,3,1,λ_=>[.nil,Qa 0,Qa 0]⟩]⟩) (Qo.to 1 (by (simp only[go_sem])<;>simp)) ⟨[],Ae,λc h=>(by cases h),rfl,rfl⟩ ?_;rintro k _ U ⟨b,I,F,s,rfl⟩;have T:=I.len;by_cases m:k<l.length
 .have E:=QS m;have r:=Qi4 m s;have v:Jc.Ok (l.getD k default):=N _ (qE l default k m);obtain⟨x,hx⟩:∃x,x=l.getD k default:=⟨_,rfl⟩;rw[<- hx]at r v;obtain⟨L,C⟩:=Qmu I x;have H:=QER b x ω I.nn v.2.1.nn;rw[L,C]at H;have S:=Jr (show k<4611686018427387904 from ω);apply Qh e;simp only[go_sem,m,Jc.xp,<- hx];refine Wy e [] Qsc rfl ?_ H rfl λd h B=>?_;simp only[go_sem];obtain⟨rfl,rfl⟩:=B;simp only[go_sem];apply Qg e;by_cases n:qh b x=0;rw[Qc (by simpa using n)]at r;have d0:(qh b x != 0)=false:=by simpa using n
  have J:=Qmt I (c:=x) v.2.1.nn;rw[C]at J;simp only[go_sem,d0];exact⟨m,_,Qo.to 1 (by (simp only[go_sem,S])<;>simp),xL b x,J,F.one I.tree.rising v,r,rfl⟩
  .rw[Qd (by simpa using n)]at r;have d0:(qh b x != 0)=true:=by simpa using n
   rw[z,y,u,r];simp only[Qd (show qh b x≠0 from n)];simp only[go_sem,d0];all_goals first|trivial|exact⟨rfl,rfl,rfl,trivial⟩
 .have Q:k=l.length:=ω;have E:=QG m;rw[Q,List.drop_length,Vq]at s;rw[s]at z y u;simp only[ne_eq,not_true_eq_false,qY]at z y u;have O:Je [] l=b:=by unfold Je;rw[s]
  have V:=ur b;rw[z,y,u,O];apply Qh e;simp only[go_sem,E];apply Qg e;refine Wy e [] Qse rfl ?_ (Qy6 b ω I.nn) rfl λd h B=>?_;simp only[go_sem];obtain⟨rfl,rfl⟩:=B;simp only[go_sem];apply Qg e;apply QV e Qsd (QyQ t (VO b) ω F.Qi2);apply Qg e;all_goals first|trivial|exact⟨zx _ _,rfl,rfl,trivial⟩
def Ev.CK(x:Ev):Prop:=(Lit.int .u64 x.at_).wf=true/\(Lit.int .i64 x.len).wf=true
def Qmw{l:List ZO}(h:Ec l=true):∀o∈l.tail,o.kind≠1:=λo a=>by
 unfold Ec at h;rw[List.drop_one]at h;simpa using qV.1 h o a
def QEX{p:Pk}{c:Cf}(K:WZ c)(o:1<=p.len)(k:p.len<=c.Jb):wJ p c.t<=((c.Jb.toNat*c.t.toNat:Nat):Int)/\0<=wJ p c.t:=by
 have i:=K.l2;have h:=K.t2;have g:=K.t1;obtain⟨n,e⟩:∃n:Nat,p.len=n:=⟨p.len.toNat,ω⟩;obtain⟨T,f⟩:∃n:Nat,c.t=n:=⟨c.t.toNat,ω⟩;obtain⟨L,d⟩:∃n:Nat,c.Jb=n:=⟨c.Jb.toNat,ω⟩;rw[e,d]at k;rw[d]at i;rw[f]at h g;have m:n*T<=L*T:=XC T ω;have l:L*T<=16384*65536:=Yb ω ω;have j:(n:Int)*(T:Int)=((n*T:Nat):Int):=rfl;unfold wJ;rw[Qd ⟨ω,ω⟩,e,f,d,j,IntKind.wrap_u64];show _<=((L*T:Nat):Int)/\_;generalize n*T=a at *;generalize L*T=b at *;omega
def QEY{c}(K:WZ c)(b:List ZO)(w:∀o∈b,ZO.Ok o):∀i,i<(Zx (S0 c) b).2.2.length ->
  0<=((Zx (S0 c) b).2.2.getD i default).at_/\((Zx (S0 c) b).2.2.getD i default).at_<=4611686018427387904/\1<=((Zx (S0 c) b).2.2.getD i default).len/\((Zx (S0 c) b).2.2.getD i default).len<=c.Jb /\
  (((Zx (S0 c) b).2.2.getD i default).J9=false->((Zx (S0 c) b).2.2.getD i default).done<=((Zx (S0 c) b).2.2.getD i default).at_+((c.Jb.toNat*c.t.toNat:Nat):Int)):=by
 have A:=QbB (x:=c) b (Jn.mM K) (W:=λ_=>[]) (a:=aH) (d:=0) ⟨λj=>rfl,rfl,Eh _,Eh _,rfl⟩ w;have f:=λ{i:Nat} (e:i<(Zx (S0 c) b).2.2.length) {k:Nat} (t:k<8)=>Ql4 A.ok e t;obtain⟨l,q⟩:∃l,l=(Zx (S0 c) b).2.2:=⟨_,rfl⟩;rw[<- q]at f ⊢;have m:∀i,i<l.length->(Rs l i).at_<=(l.getD i default).at_/\(l.getD i default).at_<=4611686018427387904:=λi e=>by
  have h:decide ((l.getD i default).at_<(Rs l i).at_\/4611686018427387904<(l.getD i default).at_)=false:=f e (k:=1) π;rw[Iy]at h;omega
 have r:∀i,i<l.length->0<=(l.getD i default).at_:=λi=>by
  induction i with
  | zero=>intro e;exact(m 0 e).1
  | succ i s=>
   intro e;have v:=s ω;have u:(l.getD i default).at_<=(l.getD (i+1) default).at_:=(m (i+1) e).1;omega
 intro i e;have g:1<=(l.getD i default).len/\(l.getD i default).len<=c.Jb:=by
  have h:(vB (l.getD i default).pk c.Jb != 0)=false:=f e (k:=2) π;unfold vB at h;split at h;cases h;split at h;cases h;rename_i n;have n:¬¬(1<=(l.getD i default).len/\(l.getD i default).len<=c.Jb):=n;omega
 refine⟨r i e,(m i e).2,g.1,g.2,λy=>?_⟩;have h:(!(l.getD i default).J9&&(l.getD i default).done != IntKind.u64.wrap ((l.getD i default).at_+wJ (l.getD i default).pk c.t))=false:=f e (k:=7) π;rw[y]at h;have h:(l.getD i default).done=IntKind.u64.wrap ((l.getD i default).at_+wJ (l.getD i default).pk c.t):=by simpa using h
 have z:=QEX (p:=(l.getD i default).pk) K g.1 g.2;have v:=K.l2;have u:=K.t2;have C:c.Jb.toNat*c.t.toNat<=16384*65536:=Yb ω ω;have B:=r i e;have n:=(m i e).2;rw[h,IntKind.wrap_u64];omega
def QEZ{e:Ev}(h:0<=e.at_/\e.at_<=18446744073709551615)(a:-9223372036854775808<=e.len/\e.len<=9223372036854775807):e.CK:=by
 refine⟨?_,?_⟩;simp only[Lit.wf,ZE,Xo];exact h;simp only[Lit.wf,ZE,Xo];exact a
def QE0{c}(K:WZ c)(a:List ZO)(l:∀o∈a,ZO.Ok o):∀e∈(Zx (S0 c) a).2.2,e.CK:=λe k=>by
 obtain⟨i,b,rfl⟩:=aV.1 k;have h:=QEY K a l i b;rw[QW,QJ b]at h;obtain⟨j,g,f,d,_⟩:=h;have j:0<=((Zx (S0 c) a).2.2[i]).at_:=j;have g:((Zx (S0 c) a).2.2[i]).at_<=4611686018427387904:=g;have f:1<=((Zx (S0 c) a).2.2[i]).len:=f;have d:((Zx (S0 c) a).2.2[i]).len<=c.Jb:=d;have:=K.l2;exact QEZ ω ω
def y6(x:Xr):Bool:=decide (0<x.ops.length)&&(((x.ops.getD 0 default).kind==1)&&(Ec x.ops&&(Ia x.config.t (x.ops.getD 0 default).changes==0)))
def Ib(x:Xr):List Ql:=if 0<x.ops.length/\(x.ops.getD 0 default).kind=1/\Ec x.ops=true then Eg x.config.t (x.ops.getD 0 default).changes else []
def QE1{k n}(h:k<n)(a:n<=maxLen):IntKind.i64.wrap ((k:Int)+1)=((k+1:Nat):Int):=by
 have:maxLen=9223372036854775807:=rfl;rw[wrap64 ω ω];rfl
def QE2(x:Xr)(n:x.ops.length<=maxLen)(E:∀a∈x.ops,ZO.Ok a):QI prog 6 [.agg x.cells] (QN (.tup [KK (Ib x),QU (y6 x)])):=by
 refine Qbi (R:=λd F=>JC 6 d (.tup [KK (Ib x),QU (y6 x)])) _ rfl (λd F h=>.inl h) ?_;by_cases t:x.ops.length=0
 .have g:Ib x=[]:=Qc ω;have f:y6 x=false:=by unfold y6;rw[QG (show ¬0<x.ops.length from ω)];rfl
  rw[g,f];refine QY 1 func6 ntmps6 results6 λe w c=>?_;simp only[go_sem];simp only[go_sem,bz t,Go.undef];all_goals first|trivial|exact⟨rfl,rfl,trivial⟩
 have s:0<x.ops.length:=ω;obtain⟨o,b⟩:∃o,o=x.ops.getD 0 default:=⟨_,rfl⟩;have ZS:ZO.Ok o:=E o (by rw[b];exact qE x.ops default 0 s);by_cases l:o.kind=1;case neg=>
  have g:Ib x=[]:=Qc (λh=>l (by rw[b];exact h.2.1));have f:y6 x=false:=by unfold y6;rw[<- b,Vw l];simp
  have d1:(o.kind != 1)=true:=by rw[bne,Vw l];rfl
  rw[g,f];refine QY 1 func6 ntmps6 results6 λe w c=>?_;simp only[go_sem];simp only[go_sem,OI t,<- b,d1];all_goals first|omega|exact⟨rfl,rfl,trivial⟩
 have d1:(o.kind != 1)=false:=by rw[bne,WA l];rfl
 refine QY 1 func6 ntmps6 results6 λe w c=>?_;simp only[go_sem];simp only[go_sem,OI t,<- b,d1];refine⟨ω,?_⟩;refine kO (G:=Nat) [1,20,21] (λk=>∀j,j<k->0<j->(x.ops.getD j default).kind≠1) (λk y=>[(22,Qa k)]) (λk y=>[⟨.one,0,3,1,λ_=>x.cells⟩]) (x.ops.length) (0) rfl (Qo.to 1 (by (simp only[go_sem])<;>simp)) ?_ ?_;intro j r;omega;intro k y B v;apply Qg c;first|refine We B (λi=>?_) (λi=>?_)|refine Wf B (λi=>?_) (λi=>?_)
 .have C:=QE1 i n;simp only[go_sem,i];by_cases z:0<k
  .have d0:=QS (show (0:Int)<k from ω);by_cases p:(x.ops.getD k default).kind=1
   .have u:=WA p;have m:Ec x.ops=false:=by
     rw[X9];intro H;exact Qmq.1 H k i z p
    have g:Ib x=[]:=Qc (λh=>by rw[m]at h;cases h.2.2);have f:y6 x=false:=by unfold y6;rw[m];simp
    rw[g,f];simp only[go_sem,d0,u];all_goals first|trivial|exact⟨rfl,rfl,trivial⟩
   have u:=Vw p;simp only[go_sem,d0,u];repeat (refine And.intro δ ?_)
   refine⟨_,Qo.to 1 (by (simp only[go_sem,C])<;>simp),JW.mk (0) (?_)⟩;intro j r q;rcases vK.1 r with h|rfl;exact v j h q;exact p
  have d0:=QG (show ¬(0:Int)<k from ω);simp only[go_sem,d0,Go.undef];repeat (refine And.intro δ ?_)
  refine⟨_,Qo.to 1 (by (simp only[go_sem,C])<;>simp),JW.mk (0) (?_)⟩;intro j r q;rcases vK.1 r with h|rfl;exact v j h q;exact absurd q z
 .simp only[go_sem];subst i;have m:Ec x.ops=true:=Qmq.2 v;have g:Ib x=Eg x.config.t o.changes:=by rw[b];exact Qd ⟨s,by rw[<- b];exact l,m⟩
  have f:y6 x=(Ia x.config.t o.changes==0):=by unfold y6;rw[<- b,QS s,WA l,m];rfl
  have J:QI prog 20 [.nil,Qa x.config.t,FQ o.changes] _:=QM.QdJ (QEW x.config.t o.changes ZS.2.1.2) ⟨rfl,zx _ _,zx _ _,trivial⟩;rw[g,f];apply Qg c;apply Qv c [0,1,2,3,4,5,6,7,1008,1009,1010];simp only[go_sem,<- b];refine⟨ω,?_⟩;refine Qph c Qr6 rfl ?_ J rfl λd h I=>?_;simp only[go_sem];obtain⟨rfl,rfl⟩:=I;simp only[go_sem];apply Zp c;apply Qv c [0,1,2,3,4,5,6];simp only[go_sem];all_goals first|trivial|exact⟨zx _ _,rfl,trivial⟩
theorem QE3:No.length=4:=rfl
theorem QE4:No.getD 0 default=⟨2,true,false,0,0,1,7,100,0,0,0,0⟩:=rfl
theorem QE5:No.getD 1 default=⟨2,false,false,0,100,1,7,100,0,0,0,0⟩:=rfl
theorem QE6:No.getD 3 default=⟨4,false,false,100,200,1,7,100,0,0,0,0⟩:=rfl
def y7(n:Nd)(a:Bool)(f:Nat):List D:=n.c.cells++(QU a::u64 n.QT::(n.du.cells++(n.sh.cells++(n.cp.cells++(u64 f::n.q.cts)))))
section
variable (n:Nd)(a:Bool)(f:Nat)
@[go_sem] theorem QJ0:(y7 n a f).length=67:=rfl
@[go_sem] theorem QJ1:(y7 n a f).all D.Vh=true:=rfl
@[go_sem] theorem QJ2:(List.drop 15 (y7 n a f)).getD 0 D.undef=u64 n.QT:=rfl
@[go_sem] theorem QJ3:(List.drop 2 (y7 n a f)).getD 0 D.undef=QU n.c.leaf:=rfl
@[go_sem] theorem QJ4:(List.drop 63 (y7 n a f)).getD 0 D.undef=u64 n.q.cd:=rfl
@[go_sem] theorem QJ5:(List.drop 65 (y7 n a f)).getD 0 D.undef=u64 n.q.bo:=rfl
@[go_sem] theorem QJ6:(List.drop 66 (y7 n a f)).getD 0 D.undef=u64 n.q.bd:=rfl
@[go_sem] theorem QJ7(v):List.take 63 (y7 n a f)++(.raw (.int .u64 ((v:Nat):Int))::List.drop 64 (y7 n a f))=y7 { n with q:={ n.q with cd:=v } } a f:=rfl
@[go_sem] theorem QJ8(v):List.take 66 (y7 n a f)++[.raw (.int .u64 ((v:Nat):Int))]=y7 { n with q:={ n.q with bd:=v } } a f:=rfl
end
@[go_sem] def QJ9(n:Nd)(a:Bool)(f:Nat):Ob:=⟨.one,0,67,1,λ_=>y7 n a f⟩
end Go.Fg.X
namespace Go.Fg.X
open Go.Proofs Go.Fg
open Go.RowKit (Below)
open Go.Proofs.Tryz
def Qo.QE7{f}{c}{h}{d'}(t)(i:JC 6 (get c t) d'):Qo f ⟨c,h⟩ ⟨put c t d',h⟩:=by
 intro Z z d j g a w r b;refine⟨g,⟨r.nt,r.defers,λu=>?_,r.o⟩,b⟩;show QD Z _ _ w (get (put c t _) u) _;rw[Eu];by_cases e:u=t;subst e;rw[Qd rfl];exact kP 6 i (r.fr u);rw[Qc e];exact r.fr u
end Go.Fg.X
namespace Go.Fg.X
open Go.Proofs Go.Fg
open Go.Proofs.Tryz
def QE8:QI prog 8 [] (QN (QU true)):=by
 have e:=Qlx Ro ⟨π,π,π,π⟩ π QDL;rw[show (Zx (S0 Ro.config) Ro.ops).2.2=No from QDQ]at e;obtain⟨R,g,a⟩:∃R,R=(Zx (S0 Ro.config) Ro.ops).2.1/\R.length=5:=⟨_,rfl,QDR⟩;rw[<- g]at e;refine Qdt 0 Vd 24 func8 rfl ntmps8 results8 rfl λk w c=>?_;simp only[go_sem];refine G4 (Qo.SW rfl (λl o a=>by simp at a) 13 2 (Jj _) rfl rfl (QB 1) rfl ?_) ?_;intro i b;match i,b with
 | 0,_=>rfl
 | j+1,h=>exact absurd (show j+1<1 from h) ω
 simp only[go_sem];refine EV Vd c 3 ?_;simp only[go_sem];refine G4 (Qo.SW rfl (λl o a=>by simp at a) 16 3 (Jj _) rfl rfl (QB 1) rfl ?_) ?_;intro i b;match i,b with
 | 0,_=>rfl
 | j+1,h=>exact absurd (show j+1<1 from h) ω
 simp only[go_sem];refine EV Vd c 5 ?_;simp only[go_sem];refine G4 (Qo.SW rfl (λl o a=>by simp at a) 21 4 (Jj _) rfl rfl (QB 5) rfl ?_) ?_;intro i b;match i,b with
 | 0,_=>rfl
 | 1,_=>rfl
 | 2,_=>rfl
 | 3,_=>rfl
 | 4,_=>rfl
 | j+5,h=>exact absurd (show j+5<5 from h) ω
 simp only[go_sem];have m:((4:Nat):Int)=4:=rfl;have n:((5:Nat):Int)=5:=rfl;apply Qg c;refine G4 (Qo.QE7 (d':=.agg Ro.cells) 24 ?_) ?_;refine⟨rfl,rfl,⟨rfl,rfl,λi b=>?_⟩,trivial⟩;match i,b with
 | 0,_=>exact⟨rfl,⟨rfl,rfl,λj f=>by match j,f with|0,_=>exact vW (zx _) _|j+1,h=>exact absurd (show j+1<1 from h) ω⟩,rfl,rfl,rfl,rfl,rfl,rfl,rfl,rfl,trivial⟩
 | 1,_=>exact⟨rfl,rfl,⟨rfl,rfl,λj f=>by match j,f with|0,_=>exact vW (zx _) _|j+1,h=>exact absurd (show j+1<1 from h) ω⟩,rfl,rfl,rfl,rfl,rfl,rfl,rfl,trivial⟩
 | 2,_=>exact⟨rfl,rfl,rfl,rfl,rfl,rfl,rfl,rfl,rfl,rfl,trivial⟩
 | 3,_=>exact⟨rfl,rfl,rfl,rfl,rfl,rfl,rfl,rfl,rfl,rfl,trivial⟩
 | 4,_=>exact⟨rfl,rfl,rfl,rfl,rfl,rfl,rfl,rfl,rfl,rfl,trivial⟩
 | j+5,h=>exact absurd (show j+5<5 from h) ω
 refine Wy c [] fn9 rfl ?_ e rfl λd h e=>?_;simp only[go_sem];obtain⟨rfl,rfl⟩:=e;simp only[go_sem,QE3,a];apply Qh c;simp only[go_sem,m,QE4,QE5,QE6]
def QFa{x:Xr}(K:WZ x.config)(t:∀a∈x.ops,ZO.Ok a)(g:y6 x=true):∃T,Ib x=T/\xZ T 64/\JQ T/\jg T/\Ec x.ops=true/\0<x.ops.length/\∀n,0<n->n<=x.ops.length->(Zx (S0 x.config) (x.ops.take n)).1.M.T=T:=by
 unfold y6 at g;rw[ZE,ZE,ZE,Xo,qX,qX]at g;obtain⟨k,q,j,w⟩:=g;have F:=K.t1;have E:=K.t2;obtain⟨o,e⟩:∃o,o=x.ops.getD 0 default:=⟨_,rfl⟩;have ZS:ZO.Ok o:=t o (by rw[e];exact qE x.ops default 0 k);have v:Ia x.config.t o.changes=Yq [] x.config.t o.changes:=Qc ω;have d:Yq [] x.config.t o.changes=0:=by rw[<- v,e];exact w
 have s:¬ 32<o.changes.length:=λh=>by unfold Yq at d;rw[Qd h]at d;cases d
 have u:(Vq [] o.changes 0).1=0:=by
  unfold Yq at d;rw[Qc s]at d;by_cases h:(Vq [] o.changes 0).1=0;exact h;rw[Qd h]at d;exact absurd d h
 have I:=Qmv o.changes [] 0 0 Ae ZS.2.1.2;obtain⟨z,y⟩:=Ur (T:=[]) JQ.nil (λc h=>(by cases h)) ZS.2.1.2;refine⟨Je [] o.changes,?_,⟨I.tree,I.nn,JY I.len ω⟩,z,y,j,k,λn p C=>?_⟩;unfold Ib;rw[Qd ⟨k,q,j⟩,<- e];unfold Eg;rw[Qc (by rw[u];omega)];have l:(x.ops.take n).getD 0 default=o:=by
  rw[e,QW,QW,XB,Qd p]
 have B:=Qmw j;have:=(QEO (c:=x.config) (ops:=x.ops.take n) (by rw[aU];omega) (by rw[l,e];exact q) (by rw[l];exact d) λa f=>B a (by
  cases m:x.ops with
  | nil=>rw[m]at f;simp at f
  | cons b r=>
   rw[m]at f;cases n with
   | zero=>cases p
   | succ n=>exact aW (i:=n) f)).1
 rw[l]at this;exact this
end Go.Fg.X
namespace Go.Fg.X.SP
open Go.Proofs Go.Fg
open Go.Proofs.Tryz
@[go_sem] def QKa(n:Int):List D:=[.raw (.int .u64 n)]
@[go_sem] def Nr(n:Int):List D:=[.raw (.int .i64 n)]
def lens(a:List Int)(l:List Ev)(k:Nat):List Int:=(List.range (k+1)).map λj=>(Kv a l j:Int)
def aL(a)(l:List Ev)(k:Nat):(lens a l k).length=k+1:=by simp[lens]
def QFb(a)(l:List Ev)(k):lens a l (k+1)=lens a l k++[(Kv a l (k+1):Int)]:=by simp[lens,List.range_succ]
def mT(a)(l:List Ev)(k i:Nat)(h:i<k+1):(lens a l k).getD i default=(Kv a l i:Int):=by simp[lens,QW,h]
def QFc(l:List Ev)(a:List Int)(x:l.length<2147483648)(f:a.length<2147483648):QI prog 25 [YI l,ints a] (Oj 1 Nr (lens a l l.length)):=by
 refine QY 1 func25 ntmps25 results25 λm w b=>?_;simp only[go_sem];refine ZN (λk s=>∃g,s=⟨[(1,ints a),(5,.ref 0 g 0 (k+1)),(10,YI l),(11,Qa l.length),(12,Qa k)],[⟨.arr,g,1,k+1,λi=>Nr ((lens a l k).getD i default)⟩]⟩) l.length
  (s0:=⟨[(1,ints a),(5,.ref 0 0 0 1),(10,YI l),(11,Qa l.length),(12,Qa 0)],[⟨.arr,0,1,0+1,λi=>Nr ((lens a l 0).getD i default)⟩]⟩)
  (Qo.to 1 (by simp only[go_sem];simp[lens,Kv])) ⟨0,rfl⟩ ?_
 rintro k s y ⟨g,rfl⟩;have v:=Qmd a l k;have t:=Jr (show k<4611686018427387904 from ω);have j:=Jr (show Kv a l k<4611686018427387904 from ω);have q:=mT a l k k ω;apply Qg b;refine VV (λh=>?_) (λh=>?_)
 .have e:k<l.length:=by simpa using h
  simp only[go_sem,e];have r:k<k+1:=ω;have n:Kv a l k≠0->IntKind.i64.wrap ((Kv a l k:Int)-1)=((Kv a l k-1:Nat):Int):=λ_=>by exact Zw
  have o:=QFb a l k;cases d:a.contains (l.getD k default).cls<;>cases p:(l.getD k default).J9<;>by_cases c:Kv a l k=0;all_goals
   simp only[go_sem,r,q];apply QV b pe (LP a (l.getD k default).cls f);apply Qh b;simp only[go_sem,d];apply QV b pe (LP a (l.getD k default).cls f);apply Qh b;first
    | simp only[go_sem,d,dp c,j,n c]
    | simp only[go_sem,d,pV c,j]
   refine⟨ω,e,_,Qo.to 1 ⟨?_,by simp only[go_sem],by simp only[go_sem],?_⟩,g+1,rfl⟩;simp only[go_sem,t];simp only[go_sem,o];intro i u;rw[QfU _ _ _ _ (by rw[aL];exact u),aL];cases decide (i<k+1);simp only[Kv,Gj,d,p,c];first|rfl|simp[c]
   rfl
 have e:k=l.length:=by simp at h;omega
 simp only[go_sem];apply Qg b;subst e;exact⟨g,by rw[aL],by rw[aL];rfl⟩
theorem c2:((2:Nat):Int)=2:=rfl
structure Good (l:List Ev) (out:List Sp) (k n:Nat):Prop where
 a:∀i,i<out.length->∃f:Nat,(out.getD i default).fst=f/\f<k/\(out.getD i default).W0=(l.getD f default).at_ /\
  ((out.getD i default).qU=false->∃t:Nat,(out.getD i default).CJ=t/\f<t/\t<k/\(out.getD i default).to=(l.getD t default).at_)
 b:∀i,i+1<out.length->(out.getD i default).qU=false/\(out.getD i default).CJ<(out.getD (i+1) default).fst
 c:0<n↔0<out.length/\(out.getD (out.length-1) default).qU=true
def CA(b)(l:List Ev):∀k,Good l (Vt b l k) k (Kv b l k)
 | 0=>⟨λi h=>by simp[Vt]at h,λi h=>by simp[Vt]at h,by simp[Vt,Kv]⟩
 | k+1=>by
  have G:=CA b l k;have g:∀i,i<(Vt b l k).length->∃f:Nat,((Vt b l k).getD i default).fst=f/\f<k+1/\((Vt b l k).getD i default).W0=(l.getD f default).at_ /\
    (((Vt b l k).getD i default).qU=false->∃t:Nat,((Vt b l k).getD i default).CJ=t/\f<t/\t<k+1/\((Vt b l k).getD i default).to=(l.getD t default).at_):=λi c=>by
   obtain⟨f,j,o,q,p⟩:=G.a i c;exact⟨f,j,ω,q,λe=>let ⟨t,t1,t2,t3,t4⟩:=p e;⟨t,t1,t2,ω,t4⟩⟩
  have G:=G;simp only[Vt,Kv,Rv];generalize Vt b l k=a at *;generalize Kv b l k=n at *;generalize Gj n (l.getD k default) b=m at *;by_cases j:n=0/\0<m;rw[Qd j];have u:¬ (0<a.length/\(a.getD (a.length-1) default).qU=true):=λh=>by have:=G.c.2 h;omega
  refine⟨λi c=>?_,λi c=>?_,?_⟩;by_cases d:i<a.length;rw[fD _ _ _ _ d];exact g i d;have:i=a.length:=by simp at c;omega
  subst this;rw[pW];exact⟨k,rfl,ω,rfl,λe=>by cases e⟩;simp only[Zk,Kw,RG]at c;rw[fD _ _ _ _ ω];by_cases d:i+1<a.length;rw[fD _ _ _ _ d];exact G.b i d;have e:i+1=a.length:=ω;rw[e,pW];have r:(a.getD i default).qU=false:=by
   cases s:(a.getD i default).qU;rfl;exact absurd ⟨ω,by rw[show a.length-1=i by omega];exact s⟩ u
  obtain⟨f,j,o,q,p⟩:=G.a i ω;obtain⟨t,t1,t2,t3,t4⟩:=p r;exact⟨r,by rw[t1];simp;omega⟩;simp only[Zk,Kw,RG,be,Jz];rw[pW];exact⟨λ_=>⟨ω,rfl⟩,λ_=>j.2⟩;rw[Qc j];by_cases o:0<n/\m=0;rw[Qd o];obtain⟨v,c2⟩:=G.c.1 o.1;obtain⟨f,f1,f2,f3,f4⟩:=G.a (a.length-1) ω;refine⟨λi c=>?_,λi c=>?_,?_⟩;rw[Kx]at c;by_cases d:i=a.length-1;subst d;rw[pX _ _ _ _ ω];exact⟨f,f1,ω,f3,λ_=>⟨k,rfl,f2,ω,rfl⟩⟩;rw[pY _ _ _ _ _ (Q8 d)];exact g i c;rw[Kx]at c;rw[pY _ _ _ _ _ (show a.length-1≠i from ω)];by_cases d:i+1=a.length-1;rw[d,pX _ _ _ _ ω];have:=G.b i c;rw[d]at this;exact this;rw[pY _ _ _ _ _ (Q8 d)];exact G.b i c;rw[Kx,pX _ _ _ _ ω];exact⟨λh=>ω,λh=>by cases h.2⟩;rw[Qc o];refine⟨g,G.b,?_⟩;rw[<- G.c];omega
def K6(a:List Int)(l:List Ev)(i:Nat):Nat->Sp
 | 0=>⟨(l.getD i default).at_,0,i,0,true⟩
 | k+1=>if i<k/\(K6 a l i k).qU=true/\Kv a l (k+1)=0 then ⟨(l.getD i default).at_,(l.getD k default).at_,i,k,false⟩ else K6 a l i k
def Xm(a:List Int)(l:List Ev):Nat->List Sp
 | 0=>[]
 | i+1=>if 0<Kv a l i\/Kv a l (i+1)=0 then Xm a l i else Xm a l i++[K6 a l i l.length]
def Qmx(a)(l:List Ev):∀k,(Xm a l k).length<=k
 | 0=>QB _
 | k+1=>by have:=Qmx a l k;simp only[Xm];split<;>simp<;>omega
def Ca(l:List Ev)(a:List Int)(K:l.length<2147483648)(J:a.length<2147483648):QI prog 26 [YI l,ints a] (Oj 5 Sp.cells (Xm a l l.length)):=by
 refine oX [1] rfl Vd 200 func26 rfl ntmps26 results26 rfl λI w c=>?_;simp only[go_sem];refine cA2 c Qsa (QFc l a K J) (Oj.flat λx=>rfl) λd h M=>?_;obtain⟨b,rfl,rfl⟩:=M;apply Qg c;rw[aL];refine ZN (λk s=>∃g,s=⟨[(0,YI l),(5,.ref 0 b 0 (l.length+1)),(6,.ref 1 g 0 (Xm a l k).length),(14,YI l),(15,Qa l.length),(16,Qa k)],[⟨.arr,b,1,l.length+1,λi=>Nr ((lens a l l.length).getD i default)⟩,⟨.arr,g,5,(Xm a l k).length,λi=>((Xm a l k).getD i default).cells⟩]⟩) l.length
  (s0:=⟨[(0,YI l),(5,.ref 0 b 0 (l.length+1)),(6,.ref 1 0 0 0),(14,YI l),(15,Qa l.length),(16,Qa 0)],[⟨.arr,b,1,l.length+1,λi=>Nr ((lens a l l.length).getD i default)⟩,⟨.arr,0,5,0,λi=>(([]:List Sp).getD i default).cells⟩]⟩)
  (Qo.trans (Qo.jw 6 5 (λi=>(([]:List Sp).getD i default).cells) rfl) (Qo.to 2 (by (simp only[go_sem])<;>simp))) ⟨0,rfl⟩ ?_
 rintro i s O ⟨g,rfl⟩;apply Qg c;have r:=Jr (show i<4611686018427387904 from ω);have H:=Qmx a l i;refine VV (λh=>?_) (λh=>?_)
 .have n:i<l.length:=by simpa using h
  have t:i<l.length+1:=ω;have z:i+1<l.length+1:=ω;have u:(lens a l l.length).getD i default=(Kv a l i:Int):=mT a l _ i t;have E:(lens a l l.length).getD (i+1) default=(Kv a l (i+1):Int):=mT a l _ _ z;by_cases v:Kv a l i=0;case neg=>
   have m:Xm a l (i+1)=Xm a l i:=by simp only[Xm];rw[Qd ω]
   simp only[go_sem,n,t,u,dp v];repeat (refine And.intro δ ?_)
   exact⟨_,Qo.to 2 (by (simp only[go_sem,r,m])<;>simp),g,rfl⟩
  by_cases F:Kv a l (i+1)=0;case pos=>
   have m:Xm a l (i+1)=Xm a l i:=by simp only[Xm];rw[Qd ω]
   simp only[go_sem,n,t,z,u,E,r,pV v,bz F];repeat (refine And.intro δ ?_)
   exact⟨_,Qo.to 2 (by (simp only[go_sem,m])<;>simp),g,rfl⟩
  have m:Xm a l (i+1)=Xm a l i++[K6 a l i l.length]:=by simp only[Xm];rw[Qc ω]
  simp only[go_sem,n,t,z,u,E,r,pV v,OI F];refine ZN (λj s=>s=⟨[(0,YI l),(5,.ref 0 b 0 (l.length+1)),(6,.ref 1 g 0 (Xm a l i).length),(7,Qa i),(8,.ptr 2 0 0 0),(9,.ptr 3 0 0 0),(14,YI l),(15,Qa l.length),(16,Qa i),(39,Qa l.length),(40,Qa j)],[⟨.arr,b,1,l.length+1,λi=>Nr ((lens a l l.length).getD i default)⟩,⟨.arr,g,5,(Xm a l i).length,λk=>((Xm a l i).getD k default).cells⟩,⟨.one,0,12,1,λ_=>(l.getD i default).cells⟩,⟨.one,0,5,1,λ_=>(K6 a l i j).cells⟩]⟩) l.length
   (s0:=⟨[(0,YI l),(5,.ref 0 b 0 (l.length+1)),(6,.ref 1 g 0 (Xm a l i).length),(7,Qa i),(8,.ptr 2 0 0 0),(9,.ptr 3 0 0 0),(14,YI l),(15,Qa l.length),(16,Qa i),(39,Qa l.length),(40,Qa 0)],[⟨.arr,b,1,l.length+1,λi=>Nr ((lens a l l.length).getD i default)⟩,⟨.arr,g,5,(Xm a l i).length,λk=>((Xm a l i).getD k default).cells⟩,⟨.one,0,12,1,λ_=>(l.getD i default).cells⟩,⟨.one,0,5,1,λ_=>(K6 a l i 0).cells⟩]⟩)
   (Qo.to 4 (by (simp only[go_sem,K6])<;>simp)) rfl ?_
  rintro j s N rfl;apply Qg c;refine VV (λy=>?_) (λy=>?_)
  .have B:j<l.length:=by simpa using y
   have f:j+1<l.length+1:=ω;have o:=Jr (show j<4611686018427387904 from ω);have C:(lens a l l.length).getD (j+1) default=(Kv a l (j+1):Int):=mT a l _ _ f;by_cases q:i<j;case neg=>
    have e:K6 a l i (j+1)=K6 a l i j:=by simp only[K6];rw[Qc (λx=>q x.1)]
    have d1:decide (i<j)=false:=by simp[q]
    simp only[go_sem,d1];repeat (refine And.intro δ ?_)
    exact⟨_,Qo.to 4 (by (simp only[go_sem,o,e])<;>simp),rfl⟩
   have d1:decide (i<j)=true:=by simp[q]
   cases c2:(K6 a l i j).qU;case false=>
    have e:K6 a l i (j+1)=K6 a l i j:=by simp only[K6];rw[Qc (λx=>by rw[c2]at x;cases x.2.1)]
    simp only[go_sem,d1];repeat (refine And.intro δ ?_)
    exact⟨_,Qo.to 4 (by (simp only[go_sem,o,e,c2])<;>simp),rfl⟩
   by_cases p:Kv a l (j+1)=0;case neg=>
    have e:K6 a l i (j+1)=K6 a l i j:=by simp only[K6];rw[Qc (λx=>p x.2.2)]
    simp only[go_sem,d1,f,C,o,OI p];repeat (refine And.intro δ ?_)
    exact⟨_,Qo.to 4 (by (simp only[go_sem,e,c2])<;>simp),rfl⟩
   have e:K6 a l i (j+1)=⟨(l.getD i default).at_,(l.getD j default).at_,i,j,false⟩:=by simp only[K6];rw[Qd ⟨q,c2,p⟩]
   simp only[go_sem,d1,f,C,o,bz p];apply Qv c o04;simp only[go_sem,B];repeat (refine And.intro δ ?_)
   exact⟨_,Qo.to 4 (by (simp only[go_sem,o,e])<;>simp),rfl⟩
  have B:j=l.length:=by simp at y;omega
  subst B;simp only[go_sem];apply Qg c;repeat (refine And.intro δ ?_)
  refine⟨_,Qo.to 2 ⟨?_,by simp only[go_sem],(by (simp only[go_sem])<;>simp),?_⟩,g+1,rfl⟩;simp only[go_sem,r,m,Zk];simp only[go_sem,m,Zk];intro k L;rw[QfU _ _ _ _ L];cases decide (k<(Xm a l i).length)<;>rfl
 have n:i=l.length:=by simp at h;omega
 simp only[go_sem];apply Qg c;subst n;exact⟨g,rfl,rfl⟩
def Qmy(a)(l:List Ev)(i):∀j,(K6 a l i j).W0=(l.getD i default).at_/\(K6 a l i j).fst=i
 | 0=>⟨rfl,rfl⟩
 | j+1=>by simp only[K6];split;exact⟨rfl,rfl⟩;exact Qmy a l i j
def Qmz(a)(l:List Ev)(i):∀j,j<=i+1->K6 a l i j=⟨(l.getD i default).at_,0,i,0,true⟩
 | 0,_=>rfl
 | j+1,h=>by simp only[K6];rw[Qc ω];exact Qmz a l i j ω
def kj(a:List Int)(l:List Ev):Nat->List Nat
 | 0=>[]
 | i+1=>if 0<Kv a l i\/Kv a l (i+1)=0 then kj a l i else kj a l i++[i]
def QbJ(b)(l:List Ev):∀k,∀a∈kj b l k,a<k
 | 0,a,h=>by simp[kj]at h
 | k+1,a,h=>by
  simp only[kj]at h;split at h;have:=QbJ b l k a h;omega;rcases Q1.1 h with h|h;have:=QbJ b l k a h;omega;simp at h;omega
def QbK(b)(l:List Ev):∀k,Xm b l k=(kj b l k).map λa=>K6 b l a l.length
 | 0=>rfl
 | k+1=>by simp only[Xm,kj];split;exact QbK b l k;rw[QbK b l k];simp
def QmA(c)(l:List Ev):∀k,Vt c l k=(kj c l k).map λa=>K6 c l a k
 | 0=>rfl
 | k+1=>by
  have n:=QmA c l k;have G:=CA c l k;rw[n]at G;have r:=QbJ c l k;have d:(∀a∈kj c l k,(K6 c l a k).qU=true->Kv c l (k+1)≠0)->(kj c l k).map (λa=>K6 c l a (k+1))=(kj c l k).map λa=>K6 c l a k:=λh=>by
   apply Il;intro a e;simp only[K6];rw[Qc (λx=>h a e x.2.1 x.2.2)]
  simp only[Vt,Rv,kj];rw[n];rw[show Gj (Kv c l k) (l.getD k default) c=Kv c l (k+1) from rfl];by_cases p:Kv c l k=0/\0<Kv c l (k+1);rw[Qd p,Qc ω,ju,d (λa _ _=>ω)];simp[Qmz c l k (k+1) ω];rw[Qc p];by_cases g:0<Kv c l k/\Kv c l (k+1)=0;rw[Qd g,Qd ω];obtain⟨v,q⟩:=G.c.1 g.1;have w:=G.b;generalize B:kj c l k=L at *;rcases List.eq_nil_or_concat L with rfl|⟨I,a,rfl⟩;simp at v;simp only[List.concat_eq_append,ju,JT,List.map_nil,Zk,Kj,Kw,RG,be,Jz]at *;have j:(I.map (λa=>K6 c l a k)++[K6 c l a k]).getD I.length default=K6 c l a k:=by
   simp
  rw[j]at q ⊢;have e:a<k:=r a σ;have t:I.map (λa=>K6 c l a (k+1))=I.map λa=>K6 c l a k:=by
   apply Il;intro b s;obtain⟨i,f,rfl⟩:=vH s;have:=(w i ω).1;rw[fD _ _ _ _ (by simpa using f)]at this;simp only[QW,KL,QJ f,KM,KW]at this;simp only[K6];rw[Qc (λx=>by rw[this]at x;cases x.2.1)]
  rw[t,Im _ _ σ];obtain⟨f1,f2⟩:=Qmy c l a k;have y:K6 c l a (k+1)=⟨(l.getD a default).at_,(l.getD k default).at_,a,k,false⟩:=by
   simp only[K6];rw[Qd ⟨e,q,g.2⟩]
  rw[y];simp[f1,f2];rw[Qc g];by_cases u:Kv c l (k+1)=0;rw[Qd ω];rw[d];intro a e o;exfalso;have z:Kv c l k=0:=ω;obtain⟨i,f,rfl⟩:=vH e;have j:((kj c l k).map λa=>K6 c l a k).getD i default=K6 c l (kj c l k)[i] k:=by
   simp[QW,f]
  by_cases m:i+1<(kj c l k).length;have:=(G.b i (by simpa using m)).1;rw[j,o]at this;cases this;have:0<Kv c l k:=G.c.2 ⟨ξ,by
   rw[show ((kj c l k).map λa=>K6 c l a k).length-1=i by simp;omega,j];exact o⟩
  omega;rw[Qd ω,d (λ_ _ _=>u)]
def QFe(l:List Ev)(a):Xm a l l.length=Vt a l l.length:=by rw[QbK,QmA]
end Go.Fg.X.SP
namespace Go.Fg.X
open Go.Proofs Go.Fg
open Go.Proofs.Tryz
def mU(a d b t)(e:Int)(p:t<18446744073709551616)(E:-9223372036854775808<=e/\e<=9223372036854775807):QI prog 35 [Hu a d b,u64 t,Qa e] (QN (u64 (Bc a d b t e.toNat))):=by
 have y:=sP a d b t p;obtain⟨S,s⟩:∃S,S=KJ a d b t:=⟨_,rfl⟩;have o:=Qhq a d b t p;have B:Bc a d b t e.toNat=min (S/65536+e.toNat) 18446744073709551615:=by rw[s];rfl
 rw[<- s]at y o;rw[B];obtain⟨q,z⟩:∃q,q=S/65536:=⟨_,rfl⟩;have m:=Qwu S 65536 ω π π;rw[<- z]at m ⊢;have k:=Ca 1 π;have j:=Qhn 0 1 π π;have f:=L7 (0+2^128-1) π;rw[show (0+2^128-1)%18446744073709551616=18446744073709551615 by decide]at f;refine QY 0 func35 ntmps35 results35 λv w c=>?_;simp only[go_sem];apply QV c Qe7 o;apply Qg c;refine Ks c Qsl ?_ m ?_;simp only[go_sem,sM];apply Qg c;have g:FB q=if q<18446744073709551616 then q else 0:=rfl;have i:DD q=if q<18446744073709551616 then 0 else 20:=rfl;by_cases h:q<18446744073709551616
 .rw[Qd h]at g i;have l:((0:Int) != 0)=false:=rfl;simp only[go_sem,g,i,l];apply QV c BT (Ca q h);apply Qg c;obtain⟨n,r⟩:∃n,n=q+e.toNat:=⟨_,rfl⟩;rw[<- r];by_cases u:0<e
  .have x:IntKind.u64.wrap e=((e.toNat:Nat):Int):=η;simp only[go_sem,QS u];apply Qv c [0,1,2,1003,1004,1005];simp only[go_sem,x];apply ZD c BT (Ca e.toNat ω);apply Zp c;apply ZD c BU (Cb q e.toNat ω ω);apply Zp c;rw[<- r];apply QV c fe (gI n ω);apply Qg c;by_cases C:n<18446744073709551616;have d1:decide ((0:Int)<((n/18446744073709551616:Nat):Int))=false:=ξ;simp only[go_sem,d1];apply QV c EZ (L7 n ω);apply Qg c;rw[show min n 18446744073709551615=n%18446744073709551616 by omega]
   .have d1:decide ((0:Int)<((n/18446744073709551616:Nat):Int))=true:=ξ;simp only[go_sem,d1];refine Ks c BT ?_ k ?_;simp only[go_sem,zD];apply Qg c;refine Ks c fc ?_ j ?_;simp only[go_sem,jQ,TL,TM,TN,TO];apply Qg c;apply QV c EZ f;apply Qg c;rw[show min n 18446744073709551615=18446744073709551615 by omega];all_goals rfl
  .obtain rfl:n=q:=ω;simp only[go_sem,QG u];apply QV c fe (gI n ω);apply Qg c;by_cases C:n<18446744073709551616;have d1:decide ((0:Int)<((n/18446744073709551616:Nat):Int))=false:=ξ;simp only[go_sem,d1];apply QV c EZ (L7 n ω);apply Qg c;rw[show min n 18446744073709551615=n%18446744073709551616 by omega]
   .have d1:decide ((0:Int)<((n/18446744073709551616:Nat):Int))=true:=ξ;simp only[go_sem,d1];refine Ks c BT ?_ k ?_;simp only[go_sem,zD];apply Qg c;refine Ks c fc ?_ j ?_;simp only[go_sem,jQ,TL,TM,TN,TO];apply Qg c;apply QV c EZ f;apply Qg c;rw[show min n 18446744073709551615=18446744073709551615 by omega];all_goals rfl
 .rw[Qc h]at g i;have l:((20:Int) != 0)=true:=rfl;simp only[go_sem,g,i,l];refine Ks c BT ?_ k ?_;simp only[go_sem,zD];apply Qg c;refine Ks c fc ?_ j ?_;simp only[go_sem,jQ,TL,TM,TN,TO];apply Qg c;apply QV c EZ f;apply Qg c;rw[show min (q+e.toNat) 18446744073709551615=18446744073709551615 by omega];all_goals rfl
def QFf(d:D)(a:List Ob):D->List Ob->Prop:=λb h=>b=d/\h=a
attribute [go_sem] QFf
@[go_sem] def ob1(n:Nat):Ob:=⟨.one,0,1,1,λ_=>[u64 n]⟩
@[go_sem] def ob2(n:Nat):Ob:=⟨.one,0,2,1,λ_=>[u64 (n/18446744073709551616),u64 (n%18446744073709551616)]⟩
structure Cm where
 t:Nat
 b:Nat
instance:Inhabited Cm:=⟨⟨0,0⟩⟩
structure Bu where
 last:Nat
 sum:Nat
 fill:Nat
 QbL:Nat
def mV(b:Nat):Nat:=min b 1099511627777
def Bu.next(m:Nat)(s:Bu)(c:Cm):Bu:=⟨c.t,mV (s.sum+mV c.b),(s.fill-m*(c.t-s.last))+mV c.b*65536,max s.QbL ((s.fill-m*(c.t-s.last))+mV c.b*65536)⟩
def Ev.QKd(e:Ev)(a:Int):Bool:=e.J9&&(e.cls==a)
def Cm.Ok(c:Cm):Prop:=c.t<18446744073709551616/\c.b<9223372036854775808
def QFg:(default:Ev).CK:=by
 refine⟨?_,?_⟩<;>rfl
def QbM{l:List Ev}(h:∀e∈l,e.CK)(k):(l.getD k default).CK:=by
 by_cases a:k<l.length;rw[QW,QJ a];exact h _ (Xn a);rw[QW,Ek ω];exact QFg
structure QKe (n:Nat) (s:Bu):Prop where
 last:s.last<18446744073709551616
 sum:s.sum<=1099511627777
 fill:s.fill<=n*72057594037993472
 QbL:s.QbL<=n*72057594037993472
end Go.Fg.X
namespace Go.Fg.X
open Go.Proofs Go.Fg Go.Fg.X.SP
open Go.Proofs.Tryz
def QmB(l:List Int)(a)(j:l.length<2147483648):QI prog 33 [ints l,Qa a] (QN (QU (l.contains a))):=by
 refine QY 0 func33 ntmps33 results33 λi w f=>?_;simp only[go_sem];refine G2 (λm s=>∃k:Nat,k+m=l.length/\(l.take k).contains a=false/\s=⟨[(1,Qa a),(7,ints l),(8,Qa l.length),(9,Qa k)],[]⟩) l.length (s0:=⟨[(1,Qa a),(7,ints l),(8,Qa l.length),(9,Qa 0)],[]⟩) QO ⟨0,σ,σ,rfl⟩ ?_;rintro m s ⟨k,n,c,rfl⟩;apply Qg f;refine VV (λh=>?_) (λh=>?_);have d:k<l.length:=by simpa using h
 have g:=getD_take l 0 k d;simp only[go_sem,d];refine VV (λb=>?_) (λb=>?_);simp only[go_sem];have:l.contains a=true:=by
  rw[<- Bh (k+1) l,g];simp at b ⊢;simp[b]
 rw[this];simp only[go_sem];refine⟨m-1,_,ω,Qo.frame (by simp only[go_sem,Jr (show k<4611686018427387904 from ω)]),k+1,ω,?_,rfl⟩;rw[g];simp at c b ⊢;exact⟨c,λe=>b e.symm⟩;have d:k=l.length:=by simp at h;omega
 simp only[go_sem];apply Qg f;subst d;simp at c;simp[c]
def QFh(a)(l:List Ev)(b:∀e∈l,e.CK)(j)(c:j<(Vt a l l.length).length):0<=((Vt a l l.length).getD j default).W0/\((Vt a l l.length).getD j default).W0<=18446744073709551615:=by
 obtain⟨f,_,_,h,_⟩:=(CA a l l.length).a j c;rw[h];exact wf_u64 (QbM b f).1
def wO(b:List Int)(l:List Ev)(c a:Int):Nat->Nat
 | 0=>0
 | k+1=>if c<=(k:Int)/\(k:Int)<=a/\X8 b (l.getD k default)=true/\0<(l.getD k default).len then (wO b l c a k+(l.getD k default).bN)%18446744073709551616 else wO b l c a k
def QmC(a:List Int)(l:List Ev)(F:Int)(i:Nat):∀k,k<=i+1->wO a l (F+1) i k=pk a l F k
 | 0,_=>rfl
 | k+1,h=>by
  have d:=QmC a l F i k ω;have Qb:=QbF a l F k;simp only[wO,pk,d];by_cases b:F<(k:Int)/\X8 a (l.getD k default)=true;rw[Qd b];by_cases c:0<(l.getD k default).len;rw[Qd ⟨ω,ω,b.2,c⟩];rw[Qc (λh=>c h.2.2.2)];have:(l.getD k default).bN=0:=by show (l.getD k default).len.toNat=0;omega
  rw[this];omega;rw[Qc b,Qc (λh=>b ⟨ω,h.2.2.1⟩)]
def QmD(a:List Int)(l:List Ev)(F:Int)(i:Nat):∀d,wO a l (F+1) i (i+1+d)=pk a l F (i+1)
 | 0=>QmC a l F i (i+1) (QB _)
 | d+1=>by
  have b:=QmD a l F i d;show wO a l (F+1) i ((i+1+d)+1)=_;simp only[wO,b];rw[Qc ω]
def QFi(a)(l:List Ev)(F)(i)(b:i<l.length):wO a l (F+1) i l.length=pk a l F (i+1):=by
 have:=QmD a l F i (l.length-(i+1));rwa [show i+1+(l.length-(i+1))=l.length by omega]at this
def QFj(l:List Ev)(a:List Int)(d c)(z:l.length<2147483648)(x:a.length<2147483648)(y:∀e∈l,e.CK):
  QI prog 34 [YI l,ints a,Qa d,Qa c] (QN (u64 (wO a l d c l.length))):=by
 refine QY 0 func34 ntmps34 results34 λt w p=>?_;simp only[go_sem];refine kO (G:=Nat) [1,2,3,12,13] (λk=>True) (λk f=>[(9,u64 (wO a l d c k)),(14,Qa k)]) (λk f=>[]) (l.length) (0) rfl (Qo.to 0 (by (simp only[go_sem,wO,jQ])<;>simp)) trivial ?_;intro k f r _;apply Qg p;have m:=Jr (show k<4611686018427387904 from ω);first|refine We r (λg=>?_) (λg=>?_)|refine Wf r (λg=>?_) (λg=>?_)
 .obtain⟨e,i⟩:∃e,e=l.getD k default:=⟨_,rfl⟩;have ZS:e.CK:=by rw[i];exact QbM y k
  have t2:=wf_i64 ZS.2;have b:wO a l d c (k+1)=if d<=(k:Int)/\(k:Int)<=c/\X8 a e=true/\0<e.len then (wO a l d c k+e.bN)%18446744073709551616 else wO a l d c k:=by rw[i];rfl
  by_cases j:d<=(k:Int);case neg=>
   rw[Qc (λh=>j h.1)]at b;simp only[go_sem,g,<- i,QG j];repeat (refine And.intro δ ?_)
   refine⟨_,Qo.to 0 (by (simp only[go_sem,m,b])<;>simp),JW.mk (f) (trivial)⟩
  by_cases c2:(k:Int)<=c;case neg=>
   rw[Qc (λh=>c2 h.2.1)]at b;simp only[go_sem,g,<- i,QS j,QG c2];repeat (refine And.intro δ ?_)
   refine⟨_,Qo.to 0 (by (simp only[go_sem,m,b])<;>simp),JW.mk (f) (trivial)⟩
  cases o:e.J9;case true=>
   have n:X8 a e=false:=by simp[X8,o]
   rw[Qc (λh=>by rw[n]at h;cases h.2.2.1)]at b;simp only[go_sem,g,<- i,QS j,QS c2,o];repeat (refine And.intro δ ?_)
   refine⟨_,Qo.to 0 (by (simp only[go_sem,m,b])<;>simp),JW.mk (f) (trivial)⟩
  simp only[go_sem,g,<- i,QS j,QS c2,o];apply QV p Qe5 (QmB a e.cls x);apply Qg p;cases s:a.contains e.cls;have n:X8 a e=false:=by simp only[X8,o,s];rfl
  rw[Qc (λh=>by rw[n]at h;cases h.2.2.1)]at b;simp only[go_sem];repeat (refine And.intro δ ?_)
  refine⟨_,Qo.to 0 (by (simp only[go_sem,m,b])<;>simp),JW.mk (f) (trivial)⟩;have n:X8 a e=true:=by simp only[X8,o,s];rfl
  by_cases q:0<e.len;rw[Qd ⟨j,c2,n,q⟩]at b;have u:IntKind.u64.wrap e.len=((e.bN:Nat):Int):=by rw[IntKind.wrap_u64];show _=((e.len.toNat:Nat):Int);omega
  have v:=AF (wO a l d c k) e.bN;simp only[go_sem,QS q,u,v];repeat (refine And.intro δ ?_)
  refine⟨_,Qo.to 0 (by (simp only[go_sem,m,b])<;>simp),JW.mk (f) (trivial)⟩;rw[Qc (λh=>q h.2.2.2)]at b;simp only[go_sem,QG q];repeat (refine And.intro δ ?_)
  refine⟨_,Qo.to 0 (by (simp only[go_sem,m,b])<;>simp),JW.mk (f) (trivial)⟩
 simp only[go_sem];subst g;exact VE p
def QFk(a d b)(m)(l:List Ev)(c:List Int)(hl:l.length<2147483648)(hv:c.length<2147483648)(ho:∀e∈l,e.CK)(X0:-9223372036854775808<=m/\m<=9223372036854775807):
  QI prog 16 [Hu a d b,Qa m,YI l,ints c] (λr h=>h=[]/\BkR (vC a d b m c l) (Vt c l l.length) l.length (λi is=>.agg [Qa i,QU is]) r):=by
 have Z:=QFh c l ho;have a0:=Qme c l l.length;have Y:=(CA c l l.length).a;have Pz:=SP.Ca l c hl hv;rw[QFe]at Pz;refine QY 0 func16 ntmps16 results16 λa1 w g=>?_;simp only[go_sem];refine cA2 g Qsb Pz (Oj.flat λx=>rfl) λd h hR=>?_;obtain⟨g0,rfl,rfl⟩:=hR;obtain⟨L,hL⟩:∃L,L=Vt c l l.length:=⟨_,rfl⟩;rw[<- hL]at Z a0 Y ⊢;apply Qg g;refine kO (G:=Nat) [1,2,3,4,8,16,17] (λk=>∀B,B<k->∀o,o<l.length->vC a d b m c l (L.getD B default) o=false) (λk R=>[(18,Qa k)]) (λk R=>[⟨.one,0,3,1,λ_=>[u64 a,u64 d,u64 b]⟩,⟨.one,0,2,1,λ_=>[.raw (.int .i64 0),.raw (.bool false)]⟩,⟨.arr,g0,5,L.length,λi=>(L.getD i default).cells⟩]) (L.length) (0) rfl (Qo.to 3 (by (simp only[go_sem])<;>simp)) ?_ ?_;intro B Wc;omega;intro j R hj N;apply Qg g;have QQ:=Jr (show j<4611686018427387904 from ω);first|refine We hj (λy=>?_) (λy=>?_)|refine Wf hj (λy=>?_) (λy=>?_)
 .have Q:=y;obtain⟨s,v⟩:∃s,s=L.getD j default:=⟨_,rfl⟩;have hf:=Z j Q;rw[<- v]at hf;obtain⟨F,hF,oZ⟩:∃F:Nat,s.fst=(F:Int)/\F<l.length:=by
   obtain⟨f,U,h2,_⟩:=Y j Q;exact⟨f,by rw[v];exact U,h2⟩
  have next:(∀o,o<l.length->vC a d b m c l s o=false)->∀B,B<j+1->∀o,o<l.length->vC a d b m c l (L.getD B default) o=false:=λh B Wc o V=>by
   rcases vK.1 Wc with U|rfl;exact N B U o V;rw[<- v];exact h o V
  simp only[go_sem,y,<- v];refine kO (G:=Nat) [1,2,3,4,8,16,17,18,10,22,23] (λk=>∀o,o<k->vC a d b m c l s o=false) (λk R=>[(24,Qa k)]) (λk R=>[⟨.one,0,3,1,λ_=>[u64 a,u64 d,u64 b]⟩,⟨.one,0,2,1,λ_=>[.raw (.int .i64 0),.raw (.bool false)]⟩,⟨.arr,g0,5,L.length,λi=>(L.getD i default).cells⟩,⟨.one,0,5,1,λ_=>s.cells⟩]) (l.length) (0) rfl (Qo.to 4 (by (simp only[go_sem])<;>simp)) ?_ ?_;intro o V;omega;intro i t hi P;apply Qg g;have z:=Jr (show i<4611686018427387904 from ω);first|refine We hi (λy=>?_) (λy=>?_)|refine Wf hi (λy=>?_) (λy=>?_)
  .have O:=y;obtain⟨e,he⟩:∃e,e=l.getD i default:=⟨_,rfl⟩;have ZS:e.CK:=by rw[he];exact QbM ho i
   have t1:=wf_u64 ZS.1;have M:vC a d b m c l s i=(decide (s.fst<(i:Int))&&(X8 c e&&((s.qU || decide ((i:Int)<=s.CJ))&&decide (Bc a d b (wN s e) m.toNat<pk c l s.fst (i+1))))):=by rw[he];rfl
   have C:vC a d b m c l s i=false->∀o,o<i+1->vC a d b m c l s o=false:=λh o V=>by
    rcases vK.1 V with U|rfl;exact P o U;exact h
   simp only[go_sem,O,<- he];by_cases c1:(i:Int)<=s.fst;have J:¬ s.fst<(i:Int):=ω;have n:vC a d b m c l s i=false:=by rw[M,QG J];rfl
   simp only[go_sem,QS c1];repeat (refine And.intro δ ?_)
   refine⟨_,Qo.to 4 (by (simp only[go_sem,z])<;>simp),JW.mk (t) (C n)⟩;have J:s.fst<(i:Int):=ω;cases VC:e.J9;case true=>
    have T:X8 c e=false:=by simp[X8,VC]
    have n:vC a d b m c l s i=false:=by rw[M,T];simp
    simp only[go_sem,QG c1];repeat (refine And.intro δ ?_)
    refine⟨_,Qo.to 4 (by (simp only[go_sem,z])<;>simp),JW.mk (t) (C n)⟩
   simp only[go_sem,QG c1];apply QV g Qe5 (QmB c e.cls hv);apply Qg g;cases hc:c.contains e.cls;have T:X8 c e=false:=by simp only[X8,VC,hc];rfl
   have n:vC a d b m c l s i=false:=by rw[M,T];simp
   simp only[go_sem];repeat (refine And.intro δ ?_)
   refine⟨_,Qo.to 4 (by (simp only[go_sem,z])<;>simp),JW.mk (t) (C n)⟩;have T:X8 c e=true:=by simp only[X8,VC,hc];rfl
   by_cases c2:s.qU=false/\s.CJ<(i:Int);have n:vC a d b m c l s i=false:=by
    rw[M,c2.1,QG (show ¬ (i:Int)<=s.CJ by have:=c2.2;omega)];simp
   simp only[go_sem,c2.1,QS c2.2];repeat (refine And.intro δ ?_)
   refine⟨_,Qo.to 4 (by (simp only[go_sem,z])<;>simp),JW.mk (t) (C n)⟩;have e9:(s.qU || decide ((i:Int)<=s.CJ))=true:=by
    cases ZG:s.qU;simp only[ZG,vM]at c2;simp;omega;rfl
   have K:wN s e<18446744073709551616:=by unfold wN;omega
   obtain⟨p,hp⟩:∃p,p=pk c l s.fst (i+1):=⟨_,rfl⟩;rw[<- hp]at M;have n:vC a d b m c l s i=decide (Bc a d b (wN s e) m.toNat<p):=by
    rw[M,QS J,T,e9];rfl
   have S:=QFj l c (s.fst+1) (i:Int) hl hv ho;rw[QFi c l s.fst i O,<- hp]at S;have w4:IntKind.i64.wrap (s.fst+1)=s.fst+1:=wrap64 ω ω;have u:s.qU=true\/s.qU=false/\decide (s.CJ<(i:Int))=false:=by
    cases h8:s.qU;exact .inr ⟨rfl,QG (λh=>c2 ⟨h8,h⟩)⟩;exact .inl rfl
   have E:(s.W0<e.at_/\IntKind.u64.wrap (e.at_-s.W0)=((wN s e:Nat):Int))\/(¬ s.W0<e.at_/\wN s e=0):=by
    by_cases h:s.W0<e.at_;refine .inl ⟨h,?_⟩;rw[IntKind.wrap_u64];unfold wN;omega;exact .inr ⟨h,by unfold wN;omega⟩
   rcases u with u|⟨u,W⟩;rcases E with ⟨I,H⟩|⟨I,H⟩;simp only[go_sem,u,QS I,H];apply Qv g o07;simp only[go_sem,w4];apply ZD g eY S;apply Zp g;apply ZD g eZ (mU a d b (wN s e) m K X0);apply Zp g;by_cases q:Bc a d b (wN s e) m.toNat<p;rw[QS q]at n;simp only[go_sem,QS q];exact .inl ⟨j,i,Q,O,by rw[<- v];exact n,N,by rw[<- v];exact P,rfl⟩;rw[QG q]at n;simp only[go_sem,QG q];repeat (refine And.intro δ ?_)
   refine⟨_,Qo.to 4 (by (simp only[go_sem,z])<;>simp),JW.mk (t) (C n)⟩;simp only[go_sem,u,QG I];apply Qv g o07;simp only[go_sem,w4];apply ZD g eY S;apply Zp g;rw[H]at K n;refine Y7 g eZ ?_ (mU a d b 0 m K X0) ?_;simp only[go_sem,jQ];apply Zp g;by_cases q:Bc a d b 0 m.toNat<p;rw[QS q]at n;simp only[go_sem,QS q];exact .inl ⟨j,i,Q,O,by rw[<- v];exact n,N,by rw[<- v];exact P,rfl⟩;rw[QG q]at n;simp only[go_sem,QG q];repeat (refine And.intro δ ?_)
   refine⟨_,Qo.to 4 (by (simp only[go_sem,z])<;>simp),JW.mk (t) (C n)⟩;rcases E with ⟨I,H⟩|⟨I,H⟩;simp only[go_sem,u,W,QS I,H];apply Qv g o07;simp only[go_sem,w4];apply ZD g eY S;apply Zp g;apply ZD g eZ (mU a d b (wN s e) m K X0);apply Zp g;by_cases q:Bc a d b (wN s e) m.toNat<p;rw[QS q]at n;simp only[go_sem,QS q];exact .inl ⟨j,i,Q,O,by rw[<- v];exact n,N,by rw[<- v];exact P,rfl⟩;rw[QG q]at n;simp only[go_sem,QG q];repeat (refine And.intro δ ?_)
   refine⟨_,Qo.to 4 (by (simp only[go_sem,z])<;>simp),JW.mk (t) (C n)⟩;simp only[go_sem,u,W,QG I];apply Qv g o07;simp only[go_sem,w4];apply ZD g eY S;apply Zp g;rw[H]at K n;refine Y7 g eZ ?_ (mU a d b 0 m K X0) ?_;simp only[go_sem,jQ];apply Zp g;by_cases q:Bc a d b 0 m.toNat<p;rw[QS q]at n;simp only[go_sem,QS q];exact .inl ⟨j,i,Q,O,by rw[<- v];exact n,N,by rw[<- v];exact P,rfl⟩;rw[QG q]at n;simp only[go_sem,QG q];repeat (refine And.intro δ ?_)
   refine⟨_,Qo.to 4 (by (simp only[go_sem,z])<;>simp),JW.mk (t) (C n)⟩
  .simp only[go_sem];subst y;apply Qg g;repeat (refine And.intro δ ?_)
   refine⟨_,Qo.to 3 (by (simp only[go_sem,QQ])<;>simp),JW.mk (R) (next P)⟩
 simp only[go_sem];subst y;apply Qg g;exact .inr ⟨λj hj i hi=>N j hj i hi,rfl⟩
def Gl(T:List Ql)(a:List Int):Bool:=a.all λid=>match Qw T id with|some c=>!decide (1<QH c.rt)|none=>false
def QmG{T}{u j}(a:u≠0):j∈xY T u↔j∈Rx T/\u∈ZF T 16 j:=by
 unfold xY zG;rw[Jt];unfold QbH;have b:(u==0)=false:=by simpa using a
 rw[b];simp
def QFl{T}(I:JQ T)(s:jg T){u}{k:Ql}(n:Qw T u=some k)(f:1<QH k.ul)(p:Gl T (xY T u)=true):QbD T u (Jk k.ul) (xY T u):=by
 obtain⟨i,v⟩:=(VF I.rising).1 n;have g:u≠0:=by
  have:=I.ids k i;omega
 refine⟨QEI (I.right k i) (s k i).nn.2.2 f,λj c b o=>?_,λj b c f=>?_,?_⟩;obtain⟨l,m⟩:=(VF I.rising).1 b;rw[QmG g];have:j∈Rx T:=by
  unfold Rx;exact Ji.2 ⟨c,Jt.2 ⟨l,o⟩,m⟩
 exact⟨λh=>h.2,λh=>⟨this,h⟩⟩;have a:=qV.1 p j b;rw[f]at a;have a:¬1<QH c.rt:=by simpa using a
 obtain⟨l,m⟩:=(VF I.rising).1 f;refine⟨a,?_⟩;rw[QmG g]at b;obtain⟨d,q,e⟩:=Ji.1 b.1;obtain⟨r,t⟩:=Jt.1 q;have:Qw T j=some d:=(VF I.rising).2 ⟨r,e⟩;rw[f]at this;cases this;exact QEJ (I.right c l) t a;unfold xY Rx zG;refine aO List.filter_sublist ?_;have a:(T.map (·.iD)).Nodup:=by
  unfold List.Nodup;rw[RI];exact I.rising.imp λh e=>ω
 exact aO (List.Sublist.map _ List.filter_sublist) a
def QFm{c}(K:WZ c)(a:List ZO)(e:a.length<=1000)(f:∀o∈a,ZO.Ok o)(b:∀o∈a.tail,o.kind≠1)(I:JQ (Zx (S0 c) a).1.M.T)(m:jg (Zx (S0 c) a).1.M.T){u}{k}
  (d:Qw (Zx (S0 c) a).1.M.T u=some k) (l:1<QH k.ul) (h:Gl (Zx (S0 c) a).1.M.T (xY (Zx (S0 c) a).1.M.T u)=true) :
  (∀j,j<(Vt (xY (Zx (S0 c) a).1.M.T u) (Zx (S0 c) a).2.2 (Zx (S0 c) a).2.2.length).length->∀i,i<(Zx (S0 c) a).2.2.length->vC (Jk k.ul).a (Jk k.ul).d (Jk k.ul).b c.Jb (xY (Zx (S0 c) a).1.M.T u) (Zx (S0 c) a).2.2 ((Vt (xY (Zx (S0 c) a).1.M.T u) (Zx (S0 c) a).2.2 (Zx (S0 c) a).2.2.length).getD j default) i=false) /\
  (∀s∈Vt (xY (Zx (S0 c) a).1.M.T u) (Zx (S0 c) a).2.2 (Zx (S0 c) a).2.2.length,∀i,i<(Zx (S0 c) a).2.2.length->s.fst<(i:Int)->0<=s.W0/\s.W0<=((Zx (S0 c) a).2.2.getD i default).at_ /\
   pk (xY (Zx (S0 c) a).1.M.T u) (Zx (S0 c) a).2.2 s.fst (i+1)<=Bc (Jk k.ul).a (Jk k.ul).d (Jk k.ul).b (((Zx (S0 c) a).2.2.getD i default).at_-s.W0).toNat c.Jb.toNat):=by
 have n:=QFl I m d l h;have H:=QEM K a e f b d n;have E:=QEL K a e f (xY (Zx (S0 c) a).1.M.T u);exact⟨QEH E H,λs b i g=>Qmo E H b g⟩
end Go.Fg.X
