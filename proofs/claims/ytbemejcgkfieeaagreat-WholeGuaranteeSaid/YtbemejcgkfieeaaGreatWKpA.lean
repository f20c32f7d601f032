/- Contracts and laws on the way to the statement. No conditions. -/
import Derived.Test.YtbemejcgkfieeaaGreatTMjA
import Derived.Test.YtbemejcgkfieeaaGreatCA2A
import Derived.Test.YtbemejcgkfieeaaGreatPK1A
import Derived.Test.YtbemejcgkfieeaaGreatTR3A
import Derived.Test.YtbemejcgkfieeaaGreatSGaA
set_option maxRecDepth 100000
set_option maxHeartbeats 16000000
set_option linter.unusedVariables false
set_option linter.unusedSimpArgs false
set_option linter.unusedSectionVars false
set_option linter.defProp false
namespace Go.Fg.X
open Go.Proofs Go.Fg
open Go.Proofs.Tryz
structure QFp (T:List Ql) (u:Int) (c:Nc) (lv:List Int):Prop where
 ul:UlC c
 qc:∀j k,Qw T j=some k->k.leaf=true->(j∈lv↔u∈up T j)
 free:∀j∈lv,∀k,Qw T j=some k->¬1<QJ k.rt/\1<QJ k.ls
 nd:lv.Nodup
section
variable {T:List Ql}{u:Int}{c:Nc}{lm:Nat}{lv:List Int}(CT:QFp T u c lv)
include CT
end
end Go.Fg.X
namespace Go.Fg.X.SP
open Go.Proofs Go.Fg
open Go.Proofs.Tryz
def GN(n:Nat)(e:Ev)(a:List Int):Nat:=if a.contains e.cls then (if e.Jz then n+1 else n-1) else n
def KI(a:List Int)(l:List Ev):Nat->Nat
 | 0=>0
 | k+1=>GN (KI a l k) (l.getD k default) a
def Qm3(a)(l:List Ev):∀k,KI a l k<=k
 | 0=>Qv _
 | k+1=>by have:=Qm3 a l k;simp only[KI,GN];split<;>(try split)<;>omega
structure Sp where
 Zv:Int
 to:Int
 fst:Int
 bD:Int
 BE:Bool
instance:Inhabited Sp:=⟨⟨0,0,0,0,false⟩⟩
@[go_sem] def Sp.cells(s:Sp):List D:=[.raw (.int .u64 s.Zv),.raw (.int .u64 s.to),.raw (.int .i64 s.fst),.raw (.int .i64 s.bD),.raw (.bool s.BE)]
def R5(b:List Int)(i:Nat)(e:Ev)(n:Nat)(a:List Sp):List Sp:=
 if n=0/\0<GN n e b then a++[⟨e.at_,0,i,0,true⟩]
 else if 0<n/\GN n e b=0 then a.set (a.length-1) { a.getD (a.length-1) default with to:=e.at_,bD:=i,BE:=false }
 else a
def Wg(a:List Int)(l:List Ev):Nat->List Sp
 | 0=>[]
 | k+1=>R5 a k (l.getD k default) (KI a l k) (Wg a l k)
def Qm4(a)(l:List Ev):∀k,(Wg a l k).length<=k
 | 0=>Qv _
 | k+1=>by have:=Qm4 a l k;simp only[Wg,R5];split<;>(try split)<;>simp<;>omega
end Go.Fg.X.SP
namespace Go.Fg.X
open Go.Proofs Go.Fg Go.Fg.X.SP
open Go.Proofs.Tryz
def Ev.bN(e:Ev):Nat:=e.len.toNat
def QFq(a:List Int)(e:Ev):Bool:=!e.Jz&&a.contains e.cls
def pk(a:List Int)(l:List Ev)(F:Int):Nat->Nat
 | 0=>0
 | k+1=>if F<(k:Int)/\QFq a (l.getD k default)=true then (pk a l F k+(l.getD k default).bN)%18446744073709551616 else pk a l F k
def Qm5(a d b){t c}(h:t<=c):Jg a d b t<=Jg a d b c:=by unfold Jg;split;exact Qv _;by_cases f:c<=d;rw[wC f,wC ω,YO,YO];exact Nat.add_le_add_right (Dm a h) _;rw[kb (show d<=c from ω)];by_cases e:t<=d;rw[wC e,YO,EZ];exact J5 (Dm a e) (Lk _ _);rw[kb ω];exact Nat.add_le_add_left (Dm b ω) _
def QFr{a:Type}[Inhabited a]{l:List a}{k}(h:k<l.length):l.getD k default∈l:=by rw[QU,QH h];exact XK h
structure EvL (lv:List Int) (l:List Ev):Prop where
 at0:∀e∈l,0<=e.at_
 inc:∀i j,i<=j->j<l.length->(l.getD i default).at_<=(l.getD j default).at_
 len:∀e∈l,e.Jz=false->0<=e.len/\e.len<=16384
 Aq:l.length<100000000
def N3(a:List Int)(l:List Ev)(k:Nat):Gh:=(l.take k).foldl (Gh.next a) ⟨0,[],0⟩
def Qm6(a)(l:List Ev){k:Nat}(h:k<l.length):N3 a l (k+1)=(N3 a l k).next a (l.getD k default):=by unfold N3;rw[getD_take l default k h,qu];rfl
def Qm7(a)(l:List Ev):∀k,k<=l.length->(N3 a l k).n=KI a l k
 | 0,_=>rfl
 | k+1,h=>by have b:=Qm7 a l k ω;rw[Qm6 a l ω];simp only[KI,GN];rw[<-b];unfold Gh.next;split;split<;>rfl;rfl
section
variable {c:Nc}{lm:Nat}{lv:List Int}{l:List Ev}(E:EvL lv l)(H:QmQ c lm lv ⟨0,[],0⟩ l)
include E H
end
def Qm8{S:Zy}{o:Zt}(f:o.kind≠1):(J3 S o).S.M.T=S.M.T:=by
 have c:∀(S:Zy) (a b:Nat),(Z2 S a b).1.M.T=S.M.T:=λS a b=>by unfold Z2;split;rfl;split;exact RK _ _;exact RK _ _
 have g:∀(a e n:Nat) (S:Zy),(K7 a e n S).1.M.T=S.M.T:=λa e n=>by
  induction n with
  | zero=>intro S;rfl
  | succ n d=>intro S;unfold K7;split;rfl;exact(d _).trans (c _ _ _)
 unfold J3 K8;rw[Qd f];split;split<;>rfl;split;unfold Yv;split;rfl;split;exact(c _ _ _).trans (nB _ _ _ _);exact nB _ _ _ _;split;unfold qi;split;rfl;exact g _ _ _ _;rfl
def Qcd:∀(l:List Zt) (S:Zy),(∀o∈l,o.kind≠1)->(Za S l).1.M.T=S.M.T
 | [],S,_=>rfl
 | o::l,S,h=>(Qcd l _ λb a=>h b (Js _ a)).trans (Qm8 (h o Jo))
def QFt{c}(b)(l:List Jj):∀id n,Qi (Kp (M0 c) b l).N id=some n->n.JD=0/\n.cp=default/\n.du=default:=by
 unfold Kp;split;have p:∀(L:List Int) (f:List Ql) (M:Qn),(∀id n,Qi M.N id=some n->n.JD=0/\n.cp=default/\n.du=default)->∀id n,Qi (L.foldl (J2 f) M).N id=some n->n.JD=0/\n.cp=default/\n.du=default:=by
  intro L f;induction L with
  | nil=>intro M h;exact h
  | cons i L g=>
   intro M h;refine g _ λid n a=>?_;unfold J2 at a;split at a;rw[CX]at a;split at a;cases a;exact h id n a;have e:∀(k:Ql) (N:List Nd),Qi (Yd k::jQ N i) id=some n->(∀n,Qi N id=some n->n.JD=0/\n.cp=default/\n.du=default)->n.JD=0/\n.cp=default/\n.du=default:=λk N a h=>by unfold Qi at a;rw[vm]at a;split at a;cases a;exact⟨rfl,rfl,rfl⟩;have d:Qi (jQ N i) id=some n:=a;rw[CX]at d;split at d;cases d;exact h n d
   split at a;exact e _ _ a (h id);exact e _ _ a (h id)
 have o:=p (J1 (M0 c).T (Z5 (M0 c).T l)) (Z5 (M0 c).T l) { M0 c with T:=Z5 (M0 c).T l } (λid n a=>by simp[M0,Qi]at a);intro id n a;have j:n∈XV (M0 c) (Z5 (M0 c).T l):=xG a;obtain⟨k,_,rfl⟩:=Jw.1 j;unfold Qz VV;cases m:Qi ((J1 (M0 c).T (Z5 (M0 c).T l)).foldl (J2 (Z5 (M0 c).T l)) { M0 c with T:=Z5 (M0 c).T l }).N k.iD with
 | none=>exact⟨rfl,rfl,rfl⟩
 | some n=>exact o k.iD n m
 intro id n a;simp[M0,Qi]at a
def Qm9{c}(K:Wm c)(b:List Zt)(y:b.length<=1000)(v:∀o∈b,Zt.Ok o)(w):EvL w (Za (S0 c) b).2.2:=by
 have A:=bC (x:=c) b (ZQ.IU K) (W:=λ_=>[]) (a:=NY) (d:=0) ⟨λj=>rfl,rfl,qW _,qW _,rfl⟩ v;have n:=λ{i:Nat} (g:i<(Za (S0 c) b).2.2.length) {k:Nat} (z:k<8)=>QmW A.ok g z;have f:=Qb4 (x:=⟨c,b⟩) K y (Qv _) v;have f:(Za (S0 c) b).2.2.length<100000000:=f;obtain⟨l,s⟩:=Zc ((Za (S0 c) b).2.2);rw[<-s]at n f ⊢;have r:∀i,i<l.length->(R4 l i).at_<=(l.getD i default).at_:=λi g=>by have h:decide ((l.getD i default).at_<(R4 l i).at_\/4611686018427387904<(l.getD i default).at_)=false:=n g (k:=1) π;rw[G2]at h;omega
 have B:∀i,i<l.length->0<=(l.getD i default).at_:=λi=>by
  induction i with
  | zero=>intro g;exact r 0 g
  | succ i m=>intro g;have u:=m ω;have q:(l.getD i default).at_<=(l.getD (i+1) default).at_:=r (i+1) g;omega
 refine⟨λe p=>?_,λi j=>?_,λe p _=>?_,f⟩;obtain⟨i,g,rfl⟩:=Lh.1 p;have:=B i g;rw[QU,QH g]at this;exact this;induction j with
 | zero=>intro u q;rw[show i=0 by omega];exact qW _
 | succ j m=>intro u q;by_cases e:i=j+1;rw[e];exact qW _;have E:=m ω ω;have C:(l.getD j default).at_<=(l.getD (j+1) default).at_:=r (j+1) q;omega
 obtain⟨i,g,rfl⟩:=Lh.1 p;have h:(wv (l.getD i default).pk c.Ze != 0)=false:=n g (k:=2) π;rw[QU,QH g]at h;have h:(wv (l[i]).pk c.Ze != 0)=false:=h;have F:=K.l2;unfold wv at h;split at h;cases h;split at h;cases h;rename_i t;have t:¬¬(1<=(l[i]).len/\(l[i]).len<=c.Ze):=t;omega
end Go.Fg.X
namespace Go.Fg.X
open Go.Proofs Go.Fg
open Go.Proofs.Tryz
def QFu{c:Cf}{o:Zt}(a:o.kind=1)(b:Yc [] c.t o.changes=0):(J3 (S0 c) o).S.M.T=Z5 [] o.changes:=by
 have d:qf (M0 c) true o.changes=0:=by unfold qf;rw[Qd (show ¬ Yc (M0 c).T (M0 c).lk.t o.changes≠0 from λh=>h b)];rw[Qd];intro h;unfold jm at h;rw[BJ]at h;rcases h with h|h;obtain⟨x,_,h⟩:=j6.1 h;cases h;rw[ZM]at h;have f:(false || decide (0<0))=true:=h.2;exact absurd f π
 have e:(J3 (S0 c) o).S.M=Kp (M0 c) true o.changes:=by show (K8 { S0 c with ops:=1 } 0 o).S.M=_;unfold K8;simp only[Qe a];rfl
 rw[e];unfold Kp;rw[Qe d];exact(EB (T2:=Z5 [] o.changes) (J1 (M0 c).T (Z5 [] o.changes)) { M0 c with T:=Z5 [] o.changes }).1
def QFv{c:Cf}{ops:List Zt}(f:0<ops.length)(d:(ops.getD 0 default).kind=1)(e:Yc [] c.t (ops.getD 0 default).changes=0)(b:∀o∈ops.tail,o.kind≠1):
  (Za (S0 c) ops).1.M.T=Z5 [] (ops.getD 0 default).changes/\(Za (S0 c) (ops.take 1)).1.M.T=Z5 [] (ops.getD 0 default).changes:=by
 cases ops with
 | nil=>cases f
 | cons o l=>have a:=QFu (c:=c) (o:=o) d e;exact⟨(Qcd l _ b).trans a,a⟩
def qT(t:Nat)(o:Zt):Nat:=if o.kind=4/\o.Vw.toNat<=4611686018427387904-t then t+o.Vw.toNat else t
def QFw(S:Zy)(o:Zt):(J3 S o).S.Qc=qT S.Qc o:=by
 have e:¬ o.kind=4->qT S.Qc o=S.Qc:=λh=>by unfold qT;rw[Qd λf=>h f.1]
 by_cases a:o.kind=1;rw[e (by rw[a];decide)];unfold J3 K8;rw[Qe a];by_cases c:o.kind=2;rw[e (by rw[c];decide)];unfold J3 K8;rw[Qd a,Qe c];split<;>rfl;by_cases d:o.kind=3;rw[e (by rw[d];decide)];unfold J3 K8;rw[Qd a,Qd c,Qe d];unfold Yv;split;rfl;split;exact(II _ _ _).1;rfl;unfold J3 K8 qT;rw[Qd a,Qd c,Qd d];by_cases b:o.kind=4;rw[Qe b];unfold qi;split;rename_i h;have h:4611686018427387904-S.Qc<o.Vw.toNat:=h;rw[Qd λf=>ω];rename_i h;have h:¬ 4611686018427387904-S.Qc<o.Vw.toNat:=h;rw[Qe ⟨b,ω⟩];exact(mR _ _ _ _).2;rw[Qd b,Qd λh=>b h.1]
def Qna:∀(l:List Zt) (S:Zy),(Za S l).1.Qc=l.foldl qT S.Qc
 | [],S=>rfl
 | o::l,S=>by rw[Za,qX,<-QFw];exact Qna l _
def Qce:∀(l:List Zt) (S:Zy),(Za S l).1.ops=S.ops+l.length/\∀e∈(Za S l).2.2,(S.ops:Int)<=e.op/\e.op<((S.ops+l.length:Nat):Int)
 | [],S=>⟨rfl,λe h=>by cases h⟩
 | o::l,S=>by obtain⟨c,b⟩:=Qce l (J3 S o).S;rw[Qbv]at c b;refine⟨?_,λe a=>?_⟩;show (Za (J3 S o).S l).1.ops=_;rw[c,Kx];omega;have a:e∈(J3 S o).l++(Za (J3 S o).S l).2.2:=a;rw[Kx];rcases Q3.1 a with h|h;have:=QE1 S o e h;omega;have:=b e h;omega
def yv(l:List Ev)(k:Nat):Nat:=(l.filter λe=>decide (e.op<(k:Int))).length
def QFx(c)(a:List Zt){k}(h:k<=a.length):yv (Za (S0 c) a).2.2 k=(Za (S0 c) (a.take k)).2.2.length/\(Za (S0 c) a).2.2.take (yv (Za (S0 c) a).2.2 k)=(Za (S0 c) (a.take k)).2.2:=by
 have e:(Za (S0 c) a).2.2=(Za (S0 c) (a.take k)).2.2++(Za (Za (S0 c) (a.take k)).1 (a.drop k)).2.2:=by conv=>lhs;rw[<-AF k a,Qbt]
 obtain⟨f,d⟩:=Qce (a.take k) (S0 c);obtain⟨_,i⟩:=Qce (a.drop k) (Za (S0 c) (a.take k)).1;have g:(a.take k).length=k:=List.length_take_of_le h;have j:(S0 c).ops=0:=rfl;rw[g,j]at f d;have b:yv (Za (S0 c) a).2.2 k=(Za (S0 c) (a.take k)).2.2.length:=by
  unfold yv;rw[e,EU,yx.2 λx hx=>QY (by have:=d x hx;omega),nV.2 λx hx=>by have:=i x hx;rw[f]at this;simp only[W3];omega]
  simp
 refine⟨b,?_⟩;rw[b,e,List.take_left]
def Qnb{l:List Zt}:EM l=true↔∀k,k<l.length->0<k->(l.getD k default).kind≠1:=by refine⟨λh k b d=>still_at h b d,λh=>?_⟩;unfold EM;rw[jt];intro o a;obtain⟨i,c,rfl⟩:=j8 a;rw[bX]at c;have:=h (i+1) ω ω;rw[List.getElem_drop];rw[QU,QH ω]at this;have e:1+i=i+1:=Ol 1 i;simp only[e];simpa using this
def QFy(x:XB)(m:Nat)(d:m<1000000):QM prog 7 [.agg x.cells,Qa m] (QR (QV (Gy x.config&&Aq x m))):=by
 have c:=QlE x.config;have e:=QES x m d;cases h:Gy x.config with
 | false=>rw[h]at c;refine Q1 0 func7 ntmps7 results7 λb w a=>?_;simp only[go_sem];apply QZ a pX c;apply Qh a;simp only[go_sem,Go.undef]
 | true=>rw[h]at c;refine Q1 0 func7 ntmps7 results7 λb w a=>?_;simp only[go_sem];apply QZ a pX c;apply Qg a;apply QZ a Qtu e;exact VT a
def As(l:List Ev)(n:Nat):Nat->Nat
 | 0=>0
 | k+1=>if (l.getD k default).op<(n:Int) then As l n k+1 else As l n k
def Qnc(l:List Ev)(n):∀k,As l n k<=k
 | 0=>Qv _
 | k+1=>by have:=Qnc l n k;simp only[As];split<;>omega
def Qnd(l:List Ev)(n):∀k,k<=l.length->As l n k=yv (l.take k) n
 | 0,_=>rfl
 | k+1,h=>by
  have e:l.take (k+1)=l.take k++[l.getD k default]:=by rw[zQ,QH ω,QU,QH ω];rfl
  rw[e];unfold yv;rw[EU,Zn];show (if (l.getD k default).op<(n:Int) then As l n k+1 else As l n k)=_;rw[Qnd l n k ω];unfold yv;split;rename_i a;simp only[vk,List.filter_nil,QY a,Vu,K9];rename_i a;simp only[vk,List.filter_nil,QN a,qq,q5,Lf,vn]
def QFz(l:List Ev)(n):yv l n<=l.length:=Yg _ _
def QFA(l:List Ev)(n:Nat)(o:l.length<2147483648):QM prog 10 [YD l,Qa n] (QR (Qa (yv l n))):=by
 have i:=Qnd l n l.length (Qv _);rw[Wo]at i;refine Q1 0 func10 ntmps10 results10 λj w g=>?_;simp only[go_sem];refine xT (G:=Nat) [1,8,9] (λk=>True) (λk c=>[(5,Qa (As l n k)),(10,Qa k)]) (λk c=>[]) (l.length) (0) rfl (Qs.to 0 (by (simp only[go_sem,As])<;>simp)) trivial ?_;intro k c f _;apply Qg g;have h:=JJ (show k<4611686018427387904 from ω);have m:=Qnc l n k;have e:=JJ (show As l n k<4611686018427387904 from ω);first|refine WN f (λb=>?_) (λb=>?_)|refine WO f (λb=>?_) (λb=>?_)
 have d:As l n (k+1)=if (l.getD k default).op<(n:Int) then As l n k+1 else As l n k:=rfl;simp only[go_sem,b];first|refine zg (λa=>?_) (λa=>?_)|refine zj (λa=>?_) (λa=>?_)|refine zk (λa=>?_) (λa=>?_)|refine VX (λa=>?_) (λa=>?_)|refine zl (λa=>?_) (λa=>?_)|refine zn (λa=>?_) (λa=>?_)|refine zo (λa=>?_) (λa=>?_)|refine ze (λa=>?_) (λa=>?_)
 simp only[go_sem];rw[Qe a]at d;repeat (refine And.intro η ?_)
 refine⟨_,Qs.to 0 (by (simp only[go_sem,h,d,e])<;>simp),Vj.mk (c) (trivial)⟩;simp only[go_sem];rw[Qd a]at d;repeat (refine And.intro η ?_)
 refine⟨_,Qs.to 0 (by (simp only[go_sem,h,d])<;>simp),Vj.mk (c) (trivial)⟩;simp only[go_sem];subst b;apply Qh g;simp only[go_sem,i]
def Au(l:List Zt)(n:Nat):Nat->Nat
 | 0=>0
 | k+1=>if k<n then qT (Au l n k) (l.getD k default) else Au l n k
def QFC{t o}(h:t<=4611686018427387904):qT t o<=4611686018427387904:=by unfold qT;split<;>omega
def Qcf(l:List Zt)(n):∀k,Au l n k<=4611686018427387904
 | 0=>Z7 _
 | k+1=>by have:=Qcf l n k;simp only[Au];split;exact QFC this;exact this
def Qcg(l:List Zt)(n):∀k,k<=l.length->Au l n k=(l.take (min k n)).foldl qT 0
 | 0,_=>by rw[Nat.zero_min];rfl
 | k+1,h=>by show (if k<n then qT (Au l n k) (l.getD k default) else Au l n k)=_;rw[Qcg l n k ω];split;rename_i a;rw[wC ω,wC ω,QE7 l ω,qu];rfl;rename_i a;rw[kb ω,kb ω]
def QFD(x:XB)(n:Nat)(H:x.ops.length<2147483648)(C:n<=x.ops.length)(B:∀a∈x.ops,Zt.Ok a):QM prog 11 [.agg x.cells,Qa n] (QR (u64 ((x.ops.take n).foldl qT 0))):=by
 have v:=Qcg x.ops n x.ops.length (Qv _);rw[kb C]at v;refine Q1 0 func11 ntmps11 results11 λy w u=>?_;simp only[go_sem];refine xT (G:=Nat) [1,9,10] (λk=>True) (λk e=>[(5,u64 (Au x.ops n k)),(11,Qa k)]) (λk e=>[]) (x.ops.length) (0) rfl (Qs.to 0 (by (simp only[go_sem,Au,CH])<;>simp)) trivial ?_;intro k e s _;apply Qg u;have q:=JJ (show k<4611686018427387904 from ω);have E:=Qcf x.ops n k;first|refine WN s (λd=>?_) (λd=>?_)|refine WO s (λd=>?_) (λd=>?_)
 have b:Au x.ops n (k+1)=if k<n then qT (Au x.ops n k) (x.ops.getD k default) else Au x.ops n k:=rfl;obtain⟨o,f⟩:=Zc (x.ops.getD k default);have ZS:Zt.Ok o:=B o (by rw[f];exact YZ x.ops default k d);have F:=wf_u64 ZS.2.2.2.2.1;obtain⟨i,p⟩:∃t:Nat,o.Vw=t:=⟨o.Vw.toNat,ω⟩;rw[<-f]at b;generalize Au x.ops n k=c at *;by_cases m:k<n;have d1:=QY m;rw[Qe m]at b;by_cases l:o.kind=4;have d2:=WQ l;have r:IntKind.u64.wrap (4611686018427387904-(c:Int))=((4611686018427387904-c:Nat):Int):=κ;by_cases j:i<=4611686018427387904-c;have d3:=QY j;have z:IntKind.u64.wrap ((c:Int)+(i:Int))=((c+i:Nat):Int):=κ;have g:qT c o=c+i:=by unfold qT;rw[p];exact Qe ⟨l,by rw[Oc];exact j⟩
 rw[g]at b;simp only[go_sem,d,<-f,d1,d2,p,r,d3,z];repeat (refine And.intro η ?_)
 refine⟨_,Qs.to 0 (by (simp only[go_sem,q,b])<;>simp),Vj.mk (e) (trivial)⟩;have d3:=QN j;have g:qT c o=c:=by unfold qT;rw[p];exact Qd λh=>j (by have:=h.2;rwa [Oc]at this)
 rw[g]at b;simp only[go_sem,d,<-f,d1,d2,p,r,d3];repeat (refine And.intro η ?_)
 refine⟨_,Qs.to 0 (by (simp only[go_sem,q,b])<;>simp),Vj.mk (e) (trivial)⟩;have d2:=VY l;have g:qT c o=c:=by unfold qT;exact Qd λh=>l h.1
 rw[g]at b;simp only[go_sem,d,<-f,d1,d2,Go.undef];repeat (refine And.intro η ?_)
 refine⟨_,Qs.to 0 (by (simp only[go_sem,q,b])<;>simp),Vj.mk (e) (trivial)⟩;have d1:=QN m;rw[Qd m]at b;simp only[go_sem,d,<-f,d1,Go.undef];repeat (refine And.intro η ?_)
 refine⟨_,Qs.to 0 (by (simp only[go_sem,q,b])<;>simp),Vj.mk (e) (trivial)⟩;simp only[go_sem];subst d;apply Qh u;simp only[go_sem,v]
end Go.Fg.X
namespace Go.Fg.X.SP
open Go.Proofs Go.Fg
open Go.Proofs.Tryz
def PF(l:List Int)(a)(j:l.length<2147483648):QM prog 31 [ints l,Qa a] (QR (QV (l.contains a))):=by
 refine Q1 0 func31 ntmps31 results31 λi w f=>?_;simp only[go_sem];refine Hy (λm s=>∃k:Nat,k+m=l.length/\(l.take k).contains a=false/\s=⟨[(1,Qa a),(7,ints l),(8,Qa l.length),(9,Qa k)],[]⟩) l.length (s0:=⟨[(1,Qa a),(7,ints l),(8,Qa l.length),(9,Qa 0)],[]⟩) QP ⟨0,σ,σ,rfl⟩ ?_;rintro m s ⟨k,n,c,rfl⟩;apply Qg f;refine VX (λh=>?_) (λh=>?_);have d:k<l.length:=by simpa using h
 have g:=getD_take l 0 k d;simp only[go_sem,d];refine VX (λb=>?_) (λb=>?_);simp only[go_sem];have:l.contains a=true:=by rw[<-AF (k+1) l,g];simp at b ⊢;simp[b]
 rw[this];simp only[go_sem];refine⟨m-1,_,ω,Qs.frame (by simp only[go_sem,JJ (show k<4611686018427387904 from ω)]),k+1,ω,?_,rfl⟩;rw[g];simp at c b ⊢;exact⟨c,λe=>b e.symm⟩;have d:k=l.length:=by simp at h;omega
 simp only[go_sem];apply Qg f;subst d;simp at c;simp[c]
def indexOf(l:List Int)(v:Int):Int:=if l.contains v then (l.idxOf v:Nat) else -1
def QcS(l:List Int)(a)(n:l.length<2147483648):QM prog 140 [ints l,Qa a] (QR (Qa (indexOf l a))):=by
 refine Q1 0 func140 ntmps140 results140 λi w e=>?_;simp only[go_sem];refine ZY (λk s=>(l.take k).contains a=false/\s=⟨[(0,ints l),(1,Qa a),(6,ints l),(7,Qa l.length),(8,Qa k)],[]⟩) l.length (s0:=⟨[(0,ints l),(1,Qa a),(6,ints l),(7,Qa l.length),(8,Qa 0)],[]⟩) QP ⟨σ,rfl⟩ ?_;rintro k s o ⟨c,rfl⟩;apply Qg e;refine VX (λh=>?_) (λh=>?_);have d:k<l.length:=by simpa using h
 have g:=getD_take l 0 k d;simp only[go_sem,d];refine VX (λb=>?_) (λb=>?_);simp only[go_sem];have f:l=l.take k++a::l.drop (k+1):=by
  conv=>lhs;rw[<-AF (k+1) l,g]
  simp at b;simp[b]
 have:indexOf l a=k:=by
  have j:l.contains a=true:=by rw[f];simp
  have m:¬ a∈l.take k:=by simpa using c
  rw[indexOf,j];simp only[Vu];rw[f,List.idxOf_append,Qd m];simp;omega
 rw[this];simp only[go_sem];refine⟨ω,_,Qs.frame (by simp only[go_sem,JJ (show k<4611686018427387904 from ω)]),?_,rfl⟩;rw[g];simp at c b ⊢;exact⟨c,b⟩;have d:k=l.length:=by simp at h;omega
 simp only[go_sem];apply Qg e;subst d;simp at c;simp[indexOf,c]
end Go.Fg.X.SP
namespace Go.Fg.X
open Go.Proofs Go.Fg
open Go.Proofs.Tryz
section
variable (h:List Ob)(t m c:Nat){es:List ZL}{L:List Ql}(T:VJ es L)(hE:∀n,Ends L 16 n)
 (ht:(h.map Ob.ro)[t]?=some ⟨.Wp,0,1,1,λ_=>[.mref m 0]⟩) (hm:(h.map Ob.ro)[m]?=some (QT .i64 c es).ro)
include T ht hm hE
end
section
variable (h:List Ob)(t m c:Nat){es:List ZL}{L:List Ql}(T:VJ es L)(hlen:L.length<1000000)(hE:∀n,Ends L 16 n)
 (ht:(h.map Ob.ro)[t]?=some ⟨.Wp,0,1,1,λ_=>[.mref m 0]⟩) (hm:(h.map Ob.ro)[m]?=some (QT .i64 c es).ro)
include T ht hm hE hlen
end
@[go_sem] def QFE(c:Jj):D:=.agg c.cells
def EN(L:List Ql)(c:Jj):Int:=if c.kind=1 then Gk L c.cls else if c.kind=2 then CQ L c.cls.iD else if c.kind=3 then Np L c.cls else 1
def R8(L:List Ql)(c:Jj):List Ql:=if EN L c=0 then (if c.kind=2 then WE L c.cls.iD else CI L c.cls) else L
def QFF(L:List Ql)(c:Jj)(e:L.length<1000000)(g:∀c∈L,c.Nn)(f:c.cls.Nn):QM prog 36 [VB L,QFE c] (QR (.agg [VB (R8 L c),Qa (EN L c)])):=by
 refine Q1 0 func36 ntmps36 results36 λi w a=>?_;simp only[go_sem]
 repeat' (first|((first|apply zg|apply zj|apply zk|apply VX|apply zl|apply zn|apply zo|apply ze)<;>intro h<;>(try simp only[go_sem]))|(refine And.intro η ?_;try simp only[go_sem,Go.undef])|(refine Xn a [] QtK rfl ?_ (Qz9 L c.cls e g f) rfl ?_;(· simp only[go_sem]);intro d h b;obtain⟨rfl,rfl⟩:=b;(simp only[go_sem]);apply Qh a;simp only[go_sem])|(refine Xn a [] QtL rfl ?_ (QAb L c.cls.iD e) rfl ?_;(· simp only[go_sem]);intro d h b;obtain⟨rfl,rfl⟩:=b;(simp only[go_sem]);apply Qh a;simp only[go_sem])|(refine Xn a [] QtM rfl ?_ (QAc L c.cls e g f) rfl ?_;(· simp only[go_sem]);intro d h b;obtain⟨rfl,rfl⟩:=b;(simp only[go_sem]);apply Qh a;simp only[go_sem])|fail)
 all_goals simp_all[R8,EN]
structure Av (L:List Ql) (n:Nat):Prop where
 tree:TreeInv L
 nn:∀c∈L,c.Nn
 len:L.length<=n
def nF{L k}:zB L k<0↔Qw L k=none:=by rcases UA L k with ⟨b,a⟩|⟨i,c,b,a⟩;rw[b,a];simp;rw[b,a];simp
def QFG{L n}(I:Av L n)(a):ZZ L 70 a=ZZ L 16 a:=Qwg (I.tree.ends a) π
def add_same{L n}(I:Av L n)(x:Ql):wU L x (ZZ L 16 x.parent).length=Gk L x:=by
 have a:=nF (L:=L) (k:=x.iD);have f:=nF (L:=L) (k:=x.parent);have l:=Bf (L:=L) (n:=16) (id:=x.parent);unfold wU Gk;rw[QgY,QFG I];have i:((Qw L x.iD).isSome=true)=(0<=zB L x.iD):=by
  rw[Lq];cases b:Qw L x.iD with
  | none=>rw[b]at a;simp at a ⊢;exact a
  | some c=>rw[b]at a;simp at a ⊢;exact a
 have h:((x.parent≠0/\(Qw L x.parent).isNone=true)\/((Qw L x.parent).getD default).leaf=true)=(x.parent≠0/\(zB L x.parent<0\/((Qw L x.parent).getD default).leaf=true)):=by
  rw[Lq,f];cases b:Qw L x.parent with
  | none=>simp[default]
  | some c=>
   have d:x.parent≠0:=by intro d;obtain⟨e,j⟩:=(VK I.tree.rising).1 b;have:=I.tree.ids c e;omega
   simp[d]
 have g:((ZZ L 16 x.parent).length=16)=(16<=(ZZ L 16 x.parent).length):=by rw[Lq];omega
 simp only[i,h,g]
def Qne{L}(k):wV L k=CQ L k:=by
 have a:=nF (L:=L) (k:=k);unfold wV CQ;have b:((Qw L k).isNone=true)=(zB L k<0):=by rw[a,Lq];simp
 simp only[b]
def QFH{L}(I:TreeInv L){k a}(h:a∈KZ L k):a≠0:=by simp only[KZ,Jw,JB]at h;obtain⟨c,⟨b,_⟩,rfl⟩:=h;have:=I.ids c b;omega
def any_congr{c:Type}{p q}:∀{l:List c},(∀a∈l,p a=q a)->l.any p=l.any q
 | [],_=>rfl
 | a::l,h=>by rw[List.any_cons,List.any_cons,h a σ,any_congr λb d=>h b (by simp[d])]
def Qnf{L n}(I:Av L n)(x):wW L x=Np L x:=by
 have d:=nF (L:=L) (k:=x.iD);unfold wW Np;rw[QgY];have i:((Qw L x.iD).isNone=true)=(zB L x.iD<0):=by rw[d,Lq];simp
 have g:(x.parent≠((Qw L x.iD).getD default).parent\/x.leaf≠((Qw L x.iD).getD default).leaf)=(¬ (((Qw L x.iD).getD default).parent=x.parent/\((Qw L x.iD).getD default).leaf=x.leaf)):=by rw[Lq,Decidable.not_and_iff_not_or_not];constructor<;>rintro (h|h);exact .inl λe=>h e.symm;exact .inr λe=>h e.symm;exact .inl λe=>h e.symm;exact .inr λe=>h e.symm
 have f:((KZ L x.iD).any (vT L))=((KZ L x.iD).any λid=>Vs L id):=any_congr λa c=>by have:=QFH I.tree c;simp[Vs,vT,this]
 simp only[i,g,f];by_cases l:Vd x≠0;simp[l];by_cases j:zB L x.iD<0;simp[j];by_cases b:1<QJ x.ls/\Vs L x.parent=false;simp[b];simp[b]
def QFI{L:List Ql}(h:WD L)(x:Ql):(VL L x).length<=L.length+1:=by have a:=(HN x h).length_eq;have b:=Yg (λc:Ql=>c.iD != x.iD) L;simp only[Kx]at a;rw[a];exact Nat.succ_le_succ b
def Qng{L n}(I:Av L n){c:Jj}(t:c.cls.Nn):Av (R8 L c) (n+1):=by
 have g:Av L (n+1):=⟨I.tree,I.nn,by have:=I.len;omega⟩;have o:∀J:TreeInv (VL L c.cls),Av (VL L c.cls) (n+1):=λJ=>
  ⟨J,λd k=>by rcases yS I.tree.rising _ k with rfl|h;exact t;exact I.nn d h,by have:=QFI I.tree.rising c.cls;have:=I.len;omega⟩
 unfold R8;split
 .rename_i a;split;rename_i i;have e:wV L c.cls.iD=0:=by rw[Qne];rw[EN,Qd ω,Qe i]at a;exact a
  have s:KZ L c.cls.iD=[]:=by unfold wV at e;split at e;cases e;split at e;cases e;rename_i h;simpa using h
  exact⟨I.tree.del s,λd k=>I.nn d (JB.1 k).1,by have:=Yg (λd:Ql=>d.iD != c.cls.iD) L;have:=I.len;simp only[WE];omega⟩
  .rename_i i;rw[QiG I.tree.rising];by_cases l:c.kind=1
   .have e:wU L c.cls (ZZ L 16 c.cls.parent).length=0:=by rw[add_same I];rw[EN,Qe l]at a;exact a
    unfold wU at e
    repeat' split at e
    all_goals try (cases e;done)
    all_goals try contradiction
    rename_i m f j r v u;refine o (I.tree.add (zC m) ?_ ?_ u);cases b:Qw L c.cls.iD with
    | none=>rfl
    | some _=>rw[b]at f;simp at f
    by_cases p:c.cls.parent=0;exact .inl p;refine .inr ?_;cases b:Qw L c.cls.parent with
    | none=>exact absurd (.inl ⟨p,by rw[b];rfl⟩) r
    | some _=>rfl
   .by_cases q:c.kind=3
    .have e:wW L c.cls=0:=by rw[Qnf I];rw[EN,Qd l,Qd i,Qe q]at a;exact a
     unfold wW at e
     repeat' split at e
     all_goals try (cases e;done)
     all_goals try contradiction
     rename_i m f j r;cases b:Qw L c.cls.iD with
     | none=>rw[b]at f;simp at f
     | some y=>refine o (I.tree.set (zC m) b ?_);rw[b]at j;simp at j;exact j.1
    rw[EN,Qd l,Qd i,Qd q]at a;cases a
 exact g
def Qnh{L n}(I:Av L n)(c):EN L c=qK L c/\R8 L c=yj L c:=by
 have h:EN L c=qK L c:=by unfold EN qK;by_cases d:c.kind=1;rw[Qe d,Qe d];exact(add_same I c.cls).symm;rw[Qd d,Qd d];by_cases b:c.kind=2;rw[Qe b,Qd ω,Qe b];exact(Qne c.cls.iD).symm;rw[Qd b,Qd b];by_cases a:c.kind=3;rw[Qe a,Qe a];exact(Qnf I c.cls).symm;rw[Qd a,Qd a]
 refine⟨h,?_⟩;unfold R8 yj;rw[h,QiG I.tree.rising]
def Qni:∀(l:List Jj) (L:List Ql) (i n:Nat),Av L n->(∀c∈l,Jj.Ok c)->Av (VD L l i).2.2 (n+l.length)
 | [],L,i,n,I,_=>I
 | c::l,L,i,n,I,a=>by rw[VD];split;exact⟨I.tree,I.nn,J5 I.len (Lk _ _)⟩;have J:=Qng I (c:=c) (a c σ).2.1.nn;rw[(Qnh I c).2]at J;have:=Qni l _ (i+1) (n+1) J λd b=>a d (by simp[b]);rw[Kx,show n+(l.length+1)=n+1+l.length by omega];exact this
def AJ:Av [] 0:=⟨TreeInv.nil,λc h=>(by cases h),Qv _⟩
def IY(t:Int)(l:List Jj):Int:=if t<1\/65536<t then 1 else Yc [] t l
def bE(t:Int)(l:List Jj):Nat:=if t<1\/65536<t then 0 else Em [] l
def EO(t:Int)(l:List Jj):List Ql:=if t<1\/65536<t\/32<l.length\/(VD [] l 0).1≠0 then [] else Z5 [] l
def QFJ(t l)(N:∀c∈l,Jj.Ok c):
  QM prog 20 [VB [],Qa t,Gl l] (QR (.agg [VB (EO t l),Qa (bE t l),Qa (IY t l)])):=by
 refine QbV (R:=λd M=>JQ 6 d (.agg [VB (EO t l),Qa (bE t l),Qa (IY t l)])) _ rfl (λd M h=>.inl h) ?_;by_cases j:t<1
 .have d1:=QY j;have q:IY t l=1:=Qe (.inl j);have p:bE t l=0:=Qe (.inl j);have o:EO t l=[]:=Qe (.inl j);rw[q,p,o];refine Q1 1 func20 ntmps20 results20 λf w e=>?_;simp only[go_sem];simp only[go_sem,d1,Go.undef];all_goals first|trivial|exact⟨rfl,rfl,rfl,trivial⟩
 have d1:=QN j;by_cases i:65536<t
 .have d2:=QY i;have q:IY t l=1:=Qe (.inr i);have p:bE t l=0:=Qe (.inr i);have o:EO t l=[]:=Qe (.inr (.inl i));rw[q,p,o];refine Q1 1 func20 ntmps20 results20 λf w e=>?_;simp only[go_sem];simp only[go_sem,d1,d2];all_goals first|trivial|exact⟨rfl,rfl,rfl,trivial⟩
 have d2:=QN i;have q:IY t l=Yc [] t l:=Qd ω;have p:bE t l=Em [] l:=Qd ω;rw[q,p];by_cases g:32<l.length
 .have d3:decide ((32:Int)<(l.length:Int))=true:=QY ω;have o:EO t l=[]:=Qe (.inr (.inr (.inl g)));have f1:Yc [] t l=2:=Qe g;have f2:Em [] l=0:=Qe g;rw[o,f1,f2];refine Q1 1 func20 ntmps20 results20 λf w e=>?_;simp only[go_sem];simp only[go_sem,d1,d2,d3];all_goals first|trivial|exact⟨rfl,rfl,rfl,trivial⟩
 have d3:decide ((32:Int)<(l.length:Int))=false:=QN ω;have z:Em [] l=if (VD [] l 0).1≠0 then (VD [] l 0).2.1 else 0:=Qd g;have y:Yc [] t l=if (VD [] l 0).1≠0 then (VD [] l 0).1 else zE t (Vl (VD [] l 0).2.2):=Qd g;have u:EO t l=if (VD [] l 0).1≠0 then [] else Z5 [] l:=by unfold EO;by_cases h:(VD [] l 0).1≠0;rw[Qe h,Qe (.inr (.inr (.inr h)))];rw[Qd h,Qd (λP=>by rcases P with a|a|a|a;exact j a;exact i a;exact g a;exact h a)]
 refine Q1 1 func20 ntmps20 results20 λf w e=>?_;simp only[go_sem];simp only[go_sem,d1,d2,d3];refine ZY (λk K=>∃b,Av b k/\jL b/\VD [] l 0=VD b (l.drop k) k/\K=⟨[(1,Qa t),(6,.ptr 0 0 0 0),(7,VB b),(23,Gl l),(24,Qa l.length),(25,Qa k)],[⟨.one,0,3,1,λ_=>[.nil,Qa 0,Qa 0]⟩]⟩) l.length (s0:=⟨[(1,Qa t),(6,.ptr 0 0 0 0),(7,VB []),(23,Gl l),(24,Qa l.length),(25,Qa 0)],[⟨.one,0,3,1,λ_=>[.nil,Qa 0,Qa 0]⟩]⟩) (Qs.to 1 (by (simp only[go_sem])<;>simp)) ⟨[],AJ,λc h=>(by cases h),rfl,rfl⟩ ?_;rintro k _ U ⟨b,I,H,s,rfl⟩;have T:=I.len;by_cases m:k<l.length
 .have E:=QY m;have r:=Qj5 m s;have v:Jj.Ok (l.getD k default):=N _ (YZ l default k m);obtain⟨x,hx⟩:=Zc (l.getD k default);rw[<-hx]at r v;obtain⟨L,C⟩:=Qnh I x;have F:=QFF b x ω I.nn v.2.1.nn;rw[L,C]at F;have S:=JJ (show k<4611686018427387904 from ω);apply Qh e;simp only[go_sem,m,Jj.vN,<-hx];refine Xn e [] QtA rfl ?_ F rfl λd h B=>?_;simp only[go_sem];obtain⟨rfl,rfl⟩:=B;simp only[go_sem];apply Qg e;by_cases n:qK b x=0;rw[Qd (zC n)]at r;have d0:(qK b x != 0)=false:=by simpa using n
  have J:=Qng I (c:=x) v.2.1.nn;rw[C]at J;simp only[go_sem,d0];exact⟨m,_,Qs.to 1 (by (simp only[go_sem,S])<;>simp),yj b x,J,H.one I.tree.rising v,r,rfl⟩
  .rw[Qe (zC n)]at r;have d0:(qK b x != 0)=true:=by simpa using n
   rw[z,y,u,r];simp only[Qe (show qK b x≠0 from n)];simp only[go_sem,d0];all_goals first|trivial|exact⟨rfl,rfl,rfl,trivial⟩
 .have Q:k=l.length:=ω;have E:=QN m;rw[Q,List.drop_length,VD]at s;rw[s]at z y u;simp only[ne_eq,not_true_eq_false,q5]at z y u;have O:Z5 [] l=b:=by unfold Z5;rw[s]
  have V:=uV b;rw[z,y,u,O];apply Qh e;simp only[go_sem,E];apply Qg e;refine Xn e [] QtC rfl ?_ (QAj b ω I.nn) rfl λd h B=>?_;simp only[go_sem];obtain⟨rfl,rfl⟩:=B;simp only[go_sem];apply Qg e;apply QZ e QtB (Qz3 t (Vl b) ω H.Qj3);apply Qg e;all_goals first|trivial|exact⟨zw _ _,rfl,rfl,trivial⟩
def Ev.GO(x:Ev):Prop:=(Lit.int .u64 x.at_).wf=true/\(Lit.int .i64 x.len).wf=true
def Qnj{l:List Zt}(h:EM l=true):∀o∈l.tail,o.kind≠1:=λo a=>by unfold EM at h;rw[List.drop_one]at h;simpa using jt.1 h o a
def QFK{p:Pk}{c:Cf}(K:Wm c)(o:1<=p.len)(k:p.len<=c.Ze):xy p c.t<=((c.Ze.toNat*c.t.toNat:Nat):Int)/\0<=xy p c.t:=by have i:=K.l2;have h:=K.t2;have g:=K.t1;obtain⟨n,e⟩:∃n:Nat,p.len=n:=⟨p.len.toNat,ω⟩;obtain⟨T,f⟩:∃n:Nat,c.t=n:=⟨c.t.toNat,ω⟩;obtain⟨L,d⟩:∃n:Nat,c.Ze=n:=⟨c.Ze.toNat,ω⟩;rw[e,d]at k;rw[d]at i;rw[f]at h g;have m:n*T<=L*T:=V6 T ω;have l:L*T<=16384*65536:=Xk ω ω;have j:(n:Int)*(T:Int)=((n*T:Nat):Int):=rfl;unfold xy;rw[Qe ⟨ω,ω⟩,e,f,d,j,IntKind.wrap_u64];show _<=((L*T:Nat):Int)/\_;generalize n*T=a at *;generalize L*T=b at *;omega
def Qnk{c}(K:Wm c)(b:List Zt)(w:∀o∈b,Zt.Ok o):∀i,i<(Za (S0 c) b).2.2.length ->
  0<=((Za (S0 c) b).2.2.getD i default).at_/\((Za (S0 c) b).2.2.getD i default).at_<=4611686018427387904/\1<=((Za (S0 c) b).2.2.getD i default).len/\((Za (S0 c) b).2.2.getD i default).len<=c.Ze /\
  (((Za (S0 c) b).2.2.getD i default).Jz=false->((Za (S0 c) b).2.2.getD i default).done<=((Za (S0 c) b).2.2.getD i default).at_+((c.Ze.toNat*c.t.toNat:Nat):Int)):=by
 have A:=bC (x:=c) b (ZQ.IU K) (W:=λ_=>[]) (a:=NY) (d:=0) ⟨λj=>rfl,rfl,qW _,qW _,rfl⟩ w;have f:=λ{i:Nat} (e:i<(Za (S0 c) b).2.2.length) {k:Nat} (t:k<8)=>QmW A.ok e t;obtain⟨l,q⟩:=Zc ((Za (S0 c) b).2.2);rw[<-q]at f ⊢;have m:∀i,i<l.length->(R4 l i).at_<=(l.getD i default).at_/\(l.getD i default).at_<=4611686018427387904:=λi e=>by have h:decide ((l.getD i default).at_<(R4 l i).at_\/4611686018427387904<(l.getD i default).at_)=false:=f e (k:=1) π;rw[G2]at h;omega
 have r:∀i,i<l.length->0<=(l.getD i default).at_:=λi=>by
  induction i with
  | zero=>intro e;exact(m 0 e).1
  | succ i s=>intro e;have v:=s ω;have u:(l.getD i default).at_<=(l.getD (i+1) default).at_:=(m (i+1) e).1;omega
 intro i e;have g:1<=(l.getD i default).len/\(l.getD i default).len<=c.Ze:=by have h:(wv (l.getD i default).pk c.Ze != 0)=false:=f e (k:=2) π;unfold wv at h;split at h;cases h;split at h;cases h;rename_i n;have n:¬¬(1<=(l.getD i default).len/\(l.getD i default).len<=c.Ze):=n;omega
 refine⟨r i e,(m i e).2,g.1,g.2,λy=>?_⟩;have h:(!(l.getD i default).Jz&&(l.getD i default).done != IntKind.u64.wrap ((l.getD i default).at_+xy (l.getD i default).pk c.t))=false:=f e (k:=7) π;rw[y]at h;have h:(l.getD i default).done=IntKind.u64.wrap ((l.getD i default).at_+xy (l.getD i default).pk c.t):=by simpa using h
 have z:=QFK (p:=(l.getD i default).pk) K g.1 g.2;have v:=K.l2;have u:=K.t2;have C:c.Ze.toNat*c.t.toNat<=16384*65536:=Xk ω ω;have B:=r i e;have n:=(m i e).2;rw[h,IntKind.wrap_u64];omega
def QFL{e:Ev}(h:0<=e.at_/\e.at_<=18446744073709551615)(a:-9223372036854775808<=e.len/\e.len<=9223372036854775807):e.GO:=by refine⟨?_,?_⟩;simp only[Lit.wf,ZM,W3];exact h;simp only[Lit.wf,ZM,W3];exact a
def QFM{c}(K:Wm c)(a:List Zt)(l:∀o∈a,Zt.Ok o):∀e∈(Za (S0 c) a).2.2,e.GO:=λe k=>by obtain⟨i,b,rfl⟩:=Lh.1 k;have h:=Qnk K a l i b;rw[QU,QH b]at h;obtain⟨j,g,f,d,_⟩:=h;have j:0<=((Za (S0 c) a).2.2[i]).at_:=j;have g:((Za (S0 c) a).2.2[i]).at_<=4611686018427387904:=g;have f:1<=((Za (S0 c) a).2.2[i]).len:=f;have d:((Za (S0 c) a).2.2[i]).len<=c.Ze:=d;have:=K.l2;exact QFL ω ω
def Aw(x:XB):Bool:=decide (0<x.ops.length)&&(((x.ops.getD 0 default).kind==1)&&(EM x.ops&&(IY x.config.t (x.ops.getD 0 default).changes==0)))
def IZ(x:XB):List Ql:=if 0<x.ops.length/\(x.ops.getD 0 default).kind=1/\EM x.ops=true then EO x.config.t (x.ops.getD 0 default).changes else []
def QFN{k n}(h:k<n)(a:n<=maxLen):IntKind.i64.wrap ((k:Int)+1)=((k+1:Nat):Int):=by have:maxLen=9223372036854775807:=rfl;rw[wrap64 ω ω];rfl
def QFO(x:XB)(n:x.ops.length<=maxLen)(E:∀a∈x.ops,Zt.Ok a):QM prog 6 [.agg x.cells] (QR (.tup [VB (IZ x),QV (Aw x)])):=by
 refine QbV (R:=λd F=>JQ 6 d (.tup [VB (IZ x),QV (Aw x)])) _ rfl (λd F h=>.inl h) ?_;by_cases t:x.ops.length=0
 .have g:IZ x=[]:=Qd ω;have f:Aw x=false:=by unfold Aw;rw[QN (show ¬0<x.ops.length from ω)];rfl
  rw[g,f];refine Q1 1 func6 ntmps6 results6 λe w c=>?_;simp only[go_sem];simp only[go_sem,bz t,Go.undef];all_goals first|trivial|exact⟨rfl,rfl,trivial⟩
 have s:0<x.ops.length:=ω;obtain⟨o,b⟩:=Zc (x.ops.getD 0 default);have ZS:Zt.Ok o:=E o (by rw[b];exact YZ x.ops default 0 s);by_cases l:o.kind=1;case neg=>
  have g:IZ x=[]:=Qd (λh=>l (by rw[b];exact h.2.1));have f:Aw x=false:=by unfold Aw;rw[<-b,VY l];simp
  have d1:(o.kind != 1)=true:=by rw[bne,VY l];rfl
  rw[g,f];refine Q1 1 func6 ntmps6 results6 λe w c=>?_;simp only[go_sem];simp only[go_sem,Pq t,<-b,d1];all_goals first|omega|exact⟨rfl,rfl,trivial⟩
 have d1:(o.kind != 1)=false:=by rw[bne,WQ l];rfl
 refine Q1 1 func6 ntmps6 results6 λe w c=>?_;simp only[go_sem];simp only[go_sem,Pq t,<-b,d1];refine⟨ω,?_⟩;refine xT (G:=Nat) [1,20,21] (λk=>∀j,j<k->0<j->(x.ops.getD j default).kind≠1) (λk y=>[(22,Qa k)]) (λk y=>[⟨.one,0,3,1,λ_=>x.cells⟩]) (x.ops.length) (0) rfl (Qs.to 1 (by (simp only[go_sem])<;>simp)) ?_ ?_;intro j r;omega;intro k y B v;apply Qg c;first|refine WN B (λi=>?_) (λi=>?_)|refine WO B (λi=>?_) (λi=>?_)
 .have C:=QFN i n;simp only[go_sem,i];by_cases z:0<k
  .have d0:=QY (show (0:Int)<k from ω);by_cases p:(x.ops.getD k default).kind=1
   .have u:=WQ p;have m:EM x.ops=false:=by rw[jZ];intro H;exact Qnb.1 H k i z p
    have g:IZ x=[]:=Qd (λh=>by rw[m]at h;cases h.2.2);have f:Aw x=false:=by unfold Aw;rw[m];simp
    rw[g,f];simp only[go_sem,d0,u];all_goals first|trivial|exact⟨rfl,rfl,trivial⟩
   have u:=VY p;simp only[go_sem,d0,u];repeat (refine And.intro η ?_)
   refine⟨_,Qs.to 1 (by (simp only[go_sem,C])<;>simp),Vj.mk (0) (?_)⟩;intro j r q;rcases xJ.1 r with h|rfl;exact v j h q;exact p
  have d0:=QN (show ¬(0:Int)<k from ω);simp only[go_sem,d0,Go.undef];repeat (refine And.intro η ?_)
  refine⟨_,Qs.to 1 (by (simp only[go_sem,C])<;>simp),Vj.mk (0) (?_)⟩;intro j r q;rcases xJ.1 r with h|rfl;exact v j h q;exact absurd q z
 .simp only[go_sem];subst i;have m:EM x.ops=true:=Qnb.2 v;have g:IZ x=EO x.config.t o.changes:=by rw[b];exact Qe ⟨s,by rw[<-b];exact l,m⟩
  have f:Aw x=(IY x.config.t o.changes==0):=by unfold Aw;rw[<-b,QY s,WQ l,m];rfl
  have J:QM prog 20 [.nil,Qa x.config.t,Gl o.changes] _:=QO.QeB (QFJ x.config.t o.changes ZS.2.1.2) ⟨rfl,zw _ _,zw _ _,trivial⟩;rw[g,f];apply Qg c;apply Qy c [0,1,2,3,4,5,6,7,1008,1009,1010];simp only[go_sem,<-b];refine⟨ω,?_⟩;refine QqE c Qtt rfl ?_ J rfl λd h I=>?_;simp only[go_sem];obtain⟨rfl,rfl⟩:=I;simp only[go_sem];apply ZB c;apply Qy c [0,1,2,3,4,5,6];simp only[go_sem];all_goals first|trivial|exact⟨zw _ _,rfl,trivial⟩
theorem QFP:NX.length=4:=rfl
theorem QFQ:NX.getD 0 default=⟨2,true,false,0,0,1,7,100,0,0,0,0⟩:=rfl
theorem QFR:NX.getD 1 default=⟨2,false,false,0,100,1,7,100,0,0,0,0⟩:=rfl
theorem QFS:NX.getD 3 default=⟨4,false,false,100,200,1,7,100,0,0,0,0⟩:=rfl
def BF(n:Nd)(a:Bool)(f:Nat):List D:=n.c.cells++(QV a::u64 n.JD::(n.du.cells++(n.sh.cells++(n.cp.cells++(u64 f::n.q.cts)))))
section
variable (n:Nd)(a:Bool)(f:Nat)
theorem QLe:(BF n a f).length=67:=rfl
theorem QLf:(BF n a f).all D.VF=true:=rfl
theorem QLg:(List.drop 15 (BF n a f)).getD 0 D.undef=u64 n.JD:=rfl
theorem QLh:(List.drop 2 (BF n a f)).getD 0 D.undef=QV n.c.leaf:=rfl
theorem QLi:(List.drop 63 (BF n a f)).getD 0 D.undef=u64 n.q.cd:=rfl
theorem QLj:(List.drop 65 (BF n a f)).getD 0 D.undef=u64 n.q.bo:=rfl
theorem QLk:(List.drop 66 (BF n a f)).getD 0 D.undef=u64 n.q.bd:=rfl
theorem QLl(v):List.take 63 (BF n a f)++(.raw (.int .u64 ((v:Nat):Int))::List.drop 64 (BF n a f))=BF { n with q:={ n.q with cd:=v } } a f:=rfl
theorem QLm(v):List.take 66 (BF n a f)++[.raw (.int .u64 ((v:Nat):Int))]=BF { n with q:={ n.q with bd:=v } } a f:=rfl
attribute[go_sem]QLe QLf QLg QLh QLi QLj QLk QLl QLm
end
end Go.Fg.X
namespace Go.Fg.X
open Go.Proofs Go.Fg
open Go.RowKit (Below)
open Go.Proofs.Tryz
def Qs.Qnl{f c h d'}(t)(i:JQ 6 (get c t) d'):Qs f ⟨c,h⟩ ⟨put c t d',h⟩:=by intro Z z d j g a w r b;refine⟨g,⟨r.nt,r.defers,λu=>?_,r.o⟩,b⟩;show QF Z _ _ w (get (put c t _) u) _;rw[E9];by_cases e:u=t;subst e;rw[Qe rfl];exact vL 6 i (r.fr u);rw[Qd e];exact r.fr u
end Go.Fg.X
namespace Go.Fg.X
open Go.Proofs Go.Fg
open Go.Proofs.Tryz
def QFT:QM prog 8 [] (QR (QV true)):=by
 have e:=Qmw RZ ⟨π,π,π,π⟩ π QET;rw[show (Za (S0 RZ.config) RZ.ops).2.2=NX from QEY]at e;obtain⟨R,g,a⟩:∃R,R=(Za (S0 RZ.config) RZ.ops).2.1/\R.length=5:=⟨_,rfl,QEZ⟩;rw[<-g]at e;refine Qek 0 Vr 24 func8 rfl ntmps8 results8 rfl λk w c=>?_;simp only[go_sem];refine DM (Qs.TF rfl (λl o a=>by simp at a) 13 2 (Z7 _) rfl rfl (Qv 1) rfl ?_) ?_;intro i b;match i,b with
 | 0,_=>rfl
 | j+1,h=>exact absurd (show j+1<1 from h) ω
 simp only[go_sem];refine FA Vr c 3 ?_;simp only[go_sem];refine DM (Qs.TF rfl (λl o a=>by simp at a) 16 3 (Z7 _) rfl rfl (Qv 1) rfl ?_) ?_;intro i b;match i,b with
 | 0,_=>rfl
 | j+1,h=>exact absurd (show j+1<1 from h) ω
 simp only[go_sem];refine FA Vr c 5 ?_;simp only[go_sem];refine DM (Qs.TF rfl (λl o a=>by simp at a) 21 4 (Z7 _) rfl rfl (Qv 5) rfl ?_) ?_;intro i b;match i,b with
 | 0,_=>rfl
 | 1,_=>rfl
 | 2,_=>rfl
 | 3,_=>rfl
 | 4,_=>rfl
 | j+5,h=>exact absurd (show j+5<5 from h) ω
 simp only[go_sem];have m:((4:Nat):Int)=4:=rfl;have n:((5:Nat):Int)=5:=rfl;apply Qg c;refine DM (Qs.Qnl (d':=.agg RZ.cells) 24 ?_) ?_;refine⟨rfl,rfl,⟨rfl,rfl,λi b=>?_⟩,trivial⟩;match i,b with
 | 0,_=>exact⟨rfl,⟨rfl,rfl,λj f=>by match j,f with|0,_=>exact vK (zw _) _|j+1,h=>exact absurd (show j+1<1 from h) ω⟩,rfl,rfl,rfl,rfl,rfl,rfl,rfl,rfl,trivial⟩
 | 1,_=>exact⟨rfl,rfl,⟨rfl,rfl,λj f=>by match j,f with|0,_=>exact vK (zw _) _|j+1,h=>exact absurd (show j+1<1 from h) ω⟩,rfl,rfl,rfl,rfl,rfl,rfl,rfl,trivial⟩
 | 2,_=>exact⟨rfl,rfl,rfl,rfl,rfl,rfl,rfl,rfl,rfl,rfl,trivial⟩
 | 3,_=>exact⟨rfl,rfl,rfl,rfl,rfl,rfl,rfl,rfl,rfl,rfl,trivial⟩
 | 4,_=>exact⟨rfl,rfl,rfl,rfl,rfl,rfl,rfl,rfl,rfl,rfl,trivial⟩
 | j+5,h=>exact absurd (show j+5<5 from h) ω
 refine Xn c [] fn9 rfl ?_ e rfl λd h e=>?_;simp only[go_sem];obtain⟨rfl,rfl⟩:=e;simp only[go_sem,QFP,a];apply Qh c;simp only[go_sem,m,QFQ,QFR,QFS]
def QFV{x:XB}(K:Wm x.config)(t:∀a∈x.ops,Zt.Ok a)(g:Aw x=true):∃T,IZ x=T/\Av T 64/\KF T/\jL T/\EM x.ops=true/\0<x.ops.length/\∀n,0<n->n<=x.ops.length->(Za (S0 x.config) (x.ops.take n)).1.M.T=T:=by
 unfold Aw at g;rw[ZM,ZM,ZM,W3,qZ,qZ]at g;obtain⟨k,q,j,w⟩:=g;have F:=K.t1;have E:=K.t2;obtain⟨o,e⟩:=Zc (x.ops.getD 0 default);have ZS:Zt.Ok o:=t o (by rw[e];exact YZ x.ops default 0 k);have v:IY x.config.t o.changes=Yc [] x.config.t o.changes:=Qd ω;have d:Yc [] x.config.t o.changes=0:=by rw[<-v,e];exact w
 have s:¬ 32<o.changes.length:=λh=>by unfold Yc at d;rw[Qe h]at d;cases d
 have u:(VD [] o.changes 0).1=0:=by unfold Yc at d;rw[Qd s]at d;by_cases h:(VD [] o.changes 0).1=0;exact h;rw[Qe h]at d;exact absurd d h
 have I:=Qni o.changes [] 0 0 AJ ZS.2.1.2;obtain⟨B,z⟩:=Re (T:=[]) KF.nil (λc h=>(by cases h)) ZS.2.1.2;refine⟨Z5 [] o.changes,?_,⟨I.tree,I.nn,J5 I.len ω⟩,B,z,j,k,λn m C=>?_⟩;unfold IZ;rw[Qe ⟨k,q,j⟩,<-e];unfold EO;rw[Qd (by rw[u];omega)];have l:(x.ops.take n).getD 0 default=o:=by rw[e,QU,QU,XJ,Qe m]
 have y:=Qnj j;have:=(QFv (c:=x.config) (ops:=x.ops.take n) (by rw[Og];omega) (by rw[l,e];exact q) (by rw[l];exact d) λa f=>y a (by
  cases p:x.ops with
  | nil=>rw[p]at f;simp at f
  | cons b r=>
   rw[p]at f;cases n with
   | zero=>cases m
   | succ n=>exact Oi (i:=n) f)).1
 rw[l]at this;exact this
def KC(a:List Int)(g:Ev->Bool)(s:Nat)(e:Ev):Nat:=if (g e&&a.contains e.cls)=true then (s+e.len.toNat)%18446744073709551616 else s
def byS(l:List Ev)(a:List Int)(g:Ev->Bool):Nat:=l.foldl (KC a g) 0
end Go.Fg.X
namespace Go.Fg.X
open Go.Proofs Go.Fg Go.Fg.X.SP
open Go.Proofs.Tryz
def BG(c:Nc)(K t:Nat):Nat:=if t<K+1 then 0 else Jg c.a c.d c.b (t-(K+1))
def jr(f t:Nat)(e:Ev):Bool:=!e.Jz&&(decide ((f:Int)<e.done)&&decide (e.done<=(t:Int)))
def R9(l:List Ev)(a:List Int)(f t:Nat):Nat:=byS l a (jr f t)
def xC(c:Nc)(K d:Nat)(l:List Ev)(r:Int)(b a:Nat):Bool:=!decide (b<a)&&decide (BG c K (b-a)<(R9 l [r] a b+d)*65536)
def bF(c:Nc)(K b:Nat)(l:List Ev)(r:Int)(a:Nat):Bool:=!decide (0<KI [r] l l.length) || (Wg [r] l l.length).any λs=>xC c K b l r a s.Zv.toNat
def Qnm{cl g}:∀(l:List Ev) (s:Nat),(∀e∈l,e.len<=16384)->l.foldl (KC cl g) s<=s+l.length*16384
 | [],s,_=>Lk _ _
 | e::l,s,h=>by
  have d:=h e Jo;have c:=Qnm (cl:=cl) (g:=g) l (KC cl g s e) λe a=>h e (Js _ a);have b:KC cl g s e<=s+16384:=by unfold KC;split;have:=Nat.mod_le (s+e.len.toNat) 18446744073709551616;omega;omega
  rw[qX,Kx];omega
def QFW{E:List Ev}{lm}(h:E.length<1048576)(d:∀e∈E,e.len<=16384)(f:lm<=16384)(a b c):R9 E [a] c b+lm<18446744073709551616:=by have:=Qnm (cl:=[a]) (g:=jr c b) E 0 d;unfold R9 byS;omega
def QFX(a d b k){t}(g:t<18446744073709551616):BG ⟨a,d,b⟩ k t<2^128:=by unfold BG;split;decide;show Jg a d b (t-(k+1))<_;unfold Jg;split;decide;rename_i c;obtain⟨f,e,j⟩:=Uy c;have i:a*min (t-(k+1)) d<=4294967295*1048576:=Xk f ω;have h:b*((t-(k+1))-min (t-(k+1)) d)<=4294967295*18446744073709551616:=Xk e ω;omega
end Go.Fg.X
namespace Go.Fg.X.SP
open Go.Proofs Go.Fg
open Go.Proofs.Tryz
@[go_sem] def N4(n:Int):List D:=[.raw (.int .i64 n)]
def lens(a:List Int)(l:List Ev)(k:Nat):List Int:=(List.range (k+1)).map λj=>(KI a l j:Int)
def Sa(a)(l:List Ev)(k:Nat):(lens a l k).length=k+1:=by simp[lens]
def QFY(a)(l:List Ev)(k):lens a l (k+1)=lens a l k++[(KI a l (k+1):Int)]:=by simp[lens,List.range_succ]
def bG(a)(l:List Ev)(k i:Nat)(h:i<k+1):(lens a l k).getD i default=(KI a l i:Int):=by simp[lens,QU,h]
def Qnn(l:List Ev)(a:List Int)(x:l.length<2147483648)(f:a.length<2147483648):QM prog 25 [YD l,ints a] (Mb 1 N4 (lens a l l.length)):=by
 refine Q1 1 func25 ntmps25 results25 λm w b=>?_;simp only[go_sem];refine ZY (λk s=>∃g,s=⟨[(1,ints a),(5,.ref 0 g 0 (k+1)),(10,YD l),(11,Qa l.length),(12,Qa k)],[⟨.arr,g,1,k+1,λi=>N4 ((lens a l k).getD i default)⟩]⟩) l.length
  (s0:=⟨[(1,ints a),(5,.ref 0 0 0 1),(10,YD l),(11,Qa l.length),(12,Qa 0)],[⟨.arr,0,1,0+1,λi=>N4 ((lens a l 0).getD i default)⟩]⟩)
  (Qs.to 1 (by simp only[go_sem];simp[lens,KI])) ⟨0,rfl⟩ ?_
 rintro k s y ⟨g,rfl⟩;have v:=Qm3 a l k;have t:=JJ (show k<4611686018427387904 from ω);have j:=JJ (show KI a l k<4611686018427387904 from ω);have q:=bG a l k k ω;apply Qg b;refine VX (λh=>?_) (λh=>?_)
 .have e:k<l.length:=by simpa using h
  simp only[go_sem,e];have r:k<k+1:=ω;have n:KI a l k≠0->IntKind.i64.wrap ((KI a l k:Int)-1)=((KI a l k-1:Nat):Int):=λ_=>by exact ZE
  have o:=QFY a l k;cases d:a.contains (l.getD k default).cls<;>cases p:(l.getD k default).Jz<;>by_cases c:KI a l k=0;all_goals
   simp only[go_sem,r,q];apply QZ b QfY (PF a (l.getD k default).cls f);apply Qh b;simp only[go_sem,d];apply QZ b QfY (PF a (l.getD k default).cls f);apply Qh b;first
    | simp only[go_sem,d,dp c,j,n c]
    | simp only[go_sem,d,rK c,j]
   refine⟨ω,e,_,Qs.to 1 ⟨?_,by simp only[go_sem],by simp only[go_sem],?_⟩,g+1,rfl⟩;simp only[go_sem,t];simp only[go_sem,o];intro i u;rw[QgP _ _ _ _ (by rw[Sa];exact u),Sa];cases decide (i<k+1);simp only[KI,GN,d,p,c];first|rfl|simp[c]
   rfl
 have e:k=l.length:=by simp at h;omega
 simp only[go_sem];apply Qg b;subst e;exact⟨g,by rw[Sa],by rw[Sa];rfl⟩
theorem c2:((2:Nat):Int)=2:=rfl
structure Good (l:List Ev) (out:List Sp) (k n:Nat):Prop where
 a:∀i,i<out.length->∃f:Nat,(out.getD i default).fst=f/\f<k/\(out.getD i default).Zv=(l.getD f default).at_ /\
  ((out.getD i default).BE=false->∃t:Nat,(out.getD i default).bD=t/\f<t/\t<k/\(out.getD i default).to=(l.getD t default).at_)
 b:∀i,i+1<out.length->(out.getD i default).BE=false/\(out.getD i default).bD<(out.getD (i+1) default).fst
 c:0<n↔0<out.length/\(out.getD (out.length-1) default).BE=true
def EF(b)(l:List Ev):∀k,Good l (Wg b l k) k (KI b l k)
 | 0=>⟨λi h=>by simp[Wg]at h,λi h=>by simp[Wg]at h,by simp[Wg,KI]⟩
 | k+1=>by
  have G:=EF b l k;have g:∀i,i<(Wg b l k).length->∃f:Nat,((Wg b l k).getD i default).fst=f/\f<k+1/\((Wg b l k).getD i default).Zv=(l.getD f default).at_ /\
    (((Wg b l k).getD i default).BE=false->∃t:Nat,((Wg b l k).getD i default).bD=t/\f<t/\t<k+1/\((Wg b l k).getD i default).to=(l.getD t default).at_):=λi c=>by
   obtain⟨f,j,o,q,p⟩:=G.a i c;exact⟨f,j,ω,q,λe=>let ⟨t,t1,t2,t3,t4⟩:=p e;⟨t,t1,t2,ω,t4⟩⟩
  have G:=G;simp only[Wg,KI,R5];generalize Wg b l k=a at *;generalize KI b l k=n at *;generalize GN n (l.getD k default) b=m at *;by_cases j:n=0/\0<m;rw[Qe j];have u:¬ (0<a.length/\(a.getD (a.length-1) default).BE=true):=λh=>by have:=G.c.2 h;omega
  refine⟨λi c=>?_,λi c=>?_,?_⟩;by_cases d:i<a.length;rw[gF _ _ _ _ d];exact g i d;have:i=a.length:=by simp at c;omega
  subst this;rw[rL];exact⟨k,rfl,ω,rfl,λe=>by cases e⟩;simp only[Zn,Kx,Lf]at c;rw[gF _ _ _ _ ω];by_cases d:i+1<a.length;rw[gF _ _ _ _ d];exact G.b i d;have e:i+1=a.length:=ω;rw[e,rL];have r:(a.getD i default).BE=false:=by cases s:(a.getD i default).BE;rfl;exact absurd ⟨ω,by rw[show a.length-1=i by omega];exact s⟩ u
  obtain⟨f,j,o,q,p⟩:=G.a i ω;obtain⟨t,t1,t2,t3,t4⟩:=p r;exact⟨r,by rw[t1];simp;omega⟩;simp only[Zn,Kx,Lf,cu,JG];rw[rL];exact⟨λ_=>⟨ω,rfl⟩,λ_=>j.2⟩;rw[Qd j];by_cases o:0<n/\m=0;rw[Qe o];obtain⟨v,c2⟩:=G.c.1 o.1;obtain⟨f,f1,f2,f3,f4⟩:=G.a (a.length-1) ω;refine⟨λi c=>?_,λi c=>?_,?_⟩;rw[Ky]at c;by_cases d:i=a.length-1;subst d;rw[rM _ _ _ _ ω];exact⟨f,f1,ω,f3,λ_=>⟨k,rfl,f2,ω,rfl⟩⟩;rw[rN _ _ _ _ _ (Zb d)];exact g i c;rw[Ky]at c;rw[rN _ _ _ _ _ (show a.length-1≠i from ω)];by_cases d:i+1=a.length-1;rw[d,rM _ _ _ _ ω];have:=G.b i c;rw[d]at this;exact this;rw[rN _ _ _ _ _ (Zb d)];exact G.b i c;rw[Ky,rM _ _ _ _ ω];exact⟨λh=>ω,λh=>by cases h.2⟩;rw[Qd o];refine⟨g,G.b,?_⟩;rw[<-G.c];omega
def Vg(a:List Int)(l:List Ev)(i:Nat):Nat->Sp
 | 0=>⟨(l.getD i default).at_,0,i,0,true⟩
 | k+1=>if i<k/\(Vg a l i k).BE=true/\KI a l (k+1)=0 then ⟨(l.getD i default).at_,(l.getD k default).at_,i,k,false⟩ else Vg a l i k
def XI(a:List Int)(l:List Ev):Nat->List Sp
 | 0=>[]
 | i+1=>if 0<KI a l i\/KI a l (i+1)=0 then XI a l i else XI a l i++[Vg a l i l.length]
def Qno(a)(l:List Ev):∀k,(XI a l k).length<=k
 | 0=>Qv _
 | k+1=>by have:=Qno a l k;simp only[XI];split<;>simp<;>omega
def Uv(l:List Ev)(a:List Int)(K:l.length<2147483648)(J:a.length<2147483648):QM prog 26 [YD l,ints a] (Mb 5 Sp.cells (XI a l l.length)):=by
 refine pO [1] rfl Vr 200 func26 rfl ntmps26 results26 rfl λI w c=>?_;simp only[go_sem];refine cA2 c QfW (Qnn l a K J) (Mb.flat λx=>rfl) λd h M=>?_;obtain⟨b,rfl,rfl⟩:=M;apply Qg c;rw[Sa];refine ZY (λk s=>∃g,s=⟨[(0,YD l),(5,.ref 0 b 0 (l.length+1)),(6,.ref 1 g 0 (XI a l k).length),(14,YD l),(15,Qa l.length),(16,Qa k)],[⟨.arr,b,1,l.length+1,λi=>N4 ((lens a l l.length).getD i default)⟩,⟨.arr,g,5,(XI a l k).length,λi=>((XI a l k).getD i default).cells⟩]⟩) l.length
  (s0:=⟨[(0,YD l),(5,.ref 0 b 0 (l.length+1)),(6,.ref 1 0 0 0),(14,YD l),(15,Qa l.length),(16,Qa 0)],[⟨.arr,b,1,l.length+1,λi=>N4 ((lens a l l.length).getD i default)⟩,⟨.arr,0,5,0,λi=>(([]:List Sp).getD i default).cells⟩]⟩)
  (Qs.trans (Qs.vr 6 5 (λi=>(([]:List Sp).getD i default).cells) rfl) (Qs.to 2 (by (simp only[go_sem])<;>simp))) ⟨0,rfl⟩ ?_
 rintro i s O ⟨g,rfl⟩;apply Qg c;have t:=JJ (show i<4611686018427387904 from ω);have H:=Qno a l i;refine VX (λh=>?_) (λh=>?_)
 .have o:i<l.length:=by simpa using h
  have u:i<l.length+1:=ω;have B:i+1<l.length+1:=ω;have v:(lens a l l.length).getD i default=(KI a l i:Int):=bG a l _ i u;have E:(lens a l l.length).getD (i+1) default=(KI a l (i+1):Int):=bG a l _ _ B;by_cases y:KI a l i=0;case neg=>
   have n:XI a l (i+1)=XI a l i:=by simp only[XI];rw[Qe ω]
   simp only[go_sem,o,u,v,dp y];repeat (refine And.intro η ?_)
   exact⟨_,Qs.to 2 (by (simp only[go_sem,t,n])<;>simp),g,rfl⟩
  by_cases F:KI a l (i+1)=0;case pos=>
   have n:XI a l (i+1)=XI a l i:=by simp only[XI];rw[Qe ω]
   simp only[go_sem,o,u,B,v,E,t,rK y,bz F];repeat (refine And.intro η ?_)
   exact⟨_,Qs.to 2 (by (simp only[go_sem,n])<;>simp),g,rfl⟩
  have n:XI a l (i+1)=XI a l i++[Vg a l i l.length]:=by simp only[XI];rw[Qd ω]
  simp only[go_sem,o,u,B,v,E,t,rK y,Pq F];refine ZY (λj s=>s=⟨[(0,YD l),(5,.ref 0 b 0 (l.length+1)),(6,.ref 1 g 0 (XI a l i).length),(7,Qa i),(8,.ptr 2 0 0 0),(9,.ptr 3 0 0 0),(14,YD l),(15,Qa l.length),(16,Qa i),(39,Qa l.length),(40,Qa j)],[⟨.arr,b,1,l.length+1,λi=>N4 ((lens a l l.length).getD i default)⟩,⟨.arr,g,5,(XI a l i).length,λk=>((XI a l i).getD k default).cells⟩,⟨.one,0,12,1,λ_=>(l.getD i default).cells⟩,⟨.one,0,5,1,λ_=>(Vg a l i j).cells⟩]⟩) l.length
   (s0:=⟨[(0,YD l),(5,.ref 0 b 0 (l.length+1)),(6,.ref 1 g 0 (XI a l i).length),(7,Qa i),(8,.ptr 2 0 0 0),(9,.ptr 3 0 0 0),(14,YD l),(15,Qa l.length),(16,Qa i),(39,Qa l.length),(40,Qa 0)],[⟨.arr,b,1,l.length+1,λi=>N4 ((lens a l l.length).getD i default)⟩,⟨.arr,g,5,(XI a l i).length,λk=>((XI a l i).getD k default).cells⟩,⟨.one,0,12,1,λ_=>(l.getD i default).cells⟩,⟨.one,0,5,1,λ_=>(Vg a l i 0).cells⟩]⟩)
   (Qs.to 4 (by (simp only[go_sem,Vg])<;>simp)) rfl ?_
  rintro j s N rfl;apply Qg c;refine VX (λz=>?_) (λz=>?_)
  .have m:j<l.length:=by simpa using z
   have f:j+1<l.length+1:=ω;have p:=JJ (show j<4611686018427387904 from ω);have C:(lens a l l.length).getD (j+1) default=(KI a l (j+1):Int):=bG a l _ _ f;by_cases r:i<j;case neg=>
    have e:Vg a l i (j+1)=Vg a l i j:=by simp only[Vg];rw[Qd (λx=>r x.1)]
    have d1:decide (i<j)=false:=by simp[r]
    simp only[go_sem,d1];repeat (refine And.intro η ?_)
    exact⟨_,Qs.to 4 (by (simp only[go_sem,p,e])<;>simp),rfl⟩
   have d1:decide (i<j)=true:=by simp[r]
   cases c2:(Vg a l i j).BE;case false=>
    have e:Vg a l i (j+1)=Vg a l i j:=by simp only[Vg];rw[Qd (λx=>by rw[c2]at x;cases x.2.1)]
    simp only[go_sem,d1];repeat (refine And.intro η ?_)
    exact⟨_,Qs.to 4 (by (simp only[go_sem,p,e,c2])<;>simp),rfl⟩
   by_cases q:KI a l (j+1)=0;case neg=>
    have e:Vg a l i (j+1)=Vg a l i j:=by simp only[Vg];rw[Qd (λx=>q x.2.2)]
    simp only[go_sem,d1,f,C,p,Pq q];repeat (refine And.intro η ?_)
    exact⟨_,Qs.to 4 (by (simp only[go_sem,e,c2])<;>simp),rfl⟩
   have e:Vg a l i (j+1)=⟨(l.getD i default).at_,(l.getD j default).at_,i,j,false⟩:=by simp only[Vg];rw[Qe ⟨r,c2,q⟩]
   simp only[go_sem,d1,f,C,p,bz q];apply Qy c o04;simp only[go_sem,m];repeat (refine And.intro η ?_)
   exact⟨_,Qs.to 4 (by (simp only[go_sem,p,e])<;>simp),rfl⟩
  have m:j=l.length:=by simp at z;omega
  subst m;simp only[go_sem];apply Qg c;repeat (refine And.intro η ?_)
  refine⟨_,Qs.to 2 ⟨?_,by simp only[go_sem],(by (simp only[go_sem])<;>simp),?_⟩,g+1,rfl⟩;simp only[go_sem,t,n,Zn];simp only[go_sem,n,Zn];intro k L;rw[QgP _ _ _ _ L];cases decide (k<(XI a l i).length)<;>rfl
 have o:i=l.length:=by simp at h;omega
 simp only[go_sem];apply Qg c;subst o;exact⟨g,rfl,rfl⟩
def Qnp(a)(l:List Ev)(i):∀j,(Vg a l i j).Zv=(l.getD i default).at_/\(Vg a l i j).fst=i
 | 0=>⟨rfl,rfl⟩
 | j+1=>by simp only[Vg];split;exact⟨rfl,rfl⟩;exact Qnp a l i j
def Qnq(a)(l:List Ev)(i):∀j,j<=i+1->Vg a l i j=⟨(l.getD i default).at_,0,i,0,true⟩
 | 0,_=>rfl
 | j+1,h=>by simp only[Vg];rw[Qd ω];exact Qnq a l i j ω
def vh(a:List Int)(l:List Ev):Nat->List Nat
 | 0=>[]
 | i+1=>if 0<KI a l i\/KI a l (i+1)=0 then vh a l i else vh a l i++[i]
def Qck(b)(l:List Ev):∀k,∀a∈vh b l k,a<k
 | 0,a,h=>by simp[vh]at h
 | k+1,a,h=>by simp only[vh]at h;split at h;have:=Qck b l k a h;omega;rcases Q3.1 h with h|h;have:=Qck b l k a h;omega;simp at h;omega
def Qcl(b)(l:List Ev):∀k,XI b l k=(vh b l k).map λa=>Vg b l a l.length
 | 0=>rfl
 | k+1=>by simp only[XI,vh];split;exact Qcl b l k;rw[Qcl b l k];simp
def Qnr(c)(l:List Ev):∀k,Wg c l k=(vh c l k).map λa=>Vg c l a k
 | 0=>rfl
 | k+1=>by
  have n:=Qnr c l k;have G:=EF c l k;rw[n]at G;have r:=Qck c l k;have d:(∀a∈vh c l k,(Vg c l a k).BE=true->KI c l (k+1)≠0)->(vh c l k).map (λa=>Vg c l a (k+1))=(vh c l k).map λa=>Vg c l a k:=λh=>by apply AB;intro a e;simp only[Vg];rw[Qd (λx=>h a e x.2.1 x.2.2)]
  simp only[Wg,R5,vh];rw[n];rw[show GN (KI c l k) (l.getD k default) c=KI c l (k+1) from rfl];by_cases p:KI c l k=0/\0<KI c l (k+1);rw[Qe p,Qd ω,zP,d (λa _ _=>ω)];simp[Qnq c l k (k+1) ω];rw[Qd p];by_cases g:0<KI c l k/\KI c l (k+1)=0;rw[Qe g,Qe ω];obtain⟨v,q⟩:=G.c.1 g.1;have w:=G.b;generalize B:vh c l k=L at *;rcases List.eq_nil_or_concat L with rfl|⟨I,a,rfl⟩;simp at v;simp only[List.concat_eq_append,zP,Jr,List.map_nil,Zn,KJ,Kx,Lf,cu,JG]at *;have j:(I.map (λa=>Vg c l a k)++[Vg c l a k]).getD I.length default=Vg c l a k:=by simp
  rw[j]at q ⊢;have e:a<k:=r a σ;have t:I.map (λa=>Vg c l a (k+1))=I.map λa=>Vg c l a k:=by apply AB;intro b s;obtain⟨i,f,rfl⟩:=j8 s;have:=(w i ω).1;rw[gF _ _ _ _ (zC f)]at this;simp only[QU,KR,QH f,Kq,Va]at this;simp only[Vg];rw[Qd (λx=>by rw[this]at x;cases x.2.1)]
  rw[t,Li _ _ σ];obtain⟨f1,f2⟩:=Qnp c l a k;have y:Vg c l a (k+1)=⟨(l.getD a default).at_,(l.getD k default).at_,a,k,false⟩:=by simp only[Vg];rw[Qe ⟨e,q,g.2⟩]
  rw[y];simp[f1,f2];rw[Qd g];by_cases u:KI c l (k+1)=0;rw[Qe ω];rw[d];intro a e o;exfalso;have z:KI c l k=0:=ω;obtain⟨i,f,rfl⟩:=j8 e;have j:((vh c l k).map λa=>Vg c l a k).getD i default=Vg c l (vh c l k)[i] k:=by simp[QU,f]
  by_cases m:i+1<(vh c l k).length;have:=(G.b i (zC m)).1;rw[j,o]at this;cases this;have:0<KI c l k:=G.c.2 ⟨ξ,by rw[show ((vh c l k).map λa=>Vg c l a k).length-1=i by simp;omega,j];exact o⟩
  omega;rw[Qe ω,d (λ_ _ _=>u)]
def QF0(l:List Ev)(a):XI a l l.length=Wg a l l.length:=by rw[Qcl,Qnr]
end Go.Fg.X.SP
namespace Go.Fg.X
open Go.Proofs Go.Fg Go.Fg.X.SP
open Go.Proofs.Tryz
def QF1(l:List Int)(a)(j:l.length<2147483648):QM prog 50 [ints l,Qa a] (QR (QV (l.contains a))):=by
 refine Q1 0 func50 ntmps50 results50 λi w f=>?_;simp only[go_sem];refine Hy (λm s=>∃k:Nat,k+m=l.length/\(l.take k).contains a=false/\s=⟨[(1,Qa a),(7,ints l),(8,Qa l.length),(9,Qa k)],[]⟩) l.length (s0:=⟨[(1,Qa a),(7,ints l),(8,Qa l.length),(9,Qa 0)],[]⟩) QP ⟨0,σ,σ,rfl⟩ ?_;rintro m s ⟨k,n,c,rfl⟩;apply Qg f;refine VX (λh=>?_) (λh=>?_);have d:k<l.length:=by simpa using h
 have g:=getD_take l 0 k d;simp only[go_sem,d];refine VX (λb=>?_) (λb=>?_);simp only[go_sem];have:l.contains a=true:=by rw[<-AF (k+1) l,g];simp at b ⊢;simp[b]
 rw[this];simp only[go_sem];refine⟨m-1,_,ω,Qs.frame (by simp only[go_sem,JJ (show k<4611686018427387904 from ω)]),k+1,ω,?_,rfl⟩;rw[g];simp at c b ⊢;exact⟨c,λe=>b e.symm⟩;have d:k=l.length:=by simp at h;omega
 simp only[go_sem];apply Qg f;subst d;simp at c;simp[c]
def QF2(l:List Ev)(a:List Int)(f t)(L:l.length<2147483648)(I:a.length<2147483648)(K:∀e∈l,e.GO)(H:∀e∈l,0<=e.len/\e.len<=16384):QM prog 28 [YD l,Qa 2,ints a,u64 f,u64 t] (QR (u64 (R9 l a f t))):=by
 have J:(true != false)=true:=rfl;have p:(false != false)=false:=rfl;refine Q1 0 func28 ntmps28 results28 λC w c=>?_;simp only[go_sem];refine xT (G:=Nat) [1,2,3,4,14,15] (λk=>True) (λk h=>[(11,u64 ((l.take k).foldl (KC a (jr f t)) 0)),(16,Qa k)]) (λk h=>[]) (l.length) (0) rfl (Qs.to 0 (by (simp only[go_sem,List.take_zero,List.foldl_nil,CH])<;>simp)) trivial ?_;intro k h x _;apply Qg c;have o:=JJ (show k<4611686018427387904 from ω);first|refine WN x (λd=>?_) (λd=>?_)|refine WO x (λd=>?_) (λd=>?_)
 .have b:(l.take (k+1)).foldl (KC a (jr f t)) 0=KC a (jr f t) ((l.take k).foldl (KC a (jr f t)) 0) (l.getD k default):=by rw[getD_take _ default _ ω,qu];rfl
  obtain⟨e,i⟩:=Zc (l.getD k default);have u:e∈l:=by rw[i];exact YZ l default k d
  have M:=H e u;have n:=QF1 a e.cls I;obtain⟨m,r⟩:∃t:Nat,e.len=t:=⟨e.len.toNat,ω⟩;have B:decide (e.len<0)=false:=QN ω;have v:decide ((m:Int)<0)=false:=QN ω;rw[<-i]at b;generalize (l.take k).foldl (KC a (jr f t)) 0=s at *;cases j:e.Jz with
  | true=>
   have g:KC a (jr f t) s e=s:=by unfold KC jr;rw[j];rfl
   rw[g]at b;simp only[go_sem,d,<-i,j,Go.undef,J];repeat (refine And.intro η ?_)
   refine⟨_,Qs.to 0 (by (simp only[go_sem,o,b])<;>simp),Vj.mk (h) (trivial)⟩
  | false=>
   cases q:a.contains e.cls with
   | false=>
    have g:KC a (jr f t) s e=s:=by unfold KC;rw[q,Lb];rfl
    rw[g]at b;rw[q]at n;simp only[go_sem,d,<-i,j,p];apply QZ c fU n;apply Qh c;simp only[go_sem,Go.undef];repeat (refine And.intro η ?_)
    refine⟨_,Qs.to 0 (by (simp only[go_sem,o,b])<;>simp),Vj.mk (h) (trivial)⟩
   | true=>
    rw[q]at n;by_cases z:(f:Int)<e.done
    .have d1:=QY z;by_cases y:e.done<=(t:Int);have d2:=QY y;have g:KC a (jr f t) s e=(s+m)%18446744073709551616:=by unfold KC jr;rw[q,j,d1,d2,r];rfl
     have F:IntKind.u64.wrap (m:Int)=(m:Int):=κ;have E:IntKind.u64.wrap ((s:Int)+(m:Int))=(((s+m)%18446744073709551616:Nat):Int):=κ;rw[g]at b;simp only[go_sem,d,<-i,j,p];refine WR c fU ?_ n ?_;simp only[go_sem,r];apply Qh c;simp only[go_sem,Go.undef,v,d1,d2,r,F,E];repeat (refine And.intro η ?_)
     refine⟨_,Qs.to 0 (by (simp only[go_sem,o,b])<;>simp),Vj.mk (h) (trivial)⟩;have d2:=QN y;have g:KC a (jr f t) s e=s:=by unfold KC jr;rw[d2,Lb,Lb];rfl
     rw[g]at b;simp only[go_sem,d,<-i,j,p];apply QZ c fU n;apply Qh c;simp only[go_sem,Go.undef,B,d1,d2];repeat (refine And.intro η ?_)
     refine⟨_,Qs.to 0 (by (simp only[go_sem,o,b])<;>simp),Vj.mk (h) (trivial)⟩
    have d1:=QN z;have g:KC a (jr f t) s e=s:=by unfold KC jr;rw[d1,N9,Lb];rfl
    rw[g]at b;simp only[go_sem,d,<-i,j,p];apply QZ c fU n;apply Qh c;simp only[go_sem,Go.undef,B,d1];repeat (refine And.intro η ?_)
    refine⟨_,Qs.to 0 (by (simp only[go_sem,o,b])<;>simp),Vj.mk (h) (trivial)⟩
 simp only[go_sem];subst d;rw[Wo];apply Qg c;rfl
def QF5(c:Cf)(K:Wm c)(a d b t)(z:t<18446744073709551616):QM prog 30 [.agg c.cells,MQ a d b,u64 t] (QR (dg (BG ⟨a,d,b⟩ (c.Ze.toNat*c.t.toNat) t))):=by
 have y:=K.l1;have x:=K.l2;have v:=K.t1;have u:=K.t2;obtain⟨T,i⟩:∃T:Nat,c.t=T:=⟨c.t.toNat,ω⟩;obtain⟨L,j⟩:∃L:Nat,c.Ze=L:=⟨c.Ze.toNat,ω⟩;have r:L*T<=16384*65536:=Xk ω ω;have n:IntKind.u64.wrap (T:Int)=(T:Int):=κ;have m:IntKind.u64.wrap (L:Int)=(L:Int):=κ;obtain⟨s,p⟩:=Zc (L*T+1);have l:IntKind.u64.wrap ((T:Int)*(L:Int))=((L*T:Nat):Int):=by rw[<-zO,EY T L,IntKind.wrap_u64];omega
 have k:IntKind.u64.wrap (((L*T:Nat):Int)+1)=((s:Nat):Int):=κ;have e:BG ⟨a,d,b⟩ (c.Ze.toNat*c.t.toNat) t=if t<s then 0 else Jg a d b (t-s):=by unfold BG;rw[p,j,i];rfl
 rw[e];by_cases h:t<s
 .have d1:=QY h;rw[Qe h];refine Q1 0 func30 ntmps30 results30 λf w g=>?_;simp only[go_sem];simp only[go_sem,i,j,n,m,l,k,d1];all_goals rfl
 have d1:=QN h;rw[Qd h];have o:IntKind.u64.wrap (((t:Nat):Int)-((s:Nat):Int))=((t-s:Nat):Int):=κ;have q:=Qir a d b (t-s) ω;refine Q1 0 func30 ntmps30 results30 λf w g=>?_;simp only[go_sem];simp only[go_sem,i,j,n,m,l,k,d1,o];apply QZ g Qf1 q;exact VT g
end Go.Fg.X
namespace Go.Fg.X
open Go.Proofs Go.Fg
open Go.Proofs.Tryz
def QF6(d:D)(a:List Ob):D->List Ob->Prop:=λb h=>b=d/\h=a
attribute [go_sem] QF6
structure Cm where
 t:Nat
 b:Nat
instance:Inhabited Cm:=⟨⟨0,0⟩⟩
structure Bu where
 last:Nat
 sum:Nat
 fill:Nat
 QF7:Nat
def nH(b:Nat):Nat:=min b 1099511627777
def Bu.next(m:Nat)(s:Bu)(c:Cm):Bu:=⟨c.t,nH (s.sum+nH c.b),(s.fill-m*(c.t-s.last))+nH c.b*65536,max s.QF7 ((s.fill-m*(c.t-s.last))+nH c.b*65536)⟩
def Cm.Ok(c:Cm):Prop:=c.t<18446744073709551616/\c.b<9223372036854775808
def QF8:(default:Ev).GO:=by refine⟨?_,?_⟩<;>rfl
def QF9{l:List Ev}(h:∀e∈l,e.GO)(k):(l.getD k default).GO:=by by_cases a:k<l.length;rw[QU,QH a];exact h _ (XK a);rw[QU,EW ω];exact QF8
end Go.Fg.X
namespace Go.Fg.X
open Go.Proofs Go.Fg Go.Fg.X.SP
open Go.Proofs.Tryz
def QGa(a)(l:List Ev)(b:∀e∈l,e.GO)(j)(c:j<(Wg a l l.length).length):0<=((Wg a l l.length).getD j default).Zv/\((Wg a l l.length).getD j default).Zv<=18446744073709551615:=by obtain⟨f,_,_,h,_⟩:=(EF a l l.length).a j c;rw[h];exact wf_u64 (QF9 b f).1
def QGb(c)(K:Wm c)(a d b)(E:List Ev)(f g)(hE:E.length<1048576)(ho:∀e∈E,e.GO)(hn:∀e∈E,0<=e.len/\e.len<=16384)(Wd:g<18446744073709551616):
  QM prog 13 [.agg c.cells,MQ a d b,YD E,Qa f,u64 g] (QR (QV (bF ⟨a,d,b⟩ (c.Ze.toNat*c.t.toNat) c.Ze.toNat E f g))):=by
 have hM:=QlE c;rw[show Gy c=true by unfold Gy;simp[K.t1,K.t2,K.l1,K.l2]]at hM;have k1:=K.l1;have k2:=K.l2;have B:=Qnn E [f] ω σ;have v:=SP.Uv E [f] ω σ;rw[QF0]at v;have H:=QGa [f] E ho;have uZ:=Qm4 [f] E E.length;have XY:=Sa [f] E E.length;have Q:=bG [f] E E.length E.length (EX _);have Y0:=EX E.length;obtain⟨q,hq⟩:=Zc (KI [f] E E.length);rw[<-hq]at Q;obtain⟨L,hL⟩:=Zc (Wg [f] E E.length);rw[<-hL]at v H uZ;obtain⟨LL,V⟩:=Zc (lens [f] E E.length);rw[<-V]at B XY Q;have oJ:bF ⟨a,d,b⟩ (c.Ze.toNat*c.t.toNat) c.Ze.toNat E f g=(!decide (0<q) || L.any λs=>xC ⟨a,d,b⟩ (c.Ze.toNat*c.t.toNat) c.Ze.toNat E f g s.Zv.toNat):=by unfold bF;rw[hq,hL]
 rw[oJ];obtain⟨o,xk⟩:∃o:Nat,o=c.Ze.toNat:=⟨_,rfl⟩;have F:c.Ze.toNat=o:=xk.symm;have wl:IntKind.u64.wrap c.Ze=(o:Int):=κ;refine Q1 0 func13 ntmps13 results13 λa0 w l=>?_;simp only[go_sem];apply QZ l pX hM;apply Qg l;refine X2 l QfW rfl ?_ B (Mb.flat λx=>rfl) rfl λd h N=>?_;simp only[go_sem];intro i M;obtain rfl:i=0:=ω;rfl;obtain⟨gL,rfl,rfl⟩:=N;apply Qh l;simp only[go_sem,XY,Y0,Q];by_cases Bm:q=0;have d0:=bz Bm;have P:decide (0<q)=false:=QN ω;simp only[go_sem,d0];rw[P];rfl;have d0:=Pq Bm;have P:decide (0<q)=true:=QY ω;simp only[go_sem,d0];rw[P,BI,GV];refine X2 l Qtx rfl ?_ v (Mb.flat λx=>rfl) rfl λd h N=>?_;simp only[go_sem];intro i M;obtain rfl:i=0:=ω;rfl;obtain⟨gS,rfl,rfl⟩:=N;simp only[go_sem];refine DM (Qs.freeze rfl 5 rfl rfl (λi M=>rfl)) ?_;simp only[go_sem];apply Qg l;refine xT (G:=Nat) [2,3,4,5,6,29,30] (λk=>∀j,j<k->xC ⟨a,d,b⟩ (c.Ze.toNat*c.t.toNat) c.Ze.toNat E f g (L.getD j default).Zv.toNat=false) (λk I=>[(31,Qa k)]) (λk I=>[⟨.one,0,2,1,λ_=>c.cells⟩,⟨.one,0,3,1,λ_=>[u64 a,u64 d,u64 b]⟩]) (L.length) (0) rfl (Qs.to 2 (by (simp only[go_sem])<;>simp)) ?_ ?_;intro j y;omega;intro k I hk JR;apply Qg l;have QS:=JJ (show k<4611686018427387904 from ω);first|refine WN hk (λu=>?_) (λu=>?_)|refine WO hk (λu=>?_) (λu=>?_)
 have ZJ:=u;obtain⟨s,r⟩:=Zc (L.getD k default);have hf:=H k ZJ;rw[<-r]at hf;obtain⟨m,Yk⟩:∃n:Nat,s.Zv=n:=⟨s.Zv.toNat,ω⟩;have C:s.Zv.toNat=m:=ω;have kC:m<18446744073709551616:=ω;have Z:xC ⟨a,d,b⟩ (c.Ze.toNat*c.t.toNat) c.Ze.toNat E f g m=false->∀j,j<k+1->xC ⟨a,d,b⟩ (c.Ze.toNat*c.t.toNat) c.Ze.toNat E f g (L.getD j default).Zv.toNat=false:=λh j y=>by rcases xJ.1 y with J|rfl;exact JR j J;rw[<-r,C];exact h
 have R:xC ⟨a,d,b⟩ (c.Ze.toNat*c.t.toNat) c.Ze.toNat E f g m=true->(L.any λs=>xC ⟨a,d,b⟩ (c.Ze.toNat*c.t.toNat) c.Ze.toNat E f g s.Zv.toNat)=true:=λh=>by refine j6.2 ⟨s,?_,by rw[C];exact h⟩;rw[r];exact YZ L default k ZJ
 by_cases J:g<m;have d1:=QY J;have O:xC ⟨a,d,b⟩ (c.Ze.toNat*c.t.toNat) c.Ze.toNat E f g m=false:=by unfold xC;rw[d1];rfl
 simp only[go_sem,u,<-r,Yk,d1];repeat (refine And.intro η ?_)
 refine⟨_,Qs.to 2 (by (simp only[go_sem,QS])<;>simp),Vj.mk (I) (Z O)⟩;have d1:=QN J;have z:=QF2 E [f] m g ω σ ho hn;have lu:=QFW (lm:=c.Ze.toNat) hE (λe he=>(hn e he).2) ω f g m;obtain⟨p,Y⟩:=Zc (R9 E [f] m g);have O:xC ⟨a,d,b⟩ (c.Ze.toNat*c.t.toNat) c.Ze.toNat E f g m=decide (BG ⟨a,d,b⟩ (c.Ze.toNat*c.t.toNat) (g-m)<(p+o)*65536):=by unfold xC;rw[d1,Y,F];rfl
 rw[<-Y]at z lu;rw[F]at lu;have w3:IntKind.u64.wrap ((p:Int)+(o:Int))=((p+o:Nat):Int):=κ;have w4:IntKind.u64.wrap ((g:Int)-(m:Int))=((g-m:Nat):Int):=κ;have T:=MP (p+o) 65536 ω π;have W:=QF5 c K a d b (g-m) ω;have S:=QFX a d b (c.Ze.toNat*c.t.toNat) (t:=g-m) ω;have U:=Qii (BG ⟨a,d,b⟩ (c.Ze.toNat*c.t.toNat) (g-m)) ((p+o)*65536) S ω;simp only[go_sem,u,<-r,Yk,d1];apply Qy l [0,1,3,4,5,7,8,9,1002,1006,10,1011,1012,1013];simp only[go_sem,wl];refine yQ l Qty ?_ z ?_;simp only[go_sem];intro i M;obtain rfl:i=0:=ω;rfl;apply Jb l;simp only[go_sem,w3];apply ZP l Mm T;apply ZB l;apply Qy l [0,1,2,3,4,5,7,1006,1008];simp only[go_sem,w4];apply ZP l Qtz W;apply ZB l;apply ZP l QfX U;apply ZB l;rw[<-O];cases Ig:xC ⟨a,d,b⟩ (c.Ze.toNat*c.t.toNat) c.Ze.toNat E f g m with
 | true=>simp only[go_sem];rw[R Ig]
 | false=>
  simp only[go_sem];repeat (refine And.intro η ?_)
  refine⟨_,Qs.to 2 (by (simp only[go_sem,QS])<;>simp),Vj.mk (I) (Z Ig)⟩
 subst u;have e2:(L.any λs=>xC ⟨a,d,b⟩ (c.Ze.toNat*c.t.toNat) c.Ze.toNat E f g s.Zv.toNat)=false:=by rw[Of];intro s r;obtain⟨j,y,rfl⟩:=j8 r;have:=JR j y;rw[QU,QH y]at this;simpa using this
 rw[e2];simp only[go_sem];exact VT l
end Go.Fg.X
namespace Go.Fg.X
open Go.Proofs Go.Fg
open Go.Proofs.Tryz
structure qU (c:Nc):Prop where
 k:c.of=2\/c.of=3\/c.of=4
 a:c.a<=4294967295
 b:c.b<=4294967295
 d:c.d<=1048576
 ba:c.of=3->c.b<c.a
 two:c.of=2->c.d=0
 four:c.of=4->c.a=0
def Qnx{c:Cv}(b:c.Nn)(a:1<QJ c):qU (Jv c):=by
 obtain⟨k,j,i⟩:=b;have d:(Jv c).of=2/\c.d=0/\c.m1<=4294967295/\c.m2<=4294967295\/(Jv c).of=3/\c.m2<c.m1/\c.m1<=4294967295/\c.m2<=4294967295/\c.d<=1048576\/(Jv c).of=4/\c.m1=0/\c.m2<=4294967295/\c.d<=1048576:=by
  unfold QJ at a;unfold Nc.of Ku Jv;dsimp only
  (repeat' split at a)<;>(try omega)<;>(repeat' split)<;>omega
 have g:(Jv c).a=c.m1.toNat:=rfl;have f:(Jv c).b=c.m2.toNat:=rfl;have e:(Jv c).d=c.d.toNat:=rfl;refine⟨ω,ω,ω,ω,λh=>ω,λh=>ω,λh=>ω⟩
def dX(c:Nc):Nat:=if c.of=4 then c.d else 0
def kX(c:Nc):Int:=if c.of=3 then ((c.a:Int)-c.b)*c.d else 0
def Qny{c}(C:qU c):0<=kX c:=by unfold kX;split;rename_i h;have:=C.ba h;exact Int.mul_nonneg ω (ES _);exact qW _
def wx(c:Nc)(e:Nat)(p:Nat × Nat):Int:=(p.2:Int)*65536+kX c-(c.b:Int)*(p.1+e)
def La(c:Nc)(p:Nat × Nat):Int:=(p.2:Int)*65536-(c.a:Int)*p.1
structure jW (c:Nc) (e lw:Nat) (W:List (Nat × Nat)) (r:Rn):Prop where
 b:r.b=decide (c.of=3)
 t:Ar c.b (lw+e) r.t
 f:c.of=3->Ar c.a lw r.f
 tl:∀p∈W,Wy r.t<=wx c e p
 te:∃p∈W,Wy r.t=wx c e p
 fl:c.of=3->∀p∈W,Wy r.f<=La c p
 fe:c.of=3->∃p∈W,Wy r.f=La c p
def Qnz{a b}:jd a b=a\/jd a b=b:=by unfold jd;split;exact .inr rfl;exact .inl rfl
def QnA{c}(C:qU c){a P e}(q:a<=4611686018427387904)(t:P<18446744073709551616){r}
  (h:(r=jf c a (P*65536)/\e=0)\/(r=VC c a (P*65536)/\e=dX c)):jW c e a [(a,P)] r:=by
 have s:=C.k;have m:=C.d;by_cases d:c.of=3;have g:e=0:=by rcases h with ⟨_,h⟩|⟨_,h⟩;exact h;rw[h];unfold dX;exact Qd ω
 have b:r=⟨⟨a,P*65536,c.a⟩,⟨a,(P*65536+(c.a-c.b)*c.d)%2^128,c.b⟩,true⟩:=by rcases h with ⟨h,_⟩|⟨h,_⟩;rw[h,tH d];rw[h];unfold VC;rw[Qd ω,tH d]
 have o:=C.ba d;have l:(c.a-c.b)*c.d<=4503599626321920:=by have u:=C.a;exact J5 (Xk (show c.a-c.b<=4294967295 from ω) m) π
 have em:(P*65536+(c.a-c.b)*c.d)%2^128=P*65536+(c.a-c.b)*c.d:=kg ω;have n:(((c.a-c.b)*c.d:Nat):Int)=kX c:=by unfold kX;rw[Qe d,zO,bO ω]
 rw[em]at b;have i:Wy r.t=wx c e (a,P):=by rw[b,g];unfold Wy wx;rw[<-n];show ((P*65536+(c.a-c.b)*c.d:Nat):Int)-(c.b:Int)*a=(P:Int)*65536+(((c.a-c.b)*c.d:Nat):Int)-(c.b:Int)*((a:Int)+(0:Nat));rw[show ((a:Int)+(0:Nat))=(a:Int) by omega];omega
 have j:Wy r.f=La c (a,P):=by rw[b];unfold Wy La;show ((P*65536:Nat):Int)-(c.a:Int)*a=(P:Int)*65536-(c.a:Int)*a;omega
 refine⟨by rw[b];exact(QY d).symm,?_,λ_=>?_,λp f=>?_,⟨_,Oj _,i⟩,λ_ p f=>?_,λ_=>⟨_,Oj _,j⟩⟩;rw[b];exact⟨rfl,Lk _ _,by show P*65536+(c.a-c.b)*c.d<=_;omega⟩;rw[b];exact⟨rfl,Qv _,by show P*65536<=_;omega⟩;rw[Xj]at f;rw[f,i];exact qW _;rw[Xj]at f;rw[f,j];exact qW _;have b:r.b=false/\r.t=⟨a+e,P*65536,c.b⟩:=by rcases h with ⟨h,g⟩|⟨h,g⟩;rw[h,g,UB ω];exact⟨rfl,rfl⟩;rw[h,g];unfold VC dX;split;rw[kg ω];exact⟨rfl,rfl⟩;rw[UB ω];exact⟨rfl,rfl⟩
 have i:Wy r.t=wx c e (a,P):=by rw[b.2];unfold Wy wx kX;rw[Qd d];show ((P*65536:Nat):Int)-(c.b:Int)*((a+e:Nat):Int)=(P:Int)*65536+0-(c.b:Int)*((a:Int)+e);rw[Int.natCast_add];omega
 refine⟨by rw[b.1];exact(QN d).symm,?_,λk=>absurd k d,λp f=>?_,⟨_,Oj _,i⟩,λk=>absurd k d,λk=>absurd k d⟩;rw[b.2];exact⟨rfl,Qv _,by show P*65536<=_;omega⟩;rw[Xj]at f;rw[f,i];exact qW _
def QnB{c}(C:qU c){e m d p W r s}(w:m<=d)(y:d<=4611686018427387904)(z:e<=1048576)(g:jW c e m W r)(l:jW c e d [p] s):jW c e d (p::W) (Y6 r s):=by
 have u:=g.t.le (show m+e<=d+e from ω);obtain⟨t1,t2,t3⟩:=QmO u l.t C.b ω;have v:=l.tl p (Oj _);have t:∃q∈p::W,Wy (jd r.t s.t)=wx c e q:=by rcases Qnz (a:=r.t) (b:=s.t) with h|h;obtain⟨q,i,j⟩:=g.te;exact⟨q,Js _ i,by rw[h,j]⟩;obtain⟨q,i,j⟩:=l.te;rw[Xj]at i;exact⟨p,Jo,by rw[h,j,i]⟩
 have o:∀q∈p::W,Wy (jd r.t s.t)<=wx c e q:=λq hq=>by rcases QK.1 hq with rfl|hq;exact Int.le_trans t3 v;exact Int.le_trans t2 (g.tl q hq)
 by_cases f:c.of=3;have x:r.b=true:=g.b.trans (QY f);have n:(Y6 r s).f=jd r.f s.f:=by unfold Y6;rw[x];rfl
 obtain⟨f1,f2,f3⟩:=QmO ((g.f f).le w) (l.f f) C.a ω;refine⟨g.b,t1,λ_=>by rw[n];exact f1,o,t,λ_ q hq=>?_,λ_=>?_⟩;rw[n];rcases QK.1 hq with rfl|hq;exact Int.le_trans f3 (l.fl f q (Oj _));exact Int.le_trans f2 (g.fl f q hq);rw[n];rcases Qnz (a:=r.f) (b:=s.f) with h|h;obtain⟨q,i,j⟩:=g.fe f;exact⟨q,Js _ i,by rw[h,j]⟩;obtain⟨q,i,j⟩:=l.fe f;rw[Xj]at i;exact⟨p,Jo,by rw[h,j,i]⟩;exact⟨g.b,t1,λk=>absurd k f,o,t,λk=>absurd k f,λk=>absurd k f⟩
def Sb{m X x w l}(h:Ar m X l)(i:m<=4294967295)(p:X<=x)(o:x<=4611686018428436480)(c:x<Xe l w):Wy l+(m:Int)*x<w:=by
 have hx:=h.x;have e:((m*(x-l.x):Nat):Int)=(m:Int)*x-(m:Int)*l.x:=by rw[zO,bO ω,Int.mul_sub]
 unfold Wy;rw[h.m];suffices l.y+m*(x-l.x)<w by omega
 have b:∀k,x-l.x<k->k<=cdiv (w-l.y) m->0<m->l.y<w->l.y+m*(x-l.x)<w:=λk j n d f=>by
  have:m*(x-l.x)<w-l.y:=by
   refine cC λg=>?_;have:cdiv (w-l.y) m<=x-l.x:=by unfold cdiv;rw[Nat.div_le_iff_le_mul_add_pred d];omega
   omega
  omega
 unfold Xe at c;split at c;omega;rename_i f;rw[h.m]at c;by_cases d:m=0;rw[d,G1];omega;split at c;rename_i a;rcases a with a|a|a|a;exact absurd a d;exact b _ ω a ω ω;unfold never at a;omega;exact b (never-l.x) (by unfold never;omega) a ω ω;exact b (cdiv (w-l.y) m) ω (Qv _) ω ω
structure vj (c:Nc) (t0 base:Nat) (r:Rn):Prop where
 t:Wy r.t+(c.b:Int)*((t0:Int)+dX c)<=(base:Int)*65536+kX c
 f:c.of=3->Wy r.f+(c.a:Int)*t0<=(base:Int)*65536\/Wy r.t+(c.b:Int)*t0<=(base:Int)*65536
def Ax{c:Nc}(C:qU c)(t):Jg c.a c.d c.b t=c.a*min t c.d+c.b*(t-min t c.d):=by have b:=C.k;have a:Ku c.a c.d c.b=c.of:=rfl;unfold Jg;rw[a,Qd ω]
def vj.ser{c}(C:qU c){s a b V x W r}(l:vj c a b r)(j:jW c (dX c) s W r)(F:s+dX c<=x)(v:x<=9223372036854775807)(g:KG r (V*65536)<=x)(S:b<V):
  a<x/\V*65536<=b*65536+Jg c.a c.d c.b (x-a):=by
 have R:=C.k;have E:Xe r.t (V*65536)<=x:=by unfold KG at g;split at g<;>omega
 have P:=nD j.t C.b F v E;have n:=l.t;rw[Ax C];have M:=Qny C;have mono:∀(m y:Nat),y<=a->(m:Int)*y<=(m:Int)*a:=λm y h=>Sl ω (ES _);have p:(c.b:Int)*((a:Int)+dX c)=(c.b:Int)*a+(c.b:Int)*dX c:=ER _ _ _;have K:(0:Int)<=(c.b:Int)*dX c:=Int.mul_nonneg (ES _) (ES _);by_cases e:c.of=3;have L:=C.ba e;have q:Xe r.f (V*65536)<=x:=by unfold KG at g;rw[Qe (j.b.trans (QY e))]at g;omega
 have Q:=nD (j.f e) C.a ω v q;have o:dX c=0:=Qd ω;have k:kX c=((c.a:Int)-c.b)*c.d:=Qe e;rw[o]at n p K;have w:a<x:=cC λh=>by have B:=mono c.a x h;have O:=mono c.b x h;rcases l.f e with d|d<;>omega
 refine⟨w,?_⟩;obtain⟨t,u⟩:=Zc (x-a);have i:(x:Int)=a+t:=ω;have T:(c.a:Int)*x=(c.a:Int)*a+(c.a:Int)*t:=by rw[i,ER]
 have I:(c.b:Int)*x=(c.b:Int)*a+(c.b:Int)*t:=by rw[i,ER]
 have N:((c.a*t:Nat):Int)=(c.a:Int)*t:=zO _ _;have z:((c.b*t:Nat):Int)=(c.b:Int)*t:=zO _ _;have Z:c.b*t<=c.a*t:=V6 t ω;rw[<-u];by_cases H:t<=c.d;rw[wC H,YO,EZ,vn];rcases l.f e with d|d<;>omega;rw[kb ω];have Y:((c.a*c.d:Nat):Int)=(c.a:Int)*c.d:=zO _ _;have U:((c.b*(t-c.d):Nat):Int)=(c.b:Int)*t-(c.b:Int)*c.d:=by rw[zO,bO ω,Int.mul_sub]
 have J:((c.a:Int)-c.b)*c.d=(c.a:Int)*c.d-(c.b:Int)*c.d:=Int.sub_mul _ _ _;rw[k,J]at n;omega;have k:kX c=0:=Qd e;rw[k]at n;have w:a+dX c<x:=cC λh=>by have B:(c.b:Int)*x<=(c.b:Int)*((a:Int)+dX c):=Sl ω (ES _);omega
 refine⟨ω,?_⟩;obtain⟨t,u⟩:=Zc (x-a-dX c);have i:(x:Int)=(a:Int)+dX c+t:=ω;have I:(c.b:Int)*x=(c.b:Int)*((a:Int)+dX c)+(c.b:Int)*t:=by rw[i,ER]
 have z:((c.b*t:Nat):Int)=(c.b:Int)*t:=zO _ _;by_cases d:c.of=4;have o:dX c=c.d:=Qe d;rw[C.four d,G1,JG,kb ω,show x-a-c.d=t by omega];omega;have o:dX c=0:=Qd d;rw[C.two ω,Nat.min_zero,EZ,JG,Dn,show x-a=t by omega];omega
section
variable {c:Nc}(C:qU c)
include C
theorem Qcq{a P V W r}(m:a<=4611686018427387904)(d:jW c (dX c) a W r)(g:(a,P)∈W)(o:P<V):a+dX c<KG r (V*65536):=cC λh=>by
 have n:=C.d;have l:dX c<=1048576:=by unfold dX;split<;>omega
 by_cases e:c.of=3;have j:r.b=true:=d.b.trans (QY e);have p:dX c=0:=Qd ω;have f:Xe r.f (V*65536)<=a:=by unfold KG at h;rw[Qe j]at h;omega
 have k:=nD (d.f e) C.a (Qv _) ω f;have b:=d.fl e _ g;unfold La at b;dsimp only at b;omega;have i:Xe r.t (V*65536)<=a+dX c:=by unfold KG at h;split at h<;>omega
 have k:=nD d.t C.b (Qv _) ω i;have b:=d.tl _ g;unfold wx kX at b;rw[Qd e]at b;dsimp only at b;rw[Int.natCast_add]at k;omega
theorem QnD{g t P W i d}(b:jW c 0 g W d)(h:jW c (dX c) g W i)(v:∀p∈W,p.1<=g)(x:g<=t)(I:t<=4611686018427387904)(f:t<KG d (P*65536)):vj c t P i:=by
 have F:=Qny C;have B:Wy i.t=Wy d.t-(c.b:Int)*dX c:=by
  have o:∀p,wx c (dX c) p=wx c 0 p-(c.b:Int)*dX c:=λp=>by unfold wx;rw[show ((p.1:Int)+(0:Nat))=(p.1:Int) by omega,ER];omega
  obtain⟨p,e,m⟩:=b.te;obtain⟨q,l,r⟩:=h.te;have j:=b.tl q l;have s:=h.tl p e;rw[o]at s r;omega
 by_cases a:c.of=3;have z:d.b=true:=b.b.trans (QY a);have n:dX c=0:=Qd ω;have J:kX c=((c.a:Int)-c.b)*c.d:=Qe a;rw[n,show (((0:Nat):Int))=0 from rfl,Int.mul_zero]at B;have K:Wy i.f=Wy d.f:=by obtain⟨p,e,m⟩:=b.fe a;obtain⟨q,l,r⟩:=h.fe a;have j:=b.fl a q l;have s:=h.fl a p e;omega
 unfold KG at f;rw[Qe z]at f;by_cases y:t<Xe d.f (P*65536);have k:=Sb (b.f a) C.a x ω y;obtain⟨p,e,m⟩:=b.fe a;have j:=b.tl p e;have H:=v p e;have E:=C.ba a;have w:((c.a:Int)-c.b)*p.1<=((c.a:Int)-c.b)*t:=Sl ω ω;rw[Int.sub_mul,Int.sub_mul]at w;unfold wx at j;unfold La at m;rw[show ((p.1:Int)+(0:Nat))=(p.1:Int) by omega]at j;refine⟨?_,λ_=>.inl ω⟩;rw[n,show ((t:Int)+(0:Nat))=(t:Int) by omega];omega;have k:=Sb b.t C.b ω ω (show t<Xe d.t (P*65536) from ω);refine⟨?_,λ_=>.inr ω⟩;rw[n,show ((t:Int)+(0:Nat))=(t:Int) by omega];omega;have u:t<Xe d.t (P*65536):=by unfold KG at f;rw[Qd (by rw[b.b,QN a];exact xE)]at f;exact f
 have k:=Sb b.t C.b ω ω u;refine⟨?_,λk=>absurd k a⟩;rw[ER];omega
theorem QnE{b a P W r}(d:jW c (dX c) a ((a,P)::W) r)(h:b<=a):vj c b P r:=by have f:=d.tl _ Jo;have j:(c.b:Int)*((b:Int)+dX c)<=(c.b:Int)*((a:Int)+dX c):=Sl ω (ES _);have i:(c.a:Int)*b<=(c.a:Int)*a:=Sl ω (ES _);unfold wx at f;dsimp only at f;refine⟨ω,λg=>.inl ?_⟩;have e:=d.fl g _ Jo;unfold La at e;dsimp only at e;omega
omit C in
theorem vj.mono{e s i j a W n r b}(m:vj c j a r)(l:jW c e s W r)(o:jW c e i n b)(k:∀p∈W,p∈n):vj c j a b:=by
 have u:Wy b.t<=Wy r.t:=by obtain⟨p,d,q⟩:=l.te;have:=o.tl p (k p d);omega
 have w:=m.t;refine⟨ω,λg=>?_⟩;have v:Wy b.f<=Wy r.f:=by obtain⟨p,d,q⟩:=l.fe g;have:=o.fl g p (k p d);omega
 rcases m.f g with h|h;exact .inl ω;exact .inr ω
theorem Qcr{i x V W r}(b:jW c (dX c) i W r)(g:∀p∈W,p.1<=i)(q:i+dX c<=x)(n:x<=4611686018428436480)(h:x<KG r (V*65536)):
  ∃p∈W,p.1<=x/\p.2*65536+Jg c.a c.d c.b (x-p.1)<V*65536:=by
 have L:=C.k;by_cases e:c.of=3;have E:r.b=true:=b.b.trans (QY e);have J:=C.ba e;have m:dX c=0:=Qd ω;have s:kX c=((c.a:Int)-c.b)*c.d:=Qe e;rw[Int.sub_mul]at s;unfold KG at h;rw[Qe E]at h;have f:∀p∈W,∃t:Nat,t=x-p.1/\(x:Int)=p.1+t:=λp z=>⟨_,rfl,by have:=g p z;omega⟩;by_cases B:x<Xe r.f (V*65536);have k:=Sb (b.f e) C.a ω n B;obtain⟨p,a,d⟩:=b.fe e;obtain⟨t,t1,t2⟩:=f p a;have o:=g p a;refine⟨p,a,ω,?_⟩;rw[<-t1,Ax C];unfold La at d;have M:(c.a:Int)*x=(c.a:Int)*p.1+(c.a:Int)*t:=by rw[t2,ER]
 have y:c.a*min t c.d+c.b*(t-min t c.d)<=c.a*t:=by
  have u:c.b*(t-min t c.d)<=c.a*(t-min t c.d):=V6 _ ω;have H:c.a*min t c.d+c.a*(t-min t c.d)=c.a*t:=by rw[<-Dl];congr 1;omega
  omega
 have K:((c.a*t:Nat):Int)=(c.a:Int)*t:=zO _ _;omega;have k:=Sb b.t C.b q n (show x<Xe r.t (V*65536) from ω);obtain⟨p,a,d⟩:=b.te;obtain⟨t,t1,t2⟩:=f p a;have o:=g p a;refine⟨p,a,ω,?_⟩;rw[<-t1,Ax C];unfold wx at d;rw[m,show ((p.1:Int)+(0:Nat))=(p.1:Int) by omega,s]at d;have I:(c.b:Int)*x=(c.b:Int)*p.1+(c.b:Int)*t:=by rw[t2,ER]
 have N:((c.a*c.d:Nat):Int)=(c.a:Int)*c.d:=zO _ _;have O:((c.b*c.d:Nat):Int)=(c.b:Int)*c.d:=zO _ _;have v:((c.b*t:Nat):Int)=(c.b:Int)*t:=zO _ _;have y:c.a*min t c.d+c.b*(t-min t c.d)+c.b*c.d<=c.a*c.d+c.b*t:=by by_cases j:t<=c.d;rw[wC j,YO,EZ,vn];have u:c.b*(c.d-t)<=c.a*(c.d-t):=V6 _ ω;rw[Nat.mul_sub,Nat.mul_sub]at u;have H:c.a*t<=c.a*c.d:=Dm _ j;have F:c.b*t<=c.b*c.d:=Dm _ j;omega;rw[kb ω,Nat.mul_sub];have F:c.b*c.d<=c.b*t:=Dm _ ω;omega
 omega;have w:x<Xe r.t (V*65536):=by unfold KG at h;rw[Qd (by rw[b.b,QN e];exact xE)]at h;exact h
 have k:=Sb b.t C.b q n w;obtain⟨p,a,d⟩:=b.te;have o:=g p a;obtain⟨t,t1⟩:=Zc (x-p.1-dX c);have t2:(x:Int)=(p.1:Int)+dX c+t:=ω;refine⟨p,a,ω,?_⟩;unfold wx kX at d;rw[Qd e]at d;have I:(c.b:Int)*x=(c.b:Int)*((p.1:Int)+dX c)+(c.b:Int)*t:=by rw[t2,ER]
 have v:((c.b*t:Nat):Int)=(c.b:Int)*t:=zO _ _;rw[Ax C];by_cases l:c.of=4;have m:dX c=c.d:=Qe l;rw[C.four l,G1,JG,kb ω,show x-p.1-c.d=t by omega];omega;have m:dX c=0:=Qd l;rw[C.two ω,Nat.min_zero,EZ,JG,Dn,show x-p.1=t by omega];omega
end
def QnF(l){w a}(h:w<=a):Xe l w<=Xe l a:=by by_cases b:w<=l.y;unfold Xe;rw[Qe b];exact Z7 _;have d:cdiv (w-l.y) l.m<=cdiv (a-l.y) l.m:=Nat.div_le_div_right ω;unfold Xe;rw[Qd b,Qd (show ¬a<=l.y from ω)];split;rename_i c;rw[Qe ω];exact Qv _;rename_i c;split;omega;omega
def QGk(r){w a}(h:w<=a):KG r w<=KG r a:=by have c:=QnF r.f h;have b:=QnF r.t h;unfold KG;split<;>omega
def QGl(c:Nc){t a}(h:t<=a):Jg c.a c.d c.b t<=Jg c.a c.d c.b a:=Qm5 c.a c.d c.b h
structure zM (c:Nc) (X:Nat) (W:List (Nat × Nat)) (u:Du) (h:Nat):Prop where
 has:u.has=true↔W≠[]
 none:W=[]->h=0
 run:∀lw P L,W=(lw,P)::L->lw<=X/\jW c (dX c) lw W u.dl/\jW c 0 lw W u.rd/\∀p∈W,p.1<=lw
 pk:∀p∈W,p.2<=u.QC
 hd:0<h->u.Vt=KG u.rd (u.QC*65536)/\u.dead=KG u.dl ((u.QC+h)*65536)
section
variable (R:List Int)(cv:Int->Nc)(K T:Nat)
structure QD (d t0:Nat) (B:Int->Nat) (u:Int->Du) (h:Int->Nat) (Ja:Nat):Prop where
 bb:∀r∈R,B r<=(u r).QC/\((u r).QC-B r)*65536<=Jg (cv r).a (cv r).d (cv r).b (d-t0)/\(B r<(u r).QC->t0<d)
 un:Ja<=t0+K+(R.map λr=>(u r).QC-B r).sum*T
 q:∀r∈R,(0<h r/\d<(u r).dead)\/(h r=0/\(u r).QC=B r)\/vj (cv r) t0 (B r) (u r).dl
end
section
variable {R:List Int}{cv:Int->Nc}{K T:Nat}
def QnG(f:Int->Nat):∀(l:List Int),(∀r∈l,f r=0)->(l.map f).sum=0
 | [],_=>rfl
 | a::l,h=>by rw[Jr,j9,h a Jo,QnG f l λr b=>h r (Js _ b)]
def Qcs{f g:Int->Nat}{q:Int}{n:Nat}:∀{l:List Int},l.Nodup->q∈l->g q=f q+n->(∀r∈l,r≠q->g r=f r)->(l.map g).sum=(l.map f).sum+n
 | [],_,h,_,_=>by cases h
 | a::l,c,h,i,d=>by rw[Z6]at c;rw[Jr,Jr,j9,j9];by_cases e:a=q;subst e;rw[i,show l.map g=l.map f from AB λr b=>d r (Js _ b) λe=>c.1 (e▸b)];omega;rw[d a Jo e,Qcs c.2 ((QK.1 h).resolve_left λj=>e j.symm) i λr b=>d r (Js _ b)];omega
def QnH{P n b c a}(h:(P+n)*65536<=b*65536+a)(d:a<=c):(P+n-b)*65536<=c:=by rw[Nat.sub_mul];omega
def QD.reset{d t Ja u h}(e:Ja<=t+K)(b:∀r∈R,h r=0\/d<(u r).dead\/vj (cv r) t (u r).QC (u r).dl):QD R cv K T d t (λr=>(u r).QC) u h Ja:=by refine⟨λr a=>⟨Qv _,?_,λh=>absurd h (BK _)⟩,?_,λr a=>?_⟩;rw[YO,G1];exact Z7 _;omega;rcases b r a with h1|h1|h1;exact .inr (.inl ⟨h1,rfl⟩);by_cases c:h r=0;exact .inr (.inl ⟨c,rfl⟩);exact .inl ⟨ω,h1⟩;exact .inr (.inr h1)
def QD.aH{d f l B u c h k}{q:Int}(Q:QD R cv K T d f B u h l)(s:h q=0)(j:∀r∈R,r≠q->c r=u r/\k r=h r)(m:(c q).QC=(u q).QC)
  (i:vj (cv q) f (u q).QC (c q).dl) (n:(u q).QC=0\/∀b,vj (cv q) f b (u q).dl->vj (cv q) f b (c q).dl):QD R cv K T d f B c k l:=by
 have g:∀r∈R,(c r).QC=(u r).QC:=λr a=>by by_cases e:r=q;rw[e,m];rw[(j r a e).1]
 refine⟨λr a=>by rw[g r a];exact Q.bb r a,?_,λr a=>?_⟩;have:=Q.un;rw[show (R.map λr=>(c r).QC-B r)=R.map λr=>(u r).QC-B r from AB λr a=>by rw[g r a]];exact this;by_cases e:r=q;subst e;rcases Q.q r a with h1|h1|h1;omega;refine .inr (.inr ?_);rw[<-h1.2];exact i;refine .inr (.inr ?_);rcases n with h2|h2;have:=(Q.bb r a).1;rw[show B r=(u r).QC by omega];exact i;exact h2 _ h1;obtain⟨p,o⟩:=j r a e;rw[p,o];exact Q.q r a
def QD.pick{d c I j a B u i h s q m W}(Q:QD R cv K T d c B u h I)(x:R.Nodup)(k:q∈R)(C:qU (cv q))
  (P:j<=c+K+(R.map λr=>(u r).QC-B r).sum*T) (b:jW (cv q) (dX (cv q)) m W (u q).dl) (v:m+dX (cv q)<=(u q).dead) (L:(u q).dead<=d) (H:(u q).dead<=9223372036854775807)
  (N:0<h q) (J:h q=a) (S:(u q).dead=KG (u q).dl (((u q).QC+a)*65536))
  (l:∀r∈R,r≠q->i r=u r/\s r=h r) (o:(i q).QC=(u q).QC+a) (t:(i q).dl=(u q).dl):QD R cv K T d c B i s (j+a*T):=by
 have M:=Q.bb q k;have p:vj (cv q) c (B q) (u q).dl:=by rcases Q.q q k with h1|h1|h1;omega;omega;exact h1
 obtain⟨O,z⟩:=p.ser C (V:=(u q).QC+a) b v H ω ω;have y:=QGl (cv q) (show (u q).dead-c<=d-c from ω);refine⟨λr b=>?_,?_,λr b=>?_⟩;by_cases e:r=q;subst e;rw[o];exact⟨ω,QnH z y,λ_=>ω⟩;rw[(l r b e).1];exact Q.bb r b;have w:=Qcs (f:=λr=>(u r).QC-B r) (g:=λr=>(i r).QC-B r) (n:=a) x k (by rw[o];omega) λr b e=>by rw[(l r b e).1]
 rw[w,KE];omega;by_cases e:r=q;subst e;rw[t];exact .inr (.inr p);obtain⟨F,E⟩:=l r b e;rw[F,E];exact Q.q r b
def QnI{f g:Int->Nat}:∀(l:List Int),(∀r∈l,f r<=g r)->(l.map f).sum<=(l.map g).sum
 | [],_=>Qv _
 | a::l,h=>by have d:=h a Jo;have c:=QnI l λr b=>h r (Js _ b);rw[Jr,Jr,j9,j9];omega
def QnJ(f:Int->Nat)(n:Nat):∀l:List Int,(l.map λr=>f r*n).sum=(l.map f).sum*n
 | []=>σ
 | a::l=>by rw[Jr,Jr,j9,j9,QnJ f n l,KE]
def QD.done{d a j n B u h q}(Q:QD R cv K T d a B u h j)(o:R.Nodup)(m:q∈R)
  (k:∀t,(R.map λr=>Jg (cv r).a (cv r).d (cv r).b t).sum*T<=65536*t) (p:((u q).QC+n-B q)*65536<=Jg (cv q).a (cv q).d (cv q).b (d-a)) (y:a<=d):j+n*T<=d+K:=by
 have l:=Qcs (f:=λr=>(u r).QC-B r) (g:=λr=>if r=q then (u r).QC-B r+n else (u r).QC-B r) (n:=n) o m (by rw[Qe rfl]) λr c e=>by rw[Qd e]
 have b:=QnI (f:=λr=>(if r=q then (u r).QC-B r+n else (u r).QC-B r)*65536) (g:=λr=>Jg (cv r).a (cv r).d (cv r).b (d-a)) R λr c=>by have:=Q.bb r c;by_cases e:r=q;subst e;rw[Qe rfl];have:(u r).QC-B r+n=(u r).QC+n-B r:=ω;rw[this];exact p;rw[Qd e];exact this.2.1
 rw[QnJ,l]at b;have x:=k (d-a);have w:=Q.un;obtain⟨X,s⟩:=Zc ((R.map λr=>(u r).QC-B r).sum);rw[<-s]at b w;have i:(X+n)*65536*T<=65536*(d-a):=J5 (V6 T b) x;have v:(X+n)*T<=d-a:=by rw[cD,EY _ 65536]at i;exact Nat.le_of_mul_le_mul_left i π
 rw[KE]at v;omega
end
def zN(n:Nd):Ql × Du:=(n.c,n.du)
def QGm{M:Qn}{a n}(h:Qi M.N a=some n)(r j):
  (Qi (XU M a r).N j).map zN=(Qi M.N j).map λm=>(m.c,if j=a/\1<QJ n.c.rt then (if r then xg m.du (n.q.l.headD default).len (XR (Kv n.q)) else X8 m.du (XR (Kv n.q))) else m.du):=by
 have s:Qz M a=n:=by unfold Qz;rw[h];rfl
 unfold XU;dsimp only;rw[(Er _ _).1,s];generalize y:(n.q.l.headD default).len=b;have x:Qi (Ww M a).N a=some { n with q:=Kv n.q }:=by have:=QCG (f:=λm:Nd=>{ m with q:=Kv (Qz M a).q }) (λ_=>rfl) h;have e:(Ww M a).N=Wl M.N a λm:Nd=>{ m with q:=Kv (Qz M a).q }:=rfl;rw[e,this,s]
 obtain⟨c,p,g,k,i⟩:=Qas b.toNat (up M.T a) (Ww M a) a x;have v:Qz ((up M.T a).foldl (VO b.toNat) (Ww M a)) a=c:=by unfold Qz;rw[p];rfl
 have o:(Qi (Wv ((up M.T a).foldl (VO b.toNat) (Ww M a)) a b r).N j).map zN=(Qi M.N j).map λm=>(m.c,if j=a/\1<QJ n.c.rt then (if r then xg m.du b (XR (Kv n.q)) else X8 m.du (XR (Kv n.q))) else m.du):=by
  have g:c.c=n.c:=g;have k:c.q=Kv n.q:=k;have i:c.du=n.du:=i;have u:(Qi ((up M.T a).foldl (VO b.toNat) (Ww M a)).N j).map zN=(Qi M.N j).map zN:=by rw[wo (key:=zN) (step:=VO b.toNat) (λw j l=>Qbd _ (λ_=>rfl) w j l)];exact aG (f:=λm:Nd=>{ m with q:=Kv (Qz M a).q }) (λ_=>rfl) (λ_=>rfl) j
  rw[Qbf,v,g];by_cases d:j=a/\1<QJ n.c.rt;rw[Qe d];obtain⟨rfl,t⟩:=d;rw[p,h];unfold zN qN;rw[k,i];simp[t,g];rw[Qd d,u];congr 1;funext m;rw[Qd d];rfl
 split;rw[<-o];unfold XT;split;rw[wo (key:=zN) (Gx (λ_=>rfl))];rfl;exact o
def QGn(M b)(c a j:Int):(Qi (qd M b c a).N j).map zN=(Qi (WW M b c a).N j).map zN:=by unfold qd;split;rw[(Er _ _).1,wo (key:=zN) (λM j c=>Qa9 b (λ_ _=>rfl) M j c)];rfl
def QnK{M}(b a x j):
  (Qi (VE M b a x).N j).map zN=(Qi M.N j).map λm=>(m.c,if VP M a x=0/\(Qz M a).q.l=[]/\j=a/\1<QJ m.c.rt then XC m.du (Jv m.c.rt) b x.len else m.du):=by
 have c:∀j,(Qi (K6 M a x).N j).map zN=(Qi M.N j).map zN:=λj=>aG (f:=λm=>{ m with q:=X9 (Qz M a).c.ZV (Qz M a).c.bytes (Qz M a).q x }) (λ_=>rfl) (λ_=>rfl) j
 have l:∀(_:¬(VP M a x=0/\(Qz M a).q.l=[])),(Qi M.N j).map zN=(Qi M.N j).map λm=>(m.c,if VP M a x=0/\(Qz M a).q.l=[]/\j=a/\1<QJ m.c.rt then XC m.du (Jv m.c.rt) b x.len else m.du):=λh=>by congr 1;funext m;rw[Qd λi=>h ⟨i.1,i.2.1⟩];rfl
 unfold VE;split;rename_i h;rw[<-l λi=>by rw[i.1]at h;cases h];exact c j;split;rename_i r;split;rename_i g;rw[QGn,mG];have s:zN (Qz (jP (K6 M a x) (M.acc+x.len.toNat)) a)=zN (Qz M a):=QlK (c a);have B:(Qz (jP (K6 M a x) (M.acc+x.len.toNat)) a).c=(Qz M a).c:=congrArg Prod.fst s;have u:(Qz (jP (K6 M a x) (M.acc+x.len.toNat)) a).du=(Qz M a).du:=congrArg Prod.snd s;rw[B,u];show Option.map zN (if j=a/\1<QJ (Qz M a).c.rt then (Qi (K6 M a x).N j).map (λn=>{ n with du:=XC (Qz M a).du (Jv (Qz M a).c.rt) b x.len }) else Qi (K6 M a x).N j)=_;by_cases o:j=a;subst o;have d:=c j;cases p:Qi M.N j with
 | none=>
  rw[p]at d;have:Qi (K6 M j x).N j=none:=by
   cases w:Qi (K6 M j x).N j with
   | none=>rfl
   | some y=>rw[w]at d;cases d
  rw[this];split<;>rfl
 | some m=>
  have z:Qz M j=m:=by unfold Qz;rw[p];rfl
  rw[p]at d;obtain⟨y,v,k⟩:=WK.1 d;have t:y.c=m.c:=congrArg Prod.fst k;have C:y.du=m.du:=congrArg Prod.snd k;rw[v,Kq];rw[z]at g ⊢;by_cases e:1<QJ m.c.rt;rw[Qe ⟨rfl,e⟩,Kq,Kq,Qe ⟨r,g,rfl,e⟩];unfold zN;dsimp only;rw[t];rw[Qd λh=>e h.2,Kq,Kq,Qd λh=>e h.2.2.2,k];rfl
 rw[Qd λh=>o h.1,c j];congr 1;funext m;rw[Qd λh=>o h.2.2.1];rfl;rename_i g;rw[<-l λh=>g h.2];exact c j;rename_i r;rw[<-l λh=>r h.1]
def N5{n}(h:n<18446744073709551616):Wj n=n:=by unfold Wj;exact kg h
def zM.Qc{c X Y h W u}(I:zM c X W u h)(e:X<=Y):zM c Y W u h:=
 ⟨I.has,I.none,λa P L b=>⟨J5 (I.run a P L b).1 e,(I.run a P L b).2⟩,I.pk,I.hd⟩
def Qct{c}(C:qU c):dX c<=1048576:=by have:=C.d;unfold dX;split<;>omega
def zM.aH{c}(C:qU c){X W}{u:Du}(I:zM c X W u 0)(i:X<=4611686018427387904)(hp:u.QC<=1152921504606846976){a}(z:1<=a)(y:a<=16384):
  zM c X ((X,u.QC)::W) (XC u c X a) a.toNat/\(XC u c X a).QC=u.QC/\(∀g L,jW c (dX c) g L u.dl->(∃P,∃n,W=(g,P)::n/\L=W)->u.has=true->∀t0 d,vj c t0 d u.dl->vj c t0 d (XC u c X a).dl):=by
 have hd:=Qct C;have e:XC u c X a=⟨true,jg u u.dl (VC c X (u.QC*65536)),jg u u.rd (jf c X (u.QC*65536)),u.QC,KG (jg u u.rd (jf c X (u.QC*65536))) (u.QC*65536),KG (jg u u.dl (VC c X (u.QC*65536))) (Wj (u.QC+a.toNat)*65536)⟩:=by unfold XC X8;rw[Qe ω]
 have m:=QnA C i (show u.QC<18446744073709551616 from ω) (r:=jf c X (u.QC*65536)) (.inl ⟨rfl,rfl⟩);have l:=QnA C i (show u.QC<18446744073709551616 from ω) (r:=VC c X (u.QC*65536)) (.inr ⟨rfl,rfl⟩);have b:jW c (dX c) X ((X,u.QC)::W) (jg u u.dl (VC c X (u.QC*65536)))/\jW c 0 X ((X,u.QC)::W) (jg u u.rd (jf c X (u.QC*65536))):=by
  unfold jg;cases k:u.has with
  | true=>
   have f:=I.has.1 k;cases W with
   | nil=>exact absurd rfl f
   | cons p L=>obtain⟨j,x,w,_⟩:=I.run p.1 p.2 L rfl;exact⟨QnB C j i hd x l,QnB C j i (Z7 _) w m⟩
  | false=>
   have f:W=[]:=j5 λh=>by have:=I.has.2 h;rw[k]at this;cases this
   subst f;exact⟨l,m⟩
 rw[e];refine⟨⟨⟨λ_=>bU _ _,λ_=>rfl⟩,λh=>absurd h (bU _ _),λg P L f=>?_,λp hp=>?_,λ_=>⟨rfl,?_⟩⟩,rfl,λg L o s k t0 d t=>?_⟩;cases f;refine⟨Qv _,b.1,b.2,λp hp=>?_⟩;rcases QK.1 hp with rfl|hp;exact Qv _;cases W with
 | nil=>cases hp
 | cons q L=>obtain⟨j,_,_,v⟩:=I.run q.1 q.2 L rfl;exact J5 (v p hp) j
 rcases QK.1 hp with rfl|hp;exact Qv _;exact I.pk p hp;show KG _ (Wj (u.QC+a.toNat)*65536)=KG _ ((u.QC+a.toNat)*65536);rw[N5 ω];obtain⟨P,n,f,rfl⟩:=s;exact t.mono o b.1 λp hp=>Js _ hp
def zM.head{c X h W}{u:Du}(I:zM c X W u h)(a:W≠[])(d:u.QC<=1152921504606846976){h2:Int}(b:h2<=16384):zM c X W (X8 u h2) h2.toNat/\(X8 u h2).QC=u.QC/\(X8 u h2).dl=u.dl:=by unfold X8;split;refine⟨⟨I.has,λh=>absurd h a,I.run,I.pk,λ_=>⟨rfl,?_⟩⟩,rfl,rfl⟩;show KG _ (Wj (u.QC+h2.toNat)*65536)=KG _ ((u.QC+h2.toNat)*65536);rw[N5 ω];refine⟨⟨I.has,λh=>absurd h a,I.run,I.pk,λh=>ω⟩,rfl,rfl⟩
def zM.QGo{c X h W}{u:Du}(I:zM c X W u h)(e:W≠[])(d:u.QC<=1152921504606830592){len a}(l:len<=16384)(b:a<=16384):
  zM c X W (xg u len a) a.toNat/\(xg u len a).QC=u.QC+len.toNat/\(xg u len a).dl=u.dl:=by
 have f:Wj (u.QC+len.toNat)=u.QC+len.toNat:=N5 ω;have k:zM c X W { u with QC:=Wj (u.QC+len.toNat) } 0:=
  ⟨I.has,λh=>absurd h e,I.run,λp d=>by show p.2<=Wj (u.QC+len.toNat);have:=I.pk p d;omega,λh=>absurd h (BK 0)⟩
 obtain⟨j,i,g⟩:=k.head e (h2:=a) (by show Wj (u.QC+len.toNat)<=_;omega) b;exact⟨j,i.trans f,g⟩
section
variable {R:List Int}{cv:Int->Nc}{K T:Nat}(hn:R.Nodup)(hC:∀r∈R,qU (cv r)){t Ja:Nat}{W:Int->List (Nat × Nat)}{u:Int->Du}{h:Int->Nat}
 (hL:∀r∈R,zM (cv r) t (W r) (u r) (h r)) (ht:t<=4611686018427387904)
include hC hL ht
theorem Qcu{r:Int}(c:r∈R){x}(k:0<h r)(d:x<(u r).Vt)(l:x<=t)(i:∀b P L,W r=(b,P)::L->b<=x):vj (cv r) x (u r).QC (u r).dl:=by
 have I:=hL r c;cases a:W r with
 | nil=>have:=I.none a;omega
 | cons p L=>obtain⟨m,g,f,e⟩:=I.run p.1 p.2 L a;have j:=I.hd k;rw[a]at e;rw[a]at g f;rw[j.1]at d;exact QnD (hC r c) f g e (i p.1 p.2 L a) ω d
theorem QGp(m:Ja<=t+K)(n:∀r∈R,0<h r->t<(u r).Vt){a e}(k:∀r∈R,(a r).QC=(u r).QC/\(a r).dl=(u r).dl/\(0<e r->0<h r))(d):
  QD R cv K T d t (λr=>(a r).QC) a e Ja:=by
 refine QD.reset m λr b=>?_;obtain⟨i,g,f⟩:=k r b;by_cases c:e r=0;exact .inl c;have c:0<h r:=f ω;rw[i,g];exact .inr (.inr (Qcu hC hL ht b c (n r b c) (Qv _) λj P L l=>((hL r b).run j P L l).1))
include hn
theorem QGq(a0:1<=K)(AZ:Ja<=t)(bI:Ja<t->∀r∈R,0<h r->∀c P L,W r=(c,P)::L->t<=(u r).Vt\/c=t)(M:∀r∈R,∀c P L,W r=(c,P)::L->(u r).QC=P\/c<Ja)
  {q:Int} (i:q∈R) (E:0<h q) (y:∀r∈R,0<h r->(u r).Vt<=t->(u q).dead<=(u r).dead) (J:h q*T<=K) {b:Int->Du} {k:Int->Nat}
  (C:∀r∈R,r≠q->b r=u r/\k r=h r) (O:(b q).QC=(u q).QC+h q) (N:(b q).dl=(u q).dl) (x:0<k q->(u q).dead<=(b q).dead)
  {d:Nat} (hd:d<=9223372036854775807) (l:∃t0 B,t0<=t/\QD R cv K T d t0 B u h Ja):∃t0 B,t0<=t/\QD R cv K T d t0 B b k (t+h q*T)/\((u q).dead<=d->B q<(b q).QC):=by
 by_cases Qb:d<(u q).dead;refine⟨t,_,Qv _,QD.reset ω (λr a=>?_),λh=>absurd h ω⟩;by_cases e:r=q;subst e;by_cases j:k r=0;exact .inl j;have:=x ω;exact .inr (.inl ω);obtain⟨e1,Z⟩:=C r a e;rw[e1,Z];by_cases j:h r=0;exact .inl j;by_cases Y:(u r).Vt<=t;have:=y r a ω Y;exact .inr (.inl ω);exact .inr (.inr (Qcu hC hL ht a ω ω (Qv _) λc P L n=>((hL r a).run c P L n).1));have I:=hL q i;cases m:W q with
 | nil=>have:=I.none m;omega
 | cons p L=>
  obtain⟨a1,v,a3,a4⟩:=I.run p.1 p.2 L m;have Wh:=I.pk p (by rw[m];exact Jo);rw[m]at v;have H:=(I.hd E).2;have S:=Qcq (hC q i) (P:=p.2) (V:=(u q).QC+h q) ω v Jo ω;rw[<-H]at S;have f:∀t0 B,t0<=t->t<=t0+K+(R.map λr=>(u r).QC-B r).sum*T->QD R cv K T d t0 B u h Ja->∃t0 B,t0<=t/\QD R cv K T d t0 B b k (t+h q*T)/\((u q).dead<=d->B q<(b q).QC):=λt0 B s o Q=>⟨t0,B,s,Q.pick hn i (hC q i) o v ω ω ω E rfl H C O N,λ_=>by have:=(Q.bb q i).1;omega⟩
  by_cases z:Ja=t;obtain⟨t0,B,s,Q⟩:=l;have:=Q.un;exact f t0 B s ω Q;have z:Ja<t:=ω;refine f (t-1) _ ω ?_ (QD.reset (Ja:=Ja) ω λr a=>?_);have:(R.map λr=>(u r).QC-(u r).QC).sum=0:=QnG _ _ λr _=>YO _;rw[this];omega;by_cases j:h r=0;exact .inl j;refine .inr (.inr ?_);have F:=hL r a;cases g:W r with
  | nil=>have:=F.none g;omega
  | cons p L=>
   obtain⟨s,o,b3,b4⟩:=F.run p.1 p.2 L g;by_cases w:p.1=t;have U:(u r).QC=p.2:=(M r a p.1 p.2 L g).resolve_right ω;rw[U];rw[g]at o;exact QnE (hC r a) (W:=L) o ω;have gC:=(bI z r a ω p.1 p.2 L g).resolve_right w;exact Qcu hC hL ht a ω ω ω λc P L' n=>by rw[g]at n;cases n;omega
end
def QX(M:Qn)(r:Int):Du:=(Qz M r).du
def GP(l:List Pk):Nat:=match l with|[]=>0|p::_=>p.len.toNat
def Jx(M:Qn)(r:Int):Nat:=GP (Q4 M r)
def QnM(q:Qu):(XR q).toNat=GP q.l:=by unfold XR GP;cases q.l<;>rfl
structure GQ (T:List Ql) (R:List Int) (cv:Int->Nc):Prop where
 nd:R.Nodup
 mem:∀r,r∈R↔∃k,Qw T r=some k/\k.leaf=true/\1<QJ k.rt
 cv:∀r∈R,∀k,Qw T r=some k->cv r=Jv k.rt/\qU (cv r)
def Sd{M:Qn}{a}(h:Wn M a=true)(I:QB M)(V:Inv M){r n}(e:Qi M.N r=some n):
  QX (takeN M a) r=if r=Jc M a/\1<QJ n.c.rt then (if WY M a then xg n.du (JA M a).len (XR (Kv n.q)) else X8 n.du (XR (Kv n.q))) else n.du:=by
 obtain⟨m,b,_⟩:=QmP I V h;obtain⟨t1,_,_⟩:=xq M a;unfold Wn at h;unfold Jc at b;unfold takeN Jc JA WY;cases f:XH M a with
 | none=>rw[f]at h;cases h
 | some x=>
  rw[f]at b;dsimp only at b ⊢;have o:Qz M x.1=m:=by unfold Qz;rw[b];rfl
  have l:Qi (ZA M a).N x.1=some m:=by rw[t1];exact b
  have c:=QGm l x.2 r;rw[t1,e,Kq]at c;obtain⟨y,j,i⟩:=WK.1 c;have g:y.du=_:=congrArg Prod.snd i;unfold QX Qz;rw[j,Va,g];dsimp only;by_cases d:r=x.1;subst d;rw[e]at b;cases b;have k:(Qi M.N x.1).getD default=n:=by rw[e];rfl
  rw[k];rw[Qd λh=>d h.1,Qd λh=>d h.1]
def QnN(M a)(r:Int)(h:Wn M a=true):Jx (takeN M a) r=if r=Jc M a then GP (Q4 M r).tail else Jx M r:=by unfold Jx;rw[Db];by_cases e:r=Jc M a;rw[Qe e,Qe ⟨h,e.symm⟩];rw[Qd e,Qd λb=>e b.2.symm]
def Qcv{M a}(h:¬Wn M a=true)(r):QX (takeN M a) r=QX M r/\Jx (takeN M a) r=Jx M r:=by
 have e:takeN M a=ZA M a:=by
  unfold Wn at h;unfold takeN;cases b:XH M a with
  | none=>rfl
  | some x=>rw[b]at h;exact absurd rfl h
 refine⟨?_,?_⟩;unfold QX Qz;rw[e,(xq M a).1];unfold Jx;rw[Db,Qd λc=>h c.1]
def nK{T R l}(G:GQ T R l){M:Qn}(I:QB M)(V:Inv M)(j:M.T=T){r:Int}(i:r∈R)(a:0<Jx M r):(⟨(QX M r).Vt,r,(QX M r).dead,r⟩:It)∈M.Lv:=by
 obtain⟨k,d,h,g⟩:=(G.mem r).1 i;rw[<-j]at d;obtain⟨n,c,b⟩:=I.Nt d;have f:Qz M r=n:=by unfold Qz;rw[c];rfl
 refine(V.lv _).2 ⟨n,c,by rw[b];exact h,?_,by rw[b];exact g,?_⟩;intro e;unfold Jx Q4 at a;rw[f,e]at a;exact BK 0 a;unfold QX;rw[f]
def Qcw{T R e}(G:GQ T R e){M:Qn}(I:QB M)(V:Inv M)(c:M.T=T){r:Int}(a:r∈R)(d:0<Jx M r){t}(f:t<=4611686018427387904)(b:t<=Vm M):t<=(QX M r).Vt:=Ll λh=>by have hx:=nK G I V c a d;have g:=(Qbo V.qg.1 (now:=(QX M r).Vt) ω).2 ⟨_,hx,Qv _⟩;unfold Vm at b;omega
def QGt{M:Qn}{a}(c:WY M a=true)(i:a<=4611686018427387904):∃y∈M.Lv,y.ki=Jc M a/\y.ka<=a/\∀x∈M.Lv,x.ka<=a->y.va<=x.va:=by
 have e:(ZA M a).Lv=M.Lv:=by unfold ZA;split<;>rfl
 unfold WY at c;unfold Jc;cases b:XH M a with
 | none=>rw[b]at c;cases c
 | some x=>rw[b]at c;dsimp only at c ⊢;unfold XH at b;split at b;unfold Vo at b;have d:=Gz (ZA M a) a;split at b;rename_i y g;cases b;rw[g]at d;obtain⟨f,h⟩:=JB.1 d.1;simp only[W3]at h;refine⟨y,by rw[<-e];exact f,rfl,ω,λx hx j=>?_⟩;exact Wa.va d (JB.2 ⟨by rw[e];exact hx,by simp only[W3];omega⟩);obtain⟨id,f,rfl⟩:=WK.1 b;cases c;cases b
def QGv{M:Qn}{a}(h:Wn M a=true)(d:WY M a=false)(g:a<=4611686018427387904):∀x∈M.Lv,a<x.ka:=by
 have f:(ZA M a).Lv=M.Lv:=by unfold ZA;split<;>rfl
 unfold Wn at h;unfold WY at d;cases b:XH M a with
 | none=>rw[b]at h;cases h
 | some x=>rw[b]at d;dsimp only at d;unfold XH at b;split at b;unfold Vo at b;have c:=Gz (ZA M a) a;split at b;cases b;cases d;rename_i e;rw[e]at c;have c:(ZA M a).Lv.filter (λx=>decide (x.ka<=min a 9223372036854775807))=[]:=c;intro x hx;rw[nV]at c;have:=c x (by rw[f];exact hx);simp only[W3]at this;omega;cases b
structure GR (T:List Ql) (R:List Int) (cv:Int->Nc) (K Tk:Nat) (W:Int->List (Nat × Nat)) (k:Nat) (S:Zy):Prop where
 T:S.M.T=T
 tk:S.M.lk.t.toNat=Tk
 kk:S.M.lk.Ze.toNat*Tk=K
 lf:∀r∈R,zM (cv r) S.Qc (W r) (QX S.M r) (Jx S.M r)
 pk:∀r∈R,(QX S.M r).QC<=16384*k
 nw:∀r∈R,W r=[]->(QX S.M r).QC=0
 wk:∀r∈R,∀lw P L,W r=(lw,P)::L->(QX S.M r).QC=P\/lw<S.Ja
 inv:∀d,d<=9223372036854775807->∃t0 B,t0<=S.Qc/\QD R cv K Tk d t0 B (QX S.M) (Jx S.M) S.Ja
def nN{lm l}(h:∀x∈l,1<=x.len/\x.len<=lm):(GP l:Int)<=max 0 lm/\(l≠[]->0<GP l):=by
 cases l with
 | nil=>exact⟨by show ((0:Nat):Int)<=_;omega,λh=>absurd rfl h⟩
 | cons x l=>have:=h x Jo;exact⟨by show ((x.len.toNat:Nat):Int)<=_;omega,λ_=>by show 0<x.len.toNat;omega⟩
section
variable {T:List Ql}{R:List Int}{cv:Int->Nc}{K Tk:Nat}(G:GQ T R cv)
include G
theorem Se{S:Zy}(I:ZQ S)(h:S.M.T=T){r}(d:r∈R):∃n,Qi S.M.N r=some n/\Qz S.M r=n/\n.c.leaf=true/\1<QJ n.c.rt/\cv r=Jv n.c.rt:=by obtain⟨k,b,f,e⟩:=(G.mem r).1 d;have g:=b;rw[<-h]at b;obtain⟨n,c,a⟩:=I.I.Nt b;exact⟨n,c,by unfold Qz;rw[c];rfl,by rw[a];exact f,by rw[a];exact e,by rw[a];exact(G.cv r d k g).1⟩
theorem QGw{W k S}(I:ZQ S)(h:GR T R cv K Tk W k S)
  (bI:S.Ja<S.Qc->∀r∈R,0<Jx S.M r->∀f P L,W r=(f,P)::L->S.Qc<=(QX S.M r).Vt\/f=S.Qc) (js:∀t,(R.map λr=>Jg (cv r).a (cv r).d (cv r).b t).sum*Tk<=65536*t) (op:Nat) (Z:k+(Z2 S op S.Qc).2.length<=1000000000) :
  GR T R cv K Tk W (k+(Z2 S op S.Qc).2.length) (Z2 S op S.Qc).1 /\
  (¬S.Qc<S.Ja->Wn S.M S.Qc=true->WY S.M S.Qc=true->(QX S.M (Jc S.M S.Qc)).dead<=9223372036854775807->S.Qc+WI S.M.lk (JA S.M S.Qc).len<=(QX S.M (Jc S.M S.Qc)).dead+K):=by
 have j:=h.T;have hC:∀r∈R,qU (cv r):=λr a=>by obtain⟨kk,k1,_⟩:=(G.mem r).1 a;exact(G.cv r a kk k1).2
 have v:=I.K;have a3:1<=K:=by rw[<-h.kk,<-h.tk];exact Xk (show 1<=S.M.lk.Ze.toNat by have:=v.l1;omega) (show 1<=S.M.lk.t.toNat by have:=v.t1;omega)
 have Il:∀r,(Jx S.M r:Int)<=S.M.lk.Ze/\(Q4 S.M r≠[]->0<Jx S.M r):=λr=>by have h1:=nN (I.len r);have:=v.l1;exact⟨by show (GP (Q4 S.M r):Int)<=_;omega,h1.2⟩
 unfold Z2 at Z ⊢;split at Z;rename_i Y;rw[Qe Y];exact⟨h,λp=>absurd Y p⟩
 .rename_i Y;rw[Qd Y];split at Z
  .rename_i b;rw[Qe b];have Qf:k+1<=1000000000:=Z;obtain⟨x,L,hq,hx⟩:=RJ I.I I.V b;have V:=I.take_len b;have Qb:=IF v V;have ug:Jx S.M (Jc S.M S.Qc)=(JA S.M S.Qc).len.toNat:=by unfold Jx;rw[hq,hx];rfl
   have Yh:0<Jx S.M (Jc S.M S.Qc):=ω;have xk:=v.l2;have nO:WI S.M.lk (JA S.M S.Qc).len=Jx S.M (Jc S.M S.Qc)*Tk:=by rw[ug,<-h.tk];rfl
   have a2:Jx S.M (Jc S.M S.Qc)*Tk<=K:=by rw[<-h.kk];exact V6 Tk ω
   have wg:∀r,r≠Jc S.M S.Qc->Jx (takeN S.M S.Qc) r=Jx S.M r:=λr e=>by rw[QnN _ _ _ b,Qd e]
   have q:∀r∈R,r≠Jc S.M S.Qc->QX (takeN S.M S.Qc) r=QX S.M r:=λr a e=>by obtain⟨n,n1,u,_⟩:=Se G I j a;rw[Sd b I.I I.V n1,Qd λh=>e h.1];unfold QX;rw[u]
   have a0:∀r∈R,r≠Jc S.M S.Qc->zM (cv r) S.Qc (W r) (QX (takeN S.M S.Qc) r) (Jx (takeN S.M S.Qc) r):=λr a e=>by rw[q r a e,wg r e];exact h.lf r a
   have By:∀n,Qz S.M (Jc S.M S.Qc)=n->Jx (takeN S.M S.Qc) (Jc S.M S.Qc)=(XR (Kv n.q)).toNat/\XR (Kv n.q)<=16384:=λn hn=>by
    have o:(Kv n.q).l=(Q4 S.M (Jc S.M S.Qc)).tail:=by unfold Q4;rw[hn];rfl
    rw[QnN _ _ _ b,Qe rfl,QnM,o];refine⟨rfl,?_⟩;have p:=nN (lm:=S.M.lk.Ze) (l:=(Q4 S.M (Jc S.M S.Qc)).tail) λy hy=>I.len _ y (List.mem_of_mem_tail hy);have h3:(XR (Kv n.q)).toNat=GP (Kv n.q).l:=QnM _;rw[o]at h3;omega
   cases z:WY S.M S.Qc with
   | false=>
    have Z4:∀r∈R,0<Jx S.M r->S.Qc<(QX S.M r).Vt:=λr a C=>QGv b z I.cl _ (nK G I.I I.V j a C);have i:∀r∈R,zM (cv r) S.Qc (W r) (QX (takeN S.M S.Qc) r) (Jx (takeN S.M S.Qc) r)/\(QX (takeN S.M S.Qc) r).QC=(QX S.M r).QC/\(QX (takeN S.M S.Qc) r).dl=(QX S.M r).dl/\(0<Jx (takeN S.M S.Qc) r->0<Jx S.M r):=λr a=>by
     by_cases e:r=Jc S.M S.Qc;obtain⟨n,n1,u,n3,n4,n5⟩:=Se G I j a;have c:W r≠[]:=λc=>by have:=(h.lf r a).none c;rw[e]at this;omega
     have XF:QX S.M r=n.du:=by unfold QX;rw[u]
     have xB:=h.pk r a;rw[e]at u;obtain⟨b1,H⟩:=By n u;obtain⟨F,c2,E⟩:=(h.lf r a).head c ω H;have J:QX (takeN S.M S.Qc) r=X8 (QX S.M r) (XR (Kv n.q)):=by rw[Sd b I.I I.V n1,Qe ⟨e,n4⟩,z,XF];rfl
     rw[J,show Jx (takeN S.M S.Qc) r=(XR (Kv n.q)).toNat by rw[e];exact b1];exact⟨F,c2,E,λ_=>by rw[e];exact Yh⟩;rw[q r a e,wg r e];exact⟨h.lf r a,rfl,rfl,id⟩
    refine⟨?_,λ_ _ p=>by cases p⟩;refine⟨(RK _ _).trans j,by show (takeN S.M S.Qc).lk.t.toNat=_;rw[yr];exact h.tk,by show (takeN S.M S.Qc).lk.Ze.toNat*_=_;rw[yr];exact h.kk,λr a=>(i r a).1,λr a=>?_,λr a c=>(i r a).2.1.trans (h.nw r a c),λr a f P L' c=>?_,λd g=>?_⟩;show (QX (takeN S.M S.Qc) r).QC<=16384*(k+1);rw[(i r a).2.1];have:=h.pk r a;omega;right;show f<S.Qc+WI S.M.lk (JA S.M S.Qc).len;have:=((h.lf r a).run f P L' c).1;omega;show ∃t0 B,t0<=S.Qc/\QD R cv K Tk d t0 B (QX (takeN S.M S.Qc)) (Jx (takeN S.M S.Qc)) (S.Qc+WI S.M.lk (JA S.M S.Qc).len);exact⟨S.Qc,_,Qv _,QGp (t:=S.Qc) (Ja:=S.Qc+WI S.M.lk (JA S.M S.Qc).len) hC h.lf I.cl ω Z4 (λr a=>(i r a).2) d⟩
   | true=>
    obtain⟨s,w,j2⟩:=QFa I.V z;obtain⟨a4,j3,j4⟩:=QmP I.I I.V b;rw[w]at j3;cases j3;have M:Jc S.M S.Qc∈R:=(G.mem _).2 ⟨s.c,by rw[<-j];exact I.I.some w,j4,j2⟩;have U:Qz S.M (Jc S.M S.Qc)=s:=by unfold Qz;rw[w];rfl
    have N6:QX S.M (Jc S.M S.Qc)=s.du:=by unfold QX;rw[U]
    obtain⟨b1,H⟩:=By s U;have IJ:=h.lf _ M;have N:W (Jc S.M S.Qc)≠[]:=λc=>by have:=IJ.none c;omega
    have a5:=h.pk _ M;obtain⟨F,c2,E⟩:=IJ.QGo N ω (len:=(JA S.M S.Qc).len) ω H;have J:QX (takeN S.M S.Qc) (Jc S.M S.Qc)=xg (QX S.M (Jc S.M S.Qc)) (JA S.M S.Qc).len (XR (Kv s.q)):=by rw[Sd b I.I I.V w,Qe ⟨rfl,j2⟩,z,N6];rfl
    rw[<-J,<-b1]at F;rw[<-J,<-ug]at c2;rw[<-J]at E;obtain⟨y,y1,y2,y3,y4⟩:=QGt z I.cl;have a1:y.va=(QX S.M (Jc S.M S.Qc)).dead:=by obtain⟨m,m1,_,_,_,m5⟩:=(I.V.lv y).1 y1;rw[y2,w]at m1;cases m1;rw[m5,N6]
    have O:=λd (g:d<=9223372036854775807)=>QGq (K:=K) (T:=Tk) (d:=d) G.nd hC h.lf I.cl a3 ω bI h.wk M Yh (λr a C he=>by rw[<-a1];exact y4 _ (nK G I.I I.V j a C) he) a2 (λr a e=>⟨q r a e,wg r e⟩) c2 E (λC=>by rw[(IJ.hd Yh).2,(F.hd C).2,c2,E];exact QGk _ (V6 _ ω)) g (h.inv d g);refine⟨?_,λ_ _ _ g=>?_⟩
    case' refine_2=>obtain⟨t0,B,q1,Q,q3⟩:=O _ g;obtain⟨b1,H,b3⟩:=Q.bb _ M;have:=Q.done G.nd M (n:=0) js H (On (b3 (q3 (Qv _))));rw[nO];omega
    refine⟨(RK _ _).trans j,by show (takeN S.M S.Qc).lk.t.toNat=_;rw[yr];exact h.tk,by show (takeN S.M S.Qc).lk.Ze.toNat*_=_;rw[yr];exact h.kk,λr a=>?_,λr a=>?_,λr a c=>?_,λr a f P L' c=>?_,λd g=>?_⟩;by_cases e:r=Jc S.M S.Qc;subst e;exact F;exact a0 r a e;show (QX (takeN S.M S.Qc) r).QC<=16384*(k+1);have:=h.pk r a;by_cases e:r=Jc S.M S.Qc;subst e;rw[c2];omega;rw[q r a e];omega;show (QX (takeN S.M S.Qc) r).QC=0;rw[q r a λe=>N (e▸c)];exact h.nw r a c;right;show f<S.Qc+WI S.M.lk (JA S.M S.Qc).len;have:=((h.lf r a).run f P L' c).1;omega;show ∃t0 B,t0<=S.Qc/\QD R cv K Tk d t0 B (QX (takeN S.M S.Qc)) (Jx (takeN S.M S.Qc)) (S.Qc+WI S.M.lk (JA S.M S.Qc).len);rw[nO];obtain⟨t0,B,q1,q2,_⟩:=O d g;exact⟨t0,B,q1,q2⟩
  rename_i b;rw[Qd b];refine⟨?_,λ_ p=>absurd p b⟩;have o:QX (takeN S.M S.Qc)=QX S.M:=funext λr=>(Qcv b r).1;have e2:Jx (takeN S.M S.Qc)=Jx S.M:=funext λr=>(Qcv b r).2;refine⟨(RK _ _).trans j,by show (takeN S.M S.Qc).lk.t.toNat=_;rw[yr];exact h.tk,by show (takeN S.M S.Qc).lk.Ze.toNat*_=_;rw[yr];exact h.kk,λr a=>?_,λr a=>?_,λr a=>?_,λr a=>?_,λd g=>?_⟩;show zM (cv r) S.Qc (W r) (QX (takeN S.M S.Qc) r) (Jx (takeN S.M S.Qc) r);rw[o,e2];exact h.lf r a;show (QX (takeN S.M S.Qc) r).QC<=_;rw[o];exact h.pk r a;show W r=[]->(QX (takeN S.M S.Qc) r).QC=0;rw[o];exact h.nw r a;show ∀f P L,W r=(f,P)::L->(QX (takeN S.M S.Qc) r).QC=P\/f<S.Ja;rw[o];exact h.wk r a;show ∃t0 B,t0<=S.Qc/\QD R cv K Tk d t0 B (QX (takeN S.M S.Qc)) (Jx (takeN S.M S.Qc)) S.Ja;rw[o,e2];exact h.inv d g
end
section
variable {T:List Ql}{R:List Int}{cv:Int->Nc}{K Tk:Nat}(G:GQ T R cv)
def GR.Qc{W k}{S:Zy}(h:GR T R cv K Tk W k S){Y}(e:S.Qc<=Y):GR T R cv K Tk W k { S with Qc:=Y }:=
 ⟨h.T,h.tk,h.kk,λr a=>(h.lf r a).Qc e,h.pk,h.nw,h.wk,λd b=>by obtain⟨t0,B,f,c⟩:=h.inv d b;exact⟨t0,B,J5 f e,c⟩⟩
include G
theorem QnS{S:Zy}(I:ZQ S)(q:S.M.T=T){J x}(c:qO S.M S.Qc J x=0){r}(o:r∈R):
  QX (Zx S.M S.Qc J x) r=if r=J/\Q4 S.M J=[] then XC (QX S.M r) (cv r) S.Qc x.len else QX S.M r:=by
 obtain⟨n,l,k,t,j,i⟩:=Se G I q o;obtain⟨t1,_,_⟩:=xq S.M S.Qc;have s:QX S.M r=n.du:=by unfold QX;rw[k]
 rw[s];unfold qO at c;unfold Zx;split at c;rename_i m;rw[Qe m];have b:=QnK (M:=ZA S.M S.Qc) S.Qc J x r;rw[t1,l,Kq]at b;obtain⟨y,g,f⟩:=WK.1 b;have d:y.du=_:=congrArg Prod.snd f;have p:(Qz (ZA S.M S.Qc) J).q.l=Q4 S.M J:=by unfold Q4 Qz;rw[t1]
 rw[p]at d;have e:QX (VE (ZA S.M S.Qc) S.Qc J x) r=y.du:=by unfold QX Qz;rw[g];rfl
 rw[e,d];dsimp only;by_cases a:r=J/\Q4 S.M J=[];rw[Qe ⟨c,a.2,a.1,j⟩,Qe a,i];rw[Qd λh=>a ⟨h.2.2.1,h.2.1⟩,Qd a];cases c
theorem QnT{W k}{S:Zy}(I:ZQ S)(V:S.Qc<Zf S)(h:GR T R cv K Tk W k S){J x}(u:qO S.M S.Qc J x=0)(hk:k<=1000000000):
  GR T R cv K Tk (λr=>if r=J/\Q4 S.M J=[] then (S.Qc,(QX S.M r).QC)::W r else W r) k { S with M:=Zx S.M S.Qc J x } /\
  (S.Ja<S.Qc->∀r∈R,0<Jx (Zx S.M S.Qc J x) r->∀i P L,(if r=J/\Q4 S.M J=[] then (S.Qc,(QX S.M r).QC)::W r else W r)=(i,P)::L->S.Qc<=(QX (Zx S.M S.Qc J x) r).Vt\/i=S.Qc):=by
 have z:∀r∈R,qU (cv r):=λr b=>by obtain⟨O,U,_⟩:=(G.mem r).1 b;exact(G.cv r b O U).2
 have Y:=Qbu u;have xk:=I.K.l2;have Zw:=I.cl;have w:∀r,Q4 (Zx S.M S.Qc J x) r=if J=r then Q4 S.M r++[x] else Q4 S.M r:=λr=>by rw[NK];by_cases e:J=r;rw[Qe ⟨u,e⟩,Qe e];rw[Qd λh=>e h.2,Qd e]
 have g:=λ{r:Int} (b:r∈R)=>QnS G I h.T u b;have s:∀r,Jx (Zx S.M S.Qc J x) r=if r=J/\Q4 S.M J=[] then x.len.toNat else Jx S.M r:=λr=>by
  unfold Jx;rw[w];by_cases e:J=r;subst e;rw[Qe rfl];cases hq:Q4 S.M J with
  | nil=>rw[Qe ⟨rfl,rfl⟩];rfl
  | cons a L=>rw[Qd λh=>by cases h.2];rfl
  rw[Qd e,Qd λh=>e h.1.symm]
 have n:=λ{r:Int} (b:r∈R) (c:r=J/\Q4 S.M J=[])=>by
  have l:Jx S.M r=0:=by unfold Jx;rw[c.1,c.2];rfl
  have L:=h.lf r b;rw[l]at L;have xB:=h.pk r b;exact L.aH (z r b) I.cl ω Y.1 ω
 refine⟨⟨(nB _ _ _ _).trans h.T,by show (Zx S.M S.Qc J x).lk.t.toNat=_;rw[BA];exact h.tk,by show (Zx S.M S.Qc J x).lk.Ze.toNat*_=_;rw[BA];exact h.kk,λr b=>?_,λr b=>?_,λr b f=>?_,λr b i P L f=>?_,λd Z=>?_⟩,λhu r b l i P L f=>?_⟩;show zM (cv r) S.Qc (if r=J/\Q4 S.M J=[] then (S.Qc,(QX S.M r).QC)::W r else W r) (QX (Zx S.M S.Qc J x) r) (Jx (Zx S.M S.Qc J x) r);rw[g b,s];by_cases c:r=J/\Q4 S.M J=[];rw[Qe c,Qe c,Qe c];exact(n b c).1;rw[Qd c,Qd c,Qd c];exact h.lf r b;show (QX (Zx S.M S.Qc J x) r).QC<=_;rw[g b];by_cases c:r=J/\Q4 S.M J=[];rw[Qe c,(n b c).2.1];exact h.pk r b;rw[Qd c];exact h.pk r b;have f:(if r=J/\Q4 S.M J=[] then (S.Qc,(QX S.M r).QC)::W r else W r)=[]:=f;show (QX (Zx S.M S.Qc J x) r).QC=0;rw[g b];by_cases c:r=J/\Q4 S.M J=[];rw[Qe c]at f;cases f;rw[Qd c]at f ⊢;exact h.nw r b f;have f:(if r=J/\Q4 S.M J=[] then (S.Qc,(QX S.M r).QC)::W r else W r)=(i,P)::L:=f;show (QX (Zx S.M S.Qc J x) r).QC=P\/i<S.Ja;rw[g b];by_cases c:r=J/\Q4 S.M J=[];rw[Qe c]at f ⊢;cases f;left;exact(n b c).2.1;rw[Qd c]at f ⊢;exact h.wk r b i P L f;obtain⟨t0,B,C,Q⟩:=h.inv d Z;refine⟨t0,B,C,?_⟩;show QD R cv K Tk d t0 B (QX (Zx S.M S.Qc J x)) (Jx (Zx S.M S.Qc J x)) S.Ja;by_cases y:J∈R/\Q4 S.M J=[];obtain⟨j,E⟩:=y;have c:J=J/\Q4 S.M J=[]:=⟨rfl,E⟩;obtain⟨N,H,F⟩:=n j c;have o:=g j;rw[Qe c]at o;refine Q.aH (q:=J) (by unfold Jx;rw[E];rfl) (λr b e=>?_) (by rw[o,H]) ?_ ?_;rw[g b,s,Qd λh=>e h.1,Qd λh=>e h.1];exact⟨rfl,rfl⟩;rw[o];obtain⟨_,v,_,_⟩:=N.run _ _ _ rfl;exact QnE (z J j) v C;rw[o];cases f:W J with
 | nil=>exact .inl (h.nw J j f)
 | cons p L=>obtain⟨a1,v,a3,a4⟩:=(h.lf J j).run p.1 p.2 L f;exact .inr λm hB=>F p.1 (W J) v ⟨p.2,L,f,rfl⟩ ((h.lf J j).has.2 (by rw[f];exact bU _ _)) t0 m hB
 have t:∀r∈R,QX (Zx S.M S.Qc J x) r=QX S.M r/\Jx (Zx S.M S.Qc J x) r=Jx S.M r:=λr b=>by have c:¬(r=J/\Q4 S.M J=[]):=λc=>y ⟨c.1▸b,c.2⟩;rw[g b,s,Qd c,Qd c];exact⟨rfl,rfl⟩
 refine⟨λr b=>by rw[(t r b).1];exact Q.bb r b,?_,λr b=>by rw[(t r b).1,(t r b).2];exact Q.q r b⟩;rw[show (R.map λr=>(QX (Zx S.M S.Qc J x) r).QC-B r)=R.map λr=>(QX S.M r).QC-B r from AB λr b=>by rw[(t r b).1]];exact Q.un;rw[g b];rw[s]at l;by_cases c:r=J/\Q4 S.M J=[];rw[Qe c]at f;cases f;exact .inr rfl;rw[Qd c]at l ⊢;refine .inl (Qcw (T:=T) G I.I I.V h.T b l I.cl ?_);unfold Zf Yu at V;omega
end
def qn(r:Int)(a:Nat)(l:List Ev):Nat:=(l.map λe=>if e.Jz=false/\e.cls=r/\e.real=true/\(a:Int)<e.done then e.len.toNat else 0).sum
def Yf(r:Int)(b a:Nat)(l:List Ev):Nat:=(l.map λe=>if e.Jz=false/\e.cls=r/\(b:Int)<e.done/\e.done<=(a:Int) then e.len.toNat else 0).sum
def nP(r c)(a b:List Ev):qn r c (a++b)=qn r c a+qn r c b:=by unfold qn;rw[zP,List.sum_append]
def Qcy(r d c)(a b:List Ev):Yf r d c (a++b)=Yf r d c a+Yf r d c b:=by unfold Yf;rw[zP,List.sum_append]
def Qcz{f g:Ev->Nat}:∀(l:List Ev),(∀e∈l,f e<=g e)->(l.map f).sum<=(l.map g).sum
 | [],_=>Qv _
 | a::l,h=>by have d:=h a Jo;have c:=Qcz l λr b=>h r (Js _ b);rw[Jr,Jr,j9,j9];omega
def QGz(r d){a b}(h:a<=b)(l:List Ev):Yf r d a l<=Yf r d b l:=Qcz l λe _=>by split;rename_i c;rw[Qe ⟨c.1,c.2.1,c.2.2.1,ω⟩];exact Qv _;exact Z7 _
def QcA{r:Int}{Zv a:Nat}{l:List Ev}(h:∀e∈l,e.Jz=false->e.done<=(a:Int)):qn r Zv l<=Yf r Zv a l:=Qcz l λe c=>by split;rename_i b;rw[Qe ⟨b.1,b.2.1,b.2.2.2,h e c b.1⟩];exact Qv _;exact Z7 _
structure Sf (R:List Int) (cv:Int->Nc) (K:Nat) (W:Int->List (Nat × Nat)) (l:List Ev) (S:Zy):Prop where
 dn:∀e∈l,e.Jz=false->e.done<=(S.Ja:Int)
 fl:∀r∈R,∃n:Nat,(n:Int)<=S.M.lk.Ze/\(∀Zv,qn r Zv l<=Yf r Zv S.Qc l+n)/\(n=0\/∃δ,∃p∈W r,S.Ja<=δ+K/\p.1<δ/\p.2*65536+Jg (cv r).a (cv r).d (cv r).b (δ-1-p.1)<(QX S.M r).QC*65536)
 sn:∀r∈R,∀p∈W r,(QX S.M r).QC<=p.2+qn r p.1 l
def Sf.Qc{R d K W l}{S:Zy}(h:Sf R d K W l S){Y}(e:S.Qc<=Y):Sf R d K W l { S with Qc:=Y }:=
 ⟨h.dn,λr f=>by
  obtain⟨n,j,i,g⟩:=h.fl r f;exact⟨n,j,λc=>by have a:=i c;have b:=QGz r c e l;show qn r c l<=Yf r c Y l+n;omega,g⟩,h.sn⟩
section
variable {T:List Ql}{R:List Int}{cv:Int->Nc}{K Tk:Nat}(G:GQ T R cv)
include G
theorem QGA{W k S l}(I:ZQ S)(h:GR T R cv K Tk W k S)(E:Sf R cv K W l S)
  (J:Nat) (h':¬S.Qc<S.Ja->Wn S.M S.Qc=true->WY S.M S.Qc=true->(QX S.M (Jc S.M S.Qc)).dead<=9223372036854775807->S.Qc+WI S.M.lk (JA S.M S.Qc).len<=(QX S.M (Jc S.M S.Qc)).dead+K) (Q:k+(Z2 S J S.Qc).2.length<=1000000000) :
  Sf R cv K W (l++(Z2 S J S.Qc).2) (Z2 S J S.Qc).1:=by
 have hT:=h.T;have U:∀r∈R,qU (cv r):=λr b=>by obtain⟨kk,k1,_⟩:=(G.mem r).1 b;exact(G.cv r b kk k1).2
 have kR:=I.K;unfold Z2 at Q ⊢;split at Q;rename_i N;rw[Qe N];rw[JN];exact E
 .rename_i N;rw[Qd N];split at Q
  .rename_i d;rw[Qe d];have Qf:k+1<=1000000000:=Q;obtain⟨x,L,hq,hx⟩:=RJ I.I I.V d;have H:=I.take_len d;have Qb:=IF kR H;have xk:=kR.l2;have a0:WI S.M.lk (JA S.M S.Qc).len<=K:=by rw[<-h.kk,<-h.tk];exact V6 _ ω
   have JR:∀e∈l,e.Jz=false->e.done<=(S.Qc:Int):=λe he hi=>by have:=E.dn e he hi;omega
   obtain⟨v,t⟩:=Zc (Dc J (WY S.M S.Qc) S.Qc (S.Qc+WI S.M.lk (JA S.M S.Qc).len) (Jc S.M S.Qc) (JA S.M S.Qc));have v1:v.Jz=false:=by rw[t];rfl
   have v2:v.cls=Jc S.M S.Qc:=by rw[t];rfl
   have v3:v.real=WY S.M S.Qc:=by rw[t];rfl
   have v4:v.done=((S.Qc+WI S.M.lk (JA S.M S.Qc).len:Nat):Int):=by rw[t];rfl
   have v5:v.len=(JA S.M S.Qc).len:=by rw[t];rfl
   rw[<-t];have one:∀r c,qn r c [v]=if v.Jz=false/\v.cls=r/\v.real=true/\(c:Int)<v.done then v.len.toNat else 0:=λr c=>by unfold qn;simp
   have F:∀r c,Yf r c S.Qc [v]=0:=λr c=>by unfold Yf;simp only[Jr,List.map_nil,j9,List.sum_nil,vn];rw[Qd];rintro⟨_,_,_,h5⟩;rw[v4]at h5;omega
   have s:∀r∈R,¬(r=Jc S.M S.Qc/\WY S.M S.Qc=true)->(QX (takeN S.M S.Qc) r).QC=(QX S.M r).QC:=λr b QE=>by
    obtain⟨n,m,j,M,y,n5⟩:=Se G I hT b;rw[Sd d I.I I.V m];have q:QX S.M r=n.du:=by unfold QX;rw[j]
    rw[q];by_cases e:r=Jc S.M S.Qc;have f:WY S.M S.Qc=false:=by
     cases f:WY S.M S.Qc with
     | false=>rfl
     | true=>exact absurd ⟨e,f⟩ QE
    rw[Qe ⟨e,y⟩,f];show (X8 n.du _).QC=n.du.QC;unfold X8;split<;>rfl;rw[Qd λh=>e h.1]
   refine⟨λe he hi=>?_,λr b=>?_,λr b p O=>?_⟩
   .show e.done<=((S.Qc+WI S.M.lk (JA S.M S.Qc).len:Nat):Int);rcases Q3.1 he with he|he;have:=JR e he hi;omega;rw[Xj]at he;rw[he,v4];exact qW _
   .show ∃n:Nat,(n:Int)<=(takeN S.M S.Qc).lk.Ze/\(∀c,qn r c (l++[v])<=Yf r c S.Qc (l++[v])+n)/\(n=0\/∃g,∃p∈W r,S.Qc+WI S.M.lk (JA S.M S.Qc).len<=g+K/\p.1<g/\p.2*65536+Jg (cv r).a (cv r).d (cv r).b (g-1-p.1)<(QX (takeN S.M S.Qc) r).QC*65536);rw[yr];by_cases z:r=Jc S.M S.Qc/\WY S.M S.Qc=true
    .obtain⟨e,f⟩:=z;refine⟨(JA S.M S.Qc).len.toNat,ω,λc=>?_,.inr ?_⟩
     .rw[nP,Qcy,F,one];have a:=QcA (r:=r) (Zv:=c) JR;have:(if v.Jz=false/\v.cls=r/\v.real=true/\(c:Int)<v.done then v.len.toNat else 0)<=(JA S.M S.Qc).len.toNat:=by split;rw[v5];exact Qv _;exact Z7 _
      omega
     ·
      obtain⟨n,m,j,M,y,n5⟩:=Se G I hT b;have q:QX S.M r=n.du:=by unfold QX;rw[j]
      have u:=h.lf r b;have hh:Jx S.M r=(JA S.M S.Qc).len.toNat:=by unfold Jx;rw[e,hq,hx];rfl
      have Z:=h.pk r b;cases o:W r with
      | nil=>have:=u.none o;omega
      | cons i L0=>
       obtain⟨a1,C,a3,B⟩:=u.run i.1 i.2 L0 o;have Wh:=u.pk i (by rw[o];exact Jo);have Y:=(u.hd ω).2;rw[hh]at Y;have JW:(QX (takeN S.M S.Qc) r).QC=(QX S.M r).QC+(JA S.M S.Qc).len.toNat:=by rw[Sd d I.I I.V m,Qe ⟨e,y⟩,f,q];rw[q]at Z;show (xg n.du _ _).QC=_;unfold xg X8;split;exact N5 ω;exact N5 ω
       rw[JW];have Zw:=I.cl;rw[o]at C B;have hg:=Qcq (U r b) (P:=i.2) (V:=(QX S.M r).QC+(JA S.M S.Qc).len.toNat) ω C Jo ω;rw[<-Y]at hg;have a5:=Qct (U r b);by_cases a6:(QX S.M r).dead<=4611686018428436480;obtain⟨w,w1,w2,w3⟩:=Qcr (U r b) (x:=(QX S.M r).dead-1) C B ω ω (show (QX S.M r).dead-1<KG (QX S.M r).dl (((QX S.M r).QC+(JA S.M S.Qc).len.toNat)*65536) by rw[<-Y];omega);refine⟨(QX S.M r).dead,w,w1,?_,ω,w3⟩;have:=h' N d f (by rw[<-e];omega);rw[<-e]at this;exact this;obtain⟨w,w1,w2,w3⟩:=Qcr (U r b) (x:=4611686018428436480) C B ω ω (show 4611686018428436480<KG (QX S.M r).dl (((QX S.M r).QC+(JA S.M S.Qc).len.toNat)*65536) by rw[<-Y];omega);exact⟨4611686018428436481,w,w1,ω,ω,w3⟩
    refine⟨0,by have:=kR.l1;omega,λc=>?_,.inl rfl⟩;rw[nP,Qcy,F,one,Qd];have:=QcA (r:=r) (Zv:=c) JR;omega;rintro⟨_,h5,h6,_⟩;exact z ⟨by rw[<-h5,v2],by rw[<-v3];exact h6⟩
   show (QX (takeN S.M S.Qc) r).QC<=p.2+qn r p.1 (l++[v]);have a:=E.sn r b p O;rw[nP,one];by_cases z:r=Jc S.M S.Qc/\WY S.M S.Qc=true;obtain⟨e,f⟩:=z;obtain⟨n,m,j,M,y,n5⟩:=Se G I hT b;have q:QX S.M r=n.du:=by unfold QX;rw[j]
   have Z:=h.pk r b;have JW:(QX (takeN S.M S.Qc) r).QC=(QX S.M r).QC+(JA S.M S.Qc).len.toNat:=by rw[Sd d I.I I.V m,Qe ⟨e,y⟩,f,q];rw[q]at Z;show (xg n.du _ _).QC=_;unfold xg X8;split;exact N5 ω;exact N5 ω
   have nI:p.1<=S.Qc:=by
    have u:=h.lf r b;cases o:W r with
    | nil=>rw[o]at O;cases O
    | cons i L0=>obtain⟨a1,C,a3,B⟩:=u.run i.1 i.2 L0 o;have:=B p O;omega
   rw[JW,Qe ⟨v1,by rw[v2,e],by rw[v3,f],by rw[v4];omega⟩,v5];omega;rw[s r b z];omega
  rename_i d;rw[Qd d];have e1:QX (takeN S.M S.Qc)=QX S.M:=funext λr=>(Qcv d r).1;rw[JN];refine⟨E.dn,λr b=>?_,λr b=>?_⟩;obtain⟨n,m,j,M⟩:=E.fl r b;refine⟨n,?_,j,?_⟩;show (n:Int)<=(takeN S.M S.Qc).lk.Ze;rw[yr];exact m;show n=0\/∃g,∃p∈W r,S.Ja<=g+K/\p.1<g/\p.2*65536+Jg (cv r).a (cv r).d (cv r).b (g-1-p.1)<(QX (takeN S.M S.Qc) r).QC*65536;rw[e1];exact M;show ∀p∈W r,(QX (takeN S.M S.Qc) r).QC<=p.2+qn r p.1 l;rw[e1];exact E.sn r b
end
def jX(r:Int)(l:List Ev):Gh:=l.foldl (Gh.next [r]) ⟨0,[],0⟩
structure Sg (R:List Int) (W:Int->List (Nat × Nat)) (l:List Ev) (S:Zy):Prop where
 n:∀r∈R,(jX r l).n=(Q4 S.M r).length
 g:∀r∈R,∀p∈W r,∃x∈(jX r l).g,x.1=p.1
def QcB(r)(s:Gh)(e:Ev){a}(h:∃x∈s.g,x.1=a):∃x∈(s.next [r] e).g,x.1=a:=by obtain⟨x,c,b⟩:=h;unfold Gh.next;split;split;dsimp only;split;exact⟨x,Js _ c,b⟩;exact⟨x,c,b⟩;exact⟨_,Jw.2 ⟨x,c,rfl⟩,b⟩;exact⟨x,c,b⟩
def nQ(r)(l:List Ev)(e:Ev):jX r (l++[e])=(jX r l).next [r] e:=by unfold jX;rw[qu];rfl
def Sg.Qc{R W l S}(h:Sg R W l S)(Y):Sg R W l { S with Qc:=Y }:=⟨h.n,h.g⟩
def bJ(r q:Int):[r].contains q=true↔q=r:=σ
def QGC{R W l}{S:Zy}(I:ZQ S)(h:Sg R W l S)(d):Sg R W (l++(Z2 S d S.Qc).2) (Z2 S d S.Qc).1:=by
 unfold Z2;split;rw[JN];exact h
 .split
  .rename_i c;obtain⟨x,L,m,hx⟩:=RJ I.I I.V c;refine⟨λr a=>?_,λr a p k=>?_⟩
   .rw[nQ];show (Gh.next [r] (jX r l) _).n=(Q4 (takeN S.M S.Qc) r).length;have j:=h.n r a;obtain⟨v,f⟩:=Zc (Dc d (WY S.M S.Qc) S.Qc (S.Qc+WI S.M.lk (JA S.M S.Qc).len) (Jc S.M S.Qc) (JA S.M S.Qc));have v1:v.Jz=false:=by rw[f];rfl
    have v2:v.cls=Jc S.M S.Qc:=by rw[f];rfl
    rw[<-f];by_cases e:Jc S.M S.Qc=r
    .have i:Q4 (takeN S.M S.Qc) r=(Q4 S.M r).tail:=by rw[Db,Qe ⟨c,e⟩]
     have g:(Gh.next [r] (jX r l) v).n=(jX r l).n-1:=by unfold Gh.next;rw[Qe ((bJ r _).2 (v2.trans e)),Qd (by rw[v1];decide)]
     rw[i,g,j,List.length_tail]
    .have i:Q4 (takeN S.M S.Qc) r=Q4 S.M r:=by rw[Db,Qd λb=>e b.2]
     have g:Gh.next [r] (jX r l) v=jX r l:=by unfold Gh.next;rw[Qd λb=>e (v2.symm.trans ((bJ r _).1 b))]
     rw[i,g];exact j
   rw[nQ];exact QcB r _ _ (h.g r a p k)
  rename_i c;rw[JN];refine⟨λr a=>?_,h.g⟩;show (jX r l).n=(Q4 (takeN S.M S.Qc) r).length;rw[Db,Qd λb=>c b.1];exact h.n r a
structure qp (T:List Ql) (R:List Int) (cv:Int->Nc) (K Tk:Nat) (W:Int->List (Nat × Nat)) (l:List Ev) (S:Zy):Prop where
 gu:GR T R cv K Tk W l.length S
 ge:Sf R cv K W l S
 sp:Sg R W l S
def qp.Qc{T R a K b W l}{S:Zy}(h:qp T R a K b W l S){Y}(e:S.Qc<=Y):qp T R a K b W l { S with Qc:=Y }:=⟨h.gu.Qc e,h.ge.Qc e,h.sp.Qc Y⟩
section
variable {T:List Ql}{R:List Int}{cv:Int->Nc}{K Tk:Nat}(G:GQ T R cv)(js:∀t,(R.map λr=>Jg (cv r).a (cv r).d (cv r).b t).sum*Tk<=65536*t)
include G js
theorem QnW{W l S}(I:ZQ S)(h:qp T R cv K Tk W l S)
  (j:S.Ja<S.Qc->∀r∈R,0<Jx S.M r->∀e P L,W r=(e,P)::L->S.Qc<=(QX S.M r).Vt\/e=S.Qc) (c:Nat) (f:l.length+(Z2 S c S.Qc).2.length<=1000000000) :
  qp T R cv K Tk W (l++(Z2 S c S.Qc).2) (Z2 S c S.Qc).1:=by
 obtain⟨i,g⟩:=QGw G I h.gu j js c f;exact⟨by rw[Zn];exact i,QGA G I h.gu h.ge c g f,QGC I h.sp c⟩
theorem QnX{W c e}(u:e<=4611686018427387904):∀(n:Nat) {l:List Ev} {S:Zy},ZQ S->S.Qc<=e->S.Qc<Zf S->qp T R cv K Tk W l S->l.length+(K7 c e n S).2.length<=1000000000 ->
  qp T R cv K Tk W (l++(K7 c e n S).2) (K7 c e n S).1
 | 0,l,S,I,j,o,h,f=>by show qp T R cv K Tk W (l++[]) _;rw[JN];exact h.Qc j
 | n+1,l,S,I,j,o,h,f=>by
  unfold K7 at f ⊢;split at f;rename_i g;rw[Qe g];show qp T R cv K Tk W (l++[]) _;rw[JN];exact h.Qc j;rename_i g;rw[Qd g];have g:Zf S<=e:=ω;have q:=aO S I.cl;have k:=I.at_ q (show Zf S<=4611686018427387904 from ω);have v:=h.Qc q;dsimp only at f ⊢;rw[Zn]at f;have P:=QnW G js k v (λi r s w y P L z=>.inl (Qcw (T:=T) G I.I I.V h.gu.T s w (by show Zf S<=_;omega) (by
   have i:S.Ja<Zf S:=i;show Zf S<=Vm S.M;unfold Zf Yu at i o ⊢;omega))) c (by
   show l.length+(Z2 { S with Qc:=Zf S } c (Zf S)).2.length<=_;omega)
  have p:=II { S with Qc:=Zf S } c (Zf S);have m:=QlT k c;have x:=QnX u n (k.IG c) (by show (Z2 { S with Qc:=Zf S } c (Zf S)).1.Qc<=e;rw[p.1];exact g) (by show (Z2 { S with Qc:=Zf S } c (Zf S)).1.Qc<Zf (Z2 { S with Qc:=Zf S } c (Zf S)).1;rw[p.1];exact m) P (by rw[Zn];show l.length+(Z2 { S with Qc:=Zf S } c (Zf S)).2.length+(K7 c e n (Z2 { S with Qc:=Zf S } c (Zf S)).1).2.length<=_;omega)
  rw[<-WJ];exact x
theorem QGD{W}{l:List Ev}{S:Zy}(I:ZQ S)(m:S.Qc<Zf S)(h:qp T R cv K Tk W l S){J x}(s:qO S.M S.Qc J x=0)(U:l.length+1<=1000000000)(c):
  qp T R cv K Tk (λr=>if r=J/\Q4 S.M J=[] then (S.Qc,(QX S.M r).QC)::W r else W r) (l++[Xs c S.Qc J x]) { S with M:=Zx S.M S.Qc J x }:=by
 obtain⟨k,_⟩:=QnT G I m h.gu s ω;have y:∀r,Q4 (Zx S.M S.Qc J x) r=if J=r then Q4 S.M r++[x] else Q4 S.M r:=λr=>by rw[NK];by_cases e:J=r;rw[Qe ⟨s,e⟩,Qe e];rw[Qd λh=>e h.2,Qd e]
 have z:∀r∈R,(QX (Zx S.M S.Qc J x) r).QC=(QX S.M r).QC:=λr f=>by rw[QnS G I h.gu.T s f];split;unfold XC X8;split<;>rfl;rfl
 have B:∀r i,qn r i (l++[Xs c S.Qc J x])=qn r i l:=λr i=>by rw[nP];show _+qn r i [Xs c S.Qc J x]=_;unfold qn;simp[Xs]
 have E:∀r i j,Yf r i j (l++[Xs c S.Qc J x])=Yf r i j l:=λr i j=>by rw[Qcy];show _+Yf r i j [Xs c S.Qc J x]=_;unfold Yf;simp[Xs]
 have w:∀r p,p∈W r->p∈(if r=J/\Q4 S.M J=[] then (S.Qc,(QX S.M r).QC)::W r else W r):=λr p h=>by split;exact Js _ h;exact h
 refine⟨⟨k.T,k.tk,k.kk,k.lf,λr f=>?_,k.nw,k.wk,k.inv⟩,⟨λe he u=>?_,λr f=>?_,λr f p g=>?_⟩,⟨λr f=>?_,λr f p g=>?_⟩⟩;have:=k.pk r f;rw[Zn];omega;rcases Q3.1 he with he|he;exact h.ge.dn e he u;rw[Xj]at he;rw[he]at u;cases u;obtain⟨n,P,O,q⟩:=h.ge.fl r f;refine⟨n,?_,λi=>?_,?_⟩;show (n:Int)<=(Zx S.M S.Qc J x).lk.Ze;rw[BA];exact P;show qn r i (l++[Xs c S.Qc J x])<=Yf r i S.Qc (l++[Xs c S.Qc J x])+n;rw[B,E];exact O i;rcases q with q|⟨C,p,N,L,H,F⟩;exact .inl q;refine .inr ⟨C,p,w r p N,L,H,?_⟩;show _<(QX (Zx S.M S.Qc J x) r).QC*65536;rw[z r f];exact F;show (QX (Zx S.M S.Qc J x) r).QC<=p.2+qn r p.1 (l++[Xs c S.Qc J x]);rw[z r f,B];have g:p∈(if r=J/\Q4 S.M J=[] then (S.Qc,(QX S.M r).QC)::W r else W r):=g;split at g;rcases QK.1 g with rfl|g;exact Lk _ _;exact h.ge.sn r f p g;exact h.ge.sn r f p g
 .show (jX r (l++[Xs c S.Qc J x])).n=(Q4 (Zx S.M S.Qc J x) r).length;rw[nQ,y];have m:=h.sp.n r f;by_cases e:J=r
  .have v:(Gh.next [r] (jX r l) (Xs c S.Qc J x)).n=(jX r l).n+1:=by unfold Gh.next;rw[Qe ((bJ r _).2 (show (Xs c S.Qc J x).cls=r from e)),Qe (show (Xs c S.Qc J x).Jz=true from rfl)]
   rw[v,Qe e,Zn,m];rfl
  .have v:Gh.next [r] (jX r l) (Xs c S.Qc J x)=jX r l:=by unfold Gh.next;rw[Qd (show ¬[r].contains (Xs c S.Qc J x).cls=true from λQ=>e ((bJ r _).1 Q))]
   rw[v,Qd e];exact m
 .rw[nQ];have g:p∈(if r=J/\Q4 S.M J=[] then (S.Qc,(QX S.M r).QC)::W r else W r):=g;split at g
  .rename_i o;rcases QK.1 g with rfl|g
   .have m:=h.sp.n r f;rw[o.1,o.2]at m;unfold Gh.next;rw[Qe ((bJ r _).2 (show (Xs c S.Qc J x).cls=r from o.1.symm)),Qe (show (Xs c S.Qc J x).Jz=true from rfl)];dsimp only;rw[o.1,Qe (show (jX J l).n=0 from m)];exact⟨_,Jo,rfl⟩
   exact QcB r _ _ (h.sp.g r f p g)
  exact QcB r _ _ (h.sp.g r f p g)
end
section
variable {T:List Ql}{R:List Int}{cv:Int->Nc}{K Tk:Nat}(G:GQ T R cv)(js:∀t,(R.map λr=>Jg (cv r).a (cv r).d (cv r).b t).sum*Tk<=65536*t)
include G js
theorem QGE{W}{l:List Ev}{S:Zy}(I:ZQ S)(w:S.Qc<Zf S)(h:qp T R cv K Tk W l S){o:Zt}(Y:o.kind≠1)(f:l.length+(J3 S o).l.length<=1000000000):
  ∃C,qp T R cv K Tk C (l++(J3 S o).l) (J3 S o).S:=by
 have c:qp T R cv K Tk W l { S with ops:=S.ops+1 }:=⟨⟨h.gu.T,h.gu.tk,h.gu.kk,h.gu.lf,h.gu.pk,h.gu.nw,h.gu.wk,h.gu.inv⟩,⟨h.ge.dn,h.ge.fl,h.ge.sn⟩,⟨h.sp.n,h.sp.g⟩⟩;have u:=I.ops (S.ops+1);have e:∀E,qp T R cv K Tk W l E->∃C,qp T R cv K Tk C (l++[]) E:=λE h=>⟨W,by rw[JN];exact h⟩;unfold J3 K8 at f ⊢;rw[Qd Y]at f ⊢;split at f;rename_i z;rw[Qe z];split;exact e _ ⟨⟨c.gu.T,c.gu.tk,c.gu.kk,c.gu.lf,c.gu.pk,c.gu.nw,c.gu.wk,c.gu.inv⟩,⟨c.ge.dn,c.ge.fl,c.ge.sn⟩,⟨c.sp.n,c.sp.g⟩⟩;exact e _ c;rename_i z;rw[Qd z];split at f;rename_i y;rw[Qe y];unfold Yv at f ⊢;split at f;rename_i i;rw[Qe i];exact e _ c;rename_i i;rw[Qd i];dsimp only at f ⊢;obtain⟨J,hJ⟩:=Zc (Kc S.R (Z1 o.ZG));rw[<-hJ]at f ⊢;split at f;rename_i k;rw[Qe k];rw[Kx]at f;have P:=QGD G js u w c (J:=J) (x:=o.ZG) k ω S.ops;have P2:qp T R cv K Tk (λr=>if r=J/\Q4 S.M J=[] then (S.Qc,(QX S.M r).QC)::W r else W r) (l++[Xs S.ops S.Qc J o.ZG]) { S with ops:=S.ops+1,M:=Zx S.M S.Qc J o.ZG,st:=wu S.st J S.Qc }:=
  ⟨⟨P.gu.T,P.gu.tk,P.gu.kk,P.gu.lf,P.gu.pk,P.gu.nw,P.gu.wk,P.gu.inv⟩,⟨P.ge.dn,P.ge.fl,P.ge.sn⟩,⟨P.sp.n,P.sp.g⟩⟩
 have I2:=(u.put J o.ZG).Jq J S.Qc (by have:=I.cl;omega);have Zs:=(QnT G u w c.gu (J:=J) (x:=o.ZG) k ω).2;have Q:=QnW G js I2 P2 Zs S.ops (by rw[Zn];show l.length+1+(Z2 { S with ops:=S.ops+1,M:=Zx S.M S.Qc J o.ZG,st:=wu S.st J S.Qc } S.ops S.Qc).2.length<=_;omega)
 rw[WJ]at Q;exact⟨_,Q⟩;rename_i k;rw[Qd k];have s:¬qO S.M S.Qc J o.ZG=0:=k;have H:∀r,Q4 (Zx S.M S.Qc J o.ZG) r=Q4 S.M r:=λr=>by rw[NK,Qd λh=>s h.1]
 have Z:∀r,QX (Zx S.M S.Qc J o.ZG) r=QX S.M r:=λr=>by
  obtain⟨t1,_,_⟩:=xq S.M S.Qc;unfold qO at s;unfold QX Zx;split;rename_i U;rw[Qe U]at s;have g:=QnK (M:=ZA S.M S.Qc) S.Qc J o.ZG r;rw[t1]at g;have g:(Qi (VE (ZA S.M S.Qc) S.Qc J o.ZG).N r).map zN=(Qi S.M.N r).map zN:=by rw[g];congr 1;funext m;rw[Qd λh=>s h.1];rfl
  exact congrArg Prod.snd (QlK g);rfl
 have j:QX (Zx S.M S.Qc J o.ZG)=QX S.M:=funext Z;have N:Jx (Zx S.M S.Qc J o.ZG)=Jx S.M:=funext λr=>by unfold Jx;rw[H]
 refine e _ ⟨⟨(nB _ _ _ _).trans h.gu.T,by show (Zx S.M S.Qc J o.ZG).lk.t.toNat=_;rw[BA];exact h.gu.tk,by show (Zx S.M S.Qc J o.ZG).lk.Ze.toNat*_=_;rw[BA];exact h.gu.kk,?_,?_,?_,?_,?_⟩,⟨h.ge.dn,?_,?_⟩,⟨λr V=>?_,h.sp.g⟩⟩;show ∀r∈R,zM (cv r) S.Qc (W r) (QX (Zx S.M S.Qc J o.ZG) r) (Jx (Zx S.M S.Qc J o.ZG) r);rw[j,N];exact h.gu.lf;show ∀r∈R,(QX (Zx S.M S.Qc J o.ZG) r).QC<=_;rw[j];exact h.gu.pk;show ∀r∈R,W r=[]->(QX (Zx S.M S.Qc J o.ZG) r).QC=0;rw[j];exact h.gu.nw;show ∀r∈R,∀F P L,W r=(F,P)::L->(QX (Zx S.M S.Qc J o.ZG) r).QC=P\/F<S.Ja;rw[j];exact h.gu.wk;show ∀d,d<=9223372036854775807->∃t0 B,t0<=S.Qc/\QD R cv K Tk d t0 B (QX (Zx S.M S.Qc J o.ZG)) (Jx (Zx S.M S.Qc J o.ZG)) S.Ja;rw[j,N];exact h.gu.inv;show ∀r∈R,∃n:Nat,(n:Int)<=(Zx S.M S.Qc J o.ZG).lk.Ze/\(∀O,qn r O l<=Yf r O S.Qc l+n)/\(n=0\/∃v,∃p∈W r,S.Ja<=v+K/\p.1<v/\p.2*65536+Jg (cv r).a (cv r).d (cv r).b (v-1-p.1)<(QX (Zx S.M S.Qc J o.ZG) r).QC*65536);rw[j,BA];exact h.ge.fl;show ∀r∈R,∀p∈W r,(QX (Zx S.M S.Qc J o.ZG) r).QC<=p.2+qn r p.1 l;rw[j];exact h.ge.sn;show (jX r l).n=(Q4 (Zx S.M S.Qc J o.ZG) r).length;rw[H];exact h.sp.n r V;rename_i y;rw[Qd y];split at f;rename_i i;rw[Qe i];unfold qi at f ⊢;split at f;rename_i q;rw[Qe q];exact e _ c;rename_i q;rw[Qd q];have:=I.cl;have q:¬(4611686018427387904-S.Qc<o.Vw.toNat):=q;exact⟨W,QnX G js (S:={ S with ops:=S.ops+1 }) (by show S.Qc+o.Vw.toNat<=_;omega) _ u (by show S.Qc<=S.Qc+_;omega) w c f⟩;rename_i i;rw[Qd i];exact e _ c
theorem QnY:∀(c:List Zt) {W:Int->List (Nat × Nat)} {l:List Ev} {S:Zy},ZQ S->S.Qc<Zf S->qp T R cv K Tk W l S->(∀o∈c,o.kind≠1/\Zt.Ok o)->l.length+(Za S c).2.2.length<=1000000000 ->
  ∃s,qp T R cv K Tk s (l++(Za S c).2.2) (Za S c).1/\ZQ (Za S c).1/\(Za S c).1.Qc<Zf (Za S c).1
 | [],W,l,S,I,e,h,_,_=>⟨W,by show qp T R cv K Tk W (l++[]) S;rw[JN];exact h,I,e⟩
 | o::c,W,l,S,I,e,h,i,f=>by obtain⟨k,g⟩:=i o Jo;have f:l.length+((J3 S o).l++(Za (J3 S o).S c).2.2).length<=1000000000:=f;rw[Zn]at f;obtain⟨u,p⟩:=QGE G js I e h k ω;have A:=QlX I e g.2.1.2;obtain⟨q,j,n⟩:=QnY c (I.do g.2.1.2) A.1 p (λb m=>i b (Js _ m)) (by rw[Zn];omega);rw[WJ]at j;exact⟨q,j,n⟩
end
def QGF{S:Zy}(h:S.Qc<Zf S)(a:S.Ja<=S.Qc):S.Qc<Vm S.M:=by unfold Zf Yu at h;omega
def QGG(M:Qn):Vm M<=RC M.Lv:=Nat.min_le_left _ _
def QnZ(c:Nc){K t x}(h:t<=x+(K+1)):BG c K t<=Jg c.a c.d c.b x:=by unfold BG;split;exact Z7 _;exact Qm5 _ _ _ ω
section
variable {T:List Ql}{R:List Int}{cv:Int->Nc}{K Tk:Nat}(G:GQ T R cv)(js:∀t,(R.map λr=>Jg (cv r).a (cv r).d (cv r).b t).sum*Tk<=65536*t)
include G js
theorem served{W l}{S:Zy}(I:ZQ S)(hn:S.Qc<Zf S)(h:qp T R cv K Tk W l S){r}(c:r∈R)(o:0<Jx S.M r):
  ∃p∈W r,p.1<=S.Qc/\BG (cv r) K (S.Qc-p.1)<(Yf r p.1 S.Qc l+S.M.lk.Ze.toNat)*65536:=by
 have i:∀r∈R,qU (cv r):=λr c=>by obtain⟨kk,k1,_⟩:=(G.mem r).1 c;exact(G.cv r c kk k1).2
 have L:=h.gu.lf r c;have z:=I.cl;have a0:(Jx S.M r:Int)<=S.M.lk.Ze:=by have h1:=nN (I.len r);have:=I.K.l1;show (GP (Q4 S.M r):Int)<=_;omega
 cases f:W r with
 | nil=>have:=L.none f;omega
 | cons k L0=>
  obtain⟨a1,j,N,m⟩:=L.run k.1 k.2 L0 f;have Wh:=L.pk k (by rw[f];exact Jo);obtain⟨n,n1,F,n3⟩:=h.ge.fl r c;rw[<-f];by_cases J:S.Qc<S.Ja/\n≠0;obtain⟨E,p,v,q2,q3,q4⟩:=n3.resolve_left J.2;have XX:=m p v;have hs:=h.ge.sn r c p v;have ZD:=F p.1;have g:=QnZ (cv r) (K:=K) (t:=S.Qc-p.1) (x:=E-1-p.1) ω;refine⟨p,v,ω,?_⟩;generalize Jg (cv r).a (cv r).d (cv r).b (E-1-p.1)=Y at q4 g;omega
  .have vC:∀q,qn r q l<=Yf r q S.Qc l:=λq=>by by_cases H:S.Qc<S.Ja;have:=F q;have:n=0:=j5 λh=>J ⟨H,h⟩;omega;exact QcA λe he hi=>by have:=h.ge.dn e he hi;omega
   have s:=(L.hd o).2;have gC:=(L.hd o).1;rw[f]at j N m;have hg:=Qcq (i r c) (P:=k.2) (V:=(QX S.M r).QC+Jx S.M r) ω j Jo ω;rw[<-s]at hg;have a5:=Qct (i r c);have Th:(QX S.M r).dead<=9223372036854775807->S.Qc<=(QX S.M r).dead+K:=λw=>by
    by_cases H:S.Qc<S.Ja
    .obtain⟨t0,B,b1,Q⟩:=h.gu.inv (QX S.M r).dead w;have y:vj (cv r) t0 (B r) (QX S.M r).dl:=by rcases Q.q r c with h1|h1|h1;omega;omega;exact h1
     obtain⟨b1,b2,b3⟩:=Q.bb r c;obtain⟨g1,g2⟩:=y.ser (i r c) (V:=(QX S.M r).QC+Jx S.M r) j ω w (by rw[<-s];exact Qv _) ω;have:=Q.done G.nd c (n:=Jx S.M r) js (QnH g2 (Qv _)) ω;omega
    have M:S.Qc<(QX S.M r).Vt:=by have C:=QGF hn ω;have:=Qcw (T:=T) G I.I I.V h.gu.T c o (t:=S.Qc) z (On C);by_cases e:(QX S.M r).Vt=S.Qc;exfalso;have hx:=nK G I.I I.V h.gu.T c o;have h2:=(Qbo I.V.qg.1 (now:=S.Qc) z).2 ⟨_,hx,by show (QX S.M r).Vt<=_;omega⟩;have h3:=QGG S.M;omega;omega
    rw[gC]at M;have y:=QnD (i r c) N j m a1 z M;obtain⟨g1,_⟩:=y.ser (i r c) (V:=(QX S.M r).QC+Jx S.M r) j ω w (by rw[<-s];exact Qv _) ω;omega
   obtain⟨x,Z,U,O,x4⟩:∃x,k.1+dX (cv r)<=x/\x<=4611686018428436480/\x<(QX S.M r).dead/\S.Qc<=x+(K+1):=by by_cases a6:(QX S.M r).dead<=4611686018428436480;have:=Th ω;exact⟨(QX S.M r).dead-1,ω,ω,ω,ω⟩;exact⟨4611686018428436480,ω,Qv _,ω,ω⟩
   obtain⟨p,u,w2,w3⟩:=Qcr (i r c) (V:=(QX S.M r).QC+Jx S.M r) j m Z U (by rw[<-s];exact O);have XX:=m p u;have hs:=h.ge.sn r c p (by rw[f];exact u);have ZD:=vC p.1;have g:=QnZ (cv r) (K:=K) (t:=S.Qc-p.1) (x:=x-p.1) ω;refine⟨p,by rw[f];exact u,ω,?_⟩;generalize Jg (cv r).a (cv r).d (cv r).b (x-p.1)=Y at w3 g;omega
end
def xD(l:List Nc)(x:Nat):Nat:=(l.map λc=>Jg c.a c.d c.b x).sum
def QGI{c:Nc}(C:qU c){k p q}(h:XD c=true->c.d<=k\/k+p+q<=c.d):∃m,Jg c.a c.d c.b (k+p)=Jg c.a c.d c.b k+m*p/\Jg c.a c.d c.b (k+p+q)=Jg c.a c.d c.b k+m*(p+q)/\(c.d<=k->m=c.b):=by
 have b:=C.k;have a:c.d<=k->∃m,Jg c.a c.d c.b (k+p)=Jg c.a c.d c.b k+m*p/\Jg c.a c.d c.b (k+p+q)=Jg c.a c.d c.b k+m*(p+q)/\(c.d<=k->m=c.b):=λhd=>by refine⟨c.b,?_,?_,λ_=>rfl⟩;rw[Ax C,Ax C,kb hd,kb ω,show k+p-c.d=k-c.d+p by omega,Dl];omega;rw[Ax C,Ax C,kb hd,kb ω,show k+p+q-c.d=k-c.d+(p+q) by omega,Dl];omega
 by_cases d:c.of=2;exact a (by rw[C.two d];exact Z7 _);rcases h (by unfold XD;rcases b with h|h|h<;>simp[h]<;>omega) with hd|hd;exact a hd;by_cases hz:c.d<=k;exact a hz;refine⟨c.a,?_,?_,λh=>absurd h hz⟩;rw[Ax C,Ax C,wC ω,wC ω,YO,YO,Dl];omega;rw[Ax C,Ax C,wC ω,wC ω,YO,YO,show k+p+q=k+(p+q) by omega,Dl];omega
def QcD{k p q}:∀(l:List Nc),(∀c∈l,qU c)->(∀c∈l,XD c=true->c.d<=k\/k+p+q<=c.d)->∃M,xD l (k+p)=xD l k+M*p/\xD l (k+p+q)=xD l k+M*(p+q)/\((∀c∈l,c.d<=k)->M=(l.map λc=>c.b).sum)
 | [],_,_=>⟨0,by simp[xD],by simp[xD],λ_=>rfl⟩
 | c::l,d,h=>by
  obtain⟨m,i,g,f⟩:=QGI (d c Jo) (h c Jo);obtain⟨M,o,n,j⟩:=QcD l (λc a=>d c (Js _ a)) λc a=>h c (Js _ a);have e:∀x,xD (c::l) x=Jg c.a c.d c.b x+xD l x:=λx=>by unfold xD;rw[Jr,j9]
  refine⟨m+M,?_,?_,λb=>?_⟩;rw[e,e,i,o,KE];omega;rw[e,e,g,n,KE];omega;rw[Jr,j9,f (b c Jo),j λc a=>b c (Js _ a)]
def Qn0(x):∀l:List Nc,∃k,k<=x/\(k=0\/∃c∈l,XD c=true/\c.d=k)/\∀c∈l,XD c=true->c.d<=x->c.d<=k
 | []=>⟨0,Z7 _,.inl rfl,λc m=>by cases m⟩
 | c::l=>by obtain⟨k,j,f,i⟩:=Qn0 x l;by_cases h:XD c=true/\c.d<=x/\k<c.d;refine⟨c.d,h.2.1,.inr ⟨c,Jo,h.1,rfl⟩,λg d e hx=>?_⟩;rcases QK.1 d with rfl|d;exact Qv _;have:=i g d e hx;omega;refine⟨k,j,?_,λg d e hx=>?_⟩;rcases f with f|⟨c2,a,b⟩;exact .inl f;exact .inr ⟨c2,Js _ a,b⟩;rcases QK.1 d with rfl|d;exact Ll λn=>h ⟨e,hx,n⟩;exact i g d e hx
def QcE(x):∀l:List Nc,(∀c∈l,XD c=true->c.d<=x)\/∃e∈l,XD e=true/\x<e.d/\∀c∈l,XD c=true->x<c.d->e.d<=c.d
 | []=>.inl λc n=>by cases n
 | c::l=>by by_cases h:XD c=true/\x<c.d;rcases QcE x l with g|⟨e,k,j,i,f⟩;refine .inr ⟨c,Jo,h.1,h.2,λd a b hx=>?_⟩;rcases QK.1 a with rfl|a;exact Qv _;have:=g d a b;omega;by_cases m:e.d<=c.d;refine .inr ⟨e,Js _ k,j,i,λd a b hx=>?_⟩;rcases QK.1 a with rfl|a;exact m;exact f d a b hx;refine .inr ⟨c,Jo,h.1,h.2,λd a b hx=>?_⟩;rcases QK.1 a with rfl|a;exact Qv _;have:=f d a b hx;omega;rcases QcE x l with g|⟨e,k,j,i,f⟩;refine .inl λd a b=>?_;rcases QK.1 a with rfl|a;exact Ll λo=>h ⟨b,o⟩;exact g d a b;refine .inr ⟨e,Js _ k,j,i,λd a b hx=>?_⟩;rcases QK.1 a with rfl|a;exact absurd ⟨b,hx⟩ h;exact f d a b hx
def QGJ{t F M k p q}(g:F*t<=65536*k)(c:(F+M*(p+q))*t<=65536*(k+p+q)):(F+M*p)*t<=65536*(k+p):=by
 refine Ll λh=>?_;have e:(F+M*p)*t=F*t+M*t*p:=by rw[KE,cD]
 have d:(F+M*(p+q))*t=F*t+(M*t*p+M*t*q):=by rw[KE,cD,Dl]
 rw[e]at h;rw[d]at c;have b:65536*p<M*t*p:=ω;have a:65536<M*t:=Nat.lt_of_mul_lt_mul_right b;have f:65536*q<=M*t*q:=V6 q (On a);omega
def carried{l:List Nc}{t}(b:∀c∈l,qU c)(n:∀c∈l,XD c=true->xD l c.d*t<=65536*c.d)(u:(l.map λc=>c.b).sum*t<=65536)(x):xD l x*t<=65536*x:=by
 obtain⟨k,J,f,j⟩:=Qn0 x l;have v:xD l k*t<=65536*k:=by
  rcases f with f|⟨c,B,c2,z⟩;have y:xD l 0=0:=by
   unfold xD;have:∀l:List Nc,(∀c∈l,qU c)->(l.map λc=>Jg c.a c.d c.b 0).sum=0:=λl=>by
    induction l with
    | nil=>intro _;rfl
    | cons c l r=>intro b;rw[Jr,j9,r λc a=>b c (Js _ a),Ax (b c Jo),Nat.zero_min,EZ,YO,EZ]
   exact this l b
  rw[f,y,G1];exact Z7 _;rw[<-z];exact n c B c2
 obtain⟨p,m⟩:∃p,x=k+p:=⟨x-k,ω⟩;rcases QcE x l with w|⟨g,F,E,K,C⟩;have o:∀c∈l,c.d<=k:=λc a=>by
  by_cases e:c.of=2;rw[(b c a).two e];exact Z7 _;have d:XD c=true:=by unfold XD;rcases (b c a).k with h|h|h<;>simp[h]<;>omega
  exact j c a d (w c a d)
 obtain⟨M,i,_,H⟩:=QcD (k:=k) (p:=p) (q:=0) l b λc a _=>.inl (o c a);rw[m,i,H o,KE,Dl,cD];have:=V6 p u;omega;obtain⟨q,s⟩:∃q,g.d=k+p+q:=⟨g.d-x,ω⟩;obtain⟨M,i,I,_⟩:=QcD (k:=k) (p:=p) (q:=q) l b λc a d=>by by_cases h:c.d<=x;exact .inl (j c a d h);have:=C c a d ω;exact .inr ω
 have e:=n g F E;rw[s,I]at e;rw[m,i];exact QGJ v e
def Qn1(g:Nc->Nat):∀(l:List Nc) (s:Nat),(∀c∈l,c.of≠0)->l.foldl (Xr g) s=s+(l.map g).sum
 | [],s,_=>rfl
 | c::l,s,h=>by rw[qX,Qn1 g l _ λc a=>h c (Js _ a),Jr,j9];unfold Xr;rw[Qd (h c Jo)];omega
def QGK{t:Int}{l}(i:∀c∈l,qU c)(h:zE t l=0)(x):xD l x*t.toNat<=65536*x:=by
 have n:∀c∈l,c.of≠0:=λc d=>by have:=(i c d).k;omega
 have f:∀g:Nc->Nat,je g l=(l.map g).sum:=λg=>by unfold je;rw[Qn1 g l 0 n];omega
 have b:Ic t.toNat l=false:=by
  unfold zE at h;split at h;rename_i m;exact absurd h m;cases j:Ic t.toNat l with
  | false=>rfl
  | true=>rw[j]at h;cases h
 unfold Ic at b;rw[EP]at b;refine carried i (λc d k=>?_) ?_ x;have a:=Of.1 b.1 (c.d:Int) ((uG l _).2 ⟨c,d,k,rfl⟩);unfold zD Ei at a;rw[f]at a;simp only[W3,Oc]at a;show (l.map λe=>Jg e.a e.d e.b c.d).sum*t.toNat<=_;omega;have a:=b.2;unfold No at a;rw[f,G2]at a;omega
end Go.Fg.X
namespace Go.Fg.X
open Go.Proofs Go.Fg Go.Fg.X.SP
open Go.Proofs.Tryz
def Qn2{b}{l:List Ev}(E:EvL b l):∀k,k<=l.length->∀x∈(N3 b l k).g,∃s∈Wg b l k,0<=s.Zv/\s.Zv.toNat=x.1
 | 0,_,x,hx=>by cases hx
 | k+1,h,x,hx=>by
  have m:k<l.length:=ω;have f:=Qn2 E k ω;have q:=E.at0 _ (QFr m);have p:=Qm7 b l k ω;have a:∀y:Nat,(∃s∈Wg b l k,0<=s.Zv/\s.Zv.toNat=y)->∃s∈Wg b l (k+1),0<=s.Zv/\s.Zv.toNat=y:=λy ⟨s,g,d,c⟩=>by
   unfold Wg R5;split;exact⟨s,GZ _ g,d,c⟩;split;obtain⟨i,j,rfl⟩:=Lh.1 g;by_cases e:i=(Wg b l k).length-1;refine⟨_,Lh.2 ⟨i,by rw[Ky];exact j,rfl⟩,?_⟩;rw[List.getElem_set,Qe e.symm];have r:(Wg b l k).getD ((Wg b l k).length-1) default=(Wg b l k)[i]:=by rw[<-e,QU,QH j];rfl
   dsimp only;rw[r];exact⟨d,c⟩;refine⟨_,Lh.2 ⟨i,by rw[Ky];exact j,rfl⟩,?_⟩;rw[List.getElem_set,Qd λh=>e h.symm];exact⟨d,c⟩;exact⟨s,g,d,c⟩
  rw[Qm6 b l m]at hx;unfold Gh.next at hx;split at hx;rename_i t;split at hx;rename_i c2;dsimp only at hx;split at hx;rename_i n;rcases QK.1 hx with rfl|hx;rw[p]at n;unfold Wg R5;rw[Qe ⟨n,by unfold GN;rw[Qe t,Qe c2];omega⟩];exact⟨_,Lg _ (Oj _),q,rfl⟩;exact a _ (f x hx);exact a _ (f x hx);obtain⟨y,o,rfl⟩:=Jw.1 hx;exact a _ (f y o);exact a _ (f x hx)
def Qn3{c:Ql}(a:Vd c=0)(d:1<QJ c.rt):c.leaf=true:=by
 cases b:c.leaf with
 | true=>rfl
 | false=>unfold Vd at a;split at a;cases a;split at a;cases a;split at a;cases a;rename_i h;rw[b]at h;simp[Bd,d]at h
def GS(T:List Ql):List Int:=(T.filter El).map (·.iD)
def Az(T:List Ql)(r:Int):Nc:=Jv ((Qw T r).getD default).rt
def gut{T}(I:KF T)(m:jL T):GQ T (GS T) (Az T):=by
 have f:∀r,r∈GS T↔∃k,Qw T r=some k/\1<QJ k.rt:=λr=>by unfold GS;constructor;intro h;obtain⟨k,c,rfl⟩:=Jw.1 h;obtain⟨d,i⟩:=JB.1 c;exact⟨k,(VK I.rising).2 ⟨d,rfl⟩,qw i⟩;rintro⟨k,c,d⟩;obtain⟨i,l⟩:=(VK I.rising).1 c;exact Jw.2 ⟨k,JB.2 ⟨i,QY d⟩,l⟩
 refine⟨?_,λr=>?_,λr j k g=>?_⟩;have h:T.Pairwise (λa b=>a.iD<b.iD):=I.rising;unfold GS;rw[nW,Su];exact(h.filter _).imp λo=>ω;rw[f];constructor;rintro⟨k,c,d⟩;exact⟨k,c,Qn3 (I.right k ((VK I.rising).1 c).1) d,d⟩;rintro⟨k,c,_,d⟩;exact⟨k,c,d⟩;obtain⟨n,c,d⟩:=(f r).1 j;rw[g]at c;cases c;have e:Az T r=Jv k.rt:=by unfold Az;rw[g];rfl
 exact⟨e,by rw[e];exact Qnx (m k ((VK I.rising).1 g).1).nn.1 d⟩
def QGM{T:List Ql}(I:KF T)(j:jL T){t:Int}(h:zE t (Vl T)=0)(x:Nat):((GS T).map λr=>Jg (Az T r).a (Az T r).d (Az T r).b x).sum*t.toNat<=65536*x:=by
 have e:((GS T).map λr=>Jg (Az T r).a (Az T r).d (Az T r).b x)=(Vl T).map λc=>Jg c.a c.d c.b x:=by
  unfold GS Vl;rw[Dj,Dj];refine AB λk b=>?_;have i:=(VK I.rising).2 ⟨(JB.1 b).1,rfl⟩;have:Az T k.iD=Jv k.rt:=by unfold Az;rw[i];rfl
  simp only[Function.comp_apply,this]
 rw[e];refine QGK (λc a=>?_) h x;unfold Vl at a;obtain⟨k,g,rfl⟩:=Jw.1 a;obtain⟨f,d⟩:=JB.1 g;exact Qnx (j k f).nn.1 (qw d)
def QGN{c}(K:Wm c)(f:List Zt)(Z:f.length<=1000)(w:∀o∈f,Zt.Ok o)(B:∀o∈f.tail,o.kind≠1){r k}
  (i:Qw (Za (S0 c) f).1.M.T r=some k) (h1:1<QJ k.rt) (V:Q4 (Za (S0 c) f).1.M r≠[]) :
  ∃s∈Wg [r] (Za (S0 c) f).2.2 (Za (S0 c) f).2.2.length,0<=s.Zv/\s.Zv.toNat<=(Za (S0 c) f).1.Qc /\
   BG (Jv k.rt) (c.Ze.toNat*c.t.toNat) ((Za (S0 c) f).1.Qc-s.Zv.toNat)<(Yf r s.Zv.toNat (Za (S0 c) f).1.Qc (Za (S0 c) f).2.2+c.Ze.toNat)*65536:=by
 have E:=Qm9 K f Z w [r];cases f with
 | nil=>cases i
 | cons o l=>
  have B:∀b∈l,b.kind≠1:=B;have hT:(Za (S0 c) (o::l)).1.M.T=(J3 (S0 c) o).S.M.T:=Qcd l _ B;rw[hT]at i;have m:=Qb4 (x:=⟨c,o::l⟩) K Z (Qv _) w;have m:((J3 (S0 c) o).l++(Za (J3 (S0 c) o).S l).2.2).length<100000000:=m;rw[Zn]at m;by_cases Y:o.kind=1;have e:J3 (S0 c) o=⟨{ S0 c with ops:=1,M:=Kp (M0 c) (decide ((S0 c).Ja<=(S0 c).Qc)) o.changes },⟨qf (M0 c) (decide ((S0 c).Ja<=(S0 c).Qc)) o.changes,Aj (M0 c) o.changes,0⟩,[]⟩:=by unfold J3 K8;rw[Qe Y];rfl
  have VQ:=(w o Jo).2.1.2;have I:=(ZQ.IU K).do (o:=o) VQ;obtain⟨g,t⟩:=Zc ((J3 (S0 c) o).S);have C:g.M=Kp (M0 c) (decide ((S0 c).Ja<=(S0 c).Qc)) o.changes:=by rw[t,e]
  have mD:g.Qc=0:=by rw[t,e];rfl
  have nO:g.Ja=0:=by rw[t,e];rfl
  have A:=QlX (S:=S0 c) (ZQ.IU K) (by show 0<min (max (max 0 0) (min never never)) 9223372036854775808;decide) (o:=o) VQ;have hA:=A.1;rw[<-t]at i I hA;have Hg:zE c.t (Vl g.M.T)=0:=by rw[C]at i ⊢;unfold Kp at i ⊢;split at i;rename_i u;rw[Qe u];unfold qf at u;split at u;rename_i q;exact absurd u q;rename_i q;have q:Yc (M0 c).T (M0 c).lk.t o.changes=0:=j5 q;unfold Yc at q;split at q;cases q;split at q;rename_i h3;exact absurd q h3;rw[show (wm (M0 c) (Z5 (M0 c).T o.changes)).T=Z5 (M0 c).T o.changes from (EB _ _).1];exact q;cases i
  have z:(Za (S0 c) (o::l)).1.M.lk=c:=(bC (x:=c) (o::l) (ZQ.IU K) (W:=λ_=>[]) (a:=NY) (d:=0) ⟨λj=>rfl,rfl,qW _,qW _,rfl⟩ w).st.lk;have G:=gut I.I.tree I.I.xn;have U:=QGM I.I.tree I.I.xn Hg;have Bm:∀j,Q4 g.M j=[]:=λj=>by rw[C];exact QDn _ _ j
  have y:∀j,Jx g.M j=0:=λj=>by unfold Jx;rw[Bm];rfl
  have N:∀j,QX g.M j=default:=λj=>by
   unfold QX Qz;cases hf:Qi g.M.N j with
   | none=>rfl
   | some n=>rw[C]at hf;exact(QFt _ _ _ _ hf).2.2
  have J:g.M.lk=c:=by rw[C,RI];rfl
  have g0:qp g.M.T (GS g.M.T) (Az g.M.T) (c.Ze.toNat*c.t.toNat) c.t.toNat (λ_=>[]) [] g:=by refine⟨⟨rfl,by rw[J],by rw[J],λr i=>?_,λr i=>?_,λr i _=>?_,λr i lw P L h=>(by cases h),λd hd=>?_⟩,⟨λe he=>(by cases he),λr i=>⟨0,by rw[J];have:=K.l1;omega,λZv=>Qv _,.inl rfl⟩,λr i p v=>(by cases v)⟩,⟨λr i=>?_,λr i p v=>(by cases v)⟩⟩;rw[N,y];exact⟨⟨λh=>(by cases h),λh=>absurd rfl h⟩,λ_=>rfl,λlw P L h=>(by cases h),λp v=>(by cases v),λh=>absurd h (BK 0)⟩;rw[N];exact Z7 _;rw[N];rfl;rw[mD,nO];exact⟨0,_,Qv _,QD.reset (Z7 _) λr i=>.inl (y r)⟩;rw[Bm];rfl
  have R:(Za (S0 c) (o::l)).2.2=(Za g l).2.2:=by show (J3 (S0 c) o).l++(Za (J3 (S0 c) o).S l).2.2=_;rw[<-t,show (J3 (S0 c) o).l=[] by rw[e],qv]
  have Zd:(Za (S0 c) (o::l)).1=(Za g l).1:=by show (Za (J3 (S0 c) o).S l).1=_;rw[<-t]
  rw[<-t]at m;obtain⟨W,O,R2,R3⟩:=QnY G U l I hA g0 (λb hb=>⟨B b hb,w b (Js _ hb)⟩) (by rw[Lf];omega);rw[qv]at O;rw[Zd]at V z;rw[R]at E;rw[R,Zd];have Q:r∈GS g.M.T:=(G.mem r).2 ⟨k,i,Qn3 (I.I.tree.right k ((VK I.I.tree.rising).1 i).1) h1,h1⟩;have TH:Az g.M.T r=Jv k.rt:=(G.cv r Q k i).1;have u:0<Jx (Za g l).1.M r:=(nN (R2.len r)).2 V;obtain⟨p,w1,T,H⟩:=served G U R2 R3 O Q u;obtain⟨x,F,x2⟩:=O.sp.g r Q p w1;have F:x∈(N3 [r] (Za g l).2.2 (Za g l).2.2.length).g:=by unfold N3;rw[Wo];exact F
  obtain⟨s,s1,s2,s3⟩:=Qn2 E _ (Qv _) x F;rw[TH,z]at H;rw[<-x2,<-s3]at T H;exact⟨s,s1,s2,T,H⟩;rw[Qm8 Y]at i;cases i
def QcF{r f t}:∀(l:List Ev) (s:Nat),(∀e∈l,e.Jz=false->0<=e.len/\e.len<=16384)->s+l.length*16384<18446744073709551616->l.foldl (KC [r] (jr f t)) s=s+Yf r f t l
 | [],s,_,_=>rfl
 | e::l,s,h,k=>by
  have a:=h e Jo;rw[Kx,KE,Lp]at k;have j:(jr f t e&&[r].contains e.cls)=true↔e.Jz=false/\e.cls=r/\(f:Int)<e.done/\e.done<=(t:Int):=by unfold jr;simp only[ZM,List.contains_cons,List.contains_nil,Bool.or_false,qZ,qV,W3];constructor;rintro⟨⟨i,g,d⟩,c⟩;exact⟨i,c,g,d⟩;rintro⟨i,c,g,d⟩;exact⟨⟨i,g,d⟩,c⟩
  rw[qX];have m:Yf r f t (e::l)=(if e.Jz=false/\e.cls=r/\(f:Int)<e.done/\e.done<=(t:Int) then e.len.toNat else 0)+Yf r f t l:=by unfold Yf;rw[Jr,j9]
  rw[m];unfold KC;by_cases b:e.Jz=false/\e.cls=r/\(f:Int)<e.done/\e.done<=(t:Int);rw[Qe (j.2 b),Qe b];have n:=a b.1;have:=QcF (r:=r) (f:=f) (t:=t) l ((s+e.len.toNat)%18446744073709551616) (λe a=>h e (Js _ a)) ω;unfold KC at this;rw[this];omega;rw[Qd λh=>b (j.1 h),Qd b];have:=QcF (r:=r) (f:=f) (t:=t) l s (λe a=>h e (Js _ a)) ω;unfold KC at this;rw[this];omega
def QGO{c}(K:Wm c)(a:List Zt)(h:a.length<=1000)(g:∀o∈a,Zt.Ok o)(l:∀o∈a.tail,o.kind≠1){r k}
  (m:Qw (Za (S0 c) a).1.M.T r=some k) (n:1<QJ k.rt) (d:0<((Za (S0 c) a).2.2.foldl (NZ [r]) 0)) :
  (Wg [r] (Za (S0 c) a).2.2 (Za (S0 c) a).2.2.length).any (λs=>xC (Jv k.rt) (c.Ze.toNat*c.t.toNat) c.Ze.toNat (Za (S0 c) a).2.2 r (Za (S0 c) a).1.Qc s.Zv.toNat)=true:=by
 have b:=QFo K a g (lv:=[r]) σ;rw[b]at d;have d:Q4 (Za (S0 c) a).1.M r≠[]:=λe=>by simp[e]at d
 obtain⟨s,j,u,q,i⟩:=QGN K a h g l m n d;have E:=Qm9 K a h g [r];have p:=E.Aq;have e:=QcF (r:=r) (f:=s.Zv.toNat) (t:=(Za (S0 c) a).1.Qc) (Za (S0 c) a).2.2 0 E.len ω;rw[JG]at e;refine j6.2 ⟨s,j,?_⟩;unfold xC R9 byS;rw[e,QN ω,QY i];rfl
def Qn6(a)(l:List Ev):∀k,k<=l.length->SP.KI a l k=(l.take k).foldl (NZ a) 0
 | 0,_=>rfl
 | k+1,h=>by rw[getD_take _ default _ ω,qu,<-Qn6 a l k ω];rfl
def QGP{c}(K:Wm c)(a:List Zt)(g:a.length<=1000)(i:∀o∈a,Zt.Ok o)(d:∀o∈a.tail,o.kind≠1){r k}
  (f:Qw (Za (S0 c) a).1.M.T r=some k) (h:1<QJ k.rt) :
  bF (Jv k.rt) (c.Ze.toNat*c.t.toNat) c.Ze.toNat (Za (S0 c) a).2.2 r (Za (S0 c) a).1.Qc=true:=by
 have e:=Qn6 [r] (Za (S0 c) a).2.2 (Za (S0 c) a).2.2.length (Qv _);rw[Wo]at e;unfold bF;rw[e];by_cases b:0<(Za (S0 c) a).2.2.foldl (NZ [r]) 0;rw[QGO K a g i d f h b,Bool.or_true];rw[QN b];rfl
end Go.Fg.X
