/- Contracts and laws on the way to the statement. No conditions. -/
import Derived.Test.YtbemejcgkfieeaaGreatPK1A
import Derived.Shelf.SlMaps.Clone
import Derived.Test.YtbemejcgkfieeaaGreatCA2A
import Derived.Sort.AssemblyPlain
import Derived.Sort.LotD5
import Derived.Sort.Walk13a
set_option maxRecDepth 100000
set_option maxHeartbeats 16000000
set_option linter.unusedVariables false
set_option linter.unusedSimpArgs false
set_option linter.unusedSectionVars false
set_option linter.defProp false
namespace Go.Fg.X
open Go.Proofs Go.Fg
open Go.Proofs.Tryz
def Qx6(h:List Ob)(n:Nat)(a:Int)(k:1<=n)(j:n<=64)(s:1<=a)(r:a<=1048576):QO prog 112 h [Qa n,Qa a] (λd e=>d=.tup [.ptr (h.length+2) 0 0 0,Qa 0]/\xh (λl=>h.length<=l) e (h.length+2) n a ⟨[],0,0,0,0,0,0⟩/\∃g,e=h++g/\g.length=3):=by
 have d1:decide (a<1)=false:=QN ω;have d2:decide (1048576<a)=false:=QN ω;refine Q9 func112 ntmps112 results112 λf w p c=>?_;simp only[go_sem];refine ZT c Qut (Qxn h n k j) λd h i=>?_;obtain⟨rfl,R,g,rfl,b⟩:=i;apply Qh c;simp only[go_sem,Qj,d1,d2];have q:(h++g).length=h.length+2:=by rw[Zn,b]
 refine⟨by rw[b],⟨h.length+1,?_,?_,ω,by show h.length<=_;omega,σ,ω,ω⟩,g++[PW (h.length+1) a ⟨[],0,0,0,0,0,0⟩],by rfl,by simp[b]⟩;rw[show h.length+2=(h++g).length by omega];rw[<-WJ,Ks (Qv _),YO];rfl;rw[<-WJ];refine R.step λl o m=>⟨⟨m,ω⟩,JX o⟩
def UD(a b:Nat):IntKind.u64.wrap ((a:Int)+(b:Int))=((Wj (a+b):Nat):Int):=Cr a b
def iT(a:Nat):IntKind.u64.wrap ((a:Int)+1)=((Wj (a+1):Nat):Int):=Cr a 1
def tN.fin{S}{h H:List Ob}{p r f a}{q q':Qu}(Q:tN S h p r f a q)(g:H[p]?=some (PW r a q'))(d:∀l,l<h.length->l≠p->H[l]? = h[l]?)(i:h.length<=H.length)(e:q'.l=q.l):xh S H p f a q'/\Step S h H:=
 ⟨⟨r,g,by rw[e];exact Q.ring.step λl c b=>⟨b,d l c b.2⟩,Q.rp,Q.sp,by rw[e];exact Q.lens,Q.r0,Q.r1⟩,⟨λl c b=>d l c λj=>b (j▸Q.sp),i⟩⟩
def Qx7{S h p g a q}(Q:xh S h p g a q)(x)(v:PV x):
  QO prog 116 h [.ptr p 0 0 0,.agg x.cells] (λd I=>d=Qa (if wa g a q x then 30 else 0)/\xh S I p g a (X9 g a q x)/\Step S h I):=by
 obtain⟨r,Q⟩:=Q;have m:=Q.o;have H:=Q.ring;have T:=v.1;have W:=v.2;have P:=H.tO;have R:=QiN Q.lens;have U:=Q.r0;have V:=Q.r1;have d1:decide (x.len<1)=false:=QN ω;have d2:decide (16384<x.len)=false:=QN ω;have J:IntKind.i64.wrap (a-(YI q.l:Nat))=a-(YI q.l:Nat):=wrap64 ω ω;have B:IntKind.u64.wrap x.len=((x.len.toNat:Nat):Int):=MW ω ω;by_cases K:a<YI q.l+x.len;have d3:decide (a-(YI q.l:Nat)<x.len)=true:=QY ω;have n:wa g a q x=true:=by unfold wa;rw[QY K];rfl
 unfold X9;rw[n];refine Q9 func116 ntmps116 results116 λs w M i=>?_;have j:=Qb m;simp only[go_sem,Qj,d1,d2];apply Qy i [0,1,2,3,4,5,6,7,8,9,10,11,12,13,14,15,16,17,1018,19,20,21];simp only[go_sem,Qj,m,j,J,d3,iT];apply Qy i i5;simp only[go_sem,Qj,j,B,QI j,UD];refine Q.fin (q':={ q with cd:=Wj (q.cd+1),bd:=Wj (q.bd+x.len.toNat) }) ?_ ?_ ?_ rfl;rw[QG (zC j),QI j];rfl;intro l f b;rw[QG (zC f),Qo (Zb b)];simp;have d3:decide (a-(YI q.l:Nat)<x.len)=false:=QN ω;refine Q9 func116 ntmps116 results116 λs w M i=>?_;have j:=Qb m;simp only[go_sem,Qj,d1,d2];apply VI [18] i [0,1,2,3,4,5,6,7,8,9,10,11,12,13,14,15,16,17,1018,19,20,21] [];simp only[go_sem,Qj,m,j,J,d3];have N:=H.step (S':=λl=>S l/\l≠p/\l<h.length) (h':=h++[⟨.one,0,6,1,λ_=>x.cells⟩]) λl f b=>⟨⟨b.1,b.2,f⟩,QG f⟩;refine vO i Quu (Qxk N x) λd z L=>?_;obtain⟨rfl,u,t⟩:=L;have Y:h.length<z.length:=by have:=t.len;simp only[Zn,K9]at this;omega
 have C:z[p]?=some (PW r a q):=(t.keep p ξ (λh=>h.2.1 rfl)).trans ((QG j).trans m);have o:=Qb C;have E:=(t.keep h.length σ (λh=>by have:=h.2.2;omega)).trans (Vq rfl);have keep:∀l,l<h.length->¬ S l->z[l]? = h[l]? := λl f b=>(t.keep l ξ (λh=>b h.1)).trans (QG f);have F:p≠h.length:=ω;apply Jb i;by_cases c:q.l.length=g;have n:wa g a q x=true:=by unfold wa;rw[QY (show (q.l.length:Int)=(g:Int) from ω)];simp
 rw[Qe c]at u;simp only[go_sem,Qe c,C,iT];apply Qy i i5;simp only[go_sem,Qj,B,QI o,UD,E,Qo F];unfold X9;rw[n];refine⟨by rfl,⟨r,?_,u.step λl f b=>⟨⟨b.1,b.2.1⟩,?_⟩,Q.rp,Q.sp,Q.lens,Q.r0,Q.r1⟩,⟨λl f b=>?_,?_⟩⟩;rw[QI o];rfl;rw[Qo (Zb b.2.1)];rw[Qo (λ(e:p=l)=>b (e▸Q.sp))];exact keep l f b;simp;omega;have n:wa g a q x=false:=by unfold wa;rw[QN K,QN (show ¬ (q.l.length:Int)=(g:Int) from ω)];rfl
 have O:IntKind.i64.wrap (((YI q.l:Nat):Int)+x.len)=((YI (q.l++[x]):Nat):Int):=by rw[Qx3];simp only[YI];rw[wrap64 ω ω];omega
 rw[Qd c]at u;simp only[go_sem,Qd c];apply Qy i i4;simp only[go_sem,Qj,C,QI o,iT,E,O];apply Qy i i5;simp only[go_sem,Qj,B,QI o,UD,E,Qo F];unfold X9;rw[n];refine⟨by rfl,⟨r,?_,u.step λl f b=>⟨⟨b.1,b.2.1⟩,?_⟩,Q.rp,Q.sp,?_,Q.r0,Q.r1⟩,⟨λl f b=>?_,?_⟩⟩;rw[QI o];rfl;rw[Qo (Zb b.2.1)];intro y k;rcases Q3.1 k with k|k;exact Q.lens y k;rw[Xj.1 k];exact v;rw[Qo (λ(e:p=l)=>b (e▸Q.sp))];exact keep l f b;simp;omega
def Qx8{S h p E b}{q:Qu}{x L}(Q:xh S h p E b q)(g:q.l=x::L):
  QO prog 152 h [.ptr p 0 0 0] (λd v=>d=.tup [.agg x.cells,Qa 0]/\xh S v p E b (Kv q)/\Step S h v):=by
 obtain⟨r,Q⟩:=Q;have n:=Q.o;have u:=Q.ring;have hx:=Q.lens x (by rw[g];simp);have W:=hx.1;have Y:=hx.2;have R:=u.tO;have U:=QiN Q.lens;have M:IntKind.u64.wrap x.len=((x.len.toNat:Nat):Int):=MW ω ω;have K:IntKind.i64.wrap (((YI q.l:Nat):Int)-x.len)=((YI L:Nat):Int):=by
  have V:YI q.l=x.len.toNat+YI L:=by rw[g];rfl
  rw[wrap64 ω ω];omega
 refine Q9 func152 ntmps152 results152 λH w T k=>?_;have o:=Qb n;simp only[go_sem,Qj,n,o];have s:=u.step (S':=λl=>S l/\l≠p/\l<h.length) (h':=h++[⟨.one,0,6,1,λ_=>(default:Pk).cells⟩]) λl c a=>⟨⟨a.1,a.2,c⟩,QG c⟩;rw[g]at s;refine ZT k QuY (Qxl s) λd i I=>?_;obtain⟨rfl,N,j⟩:=I;have O:h.length<i.length:=by have:=j.len;simp only[Zn,K9]at this;omega
 have F:i[p]?=some (PW r b q):=(j.keep p ξ (λh=>h.2.1 rfl)).trans ((QG o).trans n);have m:=Qb F;have P:=(j.keep h.length σ (λh=>by have:=h.2.2;omega)).trans (Vq rfl);have keep:∀l,l<h.length->¬ S l->i[l]? = h[l]? := λl c a=>(j.keep l ξ (λh=>a h.1)).trans (QG c);have J:p≠h.length:=ω;apply Kh k;apply Qy k i4;simp only[go_sem,Qj,F,m,QI m,iT,K];apply Qy k i5;simp only[go_sem,Qj,m,M,QI,UD,P,O,Qo J];have f:∀(A B C:Ob) (l:Nat),l<h.length->(((i.set p A).set h.length B)++[C])[l]? = (i.set p A)[l]? := λA B C l c=>by rw[QG ξ,Qo ω]
 have z:(Kv q).l=L:=by simp[Kv,g]
 refine⟨⟨r,?_,?_,Q.rp,Q.sp,?_,Q.r0,Q.r1⟩,⟨λl c a=>?_,?_⟩⟩;rw[f _ _ _ _ o,QI m,Kv,g];rfl;rw[z];refine N.step λl c a=>⟨⟨a.1,a.2.1⟩,?_⟩;rw[f _ _ _ _ a.2.2,Qo (Zb a.2.1)];intro y t;rw[z]at t;exact Q.lens y (by rw[g];simp[t]);rw[f _ _ _ _ c,Qo (λ(e:p=l)=>a (e▸Q.sp))];exact keep l c a;simp;omega
def jg(l:Du)(b a:Rn):Rn:=if l.has then Y6 b a else a
def iW{l}{b a:Rn}(d:b.Ok)(c:a.Ok):(jg l b a).Ok:=by unfold jg;split;exact tJ d c;exact c
def XC(l:Du)(c:Nc)(a:Nat)(b:Int):Du:=
 X8 ⟨true,jg l l.dl (VC c a (l.QC*65536)),jg l l.rd (jf c a (l.QC*65536)),l.QC,l.Vt,l.dead⟩ b
section
variable {h:List Ob}{b1 b2 b3:Nat}(l:Du)(h3:l.QC<18446744073709551616)(c:Nc)(hc:c.Lt)(now:Nat)(hn:now<18446744073709551616)
 (o1:(h.map Ob.ro)[b1]?=some ⟨.Wp,0,3,1,λ_=>c.cells⟩) (o2:(h.map Ob.ro)[b2]?=some ⟨.Wp,0,1,1,λ_=>[u64 now]⟩) (o3:(h.map Ob.ro)[b3]?=some ⟨.Wp,0,22,1,λ_=>l.cells⟩)
include h3 hc hn o1 o2 o3
theorem Qx9(b:Rn)(j:b.Ok):Zl prog 194 h [.agg b.cells,.raw (.func (.func 197) #[] #[]),.ptr b1 0 0 0,.ptr b2 0 0 0,.ptr b3 0 0 0] (λd=>d=.agg (jg l b (VC c now (l.QC*65536))).cells):=by
 have k:=MU hc hn (y:=l.QC*65536) ω;refine ZN func194 ntmps194 results194 λf w n F m p a=>?_;rw[<-m]at o1 o2 o3;have i:=Qb o1;have g:=Qb o2;have e:=Qb o3;simp only[go_sem,Qj];apply Qy a [0,1,2,3,4,1005,1006,1007,1008];simp only[go_sem,Qj,o1,i,o2,g,o3,e];apply ZP a gq (iS l.QC h3);apply Ms a;apply ZP a rn (tI c hc now (l.QC*65536) hn ω);apply Jb a;simp only[go_sem,Qj,o3,e];unfold jg;cases o:l.has with
 | true=>simp only[go_sem,Qj];apply QZ a gv (iQ b _ j k);apply Kh a;all_goals exact Xp
 | false=>simp only[go_sem,Qj];all_goals exact Xp
theorem Qya(b:Rn)(j:b.Ok):Zl prog 194 h [.agg b.cells,.raw (.func (.func 198) #[] #[]),.ptr b1 0 0 0,.ptr b2 0 0 0,.ptr b3 0 0 0] (λd=>d=.agg (jg l b (jf c now (l.QC*65536))).cells):=by
 have k:=iP hc hn (y:=l.QC*65536) ω;refine ZN func194 ntmps194 results194 λf w n F m p a=>?_;rw[<-m]at o1 o2 o3;have i:=Qb o1;have g:=Qb o2;have e:=Qb o3;simp only[go_sem,Qj];apply Qy a [0,1,2,3,4,1005,1006,1007,1008];simp only[go_sem,Qj,o1,i,o2,g,o3,e];apply ZP a gq (iS l.QC h3);apply Ms a;apply ZP a Qgo (QiK c hc now (l.QC*65536) hn ω);apply Jb a;simp only[go_sem,Qj,o3,e];unfold jg;cases o:l.has with
 | true=>simp only[go_sem,Qj];apply QZ a gv (iQ b _ j k);apply Kh a;all_goals exact Xp
 | false=>simp only[go_sem,Qj];all_goals exact Xp
end
def Qyb(l:Du)(e:l.Ok)(c:Nc)(g:c.Lt)(a)(f:a<18446744073709551616)(b:Int)(m:b<9223372036854775808):QM prog 145 [.agg l.cells,Ed c,u64 a,Qa b] (QR (.agg (XC l c a b).cells)):=by have h:=e.QC;have j:=MU g f (y:=l.QC*65536) ω;have k:=iP g f (y:=l.QC*65536) ω;refine Q1 0 func145 ntmps145 results145 λi w d=>?_;simp only[go_sem];apply Qy d [0,1,2,4,5,6,1003,8,1007,1009,10,1011];simp only[go_sem];apply KW d Qgn (Qx9 (b1:=1) (b2:=2) (b3:=0) l h c g a f rfl rfl rfl l.dl e.dl);apply ZB d;apply KW d Qgn (Qya (b1:=1) (b2:=2) (b3:=0) l h c g a f rfl rfl rfl l.rd e.rd);apply ZB d;apply QZ d rq (tM ⟨true,jg l l.dl (VC c a (l.QC*65536)),jg l l.rd (jf c a (l.QC*65536)),l.QC,l.Vt,l.dead⟩ (iW e.dl j) (iW e.rd k) h b m);apply Qg d;rfl
def tS{l:Du}(d:l.Ok){c:Nc}(f:c.Lt){a}(e:a<18446744073709551616)(b:Int):(XC l c a b).Ok:=by have g:=d.QC;exact tK (l:=⟨true,jg l l.dl (VC c a (l.QC*65536)),jg l l.rd (jf c a (l.QC*65536)),l.QC,l.Vt,l.dead⟩) (iW d.dl (MU f e (y:=l.QC*65536) ω)) (iW d.rd (iP f e (y:=l.QC*65536) ω)) g b
structure Sh where
 has:Bool
 run:Rn
 time:Nat
deriving DecidableEq
instance:Inhabited Sh:=⟨⟨false,default,0⟩⟩
structure Sh.Ok (x:Sh):Prop where
 run:x.run.Ok
 time:x.time<18446744073709551616
@[go_sem] def Sh.cells(x:Sh):List D:=[QV x.has,u64 x.run.f.x,u64 (x.run.f.y/18446744073709551616),u64 (x.run.f.y%18446744073709551616),u64 x.run.f.m,u64 x.run.t.x,u64 (x.run.t.y/18446744073709551616),u64 (x.run.t.y%18446744073709551616),u64 x.run.t.m,QV x.run.b,u64 x.time]
def F8(r:Rn)(a:Nat):Nat:=if r.b then max (max (KG r (a*65536)) r.t.x) r.f.x else max (KG r (a*65536)) r.t.x
def QiP{r:Rn}(h:r.Ok)(a):F8 r a<18446744073709551616:=by have b:=UC r (a*65536);have d:=h.t.x;have c:=h.f.x;unfold never at b;unfold F8;split<;>omega
def iX(a b:Nat):max (a:Int) (b:Int)=((max a b:Nat):Int):=ω
def QiQ(a:Nat):max (0:Int) (a:Int)=(a:Int):=ω
def Qyc{h:List Ob}{b g a}(o:(h.map Ob.ro)[b]?=some ⟨.AH,g,1,2,a⟩)(x y)(j:a 0=[u64 x])(i:a 1=[u64 y]):Zl prog 248 h [.ref b g 0 2] (λd=>d=u64 (max x y)):=by refine ZN func248 ntmps248 results248 λe w l F f m c=>?_;rw[<-f]at o;have k:=Qb o;simp only[go_sem];refine x6 2 ?_;apply Qh c;simp only[go_sem,o,j];apply Qh c;simp only[go_sem,o,i,QiQ,iX];apply Qg c;apply Qg c;all_goals exact Xp
def Qye{h:List Ob}{b g a}(o:(h.map Ob.ro)[b]?=some ⟨.AH,g,1,3,a⟩)(x y z)(k:a 0=[u64 x])(j:a 1=[u64 y])(i:a 2=[u64 z]):Zl prog 248 h [.ref b g 0 3] (λd=>d=u64 (max (max x y) z)):=by refine ZN func248 ntmps248 results248 λe w m F f n c=>?_;rw[<-f]at o;have l:=Qb o;simp only[go_sem];refine x6 3 ?_;apply Qh c;simp only[go_sem,o,k];apply Qh c;simp only[go_sem,o,j,QiQ,iX];apply Qh c;simp only[go_sem,o,i,iX];apply Qg c;apply Qg c;all_goals exact Xp
def tT(r:Rn)(f:r.Ok)(a)(e:a<18446744073709551616):QM prog 204 [.agg r.cells,u64 a] (QR (u64 (F8 r a))):=by
 unfold F8;refine Q1 0 func204 ntmps204 results204 λd w c=>?_;simp only[go_sem];apply Qy c [0,1,1002,1003,4];simp only[go_sem];apply ZP c Ci (CE a 65536 e π);apply ZB c;apply ZP c gw (iR r f (a*65536) ω);apply ZB c;cases h:r.b with
 | true=>simp only[go_sem];apply ZH c QgB (Qye (b:=1) (g:=0) (by exact rfl) (KG r (a*65536)) r.t.x r.f.x (by exact rfl) (by exact rfl) (by exact rfl));exact VT c
 | false=>simp only[go_sem];apply ZH c QgB (Qyc (b:=1) (g:=0) (by exact rfl) (KG r (a*65536)) r.t.x (by exact rfl) (by exact rfl));exact VT c
def MY(x:Sh)(c:Nc)(b a:Nat):Sh:=
 ⟨true,if x.has then Y6 x.run (VC c b (a*65536)) else VC c b (a*65536),F8 (if x.has then Y6 x.run (VC c b (a*65536)) else VC c b (a*65536)) a⟩
def H4(x:Sh)(a:Nat):Sh:=if x.has then ⟨true,x.run,F8 x.run a⟩ else x
def tU{x:Sh}(e:x.Ok){c:Nc}(g:c.Lt){b a}(f:b<18446744073709551616)(h:a<18446744073709551616):(if x.has then Y6 x.run (VC c b (a*65536)) else VC c b (a*65536)).Ok:=by have d:=MU g f (y:=a*65536) ω;split;exact tJ e.run d;exact d
def Qyf{x:Sh}(d:x.Ok){c:Nc}(g:c.Lt){b a:Nat}(f:b<18446744073709551616)(e:a<18446744073709551616):(MY x c b a).Ok:=
 ⟨tU d g f e,QiP (tU d g f e) _⟩
def Qyg{x:Sh}(b:x.Ok)(a:Nat):(H4 x a).Ok:=by unfold H4;split;exact⟨b.run,QiP b.run _⟩;exact b
def Qyh(x:Sh)(i:x.Ok)(c:Nc)(g:c.Lt)(b a:Nat)(f:b<18446744073709551616)(e:a<18446744073709551616):QM prog 148 [.agg x.cells,Ed c,u64 b,u64 a] (QR (.agg (MY x c b a).cells)):=by
 have k:=MU g f (y:=a*65536) ω;have j:=tU i g f e;refine Q1 0 func148 ntmps148 results148 λl w d=>?_;simp only[go_sem];apply Qy d [0,1,2,1003,1004,1005,1006];simp only[go_sem];apply ZP d Ci (CE a 65536 e π);apply ZB d;apply ZP d rn (tI c g b (a*65536) f ω);apply ZB d;cases h:x.has with
 | true=>rw[h,Qe rfl]at j;rw[show MY x c b a=⟨true,Y6 x.run (VC c b (a*65536)),F8 (Y6 x.run (VC c b (a*65536))) a⟩ from by unfold MY;rw[h];rfl];simp only[go_sem];apply QZ d gv (iQ x.run _ i.run k);apply Qg d;apply Qy d [0,1,2,1003,4,1005];simp only[go_sem];apply ZP d rv (tT (Y6 x.run (VC c b (a*65536))) j a e);exact FK d
 | false=>rw[show MY x c b a=⟨true,VC c b (a*65536),F8 (VC c b (a*65536)) a⟩ from by unfold MY;rw[h];rfl];simp only[go_sem];apply Qy d [0,1,2,1003,4,1005];simp only[go_sem];apply ZP d rv (tT (VC c b (a*65536)) k a e);exact FK d
def Qyi(x:Sh)(d:x.Ok)(a:Nat)(e:a<18446744073709551616):QM prog 153 [.agg x.cells,u64 a] (QR (.agg (H4 x a).cells)):=by
 cases h:x.has with
 | true=>rw[show H4 x a=⟨true,x.run,F8 x.run a⟩ from by unfold H4;rw[h];rfl];refine Q1 0 func153 ntmps153 results153 λb w c=>?_;simp only[go_sem];simp only[go_sem,h];apply QZ c rv (tT x.run d.run a e);exact VT c
 | false=>rw[show H4 x a=x from by unfold H4;rw[h];rfl];refine Q1 0 func153 ntmps153 results153 λb w c=>?_;simp only[go_sem];simp only[go_sem,h]
structure Cp where
 has:Bool
 run:Rn
 fit:Nat
deriving DecidableEq
instance:Inhabited Cp:=⟨⟨false,default,0⟩⟩
structure Cp.Ok (x:Cp):Prop where
 run:x.run.Ok
 fit:x.fit<=never
@[go_sem] def Cp.cells(x:Cp):List D:=[QV x.has,u64 x.run.f.x,u64 (x.run.f.y/18446744073709551616),u64 (x.run.f.y%18446744073709551616),u64 x.run.f.m,u64 x.run.t.x,u64 (x.run.t.y/18446744073709551616),u64 (x.run.t.y%18446744073709551616),u64 x.run.t.m,QV x.run.b,u64 x.fit]
def tV:Cp:=⟨false,⟨⟨0,0,0⟩,⟨0,0,0⟩,false⟩,0⟩
def Ee(x:Cp)(a:Nat):Cp:=if x.has then ⟨true,x.run,KG x.run (a*65536)⟩ else x
def F9(x:Cp)(c:Nc)(b a:Nat):Cp:=
 if c.of=0\/c.of=1 then tV
 else ⟨true,if x.has then Y6 x.run (VC c b (a*65536)) else VC c b (a*65536),KG (if x.has then Y6 x.run (VC c b (a*65536)) else VC c b (a*65536)) (a*65536)⟩
def Qyj:tV.Ok:=⟨⟨Ln.v8,Ln.v8⟩,Z7 _⟩
def Qyk{x:Cp}(b:x.Ok)(a:Nat):(Ee x a).Ok:=by unfold Ee;split;exact⟨b.run,UC _ _⟩;exact b
def QiR{x:Cp}(e:x.Ok){c:Nc}(g:c.Lt){b a}(f:b<18446744073709551616)(h:a<18446744073709551616):(if x.has then Y6 x.run (VC c b (a*65536)) else VC c b (a*65536)).Ok:=by have d:=MU g f (y:=a*65536) ω;split;exact tJ e.run d;exact d
def Qyl{x:Cp}(d:x.Ok){c:Nc}(g:c.Lt){b a:Nat}(f:b<18446744073709551616)(e:a<18446744073709551616):(F9 x c b a).Ok:=by unfold F9;split;exact Qyj;exact⟨QiR d g f e,UC _ _⟩
def tW(x:Cp)(d:x.Ok)(a:Nat)(e:a<18446744073709551616):QM prog 154 [.agg x.cells,u64 a] (QR (.agg (Ee x a).cells)):=by
 cases h:x.has with
 | true=>rw[show Ee x a=⟨true,x.run,KG x.run (a*65536)⟩ from by unfold Ee;rw[h];rfl];refine Q1 0 func154 ntmps154 results154 λc w b=>?_;simp only[go_sem];simp only[go_sem,h];apply Qy b [0,1,2,1003,1004,5,1006];simp only[go_sem];apply ZP b Ci (CE a 65536 e π);apply ZB b;apply ZP b gw (iR x.run d.run (a*65536) ω);exact FK b
 | false=>rw[show Ee x a=x from by unfold Ee;rw[h];rfl];refine Q1 0 func154 ntmps154 results154 λc w b=>?_;simp only[go_sem];simp only[go_sem,h]
def Qym(x:Cp)(k:x.Ok)(c:Nc)(j:c.Lt)(b a:Nat)(i:b<18446744073709551616)(g:a<18446744073709551616):QM prog 149 [.agg x.cells,Ed c,u64 b,u64 a] (QR (.agg (F9 x c b a).cells)):=by
 have m:=MU j i (y:=a*65536) ω;have l:=QiR k j i g;refine Q1 0 func149 ntmps149 results149 λn w d=>?_;simp only[go_sem];apply Qy d [0,1,2,1003,1004,1005,1006];simp only[go_sem];apply ZP d Ci (CE a 65536 g π);apply ZB d;apply ZP d rn (tI c j b (a*65536) i ω);apply ZB d;apply QZ d FE (Ux c.a c.d c.b);apply Qg d;by_cases e:c.of=0\/c.of=1;rw[show F9 x c b a=tV from Qe e];have f:Ku c.a c.d c.b=0\/Ku c.a c.d c.b=1:=e;rcases f with f|f;simp only[go_sem,f];rfl;simp only[go_sem,f];rfl;have d0:(Ku c.a c.d c.b==0)=false:=by rw[kh];exact λh=>e (.inl h)
 have d1:(Ku c.a c.d c.b==1)=false:=by rw[kh];exact λh=>e (.inr h)
 cases h:x.has with
 | true=>rw[h,Qe rfl]at l;rw[show F9 x c b a=Ee ⟨true,Y6 x.run (VC c b (a*65536)),0⟩ a from by unfold F9;rw[Qd e,h];rfl];simp only[go_sem,d0,d1];apply QZ d gv (iQ x.run _ k.run m);apply Qg d;apply QZ d ri (tW ⟨true,Y6 x.run (VC c b (a*65536)),0⟩ ⟨l,Z7 _⟩ a g);exact VT d
 | false=>rw[show F9 x c b a=Ee ⟨true,VC c b (a*65536),0⟩ a from by unfold F9;rw[Qd e,h];rfl];simp only[go_sem,d0,d1];apply QZ d ri (tW ⟨true,VC c b (a*65536),0⟩ ⟨m,Z7 _⟩ a g);exact VT d
def Qyn(a b):QM prog 249 [u64 a,u64 b] (QR (u64 (max a b))):=by refine Q1 0 func249 ntmps249 results249 λc w d=>?_;simp only[go_sem];simp only[go_sem,iX]
def tX:Go.Shelf.Ren:=⟨fun|5=>130|7=>166|n=>n,fun|23=>192|25=>3|3=>45|4=>4|20=>20|n=>n,fun|n=>n⟩
def Qyo:SlLaysW.n5 prog tX:={
 mixed:=τ
 f5:=⟨f130.name,τ,func130.trans (congrArg some (show f130={ SlBodyW.n5 tX with name:=f130.name } from τ))⟩
 f7:=func166.trans (congrArg some (show f166=SlBodyW.n7 tX from τ))
 t4:=underlying4
 a4:=isAgg4
 z4:=sizeOf4
 v4:=zeroValue4
 t20:=underlying20
 a20:=isAgg20
 z20:=sizeOf20
 v20:=zeroValue20
 t23:=underlying192
 a23:=isAgg192
 z23:=sizeOf192
 v23:=zeroValue192 }
def Qyp{h:List Ob}{m c f}(r:h[m]?=some (QT .i64 c f)):QO prog 130 h [.mref m 0] (λd J=>d=.mref h.length 0/\J=h++[QT .i64 c f]):=by
 intro Z u w g z t S R y B;match z,y with
 | [v],_=>
 obtain⟨o,p,b,s,I,H,U,F⟩:=G3 (B 0 σ);rw[r]at s;cases s;have C:=F rfl;subst C;have P:v=.map (some b):=H.2;subst P;obtain⟨_,x⟩:=R.at_ m _ b 0 r I;obtain⟨V,O,j,a,n,E,N,K,l,M⟩:=x.map rfl;refine(AnyW.maps_Clone Qyo b j a w n).mono ?_;rintro e Q ⟨rfl,rfl⟩;have e:∀b,b<w.heap.size->(w.alloc (.map j a)).heap[b]? = w.heap[b]? := λb n=>xK w _ b n;have T:Go.Fg.Tr h g w (h++[QT .i64 c f]) (g++[some (w.heap.size,0)]) (w.alloc (.map j a)):=Go.Fg.Tr.push R e _ _ (by intro b q h;simp at h;omega);have L:g.length=h.length:=R.len;refine⟨.map (some w.heap.size),.mref h.length 0,h++[QT .i64 c f],g++[some (w.heap.size,0)],rfl,⟨rfl,rfl⟩,Zo.SD R e _ (Qv _) t ?_,?_,T,Fe t _⟩;have hx:cI Z (h++[QT .i64 c f]) (g++[some (w.heap.size,0)]) (w.alloc (.map j a)) (QT .i64 c f) w.heap.size 0:=
  ⟨rfl,O,j,a,heap_alloc_new w _,E,N,K.tr T,λi e k=>⟨(l i e k).1,(l i e k).2.1.tr T,(l i e k).2.2.1.tr T,(l i e k).2.2.2.tr T⟩,M⟩
 exact hx;exact .mref _ _ (QT .i64 c f) (some (w.heap.size,0)) w.heap.size σ (by rw[<-L];simp) ⟨by simp[QT,WB,Kd.ty],rfl⟩ (Qv _) (λ_=>rfl)
def Qyq{S}{h:List Ob}{t T}(R:WU S h t T):QO prog 95 h [.ptr t 0 0 0] (λd e=>d=.ptr (h.length+1) 0 0 0/\WU (λl=>h.length<=l) e (h.length+1) T/\∃g,e=h++g/\g.length=2):=by obtain⟨m,c,n,a,i,j,_,_⟩:=R;refine Q9 func95 ntmps95 results95 λf w o b=>?_;have p:=Qb a;simp only[go_sem,a];refine ZT b Qul (Qyp i) λd h k=>?_;obtain⟨rfl,rfl⟩:=k;apply Kh b;exact⟨⟨h.length,c,n,VS rfl,Vq rfl,j,by show h.length<=_;omega,Qv _⟩,_,rfl,rfl⟩
def KF.nil:KF []:=⟨TreeInv.nil,σ,σ,σ,σ⟩
def Qyr{T:List Ql}(h:WD T){x:Ql}(a:Qw T x.iD=none):(VL T x).length=T.length+1:=by rw[(HN x h).length_eq,Kx];congr 1;unfold WE;rw[yx.2];intro c b;have:=HM.1 a c b;simpa using this
def Qys{T:List Ql}(h:WD T){x y:Ql}(a:Qw T x.iD=some y):(VL T x).length<=T.length:=by
 rw[(HN x h).length_eq,Kx];obtain⟨c,b⟩:=(VK h).1 a;have:(WE T x.iD).length<T.length:=by unfold WE;refine Nat.lt_of_le_of_ne (Yg _ _) λe=>?_;have:=(List.length_filter_eq_length_iff.1 e) y c;simp[b]at this
 omega
section
variable {T:List Ql}(I:KF T)
include I
theorem KF.add{x:Ql}(h:wU T x (up T x.parent).length=0):KF (VL T x):=by
 unfold wU at h;by_cases l:Vd x=0;case neg=>rw[Qe l]at h;exact absurd h l
 rw[Qd (zC l)]at h;cases k:Qw T x.iD with
 | some y=>rw[k]at h;simp at h
 | none=>
  rw[k,Qd σ]at h;by_cases r:T.length=64;rw[Qe r]at h;cases h;rw[Qd r]at h;by_cases n:(x.parent≠0/\(Qw T x.parent).isNone)\/((Qw T x.parent).getD default).leaf=true;rw[Qe n]at h;cases h;rw[Qd n]at h;by_cases o:1<QJ x.ls/\Vs T x.parent=false;rw[Qe o]at h;cases h;rw[Qd o]at h;by_cases q:(up T x.parent).length=16;rw[Qe q]at h;cases h;have s:=right_id l;have g:x.parent=0\/∃d,Qw T x.parent=some d/\d.leaf=false:=by
   by_cases g:x.parent=0;exact .inl g;cases m:Qw T x.parent with
   | none=>exact absurd (.inl ⟨g,by rw[m];rfl⟩) n
   | some d=>refine .inr ⟨d,rfl,?_⟩;rw[jZ];exact λj=>n (.inr (by rw[m];exact j))
  have t:=I.toTreeInv.add l k (g.elim .inl λ⟨d,b,_⟩=>.inr (by rw[b];rfl)) q;refine⟨t,λc a=>?_,λc a i=>?_,λc a p i=>?_,?_⟩;rcases yS I.rising x a with rfl|a;exact l;exact I.right c a;rcases yS I.rising x a with rfl|a;rcases g with g|⟨d,b,j⟩;exact absurd g i;exact⟨d,by rw[Be I.rising,Qd s.2.2];exact b,j⟩;obtain⟨d,b,j⟩:=I.Jz c a i;refine⟨d,?_,j⟩;rw[Be I.rising,Qd (λe=>by rw[e,k]at b;cases b)];exact b;rcases yS I.rising x a with rfl|a;have f:Vs T c.parent=true:=by rw[<-Bool.not_eq_false];exact λm=>o ⟨p,m⟩
  unfold Vs at f;unfold vT;rw[Be I.rising,Qd s.2.2];rw[BJ]at f;rcases f with f|f;exact absurd (zC f) i;exact f;have f:=I.gX c a p i;obtain⟨d,b,j⟩:=I.Jz c a i;unfold vT at f ⊢;rw[Be I.rising,Qd (λe=>by rw[e,k]at b;cases b)];exact f;rw[Qyr I.rising k];have:=I.len;omega
theorem KF.del{b}(h:KZ T b=[]):KF (WE T b):=by
 have l:=I.toTreeInv.del h;have g:∀c∈T,c.parent≠b:=λc a e=>by have:c.iD∈KZ T b:=Jw.2 ⟨c,JB.2 ⟨a,by simpa using e⟩,rfl⟩;rw[h]at this;cases this
 refine⟨l,λc a=>I.right c (JB.1 a).1,λc a f=>?_,λc a i f=>?_,?_⟩;have a:=(JB.1 a).1;obtain⟨d,k,j⟩:=I.Jz c a f;exact⟨d,by rw[TN I.rising,Qd (g c a)];exact k,j⟩;have a:=(JB.1 a).1;have:=I.gX c a i f;unfold vT at this ⊢;rw[TN I.rising,Qd (g c a)];exact this;have:=Yg (λc:Ql=>c.iD != b) T;have:=I.len;unfold WE;omega
theorem KF.set{x}(h:wW T x=0):KF (VL T x):=by
 unfold wW at h;by_cases j:Vd x=0;case neg=>rw[Qe j]at h;exact absurd h j
 rw[Qd (zC j)]at h;cases i:Qw T x.iD with
 | none=>rw[i,Qe (by rfl)]at h;cases h
 | some y=>
  rw[i,Qd σ]at h;simp only[Va]at h;by_cases n:x.parent≠y.parent\/x.leaf≠y.leaf;rw[Qe n]at h;cases h;rw[Qd n]at h;have l:x.parent=y.parent:=j5 λe=>n (.inl e);have s:x.leaf=y.leaf:=j5 λe=>n (.inr e);by_cases q:(1<QJ x.ls/\Vs T x.parent=false)\/(¬ 1<QJ x.ls/\(KZ T x.iD).any (vT T)=true);rw[Qe q]at h;cases h;have C:=right_id j;have r:=(VK I.rising).1 i;have B:=I.toTreeInv.set j i l;have t:∀p d,Qw T p=some d->∃o,Qw (VL T x) p=some o/\o.leaf=d.leaf:=λp d k=>by rw[Be I.rising];by_cases b:p=x.iD;rw[Qe b];rw[b,i]at k;cases k;exact⟨x,rfl,s⟩;rw[Qd b];exact⟨d,k,rfl⟩
  refine⟨B,λc a=>?_,λc a g=>?_,λc a m g=>?_,?_⟩;rcases yS I.rising x a with rfl|a;exact j;exact I.right c a;have:∃d,Qw T c.parent=some d/\d.leaf=false:=by rcases yS I.rising x a with rfl|a;rw[l]at g ⊢;exact I.Jz y r.1 g;exact I.Jz c a g
  obtain⟨d,k,u⟩:=this;obtain⟨o,z,w⟩:=t _ d k;exact⟨o,z,by rw[w,u]⟩;unfold vT;rw[Be I.rising];by_cases b:c.parent=x.iD;rw[Qe b];simp only[Va,W3];refine j5 λhx=>q (.inr ⟨hx,?_⟩);rcases yS I.rising x a with rfl|a;exact absurd m hx;rw[j6];refine⟨c.iD,Jw.2 ⟨c,JB.2 ⟨a,by simpa using b⟩,rfl⟩,?_⟩;unfold vT;rw[(VK I.rising).2 ⟨a,rfl⟩];simpa using m;rw[Qd b];rcases yS I.rising x a with rfl|a;have f:Vs T c.parent=true:=by rw[<-Bool.not_eq_false];exact λv=>q (.inl ⟨m,v⟩)
  unfold Vs at f;rw[BJ]at f;rcases f with f|f;exact absurd (zC f) g;exact f;exact I.gX c a m g;have:=Qys I.rising i;have:=I.len;omega
end
def qK(T:List Ql)(c:Jj):Int:=if c.kind=1 then wU T c.cls (up T c.cls.parent).length else if c.kind=3 then wW T c.cls else if c.kind=2 then wV T c.cls.iD else 1
def yj(T:List Ql)(c:Jj):List Ql:=if qK T c=0 then (if c.kind=2 then WE T c.cls.iD else VL T c.cls) else T
def KF.one{T}(I:KF T)(c):KF (yj T c):=by unfold yj;by_cases h:qK T c=0;rw[Qe h];unfold qK at h;by_cases d:c.kind=1;rw[Qe d]at h;rw[Qd ω];exact I.add h;rw[Qd d]at h;by_cases a:c.kind=3;rw[Qe a]at h;rw[Qd ω];exact I.set h;rw[Qd a]at h;by_cases b:c.kind=2;rw[Qe b]at h ⊢;unfold wV at h;by_cases f:(Qw T c.cls.iD).isNone=true;rw[Qe f]at h;cases h;rw[Qd f]at h;by_cases e:KZ T c.cls.iD≠[];rw[Qe e]at h;cases h;exact I.del (j5 e);rw[Qd b]at h;cases h;rw[Qd h];exact I
def Xq.toS{S h a t m L}(A:Xq h t m L a)(d:S t)(b:S m):WU S a t L/\Step S h a:=by obtain⟨⟨c,p,o,n,k⟩,g,f⟩:=A;exact⟨⟨m,c,p,o,n,k,d,b⟩,⟨λl j i=>f l j (λe=>i (e▸b)),g⟩⟩
section
variable {S:Nat->Prop}{h:List Ob}{t:Nat}{T:List Ql}(R:WU S h t T)(I:KF T)
include R I
theorem Qyv(x:Ql):QO prog 131 h [.ptr t 0 0 0,Xc x] (λd a=>d=Qa (wU T x (up T x.parent).length)/\WU S a t (if wU T x (up T x.parent).length=0 then VL T x else T)/\Step S h a):=by obtain⟨m,c,k,j,i,g,f,b⟩:=R;have:=I.len;exact QO.mono (Qv9 h t m c g j i x 16 π (I.ends _)) λd a ⟨e,A⟩=>⟨e,A.toS f b⟩
theorem Qyw(x):QO prog 132 h [.ptr t 0 0 0,Xc x] (λd a=>d=Qa (wW T x)/\WU S a t (if wW T x=0 then VL T x else T)/\Step S h a):=by obtain⟨m,c,k,j,i,g,f,b⟩:=R;have:=I.len;exact QO.mono (Qwf h t m c g ω j i x) λd a ⟨e,A⟩=>⟨e,A.toS f b⟩
theorem Qyx(a):QO prog 134 h [.ptr t 0 0 0,Qa a] (λd b=>d=Qa (wV T a)/\WU S b t (if wV T a=0 then WE T a else T)/\Step S h b):=by obtain⟨m,c,l,k,j,i,g,f⟩:=R;have:=I.len;exact QO.mono (Qwa h t m c i ω k j a) λd b ⟨e,A⟩=>⟨e,A.toS g f⟩
end
def WU.app{S}{h:List Ob}{t T}(R:WU S h t T)(g):WU (λl=>S l/\l<h.length) (h++g) t T:=R.step λl a b=>⟨⟨b,a⟩,QG a⟩
def Qyy{S}{h:List Ob}{t tb T}(R:WU S h t T)(I:KF T)(x:Ql)(e:h[tb]?=some ⟨.one,0,1,1,λ_=>[.ptr t 0 0 0]⟩):QO prog 133 h [Xc x,.ptr tb 0 0 0] (λd c=>d=Qa (wV T x.iD)/\WU S c t (if wV T x.iD=0 then WE T x.iD else T)/\Step S h c):=by refine Q9 func133 ntmps133 results133 λf w p b=>?_;have o:=Qb e;simp only[go_sem,Qj,e,o];refine ZT b Qup (Qyx (R.app _) I x.iD) λd h i=>?_;obtain⟨rfl,n,a⟩:=i;apply Qg b;exact⟨n.step λl _ g=>⟨g.1,rfl⟩,⟨λl m k=>(a.keep l ξ (λj=>k j.1)).trans (QG m),by have:=a.len;simp at this;omega⟩⟩
def Qyz{S h t T}(R:WU S h t T)(I:KF T)(x:Jj):QO prog 96 h [.ptr t 0 0 0,.agg x.cells] (λd r=>d=Qa (qK T x)/\WU S r t (yj T x)/\Step S h r):=by
 have f:∀{g j:List Ob} {q:List Ql},WU (λl=>S l/\l<h.length) j t q->Step (λl=>S l/\l<h.length) (h++g) j->WU S j t q/\Step S h j:=λ{g j q} e c=>⟨e.step λl _ p=>⟨p.1,rfl⟩,⟨λl y v=>(c.keep l ξ (λu=>v u.1)).trans (QG y),by have:=c.len;simp at this;omega⟩⟩
 unfold yj qK;by_cases n:x.kind=1;have d1:(x.kind==1)=true:=by simpa using n
 simp only[Qe n,Qd (show ¬ x.kind=2 from ω)];refine Q9 func96 ntmps96 results96 λa w o b=>?_;simp only[go_sem,Qj,d1];refine ZT b Qum (Qyv (R.app _) I x.cls) λd h i=>?_;obtain⟨rfl,e,c⟩:=i;apply Qg b;exact f e c;have d1:(x.kind==1)=false:=by simpa using n
 simp only[Qd n];by_cases k:x.kind=3;have d3:(x.kind==3)=true:=by simpa using k
 simp only[Qe k,Qd (show ¬ x.kind=2 from ω)];refine Q9 func96 ntmps96 results96 λa w o b=>?_;simp only[go_sem,Qj,d1,d3];refine ZT b Qun (Qyw (R.app _) I x.cls) λd h i=>?_;obtain⟨rfl,e,c⟩:=i;apply Qg b;exact f e c;have d3:(x.kind==3)=false:=by simpa using k
 simp only[Qd k];by_cases m:x.kind=2;have d2:(x.kind==2)=true:=by simpa using m
 simp only[Qe m];refine Q9 func96 ntmps96 results96 λa w o b=>?_;simp only[go_sem,Qj,d1,d2,d3];refine ZT b Quo (Qyy (tb:=h.length) (R.app _) I x.cls (Vq rfl)) λd h i=>?_;obtain⟨rfl,e,c⟩:=i;apply Qg b;exact f e c;have d2:(x.kind==2)=false:=by simpa using m
 simp only[Qd m];refine Q9 func96 ntmps96 results96 λa w o b=>?_;simp only[go_sem,Qj,d1,d2,d3];exact⟨R.step λl s p=>⟨p,QG s⟩,Step.app S h _⟩
end Go.Fg.X
namespace Go.Fg
open Go.RowKit (Below)
section
variable {P:Program}{L:Jt}{base nt:Nat}{s:St}{o:Oper}{t:TypeId}{x i:Operand}
def Uc(m:Jm P L){v}(k:o.op=.insert t x i v){p f}(h:Hj L s.h t (Qr s.fr x) (Qr s.fr i) (Qr s.fr v)=some (p,f))(j:p):∀(Z:Nat->Prop) d a w,Rel Z base nt s d a w->base<=w.heap.size->∃v b c,((execOp a.eval o).run P w=.ok (.value v) b\/((execOp a.eval o).run P w=.ok .skip b/\v=Go.undef))/\Tr s.h d w f c b/\Zo Z base f c b/\QF Z f c b .undef v/\Below base w b/\kj w b:=by
 have q:=Qdl (P:=P) (base:=base) (nt:=nt) (o:=⟨o.dst,.mapUpdate t x i v,o.type,o.pos,o.after,o.guard⟩) m rfl h j;intro Z d a w r l;obtain⟨u,b,c,g,n⟩:=q Z d a w r l;have e:execOp a.eval ⟨o.dst,.mapUpdate t x i v,o.type,o.pos,o.after,o.guard⟩=execOp a.eval o:=by simp[execOp,k]
 rw[e]at g;exact⟨u,b,c,g,n⟩
end
section
variable {P:Program}{base nt:Nat}{w0:Start}{Q:Exit->St->Prop}{k:List Item}{s:St}{X:Cx}
def QyA{L}(E:Jm P L)(F:base<=w0.w.heap.size){K}{g:TypeId}{pos c q r}{t:TypeId}{x i v p h'}
  (h:Hj L s.h t (Qr s.fr x) (Qr s.fr i) (Qr s.fr v)=some (p,h')) (C:p) (j:AX P base nt w0 K r ⟨s.fr,h'⟩):AX P base nt w0 K ((false,⟨none,.insert t x i v,g,pos,c,q⟩,none)::r) s:=by
 simp only[AX,XA,zd];intro Z z B a w f b;obtain⟨u,H,y,e,d,m,I,l,n⟩:=Uc (P:=P) (base:=base) (nt:=nt) (o:=⟨none,.insert t x i v,g,pos,c,q⟩) E rfl h C Z B a w f (J5 F b.1.size);unfold Oper.wp;rcases e with e|⟨e,J⟩;rw[e];simp only[Oper.upon_value];exact⟨n,.undef,_,y,u,j,f.AI d m u,b.step d l,d,rfl⟩;rw[e];simp only[Oper.upon_skip];exact⟨n,.undef,_,y,_,j,f.AI d m _,b.step d l,d,rfl⟩
def QyB{L:Jt}(B:Jm P L)(I:base<=w0.w.heap.size){K:St->Prop}{g:TypeId}{pos:String}{d:Array Edge}{C:Option (Nat × Bool)}{r:List (Bool × Oper × G)}{t h E a b H F:Nat}{j f:List Value}{x i v:Operand}{q:IntKind}{l c:Nat}{e:List ZL}{n:Int}
  (u:ty L t=some ⟨.map h E,a,b,j⟩) (m:ty L h=some ⟨.int q,H,F,f⟩) (o:Qr s.fr x=.mref l 0) (z:Qr s.fr i=.raw (.int q n)) (w:s.h[l]?=some (QT q c e))
  (y:AX P base nt w0 K r ⟨s.fr,s.h.set l (Kb q c e n (Qr s.fr v))⟩):AX P base nt w0 K ((false,⟨none,.insert t x i v,g,pos,d,C⟩,none)::r) s:=by
 refine QyA B I (h':=s.h.set l (Kb q c e n (Qr s.fr v))) (p:=IsMap q (QT q c e)/\q=q/\0=0/\(QT q c e).kd.ro=false) ?_ ⟨?_,rfl,rfl,rfl⟩ y;rw[o,z];simp only[Hj,u,m,w];rw[oW,oX];exact(Qde q c e).mpr trivial
def Ga(f){g a}(d:q9 P X)(c:base<=w0.w.heap.size)(i:P.follows .mixedOrders=true)(l R)(e:DK [] X.L a l R=true)(j:B9 a s.fr=true)
  (n:∀s,Qs w0 s f->QA P base nt w0 Q k .normal s) (h:Vi P base w0 X nt (FB P base w0 X nt (λs=>Qs w0 s f) R.length (ky [] a R) (l.map (·.1))) (Vo [] a l) s):QA P base nt w0 Q (.code (.region g a true)::k) .normal s:=by
 have m:R.Nodup:=by simp only[DK,ZM]at e;exact(fh e.1.2).1
 exact Qeh d.L c i l R e j (AX.mono (λs b=>pM d c (λs b=>n s b) _ _ _ s m b) _ _ (Fy d c _ _ h))
end
section
variable {P:Program}{L:Jt}{base nt:Nat}{w0:Start}{Q:Exit->St->Prop}
end
end Go.Fg
namespace Go.Fg
section
variable {P:Program}{base nt:Nat}{w0:Start}{Q:Exit->St->Prop}{k:List Item}{s:St}
def iY(P:Program)(base nt:Nat)(w0:Start)(Q:Exit->St->Prop)(k:List Item)(T:St->Prop):Exit->St->Prop
 | .normal,s=>∃a,T a/\Qs w0 s a
 | e,s=>QA P base nt w0 Q k e s
variable {T:St->Prop}
theorem QJI:iY P base nt w0 Q k T .normal s=∃a,T a/\Qs w0 s a:=Vp rfl
theorem QJJ{j}:iY P base nt w0 Q k T (.exit j) s=QA P base nt w0 Q k (.exit j) s:=Vp rfl
theorem QJK:iY P base nt w0 Q k T .ret s=QA P base nt w0 Q k .ret s:=Vp rfl
attribute[go_sem]QJI QJJ QJK
def iZ{x c}(T)(f:QA P base nt w0 (iY P base nt w0 Q (.code c::k) T) [x] .normal s)(q:∀g,T g->QA P base nt w0 Q (.code c::k) .normal g):QA P base nt w0 Q (x::.code c::k) .normal s:=by
 have d:∀h,(∃g,T g/\Qs w0 h g)->QA P base nt w0 Q (.code c::k) .normal h:=λh ⟨g,p,o⟩=>LS o (q g p);cases x with
 | code x=>
  simp only[QA]at f;show A P base nt w0 x _ s;refine f.mono λe h j=>?_;cases e with
  | normal=>exact d _ j
  | _=>exact j
 | ops l=>
  simp only[QA]at f;show AG P base nt w0 l _ s;intro Z z n a w r b;refine gI (λe y v ⟨h,u,i,m,t⟩=>⟨h,u,?_,m,t⟩) _ _ _ (f Z z n a w r b);cases e with
  | normal=>exact d _ i
  | _=>exact i
 | inBlock id=>simp only[QA]at f ⊢;exact d _ f
 | inScope=>simp only[QA]at f ⊢;exact d _ f
end
def UG:List Item->Bool
 | .inBlock _::k=>UG k
 | .inScope::k=>UG k
 | .code _::_=>true
 | .ops _::_=>true
 | []=>false
def CK{P b g e Q s f}(h:Qs e s f):∀{k:List Item},UG k=true->QA P b g e Q k .normal f->QA P b g e Q k .normal s
 | [],d,_=>by cases d
 | .code c::k,_,a=>LS h a
 | .ops l::k,_,a=>DM h a
 | .inBlock n::k,d,a=>by rw[UG]at d;simp only[QA]at a ⊢;exact CK h d a
 | .inScope::k,d,a=>by rw[UG]at d;simp only[QA]at a ⊢;exact CK h d a
end Go.Fg
namespace Go.Fg.X
open Go.Proofs Go.Fg
open Go.Proofs.Tryz
@[go_sem] def uI(n:Int):D:=.raw (.int .u64 n)
def Qt(x y:Int):Bool:=decide (x<y)
def CL(d:Array Int):Nat->List D:=λi=>[uI d[i]!]
@[go_sem] theorem QJL(d:Array Int)(i):CL d i=[uI d[i]!]:=rfl
@[go_sem] def Zj(g:Nat)(d:Array Int):Ob:=⟨.arr,g,1,d.size,CL d⟩
def QyD(x):QM prog 254 [uI x] (QR (QV false)):=by refine Q1 0 func254 ntmps254 results254 λa w b=>?_;simp only[go_sem];simp only[go_sem,bne_self_eq_false]
def xi(x y):QM prog 218 [uI x,uI y] (QR (QV (Qt x y))):=by refine Q1 0 func218 ntmps218 results218 λb w a=>?_;simp only[go_sem];apply QZ a QgD (QyD x);apply Qh a;simp only[go_sem,Go.undef];unfold Qt;rfl
def xj{h:List Ob}{l o}(e:h[l]?=some o):h.set l o=h:=AA λi=>by by_cases c:l=i;subst c;rw[QI (Qb e),e];rw[Qo c]
@[go_sem] def P0(n:Nat):Ob:=⟨.one,0,1,1,λ_=>[Qa n]⟩
section
variable {h:List Ob}{lo g:Nat}{d:Array Int}(ho:h[lo]?=some (Zj g d))
include ho
theorem tY{c}(s)(e:h[c]?=some (P0 s))(t:c≠lo)(a b)(j:a<d.size)(m:b<d.size)(p:s<1000000):
  QO prog 285 h [.ref lo g 0 d.size,Qa a,Qa b,.ptr c 0 0 0] (λl k=>l=.tup [Qa (Sort.order2 Qt d a b s).1,Qa (Sort.order2 Qt d a b s).2.1]/\k=h.set c (P0 (Sort.order2 Qt d a b s).2.2)):=by
 have n:=JJ (show s<4611686018427387904 from ω);unfold Sort.order2;refine Q9 func285 ntmps285 results285 λi w o f=>?_;have r:=Qb ho;have u:=Qb e;simp only[go_sem];apply Qy f i9;simp only[go_sem,ho,j,m];apply ZP f kB (xi d[b]! d[a]!);apply ZB f;cases q:Qt d[b]! d[a]!;simp only[go_sem];exact(xj e).symm;simp only[go_sem,e,n]
theorem QiT(a b s:Nat)(e:a<d.size)(c:b<d.size):(Sort.order2 Qt d a b s).1<d.size/\(Sort.order2 Qt d a b s).2.1<d.size/\(Sort.order2 Qt d a b s).2.2<=s+1:=by have _hu:=ho;unfold Sort.order2;split<;>simp_all
theorem tZ{e}(s)(k:h[e]?=some (P0 s))(j:e≠lo)(a b c)(m:a<d.size)(q:b<d.size)(r:c<d.size)(B:s<900000):
  QO prog 284 h [.ref lo g 0 d.size,Qa a,Qa b,Qa c,.ptr e 0 0 0] (λy x=>y=Qa (Sort.median Qt d a b c s).1/\x=h.set e (P0 (Sort.median Qt d a b c s).2)):=by
 have l:=QiT ho a b s m q;have v:=QiT ho (Sort.order2 Qt d a b s).2.1 c (Sort.order2 Qt d a b s).2.2 l.2.1 r;have t:=Qb k;have p:∀o,(h.set e o)[lo]?=some (Zj g d):=λo=>(Qo j).trans ho;have n:∀o,(h.set e o)[e]?=some o:=λo=>QI t;unfold Sort.median;refine Q9 func284 ntmps284 results284 λu w z f=>?_;have C:=Qb ho;have t:=Qb k;simp only[go_sem];refine ZT f rI (tY ho s k j a b m q ω) λd h i=>?_;obtain⟨rfl,rfl⟩:=i;apply Qg f;refine ZT f rI (tY (p _) _ (n _) j _ c l.2.1 r ω) λd h i=>?_;obtain⟨rfl,rfl⟩:=i;apply Qh f;simp only[go_sem,J4];refine ZT f rI (tY (p _) _ (n _) j _ _ l.1 v.1 ω) λd h i=>?_;obtain⟨rfl,rfl⟩:=i;apply Qh f;simp only[go_sem,J4]
theorem ua{b}(s)(c:h[b]?=some (P0 s))(o:b≠lo)(a)(r:1<=a)(t:a+1<d.size)(i:s<900000)(q:d.size<1000000000):
  QO prog 283 h [.ref lo g 0 d.size,Qa a,.ptr b 0 0 0] (λn k=>n=Qa (Sort.medianAdjacent Qt d a s).1/\k=h.set b (P0 (Sort.medianAdjacent Qt d a s).2)):=by
 have m:IntKind.i64.wrap ((a:Int)-1)=((a-1:Nat):Int):=ZE;have l:IntKind.i64.wrap ((a:Int)+1)=((a+1:Nat):Int):=ZE;unfold Sort.medianAdjacent;refine Q9 func283 ntmps283 results283 λf w p e=>?_;have u:=Qb ho;have v:=Qb c;simp only[go_sem,m,l];refine ZT e rH (tZ ho s c o (a-1) a (a+1) ω ω ω i) λd h j=>?_;obtain⟨rfl,rfl⟩:=j;exact VT e
end
def ub{d:Array Int}(a b c s:Nat)(g:a<d.size)(f:b<d.size)(e:c<d.size):(Sort.median Qt d a b c s).1<d.size/\(Sort.median Qt d a b c s).2<=s+3:=by
 unfold Sort.median Sort.order2;dsimp only
 repeat' split
 all_goals simp_all
def Gb:Sort.Hint->Nat
 | .unknown=>0
 | .increasing=>1
 | .decreasing=>2
def uc(r:Nat × Nat):Nat × Sort.Hint:=(r.1,if r.2=0 then .increasing else if r.2=12 then .decreasing else .unknown)
section
variable (d:Array Int)(a b:Nat)
def Kw(k:Nat):Nat:=a+(b-a)/4*k
def Gc:Nat × Nat:=Sort.medianAdjacent Qt d (Kw a b 1) 0
def Gd:Nat × Nat:=Sort.medianAdjacent Qt d (Kw a b 2) (Gc d a b).2
def Nb:Nat × Nat:=Sort.medianAdjacent Qt d (Kw a b 3) (Gd d a b).2
def ch4:Nat × Nat:=Sort.median Qt d (Gc d a b).1 (Gd d a b).1 (Nb d a b).1 (Nb d a b).2
def ch5:Nat × Nat:=Sort.median Qt d (Kw a b 1) (Kw a b 2) (Kw a b 3) 0
def chP:Nat × Nat:=if b-a >= 8 then (if b-a >= 50 then ch4 d a b else ch5 d a b) else (Kw a b 2,0)
theorem QyE:Sort.choosePivot Qt d a b=uc (chP d a b):=rfl
end
section
variable {h:List Ob}{lo g:Nat}{d:Array Int}(ho:h[lo]?=some (Zj g d))
include ho
theorem QyF(a b)(S:a<b)(R:b<=d.size)(u:d.size<1000000000):
  QO prog 273 h [.ref lo g 0 d.size,Qa a,Qa b] (λM H=>M=.tup [Qa (Sort.choosePivot Qt d a b).1,Qa (Gb (Sort.choosePivot Qt d a b).2)]/\∃t,H=h++t):=by
 have L:IntKind.i64.wrap ((b:Int)-a)=((b-a:Nat):Int):=ZE;have O:∀n:Nat,n<1000000000->IntKind.i64.wrap (n:Int)=n:=λn Q=>wrap64 ω ω;have K:IntKind.i64.wrap (((b-a)/4:Nat)*(1:Int))=(((b-a)/4*1:Nat):Int):=ZE;have J:IntKind.i64.wrap (((b-a)/4:Nat)*(2:Int))=(((b-a)/4*2:Nat):Int):=ZE;have I:IntKind.i64.wrap (((b-a)/4:Nat)*(3:Int))=(((b-a)/4*3:Nat):Int):=ZE;have f1:IntKind.i64.wrap ((a:Int)+((b-a)/4*1:Nat))=((Kw a b 1:Nat):Int):=by unfold Kw;rw[wrap64 ω ω];omega
 have f2:IntKind.i64.wrap ((a:Int)+((b-a)/4*2:Nat))=((Kw a b 2:Nat):Int):=by unfold Kw;rw[wrap64 ω ω];omega
 have f3:IntKind.i64.wrap ((a:Int)+((b-a)/4*3:Nat))=((Kw a b 3:Nat):Int):=by unfold Kw;rw[wrap64 ω ω];omega
 have f0:IntKind.i64.wrap (((b-a:Nat):Int).tdiv 4)=(((b-a)/4:Nat):Int):=by rw[show ((b-a:Nat):Int).tdiv 4=(((b-a)/4:Nat):Int) from rfl,wrap64 ω ω]
 refine Q9 func273 ntmps273 results273 λB w P e=>?_;have N:=Qb ho;simp only[go_sem,L,f0,K,J,I,f1,f2,f3];have p:∀o:Ob,(h++[o])[lo]?=some (Zj g d):=λo=>by rw[JX N];exact ho
 have i:∀o:Ob,(h++[o])[h.length]?=some o:=λo=>σ;have m:∀o s:Ob,(h++[o]).set h.length s=h++[s]:=λo s=>by rw[fA rfl];rfl
 have q:h.length≠lo:=ω;rw[QyE];unfold chP;by_cases y:b-a >= 8;rw[Qe y];have d8:decide ((8:Int)<=(b-a:Nat))=true:=QY ω;by_cases z:b-a >= 50;rw[Qe z];have d50:decide ((50:Int)<=(b-a:Nat))=true:=QY ω;simp only[go_sem,d8,d50];have F:(Gc d a b).1<d.size/\(Gc d a b).2<=3:=by unfold Gc;exact ub _ _ _ _ (by unfold Kw;omega) (by unfold Kw;omega) (by unfold Kw;omega)
 have E:(Gd d a b).1<d.size/\(Gd d a b).2<=(Gc d a b).2+3:=by unfold Gd;exact ub _ _ _ _ (by unfold Kw;omega) (by unfold Kw;omega) (by unfold Kw;omega)
 have C:(Nb d a b).1<d.size/\(Nb d a b).2<=(Gd d a b).2+3:=by unfold Nb;exact ub _ _ _ _ (by unfold Kw;omega) (by unfold Kw;omega) (by unfold Kw;omega)
 refine ZT e rG (ua (p _) 0 (i _) q (Kw a b 1) (by unfold Kw;omega) (by unfold Kw;omega) ω u) λd h f=>?_;obtain⟨rfl,rfl⟩:=f;apply Qh e;simp only[go_sem,m];refine ZT e rG (ua (p _) (Gc d a b).2 (i _) q (Kw a b 2) (by unfold Kw;omega) (by unfold Kw;omega) ω u) λd h f=>?_;obtain⟨rfl,rfl⟩:=f;apply Qh e;simp only[go_sem,m];refine ZT e rG (ua (p _) (Gd d a b).2 (i _) q (Kw a b 3) (by unfold Kw;omega) (by unfold Kw;omega) ω u) λd h f=>?_;obtain⟨rfl,rfl⟩:=f;apply Qh e;simp only[go_sem,m];refine ZT e rH (tZ (p _) (Nb d a b).2 (i _) q (Sort.medianAdjacent Qt d (Kw a b 1) 0).1 (Sort.medianAdjacent Qt d (Kw a b 2) (Gc d a b).2).1 (Sort.medianAdjacent Qt d (Kw a b 3) (Gd d a b).2).1 F.1 E.1 C.1 ω) λd h f=>?_;obtain⟨rfl,rfl⟩:=f;apply Qh e;simp only[go_sem,m];generalize v:Sort.median Qt d (Sort.medianAdjacent Qt d (Kw a b 1) 0).1 (Sort.medianAdjacent Qt d (Kw a b 2) (Gc d a b).2).1 (Sort.medianAdjacent Qt d (Kw a b 3) (Gd d a b).2).1 (Nb d a b).2=r;have x:ch4 d a b=r:=v;rw[x];simp only[go_sem,i];unfold uc;by_cases j:r.2=0;have l:((r.2:Int)==0)=true:=by rw[j];rfl
 simp only[go_sem,j];exact⟨rfl,_,rfl⟩;have l:((r.2:Int)==0)=false:=beq_eq_false_iff_ne.mpr ω;by_cases c:r.2=12;have k:((r.2:Int)==12)=true:=by rw[c];rfl
 simp only[go_sem,c];exact⟨rfl,_,rfl⟩;have k:((r.2:Int)==12)=false:=beq_eq_false_iff_ne.mpr ω;simp only[go_sem,l,k,j,c];exact⟨rfl,_,rfl⟩;rw[Qd z];have d50:decide ((50:Int)<=(b-a:Nat))=false:=QN ω;simp only[go_sem,d8,d50];refine ZT e rH (tZ (p _) 0 (i _) q (Kw a b 1) (Kw a b 2) (Kw a b 3) (by unfold Kw;omega) (by unfold Kw;omega) (by unfold Kw;omega) ω) λd h f=>?_;obtain⟨rfl,rfl⟩:=f;apply Qh e;simp only[go_sem,m];generalize v:Sort.median Qt d (Kw a b 1) (Kw a b 2) (Kw a b 3) 0=r;have x:ch5 d a b=r:=v;rw[x];simp only[go_sem,i];unfold uc;by_cases j:r.2=0;have l:((r.2:Int)==0)=true:=by rw[j];rfl
 simp only[go_sem,j];exact⟨rfl,_,rfl⟩;have l:((r.2:Int)==0)=false:=beq_eq_false_iff_ne.mpr ω;by_cases c:r.2=12;have k:((r.2:Int)==12)=true:=by rw[c];rfl
 simp only[go_sem,c];exact⟨rfl,_,rfl⟩;have k:((r.2:Int)==12)=false:=beq_eq_false_iff_ne.mpr ω;simp only[go_sem,l,k,j,c];exact⟨rfl,_,rfl⟩;rw[Qd y];have d8:decide ((8:Int)<=(b-a:Nat))=false:=QN ω;simp only[go_sem,d8,i];exact⟨rfl,_,rfl⟩
end
def wc{h:List Ob}{a g d}(b:a<h.length):(h.set a (Zj g d))[a]?=some (Zj g d):=QI b
def swp_size(d:Array Int)(i j:Nat):(Sort.swp d i j).size=d.size:=by simp[Sort.swp]
def kO(c:Bool)(x y:D):List.drop 1 (bif c then [x] else [y])=[]:=by cases c<;>rfl
def kP(g)(d:Array Int)(i j n)(l:d.size=n)(e:i<n)(h:j<n):
  (⟨.arr,g,1,n,λk=>bif k==j then [.raw (.int .u64 d[i]!)] else bif k==i then [.raw (.int .u64 d[j]!)] else [.raw (.int .u64 d[k]!)]⟩:Ob)=Zj g (Sort.swp d i j):=by
 subst l;unfold Zj;congr 1;exact(swp_size d i j).symm;funext k;unfold CL uI Sort.swp;by_cases b:k=j;subst b;have c:(k==k)=true:=Ot k;by_cases a:k=i;subst a;simp[e];simp[e,h];by_cases a:k=i;subst a;have c:(k==j)=false:=beq_eq_false_iff_ne.mpr b;simp[e,h,Zb b,c];have c:(k==j)=false:=beq_eq_false_iff_ne.mpr b;have m:(k==i)=false:=beq_eq_false_iff_ne.mpr a;rw[c,m];by_cases f:k<d.size;simp[f,Zb b,Zb a];simp[f]
section
variable {h:List Ob}{lo g:Nat}{d:Array Int}(ho:h[lo]?=some (Zj g d))
include ho
theorem QyG(a b)(I:a<b)(F:b<=d.size)(B:d.size<1000000000):
  QO prog 274 h [.ref lo g 0 d.size,Qa a,Qa b] (λu r=>u=.tup []/\r=h.set lo (Zj g (Sort.reverseRange d a b))):=by
 have t:IntKind.i64.wrap ((b:Int)-1)=((b-1:Nat):Int):=ZE;refine Q9 func274 ntmps274 results274 λp w z l=>?_;have v:=Qb ho;simp only[go_sem,t];refine ZY (λk q=>∃e:Array Int,e.size=d.size/\Sort.reverseLoop (a+k) (b-1-k) e=Sort.reverseRange d a b/\a+k<=b-k/\q=⟨[(0,.ref lo g 0 d.size),(6,Qa (a+k:Nat)),(7,Qa (b-1-k:Nat))],h.set lo (Zj g e)⟩) d.size (s0:=⟨[(0,.ref lo g 0 d.size),(6,Qa (a+0:Nat)),(7,Qa (b-1-0:Nat))],h.set lo (Zj g d)⟩) ?_ ⟨d,rfl,rfl,ω,rfl⟩ ?_;rw[xj ho];exact Qs.frame (by simp only[go_sem,Dn]);rintro k _ C ⟨e,f,j,E,rfl⟩;have i:=wc (g:=g) (d:=e) v;generalize n:h.set lo (Zj g e)=H at i;have s:=Qb i;by_cases c:a+k<b-1-k;have m:decide (a+k<b-1-k)=true:=QY c;have c2:a+k<d.size:=ω;have o:b-1-k<d.size:=ω;apply Qh l;simp only[go_sem,m];apply Qy l ii;simp only[go_sem,Qj,i,f,c2,o,QI s,J4,kO];have v1:IntKind.i64.wrap (((a+k:Nat):Int)+1)=((a+(k+1):Nat):Int):=ZE;have v2:IntKind.i64.wrap (((b-1-k:Nat):Int)-1)=((b-1-(k+1):Nat):Int):=ZE;rw[kP g e _ _ _ f c2 o,v1,v2];have y:Sort.reverseLoop (a+(k+1)) (b-1-(k+1)) (Sort.swp e (a+k) (b-1-k))=Sort.reverseRange d a b:=by
  rw[<-j]
  conv=>rhs;rw[Sort.reverseLoop,Qe c]
  congr 1
 refine⟨ω,_,?_,Sort.swp e (a+k) (b-1-k),by rw[swp_size,f],y,ω,rfl⟩;rw[<-n,J4];exact QP;have m:decide (a+k<b-1-k)=false:=QN c;apply Qh l;simp only[go_sem,m];rw[Sort.reverseLoop,Qd c]at j;subst n;exact congrArg (λx=>h.set lo (Zj g x)) j
end
def QiX(a):∀(j:Nat) (d:Array Int),(Sort.insInner Qt a j d).size=d.size
 | 0,d=>rfl
 | j+1,d=>by rw[Sort.insInner];split;rw[QiX a j,swp_size];rfl
section
variable {h:List Ob}{lo g:Nat}{d:Array Int}(ho:h[lo]?=some (Zj g d))
include ho
theorem QyH(a b)(Y:a<=b)(W:b<=d.size)(Q:d.size<1000000000):
  QO prog 270 h [.ref lo g 0 d.size,Qa a,Qa b] (λM K=>M=.tup []/\K=h.set lo (Zj g (Sort.insertionSort Qt d a b))):=by
 have L:IntKind.i64.wrap ((a:Int)+1)=((a+1:Nat):Int):=ZE;refine Q9 func270 ntmps270 results270 λF w P e=>?_;have E:=Qb ho;simp only[go_sem,L];refine ZY (λk r=>∃f:Array Int,f.size=d.size/\Sort.insOuter Qt a b (a+1+k) f=Sort.insertionSort Qt d a b/\a+1+k<=b+1/\r=⟨[(0,.ref lo g 0 d.size),(1,Qa a),(2,Qa b),(6,Qa (a+1+k:Nat))],h.set lo (Zj g f)⟩) d.size (s0:=⟨[(0,.ref lo g 0 d.size),(1,Qa a),(2,Qa b),(6,Qa (a+1+0:Nat))],h.set lo (Zj g d)⟩) ?_ ⟨d,rfl,rfl,ω,rfl⟩ ?_;rw[xj ho];exact QP;rintro k _ T ⟨f,J,p,V,rfl⟩;have S:=wc (g:=g) (d:=f) E;by_cases c:a+1+k<b
 .have B:decide (a+1+k<b)=true:=QY c;apply Qh e;simp only[go_sem,B];refine ZY (λm r=>∃(d1:Array Int) (j:Nat),d1.size=d.size/\j+m=a+1+k/\Sort.insInner Qt a j d1=Sort.insInner Qt a (a+1+k) f/\a<=j/\r=⟨[(0,.ref lo g 0 d.size),(1,Qa a),(2,Qa b),(6,Qa (a+1+k:Nat)),(7,Qa j)],h.set lo (Zj g d1)⟩) (a+1+k) (s0:=⟨[(0,.ref lo g 0 d.size),(1,Qa a),(2,Qa b),(6,Qa (a+1+k:Nat)),(7,Qa (a+1+k:Nat))],h.set lo (Zj g f)⟩) QP ⟨f,_,J,rfl,rfl,J5 (Lm a) (Lk _ _),rfl⟩ ?_;rintro m _ R ⟨d1,j,l,U,v,O,rfl⟩;have q:=wc (g:=g) (d:=d1) E;generalize y:h.set lo (Zj g d1)=H at q;have N:=Qb q;by_cases c2:a<j
  .have z:decide (a<j)=true:=QY c2;have v1:IntKind.i64.wrap ((j:Int)-1)=((j-1:Nat):Int):=ZE;have u:j<d.size:=ω;have t:j-1<d.size:=ω;apply Qg e;apply Qy e [0,1,2,3,4,5,6,7,8,9,10,11,12,1013,14];simp only[go_sem,q,z,v1,u,t,l];apply ZP e kB (xi d1[j]! d1[j-1]!);apply ZB e;have i:Sort.insInner Qt a j d1=if Qt d1[j]! d1[j-1]! then Sort.insInner Qt a (j-1) (Sort.swp d1 j (j-1)) else d1:=by obtain⟨n,rfl⟩:∃n,j=n+1:=⟨j-1,ω⟩;rw[Sort.insInner];simp[show n+1 > a from c2]
   cases o:Qt d1[j]! d1[j-1]!;rw[o,Qd π]at i;simp only[go_sem];apply Qg e;have v2:IntKind.i64.wrap (((a+1+k:Nat):Int)+1)=((a+1+(k+1):Nat):Int):=ZE;rw[v2];have C:Sort.insOuter Qt a b (a+1+(k+1)) d1=Sort.insertionSort Qt d a b:=by
    rw[<-p]
    conv=>rhs;rw[Sort.insOuter,Qe c]
    rw[<-v,i];rfl
   refine⟨ω,_,?_,d1,l,C,ω,rfl⟩;rw[<-y];exact QP
   .rw[o,Qe rfl]at i;simp only[go_sem];refine Ga (⟨[(0,.ref lo g 0 d.size),(1,Qa a),(2,Qa b),(6,Qa (a+1+k:Nat)),(7,Qa j)],h.set lo (Zj g (Sort.swp d1 j (j-1)))⟩) Vr e mixed [(0,true),(1,true),(2,true),(3,true),(5,true),(6,true),(7,true),(8,true),(9,true),(10,true),(11,true),(12,true),(13,true),(14,true)] [4,15,16,17] τ τ (λs I=>CK I rfl ?_) ?_
    rotate_left
    .simp only[go_sem,Qj,q,v1,u,t,l,QI N,J4,kO];rw[kP g d1 _ _ _ l u t,<-y,J4]
     repeat' refine And.intro ?_ ?_
     all_goals exact QP
    apply Qh e;simp only[go_sem,v1];refine⟨ω,_,?_,Sort.swp d1 j (j-1),j-1,by rw[swp_size,l],ω,by rw[<-i,v],ω,rfl⟩;exact QP
  have z:decide (a<j)=false:=QN c2;have i:Sort.insInner Qt a j d1=d1:=by
   cases j with
   | zero=>rfl
   | succ n=>rw[Sort.insInner];simp[show ¬ n+1 > a from c2]
  apply Qg e;apply Qy e [0,1,2,3,4,5,6,7,8,9,10,11,12,1013,14];simp only[go_sem,z];apply Qg e;have v2:IntKind.i64.wrap (((a+1+k:Nat):Int)+1)=((a+1+(k+1):Nat):Int):=ZE;rw[v2];have C:Sort.insOuter Qt a b (a+1+(k+1)) d1=Sort.insertionSort Qt d a b:=by
   rw[<-p]
   conv=>rhs;rw[Sort.insOuter,Qe c]
   rw[<-v,i];rfl
  refine⟨ω,_,?_,d1,l,C,ω,rfl⟩;rw[<-y];exact QP
 have B:decide (a+1+k<b)=false:=QN c;rw[Sort.insOuter,Qd c]at p;apply Qh e;simp only[go_sem,B];exact congrArg (λx=>h.set lo (Zj g x)) p
end
def ud(c first):∀(n a:Nat) (d:Array Int),c-a<=n->(Sort.siftDown Qt c first a d).size=d.size
 | n,a,d,e=>by rw[Sort.siftDown];split;rfl;rename_i f;split;split;rfl;split;obtain⟨b,rfl⟩:∃b,n=b+1:=⟨n-1,ω⟩;rw[ud c first b _ _ ω,swp_size];rfl;split;rfl;obtain⟨b,rfl⟩:∃b,n=b+1:=⟨n-1,ω⟩;rw[ud c first b _ _ ω,swp_size]
section
variable {h:List Ob}{lo g:Nat}{d:Array Int}(ho:h[lo]?=some (Zj g d))
include ho
theorem QiZ(b first a)(R:first+b<=d.size)(K:a<=d.size)(P:d.size<1000000000):
  QO prog 282 h [.ref lo g 0 d.size,Qa a,Qa b,Qa first] (λM L=>M=.tup []/\L=h.set lo (Zj g (Sort.siftDown Qt b first a d))):=by
 refine Q9 func282 ntmps282 results282 λE w O c=>?_;have N:=Qb ho;simp only[go_sem];refine ZY (λm J=>∃(d1:Array Int) (r:Nat),d1.size=d.size/\m<=r/\r<=d.size/\Sort.siftDown Qt b first r d1=Sort.siftDown Qt b first a d/\J=⟨[(0,.ref lo g 0 d.size),(2,Qa b),(3,Qa first),(8,Qa r)],h.set lo (Zj g d1)⟩) (d.size) (s0:=⟨[(0,.ref lo g 0 d.size),(2,Qa b),(3,Qa first),(8,Qa a)],h.set lo (Zj g d)⟩) ?_ ⟨d,a,rfl,Z7 _,K,rfl,rfl⟩ ?_;rw[xj ho];exact QP;rintro m _ Q ⟨d1,r,f,T,S,e,rfl⟩;have i:=wc (g:=g) (d:=d1) N;generalize n:h.set lo (Zj g d1)=H at i;have C:=Qb i;have v1:IntKind.i64.wrap (2*(r:Int))=((2*r:Nat):Int):=ZE;have v2:IntKind.i64.wrap (((2*r:Nat):Int)+1)=((2*r+1:Nat):Int):=ZE;have v3:IntKind.i64.wrap (((2*r+1:Nat):Int)+1)=((2*r+1+1:Nat):Int):=ZE;rw[Sort.siftDown]at e;by_cases t:b<=2*r+1;have z:decide (b<=2*r+1)=true:=QY t;rw[dif_pos t]at e;apply Qh c;simp only[go_sem,v1,v2,z];exact n.symm.trans (congrArg (λx=>h.set lo (Zj g x)) e)
 .have z:decide (b<=2*r+1)=false:=QN t;rw[dif_neg t]at e;have j:first+r<d.size:=ω;have p:first+(2*r+1)<d.size:=ω;have o:IntKind.i64.wrap ((first:Int)+r)=((first+r:Nat):Int):=ZE;have u:IntKind.i64.wrap ((first:Int)+(2*r+1:Nat))=((first+(2*r+1):Nat):Int):=ZE;have B:IntKind.i64.wrap ((first:Int)+(2*r+1+1:Nat))=((first+(2*r+1+1):Nat):Int):=ZE;have I:IntKind.i64.wrap (((first+(2*r+1):Nat):Int)+1)=((first+(2*r+1)+1:Nat):Int):=ZE;apply Qh c;simp only[go_sem,v1,v2,z];first|refine za ?_|skip
  refine Cj [0,2,3,8,9] [(36,QV (decide (2*r+1+1<b)&&Qt d1[first+(2*r+1)]! d1[first+(2*r+1)+1]!))] rfl ?_ ?_;by_cases c2:2*r+1+1<b;have y:decide (2*r+1+1<b)=true:=QY c2;have k:first+(2*r+1)+1<d.size:=ω;apply Qy c o11;simp only[go_sem,i,f,v3,y,u,I,p,k];apply ZP c kB (xi d1[first+(2*r+1)]! d1[first+(2*r+1)+1]!);apply ZB c;exact QP;have y:decide (2*r+1+1<b)=false:=QN c2;apply Qy c o11;simp only[go_sem,v3,y];exact QP
  .cases q:(decide (2*r+1+1<b)&&Qt d1[first+(2*r+1)]! d1[first+(2*r+1)+1]!)
   .rw[q,Qd π]at e;apply Qg c;apply Qy c Id;simp only[go_sem,i,f,o,u,j,p];apply ZP c kB (xi d1[first+r]! d1[first+(2*r+1)]!);apply ZB c;cases l:Qt d1[first+r]! d1[first+(2*r+1)]!;rw[l,GW,Qe rfl]at e;simp only[go_sem];exact n.symm.trans (congrArg (λx=>h.set lo (Zj g x)) e)
    .rw[l,BI,Qd π]at e
     skip
     simp only[go_sem];refine Ga (⟨[(0,.ref lo g 0 d.size),(2,Qa b),(3,Qa first),(9,Qa (2*r+1:Nat))],h.set lo (Zj g (Sort.swp d1 (first+r) (first+(2*r+1))))⟩) Vr c mixed [(0,true),(1,true),(2,true),(3,true),(4,true),(5,true),(6,true),(8,true),(9,true),(10,true),(11,true),(12,true),(13,true),(14,true),(15,true),(16,true),(17,true),(18,true),(19,true),(20,true)] [7,21,22,23] τ τ (λs v=>CK v rfl ?_) ?_
     rotate_left
     .simp only[go_sem,Qj,i,o,u,j,p,f,QI C,J4,kO];rw[kP g d1 _ _ _ f j p,<-n,J4]
      repeat' refine And.intro ?_ ?_
      all_goals exact QP
     apply Qg c;refine⟨ω,_,?_,Sort.swp d1 (first+r) (first+(2*r+1)),2*r+1,by rw[swp_size,f],ω,ω,e,rfl⟩;exact QP
   .have F:2*r+1+1<b:=by rw[ZM]at q;exact qw q.1
    rw[q,Qe rfl]at e;have k:first+(2*r+1+1)<d.size:=ω;apply Qh c;simp only[go_sem,v3];apply Qy c Id;simp only[go_sem,i,f,o,B,j,k];apply ZP c kB (xi d1[first+r]! d1[first+(2*r+1+1)]!);apply ZB c;cases l:Qt d1[first+r]! d1[first+(2*r+1+1)]!;rw[l,GW,Qe rfl]at e;simp only[go_sem];exact n.symm.trans (congrArg (λx=>h.set lo (Zj g x)) e)
    .rw[l,BI,Qd π]at e;rw[dif_pos (show 2*r+2<b from F)]at e;simp only[go_sem];refine Ga (⟨[(0,.ref lo g 0 d.size),(2,Qa b),(3,Qa first),(9,Qa (2*r+1+1:Nat))],h.set lo (Zj g (Sort.swp d1 (first+r) (first+(2*r+1+1))))⟩) Vr c mixed [(0,true),(1,true),(2,true),(3,true),(4,true),(5,true),(6,true),(8,true),(9,true),(10,true),(11,true),(12,true),(13,true),(14,true),(15,true),(16,true),(17,true),(18,true),(19,true),(20,true)] [7,21,22,23] τ τ (λs v=>CK v rfl ?_) ?_
     rotate_left
     .simp only[go_sem,Qj,i,o,B,j,k,f,QI C,J4,kO];rw[kP g d1 _ _ _ f j k,<-n,J4]
      repeat' refine And.intro ?_ ?_
      all_goals exact QP
     apply Qg c;refine⟨ω,_,?_,Sort.swp d1 (first+r) (first+(2*r+1+1)),2*r+1+1,by rw[swp_size,f],ω,ω,e,rfl⟩;exact QP
end
def ld(b first a)(d:Array Int):(Sort.siftDown Qt b first a d).size=d.size:=ud b first _ a d (Qv _)
def Qi0(a first):∀(k:Nat) (d:Array Int),(Sort.heapBuild Qt a first k d).size=d.size
 | 0,d=>rfl
 | k+1,d=>by rw[Sort.heapBuild,Qi0 a first k,ld]
section
variable {h:List Ob}{lo g:Nat}{d:Array Int}(ho:h[lo]?=some (Zj g d))
include ho
theorem QyI(a b)(V:a<b)(U:b<=d.size)(P:d.size<1000000000):
  QO prog 271 h [.ref lo g 0 d.size,Qa a,Qa b] (λL F=>L=.tup []/\F=h.set lo (Zj g (Sort.heapSort Qt d a b))):=by
 have K:IntKind.i64.wrap ((b:Int)-a)=((b-a:Nat):Int):=ZE;have z:IntKind.i64.wrap (((b-a:Nat):Int)-1)=((b-a-1:Nat):Int):=ZE;have J:((b-a-1:Nat):Int).tdiv 2=(((b-a-1)/2:Nat):Int):=rfl;have I:IntKind.i64.wrap ((((b-a-1)/2:Nat):Int))=(((b-a-1)/2:Nat):Int):=by rw[wrap64 ω ω]
 have N:((0:Nat):Int)=0:=rfl;refine Q9 func271 ntmps271 results271 λC w O c=>?_;have p:=Qb ho;simp only[go_sem,K,z,J,I];unfold Sort.heapSort;refine ZY (λm j=>∃(d1:Array Int) (k:Nat),d1.size=d.size/\k+m=(b-a-1)/2+1/\Sort.heapBuild Qt (b-a) a k d1=Sort.heapBuild Qt (b-a) a ((b-a-1)/2+1) d/\j=⟨[(0,.ref lo g 0 d.size),(6,Qa a),(7,Qa 0),(8,Qa (b-a:Nat)),(9,Qa ((k:Int)-1))],h.set lo (Zj g d1)⟩) ((b-a-1)/2+1) (s0:=⟨[(0,.ref lo g 0 d.size),(6,Qa a),(7,Qa 0),(8,Qa (b-a:Nat)),(9,Qa ((((b-a-1)/2+1:Nat):Int)-1))],h.set lo (Zj g d)⟩) ?_ ⟨d,_,rfl,rfl,rfl,rfl⟩ ?_;rw[xj ho,show ((((b-a-1)/2+1:Nat):Int)-1)=(((b-a-1)/2:Nat):Int) by omega];exact QP;rintro m _ R ⟨d1,k,q,S,e,rfl⟩;have M:=wc (g:=g) (d:=d1) p;rcases k with _|k
 .rw[Sort.heapBuild]at e;apply Qg c;apply Qh c;simp only[go_sem,z];rw[<-e];refine ZY (λm j=>∃(d2:Array Int) (k:Nat),d2.size=d.size/\k+m=b-a/\Sort.heapPop Qt a k d2=Sort.heapPop Qt a (b-a) d1/\j=⟨[(0,.ref lo g 0 d.size),(6,Qa a),(7,Qa 0),(10,Qa ((k:Int)-1))],h.set lo (Zj g d2)⟩) (b-a) (s0:=⟨[(0,.ref lo g 0 d.size),(6,Qa a),(7,Qa 0),(10,Qa (((b-a:Nat):Int)-1))],h.set lo (Zj g d1)⟩) ?_ ⟨d1,_,q,rfl,rfl,rfl⟩ ?_;rw[show (((b-a:Nat):Int)-1)=((b-a-1:Nat):Int) by omega];exact QP;rintro n _ Q ⟨d2,k,o,T,f,rfl⟩;have r:=wc (g:=g) (d:=d2) p;generalize y:h.set lo (Zj g d2)=H at r;have t:=Qb r;rcases k with _|k;rw[Sort.heapPop]at f;apply Qg c;exact y.symm.trans (congrArg (λx=>h.set lo (Zj g x)) f)
  .rw[Sort.heapPop]at f;have i:(((k+1:Nat):Int)-1)=(k:Int):=ω;have v1:IntKind.i64.wrap ((a:Int)+k)=((a+k:Nat):Int):=ZE;have v2:IntKind.i64.wrap ((k:Int)-1)=(k:Int)-1:=wrap64 ω ω;have v:a<d.size:=ω;have u:a+k<d.size:=ω;apply Qh c;simp only[go_sem,i];refine Ga (⟨[(0,.ref lo g 0 d.size),(6,Qa a),(7,Qa 0),(10,Qa k)],h.set lo (Zj g (Sort.swp d2 a (a+k)))⟩) Vr c mixed [(0,true),(1,true),(2,true),(3,true),(4,true),(6,true),(7,true),(8,true),(9,true),(10,true),(11,true),(12,true),(13,true),(14,true),(15,true),(16,true)] [5,17,18,19] τ τ (λs E=>CK E rfl ?_) ?_
   rotate_left
   .simp only[go_sem,Qj,r,v1,v,u,o,QI t,J4,kO];rw[kP g d2 _ _ _ o v u,<-y,J4]
    repeat' refine And.intro ?_ ?_
    all_goals exact QP
   apply Qg c;have B:(Sort.swp d2 a (a+k)).size=d.size:=by rw[swp_size,o]
   refine ZT c QgM (B▸QiZ (wc (g:=g) (d:=Sort.swp d2 a (a+k)) p) k a 0 ω ω ω) λd h l=>?_;obtain⟨rfl,rfl⟩:=l;apply Qh c;simp only[go_sem,J4,v2];refine⟨ω,_,?_,Sort.siftDown Qt k a 0 (Sort.swp d2 a (a+k)),k,by rw[ld,B],ω,f,rfl⟩;exact QP
 rw[Sort.heapBuild]at e;have i:(((k+1:Nat):Int)-1)=(k:Int):=ω;have v2:IntKind.i64.wrap ((k:Int)-1)=(k:Int)-1:=wrap64 ω ω;apply Qh c;simp only[go_sem,i];refine ZT c QgM (q▸QiZ M (b-a) a k ω ω ω) λd h l=>?_;obtain⟨rfl,rfl⟩:=l;apply Qh c;simp only[go_sem,J4,v2];refine⟨ω,_,?_,Sort.siftDown Qt (b-a) a k d1,k,by rw[ld,q],ω,e,rfl⟩;exact QP
end
def ue(p)(d:Array Int)(i j)(a:0<i):Sort.scanDown p d i j=if i<=j&&p d[j]! then Sort.scanDown p d i (j-1) else j:=by
 cases j with
 | zero=>rw[Sort.scanDown,Qd];simp;omega
 | succ j=>rw[Sort.scanDown];rfl
def lg(p q:Int->Bool)(f:∀x,q x=!p x)(d:Array Int)(i j:Nat)(m:0<i)(n:i<=j+1)(h:¬ Sort.scanUp p d j i > Sort.scanDown q d (Sort.scanUp p d j i) j):
  Sort.scanUp p d j i<Sort.scanDown q d (Sort.scanUp p d j i) j:=by
 obtain⟨l,k,g,c⟩:=Sort.scanUp_spec p d j _ i rfl;obtain⟨v1,v2,v3,b⟩:=Sort.scanDown_spec q d (Sort.scanUp p d j i) j;rcases xI (Sort.scanUp p d j i) (Sort.scanDown q d (Sort.scanUp p d j i) j) with a|a;exact a;have e:Sort.scanUp p d j i=Sort.scanDown q d (Sort.scanUp p d j i) j:=ω;have f1:=c ω;have f2:=b ω ω;rw[f,<-e,f1]at f2;cases f2
def Qi1(a):∀(n i j:Nat) (d:Array Int),j+1-i<=n->(Sort.partEqLoop Qt a i j d).2.size=d.size
 | n,i,j,d,c=>by rw[Sort.partEqLoop_eq];split;rfl;rename_i h;have:=Sort.partEqLoop_guard Qt a i j d h;obtain⟨b,rfl⟩:∃b,n=b+1:=⟨n-1,ω⟩;rw[Qi1 a b _ _ _ ω,swp_size]
def Qi2(a):∀(n i j:Nat) (d:Array Int),j+1-i<=n->(Sort.partLoop Qt a i j d).2.size=d.size
 | n,i,j,d,c=>by rw[Sort.partLoop_eq];split;rfl;rename_i h;have:=Sort.partLoop_guard Qt a i j d h;obtain⟨b,rfl⟩:∃b,n=b+1:=⟨n-1,ω⟩;rw[Qi2 a b _ _ _ ω,swp_size]
section
variable {h:List Ob}{lo g:Nat}{d:Array Int}(ho:h[lo]?=some (Zj g d))
include ho
theorem QyK(a b k)(VG:a<b)(ZF:b<=d.size)(hp:a<=k)(pE:k<b)(hz:d.size<1000000000):
  QO prog 276 h [.ref lo g 0 d.size,Qa a,Qa b,Qa k] (λdd Y=>dd=Qa (Sort.partitionEqual Qt d a b k).1/\Y=h.set lo (Zj g (Sort.partitionEqual Qt d a b k).2)):=by
 have e0:IntKind.i64.wrap ((a:Int)+1)=((a+1:Nat):Int):=ZE;have e1:IntKind.i64.wrap ((b:Int)-1)=((b-1:Nat):Int):=ZE;have u:a<d.size:=ω;have L:k<d.size:=ω;have a5:d.size=d.size:=rfl;refine Q9 func276 ntmps276 results276 λP w pl f=>?_;have O:=Qb ho;simp only[go_sem];apply Qy f ii;simp only[go_sem,Qj,ho,u,L,QI O,J4,kO];rw[kP g d _ _ _ rfl u L];apply Qh f;simp only[go_sem,e0,e1];unfold Sort.partitionEqual;refine ZY (λm o=>∃(d1:Array Int) (i j:Nat),d1.size=d.size/\a<i/\i<=j+1/\j<b/\m+(j+1-i)<=b/\Sort.partEqLoop Qt a i j d1=Sort.partEqLoop Qt a (a+1) (b-1) (Sort.swp d a k)/\o=⟨[(0,.ref lo g 0 d.size),(1,Qa a),(9,Qa i),(10,Qa j)],h.set lo (Zj g d1)⟩) b (s0:=⟨[(0,.ref lo g 0 d.size),(1,Qa a),(9,Qa (a+1:Nat)),(10,Qa (b-1:Nat))],h.set lo (Zj g (Sort.swp d a k))⟩) QP ⟨_,a+1,b-1,swp_size d a k,ω,ω,ω,ω,rfl,rfl⟩ ?_;rintro m _ hm ⟨d1,i,j,n,P4,N,a7,gB,q,rfl⟩;have t:=wc (g:=g) (d:=d1) O;generalize M:h.set lo (Zj g d1)=H at t;have V:=Qb t;rw[Sort.partEqLoop_eq]at q;have MZ:=lg (λx=>!Qt d1[a]! x) (λx=>Qt d1[a]! x) (λx=>σ) d1 i j ω N;obtain⟨u1,U,u3,u4⟩:=Sort.scanUp_spec (λx=>!Qt d1[a]! x) d1 j _ i rfl;have T:=U N;generalize KM:Sort.scanUp (λx=>!Qt d1[a]! x) d1 j i=v at *;obtain⟨w1,Q,w3,w4⟩:=Sort.scanDown_spec (λx=>Qt d1[a]! x) d1 v j;have w5:=Q T;generalize Z8:Sort.scanDown (λx=>Qt d1[a]! x) d1 v j=W at *;apply Qg f;refine ZY (λm o=>∃c:Nat,c=i+m/\c<=j+1/\Sort.scanUp (λx=>!Qt d1[a]! x) d1 j c=v/\o=⟨[(0,.ref lo g 0 d.size),(1,Qa a),(9,Qa c),(10,Qa j)],H⟩) d.size (s0:=⟨[(0,.ref lo g 0 d.size),(1,Qa a),(9,Qa i),(10,Qa j)],H⟩) QP ⟨i,rfl,ω,KM,rfl⟩ ?_;rintro ma _ a6 ⟨c,a4,a3,s,rfl⟩;have ga:c<=j->c<d.size:=ω;rw[Sort.scanUp]at s;apply Qg f;first|refine za ?_|skip
 refine Cj [0,1,9,10] [(43,QV (decide (c<=j)&&!Qt d1[a]! d1[c]!))] rfl ?_ ?_;by_cases E:c<=j;have B:decide (c<=j)=true:=QY E;have I:=ga E;apply Qy f o00;simp only[go_sem,t,n,B,u,I];apply ZP f kB (xi d1[a]! d1[c]!);apply ZB f;exact QP;have B:decide (c<=j)=false:=QN E;apply Qy f o00;simp only[go_sem,B];exact QP;cases l:(decide (c<=j)&&!Qt d1[a]! d1[c]!);rw[l,Qd π]at s;apply Qg f;subst s;apply Qg f;refine ZY (λm o=>∃e:Nat,e+m=j/\c<=e+1/\Sort.scanDown (λx=>Qt d1[a]! x) d1 c e=W/\o=⟨[(0,.ref lo g 0 d.size),(1,Qa a),(9,Qa c),(10,Qa e)],H⟩) d.size (s0:=⟨[(0,.ref lo g 0 d.size),(1,Qa a),(9,Qa c),(10,Qa j)],H⟩) QP ⟨j,rfl,ω,Z8,rfl⟩ ?_;rintro mb _ Eg ⟨e,DF,a2,r,rfl⟩;have Z:c<=e->e<d.size:=ω;rw[ue _ _ _ _ ω]at r;apply Qg f;first|refine za ?_|skip
 refine Cj [0,1,9,10] [(59,QV (decide (c<=e)&&Qt d1[a]! d1[e]!))] rfl ?_ ?_;by_cases C:c<=e;have z:decide (c<=e)=true:=QY C;have F:=Z C;apply Qy f Id;simp only[go_sem,t,n,z,u,F];apply ZP f kB (xi d1[a]! d1[e]!);apply ZB f;exact QP;have z:decide (c<=e)=false:=QN C;apply Qy f Id;simp only[go_sem,z];exact QP;cases l:(decide (c<=e)&&Qt d1[a]! d1[e]!);rw[l,Qd π]at r;apply Qg f;have Eh:IntKind.i64.wrap ((c:Int)+1)=((c+1:Nat):Int):=ZE;subst r;by_cases p:e<c;have y:decide (e<c)=true:=QY p;rw[Qe p]at q;apply Qh f;simp only[go_sem,y];apply Qg f;rw[<-q,<-M];first|exact⟨rfl,rfl⟩|rfl
 have y:decide (e<c)=false:=QN p;have a8:=MZ p;have K:c<d.size:=ω;have J:e<d.size:=ω;have UL:IntKind.i64.wrap ((e:Int)-1)=((e-1:Nat):Int):=ZE;rw[Qd p]at q;apply Qh f;simp only[go_sem,y];apply Qy f ii;simp only[go_sem,Qj,t,n,K,J,QI V,J4,kO,Eh,UL];rw[kP g d1 _ _ _ n K J];refine⟨ω,_,?_,Sort.swp d1 c e,c+1,e-1,by rw[swp_size,n],ω,ω,ω,ω,q,rfl⟩;rw[<-M,J4];exact QP;rw[l,Qe rfl]at r;have a0:c<=e:=by rw[ZM]at l;exact qw l.1
 have R:IntKind.i64.wrap ((e:Int)-1)=((e-1:Nat):Int):=ZE;apply Qh f;simp only[go_sem,R];refine⟨ω,_,?_,e-1,ω,ω,r,rfl⟩;exact QP;rw[l,Qe rfl]at s;have a1:c<=j:=by rw[ZM]at l;exact qw l.1
 have S:IntKind.i64.wrap ((c:Int)+1)=((c+1:Nat):Int):=ZE;apply Qh f;simp only[go_sem,S];refine⟨ω,_,?_,c+1,ω,ω,s,rfl⟩;exact QP
omit ho in
theorem QyP(d a b c):Sort.partition Qt d a b c =
  if Sort.scanUp (λx=>Qt x (Sort.swp d a c)[a]!) (Sort.swp d a c) (b-1) (a+1) > Sort.scanDown (λx=>!Qt x (Sort.swp d a c)[a]!) (Sort.swp d a c) (Sort.scanUp (λx=>Qt x (Sort.swp d a c)[a]!) (Sort.swp d a c) (b-1) (a+1)) (b-1) then
   (Sort.scanDown (λx=>!Qt x (Sort.swp d a c)[a]!) (Sort.swp d a c) (Sort.scanUp (λx=>Qt x (Sort.swp d a c)[a]!) (Sort.swp d a c) (b-1) (a+1)) (b-1),true,Sort.swp (Sort.swp d a c) (Sort.scanDown (λx=>!Qt x (Sort.swp d a c)[a]!) (Sort.swp d a c) (Sort.scanUp (λx=>Qt x (Sort.swp d a c)[a]!) (Sort.swp d a c) (b-1) (a+1)) (b-1)) a)
  else ((Sort.partLoop Qt a (Sort.scanUp (λx=>Qt x (Sort.swp d a c)[a]!) (Sort.swp d a c) (b-1) (a+1)+1) (Sort.scanDown (λx=>!Qt x (Sort.swp d a c)[a]!) (Sort.swp d a c) (Sort.scanUp (λx=>Qt x (Sort.swp d a c)[a]!) (Sort.swp d a c) (b-1) (a+1)) (b-1)-1) (Sort.swp (Sort.swp d a c) (Sort.scanUp (λx=>Qt x (Sort.swp d a c)[a]!) (Sort.swp d a c) (b-1) (a+1)) (Sort.scanDown (λx=>!Qt x (Sort.swp d a c)[a]!) (Sort.swp d a c) (Sort.scanUp (λx=>Qt x (Sort.swp d a c)[a]!) (Sort.swp d a c) (b-1) (a+1)) (b-1)))).1,false,
   Sort.swp (Sort.partLoop Qt a (Sort.scanUp (λx=>Qt x (Sort.swp d a c)[a]!) (Sort.swp d a c) (b-1) (a+1)+1) (Sort.scanDown (λx=>!Qt x (Sort.swp d a c)[a]!) (Sort.swp d a c) (Sort.scanUp (λx=>Qt x (Sort.swp d a c)[a]!) (Sort.swp d a c) (b-1) (a+1)) (b-1)-1) (Sort.swp (Sort.swp d a c) (Sort.scanUp (λx=>Qt x (Sort.swp d a c)[a]!) (Sort.swp d a c) (b-1) (a+1)) (Sort.scanDown (λx=>!Qt x (Sort.swp d a c)[a]!) (Sort.swp d a c) (Sort.scanUp (λx=>Qt x (Sort.swp d a c)[a]!) (Sort.swp d a c) (b-1) (a+1)) (b-1)))).2
    (Sort.partLoop Qt a (Sort.scanUp (λx=>Qt x (Sort.swp d a c)[a]!) (Sort.swp d a c) (b-1) (a+1)+1) (Sort.scanDown (λx=>!Qt x (Sort.swp d a c)[a]!) (Sort.swp d a c) (Sort.scanUp (λx=>Qt x (Sort.swp d a c)[a]!) (Sort.swp d a c) (b-1) (a+1)) (b-1)-1) (Sort.swp (Sort.swp d a c) (Sort.scanUp (λx=>Qt x (Sort.swp d a c)[a]!) (Sort.swp d a c) (b-1) (a+1)) (Sort.scanDown (λx=>!Qt x (Sort.swp d a c)[a]!) (Sort.swp d a c) (Sort.scanUp (λx=>Qt x (Sort.swp d a c)[a]!) (Sort.swp d a c) (b-1) (a+1)) (b-1)))).1 a):=rfl
theorem QyQ(a b u)(VG:a+1<b)(ZF:b<=d.size)(hp:a<=u)(pE:u<b)(hz:d.size<1000000000):
  QO prog 277 h [.ref lo g 0 d.size,Qa a,Qa b,Qa u] (λdd h'=>dd=.tup [Qa (Sort.partition Qt d a b u).1,QV (Sort.partition Qt d a b u).2.1]/\h'=h.set lo (Zj g (Sort.partition Qt d a b u).2.2)):=by
 have e0:IntKind.i64.wrap ((a:Int)+1)=((a+1:Nat):Int):=ZE;have e1:IntKind.i64.wrap ((b:Int)-1)=((b-1:Nat):Int):=ZE;have s:a<d.size:=ω;have pp:u<d.size:=ω;refine Q9 func277 ntmps277 results277 λa9 w pl c=>?_;have Qq:=Qb ho;simp only[go_sem];apply Qy c ii;simp only[go_sem,Qj,ho,s,pp,QI Qq,J4,kO];rw[kP g d _ _ _ rfl s pp,QyP];apply Qh c;simp only[go_sem,e0,e1];generalize a2:Sort.swp d a u=k at *;have B:k.size=d.size:=by rw[<-a2,swp_size]
 have C:=wc (g:=g) (d:=k) Qq;generalize P:h.set lo (Zj g k)=M at C;have O:=Qb C;have a8:=lg (λx=>Qt x k[a]!) (λx=>!Qt x k[a]!) (λx=>rfl) k (a+1) (b-1) ω ω;obtain⟨t1,t2,t3,t4⟩:=Sort.scanUp_spec (λx=>Qt x k[a]!) k (b-1) _ (a+1) rfl;have t5:=t2 ω;generalize KM:Sort.scanUp (λx=>Qt x k[a]!) k (b-1) (a+1)=y at *;obtain⟨s1,s2,s3,s4⟩:=Sort.scanDown_spec (λx=>!Qt x k[a]!) k y (b-1);have s5:=s2 t5;generalize Z8:Sort.scanDown (λx=>!Qt x k[a]!) k y (b-1)=Q at *;generalize c3:a+1=I0 at *;generalize ug:b-1=p at *;rw[show h.set lo (⟨.arr,g,1,k.size,CL k⟩:Ob)=M from P];refine ZY (λm t=>∃e:Nat,e=I0+m/\e<=p+1/\Sort.scanUp (λx=>Qt x k[a]!) k p e=y/\t=⟨[(0,.ref lo g 0 d.size),(1,Qa a),(10,Qa e),(11,Qa p)],M⟩) d.size (s0:=⟨[(0,.ref lo g 0 d.size),(1,Qa a),(10,Qa I0),(11,Qa p)],M⟩) QP ⟨I0,rfl,ω,KM,rfl⟩ ?_;rintro me _ c0 ⟨e,b7,W7,L,rfl⟩;have ge:e<=p->e<d.size:=ω;rw[Sort.scanUp]at L;apply Qg c;first|refine za ?_|skip
 refine Cj [0,1,10,11] [(43,QV (decide (e<=p)&&Qt k[e]! k[a]!))] rfl ?_ ?_;by_cases W:e<=p;have S:decide (e<=p)=true:=QY W;have a4:=ge W;apply Qy c Id;simp only[go_sem,C,B,S,s,a4];apply ZP c kB (xi k[e]! k[a]!);apply ZB c;exact QP;have S:decide (e<=p)=false:=QN W;apply Qy c Id;simp only[go_sem,S];exact QP;cases o:(decide (e<=p)&&Qt k[e]! k[a]!);rw[o,Qd π]at L;apply Qg c;subst L;apply Qg c;refine ZY (λm t=>∃l:Nat,l+m=p/\e<=l+1/\Sort.scanDown (λx=>!Qt x k[a]!) k e l=Q/\t=⟨[(0,.ref lo g 0 d.size),(1,Qa a),(10,Qa e),(11,Qa l)],M⟩) d.size (s0:=⟨[(0,.ref lo g 0 d.size),(1,Qa a),(10,Qa e),(11,Qa p)],M⟩) QP ⟨p,rfl,ω,Z8,rfl⟩ ?_;rintro mf _ b9 ⟨l,b6,b4,K,rfl⟩;have gf:e<=l->l<d.size:=ω;rw[ue _ _ _ _ ω]at K;apply Qg c;first|refine za ?_|skip
 refine Cj [0,1,10,11] [(60,QV (decide (e<=l)&&!Qt k[l]! k[a]!))] rfl ?_ ?_;by_cases V:e<=l;have R:decide (e<=l)=true:=QY V;have a3:=gf V;apply Qy c o00;simp only[go_sem,C,B,R,s,a3];apply ZP c kB (xi k[l]! k[a]!);apply ZB c;exact QP;have R:decide (e<=l)=false:=QN V;apply Qy c o00;simp only[go_sem,R];exact QP;cases o:(decide (e<=l)&&!Qt k[l]! k[a]!);rw[o,Qd π]at K;apply Qg c;subst K;have a1:IntKind.i64.wrap ((e:Int)+1)=((e+1:Nat):Int):=ZE;by_cases r:l<e;have z:decide (l<e)=true:=QY r;rw[Qe r];apply Qh c;simp only[go_sem,z];have q:l<d.size:=ω;apply Qy c ii;simp only[go_sem,Qj,C,B,q,s,QI O,J4,kO];rw[kP g k _ _ _ B q s];rw[<-P,J4];first|exact⟨rfl,rfl⟩|rfl
 have z:decide (l<e)=false:=QN r;have a7:=a8 r;have F:e<d.size:=ω;have q:l<d.size:=ω;have a0:IntKind.i64.wrap ((l:Int)-1)=((l-1:Nat):Int):=ZE;rw[Qd r];apply Qh c;simp only[go_sem,z];apply Qy c ii;simp only[go_sem,Qj,C,B,F,q,QI O,J4,kO,a1,a0];rw[kP g k _ _ _ B F q,<-P,J4];refine ZY (λm t=>∃(d1:Array Int) (i j:Nat),d1.size=d.size/\a<i/\i<=j+1/\j<b/\m+(j+1-i)<=b/\Sort.partLoop Qt a i j d1=Sort.partLoop Qt a (e+1) (l-1) (Sort.swp k e l)/\t=⟨[(0,.ref lo g 0 d.size),(1,Qa a),(10,Qa i),(11,Qa j)],h.set lo (Zj g d1)⟩) b (s0:=⟨[(0,.ref lo g 0 d.size),(1,Qa a),(10,Qa (e+1:Nat)),(11,Qa (l-1:Nat))],h.set lo (Zj g (Sort.swp k e l))⟩) QP ⟨_,e+1,l-1,by rw[swp_size,B],ω,ω,ω,ω,rfl,rfl⟩ ?_;rintro m _ hm ⟨d1,i,j,v,P4,Vv,c1,gB,I,rfl⟩;have E:=wc (g:=g) (d:=d1) Qq;generalize hH:h.set lo (Zj g d1)=H at E;have lh:=Qb E;rw[Sort.partLoop_eq]at I;have MZ:=lg (λx=>Qt x d1[a]!) (λx=>!Qt x d1[a]!) (λx=>rfl) d1 i j ω Vv;obtain⟨u1,u2,u3,u4⟩:=Sort.scanUp_spec (λx=>Qt x d1[a]!) d1 j _ i rfl;have u5:=u2 Vv;generalize KM:Sort.scanUp (λx=>Qt x d1[a]!) d1 j i=y at *;obtain⟨w1,w2,w3,w4⟩:=Sort.scanDown_spec (λx=>!Qt x d1[a]!) d1 y j;have w5:=w2 u5;generalize Z8:Sort.scanDown (λx=>!Qt x d1[a]!) d1 y j=Q at *;apply Qg c;refine ZY (λm t=>∃f:Nat,f=i+m/\f<=j+1/\Sort.scanUp (λx=>Qt x d1[a]!) d1 j f=y/\t=⟨[(0,.ref lo g 0 d.size),(1,Qa a),(10,Qa f),(11,Qa j)],H⟩) d.size (s0:=⟨[(0,.ref lo g 0 d.size),(1,Qa a),(10,Qa i),(11,Qa j)],H⟩) QP ⟨i,rfl,ω,KM,rfl⟩ ?_;rintro mc _ y7 ⟨f,gD,b5,N,rfl⟩;have gc:f<=j->f<d.size:=ω;rw[Sort.scanUp]at N;apply Qg c;first|refine za ?_|skip
 refine Cj [0,1,10,11] [(112,QV (decide (f<=j)&&Qt d1[f]! d1[a]!))] rfl ?_ ?_;by_cases Z:f<=j;have U:decide (f<=j)=true:=QY Z;have a6:=gc Z;apply Qy c Id;simp only[go_sem,E,v,U,s,a6];apply ZP c kB (xi d1[f]! d1[a]!);apply ZB c;exact QP;have U:decide (f<=j)=false:=QN Z;apply Qy c Id;simp only[go_sem,U];exact QP;cases o:(decide (f<=j)&&Qt d1[f]! d1[a]!);rw[o,Qd π]at N;apply Qg c;subst N;apply Qg c;refine ZY (λm t=>∃n:Nat,n+m=j/\f<=n+1/\Sort.scanDown (λx=>!Qt x d1[a]!) d1 f n=Q/\t=⟨[(0,.ref lo g 0 d.size),(1,Qa a),(10,Qa f),(11,Qa n)],H⟩) d.size (s0:=⟨[(0,.ref lo g 0 d.size),(1,Qa a),(10,Qa f),(11,Qa j)],H⟩) QP ⟨j,rfl,ω,Z8,rfl⟩ ?_;rintro md _ lj ⟨n,b8,UO,J,rfl⟩;have gd:f<=n->n<d.size:=ω;rw[ue _ _ _ _ ω]at J;apply Qg c;first|refine za ?_|skip
 refine Cj [0,1,10,11] [(129,QV (decide (f<=n)&&!Qt d1[n]! d1[a]!))] rfl ?_ ?_;by_cases Y:f<=n;have T:decide (f<=n)=true:=QY Y;have a5:=gd Y;apply Qy c o00;simp only[go_sem,E,v,T,s,a5];apply ZP c kB (xi d1[n]! d1[a]!);apply ZB c;exact QP;have T:decide (f<=n)=false:=QN Y;apply Qy c o00;simp only[go_sem,T];exact QP;cases o:(decide (f<=n)&&!Qt d1[n]! d1[a]!);rw[o,Qd π]at J;apply Qg c;have Eh:IntKind.i64.wrap ((f:Int)+1)=((f+1:Nat):Int):=ZE;subst J;by_cases r:n<f;have z:decide (n<f)=true:=QY r;rw[Qe r]at I;apply Qh c;simp only[go_sem,z];apply Qg c;have q:n<d.size:=ω;apply Qy c ii;simp only[go_sem,Qj,E,v,q,s,QI lh,J4,kO];rw[kP g d1 _ _ _ v q s];rw[<-I,<-hH,J4];first|exact⟨rfl,rfl⟩|rfl
 have z:decide (n<f)=false:=QN r;have a7:=MZ r;have F:f<d.size:=ω;have q:n<d.size:=ω;have UL:IntKind.i64.wrap ((n:Int)-1)=((n-1:Nat):Int):=ZE;rw[Qd r]at I;apply Qh c;simp only[go_sem,z];apply Qy c ii;simp only[go_sem,Qj,E,v,F,q,QI lh,J4,kO,Eh,UL];rw[kP g d1 _ _ _ v F q];refine⟨ω,_,?_,Sort.swp d1 f n,f+1,n-1,by rw[swp_size,v],ω,ω,ω,ω,I,rfl⟩;rw[<-hH,J4];exact QP;rw[o,Qe rfl]at J;have b2:f<=n:=by rw[ZM]at o;exact qw o.1
 have vd:IntKind.i64.wrap ((n:Int)-1)=((n-1:Nat):Int):=ZE;apply Qh c;simp only[go_sem,vd];refine⟨ω,_,?_,n-1,ω,ω,J,rfl⟩;exact QP;rw[o,Qe rfl]at N;have b3:f<=j:=by rw[ZM]at o;exact qw o.1
 have vc:IntKind.i64.wrap ((f:Int)+1)=((f+1:Nat):Int):=ZE;apply Qh c;simp only[go_sem,vc];refine⟨ω,_,?_,f+1,ω,ω,N,rfl⟩;exact QP;rw[o,Qe rfl]at K;have b0:e<=l:=by rw[ZM]at o;exact qw o.1
 have vf:IntKind.i64.wrap ((l:Int)-1)=((l-1:Nat):Int):=ZE;apply Qh c;simp only[go_sem,vf];refine⟨ω,_,?_,l-1,ω,ω,K,rfl⟩;exact QP;rw[o,Qe rfl]at L;have b1:e<=p:=by rw[ZM]at o;exact qw o.1
 have ve:IntKind.i64.wrap ((e:Int)+1)=((e+1:Nat):Int):=ZE;apply Qh c;simp only[go_sem,ve];refine⟨ω,_,?_,e+1,ω,ω,L,rfl⟩;exact QP
end
def uh:∀(j:Nat) (d:Array Int),(Sort.shiftDown Qt j d).size=d.size
 | 0,d=>rfl
 | j+1,d=>by rw[Sort.shiftDown];split;rfl;rw[uh j,swp_size]
def Qi5(b):∀(n j:Nat) (d:Array Int),b-j<=n->(Sort.shiftUp Qt b j d).size=d.size
 | n,j,d,c=>by rw[Sort.shiftUp];split;split;rfl;obtain⟨a,rfl⟩:∃a,n=a+1:=⟨n-1,ω⟩;rw[Qi5 b a _ _ ω,swp_size];rfl
def Qi6(d b):∀(n i:Nat),b-i<=n->i<=b->i<=Sort.scanSorted Qt d b i/\Sort.scanSorted Qt d b i<=b
 | n,i,e,f=>by rw[Sort.scanSorted];split;rename_i c;simp at c;obtain⟨a,rfl⟩:∃a,n=a+1:=⟨n-1,ω⟩;have:=Qi6 d b a (i+1) ω ω;omega;omega
section
variable {h:List Ob}{lo g:Nat}{d:Array Int}(ho:h[lo]?=some (Zj g d))
include ho
theorem Qy0(a b)(VG:a<b)(ZF:b<=d.size)(hz:d.size<1000000000):
  QO prog 275 h [.ref lo g 0 d.size,Qa a,Qa b] (λe h'=>e=QV (Sort.partialInsertionSort Qt d a b).2/\h'=h.set lo (Zj g (Sort.partialInsertionSort Qt d a b).1)):=by
 have e0:IntKind.i64.wrap ((a:Int)+1)=((a+1:Nat):Int):=ZE;have L:IntKind.i64.wrap ((b:Int)-a)=((b-a:Nat):Int):=ZE;unfold Sort.partialInsertionSort;refine Q9 func275 ntmps275 results275 λa1 w pl c=>?_;have R:=Qb ho;simp only[go_sem,e0];refine ZY (λm q=>∃(d1:Array Int) (x:Nat),d1.size=d.size/\a+1<=x/\x<=b/\m<=5/\Sort.partialIns Qt a b (5-m) x d1=Sort.partialIns Qt a b 5 (a+1) d/\q=⟨[(0,.ref lo g 0 d.size),(1,Qa a),(2,Qa b),(7,Qa x),(8,Qa m)],h.set lo (Zj g d1)⟩) 5 (s0:=⟨[(0,.ref lo g 0 d.size),(1,Qa a),(2,Qa b),(7,Qa (a+1:Nat)),(8,Qa 0)],h.set lo (Zj g d)⟩) ?_ ⟨d,a+1,rfl,ω,ω,ω,rfl,rfl⟩ ?_;rw[xj ho];exact QP;rintro m _ hm ⟨d1,i,S,P4,F,a3,k,rfl⟩;have T:=wc (g:=g) (d:=d1) R;generalize P:h.set lo (Zj g d1)=H at T;have Ef:=Qb T;by_cases cm:m<5
 .have em:decide ((m:Int)<5)=true:=QY ω;obtain⟨sq,lu⟩:∃s,5-m=s+1:=⟨5-m-1,ω⟩;have ui:4-m=sq:=ω;rw[lu,Sort.partialIns]at k;dsimp only at k;obtain⟨k1,k2⟩:=Qi6 d1 b _ i (Qv _) F;generalize hK:Sort.scanSorted Qt d1 b i=K at *;apply Qh c;simp only[go_sem,em];refine ZY (λn q=>∃x:Nat,x=i+n/\x<=b/\Sort.scanSorted Qt d1 b x=K/\q=⟨[(0,.ref lo g 0 d.size),(1,Qa a),(2,Qa b),(7,Qa x),(8,Qa m)],H⟩) d.size (s0:=⟨[(0,.ref lo g 0 d.size),(1,Qa a),(2,Qa b),(7,Qa i),(8,Qa m)],H⟩) QP ⟨i,rfl,F,hK,rfl⟩ ?_;rintro n0 _ y8 ⟨x,hx,DF,E,rfl⟩;have uj:IntKind.i64.wrap ((x:Int)-1)=((x-1:Nat):Int):=ZE;have uk:x-1<d.size:=ω;have gx:x<b->x<d.size:=ω;rw[Sort.scanSorted]at E;apply Qg c;first|refine za ?_|skip
  refine Cj [0,1,2,7,8] [(32,QV (decide (x<b)&&!Qt d1[x]! d1[x-1]!))] rfl ?_ ?_;by_cases cx:x<b;have ex:decide (x<b)=true:=QY cx;have a0:=gx cx;apply Qy c [0,1,2,3,4,5,6,7,8,9,10,11,12,1013,14,15];simp only[go_sem,T,S,ex,uj,uk,a0];apply ZP c kB (xi d1[x]! d1[x-1]!);apply ZB c;exact QP;have ex:decide (x<b)=false:=QN cx;apply Qy c [0,1,2,3,4,5,6,7,8,9,10,11,12,1013,14,15];simp only[go_sem,ex];exact QP;cases Q:(decide (x<b)&&!Qt d1[x]! d1[x-1]!)
  .rw[Q,Qd π]at E;subst E;apply Qg c;by_cases cb:x=b;have O:((x:Int)==(b:Int))=true:=by rw[cb];exact Ot _
   rw[Qe cb]at k;apply Qh c;simp only[go_sem,O];rw[<-k,<-P];first|exact⟨rfl,rfl⟩|rfl
   .have O:((x:Int)==(b:Int))=false:=beq_eq_false_iff_ne.mpr ω;rw[Qd cb]at k;by_cases UH:b-a<50;have um:decide (((b-a:Nat):Int)<50)=true:=QY ω;rw[Qe UH]at k;apply Qh c;simp only[go_sem,O,L,um];rw[<-k,<-P];first|exact⟨rfl,rfl⟩|rfl
    .have um:decide (((b-a:Nat):Int)<50)=false:=QN ω;rw[Qd UH]at k;have px:x<d.size:=ω;apply Qh c;simp only[go_sem,O,L,um];refine Ga (⟨[(0,.ref lo g 0 d.size),(1,Qa a),(2,Qa b),(7,Qa x),(8,Qa m)],h.set lo (Zj g (Sort.swp d1 x (x-1)))⟩) Vr c mixed [(0,true),(1,true),(2,true),(3,true),(5,true),(6,true),(7,true),(8,true),(9,true),(10,true),(11,true),(12,true),(13,true),(14,true)] [4,15,16,17] τ τ (λs z=>CK z rfl ?_) ?_
     rotate_left
     .simp only[go_sem,Qj,T,uj,px,uk,S,QI Ef,J4,kO];rw[kP g d1 _ _ _ S px uk,<-P,J4]
      repeat' refine And.intro ?_ ?_
      all_goals exact QP
     generalize Ki:Sort.swp d1 x (x-1)=d2 at *;have ZD:d2.size=d.size:=by rw[<-Ki,swp_size,S]
     have JY:=wc (g:=g) (d:=d2) R;have I:IntKind.i64.wrap ((x:Int)-a)=((x-a:Nat):Int):=ZE;have J:IntKind.i64.wrap ((b:Int)-x)=((b-x:Nat):Int):=ZE;have Z:IntKind.i64.wrap ((x:Int)+1)=((x+1:Nat):Int):=ZE;generalize C:(if x-a >= 2 then Sort.shiftDown Qt (x-1) d2 else d2)=d3 at *;have UI:d3.size=d.size:=by rw[<-C];split;rw[uh,ZD];exact ZD
     first|refine za ?_|skip
     refine rU (⟨[(0,.ref lo g 0 d.size),(1,Qa a),(2,Qa b),(7,Qa x),(8,Qa m)],h.set lo (Zj g d3)⟩) ?_ ?_
     .by_cases M:x-a >= 2
      .have Y:decide ((2:Int)<=((x-a:Nat):Int))=true:=QY ω;rw[Qe M]at C;apply Qh c;simp only[go_sem,I,Y,uj];rw[<-C];refine ZY (λn q=>∃(e:Array Int) (y:Nat),e.size=d.size/\y+n=x-1/\Sort.shiftDown Qt y e=Sort.shiftDown Qt (x-1) d2/\q=⟨[(0,.ref lo g 0 d.size),(1,Qa a),(2,Qa b),(7,Qa x),(8,Qa m),(9,Qa y)],h.set lo (Zj g e)⟩) d.size (s0:=⟨[(0,.ref lo g 0 d.size),(1,Qa a),(2,Qa b),(7,Qa x),(8,Qa m),(9,Qa (x-1:Nat))],h.set lo (Zj g d2)⟩) QP ⟨d2,_,ZD,ω,rfl,rfl⟩ ?_;rintro n _ hn ⟨e,y,o,hy,f,rfl⟩;have p:=wc (g:=g) (d:=e) R;generalize l:h.set lo (Zj g e)=Hd at p;have W:=Qb p;by_cases cy:1<=y
       .have u:decide ((1:Int)<=(y:Int))=true:=QY ω;obtain⟨j,rfl⟩:∃j,y=j+1:=⟨y-1,ω⟩;rw[Sort.shiftDown]at f;have v:IntKind.i64.wrap (((j+1:Nat):Int)-1)=((j:Nat):Int):=ZE;have t:(j+1)<d.size:=ω;have r:j<d.size:=ω;apply Qh c;simp only[go_sem,u];apply Qy c [0,1,2,3,4,5,6,7,8,1009,10];simp only[go_sem,p,o,v,t,r];apply ZP c kB (xi e[j+1]! e[j]!);apply ZB c;cases B:Qt e[j+1]! e[j]!;rw[B,GW,Qe rfl]at f;simp only[go_sem];try (apply Qh c;simp only[go_sem,Qj])
        first|rw[<-f,<-l]|rw[<-l]
        exact QP
        .rw[B,BI,Qd π]at f;simp only[go_sem];refine Ga (⟨[(0,.ref lo g 0 d.size),(1,Qa a),(2,Qa b),(7,Qa x),(8,Qa m),(9,Qa (j+1:Nat))],h.set lo (Zj g (Sort.swp e (j+1) j))⟩) Vr c mixed [(0,true),(1,true),(2,true),(3,true),(5,true),(6,true),(7,true),(8,true),(9,true),(10,true),(11,true),(12,true),(13,true),(14,true)] [4,15,16,17] τ τ (λs z=>CK z rfl ?_) ?_
         rotate_left
         .simp only[go_sem,Qj,p,o,v,t,r,QI W,J4,kO];rw[kP g e _ _ _ o t r,<-l,J4]
          repeat' refine And.intro ?_ ?_
          all_goals exact QP
         apply Qh c;simp only[go_sem,v];refine⟨ω,_,?_,Sort.swp e (j+1) j,j,by rw[swp_size,o],ω,f,rfl⟩;exact QP
       have u:decide ((1:Int)<=(y:Int))=false:=QN ω;obtain rfl:y=0:=ω;rw[Sort.shiftDown]at f;apply Qg c;try (apply Qh c;simp only[go_sem,Qj])
       first|rw[<-f,<-l]|rw[<-l]
       exact QP
      have Y:decide ((2:Int)<=((x-a:Nat):Int))=false:=QN ω;rw[Qd M]at C;apply Qh c;simp only[go_sem,I,Y];rw[<-C];exact QP
     have V:IntKind.i64.wrap ((m:Int)+1)=((m+1:Nat):Int):=ZE;by_cases N:b-x >= 2
     .have U:decide ((2:Int)<=((b-x:Nat):Int))=true:=QY ω;rw[Qe N]at k;apply Qh c;simp only[go_sem,J,U,Z];refine ZY (λn q=>∃(e:Array Int) (y:Nat),e.size=d.size/\y=x+1+n/\y<=b/\Sort.shiftUp Qt b y e=Sort.shiftUp Qt b (x+1) d3/\q=⟨[(0,.ref lo g 0 d.size),(1,Qa a),(2,Qa b),(7,Qa x),(8,Qa m),(10,Qa y)],h.set lo (Zj g e)⟩) d.size (s0:=⟨[(0,.ref lo g 0 d.size),(1,Qa a),(2,Qa b),(7,Qa x),(8,Qa m),(10,Qa (x+1:Nat))],h.set lo (Zj g d3)⟩) QP ⟨d3,_,UI,ω,ω,rfl,rfl⟩ ?_;rintro n _ hn ⟨e,y,o,hy,a2,f,rfl⟩;have p:=wc (g:=g) (d:=e) R;generalize l:h.set lo (Zj g e)=Hd at p;have W:=Qb p;by_cases cy:y<b
      .have u:decide (y<b)=true:=QY ω;rw[Sort.shiftUp,Qe cy]at f;have v:IntKind.i64.wrap ((y:Int)-1)=((y-1:Nat):Int):=ZE;have UL:IntKind.i64.wrap ((y:Int)+1)=((y+1:Nat):Int):=ZE;have t:y<d.size:=ω;have r:(y-1)<d.size:=ω;apply Qh c;simp only[go_sem,u];apply Qy c [0,1,2,3,4,5,6,7,8,1009,10];simp only[go_sem,p,o,v,t,r];apply ZP c kB (xi e[y]! e[y-1]!);apply ZB c;cases B:Qt e[y]! e[y-1]!;rw[B,GW,Qe rfl]at f;simp only[go_sem];try (apply Qh c;simp only[go_sem])
       first|rw[<-f,<-l]|rw[<-l]
       try simp only[V]
       refine⟨ω,_,?_,e,x,o,ω,ω,ω,by rw[ui,f];exact k,rfl⟩;exact QP
       .rw[B,BI,Qd π]at f;simp only[go_sem];refine Ga (⟨[(0,.ref lo g 0 d.size),(1,Qa a),(2,Qa b),(7,Qa x),(8,Qa m),(10,Qa (y:Nat))],h.set lo (Zj g (Sort.swp e y (y-1)))⟩) Vr c mixed [(0,true),(1,true),(2,true),(3,true),(5,true),(6,true),(7,true),(8,true),(9,true),(10,true),(11,true),(12,true),(13,true),(14,true)] [4,15,16,17] τ τ (λs z=>CK z rfl ?_) ?_
        rotate_left
        .simp only[go_sem,Qj,p,o,v,t,r,QI W,J4,kO];rw[kP g e _ _ _ o t r,<-l,J4]
         repeat' refine And.intro ?_ ?_
         all_goals exact QP
        apply Qh c;simp only[go_sem,UL];refine⟨ω,_,?_,Sort.swp e y (y-1),y+1,by rw[swp_size,o],ω,ω,f,rfl⟩;exact QP
      have u:decide (y<b)=false:=QN ω;rw[Sort.shiftUp,Qd cy]at f;apply Qh c;simp only[go_sem,u];try (apply Qh c;simp only[go_sem])
      first|rw[<-f,<-l]|rw[<-l]
      try simp only[V]
      refine⟨ω,_,?_,e,x,o,ω,ω,ω,by rw[ui,f];exact k,rfl⟩;exact QP
     have U:decide ((2:Int)<=((b-x:Nat):Int))=false:=QN ω;rw[Qd N]at k;apply Qh c;simp only[go_sem,J,U,V];refine⟨ω,_,?_,d3,x,UI,ω,ω,ω,by rw[ui];exact k,rfl⟩;exact QP
  rw[Q,Qe rfl]at E;have lq:x<b:=by rw[ZM]at Q;exact qw Q.1
  have Z:IntKind.i64.wrap ((x:Int)+1)=((x+1:Nat):Int):=ZE;apply Qh c;simp only[go_sem,Z];refine⟨ω,_,?_,x+1,ω,ω,E,rfl⟩;exact QP
 have em:decide ((m:Int)<5)=false:=QN ω;obtain rfl:m=5:=ω;rw[YO,Sort.partialIns]at k;apply Qg c;apply Qg c;rw[<-k,<-P];first|exact⟨rfl,rfl⟩|rfl
end
def lD(n k)(h:2^k<=n):Sort.bitsLen n=k+Sort.bitsLen (n/2^k):=by
 have e:∀m,Sort.bitsLen n<=m↔k+Sort.bitsLen (n/2^k)<=m:=by intro m;rw[Sort.bitsLen_le_iff];by_cases c:k<=m;obtain⟨j,rfl⟩:∃j,m=k+j:=⟨m-k,ω⟩;have a:=Sort.bitsLen_le_iff (n/2^k) j;rw[Nat.div_lt_iff_lt_mul (cE k),<-Nat.pow_add,Ol j k]at a;rw[<-a];omega;have:2^m<=2^k:=Nat.pow_le_pow_right π ω;constructor;intro b;omega;intro b;omega
 have f:=(e (Sort.bitsLen n)).1 (Qv _);have d:=(e (k+Sort.bitsLen (n/2^k))).2 (Qv _);omega
def lF(t:Array UInt8)(c:(List.range 256).all (λi=>Nat.beq (t.getD i 0).toNat (Sort.bitsLen i))=true)(d:t.size=256)(k i n)(f:i<256)(g:k<1000)(e:Sort.bitsLen n=k+Sort.bitsLen i):
  IntKind.u8.wrap (i:Int)<(t.size:Int)/\D.raw (.int .i64 (IntKind.i64.wrap ((k:Int)+IntKind.i64.wrap ((t.getD (IntKind.u8.wrap (i:Int)).toNat 0).toNat:Int))))=D.raw (.int .i64 (Sort.bitsLen n)):=by
 have a:=jt.1 c i (Ss.2 f);rw[Wz]at a;have w:IntKind.u8.wrap (i:Int)=i:=by rw[IntKind.wrap_u8];omega
 rw[w,d,show ((i:Int)).toNat=i from rfl,a,e];have h:Sort.bitsLen i<=8:=(Sort.bitsLen_le_iff i 8).2 ω;refine⟨ω,?_⟩;have b:IntKind.i64.wrap (Sort.bitsLen i:Int)=Sort.bitsLen i:=wrap64 ω ω;rw[b,wrap64 ω ω];congr 2
def Qy2(n)(h:n<4294967296):QM prog 191 [u64 n] (QR (Qa (Sort.bitsLen n))):=by have b:decide ((4294967296:Int)<=n)=false:=QN ω;refine Q1 0 func191 ntmps191 results191 λf w i=>?_;simp only[go_sem];have e:((n:Int).fdiv (2^min 16 64))=((n/65536:Nat):Int):=MA n 16;have d:∀m:Nat,((m:Int).fdiv (2^min 8 64))=((m/256:Nat):Int):=λm=>MA m 8;have a:IntKind.i64.wrap 16=16:=rfl;have c:IntKind.i64.wrap 24=24:=rfl;have g:IntKind.i64.wrap 8=8:=rfl;by_cases j:65536<=n;have d1:decide ((65536:Int)<=n)=true:=QY ω;by_cases c2:256<=n/65536;have d2:decide ((256:Int)<=(n/65536:Nat))=true:=QY ω;simp only[go_sem,b,d1,e,d2,d,a,c];exact lF _ τ τ 24 (n/65536/256) n ω π (by rw[lD n 16 ω,lD (n/2^16) 8 ω,show n/2^16/2^8=n/65536/256 from rfl];omega);have d2:decide ((256:Int)<=(n/65536:Nat))=false:=QN ω;simp only[go_sem,b,d1,e,d2,a];exact lF _ τ τ 16 (n/65536) n ω π (by rw[lD n 16 ω]);have d1:decide ((65536:Int)<=n)=false:=QN ω;by_cases c2:256<=n;have d2:decide ((256:Int)<=n)=true:=QY ω;simp only[go_sem,b,d1,d2,d,g];exact lF _ τ τ 8 (n/256) n ω π (by rw[lD n 8 ω]);have d2:decide ((256:Int)<=n)=false:=QN ω;simp only[go_sem,b,d1,d2];exact lF _ τ τ 0 n n ω π ω
def db(n)(c:n<4294967296):QM prog 139 [u64 n] (QR (Qa (Sort.bitsLen n))):=by refine Q1 0 func139 ntmps139 results139 λb w a=>?_;simp only[go_sem];apply QZ a QuT (Qy2 n c);exact VT a
def Qy4(n:Nat)(f:n<1000000000):QM prog 235 [Qa n] (QR (u64 (2^Sort.bitsLen n))):=by
 have d:IntKind.u64.wrap (n:Int)=(n:Int):=κ;have a:=(Sort.bitsLen_le_iff n 30).2 ω;have e:2^Sort.bitsLen n<=2^30:=Nat.pow_le_pow_right π a;have c:IntKind.u64.wrap (1*2^min (Sort.bitsLen n) 64)=((2^Sort.bitsLen n:Nat):Int):=by rw[wC ω,Int.one_mul,show (2:Int)^Sort.bitsLen n=((2^Sort.bitsLen n:Nat):Int) by push_cast;rfl,IntKind.wrap_u64];generalize 2^Sort.bitsLen n=p at *;omega
 refine Q1 0 func235 ntmps235 results235 λb w a=>?_;simp only[go_sem];simp only[go_sem,d];apply QZ a Qgh (db n ω);apply Qh a;simp only[go_sem,c]
@[go_sem] def H9(n:Nat):Ob:=⟨.one,0,1,1,λ_=>[u64 n]⟩
def Qy5{h:List Ob}{c}(n)(f:h[c]?=some (H9 n))(o:n<18446744073709551616):
  QO prog 236 h [.ptr c 0 0 0] (λq p=>q=u64 (Sort.xorNextN n)/\p=h.set c (H9 (Sort.xorNextN n))):=by
 refine Q9 func236 ntmps236 results236 λi w s e=>?_;have g:=Qb f;simp only[go_sem];have l:∀a:Nat,a<18446744073709551616->bits .xor .u64 (a:Int) (IntKind.u64.wrap ((a:Int)*2^min 13 64))=((a ^^^ (a*8192%18446744073709551616):Nat):Int):=λa b=>by rw[show IntKind.u64.wrap ((a:Int)*2^min 13 64)=((a*8192%18446744073709551616:Nat):Int) from Mz a 8192];exact u64_xor_nat _ _ b (Xt _ π)
 have k:∀a:Nat,a<18446744073709551616->bits .xor .u64 (a:Int) ((a:Int).fdiv (2^min 7 64))=((a ^^^ (a/128):Nat):Int):=λa b=>by rw[show (a:Int).fdiv (2^min 7 64)=((a/128:Nat):Int) from MA a 7];exact u64_xor_nat _ _ b ω
 have j:∀a:Nat,a<18446744073709551616->bits .xor .u64 (a:Int) (IntKind.u64.wrap ((a:Int)*2^min 17 64))=((a ^^^ (a*131072%18446744073709551616):Nat):Int):=λa b=>by rw[show IntKind.u64.wrap ((a:Int)*2^min 17 64)=((a*131072%18446744073709551616:Nat):Int) from Mz a 131072];exact u64_xor_nat _ _ b (Xt _ π)
 have b:n ^^^ (n*8192%18446744073709551616)<18446744073709551616:=Sy (n:=64) ω ω;have r:(n ^^^ (n*8192%18446744073709551616)) ^^^ ((n ^^^ (n*8192%18446744073709551616))/128)<18446744073709551616:=Sy (n:=64) b ω;unfold Sort.xorNextN;dsimp only;apply Qy e i4;simp only[go_sem,f,l n o];generalize n ^^^ (n*8192%18446744073709551616)=d at *;apply Qy e i4;simp only[go_sem,Qj,QI g,J4,k d b];generalize d ^^^ (d/128)=m at *;apply Qy e i4;simp only[go_sem,Qj,QI g,J4,j m r];try exact⟨rfl,rfl⟩
def Bo(a L M b:Nat)(s0:UInt64 × Array Int):Nat->UInt64 × Array Int
 | 0=>s0
 | k+1=>Sort.breakStep a L M (Bo a L M b s0 k) (b+k)
def uw(a L M b)(c:UInt64 × Array Int):∀k,(Bo a L M b c k).2.size=c.2.size
 | 0=>rfl
 | k+1=>by rw[Bo,Sort.breakStep];dsimp only;rw[swp_size,uw a L M b c k]
def Qjf(d a b)(h:b-a >= 8):Sort.breakPatterns d a b=(Bo a (b-a) (1 <<< Sort.bitsLen (b-a)) (a+(b-a)/4*2-1) (UInt64.ofNat (b-a),d) 3).2:=by unfold Sort.breakPatterns;dsimp only;rw[Qe h];rfl
section
variable {h:List Ob}{lo g:Nat}{d:Array Int}(ho:h[lo]?=some (Zj g d))
include ho
theorem Qy6(a b)(VG:a<b)(ZF:b<=d.size)(hz:d.size<1000000000):
  QO prog 272 h [.ref lo g 0 d.size,Qa a,Qa b] (λdd h'=>dd=.tup []/\∃t,h'=h.set lo (Zj g (Sort.breakPatterns d a b))++t):=by
 have T:IntKind.i64.wrap ((b:Int)-a)=((b-a:Nat):Int):=ZE;by_cases U:b-a >= 8
 .rw[Qjf d a b U];have d8:decide ((8:Int)<=(b-a:Nat))=true:=QY ω;generalize hL:b-a=L at *;have a1:=Sort.two_pow_bitsLen_le (n:=L) ω;have a2:=cE (Sort.bitsLen L);rw[show 1 <<< Sort.bitsLen L=2^Sort.bitsLen L by rw[Nat.shiftLeft_eq,Lp]];have f0:((L:Int)).tdiv 4=((L/4:Nat):Int):=rfl;have f1:IntKind.i64.wrap (((L/4:Nat):Int))=((L/4:Nat):Int):=by rw[wrap64 ω ω]
  have f2:IntKind.i64.wrap (((L/4:Nat):Int)*2)=((L/4*2:Nat):Int):=ZE;have f3:IntKind.i64.wrap ((a:Int)+(L/4*2:Nat))=((a+L/4*2:Nat):Int):=ZE;have f4:IntKind.i64.wrap (((a+L/4*2:Nat):Int)-1)=((a+L/4*2-1:Nat):Int):=ZE;have f5:IntKind.i64.wrap (((a+L/4*2:Nat):Int)+1)=((a+L/4*2+1:Nat):Int):=ZE;have f6:IntKind.u64.wrap (L:Int)=(L:Int):=κ;refine Q9 func272 ntmps272 results272 λB w pl f=>?_;have Q:=Qb ho;simp only[go_sem,Qj,T,d8,f6];apply QZ f Qva (Qy4 L ω);apply Qh f;simp only[go_sem,f0,f1,f2,f3,f4];generalize hM:2^Sort.bitsLen L=M at *;generalize N:(UInt64.ofNat L,d)=c;have Y7:c.2.size=d.size:=by rw[<-N]
  have W:c.1.toNat=L:=by rw[<-N];simp;omega
  have MI:c.2=d:=by rw[<-N]
  refine ZY (λm st=>m<=3/\st=⟨[(0,.ref lo g 0 d.size),(1,Qa a),(6,Qa L),(7,.ptr h.length 0 0 0),(8,u64 M),(9,Qa (a+L/4*2-1+m:Nat))],h.set lo (Zj g (Bo a L M (a+L/4*2-1) c m).2)++[H9 (Bo a L M (a+L/4*2-1) c m).1.toNat]⟩) 3 (s0:=⟨[(0,.ref lo g 0 d.size),(1,Qa a),(6,Qa L),(7,.ptr h.length 0 0 0),(8,u64 M),(9,Qa (a+L/4*2-1+0:Nat))],h.set lo (Zj g (Bo a L M (a+L/4*2-1) c 0).2)++[H9 (Bo a L M (a+L/4*2-1) c 0).1.toNat]⟩) ?_ ⟨ω,rfl⟩ ?_;rw[Bo,MI,W,xj ho];exact QP;rintro m _ hm ⟨FO,rfl⟩;have k:=uw a L M (a+L/4*2-1) c m;rw[Y7]at k;by_cases cm:m<3
  .have z:Bo a L M (a+L/4*2-1) c (m+1)=Sort.breakStep a L M (Bo a L M (a+L/4*2-1) c m) (a+L/4*2-1+m):=rfl;generalize Zd:Bo a L M (a+L/4*2-1) c m=sm at *;obtain⟨r,i⟩:=sm;dsimp only at k ⊢;have E:=wc (g:=g) (d:=i) Q;have l:(h.set lo (Zj g i)).length=h.length:=Ky;generalize C:h.set lo (Zj g i)=H at *;have j:=Qb E;have ZW:lo<h.length:=Q;rw[<-l];have g1:(H++[H9 r.toNat])[H.length]?=some (H9 r.toNat):=σ;have hx:=Sort.xorNext_toNat r;have V:=r.toNat_lt;have kr:=Sort.xorNextN_lt r.toNat V;have g2:∀o F:Ob,(H++[o]).set H.length F=H++[F]:=λo F=>by rw[fA rfl];rfl
   have O:decide (a+L/4*2-1+m<=a+L/4*2+1)=true:=QY ω;apply Qh f;simp only[go_sem,f0,f1,f2,f3,f5,O];refine ZT f Qvb (Qy5 r.toNat g1 V) λd h hR=>?_;obtain⟨rfl,rfl⟩:=hR;apply Qh f;simp only[go_sem,g2];have Y:IntKind.u64.wrap ((M:Int)-1)=((M-1:Nat):Int):=κ;generalize a0:Sort.xorNextN r.toNat=x at *;have wA:bits .and .u64 (x:Int) ((M-1:Nat):Int)=((x &&& (M-1):Nat):Int):=u64_and_nat x (M-1) kr ω;have yb:x &&& (M-1)<=M-1:=Nat.and_le_right;generalize S:x &&& (M-1)=y at *;have Z:IntKind.i64.wrap ((y:Nat):Int)=((y:Nat):Int):=by rw[wrap64 ω ω]
   have J:IntKind.i64.wrap (((y:Nat):Int)-L)=((y-L:Nat):Int)\/¬ L<=y:=by by_cases q:L<=y;left;rw[wrap64 ω ω];omega;right;exact q
   have R:IntKind.i64.wrap (((a+L/4*2-1+m:Nat):Int)+1)=((a+L/4*2-1+(m+1):Nat):Int):=ZE;simp only[go_sem,Y,wA,Z];by_cases v:L<=y
   .replace J:=J.resolve_right (λq=>q v);have c2:decide (L<=y)=true:=QY v;have P:Sort.breakStep a L M (r,i) (a+L/4*2-1+m)=(Sort.xorNext r,Sort.swp i (a+L/4*2-1+m) (a+(y-L))):=by unfold Sort.breakStep;dsimp only;rw[hx,S,Qe v]
    have u:a+L/4*2-1+m<d.size:=ω;have p:a+(y-L)<d.size:=ω;have I:IntKind.i64.wrap ((a:Int)+((y-L):Nat))=((a+(y-L):Nat):Int):=ZE;simp only[go_sem,c2,J];refine Ga (⟨[(0,.ref lo g 0 d.size),(1,Qa a),(6,Qa L),(7,.ptr H.length 0 0 0),(8,u64 M),(9,Qa (a+L/4*2-1+m:Nat))],H.set lo (Zj g (Sort.swp i (a+L/4*2-1+m) (a+(y-L))))++[H9 x]⟩) Vr f mixed [(0,true),(1,true),(2,true),(3,true),(4,true),(6,true),(7,true),(8,true),(9,true),(10,true),(11,true),(12,true),(13,true),(14,true),(15,true),(16,true)] [5,17,18,19] τ τ (λs K=>CK K rfl ?_) ?_
    rotate_left
    .simp only[go_sem,Qj,E,j,k,u,p,I,QG j,DO j,QI j,J4,kO,Ky];rw[kP g i _ _ _ k u p]
     repeat' refine And.intro ?_ ?_
     all_goals exact QP
    apply Qh f;simp only[go_sem,R];refine⟨ω,_,?_,ω,rfl⟩;rw[z,P,<-C,J4,hx];rw[<-C]at l;rw[l];exact QP
   .have c2:decide (L<=y)=false:=QN v;have P:Sort.breakStep a L M (r,i) (a+L/4*2-1+m)=(Sort.xorNext r,Sort.swp i (a+L/4*2-1+m) (a+y)):=by unfold Sort.breakStep;dsimp only;rw[hx,S,Qd v]
    have u:a+L/4*2-1+m<d.size:=ω;have p:a+y<d.size:=ω;have I:IntKind.i64.wrap ((a:Int)+(y:Nat))=((a+y:Nat):Int):=ZE;simp only[go_sem,c2];refine Ga (⟨[(0,.ref lo g 0 d.size),(1,Qa a),(6,Qa L),(7,.ptr H.length 0 0 0),(8,u64 M),(9,Qa (a+L/4*2-1+m:Nat))],H.set lo (Zj g (Sort.swp i (a+L/4*2-1+m) (a+y)))++[H9 x]⟩) Vr f mixed [(0,true),(1,true),(2,true),(3,true),(4,true),(6,true),(7,true),(8,true),(9,true),(10,true),(11,true),(12,true),(13,true),(14,true),(15,true),(16,true)] [5,17,18,19] τ τ (λs K=>CK K rfl ?_) ?_
    rotate_left
    .simp only[go_sem,Qj,E,j,k,u,p,I,QG j,DO j,QI j,J4,kO,Ky];rw[kP g i _ _ _ k u p]
     repeat' refine And.intro ?_ ?_
     all_goals exact QP
    apply Qh f;simp only[go_sem,R];refine⟨ω,_,?_,ω,rfl⟩;rw[z,P,<-C,J4,hx];rw[<-C]at l;rw[l];exact QP
  obtain rfl:m=3:=ω;have O:decide (a+L/4*2-1+2<=a+L/4*2)=false:=QN ω;apply Qh f;simp only[go_sem,f0,f1,f2,f3,f5,O];try exact⟨_,rfl⟩
 have d8:decide ((8:Int)<=(b-a:Nat))=false:=QN ω;have e:Sort.breakPatterns d a b=d:=by unfold Sort.breakPatterns;dsimp only;rw[Qd U]
 rw[e];refine Q9 func272 ntmps272 results272 λB w pl f=>?_;have Q:=Qb ho;simp only[go_sem,T,d8];exact⟨[],by rw[JN];exact(xj ho).symm⟩
end
def Qji(a b):∀(n i:Nat) (d:Array Int),b-i<=n->(Sort.insOuter Qt a b i d).size=d.size
 | n,i,d,e=>by rw[Sort.insOuter];split;obtain⟨c,rfl⟩:∃c,n=c+1:=⟨n-1,ω⟩;rw[Qji a b c _ _ ω,QiX];rfl
def Qy7(d:Array Int)(a b:Nat):(Sort.insertionSort Qt d a b).size=d.size:=Qji a b _ _ d (Qv _)
def Qjj(first):∀(k:Nat) (d:Array Int),(Sort.heapPop Qt first k d).size=d.size
 | 0,d=>rfl
 | k+1,d=>by rw[Sort.heapPop,Qjj first k,ld,swp_size]
def Qy8(d:Array Int)(a b:Nat):(Sort.heapSort Qt d a b).size=d.size:=by rw[Sort.heapSort,Qjj,Qi0]
def Qy9(d:Array Int)(a b:Nat):(Sort.breakPatterns d a b).size=d.size:=by by_cases c:b-a >= 8;rw[Qjf d a b c,uw];unfold Sort.breakPatterns;dsimp only;rw[Qd c]
def Qjk:∀(n i j:Nat) (d:Array Int),j-i<=n->(Sort.reverseLoop i j d).size=d.size
 | n,i,j,d,b=>by rw[Sort.reverseLoop];split;obtain⟨a,rfl⟩:∃a,n=a+1:=⟨n-1,ω⟩;rw[Qjk a _ _ _ ω,swp_size];rfl
def Qza(d:Array Int)(a b:Nat):(Sort.reverseRange d a b).size=d.size:=Qjk _ _ _ d (Qv _)
def Qjl(a b):∀(s i:Nat) (d:Array Int),(Sort.partialIns Qt a b s i d).1.size=d.size
 | 0,i,d=>rfl
 | s+1,i,d=>by
  rw[Sort.partialIns];dsimp only;split;rfl;split;rfl;rw[Qjl a b s];have e:∀c:Array Int,(if b-Sort.scanSorted Qt d b i >= 2 then Sort.shiftUp Qt b (Sort.scanSorted Qt d b i+1) c else c).size=c.size:=λc=>by split;exact Qi5 b _ _ _ (Qv _);rfl
  rw[e];split;rw[uh,swp_size];rw[swp_size]
def ux(d:Array Int)(a b p:Nat):(Sort.partitionEqual Qt d a b p).2.size=d.size:=by rw[Sort.partitionEqual,Qi1 a _ _ _ _ (Qv _),swp_size]
def lG(d:Array Int)(a b p:Nat):(Sort.partition Qt d a b p).2.2.size=d.size:=by rw[Sort.partition_arr,swp_size,Qi2 a _ _ _ _ (Qv _),swp_size]
def Qjm(d:Array Int)(a b l)(c e:Bool):(Sort.rd Qt d a b l c e).d1.size=d.size/\(Sort.rd Qt d a b l c e).d2.size=d.size/\(Sort.rd Qt d a b l c e).pi.1.size=d.size:=by
 have g:(Sort.rd Qt d a b l c e).d1.size=d.size:=by cases c;exact Qy9 d a b;rfl
 have f:(Sort.rd Qt d a b l c e).d2.size=d.size:=by by_cases h:(Sort.rd Qt d a b l c e).c.2=.decreasing;rw[(Sort.rd_dec h).1,Qza,g];rw[(Sort.rd_not h).1,g]
 refine⟨g,f,?_⟩;cases i:(c&&e&&decide ((Sort.rd Qt d a b l c e).hint=.increasing));rw[Sort.rd_pi_no i,f];rw[Sort.rd_pi_yes i,Sort.partialInsertionSort,Qjl,f]
def Qjn(a):∀(n i j:Nat) (d:Array Int),j+1-i<=n->a<i->i<=j+1->a<(Sort.partEqLoop Qt a i j d).1/\(Sort.partEqLoop Qt a i j d).1<=j+1
 | n,i,j,d,r,t,c=>by have k:=lg (λx=>!Qt d[a]! x) (λx=>Qt d[a]! x) (λx=>σ) d i j ω c;obtain⟨p,f,o,m⟩:=Sort.scanUp_spec (λx=>!Qt d[a]! x) d j _ i rfl;obtain⟨v1,v2,v3,l⟩:=Sort.scanDown_spec (λx=>Qt d[a]! x) d (Sort.scanUp (λx=>!Qt d[a]! x) d j i) j;have e:=f c;rw[Sort.partEqLoop_eq];split;exact⟨by dsimp only;omega,e⟩;rename_i h;have s:=k h;have:=Sort.partEqLoop_guard Qt a i j d h;obtain⟨b,rfl⟩:∃b,n=b+1:=⟨n-1,ω⟩;obtain⟨g,q⟩:=Qjn a b _ _ (Sort.swp d (Sort.scanUp (λx=>!Qt d[a]! x) d j i) (Sort.scanDown (λx=>Qt d[a]! x) d (Sort.scanUp (λx=>!Qt d[a]! x) d j i) j)) (show (Sort.scanDown (λx=>Qt d[a]! x) d (Sort.scanUp (λx=>!Qt d[a]! x) d j i) j-1)+1-(Sort.scanUp (λx=>!Qt d[a]! x) d j i+1)<=b by omega) ω ω;exact⟨g,ω⟩
def Qzb(d)(a b p:Nat)(c:a<b):a<(Sort.partitionEqual Qt d a b p).1/\(Sort.partitionEqual Qt d a b p).1<=b:=by have:=Qjn a _ (a+1) (b-1) (Sort.swp d a p) (Qv _) ω ω;rw[Sort.partitionEqual];omega
def Qjo:Sort.SWO Qt:=⟨λx=>by simp[Qt],λx y z b a=>by simp[Qt]at *;omega,λx y z b a=>by simp[Qt]at *;omega⟩
def Qzc(d:Array Int)(a b p:Nat)(f:a<=p)(e:p<b)(c:b<=d.size):a<=(Sort.partition Qt d a b p).1/\(Sort.partition Qt d a b p).1<b:=by have:=Sort.partition_holds Qt Qjo d a b p f e c;exact⟨this.1,this.2.1⟩
def Qzd(d a b l)(e c:Bool)(g:a<b):a<=(Sort.rd Qt d a b l e c).pivot/\(Sort.rd Qt d a b l e c).pivot<b:=by have h:=Sort.choosePivot_holds Qt (Sort.rd Qt d a b l e c).d1 a b g;rw[<-Sort.rd_c]at h;by_cases f:(Sort.rd Qt d a b l e c).c.2=.decreasing;rw[(Sort.rd_dec f).2.1];omega;rw[(Sort.rd_not f).2.1];exact h
def Ib:∀(n:Nat) (d:Array Int) (a b l:Nat) (g f:Bool),b-a<=n->(Sort.pdq Qt d a b l g f).size=d.size
 | n,d,a,b,l,g,f,k=>by obtain⟨j,i,e⟩:=Qjm d a b l g f;rw[Sort.pdq_unfold];split;exact Qy7 d a b;split;exact Qy8 d a b;obtain⟨c,rfl⟩:∃c,n=c+1:=⟨n-1,ω⟩;split;exact e;split;split;rename_i h;rw[Ib c _ _ _ _ _ _ ω,ux,e];rw[ux,e];split;rename_i h;split;rw[Ib c _ _ _ _ _ _ ω,Ib c _ _ _ _ _ _ ω,lG,e];rw[Ib c _ _ _ _ _ _ ω,Ib c _ _ _ _ _ _ ω,lG,e];rw[lG,e]
def Qjp(n:Nat):Prop:=∀(h:List Ob) (c g:Nat) (d:Array Int),h[c]?=some (Zj g d)->∀a b l:Nat,a<=b->b<=d.size->l<1000->d.size<1000000000->b-a<n ->
 QO prog 257 h [.ref c g 0 d.size,Qa a,Qa b,Qa l] (λf e=>f=.tup []/\∃t,e=h.set c (Zj g (Sort.pdq Qt d a b l true true))++t)
def Gf{h t:List Ob}{a x y}(b:a<h.length):(h.set a x++t).set a y=h.set a y++t:=by rw[cn _ _ (zC b),J4]
def US{h t:List Ob}{a x}(b:a<h.length):(h.set a x++t)[a]?=some x:=by rw[JX (zC b),QI b]
def Qjq(c:Sort.Hint)(k:Sort.Hint):((Gb c:Int)==(Gb k:Int))=decide (c=k):=by cases c<;>cases k<;>rfl
def Qze(n:Nat)(IH:Qjp n){h:List Ob}{j g:Nat}{d:Array Int}(ho:h[j]?=some (Zj g d))(a b l:Nat)(VG:a<=b)(ZF:b<=d.size)(hl:l<1000)(hz:d.size<1000000000)(hn:b-a<n+1):
  QO prog 257 h [.ref j g 0 d.size,Qa a,Qa b,Qa l] (λdd h'=>dd=.tup []/\∃t,h'=h.set j (Zj g (Sort.pdq Qt d a b l true true))++t):=by
 refine Q9 func257 ntmps257 results257 λa6 w pl f=>?_;have v:=Qb ho;simp only[go_sem];refine ZY (λm y=>∃(d1:Array Int) (c e p:Nat) (i k:Bool) (t:List Ob),d1.size=d.size/\c<=e/\e<=d.size/\p<1000/\m+(e-c)<=b-a/\Sort.pdq Qt d1 c e p i k=Sort.pdq Qt d a b l true true/\y=⟨[(0,.ref j g 0 d.size),(1,Qa c),(2,Qa e),(3,Qa p),(8,QV i),(9,QV k)],h.set j (Zj g d1)++t⟩) (b-a) (s0:=⟨[(0,.ref j g 0 d.size),(1,Qa a),(2,Qa b),(3,Qa l),(8,QV true),(9,QV true)],h.set j (Zj g d)++[]⟩) ?_ ⟨d,a,b,l,true,true,[],rfl,VG,ZF,hl,ω,rfl,rfl⟩ ?_;rw[xj ho,JN];exact QP;rintro m _ hm ⟨d1,c,e,p,i,k,t1,N,a9,a8,JC,gB,r,rfl⟩;have e0:IntKind.i64.wrap ((e:Int)-c)=((e-c:Nat):Int):=ZE;have Q:(h.set j (Zj g d1)++t1)[j]?=some (Zj g d1):=US v;rw[Sort.pdq_unfold]at r;by_cases H:e-c<=12;have d12:decide (((e-c:Nat):Int)<=12)=true:=QY ω;rw[Qe H]at r;apply Qh f;simp only[go_sem,e0,d12];refine ZT f Qvi (N▸QyH Q c e ω ω ω) λd h s=>?_;obtain⟨rfl,rfl⟩:=s;apply Qg f;refine⟨t1,?_⟩;rw[<-r];exact Gf v;have d12:decide (((e-c:Nat):Int)<=12)=false:=QN ω;rw[Qd H]at r;by_cases cl:p=0;have dl:((p:Int)==0)=true:=by rw[cl];rfl
 rw[Qe cl]at r;apply Qh f;simp only[go_sem,e0,d12,dl];refine ZT f Qvj (N▸QyI Q c e ω ω ω) λd h s=>?_;obtain⟨rfl,rfl⟩:=s;apply Qg f;refine⟨t1,?_⟩;rw[<-r];exact Gf v;have dl:((p:Int)==0)=false:=beq_eq_false_iff_ne.mpr ω;rw[Qd cl]at r;refine FA Vr f 30 ?_;simp only[go_sem,e0,d12,dl];obtain⟨O,z2,B⟩:=Qjm d1 c e p i k;have a7:=Sort.rd_lim_le (lt:=Qt) (d:=d1) (a:=c) (b:=e) (limit:=p) (wb:=i) (wp:=k);have z:=Qzd d1 c e p i k ω;rw[N]at O z2 B;first|refine za ?_|skip
 refine iZ (λy=>∃t,y=⟨[(0,.ref j g 0 d.size),(1,Qa c),(2,Qa e),(3,Qa (Sort.rd Qt d1 c e p i k).lim),(8,QV i),(9,QV k),(10,Qa (e-c:Nat))],h.set j (Zj g (Sort.rd Qt d1 c e p i k).d1)++t⟩) ?_ ?_;cases i;have vl:IntKind.i64.wrap ((p:Int)-1)=((p-1:Nat):Int):=ZE;rw[Sort.rd_false.1,Sort.rd_false.2];apply Qg f;refine ZT f Qvk (N▸Qy6 Q c e ω ω ω) λd h s=>?_;obtain⟨rfl,t2,rfl⟩:=s;apply Qh f;simp only[go_sem,vl];refine⟨_,⟨t1++t2,rfl⟩,?_⟩;rw[Gf v,WJ];exact QP;rw[Sort.rd_true.1,Sort.rd_true.2];apply Qg f;refine⟨_,⟨t1,rfl⟩,?_⟩;exact QP;have hc:=Sort.rd_c (lt:=Qt) (d:=d1) (a:=c) (b:=e) (limit:=p) (wb:=i) (wp:=k);have a5:=Sort.rd_dec (lt:=Qt) (d:=d1) (a:=c) (b:=e) (limit:=p) (wb:=i) (wp:=k);have a4:=Sort.rd_not (lt:=Qt) (d:=d1) (a:=c) (b:=e) (limit:=p) (wb:=i) (wp:=k);have a3:=Sort.rd_pi_yes (lt:=Qt) (d:=d1) (a:=c) (b:=e) (limit:=p) (wb:=i) (wp:=k);have Z4:=Sort.rd_pi_no (lt:=Qt) (d:=d1) (a:=c) (b:=e) (limit:=p) (wb:=i) (wp:=k);have qJ:=Sort.choosePivot_holds Qt (Sort.rd Qt d1 c e p i k).d1 c e ω;rw[<-hc]at qJ;generalize Sort.rd Qt d1 c e p i k=R at *;rintro _ ⟨t2,rfl⟩;apply Qg f;refine ZT f Qvl (O▸QyF (US (x:=Zj g R.d1) v) c e ω ω ω) λd h s=>?_;obtain⟨rfl,t3,rfl⟩:=s;refine FA Vr f 12 ?_;simp only[go_sem,WJ];rw[<-hc];first|refine za ?_|skip
 refine iZ (λy=>∃t,y=⟨[(0,.ref j g 0 d.size),(1,Qa c),(2,Qa e),(3,Qa R.lim),(8,QV i),(9,QV k),(10,Qa (e-c:Nat)),(11,Qa R.pivot),(12,Qa (Gb R.hint:Nat))],h.set j (Zj g R.d2)++t⟩) ?_ ?_;by_cases M:R.c.2=.decreasing;obtain⟨W,V,U⟩:=a5 M;have b2:((Gb R.c.2:Int)==2)=true:=by rw[M];rfl
 have v1:IntKind.i64.wrap ((e:Int)-1)=((e-1:Nat):Int):=ZE;have v2:IntKind.i64.wrap ((R.c.1:Int)-c)=((R.c.1-c:Nat):Int):=ZE;have v3:IntKind.i64.wrap (((e-1:Nat):Int)-(R.c.1-c:Nat))=(((e-1)-(R.c.1-c):Nat):Int):=ZE;apply Qh f;simp only[go_sem,b2];refine ZT f Qvm (O▸QyG (US (x:=Zj g R.d1) v) c e ω ω ω) λd h s=>?_;obtain⟨rfl,rfl⟩:=s;apply Qh f;simp only[go_sem,v1,v2,v3];rw[W,V,U];refine⟨_,⟨t2++t3,rfl⟩,?_⟩;rw[Gf v];exact Qs.frame (by simp only[go_sem];first|rfl|exact⟨rfl,rfl⟩);obtain⟨W,V,U⟩:=a4 M;have b2:((Gb R.c.2:Int)==2)=false:=by rw[show (2:Int)=(Gb .decreasing:Int) from rfl,Qjq];exact QN M
 apply Qh f;simp only[go_sem,b2];rw[W,V,U];refine⟨_,⟨t2++t3,rfl⟩,?_⟩;exact QP;rintro _ ⟨t4,rfl⟩;refine za ?_;first|refine za ?_|skip
 refine rU (⟨[(0,.ref j g 0 d.size),(1,Qa c),(2,Qa e),(3,Qa R.lim),(8,QV i),(9,QV k),(10,Qa (e-c:Nat)),(11,Qa R.pivot),(12,Qa (Gb R.hint:Nat)),(68,QV (i&&k&&decide (R.hint=.increasing)))],h.set j (Zj g R.d2)++t4⟩) ?_ ?_;cases i;apply Qg f;exact QP;cases k;apply Qg f;exact QP;have dY:((Gb R.hint:Int)==1)=decide (R.hint=.increasing):=Qjq R.hint .increasing;apply Qh f;simp only[go_sem,dY];exact QP;first|refine za ?_|skip
 refine iZ (λy=>R.pi.2=false/\∃t,y=⟨[(0,.ref j g 0 d.size),(1,Qa c),(2,Qa e),(3,Qa R.lim),(8,QV i),(9,QV k),(10,Qa (e-c:Nat)),(11,Qa R.pivot)],h.set j (Zj g R.pi.1)++t⟩) ?_ ?_;cases C:(i&&k&&decide (R.hint=.increasing));have Z:=Z4 C;apply Qg f;rw[Z];refine⟨_,⟨rfl,t4,rfl⟩,?_⟩;exact QP;have Z:=a3 C;apply Qg f;refine ZT f Qvn (z2▸Qy0 (US (x:=Zj g R.d2) v) c e ω ω ω) λd h s=>?_;obtain⟨rfl,rfl⟩:=s;apply Qg f;rw[<-Z];cases ZX:R.pi.2;simp only[go_sem];refine⟨_,⟨t4,rfl⟩,?_⟩;rw[Gf v];exact QP;rw[Qe ZX]at r;simp only[go_sem];refine⟨t4,?_⟩;rw[<-r];exact Gf v;rintro _ ⟨a2,t5,rfl⟩;rw[Qd (by rw[a2];decide)]at r;generalize hD:R.pi.1=u at *;have F:(h.set j (Zj g u)++t5)[j]?=some (Zj g u):=US v;generalize P:h.set j (Zj g u)++t5=HD at F;have a0:=Qb F;have p2:R.pivot<d.size:=ω;have f1:c > 0->IntKind.i64.wrap ((c:Int)-1)=((c-1:Nat):Int):=λq=>by exact ZE
 have p1:c-1<d.size:=ω;refine za ?_;first|refine za ?_|skip
 refine Cj [0,1,2,3,8,9,10,11] [(87,QV (decide (c > 0)&&!Qt u[c-1]! u[R.pivot]!))] rfl ?_ ?_;by_cases ca:c > 0;have da:decide ((0:Int)<(c:Int))=true:=QY ω;have f2:=f1 ca;apply Qy f o00;simp only[go_sem,F,B,da,f2,p1,p2];apply ZP f kB (xi u[c-1]! u[R.pivot]!);apply ZB f;exact Qs.frame (by simp only[go_sem,QY ca,Sj]);have da:decide ((0:Int)<(c:Int))=false:=QN ω;apply Qy f o00;simp only[go_sem,da];exact Qs.frame (by simp only[go_sem,QN ca,N9]);cases C:(decide (c > 0)&&!Qt u[c-1]! u[R.pivot]!);rw[C,Qd π]at r;have Y:=Qzc u c e R.pivot z.1 z.2 ω;have JO:=lG u c e R.pivot;rw[Qe Y]at r;apply Qg f;refine ZT f Qvp (B▸QyQ F c e R.pivot ω ω z.1 z.2 ω) λd h s=>?_;obtain⟨rfl,rfl⟩:=s;apply Qg f;generalize Sort.partition Qt u c e R.pivot=pt at *;obtain⟨o,J,E⟩:=pt;dsimp only at *;have k1:IntKind.i64.wrap ((o:Int)-c)=((o-c:Nat):Int):=ZE;have k2:IntKind.i64.wrap ((e:Int)-o)=((e-o:Nat):Int):=ZE;have k3:((e-c:Nat):Int).tdiv 8=(((e-c)/8:Nat):Int):=rfl;have k4:IntKind.i64.wrap ((((e-c)/8:Nat):Int))=(((e-c)/8:Nat):Int):=by rw[wrap64 ω ω]
 have k5:IntKind.i64.wrap ((o:Int)+1)=((o+1:Nat):Int):=ZE;have L:E.size=d.size:=by rw[JO,B]
 have I:(HD.set j (Zj g E))[j]?=some (Zj g E):=QI a0;by_cases K:o-c<e-o;have T:decide (o-c<e-o)=true:=QY K;rw[Qe K]at r;simp only[go_sem,k1,k2,k3,k4,T];apply Qg f;refine ZT f rC (L▸IH _ j g E I c o R.lim ω ω ω ω ω) λd h s=>?_;obtain⟨rfl,t6,rfl⟩:=s;apply Qh f;simp only[go_sem,k5];have S:=Ib _ E c o R.lim true true (Qv _);refine⟨ω,_,?_,Sort.pdq Qt E c o R.lim true true,o+1,e,R.lim,decide ((e-c)/8<=o-c),J,t5++t6,by rw[S,L],ω,ω,ω,ω,r,rfl⟩;rw[J4,<-P,Gf v,WJ];exact QP;have T:decide (o-c<e-o)=false:=QN K;rw[Qd K]at r;simp only[go_sem,k1,k2,k3,k4,T];apply Qh f;simp only[go_sem,k5];refine ZT f rC (L▸IH _ j g E I (o+1) e R.lim ω ω ω ω ω) λd h s=>?_;obtain⟨rfl,t6,rfl⟩:=s;apply Qg f;have S:=Ib _ E (o+1) e R.lim true true (Qv _);refine⟨ω,_,?_,Sort.pdq Qt E (o+1) e R.lim true true,c,o,R.lim,decide ((e-c)/8<=e-o),J,t5++t6,by rw[S,L],ω,ω,ω,ω,r,rfl⟩;rw[J4,<-P,Gf v,WJ];exact QP;rw[C,Qe rfl]at r;have Y:=Qzb u c e R.pivot ω;have JO:=ux u c e R.pivot;rw[Qe Y]at r;apply Qg f;refine ZT f Qvo (B▸QyK F c e R.pivot ω ω z.1 z.2 ω) λd h s=>?_;obtain⟨rfl,rfl⟩:=s;apply Qg f;refine⟨ω,_,?_,(Sort.partitionEqual Qt u c e R.pivot).2,(Sort.partitionEqual Qt u c e R.pivot).1,e,R.lim,i,k,t5,ω,ω,ω,ω,ω,r,rfl⟩;rw[<-P,Gf v];exact QP
def Qju:∀n,Qjp n
 | 0=>λ_ _ _ _ _ _ _ _ _ _ _ _ c=>absurd c (Yy _)
 | n+1=>λh k g d e a b l j i f hz c=>Qze n (Qju n) e a b l j i f hz c
def Qzk(n)(h:n<1000000000):Sort.bitsLen n<=30:=(Sort.bitsLen_le_iff n 30).2 ω
def Qzl{h:List Ob}{lo g}{d:Array Int}(c:h[lo]?=some (Zj g d))(b:d.size<1000000000):
  QO prog 225 h [.ref lo g 0 d.size] (λk j=>k=.tup []/\∃t,j=h.set lo (Zj g (Sort.sort Qt d))++t):=by
 have m:=Qzk _ b;have f:IntKind.u64.wrap (d.size:Int)=d.size:=κ;refine Q9 func225 ntmps225 results225 λe w l a=>?_;have n:=Qb c;simp only[go_sem,f];apply QZ a Qgh (db d.size ω);apply Qg a;refine ZT a rC (Qju (d.size+1) h lo g d c 0 d.size (Sort.bitsLen d.size) (Z7 _) (Qv _) ω b ω) λd h i=>?_;obtain⟨rfl,t,rfl⟩:=i;apply Qg a;exact⟨t,rfl⟩
def cN(f:Nat->Int):Nat->List Int
 | 0=>[]
 | n+1=>if n≠0/\f n=f (n-1) then cN f n else cN f n++[f n]
def P7(f):∀n,(cN f n).length<=n
 | 0=>Qv _
 | n+1=>by have:=P7 f n;rw[cN];split;omega;simp;omega
def uC(f x):∀n,x∈cN f n↔∃i,i<n/\f i=x
 | 0=>by simp[cN]
 | n+1=>by have d:=uC f x n;rw[cN];split;rename_i c;rw[d];constructor;rintro⟨i,b,a⟩;exact⟨i,ω,a⟩;rintro⟨i,b,a⟩;by_cases e:i=n;subst e;exact⟨i-1,ω,by rw[<-c.2];exact a⟩;exact⟨i,ω,a⟩;rw[Q3,d];simp only[Xj];constructor;rintro (⟨i,b,a⟩|h);exact⟨i,ω,a⟩;exact⟨n,ω,h.symm⟩;rintro⟨i,b,a⟩;by_cases e:i=n;subst e;exact Or.inr a.symm;exact Or.inl ⟨i,ω,a⟩
def Ng(f):∀n,(cN f n).length=n->∀i,i<n->(cN f n).getD i 0=f i
 | 0,_,i,a=>absurd a (Yy _)
 | n+1,h,i,a=>by have b:=P7 f n;rw[cN]at h ⊢;split at h;omega;rename_i c;rw[Qd c];simp at h;by_cases e:i=n;subst e;rw[QU,Ks ω,h,YO];rfl;rw[QU,JX ω,<-QU];exact Ng f n h i ω
def Qzm(g)(d:Array Int)(i n x)(c:d.size=n)(e:i<n):
  (⟨.arr,g,1,n,λk=>bif k==i then [.raw (.int .u64 x)] else [.raw (.int .u64 d[k]!)]⟩:Ob)=Zj g (d.setIfInBounds i x):=by
 subst c;unfold Zj;congr 1;simp;funext k;unfold CL uI;by_cases a:k=i;subst a;simp[e];have f:(k==i)=false:=beq_eq_false_iff_ne.mpr a;rw[f];by_cases b:k<d.size;simp[b,Zb a];simp[b]
def Qzn{h:List Ob}{lo g}{d:Array Int}(l:h[lo]?=some (Zj g d))(hz:d.size<1000000000):
  QO prog 226 h [.ref lo g 0 d.size] (λdd h'=>dd=.ref lo g 0 (cN (λi=>d[i]!) d.size).length/\∃n,h'=h.set lo ⟨.arr,g,1,d.size,n⟩/\(∀i,i<(cN (λi=>d[i]!) d.size).length->n i=[uI ((cN (λi=>d[i]!) d.size).getD i 0)])/\∀i,∃x,n i=[uI x]):=by
 by_cases c2:d.size<2;have F:decide ((d.size:Int)<2)=true:=QY ω;have f:(cN (λi=>d[i]!) d.size).length=d.size:=by have:d.size=0\/d.size=1:=ω;rcases this with h0|h0<;>rw[h0]<;>rfl
 rw[f];refine Q9 func226 ntmps226 results226 λq w pl a=>?_;have S:=Qb l;simp only[go_sem,F];exact⟨CL d,(xj l).symm,λi b=>by rw[Ng _ _ f i b];rfl,λi=>⟨_,rfl⟩⟩;have F:decide ((d.size:Int)<2)=false:=QN ω;refine Q9 func226 ntmps226 results226 λq w pl a=>?_;have S:=Qb l;simp only[go_sem,F];refine ZY (λk y=>k+1<=d.size/\(cN (λi=>d[i]!) (k+1)).length=k+1/\y=⟨[(0,.ref lo g 0 d.size),(3,Qa (k+1:Nat))],h⟩) d.size (s0:=⟨[(0,.ref lo g 0 d.size),(3,Qa (0+1:Nat))],h⟩) QP ⟨ω,rfl,rfl⟩ ?_;rintro k _ hk ⟨Qf,o,rfl⟩;by_cases I:k+1<d.size;have E:decide (k+1<d.size)=true:=QY I;have v1:IntKind.i64.wrap (((k+1:Nat):Int)-1)=((k:Nat):Int):=ZE;have v2:IntKind.i64.wrap (((k+1:Nat):Int)+1)=((k+1+1:Nat):Int):=ZE;have p0:k<d.size:=ω;apply Qh a;simp only[go_sem,E];apply Qy a Eq;simp only[go_sem,l,v1,I,p0];by_cases zT:d[k+1]! = d[k]!;have K:(d[k+1]! == d[k]!)=true:=beq_iff_eq.mpr zT;have T:(cN (λi=>d[i]!) (k+1+1)).length=k+1:=by rw[cN,Qe ⟨ω,by simpa using zT⟩,o]
 have q0:k+1<=d.size:=ω;generalize hN:d.size-(k+1)=N;have v3:((d.size:Int)-((k+1:Nat):Int)).toNat=N:=ω;simp only[go_sem,K,q0,l,v3];refine ZY (λm y=>∃(d1:Array Int),d1.size=d.size/\m+1<=N/\(cN (λi=>d[i]!) (k+1+(m+1))).length<=k+1+m/\(∀i,i<(cN (λi=>d[i]!) (k+1+(m+1))).length->d1[i]! = (cN (λi=>d[i]!) (k+1+(m+1))).getD i 0)/\(∀j,(cN (λi=>d[i]!) (k+1+(m+1))).length<=j->d1[j]! = d[j]!)/\y=⟨[(0,.ref lo g 0 d.size),(3,Qa (cN (λi=>d[i]!) (k+1+(m+1))).length),(4,.ref lo g (k+1) N),(5,Qa (m+1:Nat))],h.set lo (Zj g d1)⟩) N (s0:=⟨[(0,.ref lo g 0 d.size),(3,Qa (cN (λi=>d[i]!) (k+1+(0+1))).length),(4,.ref lo g (k+1) N),(5,Qa (0+1:Nat))],h.set lo (Zj g d)⟩) ?_ ⟨d,rfl,ω,Nat.le_of_eq T,λi b=>?_,λj P=>rfl,rfl⟩ ?_;rw[xj l,T];exact QP;rw[cN,Qe ⟨ω,by simpa using zT⟩]at b ⊢;exact(Ng _ _ o i ω).symm;rintro m _ hm ⟨d1,c,a0,PG,J,u,rfl⟩;have p:=wc (g:=g) (d:=d1) S;have t:cN (λi=>d[i]!) (k+1+(m+1+1))=if d[k+1+(m+1)]! = d[k+1+m]! then cN (λi=>d[i]!) (k+1+(m+1)) else cN (λi=>d[i]!) (k+1+(m+1))++[d[k+1+(m+1)]!]:=by rw[show k+1+(m+1+1)=(k+1+(m+1))+1 by omega,cN];simp
 generalize Q:cN (λi=>d[i]!) (k+1+(m+1))=C at *;generalize B:h.set lo (Zj g d1)=H at p;have Ef:=Qb p;by_cases s:m+1<N;have em:decide (m+1<N)=true:=QY s;have O:=u (k+1+(m+1)) ω;have r2:=u (k+1+m) ω;have M:k+1+(m+1)<d.size:=ω;have Z:k+1+m<d.size:=ω;have Y:m<N:=ω;have V:IntKind.i64.wrap (((m+1:Nat):Int)-1)=(m:Int):=ZE;have L:IntKind.i64.wrap (((m+1:Nat):Int)+1)=((m+1+1:Nat):Int):=ZE;have U:IntKind.i64.wrap ((C.length:Int)+1)=((C.length+1:Nat):Int):=ZE;apply Qh a;simp only[go_sem,em];apply Qy a Eq;simp only[go_sem,p,c,V,s,M,Z,Y,O,r2];by_cases r:d[k+1+(m+1)]! = d[k+1+m]!;have z:(d[k+1+(m+1)]! != d[k+1+m]!)=false:=by rw[r];exact bne_self_eq_false _
 rw[Qe r]at t;simp only[go_sem,z,L];rw[t];refine⟨ω,_,?_,d1,c,ω,ω,J,u,rfl⟩;rw[<-B];exact QP;have z:(d[k+1+(m+1)]! != d[k+1+m]!)=true:=bne_iff_ne.mpr r;have v:C.length<d.size:=ω;rw[Qd r]at t;simp only[go_sem,z,L,U,p,c,M,s,v,O];rw[Qzm g d1 _ _ _ c v,t];refine⟨ω,_,?_,d1.setIfInBounds C.length d[k+1+(m+1)]!,by simp;exact c,ω,ξ,λi b=>?_,λj P=>?_,rfl⟩;rw[<-B,J4,Zn,K9];exact QP;simp only[Zn,K9]at b;by_cases e:i=C.length;subst e;rw[QU,Ks (Qv _),YO];simp[c,v];rw[QU,JX ω,<-QU,<-J i ω];simp[Zb e,N7,yw];simp only[Zn,K9]at P;rw[<-u j ω];simp[show C.length≠j by omega,N7,yw];have em:decide (m+1<N)=false:=QN s;have W:k+1+(m+1)=d.size:=ω;rw[W]at Q;rw[Q];have R:C.length<=d.size:=ω;have g2:((d.size:Int)-(C.length:Int)).toNat=d.size-C.length:=ω;apply Qh a;simp only[go_sem,em];apply Qh a;simp only[go_sem,p,c,R,g2];refine rQ Ch a rfl p rfl rfl rfl rfl (by dsimp only[Zj];omega) rfl rfl rfl rfl ?_;apply Qh a;simp only[go_sem,QI Ef,c,R];refine⟨σ,zx C.length (d.size-C.length) [D.raw (.int .u64 0)] (CL d1),?_,λi b=>?_,λi=>?_⟩;rw[<-B,J4];rw[rO b];show [uI d1[i]!]=_;rw[J i b];rfl;unfold zx;cases Nat.ble C.length i&&Nat.blt i (C.length+(d.size-C.length));exact⟨d1[i]!,rfl⟩;exact⟨0,rfl⟩;have K:(d[k+1]! == d[k]!)=false:=beq_eq_false_iff_ne.mpr zT;simp only[go_sem,K,v2];refine⟨ω,_,?_,ω,?_,rfl⟩;exact QP;rw[cN,Qd (zC zT)];simp[o];have E:decide (k+1<d.size)=false:=QN I;obtain JU:k+1=d.size:=ω;rw[JU]at o;apply Qh a;simp only[go_sem,E];apply Qg a;rw[o];exact⟨rfl,CL d,(xj l).symm,λi b=>by rw[Ng _ _ o i b];rfl,λi=>⟨_,rfl⟩⟩
def Qjv:IntKind.i64.wrap 1=1:=π
def Qjw:IntKind.i64.wrap 0=0:=π
def Qjx(F:List Ob)(f a:Nat)(b:List D)(g:Nc->Bool):Prop:=∀(h:List Ob) (c:Nc),VZ F h->Zl prog f h (Jh a b [Ed c]) (λd=>d=QV (g c))
def Nj(g:Nc->Bool)(l:List Nc):Int:=match l.findIdx? g with
 | some i=>i
 | none=>-1
def Qzp{g}{l:List Nc}{k}(a:k<l.length)(h:∀i,i<k->g (l.getD i default)=false)(c:g (l.getD k default)=true):Nj g l=k:=by
 have e:l.findIdx? g=some k:=by rw[Di];refine⟨a,by simpa[QU,a] using c,λi b=>?_⟩;have:=h i b;simpa[QU,show i<l.length by omega] using this
 rw[Nj,e]
def Qzq{g}{l:List Nc}(h:∀i,i<l.length->g (l.getD i default)=false):Nj g l=-1:=by
 have e:l.findIdx? g=none:=by rw[EV];intro x hx;obtain⟨i,a,rfl⟩:=j8 hx;have:=h i a;simpa[QU,a] using this
 rw[Nj,e]
def Qzr(g)(l:List Nc):decide (0<=Nj g l)=l.any g:=by
 unfold Nj;cases h:l.findIdx? g with
 | some i=>obtain⟨b,a,_⟩:=Di.1 h;have e:l.any g=true:=j6.2 ⟨_,XK b,a⟩;rw[e];simp
 | none=>
  have:=EV.1 h;have e:l.any g=false:=by rw[Of];intro x hx;simp[this x hx]
  rw[e];decide
section
variable (h:List Ob)(l:List Nc)(hlen:l.length<1048576)
include hlen
theorem Qzs(b:D)(f j:Nat)(p:List D)(t:Qm prog f)(y:JP b=some (f,j,p))(e:Nc->Bool)(r:Qjx (h.map Ob.ro) f j p e):
  Zl prog 224 h [K0 l,b] (λd=>d=Qa (Nj e l)):=by
 refine ZN func224 ntmps224 results224 λq w B F v C c=>?_;simp only[go_sem];refine ZY (λk s=>(∀i,i<k->e (l.getD i default)=false)/\s=⟨[(0,K0 l),(1,b),(7,Qa l.length),(8,Qa k)],F⟩) l.length QP ⟨λi o=>absurd o ω,rfl⟩ ?_;rintro k s n ⟨g,rfl⟩;apply Qg c;have z:=JJ (show k<4611686018427387904 from ω);first|refine WN n (λa=>?_) (λa=>?_)|refine WO n (λa=>?_) (λa=>?_)
 simp only[go_sem,a];refine X4 c t y ?_ (r F (l.getD k default) (by rw[<-v];exact VZ.refl F)) rfl λd2 u=>?_;simp only[go_sem];exact DV _;subst u;apply Qh c;cases m:e (l.getD k default);simp only[go_sem];refine⟨a,_,Qs.frame (fr':=[(0,K0 l),(1,b),(7,Qa l.length),(8,Qa (k+1:Nat))]) (by simp only[go_sem,z]),λi o=>?_,rfl⟩;by_cases x:i<k;exact g i x;have:i=k:=ω;subst this;exact m;rw[Qzp a g m];simp only[go_sem];exact⟨[],(JN F).symm⟩;have a:k=l.length:=ω;subst a;simp only[go_sem,BK];rw[Qzq g];apply Qg c;exact⟨[],(JN F).symm⟩
theorem Qzt(a:D)(f b:Nat)(e:List D)(k:Qm prog f)(q:JP a=some (f,b,e))(c:Nc->Bool)(j:Qjx (h.map Ob.ro) f b e c):
  Zl prog 172 h [K0 l,a] (λd=>d=QV (l.any c)):=by
 rw[<-Qzr];refine ZN func172 ntmps172 results172 λi w r F o s g=>?_;simp only[go_sem];refine X4 g Qu3 rfl ?_ (Qzs F l hlen a f b e k q c (λp n hx=>?_)) rfl λd2 m=>?_;simp only[go_sem];exact Mv a;rw[o,r7]at hx;exact j p n hx;subst m;apply Qg g;exact⟨[],(JN F).symm⟩
end
def Qzu(h)(c:Nc):Zl prog 173 h [Ed c] (λd=>d=QV (c.of==0)):=by refine ZN func173 ntmps173 results173 λb w e F f g a=>?_;simp only[go_sem,Qj];apply QZ a Pn (tE c.a c.d c.b);apply Kh a;refine⟨_,rfl,?_⟩;simp only[bne,Bool.not_not];rfl
def P8(l:List Nc):Bool:=l.any λc=>c.of==0
def Ya(t:Int)(l:List Nc):Int:=if t<1\/65536<t then 1 else if P8 l=true then 21 else 0
def lJ(t)(l:List Nc)(f:l.length<1048576):QM prog 135 [Qa t,K0 l] (QR (Qa (Ya t l))):=by
 have a:=Qzt [] l f (.raw (.func (.func 173) ⟨[]⟩ ⟨[]⟩)) 173 0 [] QuN rfl (λc=>c.of==0) (λi c _=>Qzu i c);rw[show (l.any λc=>c.of==0)=P8 l from rfl]at a;refine Q1 0 func135 ntmps135 results135 λe w b=>?_;simp only[go_sem]
 repeat' (first|((first|apply zg|apply zj|apply zk|apply VX|apply zl|apply zn|apply zo|apply ze)<;>intro h<;>(try simp only[go_sem,Go.undef]))|(refine And.intro η ?_;try simp only[go_sem,Go.undef])|(refine X4 b QuM rfl ?_ (a) rfl ?_;(· simp only[go_sem]);intro d g;subst g;apply Qh b;simp only[go_sem])|fail)
 all_goals (congr 2;unfold Ya;simp_all;try omega)
end Go.Fg.X
namespace Go.Fg.X
open Go.Proofs Go.Fg
open Go.RowKit (Below)
open Go.Proofs.Tryz
def Zo.nil{Z a w}:Zo Z a [] [] w:=⟨rfl,λl f b q d c g=>by simp at c,λl o e=>by simp at e,λl o b q e=>by simp at e⟩
def Qzv{P f c R}(s:D)(J:s.upto 0=true)
  (M:∀d r,R d r->∃g j n a,r=[⟨.arr,g,j,n,a⟩]/\(∀i,i<n->(a i).all D.Yl=true)/\JQ 6 (D.fz 0 g n j a d) s) (h:QM P f c R):QM P f c (QR s):=by
 intro Z m w F E U C B K N;have Y:F=[]:=by have:=B.len;simpa using this
 subst Y;refine(h Z m w [] E U C B K N).mono λe w' L=>?_;obtain⟨v,d,r,t,rfl,Q,z,O,y,S⟩:=L;obtain⟨g,j,n,a,rfl,W,u⟩:=M _ _ Q;have k:t.length=1:=by have:=z.len;simpa using this
 obtain⟨p,rfl⟩:∃p,t=[p]:=by
  match t,k with
  | [p],_=>exact⟨p,rfl⟩
 have CA:=O.fz (l:=0) (o:=⟨.arr,g,j,n,a⟩) (p:=p) rfl rfl rfl (λb q e=>by
  subst e;refine⟨C b ?_,λI q' V=>?_,(z.at_ 0 _ b q rfl rfl).2.cells rfl⟩;rcases xI b w.heap.size with Qb|Xz;exact absurd rfl ((y.Kz b (λi q e=>by simp at e) Qb).1 0 q);exact Xz;have:=WA V;simp at this;exact this) W (h':=[Ob.gone ⟨.arr,g,j,n,a⟩]) (λI H QE e=>by
  have:=KL e;simp at this;exact absurd this QE)
 have T:=(vL 6 u CA).take J;exact⟨v,_,[],[],rfl,⟨rfl,rfl⟩,Zo.nil,T,⟨λb x Qb=>⟨x,(y.Kz b x Qb).2⟩,λl o p e=>by simp at e,λl o H b q e=>by simp at e⟩,S⟩
def Qzw{P f j R}(r:D)(C:r.upto 0=true)
  (T:∀d u,R d u->JQ 6 d r\/∃c g m n a,u[c]?=some ⟨.arr,g,m,n,a⟩/\(∀i,i<n->(a i).all D.Yl=true)/\JQ 6 (D.fz c g n m a d) r) (h:QM P f j R):QM P f j (QR r):=by
 intro Z s w N M Y J I Q U;have Zk:N=[]:=by have:=I.len;simpa using this
 subst Zk;refine(h Z s w [] M Y J I Q U).mono λe L S=>?_;obtain⟨v,d,u,K,rfl,V,x,F,H,W⟩:=S;suffices z:QF Z [] [] L r v by exact⟨v,_,[],[],rfl,⟨rfl,rfl⟩,Zo.nil,z,⟨λb E Qb=>⟨E,(H.Kz b E Qb).2⟩,λl o p e=>by simp at e,λl o B b q e=>by simp at e⟩,W⟩
 rcases T _ _ V with k|⟨c,g,m,n,a,y,Zw,k⟩;exact(vL 6 k F).take C;have Qb:c<K.length:=by rw[x.len];exact(Xh.1 y).1
 obtain⟨p,t⟩:∃p,K[c]?=some p:=⟨_,QH Qb⟩;have CA:=F.fz (l:=c) (o:=⟨.arr,g,m,n,a⟩) (p:=p) y t rfl (λb q e=>by
  subst e;refine⟨J b ?_,λO q' e'=>?_,(x.at_ c _ b q y t).2.cells rfl⟩;rcases xI b w.heap.size with Qb|Xz;exact absurd t ((H.Kz b (λi q e=>by simp at e) Qb).1 c q);exact Xz;exact x.inj _ _ _ _ _ e' t) Zw (h':=u.set c (Ob.gone ⟨.arr,g,m,n,a⟩)) (λO B QE e=>by
  exact⟨B,by rw[JT (Zb QE)];exact e,rfl,rfl,rfl⟩)
 exact(vL 6 k CA).take C
end Go.Fg.X
namespace Go.Fg
def Kd.Qjz(k:Kd):k.LU k:=by cases k<;>simp[Kd.LU,Kd.ty]
def QjA(o):OM o o:=⟨rfl,rfl,rfl,Kd.Qjz _,λ_ _=>rfl⟩
def QjB:∀h:List Ob,B3 h h
 | []=>trivial
 | o::r=>⟨QjA o,QjB r⟩
def QjC:∀{h:List Ob} {l:Nat} {o:Ob} (a:Nat->List D),h[l]?=some o->(∀i,i<o.n->o.row i=a i)->B3 h (h.set l ⟨o.kd,o.gen,o.sz,o.n,a⟩)
 | [],l,o,a,e,_=>by simp at e
 | x::r,0,o,a,e,b=>by simp only[List.getElem?_cons_zero,Q7]at e;subst e;exact⟨⟨rfl,rfl,rfl,Kd.Qjz _,λi c=>(b i c).symm⟩,QjB r⟩
 | x::r,l+1,o,a,e,b=>⟨QjA x,QjC (h:=r) a (zC e) b⟩
def Qs.rows{c b}{h:List Ob}(l){o:Ob}(a)(d:h[l]?=some o)(e:∀i,i<o.n->o.row i=a i):Qs c ⟨b,h⟩ ⟨b,h.set l ⟨o.kd,o.gen,o.sz,o.n,a⟩⟩:=(Wk.Hw (QjC a d e)).up
end Go.Fg
namespace Go.Fg.X
open Go.Proofs Go.Fg
open Go.Proofs.Tryz
def XD(c:Nc):Bool:=c.of==3 || c.of==4
def XE(l:List Nc):List Int:=(l.filter XD).map λc=>(c.d:Int)
def Qzx(l:List Nc)(i)(h:i<l.length):XE (l.take (i+1))=if XD (l.getD i default)=true then XE (l.take i)++[((l.getD i default).d:Int)] else XE (l.take i):=by unfold XE;rw[zQ,QH h];simp only[BM,EU,QU,QH h,Va,zP];by_cases a:XD l[i]=true;rw[Qe a,Le a];rfl;rw[Qd a,Ld a];simp
def uE(l:List Nc)(i):(XE (l.take i)).length<=i:=by have:=Yg XD (l.take i);simp only[XE,KJ];simp at this;omega
def kQ(l:List Nc):Array Int:=Sort.sort Qt (XE l).toArray
def WV(l:List Nc):List Int:=cN (λi=>(kQ l)[i]!) (kQ l).size
def uF(l:List Nc):(kQ l).size=(XE l).length:=by unfold kQ Sort.sort;rw[Ib _ _ _ _ _ _ _ (Qv _)];rfl
def Qzy(l:List Nc):(kQ l).toList.Perm (XE l):=by
 have h:=(Sort.sort_sorts Qt Qjo (XE l).toArray).1.2.2;have a:((Sort.sort Qt (XE l).toArray).extract 0 (XE l).toArray.size).toList=(kQ l).toList:=by have:=uF l;unfold kQ at this ⊢;rw[show (XE l).toArray.size=(Sort.sort Qt (XE l).toArray).size from this.symm];simp
 rw[a]at h;simpa using h
def uG(l x):x∈WV l↔∃c,c∈l/\XD c=true/\(c.d:Int)=x:=by
 unfold WV;rw[uC];have d:(∃i,i<(kQ l).size/\(kQ l)[i]! = x)↔x∈(kQ l).toList:=by
  rw[Lh];constructor;rintro⟨i,a,e⟩;exact⟨i,by simpa using a,by rw[<-e,N7,yw,jY a];simp⟩;rintro⟨i,a,e⟩;have b:i<(kQ l).size:=by simpa using a
  exact⟨i,b,by rw[<-e,N7,yw,jY b];simp⟩
 rw[d,(Qzy l).mem_iff];simp[XE,and_assoc]
@[go_sem] def y9(K:List Int):D:=.imm 1 K.length λi=>[uI (K.getD i 0)]
def Qzz{M:List Int}{a}(c:Wb (λn:Int=>[uI n]) M 0 a):∀i,i<M.length->a i=CL M.toArray i:=λi b=>by have:=c.at_ i b;rw[JG]at this;rw[this];unfold CL;simp[QU,b]
def QzA(l:List Nc)(S:l.length<1048576):QM prog 175 [K0 l] (QR (y9 (WV l))):=by
 refine Qzw (y9 (WV l)) rfl (?_:∀d F,(∃g n b,d=.ref 0 g 0 (WV l).length/\F=[⟨.arr,g,1,n,b⟩]/\(∀i,i<n->(b i).all D.Yl=true)/\(WV l).length<=n/\∀i,i<(WV l).length->b i=[uI ((WV l).getD i 0)])->_) ?_;rintro d F ⟨g,n,b,rfl,rfl,B,O,Z3⟩;right;refine⟨0,g,1,n,b,rfl,B,?_⟩;have Q:D.fz 0 g n 1 b (.ref 0 g 0 (WV l).length)=.imm 1 (WV l).length (rowFrom 0 b):=by simp[D.fz,Fz,O]
 rw[Q];simp only[y9];rw[Tt];refine⟨rfl,rfl,λi k=>?_⟩;rw[HC,JG,Z3 i k];exact vK (zw _) _;refine Q1 1 func175 ntmps175 results175 λL w f=>?_;simp only[go_sem];refine ZY (λi s=>∃g b,Wb (λn:Int=>[uI n]) (XE (l.take i)) 0 b/\s=⟨[(3,.ref 0 g 0 (XE (l.take i)).length),(7,K0 l),(8,Qa l.length),(9,Qa i)],[⟨.arr,g,1,(XE (l.take i)).length,b⟩]⟩) l.length
  (s0:=⟨[(3,.ref 0 0 0 0),(7,K0 l),(8,Qa l.length),(9,Qa 0)],[⟨.arr,0,1,0,λ_=>[]⟩]⟩)
  (Qs.trans (Qs.vr 3 1 (λi=>[]) rfl) QP) ⟨0,λ_=>[],.nil,rfl⟩ ?_
 rintro i s k ⟨g,b,o,rfl⟩;have B:=uE l i;have C:=JJ (show i<4611686018427387904 from ω);apply Qg f;first|refine WN k (λq=>?_) (λq=>?_)|refine WO k (λq=>?_) (λq=>?_)
 obtain⟨M,I⟩:=Zc (XE (l.take i));obtain⟨e,H⟩:=Zc (l.getD i default);have c:=Qzx l i q;rw[<-I,<-H]at c;rw[<-I]at o B ⊢;have J:M.length<=4294967295:=ω;have u:Wb (λn:Int=>[uI n]) (M++[(e.d:Int)]) 0 (J8 M.length 0 b λ_=>[uI e.d]):=o.app (e.d:Int) rfl;simp only[go_sem,q,<-H];apply QZ f FE (Ux e.a e.d e.b);apply Qg f;cases z:Ku e.a e.d e.b==3;cases r:Ku e.a e.d e.b==4;have f:XD e=false:=by show (Ku e.a e.d e.b==3 || Ku e.a e.d e.b==4)=false;rw[z,r];rfl
 rw[f,Qd π]at c;simp only[go_sem,r];repeat (refine And.intro ω ?_)
 refine⟨_,Qs.to 1 ⟨?_,by simp only[go_sem],?_,?_⟩,g,b,by rw[c];exact o,rfl⟩;simp only[go_sem,C,c];exact⟨λj p=>o.upto (λa=>rfl) j (by have m:=p;simp only[c]at m;simpa using m),trivial⟩;simp only[go_sem,c];have f:XD e=true:=by show (Ku e.a e.d e.b==3 || Ku e.a e.d e.b==4)=true;rw[z,r];rfl
 rw[f,Qe rfl]at c;simp only[go_sem,r,J];repeat (refine And.intro ω ?_)
 refine⟨_,Qs.to 1 ⟨?_,by simp only[go_sem],?_,?_⟩,g+1,_,by rw[c];exact u,rfl⟩;simp only[go_sem,C,c,Zn,K9];exact⟨λj p=>u.upto (λa=>rfl) j (by have m:=p;simp only[c]at m;simpa using m),trivial⟩;simp only[go_sem,c,Zn,K9];have f:XD e=true:=by show (Ku e.a e.d e.b==3 || Ku e.a e.d e.b==4)=true;rw[z];rfl
 rw[f,Qe rfl]at c;simp only[go_sem,Go.undef,J];repeat (refine And.intro ω ?_)
 refine⟨_,Qs.to 1 ⟨?_,by simp only[go_sem],?_,?_⟩,g+1,_,by rw[c];exact u,rfl⟩;simp only[go_sem,C,c,Zn,K9];exact⟨λj p=>u.upto (λa=>rfl) j (by have m:=p;simp only[c]at m;simpa using m),trivial⟩;simp only[go_sem,c,Zn,K9];have P:i=l.length:=ω;subst P;rw[Wo]at o ⊢;have R:(XE l).toArray.size=(XE l).length:=rfl;have T:(XE l).length<=l.length:=by have:=uE l l.length;rw[Wo]at this;exact this
 have v:=uF l;have U:=P7 (λi=>(kQ l)[i]!) (kQ l).size;apply Qg f;refine DM (Qs.rows 0 (CL (XE l).toArray) (by exact rfl) ?_) ?_;intro i k;dsimp only at k ⊢;exact Qzz o i k;simp only[go_sem];refine z6 f Qu4 rfl ?_ (Qzl (h:=[Zj g (XE l).toArray]) (lo:=0) (g:=g) (d:=(XE l).toArray) rfl (by rw[R];omega)) rfl λd h y=>?_;simp only[go_sem,G0];obtain⟨rfl,t,rfl⟩:=y;apply Qh f;simp only[go_sem,G0];refine ZT f Qu5 (v▸Qzn (h:=[Zj g (XE l).toArray].set 0 (Zj g (kQ l))++t) (lo:=0) (g:=g) (d:=kQ l) rfl ω) λd h y=>?_;obtain⟨rfl,N,rfl,E,K⟩:=y;apply Qg f;refine⟨λi k=>?_,g,(XE l).length,N,?_,rfl,λi k=>?_,?_,?_⟩;obtain⟨x,hx⟩:=K i;rw[hx];rfl;unfold WV;rw[v];obtain⟨x,hx⟩:=K i;rw[hx];rfl;unfold WV;omega;intro i k;have:=E i (by unfold WV at k;rw[v]at k;exact k);rw[this];unfold WV;rw[v];rfl
def QzC(F:List Ob)(f a:Nat)(b:List D)(K:List Int)(g:Int->Bool):Prop:=∀(h:List Ob) (x:Int),x∈K->VZ F h->Zl prog f h (Jh a b [uI x]) (λd=>d=QV (g x))
def xl(g:Int->Bool)(l:List Int):Int:=match l.findIdx? g with
 | some i=>i
 | none=>-1
def QjD{g}{l:List Int}{k}(a:k<l.length)(h:∀i,i<k->g (l.getD i 0)=false)(c:g (l.getD k 0)=true):xl g l=k:=by
 have e:l.findIdx? g=some k:=by rw[Di];refine⟨a,by simpa[QU,a] using c,λi b=>?_⟩;have:=h i b;simpa[QU,show i<l.length by omega] using this
 rw[xl,e]
def QjE{g}{l:List Int}(h:∀i,i<l.length->g (l.getD i 0)=false):xl g l=-1:=by
 have e:l.findIdx? g=none:=by rw[EV];intro x hx;obtain⟨i,a,rfl⟩:=j8 hx;have:=h i a;simpa[QU,a] using this
 rw[xl,e]
def QjF(g)(l:List Int):decide (0<=xl g l)=l.any g:=by
 unfold xl;cases h:l.findIdx? g with
 | some i=>obtain⟨b,a,_⟩:=Di.1 h;have e:l.any g=true:=j6.2 ⟨_,XK b,a⟩;rw[e];simp
 | none=>
  have:=EV.1 h;have e:l.any g=false:=by rw[Of];intro x hx;simp[this x hx]
  rw[e];decide
def QzD{g}{l:List Int}(h:0<=xl g l):(xl g l).toNat<l.length:=by
 unfold xl at h ⊢;cases e:l.findIdx? g with
 | some i=>obtain⟨a,_⟩:=Di.1 e;simpa using a
 | none=>rw[e]at h;simp at h
def uH{l:List Int}{i}(h:i<l.length):l.getD i 0∈l:=by rw[QU,QH h];exact XK h
section
variable (h:List Ob)(K:List Int)(hlen:K.length<1048576)
include hlen
theorem QzE(b:D)(f j:Nat)(o:List D)(r:Qm prog f)(x:JP b=some (f,j,o))(e:Int->Bool)(q:QzC (h.map Ob.ro) f j o K e):
  Zl prog 176 h [y9 K,b] (λd=>d=Qa (xl e K)):=by
 refine ZN func176 ntmps176 results176 λp w z F u B c=>?_;simp only[go_sem];refine ZY (λk s=>(∀i,i<k->e (K.getD i 0)=false)/\s=⟨[(0,y9 K),(1,b),(7,Qa K.length),(8,Qa k)],F⟩) K.length QP ⟨λi n=>absurd n ω,rfl⟩ ?_;rintro k s m ⟨g,rfl⟩;apply Qg c;have y:=JJ (show k<4611686018427387904 from ω);first|refine WN m (λa=>?_) (λa=>?_)|refine WO m (λa=>?_) (λa=>?_)
 simp only[go_sem,a];refine X4 c r x ?_ (q F (K.getD k 0) (uH a) (by rw[<-u];exact VZ.refl F)) rfl λd2 t=>?_;simp only[go_sem];exact DV _;subst t;apply Qh c;cases l:e (K.getD k 0);simp only[go_sem];refine⟨a,_,Qs.frame (fr':=[(0,y9 K),(1,b),(7,Qa K.length),(8,Qa (k+1:Nat))]) (by simp only[go_sem,y]),λi n=>?_,rfl⟩;by_cases v:i<k;exact g i v;have:i=k:=ω;subst this;exact l;rw[QjD a g l];simp only[go_sem];exact⟨[],(JN F).symm⟩;have a:k=K.length:=ω;subst a;simp only[go_sem,BK];rw[QjE g];apply Qg c;exact⟨[],(JN F).symm⟩
end
def QzF(l:List Nc):(WV l).length<=l.length:=by have c:=P7 (λi=>(kQ l)[i]!) (kQ l).size;have b:=uF l;have a:=uE l l.length;rw[Wo]at a;unfold WV;omega
def QjG{l x}(b:x∈WV l):∃n:Nat,x=(n:Int)/\0<n/\n<=1048576:=by
 obtain⟨c,e,a,d⟩:=(uG l x).1 b;refine⟨c.d,d.symm,?_⟩;unfold XD Nc.of Ku at a;simp only[BJ,qZ]at a
 repeat' split at a
 all_goals first|omega|(exfalso;revert a;decide)|skip
def Ei(l:List Nc)(k:Nat):Nat:=je (λc=>Jg c.a c.d c.b k) l
def zD(t:Nat)(l:List Nc)(x:Int):Bool:=decide (65536*x.toNat<Ei l x.toNat*t)
def QjH{l:List Nc}(f:l.length<1048576)(a:∀c∈l,c.Lt){k}(i:k<=1048576):Ei l k<2^111:=by
 have m:=PT (g:=λc=>Jg c.a c.d c.b k) (M:=2^60) (λc h=>by show Jg c.a c.d c.b k<=_;unfold Jg;split;decide;rename_i b;obtain⟨e,d,p⟩:=Uy b;have o:c.a*min k c.d<=4294967295*1048576:=Xk e ω;have n:c.b*(k-min k c.d)<=4294967295*1048576:=Xk d ω;omega) (l:=l) (s:=0) a
 have j:=V6 (2^60) (show l.length<=1048576 from ω);unfold Ei je;omega
def No(t:Nat)(l:List Nc):Bool:=decide (65536<je (λc=>c.b) l*t)
def Ic(t:Nat)(l:List Nc):Bool:=(WV l).any (zD t l) || No t l
def uJ(t:Nat)(l:List Nc):D:=if (WV l).any (zD t l)=true then .tup [uI ((WV l).getD (xl (zD t l) (WV l)).toNat 0),QV true] else .tup [u64 0,QV (No t l)]
def QjI{l:List Nc}(b:l.length<1048576)(a:∀c∈l,c.Lt):je (λc=>c.b) l<2^111:=by have e:=PT (g:=λc=>c.b) (M:=2^64) (λc h=>by have:=h.2.2;omega) (l:=l) (s:=0) a;have d:=V6 (2^64) (show l.length<=1048576 from ω);unfold je;omega
def QzG(h:List Ob)(t:Nat)(l:List Nc)(f:l.length<1048576)(g:∀c∈l,c.Lt)(m:t<=65536)(j i:Nat)(e:(h.map Ob.ro)[j]?=some ⟨.Wp,0,1,1,λ_=>[K0 l]⟩)(b:(h.map Ob.ro)[i]?=some ⟨.Wp,0,1,1,λ_=>[Qa t]⟩)(n:Nat)(p:n<=1048576):
  Zl prog 177 h [uI n,.ptr j 0 0 0,.ptr i 0 0 0] (λd=>d=QV (zD t l n)):=by
 have o:QM prog 179 [K0 l,u64 n] (QR (num (Ei l n))):=QxZ l n ω f g;have q:=QiA (Ei l n) t n (QjH f g p) m ω;refine ZN func177 ntmps177 results177 λk w u F r v a=>?_;rw[<-r]at e b;have x:=Qb e;have s:=Qb b;simp only[go_sem];apply Qy a [0,1,3,4,1002,1005,6];simp only[go_sem,e,b];apply ZP a QuR o;apply ZB a;apply ZP a Qgl q;apply ZB a;exact⟨[],(JN F).symm,rfl⟩
def QzH(t:Nat)(l:List Nc)(e:l.length<1048576)(g:∀c∈l,c.Lt)(f:Ya t l=0):QM prog 136 [Qa t,K0 l] (QR (uJ t l)):=by
 have o:t<=65536:=by unfold Ya at f;split at f;cases f;omega
 have y:=QiA (je (λc=>c.b) l) t 1 (QjI e g) o π;have v:(Ya t l != 0)=false:=by rw[f];rfl
 have F:=QzF l;refine Q1 0 func136 ntmps136 results136 λq w a=>?_;simp only[go_sem];apply QZ a gl (lJ t l e);apply Qh a;simp only[go_sem,v];refine Xn a [] QuO rfl ?_ (QzA l e) rfl λd h i=>?_;simp only[go_sem];obtain⟨rfl,rfl⟩:=i;simp only[go_sem];apply Qg a;have u:=QzE [⟨.one,0,1,1,λ_=>[Qa t]⟩,⟨.one,0,1,1,λ_=>[K0 l]⟩] (WV l) ω (.clo 177 0 [.ptr 1 0 0 0,.ptr 0 0 0 0]) 177 0 [.ptr 1 0 0 0,.ptr 0 0 0 0] QuQ rfl (zD t l) (λC x hx m=>by obtain⟨n,rfl,B,z⟩:=QjG hx;obtain⟨E,rfl⟩:=m;exact QzG _ t l e g o 1 0 rfl rfl n z)
 refine X4 a QuP rfl ?_ u rfl λd2 i=>?_;simp only[go_sem];try exact DV _
 subst i;have b:=QjF (zD t l) (WV l);unfold uJ;cases p:(WV l).any (zD t l);rw[p]at b;rw[Qd π];apply Qh a;simp only[go_sem,b];apply Qy a [0,2,1001,1003,4,5];simp only[go_sem];apply ZP a QuS (QxX l e g);apply ZB a;apply ZP a Qgl y;apply ZB a;rfl;rw[p]at b;rw[Qe rfl];have s:0<=xl (zD t l) (WV l):=qw b;have k:=QzD s;obtain⟨j,r⟩:∃j:Nat,xl (zD t l) (WV l)=(j:Int):=⟨(xl (zD t l) (WV l)).toNat,ω⟩;rw[r]at b k ⊢;rw[Oc]at k;apply Qh a;simp only[go_sem,k];first|rfl|exact⟨rfl,rfl⟩|trace_state
def zE(t:Int)(l:List Nc):Int:=if Ya t l≠0 then Ya t l else if Ic t.toNat l=true then 22 else 0
def QzJ(t)(l:List Nc)(g:l.length<1048576)(k:∀c∈l,c.Lt):QM prog 97 [Qa t,K0 l] (QR (Qa (zE t l))):=by
 by_cases b:Ya t l=0;have j:∃n:Nat,t=(n:Int):=⟨t.toNat,by unfold Ya at b;split at b;cases b;omega⟩;obtain⟨n,rfl⟩:=j;have h:(Ya n l != 0)=false:=by rw[b];rfl
 have e:zE n l=if Ic n l=true then 22 else 0:=by rw[zE,Qd (zC b)];rfl
 rw[e];have f:=QzH n l g k b;unfold uJ at f;unfold Ic;cases i:(WV l).any (zD n l);rw[i,Qd π]at f;rw[GV];refine Q1 0 func97 ntmps97 results97 λd w a=>?_;simp only[go_sem];apply QZ a gl (lJ n l g);apply Qh a;simp only[go_sem,h];apply QZ a Qgf f;apply Qg a;cases No n l;simp only[go_sem];simp only[go_sem];rw[i,Qe rfl]at f;rw[Sk,Qe rfl];refine Q1 0 func97 ntmps97 results97 λd w a=>?_;simp only[go_sem];apply QZ a gl (lJ n l g);apply Qh a;simp only[go_sem,h];apply QZ a Qgf f;exact VT a;have h:(Ya t l != 0)=true:=by simpa using b
 have e:zE t l=Ya t l:=by rw[zE,Qe b]
 rw[e];refine Q1 0 func97 ntmps97 results97 λd w a=>?_;simp only[go_sem];apply QZ a gl (lJ t l g);apply Qh a;simp only[go_sem,h]
def Ws(x:Int)(s:List Int × Bool)(d:Int):List Int × Bool:=
 if s.2=false/\x<=d then (if d=x then (s.1++[x],true) else (s.1++[x]++[d],true)) else (if d=x then s else (s.1++[d],s.2))
def Yb(x:Int)(s:List Int × Bool):List Int:=if s.2=true then s.1 else s.1++[x]
def Ie(x:Int)(M:List Int):List Int:=Yb x (M.foldl (Ws x) ([],false))
def QzK{x}{s:List Int × Bool}(h:s.2=true->x∈s.1)(d:Int):((Ws x s d).2=true->x∈(Ws x s d).1)/\(∀y,y∈Yb x (Ws x s d)↔y∈Yb x s\/y=d)/\(Yb x (Ws x s d)).length<=(Yb x s).length+1:=by obtain⟨m,p⟩:=s;cases p;by_cases c:x<=d;by_cases a:d=x;subst a;refine⟨λ_=>?_,λy=>?_,?_⟩<;>simp[Ws,Yb];refine⟨λ_=>?_,λy=>?_,?_⟩<;>simp[Ws,Yb,c,a,or_assoc];have a:d≠x:=ω;refine⟨λb=>?_,λy=>?_,?_⟩;simp[Ws,c,a]at b;simp only[Ws,Yb,c,a,and_false,q5,qq,Q3,Xj,or_assoc];exact or_congr_right (Or.comm);simp[Ws,Yb,c,a];have b:=h rfl;by_cases a:d=x;subst a;refine⟨λ_=>?_,λy=>?_,?_⟩;simpa[Ws] using b;simp only[Ws,Yb,Bool.true_eq_false,false_and,q5,Vu];exact⟨λh=>.inl h,λh=>h.elim id λe=>e▸b⟩;simp[Ws,Yb];refine⟨λ_=>?_,λy=>?_,?_⟩;simp only[Ws,Bool.true_eq_false,false_and,q5,a];exact GZ _ b;simp[Ws,Yb,a];simp[Ws,Yb,a]
def lK{x}:∀{M:List Int} {s:List Int × Bool},(s.2=true->x∈s.1)->(∀y,y∈Yb x (M.foldl (Ws x) s)↔y∈Yb x s\/y∈M)/\(Yb x (M.foldl (Ws x) s)).length<=(Yb x s).length+M.length
 | [],s,_=>σ
 | d::M,s,h=>by obtain⟨c,b,f⟩:=QzK h d;obtain⟨a,e⟩:=lK (M:=M) c;refine⟨λy=>?_,?_⟩;rw[qX,a,b,QK,or_assoc];rw[qX,Kx];omega
def QzL(x M y):y∈Ie x M↔y=x\/y∈M:=by have:=(lK (x:=x) (M:=M) (s:=([],false)) (λh=>by cases h)).1 y;unfold Ie;rw[this];simp[Yb]
def QzM(x)(M:List Int):(Ie x M).length<=M.length+1:=by have:=(lK (x:=x) (M:=M) (s:=([],false)) (λh=>by cases h)).2;unfold Ie;simp[Yb]at this ⊢;omega
def QzN(x)(s:List Int × Bool):s.1.length<=(Yb x s).length:=by unfold Yb;split<;>simp
def QzO(x)(M:List Int):(M.foldl (Ws x) ([],false)).1.length<=M.length+1:=by have b:=(lK (x:=x) (M:=M) (s:=([],false)) (λh=>by cases h)).2;have a:=QzN x (M.foldl (Ws x) ([],false));simp[Yb]at b a ⊢;omega
def Xf(l:List Nc):List Int:=l.foldl (λM c=>if c.of<3 then M else Ie c.d M) []
def uK(l:List Nc){i}(a:i<l.length):Xf (l.take (i+1))=if (l.getD i default).of<3 then Xf (l.take i) else Ie (l.getD i default).d (Xf (l.take i)):=by unfold Xf;rw[zQ,QH a,BM,qu,QU,QH a];rfl
def QzP(c:Nc):XD c=decide (¬ c.of<3):=by unfold XD;rcases Qip c.a c.d c.b with h|h|h|h|h<;>(have a:c.of=_:=h;rw[a];decide)
def QjJ(l:List Nc)(x):∀i,i<=l.length->(x∈Xf (l.take i)↔∃c,c∈l.take i/\XD c=true/\(c.d:Int)=x)
 | 0,_=>by simp[Xf]
 | i+1,h=>by
  have j:i<l.length:=ω;have m:=QjJ l x i ω;have e:l.take (i+1)=l.take i++[l.getD i default]:=by rw[zQ,QH j,QU,QH j];rfl
  rw[uK l j,e];obtain⟨c,o⟩:=Zc (l.getD i default);rw[<-o];have n:=QzP c;by_cases g:c.of<3;rw[Qe g,m];have k:XD c=false:=by rw[n];simp[g]
  constructor;rintro⟨e,d,a⟩;exact⟨e,GZ _ d,a⟩;rintro⟨e,d,a,f⟩;rcases Q3.1 d with b|b;exact⟨e,b,a,f⟩;rw[Xj.1 b,k]at a;cases a;rw[Qd g,QzL,m];have k:XD c=true:=by rw[n];simp[g]
  constructor;rintro (rfl|⟨e,d,a⟩);exact⟨c,σ,k,rfl⟩;exact⟨e,GZ _ d,a⟩;rintro⟨e,d,a,f⟩;rcases Q3.1 d with b|b;exact .inr ⟨e,b,a,f⟩;left;rw[Xj.1 b]at f;exact f.symm
def QjK(l x):x∈Xf l↔x∈WV l:=by have:=QjJ l x l.length (Qv _);rw[Wo]at this;rw[this,uG]
def uL(l:List Nc):∀i,i<=l.length->(Xf (l.take i)).length<=i
 | 0,_=>by simp[Xf]
 | i+1,h=>by have a:=uL l i ω;rw[uK l ω];split;omega;have:=QzM (l.getD i default).d (Xf (l.take i));omega
def qa(x:Int)(M:List Int)(j:Nat):List Int × Bool:=(M.take j).foldl (Ws x) ([],false)
def QzQ(x)(M:List Int){j}(a:j<M.length):qa x M (j+1)=Ws x (qa x M j) (M.getD j 0):=by unfold qa;rw[zQ,QH a,BM,qu,QU,QH a];rfl
def QzR(x M)(j:Nat):(qa x M j).1.length<=j+1:=by have b:=QzO x (M.take j);have a:(M.take j).length<=j:=ξ;unfold qa;omega
@[go_sem] def Ra(n:Nat):Ob:=⟨.one,0,4,1,λ_=>[u64 (d0 n),u64 (d1 n),u64 (d2 n),u64 (d3 n)]⟩
def QjL(g)(l:List Nc){i:Nat}(a:i<l.length):(l.take (i+1)).foldl (Xr g) 0=Xr g ((l.take i).foldl (Xr g) 0) (l.getD i default):=by rw[zQ,QH a,BM,qu,QU,QH a];rfl
def QzS(l:List Nc)(t)(m:t<18446744073709551616)(F:l.length<1048576)(o:∀c∈l,c.Lt):QM prog 90 [K0 l,u64 t] (QR (dg (je (λc=>Jg c.a c.d c.b t) l))):=by
 obtain⟨g,f⟩:∃g:Nc->Nat,g=λc=>Jg c.a c.d c.b t:=⟨_,rfl⟩;have q:∀c:Nc,c.Lt->g c<=2^97:=λc _=>by rw[f];have:=Qiq c.a c.d c.b t m;dsimp only;omega
 rw[<-f];refine Q1 0 func90 ntmps90 results90 λr w b=>?_;simp only[go_sem];refine ZY (λi s=>s=⟨[(1,u64 t),(4,.ptr 0 0 0 0),(5,.ptr 1 0 0 0),(9,K0 l),(10,Qa l.length),(11,Qa i)],[Ra 0,Ra ((l.take i).foldl (Xr g) 0)]⟩) l.length (s0:=⟨[(1,u64 t),(4,.ptr 0 0 0 0),(5,.ptr 1 0 0 0),(9,K0 l),(10,Qa l.length),(11,Qa 0)],[⟨.one,0,4,1,λ_=>[u64 0,u64 0,u64 0,u64 0]⟩,⟨.one,0,4,1,λ_=>[u64 0,u64 0,u64 0,u64 0]⟩]⟩) (Qs.to 2 (by (simp only[go_sem])<;>simp)) (by simp[Ra,dz0,dz1,dz2,dz3]) ?_;rintro i s n rfl;have B:=JJ (show i<4611686018427387904 from ω);obtain⟨S,d⟩:=Zc ((l.take i).foldl (Xr g) 0);have J:S<=2^117:=by have I:=PT q (l:=l.take i) (s:=0) λx hx=>o x (Oi hx);have u:(l.take i).length<=1048576:=ξ;have H:=V6 (2^97) u;rw[d];omega
 rw[<-d];apply Qg b;first|refine WN n (λa=>?_) (λa=>?_)|refine WO n (λa=>?_) (λa=>?_)
 obtain⟨c,h⟩:=Zc (l.getD i default);have y:c.Lt:=o c (by rw[h,QU,QH a];exact XK a);have p:=QjL g l a;rw[<-d,<-h]at p;have k:=q c y;have j:=Qir c.a c.d c.b t m;have z:Xr g S c=S+Jg c.a c.d c.b t:=by
  unfold Xr;rw[f];split;rename_i v;have:Jg c.a c.d c.b t=0:=by unfold Jg;exact Qe v
  omega;rfl
 have E:Jg c.a c.d c.b t<=2^97:=by rw[f]at k;exact k
 have C:=HZ S (Jg c.a c.d c.b t) ω ω;simp only[go_sem,a,<-h];apply Qy b [0,1,2,1003,1004,1005];simp only[go_sem];apply ZP b Qf1 j;apply ZB b;apply ZP b HI C;apply ZB b;refine⟨a,_,?_,rfl⟩;rw[p,z];exact Qs.to 2 (by (simp only[go_sem,B])<;>simp);subst a;rw[Wo]at d;have e:je g l=S:=d.symm;rw[e];exact VT b
def QzU(l:List Nc)(C:l.length<1048576)(q:∀c∈l,c.Lt):QM prog 91 [K0 l,QV false] (QR (dg (je (λc=>c.b) l))):=by
 refine Q1 0 func91 ntmps91 results91 λu w b=>?_;simp only[go_sem];refine ZY (λi s=>s=⟨[(1,QV false),(4,.ptr 0 0 0 0),(5,.ptr 1 0 0 0),(10,K0 l),(11,Qa l.length),(12,Qa i)],[Ra 0,Ra ((l.take i).foldl (Xr (λc=>c.b)) 0)]⟩) l.length (s0:=⟨[(1,QV false),(4,.ptr 0 0 0 0),(5,.ptr 1 0 0 0),(10,K0 l),(11,Qa l.length),(12,Qa 0)],[⟨.one,0,4,1,λ_=>[u64 0,u64 0,u64 0,u64 0]⟩,⟨.one,0,4,1,λ_=>[u64 0,u64 0,u64 0,u64 0]⟩]⟩) (Qs.to 2 (by (simp only[go_sem])<;>simp)) (by simp[Ra,dz0,dz1,dz2,dz3]) ?_;rintro i s p rfl;have t:=JJ (show i<4611686018427387904 from ω);obtain⟨S,d⟩:=Zc ((l.take i).foldl (Xr (λc=>c.b)) 0);have B:∀c:Nc,c.Lt->c.b<=2^97:=λc h=>by have:=h.2.2;omega
 have F:S<=2^117:=by have y:=PT (g:=λc=>c.b) B (l:=l.take i) (s:=0) λx hx=>q x (Oi hx);have v:(l.take i).length<=1048576:=ξ;have E:=V6 (2^97) v;rw[<-d]at y;omega
 rw[<-d];apply Qg b;first|refine WN p (λa=>?_) (λa=>?_)|refine WO p (λa=>?_) (λa=>?_)
 obtain⟨c,n⟩:=Zc (l.getD i default);have r:c.Lt:=q c (by rw[n,QU,QH a];exact XK a);have k:=QjL (λc=>c.b) l a;rw[<-d,<-n]at k;have o:=Uv c.b r.2.2;have z:=HZ S c.b ω (by have:=r.2.2;omega);simp only[go_sem,a,<-n];apply QZ b yO (iM c.a c.d c.b);apply Qg b;by_cases f:Ku c.a c.d c.b=0;have m:Xr (λc=>c.b) S c=S:=by unfold Xr;exact Qe f
 have j:(Ku c.a c.d c.b != 0)=false:=by rw[f];rfl
 simp only[go_sem,j];refine⟨a,_,?_,rfl⟩;rw[k,m];exact Qs.to 2 (by (simp only[go_sem,t])<;>simp);have m:Xr (λc=>c.b) S c=S+c.b:=by unfold Xr;exact Qd f
 have j:(Ku c.a c.d c.b != 0)=true:=by simpa using f
 simp only[go_sem,j];apply Qy b [0,1,1002,1003,1004];simp only[go_sem];apply ZP b pZ o;apply ZB b;apply ZP b HI z;apply ZB b;refine⟨a,_,?_,rfl⟩;rw[k,m];exact Qs.to 2 (by (simp only[go_sem,t])<;>simp);subst a;rw[Wo]at d;have e:je (λc=>c.b) l=S:=d.symm;rw[e];exact VT b
def QzV(n t:Nat)(H:n<2^111)(p:t<=65536):QM prog 126 [dg n,Qa t] (QR (dg (n*t))):=by
 obtain⟨c,b,q,rfl⟩:∃c b,b<18446744073709551616/\n=c*18446744073709551616+b:=⟨n/18446744073709551616,n%18446744073709551616,Xt _ π,ω⟩;have v:c<140737488355328:=ω;have C:(c*18446744073709551616+b)/18446744073709551616=c:=ω;have z:(c*18446744073709551616+b)%18446744073709551616=b:=ω;obtain⟨A,g⟩:=Zc (b*t);obtain⟨B,f⟩:=Zc (c*t);have j:B<=9223372036854775808:=by rw[f];exact J5 (Xk (On v) p) π
 have F:A<=1208925819614629174706176:=by rw[g];exact J5 (Xk (On q) p) π
 have y:(c*18446744073709551616+b)*t=B*18446744073709551616+A:=by rw[g,f,KE,Lo,EY 18446744073709551616 t,<-Lo]
 have e:=Qih (c*18446744073709551616+b) ω;have d:=QxA (c*18446744073709551616+b) ω;have k:=Qiz t ω;have m:=MP b t q ω;have l:=MP c t ω ω;rw[<-g]at m;rw[<-f]at l;rw[C]at d;rw[z]at e;have o:=Qih B ω;rw[kg (by omega:B<18446744073709551616)]at o;have s:=Qxz B 0 ω π;have i:B*18446744073709551616<=9223372036854775808*18446744073709551616:=V6 _ j;have h:9223372036854775808*18446744073709551616<2^128:=π;have E:B*18446744073709551616+0<2^128:=by rw[vn];exact Oo i h
 have u:=HZ A (B*18446744073709551616+0) ω E;rw[y,Ol (B*18446744073709551616) A,<-vn (B*18446744073709551616)];obtain⟨N,x⟩:=Zc (c*18446744073709551616+b);rw[<-x]at e d ⊢;refine Q1 0 func126 ntmps126 results126 λr w a=>?_;simp only[go_sem];apply QZ a Qf2 e;apply Qh a;simp only[go_sem,k];apply QZ a Mm m;apply Qg a;apply QZ a QtJ d;apply Qh a;simp only[go_sem,k];apply QZ a Mm l;apply Qg a;apply Qy a [0,1,1002,1003,1004,1005];simp only[go_sem];apply ZP a Qf2 o;apply ZB a;apply ZP a QuK s;apply ZB a;apply ZP a HI u;exact FK a
def QjN(n t k:Nat)(e:n<2^111)(c:t<=65536)(g:k<18446744073709551616):QM prog 89 [dg n,Qa t,u64 k] (QR (QV (!decide (65536*k<n*t)))):=by have i:n*t<=n*65536:=Dm n c;have h:=QzV n t e c;have f:=MP 65536 k π g;have b:=Qii (65536*k) (n*t) ω ω;refine Q1 0 func89 ntmps89 results89 λd w a=>?_;simp only[go_sem];apply Qy a [0,2,3,1001,1004,1005,6,7];simp only[go_sem];refine yQ a Mm ?_ f ?_;simp only[go_sem,Qin];apply ZB a;apply ZP a Quj h;apply ZB a;apply ZP a QfX b;exact FK a
def lL(t)(l:List Nc)(q:l.length<1048576):QM prog 59 [Qa t,K0 l] (QR (Qa (Ya t l))):=by
 by_cases h1:t<1\/65536<t;have e:Ya t l=1:=by rw[Ya,Qe h1]
 rw[e];refine Q1 0 func59 ntmps59 results59 λd w b=>?_;simp only[go_sem];rcases h1 with h1|h1;simp only[QY h1,go_sem];simp only[QN (show ¬ t<1 from ω),QY h1,go_sem];have e:Ya t l=if P8 l=true then 21 else 0:=by rw[Ya,Qd h1]
 have n:=QN (show ¬ t<1 from ω);have m:=QN (show ¬ 65536<t from ω);rw[e];refine Q1 0 func59 ntmps59 results59 λd w b=>?_;simp only[go_sem];simp only[n,m,go_sem];refine ZY (λi s=>(∀c∈l.take i,c.of≠0)/\s=⟨[(13,K0 l),(14,Qa l.length),(15,Qa i)],[]⟩) l.length (Qs.to 0 (by (simp only[go_sem])<;>simp)) ⟨σ,rfl⟩ ?_;rintro i s k ⟨g,rfl⟩;have o:=JJ (show i<4611686018427387904 from ω);apply Qg b;first|refine WN k (λa=>?_) (λa=>?_)|refine WO k (λa=>?_) (λa=>?_)
 obtain⟨c,j⟩:=Zc (l.getD i default);have p:c∈l:=by rw[j,QU,QH a];exact XK a
 simp only[go_sem,a,<-j];apply QZ b yO (iM c.a c.d c.b);apply Qg b;by_cases f:Ku c.a c.d c.b=0;have h:P8 l=true:=j6.2 ⟨c,p,WQ f⟩;rw[h,Qe rfl];simp only[go_sem,WQ f];simp only[go_sem,VY f];refine⟨a,_,Qs.to 0 (by (simp only[go_sem,o])<;>simp),?_,rfl⟩;rw[zQ,QH a];intro x hx;rcases Q3.1 hx with h2|h2;exact g x h2;simp only[BM,Xj]at h2;rw[h2,show l[i]=c by rw[j,QU,QH a];rfl];exact f;subst a;rw[Wo]at g;have h:P8 l=false:=by unfold P8;rw[Of];intro x hx;simpa using g x hx
 rw[h,Qd π];exact VT b
def QzZ(k:Kd):k.LU k:=by cases k<;>simp[Kd.LU]
def QjO:∀h:List Ob,Mj h h
 | []=>trivial
 | o::r=>⟨⟨rfl,rfl,rfl,QzZ _,λi _=>vK (zw _) _⟩,QjO r⟩
def QjP{L:List Int}{a}(c:Wb (λn:Int=>[uI n]) L 0 a){k}(b:k<L.length):a k=[uI (L.getD k 0)]:=by have:=c.at_ k b;rw[JG]at this;rw[this];simp only[QU,QH b,Va]
def Qz0(l:List Nc)(hl:l.length<1048576):QM prog 88 [K0 l] (QR (y9 (Xf l))):=by
 refine Q1 0 func88 ntmps88 results88 λY w B=>?_;simp only[go_sem];refine ZY (λi s=>s=⟨[(3,y9 (Xf (l.take i))),(10,K0 l),(11,Qa l.length),(12,Qa i)],[]⟩) l.length (s0:=⟨[(3,y9 []),(10,K0 l),(11,Qa l.length),(12,Qa 0)],[]⟩)
  (Qs.tell ⟨by simp only[go_sem,Mi],QjO _⟩) (by simp[Xf]) ?_
 rintro i s Q rfl;have Zw:=uL l i Q;have S:=JJ (show i<4611686018427387904 from ω);apply Qg B;first|refine WN Q (λr=>?_) (λr=>?_)|refine WO Q (λr=>?_) (λr=>?_)
 obtain⟨e,U⟩:=Zc (l.getD i default);have C:=uK l r;have T:=r;obtain⟨M,W⟩:=Zc (Xf (l.take i));rw[<-W,<-U]at C;rw[<-W]at Zw ⊢;simp only[go_sem,r,<-U];apply QZ B yO (iM e.a e.d e.b);apply Qg B;by_cases N:Ku e.a e.d e.b<3;have P:e.of<3:=N;rw[Qe P]at C;simp only[go_sem,QY N];refine⟨r,_,?_,rfl⟩;rw[C];exact Qs.to 0 (by (simp only[go_sem,S])<;>simp);have P:¬ e.of<3:=N;rw[Qd P]at C;simp only[go_sem,QN N];refine ZY (λj s=>∃g E,Wb (λn:Int=>[uI n]) (qa e.d M j).1 0 E/\s=⟨[(5,.ptr 0 0 0 0),(6,.ref 1 g 0 (qa e.d M j).1.length),(7,QV (qa e.d M j).2),(10,K0 l),(11,Qa l.length),(12,Qa i),(19,y9 M),(20,Qa M.length),(21,Qa j)],[⟨.one,0,3,1,λ_=>e.cells⟩,⟨.arr,g,1,(qa e.d M j).1.length,E⟩]⟩) M.length
  (s0:=⟨[(5,.ptr 0 0 0 0),(6,.ref 1 0 0 0),(7,QV false),(10,K0 l),(11,Qa l.length),(12,Qa i),(19,y9 M),(20,Qa M.length),(21,Qa 0)],[⟨.one,0,3,1,λ_=>e.cells⟩,⟨.arr,0,1,0,λ_=>[]⟩]⟩)
  (Qs.trans (Qs.vr 6 1 (λi=>[]) rfl) QP) ⟨0,λ_=>[],.nil,rfl⟩ ?_
 rintro j s o ⟨g,E,t,rfl⟩;have K:=QzR e.d M j;have J:=JJ (show j<4611686018427387904 from ω);apply Qg B;have h:=o;first|refine WN o (λr=>?_) (λr=>?_)|refine WO o (λr=>?_) (λr=>?_)
 have u:=QzQ e.d M r;obtain⟨d,V⟩:=Zc (M.getD j 0);rw[<-V]at u;obtain⟨q,L⟩:=Zc (qa e.d M j);rw[<-L]at u t K ⊢;obtain⟨m,p⟩:=q;dsimp only at t K ⊢;have F:m.length<=4294967295:=ω;have CP:m.length+1<=4294967295:=ω;simp only[go_sem,r,<-V];cases p;by_cases v:(e.d:Int)<=d;have O:decide (d >= (e.d:Int))=true:=QY v;by_cases f:d=(e.d:Int);have y:(d != (e.d:Int))=false:=by simpa using f
 have b:(qa e.d M (j+1)).1=m++[(e.d:Int)]:=by rw[u];simp[Ws,f]
 have x:(qa e.d M (j+1)).2=true:=by rw[u];simp[Ws,f]
 have c:=t.app (e.d:Int) (r2:=λ_=>[uI e.d]) rfl;simp only[go_sem,O,y,F];repeat (refine And.intro ω ?_)
 refine⟨_,Qs.to 2 ⟨?_,by simp only[go_sem],?_,?_⟩,g+1,_,by rw[b];exact c,rfl⟩;simp only[go_sem,J,b,x,Zn,K9];exact⟨λj _=>rfl,λj o=>c.upto (λa=>rfl) j (by have h:=o;simp only[b]at h;simpa using h),trivial⟩;simp only[go_sem,b,Zn,K9];have y:(d != (e.d:Int))=true:=by simpa using f
 have b:(qa e.d M (j+1)).1=m++[(e.d:Int)]++[d]:=by rw[u];simp[Ws,v,f]
 have x:(qa e.d M (j+1)).2=true:=by rw[u];simp[Ws,v,f]
 have c:=(t.app (e.d:Int) (r2:=λ_=>[uI e.d]) rfl).app d (r2:=λ_=>[uI d]) rfl;simp only[Zn,K9]at c;simp only[go_sem,O,y,F];repeat (refine And.intro ω ?_)
 refine⟨_,Qs.to 2 ⟨?_,by simp only[go_sem],?_,?_⟩,g+1+1,_,by rw[b];exact c,rfl⟩;simp only[go_sem,J,b,x,Zn,K9];exact⟨λj _=>rfl,λj o=>c.upto (λa=>rfl) j (by have h:=o;simp only[b]at h;simpa using h),trivial⟩;simp only[go_sem,b,Zn,K9];have O:decide (d >= (e.d:Int))=false:=QN v;have f:¬ d=(e.d:Int):=ω;have y:(d != (e.d:Int))=true:=by simpa using f
 have b:(qa e.d M (j+1)).1=m++[d]:=by rw[u];simp[Ws,v,f]
 have x:(qa e.d M (j+1)).2=false:=by rw[u];simp[Ws,v,f]
 have c:=t.app d (r2:=λ_=>[uI d]) rfl;simp only[go_sem,O,y,F];repeat (refine And.intro ω ?_)
 refine⟨_,Qs.to 2 ⟨?_,by simp only[go_sem],?_,?_⟩,g+1,_,by rw[b];exact c,rfl⟩;simp only[go_sem,J,b,x,Zn,K9];exact⟨λj _=>rfl,λj o=>c.upto (λa=>rfl) j (by have h:=o;simp only[b]at h;simpa using h),trivial⟩;simp only[go_sem,b,Zn,K9];have v:=True.intro;by_cases f:d=(e.d:Int);have y:(d != (e.d:Int))=false:=by simpa using f
 have b:(qa e.d M (j+1)).1=m:=by rw[u];simp[Ws,f]
 have x:(qa e.d M (j+1)).2=true:=by rw[u];simp[Ws,f]
 have c:=t;simp only[go_sem,y,Go.undef];repeat (refine And.intro ω ?_)
 refine⟨_,Qs.to 2 ⟨?_,by simp only[go_sem],?_,?_⟩,g,_,by rw[b];exact c,rfl⟩;simp only[go_sem,J,b,x];exact⟨λj _=>rfl,λj o=>c.upto (λa=>rfl) j (by have h:=o;simp only[b]at h;simpa using h),trivial⟩;simp only[go_sem,b];have y:(d != (e.d:Int))=true:=by simpa using f
 have b:(qa e.d M (j+1)).1=m++[d]:=by rw[u];simp[Ws,f]
 have x:(qa e.d M (j+1)).2=true:=by rw[u];simp[Ws,f]
 have c:=t.app d (r2:=λ_=>[uI d]) rfl;simp only[go_sem,y,F,Go.undef];repeat (refine And.intro ω ?_)
 refine⟨_,Qs.to 2 ⟨?_,by simp only[go_sem],?_,?_⟩,g+1,_,by rw[b];exact c,rfl⟩;simp only[go_sem,J,b,x,Zn,K9];exact⟨λj _=>rfl,λj o=>c.upto (λa=>rfl) j (by have h:=o;simp only[b]at h;simpa using h),trivial⟩;simp only[go_sem,b,Zn,K9];have v:j=M.length:=ω;subst v;obtain⟨q,L⟩:=Zc (qa e.d M M.length);have Z:Ie e.d M=Yb e.d q:=by rw[L];unfold Ie qa;rw[Wo]
 rw[Z]at C;rw[<-L]at t K ⊢;obtain⟨m,p⟩:=q;dsimp only at t K ⊢;have F:m.length<=4294967295:=ω;cases p;have R:Yb e.d (m,false)=m++[(e.d:Int)]:=rfl;have c:=t.app (e.d:Int) (r2:=λ_=>[uI e.d]) rfl;apply Qh B;simp only[go_sem,F];refine⟨T,_,?_,rfl⟩;rw[C,R];refine Qs.trans (Qs.freeze rfl 1 rfl rfl (λk z=>?_)) (Qs.toT 0 ?_);obtain⟨a,H⟩:=c.all k (zC z);simp only[go_sem]at H ⊢;rw[H];rfl;simp only[go_sem,S,Zn,K9];intro k z;have I:=QjP c (k:=k) (zC z);simp only[go_sem]at I;rw[I];exact vK (zw _) _;have R:Yb e.d (m,true)=m:=rfl;apply Qg B;refine⟨T,_,?_,rfl⟩;rw[C,R];refine Qs.trans (Qs.freeze rfl 1 rfl rfl (λk z=>?_)) (Qs.toT 0 ?_);obtain⟨a,H⟩:=t.all k (zC z);simp only[go_sem]at H ⊢;rw[H];rfl;simp only[go_sem,S];intro k z;have I:=QjP t z;simp only[go_sem]at I;rw[I];exact vK (zw _) _;have v:i=l.length:=ω;subst v;rw[Wo];exact VT B
def Qz1{A B:List Int}(h:∀x,x∈A↔x∈B)(p):A.any p=B.any p:=by rw[wz];simp[j6,h]
def lN(t:Nat)(l:List Nc):D:=if (Xf l).any (zD t l)=true then .agg [uI ((Xf l).getD (xl (zD t l) (Xf l)).toNat 0),QV true] else .agg [u64 0,QV (No t l)]
def Qz2(t:Nat)(l:List Nc)(e:l.length<1048576)(g:∀c∈l,c.Lt)(f:Ya t l=0):QM prog 60 [Qa t,K0 l] (QR (lN t l)):=by
 have v:t<=65536:=by unfold Ya at f;split at f;cases f;omega
 have H:(Ya t l != 0)=false:=by rw[f];rfl
 have N:(Xf l).length<=l.length:=by have:=uL l l.length (Qv _);rwa [Wo]at this
 refine Q1 0 func60 ntmps60 results60 λB w a=>?_;simp only[go_sem];apply QZ a fV (lL t l e);apply Qh a;simp only[go_sem,H];refine Xn a [] QtX rfl ?_ (Qz0 l e) rfl λd h E=>?_;simp only[go_sem];obtain⟨rfl,rfl⟩:=E;simp only[go_sem];apply Qg a;refine ZY (λi s=>(∀j,j<i->zD t l ((Xf l).getD j 0)=false)/\s=⟨[(0,Qa t),(1,K0 l),(4,.ptr 0 0 0 0),(13,y9 (Xf l)),(14,Qa (Xf l).length),(15,Qa i)],[⟨.one,0,2,1,λ_=>[u64 0,QV false]⟩]⟩) (Xf l).length (s0:=⟨[(0,Qa t),(1,K0 l),(4,.ptr 0 0 0 0),(13,y9 (Xf l)),(14,Qa (Xf l).length),(15,Qa 0)],[⟨.one,0,2,1,λ_=>[u64 0,QV false]⟩]⟩) (Qs.to 1 (by (simp only[go_sem])<;>simp)) ⟨λj x=>absurd x (Yy j),rfl⟩ ?_;rintro i s y ⟨r,rfl⟩;have K:=JJ (show i<4611686018427387904 from ω);apply Qg a;first|refine WN y (λb=>?_) (λb=>?_)|refine WO y (λb=>?_) (λb=>?_)
 obtain⟨k,u,M,C⟩:=QjG ((QjK l _).1 (uH b));have z:=QzS l k ω e g;have n:=QjN (Ei l k) t k (QjH e g C) v ω;have p:zD t l ((Xf l).getD i 0)=decide (65536*k<Ei l k*t):=by rw[u];rfl
 have L:je (λc=>Jg c.a c.d c.b k) l=Ei l k:=rfl;rw[L]at z;simp only[go_sem,b,u];apply QZ a QtY z;apply Qg a;apply QZ a Qga n;apply Qg a;cases q:decide (65536*k<Ei l k*t);simp only[go_sem];refine⟨b,_,Qs.to 1 (by (simp only[go_sem,K])<;>simp),λj x=>?_,rfl⟩;by_cases F:j<i;exact r j F;obtain rfl:j=i:=ω;rw[p,q];have o:(Xf l).any (zD t l)=true:=j6.2 ⟨_,uH b,by rw[p,q]⟩;have J:=QjD b r (by rw[p,q]);rw[lN,Qe o,J,Oc,u];simp only[go_sem];have m:i=(Xf l).length:=ω;subst m;have o:(Xf l).any (zD t l)=false:=by have m:=QjF (zD t l) (Xf l);rw[QjE r]at m;rw[<-m];decide
 have n:=QjN (je (λc=>c.b) l) t 1 (QjI e g) v π;have I:decide (65536*1<je (λc=>c.b) l*t)=No t l:=rfl;rw[I]at n;rw[lN,o,Qd π];apply Qg a;apply QZ a QtZ (QzU l e g);apply Qg a;apply QZ a Qga n;apply Qg a;simp only[Bool.not_not,go_sem]
def Qz3(t)(l:List Nc)(g:l.length<1048576)(k:∀c∈l,c.Lt):QM prog 37 [Qa t,K0 l] (QR (Qa (zE t l))):=by
 by_cases b:Ya t l=0;have j:∃n:Nat,t=(n:Int):=⟨t.toNat,by unfold Ya at b;split at b;cases b;omega⟩;obtain⟨n,rfl⟩:=j;have h:(Ya n l != 0)=false:=by rw[b];rfl
 have e:zE n l=if Ic n l=true then 22 else 0:=by rw[zE,Qd (zC b)];rfl
 rw[e];have f:=Qz2 n l g k b;unfold lN at f;unfold Ic;rw[Qz1 (QjK l)]at f;cases i:(WV l).any (zD n l);rw[i,Qd π]at f;rw[GV];refine Q1 0 func37 ntmps37 results37 λd w a=>?_;simp only[go_sem];apply QZ a fV (lL n l g);apply Qh a;simp only[go_sem,h];apply QZ a Qf3 f;apply Qg a;cases No n l;simp only[go_sem];simp only[go_sem];rw[i,Qe rfl]at f;rw[Sk,Qe rfl];refine Q1 0 func37 ntmps37 results37 λd w a=>?_;simp only[go_sem];apply QZ a fV (lL n l g);apply Qh a;simp only[go_sem,h];apply QZ a Qf3 f;exact VT a;have h:(Ya t l != 0)=true:=by simpa using b
 have e:zE t l=Ya t l:=by rw[zE,Qe b]
 rw[e];refine Q1 0 func37 ntmps37 results37 λd w a=>?_;simp only[go_sem];apply QZ a fV (lL t l g);apply Qh a;simp only[go_sem,h]
end Go.Fg.X
namespace Go.Fg.X
open Go.Proofs Go.Fg
open Go.RowKit (Below)
open Go.Proofs.Tryz
def Qz4{N w f n d g v}(h:Cl N w (.imm f n d) v)(e:∀i,i<n->d i=g i):Cl N w (.imm f n g) v:=by
 cases h with
 | imm _ _ _ a k b o l t q m s p=>exact .imm f n g a k b o l t q (λi c=>by rw[<-e i c];exact m i c) s (λi j c r=>by rw[<-e i c];exact p i j c r)
def lO{P:Program}{f:FuncId}{k:List D}{u:Type}[Inhabited u]{n:Nat}{m:u->List D}{L:List u}(K:∀a,(m a).all D.Yl=true)(h:QM P f k (Uz n m L)):
  QM P f k (QR (.imm n L.length (λi=>m (L.getD i default)))):=by
 intro Z s w M J W F E Q S;have Zk:M=[]:=by have:=E.len;simpa using this
 subst Zk;refine(h Z s w [] J W F E Q S).mono λe I R=>?_;obtain⟨v,d,hh,y,rfl,⟨g,j,c,rfl,rfl,z⟩,C,U,B,V⟩:=R;have r:y.length=1:=by have:=C.len;simpa using this
 obtain⟨p,rfl⟩:∃p,y=[p]:=by
  match y,r with
  | [p],_=>exact⟨p,rfl⟩
 have H:=U.fz (l:=0) (o:=⟨.arr,g,n,j+L.length,c⟩) (p:=p) rfl rfl rfl (λb q e=>by
  subst e;refine⟨F b ?_,λO q' e'=>?_,(C.at_ 0 _ b q rfl rfl).2.cells rfl⟩;rcases xI b w.heap.size with Qb|Xz;exact absurd rfl ((B.Kz b (λi q e=>by simp at e) Qb).1 0 q);exact Xz;have:=WA e';simp at this;exact this) (λi x=>by
  obtain⟨a,T⟩:=z.all i x;show (c i).all D.Yl=true;rw[T];exact K a) (h':=[Ob.gone ⟨.arr,g,n,j+L.length,c⟩]) (λO N QE e=>by
  have:=KL e;simp at this;exact absurd this QE)
 have Y:D.fz 0 g (j+L.length) n c (.ref 0 g j L.length)=.imm n L.length (rowFrom j c):=by simp[D.fz,Fz]
 simp only[Y]at H;have Zw:=(Ht H rfl).mono (N':=free Z []) (w':=I) λb t _=>⟨⟨t.1,λl q e=>by simp at e⟩,rfl⟩;refine⟨v,_,[],[],rfl,⟨rfl,rfl⟩,Zo.nil,.cl _ _ (Qz4 Zw λi x=>z.at_ i x),⟨λb t Qb=>⟨t,(B.Kz b t Qb).2⟩,λl o p e=>by simp at e,λl o N b q e=>by simp at e⟩,V⟩
def Qz5{c:Type}[Inhabited c](f:Nat)(e:c->List D)(L:List c)(v:Value)(d:D)(h:List Ob):Prop:=∃g a b,d=.agg [.ref 0 g a L.length,.raw v]/\h=[⟨.arr,g,f,a+L.length,b⟩]/\Wb e L a b
def Qz6{P:Program}{f:FuncId}{b:List D}{j:Type}[Inhabited j]{sz:Nat}{enc:j->List D}{L:List j}{v:Value}(m:∀a,(enc a).all D.Yl=true)(h:QM P f b (Qz5 sz enc L v)):
  QM P f b (QR (.agg [.imm sz L.length (λi=>enc (L.getD i default)),.raw v])):=by
 refine Qzv _ rfl ?_ h;rintro d p ⟨g,e,c,rfl,rfl,l⟩;refine⟨g,sz,_,c,rfl,λi k=>?_,?_⟩;obtain⟨a,n⟩:=l.all i k;rw[n];exact m a;have o:D.fz 0 g (e+L.length) sz c (.agg [.ref 0 g e L.length,.raw v])=.agg [.imm sz L.length (rowFrom e c),.raw v]:=by simp[D.fz,zZ,Fz]
 rw[o,QeF,pT,pT,Tt,QeE];refine⟨⟨rfl,rfl,λi k=>?_⟩,rfl,QeG▸trivial⟩;rw[HC,l.at_ i k];exact vK (zw _) _
end Go.Fg.X
namespace Go.Fg.X
open Go.Proofs Go.Fg
open Go.Proofs.Tryz
theorem Ek(a:Ql):xP 2 a.cells=true:=rfl
def QjQ(L x):∀i,(putAt L x i).1.length<=2*i
 | 0=>Qv _
 | i+1=>by have:=QjQ L x i;simp only[putAt];split<;>split<;>simp<;>omega
def Wb.uO{L c b}(h:Wb Ql.cells L c b):Wb Ql.cells L c (λi=>zY [1] (b i)):=
 ⟨λi d=>by show zY [1] (b (c+i))=_;rw[h.at_ i d];rfl,λi d=>by obtain⟨a,e⟩:=h.all i d;exact⟨a,by show zY [1] (b i)=_;rw[e];rfl⟩⟩
def Wb.uP{L:List Ql}{c b}(h:Wb Ql.cells L c b):∀i,i<c+L.length->yM [1] (b i)=true:=λi d=>by obtain⟨a,e⟩:=h.all i d;rw[e];rfl
def Qz7(L:List Ql)(x)(J:L.length<1000000):QM prog 86 [VB L,Xc x] (Uz 14 Ql.cells (CI L x)):=by
 refine pO [1] rfl Vr 200 func86 rfl ntmps86 results86 rfl λF w B=>?_;simp only[go_sem];refine ZY (λi s=>∃g b d,Wb Ql.cells (putAt L x i).1 b d/\s=⟨[(3,.ptr 0 0 0 0),(5,.ref 1 g b (putAt L x i).1.length),(6,QV (putAt L x i).2),(9,VB L),(10,Qa L.length),(11,Qa i)],[⟨.one,0,14,1,λ_=>x.cells⟩,⟨.arr,g,14,b+(putAt L x i).1.length,d⟩]⟩) L.length
  (s0:=⟨[(3,.ptr 0 0 0 0),(5,.ref 1 0 0 0),(6,QV false),(9,VB L),(10,Qa L.length),(11,Qa 0)],[⟨.one,0,14,1,λ_=>x.cells⟩,⟨.arr,0,14,0,λ_=>[]⟩]⟩)
  (Qs.trans (Qs.vr 5 14 (λi=>[]) rfl) (Qs.to 2 (by (simp only[go_sem])<;>simp))) ⟨0,0,λ_=>[],.nil,rfl⟩ ?_
 rintro i s y ⟨g,b,d,k,rfl⟩;have I:=QjQ L x i;have q:=JJ (show i<4611686018427387904 from ω);apply Qg B;first|refine WN y (λr=>?_) (λr=>?_)|refine WO y (λr=>?_) (λr=>?_)
 obtain⟨M,C⟩:=Zc ((putAt L x i).1);obtain⟨l,E⟩:=Zc ((putAt L x i).2);obtain⟨e,z⟩:=Zc (L.getD i default);have o:putAt L x (i+1)=(if e.iD≠x.iD then (if !l&&decide (x.iD<=e.iD) then M++[x] else M)++[e] else (if !l&&decide (x.iD<=e.iD) then M++[x] else M),l || decide (x.iD<=e.iD)):=by rw[C,E,z];rfl
 rw[<-C]at k I ⊢;rw[<-E];have p:M.length<=4294967295:=ω;have K:M.length+1<=4294967295:=ω;have n:Wb Ql.cells (M++[x]) 0 (J8 M.length b d λ_=>x.cells):=k.app x rfl;have t:Wb Ql.cells (M++[e]) 0 (J8 M.length b d λ_=>e.cells):=k.app e rfl;have u:Wb Ql.cells (M++[x]++[e]) 0 (J8 (M++[x]).length 0 (J8 M.length b d λ_=>x.cells) λ_=>e.cells):=n.app e rfl;have v:(M++[x]).length=M.length+1:=σ;simp only[go_sem,r,<-z];obtain rfl|rfl:l=true\/l=false:=by cases l<;>simp
 simp only[go_sem];by_cases c:e.iD=x.iD;have a:putAt L x (i+1)=(M,true):=by rw[o];simp[c]
 simp only[go_sem,WQ c,bne];repeat (refine And.intro ω ?_)
 refine⟨_,Qs.to 2 ⟨?_,by simp only[go_sem],?_,?_⟩,g,b,_,by rw[a];exact k,rfl⟩;simp only[go_sem,q,a];exact⟨λj _=>Ek x,λj h=>(k).upto Ek j (by have f:=h;simp only[a]at f;simpa using f),trivial⟩;simp only[go_sem,a];have a:putAt L x (i+1)=(M++[e],true):=by rw[o];simp[c]
 simp only[go_sem,VY c,bne,p];repeat (refine And.intro ω ?_)
 refine⟨_,Qs.to 2 ⟨?_,by simp only[go_sem],?_,?_⟩,(g+1),0,_,by rw[a];exact t,rfl⟩;simp only[go_sem,q,a,Zn,K9];exact⟨λj _=>Ek x,λj h=>(t).upto Ek j (by have f:=h;simp only[a]at f;simpa using f),trivial⟩;simp only[go_sem,a,Zn,K9];simp only[go_sem];by_cases m:x.iD<=e.iD;simp only[go_sem,p,m];by_cases c:e.iD=x.iD;have a:putAt L x (i+1)=(M++[x],true):=by rw[o];simp[c]
 simp only[go_sem,WQ c,bne];repeat (refine And.intro ω ?_)
 refine⟨_,Qs.to 2 ⟨?_,by simp only[go_sem],?_,?_⟩,(g+1),0,_,by rw[a];exact n,rfl⟩;simp only[go_sem,q,a,Zn,K9];exact⟨λj _=>Ek x,λj h=>(n).upto Ek j (by have f:=h;simp only[a]at f;simpa using f),trivial⟩;simp only[go_sem,a,Zn,K9];have a:putAt L x (i+1)=(M++[x]++[e],true):=by rw[o];simp[c,m]
 simp only[go_sem,VY c,bne];rw[v]at u;repeat (refine And.intro ω ?_)
 refine⟨_,Qs.to 2 ⟨?_,by simp only[go_sem],?_,?_⟩,(g+1+1),0,_,by rw[a];exact u,rfl⟩;simp only[go_sem,q,a,Zn,K9];exact⟨λj _=>Ek x,λj h=>(u).upto Ek j (by have f:=h;simp only[a]at f;simpa using f),trivial⟩;simp only[go_sem,a,Zn,K9];simp only[go_sem,m];by_cases c:e.iD=x.iD;exact absurd ω m;have a:putAt L x (i+1)=(M++[e],false):=by rw[o];simp[c,m]
 simp only[go_sem,VY c,bne,p];repeat (refine And.intro ω ?_)
 refine⟨_,Qs.to 2 ⟨?_,by simp only[go_sem],?_,?_⟩,(g+1),0,_,by rw[a];exact t,rfl⟩;simp only[go_sem,q,a,Zn,K9];exact⟨λj _=>Ek x,λj h=>(t).upto Ek j (by have f:=h;simp only[a]at f;simpa using f),trivial⟩;simp only[go_sem,a,Zn,K9];have m:i=L.length:=ω;subst m;have p:(putAt L x L.length).1.length<=4294967295:=ω;have n:Wb Ql.cells ((putAt L x L.length).1++[x]) 0 (J8 (putAt L x L.length).1.length b d λ_=>x.cells):=k.app x rfl;apply Qg B;by_cases c:(putAt L x L.length).2=true;have e:CI L x=(putAt L x L.length).1:=by rw[CI,Qe c]
 simp only[go_sem,c];rw[e];exact⟨k.uP,g,b,_,rfl,rfl,k.uO⟩;have e:CI L x=(putAt L x L.length).1++[x]:=by rw[CI,Qd c]
 simp only[Yx]at c;simp only[go_sem,c,p];rw[e];refine⟨λj h=>(by have H:=n.uP j (zC h);simpa only[go_sem] using H),g+1,0,_,?_,?_,n.uO⟩;simp;rw[JG,Zn,K9];simp only[go_sem]
def uR(L:List Ql)(x)(a:L.length<1000000):QM prog 86 [VB L,Xc x] (QR (VB (CI L x))):=lO (λ_=>rfl) (Qz7 L x a)
def QjR(L:List Ql)(a)(b:L.length<1000000):QM prog 32 [VB L,Qa a] (QR (ints (ZZ L 70 a))):=lO (λ_=>rfl) (QxU L a b)
def uS(L:List Ql)(a)(b:L.length<1000000):QM prog 87 [VB L,Qa a] (QR (ints (KZ L a))):=lO (λ_=>rfl) (QxT L a b)
def Gk(L:List Ql)(x:Ql):Int:=
 if Cn x≠0 then Cn x else if 0<=zB L x.iD then 8 else if L.length=64 then 5
 else if x.parent≠0/\(zB L x.parent<0\/((Qw L x.parent).getD default).leaf=true) then 23
 else if 1<QJ x.ls/\Vs L x.parent=false then 29 else if 16<=(ZZ L 70 x.parent).length then 25 else 0
def Qz9(L:List Ql)(x:Ql)(e:L.length<1000000)(p:∀c∈L,c.Nn)(f:x.Nn):QM prog 56 [VB L,Xc x] (QR (.agg [VB (if Gk L x=0 then CI L x else L),Qa (Gk L x)])):=by
 have s:Cn x≠0\/Cn x=0:=ω;have t:¬ ((-1:Int) >= 0):=ω;have o:True:=trivial;rcases UA L x.parent with ⟨l,g⟩|⟨i,q,g,l⟩
 .obtain⟨E,j⟩:=Zc (Gk L x);rw[<-j];rw[Gk,l,g]at j;refine Q1 0 func56 ntmps56 results56 λk w a=>?_;simp only[go_sem]
  repeat' (first|((first|apply zg|apply zj|apply zk|apply VX|apply zl|apply zn|apply zo|apply ze)<;>intro h<;>(try simp only[go_sem,Go.undef]))|(refine And.intro η ?_;try simp only[go_sem,Go.undef,g])|(refine X2 a fW rfl ?_ (gO x f) (QR.flat rfl) rfl ?_;(· simp only[go_sem]);intro d h b;obtain⟨rfl,rfl⟩:=b;apply Qh a;simp only[go_sem])|(refine X2 a A9 rfl ?_ (Bl L x.iD e) (QR.flat rfl) rfl ?_;(· simp only[go_sem]);intro d h b;obtain⟨rfl,rfl⟩:=b;apply Qh a;simp only[go_sem])|(refine X2 a A9 rfl ?_ (Bl L x.parent e) (QR.flat rfl) rfl ?_;(· simp only[go_sem]);intro d h b;obtain⟨rfl,rfl⟩:=b;apply Qh a;simp only[go_sem,Go.undef,g])|(refine X2 a yO rfl ?_ (FL x.ls f.2.1.1 f.2.1.2.1 f.2.1.2.2) (QR.flat rfl) rfl ?_;(· simp only[go_sem]);intro d h b;obtain⟨rfl,rfl⟩:=b;apply Qh a;simp only[go_sem,Go.undef])|(refine X2 a fX rfl ?_ (iO L x.parent e p) (QR.flat rfl) rfl ?_;(· simp only[go_sem]);intro d h b;obtain⟨rfl,rfl⟩:=b;apply Qh a;simp only[go_sem])|(refine Xn a [] QfZ rfl ?_ (QjR L x.parent e) rfl ?_;(· simp only[go_sem]);intro d h b;obtain⟨rfl,rfl⟩:=b;(simp only[go_sem]);apply Qh a;simp only[go_sem])|(refine Xn a [] p9 rfl ?_ (uR L x e) rfl ?_;(· simp only[go_sem]);intro d h b;obtain⟨rfl,rfl⟩:=b;(simp only[go_sem]);apply Qh a;simp only[go_sem])|fail)
  all_goals (have r:((L.length:Int)=64↔L.length=64):=(by omega);have n : (((ZZ L 70 x.parent).length : Int) >= 16 ↔ 16 <= (ZZ L 70 x.parent).length) :=(by omega);have m : (((ZZ L 70 x.parent).length : Int) < 16 ↔ (ZZ L 70 x.parent).length < 16) :=(by omega);simp_all)
 .obtain⟨E,j⟩:=Zc (Gk L x);rw[<-j];rw[Gk,l,g]at j;refine Q1 0 func56 ntmps56 results56 λk w a=>?_;simp only[go_sem]
  repeat' (first|((first|apply zg|apply zj|apply zk|apply VX|apply zl|apply zn|apply zo|apply ze)<;>intro h<;>(try simp only[go_sem,Go.undef,q]))|(refine And.intro η ?_;try simp only[go_sem,Go.undef,g,q])|(refine X2 a fW rfl ?_ (gO x f) (QR.flat rfl) rfl ?_;(· simp only[go_sem]);intro d h b;obtain⟨rfl,rfl⟩:=b;apply Qh a;simp only[go_sem])|(refine X2 a A9 rfl ?_ (Bl L x.iD e) (QR.flat rfl) rfl ?_;(· simp only[go_sem]);intro d h b;obtain⟨rfl,rfl⟩:=b;apply Qh a;simp only[go_sem])|(refine X2 a A9 rfl ?_ (Bl L x.parent e) (QR.flat rfl) rfl ?_;(· simp only[go_sem]);intro d h b;obtain⟨rfl,rfl⟩:=b;apply Qh a;simp only[go_sem,Go.undef,g])|(refine X2 a yO rfl ?_ (FL x.ls f.2.1.1 f.2.1.2.1 f.2.1.2.2) (QR.flat rfl) rfl ?_;(· simp only[go_sem]);intro d h b;obtain⟨rfl,rfl⟩:=b;apply Qh a;simp only[go_sem,Go.undef])|(refine X2 a fX rfl ?_ (iO L x.parent e p) (QR.flat rfl) rfl ?_;(· simp only[go_sem]);intro d h b;obtain⟨rfl,rfl⟩:=b;apply Qh a;simp only[go_sem])|(refine Xn a [] QfZ rfl ?_ (QjR L x.parent e) rfl ?_;(· simp only[go_sem]);intro d h b;obtain⟨rfl,rfl⟩:=b;(simp only[go_sem]);apply Qh a;simp only[go_sem])|(refine Xn a [] p9 rfl ?_ (uR L x e) rfl ?_;(· simp only[go_sem]);intro d h b;obtain⟨rfl,rfl⟩:=b;(simp only[go_sem]);apply Qh a;simp only[go_sem])|fail)
  all_goals (have r:((L.length:Int)=64↔L.length=64):=(by omega);have n : (((ZZ L 70 x.parent).length : Int) >= 16 ↔ 16 <= (ZZ L 70 x.parent).length) :=(by omega);have m : (((ZZ L 70 x.parent).length : Int) < 16 ↔ (ZZ L 70 x.parent).length < 16) :=(by omega);simp_all)
def CQ(L:List Ql)(a:Int):Int:=if zB L a<0 then 6 else if KZ L a≠[] then 23 else 0
def uT{b:Type}[Inhabited b](L:List b)(g)(i:Nat)(h:i<L.length):(L.take (i+1)).filter g=if g (L.getD i default)=true then (L.take i).filter g++[L.getD i default] else (L.take i).filter g:=by rw[zQ,QH h];simp only[BM,EU,QU,QH h,Va];by_cases a:g L[i]=true;rw[Qe a,Le a];rfl;rw[Qd a,Ld a];simp
def QjT{a:Type}(L:List a)(g:a->Bool)(i:Nat):((L.take i).filter g).length<=i:=by have:=Yg g (L.take i);simp at this;omega
def QAb(L:List Ql)(b)(r:L.length<1000000):QM prog 57 [VB L,Qa b] (QR (.agg [VB (if CQ L b=0 then WE L b else L),Qa (CQ L b)])):=by
 by_cases n:zB L b<0
 .have e:CQ L b=6:=by rw[CQ,Qe n]
  rw[e];refine Q1 0 func57 ntmps57 results57 λo w k=>?_;simp only[go_sem,-Nat.reducePow];refine WR k A9 ?_ (Bl L b r) ?_;simp only[go_sem,-Nat.reducePow];apply Qh k;simp only[go_sem,-Nat.reducePow,QY n];all_goals rfl
 .by_cases t:KZ L b=[];have e:CQ L b=0:=by rw[CQ,Qd n,Qd (zC t)]
  rw[e];refine Qz6 (sz:=14) (enc:=Ql.cells) (L:=if (0:Int)=0 then WE L b else L) (v:=.int .i64 0) (λ_=>rfl) ?_;refine pO [1] rfl Vr 200 func57 rfl ntmps57 results57 rfl λo w k=>?_;simp only[go_sem,-Nat.reducePow];refine WR k A9 ?_ (Bl L b r) ?_;simp only[go_sem,-Nat.reducePow];apply Qh k;simp only[go_sem,-Nat.reducePow,QN n];refine Xn k [] rb rfl ?_ (uS L b r) rfl λd h C=>?_;simp only[go_sem,-Nat.reducePow];obtain⟨rfl,rfl⟩:=C;simp only[go_sem,-Nat.reducePow,t];apply Qh k;simp only[go_sem,-Nat.reducePow];obtain⟨g,B⟩:∃g:Ql->Bool,g=λc=>c.iD != b:=⟨_,rfl⟩;have P:WE L b=(L.take L.length).filter g:=by rw[Wo,B];rfl
  rw[P];refine ZY (λi s=>∃q f m,Wb Ql.cells ((L.take i).filter g) f m/\s=⟨[(1,Qa b),(4,.ptr 0 0 0 0),(5,.ref 1 q f ((L.take i).filter g).length),(21,VB L),(22,Qa L.length),(23,Qa i)],[⟨.one,0,2,1,λ_=>[.nil,Qa 0]⟩,⟨.arr,q,14,f+((L.take i).filter g).length,m⟩]⟩) L.length
   (s0:=⟨[(1,Qa b),(4,.ptr 0 0 0 0),(5,.ref 1 0 0 0),(21,VB L),(22,Qa L.length),(23,Qa 0)],[⟨.one,0,2,1,λ_=>[.nil,Qa 0]⟩,⟨.arr,0,14,0,λ_=>[]⟩]⟩)
   (Qs.trans (Qs.vr 5 14 (λi=>[]) rfl) (Qs.to 2 (by (simp only[go_sem,-Nat.reducePow])<;>simp))) ⟨0,0,λ_=>[],.nil,rfl⟩ ?_
  rintro i s E ⟨q,f,m,p,rfl⟩;have K:=QjT L g i;have J:=JJ (show i<4611686018427387904 from ω);apply Qh k;simp only[go_sem,-Nat.reducePow];first|refine WN E (λx=>?_) (λx=>?_)|refine WO E (λx=>?_) (λx=>?_)
  have l:=uT L g i x;obtain⟨M,H⟩:=Zc ((L.take i).filter g);obtain⟨c,F⟩:=Zc (L.getD i default);rw[<-H,<-F]at l;rw[<-H]at p K ⊢;simp only[go_sem,-Nat.reducePow,x,<-F];by_cases y:c.iD=b;rw[Qd (by rw[B];simpa using y)]at l;simp only[go_sem,-Nat.reducePow,WQ y,bne];repeat (refine And.intro ω ?_)
  refine⟨_,Qs.to 2 ⟨?_,by simp only[go_sem,-Nat.reducePow],?_,?_⟩,q,f,_,by rw[l];exact p,rfl⟩;simp only[go_sem,-Nat.reducePow,J,l];exact⟨λj _=>rfl,λj z=>(p).upto (λa=>rfl) j (by have u:=z;simp only[l]at u;simpa using u),trivial⟩;simp only[go_sem,-Nat.reducePow,l];rw[Qe (by rw[B];simpa using y)]at l;have O:M.length<=4294967295:=ω;have I:Wb Ql.cells (M++[c]) 0 (J8 M.length f m λ_=>c.cells):=p.app c rfl;simp only[go_sem,-Nat.reducePow,VY y,bne,O];repeat (refine And.intro ω ?_)
  refine⟨_,Qs.to 2 ⟨?_,by simp only[go_sem,-Nat.reducePow],?_,?_⟩,(q+1),0,_,by rw[l];exact I,rfl⟩;simp only[go_sem,-Nat.reducePow,J,l,Zn,K9];exact⟨λj _=>rfl,λj z=>(I).upto (λa=>rfl) j (by have u:=z;simp only[l]at u;simpa using u),trivial⟩;simp only[go_sem,-Nat.reducePow,l,Zn,K9];have n:i=L.length:=ω;subst n;apply Qh k;simp only[go_sem,-Nat.reducePow];exact⟨p.uP,q,f,_,rfl,rfl,p.uO⟩
  .have e:CQ L b=23:=by rw[CQ,Qd n,Qe t]
   have N:(((KZ L b).length:Int) > 0):=by have:=Sr.2 t;omega
   have Q:0<(KZ L b).length:=Sr.2 t;rw[e];refine Q1 0 func57 ntmps57 results57 λo w k=>?_;simp only[go_sem,-Nat.reducePow];refine WR k A9 ?_ (Bl L b r) ?_;simp only[go_sem,-Nat.reducePow];apply Qh k;simp only[go_sem,-Nat.reducePow,QN n];refine Xn k [] rb rfl ?_ (uS L b r) rfl λd h C=>?_;simp only[go_sem,-Nat.reducePow];obtain⟨rfl,rfl⟩:=C;simp only[go_sem,-Nat.reducePow];apply Qh k;simp only[go_sem,-Nat.reducePow,QY N];all_goals rfl
def Np(L:List Ql)(x:Ql):Int:=
 if Cn x≠0 then Cn x else if zB L x.iD<0 then 6
 else if ¬ (((Qw L x.iD).getD default).parent=x.parent/\((Qw L x.iD).getD default).leaf=x.leaf) then 1
 else if 1<QJ x.ls/\Vs L x.parent=false then 29
 else if ¬ 1<QJ x.ls/\((KZ L x.iD).any λid=>Vs L id)=true then 29 else 0
def QjU(l:List Int)(p):∀i,i<=l.length->((∀k,k<i->p (l.getD k 0)=false)↔(l.take i).any p=false)
 | 0,_=>σ
 | i+1,h=>by have c:=QjU l p i ω;have b:i<l.length:=ω;rw[zQ,QH b,List.any_append,EP,<-c];simp only[BM,List.any_cons,List.any_nil,Bool.or_false];constructor;intro a;refine⟨λk d=>a k ω,?_⟩;have:=a i ω;simpa[QU,b] using this;rintro⟨a,e⟩ k d;rcases xI k i with h3|h3;exact a k h3;have:k=i:=ω;subst this;simpa[QU,b] using e
def QAc(L:List Ql)(x:Ql)(g:L.length<1000000)(F:∀c∈L,c.Nn)(m:x.Nn):QM prog 58 [VB L,Xc x] (QR (.agg [VB (if Np L x=0 then CI L x else L),Qa (Np L x)])):=by
 obtain⟨E,o⟩:=Zc (Np L x);rw[<-o];obtain⟨e,v⟩:=Zc (KZ L x.iD);have N:e.length<=L.length:=by rw[v,KZ];simp;exact Yg _ _
 rw[Np,<-v]at o;rcases UA L x.iD with ⟨I,f⟩|⟨i,y,f,I⟩
 .rw[f]at o;refine Q1 0 func58 ntmps58 results58 λr w a=>?_;simp only[go_sem]
  repeat' (first|((first|apply zg|apply zj|apply zk|apply VX|apply zl|apply zn|apply zo|apply ze)<;>intro h<;>(try simp only[go_sem]))|(refine And.intro η ?_;try simp only[go_sem,Go.undef,f])|(refine X2 a fW rfl ?_ (gO x m) (QR.flat rfl) rfl ?_;(· simp only[go_sem]);intro d h b;obtain⟨rfl,rfl⟩:=b;apply Qh a;simp only[go_sem])|(refine X2 a A9 rfl ?_ (Bl L x.iD g) (QR.flat rfl) rfl ?_;(· simp only[go_sem]);intro d h b;obtain⟨rfl,rfl⟩:=b;apply Qh a;simp only[go_sem,f])|fail)
  all_goals simp_all
 .rw[f,I]at o;obtain⟨C,u⟩:=Zc (L.getD i default);rw[<-u,Va]at o;have B:∀j,j<e.length->Vs L (e.getD j 0)=true->(e.any λid=>Vs L id)=true:=λj n K=>j6.2 ⟨e.getD j 0,by rw[QU,QH n];exact XK n,K⟩;have J:(∀k,k<e.length->(!decide (1<QJ x.ls)&&Vs L (e.getD k 0))=false)->¬ (¬ 1<QJ x.ls/\(e.any λid=>Vs L id)=true):=by
   rintro h ⟨q,p⟩;have H:=(QjU e (λid=>Vs L id) e.length (Qv _)).1 λk t=>by have:=h k t;rw[QN q]at this;simpa using this
   rw[Wo,p]at H;cases H
  refine Q1 0 func58 ntmps58 results58 λr w a=>?_;simp only[go_sem]
  repeat' (first|((first|apply zg|apply zj|apply zk|apply VX|apply zl|apply zn|apply zo|apply ze)<;>intro h<;>(try simp only[go_sem,Go.undef,y,<-u]))|(refine And.intro η ?_;try simp only[go_sem,Go.undef,f,y,<-u])|(refine X2 a fW rfl ?_ (gO x m) (QR.flat rfl) rfl ?_;(· simp only[go_sem]);intro d h b;obtain⟨rfl,rfl⟩:=b;apply Qh a;simp only[go_sem])|(refine X2 a A9 rfl ?_ (Bl L x.iD g) (QR.flat rfl) rfl ?_;(· simp only[go_sem]);intro d h b;obtain⟨rfl,rfl⟩:=b;apply Qh a;simp only[go_sem,f])|(refine Qen Vr a 200 mixed [(0,true),(1,true),(2,true),(3,true),(4,true),(5,true),(6,true),(7,true),(8,true),(9,true),(10,true),(11,true),(12,true),(13,true),(14,true),(15,true),(16,true),(17,true)] ?_ ?_ ?_;(· kernel_rfl);(· kernel_rfl);simp only[go_sem,Go.undef,y,<-u])|(refine X2 a yO rfl ?_ (FL x.ls m.2.1.1 m.2.1.2.1 m.2.1.2.2) (QR.flat rfl) rfl ?_;(· simp only[go_sem]);intro d h b;obtain⟨rfl,rfl⟩:=b;apply Qh a;simp only[go_sem,Go.undef])|(refine X2 a fX rfl ?_ (iO L x.parent g F) (QR.flat rfl) rfl ?_;(· simp only[go_sem]);intro d h b;obtain⟨rfl,rfl⟩:=b;apply Qh a;simp only[go_sem])|(refine Xn a [] rb rfl ?_ (v▸uS L x.iD g) rfl ?_;(· simp only[go_sem]);intro d h b;obtain⟨rfl,rfl⟩:=b;(simp only[go_sem]);apply Qh a;simp only[go_sem])|fail)
  all_goals try (simp_all;done)
  all_goals
   refine ZY (λj s=>(∀k,k<j->(!decide (1<QJ x.ls)&&Vs L (e.getD k 0))=false)/\s=⟨[(0,VB L),(3,.ptr 0 0 0 0),(4,.ptr 1 0 0 0),(7,QV (decide (1<QJ x.ls))),(62,ints e),(63,Qa e.length),(64,Qa j)],[⟨.one,0,14,1,λ_=>x.cells⟩,⟨.one,0,2,1,λ_=>[.nil,Qa 0]⟩]⟩) e.length (Qs.to 2 (by (simp only[go_sem])<;>simp)) ⟨λk t=>ω,rfl⟩ ?_;rintro j s n ⟨z,rfl⟩;have M:=JJ (show j<4611686018427387904 from ω);apply Qg a;first|refine WN n (λl=>?_) (λl=>?_)|refine WO n (λl=>?_) (λl=>?_)
   .simp only[go_sem,l]
    repeat' (first|((first|apply zg|apply zj|apply zk|apply VX|apply zl|apply zn|apply zo|apply ze)<;>intro h<;>(try simp only[go_sem,Go.undef]))|(refine And.intro η ?_;try simp only[go_sem,Go.undef])|(refine X2 a fX rfl ?_ (iO L (e.getD j 0) g F) (QR.flat rfl) rfl ?_;(· simp only[go_sem]);intro d h b;obtain⟨rfl,rfl⟩:=b;apply Qh a;simp only[go_sem])|fail)
    all_goals first
     | (refine⟨_,Qs.to 2 (by (simp only[go_sem,M])<;>simp),λk t=>?_,rfl⟩;rcases xJ.1 t with q|rfl;(· exact z k q);(· simp_all;done))
     | (have q:=B j l;simp_all;done)
   .subst l;have q:=J z;have p:E=0:=by simp_all
    clear J z B;apply Qg a
    repeat' (first|((first|apply zg|apply zj|apply zk|apply VX|apply zl|apply zn|apply zo|apply ze)<;>intro h<;>(try simp only[go_sem,Go.undef,p]))|(refine And.intro η ?_;try simp only[go_sem,Go.undef,p])|(refine Xn a [] p9 rfl ?_ (uR L x g) rfl ?_;(· simp only[go_sem]);intro d h b;obtain⟨rfl,rfl⟩:=b;(simp only[go_sem,p]);apply Qh a;simp only[go_sem])|fail)
    all_goals (first|rfl|(simp_all;done))
def xm(g:Int->Bool)(l:List Int):List Int:=l.filter λx=>!g x
def QAd{g}{l:List Int}:(x8 g l=-1/\xm g l=l)\/∃i,i<l.length/\x8 g l=(i:Int)/\g (l.getD i 0)=true/\(l.take (i+1)).filter (λx=>!g x)=l.take i:=by
 unfold x8;cases h:l.findIdx? g with
 | none=>refine .inl ⟨rfl,yx.2 λx hx=>?_⟩;simp[EV.1 h x hx]
 | some i=>obtain⟨a,b,d⟩:=Di.1 h;refine .inr ⟨i,a,rfl,by simpa[QU,a] using b,?_⟩;rw[uT l _ i a,Qd (by simpa[QU,a] using b)];refine yx.2 λx hx=>?_;obtain⟨j,c,rfl⟩:=j8 hx;simp at c;simpa using d j ω
section
variable (h:List Ob)(l:List Int)(lo gn off:Nat)(row:Nat->List D)(hlen:l.length<1000000)(ho:h[lo]?=some ⟨.arr,gn,1,off+l.length,row⟩)(hr:∀i,i<l.length->row (off+i)=[Qa (l.getD i 0)])
include hlen ho hr
end
def Jv(c:Cv):Nc:=⟨c.m1.toNat,c.d.toNat,c.m2.toNat⟩
def QAe{c:Cv}(h:c.Nn):((Jv c).a:Int)=c.m1:=ET h.1
def QAf{c:Cv}(h:c.Nn):((Jv c).d:Int)=c.d:=ET h.2.1
def QAg{c:Cv}(h:c.Nn):((Jv c).b:Int)=c.m2:=ET h.2.2
def QjV{c:Cv}(h:c.Nn):(Jv c).cells=c.cells:=by simp only[Nc.cells,Cv.cells,u64,QAe h,QAf h,QAg h]
def El(x:Ql):Bool:=decide (1<QJ x.rt)
def Vl(L:List Ql):List Nc:=(L.filter El).map λx=>Jv x.rt
def uV(L:List Ql):(Vl L).length<=L.length:=by have:=Yg El L;unfold Vl;rw[KJ];exact this
def QAh(L:List Ql){i}(b:i<L.length):Vl (L.take (i+1))=if El (L.getD i default)=true then Vl (L.take i)++[Jv (L.getD i default).rt] else Vl (L.take i):=by unfold Vl;rw[zQ,QH b];simp only[BM,EU,zP,QU,QH b,Va];by_cases a:El L[i]=true;rw[Qe a,Le a];rfl;rw[Qd a,Ld a];simp
theorem uW(c:Nc):xP 1 c.cells=true:=rfl
def QAi(L:List Ql)(E:L.length<1000000)(y:∀c∈L,c.Nn):QM prog 38 [VB L] (Uz 3 Nc.cells (Vl L)):=by
 refine Q1 1 func38 ntmps38 results38 λx w m=>?_;simp only[go_sem];refine ZY (λi s=>∃g a d,Wb Nc.cells (Vl (L.take i)) a d/\s=⟨[(3,.ref 0 g a (Vl (L.take i)).length),(6,VB L),(7,Qa L.length),(8,Qa i)],[⟨.arr,g,3,a+(Vl (L.take i)).length,d⟩]⟩) L.length
  (s0:=⟨[(3,.ref 0 0 0 0),(6,VB L),(7,Qa L.length),(8,Qa 0)],[⟨.arr,0,3,0,λ_=>[]⟩]⟩)
  (Qs.trans (Qs.vr 3 3 (λi=>[]) rfl) QP) ⟨0,0,λ_=>[],.nil,rfl⟩ ?_
 rintro i s t ⟨g,a,d,f,rfl⟩;have B:(Vl (L.take i)).length<=i:=by have:=uV (L.take i);simp at this;omega
 have v:=JJ (show i<4611686018427387904 from ω);apply Qg m;first|refine WN t (λh=>?_) (λh=>?_)|refine WO t (λh=>?_) (λh=>?_)
 obtain⟨M,u⟩:=Zc (Vl (L.take i));obtain⟨e,q⟩:=Zc (L.getD i default);have n:e.Nn:=y e (by rw[q,QU,QH h];exact XK h);have b:=QAh L h;rw[<-u,<-q]at b;rw[<-u]at f B ⊢;have C:M.length<=4294967295:=ω;simp only[go_sem,h,<-q];apply QZ m yO (FL e.rt n.1.1 n.1.2.1 n.1.2.2);apply Qg m;by_cases l:1<QJ e.rt;have o:El e=true:=QY l;rw[Qe o]at b;have r:=f.app (Jv e.rt) (r2:=λ_=>(Jv e.rt).cells) rfl;rw[QjV n.1]at r;simp only[go_sem,QY l,C];repeat (refine And.intro ω ?_)
 refine⟨_,Qs.to 1 ⟨?_,by simp only[go_sem],?_,?_⟩,g+1,0,_,by rw[b];exact r,rfl⟩;simp only[go_sem,v,b,Zn,K9];exact⟨λj p=>r.upto uW j (by have k:=p;simp only[b]at k;simpa using k),trivial⟩;simp only[go_sem,b,Zn,K9];have o:¬ El e=true:=by unfold El;simpa using l
 rw[Qd o]at b;simp only[go_sem,QN l];repeat (refine And.intro ω ?_)
 refine⟨_,Qs.to 1 ⟨?_,by simp only[go_sem],?_,?_⟩,g,a,_,by rw[b];exact f,rfl⟩;simp only[go_sem,v,b];exact⟨λj p=>f.upto uW j (by have k:=p;simp only[b]at k;simpa using k),trivial⟩;simp only[go_sem,b];have z:i=L.length:=ω;subst z;rw[Wo]at f ⊢;apply Qg m;exact⟨f.upto uW,g,a,d,rfl,rfl,f⟩
def QAj(L:List Ql)(d:L.length<1000000)(b:∀c∈L,c.Nn):QM prog 38 [VB L] (QR (K0 (Vl L))):=lO (λa=>rfl) (QAi L d b)
section
variable (h:List Ob)(t m c:Nat){es:List ZL}{L:List Ql}(T:VJ es L)(hlen:L.length<1000000)
 (ht:(h.map Ob.ro)[t]?=some ⟨.Wp,0,1,1,λ_=>[.mref m 0]⟩) (hm:(h.map Ob.ro)[m]?=some (QT .i64 c es).ro)
include T ht hm hlen
theorem QAk(hn:∀c∈L,c.Nn):Xo prog 98 h [.ptr t 0 0 0] (λd g=>(d=.nil/\Vl L=[])\/∃f n k,d=.ref f n 0 (Vl L).length/\h.length<=f/\(h++g)[f]?=some ⟨.arr,n,3,(Vl L).length,k⟩/\Wb Nc.cells (Vl L) 0 k):=by
 refine Cg Vr 200 func98 rfl ntmps98 results98 rfl λy w pl F Y Z b=>?_;rw[<-Y]at ht hm;have Jp:=Qb ht;have Zq:=Qb hm;simp only[go_sem];have hT:TJ (F.map Ob.ro) 107 0 [] El:=λh' x yI=>by refine ZN func107 ntmps107 results107 λy w pl F Y Z b=>?_;simp only[go_sem,Qj];apply QZ b gj (gM x.rt);apply Kh b;exact⟨_,rfl,rfl⟩
 obtain⟨K,B⟩:=Zc (L.filter El);have kR:K.length<=L.length:=by rw[B];exact Yg _ _
 have v:Vl L=K.map λx=>Jv x.rt:=by rw[B];rfl
 refine HG b gi rfl ?_ (gQ _ t m c T hlen (Jf ht) (Mu hm) (.raw (.func (.func 107) ⟨[]⟩ ⟨[]⟩)) 107 0 [] DP rfl _ hT) rfl λd g U=>?_;simp only[go_sem];rw[<-B]at U;rcases U with ⟨rfl,h3⟩|⟨f,n,l,k,rfl,ZW,z,V⟩;have O:Vl L=[]:=by
  rw[v];have:K=[]:=by simpa using h3
  rw[this];rfl
 apply Qg b;refine ZY (λi s=>s=⟨[(3,.nil),(8,Qa 0),(9,Qa 0)],F++g⟩) 0 QP rfl ?_;rintro i s I rfl;apply Qg b;apply Qg b;exact⟨_,rfl,.inl O⟩;obtain⟨G,C⟩:=Zc (F++g);have H:VZ F G:=⟨g,C⟩;have r:=H.get ht;have u:=H.get hm;rw[<-C]at z ⊢;have R:=Qb r;have Q:=Qb u;have Qq:=Qb z;rw[KJ]at z V;have Rc:=H.len;apply Qg b;refine ZY (λi s=>∃j o a,Wb Nc.cells ((K.take i).map λx=>Jv x.rt) 0 o/\s=⟨[(0,.ptr t 0 0 0),(3,.ref G.length j 0 ((K.take i).map λx=>Jv x.rt).length),(7,.ref f n l K.length),(8,Qa K.length),(9,Qa i)],G++(⟨.arr,j,3,((K.take i).map λx=>Jv x.rt).length,o⟩::a)⟩) K.length
  (s0:=⟨[(0,.ptr t 0 0 0),(3,.ref G.length 0 0 0),(7,.ref f n l K.length),(8,Qa K.length),(9,Qa 0)],G++[⟨.arr,0,3,0,λ_=>[]⟩]⟩)
  (Qs.trans (Qs.vr 3 3 (λi=>[]) rfl) (Qs.frame (by simp only[go_sem,KJ]))) ⟨0,λ_=>[],[],.nil,rfl⟩ ?_
 rintro i s I ⟨j,o,a,E,rfl⟩;have QS:=JJ (show i<4611686018427387904 from ω);apply Qg b;first|refine WN I (λe=>?_) (λe=>?_)|refine WO I (λe=>?_) (λe=>?_)
 obtain⟨x,hx⟩:=Zc (K.getD i default);have q:x∈K:=by rw[hx,QU,QH e];exact XK e
 have p:x∈L:=by rw[B]at q;exact(JB.1 q).1
 have WH:Qw L x.iD=some x:=(VK T.sorted).2 ⟨p,rfl⟩;have YJ:=T.look x.iD;rw[WH,Kq]at YJ;have S:=V i (zC e);have P:(K.map (·.iD)).getD i 0=x.iD:=by rw[hx,QU,QU,KR,QH e];rfl
 rw[P]at S;have J:(K.take (i+1)).map (λx=>Jv x.rt)=(K.take i).map (λx=>Jv x.rt)++[Jv x.rt]:=by rw[zQ,QH e,hx,QU,QH e,zP];rfl
 obtain⟨M,W⟩:=Zc ((K.take i).map λx=>Jv x.rt);have a0:M.length<=i:=by rw[W,KJ,Og];omega
 have WG:M.length<=4294967295:=ω;rw[<-W]at J E ⊢;have Ab:=E.app (Jv x.rt) (r2:=λ_=>(Jv x.rt).cells) rfl;rw[QjV (hn x p).1]at Ab;simp only[go_sem,Qj,e,r,u,R,Q,z,Qq,S,YJ,WG];refine⟨ω,_,Qs.frame (fr':=[(0,.ptr t 0 0 0),(3,.ref G.length (j+1) 0 (M.length+1)),(7,.ref f n l K.length),(8,Qa K.length),(9,Qa (i+1:Nat))]) (by simp only[go_sem,QS]),j+1,_,a++[⟨.arr,0,3,1,λ_=>x.rt.cells⟩],by rw[J];exact Ab,?_⟩;rw[J,Zn];rfl;have h1:i=K.length:=ω;subst h1;rw[Wo,<-v]at E ⊢;apply Qg b;refine⟨g++(⟨.arr,j,3,(Vl L).length,o⟩::a),by rw[C,WJ],.inr ⟨G.length,j,o,rfl,ω,?_,E⟩⟩;have N:G.length=(h++g).length:=by rw[C,Zn,Zn,Z]
 rw[<-WJ,N,Ks (Qv _),YO];rfl
theorem QAp(p:∀c∈L,c.Nn):Zl prog 98 h [.ptr t 0 0 0] (λd=>d=K0 (Vl L)):=by
 refine QhL (K0 (Vl L)) (λk=>rfl) ?_ (QAk h t m c T hlen ht hm p);rintro d g (⟨rfl,r⟩|⟨e,j,b,rfl,u,o,l⟩);left;rw[r];simp only[go_sem];right;refine⟨e,j,3,_,b,u,o,λi f=>?_,?_⟩;obtain⟨a,q⟩:=l.all i (zC f);rw[q];rfl;have s:D.fz e j (Vl L).length 3 b (.ref e j 0 (Vl L).length)=.imm 3 (Vl L).length (rowFrom 0 b):=by simp[D.fz,Fz]
 rw[s];simp only[K0];rw[Tt];refine⟨rfl,rfl,λi f=>?_⟩;have n:=l.at_ i f;rw[JG]at n;rw[HC,JG,n,Nc.vN];exact vK (zw _) _
end
@[go_sem] def jI(n:Int):D:=.raw (.int .i64 n)
def Nq(d:Array Int):Nat->List D:=λi=>[jI d[i]!]
@[go_sem] theorem QAq(d:Array Int)(i):Nq d i=[jI d[i]!]:=rfl
@[go_sem] def CS(g:Nat)(d:Array Int):Ob:=⟨.arr,g,1,d.size,Nq d⟩
def QAr{h:List Ob}{a g d}(b:a<h.length):(h.set a (CS g d))[a]?=some (CS g d):=QI b
def QAs(g)(d:Array Int)(i n x)(c:d.size=n)(e:i<n):
  (⟨.arr,g,1,n,λk=>bif k==i then [.raw (.int .i64 x)] else [.raw (.int .i64 d[k]!)]⟩:Ob)=CS g (d.setIfInBounds i x):=by
 subst c;unfold CS;congr 1;simp;funext k;unfold Nq jI;by_cases a:k=i;subst a;simp[e];have f:(k==i)=false:=beq_eq_false_iff_ne.mpr a;rw[f];by_cases b:k<d.size;simp[b,Zb a];simp[b]
def QAt{h:List Ob}{a g}{d:Array Int}(n:h[a]?=some (CS g d))(hz:d.size<1000000000):
  QO prog 101 h [.ref a g 0 d.size] (λdd h'=>dd=.ref a g 0 (cN (λi=>d[i]!) d.size).length/\∃o,h'=h.set a ⟨.arr,g,1,d.size,o⟩/\(∀i,i<(cN (λi=>d[i]!) d.size).length->o i=[jI ((cN (λi=>d[i]!) d.size).getD i 0)])/\∀i,∃x,o i=[jI x]):=by
 by_cases c2:d.size<2;have I:decide ((d.size:Int)<2)=true:=QY ω;have l:(cN (λi=>d[i]!) d.size).length=d.size:=by have:d.size=0\/d.size=1:=ω;rcases this with h0|h0<;>rw[h0]<;>rfl
 rw[l];refine Q9 func101 ntmps101 results101 λr w pl b=>?_;have T:=Qb n;simp only[go_sem,I];exact⟨Nq d,(xj n).symm,λi c=>by rw[Ng _ _ l i c];rfl,λi=>⟨_,rfl⟩⟩;have I:decide ((d.size:Int)<2)=false:=QN ω;refine Q9 func101 ntmps101 results101 λr w pl b=>?_;have T:=Qb n;simp only[go_sem,I];refine ZY (λk z=>k+1<=d.size/\(cN (λi=>d[i]!) (k+1)).length=k+1/\z=⟨[(0,.ref a g 0 d.size),(3,Qa (k+1:Nat))],h⟩) d.size (s0:=⟨[(0,.ref a g 0 d.size),(3,Qa (0+1:Nat))],h⟩) QP ⟨ω,rfl,rfl⟩ ?_;rintro k _ hk ⟨Qf,p,rfl⟩;by_cases J:k+1<d.size;have F:decide (k+1<d.size)=true:=QY J;have v1:IntKind.i64.wrap (((k+1:Nat):Int)-1)=((k:Nat):Int):=ZE;have v2:IntKind.i64.wrap (((k+1:Nat):Int)+1)=((k+1+1:Nat):Int):=ZE;have p0:k<d.size:=ω;apply Qh b;simp only[go_sem,F];apply Qy b Eq;simp only[go_sem,n,v1,J,p0];by_cases zT:d[k+1]! = d[k]!;have L:(d[k+1]! == d[k]!)=true:=beq_iff_eq.mpr zT;have U:(cN (λi=>d[i]!) (k+1+1)).length=k+1:=by rw[cN,Qe ⟨ω,by simpa using zT⟩,p]
 have q0:k+1<=d.size:=ω;generalize hN:d.size-(k+1)=N;have v3:((d.size:Int)-((k+1:Nat):Int)).toNat=N:=ω;simp only[go_sem,L,q0,n,v3];refine ZY (λm z=>∃(d1:Array Int),d1.size=d.size/\m+1<=N/\(cN (λi=>d[i]!) (k+1+(m+1))).length<=k+1+m/\(∀i,i<(cN (λi=>d[i]!) (k+1+(m+1))).length->d1[i]! = (cN (λi=>d[i]!) (k+1+(m+1))).getD i 0)/\(∀j,(cN (λi=>d[i]!) (k+1+(m+1))).length<=j->d1[j]! = d[j]!)/\z=⟨[(0,.ref a g 0 d.size),(3,Qa (cN (λi=>d[i]!) (k+1+(m+1))).length),(4,.ref a g (k+1) N),(5,Qa (m+1:Nat))],h.set a (CS g d1)⟩) N (s0:=⟨[(0,.ref a g 0 d.size),(3,Qa (cN (λi=>d[i]!) (k+1+(0+1))).length),(4,.ref a g (k+1) N),(5,Qa (0+1:Nat))],h.set a (CS g d)⟩) ?_ ⟨d,rfl,ω,Nat.le_of_eq U,λi c=>?_,λj Q=>rfl,rfl⟩ ?_;rw[xj n,U];exact QP;rw[cN,Qe ⟨ω,by simpa using zT⟩]at c ⊢;exact(Ng _ _ p i ω).symm;rintro m _ hm ⟨d1,f,a0,PG,K,v,rfl⟩;have q:=QAr (g:=g) (d:=d1) T;have u:cN (λi=>d[i]!) (k+1+(m+1+1))=if d[k+1+(m+1)]! = d[k+1+m]! then cN (λi=>d[i]!) (k+1+(m+1)) else cN (λi=>d[i]!) (k+1+(m+1))++[d[k+1+(m+1)]!]:=by rw[show k+1+(m+1+1)=(k+1+(m+1))+1 by omega,cN];simp
 generalize R:cN (λi=>d[i]!) (k+1+(m+1))=C at *;generalize E:h.set a (CS g d1)=H at q;have Ef:=Qb q;by_cases t:m+1<N;have em:decide (m+1<N)=true:=QY t;have P:=v (k+1+(m+1)) ω;have r2:=v (k+1+m) ω;have O:k+1+(m+1)<d.size:=ω;have u2:k+1+m<d.size:=ω;have Z:m<N:=ω;have W:IntKind.i64.wrap (((m+1:Nat):Int)-1)=(m:Int):=ZE;have M:IntKind.i64.wrap (((m+1:Nat):Int)+1)=((m+1+1:Nat):Int):=ZE;have V:IntKind.i64.wrap ((C.length:Int)+1)=((C.length+1:Nat):Int):=ZE;apply Qh b;simp only[go_sem,em];apply Qy b Eq;simp only[go_sem,q,f,W,t,O,u2,Z,P,r2];by_cases s:d[k+1+(m+1)]! = d[k+1+m]!;have B:(d[k+1+(m+1)]! != d[k+1+m]!)=false:=by rw[s];exact bne_self_eq_false _
 rw[Qe s]at u;simp only[go_sem,B,M];rw[u];refine⟨ω,_,?_,d1,f,ω,ω,K,v,rfl⟩;rw[<-E];exact QP;have B:(d[k+1+(m+1)]! != d[k+1+m]!)=true:=bne_iff_ne.mpr s;have y:C.length<d.size:=ω;rw[Qd s]at u;simp only[go_sem,B,M,V,q,f,O,t,y,P];rw[QAs g d1 _ _ _ f y,u];refine⟨ω,_,?_,d1.setIfInBounds C.length d[k+1+(m+1)]!,by simp;exact f,ω,ξ,λi c=>?_,λj Q=>?_,rfl⟩;rw[<-E,J4,Zn,K9];exact QP;simp only[Zn,K9]at c;by_cases e:i=C.length;subst e;rw[QU,Ks (Qv _),YO];simp[f,y];rw[QU,JX ω,<-QU,<-K i ω];simp[Zb e,N7,yw];simp only[Zn,K9]at Q;rw[<-v j ω];simp[show C.length≠j by omega,N7,yw];have em:decide (m+1<N)=false:=QN t;have Y:k+1+(m+1)=d.size:=ω;rw[Y]at R;rw[R];have S:C.length<=d.size:=ω;have g2:((d.size:Int)-(C.length:Int)).toNat=d.size-C.length:=ω;apply Qh b;simp only[go_sem,em];apply Qh b;simp only[go_sem,q,f,S,g2];refine rQ Ch b rfl q rfl rfl rfl rfl (by dsimp only[CS];omega) rfl rfl rfl rfl ?_;apply Qh b;simp only[go_sem,QI Ef,f,S];refine⟨σ,zx C.length (d.size-C.length) [D.raw (.int .i64 0)] (Nq d1),?_,λi c=>?_,λi=>?_⟩;rw[<-E,J4];rw[rO c];show [jI d1[i]!]=_;rw[K i c];rfl;unfold zx;cases Nat.ble C.length i&&Nat.blt i (C.length+(d.size-C.length));exact⟨d1[i]!,rfl⟩;exact⟨0,rfl⟩;have L:(d[k+1]! == d[k]!)=false:=beq_eq_false_iff_ne.mpr zT;simp only[go_sem,L,v2];refine⟨ω,_,?_,ω,?_,rfl⟩;exact QP;rw[cN,Qd (zC zT)];simp[p];have F:decide (k+1<d.size)=false:=QN J;obtain JU:k+1=d.size:=ω;rw[JU]at p;apply Qh b;simp only[go_sem,F];apply Qg b;rw[p];exact⟨rfl,Nq d,(xj n).symm,λi c=>by rw[Ng _ _ p i c];rfl,λi=>⟨_,rfl⟩⟩
def QAu(n:Nat)(f:0<n)(j:n<=1048576):QM prog 137 [.nil,Qa n] (λd h=>∃b,d=.ref 0 0 0 0/\h=[⟨.arr,0,1,0,b⟩]):=by
 have i:¬ ((n:Int)<0):=ω;have g:((n:Int) > 0):=ω;have e:IntKind.i64.wrap (n:Int)=n:=by rw[IntKind.wrap_i64];omega
 refine QO.cut (R:=λd h=>d=.ref 0 0 0 0/\h=[⟨.arr,0,1,n,λ_=>[Qa 0]⟩]) ?_ (by rintro d h ⟨rfl,rfl⟩;exact⟨0,_,0,rfl,rfl,Z7 _,_,rfl,rfl⟩);show QM _ _ _ _;refine Q1 1 func137 ntmps137 results137 λc w a=>?_;simp only[go_sem];simp only[QN i,go_sem];refine rS Ch rfl rfl rfl ?_;apply Qh a;simp only[go_sem,Qjw,Int.sub_zero,e,QY g];refine rS Ch rfl rfl rfl ?_;apply Qg a;refine QvO Ch a rfl rfl rfl rfl rfl rfl π f ω π rfl ?_;exact VT a
def QAv:QM prog 137 [.nil,Qa 0] (QR .nil):=by refine Q1 0 func137 ntmps137 results137 λa w b=>?_;simp only[go_sem];refine rS Ch rfl rfl rfl ?_;apply Qh b;simp only[go_sem,Qjw,Int.sub_zero]
def QAw(h:List Ob)(e t)(a b:List Int)(W:a.length+b.length<1000000)(j:(h.map Ob.ro)[e]?=some ⟨.AH,0,1,2,t⟩)(z:t 0=[ints a])(y:t 1=[ints b]):
  Xo prog 99 h [.ref e 0 0 2] (λd g=>Kt h.length (h++g) d (a++b)):=by
 have J:IntKind.i64.wrap (a.length:Int)=(a.length:Int):=by rw[IntKind.wrap_i64];omega
 have I:IntKind.i64.wrap ((a.length:Int)+(b.length:Int))=((a.length+b.length:Nat):Int):=by rw[IntKind.wrap_i64];omega
 have L:decide ((a.length:Int)<0)=false:=QN ω;have K:decide (((a.length+b.length:Nat):Int)<0)=false:=QN ω;refine Cg Vr 200 func99 rfl ntmps99 results99 rfl λH w V F P Q f=>?_;rw[<-P]at j;have x:=Qb j;simp only[go_sem];obtain⟨l,C,E,B⟩:∃l:Nat->Int,l 0=0/\l 1=a.length/\l 2=(a.length+b.length:Nat):=⟨λi=>if i=0 then 0 else if i=1 then a.length else (a.length+b.length:Nat),rfl,rfl,rfl⟩;refine ZY (λi s=>s=⟨[(0,.ref e 0 0 2),(3,.raw (.int .i64 (l i))),(9,.ref e 0 0 2),(10,Qa 2),(11,Qa i)],F⟩) 2 (Qs.frame (by simp only[go_sem,C])) rfl ?_;rintro i s p rfl;have v:i=0\/i=1\/i=2:=ω;rcases v with rfl|rfl|rfl;apply Qh f;simp only[go_sem,j,z,Qjv,C,Int.zero_add,J,L];exact⟨_,Qs.frame (fr':=[(0,.ref e 0 0 2),(3,.raw (.int .i64 (l 1))),(9,.ref e 0 0 2),(10,Qa 2),(11,.raw (.int .i64 1))]) (by simp only[go_sem,E]),rfl⟩;apply Qh f;simp only[go_sem,j,y,E,I,K];exact⟨_,Qs.frame (fr':=[(0,.ref e 0 0 2),(3,.raw (.int .i64 (l 2))),(9,.ref e 0 0 2),(10,Qa 2),(11,.raw (.int .i64 2))]) (by simp only[go_sem,B]),rfl⟩
 .apply Qh f;simp only[go_sem,B];apply Qg f;by_cases hz:a.length+b.length=0
  case' pos=>refine WR f Qgg ?_ QAv ?_;simp only[go_sem,hz];apply Qh f;simp only[go_sem,hz];refine LS (Qs.vr 6 1 (λ_=>[]) (by simp only[go_sem])) ?_;simp only[go_sem];generalize (λ_:Nat=>([]:List D))=r
  case' neg=>refine X2 f Qgg rfl ?_ (QAu (a.length+b.length) ω ω) (λd h ⟨c,q,j⟩=>⟨by rw[q];rfl,λo u=>by rw[j]at u;simp at u;subst u;exact λi p=>absurd p (Yy i)⟩) rfl λd Y O=>?_;simp only[go_sem];obtain⟨c,rfl,rfl⟩:=O;apply Qg f;generalize (λi=>yK F.length (c i))=r
  all_goals
   refine ZY (λi s=>∃n m c,(i=0->m=0)/\(i=1->m=a.length/\∀k,k<a.length->c k=[Qa (a.getD k 0)])/\(i=2->m=a.length+b.length/\∀k,k<a.length+b.length->c k=[Qa ((a++b).getD k 0)])/\s=⟨[(6,.ref F.length n 0 m),(25,.ref e 0 0 2),(26,Qa 2),(27,Qa i)],F++[⟨.arr,n,1,m,c⟩]⟩) 2
    (s0:=⟨[(6,.ref F.length 0 0 0),(25,.ref e 0 0 2),(26,Qa 2),(27,Qa 0)],F++[⟨.arr,0,1,0,r⟩]⟩) QP ⟨0,0,_,λ_=>rfl,λh=>absurd h π,λh=>absurd h π,rfl⟩ ?_
   rintro i s p ⟨n,m,c,U,T,R,rfl⟩;have v:i=0\/i=1\/i=2:=ω;have Z:a.length<=4294967295:=ω;have CP:a.length+b.length<=4294967295:=ω;rcases v with rfl|rfl|rfl;obtain rfl:m=0:=U rfl;apply Qh f;simp only[go_sem,Qj,j,x,z,Qjv];refine⟨ω,_,Qs.frame (fr':=[(6,.ref F.length (n+1) 0 a.length),(25,.ref e 0 0 2),(26,Qa 2),(27,.raw (.int .i64 1))]) (by simp only[go_sem]),_,_,_,⟨rfl,λk N=>?_⟩,rfl⟩;rw[yC (Z7 k)];rfl;obtain⟨rfl,M⟩:=T rfl;apply Qh f;simp only[go_sem,Qj,j,x,y];refine⟨ω,_,Qs.frame (fr':=[(6,.ref F.length (n+1) 0 (a.length+b.length)),(25,.ref e 0 0 2),(26,Qa 2),(27,.raw (.int .i64 2))]) (by simp only[go_sem]),_,_,_,⟨rfl,λk N=>?_⟩,rfl⟩;by_cases q:k<a.length;rw[BS q,JG,M k q,QU,QU,JX q];rfl;rw[yC ω,QU,Ks ω,<-QU];rfl;obtain⟨rfl,S⟩:=R rfl;apply Qg f;apply Qg f;refine⟨_,rfl,.inr ⟨h.length,n,0,c,by rw[Q,Zn],⟨Qv _,rfl⟩,?_,λi p=>by rw[JG];exact S i (zC p)⟩⟩;rw[Vq rfl,Zn,JG];rfl
def QAx(h:List Ob)(e c)(a b:List Int)(f:a.length+b.length<1000000)(g:(h.map Ob.ro)[e]?=some ⟨.AH,0,1,2,c⟩)(j:c 0=[ints a])(i:c 1=[ints b]):
  Zl prog 99 h [.ref e 0 0 2] (λd=>d=ints (a++b)):=Kt.closed (QAw h e c a b f g j i)
deriving instance DecidableEq for Cv
deriving instance DecidableEq for Ql
def Xg(A B:List Ql)(a:Int):Bool:=decide (Qw A a≠Qw B a)
def Ac(A B:List Ql):List Int:=(A.map (·.iD)++B.map (·.iD)).filter (Xg A B)
def jK(L:List Int):List Int:=cN (λi=>L.getD i 0) L.length
def J1(A B:List Ql):List Int:=jK (sorted (Ac A B))
def QAy{L x}:x∈jK L↔x∈L:=by unfold jK;rw[uC];constructor;rintro⟨i,a,rfl⟩;rw[QU,QH a];exact XK a;intro h;obtain⟨i,a,rfl⟩:=j8 h;exact⟨i,a,by rw[QU,QH a];rfl⟩
def QAz{L x}:x∈sorted L↔x∈L:=(List.mergeSort_perm _ _).mem_iff
def Ih{A B a}:a∈J1 A B↔Qw A a≠Qw B a:=by
 unfold J1;rw[QAy,QAz];unfold Ac;rw[JB];unfold Xg;rw[W3];constructor;exact λh=>h.2;intro h;refine⟨?_,h⟩;rw[Q3];cases d:Qw A a with
 | some c=>refine .inl (Jw.2 ⟨c,xG d,?_⟩);have:=yy d;simpa using this
 | none=>
  cases b:Qw B a with
  | some c=>refine .inr (Jw.2 ⟨c,xG b,?_⟩);have:=yy b;simpa using this
  | none=>rw[d,b]at h;exact absurd rfl h
end Go.Fg.X
