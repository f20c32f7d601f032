/- Contracts and laws on the way to the statement. No conditions. -/
import Derived.Test.YtbemejcgkfieeaaGreatPB2B
import Derived.Test.YtbemejcgkfieeaaGreatCA2B
import Derived.Shelf.SlMaps.Clone
import Derived.Sort.AssemblyPlain
import Derived.Sort.LotD5
import Derived.Sort.Walk13a
set_option maxRecDepth 100000
set_option maxHeartbeats 16000000
set_option linter.unusedVariables false
set_option linter.unusedSimpArgs false
set_option linter.unusedSectionVars false
set_option linter.defProp false
namespace Go.Fg.X
open Go.Proofs Go.Fg
open Go.Proofs.Tryz
@[go_sem] theorem Ln.QIc(l:Ln):l.cells=[u64 l.x,u64 (l.y/18446744073709551616),u64 (l.y%18446744073709551616),u64 l.m]:=rfl
def wm(c:Nc)(x y:Nat):Rn:=
 if c.of=2\/c.of=4 then ⟨⟨0,0,0⟩,⟨x,y,c.b⟩,false⟩
 else if c.of=3 then ⟨⟨x,y,c.a⟩,⟨x,(y+(c.a-c.b)*c.d)%2^128,c.b⟩,true⟩
 else ⟨⟨0,0,0⟩,⟨x,y,0⟩,false⟩
def Vp(c:Nc)(x y:Nat):Rn:=
 if c.of=4 then ⟨⟨0,0,0⟩,⟨(x+c.d)%18446744073709551616,y,c.b⟩,false⟩ else wm c x y
def Ln.vk:(⟨0,0,0⟩:Ln).Ok:=⟨π,π,π⟩
def gS{c:Nc}(d:c.Lt){x y:Nat}(a:x<18446744073709551616)(b:y<2^128):(wm c x y).Ok:=by
 unfold wm;split;exact⟨Ln.vk,a,b,d.2.2⟩;split;exact⟨⟨a,b,d.1⟩,a,WM _ π,d.2.2⟩;exact⟨Ln.vk,a,b,(by decide:(0:Nat)<18446744073709551616)⟩
def Md{c:Nc}(b:c.Lt){x y:Nat}(d:x<18446744073709551616)(a:y<2^128):(Vp c x y).Ok:=by
 unfold Vp;split;exact⟨Ln.vk,WM _ π,a,b.2.2⟩;exact gS b d a
def gT{c:Nc}(e:c.of=2\/c.of=4)(x y):wm c x y=⟨⟨0,0,0⟩,⟨x,y,c.b⟩,false⟩:=Qd e
def QhI{c:Nc}(e:c.of=3)(x y):wm c x y=⟨⟨x,y,c.a⟩,⟨x,(y+(c.a-c.b)*c.d)%2^128,c.b⟩,true⟩:=by unfold wm;rw[Qc ω,Qd e]
def QhJ{c:Nc}(e:c.of=0\/c.of=1)(x y):wm c x y=⟨⟨0,0,0⟩,⟨x,y,0⟩,false⟩:=by unfold wm;rw[Qc ω,Qc ω]
def QhK(c:Nc)(b:c.Lt)(x y:Nat)(h:x<18446744073709551616)(f:y<2^128):QI prog 198 [DE c,u64 x,num y] (QN (.agg (wm c x y).cells)):=by
 refine QY 0 func198 ntmps198 results198 λd w a=>?_;simp only[go_sem];apply QV a E0 (TP c.a c.d c.b);apply Qg a;rcases Qhp c.a c.d c.b with e|e|e|e|e;rw[QhJ (.inl e)];simp only[go_sem,e];rw[QhJ (.inr e)];simp only[go_sem,e];rw[gT (.inl e)];simp only[go_sem,e]
 .have i:c.b<c.a/\c.a<=4294967295:=by
   unfold Kf at e
   repeat' (split at e)
   all_goals first|omega|contradiction
  have g:=S8 c.a c.b ω ω;rw[QhI e];simp only[go_sem,e];apply Qv a o10;simp only[go_sem,g];apply ZD a BV (B9 (c.a-c.b) c.d ω b.2.1);apply Zp a;apply ZD a SR (TD y ((c.a-c.b)*c.d) f (Qhr ω b.2.1));exact Fb a
 rw[gT (.inr e)];simp only[go_sem,e]
def sT(c:Nc)(h:c.Lt)(x y:Nat)(g:x<18446744073709551616)(f:y<2^128):QI prog 197 [DE c,u64 x,num y] (QN (.agg (Vp c x y).cells)):=by
 refine QY 0 func197 ntmps197 results197 λd w a=>?_;simp only[go_sem];apply QV a Qft (QhK c h x y g f);apply Qg a;apply QV a E0 (TP c.a c.d c.b);apply Qg a;by_cases e:c.of=4;have b:Kf c.a c.d c.b=4:=e;rw[gT (.inr e),show Vp c x y=⟨⟨0,0,0⟩,⟨(x+c.d)%18446744073709551616,y,c.b⟩,false⟩ from Qd e];simp only[go_sem,b,AF];have b:(Kf c.a c.d c.b==4)=false:=by simpa[Nc.of] using e
 rw[show Vp c x y=wm c x y from Qc e];simp only[go_sem,b]
def XL(a b:Rn):Rn:=⟨if a.b then xJ a.f b.f else ⟨0,0,0⟩,xJ a.t b.t,a.b⟩
def sU{a b:Rn}(d:a.Ok)(c:b.Ok):(XL a b).Ok:=by
 refine⟨?_,Qhw d.t c.t⟩;unfold XL;dsimp only;split;exact Qhw d.f c.f;exact Ln.vk
def gU(a b:Rn)(d:a.Ok)(e:b.Ok):QI prog 196 [.agg a.cells,.agg b.cells] (QN (.agg (XL a b).cells)):=by
 refine QY 0 func196 ntmps196 results196 λf w c=>?_;simp only[go_sem];apply Qv c [0,1,2,3,5,6,1004,7,1008,1009];simp only[go_sem];apply ZD c QfD (Qhx a.t b.t d.t e.t);apply Zp c;cases h:a.b with
 | true=>
  rw[show XL a b=⟨xJ a.f b.f,xJ a.t b.t,true⟩ from by unfold XL;rw[h];rfl];simp only[go_sem];apply QV c QfD (Qhx a.f b.f d.f e.f);exact VE c
 | false=>
  rw[show XL a b=⟨⟨0,0,0⟩,xJ a.t b.t,false⟩ from by unfold XL;rw[h];rfl];simp only[go_sem]
def Yo(r:Rn)(w:Nat):Nat:=if r.b then max (wk r.f w) (wk r.t w) else wk r.t w
def TQ(r)(w):Yo r w<=never:=by
 have:=Qhu r.f w;have:=Qhu r.t w;unfold Yo;split<;>omega
def QwN(r:Rn):QI prog 252 [.agg r.cells] (QN (.agg ((if r.b then r.f else r.t).cells++r.t.cells))):=by
 refine QY 0 func252 ntmps252 results252 λa w b=>?_;simp only[go_sem];cases h:r.b with
 | true=>
  simp only[go_sem]
 | false=>
  simp only[go_sem]
def QhL(a:Nat):max (0:Int) (a:Int)=(a:Int):=ω
def gV(r:Rn)(e:r.Ok)(v)(d:v<2^128):QI prog 210 [.agg r.cells,num v] (QN (u64 (Yo r v))):=by
 have f:∀a b:Nat,max (a:Int) (b:Int)=((max a b:Nat):Int):=λa b=>ω;refine QY 0 func210 ntmps210 results210 λg w c=>?_;simp only[go_sem];apply QV c QtT (QwN r);apply Qg c;cases h:r.b with
 | true=>
  rw[show Yo r v=max (wk r.f v) (wk r.t v) from by unfold Yo;rw[h];rfl];simp only[go_sem];refine xw 2 ?_;apply Qg c;apply QV c fA (gP r.f e.f v d);apply Qh c;simp only[go_sem,QhL];apply Qg c;apply Qg c;apply QV c fA (gP r.t e.t v d);apply Qh c;simp only[go_sem,f];apply Qg c;exact VE c
 | false=>
  rw[show Yo r v=max (wk r.t v) (wk r.t v) from by unfold Yo;rw[h];simp];simp only[go_sem];refine xw 2 ?_;apply Qg c;apply QV c fA (gP r.t e.t v d);apply Qh c;simp only[go_sem,QhL];apply Qg c;apply Qg c;apply QV c fA (gP r.t e.t v d);apply Qh c;simp only[go_sem,f];apply Qg c;exact VE c
def V8(n:Nat):Nat:=n%18446744073709551616
def Me(n):V8 n<18446744073709551616:=WM _ π
def QhM(a b:Nat):IntKind.u64.wrap ((a:Int)+(b:Int))=((V8 (a+b):Nat):Int):=AF a b
structure Du where
 has:Bool
 dl:Rn
 rd:Rn
 JL:Nat
 Yp:Nat
 dead:Nat
deriving DecidableEq
instance:Inhabited Du:=⟨⟨false,default,default,0,0,0⟩⟩
structure Du.Ok (d:Du):Prop where
 dl:d.dl.Ok
 rd:d.rd.Ok
 JL:d.JL<18446744073709551616
 Yp:d.Yp<=never
 dead:d.dead<=never
@[go_sem] def Du.cells(d:Du):List D:=[QU d.has,u64 d.dl.f.x,u64 (d.dl.f.y/18446744073709551616),u64 (d.dl.f.y%18446744073709551616),u64 d.dl.f.m,u64 d.dl.t.x,u64 (d.dl.t.y/18446744073709551616),u64 (d.dl.t.y%18446744073709551616),u64 d.dl.t.m,QU d.dl.b,
 u64 d.rd.f.x,u64 (d.rd.f.y/18446744073709551616),u64 (d.rd.f.y%18446744073709551616),u64 d.rd.f.m,u64 d.rd.t.x,u64 (d.rd.t.y/18446744073709551616),u64 (d.rd.t.y%18446744073709551616),u64 d.rd.t.m,QU d.rd.b,u64 d.JL,u64 d.Yp,u64 d.dead]
def Cd(l:Du)(a:Int):Du:=
 if 0<a then ⟨l.has,l.dl,l.rd,l.JL,Yo l.rd (l.JL*65536),Yo l.dl (V8 (l.JL+a.toNat)*65536)⟩ else ⟨l.has,l.dl,l.rd,l.JL,never,never⟩
def sV{l:Du}(d:l.dl.Ok)(c:l.rd.Ok)(b:l.JL<18446744073709551616)(a:Int):(Cd l a).Ok:=by
 unfold Cd;split;exact⟨d,c,b,TQ _ _,TQ _ _⟩;exact⟨d,c,b,QB _,QB _⟩
def gW(n)(c:n<18446744073709551616):QI prog 195 [u64 n] (QN (num (n*65536))):=by
 refine QY 0 func195 ntmps195 results195 λb w a=>?_;simp only[go_sem];apply QV a BV (B9 n 65536 c π);exact VE a
def Mf{n:Int}(b:0<=n)(a:n<18446744073709551616):IntKind.u64.wrap n=((n.toNat:Nat):Int):=η
def sW(l:Du)(g:l.dl.Ok)(f:l.rd.Ok)(d:l.JL<18446744073709551616)(a:Int)(k:a<9223372036854775808):QI prog 199 [.agg l.cells,Qa a] (QN (.agg (Cd l a).cells)):=by
 have e:∀n:Nat,n<18446744073709551616->n*65536<2^128:=λn j=>ω;by_cases h:0<a;have d1:=QS h;have i:=Mf (n:=a) ω ω;rw[show Cd l a=⟨l.has,l.dl,l.rd,l.JL,Yo l.rd (l.JL*65536),Yo l.dl (V8 (l.JL+a.toNat)*65536)⟩ from Qd h];refine QY 0 func199 ntmps199 results199 λc w b=>?_;simp only[go_sem];simp only[go_sem,d1];apply Qv b [0,1,2,3,1004,1005,6,1007];simp only[go_sem];apply ZD b fu (gW l.JL d);apply Zp b;apply ZD b fw (gV l.rd f (l.JL*65536) (e _ d));apply Zp b;apply Qv b [0,1,2,3,4,5,6,1007,1008,9,1010];simp only[go_sem,i,QhM];apply ZD b fu (gW (V8 (l.JL+a.toNat)) (Me _));apply Zp b;apply ZD b fw (gV l.dl g (V8 (l.JL+a.toNat)*65536) (e _ (Me _)));exact Fb b;have d1:=QG h;rw[show Cd l a=⟨l.has,l.dl,l.rd,l.JL,never,never⟩ from Qc h];refine QY 0 func199 ntmps199 results199 λc w b=>?_;simp only[go_sem];simp only[go_sem,d1];rfl
def gX(l:Du)(b a:Int):Du:=Cd { l with JL:=V8 (l.JL+b.toNat) } a
def QwO(l:Du)(g:l.dl.Ok)(f:l.rd.Ok)(m:l.JL<18446744073709551616)(b a:Int)(j:0<=b)(k:b<9223372036854775808)(e:a<9223372036854775808):QI prog 211 [.agg l.cells,Qa b,Qa a] (QN (.agg (gX l b a).cells)):=by
 have i:max b 0=b:=ω;have h:=Mf (n:=b) j ω;refine QY 0 func211 ntmps211 results211 λd w c=>?_;simp only[go_sem];simp only[go_sem,i,h,QhM];apply QV c pH (sW { l with JL:=V8 (l.JL+b.toNat) } g f (Me _) a e);apply Qg c;rfl
def QwP(l:Du)(g:l.dl.Ok)(f:l.rd.Ok)(e:l.JL<18446744073709551616)(a:Int)(d:a<9223372036854775808):QI prog 213 [.agg l.cells,Qa a] (QN (.agg (Cd l a).cells)):=by
 refine QY 0 func213 ntmps213 results213 λc w b=>?_;simp only[go_sem];apply QV b pH (sW l g f e a d);exact VE b
structure Qu where
 l:List Pk
 ci:Nat
 co:Nat
 cd:Nat
 bi:Nat
 bo:Nat
 bd:Nat
instance:Inhabited Qu:=⟨⟨[],0,0,0,0,0,0⟩⟩
def XZ:List Pk->Nat
 | []=>0
 | p::l=>p.len.toNat+XZ l
def QwQ(l m):XZ (l++m)=XZ l+XZ m:=by
 induction l with
 | nil=>simp[XZ]
 | cons p l a=>simp only[YT,XZ,a];omega
def Pg(p:Pk):Prop:=1<=p.len/\p.len<=16384
def QhN{l:List Pk}(h:∀p∈l,Pg p):XZ l<=16384*l.length:=by
 induction l with
 | nil=>simp[XZ]
 | cons p l a=>
  have c:=h p σ;have d:=a λq b=>h q (by simp[b]);unfold Pg at c;simp only[XZ,Kw];omega
@[go_sem] def Qu.cts(q:Qu):List D:=[u64 q.ci,u64 q.co,u64 q.cd,u64 q.bi,u64 q.bo,u64 q.bd]
def vm(b a:Int)(q:Qu)(p:Pk):Bool:=decide (a<XZ q.l+p.len) || decide ((q.l.length:Int)=b)
def Xw(b a:Int)(q:Qu)(p:Pk):Qu:=
 if vm b a q p then { q with cd:=V8 (q.cd+1),bd:=V8 (q.bd+p.len.toNat) }
 else { q with l:=q.l++[p],ci:=V8 (q.ci+1),bi:=V8 (q.bi+p.len.toNat) }
def Xb(q:Qu):Qu:={ q with l:=q.l.tail,co:=V8 (q.co+1),bo:=V8 (q.bo+(q.l.headD default).len.toNat) }
def AN(q:Qu):Int:=match q.l with|[]=>0|p::_=>p.len
@[go_sem] def Ph(r:Nat)(a:Int)(q:Qu):Ob:=⟨.one,0,9,1,λ_=>[.ptr r 0 0 0,Qa a,Qa (XZ q.l:Nat),u64 q.ci,u64 q.co,u64 q.cd,u64 q.bi,u64 q.bo,u64 q.bd]⟩
structure sX (S:Nat->Prop) (h:List Ob) (p r ZK:Nat) (room:Int) (q:Qu):Prop where
 o:h[p]?=some (Ph r room q)
 ring:vj (λl=>S l/\l≠p) h r ZK q.l
 rp:r≠p
 sp:S p
 lens:∀x∈q.l,Pg x
 r0:0<=room
 r1:room<=1048576
def wo(S:Nat->Prop)(h:List Ob)(p b:Nat)(a:Int)(q:Qu):Prop:=∃r,sX S h p r b a q
def vj.step{S S'}{h h':List Ob}{r b}{L}(e:∀l,l<h.length->S l->S' l/\h'[l]? = h[l]?):vj S h r b L->vj S' h' r b L:=λ⟨a,f,c,T⟩=>
 ⟨a,f,c,((e _ (Qb T.o) T.sr).2).trans T.o,((e _ (Qb T.ao) T.sa).2).trans T.ao,T.ra,T.fl,T.len,T.yC,T.rows,T.lens,(e _ (Qb T.o) T.sr).1,(e _ (Qb T.ao) T.sa).1⟩
def vj.sY{S}{h}{r b}{L:List Pk}:vj S h r b L->L.length<=b/\b<=64:=λ⟨a,f,c,T⟩=>⟨T.len,T.yC⟩
def wo.step{S S'}{h h':List Ob}{p d}{a}{q}(e:∀l,l<h.length->S l->S' l/\h'[l]? = h[l]?):wo S h p d a q->wo S' h' p d a q:=λ⟨r,Q⟩=>
 ⟨r,((e _ (Qb Q.o) Q.sp).2).trans Q.o,Q.ring.step λl b ⟨c,f⟩=>⟨⟨(e l b c).1,f⟩,(e l b c).2⟩,Q.rp,(e _ (Qb Q.o) Q.sp).1,Q.lens,Q.r0,Q.r1⟩
structure QwS (h:List Ob) (p r ZK:Nat) (room:Int) (q:Qu):Prop where
 o:(h.map Ob.ro)[p]?=some (Ph r room q).ro
 ring:TC h r ZK q.l
def Pj(h:List Ob)(p b:Nat)(a:Int)(q:Qu):Prop:=∃r,QwS h p r b a q
def wo.toR{S}{h}{p b}{a}{q}:wo S h p b a q->Pj h p b a q:=λ⟨r,Q⟩=>⟨r,Z4 Q.o,Q.ring.toR⟩
def Pj.more{h h':List Ob}{p b}{a}{q}(e:∀(l:Nat) (o:Ob),(h.map Ob.ro)[l]?=some o->(h'.map Ob.ro)[l]?=some o):Pj h p b a q->Pj h' p b a q:=λ⟨r,Q⟩=>⟨r,e _ _ Q.o,Q.ring.more e⟩
section
variable {h:List Ob}{p ZK:Nat}{room:Int}{q:Qu}(Q:Pj h p ZK room q)
include Q
theorem Pm:Zf prog 111 h [.ptr p 0 0 0] (λd=>d=Qa q.l.length):=by
 obtain⟨r,b,i⟩:=Q;refine ZH func111 ntmps111 results111 λg w k F e l c=>?_;rw[<- e]at b;have m:=Qb b;simp only[go_sem,b];obtain⟨a,f,j,T⟩:=i;apply Zz c Qs6 (QvX (T.more (Vz e)));apply Qg c;all_goals exact W9
theorem QhO:Zf prog 212 h [.ptr p 0 0 0] (λd=>d=Qa (AN q)):=by
 have j:=Q;obtain⟨r,e,m⟩:=Q;obtain⟨a,f,s,T⟩:=m;unfold AN;cases i:q.l with
 | nil=>
  refine ZH func212 ntmps212 results212 λg w k F c n b=>?_;rw[<- c]at e;have o:=Qb e;simp only[go_sem];apply Zz b OD (Pm (j.more (Vz c)));apply Qh b;simp only[go_sem,i];all_goals exact W9
 | cons x l=>
  have d0:(((l.length+1:Nat):Int)==0)=false:=ξ;refine ZH func212 ntmps212 results212 λg w k F c n b=>?_;rw[<- c]at e;have o:=Qb e;simp only[go_sem];apply Zz b OD (Pm (j.more (Vz c)));apply Qh b;simp only[go_sem,e,i,d0];apply Zz b QfH (Qhd (T.more (Vz c)) 0 (by rw[i];simp));apply Qh b;simp only[go_sem,Qj,i];all_goals exact W9
end
def QwT(h:List Ob)(n:Nat)(a:Int)(k:1<=n)(j:n<=64)(s:1<=a)(r:a<=1048576):QM prog 112 h [Qa n,Qa a] (λd e=>d=.tup [.ptr (h.length+2) 0 0 0,Qa 0]/\wo (λl=>h.length<=l) e (h.length+2) n a ⟨[],0,0,0,0,0,0⟩/\∃g,e=h++g/\g.length=3):=by
 have d1:decide (a<1)=false:=QG ω;have d2:decide (1048576<a)=false:=QG ω;refine Q7 func112 ntmps112 results112 λf w p c=>?_;simp only[go_sem];refine ZL c Qs7 (Qv1 h n k j) λd h i=>?_;obtain⟨rfl,R,g,rfl,b⟩:=i;apply Qh c;simp only[go_sem,Qj,d1,d2];have q:(h++g).length=h.length+2:=by rw[Zk,b]
 refine⟨by rw[b],⟨h.length+1,?_,?_,ω,by show h.length<=_;omega,σ,ω,ω⟩,g++[Ph (h.length+1) a ⟨[],0,0,0,0,0,0⟩],by rfl,by simp[b]⟩;rw[show h.length+2=(h++g).length by omega];rw[<- WL,Kc (QB _),wV];rfl;rw[<- WL];refine R.step λl o m=>⟨⟨m,ω⟩,JJ o⟩
def TR(a b:Nat):IntKind.u64.wrap ((a:Int)+(b:Int))=((V8 (a+b):Nat):Int):=AF a b
def gY(a:Nat):IntKind.u64.wrap ((a:Int)+1)=((V8 (a+1):Nat):Int):=AF a 1
def sX.fin{S}{h H:List Ob}{p r f}{a}{q q':Qu}(Q:sX S h p r f a q)(g:H[p]?=some (Ph r a q'))(d:∀l,l<h.length->l≠p->H[l]? = h[l]?)(i:h.length<=H.length)(e:q'.l=q.l):wo S H p f a q'/\Step S h H:=
 ⟨⟨r,g,by rw[e];exact Q.ring.step λl c b=>⟨b,d l c b.2⟩,Q.rp,Q.sp,by rw[e];exact Q.lens,Q.r0,Q.r1⟩,⟨λl c b=>d l c λj=>b (j▸Q.sp),i⟩⟩
def QwU{S}{h}{p g}{a}{q}(Q:wo S h p g a q)(x)(v:Pg x):
  QM prog 116 h [.ptr p 0 0 0,.agg x.cells] (λd I=>d=Qa (if vm g a q x then 30 else 0)/\wo S I p g a (Xw g a q x)/\Step S h I):=by
 obtain⟨r,Q⟩:=Q;have m:=Q.o;have H:=Q.ring;have T:=v.1;have V:=v.2;have P:=H.sY;have R:=QhN Q.lens;have U:=Q.r0;have W:=Q.r1;have d1:decide (x.len<1)=false:=QG ω;have d2:decide (16384<x.len)=false:=QG ω;have J:IntKind.i64.wrap (a-(XZ q.l:Nat))=a-(XZ q.l:Nat):=wrap64 ω ω;have B:IntKind.u64.wrap x.len=((x.len.toNat:Nat):Int):=Mf ω ω;by_cases K:a<XZ q.l+x.len;have d3:decide (a-(XZ q.l:Nat)<x.len)=true:=QS ω;have n:vm g a q x=true:=by unfold vm;rw[QS K];rfl
 unfold Xw;rw[n];refine Q7 func116 ntmps116 results116 λs w M i=>?_;have j:=Qb m;simp only[go_sem,Qj,d1,d2];apply Qv i [0,1,2,3,4,5,6,7,8,9,10,11,12,13,14,15,16,17,1018,19,20,21];simp only[go_sem,Qj,m,j,J,d3,gY];apply Qv i i6;simp only[go_sem,Qj,j,B,QF j,TR];refine Q.fin (q':={ q with cd:=V8 (q.cd+1),bd:=V8 (q.bd+x.len.toNat) }) ?_ ?_ ?_ rfl;rw[QE (by simpa using j),QF j];rfl;intro l f b;rw[QE (by simpa using f),Qp (Q8 b)];simp;have d3:decide (a-(XZ q.l:Nat)<x.len)=false:=QG ω;refine Q7 func116 ntmps116 results116 λs w M i=>?_;have j:=Qb m;simp only[go_sem,Qj,d1,d2];apply Vx [18] i [0,1,2,3,4,5,6,7,8,9,10,11,12,13,14,15,16,17,1018,19,20,21] [];simp only[go_sem,Qj,m,j,J,d3];have N:=H.step (S':=λl=>S l/\l≠p/\l<h.length) (h':=h++[⟨.one,0,6,1,λ_=>x.cells⟩]) λl f b=>⟨⟨b.1,b.2,f⟩,QE f⟩;refine kS i Qs8 (QvY N x) λd z L=>?_;obtain⟨rfl,u,t⟩:=L;have Y:h.length<z.length:=by have:=t.len;simp only[Zk,Kr]at this;omega
 have C:z[p]?=some (Ph r a q):=(t.keep p ξ (λh=>h.2.1 rfl)).trans ((QE j).trans m);have o:=Qb C;have E:=(t.keep h.length σ (λh=>by have:=h.2.2;omega)).trans (Vc rfl);have keep:∀l,l<h.length->¬ S l->z[l]? = h[l]? := λl f b=>(t.keep l ξ (λh=>b h.1)).trans (QE f);have F:p≠h.length:=ω;apply ZT i;by_cases c:q.l.length=g;have n:vm g a q x=true:=by unfold vm;rw[QS (show (q.l.length:Int)=(g:Int) from ω)];simp
 rw[Qd c]at u;simp only[go_sem,Qd c,C,gY];apply Qv i i6;simp only[go_sem,Qj,B,QF o,TR,E,Qp F];unfold Xw;rw[n];refine⟨by rfl,⟨r,?_,u.step λl f b=>⟨⟨b.1,b.2.1⟩,?_⟩,Q.rp,Q.sp,Q.lens,Q.r0,Q.r1⟩,⟨λl f b=>?_,?_⟩⟩;rw[QF o];rfl;rw[Qp (Q8 b.2.1)];rw[Qp (λ(e:p=l)=>b (e▸Q.sp))];exact keep l f b;simp;omega;have n:vm g a q x=false:=by unfold vm;rw[QG K,QG (show ¬ (q.l.length:Int)=(g:Int) from ω)];rfl
 have O:IntKind.i64.wrap (((XZ q.l:Nat):Int)+x.len)=((XZ (q.l++[x]):Nat):Int):=by
  rw[QwQ];simp only[XZ];rw[wrap64 ω ω];omega
 rw[Qc c]at u;simp only[go_sem,Qc c];apply Qv i i5;simp only[go_sem,Qj,C,QF o,gY,E,O];apply Qv i i6;simp only[go_sem,Qj,B,QF o,TR,E,Qp F];unfold Xw;rw[n];refine⟨by rfl,⟨r,?_,u.step λl f b=>⟨⟨b.1,b.2.1⟩,?_⟩,Q.rp,Q.sp,?_,Q.r0,Q.r1⟩,⟨λl f b=>?_,?_⟩⟩;rw[QF o];rfl;rw[Qp (Q8 b.2.1)];intro y k;rcases Q1.1 k with k|k;exact Q.lens y k;rw[Yx.1 k];exact v;rw[Qp (λ(e:p=l)=>b (e▸Q.sp))];exact keep l f b;simp;omega
def QwV{S}{h}{p E}{b}{q:Qu}{x}{L}(Q:wo S h p E b q)(g:q.l=x::L):
  QM prog 152 h [.ptr p 0 0 0] (λd u=>d=.tup [.agg x.cells,Qa 0]/\wo S u p E b (Xb q)/\Step S h u):=by
 obtain⟨r,Q⟩:=Q;have n:=Q.o;have t:=Q.ring;have hx:=Q.lens x (by rw[g];simp);have W:=hx.1;have Y:=hx.2;have R:=t.sY;have T:=QhN Q.lens;have M:IntKind.u64.wrap x.len=((x.len.toNat:Nat):Int):=Mf ω ω;have K:IntKind.i64.wrap (((XZ q.l:Nat):Int)-x.len)=((XZ L:Nat):Int):=by
  have V:XZ q.l=x.len.toNat+XZ L:=by rw[g];rfl
  rw[wrap64 ω ω];omega
 refine Q7 func152 ntmps152 results152 λH w U k=>?_;have o:=Qb n;simp only[go_sem,Qj,n,o];have v:=t.step (S':=λl=>S l/\l≠p/\l<h.length) (h':=h++[⟨.one,0,6,1,λ_=>(default:Pk).cells⟩]) λl c a=>⟨⟨a.1,a.2,c⟩,QE c⟩;rw[g]at v;refine ZL k QtC (QvZ v) λd i I=>?_;obtain⟨rfl,N,j⟩:=I;have O:h.length<i.length:=by have:=j.len;simp only[Zk,Kr]at this;omega
 have F:i[p]?=some (Ph r b q):=(j.keep p ξ (λh=>h.2.1 rfl)).trans ((QE o).trans n);have m:=Qb F;have P:=(j.keep h.length σ (λh=>by have:=h.2.2;omega)).trans (Vc rfl);have keep:∀l,l<h.length->¬ S l->i[l]? = h[l]? := λl c a=>(j.keep l ξ (λh=>a h.1)).trans (QE c);have J:p≠h.length:=ω;apply J5 k;apply Qv k i5;simp only[go_sem,Qj,F,m,QF m,gY,K];apply Qv k i6;simp only[go_sem,Qj,m,M,QF,TR,P,O,Qp J];have f:∀(A B C:Ob) (l:Nat),l<h.length->(((i.set p A).set h.length B)++[C])[l]? = (i.set p A)[l]? := λA B C l c=>by
  rw[QE ξ,Qp ω]
 have z:(Xb q).l=L:=by simp[Xb,g]
 refine⟨⟨r,?_,?_,Q.rp,Q.sp,?_,Q.r0,Q.r1⟩,⟨λl c a=>?_,?_⟩⟩;rw[f _ _ _ _ o,QF m,Xb,g];rfl;rw[z];refine N.step λl c a=>⟨⟨a.1,a.2.1⟩,?_⟩;rw[f _ _ _ _ a.2.2,Qp (Q8 a.2.1)];intro y s;rw[z]at s;exact Q.lens y (by rw[g];simp[s]);rw[f _ _ _ _ c,Qp (λ(e:p=l)=>a (e▸Q.sp))];exact keep l c a;simp;omega
def AO(l:Du)(b a:Rn):Rn:=if l.has then XL b a else a
def ig{l}{b a:Rn}(d:b.Ok)(c:a.Ok):(AO l b a).Ok:=by unfold AO;split;exact sU d c;exact c
def jU(l:Du)(c:Nc)(a:Nat)(b:Int):Du:=
 Cd ⟨true,AO l l.dl (Vp c a (l.JL*65536)),AO l l.rd (wm c a (l.JL*65536)),l.JL,l.Yp,l.dead⟩ b
section
variable {h:List Ob}{b1 b2 b3:Nat}(l:Du)(h3:l.JL<18446744073709551616)(c:Nc)(hc:c.Lt)(now:Nat)(hn:now<18446744073709551616)
 (o1:(h.map Ob.ro)[b1]?=some ⟨.Wb,0,3,1,λ_=>c.cells⟩) (o2:(h.map Ob.ro)[b2]?=some ⟨.Wb,0,1,1,λ_=>[u64 now]⟩) (o3:(h.map Ob.ro)[b3]?=some ⟨.Wb,0,22,1,λ_=>l.cells⟩)
include h3 hc hn o1 o2 o3
theorem QwW(b:Rn)(j:b.Ok):Zf prog 194 h [.agg b.cells,.raw (.func (.func 197) #[] #[]),.ptr b1 0 0 0,.ptr b2 0 0 0,.ptr b3 0 0 0] (λd=>d=.agg (AO l b (Vp c now (l.JL*65536))).cells):=by
 have k:=Md hc hn (y:=l.JL*65536) ω;refine ZH func194 ntmps194 results194 λf w n F m p a=>?_;rw[<- m]at o1 o2 o3;have i:=Qb o1;have g:=Qb o2;have e:=Qb o3;simp only[go_sem,Qj];apply Qv a [0,1,2,3,4,1005,1006,1007,1008];simp only[go_sem,Qj,o1,i,o2,g,o3,e];apply ZD a fu (gW l.JL h3);apply LC a;apply ZD a pG (sT c hc now (l.JL*65536) hn ω);apply ZT a;simp only[go_sem,Qj,o3,e];unfold AO;cases o:l.has with
 | true=>
  simp only[go_sem,Qj];apply QV a fv (gU b _ j k);apply J5 a;all_goals exact W9
 | false=>
  simp only[go_sem,Qj];all_goals exact W9
theorem QwX(b:Rn)(j:b.Ok):Zf prog 194 h [.agg b.cells,.raw (.func (.func 198) #[] #[]),.ptr b1 0 0 0,.ptr b2 0 0 0,.ptr b3 0 0 0] (λd=>d=.agg (AO l b (wm c now (l.JL*65536))).cells):=by
 have k:=gS hc hn (y:=l.JL*65536) ω;refine ZH func194 ntmps194 results194 λf w n F m p a=>?_;rw[<- m]at o1 o2 o3;have i:=Qb o1;have g:=Qb o2;have e:=Qb o3;simp only[go_sem,Qj];apply Qv a [0,1,2,3,4,1005,1006,1007,1008];simp only[go_sem,Qj,o1,i,o2,g,o3,e];apply ZD a fu (gW l.JL h3);apply LC a;apply ZD a Qft (QhK c hc now (l.JL*65536) hn ω);apply ZT a;simp only[go_sem,Qj,o3,e];unfold AO;cases o:l.has with
 | true=>
  simp only[go_sem,Qj];apply QV a fv (gU b _ j k);apply J5 a;all_goals exact W9
 | false=>
  simp only[go_sem,Qj];all_goals exact W9
end
def QwY(l:Du)(e:l.Ok)(c:Nc)(g:c.Lt)(a)(f:a<18446744073709551616)(b:Int)(m:b<9223372036854775808):QI prog 145 [.agg l.cells,DE c,u64 a,Qa b] (QN (.agg (jU l c a b).cells)):=by
 have h:=e.JL;have j:=Md g f (y:=l.JL*65536) ω;have k:=gS g f (y:=l.JL*65536) ω;refine QY 0 func145 ntmps145 results145 λi w d=>?_;simp only[go_sem];apply Qv d [0,1,2,4,5,6,1003,8,1007,1009,10,1011];simp only[go_sem];apply KQ d Qfs (QwW (b1:=1) (b2:=2) (b3:=0) l h c g a f rfl rfl rfl l.dl e.dl);apply Zp d;apply KQ d Qfs (QwX (b1:=1) (b2:=2) (b3:=0) l h c g a f rfl rfl rfl l.rd e.rd);apply Zp d;apply QV d pH (sW ⟨true,AO l l.dl (Vp c a (l.JL*65536)),AO l l.rd (wm c a (l.JL*65536)),l.JL,l.Yp,l.dead⟩ (ig e.dl j) (ig e.rd k) h b m);apply Qg d;rfl
def te{l:Du}(d:l.Ok){c:Nc}(f:c.Lt){a}(e:a<18446744073709551616)(b:Int):(jU l c a b).Ok:=by
 have g:=d.JL;exact sV (l:=⟨true,AO l l.dl (Vp c a (l.JL*65536)),AO l l.rd (wm c a (l.JL*65536)),l.JL,l.Yp,l.dead⟩) (ig d.dl (Md f e (y:=l.JL*65536) ω)) (ig d.rd (gS f e (y:=l.JL*65536) ω)) g b
structure Sh where
 has:Bool
 run:Rn
 time:Nat
deriving DecidableEq
instance:Inhabited Sh:=⟨⟨false,default,0⟩⟩
structure Sh.Ok (x:Sh):Prop where
 run:x.run.Ok
 time:x.time<18446744073709551616
@[go_sem] def Sh.cells(x:Sh):List D:=[QU x.has,u64 x.run.f.x,u64 (x.run.f.y/18446744073709551616),u64 (x.run.f.y%18446744073709551616),u64 x.run.f.m,u64 x.run.t.x,u64 (x.run.t.y/18446744073709551616),u64 (x.run.t.y%18446744073709551616),u64 x.run.t.m,QU x.run.b,u64 x.time]
def FD(r:Rn)(a:Nat):Nat:=if r.b then max (max (Yo r (a*65536)) r.t.x) r.f.x else max (Yo r (a*65536)) r.t.x
def QhP{r:Rn}(h:r.Ok)(a):FD r a<18446744073709551616:=by
 have b:=TQ r (a*65536);have d:=h.t.x;have c:=h.f.x;unfold never at b;unfold FD;split<;>omega
def ij(a b:Nat):max (a:Int) (b:Int)=((max a b:Nat):Int):=ω
def QhQ(a:Nat):max (0:Int) (a:Int)=(a:Int):=ω
def QwZ{h:List Ob}{b g}{a}(o:(h.map Ob.ro)[b]?=some ⟨.Ac,g,1,2,a⟩)(x y)(j:a 0=[u64 x])(i:a 1=[u64 y]):Zf prog 248 h [.ref b g 0 2] (λd=>d=u64 (max x y)):=by
 refine ZH func248 ntmps248 results248 λe w l F f m c=>?_;rw[<- f]at o;have k:=Qb o;simp only[go_sem];refine xw 2 ?_;apply Qh c;simp only[go_sem,o,j];apply Qh c;simp only[go_sem,o,i,QhQ,ij];apply Qg c;apply Qg c;all_goals exact W9
def Qw1{h:List Ob}{b g}{a}(o:(h.map Ob.ro)[b]?=some ⟨.Ac,g,1,3,a⟩)(x y z)(k:a 0=[u64 x])(j:a 1=[u64 y])(i:a 2=[u64 z]):Zf prog 248 h [.ref b g 0 3] (λd=>d=u64 (max (max x y) z)):=by
 refine ZH func248 ntmps248 results248 λe w m F f n c=>?_;rw[<- f]at o;have l:=Qb o;simp only[go_sem];refine xw 3 ?_;apply Qh c;simp only[go_sem,o,k];apply Qh c;simp only[go_sem,o,j,QhQ,ij];apply Qh c;simp only[go_sem,o,i,ij];apply Qg c;apply Qg c;all_goals exact W9
def tf(r:Rn)(f:r.Ok)(a)(e:a<18446744073709551616):QI prog 204 [.agg r.cells,u64 a] (QN (u64 (FD r a))):=by
 unfold FD;refine QY 0 func204 ntmps204 results204 λd w c=>?_;simp only[go_sem];apply Qv c [0,1,1002,1003,4];simp only[go_sem];apply ZD c BV (B9 a 65536 e π);apply Zp c;apply ZD c fw (gV r f (a*65536) ω);apply Zp c;cases h:r.b with
 | true=>
  simp only[go_sem];apply Zz c QfG (Qw1 (b:=1) (g:=0) (by exact rfl) (Yo r (a*65536)) r.t.x r.f.x (by exact rfl) (by exact rfl) (by exact rfl));exact VE c
 | false=>
  simp only[go_sem];apply Zz c QfG (QwZ (b:=1) (g:=0) (by exact rfl) (Yo r (a*65536)) r.t.x (by exact rfl) (by exact rfl));exact VE c
def Mh(x:Sh)(c:Nc)(b a:Nat):Sh:=
 ⟨true,if x.has then XL x.run (Vp c b (a*65536)) else Vp c b (a*65536),FD (if x.has then XL x.run (Vp c b (a*65536)) else Vp c b (a*65536)) a⟩
def Hw(x:Sh)(a:Nat):Sh:=if x.has then ⟨true,x.run,FD x.run a⟩ else x
def th{x:Sh}(e:x.Ok){c:Nc}(g:c.Lt){b a}(f:b<18446744073709551616)(h:a<18446744073709551616):(if x.has then XL x.run (Vp c b (a*65536)) else Vp c b (a*65536)).Ok:=by
 have d:=Md g f (y:=a*65536) ω;split;exact sU e.run d;exact d
def Qw2{x:Sh}(d:x.Ok){c:Nc}(g:c.Lt){b a:Nat}(f:b<18446744073709551616)(e:a<18446744073709551616):(Mh x c b a).Ok:=
 ⟨th d g f e,QhP (th d g f e) _⟩
def Qw3{x:Sh}(b:x.Ok)(a:Nat):(Hw x a).Ok:=by
 unfold Hw;split;exact⟨b.run,QhP b.run _⟩;exact b
def Qw4(x:Sh)(i:x.Ok)(c:Nc)(g:c.Lt)(b a:Nat)(f:b<18446744073709551616)(e:a<18446744073709551616):QI prog 148 [.agg x.cells,DE c,u64 b,u64 a] (QN (.agg (Mh x c b a).cells)):=by
 have k:=Md g f (y:=a*65536) ω;have j:=th i g f e;refine QY 0 func148 ntmps148 results148 λl w d=>?_;simp only[go_sem];apply Qv d [0,1,2,1003,1004,1005,1006];simp only[go_sem];apply ZD d BV (B9 a 65536 e π);apply Zp d;apply ZD d pG (sT c g b (a*65536) f ω);apply Zp d;cases h:x.has with
 | true=>
  rw[h,Qd rfl]at j;rw[show Mh x c b a=⟨true,XL x.run (Vp c b (a*65536)),FD (XL x.run (Vp c b (a*65536))) a⟩ from by unfold Mh;rw[h];rfl];simp only[go_sem];apply QV d fv (gU x.run _ i.run k);apply Qg d;apply Qv d [0,1,2,1003,4,1005];simp only[go_sem];apply ZD d pJ (tf (XL x.run (Vp c b (a*65536))) j a e);exact Fb d
 | false=>
  rw[show Mh x c b a=⟨true,Vp c b (a*65536),FD (Vp c b (a*65536)) a⟩ from by unfold Mh;rw[h];rfl];simp only[go_sem];apply Qv d [0,1,2,1003,4,1005];simp only[go_sem];apply ZD d pJ (tf (Vp c b (a*65536)) k a e);exact Fb d
def Qw5(x:Sh)(d:x.Ok)(a:Nat)(e:a<18446744073709551616):QI prog 153 [.agg x.cells,u64 a] (QN (.agg (Hw x a).cells)):=by
 cases h:x.has with
 | true=>
  rw[show Hw x a=⟨true,x.run,FD x.run a⟩ from by unfold Hw;rw[h];rfl];refine QY 0 func153 ntmps153 results153 λb w c=>?_;simp only[go_sem];simp only[go_sem,h];apply QV c pJ (tf x.run d.run a e);exact VE c
 | false=>
  rw[show Hw x a=x from by unfold Hw;rw[h];rfl];refine QY 0 func153 ntmps153 results153 λb w c=>?_;simp only[go_sem];simp only[go_sem,h]
structure Cp where
 has:Bool
 run:Rn
 fit:Nat
deriving DecidableEq
instance:Inhabited Cp:=⟨⟨false,default,0⟩⟩
structure Cp.Ok (x:Cp):Prop where
 run:x.run.Ok
 fit:x.fit<=never
@[go_sem] def Cp.cells(x:Cp):List D:=[QU x.has,u64 x.run.f.x,u64 (x.run.f.y/18446744073709551616),u64 (x.run.f.y%18446744073709551616),u64 x.run.f.m,u64 x.run.t.x,u64 (x.run.t.y/18446744073709551616),u64 (x.run.t.y%18446744073709551616),u64 x.run.t.m,QU x.run.b,u64 x.fit]
def tj:Cp:=⟨false,⟨⟨0,0,0⟩,⟨0,0,0⟩,false⟩,0⟩
def jV(x:Cp)(a:Nat):Cp:=if x.has then ⟨true,x.run,Yo x.run (a*65536)⟩ else x
def yE(x:Cp)(c:Nc)(b a:Nat):Cp:=
 if c.of=0\/c.of=1 then tj
 else ⟨true,if x.has then XL x.run (Vp c b (a*65536)) else Vp c b (a*65536),Yo (if x.has then XL x.run (Vp c b (a*65536)) else Vp c b (a*65536)) (a*65536)⟩
def Qw6:tj.Ok:=⟨⟨Ln.vk,Ln.vk⟩,Jj _⟩
def Qw7{x:Cp}(b:x.Ok)(a:Nat):(jV x a).Ok:=by
 unfold jV;split;exact⟨b.run,TQ _ _⟩;exact b
def QhR{x:Cp}(e:x.Ok){c:Nc}(g:c.Lt){b a}(f:b<18446744073709551616)(h:a<18446744073709551616):(if x.has then XL x.run (Vp c b (a*65536)) else Vp c b (a*65536)).Ok:=by
 have d:=Md g f (y:=a*65536) ω;split;exact sU e.run d;exact d
def Qw8{x:Cp}(d:x.Ok){c:Nc}(g:c.Lt){b a:Nat}(f:b<18446744073709551616)(e:a<18446744073709551616):(yE x c b a).Ok:=by
 unfold yE;split;exact Qw6;exact⟨QhR d g f e,TQ _ _⟩
def tm(x:Cp)(d:x.Ok)(a:Nat)(e:a<18446744073709551616):QI prog 154 [.agg x.cells,u64 a] (QN (.agg (jV x a).cells)):=by
 cases h:x.has with
 | true=>
  rw[show jV x a=⟨true,x.run,Yo x.run (a*65536)⟩ from by unfold jV;rw[h];rfl];refine QY 0 func154 ntmps154 results154 λc w b=>?_;simp only[go_sem];simp only[go_sem,h];apply Qv b [0,1,2,1003,1004,5,1006];simp only[go_sem];apply ZD b BV (B9 a 65536 e π);apply Zp b;apply ZD b fw (gV x.run d.run (a*65536) ω);exact Fb b
 | false=>
  rw[show jV x a=x from by unfold jV;rw[h];rfl];refine QY 0 func154 ntmps154 results154 λc w b=>?_;simp only[go_sem];simp only[go_sem,h]
def Qw9(x:Cp)(k:x.Ok)(c:Nc)(j:c.Lt)(b a:Nat)(i:b<18446744073709551616)(g:a<18446744073709551616):QI prog 149 [.agg x.cells,DE c,u64 b,u64 a] (QN (.agg (yE x c b a).cells)):=by
 have m:=Md j i (y:=a*65536) ω;have l:=QhR k j i g;refine QY 0 func149 ntmps149 results149 λn w d=>?_;simp only[go_sem];apply Qv d [0,1,2,1003,1004,1005,1006];simp only[go_sem];apply ZD d BV (B9 a 65536 g π);apply Zp d;apply ZD d pG (sT c j b (a*65536) i ω);apply Zp d;apply QV d E0 (TP c.a c.d c.b);apply Qg d;by_cases e:c.of=0\/c.of=1;rw[show yE x c b a=tj from Qd e];have f:Kf c.a c.d c.b=0\/Kf c.a c.d c.b=1:=e;rcases f with f|f;simp only[go_sem,f];rfl;simp only[go_sem,f];rfl;have d0:(Kf c.a c.d c.b==0)=false:=by rw[jv];exact λh=>e (.inl h)
 have d1:(Kf c.a c.d c.b==1)=false:=by rw[jv];exact λh=>e (.inr h)
 cases h:x.has with
 | true=>
  rw[h,Qd rfl]at l;rw[show yE x c b a=jV ⟨true,XL x.run (Vp c b (a*65536)),0⟩ a from by unfold yE;rw[Qc e,h];rfl];simp only[go_sem,d0,d1];apply QV d fv (gU x.run _ k.run m);apply Qg d;apply QV d pD (tm ⟨true,XL x.run (Vp c b (a*65536)),0⟩ ⟨l,Jj _⟩ a g);exact VE d
 | false=>
  rw[show yE x c b a=jV ⟨true,Vp c b (a*65536),0⟩ a from by unfold yE;rw[Qc e,h];rfl];simp only[go_sem,d0,d1];apply QV d pD (tm ⟨true,Vp c b (a*65536),0⟩ ⟨m,Jj _⟩ a g);exact VE d
def Qxa(a b):QI prog 249 [u64 a,u64 b] (QN (u64 (max a b))):=by
 refine QY 0 func249 ntmps249 results249 λc w d=>?_;simp only[go_sem];simp only[go_sem,ij]
def tq:Go.Shelf.Ren:=⟨fun|5=>130|7=>166|n=>n,fun|23=>192|25=>3|3=>45|4=>4|20=>20|n=>n,fun|n=>n⟩
def Qxb:SlLaysW.n5 prog tq:={
 mixed:=τ
 f5:=⟨f130.name,τ,func130.trans (congrArg some (show f130={ SlBodyW.n5 tq with name:=f130.name } from τ))⟩
 f7:=func166.trans (congrArg some (show f166=SlBodyW.n7 tq from τ))
 t4:=underlying4
 a4:=isAgg4
 z4:=sizeOf4
 v4:=zeroValue4
 t20:=underlying20
 a20:=isAgg20
 z20:=sizeOf20
 v20:=zeroValue20
 t23:=underlying192
 a23:=isAgg192
 z23:=sizeOf192
 v23:=zeroValue192 }
def Qxc{h:List Ob}{m c}{f}(r:h[m]?=some (QR .i64 c f)):QM prog 130 h [.mref m 0] (λd J=>d=.mref h.length 0/\J=h++[QR .i64 c f]):=by
 intro Z u w g y t U R z B;match y,z with
 | [v],_=>
 obtain⟨o,p,b,s,I,H,V,F⟩:=Gz (B 0 σ);rw[r]at s;cases s;have C:=F rfl;subst C;have P:v=.map (some b):=H.2;subst P;obtain⟨_,x⟩:=R.at_ m _ b 0 r I;obtain⟨S,N,j,a,n,E,O,K,l,M⟩:=x.map rfl;refine(AnyW.maps_Clone Qxb b j a w n).mono ?_;rintro e Q ⟨rfl,rfl⟩;have e:∀b,b<w.heap.size->(w.alloc (.map j a)).heap[b]? = w.heap[b]? := λb n=>wW w _ b n;have T:Go.Fg.Tr h g w (h++[QR .i64 c f]) (g++[some (w.heap.size,0)]) (w.alloc (.map j a)):=Go.Fg.Tr.push R e _ _ (by intro b q h;simp at h;omega);have L:g.length=h.length:=R.len;refine⟨.map (some w.heap.size),.mref h.length 0,h++[QR .i64 c f],g++[some (w.heap.size,0)],rfl,⟨rfl,rfl⟩,Zh.RW R e _ (QB _) t ?_,?_,T,EA t _⟩;have hx:bA Z (h++[QR .i64 c f]) (g++[some (w.heap.size,0)]) (w.alloc (.map j a)) (QR .i64 c f) w.heap.size 0:=
  ⟨rfl,N,j,a,heap_alloc_new w _,E,O,K.tr T,λi e k=>⟨(l i e k).1,(l i e k).2.1.tr T,(l i e k).2.2.1.tr T,(l i e k).2.2.2.tr T⟩,M⟩
 exact hx;exact .mref _ _ (QR .i64 c f) (some (w.heap.size,0)) w.heap.size σ (by rw[<- L];simp) ⟨by simp[QR,Wq,Kd.ty],rfl⟩ (QB _) (λ_=>rfl)
def Qxd{S}{h:List Ob}{t}{T}(R:WD S h t T):QM prog 95 h [.ptr t 0 0 0] (λd e=>d=.ptr (h.length+1) 0 0 0/\WD (λl=>h.length<=l) e (h.length+1) T/\∃g,e=h++g/\g.length=2):=by
 obtain⟨m,c,n,a,i,j,_,_⟩:=R;refine Q7 func95 ntmps95 results95 λf w o b=>?_;have p:=Qb a;simp only[go_sem,a];refine ZL b QsZ (Qxc i) λd h k=>?_;obtain⟨rfl,rfl⟩:=k;apply J5 b;exact⟨⟨h.length,c,n,VD rfl,Vc rfl,j,by show h.length<=_;omega,QB _⟩,_,rfl,rfl⟩
def JQ.nil:JQ []:=⟨TreeInv.nil,σ,σ,σ,σ⟩
def Qxe{T:List Ql}(h:Ws T){x:Ql}(a:Qw T x.iD=none):(Vk T x).length=T.length+1:=by
 rw[(Hg x h).length_eq,Kw];congr 1;unfold Wt;rw[y9.2];intro c b;have:=Hf.1 a c b;simpa using this
def Qxf{T:List Ql}(h:Ws T){x y:Ql}(a:Qw T x.iD=some y):(Vk T x).length<=T.length:=by
 rw[(Hg x h).length_eq,Kw];obtain⟨c,b⟩:=(VF h).1 a;have:(Wt T x.iD).length<T.length:=by
  unfold Wt;refine Nat.lt_of_le_of_ne (XS _ _) λe=>?_;have:=(List.length_filter_eq_length_iff.1 e) y c;simp[b]at this
 omega
section
variable {T:List Ql}(I:JQ T)
include I
theorem JQ.add{x:Ql}(h:kW T x (up T x.parent).length=0):JQ (Vk T x):=by
 unfold kW at h;by_cases l:KD x=0;case neg=>rw[Qd l]at h;exact absurd h l
 rw[Qc (by simpa using l)]at h;cases k:Qw T x.iD with
 | some y=>rw[k]at h;simp at h
 | none=>
  rw[k,Qc σ]at h;by_cases r:T.length=64;rw[Qd r]at h;cases h;rw[Qc r]at h;by_cases n:(x.parent≠0/\(Qw T x.parent).isNone)\/((Qw T x.parent).getD default).leaf=true;rw[Qd n]at h;cases h;rw[Qc n]at h;by_cases o:1<QH x.ls/\Ve T x.parent=false;rw[Qd o]at h;cases h;rw[Qc o]at h;by_cases q:(up T x.parent).length=16;rw[Qd q]at h;cases h;have s:=right_id l;have g:x.parent=0\/∃d,Qw T x.parent=some d/\d.leaf=false:=by
   by_cases g:x.parent=0;exact .inl g;cases m:Qw T x.parent with
   | none=>exact absurd (.inl ⟨g,by rw[m];rfl⟩) n
   | some d=>
    refine .inr ⟨d,rfl,?_⟩;rw[X9];exact λj=>n (.inr (by rw[m];exact j))
  have t:=I.toTreeInv.add l k (g.elim .inl λ⟨d,b,_⟩=>.inr (by rw[b];rfl)) q;refine⟨t,λc a=>?_,λc a i=>?_,λc a p i=>?_,?_⟩;rcases yv I.rising x a with rfl|a;exact l;exact I.right c a;rcases yv I.rising x a with rfl|a;rcases g with g|⟨d,b,j⟩;exact absurd g i;exact⟨d,by rw[AD I.rising,Qc s.2.2];exact b,j⟩;obtain⟨d,b,j⟩:=I.J9 c a i;refine⟨d,?_,j⟩;rw[AD I.rising,Qc (λe=>by rw[e,k]at b;cases b)];exact b;rcases yv I.rising x a with rfl|a;have f:Ve T c.parent=true:=by
   rw[<- Bool.not_eq_false];exact λm=>o ⟨p,m⟩
  unfold Ve at f;unfold kY;rw[AD I.rising,Qc s.2.2];rw[Bf]at f;rcases f with f|f;exact absurd (by simpa using f) i;exact f;have f:=I.fX c a p i;obtain⟨d,b,j⟩:=I.J9 c a i;unfold kY at f ⊢;rw[AD I.rising,Qc (λe=>by rw[e,k]at b;cases b)];exact f;rw[Qxe I.rising k];have:=I.len;omega
theorem JQ.del{b}(h:KE T b=[]):JQ (Wt T b):=by
 have l:=I.toTreeInv.del h;have g:∀c∈T,c.parent≠b:=λc a e=>by
  have:c.iD∈KE T b:=Ji.2 ⟨c,Jt.2 ⟨a,by simpa using e⟩,rfl⟩;rw[h]at this;cases this
 refine⟨l,λc a=>I.right c (Jt.1 a).1,λc a f=>?_,λc a i f=>?_,?_⟩;have a:=(Jt.1 a).1;obtain⟨d,k,j⟩:=I.J9 c a f;exact⟨d,by rw[S5 I.rising,Qc (g c a)];exact k,j⟩;have a:=(Jt.1 a).1;have:=I.fX c a i f;unfold kY at this ⊢;rw[S5 I.rising,Qc (g c a)];exact this;have:=XS (λc:Ql=>c.iD != b) T;have:=I.len;unfold Wt;omega
theorem JQ.set{x}(h:wc T x=0):JQ (Vk T x):=by
 unfold wc at h;by_cases j:KD x=0;case neg=>rw[Qd j]at h;exact absurd h j
 rw[Qc (by simpa using j)]at h;cases i:Qw T x.iD with
 | none=>rw[i,Qd (by rfl)]at h;cases h
 | some y=>
  rw[i,Qc σ]at h;simp only[KW]at h;by_cases n:x.parent≠y.parent\/x.leaf≠y.leaf;rw[Qd n]at h;cases h;rw[Qc n]at h;have l:x.parent=y.parent:=wP λe=>n (.inl e);have s:x.leaf=y.leaf:=wP λe=>n (.inr e);by_cases q:(1<QH x.ls/\Ve T x.parent=false)\/(¬ 1<QH x.ls/\(KE T x.iD).any (kY T)=true);rw[Qd q]at h;cases h;have C:=right_id j;have r:=(VF I.rising).1 i;have B:=I.toTreeInv.set j i l;have t:∀p d,Qw T p=some d->∃o,Qw (Vk T x) p=some o/\o.leaf=d.leaf:=λp d k=>by
   rw[AD I.rising];by_cases b:p=x.iD;rw[Qd b];rw[b,i]at k;cases k;exact⟨x,rfl,s⟩;rw[Qc b];exact⟨d,k,rfl⟩
  refine⟨B,λc a=>?_,λc a g=>?_,λc a m g=>?_,?_⟩;rcases yv I.rising x a with rfl|a;exact j;exact I.right c a;have:∃d,Qw T c.parent=some d/\d.leaf=false:=by
   rcases yv I.rising x a with rfl|a;rw[l]at g ⊢;exact I.J9 y r.1 g;exact I.J9 c a g
  obtain⟨d,k,u⟩:=this;obtain⟨o,z,w⟩:=t _ d k;exact⟨o,z,by rw[w,u]⟩;unfold kY;rw[AD I.rising];by_cases b:c.parent=x.iD;rw[Qd b];simp only[KW,Xo];refine wP λhx=>q (.inr ⟨hx,?_⟩);rcases yv I.rising x a with rfl|a;exact absurd m hx;rw[vG];refine⟨c.iD,Ji.2 ⟨c,Jt.2 ⟨a,by simpa using b⟩,rfl⟩,?_⟩;unfold kY;rw[(VF I.rising).2 ⟨a,rfl⟩];simpa using m;rw[Qc b];rcases yv I.rising x a with rfl|a;have f:Ve T c.parent=true:=by
   rw[<- Bool.not_eq_false];exact λv=>q (.inl ⟨m,v⟩)
  unfold Ve at f;rw[Bf]at f;rcases f with f|f;exact absurd (by simpa using f) g;exact f;exact I.fX c a m g;have:=Qxf I.rising i;have:=I.len;omega
end
def qh(T:List Ql)(c:Jc):Int:=if c.kind=1 then kW T c.cls (up T c.cls.parent).length else if c.kind=3 then wc T c.cls else if c.kind=2 then wa T c.cls.iD else 1
def xL(T:List Ql)(c:Jc):List Ql:=if qh T c=0 then (if c.kind=2 then Wt T c.cls.iD else Vk T c.cls) else T
def JQ.one{T}(I:JQ T)(c):JQ (xL T c):=by
 unfold xL;by_cases h:qh T c=0;rw[Qd h];unfold qh at h;by_cases d:c.kind=1;rw[Qd d]at h;rw[Qc ω];exact I.add h;rw[Qc d]at h;by_cases a:c.kind=3;rw[Qd a]at h;rw[Qc ω];exact I.set h;rw[Qc a]at h;by_cases b:c.kind=2;rw[Qd b]at h ⊢;unfold wa at h;by_cases f:(Qw T c.cls.iD).isNone=true;rw[Qd f]at h;cases h;rw[Qc f]at h;by_cases e:KE T c.cls.iD≠[];rw[Qd e]at h;cases h;exact I.del (wP e);rw[Qc b]at h;cases h;rw[Qc h];exact I
def Xa.toS{S}{h a}{t m}{L}(A:Xa h t m L a)(d:S t)(b:S m):WD S a t L/\Step S h a:=by
 obtain⟨⟨c,p,o,n,k⟩,g,f⟩:=A;exact⟨⟨m,c,p,o,n,k,d,b⟩,⟨λl j i=>f l j (λe=>i (e▸b)),g⟩⟩
section
variable {S:Nat->Prop}{h:List Ob}{t:Nat}{T:List Ql}(R:WD S h t T)(I:JQ T)
include R I
theorem Qxi(x:Ql):QM prog 131 h [.ptr t 0 0 0,WV x] (λd a=>d=Qa (kW T x (up T x.parent).length)/\WD S a t (if kW T x (up T x.parent).length=0 then Vk T x else T)/\Step S h a):=by
 obtain⟨m,c,k,j,i,g,f,b⟩:=R;have:=I.len;exact QM.mono (QuN h t m c g j i x 16 π (I.ends _)) λd a ⟨e,A⟩=>⟨e,A.toS f b⟩
theorem Qxj(x):QM prog 132 h [.ptr t 0 0 0,WV x] (λd a=>d=Qa (wc T x)/\WD S a t (if wc T x=0 then Vk T x else T)/\Step S h a):=by
 obtain⟨m,c,k,j,i,g,f,b⟩:=R;have:=I.len;exact QM.mono (QuT h t m c g ω j i x) λd a ⟨e,A⟩=>⟨e,A.toS f b⟩
theorem Qxk(a):QM prog 134 h [.ptr t 0 0 0,Qa a] (λd b=>d=Qa (wa T a)/\WD S b t (if wa T a=0 then Wt T a else T)/\Step S h b):=by
 obtain⟨m,c,l,k,j,i,g,f⟩:=R;have:=I.len;exact QM.mono (QuO h t m c i ω k j a) λd b ⟨e,A⟩=>⟨e,A.toS g f⟩
end
def WD.app{S}{h:List Ob}{t}{T}(R:WD S h t T)(g):WD (λl=>S l/\l<h.length) (h++g) t T:=R.step λl a b=>⟨⟨b,a⟩,QE a⟩
def Qxl{S}{h:List Ob}{t tb}{T}(R:WD S h t T)(I:JQ T)(x:Ql)(e:h[tb]?=some ⟨.one,0,1,1,λ_=>[.ptr t 0 0 0]⟩):QM prog 133 h [WV x,.ptr tb 0 0 0] (λd c=>d=Qa (wa T x.iD)/\WD S c t (if wa T x.iD=0 then Wt T x.iD else T)/\Step S h c):=by
 refine Q7 func133 ntmps133 results133 λf w p b=>?_;have o:=Qb e;simp only[go_sem,Qj,e,o];refine ZL b Qs3 (Qxk (R.app _) I x.iD) λd h i=>?_;obtain⟨rfl,n,a⟩:=i;apply Qg b;exact⟨n.step λl _ g=>⟨g.1,rfl⟩,⟨λl m k=>(a.keep l ξ (λj=>k j.1)).trans (QE m),by have:=a.len;simp at this;omega⟩⟩
def Qxm{S}{h}{t}{T}(R:WD S h t T)(I:JQ T)(x:Jc):QM prog 96 h [.ptr t 0 0 0,.agg x.cells] (λd r=>d=Qa (qh T x)/\WD S r t (xL T x)/\Step S h r):=by
 have f:∀{g j:List Ob} {q:List Ql},WD (λl=>S l/\l<h.length) j t q->Step (λl=>S l/\l<h.length) (h++g) j->WD S j t q/\Step S h j:=λ{g j q} e c=>
  ⟨e.step λl _ p=>⟨p.1,rfl⟩,⟨λl y v=>(c.keep l ξ (λu=>v u.1)).trans (QE y),by have:=c.len;simp at this;omega⟩⟩
 unfold xL qh;by_cases n:x.kind=1;have d1:(x.kind==1)=true:=by simpa using n
 simp only[Qd n,Qc (show ¬ x.kind=2 from ω)];refine Q7 func96 ntmps96 results96 λa w o b=>?_;simp only[go_sem,Qj,d1];refine ZL b Qs0 (Qxi (R.app _) I x.cls) λd h i=>?_;obtain⟨rfl,e,c⟩:=i;apply Qg b;exact f e c;have d1:(x.kind==1)=false:=by simpa using n
 simp only[Qc n];by_cases k:x.kind=3;have d3:(x.kind==3)=true:=by simpa using k
 simp only[Qd k,Qc (show ¬ x.kind=2 from ω)];refine Q7 func96 ntmps96 results96 λa w o b=>?_;simp only[go_sem,Qj,d1,d3];refine ZL b Qs1 (Qxj (R.app _) I x.cls) λd h i=>?_;obtain⟨rfl,e,c⟩:=i;apply Qg b;exact f e c;have d3:(x.kind==3)=false:=by simpa using k
 simp only[Qc k];by_cases m:x.kind=2;have d2:(x.kind==2)=true:=by simpa using m
 simp only[Qd m];refine Q7 func96 ntmps96 results96 λa w o b=>?_;simp only[go_sem,Qj,d1,d2,d3];refine ZL b Qs2 (Qxl (tb:=h.length) (R.app _) I x.cls (Vc rfl)) λd h i=>?_;obtain⟨rfl,e,c⟩:=i;apply Qg b;exact f e c;have d2:(x.kind==2)=false:=by simpa using m
 simp only[Qc m];refine Q7 func96 ntmps96 results96 λa w o b=>?_;simp only[go_sem,Qj,d1,d2,d3];exact⟨R.step λl s p=>⟨p,QE s⟩,Step.app S h _⟩
end Go.Fg.X
namespace Go.Fg
open Go.RowKit (Below)
section
variable {P:Program}{L:Jf}{base nt:Nat}{s:St}{o:Oper}{t:TypeId}{x i:Operand}
def Tl(m:Z8 P L){v}(k:o.op=.insert t x i v){p}{f}(h:GN L s.h t (Qs s.fr x) (Qs s.fr i) (Qs s.fr v)=some (p,f))(j:p):∀(Z:Nat->Prop) d a w,Rel Z base nt s d a w->base<=w.heap.size->∃v b c,((execOp a.eval o).run P w=.ok (.value v) b\/((execOp a.eval o).run P w=.ok .skip b/\v=Go.undef))/\Tr s.h d w f c b/\Zh Z base f c b/\QD Z f c b .undef v/\Below base w b/\jx w b:=by
 have q:=Qcv (P:=P) (base:=base) (nt:=nt) (o:=⟨o.dst,.mapUpdate t x i v,o.type,o.pos,o.after,o.guard⟩) m rfl h j;intro Z d a w r l;obtain⟨u,b,c,g,n⟩:=q Z d a w r l;have e:execOp a.eval ⟨o.dst,.mapUpdate t x i v,o.type,o.pos,o.after,o.guard⟩=execOp a.eval o:=by simp[execOp,k]
 rw[e]at g;exact⟨u,b,c,g,n⟩
end
section
variable {P:Program}{base nt:Nat}{w0:Start}{Q:Exit->St->Prop}{k:List Item}{s:St}{X:Cx}
def Qxn{L}(E:Z8 P L)(F:base<=w0.w.heap.size){K}{g:TypeId}{pos}{c}{q}{r}{t:TypeId}{x i v}{p}{h'}
  (h:GN L s.h t (Qs s.fr x) (Qs s.fr i) (Qs s.fr v)=some (p,h')) (C:p) (j:AX P base nt w0 K r ⟨s.fr,h'⟩):AX P base nt w0 K ((false,⟨none,.insert t x i v,g,pos,c,q⟩,none)::r) s:=by
 simp only[AX,Xi,qB];intro Z z B a w f b;obtain⟨u,H,y,e,d,m,I,l,n⟩:=Tl (P:=P) (base:=base) (nt:=nt) (o:=⟨none,.insert t x i v,g,pos,c,q⟩) E rfl h C Z B a w f (JY F b.1.size);unfold Oper.wp;rcases e with e|⟨e,J⟩;rw[e];simp only[Oper.upon_value];exact⟨n,.undef,_,y,u,j,f.Ad d m u,b.step d l,d,rfl⟩;rw[e];simp only[Oper.upon_skip];exact⟨n,.undef,_,y,_,j,f.Ad d m _,b.step d l,d,rfl⟩
def Qxo{L:Jf}(B:Z8 P L)(I:base<=w0.w.heap.size){K:St->Prop}{g:TypeId}{pos:String}{d:Array Edge}{C:Option (Nat × Bool)}{r:List (Bool × Oper × G)}{t h E a b H F:Nat}{j f:List Value}{x i v:Operand}{q:IntKind}{l c:Nat}{e:List ZC}{n:Int}
  (u:ty L t=some ⟨.map h E,a,b,j⟩) (m:ty L h=some ⟨.int q,H,F,f⟩) (o:Qs s.fr x=.mref l 0) (z:Qs s.fr i=.raw (.int q n)) (w:s.h[l]?=some (QR q c e))
  (y:AX P base nt w0 K r ⟨s.fr,s.h.set l (J1 q c e n (Qs s.fr v))⟩):AX P base nt w0 K ((false,⟨none,.insert t x i v,g,pos,d,C⟩,none)::r) s:=by
 refine Qxn B I (h':=s.h.set l (J1 q c e n (Qs s.fr v))) (p:=IsMap q (QR q c e)/\q=q/\0=0/\(QR q c e).kd.ro=false) ?_ ⟨?_,rfl,rfl,rfl⟩ y;rw[o,z];simp only[GN,u,m,w];rw[n9,oa];exact(Qco q c e).mpr trivial
def FE(f){g}{a}(d:qz P X)(c:base<=w0.w.heap.size)(i:P.follows .mixedOrders=true)(l)(R)(e:Dg [] X.L a l R=true)(j:BL a s.fr=true)
  (n:∀s,Qo w0 s f->Qz P base nt w0 Q k .normal s) (h:K8 P base w0 X nt (EW P base w0 X nt (λs=>Qo w0 s f) R.length (jF [] a R) (l.map (·.1))) (Vj [] a l) s):Qz P base nt w0 Q (.code (.region g a true)::k) .normal s:=by
 have m:R.Nodup:=by
  simp only[Dg,ZE]at e;exact(dV e.1.2).1
 exact Qdq d.L c i l R e j (AX.mono (λs b=>oV d c (λs b=>n s b) _ _ _ s m b) _ _ (ET d c _ _ h))
end
section
variable {P:Program}{L:Jf}{base nt:Nat}{w0:Start}{Q:Exit->St->Prop}
end
end Go.Fg
namespace Go.Fg
section
variable {P:Program}{base nt:Nat}{w0:Start}{Q:Exit->St->Prop}{k:List Item}{s:St}
def ik(P:Program)(base nt:Nat)(w0:Start)(Q:Exit->St->Prop)(k:List Item)(T:St->Prop):Exit->St->Prop
 | .normal,s=>∃a,T a/\Qo w0 s a
 | e,s=>Qz P base nt w0 Q k e s
variable {T:St->Prop}
@[go_sem] theorem QId:ik P base nt w0 Q k T .normal s=∃a,T a/\Qo w0 s a:=Vb rfl
@[go_sem] theorem QIe{j}:ik P base nt w0 Q k T (.exit j) s=Qz P base nt w0 Q k (.exit j) s:=Vb rfl
@[go_sem] theorem QIf:ik P base nt w0 Q k T .ret s=Qz P base nt w0 Q k .ret s:=Vb rfl
def iq{x}{c}(T)(f:Qz P base nt w0 (ik P base nt w0 Q (.code c::k) T) [x] .normal s)(q:∀g,T g->Qz P base nt w0 Q (.code c::k) .normal g):Qz P base nt w0 Q (x::.code c::k) .normal s:=by
 have d:∀h,(∃g,T g/\Qo w0 h g)->Qz P base nt w0 Q (.code c::k) .normal h:=λh ⟨g,p,o⟩=>Lb o (q g p);cases x with
 | code x=>
  simp only[Qz]at f;show A P base nt w0 x _ s;refine f.mono λe h j=>?_;cases e with
  | normal=>exact d _ j
  | _=>exact j
 | ops l=>
  simp only[Qz]at f;show AG P base nt w0 l _ s;intro Z z n a w r b;refine fH (λe y v ⟨h,u,i,m,t⟩=>⟨h,u,?_,m,t⟩) _ _ _ (f Z z n a w r b);cases e with
  | normal=>exact d _ i
  | _=>exact i
 | inBlock id=>simp only[Qz]at f ⊢;exact d _ f
 | inScope=>simp only[Qz]at f ⊢;exact d _ f
end
def TV:List Item->Bool
 | .inBlock _::k=>TV k
 | .inScope::k=>TV k
 | .code _::_=>true
 | .ops _::_=>true
 | []=>false
def Cg{P}{b g}{e}{Q}{s f}(h:Qo e s f):∀{k:List Item},TV k=true->Qz P b g e Q k .normal f->Qz P b g e Q k .normal s
 | [],d,_=>by cases d
 | .code c::k,_,a=>Lb h a
 | .ops l::k,_,a=>G4 h a
 | .inBlock n::k,d,a=>by
  rw[TV]at d;simp only[Qz]at a ⊢;exact Cg h d a
 | .inScope::k,d,a=>by
  rw[TV]at d;simp only[Qz]at a ⊢;exact Cg h d a
end Go.Fg
namespace Go.Fg.X
open Go.Proofs Go.Fg
open Go.Proofs.Tryz
@[go_sem] def uI(n:Int):D:=.raw (.int .u64 n)
def Qt(x y:Int):Bool:=decide (x<y)
def Ch(d:Array Int):Nat->List D:=λi=>[uI d[i]!]
@[go_sem] theorem QIg(d:Array Int)(i):Ch d i=[uI d[i]!]:=rfl
@[go_sem] def Zd(g:Nat)(d:Array Int):Ob:=⟨.arr,g,1,d.size,Ch d⟩
structure QIh (h h':List Ob) (lo:Nat) (o:Ob):Prop where
 at_:h'[lo]?=some o
 JU:∀l,l<h.length->l≠lo->h'[l]? = h[l]?
 len:h.length<=h'.length
def Qxq(x):QI prog 254 [uI x] (QN (QU false)):=by
 refine QY 0 func254 ntmps254 results254 λa w b=>?_;simp only[go_sem];simp only[go_sem,bne_self_eq_false]
def wu(x y):QI prog 218 [uI x,uI y] (QN (QU (Qt x y))):=by
 refine QY 0 func218 ntmps218 results218 λb w a=>?_;simp only[go_sem];apply QV a QfI (Qxq x);apply Qh a;simp only[go_sem,Go.undef];unfold Qt;rfl
def wv{h:List Ob}{l}{o}(e:h[l]?=some o):h.set l o=h:=y8 λi=>by
 by_cases c:l=i;subst c;rw[QF (Qb e),e];rw[Qp c]
@[go_sem] def Po(n:Nat):Ob:=⟨.one,0,1,1,λ_=>[Qa n]⟩
section
variable {h:List Ob}{lo g:Nat}{d:Array Int}(ho:h[lo]?=some (Zd g d))
include ho
theorem tu{c}(s)(e:h[c]?=some (Po s))(t:c≠lo)(a b)(j:a<d.size)(m:b<d.size)(p:s<1000000):
  QM prog 285 h [.ref lo g 0 d.size,Qa a,Qa b,.ptr c 0 0 0] (λl k=>l=.tup [Qa (Sort.order2 Qt d a b s).1,Qa (Sort.order2 Qt d a b s).2.1]/\k=h.set c (Po (Sort.order2 Qt d a b s).2.2)):=by
 have n:=Jr (show s<4611686018427387904 from ω);unfold Sort.order2;refine Q7 func285 ntmps285 results285 λi w o f=>?_;have r:=Qb ho;have u:=Qb e;simp only[go_sem];apply Qv f i9;simp only[go_sem,ho,j,m];apply ZD f jH (wu d[b]! d[a]!);apply Zp f;cases q:Qt d[b]! d[a]!;simp only[go_sem];exact(wv e).symm;simp only[go_sem,e,n]
theorem QhT(a b s:Nat)(e:a<d.size)(c:b<d.size):(Sort.order2 Qt d a b s).1<d.size/\(Sort.order2 Qt d a b s).2.1<d.size/\(Sort.order2 Qt d a b s).2.2<=s+1:=by
 have _hu:=ho;unfold Sort.order2;split<;>simp_all
theorem tv{e}(s)(k:h[e]?=some (Po s))(j:e≠lo)(a b c)(m:a<d.size)(q:b<d.size)(r:c<d.size)(B:s<900000):
  QM prog 284 h [.ref lo g 0 d.size,Qa a,Qa b,Qa c,.ptr e 0 0 0] (λy x=>y=Qa (Sort.median Qt d a b c s).1/\x=h.set e (Po (Sort.median Qt d a b c s).2)):=by
 have l:=QhT ho a b s m q;have v:=QhT ho (Sort.order2 Qt d a b s).2.1 c (Sort.order2 Qt d a b s).2.2 l.2.1 r;have t:=Qb k;have p:∀o,(h.set e o)[lo]?=some (Zd g d):=λo=>(Qp j).trans ho;have n:∀o,(h.set e o)[e]?=some o:=λo=>QF t;unfold Sort.median;refine Q7 func284 ntmps284 results284 λu w z f=>?_;have C:=Qb ho;have t:=Qb k;simp only[go_sem];refine ZL f pT (tu ho s k j a b m q ω) λd h i=>?_;obtain⟨rfl,rfl⟩:=i;apply Qg f;refine ZL f pT (tu (p _) _ (n _) j _ c l.2.1 r ω) λd h i=>?_;obtain⟨rfl,rfl⟩:=i;apply Qh f;simp only[go_sem,JN];refine ZL f pT (tu (p _) _ (n _) j _ _ l.1 v.1 ω) λd h i=>?_;obtain⟨rfl,rfl⟩:=i;apply Qh f;simp only[go_sem,JN]
theorem tx{b}(s)(c:h[b]?=some (Po s))(o:b≠lo)(a)(r:1<=a)(t:a+1<d.size)(i:s<900000)(q:d.size<1000000000):
  QM prog 283 h [.ref lo g 0 d.size,Qa a,.ptr b 0 0 0] (λn k=>n=Qa (Sort.medianAdjacent Qt d a s).1/\k=h.set b (Po (Sort.medianAdjacent Qt d a s).2)):=by
 have m:IntKind.i64.wrap ((a:Int)-1)=((a-1:Nat):Int):=Zw;have l:IntKind.i64.wrap ((a:Int)+1)=((a+1:Nat):Int):=Zw;unfold Sort.medianAdjacent;refine Q7 func283 ntmps283 results283 λf w p e=>?_;have u:=Qb ho;have v:=Qb c;simp only[go_sem,m,l];refine ZL e pS (tv ho s c o (a-1) a (a+1) ω ω ω i) λd h j=>?_;obtain⟨rfl,rfl⟩:=j;exact VE e
end
def tz{d:Array Int}(a b c s:Nat)(g:a<d.size)(f:b<d.size)(e:c<d.size):(Sort.median Qt d a b c s).1<d.size/\(Sort.median Qt d a b c s).2<=s+3:=by
 unfold Sort.median Sort.order2;dsimp only
 repeat' split
 all_goals simp_all
def FF:Sort.Hint->Nat
 | .unknown=>0
 | .increasing=>1
 | .decreasing=>2
def tA(r:Nat × Nat):Nat × Sort.Hint:=(r.1,if r.2=0 then .increasing else if r.2=12 then .decreasing else .unknown)
section
variable (d:Array Int)(a b:Nat)
def Kg(k:Nat):Nat:=a+(b-a)/4*k
def FG:Nat × Nat:=Sort.medianAdjacent Qt d (Kg a b 1) 0
def FH:Nat × Nat:=Sort.medianAdjacent Qt d (Kg a b 2) (FG d a b).2
def Ml:Nat × Nat:=Sort.medianAdjacent Qt d (Kg a b 3) (FH d a b).2
def ch4:Nat × Nat:=Sort.median Qt d (FG d a b).1 (FH d a b).1 (Ml d a b).1 (Ml d a b).2
def ch5:Nat × Nat:=Sort.median Qt d (Kg a b 1) (Kg a b 2) (Kg a b 3) 0
def chP:Nat × Nat:=if b-a >= 8 then (if b-a >= 50 then ch4 d a b else ch5 d a b) else (Kg a b 2,0)
theorem Qxr:Sort.choosePivot Qt d a b=tA (chP d a b):=rfl
end
section
variable {h:List Ob}{lo g:Nat}{d:Array Int}(ho:h[lo]?=some (Zd g d))
include ho
theorem Qxs(a b)(S:a<b)(R:b<=d.size)(u:d.size<1000000000):
  QM prog 273 h [.ref lo g 0 d.size,Qa a,Qa b] (λM H=>M=.tup [Qa (Sort.choosePivot Qt d a b).1,Qa (FF (Sort.choosePivot Qt d a b).2)]/\∃t,H=h++t):=by
 have L:IntKind.i64.wrap ((b:Int)-a)=((b-a:Nat):Int):=Zw;have O:∀n:Nat,n<1000000000->IntKind.i64.wrap (n:Int)=n:=λn Q=>wrap64 ω ω;have K:IntKind.i64.wrap (((b-a)/4:Nat)*(1:Int))=(((b-a)/4*1:Nat):Int):=Zw;have J:IntKind.i64.wrap (((b-a)/4:Nat)*(2:Int))=(((b-a)/4*2:Nat):Int):=Zw;have I:IntKind.i64.wrap (((b-a)/4:Nat)*(3:Int))=(((b-a)/4*3:Nat):Int):=Zw;have f1:IntKind.i64.wrap ((a:Int)+((b-a)/4*1:Nat))=((Kg a b 1:Nat):Int):=by unfold Kg;rw[wrap64 ω ω];omega
 have f2:IntKind.i64.wrap ((a:Int)+((b-a)/4*2:Nat))=((Kg a b 2:Nat):Int):=by unfold Kg;rw[wrap64 ω ω];omega
 have f3:IntKind.i64.wrap ((a:Int)+((b-a)/4*3:Nat))=((Kg a b 3:Nat):Int):=by unfold Kg;rw[wrap64 ω ω];omega
 have f0:IntKind.i64.wrap (((b-a:Nat):Int).tdiv 4)=(((b-a)/4:Nat):Int):=by rw[show ((b-a:Nat):Int).tdiv 4=(((b-a)/4:Nat):Int) from rfl,wrap64 ω ω]
 refine Q7 func273 ntmps273 results273 λB w P e=>?_;have N:=Qb ho;simp only[go_sem,L,f0,K,J,I,f1,f2,f3];have p:∀o:Ob,(h++[o])[lo]?=some (Zd g d):=λo=>by rw[JJ N];exact ho
 have i:∀o:Ob,(h++[o])[h.length]?=some o:=λo=>σ;have m:∀o s:Ob,(h++[o]).set h.length s=h++[s]:=λo s=>by rw[eF rfl];rfl
 have q:h.length≠lo:=ω;rw[Qxr];unfold chP;by_cases y:b-a >= 8;rw[Qd y];have d8:decide ((8:Int)<=(b-a:Nat))=true:=QS ω;by_cases z:b-a >= 50;rw[Qd z];have d50:decide ((50:Int)<=(b-a:Nat))=true:=QS ω;simp only[go_sem,d8,d50];have F:(FG d a b).1<d.size/\(FG d a b).2<=3:=by unfold FG;exact tz _ _ _ _ (by unfold Kg;omega) (by unfold Kg;omega) (by unfold Kg;omega)
 have E:(FH d a b).1<d.size/\(FH d a b).2<=(FG d a b).2+3:=by unfold FH;exact tz _ _ _ _ (by unfold Kg;omega) (by unfold Kg;omega) (by unfold Kg;omega)
 have C:(Ml d a b).1<d.size/\(Ml d a b).2<=(FH d a b).2+3:=by unfold Ml;exact tz _ _ _ _ (by unfold Kg;omega) (by unfold Kg;omega) (by unfold Kg;omega)
 refine ZL e pR (tx (p _) 0 (i _) q (Kg a b 1) (by unfold Kg;omega) (by unfold Kg;omega) ω u) λd h f=>?_;obtain⟨rfl,rfl⟩:=f;apply Qh e;simp only[go_sem,m];refine ZL e pR (tx (p _) (FG d a b).2 (i _) q (Kg a b 2) (by unfold Kg;omega) (by unfold Kg;omega) ω u) λd h f=>?_;obtain⟨rfl,rfl⟩:=f;apply Qh e;simp only[go_sem,m];refine ZL e pR (tx (p _) (FH d a b).2 (i _) q (Kg a b 3) (by unfold Kg;omega) (by unfold Kg;omega) ω u) λd h f=>?_;obtain⟨rfl,rfl⟩:=f;apply Qh e;simp only[go_sem,m];refine ZL e pS (tv (p _) (Ml d a b).2 (i _) q (Sort.medianAdjacent Qt d (Kg a b 1) 0).1 (Sort.medianAdjacent Qt d (Kg a b 2) (FG d a b).2).1 (Sort.medianAdjacent Qt d (Kg a b 3) (FH d a b).2).1 F.1 E.1 C.1 ω) λd h f=>?_;obtain⟨rfl,rfl⟩:=f;apply Qh e;simp only[go_sem,m];generalize v:Sort.median Qt d (Sort.medianAdjacent Qt d (Kg a b 1) 0).1 (Sort.medianAdjacent Qt d (Kg a b 2) (FG d a b).2).1 (Sort.medianAdjacent Qt d (Kg a b 3) (FH d a b).2).1 (Ml d a b).2=r;have x:ch4 d a b=r:=v;rw[x];simp only[go_sem,i];unfold tA;by_cases j:r.2=0;have l:((r.2:Int)==0)=true:=by rw[j];rfl
 simp only[go_sem,j];exact⟨rfl,_,rfl⟩;have l:((r.2:Int)==0)=false:=beq_eq_false_iff_ne.mpr ω;by_cases c:r.2=12;have k:((r.2:Int)==12)=true:=by rw[c];rfl
 simp only[go_sem,c];exact⟨rfl,_,rfl⟩;have k:((r.2:Int)==12)=false:=beq_eq_false_iff_ne.mpr ω;simp only[go_sem,l,k,j,c];exact⟨rfl,_,rfl⟩;rw[Qc z];have d50:decide ((50:Int)<=(b-a:Nat))=false:=QG ω;simp only[go_sem,d8,d50];refine ZL e pS (tv (p _) 0 (i _) q (Kg a b 1) (Kg a b 2) (Kg a b 3) (by unfold Kg;omega) (by unfold Kg;omega) (by unfold Kg;omega) ω) λd h f=>?_;obtain⟨rfl,rfl⟩:=f;apply Qh e;simp only[go_sem,m];generalize v:Sort.median Qt d (Kg a b 1) (Kg a b 2) (Kg a b 3) 0=r;have x:ch5 d a b=r:=v;rw[x];simp only[go_sem,i];unfold tA;by_cases j:r.2=0;have l:((r.2:Int)==0)=true:=by rw[j];rfl
 simp only[go_sem,j];exact⟨rfl,_,rfl⟩;have l:((r.2:Int)==0)=false:=beq_eq_false_iff_ne.mpr ω;by_cases c:r.2=12;have k:((r.2:Int)==12)=true:=by rw[c];rfl
 simp only[go_sem,c];exact⟨rfl,_,rfl⟩;have k:((r.2:Int)==12)=false:=beq_eq_false_iff_ne.mpr ω;simp only[go_sem,l,k,j,c];exact⟨rfl,_,rfl⟩;rw[Qc y];have d8:decide ((8:Int)<=(b-a:Nat))=false:=QG ω;simp only[go_sem,d8,i];exact⟨rfl,_,rfl⟩
end
def vn{h:List Ob}{a g}{d}(b:a<h.length):(h.set a (Zd g d))[a]?=some (Zd g d):=QF b
def swp_size(d:Array Int)(i j:Nat):(Sort.swp d i j).size=d.size:=by simp[Sort.swp]
def jW(c:Bool)(x y:D):List.drop 1 (bif c then [x] else [y])=[]:=by cases c<;>rfl
def jX(g)(d:Array Int)(i j n)(l:d.size=n)(e:i<n)(h:j<n):
  (⟨.arr,g,1,n,λk=>bif k==j then [.raw (.int .u64 d[i]!)] else bif k==i then [.raw (.int .u64 d[j]!)] else [.raw (.int .u64 d[k]!)]⟩:Ob)=Zd g (Sort.swp d i j):=by
 subst l;unfold Zd;congr 1;exact(swp_size d i j).symm;funext k;unfold Ch uI Sort.swp;by_cases b:k=j;subst b;have c:(k==k)=true:=NH k;by_cases a:k=i;subst a;simp[e];simp[e,h];by_cases a:k=i;subst a;have c:(k==j)=false:=beq_eq_false_iff_ne.mpr b;simp[e,h,Q8 b,c];have c:(k==j)=false:=beq_eq_false_iff_ne.mpr b;have m:(k==i)=false:=beq_eq_false_iff_ne.mpr a;rw[c,m];by_cases f:k<d.size;simp[f,Q8 b,Q8 a];simp[f]
section
variable {h:List Ob}{lo g:Nat}{d:Array Int}(ho:h[lo]?=some (Zd g d))
include ho
theorem Qxt(a b)(I:a<b)(F:b<=d.size)(B:d.size<1000000000):
  QM prog 274 h [.ref lo g 0 d.size,Qa a,Qa b] (λu r=>u=.tup []/\r=h.set lo (Zd g (Sort.reverseRange d a b))):=by
 have t:IntKind.i64.wrap ((b:Int)-1)=((b-1:Nat):Int):=Zw;refine Q7 func274 ntmps274 results274 λp w z l=>?_;have v:=Qb ho;simp only[go_sem,t];refine ZN (λk q=>∃e:Array Int,e.size=d.size/\Sort.reverseLoop (a+k) (b-1-k) e=Sort.reverseRange d a b/\a+k<=b-k/\q=⟨[(0,.ref lo g 0 d.size),(6,Qa (a+k:Nat)),(7,Qa (b-1-k:Nat))],h.set lo (Zd g e)⟩) d.size (s0:=⟨[(0,.ref lo g 0 d.size),(6,Qa (a+0:Nat)),(7,Qa (b-1-0:Nat))],h.set lo (Zd g d)⟩) ?_ ⟨d,rfl,rfl,ω,rfl⟩ ?_;rw[wv ho];exact Qo.frame (by simp only[go_sem,Ep]);rintro k _ C ⟨e,f,j,E,rfl⟩;have i:=vn (g:=g) (d:=e) v;generalize n:h.set lo (Zd g e)=H at i;have s:=Qb i;by_cases c:a+k<b-1-k;have m:decide (a+k<b-1-k)=true:=QS c;have c2:a+k<d.size:=ω;have o:b-1-k<d.size:=ω;apply Qh l;simp only[go_sem,m];apply Qv l ii;simp only[go_sem,Qj,i,f,c2,o,QF s,JN,jW];have v1:IntKind.i64.wrap (((a+k:Nat):Int)+1)=((a+(k+1):Nat):Int):=Zw;have v2:IntKind.i64.wrap (((b-1-k:Nat):Int)-1)=((b-1-(k+1):Nat):Int):=Zw;rw[jX g e _ _ _ f c2 o,v1,v2];have y:Sort.reverseLoop (a+(k+1)) (b-1-(k+1)) (Sort.swp e (a+k) (b-1-k))=Sort.reverseRange d a b:=by
  rw[<- j]
  conv=>rhs;rw[Sort.reverseLoop,Qd c]
  congr 1
 refine⟨ω,_,?_,Sort.swp e (a+k) (b-1-k),by rw[swp_size,f],y,ω,rfl⟩;rw[<- n,JN];exact QO;have m:decide (a+k<b-1-k)=false:=QG c;apply Qh l;simp only[go_sem,m];rw[Sort.reverseLoop,Qc c]at j;subst n;exact congrArg (λx=>h.set lo (Zd g x)) j
end
def QhX(a):∀(j:Nat) (d:Array Int),(Sort.insInner Qt a j d).size=d.size
 | 0,d=>rfl
 | j+1,d=>by rw[Sort.insInner];split;rw[QhX a j,swp_size];rfl
section
variable {h:List Ob}{lo g:Nat}{d:Array Int}(ho:h[lo]?=some (Zd g d))
include ho
theorem Qxu(a b)(Y:a<=b)(W:b<=d.size)(Q:d.size<1000000000):
  QM prog 270 h [.ref lo g 0 d.size,Qa a,Qa b] (λM K=>M=.tup []/\K=h.set lo (Zd g (Sort.insertionSort Qt d a b))):=by
 have L:IntKind.i64.wrap ((a:Int)+1)=((a+1:Nat):Int):=Zw;refine Q7 func270 ntmps270 results270 λF w P e=>?_;have E:=Qb ho;simp only[go_sem,L];refine ZN (λk r=>∃f:Array Int,f.size=d.size/\Sort.insOuter Qt a b (a+1+k) f=Sort.insertionSort Qt d a b/\a+1+k<=b+1/\r=⟨[(0,.ref lo g 0 d.size),(1,Qa a),(2,Qa b),(6,Qa (a+1+k:Nat))],h.set lo (Zd g f)⟩) d.size (s0:=⟨[(0,.ref lo g 0 d.size),(1,Qa a),(2,Qa b),(6,Qa (a+1+0:Nat))],h.set lo (Zd g d)⟩) ?_ ⟨d,rfl,rfl,ω,rfl⟩ ?_;rw[wv ho];exact QO;rintro k _ T ⟨f,J,p,V,rfl⟩;have S:=vn (g:=g) (d:=f) E;by_cases c:a+1+k<b
 .have z:decide (a+1+k<b)=true:=QS c;apply Qh e;simp only[go_sem,z];refine ZN (λm r=>∃(d1:Array Int) (j:Nat),d1.size=d.size/\j+m=a+1+k/\Sort.insInner Qt a j d1=Sort.insInner Qt a (a+1+k) f/\a<=j/\r=⟨[(0,.ref lo g 0 d.size),(1,Qa a),(2,Qa b),(6,Qa (a+1+k:Nat)),(7,Qa j)],h.set lo (Zd g d1)⟩) (a+1+k) (s0:=⟨[(0,.ref lo g 0 d.size),(1,Qa a),(2,Qa b),(6,Qa (a+1+k:Nat)),(7,Qa (a+1+k:Nat))],h.set lo (Zd g f)⟩) QO ⟨f,_,J,rfl,rfl,JY (Em a) (br _ _),rfl⟩ ?_;rintro m _ R ⟨d1,j,l,U,B,O,rfl⟩;have q:=vn (g:=g) (d:=d1) E;generalize v:h.set lo (Zd g d1)=H at q;have N:=Qb q;by_cases c2:a<j
  .have y:decide (a<j)=true:=QS c2;have v1:IntKind.i64.wrap ((j:Int)-1)=((j-1:Nat):Int):=Zw;have u:j<d.size:=ω;have t:j-1<d.size:=ω;apply Qg e;apply Qv e [0,1,2,3,4,5,6,7,8,9,10,11,12,1013,14];simp only[go_sem,q,y,v1,u,t,l];apply ZD e jH (wu d1[j]! d1[j-1]!);apply Zp e;have i:Sort.insInner Qt a j d1=if Qt d1[j]! d1[j-1]! then Sort.insInner Qt a (j-1) (Sort.swp d1 j (j-1)) else d1:=by
    obtain⟨n,rfl⟩:∃n,j=n+1:=⟨j-1,ω⟩;rw[Sort.insInner];simp[show n+1 > a from c2]
   cases o:Qt d1[j]! d1[j-1]!;rw[o,Qc π]at i;simp only[go_sem];apply Qg e;have v2:IntKind.i64.wrap (((a+1+k:Nat):Int)+1)=((a+1+(k+1):Nat):Int):=Zw;rw[v2];have C:Sort.insOuter Qt a b (a+1+(k+1)) d1=Sort.insertionSort Qt d a b:=by
    rw[<- p]
    conv=>rhs;rw[Sort.insOuter,Qd c]
    rw[<- B,i];rfl
   refine⟨ω,_,?_,d1,l,C,ω,rfl⟩;rw[<- v];exact QO
   .rw[o,Qd rfl]at i;simp only[go_sem];refine FE (⟨[(0,.ref lo g 0 d.size),(1,Qa a),(2,Qa b),(6,Qa (a+1+k:Nat)),(7,Qa j)],h.set lo (Zd g (Sort.swp d1 j (j-1)))⟩) Vd e mixed [(0,true),(1,true),(2,true),(3,true),(5,true),(6,true),(7,true),(8,true),(9,true),(10,true),(11,true),(12,true),(13,true),(14,true)] [4,15,16,17] τ τ (λs I=>Cg I rfl ?_) ?_
    rotate_left
    .simp only[go_sem,Qj,q,v1,u,t,l,QF N,JN,jW];rw[jX g d1 _ _ _ l u t,<- v,JN]
     repeat' refine And.intro ?_ ?_
     all_goals exact QO
    apply Qh e;simp only[go_sem,v1];refine⟨ω,_,?_,Sort.swp d1 j (j-1),j-1,by rw[swp_size,l],ω,by rw[<- i,B],ω,rfl⟩;exact QO
  have y:decide (a<j)=false:=QG c2;have i:Sort.insInner Qt a j d1=d1:=by
   cases j with
   | zero=>rfl
   | succ n=>rw[Sort.insInner];simp[show ¬ n+1 > a from c2]
  apply Qg e;apply Qv e [0,1,2,3,4,5,6,7,8,9,10,11,12,1013,14];simp only[go_sem,y];apply Qg e;have v2:IntKind.i64.wrap (((a+1+k:Nat):Int)+1)=((a+1+(k+1):Nat):Int):=Zw;rw[v2];have C:Sort.insOuter Qt a b (a+1+(k+1)) d1=Sort.insertionSort Qt d a b:=by
   rw[<- p]
   conv=>rhs;rw[Sort.insOuter,Qd c]
   rw[<- B,i];rfl
  refine⟨ω,_,?_,d1,l,C,ω,rfl⟩;rw[<- v];exact QO
 have z:decide (a+1+k<b)=false:=QG c;rw[Sort.insOuter,Qc c]at p;apply Qh e;simp only[go_sem,z];exact congrArg (λx=>h.set lo (Zd g x)) p
end
def tB(c first):∀(n a:Nat) (d:Array Int),c-a<=n->(Sort.siftDown Qt c first a d).size=d.size
 | n,a,d,e=>by
  rw[Sort.siftDown];split;rfl;rename_i f;split;split;rfl;split;obtain⟨b,rfl⟩:∃b,n=b+1:=⟨n-1,ω⟩;rw[tB c first b _ _ ω,swp_size];rfl;split;rfl;obtain⟨b,rfl⟩:∃b,n=b+1:=⟨n-1,ω⟩;rw[tB c first b _ _ ω,swp_size]
section
variable {h:List Ob}{lo g:Nat}{d:Array Int}(ho:h[lo]?=some (Zd g d))
include ho
theorem QhZ(b first a)(R:first+b<=d.size)(L:a<=d.size)(P:d.size<1000000000):
  QM prog 282 h [.ref lo g 0 d.size,Qa a,Qa b,Qa first] (λK J=>K=.tup []/\J=h.set lo (Zd g (Sort.siftDown Qt b first a d))):=by
 refine Q7 func282 ntmps282 results282 λE w O c=>?_;have M:=Qb ho;simp only[go_sem];refine ZN (λm I=>∃(d1:Array Int) (r:Nat),d1.size=d.size/\m<=r/\r<=d.size/\Sort.siftDown Qt b first r d1=Sort.siftDown Qt b first a d/\I=⟨[(0,.ref lo g 0 d.size),(2,Qa b),(3,Qa first),(8,Qa r)],h.set lo (Zd g d1)⟩) (d.size) (s0:=⟨[(0,.ref lo g 0 d.size),(2,Qa b),(3,Qa first),(8,Qa a)],h.set lo (Zd g d)⟩) ?_ ⟨d,a,rfl,Jj _,L,rfl,rfl⟩ ?_;rw[wv ho];exact QO;rintro m _ Q ⟨d1,r,f,T,S,e,rfl⟩;have i:=vn (g:=g) (d:=d1) M;generalize n:h.set lo (Zd g d1)=H at i;have C:=Qb i;have v1:IntKind.i64.wrap (2*(r:Int))=((2*r:Nat):Int):=Zw;have v2:IntKind.i64.wrap (((2*r:Nat):Int)+1)=((2*r+1:Nat):Int):=Zw;have v3:IntKind.i64.wrap (((2*r+1:Nat):Int)+1)=((2*r+1+1:Nat):Int):=Zw;rw[Sort.siftDown]at e;by_cases t:b<=2*r+1;have z:decide (b<=2*r+1)=true:=QS t;rw[dif_pos t]at e;apply Qh c;simp only[go_sem,v1,v2,z];exact n.symm.trans (congrArg (λx=>h.set lo (Zd g x)) e)
 .have z:decide (b<=2*r+1)=false:=QG t;rw[dif_neg t]at e;have j:first+r<d.size:=ω;have p:first+(2*r+1)<d.size:=ω;have o:IntKind.i64.wrap ((first:Int)+r)=((first+r:Nat):Int):=Zw;have u:IntKind.i64.wrap ((first:Int)+(2*r+1:Nat))=((first+(2*r+1):Nat):Int):=Zw;have B:IntKind.i64.wrap ((first:Int)+(2*r+1+1:Nat))=((first+(2*r+1+1):Nat):Int):=Zw;have F:IntKind.i64.wrap (((first+(2*r+1):Nat):Int)+1)=((first+(2*r+1)+1:Nat):Int):=Zw;apply Qh c;simp only[go_sem,v1,v2,z];first|refine qA ?_|skip
  refine BW [0,2,3,8,9] [(36,QU (decide (2*r+1+1<b)&&Qt d1[first+(2*r+1)]! d1[first+(2*r+1)+1]!))] rfl ?_ ?_;by_cases c2:2*r+1+1<b;have y:decide (2*r+1+1<b)=true:=QS c2;have k:first+(2*r+1)+1<d.size:=ω;apply Qv c o12;simp only[go_sem,i,f,v3,y,u,F,p,k];apply ZD c jH (wu d1[first+(2*r+1)]! d1[first+(2*r+1)+1]!);apply Zp c;exact QO;have y:decide (2*r+1+1<b)=false:=QG c2;apply Qv c o12;simp only[go_sem,v3,y];exact QO
  .cases q:(decide (2*r+1+1<b)&&Qt d1[first+(2*r+1)]! d1[first+(2*r+1)+1]!)
   .rw[q,Qc π]at e;apply Qg c;apply Qv c Id;simp only[go_sem,i,f,o,u,j,p];apply ZD c jH (wu d1[first+r]! d1[first+(2*r+1)]!);apply Zp c;cases l:Qt d1[first+r]! d1[first+(2*r+1)]!;rw[l,Gp,Qd rfl]at e;simp only[go_sem];exact n.symm.trans (congrArg (λx=>h.set lo (Zd g x)) e)
    .rw[l,Be,Qc π]at e
     skip
     simp only[go_sem];refine FE (⟨[(0,.ref lo g 0 d.size),(2,Qa b),(3,Qa first),(9,Qa (2*r+1:Nat))],h.set lo (Zd g (Sort.swp d1 (first+r) (first+(2*r+1))))⟩) Vd c mixed [(0,true),(1,true),(2,true),(3,true),(4,true),(5,true),(6,true),(8,true),(9,true),(10,true),(11,true),(12,true),(13,true),(14,true),(15,true),(16,true),(17,true),(18,true),(19,true),(20,true)] [7,21,22,23] τ τ (λs v=>Cg v rfl ?_) ?_
     rotate_left
     .simp only[go_sem,Qj,i,o,u,j,p,f,QF C,JN,jW];rw[jX g d1 _ _ _ f j p,<- n,JN]
      repeat' refine And.intro ?_ ?_
      all_goals exact QO
     apply Qg c;refine⟨ω,_,?_,Sort.swp d1 (first+r) (first+(2*r+1)),2*r+1,by rw[swp_size,f],ω,ω,e,rfl⟩;exact QO
   .have N:2*r+1+1<b:=by
     rw[ZE]at q;exact qZ q.1
    rw[q,Qd rfl]at e;have k:first+(2*r+1+1)<d.size:=ω;apply Qh c;simp only[go_sem,v3];apply Qv c Id;simp only[go_sem,i,f,o,B,j,k];apply ZD c jH (wu d1[first+r]! d1[first+(2*r+1+1)]!);apply Zp c;cases l:Qt d1[first+r]! d1[first+(2*r+1+1)]!;rw[l,Gp,Qd rfl]at e;simp only[go_sem];exact n.symm.trans (congrArg (λx=>h.set lo (Zd g x)) e)
    .rw[l,Be,Qc π]at e;rw[dif_pos (show 2*r+2<b from N)]at e;simp only[go_sem];refine FE (⟨[(0,.ref lo g 0 d.size),(2,Qa b),(3,Qa first),(9,Qa (2*r+1+1:Nat))],h.set lo (Zd g (Sort.swp d1 (first+r) (first+(2*r+1+1))))⟩) Vd c mixed [(0,true),(1,true),(2,true),(3,true),(4,true),(5,true),(6,true),(8,true),(9,true),(10,true),(11,true),(12,true),(13,true),(14,true),(15,true),(16,true),(17,true),(18,true),(19,true),(20,true)] [7,21,22,23] τ τ (λs v=>Cg v rfl ?_) ?_
     rotate_left
     .simp only[go_sem,Qj,i,o,B,j,k,f,QF C,JN,jW];rw[jX g d1 _ _ _ f j k,<- n,JN]
      repeat' refine And.intro ?_ ?_
      all_goals exact QO
     apply Qg c;refine⟨ω,_,?_,Sort.swp d1 (first+r) (first+(2*r+1+1)),2*r+1+1,by rw[swp_size,f],ω,ω,e,rfl⟩;exact QO
end
def iu(b first a)(d:Array Int):(Sort.siftDown Qt b first a d).size=d.size:=tB b first _ a d (QB _)
def Qh0(a first):∀(k:Nat) (d:Array Int),(Sort.heapBuild Qt a first k d).size=d.size
 | 0,d=>rfl
 | k+1,d=>by rw[Sort.heapBuild,Qh0 a first k,iu]
section
variable {h:List Ob}{lo g:Nat}{d:Array Int}(ho:h[lo]?=some (Zd g d))
include ho
theorem Qxv(a b)(V:a<b)(T:b<=d.size)(P:d.size<1000000000):
  QM prog 271 h [.ref lo g 0 d.size,Qa a,Qa b] (λL F=>L=.tup []/\F=h.set lo (Zd g (Sort.heapSort Qt d a b))):=by
 have K:IntKind.i64.wrap ((b:Int)-a)=((b-a:Nat):Int):=Zw;have z:IntKind.i64.wrap (((b-a:Nat):Int)-1)=((b-a-1:Nat):Int):=Zw;have J:((b-a-1:Nat):Int).tdiv 2=(((b-a-1)/2:Nat):Int):=rfl;have I:IntKind.i64.wrap ((((b-a-1)/2:Nat):Int))=(((b-a-1)/2:Nat):Int):=by rw[wrap64 ω ω]
 have N:((0:Nat):Int)=0:=rfl;refine Q7 func271 ntmps271 results271 λC w O c=>?_;have q:=Qb ho;simp only[go_sem,K,z,J,I];unfold Sort.heapSort;refine ZN (λm j=>∃(d1:Array Int) (k:Nat),d1.size=d.size/\k+m=(b-a-1)/2+1/\Sort.heapBuild Qt (b-a) a k d1=Sort.heapBuild Qt (b-a) a ((b-a-1)/2+1) d/\j=⟨[(0,.ref lo g 0 d.size),(6,Qa a),(7,Qa 0),(8,Qa (b-a:Nat)),(9,Qa ((k:Int)-1))],h.set lo (Zd g d1)⟩) ((b-a-1)/2+1) (s0:=⟨[(0,.ref lo g 0 d.size),(6,Qa a),(7,Qa 0),(8,Qa (b-a:Nat)),(9,Qa ((((b-a-1)/2+1:Nat):Int)-1))],h.set lo (Zd g d)⟩) ?_ ⟨d,_,rfl,rfl,rfl,rfl⟩ ?_;rw[wv ho,show ((((b-a-1)/2+1:Nat):Int)-1)=(((b-a-1)/2:Nat):Int) by omega];exact QO;rintro m _ R ⟨d1,k,p,S,e,rfl⟩;have M:=vn (g:=g) (d:=d1) q;rcases k with _|k
 .rw[Sort.heapBuild]at e;apply Qg c;apply Qh c;simp only[go_sem,z];rw[<- e];refine ZN (λm j=>∃(d2:Array Int) (k:Nat),d2.size=d.size/\k+m=b-a/\Sort.heapPop Qt a k d2=Sort.heapPop Qt a (b-a) d1/\j=⟨[(0,.ref lo g 0 d.size),(6,Qa a),(7,Qa 0),(10,Qa ((k:Int)-1))],h.set lo (Zd g d2)⟩) (b-a) (s0:=⟨[(0,.ref lo g 0 d.size),(6,Qa a),(7,Qa 0),(10,Qa (((b-a:Nat):Int)-1))],h.set lo (Zd g d1)⟩) ?_ ⟨d1,_,p,rfl,rfl,rfl⟩ ?_;rw[show (((b-a:Nat):Int)-1)=((b-a-1:Nat):Int) by omega];exact QO;rintro n _ Q ⟨d2,k,o,U,f,rfl⟩;have r:=vn (g:=g) (d:=d2) q;generalize y:h.set lo (Zd g d2)=H at r;have t:=Qb r;rcases k with _|k;rw[Sort.heapPop]at f;apply Qg c;exact y.symm.trans (congrArg (λx=>h.set lo (Zd g x)) f)
  .rw[Sort.heapPop]at f;have i:(((k+1:Nat):Int)-1)=(k:Int):=ω;have v1:IntKind.i64.wrap ((a:Int)+k)=((a+k:Nat):Int):=Zw;have v2:IntKind.i64.wrap ((k:Int)-1)=(k:Int)-1:=wrap64 ω ω;have v:a<d.size:=ω;have u:a+k<d.size:=ω;apply Qh c;simp only[go_sem,i];refine FE (⟨[(0,.ref lo g 0 d.size),(6,Qa a),(7,Qa 0),(10,Qa k)],h.set lo (Zd g (Sort.swp d2 a (a+k)))⟩) Vd c mixed [(0,true),(1,true),(2,true),(3,true),(4,true),(6,true),(7,true),(8,true),(9,true),(10,true),(11,true),(12,true),(13,true),(14,true),(15,true),(16,true)] [5,17,18,19] τ τ (λs E=>Cg E rfl ?_) ?_
   rotate_left
   .simp only[go_sem,Qj,r,v1,v,u,o,QF t,JN,jW];rw[jX g d2 _ _ _ o v u,<- y,JN]
    repeat' refine And.intro ?_ ?_
    all_goals exact QO
   apply Qg c;have B:(Sort.swp d2 a (a+k)).size=d.size:=by rw[swp_size,o]
   refine ZL c QfR (B▸QhZ (vn (g:=g) (d:=Sort.swp d2 a (a+k)) q) k a 0 ω ω ω) λd h l=>?_;obtain⟨rfl,rfl⟩:=l;apply Qh c;simp only[go_sem,JN,v2];refine⟨ω,_,?_,Sort.siftDown Qt k a 0 (Sort.swp d2 a (a+k)),k,by rw[iu,B],ω,f,rfl⟩;exact QO
 rw[Sort.heapBuild]at e;have i:(((k+1:Nat):Int)-1)=(k:Int):=ω;have v2:IntKind.i64.wrap ((k:Int)-1)=(k:Int)-1:=wrap64 ω ω;apply Qh c;simp only[go_sem,i];refine ZL c QfR (p▸QhZ M (b-a) a k ω ω ω) λd h l=>?_;obtain⟨rfl,rfl⟩:=l;apply Qh c;simp only[go_sem,JN,v2];refine⟨ω,_,?_,Sort.siftDown Qt (b-a) a k d1,k,by rw[iu,p],ω,e,rfl⟩;exact QO
end
def tC(p)(d:Array Int)(i j)(a:0<i):Sort.scanDown p d i j=if i<=j&&p d[j]! then Sort.scanDown p d i (j-1) else j:=by
 cases j with
 | zero=>
  rw[Sort.scanDown,Qc];simp;omega
 | succ j=>rw[Sort.scanDown];rfl
def iv(p q:Int->Bool)(f:∀x,q x=!p x)(d:Array Int)(i j:Nat)(m:0<i)(n:i<=j+1)(h:¬ Sort.scanUp p d j i > Sort.scanDown q d (Sort.scanUp p d j i) j):
  Sort.scanUp p d j i<Sort.scanDown q d (Sort.scanUp p d j i) j:=by
 obtain⟨l,k,g,c⟩:=Sort.scanUp_spec p d j _ i rfl;obtain⟨v1,v2,v3,b⟩:=Sort.scanDown_spec q d (Sort.scanUp p d j i) j;rcases wU (Sort.scanUp p d j i) (Sort.scanDown q d (Sort.scanUp p d j i) j) with a|a;exact a;have e:Sort.scanUp p d j i=Sort.scanDown q d (Sort.scanUp p d j i) j:=ω;have f1:=c ω;have f2:=b ω ω;rw[f,<- e,f1]at f2;cases f2
def Qh1(a):∀(n i j:Nat) (d:Array Int),j+1-i<=n->(Sort.partEqLoop Qt a i j d).2.size=d.size
 | n,i,j,d,c=>by
  rw[Sort.partEqLoop_eq];split;rfl;rename_i h;have:=Sort.partEqLoop_guard Qt a i j d h;obtain⟨b,rfl⟩:∃b,n=b+1:=⟨n-1,ω⟩;rw[Qh1 a b _ _ _ ω,swp_size]
def Qh2(a):∀(n i j:Nat) (d:Array Int),j+1-i<=n->(Sort.partLoop Qt a i j d).2.size=d.size
 | n,i,j,d,c=>by
  rw[Sort.partLoop_eq];split;rfl;rename_i h;have:=Sort.partLoop_guard Qt a i j d h;obtain⟨b,rfl⟩:∃b,n=b+1:=⟨n-1,ω⟩;rw[Qh2 a b _ _ _ ω,swp_size]
section
variable {h:List Ob}{lo g:Nat}{d:Array Int}(ho:h[lo]?=some (Zd g d))
include ho
theorem Qxx(a b k)(VB:a<b)(Zr:b<=d.size)(hp:a<=k)(oM:k<b)(hz:d.size<1000000000):
  QM prog 276 h [.ref lo g 0 d.size,Qa a,Qa b,Qa k] (λdd Y=>dd=Qa (Sort.partitionEqual Qt d a b k).1/\Y=h.set lo (Zd g (Sort.partitionEqual Qt d a b k).2)):=by
 have e0:IntKind.i64.wrap ((a:Int)+1)=((a+1:Nat):Int):=Zw;have e1:IntKind.i64.wrap ((b:Int)-1)=((b-1:Nat):Int):=Zw;have u:a<d.size:=ω;have L:k<d.size:=ω;have a5:d.size=d.size:=rfl;refine Q7 func276 ntmps276 results276 λP w pl f=>?_;have O:=Qb ho;simp only[go_sem];apply Qv f ii;simp only[go_sem,Qj,ho,u,L,QF O,JN,jW];rw[jX g d _ _ _ rfl u L];apply Qh f;simp only[go_sem,e0,e1];unfold Sort.partitionEqual;refine ZN (λm o=>∃(d1:Array Int) (i j:Nat),d1.size=d.size/\a<i/\i<=j+1/\j<b/\m+(j+1-i)<=b/\Sort.partEqLoop Qt a i j d1=Sort.partEqLoop Qt a (a+1) (b-1) (Sort.swp d a k)/\o=⟨[(0,.ref lo g 0 d.size),(1,Qa a),(9,Qa i),(10,Qa j)],h.set lo (Zd g d1)⟩) b (s0:=⟨[(0,.ref lo g 0 d.size),(1,Qa a),(9,Qa (a+1:Nat)),(10,Qa (b-1:Nat))],h.set lo (Zd g (Sort.swp d a k))⟩) QO ⟨_,a+1,b-1,swp_size d a k,ω,ω,ω,ω,rfl,rfl⟩ ?_;rintro m _ hm ⟨d1,i,j,n,Pq,N,a7,fB,q,rfl⟩;have t:=vn (g:=g) (d:=d1) O;generalize M:h.set lo (Zd g d1)=H at t;have W:=Qb t;rw[Sort.partEqLoop_eq]at q;have Mi:=iv (λx=>!Qt d1[a]! x) (λx=>Qt d1[a]! x) (λx=>σ) d1 i j ω N;obtain⟨u1,U,u3,u4⟩:=Sort.scanUp_spec (λx=>!Qt d1[a]! x) d1 j _ i rfl;have T:=U N;generalize Km:Sort.scanUp (λx=>!Qt d1[a]! x) d1 j i=v at *;obtain⟨w1,Q,w3,w4⟩:=Sort.scanDown_spec (λx=>Qt d1[a]! x) d1 v j;have w5:=Q T;generalize Zv:Sort.scanDown (λx=>Qt d1[a]! x) d1 v j=V at *;apply Qg f;refine ZN (λm o=>∃c:Nat,c=i+m/\c<=j+1/\Sort.scanUp (λx=>!Qt d1[a]! x) d1 j c=v/\o=⟨[(0,.ref lo g 0 d.size),(1,Qa a),(9,Qa c),(10,Qa j)],H⟩) d.size (s0:=⟨[(0,.ref lo g 0 d.size),(1,Qa a),(9,Qa i),(10,Qa j)],H⟩) QO ⟨i,rfl,ω,Km,rfl⟩ ?_;rintro ma _ a6 ⟨c,a4,a3,r,rfl⟩;have ga:c<=j->c<d.size:=ω;rw[Sort.scanUp]at r;apply Qg f;first|refine qA ?_|skip
 refine BW [0,1,9,10] [(43,QU (decide (c<=j)&&!Qt d1[a]! d1[c]!))] rfl ?_ ?_;by_cases E:c<=j;have B:decide (c<=j)=true:=QS E;have I:=ga E;apply Qv f o00;simp only[go_sem,t,n,B,u,I];apply ZD f jH (wu d1[a]! d1[c]!);apply Zp f;exact QO;have B:decide (c<=j)=false:=QG E;apply Qv f o00;simp only[go_sem,B];exact QO;cases l:(decide (c<=j)&&!Qt d1[a]! d1[c]!);rw[l,Qc π]at r;apply Qg f;subst r;apply Qg f;refine ZN (λm o=>∃e:Nat,e+m=j/\c<=e+1/\Sort.scanDown (λx=>Qt d1[a]! x) d1 c e=V/\o=⟨[(0,.ref lo g 0 d.size),(1,Qa a),(9,Qa c),(10,Qa e)],H⟩) d.size (s0:=⟨[(0,.ref lo g 0 d.size),(1,Qa a),(9,Qa c),(10,Qa j)],H⟩) QO ⟨j,rfl,ω,Zv,rfl⟩ ?_;rintro mb _ DG ⟨e,Db,a2,s,rfl⟩;have Z:c<=e->e<d.size:=ω;rw[tC _ _ _ _ ω]at s;apply Qg f;first|refine qA ?_|skip
 refine BW [0,1,9,10] [(59,QU (decide (c<=e)&&Qt d1[a]! d1[e]!))] rfl ?_ ?_;by_cases C:c<=e;have z:decide (c<=e)=true:=QS C;have F:=Z C;apply Qv f Id;simp only[go_sem,t,n,z,u,F];apply ZD f jH (wu d1[a]! d1[e]!);apply Zp f;exact QO;have z:decide (c<=e)=false:=QG C;apply Qv f Id;simp only[go_sem,z];exact QO;cases l:(decide (c<=e)&&Qt d1[a]! d1[e]!);rw[l,Qc π]at s;apply Qg f;have DH:IntKind.i64.wrap ((c:Int)+1)=((c+1:Nat):Int):=Zw;subst s;by_cases p:e<c;have y:decide (e<c)=true:=QS p;rw[Qd p]at q;apply Qh f;simp only[go_sem,y];apply Qg f;rw[<- q,<- M];first|exact⟨rfl,rfl⟩|rfl
 have y:decide (e<c)=false:=QG p;have a8:=Mi p;have K:c<d.size:=ω;have J:e<d.size:=ω;have Ua:IntKind.i64.wrap ((e:Int)-1)=((e-1:Nat):Int):=Zw;rw[Qc p]at q;apply Qh f;simp only[go_sem,y];apply Qv f ii;simp only[go_sem,Qj,t,n,K,J,QF W,JN,jW,DH,Ua];rw[jX g d1 _ _ _ n K J];refine⟨ω,_,?_,Sort.swp d1 c e,c+1,e-1,by rw[swp_size,n],ω,ω,ω,ω,q,rfl⟩;rw[<- M,JN];exact QO;rw[l,Qd rfl]at s;have a0:c<=e:=by
  rw[ZE]at l;exact qZ l.1
 have R:IntKind.i64.wrap ((e:Int)-1)=((e-1:Nat):Int):=Zw;apply Qh f;simp only[go_sem,R];refine⟨ω,_,?_,e-1,ω,ω,s,rfl⟩;exact QO;rw[l,Qd rfl]at r;have a1:c<=j:=by
  rw[ZE]at l;exact qZ l.1
 have S:IntKind.i64.wrap ((c:Int)+1)=((c+1:Nat):Int):=Zw;apply Qh f;simp only[go_sem,S];refine⟨ω,_,?_,c+1,ω,ω,r,rfl⟩;exact QO
omit ho in
theorem QxC(d)(a b c):Sort.partition Qt d a b c =
  if Sort.scanUp (λx=>Qt x (Sort.swp d a c)[a]!) (Sort.swp d a c) (b-1) (a+1) > Sort.scanDown (λx=>!Qt x (Sort.swp d a c)[a]!) (Sort.swp d a c) (Sort.scanUp (λx=>Qt x (Sort.swp d a c)[a]!) (Sort.swp d a c) (b-1) (a+1)) (b-1) then
   (Sort.scanDown (λx=>!Qt x (Sort.swp d a c)[a]!) (Sort.swp d a c) (Sort.scanUp (λx=>Qt x (Sort.swp d a c)[a]!) (Sort.swp d a c) (b-1) (a+1)) (b-1),true,Sort.swp (Sort.swp d a c) (Sort.scanDown (λx=>!Qt x (Sort.swp d a c)[a]!) (Sort.swp d a c) (Sort.scanUp (λx=>Qt x (Sort.swp d a c)[a]!) (Sort.swp d a c) (b-1) (a+1)) (b-1)) a)
  else ((Sort.partLoop Qt a (Sort.scanUp (λx=>Qt x (Sort.swp d a c)[a]!) (Sort.swp d a c) (b-1) (a+1)+1) (Sort.scanDown (λx=>!Qt x (Sort.swp d a c)[a]!) (Sort.swp d a c) (Sort.scanUp (λx=>Qt x (Sort.swp d a c)[a]!) (Sort.swp d a c) (b-1) (a+1)) (b-1)-1) (Sort.swp (Sort.swp d a c) (Sort.scanUp (λx=>Qt x (Sort.swp d a c)[a]!) (Sort.swp d a c) (b-1) (a+1)) (Sort.scanDown (λx=>!Qt x (Sort.swp d a c)[a]!) (Sort.swp d a c) (Sort.scanUp (λx=>Qt x (Sort.swp d a c)[a]!) (Sort.swp d a c) (b-1) (a+1)) (b-1)))).1,false,
   Sort.swp (Sort.partLoop Qt a (Sort.scanUp (λx=>Qt x (Sort.swp d a c)[a]!) (Sort.swp d a c) (b-1) (a+1)+1) (Sort.scanDown (λx=>!Qt x (Sort.swp d a c)[a]!) (Sort.swp d a c) (Sort.scanUp (λx=>Qt x (Sort.swp d a c)[a]!) (Sort.swp d a c) (b-1) (a+1)) (b-1)-1) (Sort.swp (Sort.swp d a c) (Sort.scanUp (λx=>Qt x (Sort.swp d a c)[a]!) (Sort.swp d a c) (b-1) (a+1)) (Sort.scanDown (λx=>!Qt x (Sort.swp d a c)[a]!) (Sort.swp d a c) (Sort.scanUp (λx=>Qt x (Sort.swp d a c)[a]!) (Sort.swp d a c) (b-1) (a+1)) (b-1)))).2
    (Sort.partLoop Qt a (Sort.scanUp (λx=>Qt x (Sort.swp d a c)[a]!) (Sort.swp d a c) (b-1) (a+1)+1) (Sort.scanDown (λx=>!Qt x (Sort.swp d a c)[a]!) (Sort.swp d a c) (Sort.scanUp (λx=>Qt x (Sort.swp d a c)[a]!) (Sort.swp d a c) (b-1) (a+1)) (b-1)-1) (Sort.swp (Sort.swp d a c) (Sort.scanUp (λx=>Qt x (Sort.swp d a c)[a]!) (Sort.swp d a c) (b-1) (a+1)) (Sort.scanDown (λx=>!Qt x (Sort.swp d a c)[a]!) (Sort.swp d a c) (Sort.scanUp (λx=>Qt x (Sort.swp d a c)[a]!) (Sort.swp d a c) (b-1) (a+1)) (b-1)))).1 a):=rfl
theorem QxD(a b u)(VB:a+1<b)(Zr:b<=d.size)(hp:a<=u)(oM:u<b)(hz:d.size<1000000000):
  QM prog 277 h [.ref lo g 0 d.size,Qa a,Qa b,Qa u] (λdd h'=>dd=.tup [Qa (Sort.partition Qt d a b u).1,QU (Sort.partition Qt d a b u).2.1]/\h'=h.set lo (Zd g (Sort.partition Qt d a b u).2.2)):=by
 have e0:IntKind.i64.wrap ((a:Int)+1)=((a+1:Nat):Int):=Zw;have e1:IntKind.i64.wrap ((b:Int)-1)=((b-1:Nat):Int):=Zw;have s:a<d.size:=ω;have pp:u<d.size:=ω;refine Q7 func277 ntmps277 results277 λa9 w pl c=>?_;have Qr:=Qb ho;simp only[go_sem];apply Qv c ii;simp only[go_sem,Qj,ho,s,pp,QF Qr,JN,jW];rw[jX g d _ _ _ rfl s pp,QxC];apply Qh c;simp only[go_sem,e0,e1];generalize a2:Sort.swp d a u=k at *;have B:k.size=d.size:=by rw[<- a2,swp_size]
 have C:=vn (g:=g) (d:=k) Qr;generalize P:h.set lo (Zd g k)=M at C;have O:=Qb C;have a8:=iv (λx=>Qt x k[a]!) (λx=>!Qt x k[a]!) (λx=>rfl) k (a+1) (b-1) ω ω;obtain⟨t1,t2,t3,t4⟩:=Sort.scanUp_spec (λx=>Qt x k[a]!) k (b-1) _ (a+1) rfl;have t5:=t2 ω;generalize Km:Sort.scanUp (λx=>Qt x k[a]!) k (b-1) (a+1)=y at *;obtain⟨s1,s2,s3,s4⟩:=Sort.scanDown_spec (λx=>!Qt x k[a]!) k y (b-1);have s5:=s2 t5;generalize Zv:Sort.scanDown (λx=>!Qt x k[a]!) k y (b-1)=Q at *;generalize c4:a+1=I0 at *;generalize c3:b-1=p at *;rw[show h.set lo (⟨.arr,g,1,k.size,Ch k⟩:Ob)=M from P];refine ZN (λm t=>∃e:Nat,e=I0+m/\e<=p+1/\Sort.scanUp (λx=>Qt x k[a]!) k p e=y/\t=⟨[(0,.ref lo g 0 d.size),(1,Qa a),(10,Qa e),(11,Qa p)],M⟩) d.size (s0:=⟨[(0,.ref lo g 0 d.size),(1,Qa a),(10,Qa I0),(11,Qa p)],M⟩) QO ⟨I0,rfl,ω,Km,rfl⟩ ?_;rintro me _ c0 ⟨e,b7,WO,L,rfl⟩;have ge:e<=p->e<d.size:=ω;rw[Sort.scanUp]at L;apply Qg c;first|refine qA ?_|skip
 refine BW [0,1,10,11] [(43,QU (decide (e<=p)&&Qt k[e]! k[a]!))] rfl ?_ ?_;by_cases W:e<=p;have S:decide (e<=p)=true:=QS W;have a4:=ge W;apply Qv c Id;simp only[go_sem,C,B,S,s,a4];apply ZD c jH (wu k[e]! k[a]!);apply Zp c;exact QO;have S:decide (e<=p)=false:=QG W;apply Qv c Id;simp only[go_sem,S];exact QO;cases o:(decide (e<=p)&&Qt k[e]! k[a]!);rw[o,Qc π]at L;apply Qg c;subst L;apply Qg c;refine ZN (λm t=>∃l:Nat,l+m=p/\e<=l+1/\Sort.scanDown (λx=>!Qt x k[a]!) k e l=Q/\t=⟨[(0,.ref lo g 0 d.size),(1,Qa a),(10,Qa e),(11,Qa l)],M⟩) d.size (s0:=⟨[(0,.ref lo g 0 d.size),(1,Qa a),(10,Qa e),(11,Qa p)],M⟩) QO ⟨p,rfl,ω,Zv,rfl⟩ ?_;rintro mf _ b9 ⟨l,b6,b4,K,rfl⟩;have gf:e<=l->l<d.size:=ω;rw[tC _ _ _ _ ω]at K;apply Qg c;first|refine qA ?_|skip
 refine BW [0,1,10,11] [(60,QU (decide (e<=l)&&!Qt k[l]! k[a]!))] rfl ?_ ?_;by_cases V:e<=l;have R:decide (e<=l)=true:=QS V;have a3:=gf V;apply Qv c o00;simp only[go_sem,C,B,R,s,a3];apply ZD c jH (wu k[l]! k[a]!);apply Zp c;exact QO;have R:decide (e<=l)=false:=QG V;apply Qv c o00;simp only[go_sem,R];exact QO;cases o:(decide (e<=l)&&!Qt k[l]! k[a]!);rw[o,Qc π]at K;apply Qg c;subst K;have a1:IntKind.i64.wrap ((e:Int)+1)=((e+1:Nat):Int):=Zw;by_cases r:l<e;have z:decide (l<e)=true:=QS r;rw[Qd r];apply Qh c;simp only[go_sem,z];have q:l<d.size:=ω;apply Qv c ii;simp only[go_sem,Qj,C,B,q,s,QF O,JN,jW];rw[jX g k _ _ _ B q s];rw[<- P,JN];first|exact⟨rfl,rfl⟩|rfl
 have z:decide (l<e)=false:=QG r;have a7:=a8 r;have F:e<d.size:=ω;have q:l<d.size:=ω;have a0:IntKind.i64.wrap ((l:Int)-1)=((l-1:Nat):Int):=Zw;rw[Qc r];apply Qh c;simp only[go_sem,z];apply Qv c ii;simp only[go_sem,Qj,C,B,F,q,QF O,JN,jW,a1,a0];rw[jX g k _ _ _ B F q,<- P,JN];refine ZN (λm t=>∃(d1:Array Int) (i j:Nat),d1.size=d.size/\a<i/\i<=j+1/\j<b/\m+(j+1-i)<=b/\Sort.partLoop Qt a i j d1=Sort.partLoop Qt a (e+1) (l-1) (Sort.swp k e l)/\t=⟨[(0,.ref lo g 0 d.size),(1,Qa a),(10,Qa i),(11,Qa j)],h.set lo (Zd g d1)⟩) b (s0:=⟨[(0,.ref lo g 0 d.size),(1,Qa a),(10,Qa (e+1:Nat)),(11,Qa (l-1:Nat))],h.set lo (Zd g (Sort.swp k e l))⟩) QO ⟨_,e+1,l-1,by rw[swp_size,B],ω,ω,ω,ω,rfl,rfl⟩ ?_;rintro m _ hm ⟨d1,i,j,v,Pq,Vi,c1,fB,I,rfl⟩;have E:=vn (g:=g) (d:=d1) Qr;generalize hH:h.set lo (Zd g d1)=H at E;have iw:=Qb E;rw[Sort.partLoop_eq]at I;have Mi:=iv (λx=>Qt x d1[a]!) (λx=>!Qt x d1[a]!) (λx=>rfl) d1 i j ω Vi;obtain⟨u1,u2,u3,u4⟩:=Sort.scanUp_spec (λx=>Qt x d1[a]!) d1 j _ i rfl;have u5:=u2 Vi;generalize Km:Sort.scanUp (λx=>Qt x d1[a]!) d1 j i=y at *;obtain⟨w1,w2,w3,w4⟩:=Sort.scanDown_spec (λx=>!Qt x d1[a]!) d1 y j;have w5:=w2 u5;generalize Zv:Sort.scanDown (λx=>!Qt x d1[a]!) d1 y j=Q at *;apply Qg c;refine ZN (λm t=>∃f:Nat,f=i+m/\f<=j+1/\Sort.scanUp (λx=>Qt x d1[a]!) d1 j f=y/\t=⟨[(0,.ref lo g 0 d.size),(1,Qa a),(10,Qa f),(11,Qa j)],H⟩) d.size (s0:=⟨[(0,.ref lo g 0 d.size),(1,Qa a),(10,Qa i),(11,Qa j)],H⟩) QO ⟨i,rfl,ω,Km,rfl⟩ ?_;rintro mc _ yH ⟨f,fC,b5,N,rfl⟩;have gc:f<=j->f<d.size:=ω;rw[Sort.scanUp]at N;apply Qg c;first|refine qA ?_|skip
 refine BW [0,1,10,11] [(112,QU (decide (f<=j)&&Qt d1[f]! d1[a]!))] rfl ?_ ?_;by_cases Z:f<=j;have U:decide (f<=j)=true:=QS Z;have a6:=gc Z;apply Qv c Id;simp only[go_sem,E,v,U,s,a6];apply ZD c jH (wu d1[f]! d1[a]!);apply Zp c;exact QO;have U:decide (f<=j)=false:=QG Z;apply Qv c Id;simp only[go_sem,U];exact QO;cases o:(decide (f<=j)&&Qt d1[f]! d1[a]!);rw[o,Qc π]at N;apply Qg c;subst N;apply Qg c;refine ZN (λm t=>∃n:Nat,n+m=j/\f<=n+1/\Sort.scanDown (λx=>!Qt x d1[a]!) d1 f n=Q/\t=⟨[(0,.ref lo g 0 d.size),(1,Qa a),(10,Qa f),(11,Qa n)],H⟩) d.size (s0:=⟨[(0,.ref lo g 0 d.size),(1,Qa a),(10,Qa f),(11,Qa j)],H⟩) QO ⟨j,rfl,ω,Zv,rfl⟩ ?_;rintro md _ iz ⟨n,b8,Ud,J,rfl⟩;have gd:f<=n->n<d.size:=ω;rw[tC _ _ _ _ ω]at J;apply Qg c;first|refine qA ?_|skip
 refine BW [0,1,10,11] [(129,QU (decide (f<=n)&&!Qt d1[n]! d1[a]!))] rfl ?_ ?_;by_cases Y:f<=n;have T:decide (f<=n)=true:=QS Y;have a5:=gd Y;apply Qv c o00;simp only[go_sem,E,v,T,s,a5];apply ZD c jH (wu d1[n]! d1[a]!);apply Zp c;exact QO;have T:decide (f<=n)=false:=QG Y;apply Qv c o00;simp only[go_sem,T];exact QO;cases o:(decide (f<=n)&&!Qt d1[n]! d1[a]!);rw[o,Qc π]at J;apply Qg c;have DH:IntKind.i64.wrap ((f:Int)+1)=((f+1:Nat):Int):=Zw;subst J;by_cases r:n<f;have z:decide (n<f)=true:=QS r;rw[Qd r]at I;apply Qh c;simp only[go_sem,z];apply Qg c;have q:n<d.size:=ω;apply Qv c ii;simp only[go_sem,Qj,E,v,q,s,QF iw,JN,jW];rw[jX g d1 _ _ _ v q s];rw[<- I,<- hH,JN];first|exact⟨rfl,rfl⟩|rfl
 have z:decide (n<f)=false:=QG r;have a7:=Mi r;have F:f<d.size:=ω;have q:n<d.size:=ω;have Ua:IntKind.i64.wrap ((n:Int)-1)=((n-1:Nat):Int):=Zw;rw[Qc r]at I;apply Qh c;simp only[go_sem,z];apply Qv c ii;simp only[go_sem,Qj,E,v,F,q,QF iw,JN,jW,DH,Ua];rw[jX g d1 _ _ _ v F q];refine⟨ω,_,?_,Sort.swp d1 f n,f+1,n-1,by rw[swp_size,v],ω,ω,ω,ω,I,rfl⟩;rw[<- hH,JN];exact QO;rw[o,Qd rfl]at J;have b2:f<=n:=by
  rw[ZE]at o;exact qZ o.1
 have vd:IntKind.i64.wrap ((n:Int)-1)=((n-1:Nat):Int):=Zw;apply Qh c;simp only[go_sem,vd];refine⟨ω,_,?_,n-1,ω,ω,J,rfl⟩;exact QO;rw[o,Qd rfl]at N;have b3:f<=j:=by
  rw[ZE]at o;exact qZ o.1
 have vc:IntKind.i64.wrap ((f:Int)+1)=((f+1:Nat):Int):=Zw;apply Qh c;simp only[go_sem,vc];refine⟨ω,_,?_,f+1,ω,ω,N,rfl⟩;exact QO;rw[o,Qd rfl]at K;have b0:e<=l:=by
  rw[ZE]at o;exact qZ o.1
 have vf:IntKind.i64.wrap ((l:Int)-1)=((l-1:Nat):Int):=Zw;apply Qh c;simp only[go_sem,vf];refine⟨ω,_,?_,l-1,ω,ω,K,rfl⟩;exact QO;rw[o,Qd rfl]at L;have b1:e<=p:=by
  rw[ZE]at o;exact qZ o.1
 have ve:IntKind.i64.wrap ((e:Int)+1)=((e+1:Nat):Int):=Zw;apply Qh c;simp only[go_sem,ve];refine⟨ω,_,?_,e+1,ω,ω,L,rfl⟩;exact QO
end
def tE:∀(j:Nat) (d:Array Int),(Sort.shiftDown Qt j d).size=d.size
 | 0,d=>rfl
 | j+1,d=>by rw[Sort.shiftDown];split;rfl;rw[tE j,swp_size]
def Qh5(b):∀(n j:Nat) (d:Array Int),b-j<=n->(Sort.shiftUp Qt b j d).size=d.size
 | n,j,d,c=>by
  rw[Sort.shiftUp];split;split;rfl;obtain⟨a,rfl⟩:∃a,n=a+1:=⟨n-1,ω⟩;rw[Qh5 b a _ _ ω,swp_size];rfl
def Qh6(d)(b):∀(n i:Nat),b-i<=n->i<=b->i<=Sort.scanSorted Qt d b i/\Sort.scanSorted Qt d b i<=b
 | n,i,e,f=>by
  rw[Sort.scanSorted];split;rename_i c;simp at c;obtain⟨a,rfl⟩:∃a,n=a+1:=⟨n-1,ω⟩;have:=Qh6 d b a (i+1) ω ω;omega;omega
section
variable {h:List Ob}{lo g:Nat}{d:Array Int}(ho:h[lo]?=some (Zd g d))
include ho
theorem QxN(a b)(VB:a<b)(Zr:b<=d.size)(hz:d.size<1000000000):
  QM prog 275 h [.ref lo g 0 d.size,Qa a,Qa b] (λe h'=>e=QU (Sort.partialInsertionSort Qt d a b).2/\h'=h.set lo (Zd g (Sort.partialInsertionSort Qt d a b).1)):=by
 have e0:IntKind.i64.wrap ((a:Int)+1)=((a+1:Nat):Int):=Zw;have L:IntKind.i64.wrap ((b:Int)-a)=((b-a:Nat):Int):=Zw;unfold Sort.partialInsertionSort;refine Q7 func275 ntmps275 results275 λa1 w pl c=>?_;have S:=Qb ho;simp only[go_sem,e0];refine ZN (λm q=>∃(d1:Array Int) (x:Nat),d1.size=d.size/\a+1<=x/\x<=b/\m<=5/\Sort.partialIns Qt a b (5-m) x d1=Sort.partialIns Qt a b 5 (a+1) d/\q=⟨[(0,.ref lo g 0 d.size),(1,Qa a),(2,Qa b),(7,Qa x),(8,Qa m)],h.set lo (Zd g d1)⟩) 5 (s0:=⟨[(0,.ref lo g 0 d.size),(1,Qa a),(2,Qa b),(7,Qa (a+1:Nat)),(8,Qa 0)],h.set lo (Zd g d)⟩) ?_ ⟨d,a+1,rfl,ω,ω,ω,rfl,rfl⟩ ?_;rw[wv ho];exact QO;rintro m _ hm ⟨d1,i,R,Pq,F,a3,k,rfl⟩;have T:=vn (g:=g) (d:=d1) S;generalize P:h.set lo (Zd g d1)=H at T;have DF:=Qb T;by_cases cm:m<5
 .have em:decide ((m:Int)<5)=true:=QS ω;obtain⟨sq,tF⟩:∃s,5-m=s+1:=⟨5-m-1,ω⟩;have tG:4-m=sq:=ω;rw[tF,Sort.partialIns]at k;dsimp only at k;obtain⟨k1,k2⟩:=Qh6 d1 b _ i (QB _) F;generalize hK:Sort.scanSorted Qt d1 b i=K at *;apply Qh c;simp only[go_sem,em];refine ZN (λn q=>∃x:Nat,x=i+n/\x<=b/\Sort.scanSorted Qt d1 b x=K/\q=⟨[(0,.ref lo g 0 d.size),(1,Qa a),(2,Qa b),(7,Qa x),(8,Qa m)],H⟩) d.size (s0:=⟨[(0,.ref lo g 0 d.size),(1,Qa a),(2,Qa b),(7,Qa i),(8,Qa m)],H⟩) QO ⟨i,rfl,F,hK,rfl⟩ ?_;rintro n0 _ vp ⟨x,hx,Db,E,rfl⟩;have tH:IntKind.i64.wrap ((x:Int)-1)=((x-1:Nat):Int):=Zw;have tI:x-1<d.size:=ω;have gx:x<b->x<d.size:=ω;rw[Sort.scanSorted]at E;apply Qg c;first|refine qA ?_|skip
  refine BW [0,1,2,7,8] [(32,QU (decide (x<b)&&!Qt d1[x]! d1[x-1]!))] rfl ?_ ?_;by_cases cx:x<b;have ex:decide (x<b)=true:=QS cx;have a0:=gx cx;apply Qv c [0,1,2,3,4,5,6,7,8,9,10,11,12,1013,14,15];simp only[go_sem,T,R,ex,tH,tI,a0];apply ZD c jH (wu d1[x]! d1[x-1]!);apply Zp c;exact QO;have ex:decide (x<b)=false:=QG cx;apply Qv c [0,1,2,3,4,5,6,7,8,9,10,11,12,1013,14,15];simp only[go_sem,ex];exact QO;cases Q:(decide (x<b)&&!Qt d1[x]! d1[x-1]!)
  .rw[Q,Qc π]at E;subst E;apply Qg c;by_cases cb:x=b;have O:((x:Int)==(b:Int))=true:=by rw[cb];exact NH _
   rw[Qd cb]at k;apply Qh c;simp only[go_sem,O];rw[<- k,<- P];first|exact⟨rfl,rfl⟩|rfl
   .have O:((x:Int)==(b:Int))=false:=beq_eq_false_iff_ne.mpr ω;rw[Qc cb]at k;by_cases TW:b-a<50;have tJ:decide (((b-a:Nat):Int)<50)=true:=QS ω;rw[Qd TW]at k;apply Qh c;simp only[go_sem,O,L,tJ];rw[<- k,<- P];first|exact⟨rfl,rfl⟩|rfl
    .have tJ:decide (((b-a:Nat):Int)<50)=false:=QG ω;rw[Qc TW]at k;have px:x<d.size:=ω;apply Qh c;simp only[go_sem,O,L,tJ];refine FE (⟨[(0,.ref lo g 0 d.size),(1,Qa a),(2,Qa b),(7,Qa x),(8,Qa m)],h.set lo (Zd g (Sort.swp d1 x (x-1)))⟩) Vd c mixed [(0,true),(1,true),(2,true),(3,true),(5,true),(6,true),(7,true),(8,true),(9,true),(10,true),(11,true),(12,true),(13,true),(14,true)] [4,15,16,17] τ τ (λs z=>Cg z rfl ?_) ?_
     rotate_left
     .simp only[go_sem,Qj,T,tH,px,tI,R,QF DF,JN,jW];rw[jX g d1 _ _ _ R px tI,<- P,JN]
      repeat' refine And.intro ?_ ?_
      all_goals exact QO
     generalize KS:Sort.swp d1 x (x-1)=d2 at *;have ZA:d2.size=d.size:=by rw[<- KS,swp_size,R]
     have Jq:=vn (g:=g) (d:=d2) S;have I:IntKind.i64.wrap ((x:Int)-a)=((x-a:Nat):Int):=Zw;have J:IntKind.i64.wrap ((b:Int)-x)=((b-x:Nat):Int):=Zw;have Z:IntKind.i64.wrap ((x:Int)+1)=((x+1:Nat):Int):=Zw;generalize C:(if x-a >= 2 then Sort.shiftDown Qt (x-1) d2 else d2)=d3 at *;have TY:d3.size=d.size:=by
      rw[<- C];split;rw[tE,ZA];exact ZA
     first|refine qA ?_|skip
     refine rb (⟨[(0,.ref lo g 0 d.size),(1,Qa a),(2,Qa b),(7,Qa x),(8,Qa m)],h.set lo (Zd g d3)⟩) ?_ ?_
     .by_cases M:x-a >= 2
      .have Y:decide ((2:Int)<=((x-a:Nat):Int))=true:=QS ω;rw[Qd M]at C;apply Qh c;simp only[go_sem,I,Y,tH];rw[<- C];refine ZN (λn q=>∃(e:Array Int) (y:Nat),e.size=d.size/\y+n=x-1/\Sort.shiftDown Qt y e=Sort.shiftDown Qt (x-1) d2/\q=⟨[(0,.ref lo g 0 d.size),(1,Qa a),(2,Qa b),(7,Qa x),(8,Qa m),(9,Qa y)],h.set lo (Zd g e)⟩) d.size (s0:=⟨[(0,.ref lo g 0 d.size),(1,Qa a),(2,Qa b),(7,Qa x),(8,Qa m),(9,Qa (x-1:Nat))],h.set lo (Zd g d2)⟩) QO ⟨d2,_,ZA,ω,rfl,rfl⟩ ?_;rintro n _ hn ⟨e,y,o,hy,f,rfl⟩;have p:=vn (g:=g) (d:=e) S;generalize l:h.set lo (Zd g e)=Hd at p;have W:=Qb p;by_cases cy:1<=y
       .have u:decide ((1:Int)<=(y:Int))=true:=QS ω;obtain⟨j,rfl⟩:∃j,y=j+1:=⟨y-1,ω⟩;rw[Sort.shiftDown]at f;have v:IntKind.i64.wrap (((j+1:Nat):Int)-1)=((j:Nat):Int):=Zw;have t:(j+1)<d.size:=ω;have r:j<d.size:=ω;apply Qh c;simp only[go_sem,u];apply Qv c [0,1,2,3,4,5,6,7,8,1009,10];simp only[go_sem,p,o,v,t,r];apply ZD c jH (wu e[j+1]! e[j]!);apply Zp c;cases B:Qt e[j+1]! e[j]!;rw[B,Gp,Qd rfl]at f;simp only[go_sem];try (apply Qh c;simp only[go_sem,Qj])
        first|rw[<- f,<- l]|rw[<- l]
        exact QO
        .rw[B,Be,Qc π]at f;simp only[go_sem];refine FE (⟨[(0,.ref lo g 0 d.size),(1,Qa a),(2,Qa b),(7,Qa x),(8,Qa m),(9,Qa (j+1:Nat))],h.set lo (Zd g (Sort.swp e (j+1) j))⟩) Vd c mixed [(0,true),(1,true),(2,true),(3,true),(5,true),(6,true),(7,true),(8,true),(9,true),(10,true),(11,true),(12,true),(13,true),(14,true)] [4,15,16,17] τ τ (λs z=>Cg z rfl ?_) ?_
         rotate_left
         .simp only[go_sem,Qj,p,o,v,t,r,QF W,JN,jW];rw[jX g e _ _ _ o t r,<- l,JN]
          repeat' refine And.intro ?_ ?_
          all_goals exact QO
         apply Qh c;simp only[go_sem,v];refine⟨ω,_,?_,Sort.swp e (j+1) j,j,by rw[swp_size,o],ω,f,rfl⟩;exact QO
       have u:decide ((1:Int)<=(y:Int))=false:=QG ω;obtain rfl:y=0:=ω;rw[Sort.shiftDown]at f;apply Qg c;try (apply Qh c;simp only[go_sem,Qj])
       first|rw[<- f,<- l]|rw[<- l]
       exact QO
      have Y:decide ((2:Int)<=((x-a:Nat):Int))=false:=QG ω;rw[Qc M]at C;apply Qh c;simp only[go_sem,I,Y];rw[<- C];exact QO
     have V:IntKind.i64.wrap ((m:Int)+1)=((m+1:Nat):Int):=Zw;by_cases N:b-x >= 2
     .have U:decide ((2:Int)<=((b-x:Nat):Int))=true:=QS ω;rw[Qd N]at k;apply Qh c;simp only[go_sem,J,U,Z];refine ZN (λn q=>∃(e:Array Int) (y:Nat),e.size=d.size/\y=x+1+n/\y<=b/\Sort.shiftUp Qt b y e=Sort.shiftUp Qt b (x+1) d3/\q=⟨[(0,.ref lo g 0 d.size),(1,Qa a),(2,Qa b),(7,Qa x),(8,Qa m),(10,Qa y)],h.set lo (Zd g e)⟩) d.size (s0:=⟨[(0,.ref lo g 0 d.size),(1,Qa a),(2,Qa b),(7,Qa x),(8,Qa m),(10,Qa (x+1:Nat))],h.set lo (Zd g d3)⟩) QO ⟨d3,_,TY,ω,ω,rfl,rfl⟩ ?_;rintro n _ hn ⟨e,y,o,hy,a2,f,rfl⟩;have p:=vn (g:=g) (d:=e) S;generalize l:h.set lo (Zd g e)=Hd at p;have W:=Qb p;by_cases cy:y<b
      .have u:decide (y<b)=true:=QS ω;rw[Sort.shiftUp,Qd cy]at f;have v:IntKind.i64.wrap ((y:Int)-1)=((y-1:Nat):Int):=Zw;have Ua:IntKind.i64.wrap ((y:Int)+1)=((y+1:Nat):Int):=Zw;have t:y<d.size:=ω;have r:(y-1)<d.size:=ω;apply Qh c;simp only[go_sem,u];apply Qv c [0,1,2,3,4,5,6,7,8,1009,10];simp only[go_sem,p,o,v,t,r];apply ZD c jH (wu e[y]! e[y-1]!);apply Zp c;cases B:Qt e[y]! e[y-1]!;rw[B,Gp,Qd rfl]at f;simp only[go_sem];try (apply Qh c;simp only[go_sem])
       first|rw[<- f,<- l]|rw[<- l]
       try simp only[V]
       refine⟨ω,_,?_,e,x,o,ω,ω,ω,by rw[tG,f];exact k,rfl⟩;exact QO
       .rw[B,Be,Qc π]at f;simp only[go_sem];refine FE (⟨[(0,.ref lo g 0 d.size),(1,Qa a),(2,Qa b),(7,Qa x),(8,Qa m),(10,Qa (y:Nat))],h.set lo (Zd g (Sort.swp e y (y-1)))⟩) Vd c mixed [(0,true),(1,true),(2,true),(3,true),(5,true),(6,true),(7,true),(8,true),(9,true),(10,true),(11,true),(12,true),(13,true),(14,true)] [4,15,16,17] τ τ (λs z=>Cg z rfl ?_) ?_
        rotate_left
        .simp only[go_sem,Qj,p,o,v,t,r,QF W,JN,jW];rw[jX g e _ _ _ o t r,<- l,JN]
         repeat' refine And.intro ?_ ?_
         all_goals exact QO
        apply Qh c;simp only[go_sem,Ua];refine⟨ω,_,?_,Sort.swp e y (y-1),y+1,by rw[swp_size,o],ω,ω,f,rfl⟩;exact QO
      have u:decide (y<b)=false:=QG ω;rw[Sort.shiftUp,Qc cy]at f;apply Qh c;simp only[go_sem,u];try (apply Qh c;simp only[go_sem])
      first|rw[<- f,<- l]|rw[<- l]
      try simp only[V]
      refine⟨ω,_,?_,e,x,o,ω,ω,ω,by rw[tG,f];exact k,rfl⟩;exact QO
     have U:decide ((2:Int)<=((b-x:Nat):Int))=false:=QG ω;rw[Qc N]at k;apply Qh c;simp only[go_sem,J,U,V];refine⟨ω,_,?_,d3,x,TY,ω,ω,ω,by rw[tG];exact k,rfl⟩;exact QO
  rw[Q,Qd rfl]at E;have lq:x<b:=by
   rw[ZE]at Q;exact qZ Q.1
  have Z:IntKind.i64.wrap ((x:Int)+1)=((x+1:Nat):Int):=Zw;apply Qh c;simp only[go_sem,Z];refine⟨ω,_,?_,x+1,ω,ω,E,rfl⟩;exact QO
 have em:decide ((m:Int)<5)=false:=QG ω;obtain rfl:m=5:=ω;rw[wV,Sort.partialIns]at k;apply Qg c;apply Qg c;rw[<- k,<- P];first|exact⟨rfl,rfl⟩|rfl
end
def iB(n k)(h:2^k<=n):Sort.bitsLen n=k+Sort.bitsLen (n/2^k):=by
 have e:∀m,Sort.bitsLen n<=m↔k+Sort.bitsLen (n/2^k)<=m:=by
  intro m;rw[Sort.bitsLen_le_iff];by_cases c:k<=m;obtain⟨j,rfl⟩:∃j,m=k+j:=⟨m-k,ω⟩;have a:=Sort.bitsLen_le_iff (n/2^k) j;rw[Nat.div_lt_iff_lt_mul (bt k),<- Nat.pow_add,NC j k]at a;rw[<- a];omega;have:2^m<=2^k:=Nat.pow_le_pow_right π ω;constructor;intro b;omega;intro b;omega
 have f:=(e (Sort.bitsLen n)).1 (QB _);have d:=(e (k+Sort.bitsLen (n/2^k))).2 (QB _);omega
def iC(t:Array UInt8)(c:(List.range 256).all (λi=>Nat.beq (t.getD i 0).toNat (Sort.bitsLen i))=true)(d:t.size=256)(k i n)(f:i<256)(g:k<1000)(e:Sort.bitsLen n=k+Sort.bitsLen i):
  IntKind.u8.wrap (i:Int)<(t.size:Int)/\D.raw (.int .i64 (IntKind.i64.wrap ((k:Int)+IntKind.i64.wrap ((t.getD (IntKind.u8.wrap (i:Int)).toNat 0).toNat:Int))))=D.raw (.int .i64 (Sort.bitsLen n)):=by
 have a:=qV.1 c i (RH.2 f);rw[Wo]at a;have w:IntKind.u8.wrap (i:Int)=i:=by rw[IntKind.wrap_u8];omega
 rw[w,d,show ((i:Int)).toNat=i from rfl,a,e];have h:Sort.bitsLen i<=8:=(Sort.bitsLen_le_iff i 8).2 ω;refine⟨ω,?_⟩;have b:IntKind.i64.wrap (Sort.bitsLen i:Int)=Sort.bitsLen i:=wrap64 ω ω;rw[b,wrap64 ω ω];congr 2
def QxP(n)(h:n<4294967296):QI prog 191 [u64 n] (QN (Qa (Sort.bitsLen n))):=by
 have b:decide ((4294967296:Int)<=n)=false:=QG ω;refine QY 0 func191 ntmps191 results191 λf w i=>?_;simp only[go_sem];have e:((n:Int).fdiv (2^min 16 64))=((n/65536:Nat):Int):=LM n 16;have d:∀m:Nat,((m:Int).fdiv (2^min 8 64))=((m/256:Nat):Int):=λm=>LM m 8;have a:IntKind.i64.wrap 16=16:=rfl;have c:IntKind.i64.wrap 24=24:=rfl;have g:IntKind.i64.wrap 8=8:=rfl;by_cases j:65536<=n;have d1:decide ((65536:Int)<=n)=true:=QS ω;by_cases c2:256<=n/65536;have d2:decide ((256:Int)<=(n/65536:Nat))=true:=QS ω;simp only[go_sem,b,d1,e,d2,d,a,c];exact iC _ τ τ 24 (n/65536/256) n ω π (by rw[iB n 16 ω,iB (n/2^16) 8 ω,show n/2^16/2^8=n/65536/256 from rfl];omega);have d2:decide ((256:Int)<=(n/65536:Nat))=false:=QG ω;simp only[go_sem,b,d1,e,d2,a];exact iC _ τ τ 16 (n/65536) n ω π (by rw[iB n 16 ω]);have d1:decide ((65536:Int)<=n)=false:=QG ω;by_cases c2:256<=n;have d2:decide ((256:Int)<=n)=true:=QS ω;simp only[go_sem,b,d1,d2,d,g];exact iC _ τ τ 8 (n/256) n ω π (by rw[iB n 8 ω]);have d2:decide ((256:Int)<=n)=false:=QG ω;simp only[go_sem,b,d1,d2];exact iC _ τ τ 0 n n ω π ω
def bV(n)(c:n<4294967296):QI prog 139 [u64 n] (QN (Qa (Sort.bitsLen n))):=by
 refine QY 0 func139 ntmps139 results139 λb w a=>?_;simp only[go_sem];apply QV a Qtx (QxP n c);exact VE a
def QxR(n:Nat)(f:n<1000000000):QI prog 235 [Qa n] (QN (u64 (2^Sort.bitsLen n))):=by
 have d:IntKind.u64.wrap (n:Int)=(n:Int):=η;have a:=(Sort.bitsLen_le_iff n 30).2 ω;have e:2^Sort.bitsLen n<=2^30:=Nat.pow_le_pow_right π a;have c:IntKind.u64.wrap (1*2^min (Sort.bitsLen n) 64)=((2^Sort.bitsLen n:Nat):Int):=by
  rw[Gy ω,Int.one_mul,show (2:Int)^Sort.bitsLen n=((2^Sort.bitsLen n:Nat):Int) by push_cast;rfl,IntKind.wrap_u64];generalize 2^Sort.bitsLen n=p at *;omega
 refine QY 0 func235 ntmps235 results235 λb w a=>?_;simp only[go_sem];simp only[go_sem,d];apply QV a Qfm (bV n ω);apply Qh a;simp only[go_sem,c]
@[go_sem] def Hx(n:Nat):Ob:=⟨.one,0,1,1,λ_=>[u64 n]⟩
def QxS{h:List Ob}{c}(n)(f:h[c]?=some (Hx n))(o:n<18446744073709551616):
  QM prog 236 h [.ptr c 0 0 0] (λq p=>q=u64 (Sort.xorNextN n)/\p=h.set c (Hx (Sort.xorNextN n))):=by
 refine Q7 func236 ntmps236 results236 λi w s e=>?_;have g:=Qb f;simp only[go_sem];have l:∀a:Nat,a<18446744073709551616->bits .xor .u64 (a:Int) (IntKind.u64.wrap ((a:Int)*2^min 13 64))=((a ^^^ (a*8192%18446744073709551616):Nat):Int):=λa b=>by
  rw[show IntKind.u64.wrap ((a:Int)*2^min 13 64)=((a*8192%18446744073709551616:Nat):Int) from LL a 8192];exact u64_xor_nat _ _ b (WM _ π)
 have k:∀a:Nat,a<18446744073709551616->bits .xor .u64 (a:Int) ((a:Int).fdiv (2^min 7 64))=((a ^^^ (a/128):Nat):Int):=λa b=>by
  rw[show (a:Int).fdiv (2^min 7 64)=((a/128:Nat):Int) from LM a 7];exact u64_xor_nat _ _ b ω
 have j:∀a:Nat,a<18446744073709551616->bits .xor .u64 (a:Int) (IntKind.u64.wrap ((a:Int)*2^min 17 64))=((a ^^^ (a*131072%18446744073709551616):Nat):Int):=λa b=>by
  rw[show IntKind.u64.wrap ((a:Int)*2^min 17 64)=((a*131072%18446744073709551616:Nat):Int) from LL a 131072];exact u64_xor_nat _ _ b (WM _ π)
 have b:n ^^^ (n*8192%18446744073709551616)<18446744073709551616:=RQ (n:=64) ω ω;have r:(n ^^^ (n*8192%18446744073709551616)) ^^^ ((n ^^^ (n*8192%18446744073709551616))/128)<18446744073709551616:=RQ (n:=64) b ω;unfold Sort.xorNextN;dsimp only;apply Qv e i5;simp only[go_sem,f,l n o];generalize n ^^^ (n*8192%18446744073709551616)=d at *;apply Qv e i5;simp only[go_sem,Qj,QF g,JN,k d b];generalize d ^^^ (d/128)=m at *;apply Qv e i5;simp only[go_sem,Qj,QF g,JN,j m r];try exact⟨rfl,rfl⟩
def AR(a L M b:Nat)(s0:UInt64 × Array Int):Nat->UInt64 × Array Int
 | 0=>s0
 | k+1=>Sort.breakStep a L M (AR a L M b s0 k) (b+k)
def tQ(a L M b)(c:UInt64 × Array Int):∀k,(AR a L M b c k).2.size=c.2.size
 | 0=>rfl
 | k+1=>by
  rw[AR,Sort.breakStep];dsimp only;rw[swp_size,tQ a L M b c k]
def Qif(d)(a b)(h:b-a >= 8):Sort.breakPatterns d a b=(AR a (b-a) (1 <<< Sort.bitsLen (b-a)) (a+(b-a)/4*2-1) (UInt64.ofNat (b-a),d) 3).2:=by
 unfold Sort.breakPatterns;dsimp only;rw[Qd h];rfl
section
variable {h:List Ob}{lo g:Nat}{d:Array Int}(ho:h[lo]?=some (Zd g d))
include ho
theorem QxT(a b)(VB:a<b)(Zr:b<=d.size)(hz:d.size<1000000000):
  QM prog 272 h [.ref lo g 0 d.size,Qa a,Qa b] (λdd h'=>dd=.tup []/\∃t,h'=h.set lo (Zd g (Sort.breakPatterns d a b))++t):=by
 have T:IntKind.i64.wrap ((b:Int)-a)=((b-a:Nat):Int):=Zw;by_cases U:b-a >= 8
 .rw[Qif d a b U];have d8:decide ((8:Int)<=(b-a:Nat))=true:=QS ω;generalize hL:b-a=L at *;have a1:=Sort.two_pow_bitsLen_le (n:=L) ω;have a2:=bt (Sort.bitsLen L);rw[show 1 <<< Sort.bitsLen L=2^Sort.bitsLen L by rw[Nat.shiftLeft_eq,NG]];have f0:((L:Int)).tdiv 4=((L/4:Nat):Int):=rfl;have f1:IntKind.i64.wrap (((L/4:Nat):Int))=((L/4:Nat):Int):=by rw[wrap64 ω ω]
  have f2:IntKind.i64.wrap (((L/4:Nat):Int)*2)=((L/4*2:Nat):Int):=Zw;have f3:IntKind.i64.wrap ((a:Int)+(L/4*2:Nat))=((a+L/4*2:Nat):Int):=Zw;have f4:IntKind.i64.wrap (((a+L/4*2:Nat):Int)-1)=((a+L/4*2-1:Nat):Int):=Zw;have f5:IntKind.i64.wrap (((a+L/4*2:Nat):Int)+1)=((a+L/4*2+1:Nat):Int):=Zw;have f6:IntKind.u64.wrap (L:Int)=(L:Int):=η;refine Q7 func272 ntmps272 results272 λB w pl f=>?_;have P:=Qb ho;simp only[go_sem,Qj,T,d8,f6];apply QV f QtO (QxR L ω);apply Qh f;simp only[go_sem,f0,f1,f2,f3,f4];generalize hM:2^Sort.bitsLen L=M at *;generalize K:(UInt64.ofNat L,d)=c;have YK:c.2.size=d.size:=by rw[<- K]
  have Ps:c.1.toNat=L:=by rw[<- K];simp;omega
  have LW:c.2=d:=by rw[<- K]
  refine ZN (λm st=>m<=3/\st=⟨[(0,.ref lo g 0 d.size),(1,Qa a),(6,Qa L),(7,.ptr h.length 0 0 0),(8,u64 M),(9,Qa (a+L/4*2-1+m:Nat))],h.set lo (Zd g (AR a L M (a+L/4*2-1) c m).2)++[Hx (AR a L M (a+L/4*2-1) c m).1.toNat]⟩) 3 (s0:=⟨[(0,.ref lo g 0 d.size),(1,Qa a),(6,Qa L),(7,.ptr h.length 0 0 0),(8,u64 M),(9,Qa (a+L/4*2-1+0:Nat))],h.set lo (Zd g (AR a L M (a+L/4*2-1) c 0).2)++[Hx (AR a L M (a+L/4*2-1) c 0).1.toNat]⟩) ?_ ⟨ω,rfl⟩ ?_;rw[AR,LW,Ps,wv ho];exact QO;rintro m _ hm ⟨Fe,rfl⟩;have k:=tQ a L M (a+L/4*2-1) c m;rw[YK]at k;by_cases cm:m<3
  .have z:AR a L M (a+L/4*2-1) c (m+1)=Sort.breakStep a L M (AR a L M (a+L/4*2-1) c m) (a+L/4*2-1+m):=rfl;generalize QZ:AR a L M (a+L/4*2-1) c m=sm at *;obtain⟨r,i⟩:=sm;dsimp only at k ⊢;have O:=vn (g:=g) (d:=i) P;have l:(h.set lo (Zd g i)).length=h.length:=Kx;generalize C:h.set lo (Zd g i)=H at *;have j:=Qb O;have ZQ:lo<h.length:=P;rw[<- l];have g1:(H++[Hx r.toNat])[H.length]?=some (Hx r.toNat):=σ;have hx:=Sort.xorNext_toNat r;have V:=r.toNat_lt;have jB:=Sort.xorNextN_lt r.toNat V;have g2:∀o E:Ob,(H++[o]).set H.length E=H++[E]:=λo E=>by rw[eF rfl];rfl
   have N:decide (a+L/4*2-1+m<=a+L/4*2+1)=true:=QS ω;apply Qh f;simp only[go_sem,f0,f1,f2,f3,f5,N];refine ZL f QtP (QxS r.toNat g1 V) λd h hR=>?_;obtain⟨rfl,rfl⟩:=hR;apply Qh f;simp only[go_sem,g2];have W:IntKind.u64.wrap ((M:Int)-1)=((M-1:Nat):Int):=η;generalize a0:Sort.xorNextN r.toNat=x at *;have Z:bits .and .u64 (x:Int) ((M-1:Nat):Int)=((x &&& (M-1):Nat):Int):=u64_and_nat x (M-1) jB ω;have yb:x &&& (M-1)<=M-1:=Nat.and_le_right;generalize S:x &&& (M-1)=y at *;have Y:IntKind.i64.wrap ((y:Nat):Int)=((y:Nat):Int):=by rw[wrap64 ω ω]
   have I:IntKind.i64.wrap (((y:Nat):Int)-L)=((y-L:Nat):Int)\/¬ L<=y:=by
    by_cases q:L<=y;left;rw[wrap64 ω ω];omega;right;exact q
   have R:IntKind.i64.wrap (((a+L/4*2-1+m:Nat):Int)+1)=((a+L/4*2-1+(m+1):Nat):Int):=Zw;simp only[go_sem,W,Z,Y];by_cases v:L<=y
   .replace I:=I.resolve_right (λq=>q v);have c2:decide (L<=y)=true:=QS v;have Q:Sort.breakStep a L M (r,i) (a+L/4*2-1+m)=(Sort.xorNext r,Sort.swp i (a+L/4*2-1+m) (a+(y-L))):=by
     unfold Sort.breakStep;dsimp only;rw[hx,S,Qd v]
    have u:a+L/4*2-1+m<d.size:=ω;have p:a+(y-L)<d.size:=ω;have F:IntKind.i64.wrap ((a:Int)+((y-L):Nat))=((a+(y-L):Nat):Int):=Zw;simp only[go_sem,c2,I];refine FE (⟨[(0,.ref lo g 0 d.size),(1,Qa a),(6,Qa L),(7,.ptr H.length 0 0 0),(8,u64 M),(9,Qa (a+L/4*2-1+m:Nat))],H.set lo (Zd g (Sort.swp i (a+L/4*2-1+m) (a+(y-L))))++[Hx x]⟩) Vd f mixed [(0,true),(1,true),(2,true),(3,true),(4,true),(6,true),(7,true),(8,true),(9,true),(10,true),(11,true),(12,true),(13,true),(14,true),(15,true),(16,true)] [5,17,18,19] τ τ (λs J=>Cg J rfl ?_) ?_
    rotate_left
    .simp only[go_sem,Qj,O,j,k,u,p,F,QE j,Dj j,QF j,JN,jW,Kx];rw[jX g i _ _ _ k u p]
     repeat' refine And.intro ?_ ?_
     all_goals exact QO
    apply Qh f;simp only[go_sem,R];refine⟨ω,_,?_,ω,rfl⟩;rw[z,Q,<- C,JN,hx];rw[<- C]at l;rw[l];exact QO
   .have c2:decide (L<=y)=false:=QG v;have Q:Sort.breakStep a L M (r,i) (a+L/4*2-1+m)=(Sort.xorNext r,Sort.swp i (a+L/4*2-1+m) (a+y)):=by
     unfold Sort.breakStep;dsimp only;rw[hx,S,Qc v]
    have u:a+L/4*2-1+m<d.size:=ω;have p:a+y<d.size:=ω;have F:IntKind.i64.wrap ((a:Int)+(y:Nat))=((a+y:Nat):Int):=Zw;simp only[go_sem,c2];refine FE (⟨[(0,.ref lo g 0 d.size),(1,Qa a),(6,Qa L),(7,.ptr H.length 0 0 0),(8,u64 M),(9,Qa (a+L/4*2-1+m:Nat))],H.set lo (Zd g (Sort.swp i (a+L/4*2-1+m) (a+y)))++[Hx x]⟩) Vd f mixed [(0,true),(1,true),(2,true),(3,true),(4,true),(6,true),(7,true),(8,true),(9,true),(10,true),(11,true),(12,true),(13,true),(14,true),(15,true),(16,true)] [5,17,18,19] τ τ (λs J=>Cg J rfl ?_) ?_
    rotate_left
    .simp only[go_sem,Qj,O,j,k,u,p,F,QE j,Dj j,QF j,JN,jW,Kx];rw[jX g i _ _ _ k u p]
     repeat' refine And.intro ?_ ?_
     all_goals exact QO
    apply Qh f;simp only[go_sem,R];refine⟨ω,_,?_,ω,rfl⟩;rw[z,Q,<- C,JN,hx];rw[<- C]at l;rw[l];exact QO
  obtain rfl:m=3:=ω;have N:decide (a+L/4*2-1+2<=a+L/4*2)=false:=QG ω;apply Qh f;simp only[go_sem,f0,f1,f2,f3,f5,N];try exact⟨_,rfl⟩
 have d8:decide ((8:Int)<=(b-a:Nat))=false:=QG ω;have e:Sort.breakPatterns d a b=d:=by
  unfold Sort.breakPatterns;dsimp only;rw[Qc U]
 rw[e];refine Q7 func272 ntmps272 results272 λB w pl f=>?_;have P:=Qb ho;simp only[go_sem,T,d8];exact⟨[],by rw[JS];exact(wv ho).symm⟩
end
def Qii(a b):∀(n i:Nat) (d:Array Int),b-i<=n->(Sort.insOuter Qt a b i d).size=d.size
 | n,i,d,e=>by
  rw[Sort.insOuter];split;obtain⟨c,rfl⟩:∃c,n=c+1:=⟨n-1,ω⟩;rw[Qii a b c _ _ ω,QhX];rfl
def QxU(d:Array Int)(a b:Nat):(Sort.insertionSort Qt d a b).size=d.size:=Qii a b _ _ d (QB _)
def Qij(first):∀(k:Nat) (d:Array Int),(Sort.heapPop Qt first k d).size=d.size
 | 0,d=>rfl
 | k+1,d=>by rw[Sort.heapPop,Qij first k,iu,swp_size]
def QxV(d:Array Int)(a b:Nat):(Sort.heapSort Qt d a b).size=d.size:=by rw[Sort.heapSort,Qij,Qh0]
def QxW(d:Array Int)(a b:Nat):(Sort.breakPatterns d a b).size=d.size:=by
 by_cases c:b-a >= 8;rw[Qif d a b c,tQ];unfold Sort.breakPatterns;dsimp only;rw[Qc c]
def Qik:∀(n i j:Nat) (d:Array Int),j-i<=n->(Sort.reverseLoop i j d).size=d.size
 | n,i,j,d,b=>by
  rw[Sort.reverseLoop];split;obtain⟨a,rfl⟩:∃a,n=a+1:=⟨n-1,ω⟩;rw[Qik a _ _ _ ω,swp_size];rfl
def QxX(d:Array Int)(a b:Nat):(Sort.reverseRange d a b).size=d.size:=Qik _ _ _ d (QB _)
def Qil(a b):∀(s i:Nat) (d:Array Int),(Sort.partialIns Qt a b s i d).1.size=d.size
 | 0,i,d=>rfl
 | s+1,i,d=>by
  rw[Sort.partialIns];dsimp only;split;rfl;split;rfl;rw[Qil a b s];have e:∀c:Array Int,(if b-Sort.scanSorted Qt d b i >= 2 then Sort.shiftUp Qt b (Sort.scanSorted Qt d b i+1) c else c).size=c.size:=λc=>by
   split;exact Qh5 b _ _ _ (QB _);rfl
  rw[e];split;rw[tE,swp_size];rw[swp_size]
def tR(d:Array Int)(a b p:Nat):(Sort.partitionEqual Qt d a b p).2.size=d.size:=by
 rw[Sort.partitionEqual,Qh1 a _ _ _ _ (QB _),swp_size]
def iE(d:Array Int)(a b p:Nat):(Sort.partition Qt d a b p).2.2.size=d.size:=by
 rw[Sort.partition_arr,swp_size,Qh2 a _ _ _ _ (QB _),swp_size]
def Qim(d:Array Int)(a b l)(c e:Bool):(Sort.rd Qt d a b l c e).d1.size=d.size/\(Sort.rd Qt d a b l c e).d2.size=d.size/\(Sort.rd Qt d a b l c e).pi.1.size=d.size:=by
 have g:(Sort.rd Qt d a b l c e).d1.size=d.size:=by
  cases c;exact QxW d a b;rfl
 have f:(Sort.rd Qt d a b l c e).d2.size=d.size:=by
  by_cases h:(Sort.rd Qt d a b l c e).c.2=.decreasing;rw[(Sort.rd_dec h).1,QxX,g];rw[(Sort.rd_not h).1,g]
 refine⟨g,f,?_⟩;cases i:(c&&e&&decide ((Sort.rd Qt d a b l c e).hint=.increasing));rw[Sort.rd_pi_no i,f];rw[Sort.rd_pi_yes i,Sort.partialInsertionSort,Qil,f]
def Qin(a):∀(n i j:Nat) (d:Array Int),j+1-i<=n->a<i->i<=j+1->a<(Sort.partEqLoop Qt a i j d).1/\(Sort.partEqLoop Qt a i j d).1<=j+1
 | n,i,j,d,r,t,c=>by
  have k:=iv (λx=>!Qt d[a]! x) (λx=>Qt d[a]! x) (λx=>σ) d i j ω c;obtain⟨p,f,o,m⟩:=Sort.scanUp_spec (λx=>!Qt d[a]! x) d j _ i rfl;obtain⟨v1,v2,v3,l⟩:=Sort.scanDown_spec (λx=>Qt d[a]! x) d (Sort.scanUp (λx=>!Qt d[a]! x) d j i) j;have e:=f c;rw[Sort.partEqLoop_eq];split;exact⟨by dsimp only;omega,e⟩;rename_i h;have s:=k h;have:=Sort.partEqLoop_guard Qt a i j d h;obtain⟨b,rfl⟩:∃b,n=b+1:=⟨n-1,ω⟩;obtain⟨g,q⟩:=Qin a b _ _ (Sort.swp d (Sort.scanUp (λx=>!Qt d[a]! x) d j i) (Sort.scanDown (λx=>Qt d[a]! x) d (Sort.scanUp (λx=>!Qt d[a]! x) d j i) j)) (show (Sort.scanDown (λx=>Qt d[a]! x) d (Sort.scanUp (λx=>!Qt d[a]! x) d j i) j-1)+1-(Sort.scanUp (λx=>!Qt d[a]! x) d j i+1)<=b by omega) ω ω;exact⟨g,ω⟩
def QxY(d)(a b p:Nat)(c:a<b):a<(Sort.partitionEqual Qt d a b p).1/\(Sort.partitionEqual Qt d a b p).1<=b:=by
 have:=Qin a _ (a+1) (b-1) (Sort.swp d a p) (QB _) ω ω;rw[Sort.partitionEqual];omega
def Qio:Sort.SWO Qt:=⟨λx=>by simp[Qt],λx y z b a=>by simp[Qt]at *;omega,λx y z b a=>by simp[Qt]at *;omega⟩
def QxZ(d:Array Int)(a b p:Nat)(f:a<=p)(e:p<b)(c:b<=d.size):a<=(Sort.partition Qt d a b p).1/\(Sort.partition Qt d a b p).1<b:=by
 have:=Sort.partition_holds Qt Qio d a b p f e c;exact⟨this.1,this.2.1⟩
def Qx0(d)(a b l)(e c:Bool)(g:a<b):a<=(Sort.rd Qt d a b l e c).pivot/\(Sort.rd Qt d a b l e c).pivot<b:=by
 have h:=Sort.choosePivot_holds Qt (Sort.rd Qt d a b l e c).d1 a b g;rw[<- Sort.rd_c]at h;by_cases f:(Sort.rd Qt d a b l e c).c.2=.decreasing;rw[(Sort.rd_dec f).2.1];omega;rw[(Sort.rd_not f).2.1];exact h
def Hz:∀(n:Nat) (d:Array Int) (a b l:Nat) (g f:Bool),b-a<=n->(Sort.pdq Qt d a b l g f).size=d.size
 | n,d,a,b,l,g,f,k=>by
  obtain⟨j,i,e⟩:=Qim d a b l g f;rw[Sort.pdq_unfold];split;exact QxU d a b;split;exact QxV d a b;obtain⟨c,rfl⟩:∃c,n=c+1:=⟨n-1,ω⟩;split;exact e;split;split;rename_i h;rw[Hz c _ _ _ _ _ _ ω,tR,e];rw[tR,e];split;rename_i h;split;rw[Hz c _ _ _ _ _ _ ω,Hz c _ _ _ _ _ _ ω,iE,e];rw[Hz c _ _ _ _ _ _ ω,Hz c _ _ _ _ _ _ ω,iE,e];rw[iE,e]
def Qip(n:Nat):Prop:=∀(h:List Ob) (c g:Nat) (d:Array Int),h[c]?=some (Zd g d)->∀a b l:Nat,a<=b->b<=d.size->l<1000->d.size<1000000000->b-a<n ->
 QM prog 257 h [.ref c g 0 d.size,Qa a,Qa b,Qa l] (λf e=>f=.tup []/\∃t,e=h.set c (Zd g (Sort.pdq Qt d a b l true true))++t)
def FJ{h t:List Ob}{a}{x y}(b:a<h.length):(h.set a x++t).set a y=h.set a y++t:=by
 rw[bc _ _ (by simpa using b),JN]
def Uh{h t:List Ob}{a}{x}(b:a<h.length):(h.set a x++t)[a]?=some x:=by
 rw[JJ (by simpa using b),QF b]
def Qiq(c:Sort.Hint)(k:Sort.Hint):((FF c:Int)==(FF k:Int))=decide (c=k):=by cases c<;>cases k<;>rfl
def Qx1(n:Nat)(IH:Qip n){h:List Ob}{j g:Nat}{d:Array Int}(ho:h[j]?=some (Zd g d))(a b l:Nat)(VB:a<=b)(Zr:b<=d.size)(hl:l<1000)(hz:d.size<1000000000)(hn:b-a<n+1):
  QM prog 257 h [.ref j g 0 d.size,Qa a,Qa b,Qa l] (λdd h'=>dd=.tup []/\∃t,h'=h.set j (Zd g (Sort.pdq Qt d a b l true true))++t):=by
 refine Q7 func257 ntmps257 results257 λa6 w pl f=>?_;have v:=Qb ho;simp only[go_sem];refine ZN (λm y=>∃(d1:Array Int) (c e p:Nat) (i k:Bool) (t:List Ob),d1.size=d.size/\c<=e/\e<=d.size/\p<1000/\m+(e-c)<=b-a/\Sort.pdq Qt d1 c e p i k=Sort.pdq Qt d a b l true true/\y=⟨[(0,.ref j g 0 d.size),(1,Qa c),(2,Qa e),(3,Qa p),(8,QU i),(9,QU k)],h.set j (Zd g d1)++t⟩) (b-a) (s0:=⟨[(0,.ref j g 0 d.size),(1,Qa a),(2,Qa b),(3,Qa l),(8,QU true),(9,QU true)],h.set j (Zd g d)++[]⟩) ?_ ⟨d,a,b,l,true,true,[],rfl,VB,Zr,hl,ω,rfl,rfl⟩ ?_;rw[wv ho,JS];exact QO;rintro m _ hm ⟨d1,c,e,p,i,k,t1,N,a9,a8,Jp,fB,r,rfl⟩;have e0:IntKind.i64.wrap ((e:Int)-c)=((e-c:Nat):Int):=Zw;have T:(h.set j (Zd g d1)++t1)[j]?=some (Zd g d1):=Uh v;rw[Sort.pdq_unfold]at r;by_cases H:e-c<=12;have d12:decide (((e-c:Nat):Int)<=12)=true:=QS ω;rw[Qd H]at r;apply Qh f;simp only[go_sem,e0,d12];refine ZL f QtW (N▸Qxu T c e ω ω ω) λd h s=>?_;obtain⟨rfl,rfl⟩:=s;apply Qg f;refine⟨t1,?_⟩;rw[<- r];exact FJ v;have d12:decide (((e-c:Nat):Int)<=12)=false:=QG ω;rw[Qc H]at r;by_cases cl:p=0;have dl:((p:Int)==0)=true:=by rw[cl];rfl
 rw[Qd cl]at r;apply Qh f;simp only[go_sem,e0,d12,dl];refine ZL f QtX (N▸Qxv T c e ω ω ω) λd h s=>?_;obtain⟨rfl,rfl⟩:=s;apply Qg f;refine⟨t1,?_⟩;rw[<- r];exact FJ v;have dl:((p:Int)==0)=false:=beq_eq_false_iff_ne.mpr ω;rw[Qc cl]at r;refine EV Vd f 30 ?_;simp only[go_sem,e0,d12,dl];obtain⟨O,z2,B⟩:=Qim d1 c e p i k;have a7:=Sort.rd_lim_le (lt:=Qt) (d:=d1) (a:=c) (b:=e) (limit:=p) (wb:=i) (wp:=k);have z:=Qx0 d1 c e p i k ω;rw[N]at O z2 B;first|refine qA ?_|skip
 refine iq (λy=>∃t,y=⟨[(0,.ref j g 0 d.size),(1,Qa c),(2,Qa e),(3,Qa (Sort.rd Qt d1 c e p i k).lim),(8,QU i),(9,QU k),(10,Qa (e-c:Nat))],h.set j (Zd g (Sort.rd Qt d1 c e p i k).d1)++t⟩) ?_ ?_;cases i;have vl:IntKind.i64.wrap ((p:Int)-1)=((p-1:Nat):Int):=Zw;rw[Sort.rd_false.1,Sort.rd_false.2];apply Qg f;refine ZL f QtY (N▸QxT T c e ω ω ω) λd h s=>?_;obtain⟨rfl,t2,rfl⟩:=s;apply Qh f;simp only[go_sem,vl];refine⟨_,⟨t1++t2,rfl⟩,?_⟩;rw[FJ v,WL];exact QO;rw[Sort.rd_true.1,Sort.rd_true.2];apply Qg f;refine⟨_,⟨t1,rfl⟩,?_⟩;exact QO;have hc:=Sort.rd_c (lt:=Qt) (d:=d1) (a:=c) (b:=e) (limit:=p) (wb:=i) (wp:=k);have a5:=Sort.rd_dec (lt:=Qt) (d:=d1) (a:=c) (b:=e) (limit:=p) (wb:=i) (wp:=k);have a4:=Sort.rd_not (lt:=Qt) (d:=d1) (a:=c) (b:=e) (limit:=p) (wb:=i) (wp:=k);have a3:=Sort.rd_pi_yes (lt:=Qt) (d:=d1) (a:=c) (b:=e) (limit:=p) (wb:=i) (wp:=k);have ZP:=Sort.rd_pi_no (lt:=Qt) (d:=d1) (a:=c) (b:=e) (limit:=p) (wb:=i) (wp:=k);have qg:=Sort.choosePivot_holds Qt (Sort.rd Qt d1 c e p i k).d1 c e ω;rw[<- hc]at qg;generalize Sort.rd Qt d1 c e p i k=R at *;rintro _ ⟨t2,rfl⟩;apply Qg f;refine ZL f QtZ (O▸Qxs (Uh (x:=Zd g R.d1) v) c e ω ω ω) λd h s=>?_;obtain⟨rfl,t3,rfl⟩:=s;refine EV Vd f 12 ?_;simp only[go_sem,WL];rw[<- hc];first|refine qA ?_|skip
 refine iq (λy=>∃t,y=⟨[(0,.ref j g 0 d.size),(1,Qa c),(2,Qa e),(3,Qa R.lim),(8,QU i),(9,QU k),(10,Qa (e-c:Nat)),(11,Qa R.pivot),(12,Qa (FF R.hint:Nat))],h.set j (Zd g R.d2)++t⟩) ?_ ?_;by_cases M:R.c.2=.decreasing;obtain⟨W,V,U⟩:=a5 M;have b2:((FF R.c.2:Int)==2)=true:=by rw[M];rfl
 have v1:IntKind.i64.wrap ((e:Int)-1)=((e-1:Nat):Int):=Zw;have v2:IntKind.i64.wrap ((R.c.1:Int)-c)=((R.c.1-c:Nat):Int):=Zw;have v3:IntKind.i64.wrap (((e-1:Nat):Int)-(R.c.1-c:Nat))=(((e-1)-(R.c.1-c):Nat):Int):=Zw;apply Qh f;simp only[go_sem,b2];refine ZL f Qt0 (O▸Qxt (Uh (x:=Zd g R.d1) v) c e ω ω ω) λd h s=>?_;obtain⟨rfl,rfl⟩:=s;apply Qh f;simp only[go_sem,v1,v2,v3];rw[W,V,U];refine⟨_,⟨t2++t3,rfl⟩,?_⟩;rw[FJ v];exact Qo.frame (by simp only[go_sem];first|rfl|exact⟨rfl,rfl⟩);obtain⟨W,V,U⟩:=a4 M;have b2:((FF R.c.2:Int)==2)=false:=by rw[show (2:Int)=(FF .decreasing:Int) from rfl,Qiq];exact QG M
 apply Qh f;simp only[go_sem,b2];rw[W,V,U];refine⟨_,⟨t2++t3,rfl⟩,?_⟩;exact QO;rintro _ ⟨t4,rfl⟩;refine qA ?_;first|refine qA ?_|skip
 refine rb (⟨[(0,.ref j g 0 d.size),(1,Qa c),(2,Qa e),(3,Qa R.lim),(8,QU i),(9,QU k),(10,Qa (e-c:Nat)),(11,Qa R.pivot),(12,Qa (FF R.hint:Nat)),(68,QU (i&&k&&decide (R.hint=.increasing)))],h.set j (Zd g R.d2)++t4⟩) ?_ ?_;cases i;apply Qg f;exact QO;cases k;apply Qg f;exact QO;have cQ:((FF R.hint:Int)==1)=decide (R.hint=.increasing):=Qiq R.hint .increasing;apply Qh f;simp only[go_sem,cQ];exact QO;first|refine qA ?_|skip
 refine iq (λy=>R.pi.2=false/\∃t,y=⟨[(0,.ref j g 0 d.size),(1,Qa c),(2,Qa e),(3,Qa R.lim),(8,QU i),(9,QU k),(10,Qa (e-c:Nat)),(11,Qa R.pivot)],h.set j (Zd g R.pi.1)++t⟩) ?_ ?_;cases C:(i&&k&&decide (R.hint=.increasing));have Z:=ZP C;apply Qg f;rw[Z];refine⟨_,⟨rfl,t4,rfl⟩,?_⟩;exact QO;have Z:=a3 C;apply Qg f;refine ZL f Qt1 (z2▸QxN (Uh (x:=Zd g R.d2) v) c e ω ω ω) λd h s=>?_;obtain⟨rfl,rfl⟩:=s;apply Qg f;rw[<- Z];cases ZR:R.pi.2;simp only[go_sem];refine⟨_,⟨t4,rfl⟩,?_⟩;rw[FJ v];exact QO;rw[Qd ZR]at r;simp only[go_sem];refine⟨t4,?_⟩;rw[<- r];exact FJ v;rintro _ ⟨a2,t5,rfl⟩;rw[Qc (by rw[a2];decide)]at r;generalize hD:R.pi.1=u at *;have F:(h.set j (Zd g u)++t5)[j]?=some (Zd g u):=Uh v;generalize S:h.set j (Zd g u)++t5=HD at F;have a0:=Qb F;have p2:R.pivot<d.size:=ω;have f1:c > 0->IntKind.i64.wrap ((c:Int)-1)=((c-1:Nat):Int):=λq=>by exact Zw
 have p1:c-1<d.size:=ω;refine qA ?_;first|refine qA ?_|skip
 refine BW [0,1,2,3,8,9,10,11] [(87,QU (decide (c > 0)&&!Qt u[c-1]! u[R.pivot]!))] rfl ?_ ?_;by_cases ca:c > 0;have da:decide ((0:Int)<(c:Int))=true:=QS ω;have f2:=f1 ca;apply Qv f o00;simp only[go_sem,F,B,da,f2,p1,p2];apply ZD f jH (wu u[c-1]! u[R.pivot]!);apply Zp f;exact Qo.frame (by simp only[go_sem,QS ca,If]);have da:decide ((0:Int)<(c:Int))=false:=QG ω;apply Qv f o00;simp only[go_sem,da];exact Qo.frame (by simp only[go_sem,QG ca,Ie]);cases C:(decide (c > 0)&&!Qt u[c-1]! u[R.pivot]!);rw[C,Qc π]at r;have Y:=QxZ u c e R.pivot z.1 z.2 ω;have JA:=iE u c e R.pivot;rw[Qd Y]at r;apply Qg f;refine ZL f Qt3 (B▸QxD F c e R.pivot ω ω z.1 z.2 ω) λd h s=>?_;obtain⟨rfl,rfl⟩:=s;apply Qg f;generalize Sort.partition Qt u c e R.pivot=pt at *;obtain⟨o,J,E⟩:=pt;dsimp only at *;have k1:IntKind.i64.wrap ((o:Int)-c)=((o-c:Nat):Int):=Zw;have k2:IntKind.i64.wrap ((e:Int)-o)=((e-o:Nat):Int):=Zw;have k3:((e-c:Nat):Int).tdiv 8=(((e-c)/8:Nat):Int):=rfl;have k4:IntKind.i64.wrap ((((e-c)/8:Nat):Int))=(((e-c)/8:Nat):Int):=by rw[wrap64 ω ω]
 have k5:IntKind.i64.wrap ((o:Int)+1)=((o+1:Nat):Int):=Zw;have L:E.size=d.size:=by rw[JA,B]
 have I:(HD.set j (Zd g E))[j]?=some (Zd g E):=QF a0;by_cases K:o-c<e-o;have Q:decide (o-c<e-o)=true:=QS K;rw[Qd K]at r;simp only[go_sem,k1,k2,k3,k4,Q];apply Qg f;refine ZL f pN (L▸IH _ j g E I c o R.lim ω ω ω ω ω) λd h s=>?_;obtain⟨rfl,t6,rfl⟩:=s;apply Qh f;simp only[go_sem,k5];have P:=Hz _ E c o R.lim true true (QB _);refine⟨ω,_,?_,Sort.pdq Qt E c o R.lim true true,o+1,e,R.lim,decide ((e-c)/8<=o-c),J,t5++t6,by rw[P,L],ω,ω,ω,ω,r,rfl⟩;rw[JN,<- S,FJ v,WL];exact QO;have Q:decide (o-c<e-o)=false:=QG K;rw[Qc K]at r;simp only[go_sem,k1,k2,k3,k4,Q];apply Qh f;simp only[go_sem,k5];refine ZL f pN (L▸IH _ j g E I (o+1) e R.lim ω ω ω ω ω) λd h s=>?_;obtain⟨rfl,t6,rfl⟩:=s;apply Qg f;have P:=Hz _ E (o+1) e R.lim true true (QB _);refine⟨ω,_,?_,Sort.pdq Qt E (o+1) e R.lim true true,c,o,R.lim,decide ((e-c)/8<=e-o),J,t5++t6,by rw[P,L],ω,ω,ω,ω,r,rfl⟩;rw[JN,<- S,FJ v,WL];exact QO;rw[C,Qd rfl]at r;have Y:=QxY u c e R.pivot ω;have JA:=tR u c e R.pivot;rw[Qd Y]at r;apply Qg f;refine ZL f Qt2 (B▸Qxx F c e R.pivot ω ω z.1 z.2 ω) λd h s=>?_;obtain⟨rfl,rfl⟩:=s;apply Qg f;refine⟨ω,_,?_,(Sort.partitionEqual Qt u c e R.pivot).2,(Sort.partitionEqual Qt u c e R.pivot).1,e,R.lim,i,k,t5,ω,ω,ω,ω,ω,r,rfl⟩;rw[<- S,FJ v];exact QO
def Qiu:∀n,Qip n
 | 0=>λ_ _ _ _ _ _ _ _ _ _ _ _ c=>absurd c (Yc _)
 | n+1=>λh k g d e a b l j i f hz c=>Qx1 n (Qiu n) e a b l j i f hz c
def Qx7(n)(h:n<1000000000):Sort.bitsLen n<=30:=(Sort.bitsLen_le_iff n 30).2 ω
def Qx8{h:List Ob}{lo g}{d:Array Int}(c:h[lo]?=some (Zd g d))(b:d.size<1000000000):
  QM prog 225 h [.ref lo g 0 d.size] (λk j=>k=.tup []/\∃t,j=h.set lo (Zd g (Sort.sort Qt d))++t):=by
 have m:=Qx7 _ b;have f:IntKind.u64.wrap (d.size:Int)=d.size:=η;refine Q7 func225 ntmps225 results225 λe w l a=>?_;have n:=Qb c;simp only[go_sem,f];apply QV a Qfm (bV d.size ω);apply Qg a;refine ZL a pN (Qiu (d.size+1) h lo g d c 0 d.size (Sort.bitsLen d.size) (Jj _) (QB _) ω b ω) λd h i=>?_;obtain⟨rfl,t,rfl⟩:=i;apply Qg a;exact⟨t,rfl⟩
def cN(f:Nat->Int):Nat->List Int
 | 0=>[]
 | n+1=>if n≠0/\f n=f (n-1) then cN f n else cN f n++[f n]
def Pu(f):∀n,(cN f n).length<=n
 | 0=>QB _
 | n+1=>by
  have:=Pu f n;rw[cN];split;omega;simp;omega
def tW(f)(x):∀n,x∈cN f n↔∃i,i<n/\f i=x
 | 0=>by simp[cN]
 | n+1=>by
  have d:=tW f x n;rw[cN];split;rename_i c;rw[d];constructor;rintro⟨i,b,a⟩;exact⟨i,ω,a⟩;rintro⟨i,b,a⟩;by_cases e:i=n;subst e;exact⟨i-1,ω,by rw[<- c.2];exact a⟩;exact⟨i,ω,a⟩;rw[Q1,d];simp only[Yx];constructor;rintro (⟨i,b,a⟩|h);exact⟨i,ω,a⟩;exact⟨n,ω,h.symm⟩;rintro⟨i,b,a⟩;by_cases e:i=n;subst e;exact Or.inr a.symm;exact Or.inl ⟨i,ω,a⟩
def Mn(f):∀n,(cN f n).length=n->∀i,i<n->(cN f n).getD i 0=f i
 | 0,_,i,a=>absurd a (Yc _)
 | n+1,h,i,a=>by
  have b:=Pu f n;rw[cN]at h ⊢;split at h;omega;rename_i c;rw[Qc c];simp at h;by_cases e:i=n;subst e;rw[QW,Kc ω,h,wV];rfl;rw[QW,JJ ω,<- QW];exact Mn f n h i ω
def Qx9(g)(d:Array Int)(i n)(x)(c:d.size=n)(e:i<n):
  (⟨.arr,g,1,n,λk=>bif k==i then [.raw (.int .u64 x)] else [.raw (.int .u64 d[k]!)]⟩:Ob)=Zd g (d.setIfInBounds i x):=by
 subst c;unfold Zd;congr 1;simp;funext k;unfold Ch uI;by_cases a:k=i;subst a;simp[e];have f:(k==i)=false:=beq_eq_false_iff_ne.mpr a;rw[f];by_cases b:k<d.size;simp[b,Q8 a];simp[b]
def Qya{h:List Ob}{lo g}{d:Array Int}(l:h[lo]?=some (Zd g d))(hz:d.size<1000000000):
  QM prog 226 h [.ref lo g 0 d.size] (λdd h'=>dd=.ref lo g 0 (cN (λi=>d[i]!) d.size).length/\∃n,h'=h.set lo ⟨.arr,g,1,d.size,n⟩/\(∀i,i<(cN (λi=>d[i]!) d.size).length->n i=[uI ((cN (λi=>d[i]!) d.size).getD i 0)])/\∀i,∃x,n i=[uI x]):=by
 by_cases c2:d.size<2;have F:decide ((d.size:Int)<2)=true:=QS ω;have f:(cN (λi=>d[i]!) d.size).length=d.size:=by
  have:d.size=0\/d.size=1:=ω;rcases this with h0|h0<;>rw[h0]<;>rfl
 rw[f];refine Q7 func226 ntmps226 results226 λq w pl a=>?_;have S:=Qb l;simp only[go_sem,F];exact⟨Ch d,(wv l).symm,λi b=>by rw[Mn _ _ f i b];rfl,λi=>⟨_,rfl⟩⟩;have F:decide ((d.size:Int)<2)=false:=QG ω;refine Q7 func226 ntmps226 results226 λq w pl a=>?_;have S:=Qb l;simp only[go_sem,F];refine ZN (λk y=>k+1<=d.size/\(cN (λi=>d[i]!) (k+1)).length=k+1/\y=⟨[(0,.ref lo g 0 d.size),(3,Qa (k+1:Nat))],h⟩) d.size (s0:=⟨[(0,.ref lo g 0 d.size),(3,Qa (0+1:Nat))],h⟩) QO ⟨ω,rfl,rfl⟩ ?_;rintro k _ hk ⟨Qf,o,rfl⟩;by_cases I:k+1<d.size;have E:decide (k+1<d.size)=true:=QS I;have v1:IntKind.i64.wrap (((k+1:Nat):Int)-1)=((k:Nat):Int):=Zw;have v2:IntKind.i64.wrap (((k+1:Nat):Int)+1)=((k+1+1:Nat):Int):=Zw;have p0:k<d.size:=ω;apply Qh a;simp only[go_sem,E];apply Qv a Eq;simp only[go_sem,l,v1,I,p0];by_cases q7:d[k+1]! = d[k]!;have K:(d[k+1]! == d[k]!)=true:=beq_iff_eq.mpr q7;have T:(cN (λi=>d[i]!) (k+1+1)).length=k+1:=by
  rw[cN,Qd ⟨ω,by simpa using q7⟩,o]
 have q0:k+1<=d.size:=ω;generalize hN:d.size-(k+1)=N;have v3:((d.size:Int)-((k+1:Nat):Int)).toNat=N:=ω;simp only[go_sem,K,q0,l,v3];refine ZN (λm y=>∃(d1:Array Int),d1.size=d.size/\m+1<=N/\(cN (λi=>d[i]!) (k+1+(m+1))).length<=k+1+m/\(∀i,i<(cN (λi=>d[i]!) (k+1+(m+1))).length->d1[i]! = (cN (λi=>d[i]!) (k+1+(m+1))).getD i 0)/\(∀j,(cN (λi=>d[i]!) (k+1+(m+1))).length<=j->d1[j]! = d[j]!)/\y=⟨[(0,.ref lo g 0 d.size),(3,Qa (cN (λi=>d[i]!) (k+1+(m+1))).length),(4,.ref lo g (k+1) N),(5,Qa (m+1:Nat))],h.set lo (Zd g d1)⟩) N (s0:=⟨[(0,.ref lo g 0 d.size),(3,Qa (cN (λi=>d[i]!) (k+1+(0+1))).length),(4,.ref lo g (k+1) N),(5,Qa (0+1:Nat))],h.set lo (Zd g d)⟩) ?_ ⟨d,rfl,ω,Nat.le_of_eq T,λi b=>?_,λj P=>rfl,rfl⟩ ?_;rw[wv l,T];exact QO;rw[cN,Qd ⟨ω,by simpa using q7⟩]at b ⊢;exact(Mn _ _ o i ω).symm;rintro m _ hm ⟨d1,c,a0,Fq,J,u,rfl⟩;have p:=vn (g:=g) (d:=d1) S;have t:cN (λi=>d[i]!) (k+1+(m+1+1))=if d[k+1+(m+1)]! = d[k+1+m]! then cN (λi=>d[i]!) (k+1+(m+1)) else cN (λi=>d[i]!) (k+1+(m+1))++[d[k+1+(m+1)]!]:=by
  rw[show k+1+(m+1+1)=(k+1+(m+1))+1 by omega,cN];simp
 generalize Q:cN (λi=>d[i]!) (k+1+(m+1))=C at *;generalize B:h.set lo (Zd g d1)=H at p;have DF:=Qb p;by_cases s:m+1<N;have em:decide (m+1<N)=true:=QS s;have O:=u (k+1+(m+1)) ω;have r2:=u (k+1+m) ω;have M:k+1+(m+1)<d.size:=ω;have Y:k+1+m<d.size:=ω;have W:m<N:=ω;have V:IntKind.i64.wrap (((m+1:Nat):Int)-1)=(m:Int):=Zw;have L:IntKind.i64.wrap (((m+1:Nat):Int)+1)=((m+1+1:Nat):Int):=Zw;have U:IntKind.i64.wrap ((C.length:Int)+1)=((C.length+1:Nat):Int):=Zw;apply Qh a;simp only[go_sem,em];apply Qv a Eq;simp only[go_sem,p,c,V,s,M,Y,W,O,r2];by_cases r:d[k+1+(m+1)]! = d[k+1+m]!;have z:(d[k+1+(m+1)]! != d[k+1+m]!)=false:=by rw[r];exact bne_self_eq_false _
 rw[Qd r]at t;simp only[go_sem,z,L];rw[t];refine⟨ω,_,?_,d1,c,ω,ω,J,u,rfl⟩;rw[<- B];exact QO;have z:(d[k+1+(m+1)]! != d[k+1+m]!)=true:=bne_iff_ne.mpr r;have v:C.length<d.size:=ω;rw[Qc r]at t;simp only[go_sem,z,L,U,p,c,M,s,v,O];rw[Qx9 g d1 _ _ _ c v,t];refine⟨ω,_,?_,d1.setIfInBounds C.length d[k+1+(m+1)]!,by simp;exact c,ω,ξ,λi b=>?_,λj P=>?_,rfl⟩;rw[<- B,JN,Zk,Kr];exact QO;simp only[Zk,Kr]at b;by_cases e:i=C.length;subst e;rw[QW,Kc (QB _),wV];simp[c,v];rw[QW,JJ ω,<- QW,<- J i ω];simp[Q8 e,Ns,x5];simp only[Zk,Kr]at P;rw[<- u j ω];simp[show C.length≠j by omega,Ns,x5];have em:decide (m+1<N)=false:=QG s;have Z:k+1+(m+1)=d.size:=ω;rw[Z]at Q;rw[Q];have R:C.length<=d.size:=ω;have g2:((d.size:Int)-(C.length:Int)).toNat=d.size-C.length:=ω;apply Qh a;simp only[go_sem,em];apply Qh a;simp only[go_sem,p,c,R,g2];refine p6 BS a rfl p rfl rfl rfl rfl (by dsimp only[Zd];omega) rfl rfl rfl rfl ?_;apply Qh a;simp only[go_sem,QF DF,c,R];refine⟨σ,qF C.length (d.size-C.length) [D.raw (.int .u64 0)] (Ch d1),?_,λi b=>?_,λi=>?_⟩;rw[<- B,JN];rw[pZ b];show [uI d1[i]!]=_;rw[J i b];rfl;unfold qF;cases Nat.ble C.length i&&Nat.blt i (C.length+(d.size-C.length));exact⟨d1[i]!,rfl⟩;exact⟨0,rfl⟩;have K:(d[k+1]! == d[k]!)=false:=beq_eq_false_iff_ne.mpr q7;simp only[go_sem,K,v2];refine⟨ω,_,?_,ω,?_,rfl⟩;exact QO;rw[cN,Qc (by simpa using q7)];simp[o];have E:decide (k+1<d.size)=false:=QG I;obtain JH:k+1=d.size:=ω;rw[JH]at o;apply Qh a;simp only[go_sem,E];apply Qg a;rw[o];exact⟨rfl,Ch d,(wv l).symm,λi b=>by rw[Mn _ _ o i b];rfl,λi=>⟨_,rfl⟩⟩
def Qiv:IntKind.i64.wrap 1=1:=π
def Qiw:IntKind.i64.wrap 0=0:=π
def Qix(F:List Ob)(f a:Nat)(b:List D)(g:Nc->Bool):Prop:=∀(h:List Ob) (c:Nc),VG F h->Zf prog f h (Z5 a b [DE c]) (λd=>d=QU (g c))
def Mr(g:Nc->Bool)(l:List Nc):Int:=match l.findIdx? g with
 | some i=>i
 | none=>-1
def Qyc{g}{l:List Nc}{k}(a:k<l.length)(h:∀i,i<k->g (l.getD i default)=false)(c:g (l.getD k default)=true):Mr g l=k:=by
 have e:l.findIdx? g=some k:=by
  rw[CM];refine⟨a,by simpa[QW,a] using c,λi b=>?_⟩;have:=h i b;simpa[QW,show i<l.length by omega] using this
 rw[Mr,e]
def Qyd{g}{l:List Nc}(h:∀i,i<l.length->g (l.getD i default)=false):Mr g l=-1:=by
 have e:l.findIdx? g=none:=by
  rw[Ej];intro x hx;obtain⟨i,a,rfl⟩:=vH hx;have:=h i a;simpa[QW,a] using this
 rw[Mr,e]
def Qye(g)(l:List Nc):decide (0<=Mr g l)=l.any g:=by
 unfold Mr;cases h:l.findIdx? g with
 | some i=>
  obtain⟨b,a,_⟩:=CM.1 h;have e:l.any g=true:=vG.2 ⟨_,Xn b,a⟩;rw[e];simp
 | none=>
  have:=Ej.1 h;have e:l.any g=false:=by rw[aP];intro x hx;simp[this x hx]
  rw[e];decide
section
variable (h:List Ob)(l:List Nc)(hlen:l.length<1048576)
include hlen
theorem Qyf(b:D)(f j:Nat)(p:List D)(t:Qm prog f)(y:JB b=some (f,j,p))(e:Nc->Bool)(r:Qix (h.map Ob.ro) f j p e):
  Zf prog 224 h [KV l,b] (λd=>d=Qa (Mr e l)):=by
 refine ZH func224 ntmps224 results224 λq w B F v C c=>?_;simp only[go_sem];refine ZN (λk s=>(∀i,i<k->e (l.getD i default)=false)/\s=⟨[(0,KV l),(1,b),(7,Qa l.length),(8,Qa k)],F⟩) l.length QO ⟨λi o=>absurd o ω,rfl⟩ ?_;rintro k s n ⟨g,rfl⟩;apply Qg c;have z:=Jr (show k<4611686018427387904 from ω);first|refine We n (λa=>?_) (λa=>?_)|refine Wf n (λa=>?_) (λa=>?_)
 simp only[go_sem,a];refine XI c t y ?_ (r F (l.getD k default) (by rw[<- v];exact VG.refl F)) rfl λd2 u=>?_;simp only[go_sem];exact Dt _;subst u;apply Qh c;cases m:e (l.getD k default);simp only[go_sem];refine⟨a,_,Qo.frame (fr':=[(0,KV l),(1,b),(7,Qa l.length),(8,Qa (k+1:Nat))]) (by simp only[go_sem,z]),λi o=>?_,rfl⟩;by_cases x:i<k;exact g i x;have:i=k:=ω;subst this;exact m;rw[Qyc a g m];simp only[go_sem];exact⟨[],(JS F).symm⟩;have a:k=l.length:=ω;subst a;simp only[go_sem,Gx];rw[Qyd g];apply Qg c;exact⟨[],(JS F).symm⟩
theorem Qyg(a:D)(f b:Nat)(e:List D)(k:Qm prog f)(q:JB a=some (f,b,e))(c:Nc->Bool)(j:Qix (h.map Ob.ro) f b e c):
  Zf prog 172 h [KV l,a] (λd=>d=QU (l.any c)):=by
 rw[<- Qye];refine ZH func172 ntmps172 results172 λi w r F o s g=>?_;simp only[go_sem];refine XI g QtH rfl ?_ (Qyf F l hlen a f b e k q c (λp n hx=>?_)) rfl λd2 m=>?_;simp only[go_sem];exact LG a;rw[o,rv]at hx;exact j p n hx;subst m;apply Qg g;exact⟨[],(JS F).symm⟩
end
def Qyh(h)(c:Nc):Zf prog 173 h [DE c] (λd=>d=QU (c.of==0)):=by
 refine ZH func173 ntmps173 results173 λb w e F f g a=>?_;simp only[go_sem,Qj];apply QV a OF (sO c.a c.d c.b);apply J5 a;refine⟨_,rfl,?_⟩;simp only[bne,Bool.not_not];rfl
def Pv(l:List Nc):Bool:=l.any λc=>c.of==0
def XM(t:Int)(l:List Nc):Int:=if t<1\/65536<t then 1 else if Pv l=true then 21 else 0
def iH(t)(l:List Nc)(f:l.length<1048576):QI prog 135 [Qa t,KV l] (QN (Qa (XM t l))):=by
 have a:=Qyg [] l f (.raw (.func (.func 173) ⟨[]⟩ ⟨[]⟩)) 173 0 [] Qtr rfl (λc=>c.of==0) (λi c _=>Qyh i c);rw[show (l.any λc=>c.of==0)=Pv l from rfl]at a;refine QY 0 func135 ntmps135 results135 λe w b=>?_;simp only[go_sem]
 repeat' (first|((first|refine zg (λh=>?_) (λh=>?_)|refine zj (λh=>?_) (λh=>?_)|refine zk (λh=>?_) (λh=>?_)|refine VV (λh=>?_) (λh=>?_)|refine zl (λh=>?_) (λh=>?_)|refine zn (λh=>?_) (λh=>?_)|refine zo (λh=>?_) (λh=>?_)|refine ze (λh=>?_) (λh=>?_))<;>(try simp only[go_sem,Go.undef]))|(refine And.intro δ ?_;try simp only[go_sem,Go.undef])|(refine XI b Qtq rfl ?_ (a) rfl ?_;(· simp only[go_sem]);intro d g;subst g;apply Qh b;simp only[go_sem])|fail)
 all_goals (congr 2;unfold XM;simp_all;try omega)
end Go.Fg.X
namespace Go.Fg.X
open Go.Proofs Go.Fg
open Go.RowKit (Below)
open Go.Proofs.Tryz
def Zh.nil{Z}{a}{w}:Zh Z a [] [] w:=⟨rfl,λl f b q d c g=>by simp at c,λl o e=>by simp at e,λl o b q e=>by simp at e⟩
def Qyi{P}{f}{c}{R}(s:D)(J:s.upto 0=true)
  (M:∀d r,R d r->∃g j n a,r=[⟨.arr,g,j,n,a⟩]/\(∀i,i<n->(a i).all D.XV=true)/\JC 6 (D.fz 0 g n j a d) s) (h:QI P f c R):QI P f c (QN s):=by
 intro Z m w F E U C B K N;have Y:F=[]:=by have:=B.len;simpa using this
 subst Y;refine(h Z m w [] E U C B K N).mono λe w' L=>?_;obtain⟨v,d,r,t,rfl,Q,z,O,y,S⟩:=L;obtain⟨g,j,n,a,rfl,W,u⟩:=M _ _ Q;have k:t.length=1:=by have:=z.len;simpa using this
 obtain⟨p,rfl⟩:∃p,t=[p]:=by
  match t,k with
  | [p],_=>exact⟨p,rfl⟩
 have B6:=O.fz (l:=0) (o:=⟨.arr,g,j,n,a⟩) (p:=p) rfl rfl rfl (λb q e=>by
  subst e;refine⟨C b ?_,λI q' V=>?_,(z.at_ 0 _ b q rfl rfl).2.cells rfl⟩;rcases wU b w.heap.size with Qb|WS;exact absurd rfl ((y.JU b (λi q e=>by simp at e) Qb).1 0 q);exact WS;have:=Wp V;simp at this;exact this) W (h':=[Ob.gone ⟨.arr,g,j,n,a⟩]) (λI H QC e=>by
  have:=KA e;simp at this;exact absurd this QC)
 have T:=(kP 6 u B6).take J;exact⟨v,_,[],[],rfl,⟨rfl,rfl⟩,Zh.nil,T,⟨λb x Qb=>⟨x,(y.JU b x Qb).2⟩,λl o p e=>by simp at e,λl o H b q e=>by simp at e⟩,S⟩
def Qyj{P}{f}{j}{R}(r:D)(C:r.upto 0=true)
  (T:∀d u,R d u->JC 6 d r\/∃c g m n a,u[c]?=some ⟨.arr,g,m,n,a⟩/\(∀i,i<n->(a i).all D.XV=true)/\JC 6 (D.fz c g n m a d) r) (h:QI P f j R):QI P f j (QN r):=by
 intro Z s w N M Y J I Q U;have Ze:N=[]:=by have:=I.len;simpa using this
 subst Ze;refine(h Z s w [] M Y J I Q U).mono λe L S=>?_;obtain⟨v,d,u,K,rfl,V,x,F,H,W⟩:=S;suffices z:QD Z [] [] L r v by
  exact⟨v,_,[],[],rfl,⟨rfl,rfl⟩,Zh.nil,z,⟨λb E Qb=>⟨E,(H.JU b E Qb).2⟩,λl o p e=>by simp at e,λl o B b q e=>by simp at e⟩,W⟩
 rcases T _ _ V with k|⟨c,g,m,n,a,y,Zs,k⟩;exact(kP 6 k F).take C;have Qb:c<K.length:=by rw[x.len];exact(W3.1 y).1
 obtain⟨p,t⟩:∃p,K[c]?=some p:=⟨_,QJ Qb⟩;have B6:=F.fz (l:=c) (o:=⟨.arr,g,m,n,a⟩) (p:=p) y t rfl (λb q e=>by
  subst e;refine⟨J b ?_,λO q' e'=>?_,(x.at_ c _ b q y t).2.cells rfl⟩;rcases wU b w.heap.size with Qb|WS;exact absurd t ((H.JU b (λi q e=>by simp at e) Qb).1 c q);exact WS;exact x.inj _ _ _ _ _ e' t) Zs (h':=u.set c (Ob.gone ⟨.arr,g,m,n,a⟩)) (λO B QC e=>by
  exact⟨B,by rw[JG (Q8 QC)];exact e,rfl,rfl,rfl⟩)
 exact(kP 6 k B6).take C
end Go.Fg.X
namespace Go.Fg
def Kd.Qiz(k:Kd):k.Lc k:=by cases k<;>simp[Kd.Lc,Kd.ty]
def QiA(o):N4 o o:=⟨rfl,rfl,rfl,Kd.Qiz _,λ_ _=>rfl⟩
def QiB:∀h:List Ob,BD h h
 | []=>trivial
 | o::r=>⟨QiA o,QiB r⟩
def QiC:∀{h:List Ob} {l:Nat} {o:Ob} (a:Nat->List D),h[l]?=some o->(∀i,i<o.n->o.row i=a i)->BD h (h.set l ⟨o.kd,o.gen,o.sz,o.n,a⟩)
 | [],l,o,a,e,_=>by simp at e
 | x::r,0,o,a,e,b=>by
  simp only[List.getElem?_cons_zero,Q5]at e;subst e;exact⟨⟨rfl,rfl,rfl,Kd.Qiz _,λi c=>(b i c).symm⟩,QiB r⟩
 | x::r,l+1,o,a,e,b=>⟨QiA x,QiC (h:=r) a (by simpa using e) b⟩
def Qo.rows{c}{b}{h:List Ob}(l){o:Ob}(a)(d:h[l]?=some o)(e:∀i,i<o.n->o.row i=a i):Qo c ⟨b,h⟩ ⟨b,h.set l ⟨o.kd,o.gen,o.sz,o.n,a⟩⟩:=(Wk.G0 (QiC a d e)).up
end Go.Fg
namespace Go.Fg.X
open Go.Proofs Go.Fg
open Go.Proofs.Tryz
def xM(c:Nc):Bool:=c.of==3 || c.of==4
def Xj(l:List Nc):List Int:=(l.filter xM).map λc=>(c.d:Int)
def Qyk(l:List Nc)(i)(h:i<l.length):Xj (l.take (i+1))=if xM (l.getD i default)=true then Xj (l.take i)++[((l.getD i default).d:Int)] else Xj (l.take i):=by
 unfold Xj;rw[zS,QJ h];simp only[Bi,Ih,QW,QJ h,KW,ju];by_cases a:xM l[i]=true;rw[Qd a,Ij a];rfl;rw[Qc a,Ii a];simp
def tY(l:List Nc)(i):(Xj (l.take i)).length<=i:=by
 have:=XS xM (l.take i);simp only[Xj,Kj];simp at this;omega
def jY(l:List Nc):Array Int:=Sort.sort Qt (Xj l).toArray
def WE(l:List Nc):List Int:=cN (λi=>(jY l)[i]!) (jY l).size
def tZ(l:List Nc):(jY l).size=(Xj l).length:=by
 unfold jY Sort.sort;rw[Hz _ _ _ _ _ _ _ (QB _)];rfl
def Qyl(l:List Nc):(jY l).toList.Perm (Xj l):=by
 have h:=(Sort.sort_sorts Qt Qio (Xj l).toArray).1.2.2;have a:((Sort.sort Qt (Xj l).toArray).extract 0 (Xj l).toArray.size).toList=(jY l).toList:=by
  have:=tZ l;unfold jY at this ⊢;rw[show (Xj l).toArray.size=(Sort.sort Qt (Xj l).toArray).size from this.symm];simp
 rw[a]at h;simpa using h
def QiD(l)(x):x∈WE l↔∃c,c∈l/\xM c=true/\(c.d:Int)=x:=by
 unfold WE;rw[tW];have d:(∃i,i<(jY l).size/\(jY l)[i]! = x)↔x∈(jY l).toList:=by
  rw[aV];constructor;rintro⟨i,a,e⟩;exact⟨i,by simpa using a,by rw[<- e,Ns,x5,jr a];simp⟩;rintro⟨i,a,e⟩;have b:i<(jY l).size:=by simpa using a
  exact⟨i,b,by rw[<- e,Ns,x5,jr b];simp⟩
 rw[d,(Qyl l).mem_iff];simp[Xj,and_assoc]
@[go_sem] def yI(K:List Int):D:=.imm 1 K.length λi=>[uI (K.getD i 0)]
def Qym{M:List Int}{a}(c:VJ (λn:Int=>[uI n]) M 0 a):∀i,i<M.length->a i=Ch M.toArray i:=λi b=>by
 have:=c.at_ i b;rw[Jz]at this;rw[this];unfold Ch;simp[QW,b]
def Qyn(l:List Nc)(S:l.length<1048576):QI prog 175 [KV l] (QN (yI (WE l))):=by
 refine Qyj (yI (WE l)) rfl (?_:∀d F,(∃g n b,d=.ref 0 g 0 (WE l).length/\F=[⟨.arr,g,1,n,b⟩]/\(∀i,i<n->(b i).all D.XV=true)/\(WE l).length<=n/\∀i,i<(WE l).length->b i=[uI ((WE l).getD i 0)])->_) ?_;rintro d F ⟨g,n,b,rfl,rfl,B,O,ZW⟩;right;refine⟨0,g,1,n,b,rfl,B,?_⟩;have Q:D.fz 0 g n 1 b (.ref 0 g 0 (WE l).length)=.imm 1 (WE l).length (rowFrom 0 b):=by simp[D.fz,EU,O]
 rw[Q];simp only[yI];rw[SK];refine⟨rfl,rfl,λi k=>?_⟩;rw[G7,Jz,ZW i k];exact vW (zx _) _;refine QY 1 func175 ntmps175 results175 λL w f=>?_;simp only[go_sem];refine ZN (λi s=>∃g b,VJ (λn:Int=>[uI n]) (Xj (l.take i)) 0 b/\s=⟨[(3,.ref 0 g 0 (Xj (l.take i)).length),(7,KV l),(8,Qa l.length),(9,Qa i)],[⟨.arr,g,1,(Xj (l.take i)).length,b⟩]⟩) l.length
  (s0:=⟨[(3,.ref 0 0 0 0),(7,KV l),(8,Qa l.length),(9,Qa 0)],[⟨.arr,0,1,0,λ_=>[]⟩]⟩)
  (Qo.trans (Qo.jw 3 1 (λi=>[]) rfl) QO) ⟨0,λ_=>[],.nil,rfl⟩ ?_
 rintro i s k ⟨g,b,o,rfl⟩;have B:=tY l i;have C:=Jr (show i<4611686018427387904 from ω);apply Qg f;first|refine We k (λq=>?_) (λq=>?_)|refine Wf k (λq=>?_) (λq=>?_)
 obtain⟨M,I⟩:∃M,M=Xj (l.take i):=⟨_,rfl⟩;obtain⟨e,H⟩:∃e,e=l.getD i default:=⟨_,rfl⟩;have c:=Qyk l i q;rw[<- I,<- H]at c;rw[<- I]at o B ⊢;have J:M.length<=4294967295:=ω;have u:VJ (λn:Int=>[uI n]) (M++[(e.d:Int)]) 0 (JO M.length 0 b λ_=>[uI e.d]):=o.app (e.d:Int) rfl;simp only[go_sem,q,<- H];apply QV f E0 (TP e.a e.d e.b);apply Qg f;cases z:Kf e.a e.d e.b==3;cases r:Kf e.a e.d e.b==4;have f:xM e=false:=by show (Kf e.a e.d e.b==3 || Kf e.a e.d e.b==4)=false;rw[z,r];rfl
 rw[f,Qc π]at c;simp only[go_sem,r];repeat (refine And.intro ω ?_)
 refine⟨_,Qo.to 1 ⟨?_,by simp only[go_sem],?_,?_⟩,g,b,by rw[c];exact o,rfl⟩;simp only[go_sem,C,c];exact⟨λj p=>o.upto (λa=>rfl) j (by have m:=p;simp only[c]at m;simpa using m),trivial⟩;simp only[go_sem,c];have f:xM e=true:=by show (Kf e.a e.d e.b==3 || Kf e.a e.d e.b==4)=true;rw[z,r];rfl
 rw[f,Qd rfl]at c;simp only[go_sem,r,J];repeat (refine And.intro ω ?_)
 refine⟨_,Qo.to 1 ⟨?_,by simp only[go_sem],?_,?_⟩,g+1,_,by rw[c];exact u,rfl⟩;simp only[go_sem,C,c,Zk,Kr];exact⟨λj p=>u.upto (λa=>rfl) j (by have m:=p;simp only[c]at m;simpa using m),trivial⟩;simp only[go_sem,c,Zk,Kr];have f:xM e=true:=by show (Kf e.a e.d e.b==3 || Kf e.a e.d e.b==4)=true;rw[z];rfl
 rw[f,Qd rfl]at c;simp only[go_sem,Go.undef,J];repeat (refine And.intro ω ?_)
 refine⟨_,Qo.to 1 ⟨?_,by simp only[go_sem],?_,?_⟩,g+1,_,by rw[c];exact u,rfl⟩;simp only[go_sem,C,c,Zk,Kr];exact⟨λj p=>u.upto (λa=>rfl) j (by have m:=p;simp only[c]at m;simpa using m),trivial⟩;simp only[go_sem,c,Zk,Kr];have P:i=l.length:=ω;subst P;rw[Wn]at o ⊢;have R:(Xj l).toArray.size=(Xj l).length:=rfl;have T:(Xj l).length<=l.length:=by have:=tY l l.length;rw[Wn]at this;exact this
 have v:=tZ l;have U:=Pu (λi=>(jY l)[i]!) (jY l).size;apply Qg f;refine G4 (Qo.rows 0 (Ch (Xj l).toArray) (by exact rfl) ?_) ?_;intro i k;dsimp only at k ⊢;exact Qym o i k;simp only[go_sem];refine zy f QtI rfl ?_ (Qx8 (h:=[Zd g (Xj l).toArray]) (lo:=0) (g:=g) (d:=(Xj l).toArray) rfl (by rw[R];omega)) rfl λd h y=>?_;simp only[go_sem,Gv];obtain⟨rfl,t,rfl⟩:=y;apply Qh f;simp only[go_sem,Gv];refine ZL f QtJ (v▸Qya (h:=[Zd g (Xj l).toArray].set 0 (Zd g (jY l))++t) (lo:=0) (g:=g) (d:=jY l) rfl ω) λd h y=>?_;obtain⟨rfl,N,rfl,E,K⟩:=y;apply Qg f;refine⟨λi k=>?_,g,(Xj l).length,N,?_,rfl,λi k=>?_,?_,?_⟩;obtain⟨x,hx⟩:=K i;rw[hx];rfl;unfold WE;rw[v];obtain⟨x,hx⟩:=K i;rw[hx];rfl;unfold WE;omega;intro i k;have:=E i (by unfold WE at k;rw[v]at k;exact k);rw[this];unfold WE;rw[v];rfl
def Qyp(F:List Ob)(f a:Nat)(b:List D)(K:List Int)(g:Int->Bool):Prop:=∀(h:List Ob) (x:Int),x∈K->VG F h->Zf prog f h (Z5 a b [uI x]) (λd=>d=QU (g x))
def wx(g:Int->Bool)(l:List Int):Int:=match l.findIdx? g with
 | some i=>i
 | none=>-1
def QiE{g}{l:List Int}{k}(a:k<l.length)(h:∀i,i<k->g (l.getD i 0)=false)(c:g (l.getD k 0)=true):wx g l=k:=by
 have e:l.findIdx? g=some k:=by
  rw[CM];refine⟨a,by simpa[QW,a] using c,λi b=>?_⟩;have:=h i b;simpa[QW,show i<l.length by omega] using this
 rw[wx,e]
def QiF{g}{l:List Int}(h:∀i,i<l.length->g (l.getD i 0)=false):wx g l=-1:=by
 have e:l.findIdx? g=none:=by
  rw[Ej];intro x hx;obtain⟨i,a,rfl⟩:=vH hx;have:=h i a;simpa[QW,a] using this
 rw[wx,e]
def QiG(g)(l:List Int):decide (0<=wx g l)=l.any g:=by
 unfold wx;cases h:l.findIdx? g with
 | some i=>
  obtain⟨b,a,_⟩:=CM.1 h;have e:l.any g=true:=vG.2 ⟨_,Xn b,a⟩;rw[e];simp
 | none=>
  have:=Ej.1 h;have e:l.any g=false:=by rw[aP];intro x hx;simp[this x hx]
  rw[e];decide
def Qyq{g}{l:List Int}(h:0<=wx g l):(wx g l).toNat<l.length:=by
 unfold wx at h ⊢;cases e:l.findIdx? g with
 | some i=>obtain⟨a,_⟩:=CM.1 e;simpa using a
 | none=>rw[e]at h;simp at h
def ua{l:List Int}{i}(h:i<l.length):l.getD i 0∈l:=by
 rw[QW,QJ h];exact Xn h
section
variable (h:List Ob)(K:List Int)(hlen:K.length<1048576)
include hlen
theorem Qyr(b:D)(f j:Nat)(o:List D)(r:Qm prog f)(x:JB b=some (f,j,o))(e:Int->Bool)(q:Qyp (h.map Ob.ro) f j o K e):
  Zf prog 176 h [yI K,b] (λd=>d=Qa (wx e K)):=by
 refine ZH func176 ntmps176 results176 λp w z F u B c=>?_;simp only[go_sem];refine ZN (λk s=>(∀i,i<k->e (K.getD i 0)=false)/\s=⟨[(0,yI K),(1,b),(7,Qa K.length),(8,Qa k)],F⟩) K.length QO ⟨λi n=>absurd n ω,rfl⟩ ?_;rintro k s m ⟨g,rfl⟩;apply Qg c;have y:=Jr (show k<4611686018427387904 from ω);first|refine We m (λa=>?_) (λa=>?_)|refine Wf m (λa=>?_) (λa=>?_)
 simp only[go_sem,a];refine XI c r x ?_ (q F (K.getD k 0) (ua a) (by rw[<- u];exact VG.refl F)) rfl λd2 t=>?_;simp only[go_sem];exact Dt _;subst t;apply Qh c;cases l:e (K.getD k 0);simp only[go_sem];refine⟨a,_,Qo.frame (fr':=[(0,yI K),(1,b),(7,Qa K.length),(8,Qa (k+1:Nat))]) (by simp only[go_sem,y]),λi n=>?_,rfl⟩;by_cases v:i<k;exact g i v;have:i=k:=ω;subst this;exact l;rw[QiE a g l];simp only[go_sem];exact⟨[],(JS F).symm⟩;have a:k=K.length:=ω;subst a;simp only[go_sem,Gx];rw[QiF g];apply Qg c;exact⟨[],(JS F).symm⟩
end
def Qys(l:List Nc):(WE l).length<=l.length:=by
 have c:=Pu (λi=>(jY l)[i]!) (jY l).size;have b:=tZ l;have a:=tY l l.length;rw[Wn]at a;unfold WE;omega
def QiH{l}{x}(b:x∈WE l):∃n:Nat,x=(n:Int)/\0<n/\n<=1048576:=by
 obtain⟨c,e,a,d⟩:=(QiD l x).1 b;refine⟨c.d,d.symm,?_⟩;unfold xM Nc.of Kf at a;simp only[Bf,qX]at a
 repeat' split at a
 all_goals first|omega|(exfalso;revert a;decide)|skip
def FM(l:List Nc)(k:Nat):Nat:=jS (λc=>KJ c.a c.d c.b k) l
def zF(t:Nat)(l:List Nc)(x:Int):Bool:=decide (65536*x.toNat<FM l x.toNat*t)
def QiI{l:List Nc}(f:l.length<1048576)(a:∀c∈l,c.Lt){k}(i:k<=1048576):FM l k<2^111:=by
 have m:=Pe (g:=λc=>KJ c.a c.d c.b k) (M:=2^60) (λc h=>by
  show KJ c.a c.d c.b k<=_;unfold KJ;split;decide;rename_i b;obtain⟨e,d,p⟩:=gO b;have o:c.a*min k c.d<=4294967295*1048576:=Yb e ω;have n:c.b*(k-min k c.d)<=4294967295*1048576:=Yb d ω;omega) (l:=l) (s:=0) a
 have j:=XC (2^60) (show l.length<=1048576 from ω);unfold FM jS;omega
def Px(t:Nat)(l:List Nc):Bool:=decide (65536<jS (λc=>c.b) l*t)
def Uj(t:Nat)(l:List Nc):Bool:=(WE l).any (zF t l) || Px t l
def ub(t:Nat)(l:List Nc):D:=if (WE l).any (zF t l)=true then .tup [uI ((WE l).getD (wx (zF t l) (WE l)).toNat 0),QU true] else .tup [u64 0,QU (Px t l)]
def QiJ{l:List Nc}(b:l.length<1048576)(a:∀c∈l,c.Lt):jS (λc=>c.b) l<2^111:=by
 have e:=Pe (g:=λc=>c.b) (M:=2^64) (λc h=>by have:=h.2.2;omega) (l:=l) (s:=0) a;have d:=XC (2^64) (show l.length<=1048576 from ω);unfold jS;omega
def Qyt(h:List Ob)(t:Nat)(l:List Nc)(f:l.length<1048576)(g:∀c∈l,c.Lt)(m:t<=65536)(j i:Nat)(e:(h.map Ob.ro)[j]?=some ⟨.Wb,0,1,1,λ_=>[KV l]⟩)(b:(h.map Ob.ro)[i]?=some ⟨.Wb,0,1,1,λ_=>[Qa t]⟩)(n:Nat)(p:n<=1048576):
  Zf prog 177 h [uI n,.ptr j 0 0 0,.ptr i 0 0 0] (λd=>d=QU (zF t l n)):=by
 have o:QI prog 179 [KV l,u64 n] (QN (num (FM l n))):=QwM l n ω f g;have q:=Qhz (FM l n) t n (QiI f g p) m ω;refine ZH func177 ntmps177 results177 λk w u F r v a=>?_;rw[<- r]at e b;have x:=Qb e;have s:=Qb b;simp only[go_sem];apply Qv a [0,1,3,4,1002,1005,6];simp only[go_sem,e,b];apply ZD a Qtv o;apply Zp a;apply ZD a Qfq q;apply Zp a;exact⟨[],(JS F).symm,rfl⟩
def Qyu(t:Nat)(l:List Nc)(e:l.length<1048576)(g:∀c∈l,c.Lt)(f:XM t l=0):QI prog 136 [Qa t,KV l] (QN (ub t l)):=by
 have o:t<=65536:=by unfold XM at f;split at f;cases f;omega
 have y:=Qhz (jS (λc=>c.b) l) t 1 (QiJ e g) o π;have v:(XM t l != 0)=false:=by rw[f];rfl
 have F:=Qys l;refine QY 0 func136 ntmps136 results136 λq w a=>?_;simp only[go_sem];apply QV a fq (iH t l e);apply Qh a;simp only[go_sem,v];refine Wy a [] Qts rfl ?_ (Qyn l e) rfl λd h i=>?_;simp only[go_sem];obtain⟨rfl,rfl⟩:=i;simp only[go_sem];apply Qg a;have u:=Qyr [⟨.one,0,1,1,λ_=>[Qa t]⟩,⟨.one,0,1,1,λ_=>[KV l]⟩] (WE l) ω (.clo 177 0 [.ptr 1 0 0 0,.ptr 0 0 0 0]) 177 0 [.ptr 1 0 0 0,.ptr 0 0 0 0] Qtu rfl (zF t l) (λC x hx m=>by
  obtain⟨n,rfl,B,z⟩:=QiH hx;obtain⟨E,rfl⟩:=m;exact Qyt _ t l e g o 1 0 rfl rfl n z)
 refine XI a Qtt rfl ?_ u rfl λd2 i=>?_;simp only[go_sem];try exact Dt _
 subst i;have b:=QiG (zF t l) (WE l);unfold ub;cases p:(WE l).any (zF t l);rw[p]at b;rw[Qc π];apply Qh a;simp only[go_sem,b];apply Qv a [0,2,1001,1003,4,5];simp only[go_sem];apply ZD a Qtw (QwK l e g);apply Zp a;apply ZD a Qfq y;apply Zp a;rfl;rw[p]at b;rw[Qd rfl];have s:0<=wx (zF t l) (WE l):=qZ b;have k:=Qyq s;obtain⟨j,r⟩:∃j:Nat,wx (zF t l) (WE l)=(j:Int):=⟨(wx (zF t l) (WE l)).toNat,ω⟩;rw[r]at b k ⊢;rw[Int.toNat_natCast]at k;apply Qh a;simp only[go_sem,k];first|rfl|exact⟨rfl,rfl⟩|trace_state
def vq(t:Int)(l:List Nc):Int:=if XM t l≠0 then XM t l else if Uj t.toNat l=true then 22 else 0
def Qyw(t)(l:List Nc)(g:l.length<1048576)(k:∀c∈l,c.Lt):QI prog 97 [Qa t,KV l] (QN (Qa (vq t l))):=by
 by_cases b:XM t l=0;have j:∃n:Nat,t=(n:Int):=⟨t.toNat,by unfold XM at b;split at b;cases b;omega⟩;obtain⟨n,rfl⟩:=j;have h:(XM n l != 0)=false:=by rw[b];rfl
 have e:vq n l=if Uj n l=true then 22 else 0:=by rw[vq,Qc (by simpa using b)];rfl
 rw[e];have f:=Qyu n l g k b;unfold ub at f;unfold Uj;cases i:(WE l).any (zF n l);rw[i,Qc π]at f;rw[Gn];refine QY 0 func97 ntmps97 results97 λd w a=>?_;simp only[go_sem];apply QV a fq (iH n l g);apply Qh a;simp only[go_sem,h];apply QV a Qfk f;apply Qg a;cases Px n l;simp only[go_sem];simp only[go_sem];rw[i,Qd rfl]at f;rw[RD,Qd rfl];refine QY 0 func97 ntmps97 results97 λd w a=>?_;simp only[go_sem];apply QV a fq (iH n l g);apply Qh a;simp only[go_sem,h];apply QV a Qfk f;exact VE a;have h:(XM t l != 0)=true:=by simpa using b
 have e:vq t l=XM t l:=by rw[vq,Qd b]
 rw[e];refine QY 0 func97 ntmps97 results97 λd w a=>?_;simp only[go_sem];apply QV a fq (iH t l g);apply Qh a;simp only[go_sem,h]
def Wh(x:Int)(s:List Int × Bool)(d:Int):List Int × Bool:=
 if s.2=false/\x<=d then (if d=x then (s.1++[x],true) else (s.1++[x]++[d],true)) else (if d=x then s else (s.1++[d],s.2))
def XN(x:Int)(s:List Int × Bool):List Int:=if s.2=true then s.1 else s.1++[x]
def HA(x:Int)(M:List Int):List Int:=XN x (M.foldl (Wh x) ([],false))
def Qyx{x}{s:List Int × Bool}(h:s.2=true->x∈s.1)(d:Int):((Wh x s d).2=true->x∈(Wh x s d).1)/\(∀y,y∈XN x (Wh x s d)↔y∈XN x s\/y=d)/\(XN x (Wh x s d)).length<=(XN x s).length+1:=by
 obtain⟨m,p⟩:=s;cases p;by_cases c:x<=d;by_cases a:d=x;subst a;refine⟨λ_=>?_,λy=>?_,?_⟩<;>simp[Wh,XN];refine⟨λ_=>?_,λy=>?_,?_⟩<;>simp[Wh,XN,c,a,or_assoc];have a:d≠x:=ω;refine⟨λb=>?_,λy=>?_,?_⟩;simp[Wh,c,a]at b;simp only[Wh,XN,c,a,and_false,qY,qu,Q1,Yx,or_assoc];exact or_congr_right (Or.comm);simp[Wh,XN,c,a];have b:=h rfl;by_cases a:d=x;subst a;refine⟨λ_=>?_,λy=>?_,?_⟩;simpa[Wh] using b;simp only[Wh,XN,Bool.true_eq_false,false_and,qY,Vu];exact⟨λh=>.inl h,λh=>h.elim id λe=>e▸b⟩;simp[Wh,XN];refine⟨λ_=>?_,λy=>?_,?_⟩;simp only[Wh,Bool.true_eq_false,false_and,qY,a];exact Gu _ b;simp[Wh,XN,a];simp[Wh,XN,a]
def iI{x}:∀{M:List Int} {s:List Int × Bool},(s.2=true->x∈s.1)->(∀y,y∈XN x (M.foldl (Wh x) s)↔y∈XN x s\/y∈M)/\(XN x (M.foldl (Wh x) s)).length<=(XN x s).length+M.length
 | [],s,_=>σ
 | d::M,s,h=>by
  obtain⟨c,b,f⟩:=Qyx h d;obtain⟨a,e⟩:=iI (M:=M) c;refine⟨λy=>?_,?_⟩;rw[jt,a,b,QK,or_assoc];rw[jt,Kw];omega
def Qyy(x)(M)(y):y∈HA x M↔y=x\/y∈M:=by
 have:=(iI (x:=x) (M:=M) (s:=([],false)) (λh=>by cases h)).1 y;unfold HA;rw[this];simp[XN]
def Qyz(x)(M:List Int):(HA x M).length<=M.length+1:=by
 have:=(iI (x:=x) (M:=M) (s:=([],false)) (λh=>by cases h)).2;unfold HA;simp[XN]at this ⊢;omega
def QyA(x)(s:List Int × Bool):s.1.length<=(XN x s).length:=by
 unfold XN;split<;>simp
def QyB(x)(M:List Int):(M.foldl (Wh x) ([],false)).1.length<=M.length+1:=by
 have b:=(iI (x:=x) (M:=M) (s:=([],false)) (λh=>by cases h)).2;have a:=QyA x (M.foldl (Wh x) ([],false));simp[XN]at b a ⊢;omega
def WX(l:List Nc):List Int:=l.foldl (λM c=>if c.of<3 then M else HA c.d M) []
def uc(l:List Nc){i}(a:i<l.length):WX (l.take (i+1))=if (l.getD i default).of<3 then WX (l.take i) else HA (l.getD i default).d (WX (l.take i)):=by
 unfold WX;rw[zS,QJ a,Bi,zQ,QW,QJ a];rfl
def QyC(c:Nc):xM c=decide (¬ c.of<3):=by
 unfold xM;rcases Qhp c.a c.d c.b with h|h|h|h|h<;>(have a:c.of=_:=h;rw[a];decide)
def QiK(l:List Nc)(x):∀i,i<=l.length->(x∈WX (l.take i)↔∃c,c∈l.take i/\xM c=true/\(c.d:Int)=x)
 | 0,_=>by simp[WX]
 | i+1,h=>by
  have j:i<l.length:=ω;have m:=QiK l x i ω;have e:l.take (i+1)=l.take i++[l.getD i default]:=by
   rw[zS,QJ j,QW,QJ j];rfl
  rw[uc l j,e];obtain⟨c,o⟩:∃c,c=l.getD i default:=⟨_,rfl⟩;rw[<- o];have n:=QyC c;by_cases g:c.of<3;rw[Qd g,m];have k:xM c=false:=by rw[n];simp[g]
  constructor;rintro⟨e,d,a⟩;exact⟨e,Gu _ d,a⟩;rintro⟨e,d,a,f⟩;rcases Q1.1 d with b|b;exact⟨e,b,a,f⟩;rw[Yx.1 b,k]at a;cases a;rw[Qc g,Qyy,m];have k:xM c=true:=by rw[n];simp[g]
  constructor;rintro (rfl|⟨e,d,a⟩);exact⟨c,σ,k,rfl⟩;exact⟨e,Gu _ d,a⟩;rintro⟨e,d,a,f⟩;rcases Q1.1 d with b|b;exact .inr ⟨e,b,a,f⟩;left;rw[Yx.1 b]at f;exact f.symm
def QiL(l)(x):x∈WX l↔x∈WE l:=by
 have:=QiK l x l.length (QB _);rw[Wn]at this;rw[this,QiD]
def ud(l:List Nc):∀i,i<=l.length->(WX (l.take i)).length<=i
 | 0,_=>by simp[WX]
 | i+1,h=>by
  have a:=ud l i ω;rw[uc l ω];split;omega;have:=Qyz (l.getD i default).d (WX (l.take i));omega
def YM(x:Int)(M:List Int)(j:Nat):List Int × Bool:=(M.take j).foldl (Wh x) ([],false)
def QyD(x)(M:List Int){j}(a:j<M.length):YM x M (j+1)=Wh x (YM x M j) (M.getD j 0):=by
 unfold YM;rw[zS,QJ a,Bi,zQ,QW,QJ a];rfl
def QyE(x)(M)(j:Nat):(YM x M j).1.length<=j+1:=by
 have b:=QyB x (M.take j);have a:(M.take j).length<=j:=ξ;unfold YM;omega
@[go_sem] def Py(n:Nat):Ob:=⟨.one,0,4,1,λ_=>[u64 (d0 n),u64 (d1 n),u64 (d2 n),u64 (d3 n)]⟩
def QiM(g)(l:List Nc){i:Nat}(a:i<l.length):(l.take (i+1)).foldl (Xv g) 0=Xv g ((l.take i).foldl (Xv g) 0) (l.getD i default):=by
 rw[zS,QJ a,Bi,zQ,QW,QJ a];rfl
def QyF(l:List Nc)(t)(m:t<18446744073709551616)(F:l.length<1048576)(o:∀c∈l,c.Lt):QI prog 90 [KV l,u64 t] (QN (dg (jS (λc=>KJ c.a c.d c.b t) l))):=by
 obtain⟨g,f⟩:∃g:Nc->Nat,g=λc=>KJ c.a c.d c.b t:=⟨_,rfl⟩;have q:∀c:Nc,c.Lt->g c<=2^97:=λc _=>by rw[f];have:=sP c.a c.d c.b t m;dsimp only;omega
 rw[<- f];refine QY 0 func90 ntmps90 results90 λr w b=>?_;simp only[go_sem];refine ZN (λi s=>s=⟨[(1,u64 t),(4,.ptr 0 0 0 0),(5,.ptr 1 0 0 0),(9,KV l),(10,Qa l.length),(11,Qa i)],[Py 0,Py ((l.take i).foldl (Xv g) 0)]⟩) l.length (s0:=⟨[(1,u64 t),(4,.ptr 0 0 0 0),(5,.ptr 1 0 0 0),(9,KV l),(10,Qa l.length),(11,Qa 0)],[⟨.one,0,4,1,λ_=>[u64 0,u64 0,u64 0,u64 0]⟩,⟨.one,0,4,1,λ_=>[u64 0,u64 0,u64 0,u64 0]⟩]⟩) (Qo.to 2 (by (simp only[go_sem])<;>simp)) (by simp[Py,TL,TM,TN,TO]) ?_;rintro i s n rfl;have B:=Jr (show i<4611686018427387904 from ω);obtain⟨S,d⟩:∃S,S=(l.take i).foldl (Xv g) 0:=⟨_,rfl⟩;have J:S<=2^117:=by
  have I:=Pe q (l:=l.take i) (s:=0) λx hx=>o x (aW hx);have u:(l.take i).length<=1048576:=ξ;have H:=XC (2^97) u;rw[d];omega
 rw[<- d];apply Qg b;first|refine We n (λa=>?_) (λa=>?_)|refine Wf n (λa=>?_) (λa=>?_)
 obtain⟨c,h⟩:∃c,c=l.getD i default:=⟨_,rfl⟩;have y:c.Lt:=o c (by rw[h,QW,QJ a];exact Xn a);have p:=QiM g l a;rw[<- d,<- h]at p;have k:=q c y;have j:=Qhq c.a c.d c.b t m;have z:Xv g S c=S+KJ c.a c.d c.b t:=by
  unfold Xv;rw[f];split;rename_i v;have:KJ c.a c.d c.b t=0:=by unfold KJ;exact Qd v
  omega;rfl
 have E:KJ c.a c.d c.b t<=2^97:=by rw[f]at k;exact k
 have C:=Cb S (KJ c.a c.d c.b t) ω ω;simp only[go_sem,a,<- h];apply Qv b [0,1,2,1003,1004,1005];simp only[go_sem];apply ZD b Qe7 j;apply Zp b;apply ZD b BU C;apply Zp b;refine⟨a,_,?_,rfl⟩;rw[p,z];exact Qo.to 2 (by (simp only[go_sem,B])<;>simp);subst a;rw[Wn]at d;have e:jS g l=S:=d.symm;rw[e];exact VE b
def QyH(l:List Nc)(C:l.length<1048576)(p:∀c∈l,c.Lt):QI prog 91 [KV l,QU false] (QN (dg (jS (λc=>c.b) l))):=by
 refine QY 0 func91 ntmps91 results91 λt w b=>?_;simp only[go_sem];refine ZN (λi s=>s=⟨[(1,QU false),(4,.ptr 0 0 0 0),(5,.ptr 1 0 0 0),(10,KV l),(11,Qa l.length),(12,Qa i)],[Py 0,Py ((l.take i).foldl (Xv (λc=>c.b)) 0)]⟩) l.length (s0:=⟨[(1,QU false),(4,.ptr 0 0 0 0),(5,.ptr 1 0 0 0),(10,KV l),(11,Qa l.length),(12,Qa 0)],[⟨.one,0,4,1,λ_=>[u64 0,u64 0,u64 0,u64 0]⟩,⟨.one,0,4,1,λ_=>[u64 0,u64 0,u64 0,u64 0]⟩]⟩) (Qo.to 2 (by (simp only[go_sem])<;>simp)) (by simp[Py,TL,TM,TN,TO]) ?_;rintro i s o rfl;have r:=Jr (show i<4611686018427387904 from ω);obtain⟨S,d⟩:∃S,S=(l.take i).foldl (Xv (λc=>c.b)) 0:=⟨_,rfl⟩;have B:∀c:Nc,c.Lt->c.b<=2^97:=λc h=>by have:=h.2.2;omega
 have F:S<=2^117:=by
  have v:=Pe (g:=λc=>c.b) B (l:=l.take i) (s:=0) λx hx=>p x (aW hx);have u:(l.take i).length<=1048576:=ξ;have E:=XC (2^97) u;rw[<- d]at v;omega
 rw[<- d];apply Qg b;first|refine We o (λa=>?_) (λa=>?_)|refine Wf o (λa=>?_) (λa=>?_)
 obtain⟨c,n⟩:∃c,c=l.getD i default:=⟨_,rfl⟩;have q:c.Lt:=p c (by rw[n,QW,QJ a];exact Xn a);have m:=QiM (λc=>c.b) l a;rw[<- d,<- n]at m;have y:=Ca c.b q.2.2;have z:=Cb S c.b ω (by have:=q.2.2;omega);simp only[go_sem,a,<- n];apply QV b xo (gN c.a c.d c.b);apply Qg b;by_cases f:Kf c.a c.d c.b=0;have k:Xv (λc=>c.b) S c=S:=by unfold Xv;exact Qd f
 have j:(Kf c.a c.d c.b != 0)=false:=by rw[f];rfl
 simp only[go_sem,j];refine⟨a,_,?_,rfl⟩;rw[m,k];exact Qo.to 2 (by (simp only[go_sem,r])<;>simp);have k:Xv (λc=>c.b) S c=S+c.b:=by unfold Xv;exact Qc f
 have j:(Kf c.a c.d c.b != 0)=true:=by simpa using f
 simp only[go_sem,j];apply Qv b [0,1,1002,1003,1004];simp only[go_sem];apply ZD b BT y;apply Zp b;apply ZD b BU z;apply Zp b;refine⟨a,_,?_,rfl⟩;rw[m,k];exact Qo.to 2 (by (simp only[go_sem,r])<;>simp);subst a;rw[Wn]at d;have e:jS (λc=>c.b) l=S:=d.symm;rw[e];exact VE b
def QyI(n t:Nat)(H:n<2^111)(p:t<=65536):QI prog 126 [dg n,Qa t] (QN (dg (n*t))):=by
 obtain⟨c,b,q,rfl⟩:∃c b,b<18446744073709551616/\n=c*18446744073709551616+b:=⟨n/18446744073709551616,n%18446744073709551616,WM _ π,ω⟩;have v:c<140737488355328:=ω;have C:(c*18446744073709551616+b)/18446744073709551616=c:=ω;have z:(c*18446744073709551616+b)%18446744073709551616=b:=ω;obtain⟨A,g⟩:∃A,A=b*t:=⟨_,rfl⟩;obtain⟨B,f⟩:∃B,B=c*t:=⟨_,rfl⟩;have j:B<=9223372036854775808:=by rw[f];exact JY (Yb (Nat.le_of_lt v) p) π
 have F:A<=1208925819614629174706176:=by rw[g];exact JY (Yb (Nat.le_of_lt q) p) π
 have y:(c*18446744073709551616+b)*t=B*18446744073709551616+A:=by rw[g,f,VM,Is,Iu 18446744073709551616 t,<- Is]
 have e:=L7 (c*18446744073709551616+b) ω;have d:=gI (c*18446744073709551616+b) ω;have k:=Qhy t ω;have m:=Pb b t q ω;have l:=Pb c t ω ω;rw[<- g]at m;rw[<- f]at l;rw[C]at d;rw[z]at e;have o:=L7 B ω;rw[qW (by omega:B<18446744073709551616)]at o;have s:=Qwa B 0 ω π;have i:B*18446744073709551616<=9223372036854775808*18446744073709551616:=XC _ j;have h:9223372036854775808*18446744073709551616<2^128:=π;have E:B*18446744073709551616+0<2^128:=by rw[x6];exact Iq i h
 have u:=Cb A (B*18446744073709551616+0) ω E;rw[y,NC (B*18446744073709551616) A,<- x6 (B*18446744073709551616)];obtain⟨N,x⟩:∃N,N=c*18446744073709551616+b:=⟨_,rfl⟩;rw[<- x]at e d ⊢;refine QY 0 func126 ntmps126 results126 λr w a=>?_;simp only[go_sem];apply QV a EZ e;apply Qh a;simp only[go_sem,k];apply QV a OC m;apply Qg a;apply QV a fe d;apply Qh a;simp only[go_sem,k];apply QV a OC l;apply Qg a;apply Qv a [0,1,1002,1003,1004,1005];simp only[go_sem];apply ZD a EZ o;apply Zp a;apply ZD a Qto s;apply Zp a;apply ZD a BU u;exact Fb a
def QiN(n t k:Nat)(e:n<2^111)(c:t<=65536)(g:k<18446744073709551616):QI prog 89 [dg n,Qa t,u64 k] (QN (QU (!decide (65536*k<n*t)))):=by
 have i:n*t<=n*65536:=Iv n c;have h:=QyI n t e c;have f:=Pb 65536 k π g;have b:=Qhm (65536*k) (n*t) ω ω;refine QY 0 func89 ntmps89 results89 λd w a=>?_;simp only[go_sem];apply Qv a [0,2,3,1001,1004,1005,6,7];simp only[go_sem];refine Y7 a OC ?_ f ?_;simp only[go_sem,sM];apply Zp a;apply ZD a QsX h;apply Zp a;apply ZD a Qe4 b;exact Fb a
def iJ(t)(l:List Nc)(q:l.length<1048576):QI prog 59 [Qa t,KV l] (QN (Qa (XM t l))):=by
 by_cases h1:t<1\/65536<t;have e:XM t l=1:=by rw[XM,Qd h1]
 rw[e];refine QY 0 func59 ntmps59 results59 λd w b=>?_;simp only[go_sem];rcases h1 with h1|h1;simp only[QS h1,go_sem];simp only[QG (show ¬ t<1 from ω),QS h1,go_sem];have e:XM t l=if Pv l=true then 21 else 0:=by rw[XM,Qc h1]
 have n:=QG (show ¬ t<1 from ω);have m:=QG (show ¬ 65536<t from ω);rw[e];refine QY 0 func59 ntmps59 results59 λd w b=>?_;simp only[go_sem];simp only[n,m,go_sem];refine ZN (λi s=>(∀c∈l.take i,c.of≠0)/\s=⟨[(13,KV l),(14,Qa l.length),(15,Qa i)],[]⟩) l.length (Qo.to 0 (by (simp only[go_sem])<;>simp)) ⟨σ,rfl⟩ ?_;rintro i s k ⟨g,rfl⟩;have o:=Jr (show i<4611686018427387904 from ω);apply Qg b;first|refine We k (λa=>?_) (λa=>?_)|refine Wf k (λa=>?_) (λa=>?_)
 obtain⟨c,j⟩:∃c,c=l.getD i default:=⟨_,rfl⟩;have p:c∈l:=by rw[j,QW,QJ a];exact Xn a
 simp only[go_sem,a,<- j];apply QV b xo (gN c.a c.d c.b);apply Qg b;by_cases f:Kf c.a c.d c.b=0;have h:Pv l=true:=vG.2 ⟨c,p,WA f⟩;rw[h,Qd rfl];simp only[go_sem,WA f];simp only[go_sem,Vw f];refine⟨a,_,Qo.to 0 (by (simp only[go_sem,o])<;>simp),?_,rfl⟩;rw[zS,QJ a];intro x hx;rcases Q1.1 hx with h2|h2;exact g x h2;simp only[Bi,Yx]at h2;rw[h2,show l[i]=c by rw[j,QW,QJ a];rfl];exact f;subst a;rw[Wn]at g;have h:Pv l=false:=by
  unfold Pv;rw[aP];intro x hx;simpa using g x hx
 rw[h,Qc π];exact VE b
end Go.Fg.X
namespace Go.Fg.X
open Go.Proofs Go.Fg
open Go.Proofs.Tryz
def QyM(k:Kd):k.Lc k:=by cases k<;>simp[Kd.Lc]
def QiO:∀h:List Ob,Lu h h
 | []=>trivial
 | o::r=>⟨⟨rfl,rfl,rfl,QyM _,λi _=>vW (zx _) _⟩,QiO r⟩
def QiP{L:List Int}{a}(c:VJ (λn:Int=>[uI n]) L 0 a){k}(b:k<L.length):a k=[uI (L.getD k 0)]:=by
 have:=c.at_ k b;rw[Jz]at this;rw[this];simp only[QW,QJ b,KW]
def QyN(l:List Nc)(hl:l.length<1048576):QI prog 88 [KV l] (QN (yI (WX l))):=by
 refine QY 0 func88 ntmps88 results88 λY w B=>?_;simp only[go_sem];refine ZN (λi s=>s=⟨[(3,yI (WX (l.take i))),(10,KV l),(11,Qa l.length),(12,Qa i)],[]⟩) l.length (s0:=⟨[(3,yI []),(10,KV l),(11,Qa l.length),(12,Qa 0)],[]⟩)
  (Qo.tell ⟨by simp only[go_sem,Ls],QiO _⟩) (by simp[WX]) ?_
 rintro i s Q rfl;have Zs:=ud l i Q;have S:=Jr (show i<4611686018427387904 from ω);apply Qg B;first|refine We Q (λr=>?_) (λr=>?_)|refine Wf Q (λr=>?_) (λr=>?_)
 obtain⟨e,U⟩:∃e,e=l.getD i default:=⟨_,rfl⟩;have C:=uc l r;have T:=r;obtain⟨M,W⟩:∃M,M=WX (l.take i):=⟨_,rfl⟩;rw[<- W,<- U]at C;rw[<- W]at Zs ⊢;simp only[go_sem,r,<- U];apply QV B xo (gN e.a e.d e.b);apply Qg B;by_cases N:Kf e.a e.d e.b<3;have P:e.of<3:=N;rw[Qd P]at C;simp only[go_sem,QS N];refine⟨r,_,?_,rfl⟩;rw[C];exact Qo.to 0 (by (simp only[go_sem,S])<;>simp);have P:¬ e.of<3:=N;rw[Qc P]at C;simp only[go_sem,QG N];refine ZN (λj s=>∃g E,VJ (λn:Int=>[uI n]) (YM e.d M j).1 0 E/\s=⟨[(5,.ptr 0 0 0 0),(6,.ref 1 g 0 (YM e.d M j).1.length),(7,QU (YM e.d M j).2),(10,KV l),(11,Qa l.length),(12,Qa i),(19,yI M),(20,Qa M.length),(21,Qa j)],[⟨.one,0,3,1,λ_=>e.cells⟩,⟨.arr,g,1,(YM e.d M j).1.length,E⟩]⟩) M.length
  (s0:=⟨[(5,.ptr 0 0 0 0),(6,.ref 1 0 0 0),(7,QU false),(10,KV l),(11,Qa l.length),(12,Qa i),(19,yI M),(20,Qa M.length),(21,Qa 0)],[⟨.one,0,3,1,λ_=>e.cells⟩,⟨.arr,0,1,0,λ_=>[]⟩]⟩)
  (Qo.trans (Qo.jw 6 1 (λi=>[]) rfl) QO) ⟨0,λ_=>[],.nil,rfl⟩ ?_
 rintro j s o ⟨g,E,t,rfl⟩;have K:=QyE e.d M j;have J:=Jr (show j<4611686018427387904 from ω);apply Qg B;have h:=o;first|refine We o (λr=>?_) (λr=>?_)|refine Wf o (λr=>?_) (λr=>?_)
 have u:=QyD e.d M r;obtain⟨d,V⟩:∃d,d=M.getD j 0:=⟨_,rfl⟩;rw[<- V]at u;obtain⟨q,L⟩:∃q,q=YM e.d M j:=⟨_,rfl⟩;rw[<- L]at u t K ⊢;obtain⟨m,p⟩:=q;dsimp only at t K ⊢;have F:m.length<=4294967295:=ω;have Co:m.length+1<=4294967295:=ω;simp only[go_sem,r,<- V];cases p;by_cases v:(e.d:Int)<=d;have O:decide (d >= (e.d:Int))=true:=QS v;by_cases f:d=(e.d:Int);have y:(d != (e.d:Int))=false:=by simpa using f
 have b:(YM e.d M (j+1)).1=m++[(e.d:Int)]:=by rw[u];simp[Wh,f]
 have x:(YM e.d M (j+1)).2=true:=by rw[u];simp[Wh,f]
 have c:=t.app (e.d:Int) (r2:=λ_=>[uI e.d]) rfl;simp only[go_sem,O,y,F];repeat (refine And.intro ω ?_)
 refine⟨_,Qo.to 2 ⟨?_,by simp only[go_sem],?_,?_⟩,g+1,_,by rw[b];exact c,rfl⟩;simp only[go_sem,J,b,x,Zk,Kr];exact⟨λj _=>rfl,λj o=>c.upto (λa=>rfl) j (by have h:=o;simp only[b]at h;simpa using h),trivial⟩;simp only[go_sem,b,Zk,Kr];have y:(d != (e.d:Int))=true:=by simpa using f
 have b:(YM e.d M (j+1)).1=m++[(e.d:Int)]++[d]:=by rw[u];simp[Wh,v,f]
 have x:(YM e.d M (j+1)).2=true:=by rw[u];simp[Wh,v,f]
 have c:=(t.app (e.d:Int) (r2:=λ_=>[uI e.d]) rfl).app d (r2:=λ_=>[uI d]) rfl;simp only[Zk,Kr]at c;simp only[go_sem,O,y,F];repeat (refine And.intro ω ?_)
 refine⟨_,Qo.to 2 ⟨?_,by simp only[go_sem],?_,?_⟩,g+1+1,_,by rw[b];exact c,rfl⟩;simp only[go_sem,J,b,x,Zk,Kr];exact⟨λj _=>rfl,λj o=>c.upto (λa=>rfl) j (by have h:=o;simp only[b]at h;simpa using h),trivial⟩;simp only[go_sem,b,Zk,Kr];have O:decide (d >= (e.d:Int))=false:=QG v;have f:¬ d=(e.d:Int):=ω;have y:(d != (e.d:Int))=true:=by simpa using f
 have b:(YM e.d M (j+1)).1=m++[d]:=by rw[u];simp[Wh,v,f]
 have x:(YM e.d M (j+1)).2=false:=by rw[u];simp[Wh,v,f]
 have c:=t.app d (r2:=λ_=>[uI d]) rfl;simp only[go_sem,O,y,F];repeat (refine And.intro ω ?_)
 refine⟨_,Qo.to 2 ⟨?_,by simp only[go_sem],?_,?_⟩,g+1,_,by rw[b];exact c,rfl⟩;simp only[go_sem,J,b,x,Zk,Kr];exact⟨λj _=>rfl,λj o=>c.upto (λa=>rfl) j (by have h:=o;simp only[b]at h;simpa using h),trivial⟩;simp only[go_sem,b,Zk,Kr];have v:=True.intro;by_cases f:d=(e.d:Int);have y:(d != (e.d:Int))=false:=by simpa using f
 have b:(YM e.d M (j+1)).1=m:=by rw[u];simp[Wh,f]
 have x:(YM e.d M (j+1)).2=true:=by rw[u];simp[Wh,f]
 have c:=t;simp only[go_sem,y,Go.undef];repeat (refine And.intro ω ?_)
 refine⟨_,Qo.to 2 ⟨?_,by simp only[go_sem],?_,?_⟩,g,_,by rw[b];exact c,rfl⟩;simp only[go_sem,J,b,x];exact⟨λj _=>rfl,λj o=>c.upto (λa=>rfl) j (by have h:=o;simp only[b]at h;simpa using h),trivial⟩;simp only[go_sem,b];have y:(d != (e.d:Int))=true:=by simpa using f
 have b:(YM e.d M (j+1)).1=m++[d]:=by rw[u];simp[Wh,f]
 have x:(YM e.d M (j+1)).2=true:=by rw[u];simp[Wh,f]
 have c:=t.app d (r2:=λ_=>[uI d]) rfl;simp only[go_sem,y,F,Go.undef];repeat (refine And.intro ω ?_)
 refine⟨_,Qo.to 2 ⟨?_,by simp only[go_sem],?_,?_⟩,g+1,_,by rw[b];exact c,rfl⟩;simp only[go_sem,J,b,x,Zk,Kr];exact⟨λj _=>rfl,λj o=>c.upto (λa=>rfl) j (by have h:=o;simp only[b]at h;simpa using h),trivial⟩;simp only[go_sem,b,Zk,Kr];have v:j=M.length:=ω;subst v;obtain⟨q,L⟩:∃q,q=YM e.d M M.length:=⟨_,rfl⟩;have Z:HA e.d M=XN e.d q:=by rw[L];unfold HA YM;rw[Wn]
 rw[Z]at C;rw[<- L]at t K ⊢;obtain⟨m,p⟩:=q;dsimp only at t K ⊢;have F:m.length<=4294967295:=ω;cases p;have R:XN e.d (m,false)=m++[(e.d:Int)]:=rfl;have c:=t.app (e.d:Int) (r2:=λ_=>[uI e.d]) rfl;apply Qh B;simp only[go_sem,F];refine⟨T,_,?_,rfl⟩;rw[C,R];refine Qo.trans (Qo.freeze rfl 1 rfl rfl (λk z=>?_)) (Qo.toT 0 ?_);obtain⟨a,H⟩:=c.all k (by simpa using z);simp only[go_sem]at H ⊢;rw[H];rfl;simp only[go_sem,S,Zk,Kr];intro k z;have I:=QiP c (k:=k) (by simpa using z);simp only[go_sem]at I;rw[I];exact vW (zx _) _;have R:XN e.d (m,true)=m:=rfl;apply Qg B;refine⟨T,_,?_,rfl⟩;rw[C,R];refine Qo.trans (Qo.freeze rfl 1 rfl rfl (λk z=>?_)) (Qo.toT 0 ?_);obtain⟨a,H⟩:=t.all k (by simpa using z);simp only[go_sem]at H ⊢;rw[H];rfl;simp only[go_sem,S];intro k z;have I:=QiP t z;simp only[go_sem]at I;rw[I];exact vW (zx _) _;have v:i=l.length:=ω;subst v;rw[Wn];exact VE B
def QyO{A B:List Int}(h:∀x,x∈A↔x∈B)(p):A.any p=B.any p:=by
 rw[vF];simp[vG,h]
def iL(t:Nat)(l:List Nc):D:=if (WX l).any (zF t l)=true then .agg [uI ((WX l).getD (wx (zF t l) (WX l)).toNat 0),QU true] else .agg [u64 0,QU (Px t l)]
def QyP(t:Nat)(l:List Nc)(e:l.length<1048576)(g:∀c∈l,c.Lt)(f:XM t l=0):QI prog 60 [Qa t,KV l] (QN (iL t l)):=by
 have v:t<=65536:=by unfold XM at f;split at f;cases f;omega
 have H:(XM t l != 0)=false:=by rw[f];rfl
 have N:(WX l).length<=l.length:=by have:=ud l l.length (QB _);rwa [Wn]at this
 refine QY 0 func60 ntmps60 results60 λB w a=>?_;simp only[go_sem];apply QV a fg (iJ t l e);apply Qh a;simp only[go_sem,H];refine Wy a [] QsA rfl ?_ (QyN l e) rfl λd h E=>?_;simp only[go_sem];obtain⟨rfl,rfl⟩:=E;simp only[go_sem];apply Qg a;refine ZN (λi s=>(∀j,j<i->zF t l ((WX l).getD j 0)=false)/\s=⟨[(0,Qa t),(1,KV l),(4,.ptr 0 0 0 0),(13,yI (WX l)),(14,Qa (WX l).length),(15,Qa i)],[⟨.one,0,2,1,λ_=>[u64 0,QU false]⟩]⟩) (WX l).length (s0:=⟨[(0,Qa t),(1,KV l),(4,.ptr 0 0 0 0),(13,yI (WX l)),(14,Qa (WX l).length),(15,Qa 0)],[⟨.one,0,2,1,λ_=>[u64 0,QU false]⟩]⟩) (Qo.to 1 (by (simp only[go_sem])<;>simp)) ⟨λj x=>absurd x (Yc j),rfl⟩ ?_;rintro i s y ⟨r,rfl⟩;have K:=Jr (show i<4611686018427387904 from ω);apply Qg a;first|refine We y (λb=>?_) (λb=>?_)|refine Wf y (λb=>?_) (λb=>?_)
 obtain⟨k,u,M,C⟩:=QiH ((QiL l _).1 (ua b));have z:=QyF l k ω e g;have n:=QiN (FM l k) t k (QiI e g C) v ω;have p:zF t l ((WX l).getD i 0)=decide (65536*k<FM l k*t):=by rw[u];rfl
 have J:jS (λc=>KJ c.a c.d c.b k) l=FM l k:=rfl;rw[J]at z;simp only[go_sem,b,u];apply QV a QsB z;apply Qg a;apply QV a Qff n;apply Qg a;cases q:decide (65536*k<FM l k*t);simp only[go_sem];refine⟨b,_,Qo.to 1 (by (simp only[go_sem,K])<;>simp),λj x=>?_,rfl⟩;by_cases F:j<i;exact r j F;obtain rfl:j=i:=ω;rw[p,q];have o:(WX l).any (zF t l)=true:=vG.2 ⟨_,ua b,by rw[p,q]⟩;have L:=QiE b r (by rw[p,q]);rw[iL,Qd o,L,Int.toNat_natCast,u];simp only[go_sem];have m:i=(WX l).length:=ω;subst m;have o:(WX l).any (zF t l)=false:=by
  have m:=QiG (zF t l) (WX l);rw[QiF r]at m;rw[<- m];decide
 have n:=QiN (jS (λc=>c.b) l) t 1 (QiJ e g) v π;have I:decide (65536*1<jS (λc=>c.b) l*t)=Px t l:=rfl;rw[I]at n;rw[iL,o,Qc π];apply Qg a;apply QV a QsC (QyH l e g);apply Qg a;apply QV a Qff n;apply Qg a;simp only[Bool.not_not,go_sem]
def QyQ(t)(l:List Nc)(g:l.length<1048576)(k:∀c∈l,c.Lt):QI prog 37 [Qa t,KV l] (QN (Qa (vq t l))):=by
 by_cases b:XM t l=0;have j:∃n:Nat,t=(n:Int):=⟨t.toNat,by unfold XM at b;split at b;cases b;omega⟩;obtain⟨n,rfl⟩:=j;have h:(XM n l != 0)=false:=by rw[b];rfl
 have e:vq n l=if Uj n l=true then 22 else 0:=by rw[vq,Qc (by simpa using b)];rfl
 rw[e];have f:=QyP n l g k b;unfold iL at f;unfold Uj;rw[QyO (QiL l)]at f;cases i:(WE l).any (zF n l);rw[i,Qc π]at f;rw[Gn];refine QY 0 func37 ntmps37 results37 λd w a=>?_;simp only[go_sem];apply QV a fg (iJ n l g);apply Qh a;simp only[go_sem,h];apply QV a Qe8 f;apply Qg a;cases Px n l;simp only[go_sem];simp only[go_sem];rw[i,Qd rfl]at f;rw[RD,Qd rfl];refine QY 0 func37 ntmps37 results37 λd w a=>?_;simp only[go_sem];apply QV a fg (iJ n l g);apply Qh a;simp only[go_sem,h];apply QV a Qe8 f;exact VE a;have h:(XM t l != 0)=true:=by simpa using b
 have e:vq t l=XM t l:=by rw[vq,Qd b]
 rw[e];refine QY 0 func37 ntmps37 results37 λd w a=>?_;simp only[go_sem];apply QV a fg (iJ t l g);apply Qh a;simp only[go_sem,h]
end Go.Fg.X
namespace Go.Fg.X
open Go.Proofs Go.Fg
open Go.RowKit (Below)
open Go.Proofs.Tryz
def QyR{N}{w}{f n}{d g}{v}(h:Cl N w (.imm f n d) v)(e:∀i,i<n->d i=g i):Cl N w (.imm f n g) v:=by
 cases h with
 | imm _ _ _ a k b o l t q m s p=>exact .imm f n g a k b o l t q (λi c=>by rw[<- e i c];exact m i c) s (λi j c r=>by rw[<- e i c];exact p i j c r)
def Ul{P:Program}{f:FuncId}{k:List D}{u:Type}[Inhabited u]{n:Nat}{m:u->List D}{L:List u}(K:∀a,(m a).all D.XV=true)(h:QI P f k (Pc n m L)):
  QI P f k (QN (.imm n L.length (λi=>m (L.getD i default)))):=by
 intro Z s w M J W F E Q S;have Ze:M=[]:=by have:=E.len;simpa using this
 subst Ze;refine(h Z s w [] J W F E Q S).mono λe I R=>?_;obtain⟨v,d,hh,y,rfl,⟨g,j,c,rfl,rfl,z⟩,C,U,B,V⟩:=R;have r:y.length=1:=by have:=C.len;simpa using this
 obtain⟨p,rfl⟩:∃p,y=[p]:=by
  match y,r with
  | [p],_=>exact⟨p,rfl⟩
 have H:=U.fz (l:=0) (o:=⟨.arr,g,n,j+L.length,c⟩) (p:=p) rfl rfl rfl (λb q e=>by
  subst e;refine⟨F b ?_,λO q' e'=>?_,(C.at_ 0 _ b q rfl rfl).2.cells rfl⟩;rcases wU b w.heap.size with Qb|WS;exact absurd rfl ((B.JU b (λi q e=>by simp at e) Qb).1 0 q);exact WS;have:=Wp e';simp at this;exact this) (λi x=>by
  obtain⟨a,T⟩:=z.all i x;show (c i).all D.XV=true;rw[T];exact K a) (h':=[Ob.gone ⟨.arr,g,n,j+L.length,c⟩]) (λO N QC e=>by
  have:=KA e;simp at this;exact absurd this QC)
 have Y:D.fz 0 g (j+L.length) n c (.ref 0 g j L.length)=.imm n L.length (rowFrom j c):=by simp[D.fz,EU]
 simp only[Y]at H;have Zs:=(GX H rfl).mono (N':=free Z []) (w':=I) λb t _=>⟨⟨t.1,λl q e=>by simp at e⟩,rfl⟩;refine⟨v,_,[],[],rfl,⟨rfl,rfl⟩,Zh.nil,.cl _ _ (QyR Zs λi x=>z.at_ i x),⟨λb t Qb=>⟨t,(B.JU b t Qb).2⟩,λl o p e=>by simp at e,λl o N b q e=>by simp at e⟩,V⟩
def QyS{c:Type}[Inhabited c](f:Nat)(e:c->List D)(L:List c)(v:Value)(d:D)(h:List Ob):Prop:=∃g a b,d=.agg [.ref 0 g a L.length,.raw v]/\h=[⟨.arr,g,f,a+L.length,b⟩]/\VJ e L a b
def QyT{P:Program}{f:FuncId}{b:List D}{j:Type}[Inhabited j]{sz:Nat}{enc:j->List D}{L:List j}{v:Value}(m:∀a,(enc a).all D.XV=true)(h:QI P f b (QyS sz enc L v)):
  QI P f b (QN (.agg [.imm sz L.length (λi=>enc (L.getD i default)),.raw v])):=by
 refine Qyi _ rfl ?_ h;rintro d p ⟨g,e,c,rfl,rfl,l⟩;refine⟨g,sz,_,c,rfl,λi k=>?_,?_⟩;obtain⟨a,n⟩:=l.all i k;rw[n];exact m a;have o:D.fz 0 g (e+L.length) sz c (.agg [.ref 0 g e L.length,.raw v])=.agg [.imm sz L.length (rowFrom e c),.raw v]:=by simp[D.fz,zq,EU]
 rw[o,QdN,o7,o7,SK,QdM];refine⟨⟨rfl,rfl,λi k=>?_⟩,rfl,QdO▸trivial⟩;rw[G7,l.at_ i k];exact vW (zx _) _
end Go.Fg.X
namespace Go.Fg.X
open Go.Proofs Go.Fg
open Go.Proofs.Tryz
theorem DI(a:Ql):xh 2 a.cells=true:=rfl
def QiQ(L)(x):∀i,(putAt L x i).1.length<=2*i
 | 0=>QB _
 | i+1=>by
  have:=QiQ L x i;simp only[putAt];split<;>split<;>simp<;>omega
def VJ.ug{L}{c}{b}(h:VJ Ql.cells L c b):VJ Ql.cells L c (λi=>zf [1] (b i)):=
 ⟨λi d=>by show zf [1] (b (c+i))=_;rw[h.at_ i d];rfl,λi d=>by obtain⟨a,e⟩:=h.all i d;exact⟨a,by show zf [1] (b i)=_;rw[e];rfl⟩⟩
def VJ.uh{L:List Ql}{c}{b}(h:VJ Ql.cells L c b):∀i,i<c+L.length->ym [1] (b i)=true:=λi d=>by
 obtain⟨a,e⟩:=h.all i d;rw[e];rfl
def QyU(L:List Ql)(x)(J:L.length<1000000):QI prog 86 [KK L,WV x] (Pc 14 Ql.cells (Cc L x)):=by
 refine oX [1] rfl Vd 200 func86 rfl ntmps86 results86 rfl λF w B=>?_;simp only[go_sem];refine ZN (λi s=>∃g b d,VJ Ql.cells (putAt L x i).1 b d/\s=⟨[(3,.ptr 0 0 0 0),(5,.ref 1 g b (putAt L x i).1.length),(6,QU (putAt L x i).2),(9,KK L),(10,Qa L.length),(11,Qa i)],[⟨.one,0,14,1,λ_=>x.cells⟩,⟨.arr,g,14,b+(putAt L x i).1.length,d⟩]⟩) L.length
  (s0:=⟨[(3,.ptr 0 0 0 0),(5,.ref 1 0 0 0),(6,QU false),(9,KK L),(10,Qa L.length),(11,Qa 0)],[⟨.one,0,14,1,λ_=>x.cells⟩,⟨.arr,0,14,0,λ_=>[]⟩]⟩)
  (Qo.trans (Qo.jw 5 14 (λi=>[]) rfl) (Qo.to 2 (by (simp only[go_sem])<;>simp))) ⟨0,0,λ_=>[],.nil,rfl⟩ ?_
 rintro i s y ⟨g,b,d,k,rfl⟩;have I:=QiQ L x i;have q:=Jr (show i<4611686018427387904 from ω);apply Qg B;first|refine We y (λt=>?_) (λt=>?_)|refine Wf y (λt=>?_) (λt=>?_)
 obtain⟨M,C⟩:∃M,M=(putAt L x i).1:=⟨_,rfl⟩;obtain⟨l,E⟩:∃l,l=(putAt L x i).2:=⟨_,rfl⟩;obtain⟨e,z⟩:∃e,e=L.getD i default:=⟨_,rfl⟩;have p:putAt L x (i+1)=(if e.iD≠x.iD then (if !l&&decide (x.iD<=e.iD) then M++[x] else M)++[e] else (if !l&&decide (x.iD<=e.iD) then M++[x] else M),l || decide (x.iD<=e.iD)):=by rw[C,E,z];rfl
 rw[<- C]at k I ⊢;rw[<- E];have o:M.length<=4294967295:=ω;have K:M.length+1<=4294967295:=ω;have n:VJ Ql.cells (M++[x]) 0 (JO M.length b d λ_=>x.cells):=k.app x rfl;have r:VJ Ql.cells (M++[e]) 0 (JO M.length b d λ_=>e.cells):=k.app e rfl;have u:VJ Ql.cells (M++[x]++[e]) 0 (JO (M++[x]).length 0 (JO M.length b d λ_=>x.cells) λ_=>e.cells):=n.app e rfl;have v:(M++[x]).length=M.length+1:=σ;simp only[go_sem,t,<- z];obtain rfl|rfl:l=true\/l=false:=by cases l<;>simp
 simp only[go_sem];by_cases c:e.iD=x.iD;have a:putAt L x (i+1)=(M,true):=by rw[p];simp[c]
 simp only[go_sem,WA c,bne];repeat (refine And.intro ω ?_)
 refine⟨_,Qo.to 2 ⟨?_,by simp only[go_sem],?_,?_⟩,g,b,_,by rw[a];exact k,rfl⟩;simp only[go_sem,q,a];exact⟨λj _=>DI x,λj h=>(k).upto DI j (by have f:=h;simp only[a]at f;simpa using f),trivial⟩;simp only[go_sem,a];have a:putAt L x (i+1)=(M++[e],true):=by rw[p];simp[c]
 simp only[go_sem,Vw c,bne,o];repeat (refine And.intro ω ?_)
 refine⟨_,Qo.to 2 ⟨?_,by simp only[go_sem],?_,?_⟩,(g+1),0,_,by rw[a];exact r,rfl⟩;simp only[go_sem,q,a,Zk,Kr];exact⟨λj _=>DI x,λj h=>(r).upto DI j (by have f:=h;simp only[a]at f;simpa using f),trivial⟩;simp only[go_sem,a,Zk,Kr];simp only[go_sem];by_cases m:x.iD<=e.iD;simp only[go_sem,o,m];by_cases c:e.iD=x.iD;have a:putAt L x (i+1)=(M++[x],true):=by rw[p];simp[c]
 simp only[go_sem,WA c,bne];repeat (refine And.intro ω ?_)
 refine⟨_,Qo.to 2 ⟨?_,by simp only[go_sem],?_,?_⟩,(g+1),0,_,by rw[a];exact n,rfl⟩;simp only[go_sem,q,a,Zk,Kr];exact⟨λj _=>DI x,λj h=>(n).upto DI j (by have f:=h;simp only[a]at f;simpa using f),trivial⟩;simp only[go_sem,a,Zk,Kr];have a:putAt L x (i+1)=(M++[x]++[e],true):=by rw[p];simp[c,m]
 simp only[go_sem,Vw c,bne];rw[v]at u;repeat (refine And.intro ω ?_)
 refine⟨_,Qo.to 2 ⟨?_,by simp only[go_sem],?_,?_⟩,(g+1+1),0,_,by rw[a];exact u,rfl⟩;simp only[go_sem,q,a,Zk,Kr];exact⟨λj _=>DI x,λj h=>(u).upto DI j (by have f:=h;simp only[a]at f;simpa using f),trivial⟩;simp only[go_sem,a,Zk,Kr];simp only[go_sem,m];by_cases c:e.iD=x.iD;exact absurd ω m;have a:putAt L x (i+1)=(M++[e],false):=by rw[p];simp[c,m]
 simp only[go_sem,Vw c,bne,o];repeat (refine And.intro ω ?_)
 refine⟨_,Qo.to 2 ⟨?_,by simp only[go_sem],?_,?_⟩,(g+1),0,_,by rw[a];exact r,rfl⟩;simp only[go_sem,q,a,Zk,Kr];exact⟨λj _=>DI x,λj h=>(r).upto DI j (by have f:=h;simp only[a]at f;simpa using f),trivial⟩;simp only[go_sem,a,Zk,Kr];have m:i=L.length:=ω;subst m;have o:(putAt L x L.length).1.length<=4294967295:=ω;have n:VJ Ql.cells ((putAt L x L.length).1++[x]) 0 (JO (putAt L x L.length).1.length b d λ_=>x.cells):=k.app x rfl;apply Qg B;by_cases c:(putAt L x L.length).2=true;have e:Cc L x=(putAt L x L.length).1:=by rw[Cc,Qd c]
 simp only[go_sem,c];rw[e];exact⟨k.uh,g,b,_,rfl,rfl,k.ug⟩;have e:Cc L x=(putAt L x L.length).1++[x]:=by rw[Cc,Qc c]
 simp only[Ya]at c;simp only[go_sem,c,o];rw[e];refine⟨λj h=>(by have H:=n.uh j (by simpa using h);simpa only[go_sem] using H),g+1,0,_,?_,?_,n.ug⟩;simp;rw[Jz,Zk,Kr];simp only[go_sem]
def uj(L:List Ql)(x)(a:L.length<1000000):QI prog 86 [KK L,WV x] (QN (KK (Cc L x))):=Ul (λ_=>rfl) (QyU L x a)
def uk(L:List Ql)(a)(b:L.length<1000000):QI prog 32 [KK L,Qa a] (QN (ints (ZF L 70 a))):=Ul (λ_=>rfl) (QwH L a b)
def um(L:List Ql)(a)(b:L.length<1000000):QI prog 87 [KK L,Qa a] (QN (ints (KE L a))):=Ul (λ_=>rfl) (QwG L a b)
def FO(L:List Ql)(x:Ql):Int:=
 if BY x≠0 then BY x else if 0<=qf L x.iD then 8 else if L.length=64 then 5
 else if x.parent≠0/\(qf L x.parent<0\/((Qw L x.parent).getD default).leaf=true) then 23
 else if 1<QH x.ls/\Ve L x.parent=false then 29 else if 16<=(ZF L 70 x.parent).length then 25 else 0
def QyW(L:List Ql)(x:Ql)(e:L.length<1000000)(p:∀c∈L,c.Nn)(f:x.Nn):QI prog 56 [KK L,WV x] (QN (.agg [KK (if FO L x=0 then Cc L x else L),Qa (FO L x)])):=by
 have t:BY x≠0\/BY x=0:=ω;have s:¬ ((-1:Int) >= 0):=ω;have o:True:=trivial;rcases Pd L x.parent with ⟨l,g⟩|⟨i,q,g,l⟩
 .obtain⟨E,j⟩:∃E,E=FO L x:=⟨_,rfl⟩;rw[<- j];rw[FO,l,g]at j;refine QY 0 func56 ntmps56 results56 λk w a=>?_;simp only[go_sem]
  repeat' (first|((first|refine zg (λh=>?_) (λh=>?_)|refine zj (λh=>?_) (λh=>?_)|refine zk (λh=>?_) (λh=>?_)|refine VV (λh=>?_) (λh=>?_)|refine zl (λh=>?_) (λh=>?_)|refine zn (λh=>?_) (λh=>?_)|refine zo (λh=>?_) (λh=>?_)|refine ze (λh=>?_) (λh=>?_))<;>(try simp only[go_sem,Go.undef]))|(refine And.intro δ ?_;try simp only[go_sem,Go.undef,g])|(refine Yi a fh rfl ?_ (fN x f) (QN.flat rfl) rfl ?_;(· simp only[go_sem]);intro d h b;obtain⟨rfl,rfl⟩:=b;apply Qh a;simp only[go_sem])|(refine Yi a yo rfl ?_ (yD L x.iD e) (QN.flat rfl) rfl ?_;(· simp only[go_sem]);intro d h b;obtain⟨rfl,rfl⟩:=b;apply Qh a;simp only[go_sem])|(refine Yi a yo rfl ?_ (yD L x.parent e) (QN.flat rfl) rfl ?_;(· simp only[go_sem]);intro d h b;obtain⟨rfl,rfl⟩:=b;apply Qh a;simp only[go_sem,Go.undef,g])|(refine Yi a xo rfl ?_ (Dp x.ls f.2.1.1 f.2.1.2.1 f.2.1.2.2) (QN.flat rfl) rfl ?_;(· simp only[go_sem]);intro d h b;obtain⟨rfl,rfl⟩:=b;apply Qh a;simp only[go_sem,Go.undef])|(refine Yi a fi rfl ?_ (gQ L x.parent e p) (QN.flat rfl) rfl ?_;(· simp only[go_sem]);intro d h b;obtain⟨rfl,rfl⟩:=b;apply Qh a;simp only[go_sem])|(refine Wy a [] pf rfl ?_ (uk L x.parent e) rfl ?_;(· simp only[go_sem]);intro d h b;obtain⟨rfl,rfl⟩:=b;(simp only[go_sem]);apply Qh a;simp only[go_sem])|(refine Wy a [] pw rfl ?_ (uj L x e) rfl ?_;(· simp only[go_sem]);intro d h b;obtain⟨rfl,rfl⟩:=b;(simp only[go_sem]);apply Qh a;simp only[go_sem])|fail)
  all_goals (have r:((L.length:Int)=64↔L.length=64):=(by omega);have n : (((ZF L 70 x.parent).length : Int) >= 16 ↔ 16 <= (ZF L 70 x.parent).length) :=(by omega);have m : (((ZF L 70 x.parent).length : Int) < 16 ↔ (ZF L 70 x.parent).length < 16) :=(by omega);simp_all)
 .obtain⟨E,j⟩:∃E,E=FO L x:=⟨_,rfl⟩;rw[<- j];rw[FO,l,g]at j;refine QY 0 func56 ntmps56 results56 λk w a=>?_;simp only[go_sem]
  repeat' (first|((first|refine zg (λh=>?_) (λh=>?_)|refine zj (λh=>?_) (λh=>?_)|refine zk (λh=>?_) (λh=>?_)|refine VV (λh=>?_) (λh=>?_)|refine zl (λh=>?_) (λh=>?_)|refine zn (λh=>?_) (λh=>?_)|refine zo (λh=>?_) (λh=>?_)|refine ze (λh=>?_) (λh=>?_))<;>(try simp only[go_sem,Go.undef,q]))|(refine And.intro δ ?_;try simp only[go_sem,Go.undef,g,q])|(refine Yi a fh rfl ?_ (fN x f) (QN.flat rfl) rfl ?_;(· simp only[go_sem]);intro d h b;obtain⟨rfl,rfl⟩:=b;apply Qh a;simp only[go_sem])|(refine Yi a yo rfl ?_ (yD L x.iD e) (QN.flat rfl) rfl ?_;(· simp only[go_sem]);intro d h b;obtain⟨rfl,rfl⟩:=b;apply Qh a;simp only[go_sem])|(refine Yi a yo rfl ?_ (yD L x.parent e) (QN.flat rfl) rfl ?_;(· simp only[go_sem]);intro d h b;obtain⟨rfl,rfl⟩:=b;apply Qh a;simp only[go_sem,Go.undef,g])|(refine Yi a xo rfl ?_ (Dp x.ls f.2.1.1 f.2.1.2.1 f.2.1.2.2) (QN.flat rfl) rfl ?_;(· simp only[go_sem]);intro d h b;obtain⟨rfl,rfl⟩:=b;apply Qh a;simp only[go_sem,Go.undef])|(refine Yi a fi rfl ?_ (gQ L x.parent e p) (QN.flat rfl) rfl ?_;(· simp only[go_sem]);intro d h b;obtain⟨rfl,rfl⟩:=b;apply Qh a;simp only[go_sem])|(refine Wy a [] pf rfl ?_ (uk L x.parent e) rfl ?_;(· simp only[go_sem]);intro d h b;obtain⟨rfl,rfl⟩:=b;(simp only[go_sem]);apply Qh a;simp only[go_sem])|(refine Wy a [] pw rfl ?_ (uj L x e) rfl ?_;(· simp only[go_sem]);intro d h b;obtain⟨rfl,rfl⟩:=b;(simp only[go_sem]);apply Qh a;simp only[go_sem])|fail)
  all_goals (have r:((L.length:Int)=64↔L.length=64):=(by omega);have n : (((ZF L 70 x.parent).length : Int) >= 16 ↔ 16 <= (ZF L 70 x.parent).length) :=(by omega);have m : (((ZF L 70 x.parent).length : Int) < 16 ↔ (ZF L 70 x.parent).length < 16) :=(by omega);simp_all)
def Cq(L:List Ql)(a:Int):Int:=if qf L a<0 then 6 else if KE L a≠[] then 23 else 0
def iN{b:Type}[Inhabited b](L:List b)(g)(i:Nat)(h:i<L.length):(L.take (i+1)).filter g=if g (L.getD i default)=true then (L.take i).filter g++[L.getD i default] else (L.take i).filter g:=by
 rw[zS,QJ h];simp only[Bi,Ih,QW,QJ h,KW];by_cases a:g L[i]=true;rw[Qd a,Ij a];rfl;rw[Qc a,Ii a];simp
def uo{a:Type}(L:List a)(g:a->Bool)(i:Nat):((L.take i).filter g).length<=i:=by
 have:=XS g (L.take i);simp at this;omega
def QyY(L:List Ql)(b)(r:L.length<1000000):QI prog 57 [KK L,Qa b] (QN (.agg [KK (if Cq L b=0 then Wt L b else L),Qa (Cq L b)])):=by
 by_cases n:qf L b<0
 .have e:Cq L b=6:=by rw[Cq,Qd n]
  rw[e];refine QY 0 func57 ntmps57 results57 λo w k=>?_;simp only[go_sem,-Nat.reducePow];refine Ks k yo ?_ (yD L b r) ?_;simp only[go_sem,-Nat.reducePow];apply Qh k;simp only[go_sem,-Nat.reducePow,QS n];all_goals rfl
 .by_cases t:KE L b=[];have e:Cq L b=0:=by rw[Cq,Qc n,Qc (by simpa using t)]
  rw[e];refine QyT (sz:=14) (enc:=Ql.cells) (L:=if (0:Int)=0 then Wt L b else L) (v:=.int .i64 0) (λ_=>rfl) ?_;refine oX [1] rfl Vd 200 func57 rfl ntmps57 results57 rfl λo w k=>?_;simp only[go_sem,-Nat.reducePow];refine Ks k yo ?_ (yD L b r) ?_;simp only[go_sem,-Nat.reducePow];apply Qh k;simp only[go_sem,-Nat.reducePow,QG n];refine Wy k [] pz rfl ?_ (um L b r) rfl λd h C=>?_;simp only[go_sem,-Nat.reducePow];obtain⟨rfl,rfl⟩:=C;simp only[go_sem,-Nat.reducePow,t];apply Qh k;simp only[go_sem,-Nat.reducePow];obtain⟨g,B⟩:∃g:Ql->Bool,g=λc=>c.iD != b:=⟨_,rfl⟩;have P:Wt L b=(L.take L.length).filter g:=by rw[Wn,B];rfl
  rw[P];refine ZN (λi s=>∃q f m,VJ Ql.cells ((L.take i).filter g) f m/\s=⟨[(1,Qa b),(4,.ptr 0 0 0 0),(5,.ref 1 q f ((L.take i).filter g).length),(21,KK L),(22,Qa L.length),(23,Qa i)],[⟨.one,0,2,1,λ_=>[.nil,Qa 0]⟩,⟨.arr,q,14,f+((L.take i).filter g).length,m⟩]⟩) L.length
   (s0:=⟨[(1,Qa b),(4,.ptr 0 0 0 0),(5,.ref 1 0 0 0),(21,KK L),(22,Qa L.length),(23,Qa 0)],[⟨.one,0,2,1,λ_=>[.nil,Qa 0]⟩,⟨.arr,0,14,0,λ_=>[]⟩]⟩)
   (Qo.trans (Qo.jw 5 14 (λi=>[]) rfl) (Qo.to 2 (by (simp only[go_sem,-Nat.reducePow])<;>simp))) ⟨0,0,λ_=>[],.nil,rfl⟩ ?_
  rintro i s E ⟨q,f,m,p,rfl⟩;have K:=uo L g i;have J:=Jr (show i<4611686018427387904 from ω);apply Qh k;simp only[go_sem,-Nat.reducePow];first|refine We E (λx=>?_) (λx=>?_)|refine Wf E (λx=>?_) (λx=>?_)
  have l:=iN L g i x;obtain⟨M,H⟩:∃M,M=(L.take i).filter g:=⟨_,rfl⟩;obtain⟨c,F⟩:∃e,e=L.getD i default:=⟨_,rfl⟩;rw[<- H,<- F]at l;rw[<- H]at p K ⊢;simp only[go_sem,-Nat.reducePow,x,<- F];by_cases y:c.iD=b;rw[Qc (by rw[B];simpa using y)]at l;simp only[go_sem,-Nat.reducePow,WA y,bne];repeat (refine And.intro ω ?_)
  refine⟨_,Qo.to 2 ⟨?_,by simp only[go_sem,-Nat.reducePow],?_,?_⟩,q,f,_,by rw[l];exact p,rfl⟩;simp only[go_sem,-Nat.reducePow,J,l];exact⟨λj _=>rfl,λj z=>(p).upto (λa=>rfl) j (by have u:=z;simp only[l]at u;simpa using u),trivial⟩;simp only[go_sem,-Nat.reducePow,l];rw[Qd (by rw[B];simpa using y)]at l;have O:M.length<=4294967295:=ω;have I:VJ Ql.cells (M++[c]) 0 (JO M.length f m λ_=>c.cells):=p.app c rfl;simp only[go_sem,-Nat.reducePow,Vw y,bne,O];repeat (refine And.intro ω ?_)
  refine⟨_,Qo.to 2 ⟨?_,by simp only[go_sem,-Nat.reducePow],?_,?_⟩,(q+1),0,_,by rw[l];exact I,rfl⟩;simp only[go_sem,-Nat.reducePow,J,l,Zk,Kr];exact⟨λj _=>rfl,λj z=>(I).upto (λa=>rfl) j (by have u:=z;simp only[l]at u;simpa using u),trivial⟩;simp only[go_sem,-Nat.reducePow,l,Zk,Kr];have n:i=L.length:=ω;subst n;apply Qh k;simp only[go_sem,-Nat.reducePow];exact⟨p.uh,q,f,_,rfl,rfl,p.ug⟩
  .have e:Cq L b=23:=by rw[Cq,Qc n,Qd t]
   have N:(((KE L b).length:Int) > 0):=by have:=aT.2 t;omega
   have Q:0<(KE L b).length:=aT.2 t;rw[e];refine QY 0 func57 ntmps57 results57 λo w k=>?_;simp only[go_sem,-Nat.reducePow];refine Ks k yo ?_ (yD L b r) ?_;simp only[go_sem,-Nat.reducePow];apply Qh k;simp only[go_sem,-Nat.reducePow,QG n];refine Wy k [] pz rfl ?_ (um L b r) rfl λd h C=>?_;simp only[go_sem,-Nat.reducePow];obtain⟨rfl,rfl⟩:=C;simp only[go_sem,-Nat.reducePow];apply Qh k;simp only[go_sem,-Nat.reducePow,QS N];all_goals rfl
def Mt(L:List Ql)(x:Ql):Int:=
 if BY x≠0 then BY x else if qf L x.iD<0 then 6
 else if ¬ (((Qw L x.iD).getD default).parent=x.parent/\((Qw L x.iD).getD default).leaf=x.leaf) then 1
 else if 1<QH x.ls/\Ve L x.parent=false then 29
 else if ¬ 1<QH x.ls/\((KE L x.iD).any λid=>Ve L id)=true then 29 else 0
def QiS(l:List Int)(p):∀i,i<=l.length->((∀k,k<i->p (l.getD k 0)=false)↔(l.take i).any p=false)
 | 0,_=>σ
 | i+1,h=>by
  have c:=QiS l p i ω;have b:i<l.length:=ω;rw[zS,QJ b,List.any_append,Gq,<- c];simp only[Bi,List.any_cons,List.any_nil,Bool.or_false];constructor;intro a;refine⟨λk d=>a k ω,?_⟩;have:=a i ω;simpa[QW,b] using this;rintro⟨a,e⟩ k d;rcases wU k i with h3|h3;exact a k h3;have:k=i:=ω;subst this;simpa[QW,b] using e
def QyZ(L:List Ql)(x:Ql)(g:L.length<1000000)(F:∀c∈L,c.Nn)(m:x.Nn):QI prog 58 [KK L,WV x] (QN (.agg [KK (if Mt L x=0 then Cc L x else L),Qa (Mt L x)])):=by
 obtain⟨E,o⟩:∃E,E=Mt L x:=⟨_,rfl⟩;rw[<- o];obtain⟨e,v⟩:∃e,e=KE L x.iD:=⟨_,rfl⟩;have N:e.length<=L.length:=by rw[v,KE];simp;exact XS _ _
 rw[Mt,<- v]at o;rcases Pd L x.iD with ⟨I,f⟩|⟨i,y,f,I⟩
 .rw[f]at o;refine QY 0 func58 ntmps58 results58 λr w a=>?_;simp only[go_sem]
  repeat' (first|((first|refine zg (λh=>?_) (λh=>?_)|refine zj (λh=>?_) (λh=>?_)|refine zk (λh=>?_) (λh=>?_)|refine VV (λh=>?_) (λh=>?_)|refine zl (λh=>?_) (λh=>?_)|refine zn (λh=>?_) (λh=>?_)|refine zo (λh=>?_) (λh=>?_)|refine ze (λh=>?_) (λh=>?_))<;>(try simp only[go_sem]))|(refine And.intro δ ?_;try simp only[go_sem,Go.undef,f])|(refine Yi a fh rfl ?_ (fN x m) (QN.flat rfl) rfl ?_;(· simp only[go_sem]);intro d h b;obtain⟨rfl,rfl⟩:=b;apply Qh a;simp only[go_sem])|(refine Yi a yo rfl ?_ (yD L x.iD g) (QN.flat rfl) rfl ?_;(· simp only[go_sem]);intro d h b;obtain⟨rfl,rfl⟩:=b;apply Qh a;simp only[go_sem,f])|fail)
  all_goals simp_all
 .rw[f,I]at o;obtain⟨C,u⟩:∃C,C=L.getD i default:=⟨_,rfl⟩;rw[<- u,KW]at o;have B:∀j,j<e.length->Ve L (e.getD j 0)=true->(e.any λid=>Ve L id)=true:=λj n K=>vG.2 ⟨e.getD j 0,by rw[QW,QJ n];exact Xn n,K⟩;have J:(∀k,k<e.length->(!decide (1<QH x.ls)&&Ve L (e.getD k 0))=false)->¬ (¬ 1<QH x.ls/\(e.any λid=>Ve L id)=true):=by
   rintro h ⟨q,p⟩;have H:=(QiS e (λid=>Ve L id) e.length (QB _)).1 λk t=>by
    have:=h k t;rw[QG q]at this;simpa using this
   rw[Wn,p]at H;cases H
  refine QY 0 func58 ntmps58 results58 λr w a=>?_;simp only[go_sem]
  repeat' (first|((first|refine zg (λh=>?_) (λh=>?_)|refine zj (λh=>?_) (λh=>?_)|refine zk (λh=>?_) (λh=>?_)|refine VV (λh=>?_) (λh=>?_)|refine zl (λh=>?_) (λh=>?_)|refine zn (λh=>?_) (λh=>?_)|refine zo (λh=>?_) (λh=>?_)|refine ze (λh=>?_) (λh=>?_))<;>(try simp only[go_sem,Go.undef,y,<- u]))|(refine And.intro δ ?_;try simp only[go_sem,Go.undef,f,y,<- u])|(refine Yi a fh rfl ?_ (fN x m) (QN.flat rfl) rfl ?_;(· simp only[go_sem]);intro d h b;obtain⟨rfl,rfl⟩:=b;apply Qh a;simp only[go_sem])|(refine Yi a yo rfl ?_ (yD L x.iD g) (QN.flat rfl) rfl ?_;(· simp only[go_sem]);intro d h b;obtain⟨rfl,rfl⟩:=b;apply Qh a;simp only[go_sem,f])|(refine Qdw Vd a 200 mixed [(0,true),(1,true),(2,true),(3,true),(4,true),(5,true),(6,true),(7,true),(8,true),(9,true),(10,true),(11,true),(12,true),(13,true),(14,true),(15,true),(16,true),(17,true)] ?_ ?_ ?_;(· kernel_rfl);(· kernel_rfl);simp only[go_sem,Go.undef,y,<- u])|(refine Yi a xo rfl ?_ (Dp x.ls m.2.1.1 m.2.1.2.1 m.2.1.2.2) (QN.flat rfl) rfl ?_;(· simp only[go_sem]);intro d h b;obtain⟨rfl,rfl⟩:=b;apply Qh a;simp only[go_sem,Go.undef])|(refine Yi a fi rfl ?_ (gQ L x.parent g F) (QN.flat rfl) rfl ?_;(· simp only[go_sem]);intro d h b;obtain⟨rfl,rfl⟩:=b;apply Qh a;simp only[go_sem])|(refine Wy a [] pz rfl ?_ (v▸um L x.iD g) rfl ?_;(· simp only[go_sem]);intro d h b;obtain⟨rfl,rfl⟩:=b;(simp only[go_sem]);apply Qh a;simp only[go_sem])|fail)
  all_goals try (simp_all;done)
  all_goals
   refine ZN (λj s=>(∀k,k<j->(!decide (1<QH x.ls)&&Ve L (e.getD k 0))=false)/\s=⟨[(0,KK L),(3,.ptr 0 0 0 0),(4,.ptr 1 0 0 0),(7,QU (decide (1<QH x.ls))),(62,ints e),(63,Qa e.length),(64,Qa j)],[⟨.one,0,14,1,λ_=>x.cells⟩,⟨.one,0,2,1,λ_=>[.nil,Qa 0]⟩]⟩) e.length (Qo.to 2 (by (simp only[go_sem])<;>simp)) ⟨λk t=>ω,rfl⟩ ?_;rintro j s n ⟨z,rfl⟩;have M:=Jr (show j<4611686018427387904 from ω);apply Qg a;first|refine We n (λl=>?_) (λl=>?_)|refine Wf n (λl=>?_) (λl=>?_)
   .simp only[go_sem,l]
    repeat' (first|((first|refine zg (λh=>?_) (λh=>?_)|refine zj (λh=>?_) (λh=>?_)|refine zk (λh=>?_) (λh=>?_)|refine VV (λh=>?_) (λh=>?_)|refine zl (λh=>?_) (λh=>?_)|refine zn (λh=>?_) (λh=>?_)|refine zo (λh=>?_) (λh=>?_)|refine ze (λh=>?_) (λh=>?_))<;>(try simp only[go_sem,Go.undef]))|(refine And.intro δ ?_;try simp only[go_sem,Go.undef])|(refine Yi a fi rfl ?_ (gQ L (e.getD j 0) g F) (QN.flat rfl) rfl ?_;(· simp only[go_sem]);intro d h b;obtain⟨rfl,rfl⟩:=b;apply Qh a;simp only[go_sem])|fail)
    all_goals first
     | (refine⟨_,Qo.to 2 (by (simp only[go_sem,M])<;>simp),λk t=>?_,rfl⟩;rcases vK.1 t with q|rfl;(· exact z k q);(· simp_all;done))
     | (have q:=B j l;simp_all;done)
   .subst l;have q:=J z;have p:E=0:=by simp_all
    clear J z B;apply Qg a
    repeat' (first|((first|refine zg (λh=>?_) (λh=>?_)|refine zj (λh=>?_) (λh=>?_)|refine zk (λh=>?_) (λh=>?_)|refine VV (λh=>?_) (λh=>?_)|refine zl (λh=>?_) (λh=>?_)|refine zn (λh=>?_) (λh=>?_)|refine zo (λh=>?_) (λh=>?_)|refine ze (λh=>?_) (λh=>?_))<;>(try simp only[go_sem,Go.undef,p]))|(refine And.intro δ ?_;try simp only[go_sem,Go.undef,p])|(refine Wy a [] pw rfl ?_ (uj L x g) rfl ?_;(· simp only[go_sem]);intro d h b;obtain⟨rfl,rfl⟩:=b;(simp only[go_sem,p]);apply Qh a;simp only[go_sem])|fail)
    all_goals (first|rfl|(simp_all;done))
def zG(g:Int->Bool)(l:List Int):List Int:=l.filter λx=>!g x
def Qy0{g}{l:List Int}:(xz g l=-1/\zG g l=l)\/∃i,i<l.length/\xz g l=(i:Int)/\g (l.getD i 0)=true/\(l.take (i+1)).filter (λx=>!g x)=l.take i:=by
 unfold xz;cases h:l.findIdx? g with
 | none=>
  refine .inl ⟨rfl,y9.2 λx hx=>?_⟩;simp[Ej.1 h x hx]
 | some i=>
  obtain⟨a,b,d⟩:=CM.1 h;refine .inr ⟨i,a,rfl,by simpa[QW,a] using b,?_⟩;rw[iN l _ i a,Qc (by simpa[QW,a] using b)];refine y9.2 λx hx=>?_;obtain⟨j,c,rfl⟩:=vH hx;simp at c;simpa using d j ω
section
variable (h:List Ob)(l:List Int)(lo gn off:Nat)(row:Nat->List D)(hlen:l.length<1000000)(ho:h[lo]?=some ⟨.arr,gn,1,off+l.length,row⟩)(hr:∀i,i<l.length->row (off+i)=[Qa (l.getD i 0)])
include hlen ho hr
end
end Go.Fg.X
