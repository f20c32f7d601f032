/- Contracts and laws on the way to the statement. No conditions. -/
import Derived.Test.YtbemejcgkfieeaaGreatFgTellA
import Derived.Test.YtbemejcgkfieeaaGreatProg
import Derived.KernelRfl
import Derived.Deep.Slices
import Derived.ChangeArms
import Derived.OpenShut
import Derived.ProofKit
import Derived.ChangeOld
import Derived.Below
import Derived.WideShapes
import Derived.Laws.BytesString
import Derived.LoopN
import Derived.Shelf.Sort.Plain
import Derived.Shelf.Slices.In.SortNone
import Derived.Lib.SortBridge
import Derived.Laws.BitsAllLaws
set_option maxRecDepth 100000
set_option maxHeartbeats 16000000
set_option linter.unusedVariables false
set_option linter.unusedSimpArgs false
set_option linter.unusedSectionVars false
set_option linter.defProp false
namespace Go.Fg
open Go.RowKit (Below)
variable {Z:Nat->Prop}
def QF.DN{h M:List Ob}{K w}(m:∀(l:Nat) (o:Ob),h[l]?=some o->∃c,M[l]?=some c/\c.gen=o.gen/\c.sz=o.sz/\c.kd.ty=o.kd.ty){d v}(r:QF Z h K w d v):QF Z M K w d v:=by
 induction r with
 | cl d v O=>exact .cl d v O
 | ref l g H I o p a J u t y z s=>obtain⟨c,C,k,F,B⟩:=m l o u;exact .ref l g H I c p a J C t (by rw[B];exact y) (by rw[k];exact z) (λe=>by rw[F];exact s (by rw[e,k]))
 | ptr l g i j o p a u t y z s=>obtain⟨c,C,k,F,B⟩:=m l o u;exact .ptr l g i j c p a C t (by rw[B];exact y) (by rw[k];exact z) (λe=>by rw[F];exact s (by rw[e,k]))
 | mref l g o p b u t y z s=>obtain⟨c,C,k,F,B⟩:=m l o u;exact .mref l g c p b C t (by rw[B];exact y) (by rw[k];exact z) (λe=>s (by rw[e,k]))
 | clo f N E n x L q=>exact .clo f N E n x q
 | agg E n x L q=>exact .agg E n x q
 | tup E n x L q=>exact .tup E n x q
def Jf{h:List Ob}{l:Nat}{o:Ob}(e:h[l]?=some o):(h.map Ob.ro)[l]?=some o.ro:=by rw[KR,e];rfl
def HF{h:List Ob}{l:Nat}{o:Ob}(e:(h.map Ob.ro)[l]?=some o):∃a,h[l]?=some a/\o=a.ro:=by rw[KR,WK]at e;obtain⟨a,c,b⟩:=e;exact⟨a,c,b.symm⟩
@[go_sem] theorem QIM(k:Kd)(g z n r):Ob.ro ⟨k,g,z,n,r⟩=⟨k.toRo,g,z,n,r⟩:=rfl
theorem ro_ro(o:Ob):o.ro.ro=o.ro:=by obtain⟨k,g,z,n,r⟩:=o;cases k<;>rfl
def Xo(P:Program)(f:FuncId)(h:List Ob)(a:List D)(R:D->List Ob->Prop):Prop:=
 QO P f (h.map Ob.ro) a λd b=>∃g,b=h.map Ob.ro++g/\R d g
def Xo.mono{P f h a R b}(e:Xo P f h a R)(c:∀d g,R d g->b d g):Xo P f h a b:=QO.mono e λ_ _ ⟨g,j,i⟩=>⟨g,j,c _ _ i⟩
section
variable {P:Program}{base nt:Nat}{w0:Start}{Q:Exit->St->Prop}
def QeH(W:base<=w0.w.heap.size){o:Oper}{s x c}{V:Array TypeId}{f l u}(J:Qm P f)(H:o.op=.call ⟨.value x,c,V⟩)
  (E:JP (Qr s.fr x)=some (f,l,u)) {R:D->List Ob->Prop} (S:QO P f s.h (Jh l u (c.toList.map (Qr s.fr))) R)
  (n:Zr nt o.dst=true) (g:List Pl) (a:Act) (w:World) (r:Rel Z base nt s g a w) (b:Vn Z base w0 s.h g w) (Y:Exit->Act->World->Prop) :
  o.wp P a w (λq k=>∃d h j,R d h/\Rel Z base nt ⟨Zi s.fr o.dst d,h⟩ j q k/\Vn Z base w0 h j k/\Tr s.h g w h j k/\∃v,q=a.put o.dst v) Y:=by
 obtain⟨B,F,z,Fp⟩:=SZ (r.eval x) E;have y:base<=w.heap.size:=J5 W b.1.size;obtain⟨C,JR⟩:=S3 (r:=λd v=>QF Z s.h g w d v) (nf:=l) z Fp (us:=c.toList.map a.eval) (args:=c.toList.map (Qr s.fr)) σ (λi I=>by
  have JH:i<c.toList.length:=by simpa using I
  simp only[nth,Q8,QU,KR];rw[QH JH];exact r.eval _)
 have M:=S Z base w g (Jh l B (c.toList.map a.eval)) y b.2.2.new r.o C JR;unfold Oper.wp;rw[S4 J H F w];simp only[Oper.upon_enter];refine M.mono λe k K=>?_;obtain⟨v,d,U,j,rfl,O,p,N,m,T⟩:=K;refine⟨d,U,j,O,?_,b.step m T,m,v,rfl⟩;cases L:o.dst with
 | none=>exact r.AI m p v
 | some t=>rw[L]at n;exact r.to m p (vE n) N
def z6(L:base<=w0.w.heap.size){k e}{o:TypeId}{pos g F r s x c}{J:Array TypeId}{f i m}(y:Qm P f)
  (u:JP (Qr s.fr x)=some (f,i,m)) {l:List D} (B:KN (Jh i m (c.toList.map (Qr s.fr))) l)
  {R:D->List Ob->Prop} (E:QO P f s.h l R) (v:Zr nt e=true) (j:∀d h,R d h->QA P base nt w0 Q (.ops r::k) .normal ⟨Zi s.fr e d,h⟩) :
  QA P base nt w0 Q (.ops ((⟨e,.call ⟨.value x,c,J⟩,o,pos,g,F⟩,none)::r)::k) .normal s:=by
 simp only[QA]at j ⊢;intro Z z t a w p b;simp only[qA,XM,Vu];exact Oper.wp_mono (λI n ⟨d,h,K,C,q,H,_⟩=>j d h C Z z K I n q H) (QeH L y rfl u (E.args B) v t a w p b _)
def QeI(Q6:base<=w0.w.heap.size){o:Oper}{s x k}{Zu:Array TypeId}{f I Qx}(hf:Qm P f)(h:o.op=.call ⟨.value x,k,Zu⟩)
  (hx:JP (Qr s.fr x)=some (f,I,Qx)) {R:D->List Ob->Prop} (hF:Xo P f s.h (Jh I Qx (k.toList.map (Qr s.fr))) R)
  (Y:Zr nt o.dst=true) (y:List Pl) (a:Act) (w:World) (r:Rel Z base nt s y a w) (b:Vn Z base w0 s.h y w) (Q':Exit->Act->World->Prop) :
  o.wp P a w (λa' E=>Ext w E/\∃d g B,R d g/\Rel Z base nt ⟨Zi s.fr o.dst d,s.h++g⟩ B a' E/\Vn Z base w0 (s.h++g) B E/\Tr s.h y w (s.h++g) B E/\∃v,a'=a.put o.dst v) Q':=by
 obtain⟨vs,hv,wO,Fp⟩:=SZ (r.eval x) hx;have S:base<=w.heap.size:=J5 Q6 b.1.size;obtain⟨q1,JR⟩:=S3 (r:=λd v=>QF Z s.h y w d v) (nf:=I) wO Fp (us:=k.toList.map a.eval) (args:=k.toList.map (Qr s.fr)) σ (λi L=>by
  have JH:i<k.toList.length:=by simpa using L
  simp only[nth,Q8,QU,KR];rw[QH JH];exact r.eval _)
 have W:∀(l:Nat) (o:Ob),s.h[l]?=some o->∃n,(s.h.map Ob.ro)[l]?=some n/\n.gen=o.gen/\n.sz=o.sz/\n.kd.ty=o.kd.ty:=λl o e=>⟨o.ro,Jf e,rfl,rfl,Kd.toRo_ty _⟩;have Tu:Zo Z w.heap.size (s.h.map Ob.ro) y w:=by refine⟨by simp[r.o.len],r.o.inj,λl o h u=>?_,λl o b q h u=>?_⟩;obtain⟨n,C,rfl⟩:=HF h;exact r.o.V7 l n C u;obtain⟨n,C,rfl⟩:=HF h;obtain⟨_,x⟩:=r.o.at_ l n b q C u;exact⟨λz=>(by rw[dO,Kd.toRo_ro]at z;cases z),x.to (Kd.toRo_ty _) rfl rfl rfl (λ_ _=>rfl) λi j v _ _ z=>z.DN W⟩
 have M:=hF Z w.heap.size w y (Jh I vs (k.toList.map a.eval)) (Qv _) b.2.2.new Tu q1 (λi L=>(JR i L).DN W);unfold Oper.wp;rw[S4 hf h hv w];simp only[Oper.upon_enter];refine M.mono λe E he=>?_;obtain⟨v,d,_,B,rfl,⟨g,rfl,hR⟩,F,hV,hT,J⟩:=he;have O:∀(l:Nat) (p:Pl),l<s.h.length->B[l]?=some p->y[l]?=some p:=λl p m e=>by
  have H:l<y.length:=by rw[r.o.len];exact m
  obtain⟨n,p',e1,K,_,_,e3⟩:=hT.obj l _ _ (Jf (QH m)) (QH H);rw[JX (zC m),Jf (QH m)]at e1;cases e1;obtain⟨_,e4⟩:=e3 rfl;rw[e]at K;cases K;rw[e4];exact QH H
 have pQ:∀(l:Nat) (p:Pl),l<s.h.length->y[l]?=some p->B[l]?=some p:=λl p m e=>by
  have H:l<B.length:=by have:=F.len;simp at this;omega
  have C:=O l _ m (QH H);rw[e]at C;cases C;exact QH H
 have T:Tr s.h y w (s.h++g) B E:=by refine⟨hT.Kz,λl o p h u=>⟨o,p,by rw[JX (KL h)];exact h,pQ l p (KL h) u,Qv _,rfl,λ_=>⟨rfl,rfl⟩⟩,λl o n b q h ZR hg u c el M=>⟨c,?_,rfl⟩⟩;rw[J.block b (r.o.lt u).1];exact M
 have V:∀(l:Nat) (o:Ob),(s.h.map Ob.ro++g)[l]?=some o->∃n,(s.h++g)[l]?=some n/\n.gen=o.gen/\n.sz=o.sz/\n.kd.ty=o.kd.ty:=λl o e=>by by_cases m:l<s.h.length;rw[JX (zC m)]at e;obtain⟨n,C,rfl⟩:=HF e;exact⟨n,by rw[JX m];exact C,rfl,rfl,(Kd.toRo_ty _).symm⟩;rw[Ks (zC m)]at e;exact⟨o,by rw[Ks ω];simpa using e,rfl,rfl,rfl⟩
 have LQ:Zo Z base (s.h++g) B E:=by
  refine⟨by have:=F.len;simpa using this,F.inj,λl o h u=>?_,λl o b q h u=>?_⟩;by_cases m:l<s.h.length;rw[JX m]at h;exact r.o.V7 l o h (O l _ m u);refine F.V7 l o ?_ u;rw[Ks ω]at h;rw[Ks (zC m)];simpa using h;by_cases m:l<s.h.length;rw[JX m]at h;have U:=O l _ m u;obtain⟨N,x⟩:=r.o.at_ l o b q h U;exact⟨N,x.to rfl rfl rfl (J.block b (r.o.lt U).1) (λ_ _=>rfl) λi j v _ _ z=>z.tr T⟩;have K:(s.h.map Ob.ro++g)[l]?=some o:=by rw[Ks ω]at h;rw[Ks (zC m)];simpa using h
  obtain⟨N,x⟩:=F.at_ l o b q K u;exact⟨λz=>J5 S (N z),x.to rfl rfl rfl rfl (λ_ _=>rfl) λi j v _ _ z=>z.DN V⟩
 refine⟨λb hb=>J.block b hb,d,g,B,hR,?_,b.step T (J.mono S),T,v,rfl⟩;cases hd:o.dst with
 | none=>exact r.AI T LQ v
 | some t=>rw[hd]at Y;exact r.to T LQ (vE Y) (hV.DN V)
def Xo.args{f h a b R}(c:Xo P f h b R)(e:KN a b):Xo P f h a R:=QO.args c e
def HG(M:base<=w0.w.heap.size){k e}{p:TypeId}{pos i H r s x c}{K:Array TypeId}{f j n}(B:Qm P f)
  (v:JP (Qr s.fr x)=some (f,j,n)) {m:List D} (C:KN (Jh j n (c.toList.map (Qr s.fr))) m)
  {R:D->List Ob->Prop} (F:Xo P f s.h m R) (y:Zr nt e=true) (l:∀d g,R d g->QA P base nt w0 Q (.ops r::k) .normal ⟨Zi s.fr e d,s.h++g⟩) :
  QA P base nt w0 Q (.ops ((⟨e,.call ⟨.value x,c,K⟩,p,pos,i,H⟩,none)::r)::k) .normal s:=by
 simp only[QA]at l ⊢;intro Z z u a w q b;simp only[qA,XM,Vu];exact Oper.wp_mono (λJ o ⟨_,d,h,L,E,t,I,_⟩=>l d h E Z z L J o t I) (QeI M B rfl v (F.args C) y u a w q b _)
def Tv(M:base<=w0.w.heap.size){K h}{m:TypeId}{pos i H r s x c}{J:Array TypeId}{f j l}(y:Qm P f)
  (q:JP (Qr s.fr x)=some (f,j,l)) {k:List D} (B:KN (Jh j l (c.toList.map (Qr s.fr))) k) {R:D->List Ob->Prop} (E:Xo P f s.h k R)
  (t:Zr nt h=true) (u:∀d g,R d g->AX P base nt w0 K r ⟨Zi s.fr h d,s.h++g⟩) :
  AX P base nt w0 K ((false,⟨h,.call ⟨.value x,c,J⟩,m,pos,i,H⟩,none)::r) s:=by
 simp only[AX,XA,zd];intro Z z p a w n b;exact Oper.wp_mono (λO N ⟨F,d,g,L,C,o,I,T,v,e⟩=>⟨λ_=>F,_,_,L,v,u d g C,o,I,T,e⟩) (QeI M y rfl q (E.args B) t p a w n b _)
def QqU(N:base<=w0.w.heap.size){k d}{n:TypeId}{pos f C r s x li l c es seen q}
  (H:Qr s.fr x=.mref li 0) (M:s.h[li]?=some (YT l c c seen)) {kd:Kd} (R:kd.ty=1) (L:s.h[l]?=some (WB kd q c es)) (p:Zr nt d=true)
  (y:(∀e∈es,e.b∈seen)->QA P base nt w0 Q (.ops r::k) .normal ⟨Zi s.fr d (.tup [.raw (.bool false)]),s.h⟩)
  (u:∀e∈es,e.b ∉ seen->QA P base nt w0 Q (.ops r::k) .normal ⟨Zi s.fr d (.tup [.raw (.bool true),.raw (.int q e.k),e.v]),s.h.set li (YT l c c (seen++[e.b]))⟩) :
  QA P base nt w0 Q (.ops ((⟨d,.next x false,n,pos,f,C⟩,none)::r)::k) .normal s:=by
 simp only[QA]at y u ⊢;intro Z z h a w g b;have E:base<=w.heap.size:=J5 N b.1.size;simp only[qA,XM,Vu];unfold Oper.wp;rcases Qpr (o:=⟨d,.next x false,n,pos,f,C⟩) rfl g E H M R L with ⟨m,j⟩|⟨e,K,m,v,F,j,T,O,V,B⟩;rw[j];simp only[Oper.upon_value];refine y m Z z h _ w ?_ b;have I:QF Z s.h h w (.tup [.raw (.bool false)]) (.tuple #[.bool false]):=.tup _ [.bool false] rfl λi J=>match i,J with
  | 0,_=>.cl _ _ (.raw _)
 cases d with
 | none=>exact g.AI (Tr.refl _ _ _) g.o _
 | some t=>exact g.to (Tr.refl _ _ _) g.o (vE p) I
 rw[j];simp only[Oper.upon_value];refine u e K m Z z h _ F ?_ (b.step T B);cases d with
 | none=>exact g.AI T O _
 | some t=>exact g.to T O (vE p) V
end
def Zl(P:Program)(f:FuncId)(h:List Ob)(a:List D)(R:D->Prop):Prop:=Xo P f h a λd _=>d.upto h.length=true/\R d
def Zl.mono{P f}{h:List Ob}{a R b}(e:Zl P f h a R)(c:∀d,R d->b d):Zl P f h a b:=Xo.mono e λ_ _ h=>⟨h.1,c _ h.2⟩
def Zl.args{P f h a b R}(c:Zl P f h b R)(e:KN a b):Zl P f h a R:=Xo.args c e
section
variable {P:Program}{base nt:Nat}{w0:Start}{Q:Exit->St->Prop}
def QeJ(Q6:base<=w0.w.heap.size){o:Oper}{s x c}{Zu:Array TypeId}{f z N}(hf:Qm P f)(u:o.op=.call ⟨.value x,c,Zu⟩)
  (hx:JP (Qr s.fr x)=some (f,z,N)) {R:D->Prop} (hF:Zl P f s.h (Jh z N (c.toList.map (Qr s.fr))) R)
  (J:Zr nt o.dst=true) (k:List Pl) (a:Act) (w:World) (r:Rel Z base nt s k a w) (b:Vn Z base w0 s.h k w) (Q':Exit->Act->World->Prop) :
  o.wp P a w (λL p=>Ext w p/\∃d,R d/\Rel Z base nt ⟨Zi s.fr o.dst d,s.h⟩ k L p/\Vn Z base w0 s.h k p/\Tr s.h k w s.h k p/\∃v,L=a.put o.dst v) Q':=by
 obtain⟨U,hv,T,Fp⟩:=SZ (r.eval x) hx;have S:base<=w.heap.size:=J5 Q6 b.1.size;obtain⟨V,JR⟩:=S3 (r:=λd v=>QF Z s.h k w d v) (nf:=z) T Fp (us:=c.toList.map a.eval) (args:=c.toList.map (Qr s.fr)) σ (λi m=>by
  have JH:i<c.toList.length:=by simpa using m
  simp only[nth,Q8,QU,KR];rw[QH JH];exact r.eval _)
 have I:∀(l:Nat) (o:Ob),s.h[l]?=some o->∃h,(s.h.map Ob.ro)[l]?=some h/\h.gen=o.gen/\h.sz=o.sz/\h.kd.ty=o.kd.ty:=λl o e=>⟨o.ro,Jf e,rfl,rfl,Kd.toRo_ty _⟩;have k3:∀(g:List Ob) (l:Nat) (o:Ob),(s.h.map Ob.ro++g)[l]?=some o->∃h,(s.h++g)[l]?=some h/\h.gen=o.gen/\h.sz=o.sz/\h.kd.ty=o.kd.ty:=λg l o e=>by by_cases E:l<s.h.length;rw[JX (zC E)]at e;obtain⟨h,n,rfl⟩:=HF e;exact⟨h,by rw[JX E];exact n,rfl,rfl,(Kd.toRo_ty _).symm⟩;rw[Ks (zC E)]at e;exact⟨o,by rw[Ks ω];simpa using e,rfl,rfl,rfl⟩
 have Tu:Zo Z w.heap.size (s.h.map Ob.ro) k w:=by refine⟨by simp[r.o.len],r.o.inj,λl o u C=>?_,λl o b q u C=>?_⟩;obtain⟨h,n,rfl⟩:=HF u;exact r.o.V7 l h n C;obtain⟨h,n,rfl⟩:=HF u;obtain⟨_,x⟩:=r.o.at_ l h b q n C;exact⟨λB=>(by rw[dO,Kd.toRo_ro]at B;cases B),x.to (Kd.toRo_ty _) rfl rfl rfl (λ_ _=>rfl) λi j v _ _ B=>B.DN I⟩
 have hc:=hF Z w.heap.size w k (Jh z U (c.toList.map a.eval)) (Qv _) b.2.2.new Tu V (λi m=>(JR i m).DN I);unfold Oper.wp;rw[S4 hf u hv w];simp only[Oper.upon_enter];refine hc.mono λe p he=>?_;obtain⟨v,d,_,Qk,rfl,⟨g,rfl,hu,hR⟩,hO,hV,hT,K⟩:=he;have F:Ext w p:=λb hb=>K.block b hb;have M:Tr s.h k w s.h k p:=Tr.ext r.o F;have Ce:QF Z s.h k p d v:=by
  have n:=hV.take hu;have e1:(s.h.map Ob.ro++g).take s.h.length=s.h.map Ob.ro:=List.take_left' σ;have e2:Qk.take s.h.length=k:=by
   apply AA;intro i;rw[XJ];by_cases m:i<s.h.length;rw[Qe m];have O:i<k.length:=by rw[r.o.len];exact m
   obtain⟨h,p',H,Y,_,_,W⟩:=hT.obj i _ _ (Jf (QH m)) (QH O);rw[JX (zC m),Jf (QH m)]at H;cases H;obtain⟨_,rfl⟩:=W rfl;rw[Y,QH O];rw[Qd m,EW (by rw[r.o.len];omega)]
  rw[e1,e2]at n;exact n.DN λl o e=>by obtain⟨h,n,rfl⟩:=HF e;exact⟨h,n,rfl,rfl,(Kd.toRo_ty _).symm⟩
 refine⟨F,d,hR,?_,b.step M (K.mono S),M,v,rfl⟩;have y:=r.ext F;cases hd:o.dst with
 | none=>exact y.AI (Tr.refl _ _ _) y.o v
 | some t=>rw[hd]at J;exact y.to (Tr.refl _ _ _) y.o (vE J) Ce
def X4(J:base<=w0.w.heap.size){k e}{o:TypeId}{pos g E r s x c}{I:Array TypeId}{f i m}(v:Qm P f)
  (t:JP (Qr s.fr x)=some (f,i,m)) {l:List D} (y:KN (Jh i m (c.toList.map (Qr s.fr))) l)
  {R:D->Prop} (C:Zl P f s.h l R) (u:Zr nt e=true) (j:∀d,R d->QA P base nt w0 Q (.ops r::k) .normal ⟨Zi s.fr e d,s.h⟩) :
  QA P base nt w0 Q (.ops ((⟨e,.call ⟨.value x,c,I⟩,o,pos,g,E⟩,none)::r)::k) .normal s:=by
 simp only[QA]at j ⊢;intro Z z h a w p b;simp only[qA,XM,Vu];exact Oper.wp_mono (λH n ⟨_,d,B,q,F,_⟩=>j d B Z z h H n q F) (QeJ J v rfl t (C.args y) u h a w p b _)
def Pf(J:base<=w0.w.heap.size){K g}{m:TypeId}{pos h F r s x c}{I:Array TypeId}{f j l}(u:Qm P f)
  (p:JP (Qr s.fr x)=some (f,j,l)) {k:List D} (y:KN (Jh j l (c.toList.map (Qr s.fr))) k) {R:D->Prop} (C:Zl P f s.h k R)
  (q:Zr nt g=true) (t:∀d,R d->AX P base nt w0 K r ⟨Zi s.fr g d,s.h⟩) :
  AX P base nt w0 K ((false,⟨g,.call ⟨.value x,c,I⟩,m,pos,h,F⟩,none)::r) s:=by
 simp only[AX,XA,zd];intro Z z i a w n b;exact Oper.wp_mono (λM L ⟨E,d,B,o,H,T,v,e⟩=>⟨λ_=>E,_,_,i,v,t d B,o,H,T,e⟩) (QeJ J u rfl p (C.args y) q i a w n b _)
end
def Qb{h:List Ob}{l o}(e:h[l]?=some o):l<h.length:=KL e
def QG{h t:List Ob}{l}(a:l<h.length):(h++t)[l]? = h[l]? := JX a
def Vq{h t:List Ob}{n}(a:h.length=n):(h++t)[n]? = t[0]? := by rw[<-a,Ks (Qv _),YO]
def VS{h t:List Ob}{n k}(a:h.length=n):(h++t)[n+k]? = t[k]? := by rw[<-a,Ks ω,cw]
def DO{h t:List Ob}{l o}(a:l<h.length):(h++t).set l o=h.set l o++t:=cn _ _ a
def fA{h t:List Ob}{n o}(a:h.length=n):(h++t).set n o=h++t.set 0 o:=by rw[<-a,Li _ _ (Qv _),YO]
def QqV{h t:List Ob}{n k o}(a:h.length=n):(h++t).set (n+k) o=h++t.set k o:=by rw[<-a,Li _ _ ω,cw]
def QI{h:List Ob}{l o}(a:l<h.length):(h.set l o)[l]?=some o:=Xi a
def Qo{h:List Ob}{l m o}(a:l≠m):(h.set l o)[m]? = h[m]? := JT a
def QqW{P:Program}{X}(r:q9 P X){f}{e:Func}{c}(n)(q:P.funcs[f]?=some e)(k:e.body=some c){h}{b:List D}{R j l}(v:e.ntmps=j)(x:e.results=l)(o:Nat.ble b.length j=true)
  (p:∀(a:Nat) (w:World) (i:List Pl) (F:List Ob),F=h.map Ob.ro->F.length=h.length->a<=w.heap.size->hx P a ⟨w,F,i⟩ (AW X.L l.toList λd m=>∃g,m=F++g/\d.upto F.length=true/\R d) X j n [.code c] ⟨kx b 0,F⟩):Zl P f h b R:=
 (pI r n q k v x o λa w i k=>p a w i _ rfl σ k).mono λd m ⟨g,u,t,s⟩=>⟨g,u,by simpa using t,s⟩
def Cg{P:Program}{X}(q:q9 P X){f}{e:Func}{c}(n)(p:P.funcs[f]?=some e)(k:e.body=some c){h}{b:List D}{R j l}(s:e.ntmps=j)(t:e.results=l)(m:Nat.ble b.length j=true)
  (o:∀(a:Nat) (w:World) (i:List Pl) (F:List Ob),F=h.map Ob.ro->F.length=h.length->a<=w.heap.size->hx P a ⟨w,F,i⟩ (AW X.L l.toList λd r=>∃g,r=F++g/\R d g) X j n [.code c] ⟨kx b 0,F⟩):Xo P f h b R:=
 pI q n p k s t m λa w i k=>o a w i _ rfl σ k
attribute [go_sem] eu ez xN Hp ei Qdp Qdq Qdo Qpu Qdr Qpv Qpw dV dW OF Hj dZ eh oX Qdd oW Qdc Qde oY Qdf Qpd Qpe Qpf Qpg dO Qph Qpi ro_ro Dt
def Qj:(∀{h t:List Ob} {l:Nat},l<h.length->(h++t)[l]? = h[l]?)/\(∀{h t:List Ob} {n:Nat},h.length=n->(h++t)[n]? = t[0]?)/\(∀{h t:List Ob} {n k:Nat},h.length=n->(h++t)[n+k]? = t[k]?)/\(∀{h t:List Ob} {l:Nat} {o:Ob},l<h.length->(h++t).set l o=h.set l o++t)/\(∀{h t:List Ob} {n:Nat} {o:Ob},h.length=n->(h++t).set n o=h++t.set 0 o)/\(∀{h t:List Ob} {n k:Nat} {o:Ob},h.length=n->(h++t).set (n+k) o=h++t.set k o)/\(∀{d:Type} {a b:List d},(a++b).length=a.length+b.length)/\(∀{d:Type} {i:Nat} {a:d} {l:List d},(l.set i a).length=l.length)/\(∀{d:Type} (a b c:List d),a++b++c=a++(b++c))/\(∀{d:Type} {a b:d} (l:List d) {i:Nat},(l.set i a).set i b=l.set i b):=
 ⟨QG,Vq,VS,DO,fA,QqV,Zn,Ky,WJ,λ_=>J4 _⟩
end Go.Fg
namespace Go.Fg.X
open Go.Proofs Go.Fg
open Go.Proofs.Tryz
def zi:Value:=.int .i64 0
def zu:Value:=.int .u64 0
def zh:Value:=.int .u16 0
def zb:Value:=.bool false
def zp:Value:=.pointer none
def zc:Value:=.int .u8 0
def zs:Value:=.slice none 0 0
def zm:Value:=.map none
def Y1:Ty:=⟨.fn,1,8,[.nilFunc]⟩
def Y2:Ty:=⟨.int .i64,1,8,[zi]⟩
def Y4:Ty:=⟨.bool,1,1,[zb]⟩
def Y5:Ty:=⟨.int .u8,1,1,[zc]⟩
def Y9:Ty:=⟨.str,1,16,[.string ByteArray.empty]⟩
def HH:Ty:=⟨.int .u64,1,8,[zu]⟩
def Y17:Ty:=⟨.ptr 410,1,8,[zp]⟩
def Y20:Ty:=⟨.iface,1,16,[.nilIface]⟩
def Y21:Ty:=⟨.int .i32,1,4,[.int .i32 0]⟩
def Pg:Ty:=⟨.struct [(0,3),(1,3)],2,16,[zi,zi]⟩
def Y24:Ty:=⟨.slice 67,1,24,[zs]⟩
def fB:Ty:=⟨.struct [(0,23),(2,24)],3,40,[zi,zi,zs]⟩
def Y27:Ty:=⟨.slice 45,1,24,[zs]⟩
def Y32:Ty:=⟨.slice 82,1,24,[zs]⟩
def Y33:Ty:=⟨.slice 62,1,24,[zs]⟩
def fC:Ty:=⟨.struct [(0,32),(1,33)],2,48,[zs,zs]⟩
def Ph:Ty:=⟨.struct [(0,40),(1,40),(2,40)],3,24,[zu,zu,zu]⟩
def fD:Ty:=⟨.struct [(0,3),(1,3),(2,4),(3,43),(6,43),(9,43),(12,3),(13,3)],14,112,[zi,zi,zb,zu,zu,zu,zu,zu,zu,zu,zu,zu,zi,zi]⟩
def Y49:Ty:=⟨.slice 3,1,24,[zs]⟩
def fF:Ty:=⟨.struct [(0,3),(1,4)],2,16,[zi,zb]⟩
def Y56:Ty:=⟨.int .u16,1,2,[zh]⟩
def fG:Ty:=⟨.array 4 56,4,8,[zh,zh,zh,zh]⟩
def Y60:Ty:=⟨.struct [(0,40),(1,3),(2,58)],6,24,[zu,zi,zh,zh,zh,zh]⟩
def fH:Ty:=⟨.struct [(0,3),(1,4),(2,4),(3,40),(4,40),(5,3),(6,60)],12,64,[zi,zb,zb,zu,zu,zi,zu,zi,zh,zh,zh,zh]⟩
def Y64:Ty:=⟨.slice 75,1,24,[zs]⟩
def Y65:Ty:=⟨.slice 77,1,24,[zs]⟩
def Y67:Ty:=⟨.struct [(0,3),(1,64),(2,65),(3,60),(9,40)],10,88,[zi,zs,zs,zu,zi,zh,zh,zh,zh,zu]⟩
def Y71:Ty:=⟨.struct [(0,27),(1,3),(2,3)],3,40,[zs,zi,zi]⟩
def Y75:Ty:=⟨.struct [(0,3),(1,45)],15,120,[zi,zi,zi,zb,zu,zu,zu,zu,zu,zu,zu,zu,zu,zi,zi]⟩
def fI:Ty:=⟨.struct [(0,58),(4,58),(8,3)],9,24,[zh,zh,zh,zh,zh,zh,zh,zh,zi]⟩
def Y78:Ty:=⟨.ptr 117,1,8,[zp]⟩
def fJ:Ty:=⟨.struct [(0,36),(1,3),(2,3)],3,24,[zi,zi,zi]⟩
def Y86:Ty:=⟨.slice 89,1,24,[zs]⟩
def fK:Ty:=⟨.struct [(0,40),(1,40),(2,3),(3,3),(4,4)],5,40,[zu,zu,zi,zi,zb]⟩
def fM:Ty:=⟨.array 4 40,4,32,[zu,zu,zu,zu]⟩
def fN:Ty:=⟨.struct [(0,27),(1,3)],2,32,[zs,zi]⟩
def Qe1:Ty:=⟨.slice 43,1,24,[zs]⟩
def Qe2:Ty:=⟨.ptr 146,1,8,[zp]⟩
def Qe3:Ty:=⟨.ptr 151,1,8,[zp]⟩
def Qe4:Ty:=⟨.ptr 155,1,8,[zp]⟩
def Qe5:Ty:=⟨.ptr 162,1,8,[zp]⟩
def fO:Ty:=⟨.struct [(0,105),(1,108),(2,111),(3,114),(4,40),(5,3)],6,48,[zp,zp,zp,zp,zu,zi]⟩
def fQ:Ty:=⟨.struct [(0,40),(1,4)],2,16,[zu,zb]⟩
def Qe6:Ty:=⟨.ptr 194,1,8,[zp]⟩
def Qe7:Ty:=⟨.map 3 172,1,8,[zm]⟩
def Qe8:Ty:=⟨.ptr 199,1,8,[zp]⟩
def Qe9:Ty:=⟨.ptr 201,1,8,[zp]⟩
def Qfa:Ty:=⟨.map 3 141,1,8,[zm]⟩
def Qfb:Ty:=⟨.ptr 206,1,8,[zp]⟩
def Qfc:Ty:=⟨.struct [(0,23),(2,136),(3,138),(4,144),(5,139),(6,143),(7,40),(8,40)],9,72,[zi,zi,zp,zm,zp,zp,zm,zu,zu]⟩
def Qfd:Ty:=⟨.struct [(0,149),(3,3),(4,40)],5,40,[zu,zu,zu,zi,zu]⟩
def Qfe:Ty:=⟨.map 58 3,1,8,[zm]⟩
def Qff:Ty:=⟨.struct [(0,65),(1,153),(2,49)],3,56,[zs,zm,zs]⟩
def Qfg:Ty:=⟨.map 3 187,1,8,[zm]⟩
def Qfh:Ty:=⟨.map 3 293,1,8,[zm]⟩
def Qfi:Ty:=⟨.struct [(0,159),(1,160)],2,16,[zm,zm]⟩
def Qfj:Ty:=⟨.ptr 234,1,8,[zp]⟩
def Qfk:Ty:=⟨.slice 40,1,24,[zs]⟩
def Qfl:Ty:=⟨.map 3 45,1,8,[zm]⟩
def Qfm:Ty:=⟨.struct [(0,192)],1,8,[zm]⟩
def Qfn:Ty:=⟨.ptr 255,1,8,[zp]⟩
def Qfo:Ty:=⟨.map 3 327,1,8,[zm]⟩
def fR:Ty:=⟨.struct [(0,195),(1,197)],2,16,[zp,zm]⟩
def Qfp:Ty:=⟨.map 3 209,1,8,[zm]⟩
def Qfq:Ty:=⟨.map 3 3,1,8,[zm]⟩
def Qfr:Ty:=⟨.map 3 203,1,8,[zm]⟩
def Qfs:Ty:=⟨.struct [(0,202),(1,203),(2,204)],3,24,[zm,zm,zm]⟩
def Qft:Ty:=⟨.ptr 273,1,8,[zp]⟩
def Qfu:Ty:=⟨.struct [(0,40),(1,40)],2,16,[zu,zu]⟩
def Qfv:Ty:=⟨.struct [(0,40),(1,222),(3,40)],4,32,[zu,zu,zu,zu]⟩
def Qfw:Ty:=⟨.struct [(0,224),(4,224),(8,4)],9,72,[zu,zu,zu,zu,zu,zu,zu,zu,zb]⟩
def Qfx:Ty:=⟨.struct [(0,4),(1,226),(10,226),(19,40),(20,40),(21,40)],22,176,[zb,zu,zu,zu,zu,zu,zu,zu,zu,zb,zu,zu,zu,zu,zu,zu,zu,zu,zb,zu,zu,zu]⟩
def fS:Ty:=⟨.struct [(0,4),(1,226),(10,40)],11,88,[zb,zu,zu,zu,zu,zu,zu,zu,zu,zb,zu]⟩
def Qfy:Ty:=⟨.struct [(0,220),(1,45),(15,40),(16,228),(38,230),(49,232)],60,480,[zp,zi,zi,zb,zu,zu,zu,zu,zu,zu,zu,zu,zu,zi,zi,zu,zb,zu,zu,zu,zu,zu,zu,zu,zu,zb,zu,zu,zu,zu,zu,zu,zu,zu,zb,zu,zu,zu,zb,zu,zu,zu,zu,zu,zu,zu,zu,zb,zu,zb,zu,zu,zu,zu,zu,zu,zu,zu,zb,zu]⟩
def Qfz:Ty:=⟨.struct [(0,3),(1,60),(7,4)],8,40,[zi,zu,zi,zh,zh,zh,zh,zb]⟩
def QfA:Ty:=⟨.ptr 364,1,8,[zp]⟩
def QfB:Ty:=⟨.struct [(0,253)],1,8,[zp]⟩
def QfC:Ty:=⟨.slice 49,1,24,[zs]⟩
def QfD:Ty:=⟨.ptr 318,1,8,[zp]⟩
def QfE:Ty:=⟨.struct [(0,40),(1,40),(2,40),(3,40),(4,40),(5,40)],6,48,[zu,zu,zu,zu,zu,zu]⟩
def QfF:Ty:=⟨.struct [(0,269),(1,3),(2,3),(3,271)],9,72,[zp,zi,zi,zu,zu,zu,zu,zu,zu]⟩
def QfG:Ty:=⟨.struct [(0,40),(1,40),(2,40),(3,40),(4,40)],5,40,[zu,zu,zu,zu,zu]⟩
def QfH:Ty:=⟨.int .u32,1,4,[.int .u32 0]⟩
def QfI:Ty:=⟨.slice 60,1,24,[zs]⟩
def QfJ:Ty:=⟨.struct [(0,316),(1,3),(2,3)],3,40,[zs,zi,zi]⟩
def QfK:Ty:=⟨.struct [(0,40),(1,3)],2,16,[zu,zi]⟩
def QfL:Ty:=⟨.struct [(0,325),(2,325)],4,32,[zu,zi,zu,zi]⟩
def QfM:Ty:=⟨.ptr 149,1,8,[zp]⟩
def QfN:Ty:=⟨.array 3 43,9,72,[zu,zu,zu,zu,zu,zu,zu,zu,zu]⟩
def QfO:Ty:=⟨.ptr 3,1,8,[zp]⟩
def QfP:Ty:=⟨.array 2 253,2,16,[zp,zp]⟩
def QfQ:Ty:=⟨.struct [(0,327),(4,362),(6,327),(10,3),(11,3)],12,96,[zu,zi,zu,zi,zp,zp,zu,zi,zu,zi,zi,zi]⟩
def QfR:Ty:=⟨.array 2 224,8,64,[zu,zu,zu,zu,zu,zu,zu,zu]⟩
def QfS:Ty:=⟨.ptr 351,1,8,[zp]⟩
attribute[go_sem]zi zu zh zb zp zc zs zm Y1 Y2 Y4 Y5 Y9 HH Y17 Y20 Y21 Pg Y24 fB Y27 Y32 Y33 fC Ph fD Y49 fF Y56 fG Y60 fH Y64 Y65 Y67 Y71 Y75 fI Y78 fJ Y86 fK fM fN Qe1 Qe2 Qe3 Qe4 Qe5 fO fQ Qe6 Qe7 Qe8 Qe9 Qfa Qfb Qfc Qfd Qfe Qff Qfg Qfh Qfi Qfj Qfk Qfl Qfm Qfn Qfo fR Qfp Qfq Qfr Qfs Qft Qfu Qfv Qfw Qfx fS Qfy Qfz QfA QfB QfC QfD QfE QfF QfG QfH QfI QfJ QfK QfL QfM QfN QfO QfP QfQ QfR QfS
def lay:Jt:=[(1,Y1),(2,Y2),(3,Y2),(4,Y4),(5,Y5),(9,Y9),(12,HH),(17,Y17),(20,Y20),(21,Y21),(22,Pg),(23,Pg),(24,Y24),(25,fB),(26,fB),(27,Y27),(29,Y1),(30,Y1),(31,Y1),(32,Y32),(33,Y33),(34,fC),(35,fC),(36,Y2),(38,Y1),(39,Y1),(40,HH),(41,Y1),(42,Ph),(43,Ph),(44,fD),(45,fD),(46,Y1),(48,Y1),(49,Y49),(50,Y1),(51,Y1),(52,fF),(53,fF),(54,Y1),(55,Y1),(56,Y56),(57,fG),(58,fG),(60,Y60),(61,fH),(62,fH),(63,Y1),(64,Y64),(65,Y65),(67,Y67),(71,Y71),(73,Y1),(75,Y75),(76,fI),(77,fI),(78,Y78),(81,fJ),(82,fJ),(84,Y1),(86,Y86),(88,fK),(89,fK),(90,fM),(91,fM),(94,Y1),(97,Y1),(98,Y1),(99,fN),(100,fN),(101,Y1),(102,Y1),(103,Qe1),(104,Y1),(105,Qe2),(108,Qe3),(110,Y1),(111,Qe4),(114,Qe5),(116,fO),(117,fO),(118,Y1),(121,Y1),(122,Y1),(133,fQ),(134,fQ),(135,Y1),(136,Qe6),(138,Qe7),(139,Qe8),(141,Qe9),(143,Qfa),(144,Qfb),(146,Qfc),(149,Ph),(151,Qfd),(153,Qfe),(155,Qff),(159,Qfg),(160,Qfh),(162,Qfi),(167,Y1),(168,Y1),(172,Qfj),(187,Qfk),(192,Qfl),(194,Qfm),(195,Qfn),(197,Qfo),(199,fR),(201,fR),(202,Qfp),(203,Qfq),(204,Qfr),(206,Qfs),(207,Y1),(209,Pg),(220,Qft),(222,Qfu),(224,Qfv),(226,Qfw),(228,Qfx),(230,fS),(232,fS),(234,Qfy),(243,Qfz),(253,QfA),(255,QfB),(257,Y1),(263,QfC),(267,HH),(269,QfD),(271,QfE),(273,QfF),(293,QfG),(296,Y2),(306,Y2),(314,QfH),(316,QfI),(318,QfJ),(319,Y1),(325,QfK),(327,QfL),(338,QfM),(342,QfN),(350,Y1),(351,HH),(354,QfO),(362,QfP),(364,QfQ),(365,Y1),(368,QfR),(374,QfS)]
def QfT{P:Program}:∀{L:Jt},L.map (λp=>(P.underlying p.1).map TK.of)=L.map (λp=>some p.2.k)->L.map (λp=>(P.info? p.1).map λi=>(i.size,i.bytes,i.zero.map λz=>z.cells.toList))=L.map (λp=>some (p.2.size,p.2.bytes,some p.2.zero))->L.map (λp=>((P.info? p.1).bind (·.zero)).map cK)=L.map (λp=>some p.2.k.agg)->Jm P L
 | [],_,_,_=>.nil _
 | (_,_)::_,c,b,a=>.cons ⟨(xF c).1,(xF b).1,(xF a).1⟩ (QfT (xF c).2 (xF b).2 (xF a).2)
def Ch:Jm prog lay:=QfT τ τ τ
theorem L1:ty lay 1=some Y1:=rfl
theorem L2:ty lay 2=some Y2:=rfl
theorem L3:ty lay 3=some Y2:=rfl
theorem L4:ty lay 4=some Y4:=rfl
theorem L5:ty lay 5=some Y5:=rfl
theorem L9:ty lay 9=some Y9:=rfl
theorem L12:ty lay 12=some HH:=rfl
theorem L17:ty lay 17=some Y17:=rfl
theorem L20:ty lay 20=some Y20:=rfl
theorem L21:ty lay 21=some Y21:=rfl
theorem L22:ty lay 22=some Pg:=rfl
theorem L23:ty lay 23=some Pg:=rfl
theorem L24:ty lay 24=some Y24:=rfl
theorem L25:ty lay 25=some fB:=rfl
theorem L26:ty lay 26=some fB:=rfl
theorem L27:ty lay 27=some Y27:=rfl
theorem L29:ty lay 29=some Y1:=rfl
theorem L30:ty lay 30=some Y1:=rfl
theorem L31:ty lay 31=some Y1:=rfl
theorem L32:ty lay 32=some Y32:=rfl
theorem L33:ty lay 33=some Y33:=rfl
theorem L34:ty lay 34=some fC:=rfl
theorem L35:ty lay 35=some fC:=rfl
theorem L36:ty lay 36=some Y2:=rfl
theorem L38:ty lay 38=some Y1:=rfl
theorem L39:ty lay 39=some Y1:=rfl
theorem L40:ty lay 40=some HH:=rfl
theorem L41:ty lay 41=some Y1:=rfl
theorem L42:ty lay 42=some Ph:=rfl
theorem L43:ty lay 43=some Ph:=rfl
theorem L44:ty lay 44=some fD:=rfl
theorem L45:ty lay 45=some fD:=rfl
theorem L46:ty lay 46=some Y1:=rfl
theorem L48:ty lay 48=some Y1:=rfl
theorem L49:ty lay 49=some Y49:=rfl
theorem L50:ty lay 50=some Y1:=rfl
theorem L51:ty lay 51=some Y1:=rfl
theorem L52:ty lay 52=some fF:=rfl
theorem L53:ty lay 53=some fF:=rfl
theorem L54:ty lay 54=some Y1:=rfl
theorem L55:ty lay 55=some Y1:=rfl
theorem L56:ty lay 56=some Y56:=rfl
theorem L57:ty lay 57=some fG:=rfl
theorem L58:ty lay 58=some fG:=rfl
theorem L60:ty lay 60=some Y60:=rfl
theorem L61:ty lay 61=some fH:=rfl
theorem L62:ty lay 62=some fH:=rfl
theorem L63:ty lay 63=some Y1:=rfl
theorem L64:ty lay 64=some Y64:=rfl
theorem L65:ty lay 65=some Y65:=rfl
theorem L67:ty lay 67=some Y67:=rfl
theorem L71:ty lay 71=some Y71:=rfl
theorem L73:ty lay 73=some Y1:=rfl
theorem L75:ty lay 75=some Y75:=rfl
theorem L76:ty lay 76=some fI:=rfl
theorem L77:ty lay 77=some fI:=rfl
theorem L78:ty lay 78=some Y78:=rfl
theorem L81:ty lay 81=some fJ:=rfl
theorem L82:ty lay 82=some fJ:=rfl
theorem L84:ty lay 84=some Y1:=rfl
theorem L86:ty lay 86=some Y86:=rfl
theorem L88:ty lay 88=some fK:=rfl
theorem L89:ty lay 89=some fK:=rfl
theorem L90:ty lay 90=some fM:=rfl
theorem L91:ty lay 91=some fM:=rfl
theorem L94:ty lay 94=some Y1:=rfl
theorem L97:ty lay 97=some Y1:=rfl
theorem L98:ty lay 98=some Y1:=rfl
theorem L99:ty lay 99=some fN:=rfl
theorem QrY:ty lay 100=some fN:=rfl
theorem QrZ:ty lay 101=some Y1:=rfl
theorem Qr0:ty lay 102=some Y1:=rfl
theorem Qr1:ty lay 103=some Qe1:=rfl
theorem Qr2:ty lay 104=some Y1:=rfl
theorem Qr3:ty lay 105=some Qe2:=rfl
theorem Qr4:ty lay 108=some Qe3:=rfl
theorem Qr5:ty lay 110=some Y1:=rfl
theorem Qr6:ty lay 111=some Qe4:=rfl
theorem Qr7:ty lay 114=some Qe5:=rfl
theorem Qr8:ty lay 116=some fO:=rfl
theorem Qr9:ty lay 117=some fO:=rfl
theorem Qsa:ty lay 118=some Y1:=rfl
theorem Qsb:ty lay 121=some Y1:=rfl
theorem Qsc:ty lay 122=some Y1:=rfl
theorem Qsd:ty lay 133=some fQ:=rfl
theorem Qse:ty lay 134=some fQ:=rfl
theorem Qsf:ty lay 135=some Y1:=rfl
theorem Qsg:ty lay 136=some Qe6:=rfl
theorem Qsh:ty lay 138=some Qe7:=rfl
theorem Qsi:ty lay 139=some Qe8:=rfl
theorem Qsj:ty lay 141=some Qe9:=rfl
theorem Qsk:ty lay 143=some Qfa:=rfl
theorem Qsl:ty lay 144=some Qfb:=rfl
theorem Qsm:ty lay 146=some Qfc:=rfl
theorem Qsn:ty lay 149=some Ph:=rfl
theorem Qso:ty lay 151=some Qfd:=rfl
theorem Qsp:ty lay 153=some Qfe:=rfl
theorem Qsq:ty lay 155=some Qff:=rfl
theorem Qsr:ty lay 159=some Qfg:=rfl
theorem Qss:ty lay 160=some Qfh:=rfl
theorem Qst:ty lay 162=some Qfi:=rfl
theorem Qsu:ty lay 167=some Y1:=rfl
theorem Qsv:ty lay 168=some Y1:=rfl
theorem Qsw:ty lay 172=some Qfj:=rfl
theorem Qsx:ty lay 187=some Qfk:=rfl
theorem Qsy:ty lay 192=some Qfl:=rfl
theorem Qsz:ty lay 194=some Qfm:=rfl
theorem QsA:ty lay 195=some Qfn:=rfl
theorem QsB:ty lay 197=some Qfo:=rfl
theorem QsC:ty lay 199=some fR:=rfl
theorem QsD:ty lay 201=some fR:=rfl
theorem QsE:ty lay 202=some Qfp:=rfl
theorem QsF:ty lay 203=some Qfq:=rfl
theorem QsG:ty lay 204=some Qfr:=rfl
theorem QsH:ty lay 206=some Qfs:=rfl
theorem QsI:ty lay 207=some Y1:=rfl
theorem QsJ:ty lay 209=some Pg:=rfl
theorem QsK:ty lay 220=some Qft:=rfl
theorem QsL:ty lay 222=some Qfu:=rfl
theorem QsM:ty lay 224=some Qfv:=rfl
theorem QsN:ty lay 226=some Qfw:=rfl
theorem QsO:ty lay 228=some Qfx:=rfl
theorem QsP:ty lay 230=some fS:=rfl
theorem QsQ:ty lay 232=some fS:=rfl
theorem QsR:ty lay 234=some Qfy:=rfl
theorem QsS:ty lay 243=some Qfz:=rfl
theorem QsT:ty lay 253=some QfA:=rfl
theorem QsU:ty lay 255=some QfB:=rfl
theorem QsV:ty lay 257=some Y1:=rfl
theorem QsW:ty lay 263=some QfC:=rfl
theorem QsX:ty lay 267=some HH:=rfl
theorem QsY:ty lay 269=some QfD:=rfl
theorem QsZ:ty lay 271=some QfE:=rfl
theorem Qs0:ty lay 273=some QfF:=rfl
theorem Qs1:ty lay 293=some QfG:=rfl
theorem Qs2:ty lay 296=some Y2:=rfl
theorem Qs3:ty lay 306=some Y2:=rfl
theorem Qs4:ty lay 314=some QfH:=rfl
theorem Qs5:ty lay 316=some QfI:=rfl
theorem Qs6:ty lay 318=some QfJ:=rfl
theorem Qs7:ty lay 319=some Y1:=rfl
theorem Qs8:ty lay 325=some QfK:=rfl
theorem Qs9:ty lay 327=some QfL:=rfl
theorem Qta:ty lay 338=some QfM:=rfl
theorem Qtb:ty lay 342=some QfN:=rfl
theorem Qtc:ty lay 350=some Y1:=rfl
theorem Qtd:ty lay 351=some HH:=rfl
theorem Qte:ty lay 354=some QfO:=rfl
theorem Qtf:ty lay 362=some QfP:=rfl
theorem Qtg:ty lay 364=some QfQ:=rfl
theorem Qth:ty lay 365=some Y1:=rfl
theorem Qti:ty lay 368=some QfR:=rfl
theorem Qtj:ty lay 374=some QfS:=rfl
def Ml:DB:=[(43,[0,0,0]),(45,[0,0,1,0,0,0,0,0,0,0,0,0,0,0]),(58,[0,0,0,0]),(222,[0,0]),(325,[0,0])]
def QfU{P:Program}:∀{E:DB},E.map (λp=>q7 P 60 p.1)=E.map (λp=>some p.2)->E.map (λp=>P.eqGuardType P.depth p.1)=E.map (λ_=>false)->E.map (λp=>match P.underlying p.1 with|some (.struct _)|some (.array _ _)=>true|_=>false)=E.map (λ_=>true)->AR P E
 | [],_,_,_=>.nil _
 | (_,_)::_,c,b,a=>.cons ⟨(xF c).1,(xF b).1,(xF a).1⟩ (QfU (xF c).2 (xF b).2 (xF a).2)
def Qtk:AR prog Ml:=QfU τ τ τ
theorem E43:BY Ml 43=some [0,0,0]:=rfl
theorem E45:BY Ml 45=some [0,0,1,0,0,0,0,0,0,0,0,0,0,0]:=rfl
theorem E58:BY Ml 58=some [0,0,0,0]:=rfl
theorem Qto:BY Ml 222=some [0,0]:=rfl
theorem Qtp:BY Ml 325=some [0,0]:=rfl
def cx:Cx:=⟨lay,Ml⟩
def Vr:q9 prog cx:=⟨Ch,Qtk⟩
def pU:Qm prog 6:=call6
def pV:Qm prog 7:=call7
def pW:Qm prog 8:=call8
def fn9:Qm prog 9:=call9
def Qtq:Qm prog 10:=call10
def Qtr:Qm prog 11:=call11
def yO:Qm prog 12:=call12
def Qts:Qm prog 13:=call13
def A9:Qm prog 15:=call15
def Qtt:Qm prog 20:=call20
def pX:Qm prog 21:=call21
def Qtu:Qm prog 22:=call22
def Qtv:Qm prog 23:=call23
def Qtw:Qm prog 24:=call24
def QfW:Qm prog 25:=call25
def Qtx:Qm prog 26:=call26
def Mm:Qm prog 27:=call27
def Qty:Qm prog 28:=call28
def QfX:Qm prog 29:=call29
def Qtz:Qm prog 30:=call30
def QfY:Qm prog 31:=call31
def QfZ:Qm prog 32:=call32
def QtA:Qm prog 36:=call36
def QtB:Qm prog 37:=call37
def QtC:Qm prog 38:=call38
def QtD:Qm prog 39:=call39
def QtE:Qm prog 40:=call40
def pY:Qm prog 41:=call41
def QtF:Qm prog 42:=call42
def Qf0:Qm prog 43:=call43
def QtG:Qm prog 44:=call44
def fT:Qm prog 45:=call45
def QtH:Qm prog 46:=call46
def QtI:Qm prog 47:=call47
def pZ:Qm prog 48:=call48
def HI:Qm prog 49:=call49
def fU:Qm prog 50:=call50
def Qf1:Qm prog 51:=call51
def Qf2:Qm prog 53:=call53
def QtJ:Qm prog 55:=call55
def QtK:Qm prog 56:=call56
def QtL:Qm prog 57:=call57
def QtM:Qm prog 58:=call58
def fV:Qm prog 59:=call59
def Qf3:Qm prog 60:=call60
def QtN:Qm prog 61:=call61
def QtO:Qm prog 62:=call62
def Qf4:Qm prog 63:=call63
def Qf5:Qm prog 64:=call64
def QtP:Qm prog 65:=call65
def p5:Qm prog 66:=call66
def Qf6:Qm prog 67:=call67
def QtQ:Qm prog 68:=call68
def Qf7:Qm prog 69:=call69
def Tw:Qm prog 70:=call70
def QtR:Qm prog 71:=call71
def p6:Qm prog 72:=call72
def p7:Qm prog 73:=call73
def wQ:Qm prog 74:=call74
def QtS:Qm prog 75:=call75
def p8:Qm prog 76:=call76
def Qf8:Qm prog 77:=call77
def QtT:Qm prog 78:=call78
def QtU:Qm prog 79:=call79
def Qf9:Qm prog 80:=call80
def QtV:Qm prog 81:=call81
def QtW:Qm prog 82:=call82
def fW:Qm prog 84:=call84
def fX:Qm prog 85:=call85
def p9:Qm prog 86:=call86
def rb:Qm prog 87:=call87
def QtX:Qm prog 88:=call88
def Qga:Qm prog 89:=call89
def QtY:Qm prog 90:=call90
def QtZ:Qm prog 91:=call91
def Qgb:Qm prog 92:=call92
def rf:Qm prog 93:=call93
def wR:Qm prog 94:=call94
def Qt0:Qm prog 95:=call95
def Qt1:Qm prog 96:=call96
def Qt2:Qm prog 97:=call97
def Qt3:Qm prog 98:=call98
def Qt4:Qm prog 99:=call99
def fY:Qm prog 100:=call100
def Qgc:Qm prog 101:=call101
def Tz:Qm prog 102:=call102
def Qt5:Qm prog 103:=call103
def Qt6:Qm prog 104:=call104
def fZ:Qm prog 105:=call105
def Qt7:Qm prog 106:=call106
def DP:Qm prog 107:=call107
def Qgd:Qm prog 108:=call108
def Qt8:Qm prog 109:=call109
def Qt9:Qm prog 110:=call110
def Pj:Qm prog 111:=call111
def Qua:Qm prog 112:=call112
def TA:Qm prog 113:=call113
def gh:Qm prog 114:=call114
def Qge:Qm prog 115:=call115
def Qub:Qm prog 116:=call116
def Quc:Qm prog 117:=call117
def Qud:Qm prog 118:=call118
def Que:Qm prog 119:=call119
def Quf:Qm prog 120:=call120
def Qug:Qm prog 121:=call121
def Quh:Qm prog 122:=call122
def Qui:Qm prog 123:=call123
def Quj:Qm prog 126:=call126
def gi:Qm prog 127:=call127
def Quk:Qm prog 128:=call128
def gj:Qm prog 129:=call129
def Qul:Qm prog 130:=call130
def Qum:Qm prog 131:=call131
def Qun:Qm prog 132:=call132
def Quo:Qm prog 133:=call133
def Qup:Qm prog 134:=call134
def gl:Qm prog 135:=call135
def Qgf:Qm prog 136:=call136
def Qgg:Qm prog 137:=call137
def Qgh:Qm prog 139:=call139
def Quq:Qm prog 140:=call140
def Qur:Qm prog 141:=call141
def Qus:Qm prog 142:=call142
def Qut:Qm prog 143:=call143
def Quu:Qm prog 144:=call144
def Quv:Qm prog 145:=call145
def Qgi:Qm prog 146:=call146
def Quw:Qm prog 147:=call147
def Qux:Qm prog 148:=call148
def Quy:Qm prog 149:=call149
def rh:Qm prog 150:=call150
def Quz:Qm prog 151:=call151
def QuA:Qm prog 152:=call152
def QuB:Qm prog 153:=call153
def ri:Qm prog 154:=call154
def QuC:Qm prog 155:=call155
def QuD:Qm prog 156:=call156
def QuE:Qm prog 157:=call157
def QuF:Qm prog 158:=call158
def QuG:Qm prog 159:=call159
def QuH:Qm prog 160:=call160
def QuI:Qm prog 161:=call161
def QuJ:Qm prog 162:=call162
def Qgj:Qm prog 163:=call163
def QuK:Qm prog 164:=call164
def FE:Qm prog 165:=call165
def Qgk:Qm prog 167:=call167
def gp:Qm prog 168:=call168
def Pm:Qm prog 169:=call169
def QuL:Qm prog 170:=call170
def rj:Qm prog 171:=call171
def QuM:Qm prog 172:=call172
def QuN:Qm prog 173:=call173
def Pn:Qm prog 174:=call174
def QuO:Qm prog 175:=call175
def QuP:Qm prog 176:=call176
def QuQ:Qm prog 177:=call177
def Qgl:Qm prog 178:=call178
def QuR:Qm prog 179:=call179
def QuS:Qm prog 180:=call180
def QuT:Qm prog 191:=call191
def Qgm:Qm prog 192:=call192
def rk:Qm prog 193:=call193
def Qgn:Qm prog 194:=call194
def gq:Qm prog 195:=call195
def gv:Qm prog 196:=call196
def rn:Qm prog 197:=call197
def Qgo:Qm prog 198:=call198
def rq:Qm prog 199:=call199
def Qgp:Qm prog 200:=call200
def ru:Qm prog 201:=call201
def Qgq:Qm prog 202:=call202
def Ci:Qm prog 203:=call203
def rv:Qm prog 204:=call204
def QuU:Qm prog 205:=call205
def QuV:Qm prog 206:=call206
def QuW:Qm prog 207:=call207
def QuX:Qm prog 208:=call208
def QuY:Qm prog 209:=call209
def gw:Qm prog 210:=call210
def QuZ:Qm prog 211:=call211
def Qgr:Qm prog 212:=call212
def Qu0:Qm prog 213:=call213
def Qgs:Qm prog 214:=call214
def Qu1:Qm prog 215:=call215
def ry:Qm prog 216:=call216
def gy:Qm prog 217:=call217
def kB:Qm prog 218:=call218
def Qgt:Qm prog 219:=call219
def Qgu:Qm prog 220:=call220
def gz:Qm prog 221:=call221
def Qgv:Qm prog 222:=call222
def Qu2:Qm prog 223:=call223
def Qu3:Qm prog 224:=call224
def Qu4:Qm prog 225:=call225
def Qu5:Qm prog 226:=call226
def rA:Qm prog 227:=call227
def Qu6:Qm prog 228:=call228
def Qgw:Qm prog 229:=call229
def Qu7:Qm prog 230:=call230
def Qu8:Qm prog 231:=call231
def Qu9:Qm prog 232:=call232
def Qgx:Qm prog 233:=call233
def Qva:Qm prog 235:=call235
def Qvb:Qm prog 236:=call236
def Qgy:Qm prog 240:=call240
def TB:Qm prog 241:=call241
def rB:Qm prog 242:=call242
def Qgz:Qm prog 243:=call243
def TC:Qm prog 244:=call244
def Qvc:Qm prog 245:=call245
def DQ:Qm prog 246:=call246
def QgA:Qm prog 247:=call247
def QgB:Qm prog 248:=call248
def Qvd:Qm prog 249:=call249
def Qve:Qm prog 250:=call250
def QgC:Qm prog 251:=call251
def Qvf:Qm prog 252:=call252
def gA:Qm prog 253:=call253
def QgD:Qm prog 254:=call254
def QgE:Qm prog 255:=call255
def Po:Qm prog 256:=call256
def rC:Qm prog 257:=call257
def QgF:Qm prog 259:=call259
def QgG:Qm prog 260:=call260
def Qvg:Qm prog 261:=call261
def QgH:Qm prog 262:=call262
def rD:Qm prog 263:=call263
def vM:Qm prog 264:=call264
def FF:Qm prog 265:=call265
def rE:Qm prog 266:=call266
def Qvh:Qm prog 267:=call267
def QgI:Qm prog 268:=call268
def rF:Qm prog 269:=call269
def Qvi:Qm prog 270:=call270
def Qvj:Qm prog 271:=call271
def Qvk:Qm prog 272:=call272
def Qvl:Qm prog 273:=call273
def Qvm:Qm prog 274:=call274
def Qvn:Qm prog 275:=call275
def Qvo:Qm prog 276:=call276
def Qvp:Qm prog 277:=call277
def Pp:Qm prog 278:=call278
def QgJ:Qm prog 279:=call279
def QgK:Qm prog 280:=call280
def QgL:Qm prog 281:=call281
def QgM:Qm prog 282:=call282
def rG:Qm prog 283:=call283
def rH:Qm prog 284:=call284
def rI:Qm prog 285:=call285
attribute [go_sem] cx L1 L2 L3 L4 L5 L9 L12 L17 L20 L21 L22 L23 L24 L25 L26 L27 L29 L30 L31 L32 L33 L34 L35 L36 L38 L39 L40 L41 L42 L43 L44 L45 L46 L48 L49 L50 L51 L52 L53 L54 L55 L56 L57 L58 L60 L61 L62 L63 L64 L65 L67 L71 L73 L75 L76 L77 L78 L81 L82 L84 L86 L88 L89 L90 L91 L94 L97 L98 L99 QrY QrZ Qr0 Qr1 Qr2 Qr3 Qr4 Qr5 Qr6 Qr7 Qr8 Qr9 Qsa Qsb Qsc Qsd Qse Qsf Qsg Qsh Qsi Qsj Qsk Qsl Qsm Qsn Qso Qsp Qsq Qsr Qss Qst Qsu Qsv Qsw Qsx Qsy Qsz QsA QsB QsC QsD QsE QsF QsG QsH QsI QsJ QsK QsL QsM QsN QsO QsP QsQ QsR QsS QsT QsU QsV QsW QsX QsY QsZ Qs0 Qs1 Qs2 Qs3 Qs4 Qs5 Qs6 Qs7 Qs8 Qs9 Qta Qtb Qtc Qtd Qte Qtf Qtg Qth Qti Qtj E43 E45 E58 Qto Qtp
def Qh{a c}{b:Start}{Q k s}(d:a<=b.w.heap.size)(h:hx prog a b Q cx c 200 k s):QA prog a c b Q k .normal s:=FA Vr d 200 h
def Jb{a c}{b:Start}{K l s}(d:a<=b.w.heap.size)(h:Vi prog a b cx c K l s):AX prog a c b K l s:=Qqz Vr d h
end Go.Fg.X
namespace Go.Fg
open Go.RowKit (Below)
def Rd(P:Program)(t:TypeId){f:Type}(g:f->Prop)(b:f->List D):Prop:=
 ∀{H:Type} {h:TypeId × Value->H} {w:World} {d:Nat} {c:Bool} (m:Nat) (e:List Value) (x:DataW H × List MemPlace),DataW.trod h P w d (λ_=>true) c m t e=some x ->
  ∃a,g a/\(b a).length=e.length/\∀j,j<e.length->Cl (λ_=>True) w (nth (b a) j) (Q8 e j)
def Rd.int{P:Program}{t:TypeId}(k)(d:P.underlying t=some (.int k)):Rd P t (λn:Int=>(Lit.int k n).wf=true) (λn=>[.raw (.int k n)]):=by
 intro H f w b a m g x h;obtain⟨n,rfl,_,c⟩:=DataW.trod_int d h;refine⟨n,c,rfl,λj e=>?_⟩;obtain rfl:j=0:=by simpa using e
 exact .raw _
def Rd.bool{P:Program}{t:TypeId}(c:P.underlying t=some .bool):Rd P t (λ_:Bool=>True) (λn=>[.raw (.bool n)]):=by
 intro H e w b a m f x h;obtain⟨n,rfl,_⟩:=DataW.trod_bool c h;refine⟨n,trivial,rfl,λj d=>?_⟩;obtain rfl:j=0:=by simpa using d
 exact .raw _
def Rd.map{P}{t:TypeId}{l k:Type}{c b}(r:Rd P t c b)(g:l->k){f d}(e:∀a,d (g a)=b a)(n:∀a,c a->f (g a)):Rd P t f d:=by intro H u w j i m s x h;obtain⟨a,q,p,o⟩:=r m s x h;exact⟨g a,n a q,by rw[e];exact p,by rw[e];exact o⟩
def KV(P:Program)(l:List Field)(b h:Nat){i:Type}(k:i->Prop)(c:i->List D):Prop:=
 ∀{H:Type} {n:TypeId × Value->H} {w:World} {e:Nat} {d:Bool} (m:Nat) (g:List Value),g.length=h ->
  (∀f∈l,∃x,DataW.trod n P w e (λ_=>true) d m f.type ((g.drop f.offset).take (P.cellsOf f.type))=some x) ->
  ∃a,k a/\b+(c a).length=h/\∀j,b+j<h->Cl (λ_=>True) w (nth (c a) j) (Q8 g (b+j))
def KV.nil{P a}:KV P [] a a (λ_:Unit=>True) (λ_=>[]):=by intro H f w c b m g d h;exact⟨(),trivial,rfl,λj e=>ω⟩
def KV.cons{P}{f:Field}{t d n p}{E C:Type}{q c y e}(r:Rd P f.type q c)(F:KV P t n p y e)
  (I:f.offset=d) (S:d+P.cellsOf f.type=n) (Q:n<=p):KV P (f::t) d p (λi:E × C=>q i.1/\y i.2) (λi=>c i.1++e i.2):=by
 intro H T w B z m l J h;obtain⟨x,hx⟩:=h f σ;obtain⟨a,O,v,u⟩:=r m _ x hx;obtain⟨b,N,U,M⟩:=F m l J λg K=>h g (by simp[K]);have k:((l.drop f.offset).take (P.cellsOf f.type)).length=P.cellsOf f.type:=ξ;rw[k]at v u;refine⟨(a,b),⟨O,N⟩,ξ,λj R=>?_⟩;by_cases s:j<P.cellsOf f.type;have:=u j s;have o:nth (c a++e b) j=nth (c a) j:=oM ω;have L:Q8 ((l.drop f.offset).take (P.cellsOf f.type)) j=Q8 l (d+j):=by simp only[Q8,QU,XJ,Qe s,GX,I]
 show Cl _ w (nth (c a++e b) j) _;rw[o,<-L];exact this;have o:nth (c a++e b) j=nth (e b) (j-P.cellsOf f.type):=by rw[oN ω,v]
 have:=M (j-P.cellsOf f.type) ω;show Cl _ w (nth (c a++e b) j) _;rw[o,show d+j=n+(j-P.cellsOf f.type) by omega];exact this
def Rd.struct{P:Program}{t:TypeId}{c:Array Field}{JD:Nat}{e:Type}{k:e->Prop}{b:e->List D}(s:P.underlying t=some (.struct c))(F:P.cellsOf t=JD)(r:KV P c.toList 0 JD k b):Rd P t k b:=by
 intro H I w o n m y x h;obtain⟨g,p,rfl,_,C,q,v⟩:=DataW.trod_struct s h;obtain⟨a,B,J,z⟩:=r p y ω λf d=>by
  obtain⟨i,u⟩:=GY d;have l:c[i]?=some f:=by simpa using u
  have Qb:i<g.length:=by rw[q];exact(W0.1 l).1
  exact⟨g[i],by rw[v i f l];exact QH Qb⟩
 exact⟨a,B,ω,λj E=>by have:=z j ω;rwa [JG]at this⟩
def qE(P:Program)(e:TypeId)(i n:Nat){g:Type}(h:g->Prop)(b:g->List D):Prop:=
 ∀{H:Type} {l:TypeId × Value->H} {w:World} {d:Nat} {c:Bool} (m:Nat) (f:List Value),f.length=n*P.cellsOf e ->
  (∀k,k<n->∃x,DataW.trod l P w d (λ_=>true) c m e ((f.drop (k*P.cellsOf e)).take (P.cellsOf e))=some x) ->
  ∃a,h a/\i*P.cellsOf e+(b a).length=n*P.cellsOf e/\∀j,i*P.cellsOf e+j<n*P.cellsOf e->Cl (λ_=>True) w (nth (b a) j) (Q8 f (i*P.cellsOf e+j))
def qE.nil{P}{e:TypeId}{n}:qE P e n n (λ_:Unit=>True) (λ_=>[]):=by intro H f w b a m g c h;exact⟨(),trivial,rfl,λj d=>ω⟩
def qE.cons{P}{e:TypeId}{i n}{C B:Type}{o c v d}(p:i<n)(r:Rd P e o c)(E:qE P e (i+1) n v d):
  qE P e i n (λf:C × B=>o f.1/\v f.2) (λf=>c f.1++d f.2):=by
 intro H O w z y m k I h;obtain⟨x,hx⟩:=h i p;obtain⟨a,M,u,t⟩:=r m _ x hx;obtain⟨b,L,K,s⟩:=E m k I h;have F:=V6 (P.cellsOf e) (show i+1<=n from p);rw[KE,Lp]at F;rw[KE,Lp]at K s;have g:((k.drop (i*P.cellsOf e)).take (P.cellsOf e)).length=P.cellsOf e:=ξ;rw[g]at u t;refine⟨(a,b),⟨M,L⟩,ξ,λj N=>?_⟩;by_cases q:j<P.cellsOf e;have:=t j q;have l:nth (c a++d b) j=nth (c a) j:=oM ω;have J:Q8 ((k.drop (i*P.cellsOf e)).take (P.cellsOf e)) j=Q8 k (i*P.cellsOf e+j):=by simp only[Q8,QU,XJ,Qe q,GX]
 show Cl _ w (nth (c a++d b) j) _;rw[l,<-J];exact this;have l:nth (c a++d b) j=nth (d b) (j-P.cellsOf e):=by rw[oN ω,u]
 have:=s (j-P.cellsOf e) ω;show Cl _ w (nth (c a++d b) j) _;rw[l,show i*P.cellsOf e+j=i*P.cellsOf e+P.cellsOf e+(j-P.cellsOf e) by omega];exact this
def Rd.array{P:Program}{t e:TypeId}{n:Nat}{c:Type}{f:c->Prop}{b:c->List D}(p:P.underlying t=some (.array n e))(E:P.cellsOf t=n*P.cellsOf e)(r:qE P e 0 n f b):Rd P t f b:=by
 intro H F w l i m u x h;obtain⟨d,o,rfl,_,B,z,s⟩:=DataW.trod_array p h;obtain⟨a,y,v,g⟩:=r o u ω λk q=>by have Qb:k<d.length:=ω;exact⟨d[k],by rw[s k q];exact QH Qb⟩
 simp only[G1,JG]at v g;exact⟨a,y,ω,λj C=>g j ω⟩
def Rd.slice{P:Program}{t e:TypeId}{B:Type}[Inhabited B]{C g}(k)(N:P.underlying t=some (.slice e))(Q:P.cellsOf e=k)(U:0<k)(r:Rd P e C g):
  Rd P t (λl:List B=>l.length<=maxLen/\∀a∈l,C a) (λl=>[.imm k l.length λi=>g (l.getD i default)]):=by
 intro H en w L K m cs x h;rcases Deep.open_slice N h with ⟨rfl,_⟩|⟨a,c,I,m,M,D',Pl,rfl,hb,O,hm,T,_,S⟩;refine⟨[],⟨σ,σ⟩,rfl,λj p=>?_⟩;obtain rfl:j=0:=by simpa using p
 exact .imm _ _ _ _ _ 0 0 (λ_ _=>Go.undef) (λh=>by simp at h) σ (λi d=>by simp at d) (λi j d=>by simp at d) (λi j d=>by simp at d);simp only[Vu]at T;have F:∀i,∃u:B × List Value,i<c->C u.1/\(g u.1).length=k/\u.2.length=k/\(∀j,j<k->w.cell? (a.add (i*k+j))=some (Q8 u.2 j))/\∀j,j<k->Cl (λ_=>True) w (nth (g u.1) j) (Q8 u.2 j):=λi=>by by_cases d:i<c;obtain⟨q,s,z⟩:=S i ω;obtain⟨x,hx,Z,R⟩:=r M q _ z;obtain⟨_,n,W⟩:=World.cells?_some s;have V:q.length=k:=ω;refine⟨(x,q),λ_=>⟨hx,(by show (g x).length=k;omega),V,λj p=>?_,λj p=>R j ω⟩⟩;have:=W j ω;rw[Deep.add_add,Q]at this;rw[this];simp[Q8,QU,QH (show j<q.length from ω)];exact⟨(default,[]),λh=>absurd h d⟩
 obtain⟨f,v⟩:=Classical.axiomOfChoice F;have n:((List.range c).map λi=>(f i).1).length=c:=σ;have J:∀i,i<c->((List.range c).map λi=>(f i).1).getD i default=(f i).1:=λi d=>by simp[QU,d]
 refine⟨(List.range c).map λi=>(f i).1,⟨by rw[n];omega,λx hx=>?_⟩,rfl,λj p=>?_⟩;obtain⟨i,d,rfl⟩:=Jw.1 hx;exact(v i (Ss.1 d)).1;obtain rfl:j=0:=by simpa using p
 show Cl _ w (.imm k ((List.range c).map λi=>(f i).1).length λi=>g (((List.range c).map λi=>(f i).1).getD i default)) (.slice (some a) c I);rw[n];have y:0<c->a=⟨a.block,a.off,none⟩:=λE=>by have s:=(v 0 E).2.2.2.1 0 U;have z:=World.cell?_spot s;obtain⟨b,o,Y⟩:=a;simp[Addr.add]at z;subst z;rfl
 refine .imm _ _ _ _ _ a.block a.off (λi j=>Q8 (f i).2 j) (λE=>by rw[<-y E]) O (λi d=>?_) (λi j d p=>⟨trivial,?_⟩) (λi j d p=>?_);rw[J i d];exact(v i d).2.1;have s:=(v i d).2.2.2.1 j p;rw[y ω]at s;rw[<-s];congr 1;simp only[Addr.add];split<;>simp_all;rw[J i d];exact(v i d).2.2.2.2 j p
def Rd.many{P:Program}{t:TypeId}{j:Type}{k:j->Prop}{b:j->List D}(r:Rd P t k b){H:Type}{s:TypeId × Value->H}{w:World}{g:Nat}{f:Bool}{c:Array Value}{d:DataW H}{n:List MemPlace}
  (h:DataW.Trod s P w g (λ_=>true) f t (.agg c) d n):∃a,k a/\Cl (λ_=>True) w (.agg (b a)) (.agg c):=by
 obtain⟨m,l⟩:=h;have e:(Value.agg c).cells.toList=c.toList:=rfl;rw[e]at l;obtain⟨a,q,p,o⟩:=r m _ _ l;have:=Cl.agg (N:=λ_=>True) (w:=w) (b a) c.toList p.symm (λi u=>o i ω);exact⟨a,q,by simpa using this⟩
def Qvr{P f}{c:List D}(h:QM P f c λd h=>d=.raw (.bool true)/\h=[])(W)(a:List Value)(k:a.length=c.length)(p:∀i,i<c.length->Cl (λ_=>True) W (nth c i) (Q8 a i)):
  Calls P f a.toArray W λe g=>e=.returned (.bool true)/\Below W.heap.size W g:=by
 refine(h (λ_=>True) W.heap.size W [] a (Qv _) (λ_ _=>trivial) ⟨rfl,λl t b q s e=>by simp at e,λl o e=>by simp at e,λl o b q e=>by simp at e⟩ k (λi m=>.cl _ _ ((p i m).mono λb _ _=>⟨⟨trivial,λl q e=>by simp at e⟩,rfl⟩))).mono λe g n=>?_;obtain⟨v,d,u,w,rfl,⟨rfl,rfl⟩,_,j,_,r⟩:=n;rw[JI j];exact⟨rfl,r⟩
end Go.Fg
namespace Go.Fg.X
open Go.Proofs Go.Fg
open Go.Proofs.Tryz
def QgO(k:IntKind)(l:List Int):Nat->List D:=λi=>[.raw (.int k (l.getD i 0))]
@[go_sem] theorem Qvs(k)(l:List Int)(i):QgO k l i=[.raw (.int k (l.getD i 0))]:=rfl
structure Cf where
 t:Int
 Ze:Int
instance:Inhabited Cf:=⟨⟨0,0⟩⟩
@[go_sem] def Cf.cells(x:Cf):List D:=[.raw (.int .i64 x.t),.raw (.int .i64 x.Ze)]
def Cf.rows(l:List Cf):Nat->List D:=λi=>(l.getD i default).cells
@[go_sem] theorem Cf.vN(l:List Cf)(i):Cf.rows l i=(l.getD i default).cells:=rfl
def Cf.Ok(x:Cf):Prop:=(Lit.int .i64 x.t).wf=true/\(Lit.int .i64 x.Ze).wf=true/\True
def Qvt:Rd prog 23 Cf.Ok Cf.cells:=
 Rd.map (Rd.struct (JD:=2) underlying23 τ (KV.cons (Rd.int .i64 underlying3) (KV.cons (Rd.int .i64 underlying3) KV.nil rfl τ π) rfl τ π)) (λp=>⟨p.1,p.2.1⟩) (λ_=>rfl) (λ_ h=>⟨h.1,h.2.1,trivial⟩)
structure Cv where
 m1:Int
 d:Int
 m2:Int
instance:Inhabited Cv:=⟨⟨0,0,0⟩⟩
@[go_sem] def Cv.cells(x:Cv):List D:=[.raw (.int .u64 x.m1),.raw (.int .u64 x.d),.raw (.int .u64 x.m2)]
def Cv.rows(l:List Cv):Nat->List D:=λi=>(l.getD i default).cells
@[go_sem] theorem Cv.vN(l:List Cv)(i):Cv.rows l i=(l.getD i default).cells:=rfl
def Cv.Ok(x:Cv):Prop:=(Lit.int .u64 x.m1).wf=true/\(Lit.int .u64 x.d).wf=true/\(Lit.int .u64 x.m2).wf=true/\True
def rJ:Rd prog 43 Cv.Ok Cv.cells:=
 Rd.map (Rd.struct (JD:=3) underlying43 τ (KV.cons (Rd.int .u64 underlying40) (KV.cons (Rd.int .u64 underlying40) (KV.cons (Rd.int .u64 underlying40) KV.nil rfl τ π) rfl τ π) rfl τ π)) (λp=>⟨p.1,p.2.1,p.2.2.1⟩) (λ_=>rfl) (λ_ h=>⟨h.1,h.2.1,h.2.2.1,trivial⟩)
structure Pk where
 iD:Int
 len:Int
 xX:Int
 xY:Int
 xZ:Int
 x5:Int
instance:Inhabited Pk:=⟨⟨0,0,0,0,0,0⟩⟩
@[go_sem] def Pk.cells(x:Pk):List D:=[.raw (.int .u64 x.iD),.raw (.int .i64 x.len),.raw (.int .u16 x.xX),.raw (.int .u16 x.xY),.raw (.int .u16 x.xZ),.raw (.int .u16 x.x5)]
def Pk.rows(l:List Pk):Nat->List D:=λi=>(l.getD i default).cells
@[go_sem] theorem Pk.vN(l:List Pk)(i):Pk.rows l i=(l.getD i default).cells:=rfl
def Pk.Ok(x:Pk):Prop:=(Lit.int .u64 x.iD).wf=true/\(Lit.int .i64 x.len).wf=true/\(Lit.int .u16 x.xX).wf=true/\(Lit.int .u16 x.xY).wf=true/\(Lit.int .u16 x.xZ).wf=true/\(Lit.int .u16 x.x5).wf=true/\True
def Qvu:Rd prog 60 Pk.Ok Pk.cells:=
 Rd.map (Rd.struct (JD:=6) underlying60 τ (KV.cons (Rd.int .u64 underlying40) (KV.cons (Rd.int .i64 underlying3) (KV.cons (Rd.array underlying58 τ (qE.cons π (Rd.int .u16 underlying56) (qE.cons π (Rd.int .u16 underlying56) (qE.cons π (Rd.int .u16 underlying56) (qE.cons π (Rd.int .u16 underlying56) qE.nil))))) KV.nil rfl τ π) rfl τ π) rfl τ π)) (λp=>⟨p.1,p.2.1,p.2.2.1.1,p.2.2.1.2.1,p.2.2.1.2.2.1,p.2.2.1.2.2.2.1⟩) (λ_=>rfl) (λ_ h=>⟨h.1,h.2.1,h.2.2.1.1,h.2.2.1.2.1,h.2.2.1.2.2.1,h.2.2.1.2.2.2.1,trivial⟩)
structure Ql where
 iD:Int
 parent:Int
 leaf:Bool
 rt:Cv
 ls:Cv
 ul:Cv
 ZV:Int
 bytes:Int
instance:Inhabited Ql:=⟨⟨0,0,false,default,default,default,0,0⟩⟩
@[go_sem] def Ql.cells(x:Ql):List D:=[.raw (.int .i64 x.iD),.raw (.int .i64 x.parent),.raw (.bool x.leaf),.raw (.int .u64 x.rt.m1),.raw (.int .u64 x.rt.d),.raw (.int .u64 x.rt.m2),.raw (.int .u64 x.ls.m1),.raw (.int .u64 x.ls.d),.raw (.int .u64 x.ls.m2),.raw (.int .u64 x.ul.m1),.raw (.int .u64 x.ul.d),.raw (.int .u64 x.ul.m2),.raw (.int .i64 x.ZV),.raw (.int .i64 x.bytes)]
def Ql.rows(l:List Ql):Nat->List D:=λi=>(l.getD i default).cells
@[go_sem] theorem Ql.vN(l:List Ql)(i):Ql.rows l i=(l.getD i default).cells:=rfl
def Ql.Ok(x:Ql):Prop:=(Lit.int .i64 x.iD).wf=true/\(Lit.int .i64 x.parent).wf=true/\True/\Cv.Ok x.rt/\Cv.Ok x.ls/\Cv.Ok x.ul/\(Lit.int .i64 x.ZV).wf=true/\(Lit.int .i64 x.bytes).wf=true/\True
def Qvv:Rd prog 45 Ql.Ok Ql.cells:=
 Rd.map (Rd.struct (JD:=14) underlying45 τ (KV.cons (Rd.int .i64 underlying3) (KV.cons (Rd.int .i64 underlying3) (KV.cons (Rd.bool underlying4) (KV.cons rJ (KV.cons rJ (KV.cons rJ (KV.cons (Rd.int .i64 underlying3) (KV.cons (Rd.int .i64 underlying3) KV.nil rfl τ π) rfl τ π) rfl τ π) rfl τ π) rfl τ π) rfl τ π) rfl τ π) rfl τ π)) (λp=>⟨p.1,p.2.1,p.2.2.1,p.2.2.2.1,p.2.2.2.2.1,p.2.2.2.2.2.1,p.2.2.2.2.2.2.1,p.2.2.2.2.2.2.2.1⟩) (λ_=>rfl) (λ_ h=>⟨h.1,h.2.1,h.2.2.1,h.2.2.2.1,h.2.2.2.2.1,h.2.2.2.2.2.1,h.2.2.2.2.2.2.1,h.2.2.2.2.2.2.2.1,trivial⟩)
structure Jj where
 kind:Int
 cls:Ql
instance:Inhabited Jj:=⟨⟨0,default⟩⟩
@[go_sem] def Jj.cells(x:Jj):List D:=[.raw (.int .i64 x.kind),.raw (.int .i64 x.cls.iD),.raw (.int .i64 x.cls.parent),.raw (.bool x.cls.leaf),.raw (.int .u64 x.cls.rt.m1),.raw (.int .u64 x.cls.rt.d),.raw (.int .u64 x.cls.rt.m2),.raw (.int .u64 x.cls.ls.m1),.raw (.int .u64 x.cls.ls.d),.raw (.int .u64 x.cls.ls.m2),.raw (.int .u64 x.cls.ul.m1),.raw (.int .u64 x.cls.ul.d),.raw (.int .u64 x.cls.ul.m2),.raw (.int .i64 x.cls.ZV),.raw (.int .i64 x.cls.bytes)]
def Jj.rows(l:List Jj):Nat->List D:=λi=>(l.getD i default).cells
@[go_sem] theorem Jj.vN(l:List Jj)(i):Jj.rows l i=(l.getD i default).cells:=rfl
def Jj.Ok(x:Jj):Prop:=(Lit.int .i64 x.kind).wf=true/\Ql.Ok x.cls/\True
def Qvw:Rd prog 75 Jj.Ok Jj.cells:=
 Rd.map (Rd.struct (JD:=15) underlying75 τ (KV.cons (Rd.int .i64 underlying3) (KV.cons Qvv KV.nil rfl τ π) rfl τ π)) (λp=>⟨p.1,p.2.1⟩) (λ_=>rfl) (λ_ h=>⟨h.1,h.2.1,trivial⟩)
structure J6 where
 Ba:Int
 Bb:Int
 FG:Int
 DS:Int
 Mn:Int
 Mp:Int
 Mq:Int
 FH:Int
 cls:Int
instance:Inhabited J6:=⟨⟨0,0,0,0,0,0,0,0,0⟩⟩
@[go_sem] def J6.cells(x:J6):List D:=[.raw (.int .u16 x.Ba),.raw (.int .u16 x.Bb),.raw (.int .u16 x.FG),.raw (.int .u16 x.DS),.raw (.int .u16 x.Mn),.raw (.int .u16 x.Mp),.raw (.int .u16 x.Mq),.raw (.int .u16 x.FH),.raw (.int .i64 x.cls)]
def J6.rows(l:List J6):Nat->List D:=λi=>(l.getD i default).cells
@[go_sem] theorem J6.vN(l:List J6)(i):J6.rows l i=(l.getD i default).cells:=rfl
def J6.Ok(x:J6):Prop:=(Lit.int .u16 x.Ba).wf=true/\(Lit.int .u16 x.Bb).wf=true/\(Lit.int .u16 x.FG).wf=true/\(Lit.int .u16 x.DS).wf=true/\(Lit.int .u16 x.Mn).wf=true/\(Lit.int .u16 x.Mp).wf=true/\(Lit.int .u16 x.Mq).wf=true/\(Lit.int .u16 x.FH).wf=true/\(Lit.int .i64 x.cls).wf=true/\True
def Qvx:Rd prog 77 J6.Ok J6.cells:=
 Rd.map (Rd.struct (JD:=9) underlying77 τ (KV.cons (Rd.array underlying58 τ (qE.cons π (Rd.int .u16 underlying56) (qE.cons π (Rd.int .u16 underlying56) (qE.cons π (Rd.int .u16 underlying56) (qE.cons π (Rd.int .u16 underlying56) qE.nil))))) (KV.cons (Rd.array underlying58 τ (qE.cons π (Rd.int .u16 underlying56) (qE.cons π (Rd.int .u16 underlying56) (qE.cons π (Rd.int .u16 underlying56) (qE.cons π (Rd.int .u16 underlying56) qE.nil))))) (KV.cons (Rd.int .i64 underlying3) KV.nil rfl τ π) rfl τ π) rfl τ π)) (λp=>⟨p.1.1,p.1.2.1,p.1.2.2.1,p.1.2.2.2.1,p.2.1.1,p.2.1.2.1,p.2.1.2.2.1,p.2.1.2.2.2.1,p.2.2.1⟩) (λ_=>rfl) (λ_ h=>⟨h.1.1,h.1.2.1,h.1.2.2.1,h.1.2.2.2.1,h.2.1.1,h.2.1.2.1,h.2.1.2.2.1,h.2.1.2.2.2.1,h.2.2.1,trivial⟩)
structure Zt where
 kind:Int
 changes:(List Jj)
 rules:(List J6)
 ZG:Pk
 Vw:Int
instance:Inhabited Zt:=⟨⟨0,[],[],default,0⟩⟩
@[go_sem] def Zt.cells(x:Zt):List D:=[.raw (.int .i64 x.kind),.imm 15 x.changes.length (Jj.rows x.changes),.imm 9 x.rules.length (J6.rows x.rules),.raw (.int .u64 x.ZG.iD),.raw (.int .i64 x.ZG.len),.raw (.int .u16 x.ZG.xX),.raw (.int .u16 x.ZG.xY),.raw (.int .u16 x.ZG.xZ),.raw (.int .u16 x.ZG.x5),.raw (.int .u64 x.Vw)]
def Zt.rows(l:List Zt):Nat->List D:=λi=>(l.getD i default).cells
@[go_sem] theorem Zt.vN(l:List Zt)(i):Zt.rows l i=(l.getD i default).cells:=rfl
def Zt.Ok(x:Zt):Prop:=(Lit.int .i64 x.kind).wf=true/\(x.changes.length<=maxLen/\∀a∈x.changes,Jj.Ok a)/\(x.rules.length<=maxLen/\∀a∈x.rules,J6.Ok a)/\Pk.Ok x.ZG/\(Lit.int .u64 x.Vw).wf=true/\True
def Qvy:Rd prog 67 Zt.Ok Zt.cells:=
 Rd.map (Rd.struct (JD:=10) underlying67 τ (KV.cons (Rd.int .i64 underlying3) (KV.cons (Rd.slice 15 underlying64 τ π Qvw) (KV.cons (Rd.slice 9 underlying65 τ π Qvx) (KV.cons Qvu (KV.cons (Rd.int .u64 underlying40) KV.nil rfl τ π) rfl τ π) rfl τ π) rfl τ π) rfl τ π)) (λp=>⟨p.1,p.2.1,p.2.2.1,p.2.2.2.1,p.2.2.2.2.1⟩) (λ_=>rfl) (λ_ h=>⟨h.1,h.2.1,h.2.2.1,h.2.2.2.1,h.2.2.2.2.1,trivial⟩)
structure XB where
 config:Cf
 ops:(List Zt)
instance:Inhabited XB:=⟨⟨default,[]⟩⟩
@[go_sem] def XB.cells(x:XB):List D:=[.raw (.int .i64 x.config.t),.raw (.int .i64 x.config.Ze),.imm 10 x.ops.length (Zt.rows x.ops)]
def XB.rows(l:List XB):Nat->List D:=λi=>(l.getD i default).cells
@[go_sem] theorem XB.vN(l:List XB)(i):XB.rows l i=(l.getD i default).cells:=rfl
def XB.Ok(x:XB):Prop:=Cf.Ok x.config/\(x.ops.length<=maxLen/\∀a∈x.ops,Zt.Ok a)/\True
def Qvz:Rd prog 26 XB.Ok XB.cells:=
 Rd.map (Rd.struct (JD:=3) underlying26 τ (KV.cons Qvt (KV.cons (Rd.slice 10 underlying24 τ π Qvy) KV.nil rfl τ π) rfl τ π)) (λp=>⟨p.1,p.2.1⟩) (λ_=>rfl) (λ_ h=>⟨h.1,h.2.1,trivial⟩)
def Qa(n:Int):D:=.raw (.int .i64 n)
def QV(b:Bool):D:=.raw (.bool b)
def ints(l:List Int):D:=.imm 1 l.length (QgO .i64 l)
attribute[go_sem]Qa QV ints
structure Ev where
 op:Int
 Jz:Bool
 real:Bool
 at_:Int
 done:Int
 cls:Int
 id:Int
 len:Int
 h0:Int
 h1:Int
 h2:Int
 h3:Int
instance:Inhabited Ev:=⟨⟨0,false,false,0,0,0,0,0,0,0,0,0⟩⟩
@[go_sem] def Ev.cells(e:Ev):List D:=[.raw (.int .i64 e.op),.raw (.bool e.Jz),.raw (.bool e.real),.raw (.int .u64 e.at_),.raw (.int .u64 e.done),.raw (.int .i64 e.cls),.raw (.int .u64 e.id),.raw (.int .i64 e.len),.raw (.int .u16 e.h0),.raw (.int .u16 e.h1),.raw (.int .u16 e.h2),.raw (.int .u16 e.h3)]
def Ev.Ok(x:Ev):Prop:=(Lit.int .i64 x.op).wf=true/\(Lit.int .u64 x.at_).wf=true/\(Lit.int .u64 x.done).wf=true/\(Lit.int .i64 x.cls).wf=true/\(Lit.int .u64 x.id).wf=true/\(Lit.int .i64 x.len).wf=true/\(Lit.int .u16 x.h0).wf=true/\(Lit.int .u16 x.h1).wf=true/\(Lit.int .u16 x.h2).wf=true/\(Lit.int .u16 x.h3).wf=true
def Ev.rows(l:List Ev):Nat->List D:=λi=>(l.getD i default).cells
@[go_sem] theorem Ev.vN(l:List Ev)(i):Ev.rows l i=(l.getD i default).cells:=rfl
@[go_sem] def YD(l:List Ev):D:=.imm 12 l.length (Ev.rows l)
def wrap64{n}(b:-9223372036854775808<=n)(a:n<=9223372036854775807):IntKind.i64.wrap n=n:=by rw[IntKind.wrap_i64];omega
def JJ{k:Nat}(h:k<4611686018427387904):IntKind.i64.wrap ((k:Int)+1)=((k+1:Nat):Int):=by rw[wrap64 ω ω];rfl
def bz{n:Nat}(h:n=0):((n:Int)==0)=true:=by simp[h]
def Pq{n:Nat}(h:n≠0):((n:Int)==0)=false:=by simp[h]
def dp{n:Nat}(h:n≠0):decide ((0:Int)<n)=true:=ξ
def rK{n:Nat}(h:n=0):decide ((0:Int)<n)=false:=by simp[h]
def QgP{a:Type}(l:List a)(x d:a)(i)(b:i<l.length+1):(l++[x]).getD i d=bif decide (i<l.length) then l.getD i d else x:=by by_cases h:i<l.length;simp[h,JX h];have:i=l.length:=ω;subst this;simp
def QR(d:D):D->List Ob->Prop:=λa h=>a=d/\h=[]
attribute [go_sem] QR
def QR.flat{d:D}(b:d.flat=true):∀a h,QR d a h->a.flat=true/\∀o∈h,o.flat:=by rintro a h ⟨rfl,rfl⟩;exact⟨b,σ⟩
def getD_take{a:Type}(l:List a)(d:a)(k)(h:k<l.length):l.take (k+1)=l.take k++[l.getD k d]:=by rw[zQ,QH h];simp[QU,QH h]
def mixed:prog.follows .mixedOrders=true:=τ
def gF{a:Type}(l:List a)(x d:a)(i)(h:i<l.length):(l++[x]).getD i d=l.getD i d:=by simp[JX h]
def rL{a:Type}(l:List a)(x d:a):(l++[x]).getD l.length d=x:=σ
def rM{a:Type}(l:List a)(x d:a)(i)(h:i<l.length):(l.set i x).getD i d=x:=by simp[h]
def rN{a:Type}(l:List a)(x d:a)(i j)(h:j≠i):(l.set j x).getD i d=l.getD i d:=by simp[JT h]
def getD_map{a b:Type}(f:a->b)(l:List a)(d:a)(e:b)(i)(h:i<l.length):(l.map f).getD i e=f (l.getD i d):=by simp[QU,h]
def YZ{a:Type}(l:List a)(d:a)(i)(h:i<l.length):l.getD i d∈l:=by simp[QU,h]
def wf_u64{n:Int}(h:(Lit.int .u64 n).wf=true):0<=n/\n<=18446744073709551615:=by simp only[Lit.wf,ZM,W3]at h;exact h
def wf_u16{n:Int}(h:(Lit.int .u16 n).wf=true):0<=n/\n<=65535:=by simp only[Lit.wf,ZM,W3]at h;exact h
def gG{n}(b:0<=n)(a:n<=18446744073709551615):IntKind.u64.wrap n=n:=κ
theorem QIN:((0:Nat):Int)=0:=rfl
theorem QIO:((1:Nat):Int)=1:=rfl
theorem QIP:((2:Nat):Int)=2:=rfl
theorem QIQ:((3:Nat):Int)=3:=rfl
theorem QIR:((4:Nat):Int)=4:=rfl
theorem QIS:((5:Nat):Int)=5:=rfl
theorem QIT:((6:Nat):Int)=6:=rfl
theorem QIU:((7:Nat):Int)=7:=rfl
theorem QIV:((8:Nat):Int)=8:=rfl
theorem QIW:((9:Nat):Int)=9:=rfl
theorem QIX:((10:Nat):Int)=10:=rfl
attribute[go_sem]QIN QIO QIP QIQ QIR QIS QIT QIU QIV QIW QIX
def WQ{a b:Int}(h:a=b):(a==b)=true:=by simp[h]
def VY{a b:Int}(h:a≠b):(a==b)=false:=by simp[h]
def QvA{a b:Int}(h:a=b):(a != b)=false:=by simp[h]
end Go.Fg.X
namespace Go.Fg
open Go.RowKit (Below)
def Pr(a:List ZL):Prop:=(a.map (·.b)).Pairwise (·<·)
def vB.QgQ{Z h f w q c b a}(E:vB Z h f w q c b a):Pr b:=by unfold Pr;rw[List.pairwise_iff_getElem];intro i j e d g;simp only[KJ]at e d;have k:=E.len;obtain⟨_,_,m,_⟩:=E.at_ i b[i] a[i] (QH e) (QH ω);obtain⟨_,_,l,_⟩:=E.at_ j b[j] a[j] (QH d) (QH ω);have:=E.inc i j a[i] a[j] g (QH ω) (QH ω);simp only[List.getElem_map];omega
def Pr.nodup{a:List ZL}(B:Pr a):(a.map (·.b)).Nodup:=by unfold List.Nodup;exact List.Pairwise.imp (λh=>Nat.ne_of_lt h) B
def Bc(b:List ZL)(a:List Nat):Nat:=(b.filter λe=>!a.contains e.b).length
def QgR:∀{a:List ZL} {seen:List Nat} {e:ZL},e∈a->e.b ∉ seen->Bc a (seen++[e.b])<Bc a seen
 | [],_,_,h,_=>by simp at h
 | x::a,seen,e,h,d=>by
  have b:∀a:List ZL,Bc a (seen++[e.b])<=Bc a seen:=λa=>by
   induction a with
   | nil=>exact Qv _
   | cons y r c=>simp only[Bc,vk]at c ⊢;by_cases g:y.b∈seen<;>by_cases f:y.b=e.b<;>simp_all<;>omega
  rcases QK.1 h with rfl|h;have:=b a;simp only[Bc,vk]at this ⊢
  simp_all
  omega;have:=QgR h d;simp only[Bc,vk]at this ⊢;by_cases g:x.b∈seen<;>by_cases f:x.b=e.b<;>simp_all<;>omega
section
variable {P:Program}{L:Jt}{base nt:Nat}{w0:Start}{Q:Exit->St->Prop}
def QvB{Z:Nat->Prop}{s:St}{d:List Pl}{a:Act}{w:World}(r:Rel Z base nt s d a w){l c:Nat}{i:List ZL}{f:Kd}{q:IntKind}(k:f.ty=1)(e:s.h[l]?=some (WB f q c i)):Pr i:=by
 have h:l<d.length:=by rw[r.o.len];exact KL e
 cases g:d[l] with
 | none=>have:=r.o.V7 l _ e (by rw[QH h,g]);simp[WB]at this
 | some j=>obtain⟨b,p⟩:=j;obtain⟨_,x⟩:=r.o.at_ l _ b p e (by rw[QH h,g]);obtain⟨_,m,_,E⟩:=dQ k x;exact E.QgQ
def QvC{e:Code}{k:List Item}{s:St}{l c:Nat}{es:List ZL}{kd:Kd}{q:IntKind}(h:kd.ty=1)(g:s.h[l]?=some (WB kd q c es))(d:Pr es->QA P base nt w0 Q (.code e::k) .normal s):QA P base nt w0 Q (.code e::k) .normal s:=by simp only[QA]at d ⊢;intro Z z f a w r b;exact d (QvB r h g) Z z f a w r b
def QvD{o:Oper}{s x}(ho:o.op=.entry x){u l c k f q v e}
  (Y:Qr s.fr x=.mref u 0) (N:s.h[u]?=some (YT l c c (f++[e.b]))) (R:v.ty=1) (M:s.h[l]?=some (WB v q c k)) (he:e∈k):WL P base nt o s (.tup [.raw (.int q e.k),e.v]):=by
 intro Z pl a w r;have K:=r.eval x;rw[Y]at K;obtain⟨o',p,b,t,n,h3,h4,z⟩:=G3 K;rw[N]at t;cases t;have z:=z rfl;rw[z]at n;obtain⟨ZF,S⟩:=r.o.at_ u _ b 0 N n;obtain⟨_,m,V,hb,U,SR⟩:=Qdn S;have hv:a.eval x=.pointer (some ⟨b,0,none⟩):=h3.2;obtain⟨o2,p2,bm,H,F,h,k4,y⟩:=G3 SR;rw[M]at H;cases H;have y:=y rfl;rw[y]at F;have h:=h.2;rw[show (WB v q c k).kd.ty=1 from R]at h;have h:m=bm:=by simpa[SB] using h
 subst h;obtain⟨DE,W⟩:=r.o.at_ l _ m 0 M F;obtain⟨_,d,O,E⟩:=dQ R W;have hl:k.length=d.toList.length:=E.len;obtain⟨j,I⟩:=GY he;have Qb:=(Xh.1 I).1;obtain⟨d1,d2,d3,d4⟩:=E.at_ j e (d.toList[j]'ω) I (QH ω);have Ji:(d.toList.map (·.born)).Nodup:=by
  have:d.toList.map (·.born)=k.map (·.b):=by apply List.ext_getElem (by simp[hl]);intro i t n;simp only[KJ]at t n;obtain⟨_,_,g,_⟩:=E.at_ i (k[i]'ω) (d.toList[i]'ω) (QH ω) (QH ω);simp only[List.getElem_map,g]
  rw[this];exact E.QgQ.nodup
 have C:V=(f.toArray).push (d.toList[j]'ω).born:=by apply Array.toList_inj.1;rw[U,d3];simp
 have B:=hb;rw[C]at B;refine⟨.tuple #[(d.toList[j]'ω).key,(d.toList[j]'ω).val],?_,λT J=>?_⟩;rw[d1];exact .tup _ [.int q e.k,(d.toList[j]'ω).val] rfl λi hi=>match i,hi with
  | 0,_=>.cl _ _ (.raw _)
  | 1,_=>d2
 have Zh:=run_entry_at (P:=P) T b m c f.toArray d c (d.toList[j]'ω) (by rw[J b (vq B)];exact B) (by rw[J m (vq O)];exact O) (XK _) Ji;simp[execOp,ho,hv,Zh]
def QvF{k a}{f:TypeId}{pos b j r s x li l c es seen q kd e}
  (g:Qr s.fr x=.mref li 0) (n:s.h[li]?=some (YT l c c (seen++[e.b]))) (o:kd.ty=1) (m:s.h[l]?=some (WB kd q c es)) (i:e∈es) (h:Zr nt a=true)
  (d:QA P base nt w0 Q (.ops r::k) .normal ⟨Zi s.fr a (.tup [.raw (.int q e.k),e.v]),s.h⟩) :
  QA P base nt w0 Q (.ops ((⟨a,.entry x,f,pos,b,j⟩,none)::r)::k) .normal s:=by
 simp only[QA]at d ⊢;exact o9 (QvD rfl g n o m i) h d
end
def zx(a c:Nat)(d:List D)(b:Nat->List D):Nat->List D:=λk=>bif Nat.ble a k&&Nat.blt k (a+c) then d else b k
def rO{a c k d b}(h:k<a):zx a c d b k=b k:=by
 have:Nat.ble a k=false:=by rw[<-Yx,Lj];omega
 simp[zx,this]
section
variable {P:Program}{L:Jt}{base nt:Nat}{s:St}{o:Oper}
def QvG(hL:Jm P L){t e:TypeId}{x l g f j a b c z zt d}(E:o.op=.call ⟨.builtin .clear,#[x],#[t]⟩)(hx:Qr s.fr x=.ref l g f j)(y:s.h[l]?=some d)
  (n:d.kd.Lr=false) (hg:d.gen=g) (C:d.sz=1) (V:d.kd.ro=false) (hn:f+j<=d.n) (ht:ty L t=some ⟨.slice e,a,b,zt⟩) {k:TK} (he:ty L e=some ⟨k,1,c,[z]⟩) (hz:AM z=true) :
  ko P base nt o s (s.h.set l ⟨d.kd,d.gen,d.sz,d.n,zx f j [Ke z] d.row⟩) (.tup []):=by
 refine LA.up ?_ (by simp[calm,E]);intro Z B ac w r Vb;have hv:=r.eval x;rw[hx]at hv;obtain⟨o',p',ad,a1,H,ZR,S,Q,vp,KS⟩:=Fb hv;rw[y]at ZR;cases ZR;have hy:=hL _ _ ht;have W7:=hL _ _ he;have J:P.underlying t=some (.slice e):=yA hy rfl;obtain⟨zv,yB,jw⟩:=W7.zeroValue;have Fi:zv.cells=#[z]:=by apply Array.toList_inj.1;rw[yB]
 have Hb:(Builtin.zeroCells zv.cells j).toList=List.replicate j z:=by rw[Fi];simp[Builtin.zeroCells];apply List.ext_getElem;simp;intro i h1 h2;simp[Nat.mod_one]
 have U:∀Z' h' Qk p,QF Z' h' Qk p (Ke z) z:=λZ' h' Qk p=>
  .cl _ _ (Ds _ _ _)
 rcases KS hg.symm with ⟨I,Ps⟩|⟨O,q,c0,el,Wh,W,ZF,a2,Dv⟩;subst I;have Z3:∀i,zx f 0 [Ke z] d.row i=d.row i:=λi=>by unfold zx;cases h1:Nat.ble f i&&Nat.blt i (f+0);rfl;simp at h1;omega
 have jv:s.h.set l ⟨d.kd,d.gen,d.sz,d.n,zx f 0 [Ke z] d.row⟩=s.h:=by
  have u:(⟨d.kd,d.gen,d.sz,d.n,zx f 0 [Ke z] d.row⟩:Ob)=d:=by rw[funext Z3]
  rw[u];exact AA λi=>by by_cases h:l=i;subst h;rw[Xi (KL y),y];rw[JT h]
 rw[jv];refine⟨.tuple #[],w,B,.inl ?_,Tr.refl _ _ _,r.o,.tup [] [] rfl (λi K=>absurd K (Yy i)),Below.refl _ _⟩;subst Ps;cases ad<;>simp[execOp,E,H,resolve,invoke,Go.builtin,Builtin.clear_,run_underlying J];subst Wh;obtain⟨Q6,xx⟩:=r.o.at_ l d O q y S;obtain⟨c1,nZ,F,LB,Kf,Z3⟩:=xx.cells Q;rw[F]at ZF;cases ZF;have JU:∀c2:Nat->List D,(⟨d.kd,d.gen,d.sz,d.n,c2⟩:Ob).kd=d.kd:=λ_=>rfl;obtain⟨p,c',g1,g2,N,g4,M,g6,g7,g8,g9⟩:=dc (P:=P) O el (List.replicate j z) 0 (q+f*d.sz) w c0 F (by simp;rw[C]at LB ⊢;omega) (λk n=>by
  have R:k<j:=by simpa using n
  have:Q8 (List.replicate j z) k=z:=by simp[Q8,QU,R]
  rw[this];exact hz)
 have T:Tr s.h B w (s.h.set l ⟨d.kd,d.gen,d.sz,d.n,zx f j [Ke z] d.row⟩) B p:=Tr.Q5 r.o y S rfl rfl rfl (λk n _=>M k n) (λc2 a0 e2=>by rw[F]at e2;cases e2;exact⟨c',g2,N⟩);refine⟨.tuple #[],p,B,.inl ?_,T,?_,.tup [] [] rfl (λi K=>absurd K (Yy i)),OA (Q6 V) M g6 g7 g8 g9⟩;subst W;by_cases I:j=0;subst I;have u:p=w:=by
  have:(storeCells ⟨O,q+f*d.sz,none⟩ (List.replicate 0 z) 0).run P w=.ok () w:=by simp[storeCells]
  rw[g1]at this;cases this;rfl
 rw[u];simp[execOp,E,H,resolve,invoke,Go.builtin,Builtin.clear_,run_underlying J];obtain⟨m,rfl⟩:∃m,j=m+1:=⟨j-1,ω⟩;simp[execOp,E,H,resolve,invoke,Go.builtin,Builtin.clear_,run_underlying J,jw,Hb,g1];refine Zo.Q5 (hro:=rfl) r.o y S Q Q rfl rfl (λk n _=>M k n) F g2 N (by rw[N];exact LB) (λk n=>?_) (λk m n hm=>?_);show (zx f j [Ke z] d.row k).length=d.sz;unfold zx;cases Nat.ble f k&&Nat.blt k (f+j);exact Kf k n;simp[C];have R:k<d.n:=n;have YE:m<d.sz:=hm;show ∃v,c'[q+(k*d.sz+m)]?=some v/\QF Z _ B p (nth (zx f j [Ke z] d.row k) m) v;rw[C]at YE;have DE:m=0:=ω;subst DE;have gH:k*d.sz+0=k:=by rw[C];omega
 have Y:q+f*d.sz+0=q+f:=by rw[C];omega
 rw[g4,gH,Y];simp only[List.length_replicate];by_cases V8:f<=k/\k<f+j;rw[Qe ω];have u:zx f j [Ke z] d.row k=[Ke z]:=by simp[zx,Fz,Qqw,V8.1,V8.2]
 rw[u];exact⟨z,by rw[List.getElem?_replicate,Qe ω],U _ _ _ _⟩;rw[Qd ω];have u:zx f j [Ke z] d.row k=d.row k:=by unfold zx;cases h:(Nat.ble f k&&Nat.blt k (f+j));rfl;simp at h;omega
 rw[u];obtain⟨v,G9,W6⟩:=Z3 k 0 R ω;rw[gH]at G9;exact⟨v,G9,W6.tr T⟩
end
section
variable {P:Program}{L:Jt}{base nt:Nat}{w0:Start}{Q:Exit->St->Prop}
def rQ(I:Jm P L)(H:base<=w0.w.heap.size){k i}{M:TypeId}{pos j J r s}{t e:TypeId}{x l g f h a b c z o d}
  (u:Qr s.fr x=.ref l g f h) (K:s.h[l]?=some d)
  (B:d.kd.Lr=false) (C:d.gen=g) (w:d.sz=1) (m:d.kd.ro=false) (y:f+h<=d.n) (v:ty L t=some ⟨.slice e,a,b,o⟩) {p:TK} (E:ty L e=some ⟨p,1,c,[z]⟩) (q:AM z=true) (F:Zr nt i=true)
  (n:QA P base nt w0 Q (.ops r::k) .normal ⟨Zi s.fr i (.tup []),s.h.set l ⟨d.kd,d.gen,d.sz,d.n,zx f h [Ke z] d.row⟩⟩) :
  QA P base nt w0 Q (.ops ((⟨i,.call ⟨.builtin .clear,#[x],#[t]⟩,M,pos,j,J⟩,none)::r)::k) .normal s:=by
 simp only[QA]at n ⊢;exact eA H (QvG I rfl u K B C w m y v E q) F n
end
def QO.cut{P f F k R R'}(hf:QO P f F k R)
  (s:∀d h,R d h->∃l o n,h[l]?=some o/\o.kd.ty=0/\n<=o.n/\R' d (h.set l ⟨o.kd,o.gen,o.sz,n,o.row⟩)):QO P f F k R':=by
 intro Z y w pl vs h1 h2 h3 t K;refine(hf Z y w pl vs h1 h2 h3 t K).mono λe w' he=>?_;obtain⟨v,d,h,Qk,rfl,hR,r,hV,B,hB⟩:=he;obtain⟨l,o,n,z,S,I,M⟩:=s _ _ hR;have t:=KL z;have a:∀(x:Nat) (u:Ob),h[x]?=some u->∃m,(h.set l ⟨o.kd,o.gen,o.sz,n,o.row⟩)[x]?=some m/\m.gen=u.gen/\m.sz=u.sz/\m.kd.ty=u.kd.ty:=λx u e=>by by_cases hx:l=x;subst hx;rw[z]at e;cases e;exact⟨_,Xi t,rfl,rfl,rfl⟩;exact⟨u,by rw[JT hx];exact e,rfl,rfl,rfl⟩
 refine⟨v,d,_,Qk,rfl,M,⟨by simp[r.len],r.inj,λx u e g=>?_,λx u b q e g=>?_⟩,hV.DN a,⟨B.Kz,λx u p e g=>?_,λx u m b q e e' hg g c el K=>?_⟩,hB⟩;by_cases hx:l=x;subst hx;rw[Xi t]at e;cases e;have:=r.V7 l o z g;show n=0;omega;rw[JT hx]at e;exact r.V7 x u e g;by_cases hx:l=x;subst hx;rw[Xi t]at e;cases e;obtain⟨L,H⟩:=r.at_ l o b q z g;obtain⟨c,el,c1,c2,c3,c4⟩:=H.cells S;refine⟨L,.Ov S ⟨c,el,c1,?_,λi J=>c3 i (wB J I),λi j J hj=>?_⟩⟩;have:=V6 o.sz I;show q+n*o.sz<=c.size;omega;obtain⟨u,hu,s⟩:=c4 i j (wB J I) hj;exact⟨u,hu,s.DN a⟩;rw[JT hx]at e;obtain⟨L,H⟩:=r.at_ x u b q e g;exact⟨L,H.to rfl rfl rfl rfl (λ_ _=>rfl) λi j v _ _ s=>s.DN a⟩;obtain⟨m,Q,E,Y,a3,W,V⟩:=B.obj x u p e g;obtain⟨N,C,b2,U,T⟩:=a x m E;exact⟨N,Q,C,Y,ω,by rw[T,W],λhh=>by rw[U];exact V ω⟩;obtain⟨O,Q,E,Y,a3,W,V⟩:=B.obj x u _ e g;obtain⟨N,C,b2,U,T⟩:=a x O E;rw[e']at C;cases C;exact B.shape x u O b q e E ω g c el K
section
variable {P:Program}{L:Jt}{base nt:Nat}{s:St}{o:Oper}
def QvL(j:Jm P L){t:TypeId}{x:Operand}(i:o.op=.call ⟨.builtin .cap,#[x],#[t]⟩)(f:Qr s.fr x=.nil){e a b:Nat}{d:List Value}(h:ty L t=some ⟨.slice e,a,b,d⟩):WL P base nt o s (.raw (.int .i64 0)):=by intro Z l m w r;have c:=r.eval x;rw[f]at c;obtain⟨n,g⟩:=AJ c;refine⟨_,.cl _ _ (.raw _),λk _=>?_⟩;rw[vu i];simp[builtin,g,Builtin.cap_,run_underlying (yA (j _ _ h) rfl),goInt]
def QvM{t h e:TypeId}{ty0:TypeId}{y:Ty}{k I:IntKind}(N:P.underlying t=some (.slice e))(S:P.underlying h=some (.int I))(c:Xl P e y)(l:y.zero.length=y.size)(W:0<y.size)(w:World)(b:Option Addr)(n:Nat)
  (O:0<n) (B:n<=4294967296) (H:y.bytes<=1024) :
  ∃f a,(Builtin.append_ #[t,h] ty0 #[.slice b 0 0,.int k n]).run P w=.ok (.slice (some ⟨w.heap.size,0,none⟩) n f) (w.drew.alloc (.cells ((flat n y.size λ_ j=>Q8 y.zero j).toArray++a) e))/\n<=f/\a.size=(f-n)*y.size:=by
 obtain⟨z,d,K⟩:=c.zeroValue;obtain⟨i,q,V,v⟩:=c.typeInfo w;have T:∀w,(typeInfo e).run P w=.ok i w:=λw=>by
  have r:=c.info;cases hx:P.info? e with
  | none=>rw[hx]at r;cases r
  | some k=>simp[typeInfo,hx]at q ⊢;exact q
 refine⟨grownCap w n 0 e,Builtin.zeroCells z.cells (grownCap w n 0 e-n),?_,grownCap_ge _ _ _ _,by rw[oC];congr 1;rw[<-l,<-d];simp⟩;have m:¬ n=0:=ω;have M:IntKind.i64.wrap (n:Int)=n:=by rw[IntKind.wrap_i64];omega
 have F:¬ (9223372036854775807<(n:Int)):=ω;have x:n*y.bytes<=4294967296*1024:=Xk B H;have E:¬ (281474976710656<Builtin.nextslicecap n 0*i.bytes):=by rw[nextslicecap_zero O,v];omega
 have C:¬ (281474976710656<(n:Int)*(i.bytes:Int)):=by rw[<-zO,v];omega
 have R:¬ ((n:Int)<0):=ω;have U:¬ (n*y.size=0):=Nat.mul_ne_zero m ω;have g:z.cells.size=y.size:=by rw[<-l,<-d];simp
 have J:(flat n y.size λ_ j=>Q8 y.zero j).toArray=Builtin.zeroCells z.cells n:=by
  apply Array.ext;rw[oC,g];simp[zS];intro j u Y;simp only[G0,zS]at u;obtain⟨d1,d2,d3⟩:=div_lt u;have Q:y.zero=z.cells.toList:=d.symm;have p:j%y.size<z.cells.size:=by rw[g];exact d2
  simp[flat,Builtin.zeroCells,Q8,Q,QU,g];rw[getElem!_pos z.cells _ p,jY p];rfl
 rw[J];cases b<;>simp[Builtin.append_,run_underlying N,run_underlying S,c.sizeOf,T,K,asInt,asIntOf,M,m,R,U,F,E,C,Question.forced,Builtin.firstCells,loadCells,loadCellsFrom,newRow,grownCap,askRoom,mark,Sem.run]
def QvN(p:Jm P L){t v e:TypeId}{g x:Operand}{n:Nat}{S:IntKind}{a b c d:Nat}{M N:List Value}{y:Ty}{k:IntKind}(z:o.op=.call ⟨.builtin .append,#[g,x],#[t,v]⟩)(BT:Qr s.fr g=.nil)(V:Qr s.fr x=.raw (.int k n))
  (Y:ty L t=some ⟨.slice e,a,b,M⟩) (Mr:ty L v=some ⟨.int S,c,d,N⟩) (W7:ty L e=some y) (m:y.zero.length=y.size) (hs:0<y.size) (h0:0<n) (Q:n<=4294967296) (R:y.bytes<=1024) :
  ko P base nt o s (s.h++[⟨.arr,0,y.size,n,λ_=>y.zero.map Ke⟩]) (.ref s.h.length 0 0 n):=by
 refine LA.up ?_ (by simp[calm,z]);intro Z l ac w r J;have I:=r.eval g;have u:=r.eval x;rw[BT]at I;rw[V]at u;obtain⟨H,OC⟩:=AJ I;have W:=JI u;have U:=p _ _ W7;have Zk:l.length=s.h.length:=r.o.len;obtain⟨O,f,Zh,He,AO⟩:=QvM (ty0:=o.type) (k:=k) (yA (p _ _ Y) rfl) (Dr (p _ _ Mr) rfl) U m hs w H n h0 Q R;have F:∀b,b<w.heap.size->(w.drew.alloc (.cells ((flat n y.size λ_ j=>Q8 y.zero j).toArray++f) e)).heap[b]? = w.heap[b]? := λb hb=>xK w.drew _ b hb;have K:(w.drew.alloc (.cells ((flat n y.size λ_ j=>Q8 y.zero j).toArray++f) e)).heap[w.heap.size]?=some (.cells ((flat n y.size λ_ j=>Q8 y.zero j).toArray++f) e (0,0)):=heap_alloc_new w.drew _;have T:Tr s.h l w (s.h++[⟨.arr,0,y.size,n,λ_=>y.zero.map Ke⟩]) (l++[some (w.heap.size,0)]) (w.drew.alloc (.cells ((flat n y.size λ_ j=>Q8 y.zero j).toArray++f) e)):=Tr.push r.o F _ _ (by intro b q h;simp at h;omega);refine⟨.slice (some ⟨w.heap.size,0,none⟩) n O,_,_,.inl ?_,T,Zo.push r.o F _ rfl (Qv _) J K (by simp[zS]) (λi C=>by simp[m]) (λi j C B=>⟨Q8 y.zero j,?_,?_⟩),.ref _ _ _ _ ⟨.arr,0,y.size,n,λ_=>y.zero.map Ke⟩ (some (w.heap.size,0)) _ _ σ (by rw[<-Zk];simp) rfl (Qv _) (λ_=>.inr ⟨w.heap.size,0,_,_,rfl,σ,K,?_,He⟩),((Below.refl base w).drew).alloc J _⟩;rw[vu z];have:(Array.map ac.eval #[g,x])=#[.slice H 0 0,.int k n]:=by simp[OC,W]
 rw[this];simp only[builtin,Sem.run_bind,Zh,Result.andThen_ok,Sem.run_pure];have E:=Ha (vs:=λ_ j=>Q8 y.zero j) C B;have Qb:=(Xh.1 E).1;rw[JG,N8 (zC Qb)];simpa using E;have Z8:j<y.zero.length:=by rw[m];exact B
 have:nth (y.zero.map Ke) j=Ke (Q8 y.zero j):=by simp[nth,Q8,QU,Z8]
 show QF Z _ _ _ (nth (y.zero.map Ke) j) _;rw[this];exact .cl _ _ (Ds _ _ _);simp only[JG,Array.size_append,G0,zS,AO];rw[<-KE];exact V6 _ ω
end
section
variable {P:Program}{L:Jt}{base nt:Nat}{w0:Start}{Q:Exit->St->Prop}
def rS(l:Jm P L){k:List Item}{c:Option Nat}{n:TypeId}{pos:String}{d:Array Edge}{m:Option (Nat × Bool)}{r:List (Oper × G)}{s:St}{t e a b:Nat}{x:Operand}{g:List Value}
  (h:Qr s.fr x=.nil) (i:ty L t=some ⟨.slice e,a,b,g⟩) (j:Zr nt c=true) (f:QA P base nt w0 Q (.ops r::k) .normal ⟨Zi s.fr c (.raw (.int .i64 0)),s.h⟩) :
  QA P base nt w0 Q (.ops ((⟨c,.call ⟨.builtin .cap,#[x],#[t]⟩,n,pos,d,m⟩,none)::r)::k) .normal s:=by
 simp only[QA]at f ⊢;exact o9 (QvL l rfl h i) j f
def QvO(F:Jm P L)(E:base<=w0.w.heap.size){k:List Item}{f:Option Nat}{M:TypeId}{pos:String}{g:Array Edge}{I:Option (Nat × Bool)}{r:List (Oper × G)}{s:St}{t i e:TypeId}{h x:Operand}{n:Nat}{q:IntKind}{a b c d:Nat}{l m:List Value}{y:Ty}{u:IntKind}
  (N:Qr s.fr h=.nil) (w:Qr s.fr x=.raw (.int u n)) (z:ty L t=some ⟨.slice e,a,b,l⟩) (K:ty L i=some ⟨.int q,c,d,m⟩) (J:ty L e=some y) (v:y.zero.length=y.size) (B:0<y.size) (H:0<n) (o:n<=4294967296) (p:y.bytes<=1024) (C:Zr nt f=true)
  (j:QA P base nt w0 Q (.ops r::k) .normal ⟨Zi s.fr f (.ref s.h.length 0 0 n),s.h++[⟨.arr,0,y.size,n,λ_=>y.zero.map Ke⟩]⟩) :
  QA P base nt w0 Q (.ops ((⟨f,.call ⟨.builtin .append,#[h,x],#[t,i]⟩,M,pos,g,I⟩,none)::r)::k) .normal s:=by
 simp only[QA]at j ⊢;exact eA E (QvN F rfl N w z K J v B H o p) C j
end
section
variable {P:Program}{L:Jt}{base nt:Nat}{s:St}{o:Oper}
end
section
variable {P:Program}{L:Jt}{base nt:Nat}{w0:Start}{Q:Exit->St->Prop}
end
section
variable {Z:Nat->Prop}
def QF.QgS{h:List Ob}{m:List Pl}{w l}{o:Ob}{p}(L:h[l]?=some o)(Q:m[l]?=some p)(T:o.kd.ty=0){d v}(r:QF Z h m w d v):QF Z (h.set l o.gone) (m.set l none) w d v:=by
 have M:∀(c:Nat),c≠l->(m.set l none)[c]? = m[c]? := λc W=>by rw[JT (Zb W)]
 have Y:∀b,XL m b->XL (m.set l none) b:=λb n c q e=>by by_cases R:c=l;subst R;rw[Xi (WA Q)]at e;cases e;rw[M c R]at e;exact n c q e
 have V:∀b,free Z m b->free Z (m.set l none) b:=λb n=>⟨n.1,Y b n.2⟩;have O:(h.set l o.gone)[l]?=some o.gone:=Xi (KL L);have K:(m.set l none)[l]?=some none:=Xi (WA Q);induction r with
 | cl d v U=>exact .cl _ _ (U.mono λb n _=>⟨V b n,rfl⟩)
 | ref c g H I x u a J k F s C z=>by_cases e:c=l;subst e;rw[L]at k;cases k;exact .ref _ g H I o.gone none a J O K rfl (by simp[Ob.gone];omega) (λN=>by simp[Ob.gone]at N;omega);exact .ref _ g H I x u a J (by rw[JT (Zb e)];exact k) (by rw[M c e];exact F) s C z
 | ptr c g i j x u a k F s C z=>by_cases e:c=l;subst e;rw[L]at k;cases k;exact .ptr _ g i j o.gone none a O K rfl (by simp[Ob.gone];omega) (λN=>by simp[Ob.gone]at N;omega);exact .ptr _ g i j x u a (by rw[JT (Zb e)];exact k) (by rw[M c e];exact F) s C z
 | mref c g x u b k F s C z=>by_cases e:c=l;subst e;rw[L]at k;cases k;exact absurd T s.1;exact .mref _ g x u b (by rw[JT (Zb e)];exact k) (by rw[M c e];exact F) s C z
 | clo f S E t B P y=>exact .clo f S E t B y
 | agg E t B P y=>exact .agg E t B y
 | tup E t B P y=>exact .tup E t B y
end
def QgU(F h:List Ob):Prop:=∀(l:Nat) (o:Ob),F[l]?=some o->∃a,h[l]?=some a/\a.gen=o.gen
def Qs.TF{k:Start}(hF:k.pl.length=k.F.length){fr}{h:List Ob}(P:QgU k.F h)(t l)(hl:k.F.length<=l){o:Ob}{off len}(ht:get fr t=.ref l o.gen off len)(E:h[l]?=some o)(hn:off+len<=o.n)(M:o.kd.ty=0)(Zw:∀i,i<o.n->(o.row i).all D.Yl=true):
  Qs k ⟨fr,h⟩ ⟨put fr t (.imm o.sz len (rowFrom off o.row)),h.set l o.gone⟩:=by
 intro Z z V nt f a w r b;have F:f.length=h.length:=r.o.len;have U:l<f.length:=by have g:=KL E;omega
 have n:f[l]?=some f[l]:=QH U;generalize oS:f[l]=p at n;have pS:∀d q:Nat,p=some (d,q)->k.w.heap.size<=d:=λd q e=>by
  subst e;rcases xI d k.w.heap.size with Qb|Xz;exfalso;have FJ:¬ XL k.pl d:=λha=>(b.2.1.Kz d ha Qb).1 l q n;obtain⟨L,g⟩:=Oa.1 FJ;obtain⟨Y,N⟩:=Oa.1 g;have S:=Classical.not_not.1 N;have R:L<k.F.length:=by rw[<-hF];exact WA S
  obtain⟨J,p1,Q,k2,k3,k4,k5⟩:=b.2.1.obj L _ _ (QH R) S;obtain⟨o2,k6,k7⟩:=P L _ (QH R);rw[k6]at Q;cases Q;obtain⟨_,k8⟩:=k5 k7;subst k8;have:=r.o.inj L l d Y q k2 n;omega;exact Xz
 have KS:∀d q,p=some (d,q)->Z d/\(∀c I,f[c]?=some (some (d,I))->c=l)/\Ou Z h f w o d q:=λd q e=>by have g:=pS d q e;subst e;exact⟨b.2.2.own l d q n g,λc I e'=>r.o.inj _ _ _ _ _ e' n,(r.o.at_ l o d q E n).2.cells M⟩
 have O:∀(c:Nat),c≠l->(f.set l none)[c]? = f[c]? := λc T=>by rw[JT (Zb T)]
 have W:(f.set l none)[l]?=some none:=Xi U;have H:∀c d q:Nat,(f.set l none)[c]?=some (some (d,q))->c≠l/\f[c]?=some (some (d,q)):=λc d q e=>by by_cases m:c=l;subst m;rw[W]at e;cases e;exact⟨m,by rw[<-O c m];exact e⟩
 have hh:∀(c:Nat) (s:Ob),c≠l->h[c]?=some s->∃u:Ob,(h.set l o.gone)[c]?=some u/\u.gen=s.gen/\u.sz=s.sz/\u.kd.ty=s.kd.ty:=λc s C e=>⟨s,by rw[JT (Zb C)];exact e,rfl,rfl,rfl⟩
 have K:DG k.F.length h f (h.set l o.gone) (f.set l none):=⟨λb' Xu c q e=>Xu c q (H _ _ _ e).2,λc s p' T ZR Jd=>by have C:c≠l:=ω;exact⟨s,by rw[JT (Zb C)];exact ZR,by rw[O c C];exact Jd,rfl,rfl,rfl⟩⟩
 refine⟨f.set l none,⟨r.nt,r.defers,λu=>?_,⟨by simp[F],λy l2 d q I m B=>r.o.inj y l2 d q I (H _ _ _ m).2 (H _ _ _ B).2,λy J g m=>?_,λy J d q g m=>?_⟩⟩,b.keep K⟩;show QF Z _ _ w (get (put fr t _) u) _;rw[E9];by_cases e:u=t;subst e;rw[Qe rfl];have g:=(r.fr u).fz E n M KS Zw hh;rw[ht]at g;have N:Nat.ble (off+len) o.n=true:=by rw[Lj];exact hn
 simpa only[D.fz,Om,N,Bool.and_self,wD] using g;rw[Qd e];exact(r.fr u).QgS E n M;by_cases B:y=l;subst B;rw[Xi ω]at g;cases g;rfl;rw[JT (Zb B)]at g;rw[O y B]at m;exact r.o.V7 y J g m;obtain⟨C,B⟩:=H _ _ _ m;rw[JT (Zb C)]at g;obtain⟨g1,x⟩:=r.o.at_ y J d q g B;exact⟨g1,x.to rfl rfl rfl rfl (λi _=>rfl) λi j v hi hj hr=>hr.QgS E n M⟩
section
variable {P:Program}{base nt:Nat}{w0:Start}
end
section
variable {P:Program}{base nt:Nat}{w0:Start}{Q:Exit->St->Prop}
end
section
variable {P:Program}{base nt:Nat}{w0:Start}{Q:Exit->St->Prop}
end
end Go.Fg
namespace Go.Fg
section
variable {P:Program}{base nt:Nat}{w0:Start}{Q:Exit->St->Prop}{k:List Item}{s:St}
def Pt(P:Program)(base nt:Nat)(w0:Start)(Q:Exit->St->Prop)(k:List Item)(c:Code):Nat->Exit->St->Prop
 | 0,.normal,_=>False
 | n+1,.normal,s=>QA P base nt w0 (Pt P base nt w0 Q k c n) [.code c] .normal s
 | _,e,s=>QA P base nt w0 Q k e s
theorem QI0{c n}:Pt P base nt w0 Q k c (n+1) .normal s=QA P base nt w0 (Pt P base nt w0 Q k c n) [.code c] .normal s:=Vp rfl
theorem QI1{c n j}:Pt P base nt w0 Q k c n (.exit j) s=QA P base nt w0 Q k (.exit j) s:=Vp (by cases n<;>rfl)
theorem QI2{c n}:Pt P base nt w0 Q k c n .ret s=QA P base nt w0 Q k .ret s:=Vp (by cases n<;>rfl)
attribute[go_sem]QI0 QI1 QI2
def x6(n){c}(h:QA P base nt w0 (Pt P base nt w0 Q k c n) [.code c] .normal s):QA P base nt w0 Q (.code (.loop c)::k) .normal s:=by
 simp only[QA];intro Z z l a w r b;refine wp_loop_rounds (n+1) ?_;induction n generalizing s l a w with
 | zero=>
  simp only[QA]at h;rw[rounds_succ];refine Code.wp_mono (λe a w q=>?_) (h Z z l a w r b);obtain⟨j,i,d,g,f⟩:=q;cases e with
  | normal=>exact d.elim
  | _=>exact⟨j,i,d,g,f⟩
 | succ n m=>
  simp only[QA]at h;rw[rounds_succ];refine Code.wp_mono (λe a w q=>?_) (h Z z l a w r b);obtain⟨j,i,d,g,f⟩:=q;cases e with
  | normal=>exact m d i a w g f
  | _=>exact⟨j,i,d,g,f⟩
end
section
variable {P:Program}{base nt:Nat}{w0:Start}
def yP(M:base<=w0.w.heap.size){K g}{m:TypeId}{i H r s x c}{J:Array TypeId}{f j l}(y:Qm P f)
  (q:JP (Qr s.fr x)=some (f,j,l)) {k:List D} (B:KN (Jh j l (c.toList.map (Qr s.fr))) k) {R:D->List Ob->Prop} (F:QO P f s.h k R)
  (t:Zr nt g=true) (u:∀d h,R d h->AX P base nt w0 K r ⟨Zi s.fr g d,h⟩) :
  AX P base nt w0 K ((false, ⟨g, .call ⟨.value x, c, J⟩, m, "!", i, H⟩, none) :: r) s := by
 simp only[AX,XA,zd];intro Z z p a w n b;exact Oper.wp_mono (λO N ⟨d,h,L,E,o,I,T,v,e⟩=>⟨λC=>absurd C (by simp[Fq]),_,_,L,v,u d h E,o,I,T,e⟩) (QeH M y rfl q (F.args B) t p a w n b _)
end
end Go.Fg
namespace Go.Fg.X
open Go.Proofs Go.Fg
open Go.Proofs.Tryz
def ol:List Nat:=[0,1,2,3,4,5,6,7,8,9,1010,1011,12]
def ut:List Nat:=[0,1,2,3,4,5,6,1007]
def Eq:List Nat:=[0,1,2,3,4,5,6,7,8,9]
def i4:List Nat:=[0,1,2,3,4,5,6,7,8,1009]
def i5:List Nat:=[0,1,2,3,4,5,6,7,8,9,10,11,1012]
def i6:List Nat:=[0,1,2,3,4,5,6,7,8,9,10]
def i7:List Nat:=[0,1,2,3,4,5,1006]
def i9:List Nat:=[0,1,2,3,4,5,6,7,1008]
def ii:List Nat:=[0,1,2,3,4,5,6,7,8,9,10,11,12,1013,14,1015]
def Id:List Nat:=[0,1,2,3,4,5,6,7,8,9,10,11,1012,13]
def o00:List Nat:=[0,1,2,3,4,5,6,7,8,9,10,11,1012,13,14]
def o01:List Nat:=[0,1,2,3,4,5,6,7,8,1009,10,11,1012]
def o02:List Nat:=[0,1,2,3,4,5,7,8,9,10,11,1006,1012,13,14,15,16,1017]
def o03:List Nat:=[0,1,2,3,4,5,8,9,10,11,12,1006,7,1013,14,15,16,1017]
def o04:List Nat:=[0,1,2,3,4,5,6,7,8,9,1010]
def o05:List Nat:=[0,1,2,3,4,5,6,7,8]
def o06:List Nat:=[0,1,2,3,4,5,6,7,8,9,10,11,12,13]
def o07:List Nat:=[0,1,2,3,4,5,6,7,8,9,10,11,12,14,15,1013,16,17]
def o08:List Nat:=[0,1,2,3,4,5,6,7,8,9,10,11,12,13,14,1015,16,17]
def o09:List Nat:=[0,1,2,3,4,5,6,7,1008,1009,10,11,12,1013,1014,15]
def o10:List Nat:=[0,1,2,3,4,5,6,7,8,9,10,11,12,13,14,1015,16,17,1018]
def o11:List Nat:=[0,1,2,3,4,5,6,7,8,9,10,11,12,13,14,15,16,17,1018,19]
attribute[go_sem]ol ut Eq i4 i5 i6 i7 i9 ii Id o00 o01 o02 o03 o04 o05 o06 o07 o08 o09 o10 o11
def ml:List Nat->List (Nat × Bool)
 | []=>[]
 | a::l=>(if a<1000 then (a,true) else (a-1000,false))::ml l
@[go_sem] theorem QI3:ml []=[]:=rfl
@[go_sem] theorem QI4(a l):ml (a::l)=(if a<1000 then (a,true) else (a-1000,false))::ml l:=rfl
section
variable {base nt:Nat}{w0:Start}{Q:Exit->St->Prop}{k:List Item}{s:St}{B:Prop}{K:St->Prop}{l:List (Bool × Oper × G)}
def Kh(a:base<=w0.w.heap.size)(h:B)(e:hx prog base w0 Q cx nt 200 k s=B:=by (simp only[go_sem,Qj];rfl)):QA prog base nt w0 Q k .normal s:=Qh a (e▸h)
def kz1(a:base<=w0.w.heap.size)(e:hx prog base w0 Q cx nt 200 k s:=by simp only[go_sem,Qj]):QA prog base nt w0 Q k .normal s:=Qh a e
def Ms(a:base<=w0.w.heap.size)(h:B)(e:Vi prog base w0 cx nt K l s=B:=by (simp only[go_sem,Qj];rfl)):AX prog base nt w0 K l s:=Jb a (e▸h)
def az1(a:base<=w0.w.heap.size)(e:Vi prog base w0 cx nt K l s:=by simp only[go_sem,Qj]):AX prog base nt w0 K l s:=Jb a e
def Qg(a:base<=w0.w.heap.size)(h:B)(e:hx prog base w0 Q cx nt 200 k s=B:=by (simp only[go_sem];rfl)):QA prog base nt w0 Q k .normal s:=Qh a (e▸h)
def VT(a:base<=w0.w.heap.size)(e:hx prog base w0 Q cx nt 200 k s:=by simp only[go_sem]):QA prog base nt w0 Q k .normal s:=Qh a e
def ZB(a:base<=w0.w.heap.size)(h:B)(e:Vi prog base w0 cx nt K l s=B:=by (simp only[go_sem];rfl)):AX prog base nt w0 K l s:=Jb a (e▸h)
def FK(a:base<=w0.w.heap.size)(e:Vi prog base w0 cx nt K l s:=by simp only[go_sem]):AX prog base nt w0 K l s:=Jb a e
def Qy{b a}(c:base<=w0.w.heap.size)(l)(h:Vi prog base w0 cx nt (O1 prog base w0 Q cx nt 200 k) (Go.Fg.Vo [] a (ml l)) s)(e:fi cx.L a (ml l)=true:=by kernel_rfl)(d:B9 a s.fr=true:=by kernel_rfl):QA prog base nt w0 Q (.code (.region b a true)::k) .normal s:=Qen Vr c 200 mixed (ml l) e d h
def cH1{b}{j:TypeId}{pos c v r x}{a:Array Operand}{w:Array TypeId}{f e i g}(t:base<=w0.w.heap.size)(p:Qm prog f){R}(u:QO prog f s.h g R)(o:∀d h,R d h->QA prog base nt w0 Q (.ops r::k) .normal ⟨Zi s.fr b d,h⟩)(m:JP (Qr s.fr x)=some (f,e,i):=by rfl)(q:KN (Jh e i (a.toList.map (Qr s.fr))) g:=by simp only[go_sem,Qj])(n:Zr nt b=true:=by rfl):QA prog base nt w0 Q (.ops ((⟨b,.call ⟨.value x,a,w⟩,j,pos,c,v⟩,none)::r)::k) .normal s:=z6 t p m q u n o
def cR1{b}{i:TypeId}{pos c u r x}{a:Array Operand}{v:Array TypeId}{f e h g}(q:base<=w0.w.heap.size)(o:Qm prog f){R}(t:Zl prog f s.h g R)(n:∀d,R d->QA prog base nt w0 Q (.ops r::k) .normal ⟨Zi s.fr b d,s.h⟩)(j:JP (Qr s.fr x)=some (f,e,h):=by rfl)(p:KN (Jh e h (a.toList.map (Qr s.fr))) g:=by simp only[go_sem,Qj])(m:Zr nt b=true:=by rfl):QA prog base nt w0 Q (.ops ((⟨b,.call ⟨.value x,a,v⟩,i,pos,c,u⟩,none)::r)::k) .normal s:=X4 q o j p t m n
def cA1{b}{m:TypeId}{pos c C r x}{a:Array Operand}{E:Array TypeId}{f g j i}(y:base<=w0.w.heap.size)(v:Qm prog f){R}(z:QM prog f i R)(t:∀d h,R d h->d.flat=true/\∀o∈h,o.flat)(u:∀d h,R d h->QA prog base nt w0 Q (.ops r::k) .normal ⟨Zi s.fr b (d.shift s.h.length),s.h++h.map (Ob.shift s.h.length)⟩)(n:JP (Qr s.fr x)=some (f,g,j):=by rfl)(w:match YU (Wq s.h 4) (Jh g j (a.toList.map (Qr s.fr))) with|some (p,e)=>p/\KN e i|none=>False:=by simp only[go_sem,Qj])(q:Zr nt b=true:=by rfl):QA prog base nt w0 Q (.ops ((⟨b,.call ⟨.value x,a,E⟩,m,pos,c,C⟩,none)::r)::k) .normal s:=X2 y v n w z t q u
def xR1{b}{i:TypeId}{pos c u r x}{a:Array Operand}{v:Array TypeId}{f e h g}(q:base<=w0.w.heap.size)(o:Qm prog f){R}(t:Zl prog f s.h g R)(n:∀d,R d->AX prog base nt w0 K r ⟨Zi s.fr b d,s.h⟩)(j:JP (Qr s.fr x)=some (f,e,h):=by rfl)(p:KN (Jh e h (a.toList.map (Qr s.fr))) g:=by simp only[go_sem,Qj])(m:Zr nt b=true:=by rfl):AX prog base nt w0 K ((false,⟨b,.call ⟨.value x,a,v⟩,i,pos,c,u⟩,none)::r) s:=Pf q o j p t m n
def xH1{b}{j : TypeId}{c v r x}{a : Array Operand}{w : Array TypeId}{f e i g}(t : base <= w0.w.heap.size)(p : Qm prog f){R}(u : QO prog f s.h g R)(o : ∀ d h, R d h -> AX prog base nt w0 K r ⟨Zi s.fr b d, h⟩)(m : JP (Qr s.fr x) = some (f, e, i) := by rfl)(q : KN (Jh e i (a.toList.map (Qr s.fr))) g := by simp only[go_sem, Qj])(n : Zr nt b = true := by rfl): AX prog base nt w0 K ((false, ⟨b, .call ⟨.value x, a, w⟩, j, "!", c, v⟩, none) :: r) s := yP t p m q u n o
def xA1{b}{m:TypeId}{pos c C r x}{a:Array Operand}{E:Array TypeId}{f g j i}(y:base<=w0.w.heap.size)(v:Qm prog f){R}(z:QM prog f i R)(t:∀d h,R d h->d.flat=true/\∀o∈h,o.flat)(u:∀d h,R d h->AX prog base nt w0 K r ⟨Zi s.fr b (d.shift s.h.length),s.h++h.map (Ob.shift s.h.length)⟩)(n:JP (Qr s.fr x)=some (f,g,j):=by rfl)(w:match YU (Wq s.h 4) (Jh g j (a.toList.map (Qr s.fr))) with|some (p,e)=>p/\KN e i|none=>False:=by simp only[go_sem,Qj])(q:Zr nt b=true:=by rfl):AX prog base nt w0 K ((false,⟨b,.call ⟨.value x,a,E⟩,m,pos,c,C⟩,none)::r) s:=Tl y v n w z t q u
def ZT{b}{j:TypeId}{pos c v r x}{a:Array Operand}{w:Array TypeId}{f e i g}(t:base<=w0.w.heap.size)(p:Qm prog f){R}(u:QO prog f s.h g R)(o:∀d h,R d h->QA prog base nt w0 Q (.ops r::k) .normal ⟨Zi s.fr b d,h⟩)(m:JP (Qr s.fr x)=some (f,e,i):=by rfl)(q:KN (Jh e i (a.toList.map (Qr s.fr))) g:=by simp only[go_sem])(n:Zr nt b=true:=by rfl):QA prog base nt w0 Q (.ops ((⟨b,.call ⟨.value x,a,w⟩,j,pos,c,v⟩,none)::r)::k) .normal s:=z6 t p m q u n o
def rT{b}{i:TypeId}{pos c u r x}{a:Array Operand}{v:Array TypeId}{f e h g}(q:base<=w0.w.heap.size)(o:Qm prog f){R}(t:Zl prog f s.h g R)(n:∀d,R d->QA prog base nt w0 Q (.ops r::k) .normal ⟨Zi s.fr b d,s.h⟩)(j:JP (Qr s.fr x)=some (f,e,h):=by rfl)(p:KN (Jh e h (a.toList.map (Qr s.fr))) g:=by simp only[go_sem])(m:Zr nt b=true:=by rfl):QA prog base nt w0 Q (.ops ((⟨b,.call ⟨.value x,a,v⟩,i,pos,c,u⟩,none)::r)::k) .normal s:=X4 q o j p t m n
def cA2{b}{m:TypeId}{pos c C r x}{a:Array Operand}{E:Array TypeId}{f g j i}(y:base<=w0.w.heap.size)(v:Qm prog f){R}(z:QM prog f i R)(t:∀d h,R d h->d.flat=true/\∀o∈h,o.flat)(u:∀d h,R d h->QA prog base nt w0 Q (.ops r::k) .normal ⟨Zi s.fr b (d.shift s.h.length),s.h++h.map (Ob.shift s.h.length)⟩)(n:JP (Qr s.fr x)=some (f,g,j):=by rfl)(w:match YU (Wq s.h 4) (Jh g j (a.toList.map (Qr s.fr))) with|some (p,e)=>p/\KN e i|none=>False:=by simp only[go_sem])(q:Zr nt b=true:=by rfl):QA prog base nt w0 Q (.ops ((⟨b,.call ⟨.value x,a,E⟩,m,pos,c,C⟩,none)::r)::k) .normal s:=X2 y v n w z t q u
def xR2{b}{i:TypeId}{pos c u r x}{a:Array Operand}{v:Array TypeId}{f e h g}(q:base<=w0.w.heap.size)(o:Qm prog f){R}(t:Zl prog f s.h g R)(n:∀d,R d->AX prog base nt w0 K r ⟨Zi s.fr b d,s.h⟩)(j:JP (Qr s.fr x)=some (f,e,h):=by rfl)(p:KN (Jh e h (a.toList.map (Qr s.fr))) g:=by simp only[go_sem])(m:Zr nt b=true:=by rfl):AX prog base nt w0 K ((false,⟨b,.call ⟨.value x,a,v⟩,i,pos,c,u⟩,none)::r) s:=Pf q o j p t m n
def vO{b}{j : TypeId}{c v r x}{a : Array Operand}{w : Array TypeId}{f e i g}(t : base <= w0.w.heap.size)(p : Qm prog f){R}(u : QO prog f s.h g R)(o : ∀ d h, R d h -> AX prog base nt w0 K r ⟨Zi s.fr b d, h⟩)(m : JP (Qr s.fr x) = some (f, e, i) := by rfl)(q : KN (Jh e i (a.toList.map (Qr s.fr))) g := by simp only[go_sem])(n : Zr nt b = true := by rfl): AX prog base nt w0 K ((false, ⟨b, .call ⟨.value x, a, w⟩, j, "!", c, v⟩, none) :: r) s := yP t p m q u n o
def xA2{b}{m:TypeId}{pos c C r x}{a:Array Operand}{E:Array TypeId}{f g j i}(y:base<=w0.w.heap.size)(v:Qm prog f){R}(z:QM prog f i R)(t:∀d h,R d h->d.flat=true/\∀o∈h,o.flat)(u:∀d h,R d h->AX prog base nt w0 K r ⟨Zi s.fr b (d.shift s.h.length),s.h++h.map (Ob.shift s.h.length)⟩)(n:JP (Qr s.fr x)=some (f,g,j):=by rfl)(w:match YU (Wq s.h 4) (Jh g j (a.toList.map (Qr s.fr))) with|some (p,e)=>p/\KN e i|none=>False:=by simp only[go_sem])(q:Zr nt b=true:=by rfl):AX prog base nt w0 K ((false,⟨b,.call ⟨.value x,a,E⟩,m,pos,c,C⟩,none)::r) s:=Tl y v n w z t q u
def cC1{b}{m:TypeId}{pos c E r x}{a:Array Operand}{F:Array TypeId}{f g j i}(y:base<=w0.w.heap.size)(u:Qm prog f){v:D}(C:QM prog f i (QR v))(t:QA prog base nt w0 Q (.ops r::k) .normal ⟨Zi s.fr b (v.shift s.h.length),s.h++([]:List Ob).map (Ob.shift s.h.length)⟩)(n:JP (Qr s.fr x)=some (f,g,j):=by rfl)(w:match YU (Wq s.h 4) (Jh g j (a.toList.map (Qr s.fr))) with|some (p,e)=>p/\KN e i|none=>False:=by simp only[go_sem,Qj])(o:Zr nt b=true:=by rfl)(q:v.flat=true:=by rfl):QA prog base nt w0 Q (.ops ((⟨b,.call ⟨.value x,a,F⟩,m,pos,c,E⟩,none)::r)::k) .normal s:=X2 y u n w C (QR.flat q) o λd h z=>by obtain⟨rfl,rfl⟩:=z;exact t
def cS1{b}{i:TypeId}{pos c w r x}{a:Array Operand}{y:Array TypeId}{f e h g}(q:base<=w0.w.heap.size)(o:Qm prog f){v}(u:Zl prog f s.h g (λd=>d=v))(n:QA prog base nt w0 Q (.ops r::k) .normal ⟨Zi s.fr b v,s.h⟩)(j:JP (Qr s.fr x)=some (f,e,h):=by rfl)(p:KN (Jh e h (a.toList.map (Qr s.fr))) g:=by simp only[go_sem,Qj])(m:Zr nt b=true:=by rfl):QA prog base nt w0 Q (.ops ((⟨b,.call ⟨.value x,a,y⟩,i,pos,c,w⟩,none)::r)::k) .normal s:=X4 q o j p u m λd t=>by subst t;exact n
def xC1{b}{m:TypeId}{pos c E r x}{a:Array Operand}{F:Array TypeId}{f g j i}(y:base<=w0.w.heap.size)(u:Qm prog f){v:D}(C:QM prog f i (QR v))(t:AX prog base nt w0 K r ⟨Zi s.fr b (v.shift s.h.length),s.h++([]:List Ob).map (Ob.shift s.h.length)⟩)(n:JP (Qr s.fr x)=some (f,g,j):=by rfl)(w:match YU (Wq s.h 4) (Jh g j (a.toList.map (Qr s.fr))) with|some (p,e)=>p/\KN e i|none=>False:=by simp only[go_sem,Qj])(o:Zr nt b=true:=by rfl)(q:v.flat=true:=by rfl):AX prog base nt w0 K ((false,⟨b,.call ⟨.value x,a,F⟩,m,pos,c,E⟩,none)::r) s:=Tl y u n w C (QR.flat q) o λd h z=>by obtain⟨rfl,rfl⟩:=z;exact t
def xS1{b}{i:TypeId}{pos c w r x}{a:Array Operand}{y:Array TypeId}{f e h g}(q:base<=w0.w.heap.size)(o:Qm prog f){v}(u:Zl prog f s.h g (λd=>d=v))(n:AX prog base nt w0 K r ⟨Zi s.fr b v,s.h⟩)(j:JP (Qr s.fr x)=some (f,e,h):=by rfl)(p:KN (Jh e h (a.toList.map (Qr s.fr))) g:=by simp only[go_sem,Qj])(m:Zr nt b=true:=by rfl):AX prog base nt w0 K ((false,⟨b,.call ⟨.value x,a,y⟩,i,pos,c,w⟩,none)::r) s:=Pf q o j p u m λd t=>by subst t;exact n
def QZ{b}{m:TypeId}{pos c E r x}{a:Array Operand}{F:Array TypeId}{f g j i}(y:base<=w0.w.heap.size)(u:Qm prog f){v:D}(C:QM prog f i (QR v))(t:QA prog base nt w0 Q (.ops r::k) .normal ⟨Zi s.fr b (v.shift s.h.length),s.h++([]:List Ob).map (Ob.shift s.h.length)⟩)(n:JP (Qr s.fr x)=some (f,g,j):=by rfl)(w:match YU (Wq s.h 4) (Jh g j (a.toList.map (Qr s.fr))) with|some (p,e)=>p/\KN e i|none=>False:=by simp only[go_sem])(o:Zr nt b=true:=by rfl)(q:v.flat=true:=by rfl):QA prog base nt w0 Q (.ops ((⟨b,.call ⟨.value x,a,F⟩,m,pos,c,E⟩,none)::r)::k) .normal s:=X2 y u n w C (QR.flat q) o λd h z=>by obtain⟨rfl,rfl⟩:=z;exact t
def ZH{b}{i:TypeId}{pos c w r x}{a:Array Operand}{y:Array TypeId}{f e h g}(q:base<=w0.w.heap.size)(o:Qm prog f){v}(u:Zl prog f s.h g (λd=>d=v))(n:QA prog base nt w0 Q (.ops r::k) .normal ⟨Zi s.fr b v,s.h⟩)(j:JP (Qr s.fr x)=some (f,e,h):=by rfl)(p:KN (Jh e h (a.toList.map (Qr s.fr))) g:=by simp only[go_sem])(m:Zr nt b=true:=by rfl):QA prog base nt w0 Q (.ops ((⟨b,.call ⟨.value x,a,y⟩,i,pos,c,w⟩,none)::r)::k) .normal s:=X4 q o j p u m λd t=>by subst t;exact n
def ZP{b}{m:TypeId}{pos c E r x}{a:Array Operand}{F:Array TypeId}{f g j i}(y:base<=w0.w.heap.size)(u:Qm prog f){v:D}(C:QM prog f i (QR v))(t:AX prog base nt w0 K r ⟨Zi s.fr b (v.shift s.h.length),s.h++([]:List Ob).map (Ob.shift s.h.length)⟩)(n:JP (Qr s.fr x)=some (f,g,j):=by rfl)(w:match YU (Wq s.h 4) (Jh g j (a.toList.map (Qr s.fr))) with|some (p,e)=>p/\KN e i|none=>False:=by simp only[go_sem])(o:Zr nt b=true:=by rfl)(q:v.flat=true:=by rfl):AX prog base nt w0 K ((false,⟨b,.call ⟨.value x,a,F⟩,m,pos,c,E⟩,none)::r) s:=Tl y u n w C (QR.flat q) o λd h z=>by obtain⟨rfl,rfl⟩:=z;exact t
def KW{b}{i:TypeId}{pos c w r x}{a:Array Operand}{y:Array TypeId}{f e h g}(q:base<=w0.w.heap.size)(o:Qm prog f){v}(u:Zl prog f s.h g (λd=>d=v))(n:AX prog base nt w0 K r ⟨Zi s.fr b v,s.h⟩)(j:JP (Qr s.fr x)=some (f,e,h):=by rfl)(p:KN (Jh e h (a.toList.map (Qr s.fr))) g:=by simp only[go_sem])(m:Zr nt b=true:=by rfl):AX prog base nt w0 K ((false,⟨b,.call ⟨.value x,a,y⟩,i,pos,c,w⟩,none)::r) s:=Pf q o j p u m λd t=>by subst t;exact n
def WR{b}{m:TypeId}{pos c E r x}{a:Array Operand}{F:Array TypeId}{f g j i}(y:base<=w0.w.heap.size)(u:Qm prog f)(w:match YU (Wq s.h 4) (Jh g j (a.toList.map (Qr s.fr))) with|some (p,e)=>p/\KN e i|none=>False){v:D}(C:QM prog f i (QR v))(t:QA prog base nt w0 Q (.ops r::k) .normal ⟨Zi s.fr b (v.shift s.h.length),s.h++([]:List Ob).map (Ob.shift s.h.length)⟩)(n:JP (Qr s.fr x)=some (f,g,j):=by rfl)(o:Zr nt b=true:=by rfl)(q:v.flat=true:=by rfl):QA prog base nt w0 Q (.ops ((⟨b,.call ⟨.value x,a,F⟩,m,pos,c,E⟩,none)::r)::k) .normal s:=X2 y u n w C (QR.flat q) o λd h z=>by obtain⟨rfl,rfl⟩:=z;exact t
def QJj{b}{i:TypeId}{pos c w r x}{a:Array Operand}{y:Array TypeId}{f e h g}(q:base<=w0.w.heap.size)(o:Qm prog f)(p:KN (Jh e h (a.toList.map (Qr s.fr))) g){v}(u:Zl prog f s.h g (λd=>d=v))(n:QA prog base nt w0 Q (.ops r::k) .normal ⟨Zi s.fr b v,s.h⟩)(j:JP (Qr s.fr x)=some (f,e,h):=by rfl)(m:Zr nt b=true:=by rfl):QA prog base nt w0 Q (.ops ((⟨b,.call ⟨.value x,a,y⟩,i,pos,c,w⟩,none)::r)::k) .normal s:=X4 q o j p u m λd t=>by subst t;exact n
def yQ{b}{m:TypeId}{pos c E r x}{a:Array Operand}{F:Array TypeId}{f g j i}(y:base<=w0.w.heap.size)(u:Qm prog f)(w:match YU (Wq s.h 4) (Jh g j (a.toList.map (Qr s.fr))) with|some (p,e)=>p/\KN e i|none=>False){v:D}(C:QM prog f i (QR v))(t:AX prog base nt w0 K r ⟨Zi s.fr b (v.shift s.h.length),s.h++([]:List Ob).map (Ob.shift s.h.length)⟩)(n:JP (Qr s.fr x)=some (f,g,j):=by rfl)(o:Zr nt b=true:=by rfl)(q:v.flat=true:=by rfl):AX prog base nt w0 K ((false,⟨b,.call ⟨.value x,a,F⟩,m,pos,c,E⟩,none)::r) s:=Tl y u n w C (QR.flat q) o λd h z=>by obtain⟨rfl,rfl⟩:=z;exact t
def QgV{b}{i:TypeId}{pos c w r x}{a:Array Operand}{y:Array TypeId}{f e h g}(q:base<=w0.w.heap.size)(o:Qm prog f)(p:KN (Jh e h (a.toList.map (Qr s.fr))) g){v}(u:Zl prog f s.h g (λd=>d=v))(n:AX prog base nt w0 K r ⟨Zi s.fr b v,s.h⟩)(j:JP (Qr s.fr x)=some (f,e,h):=by rfl)(m:Zr nt b=true:=by rfl):AX prog base nt w0 K ((false,⟨b,.call ⟨.value x,a,y⟩,i,pos,c,w⟩,none)::r) s:=Pf q o j p u m λd t=>by subst t;exact n
def VI(b){c a}(d:base<=w0.w.heap.size)(l:List Nat)(R:List Nat)(h:Vi prog base w0 cx nt (FB prog base w0 cx nt (O1 prog base w0 Q cx nt 200 k) R.length (Go.Fg.ky b a R) ((ml l).map (·.1))) (Go.Fg.Vo b a (ml l)) s)(f:DK b cx.L a (ml l) R=true:=by kernel_rfl)(e:B9 a s.fr=true:=by kernel_rfl):QA prog base nt w0 Q (.code (.region c a true)::k) .normal s:=Qep b Vr d 200 mixed (ml l) R f e h
end
def Q1(k){R f}{d:Func}{c}{a:List D}{e}{g:Array ResultVar}(j:prog.funcs[f]?=some d)(m:d.ntmps=e)(n:d.results=g)(h:∀(b:Nat) (w:World),b<=w.heap.size->hx prog b ⟨w,[],[]⟩ (AW cx.L g.toList (Kept k R)) cx e 200 [.code c] ⟨kx a 0,[]⟩)(l:d.body=some c:=by rfl)(i:Nat.ble a.length e=true:=by rfl):QM prog f a R:=Qek k Vr 200 j l m n i h
def Q9{R F f}{d:Func}{c}{a:List D}{e}{g:Array ResultVar}(k:prog.funcs[f]?=some d)(m:d.ntmps=e)(n:d.results=g)(h:∀(b:Nat) (w:World) (i:List Pl),b<=w.heap.size->hx prog b ⟨w,F,i⟩ (AW cx.L g.toList R) cx e 200 [.code c] ⟨kx a 0,F⟩)(l:d.body=some c:=by rfl)(j:Nat.ble a.length e=true:=by rfl):QO prog f F a R:=pI Vr 200 k l m n j h
def ZN{R}{H:List Ob}{f}{e:Func}{c}{a:List D}{i}{j:Array ResultVar}(m:prog.funcs[f]?=some e)(p:e.ntmps=i)(q:e.results=j)(h:∀(b:Nat) (w:World) (k:List Pl) (F:List Ob),F=H.map Ob.ro->F.length=H.length->b<=w.heap.size->hx prog b ⟨w,F,k⟩ (AW cx.L j.toList λd o=>∃g,o=F++g/\d.upto F.length=true/\R d) cx i 200 [.code c] ⟨kx a 0,F⟩)(n:e.body=some c:=by rfl)(l:Nat.ble a.length i=true:=by rfl):Zl prog f H a R:=QqW Vr 200 m n p q l h
def Xp{p}(h:p:=by first|exact⟨_,rfl,rfl⟩|exact⟨_,rfl⟩|rfl|exact⟨[],(JN _).symm⟩|exact⟨[],(JN _).symm,rfl⟩):p:=h
def ZE{e n}(h:-9223372036854775808<=e/\e<=9223372036854775807/\e=n:=by omega):IntKind.i64.wrap e=n:=by rw[wrap64 h.1 h.2.1];exact h.2.2
def QP{b a g h}(e:Hv a g:=by simp only[go_sem]):Qs b ⟨a,h⟩ ⟨g,h⟩:=Qs.frame e
end Go.Fg.X
namespace Go.Fg
def QvR{P}{o:Oper}{a w K i Q g}(f:∀a w,K a w->i a w)(d:∀e a w,Q e a w->g e a w)(h:o.wp P a w K Q):o.wp P a w i g:=by
 unfold Oper.wp at *;generalize (execOp a.eval o).run P w=r at *;cases r with
 | ok x j=>
  cases x<;>simp only[Oper.upon]at h ⊢<;>first|exact f _ _ h|exact h|skip
  exact h.mono λe k b=>by
   cases e with
   | returned v=>exact f _ _ b
   | panicked c=>exact d _ _ _ b
   | outgrown=>obtain⟨a,w,h⟩:=b;exact⟨a,w,d _ _ _ h⟩
  exact h.mono λv k b=>f _ _ b
 | halt x j=>cases x<;>first|exact h|exact d _ _ _ h
def gI{P Q d}(b:∀e a w,Q e a w->d e a w):∀(l:List (Oper × G)) (a:Act) (w:World),qA P Q l a w->qA P d l a w
 | [],a,w,h=>b _ _ _ h
 | (o,g)::r,a,w,h=>by simp only[qA]at h ⊢;split at h;rename_i c;rw[Qe c];exact QvR (λa w=>gI b r a w) b h;rename_i c;rw[Qd c];exact gI b r _ _ h
section
variable {P:Program}{base nt:Nat}{w0:Start}{Q:Exit->St->Prop}{k:List Item}{s s1:St}
def TG(P:Program)(base nt:Nat)(w0:Start)(Q:Exit->St->Prop)(k:List Item)(s1:St):Exit->St->Prop
 | .normal,s=>Qs w0 s s1
 | e,s=>QA P base nt w0 Q k e s
theorem QJk:TG P base nt w0 Q k s1 .normal s=Qs w0 s s1:=Vp rfl
theorem QJl{j}:TG P base nt w0 Q k s1 (.exit j) s=QA P base nt w0 Q k (.exit j) s:=Vp rfl
theorem QJm:TG P base nt w0 Q k s1 .ret s=QA P base nt w0 Q k .ret s:=Vp rfl
attribute[go_sem]QJk QJl QJm
def rU{x c}(s1)(d:QA P base nt w0 (TG P base nt w0 Q (.code c::k) s1) [x] .normal s)(f:QA P base nt w0 Q (.code c::k) .normal s1):QA P base nt w0 Q (x::.code c::k) .normal s:=by
 cases x with
 | code x=>
  simp only[QA]at d;show A P base nt w0 x _ s;refine d.mono λe g i=>?_;cases e with
  | normal=>exact LS i f
  | _=>exact i
 | ops l=>
  simp only[QA]at d;show AG P base nt w0 l _ s;intro Z z m a w r b;refine gI (λe q p ⟨g,o,h,j,n⟩=>⟨g,o,?_,j,n⟩) _ _ _ (d Z z m a w r b);cases e with
  | normal=>exact LS h f
  | _=>exact h
 | inBlock id=>simp only[QA]at d ⊢;exact LS d f
 | inScope=>simp only[QA]at d ⊢;exact LS d f
def Cj{x c}(b V){d h a}(g:fw d b=a)
  (f:QA P base nt w0 (TG P base nt w0 Q (.code c::k) ⟨V++a,h⟩) [x] .normal ⟨d,h⟩) (e:QA P base nt w0 Q (.code c::k) .normal ⟨V++a,h⟩):QA P base nt w0 Q (x::.code c::k) .normal ⟨d,h⟩:=rU _ f e
@[go_sem] theorem QJn{X}:hx P base w0 Q X nt 0 k s=QA P base nt w0 Q k .normal s:=by cases k<;>exact Vp rfl
end
end Go.Fg
namespace Go.Fg.X
open Go.Proofs Go.Fg
open Go.Proofs.Tryz
@[go_sem] def gJ(c:Cv):D:=.agg c.cells
@[go_sem] def Xc(c:Ql):D:=.agg c.cells
def QJ(c:Cv):Int:=if c.m1=0/\c.d=0/\c.m2=0 then 1 else if 4294967295<c.m1\/4294967295<c.m2\/1048576<c.d then 0 else if c.d=0/\c.m1=c.m2 then 2 else if 0<c.d/\c.m2<c.m1 then 3 else if 0<c.d/\c.m1=0/\0<c.m2 then 4 else 0
def gK(c):QM prog 165 [gJ c] (QR (Qa (QJ c))):=by
 refine Q1 0 func165 ntmps165 results165 λa w b=>?_;simp only[go_sem]
 repeat' (first|((first|apply zg|apply zj|apply zk|apply VX|apply zl|apply zn|apply zo|apply ze)<;>intro h<;>(try simp only[go_sem]))|(refine And.intro ω ?_;try simp only[go_sem]))
 all_goals (congr 2;(try simp only[GU,kh,ZM,qZ,ne_eq]at *);unfold QJ;(repeat' split)<;>omega)
def FL(c:Cv)(f:0<=c.m1)(e:0<=c.d)(d:0<=c.m2):QM prog 12 [gJ c] (QR (Qa (QJ c))):=by
 refine Q1 0 func12 ntmps12 results12 λa w b=>?_;simp only[go_sem]
 repeat' (first|((first|apply zg|apply zj|apply zk|apply VX|apply zl|apply zn|apply zo|apply ze)<;>intro h<;>(try simp only[go_sem]))|(refine And.intro ω ?_;try simp only[go_sem]))
 all_goals (congr 2;unfold QJ;(repeat' split)<;>omega)
def rV(c):QM prog 174 [gJ c] (QR (QV (QJ c != 0))):=by refine Q1 0 func174 ntmps174 results174 λb w a=>?_;simp only[go_sem];apply QZ a FE (gK c);exact VT a
def gM(c):QM prog 129 [gJ c] (QR (QV (decide (1<QJ c)))):=by refine Q1 0 func129 ntmps129 results129 λb w a=>?_;simp only[go_sem];apply QZ a FE (gK c);exact VT a
def FM(c:Ql):QM prog 107 [Xc c] (QR (QV (decide (1<QJ c.rt)))):=by refine Q1 0 func107 ntmps107 results107 λb w a=>?_;simp only[go_sem];apply QZ a gj (gM c.rt);exact VT a
def wS(c:Ql):QM prog 94 [Xc c] (QR (QV (decide (1<QJ c.ls)))):=by refine Q1 0 func94 ntmps94 results94 λb w a=>?_;simp only[go_sem];apply QZ a gj (gM c.ls);exact VT a
def QgW(c:Ql):QM prog 222 [Xc c] (QR (QV (decide (1<QJ c.ul)))):=by refine Q1 0 func222 ntmps222 results222 λb w a=>?_;simp only[go_sem];apply QZ a gj (gM c.ul);exact VT a
def yR(n a b:Int):Bool:=decide (a<=n)&&decide (n<=b)
def gN(n a b):QM prog 221 [Qa n,Qa a,Qa b] (QR (QV (yR n a b))):=by refine Q1 0 func221 ntmps221 results221 λc w d=>?_;simp only[go_sem];unfold yR;by_cases h:a<=n;simp only[go_sem,h];simp only[go_sem,h]
def DT(c:Ql):Bool:=yR c.iD 1 65536&&yR c.parent 0 65536&&!(c.parent==c.iD)
def FN(c:Ql):Bool:=(QJ c.rt != 0)&&((QJ c.ls != 0)&&!(QJ c.ls==4))&&((QJ c.ul != 0)&&!(QJ c.ul==4))
def vP(c:Ql):Bool:=yR c.ZV 1 64&&yR c.bytes 1 1048576&&(decide (1<QJ c.rt) || decide (1<QJ c.ls))
def Bd(c:Ql):Bool:=c.ZV==0&&c.bytes==0&&!decide (1<QJ c.rt)
def Vd(c:Ql):Int:=if !DT c then 1 else if !FN c then 21 else if (c.leaf&&!vP c) || (!c.leaf&&!Bd c) || (decide (1<QJ c.ul)&&!decide (1<QJ c.ls)) then 29 else 0
structure QvS (c:Ql) (k:Nat) (s:St):Prop where
 h0:0<k->QJ c.rt≠0
 h1:1<k->QJ c.ls≠0/\QJ c.ls≠4
 h2:2<k->QJ c.ul≠0/\QJ c.ul≠4
 eq:s=⟨[(1,.ptr 0 0 0 0),(2,Qa 0),(30,.agg (c.rt.cells++(c.ls.cells++c.ul.cells))),(31,Qa k)],[⟨.one,0,14,1,λ_=>c.cells⟩]⟩
def QgX(c):QM prog 167 [Xc c] (QR (Qa (Vd c))):=by
 refine Q1 0 func167 ntmps167 results167 λz w f=>?_;simp only[go_sem];apply QZ f gz (gN c.iD 1 65536);apply Qg f;cases q:yR c.iD 1 65536;have:Vd c=1:=by simp[Vd,DT,q]
 simp only[go_sem,this];simp only[go_sem];apply QZ f gz (gN c.parent 0 65536);apply Qg f;cases y:yR c.parent 0 65536;have:Vd c=1:=by simp[Vd,DT,q,y]
 simp only[go_sem,this];simp only[go_sem];by_cases o:c.parent=c.iD;have:Vd c=1:=by simp[Vd,DT,q,o]
 simp only[go_sem,WQ o,this];simp only[go_sem,VY o];have m:DT c=true:=by simp[DT,q,y,o]
 have E:IntKind.i64.wrap 1=1:=π;have C:IntKind.i64.wrap 2=2:=π;have B:IntKind.i64.wrap 3=3:=π;refine ZY (QvS c) 3
  (s0:=⟨[(1,.ptr 0 0 0 0),(2,Qa 0),(30,.agg (c.rt.cells++(c.ls.cells++c.ul.cells))),(31,Qa 0)],[⟨.one,0,14,1,λ_=>c.cells⟩]⟩) QP ⟨ω,ω,ω,rfl⟩ ?_
 rintro k s J ⟨p,u,x,rfl⟩;obtain rfl|rfl|rfl|rfl:k=0\/k=1\/k=2\/k=3:=ω;apply Qg f;apply QZ f Pn (rV c.rt);apply Qg f;by_cases h:QJ c.rt=0;have:Vd c=21:=by simp[Vd,m,FN,h]
 simp only[go_sem,WQ h,bne,this,Go.undef];simp only[go_sem,VY h,bne,Go.undef];refine⟨_,Qs.to 1 ⟨?_,by simp only[go_sem],?_,?_⟩,⟨λ_=>h,ω,ω,rfl⟩⟩<;>simp only[go_sem,E];apply Qg f;apply QZ f Pn (rV c.ls);apply Qg f;by_cases h:QJ c.ls=0;have:Vd c=21:=by simp[Vd,m,FN,h]
 simp only[go_sem,WQ h,bne,this,Go.undef];simp only[go_sem,VY h,bne,Go.undef];apply QZ f FE (gK c.ls);apply Qg f;by_cases j:QJ c.ls=4;have:Vd c=21:=by simp[Vd,m,FN,j]
 simp only[go_sem,WQ j,this];simp only[go_sem,VY j];refine⟨_,Qs.to 1 ⟨?_,by simp only[go_sem],?_,?_⟩,⟨λ_=>p ω,λ_=>⟨h,j⟩,ω,rfl⟩⟩<;>simp only[go_sem,C];apply Qg f;apply QZ f Pn (rV c.ul);apply Qg f;by_cases h:QJ c.ul=0;have:Vd c=21:=by simp[Vd,m,FN,h]
 simp only[go_sem,WQ h,bne,this,Go.undef];simp only[go_sem,VY h,bne,Go.undef];apply QZ f FE (gK c.ul);apply Qg f;by_cases j:QJ c.ul=4;have:Vd c=21:=by simp[Vd,m,FN,j]
 simp only[go_sem,WQ j,this];simp only[go_sem,VY j];refine⟨_,Qs.to 1 ⟨?_,by simp only[go_sem],?_,?_⟩,⟨λ_=>p ω,λ_=>u ω,λ_=>⟨h,j⟩,rfl⟩⟩<;>simp only[go_sem,B];have I:FN c=true:=by have a:=p ω;have b:=u ω;have d:=x ω;simp[FN,a,b,d]
 clear p u x;apply Qg f;first|refine za ?_|skip
 refine Cj [1,2] [(5,QV (vP c))] rfl ?_ ?_;apply Qg f;apply QZ f gz (gN c.ZV 1 64);apply Qg f;cases i:yR c.ZV 1 64;have e:vP c=false:=by simp[vP,i]
 simp only[go_sem,Go.undef];exact Qs.to 1 (by (simp only[go_sem,e])<;>simp);simp only[go_sem];apply QZ f gz (gN c.bytes 1 1048576);apply Qg f;cases l:yR c.bytes 1 1048576;have e:vP c=false:=by simp[vP,i,l]
 simp only[go_sem,Go.undef];exact Qs.to 1 (by (simp only[go_sem,e])<;>simp);simp only[go_sem];apply QZ f DP (FM c);apply Qg f;cases v:decide (1<QJ c.rt);simp only[go_sem];apply QZ f wR (wS c);apply Qg f;have e:vP c=decide (1<QJ c.ls):=by simp[vP,i,l,v]
 exact Qs.to 1 (by (simp only[go_sem,e])<;>simp);have e:vP c=true:=by simp[vP,i,l,v]
 simp only[go_sem,Go.undef];exact Qs.to 1 (by (simp only[go_sem,e])<;>simp);first|refine za ?_|skip
 refine Cj [1,2,5] [(6,QV (Bd c))] rfl ?_ ?_;apply Qg f;by_cases i:c.ZV=0;simp only[go_sem,WQ i,Go.undef];by_cases l:c.bytes=0;simp only[go_sem,WQ l];apply QZ f DP (FM c);apply Qg f;have e:Bd c=!decide (1<QJ c.rt):=by simp[Bd,i,l]
 exact Qs.to 1 (by (simp only[go_sem,e])<;>simp);have e:Bd c=false:=by simp[Bd,i,l]
 simp only[go_sem,VY l,Go.undef];exact Qs.to 1 (by (simp only[go_sem,e])<;>simp);have e:Bd c=false:=by simp[Bd,i]
 simp only[go_sem,VY i,Go.undef];exact Qs.to 1 (by (simp only[go_sem,e])<;>simp);apply Qg f;have g:Vd c=if (c.leaf&&!vP c) || (!c.leaf&&!Bd c) || (decide (1<QJ c.ul)&&!decide (1<QJ c.ls)) then 29 else 0:=by simp[Vd,m,I]
 generalize vP c=F at g ⊢;generalize Bd c=H at g ⊢;cases n:c.leaf<;>rw[n]at g;cases H;simp at g;simp only[go_sem,Go.undef,g];simp only[go_sem,Go.undef];refine WR f Qgv ?_ (QgW c) ?_;simp only[go_sem,n];apply Qg f;cases r:decide (1<QJ c.ul)<;>rw[r]at g;simp at g;simp only[go_sem,Go.undef,g];simp only[go_sem];refine WR f wR ?_ (wS c) ?_;simp only[go_sem,n];apply Qg f;cases t:decide (1<QJ c.ls)<;>rw[t]at g<;>simp at g<;>simp only[go_sem,g];cases F;simp at g;simp only[go_sem,Go.undef,g];simp only[go_sem,Go.undef];refine WR f Qgv ?_ (QgW c) ?_;simp only[go_sem,n];apply Qg f;cases r:decide (1<QJ c.ul)<;>rw[r]at g;simp at g;simp only[go_sem,Go.undef,g];simp only[go_sem];refine WR f wR ?_ (wS c) ?_;simp only[go_sem,n];apply Qg f;cases t:decide (1<QJ c.ls)<;>rw[t]at g<;>simp at g<;>simp only[go_sem,g]
def rW(c):0<=QJ c/\QJ c<=4:=by unfold QJ;(repeat' split)<;>omega
def Cn(c:Ql):Int:=if c.iD<1\/65536<c.iD\/c.parent<0\/65536<c.parent\/c.iD=c.parent then 1
 else if QJ c.rt=0\/QJ c.ls=0\/QJ c.ul=0\/QJ c.ls=4\/QJ c.ul=4 then 21
 else if 1<QJ c.ul/\QJ c.ls=1 then 29
 else if c.leaf=true then (if c.ZV<1\/64<c.ZV\/c.bytes<1\/1048576<c.bytes\/(QJ c.rt=1/\QJ c.ls=1) then 29 else 0)
 else if c.ZV≠0\/c.bytes≠0\/QJ c.rt≠1 then 29 else 0
def Cv.Nn(c:Cv):Prop:=0<=c.m1/\0<=c.d/\0<=c.m2
def Ql.Nn(c:Ql):Prop:=c.rt.Nn/\c.ls.Nn/\c.ul.Nn
def gO(c:Ql)(a:c.Nn):QM prog 84 [Xc c] (QR (Qa (Cn c))):=by
 refine Q1 0 func84 ntmps84 results84 λd w b=>?_;simp only[go_sem]
 repeat' (first|((first|apply zg|apply zj|apply zk|apply VX|apply zl|apply zn|apply zo|apply ze)<;>intro h<;>(try simp only[go_sem]))|(refine And.intro ω ?_;try simp only[go_sem]))
 all_goals first|(congr 2;unfold Cn;(repeat' split)<;>first|omega|simp_all;done)|skip
 apply QZ b yO (FL c.rt a.1.1 a.1.2.1 a.1.2.2);apply Qg b;apply QZ b yO (FL c.ls a.2.1.1 a.2.1.2.1 a.2.1.2.2);apply Qg b;apply QZ b yO (FL c.ul a.2.2.1 a.2.2.2.1 a.2.2.2.2);apply Qg b
 repeat' (first|((first|apply zg|apply zj|apply zk|apply VX|apply zl|apply zn|apply zo|apply ze)<;>intro h<;>(try simp only[go_sem]))|(refine And.intro ω ?_;try simp only[go_sem]))
 all_goals first|(congr 2;unfold Cn;(repeat' split)<;>first|omega|simp_all;done)|skip
def QgY(c):Cn c=Vd c:=by have h:=rW c.rt;have g:=rW c.ls;have f:=rW c.ul;unfold Cn Vd DT FN vP Bd yR;generalize QJ c.rt=a at *;generalize QJ c.ls=b at *;generalize QJ c.ul=d at *;cases e:c.leaf<;>simp only[ZM,BJ,qV,GU,EP,W3,G2,qZ,kh,bne_eq_false_iff_eq,Bool.not_eq_false',ne_eq,reduceCtorEq,false_and,yz,false_or,or_false,q5,Vu]<;>(repeat' split)<;>omega
end Go.Fg.X
namespace Go.Fg
open Go.RowKit (Below)
open Go.Proofs Go.Shelf Go.Sort
def sorted(a:List Int):List Int:=a.mergeSort λx y=>decide (x<=y)
def HL(a:List Int):(sorted a).length=a.length:=by simp[sorted]
def wT(a:Nat)(b:Nat->List D)(c:List Int):Nat->List D:=λi=>if a<=i/\i<a+c.length then [.raw (.int .i64 (c.getD (i-a) 0))] else b i
variable {P:Program}{ρ:Ren}
def QvT{w:World}{b n o g a}{e:TypeId}{f}(d)(c:w.heap[b]?=some (.cells a e f)):
  (grow (putRow (Value.int .i64) (Sort.ahead w n) b o d) g).heap[b]?=some (.cells (putCells (Value.int .i64) o d a) e f):=by
 have h:b<w.heap.size:=(W0.1 c).1;rw[heap_grow_old _ _ (zC h)];simp[putRow,mapBlock,Sort.ahead,nR,c,onCells]
def QvU{w:World}{b n o a}(d):w.grownBy (grow (putRow (Value.int .i64) (Sort.ahead w n) b o d) a) (some b):=by refine⟨rfl,rfl,rfl,σ,λk c f=>?_⟩;rw[heap_grow_old _ _ (zC c)];have:b≠k:=λe=>f (by rw[e]);simp[putRow,mapBlock,Sort.ahead,nR,this]
def QvV(Ly:Lays.n189 P ρ){h:List Ob}{l g f N r}{m:List Int}(C:h[l]?=some ⟨.arr,g,1,N,r⟩)(hn:f+m.length<=N)(hr:∀i,i<m.length->r (f+i)=[.raw (.int .i64 (m.getD i 0))])(I:m.length<4611686018427387904):
  QO P (ρ.f 189) h [.ref l g f m.length] (λd h'=>d=.tup []/\h'=h.set l ⟨.arr,g,1,N,wT f r (sorted m)⟩):=by
 intro Z t w J vs Q6 hZ R wO hv;match vs,wO with
 | [v],_=>
 have r0:=hv 0 σ;obtain⟨o,p,a,B,E,h1,M,h3,h4,h5⟩:=Fb r0;rw[C]at h1;cases h1;have E:v=.slice a m.length B:=E;have Cd:=h5 rfl;subst E;have Qb:l<h.length:=KL C;by_cases h0:m.length=0;have hz:m=[]:=Sq.1 h0;subst hz;refine(Any.slices_Sort_int_none Ly a B w).mono ?_;rintro e x ⟨rfl,rfl⟩;have hs:h.set l ⟨.arr,g,1,N,wT f r (sorted [])⟩=h:=by
  have:wT f r (sorted [])=r:=by
   funext i;have:¬ (f<=i/\i<f+(sorted []).length):=by rw[HL];simp
   unfold wT;rw[Qd this]
  rw[this];apply AA;intro i;by_cases s:l=i;subst s;rw[Xi Qb,C];rw[JT s]
 rw[hs];exact⟨_,.tup [],h,J,rfl,⟨rfl,rfl⟩,R,.tup [] [] rfl (λi s=>by simp at s),Tr.refl _ _ _,.refl _ _⟩;rcases Cd with ⟨h6,_⟩|⟨b,q,c,el,rfl,rfl,z,He,Zw⟩;exact absurd h6 h0;obtain⟨wE,yF⟩:=R.at_ l _ b q C M;obtain⟨c',dh,Xu,JV,Kf,Z3⟩:=yF.cells rfl;rw[z]at Xu;cases Xu;simp only[Nat.mul_one]at He JV Z3 ⊢;have Dw:∀i,i<m.length->c[q+f+i]?=some (.int .i64 (m.getD i 0)):=λi s=>by obtain⟨u,K,F⟩:=Z3 (f+i) 0 (by show f+i<N;omega) (by show 0<1;omega);have e2:(r (f+i))=_:=hr i s;have F:QF Z h J w (nth (r (f+i)) 0) u:=F;rw[e2]at F;have:=JI F;rw[show q+f+i=q+(f+i+0) by omega,K,this]
 have hH:Holds (Value.int .i64) w b (q+f) m.toArray:=by
  intro j H;have W8:j<m.length:=by simpa using H
  refine⟨?_,by simp[World.frozen?,z]⟩;rw[World.cell?_of_block (w:=w) (w':=w) rfl];simp only[World.cell?,z];simp only[E7,qq,q5];rw[Dw j W8];simp[QU,W8]
 refine(Any.slices_Sort_int Ly b (q+f) B m w hH (vq z) I).mono ?_;rintro e x ⟨rfl,n,os,Y⟩;have hG:w.grownBy x (some b):=by rw[Y];exact QvU _
 have JW:x.heap[b]?=some (.cells (putCells (Value.int .i64) (q+f) (sorted m).toArray c) el (0,0)):=by rw[Y];exact QvT _ z
 have Q:(putCells (Value.int .i64) (q+f) (sorted m).toArray c).size=c.size:=by simp[putCells]
 have y:∀k,k≠b->k<w.heap.size->x.heap[k]? = w.heap[k]? := λk L Qb=>hG.block k Qb (λe=>L (by cases e;rfl));have W:t<=b:=wE rfl;have hB:Below t w x:=(Below.refl t w).grown hG Q6 (λk L=>by cases L;exact W);have T:=Tr.Q5 (w':=x) (o':=⟨.arr,g,1,N,wT f r (sorted m)⟩) R C M rfl rfl rfl y (λc1 nZ E=>by rw[z]at E;cases E;exact⟨_,JW,Q⟩);have vQ:∀i,i<c.size->(putCells (Value.int .i64) (q+f) (sorted m).toArray c)[i]? = if q+f<=i/\i<q+f+m.length then some (.int .i64 ((sorted m).getD (i-(q+f)) 0)) else c[i]? := λi s=>by
  have hl:(sorted m).toArray.size=m.length:=by simp[HL]
  simp only[putCells,Array.getElem?_mapIdx,hl,jY s,Kq];split;rename_i O;have:i-(q+f)<(sorted m).length:=by rw[HL];omega
  simp[QU,this];rfl
 refine⟨_,.tup [],_,J,rfl,⟨rfl,rfl⟩,Zo.Q5 (w':=x) (o':=⟨.arr,g,1,N,wT f r (sorted m)⟩) R C M rfl rfl rfl rfl y z JW Q (by rw[Q];simpa using JV) (λi s=>?_) (λi j s H=>?_) rfl,.tup [] [] rfl (λi s=>by simp at s),T,hB⟩;show (wT f r (sorted m) i).length=1;unfold wT;split;rfl;exact Kf i s;have s:i<N:=s;have H:j<1:=H;have U:j=0:=ω;subst U;have V:q+(i+0)<c.size:=ω;show ∃v,(putCells (Value.int .i64) (q+f) (sorted m).toArray c)[q+(i*1+0)]?=some v/\QF Z _ J x (nth (wT f r (sorted m) i) 0) v;rw[Nat.mul_one,vQ _ V];have S:wT f r (sorted m) i=if f<=i/\i<f+m.length then [.raw (.int .i64 ((sorted m).getD (i-f) 0))] else r i:=by unfold wT;rw[HL]
 rw[S];by_cases O:f<=i/\i<f+m.length;rw[Qe ω,Qe O];exact⟨_,rfl,by rw[show q+(i+0)-(q+f)=i-f by omega];exact .cl _ _ (.raw _)⟩;rw[Qd ω,Qd O];obtain⟨u,K,F⟩:=Z3 i 0 s H;exact⟨u,K,F.tr T⟩
end Go.Fg
namespace Go.Fg.X
open Go.Proofs Go.Fg
open Go.Proofs.Tryz
def Qw(L:List Ql)(k:Int):Option Ql:=L.find? λc=>c.iD==k
def Wr(e:ZL):Int × D:=(e.k,e.v)
def YP(c:Ql):Int × D:=(c.iD,Xc c)
def WD(L:List Ql):Prop:=L.Pairwise λa b=>a.iD<b.iD
structure VJ (es:List ZL) (L:List Ql):Prop where
 perm:(es.map Wr).Perm (L.map YP)
 sorted:WD L
def QgZ{c:Type}{f:c->Int}:∀{l:List c},(l.map f).Nodup->∀{x y:c},x∈l->y∈l->f x=f y->x=y
 | [],_,x,_,hx,_,_=>by simp at hx
 | a::l,b,x,y,hx,d,e=>by simp only[Jr,Z6,Jw,E8,not_and]at b;rcases QK.1 hx with h1|h1<;>rcases QK.1 d with h2|h2;rw[h1,h2];exact absurd (by rw[<-e,h1]) (b.1 y h2);exact absurd (by rw[e,h2]) (b.1 x h1);exact QgZ b.2 h1 h2 e
def WD.nd{L:List Ql}(h:WD L):(L.map (·.iD)).Nodup:=by unfold List.Nodup;rw[Su];exact List.Pairwise.imp (λh=>ω) h
def VJ.Co{a L}(T:VJ a L):Yj a:=by
 have c:a.map (·.k)=(a.map Wr).map Prod.fst:=by simp[Wr,bM]
 have b:(L.map YP).map Prod.fst=L.map (·.iD):=by simp[YP,bM]
 unfold Yj;rw[c,(T.perm.map Prod.fst).nodup_iff,b];exact T.sorted.nd
def rX:∀{b:List ZL},Yj b->∀{k:Int} {v:D},Je b k=some v↔(k,v)∈b.map Wr
 | [],_,k,v=>by simp[Je]
 | e::b,a,k,v=>by
  have g:Yj b:=by unfold Yj at a ⊢;simp only[Jr,Z6]at a;exact a.2
  simp only[Je];by_cases h:e.k=k;rw[Qe h];constructor;rintro⟨rfl⟩;simp[Wr,h];intro hm;simp only[Jr,QK]at hm;rcases hm with hm|hm;simp only[Wr,Zg]at hm;rw[hm.2];exfalso;obtain⟨d,f,c⟩:=Jw.1 hm;simp only[Wr,Zg]at c;unfold Yj at a;simp only[Jr,Z6,Jw,E8,not_and]at a;exact a.1 d f (by rw[c.1,h]);rw[Qd h,rX g];simp only[Jr,QK];constructor;exact λh=>.inr h;rintro (hm|hm);simp only[Wr,Zg]at hm;exact absurd hm.1.symm h;exact hm
def VK{L}(h:WD L){k}{c:Ql}:Qw L k=some c↔c∈L/\c.iD=k:=by
 constructor;intro e;exact⟨xG e,by have:=yy e;simpa using this⟩;rintro⟨b,rfl⟩;cases a:Qw L c.iD with
 | none=>have:=j7.1 a c b;simp at this
 | some d=>
  have g:=xG a;have f:d.iD=c.iD:=by have:=yy a;simpa using this
  rw[QgZ h.nd g b f]
def HM{L k}:Qw L k=none↔∀c∈L,c.iD≠k:=by simp[Qw,j7]
def VJ.look{a L}(T:VJ a L)(k:Int):Je a k=(Qw L k).map Xc:=by
 cases b:Qw L k with
 | some c=>obtain⟨h,g⟩:=(VK T.sorted).1 b;rw[Kq,rX T.Co,T.perm.mem_iff];exact Jw.2 ⟨c,h,by simp[YP,g]⟩
 | none=>
  rw[qY];cases d:Je a k with
  | none=>rfl
  | some v=>rw[rX T.Co,T.perm.mem_iff]at d;obtain⟨c,f,e⟩:=Jw.1 d;simp only[YP,Zg]at e;exact absurd e.1 (HM.1 b c f)
def VJ.len{a:List ZL}{L:List Ql}(T:VJ a L):a.length=L.length:=by have:=T.perm.length_eq;simpa using this
def VJ.nil:VJ [] []:=⟨σ,by simp[WD]⟩
def VL:List Ql->Ql->List Ql
 | [],x=>[x]
 | c::r,x=>if x.iD<c.iD then x::c::r else if c.iD=x.iD then x::r else c::VL r x
def WE(L:List Ql)(k:Int):List Ql:=L.filter λc=>c.iD != k
def TI{a:Type}{p}{l:List a}(h:∀x∈l,p x=true):l.filter p=l:=yx.2 h
def HN:∀{L:List Ql} (x:Ql),WD L->(VL L x).Perm (x::WE L x.iD)
 | [],x,_=>by simp[VL,WE]
 | c::r,x,h=>by
  have g:WD r:=nT h;have b:∀d∈r,c.iD<d.iD:=λd hd=>(AD.1 h).1 d hd;simp only[VL];by_cases e:x.iD<c.iD;rw[Qe e];have:WE (c::r) x.iD=c::r:=TI λd hd=>by rcases QK.1 hd with rfl|hd;simp;omega;have:=b d hd;simp;omega
  rw[this]
  .rw[Qd e];by_cases a:c.iD=x.iD;rw[Qe a];have f:WE r x.iD=r:=TI λd hd=>by have:=b d hd;simp;omega
   have:WE (c::r) x.iD=r:=by unfold WE at f ⊢;rw[Ld (by simp[a]),f]
   rw[this]
   .rw[Qd a];have:WE (c::r) x.iD=c::WE r x.iD:=by unfold WE;rw[Le (by simp[a])]
    rw[this];exact((HN x g).cons c).trans (List.Perm.swap x c _)
def Pu:∀{L:List Ql} (x:Ql),WD L->WD (VL L x)
 | [],x,_=>by simp[VL,WD]
 | c::r,x,h=>by
  have a:WD r:=nT h;have b:∀d∈r,c.iD<d.iD:=λd hd=>(AD.1 h).1 d hd;simp only[VL];by_cases e:x.iD<c.iD;rw[Qe e];exact AD.2 ⟨λd hd=>by rcases QK.1 hd with rfl|hd;exact e;have:=b d hd;omega,h⟩
  rw[Qd e];by_cases f:c.iD=x.iD;rw[Qe f];exact AD.2 ⟨λd hd=>by have:=b d hd;omega,a⟩;rw[Qd f];refine AD.2 ⟨λd hd=>?_,Pu x a⟩;have:=(HN x a).mem_iff.1 hd;rcases QK.1 this with rfl|g;omega;exact b d (JB.1 g).1
def rY{L}(k)(h:WD L):WD (WE L k):=Od _ h
def Qg0:∀{a:List ZL} (k:Int) (v:D),Yj a->(∃u,Je a k=some u)->((ku a k v).map Wr).Perm ((k,v)::(a.map Wr).filter λp=>p.1 != k)
 | [],k,v,_,h=>by simp[Je]at h
 | e::a,k,v,f,h=>by
  have c:=f;unfold Yj at c;simp only[Jr,Z6,Jw,E8,not_and]at c;simp only[ku];by_cases b:e.k=k;rw[Qe b];have i:(a.map Wr).filter (λp=>p.1 != k)=a.map Wr:=TI λp d=>by obtain⟨j,l,rfl⟩:=Jw.1 d;have:=c.1 j l;simp[Wr];omega
  have:((e::a).map Wr).filter (λp=>p.1 != k)=a.map Wr:=by rw[Jr,Ld (by simp[Wr,b]),i]
  rw[this];simp[Wr]
  .rw[Qd b];have g:∃u,Je a k=some u:=by simpa only[Je,Qd b] using h
   have:((e::a).map Wr).filter (λp=>p.1 != k)=Wr e::(a.map Wr).filter (λp=>p.1 != k):=by rw[Jr,Le (by simp[Wr,b])]
   rw[this,Jr];exact((Qg0 k v c.2 g).cons _).trans (List.Perm.swap _ _ _)
def Qv0{a L}(T:VJ a L)(q c)(x:Ql):∃i b,Kb q c a x.iD (Xc x)=QT q i b/\VJ b (VL L x):=by
 have d:((VL L x).map YP).Perm ((x.iD,Xc x)::(L.map YP).filter λp=>p.1 != x.iD):=by
  have:=(HN x T.sorted).map YP;rw[Jr]at this;refine this.trans ?_;have:(L.map YP).filter (λp=>p.1 != x.iD)=(WE L x.iD).map YP:=by rw[Sn];rfl
  rw[this];exact Oe _
 have e:=T.perm.filter λp=>p.1 != x.iD;unfold Kb;cases f:Je a x.iD with
 | some u=>exact⟨c,_,rfl,⟨(Qg0 x.iD (Xc x) T.Co ⟨u,f⟩).trans ((e.cons _).trans d.symm),Pu x T.sorted⟩⟩
 | none=>
  refine⟨c+1,_,rfl,⟨?_,Pu x T.sorted⟩⟩;have g:(a.map Wr).filter (λp=>p.1 != x.iD)=a.map Wr:=TI λp d=>by obtain⟨h,j,rfl⟩:=Jw.1 d;have:=(SQ f).1 h j;simp[Wr];omega
  rw[g]at e;rw[zP];refine List.perm_append_comm.trans ?_;exact(e.cons (x.iD,Xc x)).trans d.symm
def Qg1:∀{b:List ZL} (k:Int),Yj b->((J9 b k).map Wr)=((b.map Wr).filter λp=>p.1 != k)
 | [],k,_=>rfl
 | e::b,k,f=>by
  have c:=f;unfold Yj at c;simp only[Jr,Z6,Jw,E8,not_and]at c;simp only[J9];by_cases a:e.k=k;rw[Qe a,Jr,Ld (by simp[Wr,a])];exact(TI λp d=>by obtain⟨g,h,rfl⟩:=Jw.1 d;have:=c.1 g h;simp[Wr];omega).symm
  rw[Qd a,Jr,Jr,Le (by simp[Wr,a]),Qg1 k c.2]
def Qg2{a L}(T:VJ a L)(k):VJ (J9 a k) (WE L k):=by
 refine⟨?_,rY k T.sorted⟩;rw[Qg1 k T.Co];have:(L.map YP).filter (λp=>p.1 != k)=(WE L k).map YP:=by rw[Sn];rfl
 rw[<-this];exact T.perm.filter _
def Qg3{d e:List Int}(h:d.Perm e)(f:e.Pairwise (·<·)):sorted d=e:=by refine List.Perm.eq_of_pairwise (le:=λa b=>a<=b) (λa b _ _ i g=>ω) ?_ (f.imp (λh=>ω)) ((List.mergeSort_perm _ _).trans h);have:=List.pairwise_mergeSort (le:=λx y:Int=>decide (x<=y)) (λa b c i g=>by simp at *;omega) (λa b=>ξ) d;exact this.imp (λh=>by simpa using h)
section
variable (h:List Ob)(t m c:Nat){es:List ZL}{L:List Ql}(T:VJ es L)
 (ht:(h.map Ob.ro)[t]?=some ⟨.Wp,0,1,1,λ_=>[.mref m 0]⟩) (hm:(h.map Ob.ro)[m]?=some (QT .i64 c es).ro)
include T ht hm
theorem Qg4(a:Int):Zl prog 74 h [.ptr t 0 0 0,Qa a] (λd=>d=.tup [Xc ((Qw L a).getD default),Qa (if (Qw L a).isSome then 0 else 6)]):=by
 have e:=T.look a;cases j:Qw L a with
 | none=>rw[j,qY]at e;refine ZN func74 ntmps74 results74 λb w k F f n l=>?_;rw[<-f]at ht hm;have i:=Qb ht;have g:=Qb hm;simp only[go_sem,Qj,ht,i,hm,g,e];exact⟨_,rfl,rfl⟩
 | some x=>rw[j,Kq]at e;refine ZN func74 ntmps74 results74 λb w k F f n l=>?_;rw[<-f]at ht hm;have i:=Qb ht;have g:=Qb hm;simp only[go_sem,Qj,ht,i,hm,g,e];exact⟨_,rfl,rfl⟩
end
def VZ(F H:List Ob):Prop:=∃g,H=F++g
def VZ.refl(F):VZ F F:=⟨[],σ⟩
def VZ.app{F H}(h:VZ F H)(g):VZ F (H++g):=by obtain⟨x,rfl⟩:=h;exact⟨x++g,σ⟩
def VZ.set{F H:List Ob}(h:VZ F H){lo}(a:F.length<=lo)(o):VZ F (H.set lo o):=by obtain⟨x,rfl⟩:=h;exact⟨x.set (lo-F.length) o,by rw[Li _ _ a]⟩
def VZ.len{F H:List Ob}(h:VZ F H):F.length<=H.length:=by obtain⟨x,rfl⟩:=h;simp
def VZ.get{F H:List Ob}(h:VZ F H){l:Nat}{o:Ob}(e:F[l]?=some o):H[l]?=some o:=by obtain⟨x,rfl⟩:=h;rw[QG (Qb e)];exact e
def Kt(n:Nat)(H:List Ob)(d:D)(L:List Int):Prop:=(d=.nil/\L=[])\/∃c g a b,d=.ref c g a L.length/\(n<=c/\a=0)/\H[c]?=some ⟨.arr,g,1,a+L.length,b⟩/\∀i,i<L.length->b (a+i)=[Qa (L.getD i 0)]
def Kt.app{n H d L}(h:Kt n H d L)(g):Kt n (H++g) d L:=by rcases h with h|⟨e,k,b,a,j,i,c,f⟩;exact .inl h;exact .inr ⟨e,k,b,a,j,i,by rw[QG (Qb c)];exact c,f⟩
def Kt.base{F h g:List Ob}{d L}(f:F.length=h.length)(x:Kt F.length (F++g) d L):Kt h.length (h++g) d L:=by rcases x with x|⟨e,k,b,a,j,l,c,i⟩;exact .inl x;refine .inr ⟨e,k,b,a,j,ω,?_,i⟩;rw[Ks ω]at c ⊢;rw[<-f];exact c
def Kt.done{F h H:List Ob}{d L}(b:F.length=h.length)(a:VZ F H)(x:Kt F.length H d L):∃g,H=F++g/\Kt h.length (h++g) d L:=by obtain⟨g,rfl⟩:=a;exact⟨g,rfl,x.base b⟩
def Mt{dn:List Int}{off row v}(b:∀i,i<dn.length->row (off+i)=[Qa (dn.getD i 0)]):∀i,i<(dn++[v]).length->J8 dn.length off row (λ_=>[Qa v]) (0+i)=[Qa ((dn++[v]).getD i 0)]:=λi c=>by rw[JG];simp at c;by_cases a:i<dn.length;rw[BS a,b i a];simp[a,JX a];have:i=dn.length:=ω;subst this;rw[yC (Qv _)];simp
def Mu{h:List Ob}{l:Nat}{o:Ob}(e:h[l]?=some o.ro):(h.map Ob.ro)[l]?=some o.ro:=by have:=Jf e;rwa [ro_ro]at this
def ZZ(L:List Ql):Nat->Int->List Int
 | 0,_=>[]
 | n+1,id=>match Qw L id with
  | none=>[]
  | some c=>id::ZZ L n c.parent
def Ends(L:List Ql):Nat->Int->Prop
 | 0,id=>Qw L id=none
 | n+1,id=>match Qw L id with
  | none=>True
  | some c=>Ends L n c.parent
structure Qv1 (t:Nat) (L:List Ql) (N:Nat) (id:Int) (F:List Ob) (n:Nat) (s:St):Prop where
 ex:∃dn cur d H,dn++ZZ L n cur=ZZ L N id/\dn.length+n<=N+1/\Ends L n cur/\VZ F H/\Kt F.length H d dn/\s=⟨[(0,.ptr t 0 0 0),(1,Qa cur),(5,d)],H⟩
section
variable (h:List Ob)(t m c:Nat){es:List ZL}{L:List Ql}(T:VJ es L)
 (ht:(h.map Ob.ro)[t]?=some ⟨.Wp,0,1,1,λ_=>[.mref m 0]⟩) (hm:(h.map Ob.ro)[m]?=some (QT .i64 c es).ro)
include T ht hm
theorem Qg5(b N)(hN:N<1000000)(O:Ends L N b):Xo prog 105 h [.ptr t 0 0 0,Qa b] (λd g=>Kt h.length (h++g) d (ZZ L N b)):=by
 refine Cg Vr 200 func105 rfl ntmps105 results105 rfl λE w Z F M Q f=>?_;rw[<-M]at ht hm;have Jp:=Qb ht;have Zq:=Qb hm;simp only[go_sem];refine Hy (Qv1 t L N b F) N (s0:=⟨[(0,.ptr t 0 0 0),(1,Qa b),(5,.nil)],F⟩) QP ⟨[],b,.nil,F,rfl,σ,O,VZ.refl F,.inl ⟨rfl,rfl⟩,rfl⟩ ?_;rintro n s ⟨o,a,d,H,l,y,k,hx,u,rfl⟩;have V:=hx.len;have C:=hx.get ht;have z:=hx.get hm;have W:=Qb C;have Y:=Qb z;have e:=Qg4 H t m c T (Jf C) (Mu z) a;apply Qg f;cases j:Qw L a with
 | none=>
  rw[j]at e;simp only[E7,qq,q5]at e;apply ZH f wQ e;apply Kh f;have P:ZZ L n a=[]:=by cases n with
   | zero=>rfl
   | succ n=>simp only[ZZ,j]
  rw[P,JN]at l;rw[<-l];exact Kt.done Q (hx.app _) (u.app _)
 | some x=>
  rw[j]at e;simp only[BL,Vu,Va]at e;obtain⟨n,rfl⟩:∃I,n=I+1:=by
   cases n with
   | zero=>rw[Ends,j]at k;cases k
   | succ n=>exact⟨n,rfl⟩
  have q:Ends L n x.parent:=by simpa only[Ends,j] using k
  have B:(o++[a])++ZZ L n x.parent=ZZ L N b:=by rw[<-l];simp only[ZZ,j,WJ,List.singleton_append]
  rcases u with ⟨rfl,rfl⟩|⟨r,g,U,S,rfl,R,v,J⟩;apply ZH f wQ e;apply Kh f;refine⟨n,⟨[(0,.ptr t 0 0 0),(1,Qa x.parent),(5,.ref (H.length+2) 0 0 1)],_⟩,ω,QP,⟨⟨[a],x.parent,_,_,B,by simp at y ⊢;omega,q,hx.app _,.inr ⟨H.length+2,0,0,_,rfl,ω,by rw[VS rfl];rfl,λi K=>?_⟩,rfl⟩⟩⟩;have:i=0:=by simp at K;omega
  subst this;rfl;have p:=Qb v;apply ZH f wQ e;apply Qh f;simp only[go_sem,Qj,v,p];refine⟨ω,n,⟨[(0,.ptr t 0 0 0),(1,Qa x.parent),(5,.ref r (g+1) 0 (o.length+1))],_⟩,ω,QP,⟨⟨o++[a],x.parent,_,_,B,?_,q,?_,?_,rfl⟩⟩⟩;simp at y ⊢;omega;exact(hx.set R.1 _).app _;refine .inr ⟨r,g+1,0,_,σ,ω,?_,Mt J⟩;rw[QG (zC p),QI p];simp[Qa]
end
def Vs(L:List Ql)(a:Int):Bool:=a==0 || decide (1<QJ ((Qw L a).getD default).ls)
section
variable (h:List Ob)(t m c:Nat){es:List ZL}{L:List Ql}(T:VJ es L)
 (ht:(h.map Ob.ro)[t]?=some ⟨.Wp,0,1,1,λ_=>[.mref m 0]⟩) (hm:(h.map Ob.ro)[m]?=some (QT .i64 c es).ro)
include T ht hm
theorem Pv(a:Int)(N)(j:N<1000000)(l:Ends L N a):Zl prog 169 h [.ptr t 0 0 0,Qa a] (λd=>d=Qa (ZZ L N a).length):=by refine ZN func169 ntmps169 results169 λe w q F k x b=>?_;rw[<-k]at ht hm;have B:=Qb ht;have v:=Qb hm;simp only[go_sem];refine HG b fZ rfl ?_ (Qg5 F t m c T (Jf ht) (Mu hm) a N j l) rfl λd u f=>?_;simp only[go_sem];rcases f with ⟨rfl,n⟩|⟨r,g,p,o,rfl,y,i,s⟩;apply Qh b;simp only[go_sem,n];exact⟨_,rfl⟩;have z:=Qb i;apply Qg b;exact⟨_,rfl⟩
theorem gP(a):Zl prog 168 h [.ptr t 0 0 0,Qa a] (λd=>d=QV (Vs L a)):=by
 by_cases i:a=0;have e:Vs L a=true:=by simp[Vs,i]
 rw[e];refine ZN func168 ntmps168 results168 λb w k F g o f=>?_;rw[<-g]at ht hm;have p:=Qb ht;have n:=Qb hm;simp only[go_sem,WQ i];exact⟨[],σ⟩;have j:=T.look a;have e:Vs L a=decide (1<QJ ((Qw L a).getD default).ls):=by simp[Vs,i]
 rw[e];cases l:Qw L a with
 | none=>rw[l,qY]at j;refine ZN func168 ntmps168 results168 λb w k F g o f=>?_;rw[<-g]at ht hm;have p:=Qb ht;have n:=Qb hm;simp only[go_sem,ht,hm,j,VY i];apply QZ f wR (wS ⟨0,0,false,⟨0,0,0⟩,⟨0,0,0⟩,⟨0,0,0⟩,0,0⟩);apply Qg f;exact⟨[],(JN F).symm,rfl⟩
 | some x=>rw[l,Kq]at j;refine ZN func168 ntmps168 results168 λb w k F g o f=>?_;rw[<-g]at ht hm;have p:=Qb ht;have n:=Qb hm;simp only[go_sem,ht,hm,j,VY i];apply QZ f wR (wS x);apply Qg f;exact⟨[],σ⟩
end
def Qp(L:List Ql)(g:Ql->Bool)(k:Int):Bool:=((Qw L k).map g).getD false
def Qv2{es:List ZL}{seen:List Nat}{b:Nat}(p:ZL->Bool)(h:∀e∈es,e.b≠b):(es.filter λx=>(seen++[b]).contains x.b&&p x)=es.filter λx=>seen.contains x.b&&p x:=by apply bW;intro x hx;have:=h x hx;simp[this]
def Qg6:∀{a:List ZL} {seen:List Nat} {e:ZL} (p:ZL->Bool),(a.map (·.b)).Nodup->e∈a->e.b ∉ seen->(a.filter λx=>(seen++[e.b]).contains x.b&&p x).Perm (if p e then e::a.filter (λx=>seen.contains x.b&&p x) else a.filter λx=>seen.contains x.b&&p x)
 | [],_,_,_,_,h,_=>by simp at h
 | x::a,seen,e,p,d,h,j=>by
  simp only[Jr,Z6,Jw,E8,not_and]at d;rcases QK.1 h with h1|h1;subst h1;have m:=Qv2 (seen:=seen) (b:=e.b) p (es:=a) λy l g=>d.1 y l g;have i:seen.contains e.b=false:=by simpa using j
  rw[vk,vk,m];simp only[i,N9,qq,q5];have:(seen++[e.b]).contains e.b=true:=σ;rw[this,Sj]
  .have c:=Qg6 p d.2 h1 j;have n:x.b≠e.b:=λg=>d.1 e h1 g.symm;have i:(seen++[e.b]).contains x.b=seen.contains x.b:=by simp[n]
   rw[vk,vk,i];by_cases f:(seen.contains x.b&&p x)=true
   .rw[Qe f,Qe f];by_cases k:p e=true
    .rw[Qe k]at c ⊢;exact(c.cons x).trans (List.Perm.swap _ _ _)
    rw[Qd k]at c ⊢;exact c.cons x
   rw[Qd f,Qd f];exact c
def VJ.x7{b L}(T:VJ b L){e:ZL}(c:e∈b):∃x,Qw L e.k=some x/\e.v=Xc x/\x.iD=e.k:=by have:Wr e∈L.map YP:=T.perm.mem_iff.1 (Jw.2 ⟨e,c,rfl⟩);obtain⟨x,hx,a⟩:=Jw.1 this;simp only[YP,Wr,Zg]at a;exact⟨x,(VK T.sorted).2 ⟨hx,a.1⟩,a.2.symm,a.1⟩
def VJ.pick{a:List ZL}{L:List Ql}(T:VJ a L)(g:Ql->Bool):((a.filter λe=>Qp L g e.k).map (·.k)).Perm ((L.filter g).map (·.iD)):=by
 have b:=(T.perm.filter λp=>Qp L g p.1).map Prod.fst;have d:((a.map Wr).filter λp=>Qp L g p.1).map Prod.fst=(a.filter λe=>Qp L g e.k).map (·.k):=by rw[Sn,Dj];rfl
 have c:((L.map YP).filter λp=>Qp L g p.1).map Prod.fst=(L.filter g).map (·.iD):=by
  rw[Sn,Dj];have:L.filter ((λp=>Qp L g p.1) ∘ YP)=L.filter g:=bW λx hx=>by have:=(VK T.sorted).2 ⟨hx,rfl⟩;simp[Qp,YP,this]
  rw[this];rfl
 rw[d,c]at b;exact b
def Qv3{L:List Ql}(h:WD L)(g:Ql->Bool):((L.filter g).map (·.iD)).Pairwise (·<·):=by rw[Su];exact Od g h
open Go.Shelf in
def Qv4{P}{c:Ren}(o:Lays.n189 P c)(h):QO P (c.f 189) h [.nil] (λd n=>d=.tup []/\n=h):=by
 intro Z f w k j r q R g l;match j,g with
 | [v],_=>
 obtain⟨a,b⟩:=AJ (l 0 σ);have b:v=_:=b;subst b;refine(Any.slices_Sort_int_none o a 0 w).mono ?_;rintro e p ⟨rfl,rfl⟩;exact⟨_,.tup [],h,k,rfl,⟨rfl,rfl⟩,R,.tup [] [] rfl (λi m=>by simp at m),Tr.refl _ _ _,.refl _ _⟩
open Go.Shelf in
def Tryz.Qv5:Go.Shelf.Ren:=⟨fun|189=>100|125=>139|257=>138|128=>190|129=>191|294=>181|295=>182|296=>183|297=>184|298=>185|299=>186|216=>187|300=>188|301=>189|328=>234|329=>235|330=>236|331=>237|332=>238|215=>239|343=>258|n=>n,fun|28=>49|3=>3|46=>267|0=>0|51=>314|53=>40|4=>4|183=>307|182=>306|131=>157|5=>5|9=>9|218=>351|222=>354|228=>374|229=>375|n=>n,fun|n=>n⟩
def Tryz.Qg7:Go.Proofs.Lays.n189 prog Tryz.Qv5:={
 mixed:=τ
 f125:=func139.trans (congrArg some τ)
 f128:=func190.trans (congrArg some τ)
 f129:=func191.trans (congrArg some τ)
 f189:=func100.trans (congrArg some τ)
 f215:=func239.trans (congrArg some τ)
 f216:=func187.trans (congrArg some τ)
 f257:=func138.trans (congrArg some τ)
 f294:=func181.trans (congrArg some τ)
 f295:=func182.trans (congrArg some τ)
 f296:=func183.trans (congrArg some τ)
 f297:=func184.trans (congrArg some τ)
 f298:=func185.trans (congrArg some τ)
 f299:=func186.trans (congrArg some τ)
 f300:=func188.trans (congrArg some τ)
 f301:=func189.trans (congrArg some τ)
 f328:=func234.trans (congrArg some τ)
 f329:=func235.trans (congrArg some τ)
 f330:=func236.trans (congrArg some τ)
 f331:=func237.trans (congrArg some τ)
 f332:=func238.trans (congrArg some τ)
 f343:=func258.trans (congrArg some τ)
 t0:=underlying0
 a0:=isAgg0
 z0:=sizeOf0
 v0:=zeroValue0
 t3:=underlying3
 a3:=isAgg3
 z3:=sizeOf3
 v3:=zeroValue3
 t4:=underlying4
 a4:=isAgg4
 z4:=sizeOf4
 v4:=zeroValue4
 t5:=underlying5
 a5:=isAgg5
 z5:=sizeOf5
 v5:=zeroValue5
 t9:=underlying9
 a9:=isAgg9
 z9:=sizeOf9
 v9:=zeroValue9
 t28:=underlying49
 a28:=isAgg49
 z28:=sizeOf49
 v28:=zeroValue49
 t46:=underlying267
 a46:=isAgg267
 z46:=sizeOf267
 v46:=zeroValue267
 t51:=underlying314
 a51:=isAgg314
 z51:=sizeOf314
 v51:=zeroValue314
 t53:=underlying40
 a53:=isAgg40
 z53:=sizeOf40
 v53:=zeroValue40
 t131:=underlying157
 a131:=isAgg157
 z131:=sizeOf157
 v131:=zeroValue157
 t182:=underlying306
 a182:=isAgg306
 z182:=sizeOf306
 v182:=zeroValue306
 t183:=underlying307
 a183:=isAgg307
 z183:=sizeOf307
 v183:=zeroValue307
 t218:=underlying351
 a218:=isAgg351
 z218:=sizeOf351
 v218:=zeroValue351
 t222:=underlying354
 a222:=isAgg354
 z222:=sizeOf354
 v222:=zeroValue354
 t228:=underlying374
 a228:=isAgg374
 z228:=sizeOf374
 v228:=zeroValue374
 t229:=underlying375
 a229:=isAgg375
 z229:=sizeOf375
 v229:=zeroValue375 }
def Qg8{h:List Ob}{l g a N b}{c:List Int}(j:h[l]?=some ⟨.arr,g,1,N,b⟩)(k:a+c.length<=N)(f:∀i,i<c.length->b (a+i)=[.raw (.int .i64 (c.getD i 0))])(e:c.length<4611686018427387904):
  QO prog 100 h [.ref l g a c.length] (λd m=>d=.tup []/\m=h.set l ⟨.arr,g,1,N,wT a b (sorted c)⟩):=QvV Tryz.Qg7 j k f e
def Qg9(h):QO prog 100 h [.nil] (λd a=>d=.tup []/\a=h):=Qv4 Tryz.Qg7 h
def Mv(d):Ym d d:=by unfold Ym;split<;>first|exact rfl|simp_all
def DV:∀l:List D,KN l l
 | []=>trivial
 | d::r=>⟨Mv d,DV r⟩
def TJ(F:List Ob)(f a:Nat)(b:List D)(g:Ql->Bool):Prop:=∀(h:List Ob) (c:Ql),VZ F h->Zl prog f h (Jh a b [Xc c]) (λd=>d=QV (g c))
structure Qv6 (t m c:Nat) (es:List ZL) (L:List Ql) (gk:Ql->Bool) (so:D) (F:List Ob) (n:Nat) (s:St):Prop where
 ex:∃seen d out H,Bc es seen=n/\VZ F H/\Kt F.length H d out/\out.Perm ((es.filter λe=>seen.contains e.b&&Qp L gk e.k).map (·.k))/\H[F.length]?=some (YT m c c seen) /\
  s=⟨[(0,.ptr t 0 0 0),(1,so),(5,d),(14,.mref F.length 0)],H⟩
section
variable (h:List Ob)(t m c:Nat){es:List ZL}{L:List Ql}(T:VJ es L)(hlen:L.length<1000000)
 (ht:(h.map Ob.ro)[t]?=some ⟨.Wp,0,1,1,λ_=>[.mref m 0]⟩) (hm:(h.map Ob.ro)[m]?=some (QT .i64 c es).ro)
include T ht hm hlen
theorem gQ(p:D)(f nf:Nat)(Qx:List D)(hf:Qm prog f)(V9:JP p=some (f,nf,Qx))(b:Ql->Bool)(hg:TJ (h.map Ob.ro) f nf Qx b):
  Xo prog 127 h [.ptr t 0 0 0,p] (λd g=>Kt h.length (h++g) d ((L.filter b).map (·.iD))):=by
 refine Cg Vr 200 func127 rfl ntmps127 results127 rfl λa0 w pl F hF Zp j=>?_;rw[<-hF]at ht hm;have Jp:=Qb ht;have Zq:=Qb hm;simp only[go_sem,ht,hm];refine QvC (kd:=.SA) (q:=.i64) (l:=m) (c:=c) (es:=es) rfl (by simp only[go_sem,Qj,hm,Zq];rfl) λhB=>?_;refine Hy (Qv6 t m c es L b p F) (Bc es []) (s0:=⟨[(0,.ptr t 0 0 0),(1,p),(5,.nil),(14,.mref F.length 0)],F++[YT m c c []]⟩) QP ⟨[],.nil,[],_,rfl,⟨_,rfl⟩,.inl ⟨rfl,rfl⟩,σ,by rw[Vq rfl];rfl,rfl⟩ ?_;rintro n s ⟨seen,d,a,H,hn,hx,N,O,W,rfl⟩;have YE:=hx.get hm;have rZ:=Qb YE;have Y:=Qb W;apply Qg j;refine QqU j (li:=F.length) (l:=m) (c:=c) (es:=es) (seen:=seen) (q:=.i64) (kd:=.SA) rfl W rfl YE rfl (λJR=>?_) (λe z Ho=>?_)
 .apply Qg j;have R:sorted a=(L.filter b).map (·.iD):=by
   refine Qg3 (O.trans ?_) (Qv3 T.sorted b);have:(es.filter λe=>seen.contains e.b&&Qp L b e.k)=es.filter λe=>Qp L b e.k:=bW λe z=>by
    have:seen.contains e.b=true:=by simpa using JR e z
    rw[this,Sj]
   rw[this];exact T.pick b
  have gT:a.length<4611686018427387904:=by
   have B:a.length=((L.filter b).map (·.iD)).length:=by rw[<-R,HL]
   have h2:=Yg b L;rw[KJ]at B;omega
  rcases N with ⟨rfl,rfl⟩|⟨r,g,k,o,rfl,P,u,U⟩
  .apply Qg j;refine ZT j fY (Qg9 H) λd h E=>?_;obtain⟨rfl,rfl⟩:=E;apply Qg j;exact Kt.done Zp hx (.inl ⟨rfl,by rw[<-R];simp[sorted]⟩)
  .have I:=Qb u;apply Qg j;refine ZT j fY (Qg8 u (Qv _) U gT) λd h E=>?_;obtain⟨rfl,rfl⟩:=E;apply Qg j;refine Kt.done Zp (hx.set P.1 _) ?_;have TL:((L.filter b).map (·.iD)).length=a.length:=by rw[<-R,HL]
   refine .inr ⟨r,g,k,wT k o (sorted a),?_,P,?_,?_⟩;rw[TL];rw[TL];exact QI I;rw[R];intro i hi;unfold wT;rw[Qe ω,show k+i-k=i by omega];rfl
 obtain⟨x,TM,Z,Zs⟩:=T.x7 z;rw[Z];have OP:Qp L b e.k=b x:=by simp[Qp,TM]
 obtain⟨v,Q⟩:=Zc (H.set F.length (YT m c c (seen++[e.b])));have y:VZ F v:=by rw[Q];exact hx.set (Qv _) _
 have C:v[F.length]?=some (YT m c c (seen++[e.b])):=by rw[Q];exact QI Y
 have K:Kt F.length v d a:=by rcases N with N|⟨r,g,k,o,B,h2,V,h4⟩;exact .inl N;refine .inr ⟨r,g,k,o,B,h2,?_,h4⟩;rw[Q,Qo (by rintro rfl;rw[W]at V;cases V)];exact V
 have FO:=y.get hm;have a1:=Qb FO;have S:=Qb C;have J:=Qg6 (λe=>Qp L b e.k) hB.nodup z Ho;have Y0:=QgR z Ho;rw[<-Q];apply Qg j;apply Qg j;refine QvF (li:=F.length) (l:=m) (c:=c) (es:=es) (seen:=seen) (q:=.i64) (kd:=.SA) (e:=e) rfl C rfl FO z rfl ?_;rw[Z];apply Kh j;apply Qg j;refine X4 j hf V9 ?_ (hg _ x ?_) rfl λd2 E=>?_;simp only[go_sem];exact DV _;rw[<-hF];exact y.app _;subst E;apply Qh j;have gT:a.length<=es.length:=by have B:=O.length_eq;rw[KJ]at B;rw[B];exact Yg _ _
 have a2:=T.len;simp only[OP]at J;cases M:b x;simp only[M,qq,q5]at J;simp only[go_sem];exact⟨Bc es (seen++[e.b]),⟨[(0,.ptr t 0 0 0),(1,p),(5,d),(14,.mref F.length 0)],_⟩,ω,QP,⟨⟨seen++[e.b],d,a,_,rfl,y.app _,K.app _,O.trans (J.map _).symm,by rw[QG S];exact C,rfl⟩⟩⟩;simp only[M,Vu]at J;have X5:(a++[e.k]).Perm ((es.filter λx=>(seen++[e.b]).contains x.b&&Qp L b x.k).map (·.k)):=by refine(List.perm_append_comm.trans ?_).trans (J.map _).symm;exact O.cons e.k
 rcases K with ⟨rfl,rfl⟩|⟨r,g,k,o,rfl,P,u,U⟩;simp only[go_sem,Qj];refine⟨Bc es (seen++[e.b]),⟨[(0,.ptr t 0 0 0),(1,p),(5,.ref (v.length+2) 0 0 1),(14,.mref F.length 0)],_⟩,ω,QP,⟨⟨seen++[e.b],_,[e.k],_,rfl,y.app _,?_,X5,by rw[QG S];exact C,rfl⟩⟩⟩;have:=y.len;refine .inr ⟨v.length+2,0,0,_,rfl,ω,by rw[VS rfl];rfl,λi hi=>?_⟩;have:i=0:=by simp at hi;omega
 subst this;rfl;have I:=Qb u;have QE:F.length≠r:=by rintro rfl;rw[C]at u;cases u
 simp only[go_sem,Qj,u,I];refine⟨ω,Bc es (seen++[e.b]),⟨[(0,.ptr t 0 0 0),(1,p),(5,.ref r (g+1) 0 (a.length+1)),(14,.mref F.length 0)],_⟩,ω,QP,⟨⟨seen++[e.b],_,a++[e.k],_,rfl,?_,?_,X5,?_,rfl⟩⟩⟩;exact(y.set P.1 _).app _;refine .inr ⟨r,g+1,0,_,σ,ω,?_,Mt U⟩;rw[QG (zC I),QI I];simp[Qa];rw[QG (zC S),Qo (Zb QE)];exact C
end
def XN{h t:List Ob}{l:Nat}{o:Ob}(e:h[l]?=some o):((h++t).map Ob.ro)[l]?=some o.ro:=Jf (by rw[QG (Qb e)];exact e)
def Kt.le{n n' H d L}(x:Kt n H d L)(i:n'<=n):Kt n' H d L:=by rcases x with x|⟨c,h,b,a,g,j,f,e⟩;exact .inl x;exact .inr ⟨c,h,b,a,g,ω,f,e⟩
def Qv8(h:List Ob)(b c)(x:Ql)(a:(h.map Ob.ro)[b]?=some ⟨.Wp,0,1,1,λ_=>[Qa c]⟩):Zl prog 223 h [Xc x,.ptr b 0 0 0] (λd=>d=QV (x.parent==c)):=by refine ZN func223 ntmps223 results223 λe w i F f k j=>?_;rw[<-f]at a;have g:=Qb a;simp only[go_sem,Qj,a,g];exact⟨_,rfl⟩
def KZ(L:List Ql)(a:Int):List Int:=(L.filter λx=>x.parent==a).map (·.iD)
section
variable (h:List Ob)(t m c:Nat){es:List ZL}{L:List Ql}(T:VJ es L)(hlen:L.length<1000000)
 (ht:(h.map Ob.ro)[t]?=some ⟨.Wp,0,1,1,λ_=>[.mref m 0]⟩) (hm:(h.map Ob.ro)[m]?=some (QT .i64 c es).ro)
include T ht hm hlen
theorem r6(a):Xo prog 171 h [.ptr t 0 0 0,Qa a] (λd g=>Kt h.length (h++g) d (KZ L a)):=by
 refine Cg Vr 200 func171 rfl ntmps171 results171 rfl λi w s F p r b=>?_;rw[<-p]at ht hm;have v:=Qb ht;have u:=Qb hm;simp only[go_sem];have hx:VZ F (F++([⟨.one,0,1,1,λ_=>[Qa a]⟩]:List Ob)):=⟨_,rfl⟩;have n:TJ ((F++([⟨.one,0,1,1,λ_=>[Qa a]⟩]:List Ob)).map Ob.ro) 223 0 [.ptr F.length 0 0 0] (λx=>x.parent==a):=λq x j=>Qv8 q F.length a x (by have e:=j.get (l:=F.length) (o:=⟨.Wp,0,1,1,λ_=>[Qa a]⟩) (by rw[zP,Vq σ];rfl);exact Jf e)
 refine HG b gi rfl ?_ (gQ _ t m c T hlen (Jf (hx.get ht)) (Mu (hx.get hm)) (.clo 223 0 [.ptr F.length 0 0 0]) 223 0 [.ptr F.length 0 0 0] Qu2 rfl _ n) rfl λd g k=>?_;simp only[go_sem];apply Kh b;have f:=k.le (n':=F.length) σ;rw[WJ]at f;exact Kt.done r ⟨_,rfl⟩ f
def wU(L:List Ql)(x:Ql)(a:Nat):Int:=
 if Vd x≠0 then Vd x
 else if (Qw L x.iD).isSome then 8
 else if L.length=64 then 5
 else if (x.parent≠0/\(Qw L x.parent).isNone)\/((Qw L x.parent).getD default).leaf=true then 23
 else if 1<QJ x.ls/\Vs L x.parent=false then 29
 else if a=16 then 25
 else 0
end
section
variable (h:List Ob)(t m c:Nat){es:List ZL}{L:List Ql}(T:VJ es L)(hlen:L.length<1000000)
 (ht:h[t]?=some ⟨.one,0,1,1,λ_=>[.mref m 0]⟩) (hm:h[m]?=some (QT .i64 c es))
include T ht hm hlen
structure Xq (h:List Ob) (t m:Nat) (L:List Ql) (h':List Ob):Prop where
 ex:∃c es,h'[t]?=some ⟨.one,0,1,1,λ_=>[.mref m 0]⟩/\h'[m]?=some (QT .i64 c es)/\VJ es L
 len:h.length<=h'.length
 Kz:∀l,l<h.length->l≠m->h'[l]? = h[l]?
omit T hlen in
theorem Xq.same(T:VJ es L)(g):Xq h t m L (h++g):=
 ⟨⟨c,es,by rw[QG (Qb ht)];exact ht,by rw[QG (Qb hm)];exact hm,T⟩,σ,λl a _=>QG a⟩
omit hlen in
theorem Xq.Q5(x:Ql)(g):Xq h t m (VL L x) (h.set m (Kb .i64 c es x.iD (Xc x))++g):=by
 obtain⟨f,a,e,i⟩:=Qv0 T .i64 c x;have b:=Qb hm;have k:=Qb ht;have j:m≠t:=by rintro rfl;rw[ht]at hm;cases hm
 rw[e];refine⟨⟨f,a,?_,?_,i⟩,σ,λl d n=>?_⟩;rw[QG (zC k),Qo j];exact ht;rw[QG (zC b),QI b];rw[QG (zC d),Qo (Zb n)]
omit hlen in
theorem Qv9(x:Ql)(N)(v:N<1000000)(B:Ends L N x.parent):QO prog 131 h [.ptr t 0 0 0,Xc x] (λd M=>d=Qa (wU L x (ZZ L N x.parent).length)/\Xq h t m (if wU L x (ZZ L N x.parent).length=0 then VL L x else L) M):=by
 have H:=T.look x.iD;have n:=T.look x.parent;have Q:=T.len;have j:=Qb ht;have i:=Qb hm;obtain⟨E,F⟩:=Zc (wU L x (ZZ L N x.parent).length);rw[<-F];have b:∀g:List Ob,E≠0->Xq h t m (if E=0 then VL L x else L) (h++g):=λg O=>by rw[Qd O];exact Xq.same h t m c ht hm T g
 refine Q9 func131 ntmps131 results131 λK w P a=>?_;have j:=Qb ht;have i:=Qb hm;simp only[go_sem,Qj];apply QZ a Qgk (QgX x);apply Kh a;by_cases C:Vd x=0;case neg=>
  have e:E=Vd x:=by rw[F,wU,Qe C]
  simp only[go_sem,VY C,bne];exact⟨by rw[e],b _ (by rw[e];exact C)⟩
 simp only[go_sem,WQ C,bne];cases I:Qw L x.iD with
 | some y=>
  have e:E=8:=by rw[F,wU,Qd (zC C),Qe (by simp[I])]
  rw[I,Kq]at H;apply Qy a ol;simp only[go_sem,Qj,ht,hm,j,i,H];cases o:Qw L x.parent with
  | none=>rw[o,qY]at n;apply Qy a ol;simp only[go_sem,Qj,ht,hm,j,i,n];exact⟨by rw[e],b _ (by rw[e];decide)⟩
  | some z=>rw[o,Kq]at n;apply Qy a ol;simp only[go_sem,Qj,ht,hm,j,i,n];exact⟨by rw[e],b _ (by rw[e];decide)⟩
 | none=>
  rw[I,qY]at H;apply Qy a ol;simp only[go_sem,Qj,ht,hm,j,i,H];have u:E=(if L.length=64 then 5 else if (x.parent≠0/\(Qw L x.parent).isNone)\/((Qw L x.parent).getD default).leaf=true then 23 else if 1<QJ x.ls/\Vs L x.parent=false then 29 else if (ZZ L N x.parent).length=16 then 25 else 0):=by rw[F,wU,Qd (zC C),Qd (by simp[I])]
  by_cases J:L.length=64;have e:E=5:=by rw[u,Qe J]
  have s:((es.length:Int)==64)=true:=ξ;cases o:Qw L x.parent with
  | none=>rw[o,qY]at n;apply Qy a ol;simp only[go_sem,Qj,ht,hm,j,i,n,s];exact⟨by rw[e],b _ (by rw[e];decide)⟩
  | some z=>rw[o,Kq]at n;apply Qy a ol;simp only[go_sem,Qj,ht,hm,j,i,n,s];exact⟨by rw[e],b _ (by rw[e];decide)⟩
  rw[Qd J]at u;have s:((es.length:Int)==64)=false:=ξ;cases o:Qw L x.parent with
  | none=>
   rw[o,qY]at n;by_cases p:x.parent=0;apply Qy a ol;simp only[go_sem,Qj,ht,hm,j,i,n,s,WQ p,bne];have l:E=(if 1<QJ x.ls/\Vs L x.parent=false then 29 else if (ZZ L N x.parent).length=16 then 25 else 0):=by rw[u,Qd (by rw[o];rintro (⟨h1,_⟩|h1);exact h1 p;cases h1)]
   apply QZ a wR (wS x);apply Kh a;cases r:decide (1<QJ x.ls);simp only[go_sem,Qj,Go.undef];apply ZH a Pm (Pv _ t m c T (XN ht) (XN hm) x.parent N v B);apply Qg a;by_cases k:(ZZ L N x.parent).length=16;have e:E=25:=by rw[l,Qd (by simp at r;omega),Qe k]
   have f:(((ZZ L N x.parent).length:Int)==16)=true:=ξ;simp only[go_sem,f];exact⟨by rw[e],b _ (by rw[e];decide)⟩;have e:E=0:=by rw[l,Qd (by simp at r;omega),Qd k]
   have f:(((ZZ L N x.parent).length:Int)==16)=false:=ξ;simp only[go_sem,f];apply Qy a ut;simp only[go_sem,Qj,ht,hm,j,i];rw[Qe e];exact⟨by rw[e],Xq.Q5 h t m c T ht hm x _⟩;simp only[go_sem,Qj,Go.undef];apply ZH a gp (gP _ t m c T (XN ht) (XN hm) x.parent);apply Qg a;cases q:Vs L x.parent;have e:E=29:=by rw[l,Qe ⟨by simpa using r,q⟩]
   simp only[go_sem];exact⟨by rw[e],b _ (by rw[e];decide)⟩;simp only[go_sem,Qj];apply ZH a Pm (Pv _ t m c T (XN ht) (XN hm) x.parent N v B);apply Qg a;by_cases k:(ZZ L N x.parent).length=16;have e:E=25:=by rw[l,Qd (by rw[q];simp),Qe k]
   have f:(((ZZ L N x.parent).length:Int)==16)=true:=ξ;simp only[go_sem,f];exact⟨by rw[e],b _ (by rw[e];decide)⟩;have e:E=0:=by rw[l,Qd (by rw[q];simp),Qd k]
   have f:(((ZZ L N x.parent).length:Int)==16)=false:=ξ;simp only[go_sem,f];apply Qy a ut;simp only[go_sem,Qj,ht,hm,j,i];rw[Qe e];exact⟨by rw[e],Xq.Q5 h t m c T ht hm x _⟩;have e:E=23:=by rw[u,Qe (.inl ⟨p,by simp[o]⟩)]
   apply Qy a ol;simp only[go_sem,Qj,ht,hm,j,i,n,s,VY p,bne];exact⟨by rw[e],b _ (by rw[e];decide)⟩
  | some z=>
   rw[o,Kq]at n;cases hz:z.leaf with
   | true=>
    have e:E=23:=by rw[u,Qe (.inr (by simp[o,hz]))]
    by_cases p:x.parent=0;apply Qy a ol;simp only[go_sem,Qj,ht,hm,j,i,n,s,WQ p,bne,hz];exact⟨by rw[e],b _ (by rw[e];decide)⟩;apply Qy a ol;simp only[go_sem,Qj,ht,hm,j,i,n,s,VY p,bne,hz];exact⟨by rw[e],b _ (by rw[e];decide)⟩
   | false=>
    by_cases p:x.parent=0;apply Qy a ol;simp only[go_sem,Qj,ht,hm,j,i,n,s,WQ p,bne,hz];have l:E=(if 1<QJ x.ls/\Vs L x.parent=false then 29 else if (ZZ L N x.parent).length=16 then 25 else 0):=by rw[u,Qd (by rw[o];rintro (⟨h1,_⟩|h1);exact h1 p;exact absurd h1 (by simp[hz]))]
    apply QZ a wR (wS x);apply Kh a;cases r:decide (1<QJ x.ls);simp only[go_sem,Qj,Go.undef];apply ZH a Pm (Pv _ t m c T (XN ht) (XN hm) x.parent N v B);apply Qg a;by_cases k:(ZZ L N x.parent).length=16;have e:E=25:=by rw[l,Qd (by simp at r;omega),Qe k]
    have f:(((ZZ L N x.parent).length:Int)==16)=true:=ξ;simp only[go_sem,f];exact⟨by rw[e],b _ (by rw[e];decide)⟩;have e:E=0:=by rw[l,Qd (by simp at r;omega),Qd k]
    have f:(((ZZ L N x.parent).length:Int)==16)=false:=ξ;simp only[go_sem,f];apply Qy a ut;simp only[go_sem,Qj,ht,hm,j,i];rw[Qe e];exact⟨by rw[e],Xq.Q5 h t m c T ht hm x _⟩;simp only[go_sem,Qj,Go.undef];apply ZH a gp (gP _ t m c T (XN ht) (XN hm) x.parent);apply Qg a;cases q:Vs L x.parent;have e:E=29:=by rw[l,Qe ⟨by simpa using r,q⟩]
    simp only[go_sem];exact⟨by rw[e],b _ (by rw[e];decide)⟩;simp only[go_sem,Qj];apply ZH a Pm (Pv _ t m c T (XN ht) (XN hm) x.parent N v B);apply Qg a;by_cases k:(ZZ L N x.parent).length=16;have e:E=25:=by rw[l,Qd (by rw[q];simp),Qe k]
    have f:(((ZZ L N x.parent).length:Int)==16)=true:=ξ;simp only[go_sem,f];exact⟨by rw[e],b _ (by rw[e];decide)⟩;have e:E=0:=by rw[l,Qd (by rw[q];simp),Qd k]
    have f:(((ZZ L N x.parent).length:Int)==16)=false:=ξ;simp only[go_sem,f];apply Qy a ut;simp only[go_sem,Qj,ht,hm,j,i];rw[Qe e];exact⟨by rw[e],Xq.Q5 h t m c T ht hm x _⟩;apply Qy a ol;simp only[go_sem,Qj,ht,hm,j,i,n,s,VY p,bne,hz];have l:E=(if 1<QJ x.ls/\Vs L x.parent=false then 29 else if (ZZ L N x.parent).length=16 then 25 else 0):=by rw[u,Qd (by simp[o,hz])]
    apply QZ a wR (wS x);apply Kh a;cases r:decide (1<QJ x.ls);simp only[go_sem,Qj,Go.undef];apply ZH a Pm (Pv _ t m c T (XN ht) (XN hm) x.parent N v B);apply Qg a;by_cases k:(ZZ L N x.parent).length=16;have e:E=25:=by rw[l,Qd (by simp at r;omega),Qe k]
    have f:(((ZZ L N x.parent).length:Int)==16)=true:=ξ;simp only[go_sem,f];exact⟨by rw[e],b _ (by rw[e];decide)⟩;have e:E=0:=by rw[l,Qd (by simp at r;omega),Qd k]
    have f:(((ZZ L N x.parent).length:Int)==16)=false:=ξ;simp only[go_sem,f];apply Qy a ut;simp only[go_sem,Qj,ht,hm,j,i];rw[Qe e];exact⟨by rw[e],Xq.Q5 h t m c T ht hm x _⟩;simp only[go_sem,Qj];apply ZH a gp (gP _ t m c T (XN ht) (XN hm) x.parent);apply Qg a;cases q:Vs L x.parent;have e:E=29:=by rw[l,Qe ⟨by simpa using r,q⟩]
    simp only[go_sem];exact⟨by rw[e],b _ (by rw[e];decide)⟩;simp only[go_sem,Qj];apply ZH a Pm (Pv _ t m c T (XN ht) (XN hm) x.parent N v B);apply Qg a;by_cases k:(ZZ L N x.parent).length=16;have e:E=25:=by rw[l,Qd (by rw[q];simp),Qe k]
    have f:(((ZZ L N x.parent).length:Int)==16)=true:=ξ;simp only[go_sem,f];exact⟨by rw[e],b _ (by rw[e];decide)⟩;have e:E=0:=by rw[l,Qd (by rw[q];simp),Qd k]
    have f:(((ZZ L N x.parent).length:Int)==16)=false:=ξ;simp only[go_sem,f];apply Qy a ut;simp only[go_sem,Qj,ht,hm,j,i];rw[Qe e];exact⟨by rw[e],Xq.Q5 h t m c T ht hm x _⟩
end
def wV(L:List Ql)(a:Int):Int:=if (Qw L a).isNone then 6 else if KZ L a≠[] then 23 else 0
section
variable (h:List Ob)(t m c:Nat){es:List ZL}{L:List Ql}(T:VJ es L)(hlen:L.length<1000000)
 (ht:h[t]?=some ⟨.one,0,1,1,λ_=>[.mref m 0]⟩) (hm:h[m]?=some (QT .i64 c es))
include T ht hm hlen
omit hlen T in
theorem Xq.put{b a e}(i:VJ a e)(g):Xq h t m e (h.set m (QT .i64 b a)++g):=by
 have d:=Qb hm;have k:=Qb ht;have j:m≠t:=by rintro rfl;rw[ht]at hm;cases hm
 refine⟨⟨b,a,?_,?_,i⟩,σ,λl f n=>?_⟩;rw[QG (zC k),Qo j];exact ht;rw[QG (zC d),QI d];rw[QG (zC f),Qo (Zb n)]
theorem Qwa(a):QO prog 134 h [.ptr t 0 0 0,Qa a] (λd y=>d=Qa (wV L a)/\Xq h t m (if wV L a=0 then WE L a else L) y):=by
 have j:=T.look a;have o:=Qb ht;have n:=Qb hm;obtain⟨E,p⟩:=Zc (wV L a);rw[<-p];have f:∀g:List Ob,E≠0->Xq h t m (if E=0 then WE L a else L) (h++g):=λg z=>by rw[Qd z];exact Xq.same h t m c ht hm T g
 cases k:Qw L a with
 | none=>
  have e:E=6:=by rw[p,wV,Qe (by simp[k])]
  rw[k,qY]at j;refine Q9 func134 ntmps134 results134 λi w s l=>?_;have o:=Qb ht;have n:=Qb hm;simp only[go_sem,Qj,ht,hm,j];exact⟨by rw[e],f _ (by rw[e];decide)⟩
 | some x=>
  rw[k,Kq]at j;have q:E=if KZ L a≠[] then 23 else 0:=by rw[p,wV,Qd (by simp[k])]
  refine Q9 func134 ntmps134 results134 λi w s l=>?_;have o:=Qb ht;have n:=Qb hm;simp only[go_sem,Qj,ht,hm,j];refine HG l rj rfl ?_ (r6 _ t m c T hlen (XN ht) (XN hm) a) rfl λd g u=>?_;simp only[go_sem];rcases u with ⟨rfl,b⟩|⟨F,I,C,B,rfl,J,v,H⟩;have e:E=0:=by rw[q,Qd (by simp[b])]
  apply Qh l;simp only[go_sem,Qj,ht,hm,o,n];rw[Qe e];exact⟨by rw[e],Xq.put h t m c ht hm (Qg2 T a) _⟩;have M:=Qb v;apply Qh l;by_cases b:KZ L a=[];have e:E=0:=by rw[q,Qd (by simp[b])]
  simp only[go_sem,Qj,ht,hm,o,n,b];rw[Qe e];exact⟨by rw[e],Xq.put h t m c ht hm (Qg2 T a) _⟩;have e:E=23:=by rw[q,Qe b]
  have K:0<(KZ L a).length:=Sr.2 b;have r:(0:Int)<((KZ L a).length:Int):=ω;simp only[go_sem,Qj,r];exact⟨by rw[e],f _ (by rw[e];decide)⟩
end
def r7(h:List Ob):(h.map Ob.ro).map Ob.ro=h.map Ob.ro:=by rw[Dj];exact AB λo _=>ro_ro o
def Qhd(F:List Ob)(f a:Nat)(b:List D)(g:Int->Bool):Prop:=∀(h:List Ob) (n:Int),VZ F h->Zl prog f h (Jh a b [Qa n]) (λd=>d=QV (g n))
def x8(g:Int->Bool)(l:List Int):Int:=match l.findIdx? g with
 | some i=>i
 | none=>-1
def r8{g}{l:List Int}{k}(a:k<l.length)(h:∀i,i<k->g (l.getD i 0)=false)(c:g (l.getD k 0)=true):x8 g l=k:=by
 have e:l.findIdx? g=some k:=by rw[Di];refine⟨a,by simpa[QU,a] using c,λi b=>?_⟩;have:=h i b;simpa[QU,show i<l.length by omega] using this
 rw[x8,e]
def r9{g}{l:List Int}(h:∀i,i<l.length->g (l.getD i 0)=false):x8 g l=-1:=by
 have e:l.findIdx? g=none:=by rw[EV];intro x hx;obtain⟨i,a,rfl⟩:=j8 hx;have:=h i a;simpa[QU,a] using this
 rw[x8,e]
section
variable (h:List Ob)(l:List Int)(lo gn off:Nat)(row:Nat->List D)(hlen:l.length<1000000)(ho:(h.map Ob.ro)[lo]?=some ⟨.AH,gn,1,off+l.length,row⟩)(hr:∀i,i<l.length->row (off+i)=[Qa (l.getD i 0)])
include hlen ho hr
theorem Qwb(e:D)(f j:Nat)(q:List D)(x:Qm prog f)(B:JP e=some (f,j,q))(c:Int->Bool)(v:Qhd (h.map Ob.ro) f j q c):
  Zl prog 102 h [.ref lo gn off l.length,e] (λd=>d=Qa (x8 c l)):=by
 refine ZN func102 ntmps102 results102 λr w H F p I b=>?_;rw[<-p]at ho;have C:=Qb ho;simp only[go_sem];refine ZY (λk s=>(∀i,i<k->c (l.getD i 0)=false)/\s=⟨[(0,.ref lo gn off l.length),(1,e),(7,Qa l.length),(8,Qa k)],F⟩) l.length QP ⟨λi o=>absurd o ω,rfl⟩ ?_;rintro k s n ⟨g,rfl⟩;apply Qg b;have C:=Qb ho;have E:=JJ (show k<4611686018427387904 from ω);first|refine WN n (λa=>?_) (λa=>?_)|refine WO n (λa=>?_) (λa=>?_)
 have u:=hr k a;have t:off+k<off+l.length:=ω;simp only[go_sem,ho,a,u,t];refine X4 b x B ?_ (v F (l.getD k 0) (by rw[<-p];exact VZ.refl F)) rfl λd2 y=>?_;simp only[go_sem];exact DV _;subst y;apply Qh b;cases m:c (l.getD k 0);simp only[go_sem];refine⟨a,_,Qs.frame (by simp only[go_sem,E]),λi o=>?_,rfl⟩;by_cases z:i<k;exact g i z;have:i=k:=ω;subst this;exact m;rw[r8 a g m];simp only[go_sem];exact⟨[],(JN F).symm⟩;have a:k=l.length:=ω;subst a;simp only[go_sem,BK];rw[r9 g];apply Qg b;exact⟨[],(JN F).symm⟩
theorem Qwc(a:D)(f b:Nat)(e:List D)(o:Qm prog f)(r:JP a=some (f,b,e))(c:Int->Bool)(m:Qhd (h.map Ob.ro) f b e c):
  Zl prog 70 h [.ref lo gn off l.length,a] (λd=>d=QV (decide (0<=x8 c l))):=by
 refine ZN func70 ntmps70 results70 λk w s F j t g=>?_;rw[<-j]at ho;have u:=Qb ho;simp only[go_sem];refine X4 g Tz rfl ?_ (Qwb F l lo gn off row hlen (Jf ho) hr a f b e o r c (λq n hx=>?_)) rfl λd2 p=>?_;simp only[go_sem];exact Mv a;rw[j,r7]at hx;exact m q n hx;subst p;apply Qg g;exact⟨[],(JN F).symm⟩
end
def Qhe(h c):Zl prog 102 h [.nil,c] (λd=>d=Qa (-1)):=by refine ZN func102 ntmps102 results102 λb w e F g i a=>?_;simp only[go_sem];refine ZY (λk s=>s=⟨[(7,Qa 0),(8,Qa 0)],F⟩) 0 QP rfl ?_;rintro k s f rfl;apply Qg a;apply Qg a;exact⟨[],(JN F).symm⟩
def Qwd(h a):Zl prog 70 h [.nil,a] (λd=>d=QV false):=by refine ZN func70 ntmps70 results70 λc w f F g i b=>?_;simp only[go_sem];refine X4 b Tz rfl ?_ (Qhe F a) rfl λd2 e=>?_;simp only[go_sem];exact Mv a;subst e;apply Qg b;exact⟨[],(JN F).symm⟩
def gV(g)(l:List Int):decide (0<=x8 g l)=l.any g:=by
 unfold x8;cases h:l.findIdx? g with
 | some i=>have:=Di.1 h;obtain⟨b,a,_⟩:=this;have e:l.any g=true:=j6.2 ⟨_,XK b,a⟩;rw[e];simp
 | none=>
  have:=EV.1 h;have e:l.any g=false:=by rw[Of];intro x hx;simp[this x hx]
  rw[e];decide
def vT(L:List Ql)(a:Int):Bool:=decide (1<QJ ((Qw L a).getD default).ls)
def wW(L:List Ql)(x:Ql):Int:=
 if Vd x≠0 then Vd x
 else if (Qw L x.iD).isNone then 6
 else if x.parent≠((Qw L x.iD).getD default).parent\/x.leaf≠((Qw L x.iD).getD default).leaf then 1
 else if (1<QJ x.ls/\Vs L x.parent=false)\/(¬ 1<QJ x.ls/\(KZ L x.iD).any (vT L)=true) then 29
 else 0
section
variable (h:List Ob)(t m c tb:Nat){es:List ZL}{L:List Ql}(T:VJ es L)
 (ht:(h.map Ob.ro)[t]?=some ⟨.Wp,0,1,1,λ_=>[.mref m 0]⟩) (hm:(h.map Ob.ro)[m]?=some (QT .i64 c es).ro)
 (ZF:(h.map Ob.ro)[tb]?=some ⟨.Wp,0,1,1,λ_=>[.ptr t 0 0 0]⟩)
include T ht hm ZF
theorem Qwe(e):Zl prog 170 h [Qa e,.ptr tb 0 0 0] (λd=>d=QV (vT L e)):=by
 have f:=T.look e;unfold vT;cases i:Qw L e with
 | none=>rw[i,qY]at f;refine ZN func170 ntmps170 results170 λb w j F g l a=>?_;rw[<-g]at ht hm ZF;have o:=Qb ht;have k:=Qb hm;have n:=Qb ZF;simp only[go_sem,ht,hm,ZF,f];apply QZ a wR (wS ⟨0,0,false,⟨0,0,0⟩,⟨0,0,0⟩,⟨0,0,0⟩,0,0⟩);apply Qg a;exact⟨[],(JN F).symm,rfl⟩
 | some x=>rw[i,Kq]at f;refine ZN func170 ntmps170 results170 λb w j F g l a=>?_;rw[<-g]at ht hm ZF;have o:=Qb ht;have k:=Qb hm;have n:=Qb ZF;simp only[go_sem,ht,hm,ZF,f];apply QZ a wR (wS x);apply Qg a;exact⟨[],σ⟩
end
section
variable (h:List Ob)(t m c:Nat){es:List ZL}{L:List Ql}(T:VJ es L)(hlen:L.length<1000000)
 (ht:h[t]?=some ⟨.one,0,1,1,λ_=>[.mref m 0]⟩) (hm:h[m]?=some (QT .i64 c es))
include T ht hm hlen
theorem Qwf(x):QO prog 132 h [.ptr t 0 0 0,Xc x] (λd B=>d=Qa (wW L x)/\Xq h t m (if wW L x=0 then VL L x else L) B):=by
 have k:=T.look x.iD;have j:=Qb ht;have i:=Qb hm;obtain⟨E,s⟩:=Zc (wW L x);rw[<-s];have b:∀g:List Ob,E≠0->Xq h t m (if E=0 then VL L x else L) (h++g):=λg S=>by rw[Qd S];exact Xq.same h t m c ht hm T g
 refine Q9 func132 ntmps132 results132 λM w V a=>?_;have j:=Qb ht;have i:=Qb hm;simp only[go_sem,Qj];apply QZ a Qgk (QgX x);apply Kh a;by_cases l:Vd x=0;case neg=>
  have e:E=Vd x:=by rw[s,wW,Qe l]
  simp only[go_sem,VY l,bne];exact⟨by rw[e],b _ (by rw[e];exact l)⟩
 simp only[go_sem,WQ l,bne];cases r:Qw L x.iD with
 | none=>
  have e:E=6:=by rw[s,wW,Qd (zC l),Qe (by simp[r])]
  rw[r,qY]at k;apply Qy a ol;simp only[go_sem,Qj,ht,hm,j,i,k];exact⟨by rw[e],b _ (by rw[e];decide)⟩
 | some y=>
  rw[r,Kq]at k;have f:E=(if x.parent≠y.parent\/x.leaf≠y.leaf then 1 else if (1<QJ x.ls/\Vs L x.parent=false)\/(¬ 1<QJ x.ls/\(KZ L x.iD).any (vT L)=true) then 29 else 0):=by rw[s,wW,Qd (zC l),Qd (by simp[r]),r];rfl
  by_cases q:x.parent=y.parent;case neg=>
   have e:E=1:=by rw[f,Qe (.inl q)]
   apply Qy a ol;simp only[go_sem,Qj,ht,hm,j,i,k,VY q,bne];exact⟨by rw[e],b _ (by rw[e];decide)⟩
  by_cases u:x.leaf=y.leaf;case neg=>
   have e:E=1:=by rw[f,Qe (.inr u)]
   have C:(x.leaf==y.leaf)=false:=by simpa using u
   apply Qy a ol;simp only[go_sem,Qj,ht,hm,j,i,k,WQ q,bne,C];exact⟨by rw[e],b _ (by rw[e];decide)⟩
  have C:(x.leaf==y.leaf)=true:=by simpa using u
  rw[Qd (by simp[q,u])]at f;apply Qy a ol;simp only[go_sem,Qj,ht,hm,j,i,k,WQ q,bne,C];apply QZ a wR (wS x);apply Kh a;cases z:decide (1<QJ x.ls);have p:¬ 1<QJ x.ls:=by simpa using z
  simp only[go_sem,Qj,Go.undef];apply QZ a wR (wS x);apply Qh a;simp only[go_sem,Qj,z];refine HG a rj rfl ?_ (r6 _ t m c T hlen (XN ht) (XN hm) x.iD) rfl λd g O=>?_;simp only[go_sem];rcases O with ⟨rfl,U⟩|⟨N,Q,H,F,rfl,W,J,P⟩;have e:E=0:=by rw[f,Qd (by rintro (⟨v,_⟩|⟨_,v⟩);exact p v;rw[U]at v;simp at v)]
  apply Kh a;apply ZH a Tw (Qwd _ (.clo 170 0 [.ptr h.length 0 0 0]));apply Qg a;apply Qy a ut;simp only[go_sem,Qj,ht,hm,j,i];rw[Qe e];exact⟨by rw[e],Xq.Q5 h t m c T ht hm x _⟩;apply Qh a;have R:(KZ L x.iD).length<1000000:=by have:=Yg (λy:Ql=>y.parent==x.iD) L;unfold KZ;rw[KJ];omega
  rw[WJ]at J;simp only[go_sem,Qj];apply ZH a Tw (Qwc _ (KZ L x.iD) N Q H F R (Jf J) P (.clo 170 0 [.ptr h.length 0 0 0]) 170 0 [.ptr h.length 0 0 0] QuL rfl (vT L) (λB n hx=>Qwe B t m c h.length T (Jf (hx.get (XN ht))) (Mu (hx.get (XN hm))) (Jf (hx.get (Jf (o:=⟨.one,0,1,1,λ_=>[.ptr t 0 0 0]⟩) (by rw[Vq rfl];rfl)))) n));apply Qh a;simp only[go_sem,gV];cases I:(KZ L x.iD).any (vT L);have e:E=0:=by rw[f,Qd (by rw[I];simp[p])]
  simp only[go_sem];apply Qy a ut;simp only[go_sem,Qj,ht,hm,j,i];rw[Qe e];exact⟨by rw[e],Xq.Q5 h t m c T ht hm x _⟩;have e:E=29:=by rw[f,Qe (.inr ⟨p,I⟩)]
  simp only[go_sem];exact⟨by rw[e],b _ (by rw[e];decide)⟩;have p:1<QJ x.ls:=by simpa using z
  simp only[go_sem,Qj];apply ZH a gp (gP _ t m c T (XN ht) (XN hm) x.parent);apply Qg a;cases K:Vs L x.parent;have e:E=29:=by rw[f,Qe (.inl ⟨p,K⟩)]
  simp only[go_sem,Go.undef];exact⟨by rw[e],b _ (by rw[e];decide)⟩;have e:E=0:=by rw[f,Qd (by rw[K];simp[p])]
  simp only[go_sem,Qj,Go.undef];apply QZ a wR (wS x);apply Qh a;simp only[go_sem,Qj,z,Go.undef];apply Qy a ut;simp only[go_sem,Qj,ht,hm,j,i];rw[Qe e];exact⟨by rw[e],Xq.Q5 h t m c T ht hm x _⟩
end
def Be{L}(h:WD L)(x:Ql)(k):Qw (VL L x) k=if k=x.iD then some x else Qw L k:=by
 have i:=Pu x h;have d:=λc=>(HN x h).mem_iff (a:=c);by_cases b:k=x.iD;rw[Qe b];exact(VK i).2 ⟨(d x).2 σ,b.symm⟩;rw[Qd b];cases f:Qw L k with
 | some c=>obtain⟨l,j⟩:=(VK h).1 f;exact(VK i).2 ⟨(d c).2 (QK.2 (.inr (JB.2 ⟨l,ξ⟩))),j⟩
 | none=>rw[HM]at f ⊢;intro c g;rcases QK.1 ((d c).1 g) with rfl|g;exact λe=>b e.symm;exact f c (JB.1 g).1
def TN{L}(h:WD L)(a k):Qw (WE L a) k=if k=a then none else Qw L k:=by
 have f:=rY a h;by_cases e:k=a;rw[Qe e,HM];intro c d;have:=(JB.1 d).2;simp at this;omega;rw[Qd e];cases b:Qw L k with
 | some c=>obtain⟨i,g⟩:=(VK h).1 b;exact(VK f).2 ⟨JB.2 ⟨i,ξ⟩,g⟩
 | none=>rw[HM]at b ⊢;exact λc d=>b c (JB.1 d).1
def Ends.succ{L}:∀{n:Nat} {id:Int},Ends L n id->Ends L (n+1) id
 | 0,id,h=>by simp only[Ends]at h ⊢;rw[h];trivial
 | n+1,id,h=>by
  rw[Ends]at h ⊢;cases a:Qw L id with
  | none=>trivial
  | some c=>rw[a]at h;exact Ends.succ h
def Ends.le{L n k a}(h:Ends L n a)(c:n<=k):Ends L k a:=by
 induction c with
 | refl=>exact h
 | step _ b=>exact b.succ
def sb{L}:∀{n:Nat} {id:Int},Ends L n id->ZZ L (n+1) id=ZZ L n id
 | 0,id,h=>by simp only[Ends]at h;simp only[ZZ,h]
 | n+1,id,h=>by
  rw[Ends]at h;rw[ZZ]
  conv=>rhs;rw[ZZ]
  cases a:Qw L id with
  | none=>rfl
  | some c=>rw[a]at h;simp only[sb h]
def Qwg{L n k a}(h:Ends L n a)(b:n<=k):ZZ L k a=ZZ L n a:=by
 induction b with
 | refl=>rfl
 | step b c=>rw[sb (h.le b),c]
def Bf{L}:∀{n:Nat} {id:Int},(ZZ L n id).length<=n
 | 0,_=>Qv _
 | n+1,id=>by
  rw[ZZ];cases Qw L id with
  | none=>exact Z7 _
  | some c=>have:=Bf (L:=L) (n:=n) (id:=c.parent);simp only[Kx];omega
def Ends.short{L}:∀{n k:Nat} {id:Int},Ends L n id->(ZZ L n id).length<=k->Ends L k id
 | 0,k,id,h,_=>h.le (Z7 _)
 | n+1,k,id,h,b=>by
  rw[Ends]at h;rw[ZZ]at b;cases a:Qw L id with
  | none=>cases k with
   | zero=>exact a
   | succ k=>rw[Ends,a];trivial
  | some c=>
   rw[a]at h b;simp only[Kx]at b;cases k with
   | zero=>omega
   | succ k=>rw[Ends,a];exact Ends.short h ω
structure TreeInv (L:List Ql):Prop where
 rising:WD L
 ids:∀c∈L,1<=c.iD
 par:∀c∈L,c.parent=0\/(Qw L c.parent).isSome=true
 ends:∀id,Ends L 16 id
def TreeInv.nil:TreeInv []:=⟨by simp[WD],σ,σ,λid=>by simp[Ends,Qw]⟩
def right_id{x:Ql}(h:Vd x=0):1<=x.iD/\x.iD<=65536/\x.parent≠x.iD:=by
 have a:DT x=true:=by
  cases b:DT x with
  | true=>rfl
  | false=>rw[Vd,b]at h;simp at h
 simp[DT,yR]at a;exact⟨a.1.1.1,a.1.1.2,a.2⟩
def gW{L}(h:WD L)(x){k:Int}(a:(Qw L k).isSome=true):(Qw (VL L x) k).isSome=true:=by rw[Be h];split;rfl;exact a
def yS{L}(h:WD L)(x){c}(a:c∈VL L x):c=x\/c∈L:=by rcases QK.1 ((HN x h).mem_iff.1 a) with h1|h1;exact .inl h1;exact .inr (JB.1 h1).1
def TreeInv.add{L}(I:TreeInv L){x:Ql}(m:Vd x=0)(l:Qw L x.iD=none)(k:x.parent=0\/(Qw L x.parent).isSome=true)(o:(ZZ L 16 x.parent).length≠16):TreeInv (VL L x):=by
 obtain⟨j,_,i⟩:=right_id m;have d:∀n id,id≠x.iD->Ends L n id->Ends (VL L x) n id:=by
  intro n;induction n with
  | zero=>intro id b h;rw[Ends]at h ⊢;rw[Be I.rising,Qd b];exact h
  | succ n g=>
   intro id b h;rw[Ends]at h ⊢;rw[Be I.rising,Qd b];cases f:Qw L id with
   | none=>trivial
   | some c=>rw[f]at h;refine g _ ?_ h;rcases I.par c ((VK I.rising).1 f).1 with hp|hp;rw[hp];omega;intro e;rw[e,l]at hp;cases hp
 refine⟨Pu x I.rising,λc a=>?_,λc a=>?_,λid=>?_⟩;rcases yS I.rising x a with rfl|a;exact j;exact I.ids c a;rcases yS I.rising x a with rfl|a;exact k.imp id λh=>gW I.rising c h;exact(I.par c a).imp id λh=>gW I.rising x h;by_cases b:id=x.iD;subst b;rw[Ends,Be I.rising,Qe rfl];refine d 15 _ i ((I.ends x.parent).short ?_);have:=Bf (L:=L) (n:=16) (id:=x.parent);omega;exact d 16 id b (I.ends id)
def TreeInv.del{L}(I:TreeInv L){a}(h:KZ L a=[]):TreeInv (WE L a):=by
 have m:∀c∈L,c.parent≠a:=λc b e=>by
  have:c∈L.filter (λy=>y.parent==a):=JB.2 ⟨b,by simp[e]⟩;have l:(L.filter λy=>y.parent==a)=[]:=by simpa[KZ] using h
  rw[l]at this;simp at this
 refine⟨rY a I.rising,λc b=>I.ids c (JB.1 b).1,λc b=>?_,λid=>?_⟩;have f:=(JB.1 b).1;exact(I.par c f).imp id λj=>by rw[TN I.rising,Qd (m c f)];exact j
 have d:∀n id,Ends L n id->Ends (WE L a) n id:=by
  intro n;induction n with
  | zero=>intro id h;rw[Ends]at h ⊢;rw[TN I.rising];split<;>simp[h]
  | succ n i=>
   intro id h;rw[Ends]at h ⊢;rw[TN I.rising];by_cases g:id=a;rw[Qe g];trivial;rw[Qd g];cases k:Qw L id with
   | none=>trivial
   | some c=>rw[k]at h;exact i _ h
 exact d 16 id (I.ends id)
def TreeInv.set{L}(I:TreeInv L){x y:Ql}(k:Vd x=0)(d:Qw L x.iD=some y)(g:x.parent=y.parent):TreeInv (VL L x):=by
 obtain⟨i,_,l⟩:=right_id k;have e:∀n id,Ends L n id->Ends (VL L x) n id:=by
  intro n;induction n with
  | zero=>intro id h;rw[Ends]at h ⊢;rw[Be I.rising];by_cases b:id=x.iD;subst b;rw[d]at h;cases h;rw[Qd b];exact h
  | succ n f=>
   intro id h;rw[Ends]at h ⊢;rw[Be I.rising];by_cases b:id=x.iD;subst b;rw[Qe rfl];rw[d]at h;show Ends (VL L x) n x.parent;rw[g];exact f _ h;rw[Qd b];cases j:Qw L id with
   | none=>trivial
   | some c=>rw[j]at h;exact f _ h
 refine⟨Pu x I.rising,λc a=>?_,λc a=>?_,λid=>e 16 id (I.ends id)⟩;rcases yS I.rising x a with rfl|a;exact i;exact I.ids c a;rcases yS I.rising x a with rfl|a;rw[g];exact(I.par y ((VK I.rising).1 d).1).imp id λh=>gW I.rising c h;exact(I.par c a).imp id λh=>gW I.rising x h
def up(T:List Ql)(id:Int):List Int:=ZZ T 16 id
structure KF (T:List Ql):Prop extends TreeInv T where
 right:∀c∈T,Vd c=0
 Jz:∀c∈T,c.parent≠0->∃d,Qw T c.parent=some d/\d.leaf=false
 gX:∀c∈T,1<QJ c.ls->c.parent≠0->vT T c.parent=true
 len:T.length<=64
section
variable {T:List Ql}(I:KF T)
include I
theorem gY(a):up T a=match Qw T a with|none=>[]|some c=>a::up T c.parent:=by have b:=sb (I.ends a);unfold up;rw[<-b,ZZ];all_goals (cases Qw T a<;>rfl)
theorem V0{a}{c:Ql}(h:Qw T a=some c):up T a=a::up T c.parent:=by rw[gY I,h]
theorem TO{a}(h:Qw T a=none):up T a=[]:=by rw[gY I,h]
theorem Qwh{a}{c:Ql}(h:Qw T a=some c):c.iD=a:=((VK I.rising).1 h).2
theorem yT{a c}(h:Qw T a=some c):c∈T:=((VK I.rising).1 h).1
theorem FR:Qw T 0=none:=HM.2 λc a e=>by have:=I.ids c a;omega
theorem Mw:up T 0=[]:=TO I (FR I)
omit I in
theorem HP{a j:Int}(h:j∈up T a):(Qw T j).isSome=true:=by
 have:∀n a,j∈ZZ T n a->(Qw T j).isSome=true:=by
  intro n;induction n with
  | zero=>intro a h;cases h
  | succ n d=>
   intro a h;rw[ZZ]at h;cases b:Qw T a with
   | none=>rw[b]at h;cases h
   | some c=>rw[b]at h;rcases QK.1 h with rfl|h;rw[b];rfl;exact d _ h
 exact this 16 a h
theorem TP{a p}(h:p∈up T a):∃l,up T a=l++up T p:=by
 generalize b:(up T a).length=n;induction n using Nat.strongRecOn generalizing a with
 | ind n f=>
  cases d:Qw T a with
  | none=>rw[TO I d]at h;cases h
  | some c=>have e:=V0 I d;rw[e]at h b;rcases QK.1 h with rfl|h;exact⟨[],rfl⟩;obtain⟨l,g⟩:=f _ (by simp only[Kx]at b;omega) h rfl;exact⟨a::l,by rw[e,g];rfl⟩
theorem up_sub{a p q}(h:p∈up T a)(b:q∈up T p):q∈up T a:=by obtain⟨l,e⟩:=TP I h;rw[e];exact Lg _ b
theorem Yp{a c}(h:Qw T a=some c):a∈up T a:=by rw[V0 I h];simp
theorem TQ(a:Int):(up T a).Nodup:=by
 generalize b:(up T a).length=n;induction n using Nat.strongRecOn generalizing a with
 | ind n f=>
  cases d:Qw T a with
  | none=>rw[TO I d];simp
  | some c=>have e:=V0 I d;rw[e]at b ⊢;rw[Z6];refine⟨λh=>?_,f _ (by simp only[Kx]at b;omega) _ rfl⟩;obtain⟨l,g⟩:=TP I h;have:=congrArg List.length g;rw[e]at this;simp only[Zn,Kx]at this;omega
theorem gZ{a p}(h:p∈up T a)(m:a≠p):∃i c,i∈up T a/\Qw T i=some c/\c.parent=p:=by
 generalize f:(up T a).length=n;induction n using Nat.strongRecOn generalizing a with
 | ind n j=>
  cases b:Qw T a with
  | none=>rw[TO I b]at h;cases h
  | some c=>have e:=V0 I b;rw[e]at h f;rcases QK.1 h with rfl|h;exact absurd rfl m;by_cases g:c.parent=p;exact⟨a,c,by rw[e];simp,b,g⟩;obtain⟨i,d,l,k⟩:=j _ (by simp only[Kx]at f;omega) h g rfl;exact⟨i,d,by rw[e];simp[l],k⟩
theorem Qwi{a i j}{c d:Ql}(o:i∈up T a)(n:j∈up T a)(g:Qw T i=some c)(f:Qw T j=some d)(e:c.parent=d.parent):i=j:=by
 obtain⟨l,k⟩:=TP I o;obtain⟨m,h⟩:=TP I n;have s:=congrArg List.length (V0 I g);have r:=congrArg List.length (V0 I f);have q:(up T i).length=(up T j).length:=by rw[s,r,e];rfl
 have p:=k.symm.trans h;obtain⟨_,b⟩:=List.append_inj' p q;rw[V0 I g,V0 I f]at b;exact(xF b).1
def JE(T:List Ql)(A:List Int)(b:Int):Bool:=A.any λa=>(up T a).contains b
omit I in
theorem zz{A b}:JE T A b=true↔∃a∈A,b∈up T a:=by simp[JE]
def z7(T:List Ql)(A:List Int)(p i:Int):Bool:=(match Qw T i with|some c=>c.parent==p|none=>false)&&JE T A i
omit I in
theorem ya{A p i}:z7 T A p i=true↔∃c,Qw T i=some c/\c.parent=p/\JE T A i=true:=by
 unfold z7;cases Qw T i with
 | none=>simp
 | some c=>simp
def yU(T:List Ql)(A:List Int):Prop:=∀a∈A,∃c,Qw T a=some c/\c.leaf=true/\1<QJ c.ls
theorem Mx{A i p}(h:JE T A i=true)(b:p∈up T i):JE T A p=true:=by obtain⟨a,d,c⟩:=zz.1 h;exact zz.2 ⟨a,d,up_sub I c b⟩
theorem Qhf{A}(o:yU T A){p}{d:Ql}(b:Qw T p=some d)(g:d.leaf=false):JE T A p=true↔∃i,z7 T A p i=true:=by
 constructor;intro h;obtain⟨a,j,l⟩:=zz.1 h;obtain⟨c,f,e,k⟩:=o a j;have t:a≠p:=by rintro rfl;rw[f]at b;cases b;rw[e]at g;cases g
 obtain⟨i,c,s,r,q⟩:=gZ I l t;exact⟨i,ya.2 ⟨c,r,q,zz.2 ⟨a,j,s⟩⟩⟩;rintro⟨i,n⟩;obtain⟨c,f,e,k⟩:=ya.1 n;have m:p∈up T i:=by rw[V0 I f,e];exact Js _ (Yp I b)
 exact Mx I k m
def XO(T:List Ql)(A:List Int)(a:Int):List Int:=(up T a).takeWhile λi=>!JE T A i
theorem Qhg{b}{c:Ql}(h:Qw T b=some c)(j:1<QJ c.ls):∀i∈up T b,∃d,Qw T i=some d/\1<QJ d.ls:=by
 generalize k:(up T b).length=n;induction n using Nat.strongRecOn generalizing b c with
 | ind n m=>have e:=V0 I h;rw[e]at k ⊢;intro i a;rcases QK.1 a with rfl|a;exact⟨c,h,j⟩;by_cases f:c.parent=0;rw[f,Mw I]at a;cases a;obtain⟨d,l,_⟩:=I.Jz c (yT I h) f;have g:=I.gX c (yT I h) j f;unfold vT at g;rw[l]at g;exact m _ (by simp only[Kx]at k;omega) l (zC g) rfl i a
end
section
variable {T:List Ql}(I:KF T)
def kE(T:List Ql)(A:List Int)(a:List Int)(p i:Int):Bool:=z7 T A p i || (a.contains i&&(match Qw T i with|some c=>c.parent==p|none=>false))
def vU(T:List Ql)(A:List Int)(a:List Int)(p i:Int):Bool:=z7 T A p i&&!a.contains i
include I
theorem TR{A a p i}:kE T A a p i=true↔z7 T A p i=true\/(i∈a/\∃c,Qw T i=some c/\c.parent=p):=by
 unfold kE;cases Qw T i with
 | none=>simp
 | some c=>simp
theorem Qwj{a i l m}{c:Ql}(h:up T a=l++i::m)(p:Qw T i=some c):m=up T c.parent:=by
 have j:i∈up T a:=by rw[h];simp
 obtain⟨b,g⟩:=TP I j;rw[V0 I p]at g;have d:=TQ I a;have e:=h.symm.trans g;have f:=d;rw[h]at d;rw[g]at f;have q:l=b:=by
  have n:∀x∈l,x≠i:=λx hx e=>by subst e;rw[Ka]at d;exact d.2.2 x hx x σ rfl
  have k:∀x∈b,x≠i:=λx hx e=>by subst e;rw[Ka]at f;exact f.2.2 x hx x σ rfl
  clear h g d f j;induction l generalizing b with
  | nil=>cases b with
   | nil=>rfl
   | cons y b=>simp only[qv,qs,Lc]at e;exact absurd e.1.symm (k y σ)
  | cons x l o=>cases b with
   | nil=>simp only[qv,qs,Lc]at e;exact absurd e.1 (n x σ)
   | cons y b=>simp only[qs,Lc]at e;rw[e.1,o b e.2 (λx hx=>n x (by simp[hx])) (λx hx=>k x (by simp[hx]))]
 subst q;have:=List.append_cancel_left e;exact(xF this).2
theorem Qwk{A}(r:yU T A){b e k c}(f:up T b=k++up T e)(j:Qw T e=some c)(q:∀i∈k++[e],JE T A i=false):
  (∃i,kE T A k c.parent i=true)↔∃i,z7 T A c.parent i=true:=by
 constructor;rintro⟨i,g⟩;rcases (TR I).1 g with h|⟨m,d,o,n⟩;exact⟨i,h⟩;exfalso;have p:i=e:=Qwi I (a:=b) (by rw[f];simp[m]) (by rw[f];exact Lg _ (Yp I j)) o j n;subst p;have l:=TQ I b;rw[f,Ka]at l;exact l.2.2 i m i (Yp I j) rfl;rintro⟨i,g⟩;exact⟨i,(TR I).2 (.inl g)⟩
theorem Qwl{A dn e}{c:Ql}(f:Qw T e=some c)(p i):kE T A (dn++[e]) p i=if p=c.parent/\i=e then true else kE T A dn p i:=by rw[wz,TR I];split;rename_i h;obtain⟨rfl,rfl⟩:=h;simp[f];rename_i h;rw[TR I];constructor;rintro (h1|⟨h1,d,b,a⟩);exact .inl h1;rcases Q3.1 h1 with h1|h1;exact .inr ⟨h1,d,b,a⟩;simp only[Xj]at h1;subst h1;rw[b]at f;cases f;exact absurd ⟨a.symm,rfl⟩ h;rintro (h1|⟨h1,d,b,a⟩);exact .inl h1;exact .inr ⟨GZ _ h1,d,b,a⟩
omit I in
theorem Qwm(T A p i):kE T A [] p i=z7 T A p i:=by simp[kE]
theorem Qwn{A}(y:yU T A){a g k}{c:Ql}(r:up T a=k++up T g)(v:Qw T g=some c)(t:∀i∈k++[g],JE T A i=false)(he:c.parent=0\/JE T A c.parent=true):
  k++[g]=XO T A a/\∀p i,kE T A (k++[g]) p i=z7 T (a::A) p i:=by
 have l:up T a=(k++[g])++up T c.parent:=by rw[r,V0 I v];simp
 have o:∀j∈up T c.parent,JE T A j=true:=λj n=>by rcases he with he|he;rw[he,Mw I]at n;cases n;exact Mx I he n
 refine⟨?_,λp i=>?_⟩;unfold XO;rw[l,List.takeWhile_append_of_pos (λi u=>by rw[t i u];rfl)];have:(up T c.parent).takeWhile (λi=>!JE T A i)=[]:=by
  cases s:up T c.parent with
  | nil=>rfl
  | cons x q=>rw[cr,o x (by rw[s];simp)];rfl
 rw[this,JN];rw[wz,TR I,ya (A:=a::A)];have m:∀j,JE T (a::A) j=true↔j∈up T a\/JE T A j=true:=λj=>by rw[zz,zz];simp
 constructor;rintro (h|⟨w,d,f,e⟩);obtain⟨d,f,e,b⟩:=ya.1 h;exact⟨d,f,e,(m i).2 (.inr b)⟩;exact⟨d,f,e,(m i).2 (.inl (by rw[l];exact GZ _ w))⟩;rintro⟨d,f,e,b⟩;rcases (m i).1 b with b|b;rw[l]at b;rcases Q3.1 b with b|b;exact .inr ⟨b,d,f,e⟩;exact .inl (ya.2 ⟨d,f,e,o i b⟩);exact .inl (ya.2 ⟨d,f,e,b⟩)
end
def Kj(A:List Int)(b:Int):List Int:=A.filter λa=>a != b
section
variable {T:List Ql}(I:KF T)
def My{A b}(e:b∈A)(j):JE T A j=true↔j∈up T b\/JE T (Kj A b) j=true:=by rw[zz,zz];constructor;rintro⟨a,d,c⟩;by_cases h:a=b;subst h;exact .inl c;exact .inr ⟨a,JB.2 ⟨d,by simpa using h⟩,c⟩;rintro (h|⟨a,d,c⟩);exact⟨b,e,h⟩;exact⟨a,(JB.1 d).1,c⟩
def yU.off{A}(h:yU T A)(b):yU T (Kj A b):=λa c=>h a (JB.1 c).1
def Pz{A a p i}:vU T A a p i=true↔z7 T A p i=true/\i ∉ a:=by simp[vU]
include I
theorem Qhh{A}(F:yU T A){b j}(u:b∈A){l}{c:Ql}(B:up T b=l++up T j)(v:Qw T j=some c)(C:∀i∈l++[j],JE T (Kj A b) i=false)(J:c.parent≠0):
  (∃i,vU T A (l++[j]) c.parent i=true)↔JE T (Kj A b) c.parent=true:=by
 have x:up T b=(l++[j])++up T c.parent:=by rw[B,V0 I v];simp
 obtain⟨d,m,s⟩:=I.Jz c (yT I v) J;constructor;rintro⟨i,E⟩;obtain⟨r,q⟩:=Pz.1 E;obtain⟨e,p,k,o⟩:=ya.1 r;have z:c.parent∈up T i:=by rw[V0 I p,k];exact Js _ (Yp I m)
 rcases (My u i).1 o with g|g;exfalso;rw[x]at g;rcases Q3.1 g with g|g;exact q g;have t:=TQ I i;rw[V0 I p,k,Z6]at t;exact t.1 g;exact Mx I g z;intro h;obtain⟨a,w,y⟩:=zz.1 h;obtain⟨e,r,q,p⟩:=F.off b a w;have K:a≠c.parent:=by rintro rfl;rw[r]at m;cases m;rw[q]at s;cases s
 obtain⟨i,f,k,o,g⟩:=gZ I y K;have n:JE T (Kj A b) i=true:=zz.2 ⟨a,w,k⟩;refine⟨i,Pz.2 ⟨ya.2 ⟨f,o,g,(My u i).2 (.inr n)⟩,λH=>?_⟩⟩;rw[C i H]at n;cases n
theorem Qwo{A a e}(r:a∈A){g}{c:Ql}(t:up T a=g++up T e)(w:Qw T e=some c)(o:∀i∈g++[e],JE T (Kj A a) i=false)(he:c.parent=0\/JE T (Kj A a) c.parent=true):
  g++[e]=XO T (Kj A a) a/\∀p i,vU T A (g++[e]) p i=z7 T (Kj A a) p i:=by
 have n:up T a=(g++[e])++up T c.parent:=by rw[t,V0 I w];simp
 have s:∀j∈up T c.parent,JE T (Kj A a) j=true:=λj h=>by rcases he with he|he;rw[he,Mw I]at h;cases h;exact Mx I he h
 refine⟨?_,λp i=>?_⟩;unfold XO;rw[n,List.takeWhile_append_of_pos (λi v=>by rw[o i v];rfl)];have:(up T c.parent).takeWhile (λi=>!JE T (Kj A a) i)=[]:=by
  cases u:up T c.parent with
  | nil=>rfl
  | cons x q=>rw[cr,s x (by rw[u];simp)];rfl
 rw[this,JN];rw[wz,Pz,ya,ya];constructor;rintro⟨⟨d,m,l,f⟩,k⟩;refine⟨d,m,l,?_⟩;rcases (My r i).1 f with b|b;rw[n]at b;rcases Q3.1 b with b|b;exact absurd b k;exact s i b;exact b;rintro⟨d,m,l,f⟩;refine⟨⟨d,m,l,(My r i).2 (.inr f)⟩,λk=>?_⟩;rw[o i k]at f;cases f
end
def u64(n:Nat):D:=.raw (.int .u64 n)
theorem wl0:IntKind.i64.wrap 0=0:=π
theorem wl1:IntKind.i64.wrap 1=1:=π
theorem wl2:IntKind.i64.wrap 2=2:=π
theorem wl3:IntKind.i64.wrap 3=3:=π
theorem wl4:IntKind.i64.wrap 4=4:=π
attribute[go_sem]u64 wl0 wl1 wl2 wl3 wl4
def never:Nat:=9223372036854775808
attribute [go_sem] Go.undef
def Cr(a b:Nat):IntKind.u64.wrap ((a:Int)+(b:Int))=(((a+b)%18446744073709551616:Nat):Int):=κ
def Mz(a b:Nat):IntKind.u64.wrap ((a:Int)*(b:Int))=((a*b%18446744073709551616:Nat):Int):=by rw[IntKind.wrap_u64,<-zO];omega
def sg(a b:Nat)(h:b<=18446744073709551616):IntKind.u64.wrap ((a:Int)-(b:Int))=(((a+18446744073709551616-b)%18446744073709551616:Nat):Int):=κ
def TS(a b:Nat)(h:b<=a)(c:a<18446744073709551616):IntKind.u64.wrap ((a:Int)-(b:Int))=((a-b:Nat):Int):=κ
def Qhi(a b:Nat)(h:a+b<18446744073709551616):IntKind.u64.wrap ((a:Int)+(b:Int))=((a+b:Nat):Int):=κ
def TU(a b:Nat)(h:a*b<18446744073709551616):IntKind.u64.wrap ((a:Int)*(b:Int))=((a*b:Nat):Int):=by rw[Mz,kg h]
def MA(a s:Nat):((a:Int).fdiv (2^s))=((a/2^s:Nat):Int):=by have h:((2:Int)^s)=((2^s:Nat):Int):=σ;rw[h,Int.fdiv_eq_ediv_of_nonneg _ (ES _),Int.natCast_ediv]
def Qwp(a:Nat)(b:a<18446744073709551616):bits .and .u64 (a:Int) 4294967295=((a%4294967296:Nat):Int):=by have:=u64_and_nat a 4294967295 b π;rw[show ((4294967295:Nat):Int)=4294967295 from rfl]at this;rw[this,show (4294967295:Nat)=2^32-1 from rfl,Nat.and_two_pow_sub_one_eq_mod]
def Qwq(x y:Nat)(b:x<4294967296)(a:y<4294967296):bits .or .u64 ((x*4294967296:Nat):Int) (y:Int)=((x*4294967296+y:Nat):Int):=by rw[u64_or_nat _ _ ω ω,nat_join 32 _ _ (by rw[show (2:Nat)^32=4294967296 from rfl];omega) (zC a)]
def PA(a)(b:a<18446744073709551616):a/9223372036854775808=0\/a/9223372036854775808=1:=ω
def ie(a b)(d:a<18446744073709551616)(c:b<18446744073709551616):(a &&& b)/9223372036854775808=(a/9223372036854775808) &&& (b/9223372036854775808):=by rw[show (9223372036854775808:Nat)=2^63 from rfl,<-E0,Nat.shiftRight_and_distrib,E0,E0]
def si(a b)(d:a<18446744073709551616)(c:b<18446744073709551616):(a ||| b)/9223372036854775808=(a/9223372036854775808) ||| (b/9223372036854775808):=by rw[show (9223372036854775808:Nat)=2^63 from rfl,<-E0,Nat.shiftRight_or_distrib,E0,E0]
def sj(a b)(d:a<18446744073709551616)(c:b<18446744073709551616):(a ^^^ b)/9223372036854775808=(a/9223372036854775808) ^^^ (b/9223372036854775808):=by rw[show (9223372036854775808:Nat)=2^63 from rfl,<-E0,Nat.shiftRight_xor_distrib,E0,E0]
def Qwr(a b c x y z u v)(i:a<18446744073709551616)(h:b<18446744073709551616)(k:c<2)(j:u=(a+18446744073709551616-b+18446744073709551616-c)%18446744073709551616)
  (g:x=a/9223372036854775808) (f:y=b/9223372036854775808) (e:z=u/9223372036854775808) (d:v=(1 ^^^ x) &&& y ||| ((1 ^^^ (x ^^^ y)) &&& z)):v=if a<b+c then 1 else 0:=by
 have h1:=PA a i;have h2:=PA b h;have h3:=PA u ω;rw[<-g]at h1;rw[<-f]at h2;rw[<-e]at h3;rcases h1 with h1|h1<;>rcases h2 with h2|h2<;>rcases h3 with h3|h3<;>(rw[h1,h2,h3]at d;simp at d;subst d;split<;>omega)
def Qws(a b c x y z u v)(i:a<18446744073709551616)(h:b<18446744073709551616)(k:c<2)(j:u=(a+b+c)%18446744073709551616)
  (g:x=a/9223372036854775808) (f:y=b/9223372036854775808) (e:z=u/9223372036854775808) (d:v=x &&& y ||| ((x ||| y) &&& (1-z))):v=if 18446744073709551616<=a+b+c then 1 else 0:=by
 have h1:=PA a i;have h2:=PA b h;have h3:=PA u ω;rw[<-g]at h1;rw[<-f]at h2;rw[<-e]at h3;rcases h1 with h1|h1<;>rcases h2 with h2|h2<;>rcases h3 with h3|h3<;>(rw[h1,h2,h3]at d;simp at d;subst d;split<;>omega)
end Go.Fg.X
namespace Go.Fg.X
open Go.Proofs Go.Fg
structure It where
 ka:Nat
 ki:Int
 va:Nat
 vi:Int
deriving DecidableEq
instance:Inhabited It:=⟨⟨0,0,0,0⟩⟩
@[go_sem] def It.cells(x:It):List D:=[u64 x.ka,Qa x.ki,u64 x.va,Qa x.vi]
def KA(a:Nat)(i:Int)(b:Nat)(j:Int):Prop:=a<b\/(a=b/\i<j)
instance (a:Nat) (i:Int) (b:Nat) (j:Int):Decidable (KA a i b j):=inferInstanceAs (Decidable (_\/_))
def It.lt(x y:It):Prop:=KA x.ka x.ki y.ka y.ki
instance (x y:It):Decidable (x.lt y):=inferInstanceAs (Decidable (KA _ _ _ _))
def z8(a:Nat)(i:Int)(b:Nat)(j:Int):Int:=if a=b/\i=j then 0 else if KA a i b j then -1 else 1
def kF(a b:It):It:=if z8 b.va b.vi a.va a.vi<0\/(z8 b.va b.vi a.va a.vi=0/\z8 b.ka b.ki a.ka a.ki<0) then b else a
inductive Tr where
 | nil
 | node (loc:Nat) (it:It) (l r:Tr)
deriving Inhabited
namespace Tr
def list:Tr->List It
 | .nil=>[]
 | .node _ a l r=>l.list++a::r.list
def QQ:Tr->List Nat
 | .nil=>[]
 | .node a _ l r=>a::(l.QQ++r.QQ)
def high:Tr->Nat
 | .nil=>0
 | .node _ _ l r=>1+max l.high r.high
def size:Tr->Nat
 | .nil=>0
 | .node _ _ l r=>1+l.size+r.size
def ptr:Tr->D
 | .nil=>.raw (.pointer none)
 | .node a _ _ _=>.ptr a 0 0 0
theorem TV:Tr.nil.ptr=.raw (.pointer none):=rfl
theorem MB(a b)(l r:Tr):(Tr.node a b l r).ptr=.ptr a 0 0 0:=rfl
theorem QJw(t:Tr):YA t.ptr=some [t.ptr]:=by cases t<;>rfl
attribute[go_sem]TV MB QJw
@[go_sem] theorem QJx(t:Tr):Ym t.ptr t.ptr=True:=by cases t<;>simp[Ym,ptr]
def least:Tr->It
 | .nil=>default
 | .node _ e l r=>match l,r with
  | .nil,.nil=>e
  | .nil,.node a b c d=>kF e (least (.node a b c d))
  | .node a b c d,.nil=>kF e (least (.node a b c d))
  | .node a b c d,.node i h g f=>kF (kF e (least (.node a b c d))) (least (.node i h g f))
def Ct:∀t:Tr,t.list.length=t.size
 | .nil=>rfl
 | .node _ _ l r=>by simp only[list,size,Zn,Kx,Ct l,Ct r];omega
def PB:∀t:Tr,t.high<=t.size
 | .nil=>Qv _
 | .node _ _ l r=>by have:=PB l;have:=PB r;simp only[high,size];omega
end Tr
@[go_sem] def Qwt(b:It)(p q:D)(a:It)(c n:Int):List D:=[u64 b.ka,Qa b.ki,u64 b.va,Qa b.vi,p,q,u64 a.ka,Qa a.ki,u64 a.va,Qa a.vi,Qa c,Qa n]
@[go_sem] def FT(b:It)(p q:D)(a:It)(c n:Int):Ob:=⟨.one,0,12,1,λ_=>Qwt b p q a c n⟩
def Vx(h:List Ob):Tr->Prop
 | .nil=>True
 | .node a b l r=>h[a]?=some (FT b l.ptr r.ptr (Tr.node a b l r).least ((Tr.node a b l r).high:Nat) ((Tr.node a b l r).size:Nat))/\Vx h l/\Vx h r
def Vx.frame{h b:List Ob}:∀{t:Tr},Vx h t->(∀l∈t.QQ,b[l]? = h[l]?)->Vx b t
 | .nil,_,_=>trivial
 | .node a g l r,⟨f,d,c⟩,e=>⟨by rw[e a (by simp[Tr.QQ])];exact f,d.frame λx hx=>e x (by simp[Tr.QQ,hx]),c.frame λx hx=>e x (by simp[Tr.QQ,hx])⟩
def Vx.lt{h:List Ob}:∀{t:Tr},Vx h t->∀l∈t.QQ,l<h.length
 | .nil,_,l,a=>by cases a
 | .node e f l r,⟨d,c,b⟩,x,hx=>by simp only[Tr.QQ,QK,Q3]at hx;rcases hx with rfl|hx|hx;exact KL d;exact c.lt x hx;exact b.lt x hx
def jC(h:List Ob):Tr->Prop
 | .nil=>True
 | .node a b l r=>(h.map Ob.ro)[a]?=some (FT b l.ptr r.ptr (Tr.node a b l r).least ((Tr.node a b l r).high:Nat) ((Tr.node a b l r).size:Nat)).ro/\jC h l/\jC h r
def Vx.toR{h}:∀{t:Tr},Vx h t->jC h t
 | .nil,_=>trivial
 | .node _ _ _ _,⟨c,b,a⟩=>⟨Jf c,b.toR,a.toR⟩
def jC.more{h h':List Ob}(e:∀(l:Nat) (o:Ob),(h.map Ob.ro)[l]?=some o->(h'.map Ob.ro)[l]?=some o):∀{t:Tr},jC h t->jC h' t
 | .nil,_=>trivial
 | .node _ _ _ _,⟨c,b,a⟩=>⟨e _ _ c,b.more e,a.more e⟩
def HQ{h F g:List Ob}(b:F=h.map Ob.ro)(l:Nat)(o:Ob)(e:(h.map Ob.ro)[l]?=some o):((F++g).map Ob.ro)[l]?=some o:=by
 subst b;have c:l<(h.map Ob.ro).length:=KL e;rw[zP,JX (zC c),Dj];rw[KR]at e ⊢;cases a:h[l]? with
 | none=>rw[a]at e;cases e
 | some u=>rw[a]at e;cases e;simp[ro_ro]
structure kG (h:List Ob) (t:Tr) (L:List It) (h':List Ob) (t':Tr):Prop where
 is:Vx h' t'
 list:t'.list=L
 nd:t'.QQ.Nodup
 mem:∀l∈t'.QQ,l∈t.QQ\/h.length<=l
 keep:∀l,l<h.length->l ∉ t.QQ->h'[l]? = h[l]?
 len:h.length<=h'.length
def kG.refl{h}{t:Tr}(i:Vx h t)(n:t.QQ.Nodup):kG h t t.list h t:=⟨i,rfl,n,λ_ h=>.inl h,λ_ _ _=>rfl,Qv _⟩
def kG.trans{h h' f t e c L i}(a:kG h t L h' e)(b:kG h' e i f c):kG h t i f c:=
 ⟨b.is,b.list,b.nd,λl d=>by
  rcases b.mem l d with h1|h1;exact a.mem l h1;exact .inr (J5 a.len h1),λl d g=>by
  rw[b.keep l (wB d a.len) λh1=>by rcases a.mem l h1 with h2|h2;exact g h2;omega]
  exact a.keep l d g,J5 a.len b.len⟩
def It.qG(x y:It):Prop:=KA x.va x.vi y.va y.vi\/(x.va=y.va/\x.vi=y.vi/\KA x.ka x.ki y.ka y.ki)
instance (x y:It):Decidable (x.qG y):=inferInstanceAs (Decidable (_\/_))
def Cu(a i):¬ KA a i a i:=by unfold KA;omega
def HS{a i b j c k}(h:KA a i b j)(d:KA b j c k):KA a i c k:=by unfold KA at *;omega
def PC(a i b j):KA a i b j\/(a=b/\i=j)\/KA b j a i:=by unfold KA;omega
def ss{a i b j}:z8 a i b j<0↔KA a i b j:=by unfold z8;by_cases h:a=b/\i=j;rw[Qe h];obtain⟨rfl,rfl⟩:=h;exact⟨λh=>ω,λh=>absurd h (Cu _ _)⟩;rw[Qd h];by_cases c:KA a i b j;rw[Qe c];exact⟨λ_=>c,λ_=>ω⟩;rw[Qd c];exact⟨λh=>ω,λh=>absurd h c⟩
def Qhj{a i b j}:z8 a i b j=0↔a=b/\i=j:=by unfold z8;by_cases h:a=b/\i=j;rw[Qe h];exact⟨λ_=>h,λ_=>rfl⟩;rw[Qd h];by_cases d:KA a i b j;rw[Qe d];exact⟨λh=>ω,λc=>absurd c h⟩;rw[Qd d];exact⟨λh=>ω,λc=>absurd c h⟩
def Qwu{a i b j}:0<z8 a i b j↔KA b j a i:=by
 have e:=@ss a i b j;have d:=@Qhj a i b j;have h3:=PC a i b j;constructor;intro h;rcases h3 with h3|h3|h3;have:=e.2 h3;omega;have:=d.2 h3;omega;exact h3;intro h;have g:¬ z8 a i b j<0:=λc=>Cu _ _ (HS h (e.1 c));have f:¬ z8 a i b j=0:=λc=>by obtain⟨rfl,rfl⟩:=d.1 c;exact Cu _ _ h
 omega
def Qhk(a b:It):kF a b=if b.qG a then b else a:=by
 have h:(z8 b.va b.vi a.va a.vi<0\/(z8 b.va b.vi a.va a.vi=0/\z8 b.ka b.ki a.ka a.ki<0))↔b.qG a:=by rw[ss,Qhj,ss,It.qG,and_assoc]
 unfold kF;by_cases c:b.qG a;rw[Qe (h.2 c),Qe c];rw[Qd (λd=>c (h.1 d)),Qd c]
def TW(a:It):¬ a.qG a:=λh=>by rcases h with h|⟨_,_,h⟩<;>exact Cu _ _ h
def Qhl{a b c:It}(h:a.qG b)(d:b.qG c):a.qG c:=by rcases h with h|⟨i,g,h⟩<;>rcases d with d|⟨f,e,d⟩;exact .inl (HS h d);exact .inl (by rw[<-f,<-e];exact h);exact .inl (by rw[i,g];exact d);exact .inr ⟨i.trans f,g.trans e,HS h d⟩
def Qhm(a b:It):a.qG b\/a=b\/b.qG a:=by rcases PC a.va a.vi b.va b.vi with h|⟨d,c⟩|h;exact .inl (.inl h);rcases PC a.ka a.ki b.ka b.ki with h|⟨f,e⟩|h;exact .inl (.inr ⟨d,c,h⟩);refine .inr (.inl ?_);cases a;cases b;simp_all;exact .inr (.inr (.inr ⟨d.symm,c.symm,h⟩));exact .inr (.inr (.inl h))
def Qhn(a b:It):(kF a b=a/\¬ b.qG a)\/(kF a b=b/\b.qG a):=by rw[Qhk];by_cases h:b.qG a;rw[Qe h];exact .inr ⟨rfl,h⟩;rw[Qd h];exact .inl ⟨rfl,h⟩
def Qwv(a b:It):¬ a.qG (kF a b)/\¬ b.qG (kF a b):=by rcases Qhn a b with ⟨e,h⟩|⟨e,h⟩<;>rw[e];exact⟨TW _,h⟩;exact⟨λc=>TW _ (Qhl h c),TW _⟩
structure Wa (x:It) (L:List It):Prop where
 mem:x∈L
 le:∀y∈L,¬ y.qG x
def Wa.uniq{x y L}(a:Wa x L)(b:Wa y L):x=y:=by rcases Qhm x y with h|h|h;exact absurd h (b.le x a.mem);exact h;exact absurd h (a.le y b.mem)
def Wa.one(x):Wa x [x]:=⟨σ,λy a=>by simp only[Xj]at a;subst a;exact TW _⟩
def Wa.join{x y L M}(a:Wa x L)(b:Wa y M):Wa (kF x y) (L++M):=by
 obtain⟨i,f⟩:=Qwv x y;have d:∀{p q r:It},¬ p.qG q->¬ q.qG r->¬ p.qG r:=λ{p q r} h f g=>by rcases Qhm q p with c|c|c;exact f (Qhl c g);subst c;exact f g;exact h c
 refine⟨?_,λz hz=>?_⟩;rcases Qhn x y with ⟨e,_⟩|⟨e,_⟩<;>rw[e];exact GZ _ a.mem;exact Lg _ b.mem;rcases Q3.1 hz with hz|hz;exact d (a.le z hz) i;exact d (b.le z hz) f
def Wa.perm{x:It}{L M}(a:Wa x L)(h:∀y,y∈M↔y∈L):Wa x M:=⟨(h x).2 a.mem,λy b=>a.le y ((h y).1 b)⟩
def Tr.PD:∀(t:Tr),t≠.nil->Wa t.least t.list
 | .nil,h=>absurd rfl h
 | .node _ e .nil .nil,_=>Wa.one e
 | .node _ e .nil (.node a b c d),_=>by have:=Tr.PD (.node a b c d) σ;exact((Wa.one e).join this).perm λy=>by simp[Tr.list]
 | .node _ e (.node a b c d) .nil,_=>by have:=Tr.PD (.node a b c d) σ;exact((Wa.one e).join this).perm λy=>by simp[Tr.list];constructor<;>(intro h;rcases h with h|h|h|h<;>simp[h])
 | .node _ e (.node a b c d) (.node l k j i),_=>by have g:=Tr.PD (.node a b c d) σ;have f:=Tr.PD (.node l k j i) σ;refine(((Wa.one e).join g).join f).perm λy=>?_;simp only[Tr.list,Q3,QK];grind
end Go.Fg.X
namespace Go.Fg.X
open Go.Proofs Go.Fg
open Go.Proofs.Tryz
def Vy(L:List It):Prop:=L.Pairwise It.lt
def It.lt_trans{a b c:It}(h:a.lt b)(d:b.lt c):a.lt c:=HS h d
def FU{L M}{x:It}:Vy (L++x::M)↔Vy L/\Vy M/\(∀y∈L,y.lt x)/\(∀y∈M,x.lt y):=by unfold Vy;rw[bY,AD];constructor;rintro⟨g,⟨f,d⟩,c⟩;exact⟨g,d,λy i=>c y i x σ,f⟩;rintro⟨g,f,d,c⟩;refine⟨g,⟨c,f⟩,λa h b e=>?_⟩;rcases QK.1 e with rfl|e;exact d a h;exact It.lt_trans (d a h) (c b e)
def Cw(a:Nat)(i:Int)(x:It):Bool:=x.ka==a&&x.ki==i
def Y3(a:Nat)(i:Int)(L:List It):Option It:=L.find? (Cw a i)
def YF(x:It):List It->List It
 | []=>[x]
 | y::r=>if y.lt x then y::YF x r else x::y::r
def XP(a:Nat)(i:Int)(L:List It):List It:=L.filter λx=>!Cw a i x
def yd{a i}{x:It}:Cw a i x=true↔x.ka=a/\x.ki=i:=by simp[Cw]
def Qhp(a i L M x)(m:Vy (L++x::M)):
  Y3 a i (L++x::M)=if x.ka=a/\x.ki=i then some x else if KA x.ka x.ki a i then Y3 a i M else Y3 a i L:=by
 obtain⟨_,_,o,n⟩:=FU.1 m;unfold Y3;rw[List.find?_append,vm];have k:(x.ka=a/\x.ki=i)\/KA x.ka x.ki a i->L.find? (Cw a i)=none:=λh=>by rw[j7];intro y f d;obtain⟨j,g⟩:=yd.1 d;have b:KA y.ka y.ki x.ka x.ki:=o y f;rw[j,g]at b;rcases h with ⟨rfl,rfl⟩|h;exact Cu _ _ b;exact Cu _ _ (HS h b)
 have l:KA a i x.ka x.ki->M.find? (Cw a i)=none:=λh=>by rw[j7];intro y f d;obtain⟨j,g⟩:=yd.1 d;have b:KA x.ka x.ki y.ka y.ki:=n y f;rw[j,g]at b;exact Cu _ _ (HS h b)
 by_cases c:x.ka=a/\x.ki=i;rw[Qe c,yd.2 c,k (.inl c)];rfl;have d:Cw a i x=false:=by rw[jZ];exact λh=>c (yd.1 h)
 rw[Qd c,d];by_cases e:KA x.ka x.ki a i;rw[Qe e,k (.inr e)];rfl;rw[Qd e,l (by rcases PC x.ka x.ki a i with h|h|h;exact absurd h e;exact absurd h c;exact h)];simp
def Qww(y:It)(L M)(x:It)(d:Vy (L++x::M))(e:¬ (x.ka=y.ka/\x.ki=y.ki)):
  YF y (L++x::M)=if x.lt y then L++x::YF y M else YF y L++x::M:=by
 obtain⟨_,_,a,f⟩:=FU.1 d;by_cases h:x.lt y;rw[Qe h];have:∀l:List It,(∀z∈l,z.lt y)->YF y (l++x::M)=l++x::YF y M:=by
  intro l a;induction l with
  | nil=>simp only[qv,YF,Qe h]
  | cons z l b=>simp only[qs,YF,Qe (a z σ),b λw c=>a w (by simp[c])]
 exact this L λz hz=>It.lt_trans (a z hz) h;rw[Qd h];have:∀l:List It,YF y (l++x::M)=YF y l++x::M:=by
  intro l;induction l with
  | nil=>simp only[qv,YF,Qd h,qs]
  | cons z l b=>simp only[qs,YF];split;rw[b,qs];simp only[qs]
 exact this L
def Qhq(a i L M x)(n:Vy (L++x::M)):
  XP a i (L++x::M)=if x.ka=a/\x.ki=i then L++M else if KA x.ka x.ki a i then L++x::XP a i M else XP a i L++x::M:=by
 obtain⟨_,_,p,o⟩:=FU.1 n;have keep:∀l:List It,(∀y∈l,¬ (y.ka=a/\y.ki=i))->XP a i l=l:=λl h=>by unfold XP;rw[yx];intro y e;have:=h y e;rw[qV,jZ];exact λd=>this (yd.1 d)
 have j:XP a i (L++x::M)=XP a i L++XP a i (x::M):=by unfold XP;rw[EU]
 have m:(x.ka=a/\x.ki=i)\/KA x.ka x.ki a i->XP a i L=L:=λh=>keep L λy e ⟨g,f⟩=>by have b:KA y.ka y.ki x.ka x.ki:=p y e;rw[g,f]at b;rcases h with ⟨rfl,rfl⟩|h;exact Cu _ _ b;exact Cu _ _ (HS h b)
 have k:(x.ka=a/\x.ki=i)\/KA a i x.ka x.ki->XP a i M=M:=λh=>keep M λy e ⟨g,f⟩=>by have b:KA x.ka x.ki y.ka y.ki:=o y e;rw[g,f]at b;rcases h with ⟨rfl,rfl⟩|h;exact Cu _ _ b;exact Cu _ _ (HS h b)
 rw[j];by_cases c:x.ka=a/\x.ki=i;have hx:XP a i (x::M)=XP a i M:=by unfold XP;rw[vk,yd.2 c];rfl
 rw[Qe c,m (.inl c),hx,k (.inl c)];have q:Cw a i x=false:=by rw[jZ];exact λh=>c (yd.1 h)
 have hx:XP a i (x::M)=x::XP a i M:=by unfold XP;rw[vk,q];rfl
 rw[Qd c,hx];by_cases d:KA x.ka x.ki a i;rw[Qe d,m (.inr d)];rw[Qd d,k (.inr (by rcases PC x.ka x.ki a i with h|h|h;exact absurd h d;exact absurd h c;exact h))]
def HT{y x}:∀{L:List It},x∈YF y L↔x=y\/x∈L
 | []=>by simp[YF]
 | z::L=>by simp only[YF];split;rw[QK,HT,QK];grind;rw[QK]
def su{y:It}:∀{L:List It},Vy L->Y3 y.ka y.ki L=none->Vy (YF y L)
 | [],_,_=>by simp[YF,Vy]
 | z::L,e,a=>by
  obtain⟨f,g⟩:=AD.1 e;unfold Y3 at a;rw[vm]at a;cases c:Cw y.ka y.ki z with
  | true=>rw[c]at a;cases a
  | false=>
   rw[c]at a;have i:¬ (z.ka=y.ka/\z.ki=y.ki):=λh=>by rw[yd.2 h]at c;cases c
   simp only[YF];split;rename_i d;refine AD.2 ⟨λw hw=>?_,su g a⟩;rcases HT.1 hw with rfl|hw;exact d;exact f w hw;rename_i d;have b:y.lt z:=by rcases PC z.ka z.ki y.ka y.ki with h|h|h;exact absurd h d;exact absurd h i;exact h
   refine AD.2 ⟨λw hw=>?_,e⟩;rcases QK.1 hw with rfl|hw;exact b;exact It.lt_trans b (f w hw)
def Qwy{a i L}(h:Vy L):Vy (XP a i L):=Od _ h
def Tr.Cy(a:Nat)(i:Int)(f:Tr->List It):Tr->List It
 | .nil=>f .nil
 | .node c b l r=>if b.ka=a/\b.ki=i then f (.node c b l r) else if KA b.ka b.ki a i then l.list++b::r.Cy a i f else l.Cy a i f++b::r.list
def sv{y:It}{f}(e:f .nil=[y]):∀(t:Tr),Vy t.list->Y3 y.ka y.ki t.list=none->t.Cy y.ka y.ki f=YF y t.list
 | .nil,_,_=>e
 | .node j b l r,c,a=>by obtain⟨i,h,_,_⟩:=FU.1 c;simp only[Tr.list]at c a ⊢;rw[Qhp _ _ _ _ _ c]at a;rw[Tr.Cy];by_cases g:b.ka=y.ka/\b.ki=y.ki;rw[Qe g]at a;cases a;rw[Qd g]at a ⊢;rw[Qww y _ _ _ c g];by_cases d:KA b.ka b.ki y.ka y.ki;rw[Qe d]at a ⊢;rw[Qe (show b.lt y from d),sv e r h a];rw[Qd d]at a ⊢;rw[Qd (show ¬ b.lt y from d),sv e l i a]
def Tr.MC:Tr->List It
 | .nil=>[]
 | .node _ _ l r=>l.list++r.list
def ig{a i}:∀(t:Tr),Vy t.list->t.Cy a i Tr.MC=XP a i t.list
 | .nil,_=>rfl
 | .node h b l r,e=>by obtain⟨g,f,_,_⟩:=FU.1 e;simp only[Tr.list]at e ⊢;rw[Qhq _ _ _ _ _ e,Tr.Cy];by_cases d:b.ka=a/\b.ki=i;rw[Qe d,Qe d];rfl;rw[Qd d,Qd d];by_cases c:KA b.ka b.ki a i;rw[Qe c,Qe c,ig r f];rw[Qd c,Qd c,ig l g]
def Tr.find(a:Nat)(i:Int):Tr->Tr
 | .nil=>.nil
 | .node c b l r=>if b.ka=a/\b.ki=i then .node c b l r else if KA b.ka b.ki a i then r.find a i else l.find a i
def Tr.item:Tr->Option It
 | .nil=>none
 | .node _ a _ _=>some a
def Tr.TX{a}{i:Int}:∀(t:Tr),Vy t.list->(t.find a i).item=Y3 a i t.list
 | .nil,_=>rfl
 | .node h b l r,e=>by obtain⟨g,f,_,_⟩:=FU.1 e;simp only[Tr.list]at e ⊢;rw[Qhp _ _ _ _ _ e,Tr.find];by_cases d:b.ka=a/\b.ki=i;rw[Qe d,Qe d];rfl;rw[Qd d,Qd d];by_cases c:KA b.ka b.ki a i;rw[Qe c,Qe c,Tr.TX r f];rw[Qd c,Qd c,Tr.TX l g]
def Tr.hasB(e:Nat):Tr->Bool
 | .nil=>false
 | .node a b c d=>decide ((Tr.node a b c d).least.va<=e)
def Wa.va{x y:It}{L}(h:Wa x L)(a:y∈L):x.va<=y.va:=by have:=h.le y a;unfold It.qG KA at this;omega
def Tr.TY(e):∀t:Tr,t.hasB e=true↔∃x∈t.list,x.va<=e
 | .nil=>by simp[Tr.hasB,Tr.list]
 | .node a b c d=>by have h:=Tr.PD (.node a b c d) σ;simp only[Tr.hasB,W3];constructor;intro g;exact⟨_,h.mem,g⟩;rintro⟨x,hx,f⟩;exact J5 (h.va hx) f
def Tr.first(a:Nat):Tr->Option It
 | .nil=>none
 | .node _ b l r=>if l.hasB a then l.first a else if b.va<=a then some b else r.first a
def Tr.ij(a):∀t:Tr,t.first a=t.list.find? λx=>decide (x.va<=a)
 | .nil=>rfl
 | .node _ d l r=>by
  simp only[Tr.first,Tr.list];rw[List.find?_append,vm];by_cases h:l.hasB a=true;rw[Qe h,Tr.ij a l];obtain⟨x,hx,c⟩:=(Tr.TY a l).1 h;cases f:l.list.find? λx=>decide (x.va<=a) with
  | some y=>rfl
  | none=>exact absurd c (by simpa using j7.1 f x hx)
  rw[Qd h,Tr.ij a r];have e:l.list.find? (λx=>decide (x.va<=a))=none:=by rw[j7];intro x hx c;exact h ((Tr.TY a l).2 ⟨x,hx,by simpa using c⟩)
  rw[e,Option.none_or];by_cases b:d.va<=a;rw[Qe b,QY b];rw[Qd b,QN b]
def Tr.FV:Tr->It
 | .nil=>default
 | .node _ e l _=>match l with
  | .nil=>e
  | .node a b c d=>Tr.FV (.node a b c d)
def Tr.sw:∀t:Tr,t≠.nil->t.list.head? = some t.FV
 | .nil,h=>absurd rfl h
 | .node _ e .nil r,_=>rfl
 | .node _ e (.node a b c d) r,_=>by have:=Tr.sw (.node a b c d) σ;simp only[Tr.list,Tr.FV,List.head?_append]at this ⊢;rw[this];rfl
def wZ(o:Option It)(i:It):Option It:=match o with
 | none=>some i
 | some a=>some (kF a i)
def Tr.jD(e:Nat):Tr->Option It->Option It
 | .nil,o=>o
 | .node _ f l r,o=>if e<f.ka then l.jD e o else r.jD e (match l with
  | .nil=>wZ o f
  | .node a b c d=>wZ (wZ o f) (Tr.node a b c d).least)
def yV(o:Option It)(L:List It):Prop:=match o with
 | none=>L=[]
 | some x=>Wa x L
def yV.take{o L}(h:yV o L){i M}(b:Wa i M):yV (wZ o i) (L++M):=by
 cases o with
 | none=>simp only[yV]at h;subst h;exact b
 | some a=>exact Wa.join h b
def yV.perm{o L M}(h:yV o L)(e:∀y,y∈M↔y∈L):yV o M:=by
 cases o with
 | none=>simp only[yV]at h ⊢;subst h;exact nU.2 λy b=>by simpa using (e y).1 b
 | some a=>exact Wa.perm h e
def Tr.TZ(e):∀(t:Tr) (o:Option It) (T:List It),Vy t.list->yV o T->yV (t.jD e o) (T++t.list.filter λx=>decide (x.ka<=e))
 | .nil,o,T,_,h=>by simpa[Tr.jD,Tr.list] using h
 | .node _ g l r,o,T,m,h=>by
  obtain⟨k,i,q,n⟩:=FU.1 (show Vy (l.list++g::r.list) from m);have f:∀{x y:It},x.lt y->x.ka<=y.ka:=λh=>by have h:KA _ _ _ _:=h;unfold KA at h;omega
  simp only[Tr.jD,Tr.list,EU,vk];by_cases j:e<g.ka;rw[Qe j,QN ω];have p:r.list.filter (λx=>decide (x.ka<=e))=[]:=by rw[nV];intro x hx;have:=f (n x hx);simp;omega
  rw[p];have:=Tr.TZ e l o T k h;simpa using this;rw[Qd j,QY ω];have s:l.list.filter (λx=>decide (x.ka<=e))=l.list:=by rw[yx];intro x hx;have:=f (q x hx);simp;omega
  rw[s];cases l with
  | nil=>have:=Tr.TZ e r _ _ i (h.take (Wa.one g));simpa[Tr.list] using this
  | node a b c d=>have:=Tr.TZ e r _ _ i ((h.take (Wa.one g)).take (Tr.PD (.node a b c d) σ));refine this.perm λy=>?_;simp only[Tr.list,Q3,QK,JB,Vu];grind
end Go.Fg.X
