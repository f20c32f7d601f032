/- Contracts and laws on the way to the statement. No conditions. -/
import Derived.Test.YtbemejcgkfieeaaGreatFgTellB
import Derived.Test.YtbemejcgkfieeaaGreatProg
import Derived.KernelRfl
import Derived.Deep.Slices
import Derived.ChangeArms
import Derived.OpenShut
import Derived.ProofKit
import Derived.ChangeOld
import Derived.Below
import Derived.WideShapes
import Derived.Laws.BytesString
import Derived.LoopN
import Derived.Shelf.Sort.Plain
import Derived.Shelf.Slices.In.SortNone
import Derived.Lib.SortBridge
import Derived.Laws.BitsAllLaws
set_option maxRecDepth 100000
set_option maxHeartbeats 16000000
set_option linter.unusedVariables false
set_option linter.unusedSimpArgs false
set_option linter.unusedSectionVars false
set_option linter.defProp false
namespace Go.Fg
open Go.RowKit (Below)
variable {Z:Nat->Prop}
def QD.Di{h M:List Ob}{K}{w}(m:∀(l:Nat) (o:Ob),h[l]?=some o->∃c,M[l]?=some c/\c.gen=o.gen/\c.sz=o.sz/\c.kd.ty=o.kd.ty){d}{v}(r:QD Z h K w d v):QD Z M K w d v:=by
 induction r with
 | cl d v O=>exact .cl d v O
 | ref l g H I o p a J u t y z s=>
  obtain⟨c,C,k,F,B⟩:=m l o u;exact .ref l g H I c p a J C t (by rw[B];exact y) (by rw[k];exact z) (λe=>by rw[F];exact s (by rw[e,k]))
 | ptr l g i j o p a u t y z s=>
  obtain⟨c,C,k,F,B⟩:=m l o u;exact .ptr l g i j c p a C t (by rw[B];exact y) (by rw[k];exact z) (λe=>by rw[F];exact s (by rw[e,k]))
 | mref l g o p b u t y z s=>
  obtain⟨c,C,k,F,B⟩:=m l o u;exact .mref l g c p b C t (by rw[B];exact y) (by rw[k];exact z) (λe=>s (by rw[e,k]))
 | clo f N E n x L q=>exact .clo f N E n x q
 | agg E n x L q=>exact .agg E n x q
 | tup E n x L q=>exact .tup E n x q
def Z4{h:List Ob}{l:Nat}{o:Ob}(e:h[l]?=some o):(h.map Ob.ro)[l]?=some o.ro:=by rw[KL,e];rfl
def G9{h:List Ob}{l:Nat}{o:Ob}(e:(h.map Ob.ro)[l]?=some o):∃a,h[l]?=some a/\o=a.ro:=by
 rw[KL,VT]at e;obtain⟨a,c,b⟩:=e;exact⟨a,c,b.symm⟩
@[go_sem] theorem QHg(k:Kd)(g z n)(r):Ob.ro ⟨k,g,z,n,r⟩=⟨k.toRo,g,z,n,r⟩:=rfl
theorem ro_ro(o:Ob):o.ro.ro=o.ro:=by
 obtain⟨k,g,z,n,r⟩:=o;cases k<;>rfl
def W8(P:Program)(f:FuncId)(h:List Ob)(a:List D)(R:D->List Ob->Prop):Prop:=
 QM P f (h.map Ob.ro) a λd b=>∃g,b=h.map Ob.ro++g/\R d g
def W8.mono{P}{f}{h}{a}{R b}(e:W8 P f h a R)(c:∀d g,R d g->b d g):W8 P f h a b:=QM.mono e λ_ _ ⟨g,j,i⟩=>⟨g,j,c _ _ i⟩
section
variable {P:Program}{base nt:Nat}{w0:Start}{Q:Exit->St->Prop}
def QdP(W:base<=w0.w.heap.size){o:Oper}{s}{x}{c}{V:Array TypeId}{f}{l}{u}(J:Qm P f)(H:o.op=.call ⟨.value x,c,V⟩)
  (E:JB (Qs s.fr x)=some (f,l,u)) {R:D->List Ob->Prop} (S:QM P f s.h (Z5 l u (c.toList.map (Qs s.fr))) R)
  (n:Zn nt o.dst=true) (g:List Pl) (a:Act) (w:World) (r:Rel Z base nt s g a w) (b:Va Z base w0 s.h g w) (Y:Exit->Act->World->Prop) :
  o.wp P a w (λq k=>∃d h j,R d h/\Rel Z base nt ⟨Zb s.fr o.dst d,h⟩ j q k/\Va Z base w0 h j k/\Tr s.h g w h j k/\∃v,q=a.put o.dst v) Y:=by
 obtain⟨y,F,z,EJ⟩:=Sn (r.eval x) E;have B:base<=w.heap.size:=JY W b.1.size;obtain⟨C,KB⟩:=Sq (r:=λd v=>QD Z s.h g w d v) (nf:=l) z EJ (us:=c.toList.map a.eval) (args:=c.toList.map (Qs s.fr)) σ (λi I=>by
  have Jl:i<c.toList.length:=by simpa using I
  simp only[nth,Q6,QW,KL];rw[QJ Jl];exact r.eval _)
 have M:=S Z base w g (Z5 l y (c.toList.map a.eval)) B b.2.2.new r.o C KB;unfold Oper.wp;rw[Sr J H F w];simp only[Oper.upon_enter];refine M.mono λe k K=>?_;obtain⟨v,d,U,j,rfl,O,p,N,m,T⟩:=K;refine⟨d,U,j,O,?_,b.step m T,m,v,rfl⟩;cases L:o.dst with
 | none=>exact r.Ad m p v
 | some t=>rw[L]at n;exact r.to m p (kF n) N
def zy(L:base<=w0.w.heap.size){k}{e}{o:TypeId}{pos}{g}{F}{r}{s}{x}{c}{J:Array TypeId}{f}{i}{m}(y:Qm P f)
  (u:JB (Qs s.fr x)=some (f,i,m)) {l:List D} (B:KC (Z5 i m (c.toList.map (Qs s.fr))) l)
  {R:D->List Ob->Prop} (E:QM P f s.h l R) (v:Zn nt e=true) (j:∀d h,R d h->Qz P base nt w0 Q (.ops r::k) .normal ⟨Zb s.fr e d,h⟩) :
  Qz P base nt w0 Q (.ops ((⟨e,.call ⟨.value x,c,J⟩,o,pos,g,F⟩,none)::r)::k) .normal s:=by
 simp only[Qz]at j ⊢;intro Z z t a w p b;simp only[YY,Xq,Vu];exact Oper.wp_mono (λI n ⟨d,h,K,C,q,H,_⟩=>j d h C Z z K I n q H) (QdP L y rfl u (E.args B) v t a w p b _)
def QdQ(Q4:base<=w0.w.heap.size){o:Oper}{s}{x}{k}{Zo:Array TypeId}{f}{I}{Qx}(hf:Qm P f)(h:o.op=.call ⟨.value x,k,Zo⟩)
  (hx:JB (Qs s.fr x)=some (f,I,Qx)) {R:D->List Ob->Prop} (hF:W8 P f s.h (Z5 I Qx (k.toList.map (Qs s.fr))) R)
  (Y:Zn nt o.dst=true) (y:List Pl) (a:Act) (w:World) (r:Rel Z base nt s y a w) (b:Va Z base w0 s.h y w) (Q':Exit->Act->World->Prop) :
  o.wp P a w (λa' E=>Ext w E/\∃d g B,R d g/\Rel Z base nt ⟨Zb s.fr o.dst d,s.h++g⟩ B a' E/\Va Z base w0 (s.h++g) B E/\Tr s.h y w (s.h++g) B E/\∃v,a'=a.put o.dst v) Q':=by
 obtain⟨vs,hv,vU,EJ⟩:=Sn (r.eval x) hx;have U:base<=w.heap.size:=JY Q4 b.1.size;obtain⟨q1,KB⟩:=Sq (r:=λd v=>QD Z s.h y w d v) (nf:=I) vU EJ (us:=k.toList.map a.eval) (args:=k.toList.map (Qs s.fr)) σ (λi L=>by
  have Jl:i<k.toList.length:=by simpa using L
  simp only[nth,Q6,QW,KL];rw[QJ Jl];exact r.eval _)
 have W:∀(l:Nat) (o:Ob),s.h[l]?=some o->∃n,(s.h.map Ob.ro)[l]?=some n/\n.gen=o.gen/\n.sz=o.sz/\n.kd.ty=o.kd.ty:=λl o e=>⟨o.ro,Z4 e,rfl,rfl,Kd.toRo_ty _⟩;have SL:Zh Z w.heap.size (s.h.map Ob.ro) y w:=by
  refine⟨by simp[r.o.len],r.o.inj,λl o h u=>?_,λl o b q h u=>?_⟩;obtain⟨n,C,rfl⟩:=G9 h;exact r.o.VU l n C u;obtain⟨n,C,rfl⟩:=G9 h;obtain⟨_,x⟩:=r.o.at_ l n b q C u;exact⟨λz=>(by rw[cH,Kd.toRo_ro]at z;cases z),x.to (Kd.toRo_ty _) rfl rfl rfl (λ_ _=>rfl) λi j v _ _ z=>z.Di W⟩
 have M:=hF Z w.heap.size w y (Z5 I vs (k.toList.map a.eval)) (QB _) b.2.2.new SL q1 (λi L=>(KB i L).Di W);unfold Oper.wp;rw[Sr hf h hv w];simp only[Oper.upon_enter];refine M.mono λe E he=>?_;obtain⟨v,d,_,B,rfl,⟨g,rfl,hR⟩,F,hV,hT,J⟩:=he;have O:∀(l:Nat) (p:Pl),l<s.h.length->B[l]?=some p->y[l]?=some p:=λl p m e=>by
  have H:l<y.length:=by rw[r.o.len];exact m
  obtain⟨n,p',e1,K,_,_,e3⟩:=hT.obj l _ _ (Z4 (QJ m)) (QJ H);rw[JJ (by simpa using m),Z4 (QJ m)]at e1;cases e1;obtain⟨_,e4⟩:=e3 rfl;rw[e]at K;cases K;rw[e4];exact QJ H
 have o4:∀(l:Nat) (p:Pl),l<s.h.length->y[l]?=some p->B[l]?=some p:=λl p m e=>by
  have H:l<B.length:=by have:=F.len;simp at this;omega
  have C:=O l _ m (QJ H);rw[e]at C;cases C;exact QJ H
 have T:Tr s.h y w (s.h++g) B E:=by
  refine⟨hT.JU,λl o p h u=>⟨o,p,by rw[JJ (KA h)];exact h,o4 l p (KA h) u,QB _,rfl,λ_=>⟨rfl,rfl⟩⟩,λl o n b q h ZG hg u c el M=>⟨c,?_,rfl⟩⟩;rw[J.block b (r.o.lt u).1];exact M
 have V:∀(l:Nat) (o:Ob),(s.h.map Ob.ro++g)[l]?=some o->∃n,(s.h++g)[l]?=some n/\n.gen=o.gen/\n.sz=o.sz/\n.kd.ty=o.kd.ty:=λl o e=>by
  by_cases m:l<s.h.length;rw[JJ (by simpa using m)]at e;obtain⟨n,C,rfl⟩:=G9 e;exact⟨n,by rw[JJ m];exact C,rfl,rfl,(Kd.toRo_ty _).symm⟩;rw[Kc (by simpa using m)]at e;exact⟨o,by rw[Kc ω];simpa using e,rfl,rfl,rfl⟩
 have EK:Zh Z base (s.h++g) B E:=by
  refine⟨by have:=F.len;simpa using this,F.inj,λl o h u=>?_,λl o b q h u=>?_⟩;by_cases m:l<s.h.length;rw[JJ m]at h;exact r.o.VU l o h (O l _ m u);refine F.VU l o ?_ u;rw[Kc ω]at h;rw[Kc (by simpa using m)];simpa using h;by_cases m:l<s.h.length;rw[JJ m]at h;have S:=O l _ m u;obtain⟨N,x⟩:=r.o.at_ l o b q h S;exact⟨N,x.to rfl rfl rfl (J.block b (r.o.lt S).1) (λ_ _=>rfl) λi j v _ _ z=>z.tr T⟩;have K:(s.h.map Ob.ro++g)[l]?=some o:=by
   rw[Kc ω]at h;rw[Kc (by simpa using m)];simpa using h
  obtain⟨N,x⟩:=F.at_ l o b q K u;exact⟨λz=>JY U (N z),x.to rfl rfl rfl rfl (λ_ _=>rfl) λi j v _ _ z=>z.Di V⟩
 refine⟨λb hb=>J.block b hb,d,g,B,hR,?_,b.step T (J.mono U),T,v,rfl⟩;cases hd:o.dst with
 | none=>exact r.Ad T EK v
 | some t=>rw[hd]at Y;exact r.to T EK (kF Y) (hV.Di V)
def W8.args{f}{h}{a b}{R}(c:W8 P f h b R)(e:KC a b):W8 P f h a R:=QM.args c e
def Ha(M:base<=w0.w.heap.size){k}{e}{p:TypeId}{pos}{i}{H}{r}{s}{x}{c}{K:Array TypeId}{f}{j}{n}(B:Qm P f)
  (v:JB (Qs s.fr x)=some (f,j,n)) {m:List D} (C:KC (Z5 j n (c.toList.map (Qs s.fr))) m)
  {R:D->List Ob->Prop} (F:W8 P f s.h m R) (y:Zn nt e=true) (l:∀d g,R d g->Qz P base nt w0 Q (.ops r::k) .normal ⟨Zb s.fr e d,s.h++g⟩) :
  Qz P base nt w0 Q (.ops ((⟨e,.call ⟨.value x,c,K⟩,p,pos,i,H⟩,none)::r)::k) .normal s:=by
 simp only[Qz]at l ⊢;intro Z z u a w q b;simp only[YY,Xq,Vu];exact Oper.wp_mono (λJ o ⟨_,d,h,L,E,t,I,_⟩=>l d h E Z z L J o t I) (QdQ M B rfl v (F.args C) y u a w q b _)
def SM(M:base<=w0.w.heap.size){K}{h}{m:TypeId}{pos}{i}{H}{r}{s}{x}{c}{J:Array TypeId}{f}{j}{l}(y:Qm P f)
  (q:JB (Qs s.fr x)=some (f,j,l)) {k:List D} (B:KC (Z5 j l (c.toList.map (Qs s.fr))) k) {R:D->List Ob->Prop} (E:W8 P f s.h k R)
  (t:Zn nt h=true) (u:∀d g,R d g->AX P base nt w0 K r ⟨Zb s.fr h d,s.h++g⟩) :
  AX P base nt w0 K ((false,⟨h,.call ⟨.value x,c,J⟩,m,pos,i,H⟩,none)::r) s:=by
 simp only[AX,Xi,qB];intro Z z p a w n b;exact Oper.wp_mono (λO N ⟨F,d,g,L,C,o,I,T,v,e⟩=>⟨λ_=>F,_,_,L,v,u d g C,o,I,T,e⟩) (QdQ M y rfl q (E.args B) t p a w n b _)
def Qpx(N:base<=w0.w.heap.size){k}{d}{n:TypeId}{pos}{f}{C}{r}{s}{x}{li l c}{es}{seen}{q}
  (H:Qs s.fr x=.mref li 0) (M:s.h[li]?=some (Yg l c c seen)) {kd:Kd} (R:kd.ty=1) (L:s.h[l]?=some (Wq kd q c es)) (p:Zn nt d=true)
  (y:(∀e∈es,e.b∈seen)->Qz P base nt w0 Q (.ops r::k) .normal ⟨Zb s.fr d (.tup [.raw (.bool false)]),s.h⟩)
  (u:∀e∈es,e.b ∉ seen->Qz P base nt w0 Q (.ops r::k) .normal ⟨Zb s.fr d (.tup [.raw (.bool true),.raw (.int q e.k),e.v]),s.h.set li (Yg l c c (seen++[e.b]))⟩) :
  Qz P base nt w0 Q (.ops ((⟨d,.next x false,n,pos,f,C⟩,none)::r)::k) .normal s:=by
 simp only[Qz]at y u ⊢;intro Z z h a w g b;have F:base<=w.heap.size:=JY N b.1.size;simp only[YY,Xq,Vu];unfold Oper.wp;rcases Qn6 (o:=⟨d,.next x false,n,pos,f,C⟩) rfl g F H M R L with ⟨m,j⟩|⟨e,K,m,v,E,j,T,O,V,B⟩;rw[j];simp only[Oper.upon_value];refine y m Z z h _ w ?_ b;have I:QD Z s.h h w (.tup [.raw (.bool false)]) (.tuple #[.bool false]):=.tup _ [.bool false] rfl λi J=>match i,J with
  | 0,_=>.cl _ _ (.raw _)
 cases d with
 | none=>exact g.Ad (Tr.refl _ _ _) g.o _
 | some t=>exact g.to (Tr.refl _ _ _) g.o (kF p) I
 rw[j];simp only[Oper.upon_value];refine u e K m Z z h _ E ?_ (b.step T B);cases d with
 | none=>exact g.Ad T O _
 | some t=>exact g.to T O (kF p) V
end
def Zf(P:Program)(f:FuncId)(h:List Ob)(a:List D)(R:D->Prop):Prop:=W8 P f h a λd _=>d.upto h.length=true/\R d
def Zf.mono{P}{f}{h:List Ob}{a}{R b}(e:Zf P f h a R)(c:∀d,R d->b d):Zf P f h a b:=W8.mono e λ_ _ h=>⟨h.1,c _ h.2⟩
def Zf.args{P}{f}{h}{a b}{R}(c:Zf P f h b R)(e:KC a b):Zf P f h a R:=W8.args c e
section
variable {P:Program}{base nt:Nat}{w0:Start}{Q:Exit->St->Prop}
def QdR(Q4:base<=w0.w.heap.size){o:Oper}{s}{x}{c}{Zo:Array TypeId}{f}{z}{N}(hf:Qm P f)(u:o.op=.call ⟨.value x,c,Zo⟩)
  (hx:JB (Qs s.fr x)=some (f,z,N)) {R:D->Prop} (hF:Zf P f s.h (Z5 z N (c.toList.map (Qs s.fr))) R)
  (J:Zn nt o.dst=true) (k:List Pl) (a:Act) (w:World) (r:Rel Z base nt s k a w) (b:Va Z base w0 s.h k w) (Q':Exit->Act->World->Prop) :
  o.wp P a w (λL p=>Ext w p/\∃d,R d/\Rel Z base nt ⟨Zb s.fr o.dst d,s.h⟩ k L p/\Va Z base w0 s.h k p/\Tr s.h k w s.h k p/\∃v,L=a.put o.dst v) Q':=by
 obtain⟨S,hv,T,EJ⟩:=Sn (r.eval x) hx;have U:base<=w.heap.size:=JY Q4 b.1.size;obtain⟨V,KB⟩:=Sq (r:=λd v=>QD Z s.h k w d v) (nf:=z) T EJ (us:=c.toList.map a.eval) (args:=c.toList.map (Qs s.fr)) σ (λi m=>by
  have Jl:i<c.toList.length:=by simpa using m
  simp only[nth,Q6,QW,KL];rw[QJ Jl];exact r.eval _)
 have I:∀(l:Nat) (o:Ob),s.h[l]?=some o->∃h,(s.h.map Ob.ro)[l]?=some h/\h.gen=o.gen/\h.sz=o.sz/\h.kd.ty=o.kd.ty:=λl o e=>⟨o.ro,Z4 e,rfl,rfl,Kd.toRo_ty _⟩;have k3:∀(g:List Ob) (l:Nat) (o:Ob),(s.h.map Ob.ro++g)[l]?=some o->∃h,(s.h++g)[l]?=some h/\h.gen=o.gen/\h.sz=o.sz/\h.kd.ty=o.kd.ty:=λg l o e=>by
  by_cases E:l<s.h.length;rw[JJ (by simpa using E)]at e;obtain⟨h,n,rfl⟩:=G9 e;exact⟨h,by rw[JJ E];exact n,rfl,rfl,(Kd.toRo_ty _).symm⟩;rw[Kc (by simpa using E)]at e;exact⟨o,by rw[Kc ω];simpa using e,rfl,rfl,rfl⟩
 have SL:Zh Z w.heap.size (s.h.map Ob.ro) k w:=by
  refine⟨by simp[r.o.len],r.o.inj,λl o u C=>?_,λl o b q u C=>?_⟩;obtain⟨h,n,rfl⟩:=G9 u;exact r.o.VU l h n C;obtain⟨h,n,rfl⟩:=G9 u;obtain⟨_,x⟩:=r.o.at_ l h b q n C;exact⟨λB=>(by rw[cH,Kd.toRo_ro]at B;cases B),x.to (Kd.toRo_ty _) rfl rfl rfl (λ_ _=>rfl) λi j v _ _ B=>B.Di I⟩
 have hc:=hF Z w.heap.size w k (Z5 z S (c.toList.map a.eval)) (QB _) b.2.2.new SL V (λi m=>(KB i m).Di I);unfold Oper.wp;rw[Sr hf u hv w];simp only[Oper.upon_enter];refine hc.mono λe p he=>?_;obtain⟨v,d,_,Qk,rfl,⟨g,rfl,hu,hR⟩,hO,hV,hT,K⟩:=he;have F:Ext w p:=λb hb=>K.block b hb;have M:Tr s.h k w s.h k p:=Tr.ext r.o F;have BQ:QD Z s.h k p d v:=by
  have n:=hV.take hu;have e1:(s.h.map Ob.ro++g).take s.h.length=s.h.map Ob.ro:=List.take_left' σ;have e2:Qk.take s.h.length=k:=by
   apply y8;intro i;rw[XB];by_cases m:i<s.h.length;rw[Qd m];have O:i<k.length:=by rw[r.o.len];exact m
   obtain⟨h,p',H,Y,_,_,W⟩:=hT.obj i _ _ (Z4 (QJ m)) (QJ O);rw[JJ (by simpa using m),Z4 (QJ m)]at H;cases H;obtain⟨_,rfl⟩:=W rfl;rw[Y,QJ O];rw[Qc m,Ek (by rw[r.o.len];omega)]
  rw[e1,e2]at n;exact n.Di λl o e=>by
   obtain⟨h,n,rfl⟩:=G9 e;exact⟨h,n,rfl,rfl,(Kd.toRo_ty _).symm⟩
 refine⟨F,d,hR,?_,b.step M (K.mono U),M,v,rfl⟩;have y:=r.ext F;cases hd:o.dst with
 | none=>exact y.Ad (Tr.refl _ _ _) y.o v
 | some t=>rw[hd]at J;exact y.to (Tr.refl _ _ _) y.o (kF J) BQ
def XI(J:base<=w0.w.heap.size){k}{e}{o:TypeId}{pos}{g}{E}{r}{s}{x}{c}{I:Array TypeId}{f}{i}{m}(v:Qm P f)
  (t:JB (Qs s.fr x)=some (f,i,m)) {l:List D} (y:KC (Z5 i m (c.toList.map (Qs s.fr))) l)
  {R:D->Prop} (C:Zf P f s.h l R) (u:Zn nt e=true) (j:∀d,R d->Qz P base nt w0 Q (.ops r::k) .normal ⟨Zb s.fr e d,s.h⟩) :
  Qz P base nt w0 Q (.ops ((⟨e,.call ⟨.value x,c,I⟩,o,pos,g,E⟩,none)::r)::k) .normal s:=by
 simp only[Qz]at j ⊢;intro Z z h a w p b;simp only[YY,Xq,Vu];exact Oper.wp_mono (λH n ⟨_,d,B,q,F,_⟩=>j d B Z z h H n q F) (QdR J v rfl t (C.args y) u h a w p b _)
def Oz(J:base<=w0.w.heap.size){K}{g}{m:TypeId}{pos}{h}{F}{r}{s}{x}{c}{I:Array TypeId}{f}{j}{l}(u:Qm P f)
  (p:JB (Qs s.fr x)=some (f,j,l)) {k:List D} (y:KC (Z5 j l (c.toList.map (Qs s.fr))) k) {R:D->Prop} (C:Zf P f s.h k R)
  (q:Zn nt g=true) (t:∀d,R d->AX P base nt w0 K r ⟨Zb s.fr g d,s.h⟩) :
  AX P base nt w0 K ((false,⟨g,.call ⟨.value x,c,I⟩,m,pos,h,F⟩,none)::r) s:=by
 simp only[AX,Xi,qB];intro Z z i a w n b;exact Oper.wp_mono (λM L ⟨E,d,B,o,H,T,v,e⟩=>⟨λ_=>E,_,_,i,v,t d B,o,H,T,e⟩) (QdR J u rfl p (C.args y) q i a w n b _)
end
def Qb{h:List Ob}{l}{o}(e:h[l]?=some o):l<h.length:=KA e
def QE{h t:List Ob}{l}(a:l<h.length):(h++t)[l]? = h[l]? := JJ a
def Vc{h t:List Ob}{n}(a:h.length=n):(h++t)[n]? = t[0]? := by rw[<- a,Kc (QB _),wV]
def VD{h t:List Ob}{n k}(a:h.length=n):(h++t)[n+k]? = t[k]? := by rw[<- a,Kc ω,bg]
def Dj{h t:List Ob}{l}{o}(a:l<h.length):(h++t).set l o=h.set l o++t:=bc _ _ a
def eF{h t:List Ob}{n}{o}(a:h.length=n):(h++t).set n o=h++t.set 0 o:=by rw[<- a,Im _ _ (QB _),wV]
def Qpy{h t:List Ob}{n k}{o}(a:h.length=n):(h++t).set (n+k) o=h++t.set k o:=by rw[<- a,Im _ _ ω,bg]
def QF{h:List Ob}{l}{o}(a:l<h.length):(h.set l o)[l]?=some o:=W5 a
def Qp{h:List Ob}{l m}{o}(a:l≠m):(h.set l o)[m]? = h[m]? := JG a
def Qpz{P:Program}{X}(r:qz P X){f}{e:Func}{c}(n)(q:P.funcs[f]?=some e)(k:e.body=some c){h}{b:List D}{R}{j}{l}(v:e.ntmps=j)(x:e.results=l)(o:Nat.ble b.length j=true)
  (p:∀(a:Nat) (w:World) (i:List Pl) (F:List Ob),F=h.map Ob.ro->F.length=h.length->a<=w.heap.size->hx P a ⟨w,F,i⟩ (As X.L l.toList λd m=>∃g,m=F++g/\d.upto F.length=true/\R d) X j n [.code c] ⟨jE b 0,F⟩):Zf P f h b R:=
 (oQ r n q k v x o λa w i k=>p a w i _ rfl σ k).mono λd m ⟨g,u,t,s⟩=>⟨g,u,by simpa using t,s⟩
def BR{P:Program}{X}(q:qz P X){f}{e:Func}{c}(n)(p:P.funcs[f]?=some e)(k:e.body=some c){h}{b:List D}{R}{j}{l}(s:e.ntmps=j)(t:e.results=l)(m:Nat.ble b.length j=true)
  (o:∀(a:Nat) (w:World) (i:List Pl) (F:List Ob),F=h.map Ob.ro->F.length=h.length->a<=w.heap.size->hx P a ⟨w,F,i⟩ (As X.L l.toList λd r=>∃g,r=F++g/\R d g) X j n [.code c] ⟨jE b 0,F⟩):W8 P f h b R:=
 oQ q n p k s t m λa w i k=>o a w i _ rfl σ k
attribute [go_sem] cU cV w9 GS cT Qcz QcA Qcy Qn9 QcB Qoa Qob cO cP NU GN cR cS oa Qcn n9 Qcm Qco oc Qcp QnS QnT QnU QnV cH QnW QnX ro_ro CS
def Qj:(∀{h t:List Ob} {l:Nat},l<h.length->(h++t)[l]? = h[l]?)/\(∀{h t:List Ob} {n:Nat},h.length=n->(h++t)[n]? = t[0]?)/\(∀{h t:List Ob} {n k:Nat},h.length=n->(h++t)[n+k]? = t[k]?)/\(∀{h t:List Ob} {l:Nat} {o:Ob},l<h.length->(h++t).set l o=h.set l o++t)/\(∀{h t:List Ob} {n:Nat} {o:Ob},h.length=n->(h++t).set n o=h++t.set 0 o)/\(∀{h t:List Ob} {n k:Nat} {o:Ob},h.length=n->(h++t).set (n+k) o=h++t.set k o)/\(∀{d:Type} {a b:List d},(a++b).length=a.length+b.length)/\(∀{d:Type} {i:Nat} {a:d} {l:List d},(l.set i a).length=l.length)/\(∀{d:Type} (a b c:List d),a++b++c=a++(b++c))/\(∀{d:Type} {a b:d} (l:List d) {i:Nat},(l.set i a).set i b=l.set i b):=
 ⟨QE,Vc,VD,Dj,eF,Qpy,Zk,Kx,WL,λ_=>JN _⟩
end Go.Fg
namespace Go.Fg.X
open Go.Proofs Go.Fg
open Go.Proofs.Tryz
@[go_sem] def zi:Value:=.int .i64 0
@[go_sem] def zu:Value:=.int .u64 0
@[go_sem] def zh:Value:=.int .u16 0
@[go_sem] def zb:Value:=.bool false
@[go_sem] def zp:Value:=.pointer none
@[go_sem] def zc:Value:=.int .u8 0
@[go_sem] def zs:Value:=.slice none 0 0
@[go_sem] def zm:Value:=.map none
@[go_sem] def Y1:Ty:=⟨.fn,1,8,[.nilFunc]⟩
@[go_sem] def Y2:Ty:=⟨.int .i64,1,8,[zi]⟩
@[go_sem] def Y4:Ty:=⟨.bool,1,1,[zb]⟩
@[go_sem] def Y5:Ty:=⟨.int .u8,1,1,[zc]⟩
@[go_sem] def Y9:Ty:=⟨.str,1,16,[.string ByteArray.empty]⟩
@[go_sem] def Hb:Ty:=⟨.int .u64,1,8,[zu]⟩
@[go_sem] def Y17:Ty:=⟨.ptr 410,1,8,[zp]⟩
@[go_sem] def Y20:Ty:=⟨.iface,1,16,[.nilIface]⟩
@[go_sem] def Y21:Ty:=⟨.int .i32,1,4,[.int .i32 0]⟩
@[go_sem] def OA:Ty:=⟨.struct [(0,3),(1,3)],2,16,[zi,zi]⟩
@[go_sem] def Y24:Ty:=⟨.slice 67,1,24,[zs]⟩
@[go_sem] def eG:Ty:=⟨.struct [(0,23),(2,24)],3,40,[zi,zi,zs]⟩
@[go_sem] def Y27:Ty:=⟨.slice 45,1,24,[zs]⟩
@[go_sem] def Y32:Ty:=⟨.slice 82,1,24,[zs]⟩
@[go_sem] def Y33:Ty:=⟨.slice 62,1,24,[zs]⟩
@[go_sem] def eI:Ty:=⟨.struct [(0,32),(1,33)],2,48,[zs,zs]⟩
@[go_sem] def OB:Ty:=⟨.struct [(0,40),(1,40),(2,40)],3,24,[zu,zu,zu]⟩
@[go_sem] def eJ:Ty:=⟨.struct [(0,3),(1,3),(2,4),(3,43),(6,43),(9,43),(12,3),(13,3)],14,112,[zi,zi,zb,zu,zu,zu,zu,zu,zu,zu,zu,zu,zi,zi]⟩
@[go_sem] def Y49:Ty:=⟨.slice 3,1,24,[zs]⟩
@[go_sem] def eK:Ty:=⟨.struct [(0,3),(1,4)],2,16,[zi,zb]⟩
@[go_sem] def Y56:Ty:=⟨.int .u16,1,2,[zh]⟩
@[go_sem] def eL:Ty:=⟨.array 4 56,4,8,[zh,zh,zh,zh]⟩
@[go_sem] def Y60:Ty:=⟨.struct [(0,40),(1,3),(2,58)],6,24,[zu,zi,zh,zh,zh,zh]⟩
@[go_sem] def eM:Ty:=⟨.struct [(0,3),(1,4),(2,4),(3,40),(4,40),(5,3),(6,60)],12,64,[zi,zb,zb,zu,zu,zi,zu,zi,zh,zh,zh,zh]⟩
@[go_sem] def Y64:Ty:=⟨.slice 75,1,24,[zs]⟩
@[go_sem] def Y65:Ty:=⟨.slice 77,1,24,[zs]⟩
@[go_sem] def Y67:Ty:=⟨.struct [(0,3),(1,64),(2,65),(3,60),(9,40)],10,88,[zi,zs,zs,zu,zi,zh,zh,zh,zh,zu]⟩
@[go_sem] def Y71:Ty:=⟨.struct [(0,27),(1,3),(2,3)],3,40,[zs,zi,zi]⟩
@[go_sem] def Y75:Ty:=⟨.struct [(0,3),(1,45)],15,120,[zi,zi,zi,zb,zu,zu,zu,zu,zu,zu,zu,zu,zu,zi,zi]⟩
@[go_sem] def eN:Ty:=⟨.struct [(0,58),(4,58),(8,3)],9,24,[zh,zh,zh,zh,zh,zh,zh,zh,zi]⟩
@[go_sem] def Y78:Ty:=⟨.ptr 117,1,8,[zp]⟩
@[go_sem] def eO:Ty:=⟨.struct [(0,36),(1,3),(2,3)],3,24,[zi,zi,zi]⟩
@[go_sem] def Y86:Ty:=⟨.slice 89,1,24,[zs]⟩
@[go_sem] def eP:Ty:=⟨.struct [(0,40),(1,40),(2,3),(3,3),(4,4)],5,40,[zu,zu,zi,zi,zb]⟩
@[go_sem] def eQ:Ty:=⟨.array 4 40,4,32,[zu,zu,zu,zu]⟩
@[go_sem] def eR:Ty:=⟨.struct [(0,27),(1,3)],2,32,[zs,zi]⟩
@[go_sem] def Qd9:Ty:=⟨.slice 43,1,24,[zs]⟩
@[go_sem] def Qea:Ty:=⟨.ptr 146,1,8,[zp]⟩
@[go_sem] def Qeb:Ty:=⟨.ptr 151,1,8,[zp]⟩
@[go_sem] def Qec:Ty:=⟨.ptr 155,1,8,[zp]⟩
@[go_sem] def Qed:Ty:=⟨.ptr 162,1,8,[zp]⟩
@[go_sem] def eT:Ty:=⟨.struct [(0,105),(1,108),(2,111),(3,114),(4,40),(5,3)],6,48,[zp,zp,zp,zp,zu,zi]⟩
@[go_sem] def eU:Ty:=⟨.struct [(0,40),(1,3)],2,16,[zu,zi]⟩
@[go_sem] def eV:Ty:=⟨.struct [(0,40),(1,4)],2,16,[zu,zb]⟩
@[go_sem] def Qee:Ty:=⟨.ptr 194,1,8,[zp]⟩
@[go_sem] def Qef:Ty:=⟨.map 3 172,1,8,[zm]⟩
@[go_sem] def Qeg:Ty:=⟨.ptr 199,1,8,[zp]⟩
@[go_sem] def Qeh:Ty:=⟨.ptr 201,1,8,[zp]⟩
@[go_sem] def Qei:Ty:=⟨.map 3 141,1,8,[zm]⟩
@[go_sem] def Qej:Ty:=⟨.ptr 206,1,8,[zp]⟩
@[go_sem] def Qek:Ty:=⟨.struct [(0,23),(2,136),(3,138),(4,144),(5,139),(6,143),(7,40),(8,40)],9,72,[zi,zi,zp,zm,zp,zp,zm,zu,zu]⟩
@[go_sem] def Qel:Ty:=⟨.struct [(0,149),(3,3),(4,40)],5,40,[zu,zu,zu,zi,zu]⟩
@[go_sem] def Qem:Ty:=⟨.map 58 3,1,8,[zm]⟩
@[go_sem] def Qen:Ty:=⟨.struct [(0,65),(1,153),(2,49)],3,56,[zs,zm,zs]⟩
@[go_sem] def Qeo:Ty:=⟨.map 3 187,1,8,[zm]⟩
@[go_sem] def Qep:Ty:=⟨.map 3 293,1,8,[zm]⟩
@[go_sem] def Qeq:Ty:=⟨.struct [(0,159),(1,160)],2,16,[zm,zm]⟩
@[go_sem] def Qer:Ty:=⟨.ptr 234,1,8,[zp]⟩
@[go_sem] def Qes:Ty:=⟨.slice 40,1,24,[zs]⟩
@[go_sem] def Qet:Ty:=⟨.map 3 45,1,8,[zm]⟩
@[go_sem] def Qeu:Ty:=⟨.struct [(0,192)],1,8,[zm]⟩
@[go_sem] def Qev:Ty:=⟨.ptr 255,1,8,[zp]⟩
@[go_sem] def Qew:Ty:=⟨.map 3 327,1,8,[zm]⟩
@[go_sem] def eW:Ty:=⟨.struct [(0,195),(1,197)],2,16,[zp,zm]⟩
@[go_sem] def Qex:Ty:=⟨.map 3 209,1,8,[zm]⟩
@[go_sem] def Qey:Ty:=⟨.map 3 3,1,8,[zm]⟩
@[go_sem] def Qez:Ty:=⟨.map 3 203,1,8,[zm]⟩
@[go_sem] def QeA:Ty:=⟨.struct [(0,202),(1,203),(2,204)],3,24,[zm,zm,zm]⟩
@[go_sem] def QeB:Ty:=⟨.ptr 273,1,8,[zp]⟩
@[go_sem] def QeC:Ty:=⟨.struct [(0,40),(1,40)],2,16,[zu,zu]⟩
@[go_sem] def QeD:Ty:=⟨.struct [(0,40),(1,222),(3,40)],4,32,[zu,zu,zu,zu]⟩
@[go_sem] def QeE:Ty:=⟨.struct [(0,224),(4,224),(8,4)],9,72,[zu,zu,zu,zu,zu,zu,zu,zu,zb]⟩
@[go_sem] def QeF:Ty:=⟨.struct [(0,4),(1,226),(10,226),(19,40),(20,40),(21,40)],22,176,[zb,zu,zu,zu,zu,zu,zu,zu,zu,zb,zu,zu,zu,zu,zu,zu,zu,zu,zb,zu,zu,zu]⟩
@[go_sem] def eX:Ty:=⟨.struct [(0,4),(1,226),(10,40)],11,88,[zb,zu,zu,zu,zu,zu,zu,zu,zu,zb,zu]⟩
@[go_sem] def QeG:Ty:=⟨.struct [(0,220),(1,45),(15,40),(16,228),(38,230),(49,232)],60,480,[zp,zi,zi,zb,zu,zu,zu,zu,zu,zu,zu,zu,zu,zi,zi,zu,zb,zu,zu,zu,zu,zu,zu,zu,zu,zb,zu,zu,zu,zu,zu,zu,zu,zu,zb,zu,zu,zu,zb,zu,zu,zu,zu,zu,zu,zu,zu,zb,zu,zb,zu,zu,zu,zu,zu,zu,zu,zu,zb,zu]⟩
@[go_sem] def QeH:Ty:=⟨.struct [(0,3),(1,60),(7,4)],8,40,[zi,zu,zi,zh,zh,zh,zh,zb]⟩
@[go_sem] def QeI:Ty:=⟨.ptr 364,1,8,[zp]⟩
@[go_sem] def QeJ:Ty:=⟨.struct [(0,253)],1,8,[zp]⟩
@[go_sem] def QeK:Ty:=⟨.slice 49,1,24,[zs]⟩
@[go_sem] def QeL:Ty:=⟨.ptr 318,1,8,[zp]⟩
@[go_sem] def QeM:Ty:=⟨.struct [(0,40),(1,40),(2,40),(3,40),(4,40),(5,40)],6,48,[zu,zu,zu,zu,zu,zu]⟩
@[go_sem] def QeN:Ty:=⟨.struct [(0,269),(1,3),(2,3),(3,271)],9,72,[zp,zi,zi,zu,zu,zu,zu,zu,zu]⟩
@[go_sem] def QeO:Ty:=⟨.struct [(0,40),(1,40),(2,40),(3,40),(4,40)],5,40,[zu,zu,zu,zu,zu]⟩
@[go_sem] def QeP:Ty:=⟨.int .u32,1,4,[.int .u32 0]⟩
@[go_sem] def QeQ:Ty:=⟨.slice 60,1,24,[zs]⟩
@[go_sem] def QeR:Ty:=⟨.struct [(0,316),(1,3),(2,3)],3,40,[zs,zi,zi]⟩
@[go_sem] def QeS:Ty:=⟨.struct [(0,325),(2,325)],4,32,[zu,zi,zu,zi]⟩
@[go_sem] def QeT:Ty:=⟨.ptr 149,1,8,[zp]⟩
@[go_sem] def QeU:Ty:=⟨.array 3 43,9,72,[zu,zu,zu,zu,zu,zu,zu,zu,zu]⟩
@[go_sem] def QeV:Ty:=⟨.ptr 3,1,8,[zp]⟩
@[go_sem] def QeW:Ty:=⟨.array 2 253,2,16,[zp,zp]⟩
@[go_sem] def QeX:Ty:=⟨.struct [(0,327),(4,362),(6,327),(10,3),(11,3)],12,96,[zu,zi,zu,zi,zp,zp,zu,zi,zu,zi,zi,zi]⟩
@[go_sem] def QeY:Ty:=⟨.array 2 224,8,64,[zu,zu,zu,zu,zu,zu,zu,zu]⟩
@[go_sem] def QeZ:Ty:=⟨.ptr 351,1,8,[zp]⟩
def lay:Jf:=[(1,Y1),(2,Y2),(3,Y2),(4,Y4),(5,Y5),(9,Y9),(12,Hb),(17,Y17),(20,Y20),(21,Y21),(22,OA),(23,OA),(24,Y24),(25,eG),(26,eG),(27,Y27),(29,Y1),(30,Y1),(31,Y1),(32,Y32),(33,Y33),(34,eI),(35,eI),(36,Y2),(38,Y1),(39,Y1),(40,Hb),(41,Y1),(42,OB),(43,OB),(44,eJ),(45,eJ),(46,Y1),(48,Y1),(49,Y49),(50,Y1),(51,Y1),(52,eK),(53,eK),(54,Y1),(55,Y1),(56,Y56),(57,eL),(58,eL),(60,Y60),(61,eM),(62,eM),(63,Y1),(64,Y64),(65,Y65),(67,Y67),(71,Y71),(73,Y1),(75,Y75),(76,eN),(77,eN),(78,Y78),(81,eO),(82,eO),(84,Y1),(86,Y86),(88,eP),(89,eP),(90,eQ),(91,eQ),(94,Y1),(97,Y1),(98,Y1),(99,eR),(100,eR),(101,Y1),(102,Y1),(103,Qd9),(104,Y1),(105,Qea),(108,Qeb),(110,Y1),(111,Qec),(114,Qed),(116,eT),(117,eT),(118,Y1),(121,Y1),(122,Y1),(128,eU),(133,eV),(134,eV),(135,Y1),(136,Qee),(138,Qef),(139,Qeg),(141,Qeh),(143,Qei),(144,Qej),(146,Qek),(149,OB),(151,Qel),(153,Qem),(155,Qen),(159,Qeo),(160,Qep),(162,Qeq),(167,Y1),(168,Y1),(172,Qer),(187,Qes),(192,Qet),(194,Qeu),(195,Qev),(197,Qew),(199,eW),(201,eW),(202,Qex),(203,Qey),(204,Qez),(206,QeA),(207,Y1),(209,OA),(220,QeB),(222,QeC),(224,QeD),(226,QeE),(228,QeF),(230,eX),(232,eX),(234,QeG),(243,QeH),(253,QeI),(255,QeJ),(257,Y1),(263,QeK),(267,Hb),(269,QeL),(271,QeM),(273,QeN),(293,QeO),(296,Y2),(306,Y2),(314,QeP),(316,QeQ),(318,QeR),(319,Y1),(325,eU),(327,QeS),(338,QeT),(342,QeU),(350,Y1),(351,Hb),(354,QeV),(362,QeW),(364,QeX),(365,Y1),(368,QeY),(374,QeZ)]
def Qe0{P:Program}:∀{L:Jf},L.map (λp=>(P.underlying p.1).map TK.of)=L.map (λp=>some p.2.k)->L.map (λp=>(P.info? p.1).map λi=>(i.size,i.bytes,i.zero.map λz=>z.cells.toList))=L.map (λp=>some (p.2.size,p.2.bytes,some p.2.zero))->L.map (λp=>((P.info? p.1).bind (·.zero)).map bC)=L.map (λp=>some p.2.k.agg)->Z8 P L
 | [],_,_,_=>.nil _
 | (_,_)::_,c,b,a=>.cons ⟨(wQ c).1,(wQ b).1,(wQ a).1⟩ (Qe0 (wQ c).2 (wQ b).2 (wQ a).2)
def BS:Z8 prog lay:=Qe0 τ τ τ
theorem L1:ty lay 1=some Y1:=rfl
theorem L2:ty lay 2=some Y2:=rfl
theorem L3:ty lay 3=some Y2:=rfl
theorem L4:ty lay 4=some Y4:=rfl
theorem L5:ty lay 5=some Y5:=rfl
theorem L9:ty lay 9=some Y9:=rfl
theorem L12:ty lay 12=some Hb:=rfl
theorem L17:ty lay 17=some Y17:=rfl
theorem L20:ty lay 20=some Y20:=rfl
theorem L21:ty lay 21=some Y21:=rfl
theorem L22:ty lay 22=some OA:=rfl
theorem L23:ty lay 23=some OA:=rfl
theorem L24:ty lay 24=some Y24:=rfl
theorem L25:ty lay 25=some eG:=rfl
theorem L26:ty lay 26=some eG:=rfl
theorem L27:ty lay 27=some Y27:=rfl
theorem L29:ty lay 29=some Y1:=rfl
theorem L30:ty lay 30=some Y1:=rfl
theorem L31:ty lay 31=some Y1:=rfl
theorem L32:ty lay 32=some Y32:=rfl
theorem L33:ty lay 33=some Y33:=rfl
theorem L34:ty lay 34=some eI:=rfl
theorem L35:ty lay 35=some eI:=rfl
theorem L36:ty lay 36=some Y2:=rfl
theorem L38:ty lay 38=some Y1:=rfl
theorem L39:ty lay 39=some Y1:=rfl
theorem L40:ty lay 40=some Hb:=rfl
theorem L41:ty lay 41=some Y1:=rfl
theorem L42:ty lay 42=some OB:=rfl
theorem L43:ty lay 43=some OB:=rfl
theorem L44:ty lay 44=some eJ:=rfl
theorem L45:ty lay 45=some eJ:=rfl
theorem L46:ty lay 46=some Y1:=rfl
theorem L48:ty lay 48=some Y1:=rfl
theorem L49:ty lay 49=some Y49:=rfl
theorem L50:ty lay 50=some Y1:=rfl
theorem L51:ty lay 51=some Y1:=rfl
theorem L52:ty lay 52=some eK:=rfl
theorem L53:ty lay 53=some eK:=rfl
theorem L54:ty lay 54=some Y1:=rfl
theorem L55:ty lay 55=some Y1:=rfl
theorem L56:ty lay 56=some Y56:=rfl
theorem L57:ty lay 57=some eL:=rfl
theorem L58:ty lay 58=some eL:=rfl
theorem L60:ty lay 60=some Y60:=rfl
theorem L61:ty lay 61=some eM:=rfl
theorem L62:ty lay 62=some eM:=rfl
theorem L63:ty lay 63=some Y1:=rfl
theorem L64:ty lay 64=some Y64:=rfl
theorem L65:ty lay 65=some Y65:=rfl
theorem L67:ty lay 67=some Y67:=rfl
theorem L71:ty lay 71=some Y71:=rfl
theorem L73:ty lay 73=some Y1:=rfl
theorem L75:ty lay 75=some Y75:=rfl
theorem L76:ty lay 76=some eN:=rfl
theorem L77:ty lay 77=some eN:=rfl
theorem L78:ty lay 78=some Y78:=rfl
theorem L81:ty lay 81=some eO:=rfl
theorem L82:ty lay 82=some eO:=rfl
theorem L84:ty lay 84=some Y1:=rfl
theorem L86:ty lay 86=some Y86:=rfl
theorem L88:ty lay 88=some eP:=rfl
theorem L89:ty lay 89=some eP:=rfl
theorem L90:ty lay 90=some eQ:=rfl
theorem L91:ty lay 91=some eQ:=rfl
theorem L94:ty lay 94=some Y1:=rfl
theorem L97:ty lay 97=some Y1:=rfl
theorem L98:ty lay 98=some Y1:=rfl
theorem L99:ty lay 99=some eR:=rfl
theorem QqB:ty lay 100=some eR:=rfl
theorem QqC:ty lay 101=some Y1:=rfl
theorem QqD:ty lay 102=some Y1:=rfl
theorem QqE:ty lay 103=some Qd9:=rfl
theorem QqF:ty lay 104=some Y1:=rfl
theorem QqG:ty lay 105=some Qea:=rfl
theorem QqH:ty lay 108=some Qeb:=rfl
theorem QqI:ty lay 110=some Y1:=rfl
theorem QqJ:ty lay 111=some Qec:=rfl
theorem QqK:ty lay 114=some Qed:=rfl
theorem QqL:ty lay 116=some eT:=rfl
theorem QqM:ty lay 117=some eT:=rfl
theorem QqN:ty lay 118=some Y1:=rfl
theorem QqO:ty lay 121=some Y1:=rfl
theorem QqP:ty lay 122=some Y1:=rfl
theorem QqQ:ty lay 128=some eU:=rfl
theorem QqR:ty lay 133=some eV:=rfl
theorem QqS:ty lay 134=some eV:=rfl
theorem QqT:ty lay 135=some Y1:=rfl
theorem QqU:ty lay 136=some Qee:=rfl
theorem QqV:ty lay 138=some Qef:=rfl
theorem QqW:ty lay 139=some Qeg:=rfl
theorem QqX:ty lay 141=some Qeh:=rfl
theorem QqY:ty lay 143=some Qei:=rfl
theorem QqZ:ty lay 144=some Qej:=rfl
theorem Qq0:ty lay 146=some Qek:=rfl
theorem Qq1:ty lay 149=some OB:=rfl
theorem Qq2:ty lay 151=some Qel:=rfl
theorem Qq3:ty lay 153=some Qem:=rfl
theorem Qq4:ty lay 155=some Qen:=rfl
theorem Qq5:ty lay 159=some Qeo:=rfl
theorem Qq6:ty lay 160=some Qep:=rfl
theorem Qq7:ty lay 162=some Qeq:=rfl
theorem Qq8:ty lay 167=some Y1:=rfl
theorem Qq9:ty lay 168=some Y1:=rfl
theorem Qra:ty lay 172=some Qer:=rfl
theorem Qrb:ty lay 187=some Qes:=rfl
theorem Qrc:ty lay 192=some Qet:=rfl
theorem Qrd:ty lay 194=some Qeu:=rfl
theorem Qre:ty lay 195=some Qev:=rfl
theorem Qrf:ty lay 197=some Qew:=rfl
theorem Qrg:ty lay 199=some eW:=rfl
theorem Qrh:ty lay 201=some eW:=rfl
theorem Qri:ty lay 202=some Qex:=rfl
theorem Qrj:ty lay 203=some Qey:=rfl
theorem Qrk:ty lay 204=some Qez:=rfl
theorem Qrl:ty lay 206=some QeA:=rfl
theorem Qrm:ty lay 207=some Y1:=rfl
theorem Qrn:ty lay 209=some OA:=rfl
theorem Qro:ty lay 220=some QeB:=rfl
theorem Qrp:ty lay 222=some QeC:=rfl
theorem Qrq:ty lay 224=some QeD:=rfl
theorem Qrr:ty lay 226=some QeE:=rfl
theorem Qrs:ty lay 228=some QeF:=rfl
theorem Qrt:ty lay 230=some eX:=rfl
theorem Qru:ty lay 232=some eX:=rfl
theorem Qrv:ty lay 234=some QeG:=rfl
theorem Qrw:ty lay 243=some QeH:=rfl
theorem Qrx:ty lay 253=some QeI:=rfl
theorem Qry:ty lay 255=some QeJ:=rfl
theorem Qrz:ty lay 257=some Y1:=rfl
theorem QrA:ty lay 263=some QeK:=rfl
theorem QrB:ty lay 267=some Hb:=rfl
theorem QrC:ty lay 269=some QeL:=rfl
theorem QrD:ty lay 271=some QeM:=rfl
theorem QrE:ty lay 273=some QeN:=rfl
theorem QrF:ty lay 293=some QeO:=rfl
theorem QrG:ty lay 296=some Y2:=rfl
theorem QrH:ty lay 306=some Y2:=rfl
theorem QrI:ty lay 314=some QeP:=rfl
theorem QrJ:ty lay 316=some QeQ:=rfl
theorem QrK:ty lay 318=some QeR:=rfl
theorem QrL:ty lay 319=some Y1:=rfl
theorem QrM:ty lay 325=some eU:=rfl
theorem QrN:ty lay 327=some QeS:=rfl
theorem QrO:ty lay 338=some QeT:=rfl
theorem QrP:ty lay 342=some QeU:=rfl
theorem QrQ:ty lay 350=some Y1:=rfl
theorem QrR:ty lay 351=some Hb:=rfl
theorem QrS:ty lay 354=some QeV:=rfl
theorem QrT:ty lay 362=some QeW:=rfl
theorem QrU:ty lay 364=some QeX:=rfl
theorem QrV:ty lay 365=some Y1:=rfl
theorem QrW:ty lay 368=some QeY:=rfl
theorem QrX:ty lay 374=some QeZ:=rfl
def Lw:CY:=[(43,[0,0,0]),(45,[0,0,1,0,0,0,0,0,0,0,0,0,0,0]),(58,[0,0,0,0]),(222,[0,0]),(325,[0,0])]
def Qe1{P:Program}:∀{E:CY},E.map (λp=>qy P 60 p.1)=E.map (λp=>some p.2)->E.map (λp=>P.eqGuardType P.depth p.1)=E.map (λ_=>false)->E.map (λp=>match P.underlying p.1 with|some (.struct _)|some (.array _ _)=>true|_=>false)=E.map (λ_=>true)->An P E
 | [],_,_,_=>.nil _
 | (_,_)::_,c,b,a=>.cons ⟨(wQ c).1,(wQ b).1,(wQ a).1⟩ (Qe1 (wQ c).2 (wQ b).2 (wQ a).2)
def QrY:An prog Lw:=Qe1 τ τ τ
theorem E43:Bx Lw 43=some [0,0,0]:=rfl
theorem E45:Bx Lw 45=some [0,0,1,0,0,0,0,0,0,0,0,0,0,0]:=rfl
theorem E58:Bx Lw 58=some [0,0,0,0]:=rfl
theorem Qr2:Bx Lw 222=some [0,0]:=rfl
theorem Qr3:Bx Lw 325=some [0,0]:=rfl
def cx:Cx:=⟨lay,Lw⟩
def Vd:qz prog cx:=⟨BS,QrY⟩
def o8:Qm prog 6:=call6
def o9:Qm prog 7:=call7
def pc:Qm prog 8:=call8
def fn9:Qm prog 9:=call9
def xo:Qm prog 12:=call12
def Qr4:Qm prog 14:=call14
def yo:Qm prog 15:=call15
def Qr5:Qm prog 16:=call16
def Qr6:Qm prog 20:=call20
def Qe3:Qm prog 21:=call21
def Qr7:Qm prog 22:=call22
def Qr8:Qm prog 23:=call23
def Qr9:Qm prog 24:=call24
def Qsa:Qm prog 25:=call25
def Qsb:Qm prog 26:=call26
def OC:Qm prog 27:=call27
def Qe4:Qm prog 29:=call29
def pe:Qm prog 31:=call31
def pf:Qm prog 32:=call32
def Qe5:Qm prog 33:=call33
def eY:Qm prog 34:=call34
def eZ:Qm prog 35:=call35
def Qsc:Qm prog 36:=call36
def Qsd:Qm prog 37:=call37
def Qse:Qm prog 38:=call38
def Qsf:Qm prog 39:=call39
def Qsg:Qm prog 40:=call40
def pg:Qm prog 41:=call41
def Qsh:Qm prog 42:=call42
def Qe6:Qm prog 43:=call43
def Qsi:Qm prog 44:=call44
def fa:Qm prog 45:=call45
def Qsj:Qm prog 46:=call46
def Qsk:Qm prog 47:=call47
def BT:Qm prog 48:=call48
def BU:Qm prog 49:=call49
def Qe7:Qm prog 51:=call51
def Qsl:Qm prog 52:=call52
def EZ:Qm prog 53:=call53
def fc:Qm prog 54:=call54
def fe:Qm prog 55:=call55
def Qsm:Qm prog 56:=call56
def Qsn:Qm prog 57:=call57
def Qso:Qm prog 58:=call58
def fg:Qm prog 59:=call59
def Qe8:Qm prog 60:=call60
def Qsp:Qm prog 61:=call61
def Qsq:Qm prog 62:=call62
def Qe9:Qm prog 63:=call63
def Qfa:Qm prog 64:=call64
def Qsr:Qm prog 65:=call65
def ph:Qm prog 66:=call66
def Qfb:Qm prog 67:=call67
def Qss:Qm prog 68:=call68
def Qfc:Qm prog 69:=call69
def SN:Qm prog 70:=call70
def Qst:Qm prog 71:=call71
def pn:Qm prog 72:=call72
def po:Qm prog 73:=call73
def vX:Qm prog 74:=call74
def Qsu:Qm prog 75:=call75
def pq:Qm prog 76:=call76
def Qfd:Qm prog 77:=call77
def Qsv:Qm prog 78:=call78
def Qsw:Qm prog 79:=call79
def Qfe:Qm prog 80:=call80
def Qsx:Qm prog 81:=call81
def Qsy:Qm prog 82:=call82
def Qsz:Qm prog 83:=call83
def fh:Qm prog 84:=call84
def fi:Qm prog 85:=call85
def pw:Qm prog 86:=call86
def pz:Qm prog 87:=call87
def QsA:Qm prog 88:=call88
def Qff:Qm prog 89:=call89
def QsB:Qm prog 90:=call90
def QsC:Qm prog 91:=call91
def Qfg:Qm prog 92:=call92
def pA:Qm prog 93:=call93
def vY:Qm prog 94:=call94
def QsD:Qm prog 95:=call95
def QsE:Qm prog 96:=call96
def QsF:Qm prog 97:=call97
def QsG:Qm prog 98:=call98
def QsH:Qm prog 99:=call99
def fj:Qm prog 100:=call100
def Qfh:Qm prog 101:=call101
def SO:Qm prog 102:=call102
def QsI:Qm prog 103:=call103
def QsJ:Qm prog 104:=call104
def fk:Qm prog 105:=call105
def QsK:Qm prog 106:=call106
def Dl:Qm prog 107:=call107
def Qfi:Qm prog 108:=call108
def QsL:Qm prog 109:=call109
def QsM:Qm prog 110:=call110
def OD:Qm prog 111:=call111
def QsN:Qm prog 112:=call112
def SQ:Qm prog 113:=call113
def fm:Qm prog 114:=call114
def Qfj:Qm prog 115:=call115
def QsO:Qm prog 116:=call116
def QsP:Qm prog 117:=call117
def QsQ:Qm prog 118:=call118
def QsR:Qm prog 119:=call119
def QsS:Qm prog 120:=call120
def QsT:Qm prog 121:=call121
def QsU:Qm prog 122:=call122
def QsV:Qm prog 123:=call123
def pB:Qm prog 124:=call124
def QsW:Qm prog 125:=call125
def QsX:Qm prog 126:=call126
def fo:Qm prog 127:=call127
def QsY:Qm prog 128:=call128
def fp:Qm prog 129:=call129
def QsZ:Qm prog 130:=call130
def Qs0:Qm prog 131:=call131
def Qs1:Qm prog 132:=call132
def Qs2:Qm prog 133:=call133
def Qs3:Qm prog 134:=call134
def fq:Qm prog 135:=call135
def Qfk:Qm prog 136:=call136
def Qfl:Qm prog 137:=call137
def Qfm:Qm prog 139:=call139
def Qs4:Qm prog 140:=call140
def Qs5:Qm prog 141:=call141
def Qs6:Qm prog 142:=call142
def Qs7:Qm prog 143:=call143
def Qs8:Qm prog 144:=call144
def Qs9:Qm prog 145:=call145
def Qfn:Qm prog 146:=call146
def Qta:Qm prog 147:=call147
def Qtb:Qm prog 148:=call148
def Qtc:Qm prog 149:=call149
def pC:Qm prog 150:=call150
def Qtd:Qm prog 151:=call151
def Qte:Qm prog 152:=call152
def Qtf:Qm prog 153:=call153
def pD:Qm prog 154:=call154
def Qtg:Qm prog 155:=call155
def Qth:Qm prog 156:=call156
def Qti:Qm prog 157:=call157
def Qtj:Qm prog 158:=call158
def Qtk:Qm prog 159:=call159
def Qtl:Qm prog 160:=call160
def Qtm:Qm prog 161:=call161
def Qtn:Qm prog 162:=call162
def Qfo:Qm prog 163:=call163
def Qto:Qm prog 164:=call164
def E0:Qm prog 165:=call165
def Qfp:Qm prog 167:=call167
def ft:Qm prog 168:=call168
def OE:Qm prog 169:=call169
def Qtp:Qm prog 170:=call170
def pE:Qm prog 171:=call171
def Qtq:Qm prog 172:=call172
def Qtr:Qm prog 173:=call173
def OF:Qm prog 174:=call174
def Qts:Qm prog 175:=call175
def Qtt:Qm prog 176:=call176
def Qtu:Qm prog 177:=call177
def Qfq:Qm prog 178:=call178
def Qtv:Qm prog 179:=call179
def Qtw:Qm prog 180:=call180
def Qtx:Qm prog 191:=call191
def Qfr:Qm prog 192:=call192
def pF:Qm prog 193:=call193
def Qfs:Qm prog 194:=call194
def fu:Qm prog 195:=call195
def fv:Qm prog 196:=call196
def pG:Qm prog 197:=call197
def Qft:Qm prog 198:=call198
def pH:Qm prog 199:=call199
def Qfu:Qm prog 200:=call200
def pI:Qm prog 201:=call201
def Qfv:Qm prog 202:=call202
def BV:Qm prog 203:=call203
def pJ:Qm prog 204:=call204
def Qty:Qm prog 205:=call205
def Qtz:Qm prog 206:=call206
def QtA:Qm prog 207:=call207
def QtB:Qm prog 208:=call208
def QtC:Qm prog 209:=call209
def fw:Qm prog 210:=call210
def QtD:Qm prog 211:=call211
def Qfw:Qm prog 212:=call212
def QtE:Qm prog 213:=call213
def Qfx:Qm prog 214:=call214
def QtF:Qm prog 215:=call215
def pK:Qm prog 216:=call216
def fx:Qm prog 217:=call217
def jH:Qm prog 218:=call218
def Qfy:Qm prog 219:=call219
def Qfz:Qm prog 220:=call220
def fy:Qm prog 221:=call221
def QfA:Qm prog 222:=call222
def QtG:Qm prog 223:=call223
def QtH:Qm prog 224:=call224
def QtI:Qm prog 225:=call225
def QtJ:Qm prog 226:=call226
def pL:Qm prog 227:=call227
def QtK:Qm prog 228:=call228
def QfB:Qm prog 229:=call229
def QtL:Qm prog 230:=call230
def QtM:Qm prog 231:=call231
def QtN:Qm prog 232:=call232
def QfC:Qm prog 233:=call233
def QtO:Qm prog 235:=call235
def QtP:Qm prog 236:=call236
def QfD:Qm prog 240:=call240
def SR:Qm prog 241:=call241
def pM:Qm prog 242:=call242
def QfE:Qm prog 243:=call243
def SS:Qm prog 244:=call244
def QtQ:Qm prog 245:=call245
def Dm:Qm prog 246:=call246
def QfF:Qm prog 247:=call247
def QfG:Qm prog 248:=call248
def QtR:Qm prog 249:=call249
def QtS:Qm prog 250:=call250
def QfH:Qm prog 251:=call251
def QtT:Qm prog 252:=call252
def fA:Qm prog 253:=call253
def QfI:Qm prog 254:=call254
def QfJ:Qm prog 255:=call255
def OG:Qm prog 256:=call256
def pN:Qm prog 257:=call257
def QfK:Qm prog 259:=call259
def QfL:Qm prog 260:=call260
def QtU:Qm prog 261:=call261
def QfM:Qm prog 262:=call262
def pO:Qm prog 263:=call263
def kQ:Qm prog 264:=call264
def E6:Qm prog 265:=call265
def pP:Qm prog 266:=call266
def QtV:Qm prog 267:=call267
def QfN:Qm prog 268:=call268
def pQ:Qm prog 269:=call269
def QtW:Qm prog 270:=call270
def QtX:Qm prog 271:=call271
def QtY:Qm prog 272:=call272
def QtZ:Qm prog 273:=call273
def Qt0:Qm prog 274:=call274
def Qt1:Qm prog 275:=call275
def Qt2:Qm prog 276:=call276
def Qt3:Qm prog 277:=call277
def OH:Qm prog 278:=call278
def QfO:Qm prog 279:=call279
def QfP:Qm prog 280:=call280
def QfQ:Qm prog 281:=call281
def QfR:Qm prog 282:=call282
def pR:Qm prog 283:=call283
def pS:Qm prog 284:=call284
def pT:Qm prog 285:=call285
attribute [go_sem] cx L1 L2 L3 L4 L5 L9 L12 L17 L20 L21 L22 L23 L24 L25 L26 L27 L29 L30 L31 L32 L33 L34 L35 L36 L38 L39 L40 L41 L42 L43 L44 L45 L46 L48 L49 L50 L51 L52 L53 L54 L55 L56 L57 L58 L60 L61 L62 L63 L64 L65 L67 L71 L73 L75 L76 L77 L78 L81 L82 L84 L86 L88 L89 L90 L91 L94 L97 L98 L99 QqB QqC QqD QqE QqF QqG QqH QqI QqJ QqK QqL QqM QqN QqO QqP QqQ QqR QqS QqT QqU QqV QqW QqX QqY QqZ Qq0 Qq1 Qq2 Qq3 Qq4 Qq5 Qq6 Qq7 Qq8 Qq9 Qra Qrb Qrc Qrd Qre Qrf Qrg Qrh Qri Qrj Qrk Qrl Qrm Qrn Qro Qrp Qrq Qrr Qrs Qrt Qru Qrv Qrw Qrx Qry Qrz QrA QrB QrC QrD QrE QrF QrG QrH QrI QrJ QrK QrL QrM QrN QrO QrP QrQ QrR QrS QrT QrU QrV QrW QrX E43 E45 E58 Qr2 Qr3
def Qh{a c}{b:Start}{Q}{k}{s}(d:a<=b.w.heap.size)(h:hx prog a b Q cx c 200 k s):Qz prog a c b Q k .normal s:=EV Vd d 200 h
def ZT{a c}{b:Start}{K}{l}{s}(d:a<=b.w.heap.size)(h:K8 prog a b cx c K l s):AX prog a c b K l s:=Qpc Vd d h
end Go.Fg.X
namespace Go.Fg
open Go.RowKit (Below)
def Rd(P:Program)(t:TypeId){f:Type}(g:f->Prop)(b:f->List D):Prop:=
 ∀{H:Type} {h:TypeId × Value->H} {w:World} {d:Nat} {c:Bool} (m:Nat) (e:List Value) (x:DataW H × List MemPlace),DataW.trod h P w d (λ_=>true) c m t e=some x ->
  ∃a,g a/\(b a).length=e.length/\∀j,j<e.length->Cl (λ_=>True) w (nth (b a) j) (Q6 e j)
def Rd.int{P:Program}{t:TypeId}(k)(d:P.underlying t=some (.int k)):Rd P t (λn:Int=>(Lit.int k n).wf=true) (λn=>[.raw (.int k n)]):=by
 intro H f w b a m g x h;obtain⟨n,rfl,_,c⟩:=DataW.trod_int d h;refine⟨n,c,rfl,λj e=>?_⟩;obtain rfl:j=0:=by simpa using e
 exact .raw _
def Rd.bool{P:Program}{t:TypeId}(c:P.underlying t=some .bool):Rd P t (λ_:Bool=>True) (λn=>[.raw (.bool n)]):=by
 intro H e w b a m f x h;obtain⟨n,rfl,_⟩:=DataW.trod_bool c h;refine⟨n,trivial,rfl,λj d=>?_⟩;obtain rfl:j=0:=by simpa using d
 exact .raw _
def Rd.map{P}{t:TypeId}{l k:Type}{d}{b}(r:Rd P t d b)(g:l->k){f}{c}(e:∀a,c (g a)=b a)(n:∀a,d a->f (g a)):Rd P t f c:=by
 intro H u w j i m s x h;obtain⟨a,q,p,o⟩:=r m s x h;exact⟨g a,n a q,by rw[e];exact p,by rw[e];exact o⟩
def KP(P:Program)(l:List Field)(b h:Nat){i:Type}(k:i->Prop)(c:i->List D):Prop:=
 ∀{H:Type} {n:TypeId × Value->H} {w:World} {e:Nat} {d:Bool} (m:Nat) (g:List Value),g.length=h ->
  (∀f∈l,∃x,DataW.trod n P w e (λ_=>true) d m f.type ((g.drop f.offset).take (P.cellsOf f.type))=some x) ->
  ∃a,k a/\b+(c a).length=h/\∀j,b+j<h->Cl (λ_=>True) w (nth (c a) j) (Q6 g (b+j))
def KP.nil{P}{a}:KP P [] a a (λ_:Unit=>True) (λ_=>[]):=by
 intro H f w c b m g d h;exact⟨(),trivial,rfl,λj e=>ω⟩
def KP.cons{P}{f:Field}{t}{d l p}{E C:Type}{q}{c}{y}{e}(r:Rd P f.type q c)(F:KP P t l p y e)
  (I:f.offset=d) (S:d+P.cellsOf f.type=l) (Q:l<=p):KP P (f::t) d p (λi:E × C=>q i.1/\y i.2) (λi=>c i.1++e i.2):=by
 intro H T w B z m n J h;obtain⟨x,hx⟩:=h f σ;obtain⟨a,O,v,u⟩:=r m _ x hx;obtain⟨b,N,U,M⟩:=F m n J λg K=>h g (by simp[K]);have k:((n.drop f.offset).take (P.cellsOf f.type)).length=P.cellsOf f.type:=ξ;rw[k]at v u;refine⟨(a,b),⟨O,N⟩,ξ,λj R=>?_⟩;by_cases s:j<P.cellsOf f.type;have:=u j s;have o:nth (c a++e b) j=nth (c a) j:=nT ω;have L:Q6 ((n.drop f.offset).take (P.cellsOf f.type)) j=Q6 n (d+j):=by
  simp only[Q6,QW,XB,Qd s,Gr,I]
 show Cl _ w (nth (c a++e b) j) _;rw[o,<- L];exact this;have o:nth (c a++e b) j=nth (e b) (j-P.cellsOf f.type):=by rw[nU ω,v]
 have:=M (j-P.cellsOf f.type) ω;show Cl _ w (nth (c a++e b) j) _;rw[o,show d+j=l+(j-P.cellsOf f.type) by omega];exact this
def Rd.struct{P:Program}{t:TypeId}{c:Array Field}{QT:Nat}{e:Type}{k:e->Prop}{b:e->List D}(s:P.underlying t=some (.struct c))(F:P.cellsOf t=QT)(r:KP P c.toList 0 QT k b):Rd P t k b:=by
 intro H I w o n m y x h;obtain⟨g,p,rfl,_,C,q,v⟩:=DataW.trod_struct s h;obtain⟨a,B,J,z⟩:=r p y ω λf d=>by
  obtain⟨i,u⟩:=Gs d;have l:c[i]?=some f:=by simpa using u
  have Qb:i<g.length:=by rw[q];exact(WK.1 l).1
  exact⟨g[i],by rw[v i f l];exact QJ Qb⟩
 exact⟨a,B,ω,λj E=>by have:=z j ω;rwa [Jz]at this⟩
def Y3(P:Program)(e:TypeId)(i n:Nat){g:Type}(h:g->Prop)(b:g->List D):Prop:=
 ∀{H:Type} {l:TypeId × Value->H} {w:World} {d:Nat} {c:Bool} (m:Nat) (f:List Value),f.length=n*P.cellsOf e ->
  (∀k,k<n->∃x,DataW.trod l P w d (λ_=>true) c m e ((f.drop (k*P.cellsOf e)).take (P.cellsOf e))=some x) ->
  ∃a,h a/\i*P.cellsOf e+(b a).length=n*P.cellsOf e/\∀j,i*P.cellsOf e+j<n*P.cellsOf e->Cl (λ_=>True) w (nth (b a) j) (Q6 f (i*P.cellsOf e+j))
def Y3.nil{P}{e:TypeId}{n}:Y3 P e n n (λ_:Unit=>True) (λ_=>[]):=by
 intro H f w b a m g c h;exact⟨(),trivial,rfl,λj d=>ω⟩
def Y3.cons{P}{e:TypeId}{i n}{C B:Type}{o}{c}{v}{d}(p:i<n)(r:Rd P e o c)(E:Y3 P e (i+1) n v d):
  Y3 P e i n (λf:C × B=>o f.1/\v f.2) (λf=>c f.1++d f.2):=by
 intro H O w z y m k I h;obtain⟨x,hx⟩:=h i p;obtain⟨a,M,u,t⟩:=r m _ x hx;obtain⟨b,L,K,s⟩:=E m k I h;have F:=XC (P.cellsOf e) (show i+1<=n from p);rw[VM,NG]at F;rw[VM,NG]at K s;have g:((k.drop (i*P.cellsOf e)).take (P.cellsOf e)).length=P.cellsOf e:=ξ;rw[g]at u t;refine⟨(a,b),⟨M,L⟩,ξ,λj N=>?_⟩;by_cases q:j<P.cellsOf e;have:=t j q;have l:nth (c a++d b) j=nth (c a) j:=nT ω;have J:Q6 ((k.drop (i*P.cellsOf e)).take (P.cellsOf e)) j=Q6 k (i*P.cellsOf e+j):=by
  simp only[Q6,QW,XB,Qd q,Gr]
 show Cl _ w (nth (c a++d b) j) _;rw[l,<- J];exact this;have l:nth (c a++d b) j=nth (d b) (j-P.cellsOf e):=by rw[nU ω,u]
 have:=s (j-P.cellsOf e) ω;show Cl _ w (nth (c a++d b) j) _;rw[l,show i*P.cellsOf e+j=i*P.cellsOf e+P.cellsOf e+(j-P.cellsOf e) by omega];exact this
def Rd.array{P:Program}{t e:TypeId}{n:Nat}{c:Type}{f:c->Prop}{b:c->List D}(p:P.underlying t=some (.array n e))(E:P.cellsOf t=n*P.cellsOf e)(r:Y3 P e 0 n f b):Rd P t f b:=by
 intro H F w l i m u x h;obtain⟨d,o,rfl,_,B,z,s⟩:=DataW.trod_array p h;obtain⟨a,y,v,g⟩:=r o u ω λk q=>by
  have Qb:k<d.length:=ω;exact⟨d[k],by rw[s k q];exact QJ Qb⟩
 simp only[Nat.zero_mul,Jz]at v g;exact⟨a,y,ω,λj C=>g j ω⟩
def Rd.slice{P:Program}{t e:TypeId}{B:Type}[Inhabited B]{C}{g}(k)(O:P.underlying t=some (.slice e))(R:P.cellsOf e=k)(U:0<k)(r:Rd P e C g):
  Rd P t (λl:List B=>l.length<=maxLen/\∀a∈l,C a) (λl=>[.imm k l.length λi=>g (l.getD i default)]):=by
 intro H en w M L m cs x h;rcases Deep.open_slice O h with ⟨rfl,_⟩|⟨a,c,J,m,N,D',Pl,rfl,hb,Q,hm,T,_,I⟩;refine⟨[],⟨σ,σ⟩,rfl,λj p=>?_⟩;obtain rfl:j=0:=by simpa using p
 exact .imm _ _ _ _ _ 0 0 (λ_ _=>Go.undef) (λh=>by simp at h) σ (λi d=>by simp at d) (λi j d=>by simp at d) (λi j d=>by simp at d);simp only[Vu]at T;have F:∀i,∃u:B × List Value,i<c->C u.1/\(g u.1).length=k/\u.2.length=k/\(∀j,j<k->w.cell? (a.add (i*k+j))=some (Q6 u.2 j))/\∀j,j<k->Cl (λ_=>True) w (nth (g u.1) j) (Q6 u.2 j):=λi=>by
  by_cases d:i<c;obtain⟨q,s,z⟩:=I i ω;obtain⟨x,hx,Z,S⟩:=r N q _ z;obtain⟨_,n,W⟩:=World.cells?_some s;have V:q.length=k:=ω;refine⟨(x,q),λ_=>⟨hx,(by show (g x).length=k;omega),V,λj p=>?_,λj p=>S j ω⟩⟩;have:=W j ω;rw[Deep.add_add,R]at this;rw[this];simp[Q6,QW,QJ (show j<q.length from ω)];exact⟨(default,[]),λh=>absurd h d⟩
 obtain⟨f,v⟩:=Classical.axiomOfChoice F;have n:((List.range c).map λi=>(f i).1).length=c:=σ;have K:∀i,i<c->((List.range c).map λi=>(f i).1).getD i default=(f i).1:=λi d=>by simp[QW,d]
 refine⟨(List.range c).map λi=>(f i).1,⟨by rw[n];omega,λx hx=>?_⟩,rfl,λj p=>?_⟩;obtain⟨i,d,rfl⟩:=Ji.1 hx;exact(v i (RH.1 d)).1;obtain rfl:j=0:=by simpa using p
 show Cl _ w (.imm k ((List.range c).map λi=>(f i).1).length λi=>g (((List.range c).map λi=>(f i).1).getD i default)) (.slice (some a) c J);rw[n];have y:0<c->a=⟨a.block,a.off,none⟩:=λE=>by
  have s:=(v 0 E).2.2.2.1 0 U;have z:=World.cell?_spot s;obtain⟨b,o,Y⟩:=a;simp[Addr.add]at z;subst z;rfl
 refine .imm _ _ _ _ _ a.block a.off (λi j=>Q6 (f i).2 j) (λE=>by rw[<- y E]) Q (λi d=>?_) (λi j d p=>⟨trivial,?_⟩) (λi j d p=>?_);rw[K i d];exact(v i d).2.1;have s:=(v i d).2.2.2.1 j p;rw[y ω]at s;rw[<- s];congr 1;simp only[Addr.add];split<;>simp_all;rw[K i d];exact(v i d).2.2.2.2 j p
def Rd.many{P:Program}{t:TypeId}{j:Type}{k:j->Prop}{b:j->List D}(r:Rd P t k b){H:Type}{s:TypeId × Value->H}{w:World}{g:Nat}{f:Bool}{c:Array Value}{d:DataW H}{n:List MemPlace}
  (h:DataW.Trod s P w g (λ_=>true) f t (.agg c) d n):∃a,k a/\Cl (λ_=>True) w (.agg (b a)) (.agg c):=by
 obtain⟨m,l⟩:=h;have e:(Value.agg c).cells.toList=c.toList:=rfl;rw[e]at l;obtain⟨a,q,p,o⟩:=r m _ _ l;have:=Cl.agg (N:=λ_=>True) (w:=w) (b a) c.toList p.symm (λi u=>o i ω);exact⟨a,q,by simpa using this⟩
def Qt6{P}{f}{c:List D}(h:QI P f c λd h=>d=.raw (.bool true)/\h=[])(W)(a:List Value)(k:a.length=c.length)(p:∀i,i<c.length->Cl (λ_=>True) W (nth c i) (Q6 a i)):
  Calls P f a.toArray W λe g=>e=.returned (.bool true)/\Below W.heap.size W g:=by
 refine(h (λ_=>True) W.heap.size W [] a (QB _) (λ_ _=>trivial) ⟨rfl,λl t b q s e=>by simp at e,λl o e=>by simp at e,λl o b q e=>by simp at e⟩ k (λi m=>.cl _ _ ((p i m).mono λb _ _=>⟨⟨trivial,λl q e=>by simp at e⟩,rfl⟩))).mono λe g n=>?_;obtain⟨v,d,u,w,rfl,⟨rfl,rfl⟩,_,j,_,r⟩:=n;rw[Ju j];exact⟨rfl,r⟩
end Go.Fg
namespace Go.Fg.X
open Go.Proofs Go.Fg
open Go.Proofs.Tryz
def QfT(k:IntKind)(l:List Int):Nat->List D:=λi=>[.raw (.int k (l.getD i 0))]
@[go_sem] theorem Qt7(k)(l:List Int)(i):QfT k l i=[.raw (.int k (l.getD i 0))]:=rfl
structure Cf where
 t:Int
 Jb:Int
instance:Inhabited Cf:=⟨⟨0,0⟩⟩
@[go_sem] def Cf.cells(x:Cf):List D:=[.raw (.int .i64 x.t),.raw (.int .i64 x.Jb)]
def Cf.rows(l:List Cf):Nat->List D:=λi=>(l.getD i default).cells
@[go_sem] theorem Cf.xp(l:List Cf)(i):Cf.rows l i=(l.getD i default).cells:=rfl
def Cf.Ok(x:Cf):Prop:=(Lit.int .i64 x.t).wf=true/\(Lit.int .i64 x.Jb).wf=true/\True
def Qt8:Rd prog 23 Cf.Ok Cf.cells:=
 Rd.map (Rd.struct (QT:=2) underlying23 τ (KP.cons (Rd.int .i64 underlying3) (KP.cons (Rd.int .i64 underlying3) KP.nil rfl τ π) rfl τ π)) (λp=>⟨p.1,p.2.1⟩) (λ_=>rfl) (λ_ h=>⟨h.1,h.2.1,trivial⟩)
structure Cv where
 m1:Int
 d:Int
 m2:Int
instance:Inhabited Cv:=⟨⟨0,0,0⟩⟩
@[go_sem] def Cv.cells(x:Cv):List D:=[.raw (.int .u64 x.m1),.raw (.int .u64 x.d),.raw (.int .u64 x.m2)]
def Cv.rows(l:List Cv):Nat->List D:=λi=>(l.getD i default).cells
@[go_sem] theorem Cv.xp(l:List Cv)(i):Cv.rows l i=(l.getD i default).cells:=rfl
def Cv.Ok(x:Cv):Prop:=(Lit.int .u64 x.m1).wf=true/\(Lit.int .u64 x.d).wf=true/\(Lit.int .u64 x.m2).wf=true/\True
def pU:Rd prog 43 Cv.Ok Cv.cells:=
 Rd.map (Rd.struct (QT:=3) underlying43 τ (KP.cons (Rd.int .u64 underlying40) (KP.cons (Rd.int .u64 underlying40) (KP.cons (Rd.int .u64 underlying40) KP.nil rfl τ π) rfl τ π) rfl τ π)) (λp=>⟨p.1,p.2.1,p.2.2.1⟩) (λ_=>rfl) (λ_ h=>⟨h.1,h.2.1,h.2.2.1,trivial⟩)
structure Pk where
 iD:Int
 len:Int
 xq:Int
 xr:Int
 xu:Int
 xv:Int
instance:Inhabited Pk:=⟨⟨0,0,0,0,0,0⟩⟩
@[go_sem] def Pk.cells(x:Pk):List D:=[.raw (.int .u64 x.iD),.raw (.int .i64 x.len),.raw (.int .u16 x.xq),.raw (.int .u16 x.xr),.raw (.int .u16 x.xu),.raw (.int .u16 x.xv)]
def Pk.rows(l:List Pk):Nat->List D:=λi=>(l.getD i default).cells
@[go_sem] theorem Pk.xp(l:List Pk)(i):Pk.rows l i=(l.getD i default).cells:=rfl
def Pk.Ok(x:Pk):Prop:=(Lit.int .u64 x.iD).wf=true/\(Lit.int .i64 x.len).wf=true/\(Lit.int .u16 x.xq).wf=true/\(Lit.int .u16 x.xr).wf=true/\(Lit.int .u16 x.xu).wf=true/\(Lit.int .u16 x.xv).wf=true/\True
def Qt9:Rd prog 60 Pk.Ok Pk.cells:=
 Rd.map (Rd.struct (QT:=6) underlying60 τ (KP.cons (Rd.int .u64 underlying40) (KP.cons (Rd.int .i64 underlying3) (KP.cons (Rd.array underlying58 τ (Y3.cons π (Rd.int .u16 underlying56) (Y3.cons π (Rd.int .u16 underlying56) (Y3.cons π (Rd.int .u16 underlying56) (Y3.cons π (Rd.int .u16 underlying56) Y3.nil))))) KP.nil rfl τ π) rfl τ π) rfl τ π)) (λp=>⟨p.1,p.2.1,p.2.2.1.1,p.2.2.1.2.1,p.2.2.1.2.2.1,p.2.2.1.2.2.2.1⟩) (λ_=>rfl) (λ_ h=>⟨h.1,h.2.1,h.2.2.1.1,h.2.2.1.2.1,h.2.2.1.2.2.1,h.2.2.1.2.2.2.1,trivial⟩)
structure Ql where
 iD:Int
 parent:Int
 leaf:Bool
 rt:Cv
 ls:Cv
 ul:Cv
 ZK:Int
 bytes:Int
instance:Inhabited Ql:=⟨⟨0,0,false,default,default,default,0,0⟩⟩
@[go_sem] def Ql.cells(x:Ql):List D:=[.raw (.int .i64 x.iD),.raw (.int .i64 x.parent),.raw (.bool x.leaf),.raw (.int .u64 x.rt.m1),.raw (.int .u64 x.rt.d),.raw (.int .u64 x.rt.m2),.raw (.int .u64 x.ls.m1),.raw (.int .u64 x.ls.d),.raw (.int .u64 x.ls.m2),.raw (.int .u64 x.ul.m1),.raw (.int .u64 x.ul.d),.raw (.int .u64 x.ul.m2),.raw (.int .i64 x.ZK),.raw (.int .i64 x.bytes)]
def Ql.rows(l:List Ql):Nat->List D:=λi=>(l.getD i default).cells
@[go_sem] theorem Ql.xp(l:List Ql)(i):Ql.rows l i=(l.getD i default).cells:=rfl
def Ql.Ok(x:Ql):Prop:=(Lit.int .i64 x.iD).wf=true/\(Lit.int .i64 x.parent).wf=true/\True/\Cv.Ok x.rt/\Cv.Ok x.ls/\Cv.Ok x.ul/\(Lit.int .i64 x.ZK).wf=true/\(Lit.int .i64 x.bytes).wf=true/\True
def Qua:Rd prog 45 Ql.Ok Ql.cells:=
 Rd.map (Rd.struct (QT:=14) underlying45 τ (KP.cons (Rd.int .i64 underlying3) (KP.cons (Rd.int .i64 underlying3) (KP.cons (Rd.bool underlying4) (KP.cons pU (KP.cons pU (KP.cons pU (KP.cons (Rd.int .i64 underlying3) (KP.cons (Rd.int .i64 underlying3) KP.nil rfl τ π) rfl τ π) rfl τ π) rfl τ π) rfl τ π) rfl τ π) rfl τ π) rfl τ π)) (λp=>⟨p.1,p.2.1,p.2.2.1,p.2.2.2.1,p.2.2.2.2.1,p.2.2.2.2.2.1,p.2.2.2.2.2.2.1,p.2.2.2.2.2.2.2.1⟩) (λ_=>rfl) (λ_ h=>⟨h.1,h.2.1,h.2.2.1,h.2.2.2.1,h.2.2.2.2.1,h.2.2.2.2.2.1,h.2.2.2.2.2.2.1,h.2.2.2.2.2.2.2.1,trivial⟩)
structure Jc where
 kind:Int
 cls:Ql
instance:Inhabited Jc:=⟨⟨0,default⟩⟩
@[go_sem] def Jc.cells(x:Jc):List D:=[.raw (.int .i64 x.kind),.raw (.int .i64 x.cls.iD),.raw (.int .i64 x.cls.parent),.raw (.bool x.cls.leaf),.raw (.int .u64 x.cls.rt.m1),.raw (.int .u64 x.cls.rt.d),.raw (.int .u64 x.cls.rt.m2),.raw (.int .u64 x.cls.ls.m1),.raw (.int .u64 x.cls.ls.d),.raw (.int .u64 x.cls.ls.m2),.raw (.int .u64 x.cls.ul.m1),.raw (.int .u64 x.cls.ul.d),.raw (.int .u64 x.cls.ul.m2),.raw (.int .i64 x.cls.ZK),.raw (.int .i64 x.cls.bytes)]
def Jc.rows(l:List Jc):Nat->List D:=λi=>(l.getD i default).cells
@[go_sem] theorem Jc.xp(l:List Jc)(i):Jc.rows l i=(l.getD i default).cells:=rfl
def Jc.Ok(x:Jc):Prop:=(Lit.int .i64 x.kind).wf=true/\Ql.Ok x.cls/\True
def Qub:Rd prog 75 Jc.Ok Jc.cells:=
 Rd.map (Rd.struct (QT:=15) underlying75 τ (KP.cons (Rd.int .i64 underlying3) (KP.cons Qua KP.nil rfl τ π) rfl τ π)) (λp=>⟨p.1,p.2.1⟩) (λ_=>rfl) (λ_ h=>⟨h.1,h.2.1,trivial⟩)
structure JP where
 AA:Int
 AB:Int
 E7:Int
 Dn:Int
 Lx:Int
 Lz:Int
 LA:Int
 E8:Int
 cls:Int
instance:Inhabited JP:=⟨⟨0,0,0,0,0,0,0,0,0⟩⟩
@[go_sem] def JP.cells(x:JP):List D:=[.raw (.int .u16 x.AA),.raw (.int .u16 x.AB),.raw (.int .u16 x.E7),.raw (.int .u16 x.Dn),.raw (.int .u16 x.Lx),.raw (.int .u16 x.Lz),.raw (.int .u16 x.LA),.raw (.int .u16 x.E8),.raw (.int .i64 x.cls)]
def JP.rows(l:List JP):Nat->List D:=λi=>(l.getD i default).cells
@[go_sem] theorem JP.xp(l:List JP)(i):JP.rows l i=(l.getD i default).cells:=rfl
def JP.Ok(x:JP):Prop:=(Lit.int .u16 x.AA).wf=true/\(Lit.int .u16 x.AB).wf=true/\(Lit.int .u16 x.E7).wf=true/\(Lit.int .u16 x.Dn).wf=true/\(Lit.int .u16 x.Lx).wf=true/\(Lit.int .u16 x.Lz).wf=true/\(Lit.int .u16 x.LA).wf=true/\(Lit.int .u16 x.E8).wf=true/\(Lit.int .i64 x.cls).wf=true/\True
def Quc:Rd prog 77 JP.Ok JP.cells:=
 Rd.map (Rd.struct (QT:=9) underlying77 τ (KP.cons (Rd.array underlying58 τ (Y3.cons π (Rd.int .u16 underlying56) (Y3.cons π (Rd.int .u16 underlying56) (Y3.cons π (Rd.int .u16 underlying56) (Y3.cons π (Rd.int .u16 underlying56) Y3.nil))))) (KP.cons (Rd.array underlying58 τ (Y3.cons π (Rd.int .u16 underlying56) (Y3.cons π (Rd.int .u16 underlying56) (Y3.cons π (Rd.int .u16 underlying56) (Y3.cons π (Rd.int .u16 underlying56) Y3.nil))))) (KP.cons (Rd.int .i64 underlying3) KP.nil rfl τ π) rfl τ π) rfl τ π)) (λp=>⟨p.1.1,p.1.2.1,p.1.2.2.1,p.1.2.2.2.1,p.2.1.1,p.2.1.2.1,p.2.1.2.2.1,p.2.1.2.2.2.1,p.2.2.1⟩) (λ_=>rfl) (λ_ h=>⟨h.1.1,h.1.2.1,h.1.2.2.1,h.1.2.2.2.1,h.2.1.1,h.2.1.2.1,h.2.1.2.2.1,h.2.1.2.2.2.1,h.2.2.1,trivial⟩)
structure ZO where
 kind:Int
 changes:(List Jc)
 rules:(List JP)
 ZX:Pk
 Wz:Int
instance:Inhabited ZO:=⟨⟨0,[],[],default,0⟩⟩
@[go_sem] def ZO.cells(x:ZO):List D:=[.raw (.int .i64 x.kind),.imm 15 x.changes.length (Jc.rows x.changes),.imm 9 x.rules.length (JP.rows x.rules),.raw (.int .u64 x.ZX.iD),.raw (.int .i64 x.ZX.len),.raw (.int .u16 x.ZX.xq),.raw (.int .u16 x.ZX.xr),.raw (.int .u16 x.ZX.xu),.raw (.int .u16 x.ZX.xv),.raw (.int .u64 x.Wz)]
def ZO.rows(l:List ZO):Nat->List D:=λi=>(l.getD i default).cells
@[go_sem] theorem ZO.xp(l:List ZO)(i):ZO.rows l i=(l.getD i default).cells:=rfl
def ZO.Ok(x:ZO):Prop:=(Lit.int .i64 x.kind).wf=true/\(x.changes.length<=maxLen/\∀a∈x.changes,Jc.Ok a)/\(x.rules.length<=maxLen/\∀a∈x.rules,JP.Ok a)/\Pk.Ok x.ZX/\(Lit.int .u64 x.Wz).wf=true/\True
def Qud:Rd prog 67 ZO.Ok ZO.cells:=
 Rd.map (Rd.struct (QT:=10) underlying67 τ (KP.cons (Rd.int .i64 underlying3) (KP.cons (Rd.slice 15 underlying64 τ π Qub) (KP.cons (Rd.slice 9 underlying65 τ π Quc) (KP.cons Qt9 (KP.cons (Rd.int .u64 underlying40) KP.nil rfl τ π) rfl τ π) rfl τ π) rfl τ π) rfl τ π)) (λp=>⟨p.1,p.2.1,p.2.2.1,p.2.2.2.1,p.2.2.2.2.1⟩) (λ_=>rfl) (λ_ h=>⟨h.1,h.2.1,h.2.2.1,h.2.2.2.1,h.2.2.2.2.1,trivial⟩)
structure Xr where
 config:Cf
 ops:(List ZO)
instance:Inhabited Xr:=⟨⟨default,[]⟩⟩
@[go_sem] def Xr.cells(x:Xr):List D:=[.raw (.int .i64 x.config.t),.raw (.int .i64 x.config.Jb),.imm 10 x.ops.length (ZO.rows x.ops)]
def Xr.rows(l:List Xr):Nat->List D:=λi=>(l.getD i default).cells
@[go_sem] theorem Xr.xp(l:List Xr)(i):Xr.rows l i=(l.getD i default).cells:=rfl
def Xr.Ok(x:Xr):Prop:=Cf.Ok x.config/\(x.ops.length<=maxLen/\∀a∈x.ops,ZO.Ok a)/\True
def Que:Rd prog 26 Xr.Ok Xr.cells:=
 Rd.map (Rd.struct (QT:=3) underlying26 τ (KP.cons Qt8 (KP.cons (Rd.slice 10 underlying24 τ π Qud) KP.nil rfl τ π) rfl τ π)) (λp=>⟨p.1,p.2.1⟩) (λ_=>rfl) (λ_ h=>⟨h.1,h.2.1,trivial⟩)
@[go_sem] def Qa(n:Int):D:=.raw (.int .i64 n)
@[go_sem] def QU(b:Bool):D:=.raw (.bool b)
@[go_sem] def ints(l:List Int):D:=.imm 1 l.length (QfT .i64 l)
structure Ev where
 op:Int
 J9:Bool
 real:Bool
 at_:Int
 done:Int
 cls:Int
 id:Int
 len:Int
 h0:Int
 h1:Int
 h2:Int
 h3:Int
instance:Inhabited Ev:=⟨⟨0,false,false,0,0,0,0,0,0,0,0,0⟩⟩
@[go_sem] def Ev.cells(e:Ev):List D:=[.raw (.int .i64 e.op),.raw (.bool e.J9),.raw (.bool e.real),.raw (.int .u64 e.at_),.raw (.int .u64 e.done),.raw (.int .i64 e.cls),.raw (.int .u64 e.id),.raw (.int .i64 e.len),.raw (.int .u16 e.h0),.raw (.int .u16 e.h1),.raw (.int .u16 e.h2),.raw (.int .u16 e.h3)]
def Ev.Ok(x:Ev):Prop:=(Lit.int .i64 x.op).wf=true/\(Lit.int .u64 x.at_).wf=true/\(Lit.int .u64 x.done).wf=true/\(Lit.int .i64 x.cls).wf=true/\(Lit.int .u64 x.id).wf=true/\(Lit.int .i64 x.len).wf=true/\(Lit.int .u16 x.h0).wf=true/\(Lit.int .u16 x.h1).wf=true/\(Lit.int .u16 x.h2).wf=true/\(Lit.int .u16 x.h3).wf=true
def Ev.rows(l:List Ev):Nat->List D:=λi=>(l.getD i default).cells
@[go_sem] theorem Ev.xp(l:List Ev)(i):Ev.rows l i=(l.getD i default).cells:=rfl
@[go_sem] def YI(l:List Ev):D:=.imm 12 l.length (Ev.rows l)
def wrap64{n}(b:-9223372036854775808<=n)(a:n<=9223372036854775807):IntKind.i64.wrap n=n:=by
 rw[IntKind.wrap_i64];omega
def Jr{k:Nat}(h:k<4611686018427387904):IntKind.i64.wrap ((k:Int)+1)=((k+1:Nat):Int):=by
 rw[wrap64 ω ω];rfl
def bz{n:Nat}(h:n=0):((n:Int)==0)=true:=by simp[h]
def OI{n:Nat}(h:n≠0):((n:Int)==0)=false:=by simp[h]
def dp{n:Nat}(h:n≠0):decide ((0:Int)<n)=true:=ξ
def pV{n:Nat}(h:n=0):decide ((0:Int)<n)=false:=by simp[h]
def QfU{a:Type}(l:List a)(x d:a)(i)(b:i<l.length+1):(l++[x]).getD i d=bif decide (i<l.length) then l.getD i d else x:=by
 by_cases h:i<l.length;simp[h,JJ h];have:i=l.length:=ω;subst this;simp
def QN(d:D):D->List Ob->Prop:=λa h=>a=d/\h=[]
attribute [go_sem] QN
def QN.flat{d:D}(b:d.flat=true):∀a h,QN d a h->a.flat=true/\∀o∈h,o.flat:=by
 rintro a h ⟨rfl,rfl⟩;exact⟨b,σ⟩
def getD_take{a:Type}(l:List a)(d:a)(k)(h:k<l.length):l.take (k+1)=l.take k++[l.getD k d]:=by
 rw[zS,QJ h];simp[QW,QJ h]
def mixed:prog.follows .mixedOrders=true:=τ
def fD{a:Type}(l:List a)(x d:a)(i)(h:i<l.length):(l++[x]).getD i d=l.getD i d:=by simp[JJ h]
def pW{a:Type}(l:List a)(x d:a):(l++[x]).getD l.length d=x:=σ
def pX{a:Type}(l:List a)(x d:a)(i)(h:i<l.length):(l.set i x).getD i d=x:=by simp[h]
def pY{a:Type}(l:List a)(x d:a)(i j)(h:j≠i):(l.set j x).getD i d=l.getD i d:=by simp[JG h]
def getD_map{a b:Type}(f:a->b)(l:List a)(d:a)(e:b)(i)(h:i<l.length):(l.map f).getD i e=f (l.getD i d):=by simp[QW,h]
def qE{a:Type}(l:List a)(d:a)(i)(h:i<l.length):l.getD i d∈l:=by simp[QW,h]
def wf_i64{n:Int}(h:(Lit.int .i64 n).wf=true):-9223372036854775808<=n/\n<=9223372036854775807:=by
 simp only[Lit.wf,ZE,Xo]at h;exact h
def wf_u64{n:Int}(h:(Lit.int .u64 n).wf=true):0<=n/\n<=18446744073709551615:=by
 simp only[Lit.wf,ZE,Xo]at h;exact h
def wf_u16{n:Int}(h:(Lit.int .u16 n).wf=true):0<=n/\n<=65535:=by
 simp only[Lit.wf,ZE,Xo]at h;exact h
def fF{n}(b:0<=n)(a:n<=18446744073709551615):IntKind.u64.wrap n=n:=η
@[go_sem] theorem QHh:((0:Nat):Int)=0:=rfl
@[go_sem] theorem QHi:((1:Nat):Int)=1:=rfl
@[go_sem] theorem QHj:((2:Nat):Int)=2:=rfl
@[go_sem] theorem QHk:((3:Nat):Int)=3:=rfl
@[go_sem] theorem QHl:((4:Nat):Int)=4:=rfl
@[go_sem] theorem QHm:((5:Nat):Int)=5:=rfl
@[go_sem] theorem QHn:((6:Nat):Int)=6:=rfl
@[go_sem] theorem QHo:((7:Nat):Int)=7:=rfl
@[go_sem] theorem QHp:((8:Nat):Int)=8:=rfl
@[go_sem] theorem QHq:((9:Nat):Int)=9:=rfl
@[go_sem] theorem QHr:((10:Nat):Int)=10:=rfl
def WA{a b:Int}(h:a=b):(a==b)=true:=by simp[h]
def Vw{a b:Int}(h:a≠b):(a==b)=false:=by simp[h]
def Quf{a b:Int}(h:a=b):(a != b)=false:=by simp[h]
end Go.Fg.X
namespace Go.Fg
open Go.RowKit (Below)
def OJ(a:List ZC):Prop:=(a.map (·.b)).Pairwise (·<·)
def kC.QfV{Z}{h}{f}{w}{q}{c}{b}{a}(E:kC Z h f w q c b a):OJ b:=by
 unfold OJ;rw[List.pairwise_iff_getElem];intro i j e d g;simp only[Kj]at e d;have k:=E.len;obtain⟨_,_,m,_⟩:=E.at_ i b[i] a[i] (QJ e) (QJ ω);obtain⟨_,_,l,_⟩:=E.at_ j b[j] a[j] (QJ d) (QJ ω);have:=E.inc i j a[i] a[j] g (QJ ω) (QJ ω);simp only[List.getElem_map];omega
def OJ.nodup{a:List ZC}(B:OJ a):(a.map (·.b)).Nodup:=by
 unfold List.Nodup;exact List.Pairwise.imp (λh=>Nat.ne_of_lt h) B
def yp(b:List ZC)(a:List Nat):Nat:=(b.filter λe=>!a.contains e.b).length
def QfW:∀{a:List ZC} {seen:List Nat} {e:ZC},e∈a->e.b ∉ seen->yp a (seen++[e.b])<yp a seen
 | [],_,_,h,_=>by simp at h
 | x::a,seen,e,h,d=>by
  have b:∀a:List ZC,yp a (seen++[e.b])<=yp a seen:=λa=>by
   induction a with
   | nil=>exact QB _
   | cons y r c=>
    simp only[yp,wR]at c ⊢;by_cases g:y.b∈seen<;>by_cases f:y.b=e.b<;>simp_all<;>omega
  rcases QK.1 h with rfl|h;have:=b a;simp only[yp,wR]at this ⊢
  simp_all
  omega;have:=QfW h d;simp only[yp,wR]at this ⊢;by_cases g:x.b∈seen<;>by_cases f:x.b=e.b<;>simp_all<;>omega
section
variable {P:Program}{L:Jf}{base nt:Nat}{w0:Start}{Q:Exit->St->Prop}
def Qug{Z:Nat->Prop}{s:St}{d:List Pl}{a:Act}{w:World}(r:Rel Z base nt s d a w){l c:Nat}{i:List ZC}{f:Kd}{q:IntKind}(k:f.ty=1)(e:s.h[l]?=some (Wq f q c i)):OJ i:=by
 have h:l<d.length:=by rw[r.o.len];exact KA e
 cases g:d[l] with
 | none=>
  have:=r.o.VU l _ e (by rw[QJ h,g]);simp[Wq]at this
 | some j=>
  obtain⟨b,p⟩:=j;obtain⟨_,x⟩:=r.o.at_ l _ b p e (by rw[QJ h,g]);obtain⟨_,m,_,E⟩:=cJ k x;exact E.QfV
def Quh{e:Code}{k:List Item}{s:St}{l c:Nat}{es:List ZC}{kd:Kd}{q:IntKind}(h:kd.ty=1)(g:s.h[l]?=some (Wq kd q c es))(d:OJ es->Qz P base nt w0 Q (.code e::k) .normal s):Qz P base nt w0 Q (.code e::k) .normal s:=by
 simp only[Qz]at d ⊢;intro Z z f a w r b;exact d (Qug r h g) Z z f a w r b
def Qui{o:Oper}{s}{x}(ho:o.op=.entry x){u l c}{k}{f}{q}{v}{e}
  (W:Qs s.fr x=.mref u 0) (N:s.h[u]?=some (Yg l c c (f++[e.b]))) (R:v.ty=1) (M:s.h[l]?=some (Wq v q c k)) (he:e∈k):Ww P base nt o s (.tup [.raw (.int q e.k),e.v]):=by
 intro Z pl a w r;have K:=r.eval x;rw[W]at K;obtain⟨o',p,b,t,n,h3,h4,z⟩:=Gz K;rw[N]at t;cases t;have z:=z rfl;rw[z]at n;obtain⟨Zr,S⟩:=r.o.at_ u _ b 0 N n;obtain⟨_,m,U,hb,Bz,Se⟩:=Qcx S;have Y:a.eval x=.pointer (some ⟨b,0,none⟩):=h3.2;obtain⟨o2,p2,bm,H,F,h,k4,y⟩:=Gz Se;rw[M]at H;cases H;have y:=y rfl;rw[y]at F;have h:=h.2;rw[show (Wq v q c k).kd.ty=1 from R]at h;have h:m=bm:=by simpa[RU] using h
 subst h;obtain⟨Sf,V⟩:=r.o.at_ l _ m 0 M F;obtain⟨_,d,O,E⟩:=cJ R V;have hl:k.length=d.toList.length:=E.len;obtain⟨j,I⟩:=Gs he;have Qb:=(W3.1 I).1;obtain⟨d1,d2,d3,d4⟩:=E.at_ j e (d.toList[j]'ω) I (QJ ω);have Z9:(d.toList.map (·.born)).Nodup:=by
  have:d.toList.map (·.born)=k.map (·.b):=by
   apply List.ext_getElem (by simp[hl]);intro i t n;simp only[Kj]at t n;obtain⟨_,_,g,_⟩:=E.at_ i (k[i]'ω) (d.toList[i]'ω) (QJ ω) (QJ ω);simp only[List.getElem_map,g]
  rw[this];exact E.QfV.nodup
 have C:U=(f.toArray).push (d.toList[j]'ω).born:=by
  apply Array.toList_inj.1;rw[Bz,d3];simp
 have B:=hb;rw[C]at B;refine⟨.tuple #[(d.toList[j]'ω).key,(d.toList[j]'ω).val],?_,λT J=>?_⟩;rw[d1];exact .tup _ [.int q e.k,(d.toList[j]'ω).val] rfl λi hi=>match i,hi with
  | 0,_=>.cl _ _ (.raw _)
  | 1,_=>d2
 have Za:=run_entry_at (P:=P) T b m c f.toArray d c (d.toList[j]'ω) (by rw[J b (kr B)];exact B) (by rw[J m (kr O)];exact O) (Xn _) Z9;simp[execOp,ho,Y,Za]
def Quk{k}{a}{f:TypeId}{pos}{b}{j}{r}{s}{x}{li l c}{es}{seen}{q}{kd}{e}
  (g:Qs s.fr x=.mref li 0) (n:s.h[li]?=some (Yg l c c (seen++[e.b]))) (o:kd.ty=1) (m:s.h[l]?=some (Wq kd q c es)) (i:e∈es) (h:Zn nt a=true)
  (d:Qz P base nt w0 Q (.ops r::k) .normal ⟨Zb s.fr a (.tup [.raw (.int q e.k),e.v]),s.h⟩) :
  Qz P base nt w0 Q (.ops ((⟨a,.entry x,f,pos,b,j⟩,none)::r)::k) .normal s:=by
 simp only[Qz]at d ⊢;exact ou (Qui rfl g n o m i) h d
end
def qF(a c:Nat)(d:List D)(b:Nat->List D):Nat->List D:=λk=>bif Nat.ble a k&&Nat.blt k (a+c) then d else b k
def pZ{a c k}{d}{b}(h:k<a):qF a c d b k=b k:=by
 have:Nat.ble a k=false:=by rw[<- Ya,Ip];omega
 simp[qF,this]
section
variable {P:Program}{L:Jf}{base nt:Nat}{s:St}{o:Oper}
def Qul(hL:Z8 P L){t e:TypeId}{x}{l g f j a b c}{z}{zt}{d}(E:o.op=.call ⟨.builtin .clear,#[x],#[t]⟩)(hx:Qs s.fr x=.ref l g f j)(y:s.h[l]?=some d)
  (n:d.kd.IA=false) (hg:d.gen=g) (C:d.sz=1) (V:d.kd.ro=false) (hn:f+j<=d.n) (ht:ty L t=some ⟨.slice e,a,b,zt⟩) {k:TK} (he:ty L e=some ⟨k,1,c,[z]⟩) (hz:Ag z=true) :
  jz P base nt o s (s.h.set l ⟨d.kd,d.gen,d.sz,d.n,qF f j [J2 z] d.row⟩) (.tup []):=by
 refine IG.up ?_ (by simp[calm,E]);intro Z B ac w r KX;have hv:=r.eval x;rw[hx]at hv;obtain⟨o',p',ad,a1,I,ZG,S,R,ko,KN⟩:=Ex hv;rw[y]at ZG;cases ZG;have hy:=hL _ _ ht;have WO:=hL _ _ he;have J:P.underlying t=some (.slice e):=x7 hy rfl;obtain⟨zv,x8,zV⟩:=WO.zeroValue;have EC:zv.cells=#[z]:=by apply Array.toList_inj.1;rw[x8]
 have GI:(Builtin.zeroCells zv.cells j).toList=List.replicate j z:=by
  rw[EC];simp[Builtin.zeroCells];apply List.ext_getElem;simp;intro i h1 h2;simp[Nat.mod_one]
 have U:∀Z' h' Qk p,QD Z' h' Qk p (J2 z) z:=λZ' h' Qk p=>
  .cl _ _ (CQ _ _ _)
 rcases KN hg.symm with ⟨H,OK⟩|⟨O,q,c0,el,Wv,W,Zr,a2,CU⟩;subst H;have ZW:∀i,qF f 0 [J2 z] d.row i=d.row i:=λi=>by
  unfold qF;cases h1:Nat.ble f i&&Nat.blt i (f+0);rfl;simp at h1;omega
 have zU:s.h.set l ⟨d.kd,d.gen,d.sz,d.n,qF f 0 [J2 z] d.row⟩=s.h:=by
  have u:(⟨d.kd,d.gen,d.sz,d.n,qF f 0 [J2 z] d.row⟩:Ob)=d:=by rw[funext ZW]
  rw[u];exact y8 λi=>by
   by_cases h:l=i;subst h;rw[W5 (KA y),y];rw[JG h]
 rw[zU];refine⟨.tuple #[],w,B,.inl ?_,Tr.refl _ _ _,r.o,.tup [] [] rfl (λi K=>absurd K (Yc i)),Below.refl _ _⟩;subst OK;cases ad<;>simp[execOp,E,I,resolve,invoke,Go.builtin,Builtin.clear_,run_underlying J];subst Wv;obtain⟨Q4,xx⟩:=r.o.at_ l d O q y S;obtain⟨c1,ng,F,II,J3,ZW⟩:=xx.cells R;rw[F]at Zr;cases Zr;have JH:∀c2:Nat->List D,(⟨d.kd,d.gen,d.sz,d.n,c2⟩:Ob).kd=d.kd:=λ_=>rfl;obtain⟨p,c',g1,g2,N,g4,M,g6,g7,g8,g9⟩:=bW (P:=P) O el (List.replicate j z) 0 (q+f*d.sz) w c0 F (by simp;rw[C]at II ⊢;omega) (λk n=>by
  have Q:k<j:=by simpa using n
  have:Q6 (List.replicate j z) k=z:=by simp[Q6,QW,Q]
  rw[this];exact hz)
 have T:Tr s.h B w (s.h.set l ⟨d.kd,d.gen,d.sz,d.n,qF f j [J2 z] d.row⟩) B p:=Tr.Q3 r.o y S rfl rfl rfl (λk n _=>M k n) (λc2 a0 e2=>by rw[F]at e2;cases e2;exact⟨c',g2,N⟩);refine⟨.tuple #[],p,B,.inl ?_,T,?_,.tup [] [] rfl (λi K=>absurd K (Yc i)),NO (Q4 V) M g6 g7 g8 g9⟩;subst W;by_cases H:j=0;subst H;have u:p=w:=by
  have:(storeCells ⟨O,q+f*d.sz,none⟩ (List.replicate 0 z) 0).run P w=.ok () w:=by simp[storeCells]
  rw[g1]at this;cases this;rfl
 rw[u];simp[execOp,E,I,resolve,invoke,Go.builtin,Builtin.clear_,run_underlying J];obtain⟨m,rfl⟩:∃m,j=m+1:=⟨j-1,ω⟩;simp[execOp,E,I,resolve,invoke,Go.builtin,Builtin.clear_,run_underlying J,zV,GI,g1];refine Zh.Q3 (hro:=rfl) r.o y S R R rfl rfl (λk n _=>M k n) F g2 N (by rw[N];exact II) (λk n=>?_) (λk m n hm=>?_);show (qF f j [J2 z] d.row k).length=d.sz;unfold qF;cases Nat.ble f k&&Nat.blt k (f+j);exact J3 k n;simp[C];have Q:k<d.n:=n;have Y6:m<d.sz:=hm;show ∃v,c'[q+(k*d.sz+m)]?=some v/\QD Z _ B p (nth (qF f j [J2 z] d.row k) m) v;rw[C]at Y6;have Sf:m=0:=ω;subst Sf;have fG:k*d.sz+0=k:=by rw[C];omega
 have Y:q+f*d.sz+0=q+f:=by rw[C];omega
 rw[g4,fG,Y];simp only[List.length_replicate];by_cases VC:f<=k/\k<f+j;rw[Qd ω];have u:qF f j [J2 z] d.row k=[J2 z]:=by simp[qF,EU,Qo9,VC.1,VC.2]
 rw[u];exact⟨z,by rw[List.getElem?_replicate,Qd ω],U _ _ _ _⟩;rw[Qc ω];have u:qF f j [J2 z] d.row k=d.row k:=by
  unfold qF;cases h:(Nat.ble f k&&Nat.blt k (f+j));rfl;simp at h;omega
 rw[u];obtain⟨v,GG,WN⟩:=ZW k 0 Q ω;rw[fG]at GG;exact⟨v,GG,WN.tr T⟩
end
section
variable {P:Program}{L:Jf}{base nt:Nat}{w0:Start}{Q:Exit->St->Prop}
def p6(I:Z8 P L)(H:base<=w0.w.heap.size){k}{i}{M:TypeId}{pos}{j}{J}{r}{s}{t e:TypeId}{x}{l g f h a b c}{z}{o}{d}
  (u:Qs s.fr x=.ref l g f h) (K:s.h[l]?=some d)
  (B:d.kd.IA=false) (C:d.gen=g) (w:d.sz=1) (m:d.kd.ro=false) (y:f+h<=d.n) (v:ty L t=some ⟨.slice e,a,b,o⟩) {p:TK} (E:ty L e=some ⟨p,1,c,[z]⟩) (q:Ag z=true) (F:Zn nt i=true)
  (n:Qz P base nt w0 Q (.ops r::k) .normal ⟨Zb s.fr i (.tup []),s.h.set l ⟨d.kd,d.gen,d.sz,d.n,qF f h [J2 z] d.row⟩⟩) :
  Qz P base nt w0 Q (.ops ((⟨i,.call ⟨.builtin .clear,#[x],#[t]⟩,M,pos,j,J⟩,none)::r)::k) .normal s:=by
 simp only[Qz]at n ⊢;exact cW H (Qul I rfl u K B C w m y v E q) F n
end
def QM.cut{P}{f}{F}{k}{R R'}(hf:QM P f F k R)
  (s:∀d h,R d h->∃l o n,h[l]?=some o/\o.kd.ty=0/\n<=o.n/\R' d (h.set l ⟨o.kd,o.gen,o.sz,n,o.row⟩)):QM P f F k R':=by
 intro Z y w pl vs h1 h2 h3 t K;refine(hf Z y w pl vs h1 h2 h3 t K).mono λe w' he=>?_;obtain⟨v,d,h,Qk,rfl,hR,r,hV,B,hB⟩:=he;obtain⟨l,o,n,z,S,I,M⟩:=s _ _ hR;have t:=KA z;have a:∀(x:Nat) (u:Ob),h[x]?=some u->∃m,(h.set l ⟨o.kd,o.gen,o.sz,n,o.row⟩)[x]?=some m/\m.gen=u.gen/\m.sz=u.sz/\m.kd.ty=u.kd.ty:=λx u e=>by
  by_cases hx:l=x;subst hx;rw[z]at e;cases e;exact⟨_,W5 t,rfl,rfl,rfl⟩;exact⟨u,by rw[JG hx];exact e,rfl,rfl,rfl⟩
 refine⟨v,d,_,Qk,rfl,M,⟨by simp[r.len],r.inj,λx u e g=>?_,λx u b q e g=>?_⟩,hV.Di a,⟨B.JU,λx u p e g=>?_,λx u m b q e e' hg g c el K=>?_⟩,hB⟩;by_cases hx:l=x;subst hx;rw[W5 t]at e;cases e;have:=r.VU l o z g;show n=0;omega;rw[JG hx]at e;exact r.VU x u e g;by_cases hx:l=x;subst hx;rw[W5 t]at e;cases e;obtain⟨L,H⟩:=r.at_ l o b q z g;obtain⟨c,el,c1,c2,c3,c4⟩:=H.cells S;refine⟨L,.NJ S ⟨c,el,c1,?_,λi J=>c3 i (vJ J I),λi j J hj=>?_⟩⟩;have:=XC o.sz I;show q+n*o.sz<=c.size;omega;obtain⟨u,hu,s⟩:=c4 i j (vJ J I) hj;exact⟨u,hu,s.Di a⟩;rw[JG hx]at e;obtain⟨L,H⟩:=r.at_ x u b q e g;exact⟨L,H.to rfl rfl rfl rfl (λ_ _=>rfl) λi j v _ _ s=>s.Di a⟩;obtain⟨m,Q,E,Y,a3,W,V⟩:=B.obj x u p e g;obtain⟨N,C,b2,U,T⟩:=a x m E;exact⟨N,Q,C,Y,ω,by rw[T,W],λhh=>by rw[U];exact V ω⟩;obtain⟨O,Q,E,Y,a3,W,V⟩:=B.obj x u _ e g;obtain⟨N,C,b2,U,T⟩:=a x O E;rw[e']at C;cases C;exact B.shape x u O b q e E ω g c el K
section
variable {P:Program}{L:Jf}{base nt:Nat}{s:St}{o:Oper}
def Quq(j:Z8 P L){t:TypeId}{x:Operand}(i:o.op=.call ⟨.builtin .cap,#[x],#[t]⟩)(f:Qs s.fr x=.nil){e a b:Nat}{d:List Value}(h:ty L t=some ⟨.slice e,a,b,d⟩):Ww P base nt o s (.raw (.int .i64 0)):=by
 intro Z l m w r;have c:=r.eval x;rw[f]at c;obtain⟨n,g⟩:=Ae c;refine⟨_,.cl _ _ (.raw _),λk _=>?_⟩;rw[ku i];simp[builtin,g,Builtin.cap_,run_underlying (x7 (j _ _ h) rfl),goInt]
def Qur{t h e:TypeId}{ty0:TypeId}{y:Ty}{k I:IntKind}(N:P.underlying t=some (.slice e))(S:P.underlying h=some (.int I))(c:W6 P e y)(l:y.zero.length=y.size)(V:0<y.size)(w:World)(b:Option Addr)(n:Nat)
  (O:0<n) (H:n<=4294967296) (K:y.bytes<=1024) :
  ∃f a,(Builtin.append_ #[t,h] ty0 #[.slice b 0 0,.int k n]).run P w=.ok (.slice (some ⟨w.heap.size,0,none⟩) n f) (w.drew.alloc (.cells ((flat n y.size λ_ j=>Q6 y.zero j).toArray++a) e))/\n<=f/\a.size=(f-n)*y.size:=by
 obtain⟨z,d,B⟩:=c.zeroValue;obtain⟨i,q,Y,v⟩:=c.typeInfo w;have T:∀w,(typeInfo e).run P w=.ok i w:=λw=>by
  have r:=c.info;cases hx:P.info? e with
  | none=>rw[hx]at r;cases r
  | some k=>
   simp[typeInfo,hx]at q ⊢;exact q
 refine⟨grownCap w n 0 e,Builtin.zeroCells z.cells (grownCap w n 0 e-n),?_,grownCap_ge _ _ _ _,by rw[nJ];congr 1;rw[<- l,<- d];simp⟩;have m:¬ n=0:=ω;have M:IntKind.i64.wrap (n:Int)=n:=by rw[IntKind.wrap_i64];omega
 have F:¬ (9223372036854775807<(n:Int)):=ω;have x:n*y.bytes<=4294967296*1024:=Yb H K;have E:¬ (281474976710656<Builtin.nextslicecap n 0*i.bytes):=by rw[nextslicecap_zero O,v];omega
 have C:¬ (281474976710656<(n:Int)*(i.bytes:Int)):=by
  rw[<- Bg,v];omega
 have R:¬ ((n:Int)<0):=ω;have U:¬ (n*y.size=0):=Nat.mul_ne_zero m ω;have g:z.cells.size=y.size:=by rw[<- l,<- d];simp
 have J:(flat n y.size λ_ j=>Q6 y.zero j).toArray=Builtin.zeroCells z.cells n:=by
  apply Array.ext;rw[nJ,g];simp[q6];intro j u W;simp only[Gv,q6]at u;obtain⟨d1,d2,d3⟩:=div_lt u;have Q:y.zero=z.cells.toList:=d.symm;have p:j%y.size<z.cells.size:=by rw[g];exact d2
  simp[flat,Builtin.zeroCells,Q6,Q,QW,g];rw[getElem!_pos z.cells _ p,jr p];rfl
 rw[J];cases b<;>simp[Builtin.append_,run_underlying N,run_underlying S,c.sizeOf,T,B,asInt,asIntOf,M,m,R,U,F,E,C,Question.forced,Builtin.firstCells,loadCells,loadCellsFrom,newRow,grownCap,askRoom,mark,Sem.run]
def Qus(p:Z8 P L){t u e:TypeId}{g x:Operand}{n:Nat}{R:IntKind}{a b c d:Nat}{M N:List Value}{y:Ty}{k:IntKind}(z:o.op=.call ⟨.builtin .append,#[g,x],#[t,u]⟩)(Bq:Qs s.fr g=.nil)(V:Qs s.fr x=.raw (.int k n))
  (Y:ty L t=some ⟨.slice e,a,b,M⟩) (LB:ty L u=some ⟨.int R,c,d,N⟩) (WO:ty L e=some y) (m:y.zero.length=y.size) (hs:0<y.size) (h0:0<n) (Q:n<=4294967296) (S:y.bytes<=1024) :
  jz P base nt o s (s.h++[⟨.arr,0,y.size,n,λ_=>y.zero.map J2⟩]) (.ref s.h.length 0 0 n):=by
 refine IG.up ?_ (by simp[calm,z]);intro Z l ac w r J;have I:=r.eval g;have v:=r.eval x;rw[Bq]at I;rw[V]at v;obtain⟨H,NQ⟩:=Ae I;have W:=Ju v;have U:=p _ _ WO;have Ze:l.length=s.h.length:=r.o.len;obtain⟨O,f,Za,GK,Ai⟩:=Qur (ty0:=o.type) (k:=k) (x7 (p _ _ Y) rfl) (CP (p _ _ LB) rfl) U m hs w H n h0 Q S;have F:∀b,b<w.heap.size->(w.drew.alloc (.cells ((flat n y.size λ_ j=>Q6 y.zero j).toArray++f) e)).heap[b]? = w.heap[b]? := λb hb=>wW w.drew _ b hb;have K:(w.drew.alloc (.cells ((flat n y.size λ_ j=>Q6 y.zero j).toArray++f) e)).heap[w.heap.size]?=some (.cells ((flat n y.size λ_ j=>Q6 y.zero j).toArray++f) e (0,0)):=heap_alloc_new w.drew _;have T:Tr s.h l w (s.h++[⟨.arr,0,y.size,n,λ_=>y.zero.map J2⟩]) (l++[some (w.heap.size,0)]) (w.drew.alloc (.cells ((flat n y.size λ_ j=>Q6 y.zero j).toArray++f) e)):=Tr.push r.o F _ _ (by intro b q h;simp at h;omega);refine⟨.slice (some ⟨w.heap.size,0,none⟩) n O,_,_,.inl ?_,T,Zh.push r.o F _ rfl (QB _) J K (by simp[q6]) (λi C=>by simp[m]) (λi j C B=>⟨Q6 y.zero j,?_,?_⟩),.ref _ _ _ _ ⟨.arr,0,y.size,n,λ_=>y.zero.map J2⟩ (some (w.heap.size,0)) _ _ σ (by rw[<- Ze];simp) rfl (QB _) (λ_=>.inr ⟨w.heap.size,0,_,_,rfl,σ,K,?_,GK⟩),((Below.refl base w).drew).alloc J _⟩;rw[ku z];have:(Array.map ac.eval #[g,x])=#[.slice H 0 0,.int k n]:=by simp[NQ,W]
 rw[this];simp only[builtin,Sem.run_bind,Za,Result.andThen_ok,Sem.run_pure];have E:=GH (vs:=λ_ j=>Q6 y.zero j) C B;have Qb:=(W3.1 E).1;rw[Jz,Nt (by simpa using Qb)];simpa using E;have Zv:j<y.zero.length:=by rw[m];exact B
 have:nth (y.zero.map J2) j=J2 (Q6 y.zero j):=by simp[nth,Q6,QW,Zv]
 show QD Z _ _ _ (nth (y.zero.map J2) j) _;rw[this];exact .cl _ _ (CQ _ _ _);simp only[Jz,Array.size_append,Gv,q6,Ai];rw[<- VM];exact XC _ ω
end
section
variable {P:Program}{L:Jf}{base nt:Nat}{w0:Start}{Q:Exit->St->Prop}
def p8(l:Z8 P L){k:List Item}{c:Option Nat}{n:TypeId}{pos:String}{d:Array Edge}{m:Option (Nat × Bool)}{r:List (Oper × G)}{s:St}{t e a b:Nat}{x:Operand}{g:List Value}
  (h:Qs s.fr x=.nil) (i:ty L t=some ⟨.slice e,a,b,g⟩) (j:Zn nt c=true) (f:Qz P base nt w0 Q (.ops r::k) .normal ⟨Zb s.fr c (.raw (.int .i64 0)),s.h⟩) :
  Qz P base nt w0 Q (.ops ((⟨c,.call ⟨.builtin .cap,#[x],#[t]⟩,n,pos,d,m⟩,none)::r)::k) .normal s:=by
 simp only[Qz]at f ⊢;exact ou (Quq l rfl h i) j f
def Qut(F:Z8 P L)(E:base<=w0.w.heap.size){k:List Item}{f:Option Nat}{M:TypeId}{pos:String}{g:Array Edge}{I:Option (Nat × Bool)}{r:List (Oper × G)}{s:St}{t i e:TypeId}{h x:Operand}{n:Nat}{p:IntKind}{a b c d:Nat}{l m:List Value}{y:Ty}{q:IntKind}
  (N:Qs s.fr h=.nil) (w:Qs s.fr x=.raw (.int q n)) (z:ty L t=some ⟨.slice e,a,b,l⟩) (K:ty L i=some ⟨.int p,c,d,m⟩) (J:ty L e=some y) (v:y.zero.length=y.size) (B:0<y.size) (H:0<n) (o:n<=4294967296) (u:y.bytes<=1024) (C:Zn nt f=true)
  (j:Qz P base nt w0 Q (.ops r::k) .normal ⟨Zb s.fr f (.ref s.h.length 0 0 n),s.h++[⟨.arr,0,y.size,n,λ_=>y.zero.map J2⟩]⟩) :
  Qz P base nt w0 Q (.ops ((⟨f,.call ⟨.builtin .append,#[h,x],#[t,i]⟩,M,pos,g,I⟩,none)::r)::k) .normal s:=by
 simp only[Qz]at j ⊢;exact cW E (Qus F rfl N w z K J v B H o u) C j
end
section
variable {P:Program}{L:Jf}{base nt:Nat}{s:St}{o:Oper}
end
section
variable {P:Program}{L:Jf}{base nt:Nat}{w0:Start}{Q:Exit->St->Prop}
end
section
variable {Z:Nat->Prop}
def QD.QfX{h:List Ob}{m:List Pl}{w}{l}{o:Ob}{p}(L:h[l]?=some o)(Q:m[l]?=some p)(T:o.kd.ty=0){d}{v}(r:QD Z h m w d v):QD Z (h.set l o.gone) (m.set l none) w d v:=by
 have M:∀(c:Nat),c≠l->(m.set l none)[c]? = m[c]? := λc W=>by rw[JG (Q8 W)]
 have Y:∀b,Xp m b->Xp (m.set l none) b:=λb n c q e=>by
  by_cases R:c=l;subst R;rw[W5 (Wp Q)]at e;cases e;rw[M c R]at e;exact n c q e
 have V:∀b,free Z m b->free Z (m.set l none) b:=λb n=>⟨n.1,Y b n.2⟩;have O:(h.set l o.gone)[l]?=some o.gone:=W5 (KA L);have K:(m.set l none)[l]?=some none:=W5 (Wp Q);induction r with
 | cl d v U=>exact .cl _ _ (U.mono λb n _=>⟨V b n,rfl⟩)
 | ref c g H I x u a J k F s C z=>
  by_cases e:c=l;subst e;rw[L]at k;cases k;exact .ref _ g H I o.gone none a J O K rfl (by simp[Ob.gone];omega) (λN=>by simp[Ob.gone]at N;omega);exact .ref _ g H I x u a J (by rw[JG (Q8 e)];exact k) (by rw[M c e];exact F) s C z
 | ptr c g i j x u a k F s C z=>
  by_cases e:c=l;subst e;rw[L]at k;cases k;exact .ptr _ g i j o.gone none a O K rfl (by simp[Ob.gone];omega) (λN=>by simp[Ob.gone]at N;omega);exact .ptr _ g i j x u a (by rw[JG (Q8 e)];exact k) (by rw[M c e];exact F) s C z
 | mref c g x u b k F s C z=>
  by_cases e:c=l;subst e;rw[L]at k;cases k;exact absurd T s.1;exact .mref _ g x u b (by rw[JG (Q8 e)];exact k) (by rw[M c e];exact F) s C z
 | clo f S E t B P y=>exact .clo f S E t B y
 | agg E t B P y=>exact .agg E t B y
 | tup E t B P y=>exact .tup E t B y
end
def QfZ(F h:List Ob):Prop:=∀(l:Nat) (o:Ob),F[l]?=some o->∃a,h[l]?=some a/\a.gen=o.gen
def Qo.SW{k:Start}(hF:k.pl.length=k.F.length){fr}{h:List Ob}(P:QfZ k.F h)(t l)(hl:k.F.length<=l){o:Ob}{off len}(ht:get fr t=.ref l o.gen off len)(E:h[l]?=some o)(hn:off+len<=o.n)(M:o.kd.ty=0)(Zs:∀i,i<o.n->(o.row i).all D.XV=true):
  Qo k ⟨fr,h⟩ ⟨put fr t (.imm o.sz len (rowFrom off o.row)),h.set l o.gone⟩:=by
 intro Z z V nt f a w r b;have F:f.length=h.length:=r.o.len;have U:l<f.length:=by have g:=KA E;omega
 have n:f[l]?=some f[l]:=QJ U;generalize nY:f[l]=p at n;have o6:∀d q:Nat,p=some (d,q)->k.w.heap.size<=d:=λd q e=>by
  subst e;rcases wU d k.w.heap.size with Qb|WS;exfalso;have Fa:¬ Xp k.pl d:=λha=>(b.2.1.JU d ha Qb).1 l q n;obtain⟨L,g⟩:=Nu.1 Fa;obtain⟨Y,N⟩:=Nu.1 g;have S:=Classical.not_not.1 N;have Q:L<k.F.length:=by rw[<- hF];exact Wp S
  obtain⟨J,p1,R,k2,k3,k4,k5⟩:=b.2.1.obj L _ _ (QJ Q) S;obtain⟨o2,k6,k7⟩:=P L _ (QJ Q);rw[k6]at R;cases R;obtain⟨_,k8⟩:=k5 k7;subst k8;have:=r.o.inj L l d Y q k2 n;omega;exact WS
 have KN:∀d q,p=some (d,q)->Z d/\(∀c I,f[c]?=some (some (d,I))->c=l)/\NI Z h f w o d q:=λd q e=>by
  have g:=o6 d q e;subst e;exact⟨b.2.2.own l d q n g,λc I e'=>r.o.inj _ _ _ _ _ e' n,(r.o.at_ l o d q E n).2.cells M⟩
 have O:∀(c:Nat),c≠l->(f.set l none)[c]? = f[c]? := λc T=>by rw[JG (Q8 T)]
 have W:(f.set l none)[l]?=some none:=W5 U;have H:∀c d q:Nat,(f.set l none)[c]?=some (some (d,q))->c≠l/\f[c]?=some (some (d,q)):=λc d q e=>by
  by_cases m:c=l;subst m;rw[W]at e;cases e;exact⟨m,by rw[<- O c m];exact e⟩
 have hh:∀(c:Nat) (s:Ob),c≠l->h[c]?=some s->∃u:Ob,(h.set l o.gone)[c]?=some u/\u.gen=s.gen/\u.sz=s.sz/\u.kd.ty=s.kd.ty:=λc s C e=>
  ⟨s,by rw[JG (Q8 C)];exact e,rfl,rfl,rfl⟩
 have K:Dc k.F.length h f (h.set l o.gone) (f.set l none):=⟨λb' Xd c q e=>Xd c q (H _ _ _ e).2,λc s p' T ZG Z3=>by
  have C:c≠l:=ω;exact⟨s,by rw[JG (Q8 C)];exact ZG,by rw[O c C];exact Z3,rfl,rfl,rfl⟩⟩
 refine⟨f.set l none,⟨r.nt,r.defers,λu=>?_,⟨by simp[F],λy l2 d q I m B=>r.o.inj y l2 d q I (H _ _ _ m).2 (H _ _ _ B).2,λy J g m=>?_,λy J d q g m=>?_⟩⟩,b.keep K⟩;show QD Z _ _ w (get (put fr t _) u) _;rw[Eu];by_cases e:u=t;subst e;rw[Qd rfl];have g:=(r.fr u).fz E n M KN Zs hh;rw[ht]at g;have N:Nat.ble (off+len) o.n=true:=by rw[Ip];exact hn
 simpa only[D.fz,ND,N,Bool.and_self,vL] using g;rw[Qc e];exact(r.fr u).QfX E n M;by_cases B:y=l;subst B;rw[W5 ω]at g;cases g;rfl;rw[JG (Q8 B)]at g;rw[O y B]at m;exact r.o.VU y J g m;obtain⟨C,B⟩:=H _ _ _ m;rw[JG (Q8 C)]at g;obtain⟨g1,x⟩:=r.o.at_ y J d q g B;exact⟨g1,x.to rfl rfl rfl rfl (λi _=>rfl) λi j v hi hj hr=>hr.QfX E n M⟩
section
variable {P:Program}{base nt:Nat}{w0:Start}
end
section
variable {P:Program}{base nt:Nat}{w0:Start}{Q:Exit->St->Prop}
end
section
variable {P:Program}{base nt:Nat}{w0:Start}{Q:Exit->St->Prop}
end
end Go.Fg
namespace Go.Fg
section
variable {P:Program}{base nt:Nat}{w0:Start}{Q:Exit->St->Prop}{k:List Item}{s:St}
def OL(P:Program)(base nt:Nat)(w0:Start)(Q:Exit->St->Prop)(k:List Item)(c:Code):Nat->Exit->St->Prop
 | 0,.normal,_=>False
 | n+1,.normal,s=>Qz P base nt w0 (OL P base nt w0 Q k c n) [.code c] .normal s
 | _,e,s=>Qz P base nt w0 Q k e s
@[go_sem] theorem QHu{c}{n}:OL P base nt w0 Q k c (n+1) .normal s=Qz P base nt w0 (OL P base nt w0 Q k c n) [.code c] .normal s:=Vb rfl
@[go_sem] theorem QHv{c}{n j}:OL P base nt w0 Q k c n (.exit j) s=Qz P base nt w0 Q k (.exit j) s:=Vb (by cases n<;>rfl)
@[go_sem] theorem QHw{c}{n}:OL P base nt w0 Q k c n .ret s=Qz P base nt w0 Q k .ret s:=Vb (by cases n<;>rfl)
def xw(n){c}(h:Qz P base nt w0 (OL P base nt w0 Q k c n) [.code c] .normal s):Qz P base nt w0 Q (.code (.loop c)::k) .normal s:=by
 simp only[Qz];intro Z z l a w r b;refine wp_loop_rounds (n+1) ?_;induction n generalizing s l a w with
 | zero=>
  simp only[Qz]at h;rw[rounds_succ];refine Code.wp_mono (λe a w q=>?_) (h Z z l a w r b);obtain⟨j,i,d,g,f⟩:=q;cases e with
  | normal=>exact d.elim
  | _=>exact⟨j,i,d,g,f⟩
 | succ n m=>
  simp only[Qz]at h;rw[rounds_succ];refine Code.wp_mono (λe a w q=>?_) (h Z z l a w r b);obtain⟨j,i,d,g,f⟩:=q;cases e with
  | normal=>exact m d i a w g f
  | _=>exact⟨j,i,d,g,f⟩
end
end Go.Fg
namespace Go.Fg
section
variable {P:Program}{base nt:Nat}{w0:Start}
def yq(M:base<=w0.w.heap.size){K}{g}{m:TypeId}{i}{H}{r}{s}{x}{c}{J:Array TypeId}{f}{j}{l}(y:Qm P f)
  (q:JB (Qs s.fr x)=some (f,j,l)) {k:List D} (B:KC (Z5 j l (c.toList.map (Qs s.fr))) k) {R:D->List Ob->Prop} (F:QM P f s.h k R)
  (t:Zn nt g=true) (u:∀d h,R d h->AX P base nt w0 K r ⟨Zb s.fr g d,h⟩) :
  AX P base nt w0 K ((false, ⟨g, .call ⟨.value x, c, J⟩, m, "!", i, H⟩, none) :: r) s := by
 simp only[AX,Xi,qB];intro Z z p a w n b;exact Oper.wp_mono (λO N ⟨d,h,L,E,o,I,T,v,e⟩=>⟨λC=>absurd C (by simp[EL]),_,_,L,v,u d h E,o,I,T,e⟩) (QdP M y rfl q (F.args B) t p a w n b _)
end
end Go.Fg
namespace Go.Fg.X
open Go.Proofs Go.Fg
open Go.Proofs.Tryz
@[go_sem] def ol:List Nat:=[0,1,2,3,4,5,6,7,8,9,1010,1011,12]
@[go_sem] def ut:List Nat:=[0,1,2,3,4,5,6,1007]
@[go_sem] def Eq:List Nat:=[0,1,2,3,4,5,6,7,8,9]
@[go_sem] def i4:List Nat:=[0,1,2,3,4,5,6,7,8,9,10]
@[go_sem] def i5:List Nat:=[0,1,2,3,4,5,6,7,8,1009]
@[go_sem] def i6:List Nat:=[0,1,2,3,4,5,6,7,8,9,10,11,1012]
@[go_sem] def i7:List Nat:=[0,1,2,3,4,5,1006]
@[go_sem] def i9:List Nat:=[0,1,2,3,4,5,6,7,1008]
@[go_sem] def ii:List Nat:=[0,1,2,3,4,5,6,7,8,9,10,11,12,1013,14,1015]
@[go_sem] def Id:List Nat:=[0,1,2,3,4,5,6,7,8,9,10,11,1012,13]
@[go_sem] def o00:List Nat:=[0,1,2,3,4,5,6,7,8,9,10,11,1012,13,14]
@[go_sem] def o01:List Nat:=[0,1,2,3,4,5,6,7,8,1009,10,11,1012]
@[go_sem] def o02:List Nat:=[0,1,2,3,4,5,7,8,9,10,11,1006,1012,13,14,15,16,1017]
@[go_sem] def o03:List Nat:=[0,1,2,3,4,5,8,9,10,11,12,1006,7,1013,14,15,16,1017]
@[go_sem] def o04:List Nat:=[0,1,2,3,4,5,6,7,8,9,1010]
@[go_sem] def o05:List Nat:=[0,1,2,3,4,5,6,7,8]
@[go_sem] def o06:List Nat:=[0,1,2,3,4,5,6,7,8,9,10,11,12,13]
@[go_sem] def o07:List Nat:=[0,1,2,3,4,5,7,8,9,1006,1010,11]
@[go_sem] def o08:List Nat:=[0,1,2,3,4,5,6,7,8,9,10,11,12,14,15,1013,16,17]
@[go_sem] def o09:List Nat:=[0,1,2,3,4,5,6,7,8,9,10,11,12,13,14,1015,16,17]
@[go_sem] def o10:List Nat:=[0,1,2,3,4,5,6,7,1008,1009,10,11,12,1013,1014,15]
@[go_sem] def o11:List Nat:=[0,1,2,3,4,5,6,7,8,9,10,11,12,13,14,1015,16,17,1018]
@[go_sem] def o12:List Nat:=[0,1,2,3,4,5,6,7,8,9,10,11,12,13,14,15,16,17,1018,19]
def ml:List Nat->List (Nat × Bool)
 | []=>[]
 | a::l=>(if a<1000 then (a,true) else (a-1000,false))::ml l
@[go_sem] theorem QHx:ml []=[]:=rfl
@[go_sem] theorem QHy(a)(l):ml (a::l)=(if a<1000 then (a,true) else (a-1000,false))::ml l:=rfl
section
variable {base nt:Nat}{w0:Start}{Q:Exit->St->Prop}{k:List Item}{s:St}{B:Prop}{K:St->Prop}{l:List (Bool × Oper × G)}
def J5(a:base<=w0.w.heap.size)(h:B)(e:hx prog base w0 Q cx nt 200 k s=B:=by (simp only[go_sem,Qj];rfl)):Qz prog base nt w0 Q k .normal s:=Qh a (e▸h)
def kz1(a:base<=w0.w.heap.size)(e:hx prog base w0 Q cx nt 200 k s:=by simp only[go_sem,Qj]):Qz prog base nt w0 Q k .normal s:=Qh a e
def LC(a:base<=w0.w.heap.size)(h:B)(e:K8 prog base w0 cx nt K l s=B:=by (simp only[go_sem,Qj];rfl)):AX prog base nt w0 K l s:=ZT a (e▸h)
def az1(a:base<=w0.w.heap.size)(e:K8 prog base w0 cx nt K l s:=by simp only[go_sem,Qj]):AX prog base nt w0 K l s:=ZT a e
def Qg(a:base<=w0.w.heap.size)(h:B)(e:hx prog base w0 Q cx nt 200 k s=B:=by (simp only[go_sem];rfl)):Qz prog base nt w0 Q k .normal s:=Qh a (e▸h)
def VE(a:base<=w0.w.heap.size)(e:hx prog base w0 Q cx nt 200 k s:=by simp only[go_sem]):Qz prog base nt w0 Q k .normal s:=Qh a e
def Zp(a:base<=w0.w.heap.size)(h:B)(e:K8 prog base w0 cx nt K l s=B:=by (simp only[go_sem];rfl)):AX prog base nt w0 K l s:=ZT a (e▸h)
def Fb(a:base<=w0.w.heap.size)(e:K8 prog base w0 cx nt K l s:=by simp only[go_sem]):AX prog base nt w0 K l s:=ZT a e
def Qv{b}{a}(c:base<=w0.w.heap.size)(l)(h:K8 prog base w0 cx nt (Ol prog base w0 Q cx nt 200 k) (Go.Fg.Vj [] a (ml l)) s)(e:dW cx.L a (ml l)=true:=by kernel_rfl)(d:BL a s.fr=true:=by kernel_rfl):Qz prog base nt w0 Q (.code (.region b a true)::k) .normal s:=Qdw Vd c 200 mixed (ml l) e d h
def cH1{b}{j:TypeId}{pos}{c}{v}{r}{x}{a:Array Operand}{w:Array TypeId}{f}{e}{i}{g}(t:base<=w0.w.heap.size)(p:Qm prog f){R}(u:QM prog f s.h g R)(o:∀d h,R d h->Qz prog base nt w0 Q (.ops r::k) .normal ⟨Zb s.fr b d,h⟩)(m:JB (Qs s.fr x)=some (f,e,i):=by rfl)(q:KC (Z5 e i (a.toList.map (Qs s.fr))) g:=by simp only[go_sem,Qj])(n:Zn nt b=true:=by rfl):Qz prog base nt w0 Q (.ops ((⟨b,.call ⟨.value x,a,w⟩,j,pos,c,v⟩,none)::r)::k) .normal s:=zy t p m q u n o
def cR1{b}{i:TypeId}{pos}{c}{u}{r}{x}{a:Array Operand}{v:Array TypeId}{f}{e}{h}{g}(q:base<=w0.w.heap.size)(o:Qm prog f){R}(t:Zf prog f s.h g R)(n:∀d,R d->Qz prog base nt w0 Q (.ops r::k) .normal ⟨Zb s.fr b d,s.h⟩)(j:JB (Qs s.fr x)=some (f,e,h):=by rfl)(p:KC (Z5 e h (a.toList.map (Qs s.fr))) g:=by simp only[go_sem,Qj])(m:Zn nt b=true:=by rfl):Qz prog base nt w0 Q (.ops ((⟨b,.call ⟨.value x,a,v⟩,i,pos,c,u⟩,none)::r)::k) .normal s:=XI q o j p t m n
def cA1{b}{m:TypeId}{pos}{c}{C}{r}{x}{a:Array Operand}{E:Array TypeId}{f}{g}{j}{i}(y:base<=w0.w.heap.size)(v:Qm prog f){R}(z:QI prog f i R)(t:∀d h,R d h->d.flat=true/\∀o∈h,o.flat)(u:∀d h,R d h->Qz prog base nt w0 Q (.ops r::k) .normal ⟨Zb s.fr b (d.shift s.h.length),s.h++h.map (Ob.shift s.h.length)⟩)(n:JB (Qs s.fr x)=some (f,g,j):=by rfl)(w:match YD (Wd s.h 4) (Z5 g j (a.toList.map (Qs s.fr))) with|some (p,e)=>p/\KC e i|none=>False:=by simp only[go_sem,Qj])(q:Zn nt b=true:=by rfl):Qz prog base nt w0 Q (.ops ((⟨b,.call ⟨.value x,a,E⟩,m,pos,c,C⟩,none)::r)::k) .normal s:=Yi y v n w z t q u
def xR1{b}{i:TypeId}{pos}{c}{u}{r}{x}{a:Array Operand}{v:Array TypeId}{f}{e}{h}{g}(q:base<=w0.w.heap.size)(o:Qm prog f){R}(t:Zf prog f s.h g R)(n:∀d,R d->AX prog base nt w0 K r ⟨Zb s.fr b d,s.h⟩)(j:JB (Qs s.fr x)=some (f,e,h):=by rfl)(p:KC (Z5 e h (a.toList.map (Qs s.fr))) g:=by simp only[go_sem,Qj])(m:Zn nt b=true:=by rfl):AX prog base nt w0 K ((false,⟨b,.call ⟨.value x,a,v⟩,i,pos,c,u⟩,none)::r) s:=Oz q o j p t m n
def xH1{b}{j : TypeId}{c}{v}{r}{x}{a : Array Operand}{w : Array TypeId}{f}{e}{i}{g}(t : base <= w0.w.heap.size)(p : Qm prog f){R}(u : QM prog f s.h g R)(o : ∀ d h, R d h -> AX prog base nt w0 K r ⟨Zb s.fr b d, h⟩)(m : JB (Qs s.fr x) = some (f, e, i) := by rfl)(q : KC (Z5 e i (a.toList.map (Qs s.fr))) g := by simp only[go_sem, Qj])(n : Zn nt b = true := by rfl): AX prog base nt w0 K ((false, ⟨b, .call ⟨.value x, a, w⟩, j, "!", c, v⟩, none) :: r) s := yq t p m q u n o
def xA1{b}{m:TypeId}{pos}{c}{C}{r}{x}{a:Array Operand}{E:Array TypeId}{f}{g}{j}{i}(y:base<=w0.w.heap.size)(v:Qm prog f){R}(z:QI prog f i R)(t:∀d h,R d h->d.flat=true/\∀o∈h,o.flat)(u:∀d h,R d h->AX prog base nt w0 K r ⟨Zb s.fr b (d.shift s.h.length),s.h++h.map (Ob.shift s.h.length)⟩)(n:JB (Qs s.fr x)=some (f,g,j):=by rfl)(w:match YD (Wd s.h 4) (Z5 g j (a.toList.map (Qs s.fr))) with|some (p,e)=>p/\KC e i|none=>False:=by simp only[go_sem,Qj])(q:Zn nt b=true:=by rfl):AX prog base nt w0 K ((false,⟨b,.call ⟨.value x,a,E⟩,m,pos,c,C⟩,none)::r) s:=SE y v n w z t q u
def ZL{b}{j:TypeId}{pos}{c}{v}{r}{x}{a:Array Operand}{w:Array TypeId}{f}{e}{i}{g}(t:base<=w0.w.heap.size)(p:Qm prog f){R}(u:QM prog f s.h g R)(o:∀d h,R d h->Qz prog base nt w0 Q (.ops r::k) .normal ⟨Zb s.fr b d,h⟩)(m:JB (Qs s.fr x)=some (f,e,i):=by rfl)(q:KC (Z5 e i (a.toList.map (Qs s.fr))) g:=by simp only[go_sem])(n:Zn nt b=true:=by rfl):Qz prog base nt w0 Q (.ops ((⟨b,.call ⟨.value x,a,w⟩,j,pos,c,v⟩,none)::r)::k) .normal s:=zy t p m q u n o
def p9{b}{i:TypeId}{pos}{c}{u}{r}{x}{a:Array Operand}{v:Array TypeId}{f}{e}{h}{g}(q:base<=w0.w.heap.size)(o:Qm prog f){R}(t:Zf prog f s.h g R)(n:∀d,R d->Qz prog base nt w0 Q (.ops r::k) .normal ⟨Zb s.fr b d,s.h⟩)(j:JB (Qs s.fr x)=some (f,e,h):=by rfl)(p:KC (Z5 e h (a.toList.map (Qs s.fr))) g:=by simp only[go_sem])(m:Zn nt b=true:=by rfl):Qz prog base nt w0 Q (.ops ((⟨b,.call ⟨.value x,a,v⟩,i,pos,c,u⟩,none)::r)::k) .normal s:=XI q o j p t m n
def cA2{b}{m:TypeId}{pos}{c}{C}{r}{x}{a:Array Operand}{E:Array TypeId}{f}{g}{j}{i}(y:base<=w0.w.heap.size)(v:Qm prog f){R}(z:QI prog f i R)(t:∀d h,R d h->d.flat=true/\∀o∈h,o.flat)(u:∀d h,R d h->Qz prog base nt w0 Q (.ops r::k) .normal ⟨Zb s.fr b (d.shift s.h.length),s.h++h.map (Ob.shift s.h.length)⟩)(n:JB (Qs s.fr x)=some (f,g,j):=by rfl)(w:match YD (Wd s.h 4) (Z5 g j (a.toList.map (Qs s.fr))) with|some (p,e)=>p/\KC e i|none=>False:=by simp only[go_sem])(q:Zn nt b=true:=by rfl):Qz prog base nt w0 Q (.ops ((⟨b,.call ⟨.value x,a,E⟩,m,pos,c,C⟩,none)::r)::k) .normal s:=Yi y v n w z t q u
def xR2{b}{i:TypeId}{pos}{c}{u}{r}{x}{a:Array Operand}{v:Array TypeId}{f}{e}{h}{g}(q:base<=w0.w.heap.size)(o:Qm prog f){R}(t:Zf prog f s.h g R)(n:∀d,R d->AX prog base nt w0 K r ⟨Zb s.fr b d,s.h⟩)(j:JB (Qs s.fr x)=some (f,e,h):=by rfl)(p:KC (Z5 e h (a.toList.map (Qs s.fr))) g:=by simp only[go_sem])(m:Zn nt b=true:=by rfl):AX prog base nt w0 K ((false,⟨b,.call ⟨.value x,a,v⟩,i,pos,c,u⟩,none)::r) s:=Oz q o j p t m n
def kS{b}{j : TypeId}{c}{v}{r}{x}{a : Array Operand}{w : Array TypeId}{f}{e}{i}{g}(t : base <= w0.w.heap.size)(p : Qm prog f){R}(u : QM prog f s.h g R)(o : ∀ d h, R d h -> AX prog base nt w0 K r ⟨Zb s.fr b d, h⟩)(m : JB (Qs s.fr x) = some (f, e, i) := by rfl)(q : KC (Z5 e i (a.toList.map (Qs s.fr))) g := by simp only[go_sem])(n : Zn nt b = true := by rfl): AX prog base nt w0 K ((false, ⟨b, .call ⟨.value x, a, w⟩, j, "!", c, v⟩, none) :: r) s := yq t p m q u n o
def xA2{b}{m:TypeId}{pos}{c}{C}{r}{x}{a:Array Operand}{E:Array TypeId}{f}{g}{j}{i}(y:base<=w0.w.heap.size)(v:Qm prog f){R}(z:QI prog f i R)(t:∀d h,R d h->d.flat=true/\∀o∈h,o.flat)(u:∀d h,R d h->AX prog base nt w0 K r ⟨Zb s.fr b (d.shift s.h.length),s.h++h.map (Ob.shift s.h.length)⟩)(n:JB (Qs s.fr x)=some (f,g,j):=by rfl)(w:match YD (Wd s.h 4) (Z5 g j (a.toList.map (Qs s.fr))) with|some (p,e)=>p/\KC e i|none=>False:=by simp only[go_sem])(q:Zn nt b=true:=by rfl):AX prog base nt w0 K ((false,⟨b,.call ⟨.value x,a,E⟩,m,pos,c,C⟩,none)::r) s:=SE y v n w z t q u
def cC1{b}{m:TypeId}{pos}{c}{E}{r}{x}{a:Array Operand}{F:Array TypeId}{f}{g}{j}{i}(y:base<=w0.w.heap.size)(u:Qm prog f){v:D}(C:QI prog f i (QN v))(t:Qz prog base nt w0 Q (.ops r::k) .normal ⟨Zb s.fr b (v.shift s.h.length),s.h++([]:List Ob).map (Ob.shift s.h.length)⟩)(n:JB (Qs s.fr x)=some (f,g,j):=by rfl)(w:match YD (Wd s.h 4) (Z5 g j (a.toList.map (Qs s.fr))) with|some (p,e)=>p/\KC e i|none=>False:=by simp only[go_sem,Qj])(o:Zn nt b=true:=by rfl)(q:v.flat=true:=by rfl):Qz prog base nt w0 Q (.ops ((⟨b,.call ⟨.value x,a,F⟩,m,pos,c,E⟩,none)::r)::k) .normal s:=Yi y u n w C (QN.flat q) o λd h z=>by obtain⟨rfl,rfl⟩:=z;exact t
def cS1{b}{i:TypeId}{pos}{c}{w}{r}{x}{a:Array Operand}{y:Array TypeId}{f}{e}{h}{g}(q:base<=w0.w.heap.size)(o:Qm prog f){v}(u:Zf prog f s.h g (λd=>d=v))(n:Qz prog base nt w0 Q (.ops r::k) .normal ⟨Zb s.fr b v,s.h⟩)(j:JB (Qs s.fr x)=some (f,e,h):=by rfl)(p:KC (Z5 e h (a.toList.map (Qs s.fr))) g:=by simp only[go_sem,Qj])(m:Zn nt b=true:=by rfl):Qz prog base nt w0 Q (.ops ((⟨b,.call ⟨.value x,a,y⟩,i,pos,c,w⟩,none)::r)::k) .normal s:=XI q o j p u m λd t=>by subst t;exact n
def xC1{b}{m:TypeId}{pos}{c}{E}{r}{x}{a:Array Operand}{F:Array TypeId}{f}{g}{j}{i}(y:base<=w0.w.heap.size)(u:Qm prog f){v:D}(C:QI prog f i (QN v))(t:AX prog base nt w0 K r ⟨Zb s.fr b (v.shift s.h.length),s.h++([]:List Ob).map (Ob.shift s.h.length)⟩)(n:JB (Qs s.fr x)=some (f,g,j):=by rfl)(w:match YD (Wd s.h 4) (Z5 g j (a.toList.map (Qs s.fr))) with|some (p,e)=>p/\KC e i|none=>False:=by simp only[go_sem,Qj])(o:Zn nt b=true:=by rfl)(q:v.flat=true:=by rfl):AX prog base nt w0 K ((false,⟨b,.call ⟨.value x,a,F⟩,m,pos,c,E⟩,none)::r) s:=SE y u n w C (QN.flat q) o λd h z=>by obtain⟨rfl,rfl⟩:=z;exact t
def xS1{b}{i:TypeId}{pos}{c}{w}{r}{x}{a:Array Operand}{y:Array TypeId}{f}{e}{h}{g}(q:base<=w0.w.heap.size)(o:Qm prog f){v}(u:Zf prog f s.h g (λd=>d=v))(n:AX prog base nt w0 K r ⟨Zb s.fr b v,s.h⟩)(j:JB (Qs s.fr x)=some (f,e,h):=by rfl)(p:KC (Z5 e h (a.toList.map (Qs s.fr))) g:=by simp only[go_sem,Qj])(m:Zn nt b=true:=by rfl):AX prog base nt w0 K ((false,⟨b,.call ⟨.value x,a,y⟩,i,pos,c,w⟩,none)::r) s:=Oz q o j p u m λd t=>by subst t;exact n
def QV{b}{m:TypeId}{pos}{c}{E}{r}{x}{a:Array Operand}{F:Array TypeId}{f}{g}{j}{i}(y:base<=w0.w.heap.size)(u:Qm prog f){v:D}(C:QI prog f i (QN v))(t:Qz prog base nt w0 Q (.ops r::k) .normal ⟨Zb s.fr b (v.shift s.h.length),s.h++([]:List Ob).map (Ob.shift s.h.length)⟩)(n:JB (Qs s.fr x)=some (f,g,j):=by rfl)(w:match YD (Wd s.h 4) (Z5 g j (a.toList.map (Qs s.fr))) with|some (p,e)=>p/\KC e i|none=>False:=by simp only[go_sem])(o:Zn nt b=true:=by rfl)(q:v.flat=true:=by rfl):Qz prog base nt w0 Q (.ops ((⟨b,.call ⟨.value x,a,F⟩,m,pos,c,E⟩,none)::r)::k) .normal s:=Yi y u n w C (QN.flat q) o λd h z=>by obtain⟨rfl,rfl⟩:=z;exact t
def Zz{b}{i:TypeId}{pos}{c}{w}{r}{x}{a:Array Operand}{y:Array TypeId}{f}{e}{h}{g}(q:base<=w0.w.heap.size)(o:Qm prog f){v}(u:Zf prog f s.h g (λd=>d=v))(n:Qz prog base nt w0 Q (.ops r::k) .normal ⟨Zb s.fr b v,s.h⟩)(j:JB (Qs s.fr x)=some (f,e,h):=by rfl)(p:KC (Z5 e h (a.toList.map (Qs s.fr))) g:=by simp only[go_sem])(m:Zn nt b=true:=by rfl):Qz prog base nt w0 Q (.ops ((⟨b,.call ⟨.value x,a,y⟩,i,pos,c,w⟩,none)::r)::k) .normal s:=XI q o j p u m λd t=>by subst t;exact n
def ZD{b}{m:TypeId}{pos}{c}{E}{r}{x}{a:Array Operand}{F:Array TypeId}{f}{g}{j}{i}(y:base<=w0.w.heap.size)(u:Qm prog f){v:D}(C:QI prog f i (QN v))(t:AX prog base nt w0 K r ⟨Zb s.fr b (v.shift s.h.length),s.h++([]:List Ob).map (Ob.shift s.h.length)⟩)(n:JB (Qs s.fr x)=some (f,g,j):=by rfl)(w:match YD (Wd s.h 4) (Z5 g j (a.toList.map (Qs s.fr))) with|some (p,e)=>p/\KC e i|none=>False:=by simp only[go_sem])(o:Zn nt b=true:=by rfl)(q:v.flat=true:=by rfl):AX prog base nt w0 K ((false,⟨b,.call ⟨.value x,a,F⟩,m,pos,c,E⟩,none)::r) s:=SE y u n w C (QN.flat q) o λd h z=>by obtain⟨rfl,rfl⟩:=z;exact t
def KQ{b}{i:TypeId}{pos}{c}{w}{r}{x}{a:Array Operand}{y:Array TypeId}{f}{e}{h}{g}(q:base<=w0.w.heap.size)(o:Qm prog f){v}(u:Zf prog f s.h g (λd=>d=v))(n:AX prog base nt w0 K r ⟨Zb s.fr b v,s.h⟩)(j:JB (Qs s.fr x)=some (f,e,h):=by rfl)(p:KC (Z5 e h (a.toList.map (Qs s.fr))) g:=by simp only[go_sem])(m:Zn nt b=true:=by rfl):AX prog base nt w0 K ((false,⟨b,.call ⟨.value x,a,y⟩,i,pos,c,w⟩,none)::r) s:=Oz q o j p u m λd t=>by subst t;exact n
def Ks{b}{m:TypeId}{pos}{c}{E}{r}{x}{a:Array Operand}{F:Array TypeId}{f}{g}{j}{i}(y:base<=w0.w.heap.size)(u:Qm prog f)(w:match YD (Wd s.h 4) (Z5 g j (a.toList.map (Qs s.fr))) with|some (p,e)=>p/\KC e i|none=>False){v:D}(C:QI prog f i (QN v))(t:Qz prog base nt w0 Q (.ops r::k) .normal ⟨Zb s.fr b (v.shift s.h.length),s.h++([]:List Ob).map (Ob.shift s.h.length)⟩)(n:JB (Qs s.fr x)=some (f,g,j):=by rfl)(o:Zn nt b=true:=by rfl)(q:v.flat=true:=by rfl):Qz prog base nt w0 Q (.ops ((⟨b,.call ⟨.value x,a,F⟩,m,pos,c,E⟩,none)::r)::k) .normal s:=Yi y u n w C (QN.flat q) o λd h z=>by obtain⟨rfl,rfl⟩:=z;exact t
def QHN{b}{i:TypeId}{pos}{c}{w}{r}{x}{a:Array Operand}{y:Array TypeId}{f}{e}{h}{g}(q:base<=w0.w.heap.size)(o:Qm prog f)(p:KC (Z5 e h (a.toList.map (Qs s.fr))) g){v}(u:Zf prog f s.h g (λd=>d=v))(n:Qz prog base nt w0 Q (.ops r::k) .normal ⟨Zb s.fr b v,s.h⟩)(j:JB (Qs s.fr x)=some (f,e,h):=by rfl)(m:Zn nt b=true:=by rfl):Qz prog base nt w0 Q (.ops ((⟨b,.call ⟨.value x,a,y⟩,i,pos,c,w⟩,none)::r)::k) .normal s:=XI q o j p u m λd t=>by subst t;exact n
def Y7{b}{m:TypeId}{pos}{c}{E}{r}{x}{a:Array Operand}{F:Array TypeId}{f}{g}{j}{i}(y:base<=w0.w.heap.size)(u:Qm prog f)(w:match YD (Wd s.h 4) (Z5 g j (a.toList.map (Qs s.fr))) with|some (p,e)=>p/\KC e i|none=>False){v:D}(C:QI prog f i (QN v))(t:AX prog base nt w0 K r ⟨Zb s.fr b (v.shift s.h.length),s.h++([]:List Ob).map (Ob.shift s.h.length)⟩)(n:JB (Qs s.fr x)=some (f,g,j):=by rfl)(o:Zn nt b=true:=by rfl)(q:v.flat=true:=by rfl):AX prog base nt w0 K ((false,⟨b,.call ⟨.value x,a,F⟩,m,pos,c,E⟩,none)::r) s:=SE y u n w C (QN.flat q) o λd h z=>by obtain⟨rfl,rfl⟩:=z;exact t
def Qf1{b}{i:TypeId}{pos}{c}{w}{r}{x}{a:Array Operand}{y:Array TypeId}{f}{e}{h}{g}(q:base<=w0.w.heap.size)(o:Qm prog f)(p:KC (Z5 e h (a.toList.map (Qs s.fr))) g){v}(u:Zf prog f s.h g (λd=>d=v))(n:AX prog base nt w0 K r ⟨Zb s.fr b v,s.h⟩)(j:JB (Qs s.fr x)=some (f,e,h):=by rfl)(m:Zn nt b=true:=by rfl):AX prog base nt w0 K ((false,⟨b,.call ⟨.value x,a,y⟩,i,pos,c,w⟩,none)::r) s:=Oz q o j p u m λd t=>by subst t;exact n
def Vx(b){c}{a}(d:base<=w0.w.heap.size)(l:List Nat)(R:List Nat)(h:K8 prog base w0 cx nt (EW prog base w0 cx nt (Ol prog base w0 Q cx nt 200 k) R.length (Go.Fg.jF b a R) ((ml l).map (·.1))) (Go.Fg.Vj b a (ml l)) s)(f:Dg b cx.L a (ml l) R=true:=by kernel_rfl)(e:BL a s.fr=true:=by kernel_rfl):Qz prog base nt w0 Q (.code (.region c a true)::k) .normal s:=Qdy b Vd d 200 mixed (ml l) R f e h
end
def QY(k){R}{f}{d:Func}{c}{a:List D}{e}{g:Array ResultVar}(j:prog.funcs[f]?=some d)(m:d.ntmps=e)(n:d.results=g)(h:∀(b:Nat) (w:World),b<=w.heap.size->hx prog b ⟨w,[],[]⟩ (As cx.L g.toList (Kept k R)) cx e 200 [.code c] ⟨jE a 0,[]⟩)(l:d.body=some c:=by rfl)(i:Nat.ble a.length e=true:=by rfl):QI prog f a R:=Qdt k Vd 200 j l m n i h
def Q7{R}{F}{f}{d:Func}{c}{a:List D}{e}{g:Array ResultVar}(k:prog.funcs[f]?=some d)(m:d.ntmps=e)(n:d.results=g)(h:∀(b:Nat) (w:World) (i:List Pl),b<=w.heap.size->hx prog b ⟨w,F,i⟩ (As cx.L g.toList R) cx e 200 [.code c] ⟨jE a 0,F⟩)(l:d.body=some c:=by rfl)(j:Nat.ble a.length e=true:=by rfl):QM prog f F a R:=oQ Vd 200 k l m n j h
def ZH{R}{H:List Ob}{f}{e:Func}{c}{a:List D}{i}{j:Array ResultVar}(m:prog.funcs[f]?=some e)(p:e.ntmps=i)(q:e.results=j)(h:∀(b:Nat) (w:World) (k:List Pl) (F:List Ob),F=H.map Ob.ro->F.length=H.length->b<=w.heap.size->hx prog b ⟨w,F,k⟩ (As cx.L j.toList λd o=>∃g,o=F++g/\d.upto F.length=true/\R d) cx i 200 [.code c] ⟨jE a 0,F⟩)(n:e.body=some c:=by rfl)(l:Nat.ble a.length i=true:=by rfl):Zf prog f H a R:=Qpz Vd 200 m n p q l h
def W9{p}(h:p:=by first|exact⟨_,rfl,rfl⟩|exact⟨_,rfl⟩|rfl|exact⟨[],(JS _).symm⟩|exact⟨[],(JS _).symm,rfl⟩):p:=h
def Zw{e n}(h:-9223372036854775808<=e/\e<=9223372036854775807/\e=n:=by omega):IntKind.i64.wrap e=n:=by rw[wrap64 h.1 h.2.1];exact h.2.2
def QO{b}{a g}{h}(e:GZ a g:=by simp only[go_sem]):Qo b ⟨a,h⟩ ⟨g,h⟩:=Qo.frame e
end Go.Fg.X
namespace Go.Fg
def Quv{P}{o:Oper}{a}{w}{K i}{Q g}(f:∀a w,K a w->i a w)(d:∀e a w,Q e a w->g e a w)(h:o.wp P a w K Q):o.wp P a w i g:=by
 unfold Oper.wp at *;generalize (execOp a.eval o).run P w=r at *;cases r with
 | ok x j=>
  cases x<;>simp only[Oper.upon]at h ⊢<;>first|exact f _ _ h|exact h|skip
  exact h.mono λe k b=>by
   cases e with
   | returned v=>exact f _ _ b
   | panicked c=>exact d _ _ _ b
   | outgrown=>obtain⟨a,w,h⟩:=b;exact⟨a,w,d _ _ _ h⟩
  exact h.mono λv k b=>f _ _ b
 | halt x j=>cases x<;>first|exact h|exact d _ _ _ h
def fH{P}{Q d}(b:∀e a w,Q e a w->d e a w):∀(l:List (Oper × G)) (a:Act) (w:World),YY P Q l a w->YY P d l a w
 | [],a,w,h=>b _ _ _ h
 | (o,g)::r,a,w,h=>by
  simp only[YY]at h ⊢;split at h;rename_i c;rw[Qd c];exact Quv (λa w=>fH b r a w) b h;rename_i c;rw[Qc c];exact fH b r _ _ h
section
variable {P:Program}{base nt:Nat}{w0:Start}{Q:Exit->St->Prop}{k:List Item}{s s1:St}
def SX(P:Program)(base nt:Nat)(w0:Start)(Q:Exit->St->Prop)(k:List Item)(s1:St):Exit->St->Prop
 | .normal,s=>Qo w0 s s1
 | e,s=>Qz P base nt w0 Q k e s
@[go_sem] theorem QHO:SX P base nt w0 Q k s1 .normal s=Qo w0 s s1:=Vb rfl
@[go_sem] theorem QHP{j}:SX P base nt w0 Q k s1 (.exit j) s=Qz P base nt w0 Q k (.exit j) s:=Vb rfl
@[go_sem] theorem QHQ:SX P base nt w0 Q k s1 .ret s=Qz P base nt w0 Q k .ret s:=Vb rfl
def rb{x}{c}(s1)(d:Qz P base nt w0 (SX P base nt w0 Q (.code c::k) s1) [x] .normal s)(f:Qz P base nt w0 Q (.code c::k) .normal s1):Qz P base nt w0 Q (x::.code c::k) .normal s:=by
 cases x with
 | code x=>
  simp only[Qz]at d;show A P base nt w0 x _ s;refine d.mono λe g i=>?_;cases e with
  | normal=>exact Lb i f
  | _=>exact i
 | ops l=>
  simp only[Qz]at d;show AG P base nt w0 l _ s;intro Z z m a w r b;refine fH (λe q p ⟨g,o,h,j,n⟩=>⟨g,o,?_,j,n⟩) _ _ _ (d Z z m a w r b);cases e with
  | normal=>exact Lb h f
  | _=>exact h
 | inBlock id=>simp only[Qz]at d ⊢;exact Lb d f
 | inScope=>simp only[Qz]at d ⊢;exact Lb d f
def BW{x}{c}(b)(V){d}{h}{a}(g:eC d b=a)
  (f:Qz P base nt w0 (SX P base nt w0 Q (.code c::k) ⟨V++a,h⟩) [x] .normal ⟨d,h⟩) (e:Qz P base nt w0 Q (.code c::k) .normal ⟨V++a,h⟩):Qz P base nt w0 Q (x::.code c::k) .normal ⟨d,h⟩:=rb _ f e
@[go_sem] theorem QHR{X}:hx P base w0 Q X nt 0 k s=Qz P base nt w0 Q k .normal s:=by cases k<;>exact Vb rfl
end
end Go.Fg
namespace Go.Fg.X
open Go.Proofs Go.Fg
open Go.Proofs.Tryz
@[go_sem] def fI(c:Cv):D:=.agg c.cells
@[go_sem] def WV(c:Ql):D:=.agg c.cells
def QH(c:Cv):Int:=if c.m1=0/\c.d=0/\c.m2=0 then 1 else if 4294967295<c.m1\/4294967295<c.m2\/1048576<c.d then 0 else if c.d=0/\c.m1=c.m2 then 2 else if 0<c.d/\c.m2<c.m1 then 3 else if 0<c.d/\c.m1=0/\0<c.m2 then 4 else 0
def fJ(c):QI prog 165 [fI c] (QN (Qa (QH c))):=by
 refine QY 0 func165 ntmps165 results165 λa w b=>?_;simp only[go_sem]
 repeat' (first|((first|refine zg (λh=>?_) (λh=>?_)|refine zj (λh=>?_) (λh=>?_)|refine zk (λh=>?_) (λh=>?_)|refine VV (λh=>?_) (λh=>?_)|refine zl (λh=>?_) (λh=>?_)|refine zn (λh=>?_) (λh=>?_)|refine zo (λh=>?_) (λh=>?_)|refine ze (λh=>?_) (λh=>?_))<;>(try simp only[go_sem]))|(refine And.intro ω ?_;try simp only[go_sem]))
 all_goals (congr 2;(try simp only[Gm,jv,ZE,qX,ne_eq]at *);unfold QH;(repeat' split)<;>omega)
def Dp(c:Cv)(f:0<=c.m1)(e:0<=c.d)(d:0<=c.m2):QI prog 12 [fI c] (QN (Qa (QH c))):=by
 refine QY 0 func12 ntmps12 results12 λa w b=>?_;simp only[go_sem]
 repeat' (first|((first|refine zg (λh=>?_) (λh=>?_)|refine zj (λh=>?_) (λh=>?_)|refine zk (λh=>?_) (λh=>?_)|refine VV (λh=>?_) (λh=>?_)|refine zl (λh=>?_) (λh=>?_)|refine zn (λh=>?_) (λh=>?_)|refine zo (λh=>?_) (λh=>?_)|refine ze (λh=>?_) (λh=>?_))<;>(try simp only[go_sem]))|(refine And.intro ω ?_;try simp only[go_sem]))
 all_goals (congr 2;unfold QH;(repeat' split)<;>omega)
def rf(c):QI prog 174 [fI c] (QN (QU (QH c != 0))):=by
 refine QY 0 func174 ntmps174 results174 λb w a=>?_;simp only[go_sem];apply QV a E0 (fJ c);exact VE a
def fK(c):QI prog 129 [fI c] (QN (QU (decide (1<QH c)))):=by
 refine QY 0 func129 ntmps129 results129 λb w a=>?_;simp only[go_sem];apply QV a E0 (fJ c);exact VE a
def Fc(c:Ql):QI prog 107 [WV c] (QN (QU (decide (1<QH c.rt)))):=by
 refine QY 0 func107 ntmps107 results107 λb w a=>?_;simp only[go_sem];apply QV a fp (fK c.rt);exact VE a
def vZ(c:Ql):QI prog 94 [WV c] (QN (QU (decide (1<QH c.ls)))):=by
 refine QY 0 func94 ntmps94 results94 λb w a=>?_;simp only[go_sem];apply QV a fp (fK c.ls);exact VE a
def Qf2(c:Ql):QI prog 222 [WV c] (QN (QU (decide (1<QH c.ul)))):=by
 refine QY 0 func222 ntmps222 results222 λb w a=>?_;simp only[go_sem];apply QV a fp (fK c.ul);exact VE a
def yr(n a b:Int):Bool:=decide (a<=n)&&decide (n<=b)
def fM(n a b):QI prog 221 [Qa n,Qa a,Qa b] (QN (QU (yr n a b))):=by
 refine QY 0 func221 ntmps221 results221 λc w d=>?_;simp only[go_sem];unfold yr;by_cases h:a<=n;simp only[go_sem,h];simp only[go_sem,h]
def Dq(c:Ql):Bool:=yr c.iD 1 65536&&yr c.parent 0 65536&&!(c.parent==c.iD)
def Dr(c:Ql):Bool:=(QH c.rt != 0)&&((QH c.ls != 0)&&!(QH c.ls==4))&&((QH c.ul != 0)&&!(QH c.ul==4))
def jJ(c:Ql):Bool:=yr c.ZK 1 64&&yr c.bytes 1 1048576&&(decide (1<QH c.rt) || decide (1<QH c.ls))
def BX(c:Ql):Bool:=c.ZK==0&&c.bytes==0&&!decide (1<QH c.rt)
def KD(c:Ql):Int:=if !Dq c then 1 else if !Dr c then 21 else if (c.leaf&&!jJ c) || (!c.leaf&&!BX c) || (decide (1<QH c.ul)&&!decide (1<QH c.ls)) then 29 else 0
structure Quw (c:Ql) (k:Nat) (s:St):Prop where
 h0:0<k->QH c.rt≠0
 h1:1<k->QH c.ls≠0/\QH c.ls≠4
 h2:2<k->QH c.ul≠0/\QH c.ul≠4
 eq:s=⟨[(1,.ptr 0 0 0 0),(2,Qa 0),(30,.agg (c.rt.cells++(c.ls.cells++c.ul.cells))),(31,Qa k)],[⟨.one,0,14,1,λ_=>c.cells⟩]⟩
def Qf3(c):QI prog 167 [WV c] (QN (Qa (KD c))):=by
 refine QY 0 func167 ntmps167 results167 λz w f=>?_;simp only[go_sem];apply QV f fy (fM c.iD 1 65536);apply Qg f;cases q:yr c.iD 1 65536;have:KD c=1:=by simp[KD,Dq,q]
 simp only[go_sem,this];simp only[go_sem];apply QV f fy (fM c.parent 0 65536);apply Qg f;cases y:yr c.parent 0 65536;have:KD c=1:=by simp[KD,Dq,q,y]
 simp only[go_sem,this];simp only[go_sem];by_cases o:c.parent=c.iD;have:KD c=1:=by simp[KD,Dq,q,o]
 simp only[go_sem,WA o,this];simp only[go_sem,Vw o];have m:Dq c=true:=by simp[Dq,q,y,o]
 have E:IntKind.i64.wrap 1=1:=π;have C:IntKind.i64.wrap 2=2:=π;have B:IntKind.i64.wrap 3=3:=π;refine ZN (Quw c) 3
  (s0:=⟨[(1,.ptr 0 0 0 0),(2,Qa 0),(30,.agg (c.rt.cells++(c.ls.cells++c.ul.cells))),(31,Qa 0)],[⟨.one,0,14,1,λ_=>c.cells⟩]⟩) QO ⟨ω,ω,ω,rfl⟩ ?_
 rintro k s J ⟨p,u,x,rfl⟩;obtain rfl|rfl|rfl|rfl:k=0\/k=1\/k=2\/k=3:=ω;apply Qg f;apply QV f OF (rf c.rt);apply Qg f;by_cases h:QH c.rt=0;have:KD c=21:=by simp[KD,m,Dr,h]
 simp only[go_sem,WA h,bne,this,Go.undef];simp only[go_sem,Vw h,bne,Go.undef];refine⟨_,Qo.to 1 ⟨?_,by simp only[go_sem],?_,?_⟩,⟨λ_=>h,ω,ω,rfl⟩⟩<;>simp only[go_sem,E];apply Qg f;apply QV f OF (rf c.ls);apply Qg f;by_cases h:QH c.ls=0;have:KD c=21:=by simp[KD,m,Dr,h]
 simp only[go_sem,WA h,bne,this,Go.undef];simp only[go_sem,Vw h,bne,Go.undef];apply QV f E0 (fJ c.ls);apply Qg f;by_cases j:QH c.ls=4;have:KD c=21:=by simp[KD,m,Dr,j]
 simp only[go_sem,WA j,this];simp only[go_sem,Vw j];refine⟨_,Qo.to 1 ⟨?_,by simp only[go_sem],?_,?_⟩,⟨λ_=>p ω,λ_=>⟨h,j⟩,ω,rfl⟩⟩<;>simp only[go_sem,C];apply Qg f;apply QV f OF (rf c.ul);apply Qg f;by_cases h:QH c.ul=0;have:KD c=21:=by simp[KD,m,Dr,h]
 simp only[go_sem,WA h,bne,this,Go.undef];simp only[go_sem,Vw h,bne,Go.undef];apply QV f E0 (fJ c.ul);apply Qg f;by_cases j:QH c.ul=4;have:KD c=21:=by simp[KD,m,Dr,j]
 simp only[go_sem,WA j,this];simp only[go_sem,Vw j];refine⟨_,Qo.to 1 ⟨?_,by simp only[go_sem],?_,?_⟩,⟨λ_=>p ω,λ_=>u ω,λ_=>⟨h,j⟩,rfl⟩⟩<;>simp only[go_sem,B];have F:Dr c=true:=by
  have a:=p ω;have b:=u ω;have d:=x ω;simp[Dr,a,b,d]
 clear p u x;apply Qg f;first|refine qA ?_|skip
 refine BW [1,2] [(5,QU (jJ c))] rfl ?_ ?_;apply Qg f;apply QV f fy (fM c.ZK 1 64);apply Qg f;cases i:yr c.ZK 1 64;have e:jJ c=false:=by simp[jJ,i]
 simp only[go_sem,Go.undef];exact Qo.to 1 (by (simp only[go_sem,e])<;>simp);simp only[go_sem];apply QV f fy (fM c.bytes 1 1048576);apply Qg f;cases l:yr c.bytes 1 1048576;have e:jJ c=false:=by simp[jJ,i,l]
 simp only[go_sem,Go.undef];exact Qo.to 1 (by (simp only[go_sem,e])<;>simp);simp only[go_sem];apply QV f Dl (Fc c);apply Qg f;cases v:decide (1<QH c.rt);simp only[go_sem];apply QV f vY (vZ c);apply Qg f;have e:jJ c=decide (1<QH c.ls):=by simp[jJ,i,l,v]
 exact Qo.to 1 (by (simp only[go_sem,e])<;>simp);have e:jJ c=true:=by simp[jJ,i,l,v]
 simp only[go_sem,Go.undef];exact Qo.to 1 (by (simp only[go_sem,e])<;>simp);first|refine qA ?_|skip
 refine BW [1,2,5] [(6,QU (BX c))] rfl ?_ ?_;apply Qg f;by_cases i:c.ZK=0;simp only[go_sem,WA i,Go.undef];by_cases l:c.bytes=0;simp only[go_sem,WA l];apply QV f Dl (Fc c);apply Qg f;have e:BX c=!decide (1<QH c.rt):=by simp[BX,i,l]
 exact Qo.to 1 (by (simp only[go_sem,e])<;>simp);have e:BX c=false:=by simp[BX,i,l]
 simp only[go_sem,Vw l,Go.undef];exact Qo.to 1 (by (simp only[go_sem,e])<;>simp);have e:BX c=false:=by simp[BX,i]
 simp only[go_sem,Vw i,Go.undef];exact Qo.to 1 (by (simp only[go_sem,e])<;>simp);apply Qg f;have g:KD c=if (c.leaf&&!jJ c) || (!c.leaf&&!BX c) || (decide (1<QH c.ul)&&!decide (1<QH c.ls)) then 29 else 0:=by simp[KD,m,F]
 generalize jJ c=H at g ⊢;generalize BX c=I at g ⊢;cases n:c.leaf<;>rw[n]at g;cases I;simp at g;simp only[go_sem,Go.undef,g];simp only[go_sem,Go.undef];refine Ks f QfA ?_ (Qf2 c) ?_;simp only[go_sem,n];apply Qg f;cases r:decide (1<QH c.ul)<;>rw[r]at g;simp at g;simp only[go_sem,Go.undef,g];simp only[go_sem];refine Ks f vY ?_ (vZ c) ?_;simp only[go_sem,n];apply Qg f;cases t:decide (1<QH c.ls)<;>rw[t]at g<;>simp at g<;>simp only[go_sem,g];cases H;simp at g;simp only[go_sem,Go.undef,g];simp only[go_sem,Go.undef];refine Ks f QfA ?_ (Qf2 c) ?_;simp only[go_sem,n];apply Qg f;cases r:decide (1<QH c.ul)<;>rw[r]at g;simp at g;simp only[go_sem,Go.undef,g];simp only[go_sem];refine Ks f vY ?_ (vZ c) ?_;simp only[go_sem,n];apply Qg f;cases t:decide (1<QH c.ls)<;>rw[t]at g<;>simp at g<;>simp only[go_sem,g]
def ri(c):0<=QH c/\QH c<=4:=by unfold QH;(repeat' split)<;>omega
def BY(c:Ql):Int:=if c.iD<1\/65536<c.iD\/c.parent<0\/65536<c.parent\/c.iD=c.parent then 1
 else if QH c.rt=0\/QH c.ls=0\/QH c.ul=0\/QH c.ls=4\/QH c.ul=4 then 21
 else if 1<QH c.ul/\QH c.ls=1 then 29
 else if c.leaf=true then (if c.ZK<1\/64<c.ZK\/c.bytes<1\/1048576<c.bytes\/(QH c.rt=1/\QH c.ls=1) then 29 else 0)
 else if c.ZK≠0\/c.bytes≠0\/QH c.rt≠1 then 29 else 0
def Cv.Nn(c:Cv):Prop:=0<=c.m1/\0<=c.d/\0<=c.m2
def Ql.Nn(c:Ql):Prop:=c.rt.Nn/\c.ls.Nn/\c.ul.Nn
def fN(c:Ql)(a:c.Nn):QI prog 84 [WV c] (QN (Qa (BY c))):=by
 refine QY 0 func84 ntmps84 results84 λd w b=>?_;simp only[go_sem]
 repeat' (first|((first|refine zg (λh=>?_) (λh=>?_)|refine zj (λh=>?_) (λh=>?_)|refine zk (λh=>?_) (λh=>?_)|refine VV (λh=>?_) (λh=>?_)|refine zl (λh=>?_) (λh=>?_)|refine zn (λh=>?_) (λh=>?_)|refine zo (λh=>?_) (λh=>?_)|refine ze (λh=>?_) (λh=>?_))<;>(try simp only[go_sem]))|(refine And.intro ω ?_;try simp only[go_sem]))
 all_goals first|(congr 2;unfold BY;(repeat' split)<;>first|omega|simp_all;done)|skip
 apply QV b xo (Dp c.rt a.1.1 a.1.2.1 a.1.2.2);apply Qg b;apply QV b xo (Dp c.ls a.2.1.1 a.2.1.2.1 a.2.1.2.2);apply Qg b;apply QV b xo (Dp c.ul a.2.2.1 a.2.2.2.1 a.2.2.2.2);apply Qg b
 repeat' (first|((first|refine zg (λh=>?_) (λh=>?_)|refine zj (λh=>?_) (λh=>?_)|refine zk (λh=>?_) (λh=>?_)|refine VV (λh=>?_) (λh=>?_)|refine zl (λh=>?_) (λh=>?_)|refine zn (λh=>?_) (λh=>?_)|refine zo (λh=>?_) (λh=>?_)|refine ze (λh=>?_) (λh=>?_))<;>(try simp only[go_sem]))|(refine And.intro ω ?_;try simp only[go_sem]))
 all_goals first|(congr 2;unfold BY;(repeat' split)<;>first|omega|simp_all;done)|skip
def Qf4(c):BY c=KD c:=by
 have h:=ri c.rt;have g:=ri c.ls;have f:=ri c.ul;unfold BY KD Dq Dr jJ BX yr;generalize QH c.rt=a at *;generalize QH c.ls=b at *;generalize QH c.ul=d at *;cases e:c.leaf<;>simp only[ZE,Bf,qv,Gm,Gq,Xo,Iy,qX,jv,bne_eq_false_iff_eq,Bool.not_eq_false',ne_eq,reduceCtorEq,false_and,vM,false_or,or_false,qY,Vu]<;>(repeat' split)<;>omega
end Go.Fg.X
namespace Go.Fg
open Go.RowKit (Below)
open Go.Proofs Go.Shelf Go.Sort
def sorted(a:List Int):List Int:=a.mergeSort λx y=>decide (x<=y)
def He(a:List Int):(sorted a).length=a.length:=by simp[sorted]
def v8(a:Nat)(b:Nat->List D)(c:List Int):Nat->List D:=λi=>if a<=i/\i<a+c.length then [.raw (.int .i64 (c.getD (i-a) 0))] else b i
variable {P:Program}{ρ:Ren}
def Qux{w:World}{b n o}{g}{a}{e:TypeId}{f}(d)(c:w.heap[b]?=some (.cells a e f)):
  (grow (putRow (Value.int .i64) (Sort.ahead w n) b o d) g).heap[b]?=some (.cells (putCells (Value.int .i64) o d a) e f):=by
 have h:b<w.heap.size:=(WK.1 c).1;rw[heap_grow_old _ _ (by simpa using h)];simp[putRow,mapBlock,Sort.ahead,mW,c,onCells]
def Quy{w:World}{b n o}{a}(d):w.grownBy (grow (putRow (Value.int .i64) (Sort.ahead w n) b o d) a) (some b):=by
 refine⟨rfl,rfl,rfl,σ,λk c f=>?_⟩;rw[heap_grow_old _ _ (by simpa using c)];have:b≠k:=λe=>f (by rw[e]);simp[putRow,mapBlock,Sort.ahead,mW,this]
def Quz(Ly:Lays.n189 P ρ){h:List Ob}{l g f N}{r}{m:List Int}(C:h[l]?=some ⟨.arr,g,1,N,r⟩)(hn:f+m.length<=N)(hr:∀i,i<m.length->r (f+i)=[.raw (.int .i64 (m.getD i 0))])(I:m.length<4611686018427387904):
  QM P (ρ.f 189) h [.ref l g f m.length] (λd h'=>d=.tup []/\h'=h.set l ⟨.arr,g,1,N,v8 f r (sorted m)⟩):=by
 intro Z t w J vs Q4 hZ R vU hv;match vs,vU with
 | [v],_=>
 have r0:=hv 0 σ;obtain⟨o,p,a,B,E,h1,M,h3,h4,h5⟩:=Ex r0;rw[C]at h1;cases h1;have E:v=.slice a m.length B:=E;have BP:=h5 rfl;subst E;have Qb:l<h.length:=KA C;by_cases h0:m.length=0;have hz:m=[]:=El.1 h0;subst hz;refine(Any.slices_Sort_int_none Ly a B w).mono ?_;rintro e x ⟨rfl,rfl⟩;have hs:h.set l ⟨.arr,g,1,N,v8 f r (sorted [])⟩=h:=by
  have:v8 f r (sorted [])=r:=by
   funext i;have:¬ (f<=i/\i<f+(sorted []).length):=by rw[He];simp
   unfold v8;rw[Qc this]
  rw[this];apply y8;intro i;by_cases s:l=i;subst s;rw[W5 Qb,C];rw[JG s]
 rw[hs];exact⟨_,.tup [],h,J,rfl,⟨rfl,rfl⟩,R,.tup [] [] rfl (λi s=>by simp at s),Tr.refl _ _ _,.refl _ _⟩;rcases BP with ⟨h6,_⟩|⟨b,q,c,el,rfl,rfl,z,GK,Zs⟩;exact absurd h6 h0;obtain⟨vN,yd⟩:=R.at_ l _ b q C M;obtain⟨c',bZ,Xd,JI,J3,ZW⟩:=yd.cells rfl;rw[z]at Xd;cases Xd;simp only[Nat.mul_one]at GK JI ZW ⊢;have CV:∀i,i<m.length->c[q+f+i]?=some (.int .i64 (m.getD i 0)):=λi s=>by
  obtain⟨u,K,F⟩:=ZW (f+i) 0 (by show f+i<N;omega) (by show 0<1;omega);have e2:(r (f+i))=_:=hr i s;have F:QD Z h J w (nth (r (f+i)) 0) u:=F;rw[e2]at F;have:=Ju F;rw[show q+f+i=q+(f+i+0) by omega,K,this]
 have hH:Holds (Value.int .i64) w b (q+f) m.toArray:=by
  intro j H;have Wc:j<m.length:=by simpa using H
  refine⟨?_,by simp[World.frozen?,z]⟩;rw[World.cell?_of_block (w:=w) (w':=w) rfl];simp only[World.cell?,z];simp only[Es,qu,qY];rw[CV j Wc];simp[QW,Wc]
 refine(Any.slices_Sort_int Ly b (q+f) B m w hH (kr z) I).mono ?_;rintro e x ⟨rfl,n,os,Y⟩;have hG:w.grownBy x (some b):=by rw[Y];exact Quy _
 have JZ:x.heap[b]?=some (.cells (putCells (Value.int .i64) (q+f) (sorted m).toArray c) el (0,0)):=by rw[Y];exact Qux _ z
 have Q:(putCells (Value.int .i64) (q+f) (sorted m).toArray c).size=c.size:=by simp[putCells]
 have y:∀k,k≠b->k<w.heap.size->x.heap[k]? = w.heap[k]? := λk L Qb=>hG.block k Qb (λe=>L (by cases e;rfl));have W:t<=b:=vN rfl;have hB:Below t w x:=(Below.refl t w).grown hG Q4 (λk L=>by cases L;exact W);have T:=Tr.Q3 (w':=x) (o':=⟨.arr,g,1,N,v8 f r (sorted m)⟩) R C M rfl rfl rfl y (λc1 ng E=>by rw[z]at E;cases E;exact⟨_,JZ,Q⟩);have kU:∀i,i<c.size->(putCells (Value.int .i64) (q+f) (sorted m).toArray c)[i]? = if q+f<=i/\i<q+f+m.length then some (.int .i64 ((sorted m).getD (i-(q+f)) 0)) else c[i]? := λi s=>by
  have hl:(sorted m).toArray.size=m.length:=by simp[He]
  simp only[putCells,Array.getElem?_mapIdx,hl,jr s,KM];split;rename_i O;have:i-(q+f)<(sorted m).length:=by rw[He];omega
  simp[QW,this];rfl
 refine⟨_,.tup [],_,J,rfl,⟨rfl,rfl⟩,Zh.Q3 (w':=x) (o':=⟨.arr,g,1,N,v8 f r (sorted m)⟩) R C M rfl rfl rfl rfl y z JZ Q (by rw[Q];simpa using JI) (λi s=>?_) (λi j s H=>?_) rfl,.tup [] [] rfl (λi s=>by simp at s),T,hB⟩;show (v8 f r (sorted m) i).length=1;unfold v8;split;rfl;exact J3 i s;have s:i<N:=s;have H:j<1:=H;have U:j=0:=ω;subst U;have V:q+(i+0)<c.size:=ω;show ∃v,(putCells (Value.int .i64) (q+f) (sorted m).toArray c)[q+(i*1+0)]?=some v/\QD Z _ J x (nth (v8 f r (sorted m) i) 0) v;rw[Nat.mul_one,kU _ V];have S:v8 f r (sorted m) i=if f<=i/\i<f+m.length then [.raw (.int .i64 ((sorted m).getD (i-f) 0))] else r i:=by unfold v8;rw[He]
 rw[S];by_cases O:f<=i/\i<f+m.length;rw[Qd ω,Qd O];exact⟨_,rfl,by rw[show q+(i+0)-(q+f)=i-f by omega];exact .cl _ _ (.raw _)⟩;rw[Qc ω,Qc O];obtain⟨u,K,F⟩:=ZW i 0 s H;exact⟨u,K,F.tr T⟩
end Go.Fg
namespace Go.Fg.X
open Go.Proofs Go.Fg
open Go.Proofs.Tryz
def Qw(L:List Ql)(k:Int):Option Ql:=L.find? λc=>c.iD==k
def Wg(e:ZC):Int × D:=(e.k,e.v)
def Yy(c:Ql):Int × D:=(c.iD,WV c)
def Ws(L:List Ql):Prop:=L.Pairwise λa b=>a.iD<b.iD
structure Vy (es:List ZC) (L:List Ql):Prop where
 perm:(es.map Wg).Perm (L.map Yy)
 sorted:Ws L
def Qf5{c:Type}{f:c->Int}:∀{l:List c},(l.map f).Nodup->∀{x y:c},x∈l->y∈l->f x=f y->x=y
 | [],_,x,_,hx,_,_=>by simp at hx
 | a::l,b,x,y,hx,d,e=>by
  simp only[JT,ZV,Ji,Et,not_and]at b;rcases QK.1 hx with h1|h1<;>rcases QK.1 d with h2|h2;rw[h1,h2];exact absurd (by rw[<- e,h1]) (b.1 y h2);exact absurd (by rw[e,h2]) (b.1 x h1);exact Qf5 b.2 h1 h2 e
def Ws.nd{L:List Ql}(h:Ws L):(L.map (·.iD)).Nodup:=by
 unfold List.Nodup;rw[RI];exact List.Pairwise.imp (λh=>ω) h
def Vy.BZ{a}{L}(T:Vy a L):XU a:=by
 have c:a.map (·.k)=(a.map Wg).map Prod.fst:=by simp[Wg,aN]
 have b:(L.map Yy).map Prod.fst=L.map (·.iD):=by simp[Yy,aN]
 unfold XU;rw[c,(T.perm.map Prod.fst).nodup_iff,b];exact T.sorted.nd
def rj:∀{b:List ZC},XU b->∀{k:Int} {v:D},ZY b k=some v↔(k,v)∈b.map Wg
 | [],_,k,v=>by simp[ZY]
 | e::b,a,k,v=>by
  have g:XU b:=by unfold XU at a ⊢;simp only[JT,ZV]at a;exact a.2
  simp only[ZY];by_cases h:e.k=k;rw[Qd h];constructor;rintro⟨rfl⟩;simp[Wg,h];intro hm;simp only[JT,QK]at hm;rcases hm with hm|hm;simp only[Wg,Q9]at hm;rw[hm.2];exfalso;obtain⟨d,f,c⟩:=Ji.1 hm;simp only[Wg,Q9]at c;unfold XU at a;simp only[JT,ZV,Ji,Et,not_and]at a;exact a.1 d f (by rw[c.1,h]);rw[Qc h,rj g];simp only[JT,QK];constructor;exact λh=>.inr h;rintro (hm|hm);simp only[Wg,Q9]at hm;exact absurd hm.1.symm h;exact hm
def VF{L}(h:Ws L){k}{c:Ql}:Qw L k=some c↔c∈L/\c.iD=k:=by
 constructor;intro e;exact⟨vI e,by have:=wS e;simpa using this⟩;rintro⟨b,rfl⟩;cases a:Qw L c.iD with
 | none=>
  have:=js.1 a c b;simp at this
 | some d=>
  have g:=vI a;have f:d.iD=c.iD:=by have:=wS a;simpa using this
  rw[Qf5 h.nd g b f]
def Hf{L}{k}:Qw L k=none↔∀c∈L,c.iD≠k:=by
 simp[Qw,js]
def Vy.look{a}{L}(T:Vy a L)(k:Int):ZY a k=(Qw L k).map WV:=by
 cases b:Qw L k with
 | some c=>
  obtain⟨h,g⟩:=(VF T.sorted).1 b;rw[KM,rj T.BZ,T.perm.mem_iff];exact Ji.2 ⟨c,h,by simp[Yy,g]⟩
 | none=>
  rw[qw];cases d:ZY a k with
  | none=>rfl
  | some v=>
   rw[rj T.BZ,T.perm.mem_iff]at d;obtain⟨c,f,e⟩:=Ji.1 d;simp only[Yy,Q9]at e;exact absurd e.1 (Hf.1 b c f)
def Vy.len{a:List ZC}{L:List Ql}(T:Vy a L):a.length=L.length:=by
 have:=T.perm.length_eq;simpa using this
def Vy.nil:Vy [] []:=⟨σ,by simp[Ws]⟩
def Vk:List Ql->Ql->List Ql
 | [],x=>[x]
 | c::r,x=>if x.iD<c.iD then x::c::r else if c.iD=x.iD then x::r else c::Vk r x
def Wt(L:List Ql)(k:Int):List Ql:=L.filter λc=>c.iD != k
def SY{a:Type}{p}{l:List a}(h:∀x∈l,p x=true):l.filter p=l:=y9.2 h
def Hg:∀{L:List Ql} (x:Ql),Ws L->(Vk L x).Perm (x::Wt L x.iD)
 | [],x,_=>by simp[Vk,Wt]
 | c::r,x,h=>by
  have i:Ws r:=mY h;have e:∀d∈r,c.iD<d.iD:=λd a=>(Aa.1 h).1 d a;simp only[Vk];by_cases f:x.iD<c.iD;rw[Qd f];have:Wt (c::r) x.iD=c::r:=SY λd a=>by
   rcases QK.1 a with rfl|a;simp;omega;have:=e d a;simp;omega
  rw[this]
  .rw[Qc f];by_cases b:c.iD=x.iD;rw[Qd b];have g:Wt r x.iD=r:=SY λd a=>by have:=e d a;simp;omega
   have:Wt (c::r) x.iD=r:=by unfold Wt at g ⊢;rw[Ii (by simp[b]),g]
   rw[this]
   .rw[Qc b];have:Wt (c::r) x.iD=c::Wt r x.iD:=by unfold Wt;rw[Ij (by simp[b])]
    rw[this];exact((Hg x i).cons c).trans (List.Perm.swap x c _)
def OM:∀{L:List Ql} (x:Ql),Ws L->Ws (Vk L x)
 | [],x,_=>by simp[Vk,Ws]
 | c::r,x,h=>by
  have b:Ws r:=mY h;have e:∀d∈r,c.iD<d.iD:=λd a=>(Aa.1 h).1 d a;simp only[Vk];by_cases f:x.iD<c.iD;rw[Qd f];exact Aa.2 ⟨λd a=>by
   rcases QK.1 a with rfl|a;exact f;have:=e d a;omega,h⟩
  rw[Qc f];by_cases g:c.iD=x.iD;rw[Qd g];exact Aa.2 ⟨λd a=>by have:=e d a;omega,b⟩;rw[Qc g];refine Aa.2 ⟨λd a=>?_,OM x b⟩;have:=(Hg x b).mem_iff.1 a;rcases QK.1 this with rfl|i;omega;exact e d (Jt.1 i).1
def rk{L}(k)(h:Ws L):Ws (Wt L k):=Nw _ h
def Qf6:∀{a:List ZC} (k:Int) (v:D),XU a->(∃u,ZY a k=some u)->((jC a k v).map Wg).Perm ((k,v)::(a.map Wg).filter λp=>p.1 != k)
 | [],k,v,_,h=>by simp[ZY]at h
 | e::a,k,v,f,h=>by
  have c:=f;unfold XU at c;simp only[JT,ZV,Ji,Et,not_and]at c;simp only[jC];by_cases b:e.k=k;rw[Qd b];have i:(a.map Wg).filter (λp=>p.1 != k)=a.map Wg:=SY λp d=>by
   obtain⟨j,l,rfl⟩:=Ji.1 d;have:=c.1 j l;simp[Wg];omega
  have:((e::a).map Wg).filter (λp=>p.1 != k)=a.map Wg:=by rw[JT,Ii (by simp[Wg,b]),i]
  rw[this];simp[Wg]
  .rw[Qc b];have g:∃u,ZY a k=some u:=by simpa only[ZY,Qc b] using h
   have:((e::a).map Wg).filter (λp=>p.1 != k)=Wg e::(a.map Wg).filter (λp=>p.1 != k):=by rw[JT,Ij (by simp[Wg,b])]
   rw[this,JT];exact((Qf6 k v c.2 g).cons _).trans (List.Perm.swap _ _ _)
def QuE{a}{L}(T:Vy a L)(q)(c)(x:Ql):∃i b,J1 q c a x.iD (WV x)=QR q i b/\Vy b (Vk L x):=by
 have d:((Vk L x).map Yy).Perm ((x.iD,WV x)::(L.map Yy).filter λp=>p.1 != x.iD):=by
  have:=(Hg x T.sorted).map Yy;rw[JT]at this;refine this.trans ?_;have:(L.map Yy).filter (λp=>p.1 != x.iD)=(Wt L x.iD).map Yy:=by
   rw[Ny];rfl
  rw[this];exact Nx _
 have e:=T.perm.filter λp=>p.1 != x.iD;unfold J1;cases f:ZY a x.iD with
 | some u=>exact⟨c,_,rfl,⟨(Qf6 x.iD (WV x) T.BZ ⟨u,f⟩).trans ((e.cons _).trans d.symm),OM x T.sorted⟩⟩
 | none=>
  refine⟨c+1,_,rfl,⟨?_,OM x T.sorted⟩⟩;have g:(a.map Wg).filter (λp=>p.1 != x.iD)=a.map Wg:=SY λp d=>by
   obtain⟨h,j,rfl⟩:=Ji.1 d;have:=(Sd f).1 h j;simp[Wg];omega
  rw[g]at e;rw[ju];refine List.perm_append_comm.trans ?_;exact(e.cons (x.iD,WV x)).trans d.symm
def Qf7:∀{b:List ZC} (k:Int),XU b->((JV b k).map Wg)=((b.map Wg).filter λp=>p.1 != k)
 | [],k,_=>rfl
 | e::b,k,f=>by
  have c:=f;unfold XU at c;simp only[JT,ZV,Ji,Et,not_and]at c;simp only[JV];by_cases a:e.k=k;rw[Qd a,JT,Ii (by simp[Wg,a])];exact(SY λp d=>by
   obtain⟨g,h,rfl⟩:=Ji.1 d;have:=c.1 g h;simp[Wg];omega).symm
  rw[Qc a,JT,JT,Ij (by simp[Wg,a]),Qf7 k c.2]
def Qf8{a}{L}(T:Vy a L)(k):Vy (JV a k) (Wt L k):=by
 refine⟨?_,rk k T.sorted⟩;rw[Qf7 k T.BZ];have:(L.map Yy).filter (λp=>p.1 != k)=(Wt L k).map Yy:=by rw[Ny];rfl
 rw[<- this];exact T.perm.filter _
def Qf9{d e:List Int}(h:d.Perm e)(f:e.Pairwise (·<·)):sorted d=e:=by
 refine List.Perm.eq_of_pairwise (le:=λa b=>a<=b) (λa b _ _ i g=>ω) ?_ (f.imp (λh=>ω)) ((List.mergeSort_perm _ _).trans h);have:=List.pairwise_mergeSort (le:=λx y:Int=>decide (x<=y)) (λa b c i g=>by simp at *;omega) (λa b=>ξ) d;exact this.imp (λh=>by simpa using h)
section
variable (h:List Ob)(t m c:Nat){es:List ZC}{L:List Ql}(T:Vy es L)
 (ht:(h.map Ob.ro)[t]?=some ⟨.Wb,0,1,1,λ_=>[.mref m 0]⟩) (hm:(h.map Ob.ro)[m]?=some (QR .i64 c es).ro)
include T ht hm
theorem Qga(a:Int):Zf prog 74 h [.ptr t 0 0 0,Qa a] (λd=>d=.tup [WV ((Qw L a).getD default),Qa (if (Qw L a).isSome then 0 else 6)]):=by
 have e:=T.look a;cases j:Qw L a with
 | none=>
  rw[j,qw]at e;refine ZH func74 ntmps74 results74 λb w k F f n l=>?_;rw[<- f]at ht hm;have i:=Qb ht;have g:=Qb hm;simp only[go_sem,Qj,ht,i,hm,g,e];exact⟨_,rfl,rfl⟩
 | some x=>
  rw[j,KM]at e;refine ZH func74 ntmps74 results74 λb w k F f n l=>?_;rw[<- f]at ht hm;have i:=Qb ht;have g:=Qb hm;simp only[go_sem,Qj,ht,i,hm,g,e];exact⟨_,rfl,rfl⟩
end
def VG(F H:List Ob):Prop:=∃g,H=F++g
def VG.refl(F):VG F F:=⟨[],σ⟩
def VG.app{F H}(h:VG F H)(g):VG F (H++g):=by
 obtain⟨x,rfl⟩:=h;exact⟨x++g,σ⟩
def VG.set{F H:List Ob}(h:VG F H){lo}(a:F.length<=lo)(o):VG F (H.set lo o):=by
 obtain⟨x,rfl⟩:=h;exact⟨x.set (lo-F.length) o,by rw[Im _ _ a]⟩
def VG.len{F H:List Ob}(h:VG F H):F.length<=H.length:=by
 obtain⟨x,rfl⟩:=h;simp
def VG.get{F H:List Ob}(h:VG F H){l:Nat}{o:Ob}(e:F[l]?=some o):H[l]?=some o:=by
 obtain⟨x,rfl⟩:=h;rw[QE (Qb e)];exact e
def Ke(n:Nat)(H:List Ob)(d:D)(L:List Int):Prop:=(d=.nil/\L=[])\/∃c g a b,d=.ref c g a L.length/\(n<=c/\a=0)/\H[c]?=some ⟨.arr,g,1,a+L.length,b⟩/\∀i,i<L.length->b (a+i)=[Qa (L.getD i 0)]
def Ke.app{n}{H}{d}{L}(h:Ke n H d L)(g):Ke n (H++g) d L:=by
 rcases h with h|⟨e,k,b,a,j,i,c,f⟩;exact .inl h;exact .inr ⟨e,k,b,a,j,i,by rw[QE (Qb c)];exact c,f⟩
def Ke.base{F h g:List Ob}{d}{L}(f:F.length=h.length)(x:Ke F.length (F++g) d L):Ke h.length (h++g) d L:=by
 rcases x with x|⟨e,k,b,a,j,l,c,i⟩;exact .inl x;refine .inr ⟨e,k,b,a,j,ω,?_,i⟩;rw[Kc ω]at c ⊢;rw[<- f];exact c
def Ke.done{F h H:List Ob}{d}{L}(b:F.length=h.length)(a:VG F H)(x:Ke F.length H d L):∃g,H=F++g/\Ke h.length (h++g) d L:=by
 obtain⟨g,rfl⟩:=a;exact⟨g,rfl,x.base b⟩
def LD{dn:List Int}{off}{row}{v}(b:∀i,i<dn.length->row (off+i)=[Qa (dn.getD i 0)]):∀i,i<(dn++[v]).length->JO dn.length off row (λ_=>[Qa v]) (0+i)=[Qa ((dn++[v]).getD i 0)]:=λi c=>by
 rw[Jz];simp at c;by_cases a:i<dn.length;rw[Bo a,b i a];simp[a,JJ a];have:i=dn.length:=ω;subst this;rw[x9 (QB _)];simp
def LF{h:List Ob}{l:Nat}{o:Ob}(e:h[l]?=some o.ro):(h.map Ob.ro)[l]?=some o.ro:=by have:=Z4 e;rwa [ro_ro]at this
def ZF(L:List Ql):Nat->Int->List Int
 | 0,_=>[]
 | n+1,id=>match Qw L id with
  | none=>[]
  | some c=>id::ZF L n c.parent
def Ends(L:List Ql):Nat->Int->Prop
 | 0,id=>Qw L id=none
 | n+1,id=>match Qw L id with
  | none=>True
  | some c=>Ends L n c.parent
structure QuF (t:Nat) (L:List Ql) (N:Nat) (id:Int) (F:List Ob) (n:Nat) (s:St):Prop where
 ex:∃dn cur d H,dn++ZF L n cur=ZF L N id/\dn.length+n<=N+1/\Ends L n cur/\VG F H/\Ke F.length H d dn/\s=⟨[(0,.ptr t 0 0 0),(1,Qa cur),(5,d)],H⟩
section
variable (h:List Ob)(t m c:Nat){es:List ZC}{L:List Ql}(T:Vy es L)
 (ht:(h.map Ob.ro)[t]?=some ⟨.Wb,0,1,1,λ_=>[.mref m 0]⟩) (hm:(h.map Ob.ro)[m]?=some (QR .i64 c es).ro)
include T ht hm
theorem Qgb(b)(N)(hN:N<1000000)(O:Ends L N b):W8 prog 105 h [.ptr t 0 0 0,Qa b] (λd g=>Ke h.length (h++g) d (ZF L N b)):=by
 refine BR Vd 200 func105 rfl ntmps105 results105 rfl λE w Z F M Q f=>?_;rw[<- M]at ht hm;have Jd:=Qb ht;have Zl:=Qb hm;simp only[go_sem];refine G2 (QuF t L N b F) N (s0:=⟨[(0,.ptr t 0 0 0),(1,Qa b),(5,.nil)],F⟩) QO ⟨[],b,.nil,F,rfl,σ,O,VG.refl F,.inl ⟨rfl,rfl⟩,rfl⟩ ?_;rintro n s ⟨o,a,d,H,l,y,k,hx,u,rfl⟩;have V:=hx.len;have C:=hx.get ht;have z:=hx.get hm;have W:=Qb C;have Y:=Qb z;have e:=Qga H t m c T (Z4 C) (LF z) a;apply Qg f;cases j:Qw L a with
 | none=>
  rw[j]at e;simp only[Es,qu,qY]at e;apply Zz f vX e;apply J5 f;have P:ZF L n a=[]:=by cases n with
   | zero=>rfl
   | succ n=>simp only[ZF,j]
  rw[P,JS]at l;rw[<- l];exact Ke.done Q (hx.app _) (u.app _)
 | some x=>
  rw[j]at e;simp only[Ab,Vu,KW]at e;obtain⟨n,rfl⟩:∃I,n=I+1:=by
   cases n with
   | zero=>rw[Ends,j]at k;cases k
   | succ n=>exact⟨n,rfl⟩
  have r:Ends L n x.parent:=by simpa only[Ends,j] using k
  have B:(o++[a])++ZF L n x.parent=ZF L N b:=by rw[<- l];simp only[ZF,j,WL,List.singleton_append]
  rcases u with ⟨rfl,rfl⟩|⟨q,g,U,S,rfl,R,v,J⟩;apply Zz f vX e;apply J5 f;refine⟨n,⟨[(0,.ptr t 0 0 0),(1,Qa x.parent),(5,.ref (H.length+2) 0 0 1)],_⟩,ω,QO,⟨⟨[a],x.parent,_,_,B,by simp at y ⊢;omega,r,hx.app _,.inr ⟨H.length+2,0,0,_,rfl,ω,by rw[VD rfl];rfl,λi K=>?_⟩,rfl⟩⟩⟩;have:i=0:=by simp at K;omega
  subst this;rfl;have p:=Qb v;apply Zz f vX e;apply Qh f;simp only[go_sem,Qj,v,p];refine⟨ω,n,⟨[(0,.ptr t 0 0 0),(1,Qa x.parent),(5,.ref q (g+1) 0 (o.length+1))],_⟩,ω,QO,⟨⟨o++[a],x.parent,_,_,B,?_,r,?_,?_,rfl⟩⟩⟩;simp at y ⊢;omega;exact(hx.set R.1 _).app _;refine .inr ⟨q,g+1,0,_,σ,ω,?_,LD J⟩;rw[QE (by simpa using p),QF p];simp[Qa]
end
def Ve(L:List Ql)(a:Int):Bool:=a==0 || decide (1<QH ((Qw L a).getD default).ls)
section
variable (h:List Ob)(t m c:Nat){es:List ZC}{L:List Ql}(T:Vy es L)
 (ht:(h.map Ob.ro)[t]?=some ⟨.Wb,0,1,1,λ_=>[.mref m 0]⟩) (hm:(h.map Ob.ro)[m]?=some (QR .i64 c es).ro)
include T ht hm
theorem ON(a:Int)(N)(j:N<1000000)(l:Ends L N a):Zf prog 169 h [.ptr t 0 0 0,Qa a] (λd=>d=Qa (ZF L N a).length):=by
 refine ZH func169 ntmps169 results169 λe w q F k x b=>?_;rw[<- k]at ht hm;have B:=Qb ht;have v:=Qb hm;simp only[go_sem];refine Ha b fk rfl ?_ (Qgb F t m c T (Z4 ht) (LF hm) a N j l) rfl λd u f=>?_;simp only[go_sem];rcases f with ⟨rfl,n⟩|⟨r,g,p,o,rfl,y,i,s⟩;apply Qh b;simp only[go_sem,n];exact⟨_,rfl⟩;have z:=Qb i;apply Qg b;exact⟨_,rfl⟩
theorem fO(a):Zf prog 168 h [.ptr t 0 0 0,Qa a] (λd=>d=QU (Ve L a)):=by
 by_cases i:a=0;have e:Ve L a=true:=by simp[Ve,i]
 rw[e];refine ZH func168 ntmps168 results168 λb w k F g o f=>?_;rw[<- g]at ht hm;have p:=Qb ht;have n:=Qb hm;simp only[go_sem,WA i];exact⟨[],σ⟩;have j:=T.look a;have e:Ve L a=decide (1<QH ((Qw L a).getD default).ls):=by simp[Ve,i]
 rw[e];cases l:Qw L a with
 | none=>
  rw[l,qw]at j;refine ZH func168 ntmps168 results168 λb w k F g o f=>?_;rw[<- g]at ht hm;have p:=Qb ht;have n:=Qb hm;simp only[go_sem,ht,hm,j,Vw i];apply QV f vY (vZ ⟨0,0,false,⟨0,0,0⟩,⟨0,0,0⟩,⟨0,0,0⟩,0,0⟩);apply Qg f;exact⟨[],(JS F).symm,rfl⟩
 | some x=>
  rw[l,KM]at j;refine ZH func168 ntmps168 results168 λb w k F g o f=>?_;rw[<- g]at ht hm;have p:=Qb ht;have n:=Qb hm;simp only[go_sem,ht,hm,j,Vw i];apply QV f vY (vZ x);apply Qg f;exact⟨[],σ⟩
end
def Qq(L:List Ql)(g:Ql->Bool)(k:Int):Bool:=((Qw L k).map g).getD false
def QuG{es:List ZC}{seen:List Nat}{b:Nat}(p:ZC->Bool)(h:∀e∈es,e.b≠b):(es.filter λx=>(seen++[b]).contains x.b&&p x)=es.filter λx=>seen.contains x.b&&p x:=by
 apply RF;intro x hx;have:=h x hx;simp[this]
def Qgc:∀{a:List ZC} {seen:List Nat} {e:ZC} (p:ZC->Bool),(a.map (·.b)).Nodup->e∈a->e.b ∉ seen->(a.filter λx=>(seen++[e.b]).contains x.b&&p x).Perm (if p e then e::a.filter (λx=>seen.contains x.b&&p x) else a.filter λx=>seen.contains x.b&&p x)
 | [],_,_,_,_,h,_=>by simp at h
 | x::a,seen,e,p,d,h,j=>by
  simp only[JT,ZV,Ji,Et,not_and]at d;rcases QK.1 h with h1|h1;subst h1;have m:=QuG (seen:=seen) (b:=e.b) p (es:=a) λy l g=>d.1 y l g;have i:seen.contains e.b=false:=by simpa using j
  rw[wR,wR,m];simp only[i,Ie,qu,qY];have:(seen++[e.b]).contains e.b=true:=σ;rw[this,If]
  .have c:=Qgc p d.2 h1 j;have n:x.b≠e.b:=λg=>d.1 e h1 g.symm;have i:(seen++[e.b]).contains x.b=seen.contains x.b:=by simp[n]
   rw[wR,wR,i];by_cases f:(seen.contains x.b&&p x)=true
   .rw[Qd f,Qd f];by_cases k:p e=true
    .rw[Qd k]at c ⊢;exact(c.cons x).trans (List.Perm.swap _ _ _)
    rw[Qc k]at c ⊢;exact c.cons x
   rw[Qc f,Qc f];exact c
def Vy.xy{b}{L}(T:Vy b L){e:ZC}(c:e∈b):∃x,Qw L e.k=some x/\e.v=WV x/\x.iD=e.k:=by
 have:Wg e∈L.map Yy:=T.perm.mem_iff.1 (Ji.2 ⟨e,c,rfl⟩);obtain⟨x,hx,a⟩:=Ji.1 this;simp only[Yy,Wg,Q9]at a;exact⟨x,(VF T.sorted).2 ⟨hx,a.1⟩,a.2.symm,a.1⟩
def Vy.pick{a:List ZC}{L:List Ql}(T:Vy a L)(g:Ql->Bool):((a.filter λe=>Qq L g e.k).map (·.k)).Perm ((L.filter g).map (·.iD)):=by
 have b:=(T.perm.filter λp=>Qq L g p.1).map Prod.fst;have d:((a.map Wg).filter λp=>Qq L g p.1).map Prod.fst=(a.filter λe=>Qq L g e.k).map (·.k):=by
  rw[Ny,Gt];rfl
 have c:((L.map Yy).filter λp=>Qq L g p.1).map Prod.fst=(L.filter g).map (·.iD):=by
  rw[Ny,Gt];have:L.filter ((λp=>Qq L g p.1) ∘ Yy)=L.filter g:=RF λx hx=>by
   have:=(VF T.sorted).2 ⟨hx,rfl⟩;simp[Qq,Yy,this]
  rw[this];rfl
 rw[d,c]at b;exact b
def QuH{L:List Ql}(h:Ws L)(g:Ql->Bool):((L.filter g).map (·.iD)).Pairwise (·<·):=by
 rw[RI];exact Nw g h
open Go.Shelf in
def QuI{P}{c:Ren}(o:Lays.n189 P c)(h):QM P (c.f 189) h [.nil] (λd n=>d=.tup []/\n=h):=by
 intro Z f w k g r q R j l;match g,j with
 | [v],_=>
 obtain⟨a,b⟩:=Ae (l 0 σ);have b:v=_:=b;subst b;refine(Any.slices_Sort_int_none o a 0 w).mono ?_;rintro e p ⟨rfl,rfl⟩;exact⟨_,.tup [],h,k,rfl,⟨rfl,rfl⟩,R,.tup [] [] rfl (λi m=>by simp at m),Tr.refl _ _ _,.refl _ _⟩
open Go.Shelf in
def Tryz.QuJ:Go.Shelf.Ren:=⟨fun|189=>100|125=>139|257=>138|128=>190|129=>191|294=>181|295=>182|296=>183|297=>184|298=>185|299=>186|216=>187|300=>188|301=>189|328=>234|329=>235|330=>236|331=>237|332=>238|215=>239|343=>258|n=>n,fun|28=>49|3=>3|46=>267|0=>0|51=>314|53=>40|4=>4|183=>307|182=>306|131=>157|5=>5|9=>9|218=>351|222=>354|228=>374|229=>375|n=>n,fun|n=>n⟩
def Tryz.Qgd:Go.Proofs.Lays.n189 prog Tryz.QuJ:={
 mixed:=τ
 f125:=func139.trans (congrArg some τ)
 f128:=func190.trans (congrArg some τ)
 f129:=func191.trans (congrArg some τ)
 f189:=func100.trans (congrArg some τ)
 f215:=func239.trans (congrArg some τ)
 f216:=func187.trans (congrArg some τ)
 f257:=func138.trans (congrArg some τ)
 f294:=func181.trans (congrArg some τ)
 f295:=func182.trans (congrArg some τ)
 f296:=func183.trans (congrArg some τ)
 f297:=func184.trans (congrArg some τ)
 f298:=func185.trans (congrArg some τ)
 f299:=func186.trans (congrArg some τ)
 f300:=func188.trans (congrArg some τ)
 f301:=func189.trans (congrArg some τ)
 f328:=func234.trans (congrArg some τ)
 f329:=func235.trans (congrArg some τ)
 f330:=func236.trans (congrArg some τ)
 f331:=func237.trans (congrArg some τ)
 f332:=func238.trans (congrArg some τ)
 f343:=func258.trans (congrArg some τ)
 t0:=underlying0
 a0:=isAgg0
 z0:=sizeOf0
 v0:=zeroValue0
 t3:=underlying3
 a3:=isAgg3
 z3:=sizeOf3
 v3:=zeroValue3
 t4:=underlying4
 a4:=isAgg4
 z4:=sizeOf4
 v4:=zeroValue4
 t5:=underlying5
 a5:=isAgg5
 z5:=sizeOf5
 v5:=zeroValue5
 t9:=underlying9
 a9:=isAgg9
 z9:=sizeOf9
 v9:=zeroValue9
 t28:=underlying49
 a28:=isAgg49
 z28:=sizeOf49
 v28:=zeroValue49
 t46:=underlying267
 a46:=isAgg267
 z46:=sizeOf267
 v46:=zeroValue267
 t51:=underlying314
 a51:=isAgg314
 z51:=sizeOf314
 v51:=zeroValue314
 t53:=underlying40
 a53:=isAgg40
 z53:=sizeOf40
 v53:=zeroValue40
 t131:=underlying157
 a131:=isAgg157
 z131:=sizeOf157
 v131:=zeroValue157
 t182:=underlying306
 a182:=isAgg306
 z182:=sizeOf306
 v182:=zeroValue306
 t183:=underlying307
 a183:=isAgg307
 z183:=sizeOf307
 v183:=zeroValue307
 t218:=underlying351
 a218:=isAgg351
 z218:=sizeOf351
 v218:=zeroValue351
 t222:=underlying354
 a222:=isAgg354
 z222:=sizeOf354
 v222:=zeroValue354
 t228:=underlying374
 a228:=isAgg374
 z228:=sizeOf374
 v228:=zeroValue374
 t229:=underlying375
 a229:=isAgg375
 z229:=sizeOf375
 v229:=zeroValue375 }
def Qge{h:List Ob}{l g a N}{b}{c:List Int}(j:h[l]?=some ⟨.arr,g,1,N,b⟩)(k:a+c.length<=N)(f:∀i,i<c.length->b (a+i)=[.raw (.int .i64 (c.getD i 0))])(e:c.length<4611686018427387904):
  QM prog 100 h [.ref l g a c.length] (λd m=>d=.tup []/\m=h.set l ⟨.arr,g,1,N,v8 a b (sorted c)⟩):=Quz Tryz.Qgd j k f e
def Qgf(h):QM prog 100 h [.nil] (λd a=>d=.tup []/\a=h):=QuI Tryz.Qgd h
def LG(d):XW d d:=by unfold XW;split<;>first|exact rfl|simp_all
def Dt:∀l:List D,KC l l
 | []=>trivial
 | d::r=>⟨LG d,Dt r⟩
def SZ(F:List Ob)(f a:Nat)(b:List D)(g:Ql->Bool):Prop:=∀(h:List Ob) (c:Ql),VG F h->Zf prog f h (Z5 a b [WV c]) (λd=>d=QU (g c))
structure QuK (t m c:Nat) (es:List ZC) (L:List Ql) (gk:Ql->Bool) (so:D) (F:List Ob) (n:Nat) (s:St):Prop where
 ex:∃seen d out H,yp es seen=n/\VG F H/\Ke F.length H d out/\out.Perm ((es.filter λe=>seen.contains e.b&&Qq L gk e.k).map (·.k))/\H[F.length]?=some (Yg m c c seen) /\
  s=⟨[(0,.ptr t 0 0 0),(1,so),(5,d),(14,.mref F.length 0)],H⟩
section
variable (h:List Ob)(t m c:Nat){es:List ZC}{L:List Ql}(T:Vy es L)(hlen:L.length<1000000)
 (ht:(h.map Ob.ro)[t]?=some ⟨.Wb,0,1,1,λ_=>[.mref m 0]⟩) (hm:(h.map Ob.ro)[m]?=some (QR .i64 c es).ro)
include T ht hm hlen
theorem fQ(p:D)(f Y:Nat)(Qx:List D)(hf:Qm prog f)(VW:JB p=some (f,Y,Qx))(b:Ql->Bool)(hg:SZ (h.map Ob.ro) f Y Qx b):
  W8 prog 127 h [.ptr t 0 0 0,p] (λd g=>Ke h.length (h++g) d ((L.filter b).map (·.iD))):=by
 refine BR Vd 200 func127 rfl ntmps127 results127 rfl λa0 w pl F hF Zj j=>?_;rw[<- hF]at ht hm;have Jd:=Qb ht;have Zl:=Qb hm;simp only[go_sem,ht,hm];refine Quh (kd:=.RS) (q:=.i64) (l:=m) (c:=c) (es:=es) rfl (by simp only[go_sem,Qj,hm,Zl];rfl) λhB=>?_;refine G2 (QuK t m c es L b p F) (yp es []) (s0:=⟨[(0,.ptr t 0 0 0),(1,p),(5,.nil),(14,.mref F.length 0)],F++[Yg m c c []]⟩) QO ⟨[],.nil,[],_,rfl,⟨_,rfl⟩,.inl ⟨rfl,rfl⟩,σ,by rw[Vc rfl];rfl,rfl⟩ ?_;rintro n s ⟨seen,d,a,H,hn,hx,M,N,V,rfl⟩;have Y6:=hx.get hm;have rn:=Qb Y6;have W:=Qb V;apply Qg j;refine Qpx j (li:=F.length) (l:=m) (c:=c) (es:=es) (seen:=seen) (q:=.i64) (kd:=.RS) rfl V rfl Y6 rfl (λKB=>?_) (λe z GR=>?_)
 .apply Qg j;have Q:sorted a=(L.filter b).map (·.iD):=by
   refine Qf9 (N.trans ?_) (QuH T.sorted b);have:(es.filter λe=>seen.contains e.b&&Qq L b e.k)=es.filter λe=>Qq L b e.k:=RF λe z=>by
    have:seen.contains e.b=true:=by simpa using KB e z
    rw[this,If]
   rw[this];exact T.pick b
  have fR:a.length<4611686018427387904:=by
   have B:a.length=((L.filter b).map (·.iD)).length:=by rw[<- Q,He]
   have h2:=XS b L;rw[Kj]at B;omega
  rcases M with ⟨rfl,rfl⟩|⟨r,g,k,o,rfl,O,u,S⟩
  .apply Qg j;refine ZL j fj (Qgf H) λd h E=>?_;obtain⟨rfl,rfl⟩:=E;apply Qg j;exact Ke.done Zj hx (.inl ⟨rfl,by rw[<- Q];simp[sorted]⟩)
  .have I:=Qb u;apply Qg j;refine ZL j fj (Qge u (QB _) S fR) λd h E=>?_;obtain⟨rfl,rfl⟩:=E;apply Qg j;refine Ke.done Zj (hx.set O.1 _) ?_;have S3:((L.filter b).map (·.iD)).length=a.length:=by rw[<- Q,He]
   refine .inr ⟨r,g,k,v8 k o (sorted a),?_,O,?_,?_⟩;rw[S3];rw[S3];exact QF I;rw[Q];intro i Z;unfold v8;rw[Qd ω,show k+i-k=i by omega];rfl
 obtain⟨x,S4,Bs,Zi⟩:=T.xy z;rw[Bs];have N7:Qq L b e.k=b x:=by simp[Qq,S4]
 obtain⟨v,P⟩:∃v,v=H.set F.length (Yg m c c (seen++[e.b])):=⟨_,rfl⟩;have y:VG F v:=by rw[P];exact hx.set (QB _) _
 have C:v[F.length]?=some (Yg m c c (seen++[e.b])):=by rw[P];exact QF W
 have fS:Ke F.length v d a:=by
  rcases M with M|⟨r,g,k,o,B,h2,U,h4⟩;exact .inl M;refine .inr ⟨r,g,k,o,B,h2,?_,h4⟩;rw[P,Qp (by rintro rfl;rw[V]at U;cases U)];exact U
 have Fe:=y.get hm;have a1:=Qb Fe;have R:=Qb C;have J:=Qgc (λe=>Qq L b e.k) hB.nodup z GR;have qG:=QfW z GR;rw[<- P];apply Qg j;apply Qg j;refine Quk (li:=F.length) (l:=m) (c:=c) (es:=es) (seen:=seen) (q:=.i64) (kd:=.RS) (e:=e) rfl C rfl Fe z rfl ?_;rw[Bs];apply J5 j;apply Qg j;refine XI j hf VW ?_ (hg _ x ?_) rfl λd2 E=>?_;simp only[go_sem];exact Dt _;rw[<- hF];exact y.app _;subst E;apply Qh j;have fR:a.length<=es.length:=by
  have B:=N.length_eq;rw[Kj]at B;rw[B];exact XS _ _
 have a2:=T.len;simp only[N7]at J;cases K:b x;simp only[K,qu,qY]at J;simp only[go_sem];exact⟨yp es (seen++[e.b]),⟨[(0,.ptr t 0 0 0),(1,p),(5,d),(14,.mref F.length 0)],_⟩,ω,QO,⟨⟨seen++[e.b],d,a,_,rfl,y.app _,fS.app _,N.trans (J.map _).symm,by rw[QE R];exact C,rfl⟩⟩⟩;simp only[K,Vu]at J;have fT:(a++[e.k]).Perm ((es.filter λx=>(seen++[e.b]).contains x.b&&Qq L b x.k).map (·.k)):=by
  refine(List.perm_append_comm.trans ?_).trans (J.map _).symm;exact N.cons e.k
 rcases fS with ⟨rfl,rfl⟩|⟨r,g,k,o,rfl,O,u,S⟩;simp only[go_sem,Qj];refine⟨yp es (seen++[e.b]),⟨[(0,.ptr t 0 0 0),(1,p),(5,.ref (v.length+2) 0 0 1),(14,.mref F.length 0)],_⟩,ω,QO,⟨⟨seen++[e.b],_,[e.k],_,rfl,y.app _,?_,fT,by rw[QE R];exact C,rfl⟩⟩⟩;have:=y.len;refine .inr ⟨v.length+2,0,0,_,rfl,ω,by rw[VD rfl];rfl,λi Z=>?_⟩;have:i=0:=by simp at Z;omega
 subst this;rfl;have I:=Qb u;have QC:F.length≠r:=by rintro rfl;rw[C]at u;cases u
 simp only[go_sem,Qj,u,I];refine⟨ω,yp es (seen++[e.b]),⟨[(0,.ptr t 0 0 0),(1,p),(5,.ref r (g+1) 0 (a.length+1)),(14,.mref F.length 0)],_⟩,ω,QO,⟨⟨seen++[e.b],_,a++[e.k],_,rfl,?_,?_,fT,?_,rfl⟩⟩⟩;exact(y.set O.1 _).app _;refine .inr ⟨r,g+1,0,_,σ,ω,?_,LD S⟩;rw[QE (by simpa using I),QF I];simp[Qa];rw[QE (by simpa using R),Qp (Q8 QC)];exact C
end
def Xs{h t:List Ob}{l:Nat}{o:Ob}(e:h[l]?=some o):((h++t).map Ob.ro)[l]?=some o.ro:=Z4 (by rw[QE (Qb e)];exact e)
def Ke.le{n n'}{H}{d}{L}(x:Ke n H d L)(i:n'<=n):Ke n' H d L:=by
 rcases x with x|⟨c,h,b,a,g,j,f,e⟩;exact .inl x;exact .inr ⟨c,h,b,a,g,ω,f,e⟩
def QuM(h:List Ob)(b)(c)(x:Ql)(a:(h.map Ob.ro)[b]?=some ⟨.Wb,0,1,1,λ_=>[Qa c]⟩):Zf prog 223 h [WV x,.ptr b 0 0 0] (λd=>d=QU (x.parent==c)):=by
 refine ZH func223 ntmps223 results223 λe w i F f k j=>?_;rw[<- f]at a;have g:=Qb a;simp only[go_sem,Qj,a,g];exact⟨_,rfl⟩
def KE(L:List Ql)(a:Int):List Int:=(L.filter λx=>x.parent==a).map (·.iD)
section
variable (h:List Ob)(t m c:Nat){es:List ZC}{L:List Ql}(T:Vy es L)(hlen:L.length<1000000)
 (ht:(h.map Ob.ro)[t]?=some ⟨.Wb,0,1,1,λ_=>[.mref m 0]⟩) (hm:(h.map Ob.ro)[m]?=some (QR .i64 c es).ro)
include T ht hm hlen
theorem ru(a):W8 prog 171 h [.ptr t 0 0 0,Qa a] (λd g=>Ke h.length (h++g) d (KE L a)):=by
 refine BR Vd 200 func171 rfl ntmps171 results171 rfl λi w s F p r b=>?_;rw[<- p]at ht hm;have v:=Qb ht;have u:=Qb hm;simp only[go_sem];have hx:VG F (F++([⟨.one,0,1,1,λ_=>[Qa a]⟩]:List Ob)):=⟨_,rfl⟩;have n:SZ ((F++([⟨.one,0,1,1,λ_=>[Qa a]⟩]:List Ob)).map Ob.ro) 223 0 [.ptr F.length 0 0 0] (λx=>x.parent==a):=λq x j=>QuM q F.length a x (by
  have e:=j.get (l:=F.length) (o:=⟨.Wb,0,1,1,λ_=>[Qa a]⟩) (by rw[ju,Vc σ];rfl);exact Z4 e)
 refine Ha b fo rfl ?_ (fQ _ t m c T hlen (Z4 (hx.get ht)) (LF (hx.get hm)) (.clo 223 0 [.ptr F.length 0 0 0]) 223 0 [.ptr F.length 0 0 0] QtG rfl _ n) rfl λd g k=>?_;simp only[go_sem];apply J5 b;have f:=k.le (n':=F.length) σ;rw[WL]at f;exact Ke.done r ⟨_,rfl⟩ f
def kW(L:List Ql)(x:Ql)(a:Nat):Int:=
 if KD x≠0 then KD x
 else if (Qw L x.iD).isSome then 8
 else if L.length=64 then 5
 else if (x.parent≠0/\(Qw L x.parent).isNone)\/((Qw L x.parent).getD default).leaf=true then 23
 else if 1<QH x.ls/\Ve L x.parent=false then 29
 else if a=16 then 25
 else 0
end
section
variable (h:List Ob)(t m c:Nat){es:List ZC}{L:List Ql}(T:Vy es L)(hlen:L.length<1000000)
 (ht:h[t]?=some ⟨.one,0,1,1,λ_=>[.mref m 0]⟩) (hm:h[m]?=some (QR .i64 c es))
include T ht hm hlen
structure Xa (h:List Ob) (t m:Nat) (L:List Ql) (h':List Ob):Prop where
 ex:∃c es,h'[t]?=some ⟨.one,0,1,1,λ_=>[.mref m 0]⟩/\h'[m]?=some (QR .i64 c es)/\Vy es L
 len:h.length<=h'.length
 JU:∀l,l<h.length->l≠m->h'[l]? = h[l]?
omit T hlen in
theorem Xa.same(T:Vy es L)(g):Xa h t m L (h++g):=
 ⟨⟨c,es,by rw[QE (Qb ht)];exact ht,by rw[QE (Qb hm)];exact hm,T⟩,σ,λl a _=>QE a⟩
omit hlen in
theorem Xa.Q3(x:Ql)(g):Xa h t m (Vk L x) (h.set m (J1 .i64 c es x.iD (WV x))++g):=by
 obtain⟨f,a,e,i⟩:=QuE T .i64 c x;have b:=Qb hm;have n:=Qb ht;have j:m≠t:=by rintro rfl;rw[ht]at hm;cases hm
 rw[e];refine⟨⟨f,a,?_,?_,i⟩,σ,λl d k=>?_⟩;rw[QE (by simpa using n),Qp j];exact ht;rw[QE (by simpa using b),QF b];rw[QE (by simpa using d),Qp (Q8 k)]
omit hlen in
theorem QuN(x:Ql)(N)(v:N<1000000)(B:Ends L N x.parent):QM prog 131 h [.ptr t 0 0 0,WV x] (λd M=>d=Qa (kW L x (ZF L N x.parent).length)/\Xa h t m (if kW L x (ZF L N x.parent).length=0 then Vk L x else L) M):=by
 have H:=T.look x.iD;have n:=T.look x.parent;have Q:=T.len;have j:=Qb ht;have i:=Qb hm;obtain⟨E,F⟩:∃E,E=kW L x (ZF L N x.parent).length:=⟨_,rfl⟩;rw[<- F];have b:∀g:List Ob,E≠0->Xa h t m (if E=0 then Vk L x else L) (h++g):=λg O=>by rw[Qc O];exact Xa.same h t m c ht hm T g
 refine Q7 func131 ntmps131 results131 λK w P a=>?_;have j:=Qb ht;have i:=Qb hm;simp only[go_sem,Qj];apply QV a Qfp (Qf3 x);apply J5 a;by_cases C:KD x=0;case neg=>
  have e:E=KD x:=by rw[F,kW,Qd C]
  simp only[go_sem,Vw C,bne];exact⟨by rw[e],b _ (by rw[e];exact C)⟩
 simp only[go_sem,WA C,bne];cases I:Qw L x.iD with
 | some y=>
  have e:E=8:=by rw[F,kW,Qc (by simpa using C),Qd (by simp[I])]
  rw[I,KM]at H;apply Qv a ol;simp only[go_sem,Qj,ht,hm,j,i,H];cases o:Qw L x.parent with
  | none=>
   rw[o,qw]at n;apply Qv a ol;simp only[go_sem,Qj,ht,hm,j,i,n];exact⟨by rw[e],b _ (by rw[e];decide)⟩
  | some z=>
   rw[o,KM]at n;apply Qv a ol;simp only[go_sem,Qj,ht,hm,j,i,n];exact⟨by rw[e],b _ (by rw[e];decide)⟩
 | none=>
  rw[I,qw]at H;apply Qv a ol;simp only[go_sem,Qj,ht,hm,j,i,H];have u:E=(if L.length=64 then 5 else if (x.parent≠0/\(Qw L x.parent).isNone)\/((Qw L x.parent).getD default).leaf=true then 23 else if 1<QH x.ls/\Ve L x.parent=false then 29 else if (ZF L N x.parent).length=16 then 25 else 0):=by
   rw[F,kW,Qc (by simpa using C),Qc (by simp[I])]
  by_cases J:L.length=64;have e:E=5:=by rw[u,Qd J]
  have s:((es.length:Int)==64)=true:=ξ;cases o:Qw L x.parent with
  | none=>
   rw[o,qw]at n;apply Qv a ol;simp only[go_sem,Qj,ht,hm,j,i,n,s];exact⟨by rw[e],b _ (by rw[e];decide)⟩
  | some z=>
   rw[o,KM]at n;apply Qv a ol;simp only[go_sem,Qj,ht,hm,j,i,n,s];exact⟨by rw[e],b _ (by rw[e];decide)⟩
  rw[Qc J]at u;have s:((es.length:Int)==64)=false:=ξ;cases o:Qw L x.parent with
  | none=>
   rw[o,qw]at n;by_cases p:x.parent=0;apply Qv a ol;simp only[go_sem,Qj,ht,hm,j,i,n,s,WA p,bne];have l:E=(if 1<QH x.ls/\Ve L x.parent=false then 29 else if (ZF L N x.parent).length=16 then 25 else 0):=by rw[u,Qc (by rw[o];rintro (⟨h1,_⟩|h1);exact h1 p;cases h1)]
   apply QV a vY (vZ x);apply J5 a;cases r:decide (1<QH x.ls);simp only[go_sem,Qj,Go.undef];apply Zz a OE (ON _ t m c T (Xs ht) (Xs hm) x.parent N v B);apply Qg a;by_cases k:(ZF L N x.parent).length=16;have e:E=25:=by rw[l,Qc (by simp at r;omega),Qd k]
   have f:(((ZF L N x.parent).length:Int)==16)=true:=ξ;simp only[go_sem,f];exact⟨by rw[e],b _ (by rw[e];decide)⟩;have e:E=0:=by rw[l,Qc (by simp at r;omega),Qc k]
   have f:(((ZF L N x.parent).length:Int)==16)=false:=ξ;simp only[go_sem,f];apply Qv a ut;simp only[go_sem,Qj,ht,hm,j,i];rw[Qd e];exact⟨by rw[e],Xa.Q3 h t m c T ht hm x _⟩;simp only[go_sem,Qj,Go.undef];apply Zz a ft (fO _ t m c T (Xs ht) (Xs hm) x.parent);apply Qg a;cases q:Ve L x.parent;have e:E=29:=by rw[l,Qd ⟨by simpa using r,q⟩]
   simp only[go_sem];exact⟨by rw[e],b _ (by rw[e];decide)⟩;simp only[go_sem,Qj];apply Zz a OE (ON _ t m c T (Xs ht) (Xs hm) x.parent N v B);apply Qg a;by_cases k:(ZF L N x.parent).length=16;have e:E=25:=by rw[l,Qc (by rw[q];simp),Qd k]
   have f:(((ZF L N x.parent).length:Int)==16)=true:=ξ;simp only[go_sem,f];exact⟨by rw[e],b _ (by rw[e];decide)⟩;have e:E=0:=by rw[l,Qc (by rw[q];simp),Qc k]
   have f:(((ZF L N x.parent).length:Int)==16)=false:=ξ;simp only[go_sem,f];apply Qv a ut;simp only[go_sem,Qj,ht,hm,j,i];rw[Qd e];exact⟨by rw[e],Xa.Q3 h t m c T ht hm x _⟩;have e:E=23:=by rw[u,Qd (.inl ⟨p,by simp[o]⟩)]
   apply Qv a ol;simp only[go_sem,Qj,ht,hm,j,i,n,s,Vw p,bne];exact⟨by rw[e],b _ (by rw[e];decide)⟩
  | some z=>
   rw[o,KM]at n;cases hz:z.leaf with
   | true=>
    have e:E=23:=by rw[u,Qd (.inr (by simp[o,hz]))]
    by_cases p:x.parent=0;apply Qv a ol;simp only[go_sem,Qj,ht,hm,j,i,n,s,WA p,bne,hz];exact⟨by rw[e],b _ (by rw[e];decide)⟩;apply Qv a ol;simp only[go_sem,Qj,ht,hm,j,i,n,s,Vw p,bne,hz];exact⟨by rw[e],b _ (by rw[e];decide)⟩
   | false=>
    by_cases p:x.parent=0;apply Qv a ol;simp only[go_sem,Qj,ht,hm,j,i,n,s,WA p,bne,hz];have l:E=(if 1<QH x.ls/\Ve L x.parent=false then 29 else if (ZF L N x.parent).length=16 then 25 else 0):=by rw[u,Qc (by rw[o];rintro (⟨h1,_⟩|h1);exact h1 p;exact absurd h1 (by simp[hz]))]
    apply QV a vY (vZ x);apply J5 a;cases r:decide (1<QH x.ls);simp only[go_sem,Qj,Go.undef];apply Zz a OE (ON _ t m c T (Xs ht) (Xs hm) x.parent N v B);apply Qg a;by_cases k:(ZF L N x.parent).length=16;have e:E=25:=by rw[l,Qc (by simp at r;omega),Qd k]
    have f:(((ZF L N x.parent).length:Int)==16)=true:=ξ;simp only[go_sem,f];exact⟨by rw[e],b _ (by rw[e];decide)⟩;have e:E=0:=by rw[l,Qc (by simp at r;omega),Qc k]
    have f:(((ZF L N x.parent).length:Int)==16)=false:=ξ;simp only[go_sem,f];apply Qv a ut;simp only[go_sem,Qj,ht,hm,j,i];rw[Qd e];exact⟨by rw[e],Xa.Q3 h t m c T ht hm x _⟩;simp only[go_sem,Qj,Go.undef];apply Zz a ft (fO _ t m c T (Xs ht) (Xs hm) x.parent);apply Qg a;cases q:Ve L x.parent;have e:E=29:=by rw[l,Qd ⟨by simpa using r,q⟩]
    simp only[go_sem];exact⟨by rw[e],b _ (by rw[e];decide)⟩;simp only[go_sem,Qj];apply Zz a OE (ON _ t m c T (Xs ht) (Xs hm) x.parent N v B);apply Qg a;by_cases k:(ZF L N x.parent).length=16;have e:E=25:=by rw[l,Qc (by rw[q];simp),Qd k]
    have f:(((ZF L N x.parent).length:Int)==16)=true:=ξ;simp only[go_sem,f];exact⟨by rw[e],b _ (by rw[e];decide)⟩;have e:E=0:=by rw[l,Qc (by rw[q];simp),Qc k]
    have f:(((ZF L N x.parent).length:Int)==16)=false:=ξ;simp only[go_sem,f];apply Qv a ut;simp only[go_sem,Qj,ht,hm,j,i];rw[Qd e];exact⟨by rw[e],Xa.Q3 h t m c T ht hm x _⟩;apply Qv a ol;simp only[go_sem,Qj,ht,hm,j,i,n,s,Vw p,bne,hz];have l:E=(if 1<QH x.ls/\Ve L x.parent=false then 29 else if (ZF L N x.parent).length=16 then 25 else 0):=by rw[u,Qc (by simp[o,hz])]
    apply QV a vY (vZ x);apply J5 a;cases r:decide (1<QH x.ls);simp only[go_sem,Qj,Go.undef];apply Zz a OE (ON _ t m c T (Xs ht) (Xs hm) x.parent N v B);apply Qg a;by_cases k:(ZF L N x.parent).length=16;have e:E=25:=by rw[l,Qc (by simp at r;omega),Qd k]
    have f:(((ZF L N x.parent).length:Int)==16)=true:=ξ;simp only[go_sem,f];exact⟨by rw[e],b _ (by rw[e];decide)⟩;have e:E=0:=by rw[l,Qc (by simp at r;omega),Qc k]
    have f:(((ZF L N x.parent).length:Int)==16)=false:=ξ;simp only[go_sem,f];apply Qv a ut;simp only[go_sem,Qj,ht,hm,j,i];rw[Qd e];exact⟨by rw[e],Xa.Q3 h t m c T ht hm x _⟩;simp only[go_sem,Qj];apply Zz a ft (fO _ t m c T (Xs ht) (Xs hm) x.parent);apply Qg a;cases q:Ve L x.parent;have e:E=29:=by rw[l,Qd ⟨by simpa using r,q⟩]
    simp only[go_sem];exact⟨by rw[e],b _ (by rw[e];decide)⟩;simp only[go_sem,Qj];apply Zz a OE (ON _ t m c T (Xs ht) (Xs hm) x.parent N v B);apply Qg a;by_cases k:(ZF L N x.parent).length=16;have e:E=25:=by rw[l,Qc (by rw[q];simp),Qd k]
    have f:(((ZF L N x.parent).length:Int)==16)=true:=ξ;simp only[go_sem,f];exact⟨by rw[e],b _ (by rw[e];decide)⟩;have e:E=0:=by rw[l,Qc (by rw[q];simp),Qc k]
    have f:(((ZF L N x.parent).length:Int)==16)=false:=ξ;simp only[go_sem,f];apply Qv a ut;simp only[go_sem,Qj,ht,hm,j,i];rw[Qd e];exact⟨by rw[e],Xa.Q3 h t m c T ht hm x _⟩
end
def wa(L:List Ql)(a:Int):Int:=if (Qw L a).isNone then 6 else if KE L a≠[] then 23 else 0
section
variable (h:List Ob)(t m c:Nat){es:List ZC}{L:List Ql}(T:Vy es L)(hlen:L.length<1000000)
 (ht:h[t]?=some ⟨.one,0,1,1,λ_=>[.mref m 0]⟩) (hm:h[m]?=some (QR .i64 c es))
include T ht hm hlen
omit hlen T in
theorem Xa.put{b}{a}{e}(i:Vy a e)(g):Xa h t m e (h.set m (QR .i64 b a)++g):=by
 have d:=Qb hm;have n:=Qb ht;have j:m≠t:=by rintro rfl;rw[ht]at hm;cases hm
 refine⟨⟨b,a,?_,?_,i⟩,σ,λl f k=>?_⟩;rw[QE (by simpa using n),Qp j];exact ht;rw[QE (by simpa using d),QF d];rw[QE (by simpa using f),Qp (Q8 k)]
theorem QuO(a):QM prog 134 h [.ptr t 0 0 0,Qa a] (λd v=>d=Qa (wa L a)/\Xa h t m (if wa L a=0 then Wt L a else L) v):=by
 have j:=T.look a;have o:=Qb ht;have n:=Qb hm;obtain⟨E,p⟩:∃E,E=wa L a:=⟨_,rfl⟩;rw[<- p];have f:∀g:List Ob,E≠0->Xa h t m (if E=0 then Wt L a else L) (h++g):=λg z=>by rw[Qc z];exact Xa.same h t m c ht hm T g
 cases k:Qw L a with
 | none=>
  have e:E=6:=by rw[p,wa,Qd (by simp[k])]
  rw[k,qw]at j;refine Q7 func134 ntmps134 results134 λi w r l=>?_;have o:=Qb ht;have n:=Qb hm;simp only[go_sem,Qj,ht,hm,j];exact⟨by rw[e],f _ (by rw[e];decide)⟩
 | some x=>
  rw[k,KM]at j;have q:E=if KE L a≠[] then 23 else 0:=by rw[p,wa,Qc (by simp[k])]
  refine Q7 func134 ntmps134 results134 λi w r l=>?_;have o:=Qb ht;have n:=Qb hm;simp only[go_sem,Qj,ht,hm,j];refine Ha l pE rfl ?_ (ru _ t m c T hlen (Xs ht) (Xs hm) a) rfl λd g s=>?_;simp only[go_sem];rcases s with ⟨rfl,b⟩|⟨F,I,C,B,rfl,J,u,H⟩;have e:E=0:=by rw[q,Qc (by simp[b])]
  apply Qh l;simp only[go_sem,Qj,ht,hm,o,n];rw[Qd e];exact⟨by rw[e],Xa.put h t m c ht hm (Qf8 T a) _⟩;have M:=Qb u;apply Qh l;by_cases b:KE L a=[];have e:E=0:=by rw[q,Qc (by simp[b])]
  simp only[go_sem,Qj,ht,hm,o,n,b];rw[Qd e];exact⟨by rw[e],Xa.put h t m c ht hm (Qf8 T a) _⟩;have e:E=23:=by rw[q,Qd b]
  have K:0<(KE L a).length:=aT.2 b;have y:(0:Int)<((KE L a).length:Int):=ω;simp only[go_sem,Qj,y];exact⟨by rw[e],f _ (by rw[e];decide)⟩
end
def rv(h:List Ob):(h.map Ob.ro).map Ob.ro=h.map Ob.ro:=by rw[Gt];exact Il λo _=>ro_ro o
def Qgi(F:List Ob)(f a:Nat)(b:List D)(g:Int->Bool):Prop:=∀(h:List Ob) (n:Int),VG F h->Zf prog f h (Z5 a b [Qa n]) (λd=>d=QU (g n))
def xz(g:Int->Bool)(l:List Int):Int:=match l.findIdx? g with
 | some i=>i
 | none=>-1
def ry{g}{l:List Int}{k}(a:k<l.length)(h:∀i,i<k->g (l.getD i 0)=false)(c:g (l.getD k 0)=true):xz g l=k:=by
 have e:l.findIdx? g=some k:=by
  rw[CM];refine⟨a,by simpa[QW,a] using c,λi b=>?_⟩;have:=h i b;simpa[QW,show i<l.length by omega] using this
 rw[xz,e]
def rA{g}{l:List Int}(h:∀i,i<l.length->g (l.getD i 0)=false):xz g l=-1:=by
 have e:l.findIdx? g=none:=by
  rw[Ej];intro x hx;obtain⟨i,a,rfl⟩:=vH hx;have:=h i a;simpa[QW,a] using this
 rw[xz,e]
section
variable (h:List Ob)(l:List Int)(lo gn off:Nat)(row:Nat->List D)(hlen:l.length<1000000)(ho:(h.map Ob.ro)[lo]?=some ⟨.Ac,gn,1,off+l.length,row⟩)(hr:∀i,i<l.length->row (off+i)=[Qa (l.getD i 0)])
include hlen ho hr
theorem QuP(e:D)(f j:Nat)(q:List D)(x:Qm prog f)(B:JB e=some (f,j,q))(c:Int->Bool)(v:Qgi (h.map Ob.ro) f j q c):
  Zf prog 102 h [.ref lo gn off l.length,e] (λd=>d=Qa (xz c l)):=by
 refine ZH func102 ntmps102 results102 λr w H F p I b=>?_;rw[<- p]at ho;have C:=Qb ho;simp only[go_sem];refine ZN (λk s=>(∀i,i<k->c (l.getD i 0)=false)/\s=⟨[(0,.ref lo gn off l.length),(1,e),(7,Qa l.length),(8,Qa k)],F⟩) l.length QO ⟨λi o=>absurd o ω,rfl⟩ ?_;rintro k s n ⟨g,rfl⟩;apply Qg b;have C:=Qb ho;have E:=Jr (show k<4611686018427387904 from ω);first|refine We n (λa=>?_) (λa=>?_)|refine Wf n (λa=>?_) (λa=>?_)
 have t:=hr k a;have u:off+k<off+l.length:=ω;simp only[go_sem,ho,a,t,u];refine XI b x B ?_ (v F (l.getD k 0) (by rw[<- p];exact VG.refl F)) rfl λd2 y=>?_;simp only[go_sem];exact Dt _;subst y;apply Qh b;cases m:c (l.getD k 0);simp only[go_sem];refine⟨a,_,Qo.frame (by simp only[go_sem,E]),λi o=>?_,rfl⟩;by_cases z:i<k;exact g i z;have:i=k:=ω;subst this;exact m;rw[ry a g m];simp only[go_sem];exact⟨[],(JS F).symm⟩;have a:k=l.length:=ω;subst a;simp only[go_sem,Gx];rw[rA g];apply Qg b;exact⟨[],(JS F).symm⟩
theorem QuQ(a:D)(f b:Nat)(e:List D)(o:Qm prog f)(r:JB a=some (f,b,e))(c:Int->Bool)(m:Qgi (h.map Ob.ro) f b e c):
  Zf prog 70 h [.ref lo gn off l.length,a] (λd=>d=QU (decide (0<=xz c l))):=by
 refine ZH func70 ntmps70 results70 λk w s F j t g=>?_;rw[<- j]at ho;have u:=Qb ho;simp only[go_sem];refine XI g SO rfl ?_ (QuP F l lo gn off row hlen (Z4 ho) hr a f b e o r c (λq n hx=>?_)) rfl λd2 p=>?_;simp only[go_sem];exact LG a;rw[j,rv]at hx;exact m q n hx;subst p;apply Qg g;exact⟨[],(JS F).symm⟩
end
def Qgj(h)(c):Zf prog 102 h [.nil,c] (λd=>d=Qa (-1)):=by
 refine ZH func102 ntmps102 results102 λb w e F g i a=>?_;simp only[go_sem];refine ZN (λk s=>s=⟨[(7,Qa 0),(8,Qa 0)],F⟩) 0 QO rfl ?_;rintro k s f rfl;apply Qg a;apply Qg a;exact⟨[],(JS F).symm⟩
def QuR(h)(a):Zf prog 70 h [.nil,a] (λd=>d=QU false):=by
 refine ZH func70 ntmps70 results70 λc w f F g i b=>?_;simp only[go_sem];refine XI b SO rfl ?_ (Qgj F a) rfl λd2 e=>?_;simp only[go_sem];exact LG a;subst e;apply Qg b;exact⟨[],(JS F).symm⟩
def fV(g)(l:List Int):decide (0<=xz g l)=l.any g:=by
 unfold xz;cases h:l.findIdx? g with
 | some i=>
  have:=CM.1 h;obtain⟨b,a,_⟩:=this;have e:l.any g=true:=vG.2 ⟨_,Xn b,a⟩;rw[e];simp
 | none=>
  have:=Ej.1 h;have e:l.any g=false:=by rw[aP];intro x hx;simp[this x hx]
  rw[e];decide
def kY(L:List Ql)(a:Int):Bool:=decide (1<QH ((Qw L a).getD default).ls)
def wc(L:List Ql)(x:Ql):Int:=
 if KD x≠0 then KD x
 else if (Qw L x.iD).isNone then 6
 else if x.parent≠((Qw L x.iD).getD default).parent\/x.leaf≠((Qw L x.iD).getD default).leaf then 1
 else if (1<QH x.ls/\Ve L x.parent=false)\/(¬ 1<QH x.ls/\(KE L x.iD).any (kY L)=true) then 29
 else 0
section
variable (h:List Ob)(t m c tb:Nat){es:List ZC}{L:List Ql}(T:Vy es L)
 (ht:(h.map Ob.ro)[t]?=some ⟨.Wb,0,1,1,λ_=>[.mref m 0]⟩) (hm:(h.map Ob.ro)[m]?=some (QR .i64 c es).ro)
 (Zr:(h.map Ob.ro)[tb]?=some ⟨.Wb,0,1,1,λ_=>[.ptr t 0 0 0]⟩)
include T ht hm Zr
theorem QuS(e):Zf prog 170 h [Qa e,.ptr tb 0 0 0] (λd=>d=QU (kY L e)):=by
 have f:=T.look e;unfold kY;cases i:Qw L e with
 | none=>
  rw[i,qw]at f;refine ZH func170 ntmps170 results170 λb w j F g l a=>?_;rw[<- g]at ht hm Zr;have o:=Qb ht;have k:=Qb hm;have n:=Qb Zr;simp only[go_sem,ht,hm,Zr,f];apply QV a vY (vZ ⟨0,0,false,⟨0,0,0⟩,⟨0,0,0⟩,⟨0,0,0⟩,0,0⟩);apply Qg a;exact⟨[],(JS F).symm,rfl⟩
 | some x=>
  rw[i,KM]at f;refine ZH func170 ntmps170 results170 λb w j F g l a=>?_;rw[<- g]at ht hm Zr;have o:=Qb ht;have k:=Qb hm;have n:=Qb Zr;simp only[go_sem,ht,hm,Zr,f];apply QV a vY (vZ x);apply Qg a;exact⟨[],σ⟩
end
section
variable (h:List Ob)(t m c:Nat){es:List ZC}{L:List Ql}(T:Vy es L)(hlen:L.length<1000000)
 (ht:h[t]?=some ⟨.one,0,1,1,λ_=>[.mref m 0]⟩) (hm:h[m]?=some (QR .i64 c es))
include T ht hm hlen
theorem QuT(x):QM prog 132 h [.ptr t 0 0 0,WV x] (λd B=>d=Qa (wc L x)/\Xa h t m (if wc L x=0 then Vk L x else L) B):=by
 have k:=T.look x.iD;have j:=Qb ht;have i:=Qb hm;obtain⟨E,s⟩:∃E,E=wc L x:=⟨_,rfl⟩;rw[<- s];have b:∀g:List Ob,E≠0->Xa h t m (if E=0 then Vk L x else L) (h++g):=λg S=>by rw[Qc S];exact Xa.same h t m c ht hm T g
 refine Q7 func132 ntmps132 results132 λM w V a=>?_;have j:=Qb ht;have i:=Qb hm;simp only[go_sem,Qj];apply QV a Qfp (Qf3 x);apply J5 a;by_cases l:KD x=0;case neg=>
  have e:E=KD x:=by rw[s,wc,Qd l]
  simp only[go_sem,Vw l,bne];exact⟨by rw[e],b _ (by rw[e];exact l)⟩
 simp only[go_sem,WA l,bne];cases r:Qw L x.iD with
 | none=>
  have e:E=6:=by rw[s,wc,Qc (by simpa using l),Qd (by simp[r])]
  rw[r,qw]at k;apply Qv a ol;simp only[go_sem,Qj,ht,hm,j,i,k];exact⟨by rw[e],b _ (by rw[e];decide)⟩
 | some y=>
  rw[r,KM]at k;have f:E=(if x.parent≠y.parent\/x.leaf≠y.leaf then 1 else if (1<QH x.ls/\Ve L x.parent=false)\/(¬ 1<QH x.ls/\(KE L x.iD).any (kY L)=true) then 29 else 0):=by
   rw[s,wc,Qc (by simpa using l),Qc (by simp[r]),r];rfl
  by_cases q:x.parent=y.parent;case neg=>
   have e:E=1:=by rw[f,Qd (.inl q)]
   apply Qv a ol;simp only[go_sem,Qj,ht,hm,j,i,k,Vw q,bne];exact⟨by rw[e],b _ (by rw[e];decide)⟩
  by_cases u:x.leaf=y.leaf;case neg=>
   have e:E=1:=by rw[f,Qd (.inr u)]
   have C:(x.leaf==y.leaf)=false:=by simpa using u
   apply Qv a ol;simp only[go_sem,Qj,ht,hm,j,i,k,WA q,bne,C];exact⟨by rw[e],b _ (by rw[e];decide)⟩
  have C:(x.leaf==y.leaf)=true:=by simpa using u
  rw[Qc (by simp[q,u])]at f;apply Qv a ol;simp only[go_sem,Qj,ht,hm,j,i,k,WA q,bne,C];apply QV a vY (vZ x);apply J5 a;cases z:decide (1<QH x.ls);have p:¬ 1<QH x.ls:=by simpa using z
  simp only[go_sem,Qj,Go.undef];apply QV a vY (vZ x);apply Qh a;simp only[go_sem,Qj,z];refine Ha a pE rfl ?_ (ru _ t m c T hlen (Xs ht) (Xs hm) x.iD) rfl λd g O=>?_;simp only[go_sem];rcases O with ⟨rfl,U⟩|⟨N,Q,H,F,rfl,W,J,P⟩;have e:E=0:=by rw[f,Qc (by rintro (⟨v,_⟩|⟨_,v⟩);exact p v;rw[U]at v;simp at v)]
  apply J5 a;apply Zz a SN (QuR _ (.clo 170 0 [.ptr h.length 0 0 0]));apply Qg a;apply Qv a ut;simp only[go_sem,Qj,ht,hm,j,i];rw[Qd e];exact⟨by rw[e],Xa.Q3 h t m c T ht hm x _⟩;apply Qh a;have R:(KE L x.iD).length<1000000:=by
   have:=XS (λy:Ql=>y.parent==x.iD) L;unfold KE;rw[Kj];omega
  rw[WL]at J;simp only[go_sem,Qj];apply Zz a SN (QuQ _ (KE L x.iD) N Q H F R (Z4 J) P (.clo 170 0 [.ptr h.length 0 0 0]) 170 0 [.ptr h.length 0 0 0] Qtp rfl (kY L) (λB n hx=>QuS B t m c h.length T (Z4 (hx.get (Xs ht))) (LF (hx.get (Xs hm))) (Z4 (hx.get (Z4 (o:=⟨.one,0,1,1,λ_=>[.ptr t 0 0 0]⟩) (by rw[Vc rfl];rfl)))) n));apply Qh a;simp only[go_sem,fV];cases I:(KE L x.iD).any (kY L);have e:E=0:=by rw[f,Qc (by rw[I];simp[p])]
  simp only[go_sem];apply Qv a ut;simp only[go_sem,Qj,ht,hm,j,i];rw[Qd e];exact⟨by rw[e],Xa.Q3 h t m c T ht hm x _⟩;have e:E=29:=by rw[f,Qd (.inr ⟨p,I⟩)]
  simp only[go_sem];exact⟨by rw[e],b _ (by rw[e];decide)⟩;have p:1<QH x.ls:=by simpa using z
  simp only[go_sem,Qj];apply Zz a ft (fO _ t m c T (Xs ht) (Xs hm) x.parent);apply Qg a;cases K:Ve L x.parent;have e:E=29:=by rw[f,Qd (.inl ⟨p,K⟩)]
  simp only[go_sem,Go.undef];exact⟨by rw[e],b _ (by rw[e];decide)⟩;have e:E=0:=by rw[f,Qc (by rw[K];simp[p])]
  simp only[go_sem,Qj,Go.undef];apply QV a vY (vZ x);apply Qh a;simp only[go_sem,Qj,z,Go.undef];apply Qv a ut;simp only[go_sem,Qj,ht,hm,j,i];rw[Qd e];exact⟨by rw[e],Xa.Q3 h t m c T ht hm x _⟩
end
def AD{L}(h:Ws L)(x:Ql)(k):Qw (Vk L x) k=if k=x.iD then some x else Qw L k:=by
 have i:=OM x h;have d:=λc=>(Hg x h).mem_iff (a:=c);by_cases b:k=x.iD;rw[Qd b];exact(VF i).2 ⟨(d x).2 σ,b.symm⟩;rw[Qc b];cases f:Qw L k with
 | some c=>
  obtain⟨l,j⟩:=(VF h).1 f;exact(VF i).2 ⟨(d c).2 (QK.2 (.inr (Jt.2 ⟨l,ξ⟩))),j⟩
 | none=>
  rw[Hf]at f ⊢;intro c g;rcases QK.1 ((d c).1 g) with rfl|g;exact λe=>b e.symm;exact f c (Jt.1 g).1
def S5{L}(h:Ws L)(a k):Qw (Wt L a) k=if k=a then none else Qw L k:=by
 have f:=rk a h;by_cases e:k=a;rw[Qd e,Hf];intro c d;have:=(Jt.1 d).2;simp at this;omega;rw[Qc e];cases b:Qw L k with
 | some c=>
  obtain⟨i,g⟩:=(VF h).1 b;exact(VF f).2 ⟨Jt.2 ⟨i,ξ⟩,g⟩
 | none=>
  rw[Hf]at b ⊢;exact λc d=>b c (Jt.1 d).1
def Ends.succ{L}:∀{n:Nat} {id:Int},Ends L n id->Ends L (n+1) id
 | 0,id,h=>by simp only[Ends]at h ⊢;rw[h];trivial
 | n+1,id,h=>by
  rw[Ends]at h ⊢;cases a:Qw L id with
  | none=>trivial
  | some c=>rw[a]at h;exact Ends.succ h
def Ends.le{L}{n k}{a}(h:Ends L n a)(c:n<=k):Ends L k a:=by
 induction c with
 | refl=>exact h
 | step _ b=>exact b.succ
def rB{L}:∀{n:Nat} {id:Int},Ends L n id->ZF L (n+1) id=ZF L n id
 | 0,id,h=>by simp only[Ends]at h;simp only[ZF,h]
 | n+1,id,h=>by
  rw[Ends]at h;rw[ZF]
  conv=>rhs;rw[ZF]
  cases a:Qw L id with
  | none=>rfl
  | some c=>rw[a]at h;simp only[rB h]
def QuU{L}{n k}{a}(h:Ends L n a)(b:n<=k):ZF L k a=ZF L n a:=by
 induction b with
 | refl=>rfl
 | step b c=>rw[rB (h.le b),c]
def yu{L}:∀{n:Nat} {id:Int},(ZF L n id).length<=n
 | 0,_=>QB _
 | n+1,id=>by
  rw[ZF];cases Qw L id with
  | none=>exact Jj _
  | some c=>have:=yu (L:=L) (n:=n) (id:=c.parent);simp only[Kw];omega
def Ends.short{L}:∀{n k:Nat} {id:Int},Ends L n id->(ZF L n id).length<=k->Ends L k id
 | 0,k,id,h,_=>h.le (Jj _)
 | n+1,k,id,h,b=>by
  rw[Ends]at h;rw[ZF]at b;cases a:Qw L id with
  | none=>cases k with
   | zero=>exact a
   | succ k=>rw[Ends,a];trivial
  | some c=>
   rw[a]at h b;simp only[Kw]at b;cases k with
   | zero=>omega
   | succ k=>rw[Ends,a];exact Ends.short h ω
structure TreeInv (L:List Ql):Prop where
 rising:Ws L
 ids:∀c∈L,1<=c.iD
 par:∀c∈L,c.parent=0\/(Qw L c.parent).isSome=true
 ends:∀id,Ends L 16 id
def TreeInv.nil:TreeInv []:=⟨by simp[Ws],σ,σ,λid=>by simp[Ends,Qw]⟩
def right_id{x:Ql}(h:KD x=0):1<=x.iD/\x.iD<=65536/\x.parent≠x.iD:=by
 have a:Dq x=true:=by
  cases b:Dq x with
  | true=>rfl
  | false=>rw[KD,b]at h;simp at h
 simp[Dq,yr]at a;exact⟨a.1.1.1,a.1.1.2,a.2⟩
def fW{L}(h:Ws L)(x){k:Int}(a:(Qw L k).isSome=true):(Qw (Vk L x) k).isSome=true:=by
 rw[AD h];split;rfl;exact a
def yv{L}(h:Ws L)(x){c}(a:c∈Vk L x):c=x\/c∈L:=by
 rcases QK.1 ((Hg x h).mem_iff.1 a) with h1|h1;exact .inl h1;exact .inr (Jt.1 h1).1
def TreeInv.add{L}(I:TreeInv L){x:Ql}(m:KD x=0)(l:Qw L x.iD=none)(k:x.parent=0\/(Qw L x.parent).isSome=true)(o:(ZF L 16 x.parent).length≠16):TreeInv (Vk L x):=by
 obtain⟨j,_,i⟩:=right_id m;have d:∀n id,id≠x.iD->Ends L n id->Ends (Vk L x) n id:=by
  intro n;induction n with
  | zero=>intro id b h;rw[Ends]at h ⊢;rw[AD I.rising,Qc b];exact h
  | succ n g=>
   intro id b h;rw[Ends]at h ⊢;rw[AD I.rising,Qc b];cases f:Qw L id with
   | none=>trivial
   | some c=>
    rw[f]at h;refine g _ ?_ h;rcases I.par c ((VF I.rising).1 f).1 with hp|hp;rw[hp];omega;intro e;rw[e,l]at hp;cases hp
 refine⟨OM x I.rising,λc a=>?_,λc a=>?_,λid=>?_⟩;rcases yv I.rising x a with rfl|a;exact j;exact I.ids c a;rcases yv I.rising x a with rfl|a;exact k.imp id λh=>fW I.rising c h;exact(I.par c a).imp id λh=>fW I.rising x h;by_cases b:id=x.iD;subst b;rw[Ends,AD I.rising,Qd rfl];refine d 15 _ i ((I.ends x.parent).short ?_);have:=yu (L:=L) (n:=16) (id:=x.parent);omega;exact d 16 id b (I.ends id)
def TreeInv.del{L}(I:TreeInv L){a}(h:KE L a=[]):TreeInv (Wt L a):=by
 have m:∀c∈L,c.parent≠a:=λc b e=>by
  have:c∈L.filter (λy=>y.parent==a):=Jt.2 ⟨b,by simp[e]⟩;have l:(L.filter λy=>y.parent==a)=[]:=by simpa[KE] using h
  rw[l]at this;simp at this
 refine⟨rk a I.rising,λc b=>I.ids c (Jt.1 b).1,λc b=>?_,λid=>?_⟩;have f:=(Jt.1 b).1;exact(I.par c f).imp id λj=>by rw[S5 I.rising,Qc (m c f)];exact j
 have d:∀n id,Ends L n id->Ends (Wt L a) n id:=by
  intro n;induction n with
  | zero=>intro id h;rw[Ends]at h ⊢;rw[S5 I.rising];split<;>simp[h]
  | succ n i=>
   intro id h;rw[Ends]at h ⊢;rw[S5 I.rising];by_cases g:id=a;rw[Qd g];trivial;rw[Qc g];cases k:Qw L id with
   | none=>trivial
   | some c=>rw[k]at h;exact i _ h
 exact d 16 id (I.ends id)
def TreeInv.set{L}(I:TreeInv L){x y:Ql}(k:KD x=0)(d:Qw L x.iD=some y)(g:x.parent=y.parent):TreeInv (Vk L x):=by
 obtain⟨i,_,l⟩:=right_id k;have e:∀n id,Ends L n id->Ends (Vk L x) n id:=by
  intro n;induction n with
  | zero=>
   intro id h;rw[Ends]at h ⊢;rw[AD I.rising];by_cases b:id=x.iD;subst b;rw[d]at h;cases h;rw[Qc b];exact h
  | succ n f=>
   intro id h;rw[Ends]at h ⊢;rw[AD I.rising];by_cases b:id=x.iD;subst b;rw[Qd rfl];rw[d]at h;show Ends (Vk L x) n x.parent;rw[g];exact f _ h;rw[Qc b];cases j:Qw L id with
   | none=>trivial
   | some c=>rw[j]at h;exact f _ h
 refine⟨OM x I.rising,λc a=>?_,λc a=>?_,λid=>e 16 id (I.ends id)⟩;rcases yv I.rising x a with rfl|a;exact i;exact I.ids c a;rcases yv I.rising x a with rfl|a;rw[g];exact(I.par y ((VF I.rising).1 d).1).imp id λh=>fW I.rising c h;exact(I.par c a).imp id λh=>fW I.rising x h
def up(T:List Ql)(id:Int):List Int:=ZF T 16 id
structure JQ (T:List Ql):Prop extends TreeInv T where
 right:∀c∈T,KD c=0
 J9:∀c∈T,c.parent≠0->∃d,Qw T c.parent=some d/\d.leaf=false
 fX:∀c∈T,1<QH c.ls->c.parent≠0->kY T c.parent=true
 len:T.length<=64
section
variable {T:List Ql}(I:JQ T)
include I
theorem fY(a):up T a=match Qw T a with|none=>[]|some c=>a::up T c.parent:=by
 have b:=rB (I.ends a);unfold up;rw[<- b,ZF];all_goals (cases Qw T a<;>rfl)
theorem Vf{a}{c:Ql}(h:Qw T a=some c):up T a=a::up T c.parent:=by rw[fY I,h]
theorem Dw{a}(h:Qw T a=none):up T a=[]:=by rw[fY I,h]
theorem QuV{a}{c:Ql}(h:Qw T a=some c):c.iD=a:=((VF I.rising).1 h).2
theorem yw{a}{c}(h:Qw T a=some c):c∈T:=((VF I.rising).1 h).1
theorem LH:Qw T 0=none:=Hf.2 λc a e=>by have:=I.ids c a;omega
theorem Hi:up T 0=[]:=Dw I (LH I)
omit I in
theorem Hj{a j:Int}(h:j∈up T a):(Qw T j).isSome=true:=by
 have:∀n a,j∈ZF T n a->(Qw T j).isSome=true:=by
  intro n;induction n with
  | zero=>intro a h;cases h
  | succ n d=>
   intro a h;rw[ZF]at h;cases b:Qw T a with
   | none=>rw[b]at h;cases h
   | some c=>
    rw[b]at h;rcases QK.1 h with rfl|h;rw[b];rfl;exact d _ h
 exact this 16 a h
theorem LI{a p}(h:p∈up T a):∃l,up T a=l++up T p:=by
 generalize b:(up T a).length=n;induction n using Nat.strongRecOn generalizing a with
 | ind n f=>
  cases d:Qw T a with
  | none=>rw[Dw I d]at h;cases h
  | some c=>
   have e:=Vf I d;rw[e]at h b;rcases QK.1 h with rfl|h;exact⟨[],rfl⟩;obtain⟨l,g⟩:=f _ (by simp only[Kw]at b;omega) h rfl;exact⟨a::l,by rw[e,g];rfl⟩
theorem up_sub{a p q}(h:p∈up T a)(b:q∈up T p):q∈up T a:=by
 obtain⟨l,e⟩:=LI I h;rw[e];exact NA _ b
theorem XJ{a}{c}(h:Qw T a=some c):a∈up T a:=by rw[Vf I h];simp
theorem Fi(a:Int):(up T a).Nodup:=by
 generalize b:(up T a).length=n;induction n using Nat.strongRecOn generalizing a with
 | ind n f=>
  cases d:Qw T a with
  | none=>rw[Dw I d];simp
  | some c=>
   have e:=Vf I d;rw[e]at b ⊢;rw[ZV];refine⟨λh=>?_,f _ (by simp only[Kw]at b;omega) _ rfl⟩;obtain⟨l,g⟩:=LI I h;have:=congrArg List.length g;rw[e]at this;simp only[Zk,Kw]at this;omega
theorem fZ{a p}(h:p∈up T a)(m:a≠p):∃i c,i∈up T a/\Qw T i=some c/\c.parent=p:=by
 generalize f:(up T a).length=n;induction n using Nat.strongRecOn generalizing a with
 | ind n j=>
  cases b:Qw T a with
  | none=>rw[Dw I b]at h;cases h
  | some c=>
   have e:=Vf I b;rw[e]at h f;rcases QK.1 h with rfl|h;exact absurd rfl m;by_cases g:c.parent=p;exact⟨a,c,by rw[e];simp,b,g⟩;obtain⟨i,d,l,k⟩:=j _ (by simp only[Kw]at f;omega) h g rfl;exact⟨i,d,by rw[e];simp[l],k⟩
theorem QuW{a i j}{c d:Ql}(o:i∈up T a)(n:j∈up T a)(g:Qw T i=some c)(f:Qw T j=some d)(e:c.parent=d.parent):i=j:=by
 obtain⟨l,k⟩:=LI I o;obtain⟨m,h⟩:=LI I n;have s:=congrArg List.length (Vf I g);have r:=congrArg List.length (Vf I f);have q:(up T i).length=(up T j).length:=by rw[s,r,e];rfl
 have p:=k.symm.trans h;obtain⟨_,b⟩:=List.append_inj' p q;rw[Vf I g,Vf I f]at b;exact(wQ b).1
def Jm(T:List Ql)(A:List Int)(b:Int):Bool:=A.any λa=>(up T a).contains b
omit I in
theorem Yj{A}{b}:Jm T A b=true↔∃a∈A,b∈up T a:=by simp[Jm]
def zz(T:List Ql)(A:List Int)(p i:Int):Bool:=(match Qw T i with|some c=>c.parent==p|none=>false)&&Jm T A i
omit I in
theorem xB{A}{p i}:zz T A p i=true↔∃c,Qw T i=some c/\c.parent=p/\Jm T A i=true:=by
 unfold zz;cases Qw T i with
 | none=>simp
 | some c=>simp
def yx(T:List Ql)(A:List Int):Prop:=∀a∈A,∃c,Qw T a=some c/\c.leaf=true/\1<QH c.ls
theorem LJ{A}{i p}(h:Jm T A i=true)(b:p∈up T i):Jm T A p=true:=by
 obtain⟨a,d,c⟩:=Yj.1 h;exact Yj.2 ⟨a,d,up_sub I c b⟩
theorem Qgk{A}(n:yx T A){p}{d:Ql}(b:Qw T p=some d)(g:d.leaf=false):Jm T A p=true↔∃i,zz T A p i=true:=by
 constructor;intro h;obtain⟨a,j,l⟩:=Yj.1 h;obtain⟨c,f,e,k⟩:=n a j;have t:a≠p:=by rintro rfl;rw[f]at b;cases b;rw[e]at g;cases g
 obtain⟨i,c,r,q,o⟩:=fZ I l t;exact⟨i,xB.2 ⟨c,q,o,Yj.2 ⟨a,j,r⟩⟩⟩;rintro⟨i,m⟩;obtain⟨c,f,e,k⟩:=xB.1 m;have s:p∈up T i:=by
  rw[Vf I f,e];exact J8 _ (XJ I b)
 exact LJ I k s
def VH(T:List Ql)(A:List Int)(a:Int):List Int:=(up T a).takeWhile λi=>!Jm T A i
theorem Qgl{b}{c:Ql}(h:Qw T b=some c)(j:1<QH c.ls):∀i∈up T b,∃d,Qw T i=some d/\1<QH d.ls:=by
 generalize k:(up T b).length=n;induction n using Nat.strongRecOn generalizing b c with
 | ind n m=>
  have e:=Vf I h;rw[e]at k ⊢;intro i a;rcases QK.1 a with rfl|a;exact⟨c,h,j⟩;by_cases f:c.parent=0;rw[f,Hi I]at a;cases a;obtain⟨d,l,_⟩:=I.J9 c (yw I h) f;have g:=I.fX c (yw I h) j f;unfold kY at g;rw[l]at g;exact m _ (by simp only[Kw]at k;omega) l (by simpa using g) rfl i a
end
section
variable {T:List Ql}(I:JQ T)
def jL(T:List Ql)(A:List Int)(a:List Int)(p i:Int):Bool:=zz T A p i || (a.contains i&&(match Qw T i with|some c=>c.parent==p|none=>false))
def kZ(T:List Ql)(A:List Int)(a:List Int)(p i:Int):Bool:=zz T A p i&&!a.contains i
include I
theorem S6{A a}{p i}:jL T A a p i=true↔zz T A p i=true\/(i∈a/\∃c,Qw T i=some c/\c.parent=p):=by
 unfold jL;cases Qw T i with
 | none=>simp
 | some c=>simp
theorem QuX{a i}{l m}{c:Ql}(h:up T a=l++i::m)(p:Qw T i=some c):m=up T c.parent:=by
 have j:i∈up T a:=by rw[h];simp
 obtain⟨b,g⟩:=LI I j;rw[Vf I p]at g;have d:=Fi I a;have e:=h.symm.trans g;have f:=d;rw[h]at d;rw[g]at f;have q:l=b:=by
  have n:∀x∈l,x≠i:=λx hx e=>by
   subst e;rw[JK]at d;exact d.2.2 x hx x σ rfl
  have k:∀x∈b,x≠i:=λx hx e=>by
   subst e;rw[JK]at f;exact f.2.2 x hx x σ rfl
  clear h g d f j;induction l generalizing b with
  | nil=>cases b with
   | nil=>rfl
   | cons y b=>simp only[zR,YT,Ig]at e;exact absurd e.1.symm (k y σ)
  | cons x l o=>cases b with
   | nil=>simp only[zR,YT,Ig]at e;exact absurd e.1 (n x σ)
   | cons y b=>
    simp only[YT,Ig]at e;rw[e.1,o b e.2 (λx hx=>n x (by simp[hx])) (λx hx=>k x (by simp[hx]))]
 subst q;have:=List.append_cancel_left e;exact(wQ this).2
theorem QuY{A}(r:yx T A){b e}{k}{c}(f:up T b=k++up T e)(j:Qw T e=some c)(q:∀i∈k++[e],Jm T A i=false):
  (∃i,jL T A k c.parent i=true)↔∃i,zz T A c.parent i=true:=by
 constructor;rintro⟨i,g⟩;rcases (S6 I).1 g with h|⟨m,d,o,n⟩;exact⟨i,h⟩;exfalso;have p:i=e:=QuW I (a:=b) (by rw[f];simp[m]) (by rw[f];exact NA _ (XJ I j)) o j n;subst p;have l:=Fi I b;rw[f,JK]at l;exact l.2.2 i m i (XJ I j) rfl;rintro⟨i,g⟩;exact⟨i,(S6 I).2 (.inl g)⟩
theorem QuZ{A dn}{e}{c:Ql}(f:Qw T e=some c)(p i):jL T A (dn++[e]) p i=if p=c.parent/\i=e then true else jL T A dn p i:=by
 rw[vF,S6 I];split;rename_i h;obtain⟨rfl,rfl⟩:=h;simp[f];rename_i h;rw[S6 I];constructor;rintro (h1|⟨h1,d,b,a⟩);exact .inl h1;rcases Q1.1 h1 with h1|h1;exact .inr ⟨h1,d,b,a⟩;simp only[Yx]at h1;subst h1;rw[b]at f;cases f;exact absurd ⟨a.symm,rfl⟩ h;rintro (h1|⟨h1,d,b,a⟩);exact .inl h1;exact .inr ⟨Gu _ h1,d,b,a⟩
omit I in
theorem Qu0(T)(A)(p i):jL T A [] p i=zz T A p i:=by simp[jL]
theorem Qu1{A}(y:yx T A){a g}{k}{c:Ql}(r:up T a=k++up T g)(v:Qw T g=some c)(t:∀i∈k++[g],Jm T A i=false)(he:c.parent=0\/Jm T A c.parent=true):
  k++[g]=VH T A a/\∀p i,jL T A (k++[g]) p i=zz T (a::A) p i:=by
 have l:up T a=(k++[g])++up T c.parent:=by rw[r,Vf I v];simp
 have o:∀j∈up T c.parent,Jm T A j=true:=λj n=>by
  rcases he with he|he;rw[he,Hi I]at n;cases n;exact LJ I he n
 refine⟨?_,λp i=>?_⟩;unfold VH;rw[l,m6 (λi u=>by rw[t i u];rfl)];have:(up T c.parent).takeWhile (λi=>!Jm T A i)=[]:=by
  cases s:up T c.parent with
  | nil=>rfl
  | cons x q=>rw[RJ,o x (by rw[s];simp)];rfl
 rw[this,JS];rw[vF,S6 I,xB (A:=a::A)];have m:∀j,Jm T (a::A) j=true↔j∈up T a\/Jm T A j=true:=λj=>by
  rw[Yj,Yj];simp
 constructor;rintro (h|⟨w,d,f,e⟩);obtain⟨d,f,e,b⟩:=xB.1 h;exact⟨d,f,e,(m i).2 (.inr b)⟩;exact⟨d,f,e,(m i).2 (.inl (by rw[l];exact Gu _ w))⟩;rintro⟨d,f,e,b⟩;rcases (m i).1 b with b|b;rw[l]at b;rcases Q1.1 b with b|b;exact .inr ⟨b,d,f,e⟩;exact .inl (xB.2 ⟨d,f,e,o i b⟩);exact .inl (xB.2 ⟨d,f,e,b⟩)
end
def J6(A:List Int)(b:Int):List Int:=A.filter λa=>a != b
section
variable {T:List Ql}(I:JQ T)
def LK{A}{b}(e:b∈A)(j):Jm T A j=true↔j∈up T b\/Jm T (J6 A b) j=true:=by
 rw[Yj,Yj];constructor;rintro⟨a,d,c⟩;by_cases h:a=b;subst h;exact .inl c;exact .inr ⟨a,Jt.2 ⟨d,by simpa using h⟩,c⟩;rintro (h|⟨a,d,c⟩);exact⟨b,e,h⟩;exact⟨a,(Jt.1 d).1,c⟩
def yx.off{A}(h:yx T A)(b):yx T (J6 A b):=λa c=>h a (Jt.1 c).1
def OR{A a}{p i}:kZ T A a p i=true↔zz T A p i=true/\i ∉ a:=by simp[kZ]
include I
theorem Qgm{A}(E:yx T A){b j}(t:b∈A){l}{c:Ql}(z:up T b=l++up T j)(u:Qw T j=some c)(B:∀i∈l++[j],Jm T (J6 A b) i=false)(H:c.parent≠0):
  (∃i,kZ T A (l++[j]) c.parent i=true)↔Jm T (J6 A b) c.parent=true:=by
 have x:up T b=(l++[j])++up T c.parent:=by rw[z,Vf I u];simp
 obtain⟨d,m,w⟩:=I.J9 c (yw I u) H;constructor;rintro⟨i,C⟩;obtain⟨r,q⟩:=OR.1 C;obtain⟨e,p,k,o⟩:=xB.1 r;have J:c.parent∈up T i:=by rw[Vf I p,k];exact J8 _ (XJ I m)
 rcases (LK t i).1 o with g|g;exfalso;rw[x]at g;rcases Q1.1 g with g|g;exact q g;have s:=Fi I i;rw[Vf I p,k,ZV]at s;exact s.1 g;exact LJ I g J;intro h;obtain⟨a,v,y⟩:=Yj.1 h;obtain⟨e,r,q,p⟩:=E.off b a v;have K:a≠c.parent:=by rintro rfl;rw[r]at m;cases m;rw[q]at w;cases w
 obtain⟨i,f,k,o,g⟩:=fZ I y K;have n:Jm T (J6 A b) i=true:=Yj.2 ⟨a,v,k⟩;refine⟨i,OR.2 ⟨xB.2 ⟨f,o,g,(LK t i).2 (.inr n)⟩,λF=>?_⟩⟩;rw[B i F]at n;cases n
theorem Qu2{A}{a e}(r:a∈A){g}{c:Ql}(t:up T a=g++up T e)(w:Qw T e=some c)(o:∀i∈g++[e],Jm T (J6 A a) i=false)(he:c.parent=0\/Jm T (J6 A a) c.parent=true):
  g++[e]=VH T (J6 A a) a/\∀p i,kZ T A (g++[e]) p i=zz T (J6 A a) p i:=by
 have n:up T a=(g++[e])++up T c.parent:=by rw[t,Vf I w];simp
 have s:∀j∈up T c.parent,Jm T (J6 A a) j=true:=λj h=>by
  rcases he with he|he;rw[he,Hi I]at h;cases h;exact LJ I he h
 refine⟨?_,λp i=>?_⟩;unfold VH;rw[n,m6 (λi v=>by rw[o i v];rfl)];have:(up T c.parent).takeWhile (λi=>!Jm T (J6 A a) i)=[]:=by
  cases u:up T c.parent with
  | nil=>rfl
  | cons x q=>rw[RJ,s x (by rw[u];simp)];rfl
 rw[this,JS];rw[vF,OR,xB,xB];constructor;rintro⟨⟨d,m,l,f⟩,k⟩;refine⟨d,m,l,?_⟩;rcases (LK r i).1 f with b|b;rw[n]at b;rcases Q1.1 b with b|b;exact absurd b k;exact s i b;exact b;rintro⟨d,m,l,f⟩;refine⟨⟨d,m,l,(LK r i).2 (.inr f)⟩,λk=>?_⟩;rw[o i k]at f;cases f
end
@[go_sem] def u64(n:Nat):D:=.raw (.int .u64 n)
@[go_sem] theorem wl0:IntKind.i64.wrap 0=0:=π
@[go_sem] theorem wl1:IntKind.i64.wrap 1=1:=π
@[go_sem] theorem wl2:IntKind.i64.wrap 2=2:=π
@[go_sem] theorem wl3:IntKind.i64.wrap 3=3:=π
@[go_sem] theorem wl4:IntKind.i64.wrap 4=4:=π
def never:Nat:=9223372036854775808
attribute [go_sem] Go.undef
def AF(a b:Nat):IntKind.u64.wrap ((a:Int)+(b:Int))=(((a+b)%18446744073709551616:Nat):Int):=η
def LL(a b:Nat):IntKind.u64.wrap ((a:Int)*(b:Int))=((a*b%18446744073709551616:Nat):Int):=by rw[IntKind.wrap_u64,<- Bg];omega
def rD(a b:Nat)(h:b<=18446744073709551616):IntKind.u64.wrap ((a:Int)-(b:Int))=(((a+18446744073709551616-b)%18446744073709551616:Nat):Int):=η
def S8(a b:Nat)(h:b<=a)(c:a<18446744073709551616):IntKind.u64.wrap ((a:Int)-(b:Int))=((a-b:Nat):Int):=η
def Qgn(a b:Nat)(h:a+b<18446744073709551616):IntKind.u64.wrap ((a:Int)+(b:Int))=((a+b:Nat):Int):=η
def S9(a b:Nat)(h:a*b<18446744073709551616):IntKind.u64.wrap ((a:Int)*(b:Int))=((a*b:Nat):Int):=by rw[LL,qW h]
def LM(a s:Nat):((a:Int).fdiv (2^s))=((a/2^s:Nat):Int):=by
 have h:((2:Int)^s)=((2^s:Nat):Int):=σ;rw[h,Int.fdiv_eq_ediv_of_nonneg _ (Int.natCast_nonneg _),Int.natCast_ediv]
def Qu3(a:Nat)(b:a<18446744073709551616):bits .and .u64 (a:Int) 4294967295=((a%4294967296:Nat):Int):=by
 have:=u64_and_nat a 4294967295 b π;rw[show ((4294967295:Nat):Int)=4294967295 from rfl]at this;rw[this,show (4294967295:Nat)=2^32-1 from rfl,Nat.and_two_pow_sub_one_eq_mod]
def Qu4(x y:Nat)(b:x<4294967296)(a:y<4294967296):bits .or .u64 ((x*4294967296:Nat):Int) (y:Int)=((x*4294967296+y:Nat):Int):=by
 rw[u64_or_nat _ _ ω ω,nat_join 32 _ _ (by rw[show (2:Nat)^32=4294967296 from rfl];omega) (by simpa using a)]
def OS(a)(b:a<18446744073709551616):a/9223372036854775808=0\/a/9223372036854775808=1:=ω
def gh(a b)(d:a<18446744073709551616)(c:b<18446744073709551616):(a &&& b)/9223372036854775808=(a/9223372036854775808) &&& (b/9223372036854775808):=by
 rw[show (9223372036854775808:Nat)=2^63 from rfl,<- Eo,Nat.shiftRight_and_distrib,Eo,Eo]
def rE(a b)(d:a<18446744073709551616)(c:b<18446744073709551616):(a ||| b)/9223372036854775808=(a/9223372036854775808) ||| (b/9223372036854775808):=by
 rw[show (9223372036854775808:Nat)=2^63 from rfl,<- Eo,Nat.shiftRight_or_distrib,Eo,Eo]
def rF(a b)(d:a<18446744073709551616)(c:b<18446744073709551616):(a ^^^ b)/9223372036854775808=(a/9223372036854775808) ^^^ (b/9223372036854775808):=by
 rw[show (9223372036854775808:Nat)=2^63 from rfl,<- Eo,Nat.shiftRight_xor_distrib,Eo,Eo]
def Qu5(a b c x y z u v)(i:a<18446744073709551616)(h:b<18446744073709551616)(k:c<2)(j:u=(a+18446744073709551616-b+18446744073709551616-c)%18446744073709551616)
  (g:x=a/9223372036854775808) (f:y=b/9223372036854775808) (e:z=u/9223372036854775808) (d:v=(1 ^^^ x) &&& y ||| ((1 ^^^ (x ^^^ y)) &&& z)):v=if a<b+c then 1 else 0:=by
 have h1:=OS a i;have h2:=OS b h;have h3:=OS u ω;rw[<- g]at h1;rw[<- f]at h2;rw[<- e]at h3;rcases h1 with h1|h1<;>rcases h2 with h2|h2<;>rcases h3 with h3|h3<;>(rw[h1,h2,h3]at d;simp at d;subst d;split<;>omega)
def Qu6(a b c x y z u v)(i:a<18446744073709551616)(h:b<18446744073709551616)(k:c<2)(j:u=(a+b+c)%18446744073709551616)
  (g:x=a/9223372036854775808) (f:y=b/9223372036854775808) (e:z=u/9223372036854775808) (d:v=x &&& y ||| ((x ||| y) &&& (1-z))):v=if 18446744073709551616<=a+b+c then 1 else 0:=by
 have h1:=OS a i;have h2:=OS b h;have h3:=OS u ω;rw[<- g]at h1;rw[<- f]at h2;rw[<- e]at h3;rcases h1 with h1|h1<;>rcases h2 with h2|h2<;>rcases h3 with h3|h3<;>(rw[h1,h2,h3]at d;simp at d;subst d;split<;>omega)
end Go.Fg.X
namespace Go.Fg.X
open Go.Proofs Go.Fg
structure It where
 ka:Nat
 ki:Int
 va:Nat
 vi:Int
deriving DecidableEq
instance:Inhabited It:=⟨⟨0,0,0,0⟩⟩
@[go_sem] def It.cells(x:It):List D:=[u64 x.ka,Qa x.ki,u64 x.va,Qa x.vi]
def Ko(a:Nat)(i:Int)(b:Nat)(j:Int):Prop:=a<b\/(a=b/\i<j)
instance (a:Nat) (i:Int) (b:Nat) (j:Int):Decidable (Ko a i b j):=inferInstanceAs (Decidable (_\/_))
def It.lt(x y:It):Prop:=Ko x.ka x.ki y.ka y.ki
instance (x y:It):Decidable (x.lt y):=inferInstanceAs (Decidable (Ko _ _ _ _))
def zA(a:Nat)(i:Int)(b:Nat)(j:Int):Int:=if a=b/\i=j then 0 else if Ko a i b j then -1 else 1
def jM(a b:It):It:=if zA b.va b.vi a.va a.vi<0\/(zA b.va b.vi a.va a.vi=0/\zA b.ka b.ki a.ka a.ki<0) then b else a
inductive Tr where
 | nil
 | node (loc:Nat) (it:It) (l r:Tr)
deriving Inhabited
namespace Tr
def list:Tr->List It
 | .nil=>[]
 | .node _ a l r=>l.list++a::r.list
def QP:Tr->List Nat
 | .nil=>[]
 | .node a _ l r=>a::(l.QP++r.QP)
def high:Tr->Nat
 | .nil=>0
 | .node _ _ l r=>1+max l.high r.high
def size:Tr->Nat
 | .nil=>0
 | .node _ _ l r=>1+l.size+r.size
def ptr:Tr->D
 | .nil=>.raw (.pointer none)
 | .node a _ _ _=>.ptr a 0 0 0
@[go_sem] theorem Ta:Tr.nil.ptr=.raw (.pointer none):=rfl
@[go_sem] theorem LN(a)(b)(l r:Tr):(Tr.node a b l r).ptr=.ptr a 0 0 0:=rfl
@[go_sem] theorem QH0(t:Tr):Yf t.ptr=some [t.ptr]:=by cases t<;>rfl
@[go_sem] theorem QH1(t:Tr):t.ptr.Vh=true:=by cases t<;>rfl
@[go_sem] theorem QH2(t:Tr):XW t.ptr t.ptr=True:=by cases t<;>simp[XW,ptr]
def least:Tr->It
 | .nil=>default
 | .node _ e l r=>match l,r with
  | .nil,.nil=>e
  | .nil,.node a b c d=>jM e (least (.node a b c d))
  | .node a b c d,.nil=>jM e (least (.node a b c d))
  | .node a b c d,.node i h g f=>jM (jM e (least (.node a b c d))) (least (.node i h g f))
def B1:∀t:Tr,t.list.length=t.size
 | .nil=>rfl
 | .node _ _ l r=>by simp only[list,size,Zk,Kw,B1 l,B1 r];omega
def OT:∀t:Tr,t.high<=t.size
 | .nil=>QB _
 | .node _ _ l r=>by have:=OT l;have:=OT r;simp only[high,size];omega
end Tr
@[go_sem] def Qu7(b:It)(p q:D)(a:It)(c n:Int):List D:=[u64 b.ka,Qa b.ki,u64 b.va,Qa b.vi,p,q,u64 a.ka,Qa a.ki,u64 a.va,Qa a.vi,Qa c,Qa n]
@[go_sem] def Fk(b:It)(p q:D)(a:It)(c n:Int):Ob:=⟨.one,0,12,1,λ_=>Qu7 b p q a c n⟩
def Vl(h:List Ob):Tr->Prop
 | .nil=>True
 | .node a b l r=>h[a]?=some (Fk b l.ptr r.ptr (Tr.node a b l r).least ((Tr.node a b l r).high:Nat) ((Tr.node a b l r).size:Nat))/\Vl h l/\Vl h r
def Vl.frame{h b:List Ob}:∀{t:Tr},Vl h t->(∀l∈t.QP,b[l]? = h[l]?)->Vl b t
 | .nil,_,_=>trivial
 | .node a g l r,⟨f,d,c⟩,e=>⟨by rw[e a (by simp[Tr.QP])];exact f,d.frame λx hx=>e x (by simp[Tr.QP,hx]),c.frame λx hx=>e x (by simp[Tr.QP,hx])⟩
def Vl.lt{h:List Ob}:∀{t:Tr},Vl h t->∀l∈t.QP,l<h.length
 | .nil,_,l,a=>by cases a
 | .node e f l r,⟨d,c,b⟩,x,hx=>by
  simp only[Tr.QP,QK,Q1]at hx;rcases hx with rfl|hx|hx;exact KA d;exact c.lt x hx;exact b.lt x hx
def z7(h:List Ob):Tr->Prop
 | .nil=>True
 | .node a b l r=>(h.map Ob.ro)[a]?=some (Fk b l.ptr r.ptr (Tr.node a b l r).least ((Tr.node a b l r).high:Nat) ((Tr.node a b l r).size:Nat)).ro/\z7 h l/\z7 h r
def Vl.toR{h}:∀{t:Tr},Vl h t->z7 h t
 | .nil,_=>trivial
 | .node _ _ _ _,⟨c,b,a⟩=>⟨Z4 c,b.toR,a.toR⟩
def z7.more{h h':List Ob}(e:∀(l:Nat) (o:Ob),(h.map Ob.ro)[l]?=some o->(h'.map Ob.ro)[l]?=some o):∀{t:Tr},z7 h t->z7 h' t
 | .nil,_=>trivial
 | .node _ _ _ _,⟨c,b,a⟩=>⟨e _ _ c,b.more e,a.more e⟩
def Hl{h F g:List Ob}(b:F=h.map Ob.ro)(l:Nat)(o:Ob)(e:(h.map Ob.ro)[l]?=some o):((F++g).map Ob.ro)[l]?=some o:=by
 subst b;have c:l<(h.map Ob.ro).length:=KA e;rw[ju,JJ (by simpa using c),Gt];rw[KL]at e ⊢;cases a:h[l]? with
 | none=>rw[a]at e;cases e
 | some u=>rw[a]at e;cases e;simp[ro_ro]
structure jN (h:List Ob) (t:Tr) (L:List It) (h':List Ob) (t':Tr):Prop where
 is:Vl h' t'
 list:t'.list=L
 nd:t'.QP.Nodup
 mem:∀l∈t'.QP,l∈t.QP\/h.length<=l
 keep:∀l,l<h.length->l ∉ t.QP->h'[l]? = h[l]?
 len:h.length<=h'.length
def jN.refl{h}{t:Tr}(i:Vl h t)(n:t.QP.Nodup):jN h t t.list h t:=⟨i,rfl,n,λ_ h=>.inl h,λ_ _ _=>rfl,QB _⟩
def jN.trans{h h' g}{t e c}{L i}(a:jN h t L h' e)(b:jN h' e i g c):jN h t i g c:=
 ⟨b.is,b.list,b.nd,λl d=>by
  rcases b.mem l d with h1|h1;exact a.mem l h1;exact .inr (JY a.len h1),λl d f=>by
  rw[b.keep l (vJ d a.len) λh1=>by
   rcases a.mem l h1 with h2|h2;exact f h2;omega]
  exact a.keep l d f,JY a.len b.len⟩
def It.qa(x y:It):Prop:=Ko x.va x.vi y.va y.vi\/(x.va=y.va/\x.vi=y.vi/\Ko x.ka x.ki y.ka y.ki)
instance (x y:It):Decidable (x.qa y):=inferInstanceAs (Decidable (_\/_))
def B2(a)(i):¬ Ko a i a i:=by unfold Ko;omega
def Hm{a}{i}{b}{j}{c}{k}(h:Ko a i b j)(d:Ko b j c k):Ko a i c k:=by unfold Ko at *;omega
def OU(a)(i)(b)(j):Ko a i b j\/(a=b/\i=j)\/Ko b j a i:=by unfold Ko;omega
def rG{a}{i}{b}{j}:zA a i b j<0↔Ko a i b j:=by
 unfold zA;by_cases h:a=b/\i=j;rw[Qd h];obtain⟨rfl,rfl⟩:=h;exact⟨λh=>ω,λh=>absurd h (B2 _ _)⟩;rw[Qc h];by_cases c:Ko a i b j;rw[Qd c];exact⟨λ_=>c,λ_=>ω⟩;rw[Qc c];exact⟨λh=>ω,λh=>absurd h c⟩
def Qgo{a}{i}{b}{j}:zA a i b j=0↔a=b/\i=j:=by
 unfold zA;by_cases h:a=b/\i=j;rw[Qd h];exact⟨λ_=>h,λ_=>rfl⟩;rw[Qc h];by_cases d:Ko a i b j;rw[Qd d];exact⟨λh=>ω,λc=>absurd c h⟩;rw[Qc d];exact⟨λh=>ω,λc=>absurd c h⟩
def Qu8{a}{i}{b}{j}:0<zA a i b j↔Ko b j a i:=by
 have e:=@rG a i b j;have d:=@Qgo a i b j;have h3:=OU a i b j;constructor;intro h;rcases h3 with h3|h3|h3;have:=e.2 h3;omega;have:=d.2 h3;omega;exact h3;intro h;have g:¬ zA a i b j<0:=λc=>B2 _ _ (Hm h (e.1 c));have f:¬ zA a i b j=0:=λc=>by obtain⟨rfl,rfl⟩:=d.1 c;exact B2 _ _ h
 omega
def Qgp(a b:It):jM a b=if b.qa a then b else a:=by
 have h:(zA b.va b.vi a.va a.vi<0\/(zA b.va b.vi a.va a.vi=0/\zA b.ka b.ki a.ka a.ki<0))↔b.qa a:=by
  rw[rG,Qgo,rG,It.qa,and_assoc]
 unfold jM;by_cases c:b.qa a;rw[Qd (h.2 c),Qd c];rw[Qc (λd=>c (h.1 d)),Qc c]
def Td(a:It):¬ a.qa a:=λh=>by
 rcases h with h|⟨_,_,h⟩<;>exact B2 _ _ h
def Qgq{a b c:It}(h:a.qa b)(d:b.qa c):a.qa c:=by
 rcases h with h|⟨i,g,h⟩<;>rcases d with d|⟨f,e,d⟩;exact .inl (Hm h d);exact .inl (by rw[<- f,<- e];exact h);exact .inl (by rw[i,g];exact d);exact .inr ⟨i.trans f,g.trans e,Hm h d⟩
def Qgr(a b:It):a.qa b\/a=b\/b.qa a:=by
 rcases OU a.va a.vi b.va b.vi with h|⟨d,c⟩|h;exact .inl (.inl h);rcases OU a.ka a.ki b.ka b.ki with h|⟨f,e⟩|h;exact .inl (.inr ⟨d,c,h⟩);refine .inr (.inl ?_);cases a;cases b;simp_all;exact .inr (.inr (.inr ⟨d.symm,c.symm,h⟩));exact .inr (.inr (.inl h))
def Qgs(a b:It):(jM a b=a/\¬ b.qa a)\/(jM a b=b/\b.qa a):=by
 rw[Qgp];by_cases h:b.qa a;rw[Qd h];exact .inr ⟨rfl,h⟩;rw[Qc h];exact .inl ⟨rfl,h⟩
def Qu9(a b:It):¬ a.qa (jM a b)/\¬ b.qa (jM a b):=by
 rcases Qgs a b with ⟨e,h⟩|⟨e,h⟩<;>rw[e];exact⟨Td _,h⟩;exact⟨λc=>Td _ (Qgq h c),Td _⟩
structure V7 (x:It) (L:List It):Prop where
 mem:x∈L
 le:∀y∈L,¬ y.qa x
def V7.uniq{x y}{L}(a:V7 x L)(b:V7 y L):x=y:=by
 rcases Qgr x y with h|h|h;exact absurd h (b.le x a.mem);exact h;exact absurd h (a.le y b.mem)
def V7.one(x):V7 x [x]:=⟨σ,λy a=>by simp only[Yx]at a;subst a;exact Td _⟩
def V7.join{x y}{L M}(a:V7 x L)(b:V7 y M):V7 (jM x y) (L++M):=by
 obtain⟨i,f⟩:=Qu9 x y;have d:∀{p q r:It},¬ p.qa q->¬ q.qa r->¬ p.qa r:=λ{p q r} h f g=>by
  rcases Qgr q p with c|c|c;exact f (Qgq c g);subst c;exact f g;exact h c
 refine⟨?_,λz hz=>?_⟩;rcases Qgs x y with ⟨e,_⟩|⟨e,_⟩<;>rw[e];exact Gu _ a.mem;exact NA _ b.mem;rcases Q1.1 hz with hz|hz;exact d (a.le z hz) i;exact d (b.le z hz) f
def V7.perm{x:It}{L M}(a:V7 x L)(h:∀y,y∈M↔y∈L):V7 x M:=⟨(h x).2 a.mem,λy b=>a.le y ((h y).1 b)⟩
def Tr.OV:∀(t:Tr),t≠.nil->V7 t.least t.list
 | .nil,h=>absurd rfl h
 | .node _ e .nil .nil,_=>V7.one e
 | .node _ e .nil (.node a b c d),_=>by
  have:=Tr.OV (.node a b c d) σ;exact((V7.one e).join this).perm λy=>by simp[Tr.list]
 | .node _ e (.node a b c d) .nil,_=>by
  have:=Tr.OV (.node a b c d) σ;exact((V7.one e).join this).perm λy=>by simp[Tr.list];constructor<;>(intro h;rcases h with h|h|h|h<;>simp[h])
 | .node _ e (.node a b c d) (.node l k j i),_=>by
  have g:=Tr.OV (.node a b c d) σ;have f:=Tr.OV (.node l k j i) σ;refine(((V7.one e).join g).join f).perm λy=>?_;simp only[Tr.list,Q1,QK];grind
end Go.Fg.X
namespace Go.Fg.X
open Go.Proofs Go.Fg
open Go.Proofs.Tryz
def Vm(L:List It):Prop:=L.Pairwise It.lt
def It.lt_trans{a b c:It}(h:a.lt b)(d:b.lt c):a.lt c:=Hm h d
def Fl{L M}{x:It}:Vm (L++x::M)↔Vm L/\Vm M/\(∀y∈L,y.lt x)/\(∀y∈M,x.lt y):=by
 unfold Vm;rw[aY,Aa];constructor;rintro⟨g,⟨f,d⟩,c⟩;exact⟨g,d,λy i=>c y i x σ,f⟩;rintro⟨g,f,d,c⟩;refine⟨g,⟨c,f⟩,λa h b e=>?_⟩;rcases QK.1 e with rfl|e;exact d a h;exact It.lt_trans (d a h) (c b e)
def B3(a:Nat)(i:Int)(x:It):Bool:=x.ka==a&&x.ki==i
def YJ(a:Nat)(i:Int)(L:List It):Option It:=L.find? (B3 a i)
def Yk(x:It):List It->List It
 | []=>[x]
 | y::r=>if y.lt x then y::Yk x r else x::y::r
def Xt(a:Nat)(i:Int)(L:List It):List It:=L.filter λx=>!B3 a i x
def xD{a}{i}{x:It}:B3 a i x=true↔x.ka=a/\x.ki=i:=by simp[B3]
def Qgu(a)(i)(L M)(x)(m:Vm (L++x::M)):
  YJ a i (L++x::M)=if x.ka=a/\x.ki=i then some x else if Ko x.ka x.ki a i then YJ a i M else YJ a i L:=by
 obtain⟨_,_,o,n⟩:=Fl.1 m;unfold YJ;rw[List.find?_append,km];have k:(x.ka=a/\x.ki=i)\/Ko x.ka x.ki a i->L.find? (B3 a i)=none:=λh=>by
  rw[js];intro y f d;obtain⟨j,g⟩:=xD.1 d;have b:Ko y.ka y.ki x.ka x.ki:=o y f;rw[j,g]at b;rcases h with ⟨rfl,rfl⟩|h;exact B2 _ _ b;exact B2 _ _ (Hm h b)
 have l:Ko a i x.ka x.ki->M.find? (B3 a i)=none:=λh=>by
  rw[js];intro y f d;obtain⟨j,g⟩:=xD.1 d;have b:Ko x.ka x.ki y.ka y.ki:=n y f;rw[j,g]at b;exact B2 _ _ (Hm h b)
 by_cases c:x.ka=a/\x.ki=i;rw[Qd c,xD.2 c,k (.inl c)];rfl;have d:B3 a i x=false:=by rw[X9];exact λh=>c (xD.1 h)
 rw[Qc c,d];by_cases e:Ko x.ka x.ki a i;rw[Qd e,k (.inr e)];rfl;rw[Qc e,l (by rcases OU x.ka x.ki a i with h|h|h;exact absurd h e;exact absurd h c;exact h)];simp
def Qva(y:It)(L M)(x:It)(d:Vm (L++x::M))(e:¬ (x.ka=y.ka/\x.ki=y.ki)):
  Yk y (L++x::M)=if x.lt y then L++x::Yk y M else Yk y L++x::M:=by
 obtain⟨_,_,a,f⟩:=Fl.1 d;by_cases h:x.lt y;rw[Qd h];have:∀l:List It,(∀z∈l,z.lt y)->Yk y (l++x::M)=l++x::Yk y M:=by
  intro l a;induction l with
  | nil=>simp only[zR,Yk,Qd h]
  | cons z l b=>simp only[YT,Yk,Qd (a z σ),b λw c=>a w (by simp[c])]
 exact this L λz hz=>It.lt_trans (a z hz) h;rw[Qc h];have:∀l:List It,Yk y (l++x::M)=Yk y l++x::M:=by
  intro l;induction l with
  | nil=>simp only[zR,Yk,Qc h,YT]
  | cons z l b=>
   simp only[YT,Yk];split;rw[b,YT];simp only[YT]
 exact this L
def Qgv(a)(i)(L M)(x)(n:Vm (L++x::M)):
  Xt a i (L++x::M)=if x.ka=a/\x.ki=i then L++M else if Ko x.ka x.ki a i then L++x::Xt a i M else Xt a i L++x::M:=by
 obtain⟨_,_,p,o⟩:=Fl.1 n;have keep:∀l:List It,(∀y∈l,¬ (y.ka=a/\y.ki=i))->Xt a i l=l:=λl h=>by
  unfold Xt;rw[y9];intro y e;have:=h y e;rw[qv,X9];exact λd=>this (xD.1 d)
 have j:Xt a i (L++x::M)=Xt a i L++Xt a i (x::M):=by unfold Xt;rw[Ih]
 have m:(x.ka=a/\x.ki=i)\/Ko x.ka x.ki a i->Xt a i L=L:=λh=>keep L λy e ⟨g,f⟩=>by
  have b:Ko y.ka y.ki x.ka x.ki:=p y e;rw[g,f]at b;rcases h with ⟨rfl,rfl⟩|h;exact B2 _ _ b;exact B2 _ _ (Hm h b)
 have k:(x.ka=a/\x.ki=i)\/Ko a i x.ka x.ki->Xt a i M=M:=λh=>keep M λy e ⟨g,f⟩=>by
  have b:Ko x.ka x.ki y.ka y.ki:=o y e;rw[g,f]at b;rcases h with ⟨rfl,rfl⟩|h;exact B2 _ _ b;exact B2 _ _ (Hm h b)
 rw[j];by_cases c:x.ka=a/\x.ki=i;have hx:Xt a i (x::M)=Xt a i M:=by unfold Xt;rw[wR,xD.2 c];rfl
 rw[Qd c,m (.inl c),hx,k (.inl c)];have q:B3 a i x=false:=by rw[X9];exact λh=>c (xD.1 h)
 have hx:Xt a i (x::M)=x::Xt a i M:=by unfold Xt;rw[wR,q];rfl
 rw[Qc c,hx];by_cases d:Ko x.ka x.ki a i;rw[Qd d,m (.inr d)];rw[Qc d,k (.inr (by rcases OU x.ka x.ki a i with h|h|h;exact absurd h d;exact absurd h c;exact h))]
def Hn{y x}:∀{L:List It},x∈Yk y L↔x=y\/x∈L
 | []=>by simp[Yk]
 | z::L=>by
  simp only[Yk];split;rw[QK,Hn,QK];grind;rw[QK]
def rH{y:It}:∀{L:List It},Vm L->YJ y.ka y.ki L=none->Vm (Yk y L)
 | [],_,_=>by simp[Yk,Vm]
 | z::L,e,a=>by
  obtain⟨f,g⟩:=Aa.1 e;unfold YJ at a;rw[km]at a;cases c:B3 y.ka y.ki z with
  | true=>rw[c]at a;cases a
  | false=>
   rw[c]at a;have i:¬ (z.ka=y.ka/\z.ki=y.ki):=λh=>by rw[xD.2 h]at c;cases c
   simp only[Yk];split;rename_i d;refine Aa.2 ⟨λw hw=>?_,rH g a⟩;rcases Hn.1 hw with rfl|hw;exact d;exact f w hw;rename_i d;have b:y.lt z:=by
    rcases OU z.ka z.ki y.ka y.ki with h|h|h;exact absurd h d;exact absurd h i;exact h
   refine Aa.2 ⟨λw hw=>?_,e⟩;rcases QK.1 hw with rfl|hw;exact b;exact It.lt_trans b (f w hw)
def Qvc{a}{i}{L}(h:Vm L):Vm (Xt a i L):=Nw _ h
def Tr.B4(a:Nat)(i:Int)(f:Tr->List It):Tr->List It
 | .nil=>f .nil
 | .node c b l r=>if b.ka=a/\b.ki=i then f (.node c b l r) else if Ko b.ka b.ki a i then l.list++b::r.B4 a i f else l.B4 a i f++b::r.list
def rI{y:It}{f}(e:f .nil=[y]):∀(t:Tr),Vm t.list->YJ y.ka y.ki t.list=none->t.B4 y.ka y.ki f=Yk y t.list
 | .nil,_,_=>e
 | .node j b l r,c,a=>by
  obtain⟨i,h,_,_⟩:=Fl.1 c;simp only[Tr.list]at c a ⊢;rw[Qgu _ _ _ _ _ c]at a;rw[Tr.B4];by_cases g:b.ka=y.ka/\b.ki=y.ki;rw[Qd g]at a;cases a;rw[Qc g]at a ⊢;rw[Qva y _ _ _ c g];by_cases d:Ko b.ka b.ki y.ka y.ki;rw[Qd d]at a ⊢;rw[Qd (show b.lt y from d),rI e r h a];rw[Qc d]at a ⊢;rw[Qc (show ¬ b.lt y from d),rI e l i a]
def Tr.LO:Tr->List It
 | .nil=>[]
 | .node _ _ l r=>l.list++r.list
def gi{a}{i}:∀(t:Tr),Vm t.list->t.B4 a i Tr.LO=Xt a i t.list
 | .nil,_=>rfl
 | .node h b l r,e=>by
  obtain⟨g,f,_,_⟩:=Fl.1 e;simp only[Tr.list]at e ⊢;rw[Qgv _ _ _ _ _ e,Tr.B4];by_cases d:b.ka=a/\b.ki=i;rw[Qd d,Qd d];rfl;rw[Qc d,Qc d];by_cases c:Ko b.ka b.ki a i;rw[Qd c,Qd c,gi r f];rw[Qc c,Qc c,gi l g]
def Tr.find(a:Nat)(i:Int):Tr->Tr
 | .nil=>.nil
 | .node c b l r=>if b.ka=a/\b.ki=i then .node c b l r else if Ko b.ka b.ki a i then r.find a i else l.find a i
def Tr.item:Tr->Option It
 | .nil=>none
 | .node _ a _ _=>some a
def Tr.Te{a}{i:Int}:∀(t:Tr),Vm t.list->(t.find a i).item=YJ a i t.list
 | .nil,_=>rfl
 | .node h b l r,e=>by
  obtain⟨g,f,_,_⟩:=Fl.1 e;simp only[Tr.list]at e ⊢;rw[Qgu _ _ _ _ _ e,Tr.find];by_cases d:b.ka=a/\b.ki=i;rw[Qd d,Qd d];rfl;rw[Qc d,Qc d];by_cases c:Ko b.ka b.ki a i;rw[Qd c,Qd c,Tr.Te r f];rw[Qc c,Qc c,Tr.Te l g]
def Tr.hasB(e:Nat):Tr->Bool
 | .nil=>false
 | .node a b c d=>decide ((Tr.node a b c d).least.va<=e)
def V7.va{x y:It}{L}(h:V7 x L)(a:y∈L):x.va<=y.va:=by
 have:=h.le y a;unfold It.qa Ko at this;omega
def Tr.Tf(e):∀t:Tr,t.hasB e=true↔∃x∈t.list,x.va<=e
 | .nil=>by simp[Tr.hasB,Tr.list]
 | .node a b c d=>by
  have h:=Tr.OV (.node a b c d) σ;simp only[Tr.hasB,Xo];constructor;intro g;exact⟨_,h.mem,g⟩;rintro⟨x,hx,f⟩;exact JY (h.va hx) f
def Tr.first(a:Nat):Tr->Option It
 | .nil=>none
 | .node _ b l r=>if l.hasB a then l.first a else if b.va<=a then some b else r.first a
def Tr.gj(a):∀t:Tr,t.first a=t.list.find? λx=>decide (x.va<=a)
 | .nil=>rfl
 | .node _ d l r=>by
  simp only[Tr.first,Tr.list];rw[List.find?_append,km];by_cases h:l.hasB a=true;rw[Qd h,Tr.gj a l];obtain⟨x,hx,c⟩:=(Tr.Tf a l).1 h;cases f:l.list.find? λx=>decide (x.va<=a) with
  | some y=>rfl
  | none=>exact absurd c (by simpa using js.1 f x hx)
  rw[Qc h,Tr.gj a r];have e:l.list.find? (λx=>decide (x.va<=a))=none:=by
   rw[js];intro x hx c;exact h ((Tr.Tf a l).2 ⟨x,hx,by simpa using c⟩)
  rw[e,Option.none_or];by_cases b:d.va<=a;rw[Qd b,QS b];rw[Qc b,QG b]
def Tr.Fm:Tr->It
 | .nil=>default
 | .node _ e l _=>match l with
  | .nil=>e
  | .node a b c d=>Tr.Fm (.node a b c d)
def Tr.rJ:∀t:Tr,t≠.nil->t.list.head? = some t.Fm
 | .nil,h=>absurd rfl h
 | .node _ e .nil r,_=>rfl
 | .node _ e (.node a b c d) r,_=>by
  have:=Tr.rJ (.node a b c d) σ;simp only[Tr.list,Tr.Fm,List.head?_append]at this ⊢;rw[this];rfl
def wh(o:Option It)(i:It):Option It:=match o with
 | none=>some i
 | some a=>some (jM a i)
def Tr.z8(e:Nat):Tr->Option It->Option It
 | .nil,o=>o
 | .node _ f l r,o=>if e<f.ka then l.z8 e o else r.z8 e (match l with
  | .nil=>wh o f
  | .node a b c d=>wh (wh o f) (Tr.node a b c d).least)
def yy(o:Option It)(L:List It):Prop:=match o with
 | none=>L=[]
 | some x=>V7 x L
def yy.take{o}{L}(h:yy o L){i}{M}(b:V7 i M):yy (wh o i) (L++M):=by
 cases o with
 | none=>simp only[yy]at h;subst h;exact b
 | some a=>exact V7.join h b
def yy.perm{o}{L M}(h:yy o L)(e:∀y,y∈M↔y∈L):yy o M:=by
 cases o with
 | none=>
  simp only[yy]at h ⊢;subst h;exact mZ.2 λy b=>by simpa using (e y).1 b
 | some a=>exact V7.perm h e
def Tr.Tg(e):∀(t:Tr) (o:Option It) (T:List It),Vm t.list->yy o T->yy (t.z8 e o) (T++t.list.filter λx=>decide (x.ka<=e))
 | .nil,o,T,_,h=>by simpa[Tr.z8,Tr.list] using h
 | .node _ g l r,o,T,m,h=>by
  obtain⟨k,i,q,n⟩:=Fl.1 (show Vm (l.list++g::r.list) from m);have f:∀{x y:It},x.lt y->x.ka<=y.ka:=λh=>by
   have h:Ko _ _ _ _:=h;unfold Ko at h;omega
  simp only[Tr.z8,Tr.list,Ih,wR];by_cases j:e<g.ka;rw[Qd j,QG ω];have p:r.list.filter (λx=>decide (x.ka<=e))=[]:=by
   rw[List.filter_eq_nil_iff];intro x hx;have:=f (n x hx);simp;omega
  rw[p];have:=Tr.Tg e l o T k h;simpa using this;rw[Qc j,QS ω];have s:l.list.filter (λx=>decide (x.ka<=e))=l.list:=by
   rw[y9];intro x hx;have:=f (q x hx);simp;omega
  rw[s];cases l with
  | nil=>
   have:=Tr.Tg e r _ _ i (h.take (V7.one g));simpa[Tr.list] using this
  | node a b c d=>
   have:=Tr.Tg e r _ _ i ((h.take (V7.one g)).take (Tr.OV (.node a b c d) σ));refine this.perm λy=>?_;simp only[Tr.list,Q1,QK,Jt,Vu];grind
end Go.Fg.X
