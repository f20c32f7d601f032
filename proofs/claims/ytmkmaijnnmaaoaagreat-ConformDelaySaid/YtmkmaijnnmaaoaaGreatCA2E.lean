/- Contracts and laws on the way to the statement. No conditions. -/
import Derived.Test.YtmkmaijnnmaaoaaGreatFgTellE
import Derived.Test.YtmkmaijnnmaaoaaGreatProg
import Derived.KernelRfl
import Derived.Deep.Slices
import Derived.ChangeArms
import Derived.OpenShut
import Derived.ProofKit
import Derived.ChangeOld
import Derived.Below
import Derived.WideShapes
import Derived.Laws.BytesString
import Derived.LoopN
import Derived.Shelf.Sort.Plain
import Derived.Shelf.Slices.In.SortNone
import Derived.Lib.SortBridge
import Derived.Laws.BitsAllLaws
set_option maxRecDepth 100000
set_option maxHeartbeats 16000000
set_option linter.unusedVariables false
set_option linter.unusedSimpArgs false
set_option linter.unusedSectionVars false
set_option linter.defProp false
namespace Go.Fg
open Go.RowKit (Below)
variable {Z:Nat->Prop}
def QF.DS{h M:List Ob}{K}{w}(m:∀(l:Nat) (o:Ob),h[l]? = some o->∃c,M[l]? = some c/\c.gen=o.gen/\c.sz=o.sz/\c.kd.ty=o.kd.ty){d}{v}(r:QF Z h K w d v):QF Z M K w d v:=by
 induction r with
 | cl d v O=>exact .cl d v O
 | ref l g H I o p a J u t y z s=>
  obtain⟨c,C,k,F,B⟩:=m l o u;exact .ref l g H I c p a J C t (by rw[B];exact y) (by rw[k];exact z) (λe=>by rw[F];exact s (by rw[e,k]))
 | ptr l g i j o p a u t y z s=>
  obtain⟨c,C,k,F,B⟩:=m l o u;exact .ptr l g i j c p a C t (by rw[B];exact y) (by rw[k];exact z) (λe=>by rw[F];exact s (by rw[e,k]))
 | mref l g o p b u t y z s=>
  obtain⟨c,C,k,F,B⟩:=m l o u;exact .mref l g c p b C t (by rw[B];exact y) (by rw[k];exact z) (λe=>s (by rw[e,k]))
 | clo f N E n x L q=>exact .clo f N E n x q
 | agg E n x L q=>exact .agg E n x q
 | tup E n x L q=>exact .tup E n x q
def Jc{h:List Ob}{l:Nat}{o:Ob}(e:h[l]? = some o):(h.map Ob.ro)[l]? = some o.ro:=by rw[KX,e];rfl
def Hv{h:List Ob}{l:Nat}{o:Ob}(e:(h.map Ob.ro)[l]? = some o):∃a,h[l]? = some a/\o=a.ro:=by
 rw[KX,WH]at e;obtain⟨a,c,b⟩:=e;exact⟨a,c,b.symm⟩
@[go_sem] theorem QGI(k:Kd)(g z n)(r):Ob.ro ⟨k,g,z,n,r⟩=⟨k.toRo,g,z,n,r⟩:=rfl
theorem ro_ro(o:Ob):o.ro.ro=o.ro:=by
 obtain⟨k,g,z,n,r⟩:=o;cases k<;>rfl
def Xf(P:Program)(f:FuncId)(h:List Ob)(a:List D)(R:D->List Ob->Prop):Prop:=
 QI P f (h.map Ob.ro) a λd b=>∃g,b=h.map Ob.ro++g/\R d g
def Xf.mono{P}{f}{h}{a}{R b}(e:Xf P f h a R)(c:∀d g,R d g->b d g):Xf P f h a b:=QI.mono e λ_ _ ⟨g,j,i⟩=>⟨g,j,c _ _ i⟩
section
variable {P:Program}{base nt:Nat}{w0:Start}{Q:Exit->St->Prop}
def Qeb(W:base<=w0.w.heap.size){o:Oper}{s}{x}{c}{V:Array TypeId}{f}{l}{u}(J:Qn P f)(H:o.op=.call ⟨.value x,c,V⟩)
  (E:JU (Qp s.fr x)=some (f,l,u)) {R:D->List Ob->Prop} (S:QI P f s.h (Jm l u (c.toList.map (Qp s.fr))) R)
  (n:Zt nt o.dst=true) (g:List Pl) (a:Act) (w:World) (r:Rel Z base nt s g a w) (b:Vi Z base w0 s.h g w) (Y:Exit->Act->World->Prop) :
  o.wp P a w (λq k=>∃d h j,R d h/\Rel Z base nt ⟨Zk s.fr o.dst d,h⟩ j q k/\Vi Z base w0 h j k/\Tr s.h g w h j k/\∃v,q=a.put o.dst v) Y:=by
 obtain⟨B,F,z,Fu⟩:=SX (r.eval x) E;have y:base<=w.heap.size:=JL W b.1.size;obtain⟨C,KI⟩:=SY (r:=λd v=>QF Z s.h g w d v) (nf:=l) z Fu (us:=c.toList.map a.eval) (args:=c.toList.map (Qp s.fr)) σ (λi I=>by
  have JR:i<c.toList.length:=by simpa using I
  simp only[nth,Q5,Q7,KX];rw[QT JR];exact r.eval _)
 have M:=S Z base w g (Jm l B (c.toList.map a.eval)) y b.2.2.new r.o C KI;unfold Oper.wp;rw[SZ J H F w];simp only[Oper.upon_enter];refine M.mono λe k K=>?_;obtain⟨v,d,U,j,rfl,O,p,N,m,T⟩:=K;refine⟨d,U,j,O,?_,b.step m T,m,v,rfl⟩;cases L:o.dst with
 | none=>exact r.AW m p v
 | some t=>rw[L]at n;exact r.to m p (vz n) N
def VY(L:base<=w0.w.heap.size){k}{e}{o:TypeId}{pos}{g}{F}{r}{s}{x}{c}{J:Array TypeId}{f}{i}{m}(y:Qn P f)
  (u:JU (Qp s.fr x)=some (f,i,m)) {l:List D} (B:KQ (Jm i m (c.toList.map (Qp s.fr))) l)
  {R:D->List Ob->Prop} (E:QI P f s.h l R) (v:Zt nt e=true) (j:∀d h,R d h->Qw P base nt w0 Q (.ops r::k) .normal ⟨Zk s.fr e d,h⟩) :
  Qw P base nt w0 Q (.ops ((⟨e,.call ⟨.value x,c,J⟩,o,pos,g,F⟩,none)::r)::k) .normal s:=by
 simp only[Qw]at j ⊢;intro Z z t a w p b;simp only[qp,XK,VB];exact Oper.wp_mono (λI n ⟨d,h,K,C,q,H,_⟩=>j d h C Z z K I n q H) (Qeb L y rfl u (E.args B) v t a w p b _)
def Qec(Q6:base<=w0.w.heap.size){o:Oper}{s}{x}{k}{Zv:Array TypeId}{f}{I}{Qx}(hf:Qn P f)(h:o.op=.call ⟨.value x,k,Zv⟩)
  (hx:JU (Qp s.fr x)=some (f,I,Qx)) {R:D->List Ob->Prop} (hF:Xf P f s.h (Jm I Qx (k.toList.map (Qp s.fr))) R)
  (Y:Zt nt o.dst=true) (y:List Pl) (a:Act) (w:World) (r:Rel Z base nt s y a w) (b:Vi Z base w0 s.h y w) (Q':Exit->Act->World->Prop) :
  o.wp P a w (λa' E=>Ext w E/\∃d g B,R d g/\Rel Z base nt ⟨Zk s.fr o.dst d,s.h++g⟩ B a' E/\Vi Z base w0 (s.h++g) B E/\Tr s.h y w (s.h++g) B E/\∃v,a'=a.put o.dst v) Q':=by
 obtain⟨vs,hv,wO,Fu⟩:=SX (r.eval x) hx;have S:base<=w.heap.size:=JL Q6 b.1.size;obtain⟨q1,KI⟩:=SY (r:=λd v=>QF Z s.h y w d v) (nf:=I) wO Fu (us:=k.toList.map a.eval) (args:=k.toList.map (Qp s.fr)) σ (λi L=>by
  have JR:i<k.toList.length:=by simpa using L
  simp only[nth,Q5,Q7,KX];rw[QT JR];exact r.eval _)
 have W:∀(l:Nat) (o:Ob),s.h[l]? = some o->∃n,(s.h.map Ob.ro)[l]? = some n/\n.gen=o.gen/\n.sz=o.sz/\n.kd.ty=o.kd.ty:=λl o e=>⟨o.ro,Jc e,rfl,rfl,Kd.toRo_ty _⟩;have Ts:Zo Z w.heap.size (s.h.map Ob.ro) y w:=by
  refine⟨by simp[r.o.len],r.o.inj,λl o h u=>?_,λl o b q h u=>?_⟩
  .obtain⟨n,C,rfl⟩:=Hv h;exact r.o.VX l n C u
  .obtain⟨n,C,rfl⟩:=Hv h;obtain⟨_,x⟩:=r.o.at_ l n b q C u;exact⟨λz=>(by rw[dD,Kd.toRo_ro]at z;cases z),x.to (Kd.toRo_ty _) rfl rfl rfl (λ_ _=>rfl) λi j v _ _ z=>z.DS W⟩
 have M:=hF Z w.heap.size w y (Jm I vs (k.toList.map a.eval)) (Qs _) b.2.2.new Ts q1 (λi L=>(KI i L).DS W);unfold Oper.wp;rw[SZ hf h hv w];simp only[Oper.upon_enter];refine M.mono λe E he=>?_;obtain⟨v,d,_,B,rfl,⟨g,rfl,hR⟩,F,hV,hT,J⟩:=he;have O:∀(l:Nat) (p:Pl),l<s.h.length->B[l]? = some p->y[l]? = some p:=λl p m e=>by
  have H:l<y.length:=by rw[r.o.len];exact m
  obtain⟨n,p',e1,K,_,_,e3⟩:=hT.obj l _ _ (Jc (QT m)) (QT H);rw[JY (by simpa using m),Jc (QT m)]at e1;cases e1;obtain⟨_,e4⟩:=e3 rfl;rw[e]at K;cases K;rw[e4];exact QT H
 have pL:∀(l:Nat) (p:Pl),l<s.h.length->y[l]? = some p->B[l]? = some p:=λl p m e=>by
  have H:l<B.length:=by have:=F.len;simp at this;omega
  have C:=O l _ m (QT H);rw[e]at C;cases C;exact QT H
 have T:Tr s.h y w (s.h++g) B E:=by
  refine⟨hT.Kl,λl o p h u=>⟨o,p,by rw[JY (KY h)];exact h,pL l p (KY h) u,Qs _,rfl,λ_=>⟨rfl,rfl⟩⟩,λl o n b q h ZU hg u c el M=>⟨c,?_,rfl⟩⟩;rw[J.block b (r.o.lt u).1];exact M
 have V:∀(l:Nat) (o:Ob),(s.h.map Ob.ro++g)[l]? = some o->∃n,(s.h++g)[l]? = some n/\n.gen=o.gen/\n.sz=o.sz/\n.kd.ty=o.kd.ty:=λl o e=>by
  by_cases m:l<s.h.length
  .rw[JY (by simpa using m)]at e;obtain⟨n,C,rfl⟩:=Hv e;exact⟨n,by rw[JY m];exact C,rfl,rfl,(Kd.toRo_ty _).symm⟩
  .rw[Kw (by simpa using m)]at e;exact⟨o,by rw[Kw ω];simpa using e,rfl,rfl,rfl⟩
 have LM:Zo Z base (s.h++g) B E:=by
  refine⟨by have:=F.len;simpa using this,F.inj,λl o h u=>?_,λl o b q h u=>?_⟩
  .by_cases m:l<s.h.length
   .rw[JY m]at h;exact r.o.VX l o h (O l _ m u)
   .refine F.VX l o ?_ u;rw[Kw ω]at h;rw[Kw (by simpa using m)];simpa using h
  .by_cases m:l<s.h.length
   .rw[JY m]at h;have U:=O l _ m u;obtain⟨N,x⟩:=r.o.at_ l o b q h U;exact⟨N,x.to rfl rfl rfl (J.block b (r.o.lt U).1) (λ_ _=>rfl) λi j v _ _ z=>z.tr T⟩
   .have K:(s.h.map Ob.ro++g)[l]? = some o:=by
     rw[Kw ω]at h;rw[Kw (by simpa using m)];simpa using h
    obtain⟨N,x⟩:=F.at_ l o b q K u;exact⟨λz=>JL S (N z),x.to rfl rfl rfl rfl (λ_ _=>rfl) λi j v _ _ z=>z.DS V⟩
 refine⟨λb hb=>J.block b hb,d,g,B,hR,?_,b.step T (J.mono S),T,v,rfl⟩;cases hd:o.dst with
 | none=>exact r.AW T LM v
 | some t=>rw[hd]at Y;exact r.to T LM (vz Y) (hV.DS V)
def Xf.args{f}{h}{a b}{R}(c:Xf P f h b R)(e:KQ a b):Xf P f h a R:=QI.args c e
def Hw(M:base<=w0.w.heap.size){k}{e}{p:TypeId}{pos}{i}{H}{r}{s}{x}{c}{K:Array TypeId}{f}{j}{n}(B:Qn P f)
  (v:JU (Qp s.fr x)=some (f,j,n)) {m:List D} (C:KQ (Jm j n (c.toList.map (Qp s.fr))) m)
  {R:D->List Ob->Prop} (F:Xf P f s.h m R) (y:Zt nt e=true) (l:∀d g,R d g->Qw P base nt w0 Q (.ops r::k) .normal ⟨Zk s.fr e d,s.h++g⟩) :
  Qw P base nt w0 Q (.ops ((⟨e,.call ⟨.value x,c,K⟩,p,pos,i,H⟩,none)::r)::k) .normal s:=by
 simp only[Qw]at l ⊢;intro Z z u a w q b;simp only[qp,XK,VB];exact Oper.wp_mono (λJ o ⟨_,d,h,L,E,t,I,_⟩=>l d h E Z z L J o t I) (Qec M B rfl v (F.args C) y u a w q b _)
def Tt(M:base<=w0.w.heap.size){K}{h}{m:TypeId}{pos}{i}{H}{r}{s}{x}{c}{J:Array TypeId}{f}{j}{l}(y:Qn P f)
  (q:JU (Qp s.fr x)=some (f,j,l)) {k:List D} (B:KQ (Jm j l (c.toList.map (Qp s.fr))) k) {R:D->List Ob->Prop} (E:Xf P f s.h k R)
  (t:Zt nt h=true) (u:∀d g,R d g->AX P base nt w0 K r ⟨Zk s.fr h d,s.h++g⟩) :
  AX P base nt w0 K ((false,⟨h,.call ⟨.value x,c,J⟩,m,pos,i,H⟩,none)::r) s:=by
 simp only[AX,XL,zN];intro Z z p a w n b;exact Oper.wp_mono (λO N ⟨F,d,g,L,C,o,I,T,v,e⟩=>⟨λ_=>F,_,_,L,v,u d g C,o,I,T,e⟩) (Qec M y rfl q (E.args B) t p a w n b _)
def QpO(N:base<=w0.w.heap.size){k}{d}{n:TypeId}{pos}{f}{C}{r}{s}{x}{li l c}{es}{seen}{q}
  (H:Qp s.fr x=.mref li 0) (M:s.h[li]? = some (Yw l c c seen)) {kd:Kd} (R:kd.ty=1) (L:s.h[l]? = some (Ww kd q c es)) (p:Zt nt d=true)
  (y:(∀e∈es,e.b∈seen)->Qw P base nt w0 Q (.ops r::k) .normal ⟨Zk s.fr d (.tup [.raw (.bool false)]),s.h⟩)
  (u:∀e∈es,e.b ∉ seen->Qw P base nt w0 Q (.ops r::k) .normal ⟨Zk s.fr d (.tup [.raw (.bool true),.raw (.int q e.k),e.v]),s.h.set li (Yw l c c (seen++[e.b]))⟩) :
  Qw P base nt w0 Q (.ops ((⟨d,.next x false,n,pos,f,C⟩,none)::r)::k) .normal s:=by
 simp only[Qw]at y u ⊢;intro Z z h a w g b;have E:base<=w.heap.size:=JL N b.1.size;simp only[qp,XK,VB];unfold Oper.wp;rcases Qof (o:=⟨d,.next x false,n,pos,f,C⟩) rfl g E H M R L with ⟨m,j⟩|⟨e,K,m,v,F,j,T,O,V,B⟩
 .rw[j];simp only[Oper.upon_value];refine y m Z z h _ w ?_ b;have I:QF Z s.h h w (.tup [.raw (.bool false)]) (.tuple #[.bool false]):=.tup _ [.bool false] rfl λi J=>match i,J with
   | 0,_=>.cl _ _ (.raw _)
  cases d with
  | none=>exact g.AW (Tr.refl _ _ _) g.o _
  | some t=>exact g.to (Tr.refl _ _ _) g.o (vz p) I
 .rw[j];simp only[Oper.upon_value];refine u e K m Z z h _ F ?_ (b.step T B);cases d with
  | none=>exact g.AW T O _
  | some t=>exact g.to T O (vz p) V
end
def Zf(P:Program)(f:FuncId)(h:List Ob)(a:List D)(R:D->Prop):Prop:=Xf P f h a λd _=>d.upto h.length=true/\R d
def Zf.mono{P}{f}{h:List Ob}{a}{R b}(e:Zf P f h a R)(c:∀d,R d->b d):Zf P f h a b:=Xf.mono e λ_ _ h=>⟨h.1,c _ h.2⟩
def Zf.args{P}{f}{h}{a b}{R}(c:Zf P f h b R)(e:KQ a b):Zf P f h a R:=Xf.args c e
section
variable {P:Program}{base nt:Nat}{w0:Start}{Q:Exit->St->Prop}
def Qed(Q6:base<=w0.w.heap.size){o:Oper}{s}{x}{c}{Zv:Array TypeId}{f}{z}{O}(hf:Qn P f)(u:o.op=.call ⟨.value x,c,Zv⟩)
  (hx:JU (Qp s.fr x)=some (f,z,O)) {R:D->Prop} (hF:Zf P f s.h (Jm z O (c.toList.map (Qp s.fr))) R)
  (K:Zt nt o.dst=true) (k:List Pl) (a:Act) (w:World) (r:Rel Z base nt s k a w) (b:Vi Z base w0 s.h k w) (Q':Exit->Act->World->Prop) :
  o.wp P a w (λM p=>Ext w p/\∃d,R d/\Rel Z base nt ⟨Zk s.fr o.dst d,s.h⟩ k M p/\Vi Z base w0 s.h k p/\Tr s.h k w s.h k p/\∃v,M=a.put o.dst v) Q':=by
 obtain⟨U,hv,T,Fu⟩:=SX (r.eval x) hx;have S:base<=w.heap.size:=JL Q6 b.1.size;obtain⟨V,KI⟩:=SY (r:=λd v=>QF Z s.h k w d v) (nf:=z) T Fu (us:=c.toList.map a.eval) (args:=c.toList.map (Qp s.fr)) σ (λi m=>by
  have JR:i<c.toList.length:=by simpa using m
  simp only[nth,Q5,Q7,KX];rw[QT JR];exact r.eval _)
 have J:∀(l:Nat) (o:Ob),s.h[l]? = some o->∃h,(s.h.map Ob.ro)[l]? = some h/\h.gen=o.gen/\h.sz=o.sz/\h.kd.ty=o.kd.ty:=λl o e=>⟨o.ro,Jc e,rfl,rfl,Kd.toRo_ty _⟩;have k3:∀(g:List Ob) (l:Nat) (o:Ob),(s.h.map Ob.ro++g)[l]? = some o->∃h,(s.h++g)[l]? = some h/\h.gen=o.gen/\h.sz=o.sz/\h.kd.ty=o.kd.ty:=λg l o e=>by
  by_cases E:l<s.h.length
  .rw[JY (by simpa using E)]at e;obtain⟨h,n,rfl⟩:=Hv e;exact⟨h,by rw[JY E];exact n,rfl,rfl,(Kd.toRo_ty _).symm⟩
  .rw[Kw (by simpa using E)]at e;exact⟨o,by rw[Kw ω];simpa using e,rfl,rfl,rfl⟩
 have Ts:Zo Z w.heap.size (s.h.map Ob.ro) k w:=by
  refine⟨by simp[r.o.len],r.o.inj,λl o u C=>?_,λl o b q u C=>?_⟩
  .obtain⟨h,n,rfl⟩:=Hv u;exact r.o.VX l h n C
  .obtain⟨h,n,rfl⟩:=Hv u;obtain⟨_,x⟩:=r.o.at_ l h b q n C;exact⟨λB=>(by rw[dD,Kd.toRo_ro]at B;cases B),x.to (Kd.toRo_ty _) rfl rfl rfl (λ_ _=>rfl) λi j v _ _ B=>B.DS J⟩
 have hc:=hF Z w.heap.size w k (Jm z U (c.toList.map a.eval)) (Qs _) b.2.2.new Ts V (λi m=>(KI i m).DS J);unfold Oper.wp;rw[SZ hf u hv w];simp only[Oper.upon_enter];refine hc.mono λe p he=>?_;obtain⟨v,d,_,Qk,rfl,⟨g,rfl,hu,hR⟩,hO,hV,hT,L⟩:=he;have F:Ext w p:=λb hb=>L.block b hb;have N:Tr s.h k w s.h k p:=Tr.ext r.o F;have Hx:QF Z s.h k p d v:=by
  have n:=hV.take hu;have e1:(s.h.map Ob.ro++g).take s.h.length=s.h.map Ob.ro:=List.take_left' σ;have e2:Qk.take s.h.length=k:=by
   apply AO;intro i;rw[X7];by_cases m:i<s.h.length
   .rw[Qf m];have H:i<k.length:=by rw[r.o.len];exact m
    obtain⟨h,p',I,Y,_,_,W⟩:=hT.obj i _ _ (Jc (QT m)) (QT H);rw[JY (by simpa using m),Jc (QT m)]at I;cases I;obtain⟨_,rfl⟩:=W rfl;rw[Y,QT H]
   .rw[Qe m,B4 (by rw[r.o.len];omega)]
  rw[e1,e2]at n;exact n.DS λl o e=>by
   obtain⟨h,n,rfl⟩:=Hv e;exact⟨h,n,rfl,rfl,(Kd.toRo_ty _).symm⟩
 refine⟨F,d,hR,?_,b.step N (L.mono S),N,v,rfl⟩;have y:=r.ext F;cases hd:o.dst with
 | none=>exact y.AW (Tr.refl _ _ _) y.o v
 | some t=>rw[hd]at K;exact y.to (Tr.refl _ _ _) y.o (vz K) Hx
def X0(J:base<=w0.w.heap.size){k}{e}{o:TypeId}{pos}{g}{E}{r}{s}{x}{c}{I:Array TypeId}{f}{i}{m}(v:Qn P f)
  (t:JU (Qp s.fr x)=some (f,i,m)) {l:List D} (y:KQ (Jm i m (c.toList.map (Qp s.fr))) l)
  {R:D->Prop} (C:Zf P f s.h l R) (u:Zt nt e=true) (j:∀d,R d->Qw P base nt w0 Q (.ops r::k) .normal ⟨Zk s.fr e d,s.h⟩) :
  Qw P base nt w0 Q (.ops ((⟨e,.call ⟨.value x,c,I⟩,o,pos,g,E⟩,none)::r)::k) .normal s:=by
 simp only[Qw]at j ⊢;intro Z z h a w p b;simp only[qp,XK,VB];exact Oper.wp_mono (λH n ⟨_,d,B,q,F,_⟩=>j d B Z z h H n q F) (Qed J v rfl t (C.args y) u h a w p b _)
def OU(J:base<=w0.w.heap.size){K}{g}{m:TypeId}{pos}{h}{F}{r}{s}{x}{c}{I:Array TypeId}{f}{j}{l}(u:Qn P f)
  (p:JU (Qp s.fr x)=some (f,j,l)) {k:List D} (y:KQ (Jm j l (c.toList.map (Qp s.fr))) k) {R:D->Prop} (C:Zf P f s.h k R)
  (q:Zt nt g=true) (t:∀d,R d->AX P base nt w0 K r ⟨Zk s.fr g d,s.h⟩) :
  AX P base nt w0 K ((false,⟨g,.call ⟨.value x,c,I⟩,m,pos,h,F⟩,none)::r) s:=by
 simp only[AX,XL,zN];intro Z z i a w n b;exact Oper.wp_mono (λM L ⟨E,d,B,o,H,T,v,e⟩=>⟨λ_=>E,_,_,i,v,t d B,o,H,T,e⟩) (Qed J u rfl p (C.args y) q i a w n b _)
end
def Qc{h:List Ob}{l}{o}(e:h[l]? = some o):l<h.length:=KY e
def QJ{h t:List Ob}{l}(a:l<h.length):(h++t)[l]? = h[l]? := JY a
def Vq{h t:List Ob}{n}(a:h.length=n):(h++t)[n]? = t[0]? := by rw[<- a,Kw (Qs _),YJ]
def Wm{h t:List Ob}{n k}(a:h.length=n):(h++t)[n+k]? = t[k]? := by rw[<- a,Kw ω,bW]
def DT{h t:List Ob}{l}{o}(a:l<h.length):(h++t).set l o=h.set l o++t:=bT _ _ a
def ft{h t:List Ob}{n}{o}(a:h.length=n):(h++t).set n o=h++t.set 0 o:=by rw[<- a,NT _ _ (Qs _),YJ]
def QpP{h t:List Ob}{n k}{o}(a:h.length=n):(h++t).set (n+k) o=h++t.set k o:=by rw[<- a,NT _ _ ω,bW]
def Qy{h:List Ob}{l}{o}(a:l<h.length):(h.set l o)[l]? = some o:=Xb a
def Qm{h:List Ob}{l m}{o}(a:l≠m):(h.set l o)[m]? = h[m]? := JZ a
def QpQ{P:Program}{X}(r:q6 P X){f}{e:Func}{c}(n)(q:P.funcs[f]? = some e)(k:e.body=some c){h}{b:List D}{R}{j}{l}(v:e.ntmps=j)(x:e.results=l)(o:Nat.ble b.length j=true)
  (p:∀(a:Nat) (w:World) (i:List Pl) (F:List Ob),F=h.map Ob.ro->F.length=h.length->a<=w.heap.size->hx P a ⟨w,F,i⟩ (Bg X.L l.toList λd m=>∃g,m=F++g/\d.upto F.length=true/\R d) X j n [.code c] ⟨km b 0,F⟩):Zf P f h b R:=
 (eY r n q k v x o λa w i k=>p a w i _ rfl σ k).mono λd m ⟨g,u,t,s⟩=>⟨g,u,by simpa using t,s⟩
def Bn{P:Program}{X}(q:q6 P X){f}{e:Func}{c}(n)(p:P.funcs[f]? = some e)(k:e.body=some c){h}{b:List D}{R}{j}{l}(s:e.ntmps=j)(t:e.results=l)(m:Nat.ble b.length j=true)
  (o:∀(a:Nat) (w:World) (i:List Pl) (F:List Ob),F=h.map Ob.ro->F.length=h.length->a<=w.heap.size->hx P a ⟨w,F,i⟩ (Bg X.L l.toList λd r=>∃g,r=F++g/\R d g) X j n [.code c] ⟨km b 0,F⟩):Xf P f h b R:=
 eY q n p k s t m λa w i k=>o a w i _ rfl σ k
attribute [go_sem] dP dQ xO Hg dO QcW QcX QcV Qoi QcY Qoj Qok dJ dK Oi Ha dM dN oT QcK oS QcJ QcL oU QcM Qn1 Qn2 Qn3 Qn4 dD Qn5 Qn6 ro_ro DB
def Qa:(∀{h t:List Ob} {l:Nat},l<h.length->(h++t)[l]? = h[l]?)/\(∀{h t:List Ob} {n:Nat},h.length=n->(h++t)[n]? = t[0]?)/\(∀{h t:List Ob} {n k:Nat},h.length=n->(h++t)[n+k]? = t[k]?)/\(∀{h t:List Ob} {l:Nat} {o:Ob},l<h.length->(h++t).set l o=h.set l o++t)/\(∀{h t:List Ob} {n:Nat} {o:Ob},h.length=n->(h++t).set n o=h++t.set 0 o)/\(∀{h t:List Ob} {n k:Nat} {o:Ob},h.length=n->(h++t).set (n+k) o=h++t.set k o)/\(∀{d:Type} {a b:List d},(a++b).length=a.length+b.length)/\(∀{d:Type} {i:Nat} {a:d} {l:List d},(l.set i a).length=l.length)/\(∀{d:Type} (a b c:List d),a++b++c=a++(b++c))/\(∀{d:Type} {a b:d} (l:List d) {i:Nat},(l.set i a).set i b=l.set i b):=
 ⟨QJ,Vq,Wm,DT,ft,QpP,ZT,XG,Wu,λ_=>JS _⟩
end Go.Fg
namespace Go.Fg.X
open Go.Proofs Go.Fg
open Go.Proofs.Tryz
@[go_sem] def zi:Value:=.int .i64 0
@[go_sem] def zu:Value:=.int .u64 0
@[go_sem] def zh:Value:=.int .u16 0
@[go_sem] def zb:Value:=.bool false
@[go_sem] def zp:Value:=.pointer none
@[go_sem] def zc:Value:=.int .u8 0
@[go_sem] def zs:Value:=.slice none 0 0
@[go_sem] def zm:Value:=.map none
@[go_sem] def Y1:Ty:=⟨.fn,1,8,[.nilFunc]⟩
@[go_sem] def Y2:Ty:=⟨.int .i64,1,8,[zi]⟩
@[go_sem] def Y4:Ty:=⟨.bool,1,1,[zb]⟩
@[go_sem] def Y5:Ty:=⟨.int .u8,1,1,[zc]⟩
@[go_sem] def Y9:Ty:=⟨.str,1,16,[.string ByteArray.empty]⟩
@[go_sem] def Hy:Ty:=⟨.int .u64,1,8,[zu]⟩
@[go_sem] def Y17:Ty:=⟨.ptr 382,1,8,[zp]⟩
@[go_sem] def Y20:Ty:=⟨.iface,1,16,[.nilIface]⟩
@[go_sem] def Y21:Ty:=⟨.int .i32,1,4,[.int .i32 0]⟩
@[go_sem] def OV:Ty:=⟨.struct [(0,3),(1,3)],2,16,[zi,zi]⟩
@[go_sem] def Y24:Ty:=⟨.slice 45,1,24,[zs]⟩
@[go_sem] def fu:Ty:=⟨.struct [(0,23),(2,24)],3,40,[zi,zi,zs]⟩
@[go_sem] def Y31:Ty:=⟨.ptr 97,1,8,[zp]⟩
@[go_sem] def Y35:Ty:=⟨.slice 80,1,24,[zs]⟩
@[go_sem] def Y36:Ty:=⟨.slice 219,1,24,[zs]⟩
@[go_sem] def Y37:Ty:=⟨.slice 150,1,24,[zs]⟩
@[go_sem] def Y39:Ty:=⟨.int .u16,1,2,[zh]⟩
@[go_sem] def Y41:Ty:=⟨.array 4 39,4,8,[zh,zh,zh,zh]⟩
@[go_sem] def fv:Ty:=⟨.struct [(0,38),(1,3),(2,41)],6,24,[zu,zi,zh,zh,zh,zh]⟩
@[go_sem] def fw:Ty:=⟨.struct [(0,3),(1,36),(2,37),(3,43),(9,38)],10,88,[zi,zs,zs,zu,zi,zh,zh,zh,zh,zu]⟩
@[go_sem] def fx:Ty:=⟨.struct [(0,32),(1,3),(2,3)],3,24,[zi,zi,zi]⟩
@[go_sem] def Y50:Ty:=⟨.slice 3,1,24,[zs]⟩
@[go_sem] def OW:Ty:=⟨.struct [(0,38),(1,38),(2,38)],3,24,[zu,zu,zu]⟩
@[go_sem] def fy:Ty:=⟨.struct [(0,3),(1,3),(2,4),(3,53),(6,53),(9,53),(12,3),(13,3)],14,112,[zi,zi,zb,zu,zu,zu,zu,zu,zu,zu,zu,zu,zi,zi]⟩
@[go_sem] def fA:Ty:=⟨.struct [(0,38),(1,38)],2,16,[zu,zu]⟩
@[go_sem] def fB:Ty:=⟨.struct [(0,38),(1,57),(3,38)],4,32,[zu,zu,zu,zu]⟩
@[go_sem] def fC:Ty:=⟨.struct [(0,59),(4,59),(8,4)],9,72,[zu,zu,zu,zu,zu,zu,zu,zu,zb]⟩
@[go_sem] def fD:Ty:=⟨.struct [(0,4),(1,61),(10,61),(19,38),(20,38),(21,38)],22,176,[zb,zu,zu,zu,zu,zu,zu,zu,zu,zb,zu,zu,zu,zu,zu,zu,zu,zu,zb,zu,zu,zu]⟩
@[go_sem] def OX:Ty:=⟨.struct [(0,4),(1,61),(10,38)],11,88,[zb,zu,zu,zu,zu,zu,zu,zu,zu,zb,zu]⟩
@[go_sem] def fF:Ty:=⟨.struct [(0,38),(1,38),(2,38),(3,38),(4,38),(5,38)],6,48,[zu,zu,zu,zu,zu,zu]⟩
@[go_sem] def Y71:Ty:=⟨.struct [(0,55),(14,4),(15,38),(16,63),(38,65),(49,67),(60,38),(61,69)],67,536,[zi,zi,zb,zu,zu,zu,zu,zu,zu,zu,zu,zu,zi,zi,zb,zu,zb,zu,zu,zu,zu,zu,zu,zu,zu,zb,zu,zu,zu,zu,zu,zu,zu,zu,zb,zu,zu,zu,zb,zu,zu,zu,zu,zu,zu,zu,zu,zb,zu,zb,zu,zu,zu,zu,zu,zu,zu,zu,zb,zu,zu,zu,zu,zu,zu,zu,zu]⟩
@[go_sem] def Y78:Ty:=⟨.slice 38,1,24,[zs]⟩
@[go_sem] def fG:Ty:=⟨.struct [(0,3),(1,4),(2,4),(3,38),(4,38),(5,3),(6,43)],12,64,[zi,zb,zb,zu,zu,zi,zu,zi,zh,zh,zh,zh]⟩
@[go_sem] def Y85:Ty:=⟨.ptr 142,1,8,[zp]⟩
@[go_sem] def Y88:Ty:=⟨.ptr 147,1,8,[zp]⟩
@[go_sem] def Y91:Ty:=⟨.ptr 153,1,8,[zp]⟩
@[go_sem] def Y94:Ty:=⟨.ptr 159,1,8,[zp]⟩
@[go_sem] def Y97:Ty:=⟨.struct [(0,85),(1,88),(2,91),(3,94),(4,38),(5,3)],6,48,[zp,zp,zp,zp,zu,zi]⟩
@[go_sem] def Qew:Ty:=⟨.ptr 200,1,8,[zp]⟩
@[go_sem] def Qex:Ty:=⟨.struct [(0,38),(1,38),(2,3),(3,3),(4,4)],5,40,[zu,zu,zi,zi,zb]⟩
@[go_sem] def Qey:Ty:=⟨.slice 129,1,24,[zs]⟩
@[go_sem] def Qez:Ty:=⟨.map 3 168,1,8,[zm]⟩
@[go_sem] def QeA:Ty:=⟨.ptr 208,1,8,[zp]⟩
@[go_sem] def QeB:Ty:=⟨.ptr 210,1,8,[zp]⟩
@[go_sem] def QeC:Ty:=⟨.map 3 137,1,8,[zm]⟩
@[go_sem] def QeD:Ty:=⟨.ptr 215,1,8,[zp]⟩
@[go_sem] def QeE:Ty:=⟨.struct [(0,23),(2,104),(3,134),(4,140),(5,135),(6,139),(7,38),(8,38)],9,72,[zi,zi,zp,zm,zp,zp,zm,zu,zu]⟩
@[go_sem] def QeF:Ty:=⟨.struct [(0,145),(3,3),(4,38)],5,40,[zu,zu,zu,zi,zu]⟩
@[go_sem] def QeG:Ty:=⟨.struct [(0,41),(4,41),(8,3)],9,24,[zh,zh,zh,zh,zh,zh,zh,zh,zi]⟩
@[go_sem] def QeH:Ty:=⟨.map 41 3,1,8,[zm]⟩
@[go_sem] def QeI:Ty:=⟨.struct [(0,37),(1,151),(2,50)],3,56,[zs,zm,zs]⟩
@[go_sem] def QeJ:Ty:=⟨.map 3 78,1,8,[zm]⟩
@[go_sem] def QeK:Ty:=⟨.map 3 284,1,8,[zm]⟩
@[go_sem] def QeL:Ty:=⟨.struct [(0,156),(1,157)],2,16,[zm,zm]⟩
@[go_sem] def QeM:Ty:=⟨.ptr 180,1,8,[zp]⟩
@[go_sem] def QeN:Ty:=⟨.ptr 245,1,8,[zp]⟩
@[go_sem] def QeO:Ty:=⟨.struct [(0,178),(1,55),(15,38),(16,63),(38,65),(49,67)],60,480,[zp,zi,zi,zb,zu,zu,zu,zu,zu,zu,zu,zu,zu,zi,zi,zu,zb,zu,zu,zu,zu,zu,zu,zu,zu,zb,zu,zu,zu,zu,zu,zu,zu,zu,zb,zu,zu,zu,zb,zu,zu,zu,zu,zu,zu,zu,zu,zb,zu,zb,zu,zu,zu,zu,zu,zu,zu,zu,zb,zu]⟩
@[go_sem] def QeP:Ty:=⟨.slice 53,1,24,[zs]⟩
@[go_sem] def QeQ:Ty:=⟨.map 3 55,1,8,[zm]⟩
@[go_sem] def QeR:Ty:=⟨.struct [(0,198)],1,8,[zm]⟩
@[go_sem] def QeS:Ty:=⟨.ptr 257,1,8,[zp]⟩
@[go_sem] def QeT:Ty:=⟨.map 3 291,1,8,[zm]⟩
@[go_sem] def fH:Ty:=⟨.struct [(0,204),(1,206)],2,16,[zp,zm]⟩
@[go_sem] def QeU:Ty:=⟨.map 3 217,1,8,[zm]⟩
@[go_sem] def QeV:Ty:=⟨.map 3 3,1,8,[zm]⟩
@[go_sem] def QeW:Ty:=⟨.map 3 212,1,8,[zm]⟩
@[go_sem] def QeX:Ty:=⟨.struct [(0,211),(1,212),(2,213)],3,24,[zm,zm,zm]⟩
@[go_sem] def QeY:Ty:=⟨.struct [(0,3),(1,55)],15,120,[zi,zi,zi,zb,zu,zu,zu,zu,zu,zu,zu,zu,zu,zi,zi]⟩
@[go_sem] def QeZ:Ty:=⟨.struct [(0,3),(1,43),(7,4)],8,40,[zi,zu,zi,zh,zh,zh,zh,zb]⟩
@[go_sem] def Qe0:Ty:=⟨.ptr 315,1,8,[zp]⟩
@[go_sem] def Qe1:Ty:=⟨.struct [(0,243),(1,3),(2,3),(3,69)],9,72,[zp,zi,zi,zu,zu,zu,zu,zu,zu]⟩
@[go_sem] def Qe2:Ty:=⟨.ptr 333,1,8,[zp]⟩
@[go_sem] def Qe3:Ty:=⟨.struct [(0,255)],1,8,[zp]⟩
@[go_sem] def Qe4:Ty:=⟨.slice 50,1,24,[zs]⟩
@[go_sem] def Qe5:Ty:=⟨.struct [(0,38),(1,38),(2,38),(3,38),(4,38)],5,40,[zu,zu,zu,zu,zu]⟩
@[go_sem] def Qe6:Ty:=⟨.struct [(0,38),(1,3)],2,16,[zu,zi]⟩
@[go_sem] def Qe7:Ty:=⟨.struct [(0,289),(2,289)],4,32,[zu,zi,zu,zi]⟩
@[go_sem] def Qe8:Ty:=⟨.int .u32,1,4,[.int .u32 0]⟩
@[go_sem] def Qe9:Ty:=⟨.slice 43,1,24,[zs]⟩
@[go_sem] def Qfa:Ty:=⟨.struct [(0,313),(1,3),(2,3)],3,40,[zs,zi,zi]⟩
@[go_sem] def Qfb:Ty:=⟨.ptr 145,1,8,[zp]⟩
@[go_sem] def Qfc:Ty:=⟨.array 2 255,2,16,[zp,zp]⟩
@[go_sem] def Qfd:Ty:=⟨.struct [(0,291),(4,331),(6,291),(10,3),(11,3)],12,96,[zu,zi,zu,zi,zp,zp,zu,zi,zu,zi,zi,zi]⟩
@[go_sem] def Qfe:Ty:=⟨.array 3 53,9,72,[zu,zu,zu,zu,zu,zu,zu,zu,zu]⟩
@[go_sem] def Qff:Ty:=⟨.ptr 3,1,8,[zp]⟩
@[go_sem] def Qfg:Ty:=⟨.array 2 59,8,64,[zu,zu,zu,zu,zu,zu,zu,zu]⟩
@[go_sem] def Qfh:Ty:=⟨.ptr 338,1,8,[zp]⟩
def lay:Jr:=[(1,Y1),(2,Y2),(3,Y2),(4,Y4),(5,Y5),(9,Y9),(12,Hy),(17,Y17),(20,Y20),(21,Y21),(22,OV),(23,OV),(24,Y24),(25,fu),(26,fu),(27,Y1),(28,Y1),(29,Y1),(30,Y1),(31,Y31),(32,Y2),(34,Y1),(35,Y35),(36,Y36),(37,Y37),(38,Hy),(39,Y39),(41,Y41),(42,fv),(43,fv),(44,fw),(45,fw),(46,fx),(47,fx),(49,Y1),(50,Y50),(51,Y1),(52,OW),(53,OW),(54,fy),(55,fy),(56,fA),(57,fA),(58,fB),(59,fB),(60,fC),(61,fC),(62,fD),(63,fD),(64,OX),(65,OX),(67,OX),(68,fF),(69,fF),(71,Y71),(73,Y1),(74,Y1),(76,Y1),(78,Y78),(79,fG),(80,fG),(81,Y1),(82,Y1),(84,Y1),(85,Y85),(88,Y88),(90,Y1),(91,Y91),(94,Y94),(97,Y97),(98,Y1),(101,Y1),(102,Y1),(103,Y1),(104,Qew),(105,Y1),(106,Y1),(110,Y1),(111,Y1),(112,Y1),(114,Y1),(115,Y2),(116,Y1),(118,Y1),(122,Y1),(129,Qex),(132,Qey),(133,Y1),(134,Qez),(135,QeA),(137,QeB),(138,Y1),(139,QeC),(140,QeD),(142,QeE),(145,OW),(147,QeF),(150,QeG),(151,QeH),(153,QeI),(156,QeJ),(157,QeK),(159,QeL),(164,Y1),(165,Y1),(168,QeM),(178,QeN),(180,QeO),(185,Hy),(196,QeP),(198,QeQ),(200,QeR),(204,QeS),(206,QeT),(208,fH),(210,fH),(211,QeU),(212,QeV),(213,QeW),(215,QeX),(217,OV),(219,QeY),(236,QeZ),(243,Qe0),(245,Qe1),(255,Qe2),(257,Qe3),(260,Qe4),(284,Qe5),(289,Qe6),(291,Qe7),(296,Y1),(303,Y2),(311,Qe8),(313,Qe9),(315,Qfa),(316,Y1),(327,Qfb),(331,Qfc),(333,Qfd),(337,Qfe),(338,Hy),(341,Qff),(347,Y1),(349,Qfg),(358,Qfh)]
def Qfi{P:Program}:∀{L:Jr},L.map (λp=>(P.underlying p.1).map TK.of)=L.map (λp=>some p.2.k)->L.map (λp=>(P.info? p.1).map λi=>(i.size,i.bytes,i.zero.map λz=>z.cells.toList))=L.map (λp=>some (p.2.size,p.2.bytes,some p.2.zero))->L.map (λp=>((P.info? p.1).bind (·.zero)).map cz)=L.map (λp=>some p.2.k.agg)->Jl P L
 | [],_,_,_=>.nil _
 | (_,_)::_,c,b,a=>.cons ⟨(xC c).1,(xC b).1,(xC a).1⟩ (Qfi (xC c).2 (xC b).2 (xC a).2)
def CH:Jl prog lay:=Qfi τ τ τ
theorem L1:ty lay 1=some Y1:=rfl
theorem L2:ty lay 2=some Y2:=rfl
theorem L3:ty lay 3=some Y2:=rfl
theorem L4:ty lay 4=some Y4:=rfl
theorem L5:ty lay 5=some Y5:=rfl
theorem L9:ty lay 9=some Y9:=rfl
theorem L12:ty lay 12=some Hy:=rfl
theorem L17:ty lay 17=some Y17:=rfl
theorem L20:ty lay 20=some Y20:=rfl
theorem L21:ty lay 21=some Y21:=rfl
theorem L22:ty lay 22=some OV:=rfl
theorem L23:ty lay 23=some OV:=rfl
theorem L24:ty lay 24=some Y24:=rfl
theorem L25:ty lay 25=some fu:=rfl
theorem L26:ty lay 26=some fu:=rfl
theorem L27:ty lay 27=some Y1:=rfl
theorem L28:ty lay 28=some Y1:=rfl
theorem L29:ty lay 29=some Y1:=rfl
theorem L30:ty lay 30=some Y1:=rfl
theorem L31:ty lay 31=some Y31:=rfl
theorem L32:ty lay 32=some Y2:=rfl
theorem L34:ty lay 34=some Y1:=rfl
theorem L35:ty lay 35=some Y35:=rfl
theorem L36:ty lay 36=some Y36:=rfl
theorem L37:ty lay 37=some Y37:=rfl
theorem L38:ty lay 38=some Hy:=rfl
theorem L39:ty lay 39=some Y39:=rfl
theorem L41:ty lay 41=some Y41:=rfl
theorem L42:ty lay 42=some fv:=rfl
theorem L43:ty lay 43=some fv:=rfl
theorem L44:ty lay 44=some fw:=rfl
theorem L45:ty lay 45=some fw:=rfl
theorem L46:ty lay 46=some fx:=rfl
theorem L47:ty lay 47=some fx:=rfl
theorem L49:ty lay 49=some Y1:=rfl
theorem L50:ty lay 50=some Y50:=rfl
theorem L51:ty lay 51=some Y1:=rfl
theorem L52:ty lay 52=some OW:=rfl
theorem L53:ty lay 53=some OW:=rfl
theorem L54:ty lay 54=some fy:=rfl
theorem L55:ty lay 55=some fy:=rfl
theorem L56:ty lay 56=some fA:=rfl
theorem L57:ty lay 57=some fA:=rfl
theorem L58:ty lay 58=some fB:=rfl
theorem L59:ty lay 59=some fB:=rfl
theorem L60:ty lay 60=some fC:=rfl
theorem L61:ty lay 61=some fC:=rfl
theorem L62:ty lay 62=some fD:=rfl
theorem L63:ty lay 63=some fD:=rfl
theorem L64:ty lay 64=some OX:=rfl
theorem L65:ty lay 65=some OX:=rfl
theorem L67:ty lay 67=some OX:=rfl
theorem L68:ty lay 68=some fF:=rfl
theorem L69:ty lay 69=some fF:=rfl
theorem L71:ty lay 71=some Y71:=rfl
theorem L73:ty lay 73=some Y1:=rfl
theorem L74:ty lay 74=some Y1:=rfl
theorem L76:ty lay 76=some Y1:=rfl
theorem L78:ty lay 78=some Y78:=rfl
theorem L79:ty lay 79=some fG:=rfl
theorem L80:ty lay 80=some fG:=rfl
theorem L81:ty lay 81=some Y1:=rfl
theorem L82:ty lay 82=some Y1:=rfl
theorem L84:ty lay 84=some Y1:=rfl
theorem L85:ty lay 85=some Y85:=rfl
theorem L88:ty lay 88=some Y88:=rfl
theorem L90:ty lay 90=some Y1:=rfl
theorem L91:ty lay 91=some Y91:=rfl
theorem L94:ty lay 94=some Y94:=rfl
theorem L97:ty lay 97=some Y97:=rfl
theorem L98:ty lay 98=some Y1:=rfl
theorem QqU:ty lay 101=some Y1:=rfl
theorem QqV:ty lay 102=some Y1:=rfl
theorem QqW:ty lay 103=some Y1:=rfl
theorem QqX:ty lay 104=some Qew:=rfl
theorem QqY:ty lay 105=some Y1:=rfl
theorem QqZ:ty lay 106=some Y1:=rfl
theorem Qq0:ty lay 110=some Y1:=rfl
theorem Qq1:ty lay 111=some Y1:=rfl
theorem Qq2:ty lay 112=some Y1:=rfl
theorem Qq3:ty lay 114=some Y1:=rfl
theorem Qq4:ty lay 115=some Y2:=rfl
theorem Qq5:ty lay 116=some Y1:=rfl
theorem Qq6:ty lay 118=some Y1:=rfl
theorem Qq7:ty lay 122=some Y1:=rfl
theorem Qq8:ty lay 129=some Qex:=rfl
theorem Qq9:ty lay 132=some Qey:=rfl
theorem Qra:ty lay 133=some Y1:=rfl
theorem Qrb:ty lay 134=some Qez:=rfl
theorem Qrc:ty lay 135=some QeA:=rfl
theorem Qrd:ty lay 137=some QeB:=rfl
theorem Qre:ty lay 138=some Y1:=rfl
theorem Qrf:ty lay 139=some QeC:=rfl
theorem Qrg:ty lay 140=some QeD:=rfl
theorem Qrh:ty lay 142=some QeE:=rfl
theorem Qri:ty lay 145=some OW:=rfl
theorem Qrj:ty lay 147=some QeF:=rfl
theorem Qrk:ty lay 150=some QeG:=rfl
theorem Qrl:ty lay 151=some QeH:=rfl
theorem Qrm:ty lay 153=some QeI:=rfl
theorem Qrn:ty lay 156=some QeJ:=rfl
theorem Qro:ty lay 157=some QeK:=rfl
theorem Qrp:ty lay 159=some QeL:=rfl
theorem Qrq:ty lay 164=some Y1:=rfl
theorem Qrr:ty lay 165=some Y1:=rfl
theorem Qrs:ty lay 168=some QeM:=rfl
theorem Qrt:ty lay 178=some QeN:=rfl
theorem Qru:ty lay 180=some QeO:=rfl
theorem Qrv:ty lay 185=some Hy:=rfl
theorem Qrw:ty lay 196=some QeP:=rfl
theorem Qrx:ty lay 198=some QeQ:=rfl
theorem Qry:ty lay 200=some QeR:=rfl
theorem Qrz:ty lay 204=some QeS:=rfl
theorem QrA:ty lay 206=some QeT:=rfl
theorem QrB:ty lay 208=some fH:=rfl
theorem QrC:ty lay 210=some fH:=rfl
theorem QrD:ty lay 211=some QeU:=rfl
theorem QrE:ty lay 212=some QeV:=rfl
theorem QrF:ty lay 213=some QeW:=rfl
theorem QrG:ty lay 215=some QeX:=rfl
theorem QrH:ty lay 217=some OV:=rfl
theorem QrI:ty lay 219=some QeY:=rfl
theorem QrJ:ty lay 236=some QeZ:=rfl
theorem QrK:ty lay 243=some Qe0:=rfl
theorem QrL:ty lay 245=some Qe1:=rfl
theorem QrM:ty lay 255=some Qe2:=rfl
theorem QrN:ty lay 257=some Qe3:=rfl
theorem QrO:ty lay 260=some Qe4:=rfl
theorem QrP:ty lay 284=some Qe5:=rfl
theorem QrQ:ty lay 289=some Qe6:=rfl
theorem QrR:ty lay 291=some Qe7:=rfl
theorem QrS:ty lay 296=some Y1:=rfl
theorem QrT:ty lay 303=some Y2:=rfl
theorem QrU:ty lay 311=some Qe8:=rfl
theorem QrV:ty lay 313=some Qe9:=rfl
theorem QrW:ty lay 315=some Qfa:=rfl
theorem QrX:ty lay 316=some Y1:=rfl
theorem QrY:ty lay 327=some Qfb:=rfl
theorem QrZ:ty lay 331=some Qfc:=rfl
theorem Qr0:ty lay 333=some Qfd:=rfl
theorem Qr1:ty lay 337=some Qfe:=rfl
theorem Qr2:ty lay 338=some Hy:=rfl
theorem Qr3:ty lay 341=some Qff:=rfl
theorem Qr4:ty lay 347=some Y1:=rfl
theorem Qr5:ty lay 349=some Qfg:=rfl
theorem Qr6:ty lay 358=some Qfh:=rfl
def Me:DG:=[(41,[0,0,0,0]),(53,[0,0,0]),(55,[0,0,1,0,0,0,0,0,0,0,0,0,0,0]),(57,[0,0]),(289,[0,0])]
def Qfj{P:Program}:∀{E:DG},E.map (λp=>qY P 60 p.1)=E.map (λp=>some p.2)->E.map (λp=>P.eqGuardType P.depth p.1)=E.map (λ_=>false)->E.map (λp=>match P.underlying p.1 with|some (.struct _)|some (.array _ _)=>true|_=>false)=E.map (λ_=>true)->Ba P E
 | [],_,_,_=>.nil _
 | (_,_)::_,c,b,a=>.cons ⟨(xC c).1,(xC b).1,(xC a).1⟩ (Qfj (xC c).2 (xC b).2 (xC a).2)
def Qr7:Ba prog Me:=Qfj τ τ τ
theorem E41:Ci Me 41=some [0,0,0,0]:=rfl
theorem E53:Ci Me 53=some [0,0,0]:=rfl
theorem E55:Ci Me 55=some [0,0,1,0,0,0,0,0,0,0,0,0,0,0]:=rfl
theorem E57:Ci Me 57=some [0,0]:=rfl
theorem Qsc:Ci Me 289=some [0,0]:=rfl
def cx:Cx:=⟨lay,Me⟩
def VK:q6 prog cx:=⟨CH,Qr7⟩
def fI:Qn prog 6:=call6
def pO:Qn prog 7:=call7
def fn8:Qn prog 8:=call8
def fJ:Qn prog 9:=call9
def Qsd:Qn prog 10:=call10
def Qse:Qn prog 11:=call11
def Qsf:Qn prog 12:=call12
def Qsg:Qn prog 13:=call13
def y0:Qn prog 14:=call14
def pP:Qn prog 15:=call15
def Qfl:Qn prog 16:=call16
def Qsh:Qn prog 17:=call17
def Qfm:Qn prog 24:=call24
def Qsi:Qn prog 25:=call25
def Qsj:Qn prog 26:=call26
def pQ:Qn prog 27:=call27
def Qsk:Qn prog 28:=call28
def Qfn:Qn prog 29:=call29
def Qsl:Qn prog 30:=call30
def fK:Qn prog 31:=call31
def Qsm:Qn prog 32:=call32
def Qsn:Qn prog 33:=call33
def Qso:Qn prog 34:=call34
def fM:Qn prog 35:=call35
def Qsp:Qn prog 36:=call36
def fN:Qn prog 37:=call37
def Qsq:Qn prog 38:=call38
def Qsr:Qn prog 39:=call39
def Qfo:Qn prog 40:=call40
def wR:Qn prog 41:=call41
def Hz:Qn prog 42:=call42
def Tu:Qn prog 43:=call43
def fO:Qn prog 44:=call44
def Mf:Qn prog 45:=call45
def Qss:Qn prog 46:=call46
def DU:Qn prog 47:=call47
def pR:Qn prog 51:=call51
def Qst:Qn prog 59:=call59
def Qsu:Qn prog 65:=call65
def Qfp:Qn prog 66:=call66
def Qfq:Qn prog 67:=call67
def Qsv:Qn prog 68:=call68
def pS:Qn prog 69:=call69
def Qfr:Qn prog 70:=call70
def Qsw:Qn prog 71:=call71
def Qfs:Qn prog 72:=call72
def Tv:Qn prog 73:=call73
def Qsx:Qn prog 74:=call74
def pT:Qn prog 75:=call75
def pU:Qn prog 76:=call76
def wS:Qn prog 77:=call77
def Qsy:Qn prog 78:=call78
def pV:Qn prog 79:=call79
def Qft:Qn prog 80:=call80
def Qsz:Qn prog 81:=call81
def QsA:Qn prog 82:=call82
def Qfu:Qn prog 83:=call83
def QsB:Qn prog 84:=call84
def Qfv:Qn prog 85:=call85
def fQ:Qn prog 86:=call86
def QsC:Qn prog 87:=call87
def HA:Qn prog 88:=call88
def Qfw:Qn prog 89:=call89
def QsD:Qn prog 90:=call90
def Qfx:Qn prog 91:=call91
def Qfy:Qn prog 92:=call92
def pW:Qn prog 93:=call93
def fR:Qn prog 94:=call94
def QsE:Qn prog 95:=call95
def QsF:Qn prog 98:=call98
def QsG:Qn prog 99:=call99
def QsH:Qn prog 102:=call102
def QsI:Qn prog 103:=call103
def Qfz:Qn prog 106:=call106
def wT:Qn prog 107:=call107
def QsJ:Qn prog 108:=call108
def QsK:Qn prog 109:=call109
def fS:Qn prog 110:=call110
def QfA:Qn prog 111:=call111
def Tw:Qn prog 112:=call112
def QsL:Qn prog 113:=call113
def QfB:Qn prog 114:=call114
def fT:Qn prog 115:=call115
def QsM:Qn prog 116:=call116
def QfC:Qn prog 117:=call117
def QsN:Qn prog 118:=call118
def QsO:Qn prog 119:=call119
def OY:Qn prog 120:=call120
def QsP:Qn prog 121:=call121
def fU:Qn prog 122:=call122
def QfD:Qn prog 123:=call123
def QsQ:Qn prog 124:=call124
def QsR:Qn prog 125:=call125
def QsS:Qn prog 126:=call126
def QsT:Qn prog 127:=call127
def QsU:Qn prog 128:=call128
def QsV:Qn prog 129:=call129
def QsW:Qn prog 130:=call130
def QsX:Qn prog 131:=call131
def QsY:Qn prog 132:=call132
def QfE:Qn prog 133:=call133
def pX:Qn prog 134:=call134
def QsZ:Qn prog 137:=call137
def Qs0:Qn prog 138:=call138
def Qs1:Qn prog 139:=call139
def fV:Qn prog 140:=call140
def QfF:Qn prog 141:=call141
def Qs2:Qn prog 143:=call143
def Qs3:Qn prog 144:=call144
def Qs4:Qn prog 145:=call145
def Qs5:Qn prog 146:=call146
def QfG:Qn prog 147:=call147
def QfH:Qn prog 149:=call149
def QfI:Qn prog 150:=call150
def Qs6:Qn prog 151:=call151
def Qs7:Qn prog 152:=call152
def Qs8:Qn prog 153:=call153
def Qs9:Qn prog 154:=call154
def Qta:Qn prog 155:=call155
def QfJ:Qn prog 156:=call156
def Qtb:Qn prog 157:=call157
def Qtc:Qn prog 158:=call158
def Qtd:Qn prog 159:=call159
def pY:Qn prog 160:=call160
def Qte:Qn prog 161:=call161
def Qtf:Qn prog 162:=call162
def Qtg:Qn prog 163:=call163
def pZ:Qn prog 164:=call164
def Qth:Qn prog 165:=call165
def Qti:Qn prog 166:=call166
def Qtj:Qn prog 167:=call167
def Qtk:Qn prog 168:=call168
def Qtl:Qn prog 169:=call169
def Qtm:Qn prog 170:=call170
def Qtn:Qn prog 171:=call171
def Qto:Qn prog 172:=call172
def p5:Qn prog 174:=call174
def QfK:Qn prog 175:=call175
def Qtp:Qn prog 176:=call176
def QfL:Qn prog 178:=call178
def Qtq:Qn prog 179:=call179
def Qtr:Qn prog 180:=call180
def Qts:Qn prog 181:=call181
def Qtt:Qn prog 182:=call182
def Qtu:Qn prog 183:=call183
def Qtv:Qn prog 184:=call184
def Qtw:Qn prog 185:=call185
def QfM:Qn prog 186:=call186
def QfN:Qn prog 187:=call187
def fW:Qn prog 188:=call188
def OZ:Qn prog 189:=call189
def Qtx:Qn prog 190:=call190
def p6:Qn prog 191:=call191
def Qty:Qn prog 202:=call202
def QfO:Qn prog 203:=call203
def p7:Qn prog 204:=call204
def QfP:Qn prog 205:=call205
def fX:Qn prog 206:=call206
def fY:Qn prog 207:=call207
def p8:Qn prog 208:=call208
def QfQ:Qn prog 209:=call209
def p9:Qn prog 210:=call210
def QfR:Qn prog 211:=call211
def rb:Qn prog 212:=call212
def QfS:Qn prog 213:=call213
def rf:Qn prog 214:=call214
def Qtz:Qn prog 215:=call215
def QtA:Qn prog 216:=call216
def QtB:Qn prog 217:=call217
def QtC:Qn prog 218:=call218
def fZ:Qn prog 219:=call219
def QtD:Qn prog 220:=call220
def QfT:Qn prog 221:=call221
def QtE:Qn prog 222:=call222
def QfU:Qn prog 223:=call223
def QtF:Qn prog 224:=call224
def gh:Qn prog 225:=call225
def kx:Qn prog 226:=call226
def QfV:Qn prog 227:=call227
def QfW:Qn prog 228:=call228
def O1:Qn prog 229:=call229
def rh:Qn prog 230:=call230
def QtG:Qn prog 231:=call231
def gi:Qn prog 232:=call232
def QfX:Qn prog 233:=call233
def QtH:Qn prog 234:=call234
def QtI:Qn prog 236:=call236
def QtJ:Qn prog 237:=call237
def QfY:Qn prog 241:=call241
def ri:Qn prog 242:=call242
def QfZ:Qn prog 243:=call243
def Tz:Qn prog 244:=call244
def QtK:Qn prog 245:=call245
def DV:Qn prog 246:=call246
def Qf0:Qn prog 247:=call247
def Qf1:Qn prog 248:=call248
def QtL:Qn prog 249:=call249
def Qf2:Qn prog 250:=call250
def QtM:Qn prog 251:=call251
def gj:Qn prog 252:=call252
def Qf3:Qn prog 253:=call253
def rj:Qn prog 254:=call254
def QtN:Qn prog 255:=call255
def QtO:Qn prog 256:=call256
def QtP:Qn prog 257:=call257
def QtQ:Qn prog 258:=call258
def QtR:Qn prog 259:=call259
def QtS:Qn prog 260:=call260
def QtT:Qn prog 261:=call261
def QtU:Qn prog 262:=call262
def Qf4:Qn prog 264:=call264
def QtV:Qn prog 265:=call265
def Qf5:Qn prog 266:=call266
def rk:Qn prog 267:=call267
def vH:Qn prog 268:=call268
def FM:Qn prog 269:=call269
def rn:Qn prog 270:=call270
def Qf6:Qn prog 271:=call271
def rq:Qn prog 272:=call272
def ru:Qn prog 273:=call273
def O3:Qn prog 274:=call274
def rv:Qn prog 275:=call275
attribute [go_sem] cx L1 L2 L3 L4 L5 L9 L12 L17 L20 L21 L22 L23 L24 L25 L26 L27 L28 L29 L30 L31 L32 L34 L35 L36 L37 L38 L39 L41 L42 L43 L44 L45 L46 L47 L49 L50 L51 L52 L53 L54 L55 L56 L57 L58 L59 L60 L61 L62 L63 L64 L65 L67 L68 L69 L71 L73 L74 L76 L78 L79 L80 L81 L82 L84 L85 L88 L90 L91 L94 L97 L98 QqU QqV QqW QqX QqY QqZ Qq0 Qq1 Qq2 Qq3 Qq4 Qq5 Qq6 Qq7 Qq8 Qq9 Qra Qrb Qrc Qrd Qre Qrf Qrg Qrh Qri Qrj Qrk Qrl Qrm Qrn Qro Qrp Qrq Qrr Qrs Qrt Qru Qrv Qrw Qrx Qry Qrz QrA QrB QrC QrD QrE QrF QrG QrH QrI QrJ QrK QrL QrM QrN QrO QrP QrQ QrR QrS QrT QrU QrV QrW QrX QrY QrZ Qr0 Qr1 Qr2 Qr3 Qr4 Qr5 Qr6 E41 E53 E55 E57 Qsc
def Qh{a c}{b:Start}{Q}{k}{s}(d:a<=b.w.heap.size)(h:hx prog a b Q cx c 200 k s):Qw prog a c b Q k .normal s:=LZ VK d 200 h
def Zd{a c}{b:Start}{K}{l}{s}(d:a<=b.w.heap.size)(h:Vc prog a b cx c K l s):AX prog a c b K l s:=Qpo VK d h
end Go.Fg.X
namespace Go.Fg
open Go.RowKit (Below)
def Rd(P:Program)(t:TypeId){f:Type}(g:f->Prop)(b:f->List D):Prop:=
 ∀{H:Type} {h:TypeId × Value->H} {w:World} {d:Nat} {c:Bool} (m:Nat) (e:List Value) (x:DataW H × List MemPlace),DataW.trod h P w d (λ_=>true) c m t e=some x ->
  ∃a,g a/\(b a).length=e.length/\∀j,j<e.length->Cl (λ_=>True) w (nth (b a) j) (Q5 e j)
def Rd.int{P:Program}{t:TypeId}(k)(d:P.underlying t=some (.int k)):Rd P t (λn:Int=>(Lit.int k n).wf=true) (λn=>[.raw (.int k n)]):=by
 intro H f w b a m g x h;obtain⟨n,rfl,_,c⟩:=DataW.trod_int d h;refine⟨n,c,rfl,λj e=>?_⟩;obtain rfl:j=0:=by simpa using e
 exact .raw _
def Rd.bool{P:Program}{t:TypeId}(c:P.underlying t=some .bool):Rd P t (λ_:Bool=>True) (λn=>[.raw (.bool n)]):=by
 intro H e w b a m f x h;obtain⟨n,rfl,_⟩:=DataW.trod_bool c h;refine⟨n,trivial,rfl,λj d=>?_⟩;obtain rfl:j=0:=by simpa using d
 exact .raw _
def Rd.map{P}{t:TypeId}{l k:Type}{c}{b}(r:Rd P t c b)(g:l->k){f}{d}(e:∀a,d (g a)=b a)(n:∀a,c a->f (g a)):Rd P t f d:=by
 intro H u w j i m s x h;obtain⟨a,q,p,o⟩:=r m s x h;exact⟨g a,n a q,by rw[e];exact p,by rw[e];exact o⟩
def KR(P:Program)(l:List Field)(b h:Nat){i:Type}(k:i->Prop)(c:i->List D):Prop:=
 ∀{H:Type} {n:TypeId × Value->H} {w:World} {e:Nat} {d:Bool} (m:Nat) (g:List Value),g.length=h ->
  (∀f∈l,∃x,DataW.trod n P w e (λ_=>true) d m f.type ((g.drop f.offset).take (P.cellsOf f.type))=some x) ->
  ∃a,k a/\b+(c a).length=h/\∀j,b+j<h->Cl (λ_=>True) w (nth (c a) j) (Q5 g (b+j))
def KR.nil{P}{a}:KR P [] a a (λ_:Unit=>True) (λ_=>[]):=by
 intro H f w c b m g d h;exact⟨(),trivial,rfl,λj e=>ω⟩
def KR.cons{P}{f:Field}{t}{d l p}{E C:Type}{q}{c}{y}{e}(r:Rd P f.type q c)(F:KR P t l p y e)
  (I:f.offset=d) (S:d+P.cellsOf f.type=l) (Q:l<=p):KR P (f::t) d p (λi:E × C=>q i.1/\y i.2) (λi=>c i.1++e i.2):=by
 intro H T w B z m n J h;obtain⟨x,hx⟩:=h f σ;obtain⟨a,O,v,u⟩:=r m _ x hx;obtain⟨b,N,U,M⟩:=F m n J λg K=>h g (by simp[K]);have k:((n.drop f.offset).take (P.cellsOf f.type)).length=P.cellsOf f.type:=ξ;rw[k]at v u;refine⟨(a,b),⟨O,N⟩,ξ,λj R=>?_⟩;by_cases s:j<P.cellsOf f.type
 .have:=u j s;have o:nth (c a++e b) j=nth (c a) j:=oJ ω;have L:Q5 ((n.drop f.offset).take (P.cellsOf f.type)) j=Q5 n (d+j):=by
   simp only[Q5,Q7,X7,Qf s,GO,I]
  show Cl _ w (nth (c a++e b) j) _;rw[o,<- L];exact this
 .have o:nth (c a++e b) j=nth (e b) (j - P.cellsOf f.type):=by rw[oK ω,v]
  have:=M (j - P.cellsOf f.type) ω;show Cl _ w (nth (c a++e b) j) _;rw[o,show d+j=l+(j - P.cellsOf f.type) by omega];exact this
def Rd.struct{P:Program}{t:TypeId}{c:Array Field}{Zw:Nat}{e:Type}{k:e->Prop}{b:e->List D}(s:P.underlying t=some (.struct c))(F:P.cellsOf t=Zw)(r:KR P c.toList 0 Zw k b):Rd P t k b:=by
 intro H I w o n m y x h;obtain⟨g,q,rfl,_,C,p,v⟩:=DataW.trod_struct s h;obtain⟨a,B,J,z⟩:=r q y ω λf d=>by
  obtain⟨i,u⟩:=GP d;have l:c[i]? = some f:=by simpa using u
  have Qc:i<g.length:=by rw[p];exact(WO.1 l).1
  exact⟨g[i],by rw[v i f l];exact QT Qc⟩
 exact⟨a,B,ω,λj E=>by have:=z j ω;rwa [JM]at this⟩
def qx(P:Program)(e:TypeId)(i n:Nat){g:Type}(h:g->Prop)(b:g->List D):Prop:=
 ∀{H:Type} {l:TypeId × Value->H} {w:World} {d:Nat} {c:Bool} (m:Nat) (f:List Value),f.length=n*P.cellsOf e ->
  (∀k,k<n->∃x,DataW.trod l P w d (λ_=>true) c m e ((f.drop (k*P.cellsOf e)).take (P.cellsOf e))=some x) ->
  ∃a,h a/\i*P.cellsOf e+(b a).length=n*P.cellsOf e/\∀j,i*P.cellsOf e+j<n*P.cellsOf e->Cl (λ_=>True) w (nth (b a) j) (Q5 f (i*P.cellsOf e+j))
def qx.nil{P}{e:TypeId}{n}:qx P e n n (λ_:Unit=>True) (λ_=>[]):=by
 intro H f w b a m g c h;exact⟨(),trivial,rfl,λj d=>ω⟩
def qx.cons{P}{e:TypeId}{i n}{C B:Type}{o}{c}{v}{d}(p:i<n)(r:Rd P e o c)(E:qx P e (i+1) n v d):
  qx P e i n (λf:C × B=>o f.1/\v f.2) (λf=>c f.1++d f.2):=by
 intro H O w z y m k I h;obtain⟨x,hx⟩:=h i p;obtain⟨a,M,u,t⟩:=r m _ x hx;obtain⟨b,L,K,s⟩:=E m k I h;have F:=Vm (P.cellsOf e) (show i+1<=n from p);rw[Kh,Ll]at F;rw[Kh,Ll]at K s;have g:((k.drop (i*P.cellsOf e)).take (P.cellsOf e)).length=P.cellsOf e:=ξ;rw[g]at u t;refine⟨(a,b),⟨M,L⟩,ξ,λj N=>?_⟩;by_cases q:j<P.cellsOf e
 .have:=t j q;have l:nth (c a++d b) j=nth (c a) j:=oJ ω;have J:Q5 ((k.drop (i*P.cellsOf e)).take (P.cellsOf e)) j=Q5 k (i*P.cellsOf e+j):=by
   simp only[Q5,Q7,X7,Qf q,GO]
  show Cl _ w (nth (c a++d b) j) _;rw[l,<- J];exact this
 .have l:nth (c a++d b) j=nth (d b) (j - P.cellsOf e):=by rw[oK ω,u]
  have:=s (j - P.cellsOf e) ω;show Cl _ w (nth (c a++d b) j) _;rw[l,show i*P.cellsOf e+j=i*P.cellsOf e+P.cellsOf e+(j - P.cellsOf e) by omega];exact this
def Rd.array{P:Program}{t e:TypeId}{n:Nat}{c:Type}{f:c->Prop}{b:c->List D}(p:P.underlying t=some (.array n e))(E:P.cellsOf t=n*P.cellsOf e)(r:qx P e 0 n f b):Rd P t f b:=by
 intro H F w l i m u x h;obtain⟨d,o,rfl,_,B,z,s⟩:=DataW.trod_array p h;obtain⟨a,y,v,g⟩:=r o u ω λk q=>by
  have Qc:k<d.length:=ω;exact⟨d[k],by rw[s k q];exact QT Qc⟩
 simp only[E9,JM]at v g;exact⟨a,y,ω,λj C=>g j ω⟩
def Rd.slice{P:Program}{t e:TypeId}{B:Type}[Inhabited B]{C}{g}(k)(O:P.underlying t=some (.slice e))(R:P.cellsOf e=k)(U:0<k)(r:Rd P e C g):
  Rd P t (λl:List B=>l.length<=maxLen/\∀a∈l,C a) (λl=>[.imm k l.length λi=>g (l.getD i default)]):=by
 intro H en w M L m cs x h;rcases Deep.open_slice O h with ⟨rfl,_⟩|⟨a,c,J,m,N,D',Pl,rfl,hb,Q,hm,T,_,I⟩
 .refine⟨[],⟨σ,σ⟩,rfl,λj p=>?_⟩;obtain rfl:j=0:=by simpa using p
  exact .imm _ _ _ _ _ 0 0 (λ_ _=>Go.undef) (λh=>by simp at h) σ (λi d=>by simp at d) (λi j d=>by simp at d) (λi j d=>by simp at d)
 .simp only[VB]at T;have F:∀i,∃u:B × List Value,i<c->C u.1/\(g u.1).length=k/\u.2.length=k/\(∀j,j<k->w.cell? (a.add (i*k+j))=some (Q5 u.2 j))/\∀j,j<k->Cl (λ_=>True) w (nth (g u.1) j) (Q5 u.2 j):=λi=>by
   by_cases d:i<c
   .obtain⟨q,s,z⟩:=I i ω;obtain⟨x,hx,Y,S⟩:=r N q _ z;obtain⟨_,n,W⟩:=World.cells?_some s;have V:q.length=k:=ω;refine⟨(x,q),λ_=>⟨hx,(by show (g x).length=k;omega),V,λj p=>?_,λj p=>S j ω⟩⟩;have:=W j ω;rw[Deep.add_add,R]at this;rw[this];simp[Q5,Q7,QT (show j<q.length from ω)]
   .exact⟨(default,[]),λh=>absurd h d⟩
  obtain⟨f,v⟩:=Classical.axiomOfChoice F;have n:((List.range c).map λi=>(f i).1).length=c:=σ;have K:∀i,i<c->((List.range c).map λi=>(f i).1).getD i default=(f i).1:=λi d=>by simp[Q7,d]
  refine⟨(List.range c).map λi=>(f i).1,⟨by rw[n];omega,λx hx=>?_⟩,rfl,λj p=>?_⟩
  .obtain⟨i,d,rfl⟩:=JA.1 hx;exact(v i (Sj.1 d)).1
  .obtain rfl:j=0:=by simpa using p
   show Cl _ w (.imm k ((List.range c).map λi=>(f i).1).length λi=>g (((List.range c).map λi=>(f i).1).getD i default)) (.slice (some a) c J);rw[n];have y:0<c->a=⟨a.block,a.off,none⟩:=λE=>by
    have s:=(v 0 E).2.2.2.1 0 U;have z:=World.cell?_spot s;obtain⟨b,o,Z⟩:=a;simp[Addr.add]at z;subst z;rfl
   refine .imm _ _ _ _ _ a.block a.off (λi j=>Q5 (f i).2 j) (λE=>by rw[<- y E]) Q (λi d=>?_) (λi j d p=>⟨trivial,?_⟩) (λi j d p=>?_)
   .rw[K i d];exact(v i d).2.1
   .have s:=(v i d).2.2.2.1 j p;rw[y ω]at s;rw[<- s];congr 1;simp only[Addr.add];split<;>simp_all
   .rw[K i d];exact(v i d).2.2.2.2 j p
def Rd.many{P:Program}{t:TypeId}{j:Type}{k:j->Prop}{b:j->List D}(r:Rd P t k b){H:Type}{s:TypeId × Value->H}{w:World}{g:Nat}{f:Bool}{c:Array Value}{d:DataW H}{n:List MemPlace}
  (h:DataW.Trod s P w g (λ_=>true) f t (.agg c) d n):∃a,k a/\Cl (λ_=>True) w (.agg (b a)) (.agg c):=by
 obtain⟨m,l⟩:=h;have e:(Value.agg c).cells.toList=c.toList:=rfl;rw[e]at l;obtain⟨a,q,p,o⟩:=r m _ _ l;have:=Cl.agg (N:=λ_=>True) (w:=w) (b a) c.toList p.symm (λi u=>o i ω);exact⟨a,q,by simpa using this⟩
def QtX{P}{f}{c:List D}(h:Q9 P f c λd h=>d=.raw (.bool true)/\h=[])(W)(a:List Value)(k:a.length=c.length)(p:∀i,i<c.length->Cl (λ_=>True) W (nth c i) (Q5 a i)):
  Calls P f a.toArray W λe g=>e=.returned (.bool true)/\Below W.heap.size W g:=by
 refine(h (λ_=>True) W.heap.size W [] a (Qs _) (λ_ _=>trivial) ⟨rfl,λl t b q s e=>by simp at e,λl o e=>by simp at e,λl o b q e=>by simp at e⟩ k (λi m=>.cl _ _ ((p i m).mono λb _ _=>⟨⟨trivial,λl q e=>by simp at e⟩,rfl⟩))).mono λe g n=>?_;obtain⟨v,d,u,w,rfl,⟨rfl,rfl⟩,_,j,_,r⟩:=n;rw[JJ j];exact⟨rfl,r⟩
end Go.Fg
namespace Go.Fg.X
open Go.Proofs Go.Fg
open Go.Proofs.Tryz
def Qf9(k:IntKind)(l:List Int):Nat->List D:=λi=>[.raw (.int k (l.getD i 0))]
@[go_sem] theorem QtY(k)(l:List Int)(i):Qf9 k l i=[.raw (.int k (l.getD i 0))]:=rfl
structure Cf where
 t:Int
 ZJ:Int
instance:Inhabited Cf:=⟨⟨0,0⟩⟩
@[go_sem] def Cf.cells(x:Cf):List D:=[.raw (.int .i64 x.t),.raw (.int .i64 x.ZJ)]
def Cf.rows(l:List Cf):Nat->List D:=λi=>(l.getD i default).cells
@[go_sem] theorem Cf.xY(l:List Cf)(i):Cf.rows l i=(l.getD i default).cells:=rfl
def Cf.Ok(x:Cf):Prop:=(Lit.int .i64 x.t).wf=true/\(Lit.int .i64 x.ZJ).wf=true/\True
def QtZ:Rd prog 23 Cf.Ok Cf.cells:=
 Rd.map (Rd.struct (Zw:=2) underlying23 τ (KR.cons (Rd.int .i64 underlying3) (KR.cons (Rd.int .i64 underlying3) KR.nil rfl τ π) rfl τ π)) (λp=>⟨p.1,p.2.1⟩) (λ_=>rfl) (λ_ h=>⟨h.1,h.2.1,trivial⟩)
structure Cv where
 m1:Int
 d:Int
 m2:Int
instance:Inhabited Cv:=⟨⟨0,0,0⟩⟩
@[go_sem] def Cv.cells(x:Cv):List D:=[.raw (.int .u64 x.m1),.raw (.int .u64 x.d),.raw (.int .u64 x.m2)]
def Cv.rows(l:List Cv):Nat->List D:=λi=>(l.getD i default).cells
@[go_sem] theorem Cv.xY(l:List Cv)(i):Cv.rows l i=(l.getD i default).cells:=rfl
def Cv.Ok(x:Cv):Prop:=(Lit.int .u64 x.m1).wf=true/\(Lit.int .u64 x.d).wf=true/\(Lit.int .u64 x.m2).wf=true/\True
def ry:Rd prog 53 Cv.Ok Cv.cells:=
 Rd.map (Rd.struct (Zw:=3) underlying53 τ (KR.cons (Rd.int .u64 underlying38) (KR.cons (Rd.int .u64 underlying38) (KR.cons (Rd.int .u64 underlying38) KR.nil rfl τ π) rfl τ π) rfl τ π)) (λp=>⟨p.1,p.2.1,p.2.2.1⟩) (λ_=>rfl) (λ_ h=>⟨h.1,h.2.1,h.2.2.1,trivial⟩)
structure Pk where
 iD:Int
 len:Int
 xZ:Int
 x5:Int
 x6:Int
 x7:Int
instance:Inhabited Pk:=⟨⟨0,0,0,0,0,0⟩⟩
@[go_sem] def Pk.cells(x:Pk):List D:=[.raw (.int .u64 x.iD),.raw (.int .i64 x.len),.raw (.int .u16 x.xZ),.raw (.int .u16 x.x5),.raw (.int .u16 x.x6),.raw (.int .u16 x.x7)]
def Pk.rows(l:List Pk):Nat->List D:=λi=>(l.getD i default).cells
@[go_sem] theorem Pk.xY(l:List Pk)(i):Pk.rows l i=(l.getD i default).cells:=rfl
def Pk.Ok(x:Pk):Prop:=(Lit.int .u64 x.iD).wf=true/\(Lit.int .i64 x.len).wf=true/\(Lit.int .u16 x.xZ).wf=true/\(Lit.int .u16 x.x5).wf=true/\(Lit.int .u16 x.x6).wf=true/\(Lit.int .u16 x.x7).wf=true/\True
def Qt0:Rd prog 43 Pk.Ok Pk.cells:=
 Rd.map (Rd.struct (Zw:=6) underlying43 τ (KR.cons (Rd.int .u64 underlying38) (KR.cons (Rd.int .i64 underlying3) (KR.cons (Rd.array underlying41 τ (qx.cons π (Rd.int .u16 underlying39) (qx.cons π (Rd.int .u16 underlying39) (qx.cons π (Rd.int .u16 underlying39) (qx.cons π (Rd.int .u16 underlying39) qx.nil))))) KR.nil rfl τ π) rfl τ π) rfl τ π)) (λp=>⟨p.1,p.2.1,p.2.2.1.1,p.2.2.1.2.1,p.2.2.1.2.2.1,p.2.2.1.2.2.2.1⟩) (λ_=>rfl) (λ_ h=>⟨h.1,h.2.1,h.2.2.1.1,h.2.2.1.2.1,h.2.2.1.2.2.1,h.2.2.1.2.2.2.1,trivial⟩)
structure Qq where
 iD:Int
 parent:Int
 leaf:Bool
 rt:Cv
 ls:Cv
 ul:Cv
 Z4:Int
 bytes:Int
instance:Inhabited Qq:=⟨⟨0,0,false,default,default,default,0,0⟩⟩
@[go_sem] def Qq.cells(x:Qq):List D:=[.raw (.int .i64 x.iD),.raw (.int .i64 x.parent),.raw (.bool x.leaf),.raw (.int .u64 x.rt.m1),.raw (.int .u64 x.rt.d),.raw (.int .u64 x.rt.m2),.raw (.int .u64 x.ls.m1),.raw (.int .u64 x.ls.d),.raw (.int .u64 x.ls.m2),.raw (.int .u64 x.ul.m1),.raw (.int .u64 x.ul.d),.raw (.int .u64 x.ul.m2),.raw (.int .i64 x.Z4),.raw (.int .i64 x.bytes)]
def Qq.rows(l:List Qq):Nat->List D:=λi=>(l.getD i default).cells
@[go_sem] theorem Qq.xY(l:List Qq)(i):Qq.rows l i=(l.getD i default).cells:=rfl
def Qq.Ok(x:Qq):Prop:=(Lit.int .i64 x.iD).wf=true/\(Lit.int .i64 x.parent).wf=true/\True/\Cv.Ok x.rt/\Cv.Ok x.ls/\Cv.Ok x.ul/\(Lit.int .i64 x.Z4).wf=true/\(Lit.int .i64 x.bytes).wf=true/\True
def Qt1:Rd prog 55 Qq.Ok Qq.cells:=
 Rd.map (Rd.struct (Zw:=14) underlying55 τ (KR.cons (Rd.int .i64 underlying3) (KR.cons (Rd.int .i64 underlying3) (KR.cons (Rd.bool underlying4) (KR.cons ry (KR.cons ry (KR.cons ry (KR.cons (Rd.int .i64 underlying3) (KR.cons (Rd.int .i64 underlying3) KR.nil rfl τ π) rfl τ π) rfl τ π) rfl τ π) rfl τ π) rfl τ π) rfl τ π) rfl τ π)) (λp=>⟨p.1,p.2.1,p.2.2.1,p.2.2.2.1,p.2.2.2.2.1,p.2.2.2.2.2.1,p.2.2.2.2.2.2.1,p.2.2.2.2.2.2.2.1⟩) (λ_=>rfl) (λ_ h=>⟨h.1,h.2.1,h.2.2.1,h.2.2.2.1,h.2.2.2.2.1,h.2.2.2.2.2.1,h.2.2.2.2.2.2.1,h.2.2.2.2.2.2.2.1,trivial⟩)
structure JV where
 kind:Int
 cls:Qq
instance:Inhabited JV:=⟨⟨0,default⟩⟩
@[go_sem] def JV.cells(x:JV):List D:=[.raw (.int .i64 x.kind),.raw (.int .i64 x.cls.iD),.raw (.int .i64 x.cls.parent),.raw (.bool x.cls.leaf),.raw (.int .u64 x.cls.rt.m1),.raw (.int .u64 x.cls.rt.d),.raw (.int .u64 x.cls.rt.m2),.raw (.int .u64 x.cls.ls.m1),.raw (.int .u64 x.cls.ls.d),.raw (.int .u64 x.cls.ls.m2),.raw (.int .u64 x.cls.ul.m1),.raw (.int .u64 x.cls.ul.d),.raw (.int .u64 x.cls.ul.m2),.raw (.int .i64 x.cls.Z4),.raw (.int .i64 x.cls.bytes)]
def JV.rows(l:List JV):Nat->List D:=λi=>(l.getD i default).cells
@[go_sem] theorem JV.xY(l:List JV)(i):JV.rows l i=(l.getD i default).cells:=rfl
def JV.Ok(x:JV):Prop:=(Lit.int .i64 x.kind).wf=true/\Qq.Ok x.cls/\True
def Qt2:Rd prog 219 JV.Ok JV.cells:=
 Rd.map (Rd.struct (Zw:=15) underlying219 τ (KR.cons (Rd.int .i64 underlying3) (KR.cons Qt1 KR.nil rfl τ π) rfl τ π)) (λp=>⟨p.1,p.2.1⟩) (λ_=>rfl) (λ_ h=>⟨h.1,h.2.1,trivial⟩)
structure Ke where
 Bo:Int
 Bp:Int
 FN:Int
 DW:Int
 Mg:Int
 Mh:Int
 Mi:Int
 FO:Int
 cls:Int
instance:Inhabited Ke:=⟨⟨0,0,0,0,0,0,0,0,0⟩⟩
@[go_sem] def Ke.cells(x:Ke):List D:=[.raw (.int .u16 x.Bo),.raw (.int .u16 x.Bp),.raw (.int .u16 x.FN),.raw (.int .u16 x.DW),.raw (.int .u16 x.Mg),.raw (.int .u16 x.Mh),.raw (.int .u16 x.Mi),.raw (.int .u16 x.FO),.raw (.int .i64 x.cls)]
def Ke.rows(l:List Ke):Nat->List D:=λi=>(l.getD i default).cells
@[go_sem] theorem Ke.xY(l:List Ke)(i):Ke.rows l i=(l.getD i default).cells:=rfl
def Ke.Ok(x:Ke):Prop:=(Lit.int .u16 x.Bo).wf=true/\(Lit.int .u16 x.Bp).wf=true/\(Lit.int .u16 x.FN).wf=true/\(Lit.int .u16 x.DW).wf=true/\(Lit.int .u16 x.Mg).wf=true/\(Lit.int .u16 x.Mh).wf=true/\(Lit.int .u16 x.Mi).wf=true/\(Lit.int .u16 x.FO).wf=true/\(Lit.int .i64 x.cls).wf=true/\True
def Qt3:Rd prog 150 Ke.Ok Ke.cells:=
 Rd.map (Rd.struct (Zw:=9) underlying150 τ (KR.cons (Rd.array underlying41 τ (qx.cons π (Rd.int .u16 underlying39) (qx.cons π (Rd.int .u16 underlying39) (qx.cons π (Rd.int .u16 underlying39) (qx.cons π (Rd.int .u16 underlying39) qx.nil))))) (KR.cons (Rd.array underlying41 τ (qx.cons π (Rd.int .u16 underlying39) (qx.cons π (Rd.int .u16 underlying39) (qx.cons π (Rd.int .u16 underlying39) (qx.cons π (Rd.int .u16 underlying39) qx.nil))))) (KR.cons (Rd.int .i64 underlying3) KR.nil rfl τ π) rfl τ π) rfl τ π)) (λp=>⟨p.1.1,p.1.2.1,p.1.2.2.1,p.1.2.2.2.1,p.2.1.1,p.2.1.2.1,p.2.1.2.2.1,p.2.1.2.2.2.1,p.2.2.1⟩) (λ_=>rfl) (λ_ h=>⟨h.1.1,h.1.2.1,h.1.2.2.1,h.1.2.2.2.1,h.2.1.1,h.2.1.2.1,h.2.1.2.2.1,h.2.1.2.2.2.1,h.2.2.1,trivial⟩)
structure Je where
 kind:Int
 changes:(List JV)
 rules:(List Ke)
 ZG:Pk
 Wn:Int
instance:Inhabited Je:=⟨⟨0,[],[],default,0⟩⟩
@[go_sem] def Je.cells(x:Je):List D:=[.raw (.int .i64 x.kind),.imm 15 x.changes.length (JV.rows x.changes),.imm 9 x.rules.length (Ke.rows x.rules),.raw (.int .u64 x.ZG.iD),.raw (.int .i64 x.ZG.len),.raw (.int .u16 x.ZG.xZ),.raw (.int .u16 x.ZG.x5),.raw (.int .u16 x.ZG.x6),.raw (.int .u16 x.ZG.x7),.raw (.int .u64 x.Wn)]
def Je.rows(l:List Je):Nat->List D:=λi=>(l.getD i default).cells
@[go_sem] theorem Je.xY(l:List Je)(i):Je.rows l i=(l.getD i default).cells:=rfl
def Je.Ok(x:Je):Prop:=(Lit.int .i64 x.kind).wf=true/\(x.changes.length<=maxLen/\∀a∈x.changes,JV.Ok a)/\(x.rules.length<=maxLen/\∀a∈x.rules,Ke.Ok a)/\Pk.Ok x.ZG/\(Lit.int .u64 x.Wn).wf=true/\True
def Qt4:Rd prog 45 Je.Ok Je.cells:=
 Rd.map (Rd.struct (Zw:=10) underlying45 τ (KR.cons (Rd.int .i64 underlying3) (KR.cons (Rd.slice 15 underlying36 τ π Qt2) (KR.cons (Rd.slice 9 underlying37 τ π Qt3) (KR.cons Qt0 (KR.cons (Rd.int .u64 underlying38) KR.nil rfl τ π) rfl τ π) rfl τ π) rfl τ π) rfl τ π)) (λp=>⟨p.1,p.2.1,p.2.2.1,p.2.2.2.1,p.2.2.2.2.1⟩) (λ_=>rfl) (λ_ h=>⟨h.1,h.2.1,h.2.2.1,h.2.2.2.1,h.2.2.2.2.1,trivial⟩)
structure YU where
 config:Cf
 ops:(List Je)
instance:Inhabited YU:=⟨⟨default,[]⟩⟩
@[go_sem] def YU.cells(x:YU):List D:=[.raw (.int .i64 x.config.t),.raw (.int .i64 x.config.ZJ),.imm 10 x.ops.length (Je.rows x.ops)]
def YU.rows(l:List YU):Nat->List D:=λi=>(l.getD i default).cells
@[go_sem] theorem YU.xY(l:List YU)(i):YU.rows l i=(l.getD i default).cells:=rfl
def YU.Ok(x:YU):Prop:=Cf.Ok x.config/\(x.ops.length<=maxLen/\∀a∈x.ops,Je.Ok a)/\True
def Qt5:Rd prog 26 YU.Ok YU.cells:=
 Rd.map (Rd.struct (Zw:=3) underlying26 τ (KR.cons QtZ (KR.cons (Rd.slice 10 underlying24 τ π Qt4) KR.nil rfl τ π) rfl τ π)) (λp=>⟨p.1,p.2.1⟩) (λ_=>rfl) (λ_ h=>⟨h.1,h.2.1,trivial⟩)
@[go_sem] def Qb(n:Int):D:=.raw (.int .i64 n)
@[go_sem] def QZ(b:Bool):D:=.raw (.bool b)
@[go_sem] def ints(l:List Int):D:=.imm 1 l.length (Qf9 .i64 l)
structure Ev where
 op:Int
 Zy:Bool
 real:Bool
 at_:Int
 done:Int
 cls:Int
 id:Int
 len:Int
 h0:Int
 h1:Int
 h2:Int
 h3:Int
instance:Inhabited Ev:=⟨⟨0,false,false,0,0,0,0,0,0,0,0,0⟩⟩
@[go_sem] def Ev.cells(e:Ev):List D:=[.raw (.int .i64 e.op),.raw (.bool e.Zy),.raw (.bool e.real),.raw (.int .u64 e.at_),.raw (.int .u64 e.done),.raw (.int .i64 e.cls),.raw (.int .u64 e.id),.raw (.int .i64 e.len),.raw (.int .u16 e.h0),.raw (.int .u16 e.h1),.raw (.int .u16 e.h2),.raw (.int .u16 e.h3)]
def Ev.Ok(x:Ev):Prop:=(Lit.int .i64 x.op).wf=true/\(Lit.int .u64 x.at_).wf=true/\(Lit.int .u64 x.done).wf=true/\(Lit.int .i64 x.cls).wf=true/\(Lit.int .u64 x.id).wf=true/\(Lit.int .i64 x.len).wf=true/\(Lit.int .u16 x.h0).wf=true/\(Lit.int .u16 x.h1).wf=true/\(Lit.int .u16 x.h2).wf=true/\(Lit.int .u16 x.h3).wf=true
def Ev.rows(l:List Ev):Nat->List D:=λi=>(l.getD i default).cells
@[go_sem] theorem Ev.xY(l:List Ev)(i):Ev.rows l i=(l.getD i default).cells:=rfl
@[go_sem] def wU(l:List Ev):D:=.imm 12 l.length (Ev.rows l)
def wrap64{n}(b:-9223372036854775808<=n)(a:n<=9223372036854775807):IntKind.i64.wrap n=n:=by
 rw[IntKind.wrap_i64];omega
def Vl{k:Nat}(h:k<4611686018427387904):IntKind.i64.wrap ((k:Int)+1)=((k+1:Nat):Int):=by
 rw[wrap64 ω ω];rfl
def bz{n:Nat}(h:n=0):((n:Int)==0)=true:=by simp[h]
def TA{n:Nat}(h:n≠0):((n:Int)==0)=false:=by simp[h]
def dp{n:Nat}(h:n≠0):decide ((0:Int)<n)=true:=ξ
def gq{n:Nat}(h:n=0):decide ((0:Int)<n)=false:=by simp[h]
def Zp(d:D):D->List Ob->Prop:=λa h=>a=d/\h=[]
attribute [go_sem] Zp
def Zp.flat{d:D}(b:d.flat=true):∀a h,Zp d a h->a.flat=true/\∀o∈h,o.flat:=by
 rintro a h ⟨rfl,rfl⟩;exact⟨b,σ⟩
def getD_take{a:Type}(l:List a)(d:a)(k)(h:k<l.length):l.take (k+1)=l.take k++[l.getD k d]:=by
 rw[GR,QT h];simp[Q7,QT h]
def mixed:prog.follows .mixedOrders=true:=τ
def getD_map{a b:Type}(f:a->b)(l:List a)(d:a)(e:b)(i)(h:i<l.length):(l.map f).getD i e=f (l.getD i d):=by simp[Q7,h]
def zR{a:Type}(l:List a)(d:a)(i)(h:i<l.length):l.getD i d∈l:=by simp[Q7,h]
def wf_i64{n:Int}(h:(Lit.int .i64 n).wf=true):-9223372036854775808<=n/\n<=9223372036854775807:=by
 simp only[Lit.wf,ZX,Xd]at h;exact h
def wf_u64{n:Int}(h:(Lit.int .u64 n).wf=true):0<=n/\n<=18446744073709551615:=by
 simp only[Lit.wf,ZX,Xd]at h;exact h
def wf_u16{n:Int}(h:(Lit.int .u16 n).wf=true):0<=n/\n<=65535:=by
 simp only[Lit.wf,ZX,Xd]at h;exact h
def gv{n}(b:0<=n)(a:n<=18446744073709551615):IntKind.u64.wrap n=n:=κ
@[go_sem] theorem QGJ:((0:Nat):Int)=0:=rfl
@[go_sem] theorem QGK:((1:Nat):Int)=1:=rfl
@[go_sem] theorem QGL:((2:Nat):Int)=2:=rfl
@[go_sem] theorem QGM:((3:Nat):Int)=3:=rfl
@[go_sem] theorem QGN:((4:Nat):Int)=4:=rfl
@[go_sem] theorem QGO:((5:Nat):Int)=5:=rfl
@[go_sem] theorem QGP:((6:Nat):Int)=6:=rfl
@[go_sem] theorem QGQ:((7:Nat):Int)=7:=rfl
@[go_sem] theorem QGR:((8:Nat):Int)=8:=rfl
@[go_sem] theorem QGS:((9:Nat):Int)=9:=rfl
@[go_sem] theorem QGT:((10:Nat):Int)=10:=rfl
def zS{a b:Int}(h:a=b):(a==b)=true:=by simp[h]
def XM{a b:Int}(h:a≠b):(a==b)=false:=by simp[h]
def Qga{a b:Int}(h:a=b):(a != b)=false:=by simp[h]
def Qt6{a b:Int}(h:a≠b):(a != b)=true:=by simp[h]
end Go.Fg.X
namespace Go.Fg
open Go.RowKit (Below)
def O5(a:List ZQ):Prop:=(a.map (·.b)).Pairwise (·<·)
def vv.Qgb{Z}{h}{f}{w}{q}{c}{b}{a}(E:vv Z h f w q c b a):O5 b:=by
 unfold O5;rw[List.pairwise_iff_getElem];intro i j e d g;simp only[KK]at e d;have k:=E.len;obtain⟨_,_,m,_⟩:=E.at_ i b[i] a[i] (QT e) (QT ω);obtain⟨_,_,l,_⟩:=E.at_ j b[j] a[j] (QT d) (QT ω);have:=E.inc i j a[i] a[j] g (QT ω) (QT ω);simp only[List.getElem_map];omega
def O5.nodup{a:List ZQ}(B:O5 a):(a.map (·.b)).Nodup:=by
 unfold List.Nodup;exact List.Pairwise.imp (λh=>Nat.ne_of_lt h) B
def y5(b:List ZQ)(a:List Nat):Nat:=(b.filter λe=>!a.contains e.b).length
def Qgc:∀{a:List ZQ} {seen:List Nat} {e:ZQ},e∈a->e.b ∉ seen->y5 a (seen++[e.b])<y5 a seen
 | [],_,_,h,_=>by simp at h
 | x::a,seen,e,h,d=>by
  have b:∀a:List ZQ,y5 a (seen++[e.b])<=y5 a seen:=λa=>by
   induction a with
   | nil=>exact Qs _
   | cons y r c=>
    simp only[y5,xD]at c ⊢;by_cases g:y.b∈seen<;>by_cases f:y.b=e.b<;>simp_all<;>omega
  rcases QG.1 h with rfl|h
  .have:=b a;simp only[y5,xD]at this ⊢
   simp_all
   omega
  .have:=Qgc h d;simp only[y5,xD]at this ⊢;by_cases g:x.b∈seen<;>by_cases f:x.b=e.b<;>simp_all<;>omega
section
variable {P:Program}{L:Jr}{base nt:Nat}{w0:Start}{Q:Exit->St->Prop}
def Qt7{Z:Nat->Prop}{s:St}{d:List Pl}{a:Act}{w:World}(r:Rel Z base nt s d a w){l c:Nat}{i:List ZQ}{f:Kd}{q:IntKind}(k:f.ty=1)(e:s.h[l]? = some (Ww f q c i)):O5 i:=by
 have h:l<d.length:=by rw[r.o.len];exact KY e
 cases g:d[l] with
 | none=>
  have:=r.o.VX l _ e (by rw[QT h,g]);simp[Ww]at this
 | some j=>
  obtain⟨b,p⟩:=j;obtain⟨_,x⟩:=r.o.at_ l _ b p e (by rw[QT h,g]);obtain⟨_,m,_,E⟩:=dG k x;exact E.Qgb
def Qt8{e:Code}{k:List Item}{s:St}{l c:Nat}{es:List ZQ}{kd:Kd}{q:IntKind}(h:kd.ty=1)(g:s.h[l]? = some (Ww kd q c es))(d:O5 es->Qw P base nt w0 Q (.code e::k) .normal s):Qw P base nt w0 Q (.code e::k) .normal s:=by
 simp only[Qw]at d ⊢;intro Z z f a w r b;exact d (Qt7 r h g) Z z f a w r b
def Qt9{o:Oper}{s}{x}(ho:o.op=.entry x){u l c}{k}{f}{q}{v}{e}
  (W:Qp s.fr x=.mref u 0) (N:s.h[u]? = some (Yw l c c (f++[e.b]))) (R:v.ty=1) (M:s.h[l]? = some (Ww v q c k)) (he:e∈k):WJ P base nt o s (.tup [.raw (.int q e.k),e.v]):=by
 intro Z pl a w r;have K:=r.eval x;rw[W]at K;obtain⟨o',p,b,t,n,h3,h4,z⟩:=GW K;rw[N]at t;cases t;have z:=z rfl;rw[z]at n;obtain⟨ZF,S⟩:=r.o.at_ u _ b 0 N n;obtain⟨_,m,U,hb,Cn,SO⟩:=QcU S;have Y:a.eval x=.pointer (some ⟨b,0,none⟩):=h3.2;obtain⟨o2,p2,bm,H,F,h,k4,y⟩:=GW SO;rw[M]at H;cases H;have y:=y rfl;rw[y]at F;have h:=h.2;rw[show (Ww v q c k).kd.ty=1 from R]at h;have h:m=bm:=by simpa[Sx] using h
 subst h;obtain⟨Bd,V⟩:=r.o.at_ l _ m 0 M F;obtain⟨_,d,O,E⟩:=dG R V;have hl:k.length=d.toList.length:=E.len;obtain⟨j,I⟩:=GP he;have Qc:=(Xa.1 I).1;obtain⟨d1,d2,d3,d4⟩:=E.at_ j e (d.toList[j]'ω) I (QT ω);have Jh:(d.toList.map (·.born)).Nodup:=by
  have:d.toList.map (·.born)=k.map (·.b):=by
   apply List.ext_getElem (by simp[hl]);intro i t n;simp only[KK]at t n;obtain⟨_,_,g,_⟩:=E.at_ i (k[i]'ω) (d.toList[i]'ω) (QT ω) (QT ω);simp only[List.getElem_map,g]
  rw[this];exact E.Qgb.nodup
 have C:U=(f.toArray).push (d.toList[j]'ω).born:=by
  apply Array.toList_inj.1;rw[Cn,d3];simp
 have B:=hb;rw[C]at B;refine⟨.tuple #[(d.toList[j]'ω).key,(d.toList[j]'ω).val],?_,λT J=>?_⟩
 .rw[d1];exact .tup _ [.int q e.k,(d.toList[j]'ω).val] rfl λi hi=>match i,hi with
   | 0,_=>.cl _ _ (.raw _)
   | 1,_=>d2
 .have Zl:=run_entry_at (P:=P) T b m c f.toArray d c (d.toList[j]'ω) (by rw[J b (vm B)];exact B) (by rw[J m (vm O)];exact O) (zF _) Jh;simp[execOp,ho,Y,Zl]
def Qub{k}{a}{f:TypeId}{pos}{b}{j}{r}{s}{x}{li l c}{es}{seen}{q}{kd}{e}
  (g:Qp s.fr x=.mref li 0) (n:s.h[li]? = some (Yw l c c (seen++[e.b]))) (o:kd.ty=1) (m:s.h[l]? = some (Ww kd q c es)) (i:e∈es) (h:Zt nt a=true)
  (d:Qw P base nt w0 Q (.ops r::k) .normal ⟨Zk s.fr a (.tup [.raw (.int q e.k),e.v]),s.h⟩) :
  Qw P base nt w0 Q (.ops ((⟨a,.entry x,f,pos,b,j⟩,none)::r)::k) .normal s:=by
 simp only[Qw]at d ⊢;exact o5 (Qt9 rfl g n o m i) h d
end
def q8(a c:Nat)(d:List D)(b:Nat->List D):Nat->List D:=λk=>bif Nat.ble a k&&Nat.blt k (a+c) then d else b k
def rA{a c k}{d}{b}(h:k<a):q8 a c d b k=b k:=by
 have:Nat.ble a k=false:=by rw[<- qk,Lk];omega
 simp[q8,this]
section
variable {P:Program}{L:Jr}{base nt:Nat}{s:St}{o:Oper}
def Quc(hL:Jl P L){t e:TypeId}{x}{l g f j a b c}{z}{zt}{d}(E:o.op=.call ⟨.builtin .clear,#[x],#[t]⟩)(hx:Qp s.fr x=.ref l g f j)(y:s.h[l]? = some d)
  (n:d.kd.Lm=false) (hg:d.gen=g) (C:d.sz=1) (V:d.kd.ro=false) (hn:f+j<=d.n) (ht:ty L t=some ⟨.slice e,a,b,zt⟩) {k:TK} (he:ty L e=some ⟨k,1,c,[z]⟩) (hz:AZ z=true) :
  j8 P base nt o s (s.h.set l ⟨d.kd,d.gen,d.sz,d.n,q8 f j [Km z] d.row⟩) (.tup []):=by
 refine Lu.up ?_ (by simp[calm,E]);intro Z B ac w r KZ;have hv:=r.eval x;rw[hx]at hv;obtain⟨o',p',ad,a1,H,ZU,S,Q,vk,KP⟩:=Fh hv;rw[y]at ZU;cases ZU;have hy:=hL _ _ ht;have WT:=hL _ _ he;have J:P.underlying t=some (.slice e):=yM hy rfl;obtain⟨zv,yN,zI⟩:=WT.zeroValue;have Fo:zv.cells=#[z]:=by apply Array.toList_inj.1;rw[yN]
 have G4:(Builtin.zeroCells zv.cells j).toList=List.replicate j z:=by
  rw[Fo];simp[Builtin.zeroCells];apply List.ext_getElem
  .simp
  .intro i h1 h2;simp[Nat.mod_one]
 have U:∀Z' h' Qk p,QF Z' h' Qk p (Km z) z:=λZ' h' Qk p=>
  .cl _ _ (Dz _ _ _)
 rcases KP hg.symm with ⟨I,O6⟩|⟨O,q,c0,el,VW,W,ZF,a2,DC⟩
 .subst I;have ZN:∀i,q8 f 0 [Km z] d.row i=d.row i:=λi=>by
   unfold q8;cases h1:Nat.ble f i&&Nat.blt i (f+0)
   .rfl
   .simp at h1;omega
  have jt:s.h.set l ⟨d.kd,d.gen,d.sz,d.n,q8 f 0 [Km z] d.row⟩=s.h:=by
   have u:(⟨d.kd,d.gen,d.sz,d.n,q8 f 0 [Km z] d.row⟩:Ob)=d:=by rw[funext ZN]
   rw[u];exact AO λi=>by
    by_cases h:l=i
    .subst h;rw[Xb (KY y),y]
    .rw[JZ h]
  rw[jt];refine⟨.tuple #[],w,B,.inl ?_,Tr.refl _ _ _,r.o,.tup [] [] rfl (λi K=>absurd K (Xc i)),Below.refl _ _⟩;subst O6;cases ad<;>simp[execOp,E,H,resolve,invoke,Go.builtin,Builtin.clear_,run_underlying J]
 .subst VW;obtain⟨Q6,xx⟩:=r.o.at_ l d O q y S;obtain⟨c1,nX,F,Lw,Kx,ZN⟩:=xx.cells Q;rw[F]at ZF;cases ZF;have J1:∀c2:Nat->List D,(⟨d.kd,d.gen,d.sz,d.n,c2⟩:Ob).kd=d.kd:=λ_=>rfl;obtain⟨p,c',g1,g2,N,g4,M,g6,g7,g8,g9⟩:=cQ (P:=P) O el (List.replicate j z) 0 (q+f*d.sz) w c0 F (by simp;rw[C]at Lw ⊢;omega) (λk n=>by
   have R:k<j:=by simpa using n
   have:Q5 (List.replicate j z) k=z:=by simp[Q5,Q7,R]
   rw[this];exact hz)
  have T:Tr s.h B w (s.h.set l ⟨d.kd,d.gen,d.sz,d.n,q8 f j [Km z] d.row⟩) B p:=Tr.QY r.o y S rfl rfl rfl (λk n _=>M k n) (λc2 a0 e2=>by rw[F]at e2;cases e2;exact⟨c',g2,N⟩);refine⟨.tuple #[],p,B,.inl ?_,T,?_,.tup [] [] rfl (λi K=>absurd K (Xc i)),Od (Q6 V) M g6 g7 g8 g9⟩
  .subst W;by_cases I:j=0
   .subst I;have u:p=w:=by
     have:(storeCells ⟨O,q+f*d.sz,none⟩ (List.replicate 0 z) 0).run P w=.ok () w:=by simp[storeCells]
     rw[g1]at this;cases this;rfl
    rw[u];simp[execOp,E,H,resolve,invoke,Go.builtin,Builtin.clear_,run_underlying J]
   .obtain⟨m,rfl⟩:∃m,j=m+1:=⟨j - 1,ω⟩;simp[execOp,E,H,resolve,invoke,Go.builtin,Builtin.clear_,run_underlying J,zI,G4,g1]
  .refine Zo.QY (hro:=rfl) r.o y S Q Q rfl rfl (λk n _=>M k n) F g2 N (by rw[N];exact Lw) (λk n=>?_) (λk m n hm=>?_)
   .show (q8 f j [Km z] d.row k).length=d.sz;unfold q8;cases Nat.ble f k&&Nat.blt k (f+j)
    .exact Kx k n
    .simp[C]
   .have R:k<d.n:=n;have Xv:m<d.sz:=hm;show ∃v,c'[q+(k*d.sz+m)]? = some v/\QF Z _ B p (nth (q8 f j [Km z] d.row k) m) v;rw[C]at Xv;have Bd:m=0:=ω;subst Bd;have gw:k*d.sz+0=k:=by rw[C];omega
    have Y:q+f*d.sz+0=q+f:=by rw[C];omega
    rw[g4,gw,Y];simp only[List.length_replicate];by_cases Vp:f<=k/\k<f+j
    .rw[Qf ω];have u:q8 f j [Km z] d.row k=[Km z]:=by simp[q8,eX,Qpj,Vp.1,Vp.2]
     rw[u];exact⟨z,by rw[List.getElem?_replicate,Qf ω],U _ _ _ _⟩
    .rw[Qe ω];have u:q8 f j [Km z] d.row k=d.row k:=by
      unfold q8;cases h:(Nat.ble f k&&Nat.blt k (f+j))
      .rfl
      .simp at h;omega
     rw[u];obtain⟨v,G1,WS⟩:=ZN k 0 R ω;rw[gw]at G1;exact⟨v,G1,WS.tr T⟩
end
section
variable {P:Program}{L:Jr}{base nt:Nat}{w0:Start}{Q:Exit->St->Prop}
def rC(I:Jl P L)(H:base<=w0.w.heap.size){k}{i}{M:TypeId}{pos}{j}{J}{r}{s}{t e:TypeId}{x}{l g f h a b c}{z}{o}{d}
  (u:Qp s.fr x=.ref l g f h) (K:s.h[l]? = some d)
  (B:d.kd.Lm=false) (C:d.gen=g) (w:d.sz=1) (m:d.kd.ro=false) (y:f+h<=d.n) (v:ty L t=some ⟨.slice e,a,b,o⟩) {p:TK} (E:ty L e=some ⟨p,1,c,[z]⟩) (q:AZ z=true) (F:Zt nt i=true)
  (n:Qw P base nt w0 Q (.ops r::k) .normal ⟨Zk s.fr i (.tup []),s.h.set l ⟨d.kd,d.gen,d.sz,d.n,q8 f h [Km z] d.row⟩⟩) :
  Qw P base nt w0 Q (.ops ((⟨i,.call ⟨.builtin .clear,#[x],#[t]⟩,M,pos,j,J⟩,none)::r)::k) .normal s:=by
 simp only[Qw]at n ⊢;exact dS H (Quc I rfl u K B C w m y v E q) F n
end
def QI.cut{P}{f}{F}{k}{R Y}(hf:QI P f F k R)
  (s:∀d h,R d h->∃l o n,h[l]? = some o/\o.kd.ty=0/\n<=o.n/\Y d (h.set l ⟨o.kd,o.gen,o.sz,n,o.row⟩)):QI P f F k Y:=by
 intro Z y w pl vs h1 h2 h3 t K;refine(hf Z y w pl vs h1 h2 h3 t K).mono λe w' he=>?_;obtain⟨v,d,h,Qk,rfl,hR,r,hV,B,hB⟩:=he;obtain⟨l,o,n,z,Q,I,TB⟩:=s _ _ hR;have t:=KY z;have a:∀(x:Nat) (u:Ob),h[x]? = some u->∃m,(h.set l ⟨o.kd,o.gen,o.sz,n,o.row⟩)[x]? = some m/\m.gen=u.gen/\m.sz=u.sz/\m.kd.ty=u.kd.ty:=λx u e=>by
  by_cases hx:l=x
  .subst hx;rw[z]at e;cases e;exact⟨_,Xb t,rfl,rfl,rfl⟩
  .exact⟨u,by rw[JZ hx];exact e,rfl,rfl,rfl⟩
 refine⟨v,d,_,Qk,rfl,TB,⟨by simp[r.len],r.inj,λx u e g=>?_,λx u b q e g=>?_⟩,hV.DS a,⟨B.Kl,λx u p e g=>?_,λx u m b q e e' hg g c el K=>?_⟩,hB⟩
 .by_cases hx:l=x
  .subst hx;rw[Xb t]at e;cases e;have:=r.VX l o z g;show n=0;omega
  .rw[JZ hx]at e;exact r.VX x u e g
 .by_cases hx:l=x
  .subst hx;rw[Xb t]at e;cases e;obtain⟨L,H⟩:=r.at_ l o b q z g;obtain⟨c,el,c1,c2,c3,c4⟩:=H.cells Q;refine⟨L,.N7 Q ⟨c,el,c1,?_,λi J=>c3 i (wy J I),λi j J hj=>?_⟩⟩
   .have:=Vm o.sz I;show q+n*o.sz<=c.size;omega
   .obtain⟨u,hu,s⟩:=c4 i j (wy J I) hj;exact⟨u,hu,s.DS a⟩
  .rw[JZ hx]at e;obtain⟨L,H⟩:=r.at_ x u b q e g;exact⟨L,H.to rfl rfl rfl rfl (λ_ _=>rfl) λi j v _ _ s=>s.DS a⟩
 .obtain⟨m,O,E,W,a3,V,U⟩:=B.obj x u p e g;obtain⟨M,C,b2,T,S⟩:=a x m E;exact⟨M,O,C,W,ω,by rw[S,V],λhh=>by rw[T];exact U ω⟩
 .obtain⟨N,O,E,W,a3,V,U⟩:=B.obj x u _ e g;obtain⟨M,C,b2,T,S⟩:=a x N E;rw[e']at C;cases C;exact B.shape x u N b q e E ω g c el K
section
variable {P:Program}{L:Jr}{base nt:Nat}{s:St}{o:Oper}
def Qug(j:Jl P L){t:TypeId}{x:Operand}(i:o.op=.call ⟨.builtin .cap,#[x],#[t]⟩)(f:Qp s.fr x=.nil){e a b:Nat}{d:List Value}(h:ty L t=some ⟨.slice e,a,b,d⟩):WJ P base nt o s (.raw (.int .i64 0)):=by
 intro Z l m w r;have c:=r.eval x;rw[f]at c;obtain⟨n,g⟩:=Ff c;refine⟨_,.cl _ _ (.raw _),λk _=>?_⟩;rw[vn i];simp[builtin,g,Builtin.cap_,run_underlying (yM (j _ _ h) rfl),goInt]
def Quh{t l e:TypeId}{ty0:TypeId}{y:Ty}{k J:IntKind}(N:P.underlying t=some (.slice e))(S:P.underlying l=some (.int J))(c:Xe P e y)(p:y.zero.length=y.size)(V:0<y.size)(w:World)(b:Option Addr)(n:Nat)
  (O:0<n) (C:n<=4294967296) (K:y.bytes<=1024) :
  ∃f a,(Builtin.append_ #[t,l] ty0 #[.slice b 0 0,.int k n]).run P w=.ok (.slice (some ⟨w.heap.size,0,none⟩) n f) (w.drew.alloc (.cells ((flat n y.size λ_ j=>Q5 y.zero j).toArray++a) e))/\n<=f/\a.size=(f - n)*y.size:=by
 obtain⟨z,d,B⟩:=c.zeroValue;obtain⟨i,r,Y,m⟩:=c.typeInfo w;have T:∀w,(typeInfo e).run P w=.ok i w:=λw=>by
  have u:=c.info;cases hx:P.info? e with
  | none=>rw[hx]at u;cases u
  | some k=>
   simp[typeInfo,hx]at r ⊢;exact r
 refine⟨grownCap w n 0 e,Builtin.zeroCells z.cells (grownCap w n 0 e - n),?_,grownCap_ge _ _ _ _,by rw[oB];congr 1;rw[<- p,<- d];simp⟩;have q:¬ n=0:=ω;have M:IntKind.i64.wrap (n:Int)=n:=by rw[IntKind.wrap_i64];omega
 have I:¬ (9223372036854775807<(n:Int)):=ω;have x:n*y.bytes<=4294967296*1024:=X8 C K;have H:¬ (281474976710656<Builtin.nextslicecap n 0*i.bytes):=by rw[nextslicecap_zero O,m];omega
 have F:¬ (281474976710656<(n:Int)*(i.bytes:Int)):=by
  rw[<- jm,m];omega
 have R:¬ ((n:Int)<0):=ω;have U:¬ (n*y.size=0):=Nat.mul_ne_zero q ω;have h:z.cells.size=y.size:=by rw[<- p,<- d];simp
 have E:(flat n y.size λ_ j=>Q5 y.zero j).toArray=Builtin.zeroCells z.cells n:=by
  apply Array.ext
  .rw[oB,h];simp[zH]
  .intro j v W;simp only[GQ,zH]at v;obtain⟨d1,d2,d3⟩:=div_lt v;have Q:y.zero=z.cells.toList:=d.symm;have g:j % y.size<z.cells.size:=by rw[h];exact d2
   simp[flat,Builtin.zeroCells,Q5,Q,Q7,h,g];rw[getElem!_pos z.cells _ g,jV g];rfl
 rw[E];cases b<;>simp[Builtin.append_,run_underlying N,run_underlying S,c.sizeOf,T,B,asInt,asIntOf,M,q,R,U,I,H,F,Question.forced,Builtin.firstCells,loadCells,loadCellsFrom,newRow,grownCap,askRoom,mark,Sem.run]
def Qui(p:Jl P L){t u e:TypeId}{g x:Operand}{n:Nat}{R:IntKind}{a b c d:Nat}{M N:List Value}{y:Ty}{k:IntKind}(v:o.op=.call ⟨.builtin .append,#[g,x],#[t,u]⟩)(S:Qp s.fr g=.nil)(W:Qp s.fr x=.raw (.int k n))
  (ht:ty L t=some ⟨.slice e,a,b,M⟩) (TC:ty L u=some ⟨.int R,c,d,N⟩) (WT:ty L e=some y) (m:y.zero.length=y.size) (hs:0<y.size) (h0:0<n) (Q:n<=4294967296) (U:y.bytes<=1024) :
  j8 P base nt o s (s.h++[⟨.arr,0,y.size,n,λ_=>y.zero.map Km⟩]) (.ref s.h.length 0 0 n):=by
 refine Lu.up ?_ (by simp[calm,v]);intro Z l ac w r I;have H:=r.eval g;have K:=r.eval x;rw[S]at H;rw[W]at K;obtain⟨F,Of⟩:=Ff H;have Y:=JJ K;have V:=p _ _ WT;have Zn:l.length=s.h.length:=r.o.len;obtain⟨O,f,Zl,Ce,A5⟩:=Quh (ty0:=o.type) (k:=k) (yM (p _ _ ht) rfl) (Dy (p _ _ TC) rfl) V m hs w F n h0 Q U;have E:∀b,b<w.heap.size->(w.drew.alloc (.cells ((flat n y.size λ_ j=>Q5 y.zero j).toArray++f) e)).heap[b]? = w.heap[b]? := λb hb=>xK w.drew _ b hb;have J:(w.drew.alloc (.cells ((flat n y.size λ_ j=>Q5 y.zero j).toArray++f) e)).heap[w.heap.size]? = some (.cells ((flat n y.size λ_ j=>Q5 y.zero j).toArray++f) e (0,0)):=heap_alloc_new w.drew _;have T:Tr s.h l w (s.h++[⟨.arr,0,y.size,n,λ_=>y.zero.map Km⟩]) (l++[some (w.heap.size,0)]) (w.drew.alloc (.cells ((flat n y.size λ_ j=>Q5 y.zero j).toArray++f) e)):=Tr.push r.o E _ _ (by intro b q h;simp at h;omega);refine⟨.slice (some ⟨w.heap.size,0,none⟩) n O,_,_,.inl ?_,T,Zo.push r.o E _ rfl (Qs _) I J (by simp[zH]) (λi B=>by simp[m]) (λi j B z=>⟨Q5 y.zero j,?_,?_⟩),.ref _ _ _ _ ⟨.arr,0,y.size,n,λ_=>y.zero.map Km⟩ (some (w.heap.size,0)) _ _ σ (by rw[<- Zn];simp) rfl (Qs _) (λ_=>.inr ⟨w.heap.size,0,_,_,rfl,σ,J,?_,Ce⟩),((Below.refl base w).drew).alloc I _⟩
 .rw[vn v];have:(Array.map ac.eval #[g,x])=#[.slice F 0 0,.int k n]:=by simp[Of,Y]
  rw[this];simp only[builtin,Sem.run_bind,Zl,Result.andThen_ok,Sem.run_pure]
 .have C:=G3 (vs:=λ_ j=>Q5 y.zero j) B z;have Qc:=(Xa.1 C).1;rw[JM,NK (by simpa using Qc)];simpa using C
 .have Wy:j<y.zero.length:=by rw[m];exact z
  have:nth (y.zero.map Km) j=Km (Q5 y.zero j):=by simp[nth,Q5,Q7,Wy]
  show QF Z _ _ _ (nth (y.zero.map Km) j) _;rw[this];exact .cl _ _ (Dz _ _ _)
 .simp only[JM,Array.size_append,GQ,zH,A5];rw[<- Kh];exact Vm _ ω
end
section
variable {P:Program}{L:Jr}{base nt:Nat}{w0:Start}{Q:Exit->St->Prop}
def rE(l:Jl P L){k:List Item}{c:Option Nat}{n:TypeId}{pos:String}{d:Array Edge}{m:Option (Nat × Bool)}{r:List (Oper × G)}{s:St}{t e a b:Nat}{x:Operand}{g:List Value}
  (h:Qp s.fr x=.nil) (i:ty L t=some ⟨.slice e,a,b,g⟩) (j:Zt nt c=true) (f:Qw P base nt w0 Q (.ops r::k) .normal ⟨Zk s.fr c (.raw (.int .i64 0)),s.h⟩) :
  Qw P base nt w0 Q (.ops ((⟨c,.call ⟨.builtin .cap,#[x],#[t]⟩,n,pos,d,m⟩,none)::r)::k) .normal s:=by
 simp only[Qw]at f ⊢;exact o5 (Qug l rfl h i) j f
def Quj(H:Jl P L)(F:base<=w0.w.heap.size){k:List Item}{f:Option Nat}{N:TypeId}{pos:String}{g:Array Edge}{J:Option (Nat × Bool)}{r:List (Oper × G)}{s:St}{t i e:TypeId}{h x:Operand}{n:Nat}{p:IntKind}{a b c d:Nat}{l m:List Value}{y:Ty}{q:IntKind}
  (u:Qp s.fr h=.nil) (z:Qp s.fr x=.raw (.int q n)) (B:ty L t=some ⟨.slice e,a,b,l⟩) (M:ty L i=some ⟨.int p,c,d,m⟩) (K:ty L e=some y) (w:y.zero.length=y.size) (C:0<y.size) (I:0<n) (o:n<=4294967296) (v:y.bytes<=1024) (E:Zt nt f=true)
  (j:Qw P base nt w0 Q (.ops r::k) .normal ⟨Zk s.fr f (.ref s.h.length 0 0 n),s.h++[⟨.arr,0,y.size,n,λ_=>y.zero.map Km⟩]⟩) :
  Qw P base nt w0 Q (.ops ((⟨f,.call ⟨.builtin .append,#[h,x],#[t,i]⟩,N,pos,g,J⟩,none)::r)::k) .normal s:=by
 simp only[Qw]at j ⊢;exact dS F (Qui H rfl u z B M K w C I o v) E j
end
section
variable {P:Program}{L:Jr}{base nt:Nat}{s:St}{o:Oper}
end
section
variable {P:Program}{L:Jr}{base nt:Nat}{w0:Start}{Q:Exit->St->Prop}
end
section
variable {Z:Nat->Prop}
def QF.Qgd{h:List Ob}{m:List Pl}{w}{l}{o:Ob}{p}(L:h[l]? = some o)(Q:m[l]? = some p)(U:o.kd.ty=0){d}{v}(r:QF Z h m w d v):QF Z (h.set l o.gone) (m.set l none) w d v:=by
 have M:∀(c:Nat),c≠l->(m.set l none)[c]? = m[c]? := λc W=>by rw[JZ (Q8 W)]
 have Y:∀b,XH m b->XH (m.set l none) b:=λb n c q e=>by
  by_cases R:c=l
  .subst R;rw[Xb (WR Q)]at e;cases e
  .rw[M c R]at e;exact n c q e
 have S:∀b,free Z m b->free Z (m.set l none) b:=λb n=>⟨n.1,Y b n.2⟩;have O:(h.set l o.gone)[l]? = some o.gone:=Xb (KY L);have K:(m.set l none)[l]? = some none:=Xb (WR Q);induction r with
 | cl d v V=>exact .cl _ _ (V.mono λb n _=>⟨S b n,rfl⟩)
 | ref c g H I x u a J k F s C z=>
  by_cases e:c=l
  .subst e;rw[L]at k;cases k;exact .ref _ g H I o.gone none a J O K rfl (by simp[Ob.gone];omega) (λN=>by simp[Ob.gone]at N;omega)
  .exact .ref _ g H I x u a J (by rw[JZ (Q8 e)];exact k) (by rw[M c e];exact F) s C z
 | ptr c g i j x u a k F s C z=>
  by_cases e:c=l
  .subst e;rw[L]at k;cases k;exact .ptr _ g i j o.gone none a O K rfl (by simp[Ob.gone];omega) (λN=>by simp[Ob.gone]at N;omega)
  .exact .ptr _ g i j x u a (by rw[JZ (Q8 e)];exact k) (by rw[M c e];exact F) s C z
 | mref c g x u b k F s C z=>
  by_cases e:c=l
  .subst e;rw[L]at k;cases k;exact absurd U s.1
  .exact .mref _ g x u b (by rw[JZ (Q8 e)];exact k) (by rw[M c e];exact F) s C z
 | clo f T E t B P y=>exact .clo f T E t B y
 | agg E t B P y=>exact .agg E t B y
 | tup E t B P y=>exact .tup E t B y
end
def rF(F h:List Ob):Prop:=∀(l:Nat) (o:Ob),F[l]? = some o->∃a,h[l]? = some a/\a.gen=o.gen
def QH.rG{k:Start}(hF:k.pl.length=k.F.length){fr}{h:List Ob}(P:rF k.F h)(t l)(hl:k.F.length<=l){o:Ob}{off len}(ht:get fr t=.ref l o.gen off len)(E:h[l]? = some o)(hn:off+len<=o.n)(L:o.kd.ty=0)(Z1:∀i,i<o.n->(o.row i).all D.ko=true):
  QH k ⟨fr,h⟩ ⟨put fr t (.imm o.sz len (rowFrom off o.row)),h.set l o.gone⟩:=by
 intro Z z V nt f a w r b;have F:f.length=h.length:=r.o.len;have U:l<f.length:=by have g:=KY E;omega
 have n:f[l]? = some f[l]:=QT U;generalize oO:f[l]=p at n;have pN:∀d q:Nat,p=some (d,q)->k.w.heap.size<=d:=λd q e=>by
  subst e;rcases B7 d k.w.heap.size with Qc|Y
  .exfalso;have YV:¬ XH k.pl d:=λha=>(b.2.1.Kl d ha Qc).1 l q n;obtain⟨J,g⟩:=NM.1 YV;obtain⟨q0,N⟩:=NM.1 g;have S:=Classical.not_not.1 N;have Q:J<k.F.length:=by rw[<- hF];exact WR S
   obtain⟨I,p1,R,k2,k3,k4,k5⟩:=b.2.1.obj J _ _ (QT Q) S;obtain⟨o2,k6,k7⟩:=P J _ (QT Q);rw[k6]at R;cases R;obtain⟨_,k8⟩:=k5 k7;subst k8;have:=r.o.inj J l d q0 q k2 n;omega
  .exact Y
 have KP:∀d q,p=some (d,q)->Z d/\(∀c H,f[c]? = some (some (d,H))->c=l)/\N6 Z h f w o d q:=λd q e=>by
  have g:=pN d q e;subst e;exact⟨b.2.2.own l d q n g,λc H e'=>r.o.inj _ _ _ _ _ e' n,(r.o.at_ l o d q E n).2.cells L⟩
 have O:∀(c:Nat),c≠l->(f.set l none)[c]? = f[c]? := λc T=>by rw[JZ (Q8 T)]
 have W:(f.set l none)[l]? = some none:=Xb U;have M:∀c d q:Nat,(f.set l none)[c]? = some (some (d,q))->c≠l/\f[c]? = some (some (d,q)):=λc d q e=>by
  by_cases m:c=l
  .subst m;rw[W]at e;cases e
  .exact⟨m,by rw[<- O c m];exact e⟩
 have hh:∀(c:Nat) (s:Ob),c≠l->h[c]? = some s->∃u:Ob,(h.set l o.gone)[c]? = some u/\u.gen=s.gen/\u.sz=s.sz/\u.kd.ty=s.kd.ty:=λc s C e=>
  ⟨s,by rw[JZ (Q8 C)];exact e,rfl,rfl,rfl⟩
 have K:DK k.F.length h f (h.set l o.gone) (f.set l none):=⟨λb' Va c q e=>Va c q (M _ _ _ e).2,λc s p' T ZU Jg=>by
  have C:c≠l:=ω;exact⟨s,by rw[JZ (Q8 C)];exact ZU,by rw[O c C];exact Jg,rfl,rfl,rfl⟩⟩
 refine⟨f.set l none,⟨r.nt,r.defers,λu=>?_,⟨by simp[F],λy l2 d q H m B=>r.o.inj y l2 d q H (M _ _ _ m).2 (M _ _ _ B).2,λy I g m=>?_,λy I d q g m=>?_⟩⟩,b.keep K⟩
 .show QF Z _ _ w (get (put fr t _) u) _;rw[GV];by_cases e:u=t
  .subst e;rw[Qf rfl];have g:=(r.fr u).fz E n L KP Z1 hh;rw[ht]at g;have N:Nat.ble (off+len) o.n=true:=by rw[Lk];exact hn
   simpa only[D.fz,NU,N,Bool.and_self,wB] using g
  .rw[Qe e];exact(r.fr u).Qgd E n L
 .by_cases B:y=l
  .subst B;rw[Xb ω]at g;cases g;rfl
  .rw[JZ (Q8 B)]at g;rw[O y B]at m;exact r.o.VX y I g m
 .obtain⟨C,B⟩:=M _ _ _ m;rw[JZ (Q8 C)]at g;obtain⟨g1,x⟩:=r.o.at_ y I d q g B;exact⟨g1,x.to rfl rfl rfl rfl (λi _=>rfl) λi j v hi hj hr=>hr.Qgd E n L⟩
section
variable {P:Program}{base nt:Nat}{w0:Start}
end
section
variable {P:Program}{base nt:Nat}{w0:Start}{Q:Exit->St->Prop}
end
section
variable {P:Program}{base nt:Nat}{w0:Start}{Q:Exit->St->Prop}
end
end Go.Fg
namespace Go.Fg
section
variable {P:Program}{base nt:Nat}{w0:Start}{Q:Exit->St->Prop}{k:List Item}{s:St}
def O7(P:Program)(base nt:Nat)(w0:Start)(Q:Exit->St->Prop)(k:List Item)(c:Code):Nat->Exit->St->Prop
 | 0,.normal,_=>False
 | n+1,.normal,s=>Qw P base nt w0 (O7 P base nt w0 Q k c n) [.code c] .normal s
 | _,e,s=>Qw P base nt w0 Q k e s
@[go_sem] theorem QGW{c}{n}:O7 P base nt w0 Q k c (n+1) .normal s=Qw P base nt w0 (O7 P base nt w0 Q k c n) [.code c] .normal s:=Vk rfl
@[go_sem] theorem QGX{c}{n j}:O7 P base nt w0 Q k c n (.exit j) s=Qw P base nt w0 Q k (.exit j) s:=Vk (by cases n<;>rfl)
@[go_sem] theorem QGY{c}{n}:O7 P base nt w0 Q k c n .ret s=Qw P base nt w0 Q k .ret s:=Vk (by cases n<;>rfl)
def x8(n){c}(h:Qw P base nt w0 (O7 P base nt w0 Q k c n) [.code c] .normal s):Qw P base nt w0 Q (.code (.loop c)::k) .normal s:=by
 simp only[Qw];intro Z z l a w r b;refine wp_loop_rounds (n+1) ?_;induction n generalizing s l a w with
 | zero=>
  simp only[Qw]at h;rw[rounds_succ];refine Code.wp_mono (λe a w q=>?_) (h Z z l a w r b);obtain⟨j,i,d,g,f⟩:=q;cases e with
  | normal=>exact d.elim
  | _=>exact⟨j,i,d,g,f⟩
 | succ n m=>
  simp only[Qw]at h;rw[rounds_succ];refine Code.wp_mono (λe a w q=>?_) (h Z z l a w r b);obtain⟨j,i,d,g,f⟩:=q;cases e with
  | normal=>exact m d i a w g f
  | _=>exact⟨j,i,d,g,f⟩
end
end Go.Fg
namespace Go.Fg
section
variable {P:Program}{base nt:Nat}{w0:Start}
def y6(M:base<=w0.w.heap.size){K}{g}{m:TypeId}{i}{H}{r}{s}{x}{c}{J:Array TypeId}{f}{j}{l}(y:Qn P f)
  (q:JU (Qp s.fr x)=some (f,j,l)) {k:List D} (B:KQ (Jm j l (c.toList.map (Qp s.fr))) k) {R:D->List Ob->Prop} (F:QI P f s.h k R)
  (t:Zt nt g=true) (u:∀d h,R d h->AX P base nt w0 K r ⟨Zk s.fr g d,h⟩) :
  AX P base nt w0 K ((false, ⟨g, .call ⟨.value x, c, J⟩, m, "!", i, H⟩, none) :: r) s := by
 simp only[AX,XL,zN];intro Z z p a w n b;exact Oper.wp_mono (λO N ⟨d,h,L,E,o,I,T,v,e⟩=>⟨λC=>absurd C (by simp[Fv]),_,_,L,v,u d h E,o,I,T,e⟩) (Qeb M y rfl q (F.args B) t p a w n b _)
end
end Go.Fg
namespace Go.Fg.X
open Go.Proofs Go.Fg
open Go.Proofs.Tryz
@[go_sem] def ol:List Nat:=[0,1,2,3,4,5,6,7,8,9,1010,1011,12]
@[go_sem] def ut:List Nat:=[0,1,2,3,4,5,6,1007]
@[go_sem] def Eq:List Nat:=[0,1,2,3,4,5,6,7,8,1009]
@[go_sem] def i4:List Nat:=[0,1,2,3,4,5,6,7,1008]
@[go_sem] def i5:List Nat:=[0,1,2,3,4,5,6,7,8,9,10,11,1012]
@[go_sem] def i6:List Nat:=[0,1,2,3,4,5,6,7,8,9,10]
@[go_sem] def i7:List Nat:=[0,1,2,3,4,5,1006]
@[go_sem] def i9:List Nat:=[0,1,2,3,4,5,6,7,8,9,10,11,12,1013,14,1015]
@[go_sem] def ii:List Nat:=[0,1,2,3,4,5,6,7,8,9,10,11,1012,13]
@[go_sem] def Id:List Nat:=[0,1,2,3,4,5,6,7,8,9,10,11,1012,13,14]
@[go_sem] def o00:List Nat:=[0,1,2,3,4,5,6,7,8,9]
@[go_sem] def o01:List Nat:=[0,1,2,3,4,5,6,7,8,9,10,11,12,13,14,1015,16,17]
@[go_sem] def o02:List Nat:=[0,1,2,3,4,5,6,7,8,1009,10,11,1012]
@[go_sem] def o03:List Nat:=[0,1,2,3,4,5,7,8,9,10,11,1006,1012,13,14,15,16,1017]
@[go_sem] def o04:List Nat:=[0,1,2,3,4,5,8,9,10,11,12,1006,7,1013,14,15,16,1017]
@[go_sem] def o05:List Nat:=[0,1,2,3,4,5,6,7,8,9,10,11,12,14,15,1013,16,17]
@[go_sem] def o06:List Nat:=[0,1,2,3,4,5,6,7,8,9,10,11,12,13]
@[go_sem] def o07:List Nat:=[0,1,2,3,4,5,6,7,8,9,1010]
@[go_sem] def o08:List Nat:=[0,1,2,1003,1004,5,6,7,1008]
@[go_sem] def o09:List Nat:=[0,1,2,3,4,5,6,7,8,9,10,11,12,13,14,15,16,17,1018,19]
@[go_sem] def o10:List Nat:=[0,1,2,3,4,5,6,7,8,9,10,11,12,13,14,1015,1016,17]
@[go_sem] def o11:List Nat:=[0,1,2,3,4,5,6,7,8,9,10,11,12,13,14,1015,16,17,1018]
@[go_sem] def o12:List Nat:=[0,1,2,3,4,5,6,7,1008,1009,10,11,12,1013,1014,15]
def ml:List Nat->List (Nat × Bool)
 | []=>[]
 | a::l=>(if a<1000 then (a,true) else (a - 1000,false))::ml l
@[go_sem] theorem QGZ:ml []=[]:=rfl
@[go_sem] theorem QG0(a)(l):ml (a::l)=(if a<1000 then (a,true) else (a - 1000,false))::ml l:=rfl
section
variable {base nt:Nat}{w0:Start}{Q:Exit->St->Prop}{k:List Item}{s:St}{B:Prop}{K:St->Prop}{l:List (Bool × Oper × G)}
def QM(a:base<=w0.w.heap.size)(h:B)(e:hx prog base w0 Q cx nt 200 k s=B:=by (simp only[go_sem,Qa];rfl)):Qw prog base nt w0 Q k .normal s:=Qh a (e▸h)
def Mj(a:base<=w0.w.heap.size)(e:hx prog base w0 Q cx nt 200 k s:=by simp only[go_sem,Qa]):Qw prog base nt w0 Q k .normal s:=Qh a e
def Yx(a:base<=w0.w.heap.size)(h:B)(e:Vc prog base w0 cx nt K l s=B:=by (simp only[go_sem,Qa];rfl)):AX prog base nt w0 K l s:=Zd a (e▸h)
def az1(a:base<=w0.w.heap.size)(e:Vc prog base w0 cx nt K l s:=by simp only[go_sem,Qa]):AX prog base nt w0 K l s:=Zd a e
def Za(a:base<=w0.w.heap.size)(h:B)(e:hx prog base w0 Q cx nt 200 k s=B:=by (simp only[go_sem];rfl)):Qw prog base nt w0 Q k .normal s:=Qh a (e▸h)
def zT(a:base<=w0.w.heap.size)(e:hx prog base w0 Q cx nt 200 k s:=by simp only[go_sem]):Qw prog base nt w0 Q k .normal s:=Qh a e
def WY(a:base<=w0.w.heap.size)(h:B)(e:Vc prog base w0 cx nt K l s=B:=by (simp only[go_sem];rfl)):AX prog base nt w0 K l s:=Zd a (e▸h)
def O8(a:base<=w0.w.heap.size)(e:Vc prog base w0 cx nt K l s:=by simp only[go_sem]):AX prog base nt w0 K l s:=Zd a e
def QB{b}{a}(c:base<=w0.w.heap.size)(l)(h:Vc prog base w0 cx nt (OH prog base w0 Q cx nt 200 k) (Go.Fg.Vj [] a (ml l)) s)(e:eV cx.L a (ml l)=true:=by kernel_rfl)(d:Cy a s.fr=true:=by kernel_rfl):Qw prog base nt w0 Q (.code (.region b a true)::k) .normal s:=Qpn VK c 200 mixed (ml l) e d h
def DX{b}{j:TypeId}{pos}{c}{v}{r}{x}{a:Array Operand}{w:Array TypeId}{f}{e}{i}{g}(t:base<=w0.w.heap.size)(p:Qn prog f){R}(u:QI prog f s.h g R)(o:∀d h,R d h->Qw prog base nt w0 Q (.ops r::k) .normal ⟨Zk s.fr b d,h⟩)(m:JU (Qp s.fr x)=some (f,e,i):=by rfl)(q:KQ (Jm e i (a.toList.map (Qp s.fr))) g:=by simp only[go_sem,Qa])(n:Zt nt b=true:=by rfl):Qw prog base nt w0 Q (.ops ((⟨b,.call ⟨.value x,a,w⟩,j,pos,c,v⟩,none)::r)::k) .normal s:=VY t p m q u n o
def rH{b}{i:TypeId}{pos}{c}{u}{r}{x}{a:Array Operand}{v:Array TypeId}{f}{e}{h}{g}(q:base<=w0.w.heap.size)(o:Qn prog f){R}(t:Zf prog f s.h g R)(n:∀d,R d->Qw prog base nt w0 Q (.ops r::k) .normal ⟨Zk s.fr b d,s.h⟩)(j:JU (Qp s.fr x)=some (f,e,h):=by rfl)(p:KQ (Jm e h (a.toList.map (Qp s.fr))) g:=by simp only[go_sem,Qa])(m:Zt nt b=true:=by rfl):Qw prog base nt w0 Q (.ops ((⟨b,.call ⟨.value x,a,v⟩,i,pos,c,u⟩,none)::r)::k) .normal s:=X0 q o j p t m n
def cA1{b}{m:TypeId}{pos}{c}{C}{r}{x}{a:Array Operand}{E:Array TypeId}{f}{g}{j}{i}(y:base<=w0.w.heap.size)(v:Qn prog f){R}(z:Q9 prog f i R)(t:∀d h,R d h->d.flat=true/\∀o∈h,o.flat)(u:∀d h,R d h->Qw prog base nt w0 Q (.ops r::k) .normal ⟨Zk s.fr b (d.shift s.h.length),s.h++h.map (Ob.shift s.h.length)⟩)(n:JU (Qp s.fr x)=some (f,g,j):=by rfl)(w:match YP (Wl s.h 4) (Jm g j (a.toList.map (Qp s.fr))) with|some (p,e)=>p/\KQ e i|none=>False:=by simp only[go_sem,Qa])(q:Zt nt b=true:=by rfl):Qw prog base nt w0 Q (.ops ((⟨b,.call ⟨.value x,a,E⟩,m,pos,c,C⟩,none)::r)::k) .normal s:=OG y v n w z t q u
def xR1{b}{i:TypeId}{pos}{c}{u}{r}{x}{a:Array Operand}{v:Array TypeId}{f}{e}{h}{g}(q:base<=w0.w.heap.size)(o:Qn prog f){R}(t:Zf prog f s.h g R)(n:∀d,R d->AX prog base nt w0 K r ⟨Zk s.fr b d,s.h⟩)(j:JU (Qp s.fr x)=some (f,e,h):=by rfl)(p:KQ (Jm e h (a.toList.map (Qp s.fr))) g:=by simp only[go_sem,Qa])(m:Zt nt b=true:=by rfl):AX prog base nt w0 K ((false,⟨b,.call ⟨.value x,a,v⟩,i,pos,c,u⟩,none)::r) s:=OU q o j p t m n
def xH1{b}{j : TypeId}{c}{v}{r}{x}{a : Array Operand}{w : Array TypeId}{f}{e}{i}{g}(t : base <= w0.w.heap.size)(p : Qn prog f){R}(u : QI prog f s.h g R)(o : ∀ d h, R d h -> AX prog base nt w0 K r ⟨Zk s.fr b d, h⟩)(m : JU (Qp s.fr x) = some (f, e, i) := by rfl)(q : KQ (Jm e i (a.toList.map (Qp s.fr))) g := by simp only[go_sem, Qa])(n : Zt nt b = true := by rfl): AX prog base nt w0 K ((false, ⟨b, .call ⟨.value x, a, w⟩, j, "!", c, v⟩, none) :: r) s := y6 t p m q u n o
def xA1{b}{m:TypeId}{pos}{c}{C}{r}{x}{a:Array Operand}{E:Array TypeId}{f}{g}{j}{i}(y:base<=w0.w.heap.size)(v:Qn prog f){R}(z:Q9 prog f i R)(t:∀d h,R d h->d.flat=true/\∀o∈h,o.flat)(u:∀d h,R d h->AX prog base nt w0 K r ⟨Zk s.fr b (d.shift s.h.length),s.h++h.map (Ob.shift s.h.length)⟩)(n:JU (Qp s.fr x)=some (f,g,j):=by rfl)(w:match YP (Wl s.h 4) (Jm g j (a.toList.map (Qp s.fr))) with|some (p,e)=>p/\KQ e i|none=>False:=by simp only[go_sem,Qa])(q:Zt nt b=true:=by rfl):AX prog base nt w0 K ((false,⟨b,.call ⟨.value x,a,E⟩,m,pos,c,C⟩,none)::r) s:=Th y v n w z t q u
def JO{b}{j:TypeId}{pos}{c}{v}{r}{x}{a:Array Operand}{w:Array TypeId}{f}{e}{i}{g}(t:base<=w0.w.heap.size)(p:Qn prog f){R}(u:QI prog f s.h g R)(o:∀d h,R d h->Qw prog base nt w0 Q (.ops r::k) .normal ⟨Zk s.fr b d,h⟩)(m:JU (Qp s.fr x)=some (f,e,i):=by rfl)(q:KQ (Jm e i (a.toList.map (Qp s.fr))) g:=by simp only[go_sem])(n:Zt nt b=true:=by rfl):Qw prog base nt w0 Q (.ops ((⟨b,.call ⟨.value x,a,w⟩,j,pos,c,v⟩,none)::r)::k) .normal s:=VY t p m q u n o
def cR2{b}{i:TypeId}{pos}{c}{u}{r}{x}{a:Array Operand}{v:Array TypeId}{f}{e}{h}{g}(q:base<=w0.w.heap.size)(o:Qn prog f){R}(t:Zf prog f s.h g R)(n:∀d,R d->Qw prog base nt w0 Q (.ops r::k) .normal ⟨Zk s.fr b d,s.h⟩)(j:JU (Qp s.fr x)=some (f,e,h):=by rfl)(p:KQ (Jm e h (a.toList.map (Qp s.fr))) g:=by simp only[go_sem])(m:Zt nt b=true:=by rfl):Qw prog base nt w0 Q (.ops ((⟨b,.call ⟨.value x,a,v⟩,i,pos,c,u⟩,none)::r)::k) .normal s:=X0 q o j p t m n
def cA2{b}{m:TypeId}{pos}{c}{C}{r}{x}{a:Array Operand}{E:Array TypeId}{f}{g}{j}{i}(y:base<=w0.w.heap.size)(v:Qn prog f){R}(z:Q9 prog f i R)(t:∀d h,R d h->d.flat=true/\∀o∈h,o.flat)(u:∀d h,R d h->Qw prog base nt w0 Q (.ops r::k) .normal ⟨Zk s.fr b (d.shift s.h.length),s.h++h.map (Ob.shift s.h.length)⟩)(n:JU (Qp s.fr x)=some (f,g,j):=by rfl)(w:match YP (Wl s.h 4) (Jm g j (a.toList.map (Qp s.fr))) with|some (p,e)=>p/\KQ e i|none=>False:=by simp only[go_sem])(q:Zt nt b=true:=by rfl):Qw prog base nt w0 Q (.ops ((⟨b,.call ⟨.value x,a,E⟩,m,pos,c,C⟩,none)::r)::k) .normal s:=OG y v n w z t q u
def xR2{b}{i:TypeId}{pos}{c}{u}{r}{x}{a:Array Operand}{v:Array TypeId}{f}{e}{h}{g}(q:base<=w0.w.heap.size)(o:Qn prog f){R}(t:Zf prog f s.h g R)(n:∀d,R d->AX prog base nt w0 K r ⟨Zk s.fr b d,s.h⟩)(j:JU (Qp s.fr x)=some (f,e,h):=by rfl)(p:KQ (Jm e h (a.toList.map (Qp s.fr))) g:=by simp only[go_sem])(m:Zt nt b=true:=by rfl):AX prog base nt w0 K ((false,⟨b,.call ⟨.value x,a,v⟩,i,pos,c,u⟩,none)::r) s:=OU q o j p t m n
def wV{b}{j : TypeId}{c}{v}{r}{x}{a : Array Operand}{w : Array TypeId}{f}{e}{i}{g}(t : base <= w0.w.heap.size)(p : Qn prog f){R}(u : QI prog f s.h g R)(o : ∀ d h, R d h -> AX prog base nt w0 K r ⟨Zk s.fr b d, h⟩)(m : JU (Qp s.fr x) = some (f, e, i) := by rfl)(q : KQ (Jm e i (a.toList.map (Qp s.fr))) g := by simp only[go_sem])(n : Zt nt b = true := by rfl): AX prog base nt w0 K ((false, ⟨b, .call ⟨.value x, a, w⟩, j, "!", c, v⟩, none) :: r) s := y6 t p m q u n o
def xA2{b}{m:TypeId}{pos}{c}{C}{r}{x}{a:Array Operand}{E:Array TypeId}{f}{g}{j}{i}(y:base<=w0.w.heap.size)(v:Qn prog f){R}(z:Q9 prog f i R)(t:∀d h,R d h->d.flat=true/\∀o∈h,o.flat)(u:∀d h,R d h->AX prog base nt w0 K r ⟨Zk s.fr b (d.shift s.h.length),s.h++h.map (Ob.shift s.h.length)⟩)(n:JU (Qp s.fr x)=some (f,g,j):=by rfl)(w:match YP (Wl s.h 4) (Jm g j (a.toList.map (Qp s.fr))) with|some (p,e)=>p/\KQ e i|none=>False:=by simp only[go_sem])(q:Zt nt b=true:=by rfl):AX prog base nt w0 K ((false,⟨b,.call ⟨.value x,a,E⟩,m,pos,c,C⟩,none)::r) s:=Th y v n w z t q u
def qy{b}{m:TypeId}{pos}{c}{E}{r}{x}{a:Array Operand}{F:Array TypeId}{f}{g}{j}{i}(y:base<=w0.w.heap.size)(u:Qn prog f){v:D}(C:Q9 prog f i (Zp v))(t:Qw prog base nt w0 Q (.ops r::k) .normal ⟨Zk s.fr b (v.shift s.h.length),s.h++([]:List Ob).map (Ob.shift s.h.length)⟩)(n:JU (Qp s.fr x)=some (f,g,j):=by rfl)(w:match YP (Wl s.h 4) (Jm g j (a.toList.map (Qp s.fr))) with|some (p,e)=>p/\KQ e i|none=>False:=by simp only[go_sem,Qa])(o:Zt nt b=true:=by rfl)(q:v.flat=true:=by rfl):Qw prog base nt w0 Q (.ops ((⟨b,.call ⟨.value x,a,F⟩,m,pos,c,E⟩,none)::r)::k) .normal s:=OG y u n w C (Zp.flat q) o λd h z=>by obtain⟨rfl,rfl⟩:=z;exact t
def JD{b}{i:TypeId}{pos}{c}{w}{r}{x}{a:Array Operand}{y:Array TypeId}{f}{e}{h}{g}(q:base<=w0.w.heap.size)(o:Qn prog f){v}(u:Zf prog f s.h g (λd=>d=v))(n:Qw prog base nt w0 Q (.ops r::k) .normal ⟨Zk s.fr b v,s.h⟩)(j:JU (Qp s.fr x)=some (f,e,h):=by rfl)(p:KQ (Jm e h (a.toList.map (Qp s.fr))) g:=by simp only[go_sem,Qa])(m:Zt nt b=true:=by rfl):Qw prog base nt w0 Q (.ops ((⟨b,.call ⟨.value x,a,y⟩,i,pos,c,w⟩,none)::r)::k) .normal s:=X0 q o j p u m λd t=>by subst t;exact n
def Pa{b}{m:TypeId}{pos}{c}{E}{r}{x}{a:Array Operand}{F:Array TypeId}{f}{g}{j}{i}(y:base<=w0.w.heap.size)(u:Qn prog f){v:D}(C:Q9 prog f i (Zp v))(t:AX prog base nt w0 K r ⟨Zk s.fr b (v.shift s.h.length),s.h++([]:List Ob).map (Ob.shift s.h.length)⟩)(n:JU (Qp s.fr x)=some (f,g,j):=by rfl)(w:match YP (Wl s.h 4) (Jm g j (a.toList.map (Qp s.fr))) with|some (p,e)=>p/\KQ e i|none=>False:=by simp only[go_sem,Qa])(o:Zt nt b=true:=by rfl)(q:v.flat=true:=by rfl):AX prog base nt w0 K ((false,⟨b,.call ⟨.value x,a,F⟩,m,pos,c,E⟩,none)::r) s:=Th y u n w C (Zp.flat q) o λd h z=>by obtain⟨rfl,rfl⟩:=z;exact t
def WZ{b}{i:TypeId}{pos}{c}{w}{r}{x}{a:Array Operand}{y:Array TypeId}{f}{e}{h}{g}(q:base<=w0.w.heap.size)(o:Qn prog f){v}(u:Zf prog f s.h g (λd=>d=v))(n:AX prog base nt w0 K r ⟨Zk s.fr b v,s.h⟩)(j:JU (Qp s.fr x)=some (f,e,h):=by rfl)(p:KQ (Jm e h (a.toList.map (Qp s.fr))) g:=by simp only[go_sem,Qa])(m:Zt nt b=true:=by rfl):AX prog base nt w0 K ((false,⟨b,.call ⟨.value x,a,y⟩,i,pos,c,w⟩,none)::r) s:=OU q o j p u m λd t=>by subst t;exact n
def JW{b}{m:TypeId}{pos}{c}{E}{r}{x}{a:Array Operand}{F:Array TypeId}{f}{g}{j}{i}(y:base<=w0.w.heap.size)(u:Qn prog f){v:D}(C:Q9 prog f i (Zp v))(t:Qw prog base nt w0 Q (.ops r::k) .normal ⟨Zk s.fr b (v.shift s.h.length),s.h++([]:List Ob).map (Ob.shift s.h.length)⟩)(n:JU (Qp s.fr x)=some (f,g,j):=by rfl)(w:match YP (Wl s.h 4) (Jm g j (a.toList.map (Qp s.fr))) with|some (p,e)=>p/\KQ e i|none=>False:=by simp only[go_sem])(o:Zt nt b=true:=by rfl)(q:v.flat=true:=by rfl):Qw prog base nt w0 Q (.ops ((⟨b,.call ⟨.value x,a,F⟩,m,pos,c,E⟩,none)::r)::k) .normal s:=OG y u n w C (Zp.flat q) o λd h z=>by obtain⟨rfl,rfl⟩:=z;exact t
def cS2{b}{i:TypeId}{pos}{c}{w}{r}{x}{a:Array Operand}{y:Array TypeId}{f}{e}{h}{g}(q:base<=w0.w.heap.size)(o:Qn prog f){v}(u:Zf prog f s.h g (λd=>d=v))(n:Qw prog base nt w0 Q (.ops r::k) .normal ⟨Zk s.fr b v,s.h⟩)(j:JU (Qp s.fr x)=some (f,e,h):=by rfl)(p:KQ (Jm e h (a.toList.map (Qp s.fr))) g:=by simp only[go_sem])(m:Zt nt b=true:=by rfl):Qw prog base nt w0 Q (.ops ((⟨b,.call ⟨.value x,a,y⟩,i,pos,c,w⟩,none)::r)::k) .normal s:=X0 q o j p u m λd t=>by subst t;exact n
def VR{b}{m:TypeId}{pos}{c}{E}{r}{x}{a:Array Operand}{F:Array TypeId}{f}{g}{j}{i}(y:base<=w0.w.heap.size)(u:Qn prog f){v:D}(C:Q9 prog f i (Zp v))(t:AX prog base nt w0 K r ⟨Zk s.fr b (v.shift s.h.length),s.h++([]:List Ob).map (Ob.shift s.h.length)⟩)(n:JU (Qp s.fr x)=some (f,g,j):=by rfl)(w:match YP (Wl s.h 4) (Jm g j (a.toList.map (Qp s.fr))) with|some (p,e)=>p/\KQ e i|none=>False:=by simp only[go_sem])(o:Zt nt b=true:=by rfl)(q:v.flat=true:=by rfl):AX prog base nt w0 K ((false,⟨b,.call ⟨.value x,a,F⟩,m,pos,c,E⟩,none)::r) s:=Th y u n w C (Zp.flat q) o λd h z=>by obtain⟨rfl,rfl⟩:=z;exact t
def xS2{b}{i:TypeId}{pos}{c}{w}{r}{x}{a:Array Operand}{y:Array TypeId}{f}{e}{h}{g}(q:base<=w0.w.heap.size)(o:Qn prog f){v}(u:Zf prog f s.h g (λd=>d=v))(n:AX prog base nt w0 K r ⟨Zk s.fr b v,s.h⟩)(j:JU (Qp s.fr x)=some (f,e,h):=by rfl)(p:KQ (Jm e h (a.toList.map (Qp s.fr))) g:=by simp only[go_sem])(m:Zt nt b=true:=by rfl):AX prog base nt w0 K ((false,⟨b,.call ⟨.value x,a,y⟩,i,pos,c,w⟩,none)::r) s:=OU q o j p u m λd t=>by subst t;exact n
def JG{b}{m:TypeId}{pos}{c}{E}{r}{x}{a:Array Operand}{F:Array TypeId}{f}{g}{j}{i}(y:base<=w0.w.heap.size)(u:Qn prog f)(w:match YP (Wl s.h 4) (Jm g j (a.toList.map (Qp s.fr))) with|some (p,e)=>p/\KQ e i|none=>False){v:D}(C:Q9 prog f i (Zp v))(t:Qw prog base nt w0 Q (.ops r::k) .normal ⟨Zk s.fr b (v.shift s.h.length),s.h++([]:List Ob).map (Ob.shift s.h.length)⟩)(n:JU (Qp s.fr x)=some (f,g,j):=by rfl)(o:Zt nt b=true:=by rfl)(q:v.flat=true:=by rfl):Qw prog base nt w0 Q (.ops ((⟨b,.call ⟨.value x,a,F⟩,m,pos,c,E⟩,none)::r)::k) .normal s:=OG y u n w C (Zp.flat q) o λd h z=>by obtain⟨rfl,rfl⟩:=z;exact t
def Xg{b}{i:TypeId}{pos}{c}{w}{r}{x}{a:Array Operand}{y:Array TypeId}{f}{e}{h}{g}(q:base<=w0.w.heap.size)(o:Qn prog f)(p:KQ (Jm e h (a.toList.map (Qp s.fr))) g){v}(u:Zf prog f s.h g (λd=>d=v))(n:Qw prog base nt w0 Q (.ops r::k) .normal ⟨Zk s.fr b v,s.h⟩)(j:JU (Qp s.fr x)=some (f,e,h):=by rfl)(m:Zt nt b=true:=by rfl):Qw prog base nt w0 Q (.ops ((⟨b,.call ⟨.value x,a,y⟩,i,pos,c,w⟩,none)::r)::k) .normal s:=X0 q o j p u m λd t=>by subst t;exact n
def KJ{b}{m:TypeId}{pos}{c}{E}{r}{x}{a:Array Operand}{F:Array TypeId}{f}{g}{j}{i}(y:base<=w0.w.heap.size)(u:Qn prog f)(w:match YP (Wl s.h 4) (Jm g j (a.toList.map (Qp s.fr))) with|some (p,e)=>p/\KQ e i|none=>False){v:D}(C:Q9 prog f i (Zp v))(t:AX prog base nt w0 K r ⟨Zk s.fr b (v.shift s.h.length),s.h++([]:List Ob).map (Ob.shift s.h.length)⟩)(n:JU (Qp s.fr x)=some (f,g,j):=by rfl)(o:Zt nt b=true:=by rfl)(q:v.flat=true:=by rfl):AX prog base nt w0 K ((false,⟨b,.call ⟨.value x,a,F⟩,m,pos,c,E⟩,none)::r) s:=Th y u n w C (Zp.flat q) o λd h z=>by obtain⟨rfl,rfl⟩:=z;exact t
def qz{b}{i:TypeId}{pos}{c}{w}{r}{x}{a:Array Operand}{y:Array TypeId}{f}{e}{h}{g}(q:base<=w0.w.heap.size)(o:Qn prog f)(p:KQ (Jm e h (a.toList.map (Qp s.fr))) g){v}(u:Zf prog f s.h g (λd=>d=v))(n:AX prog base nt w0 K r ⟨Zk s.fr b v,s.h⟩)(j:JU (Qp s.fr x)=some (f,e,h):=by rfl)(m:Zt nt b=true:=by rfl):AX prog base nt w0 K ((false,⟨b,.call ⟨.value x,a,y⟩,i,pos,c,w⟩,none)::r) s:=OU q o j p u m λd t=>by subst t;exact n
def VD(b){c}{a}(d:base<=w0.w.heap.size)(l:List Nat)(R:List Nat)(h:Vc prog base w0 cx nt (FD prog base w0 cx nt (OH prog base w0 Q cx nt 200 k) R.length (Go.Fg.ku b a R) ((ml l).map (·.1))) (Go.Fg.Vj b a (ml l)) s)(f:DP b cx.L a (ml l) R=true:=by kernel_rfl)(e:Cy a s.fr=true:=by kernel_rfl):Qw prog base nt w0 Q (.code (.region c a true)::k) .normal s:=QdX b VK d 200 mixed (ml l) R f e h
end
def ZH(k){R}{f}{d:Func}{c}{a:List D}{e}{g:Array ResultVar}(j:prog.funcs[f]? = some d)(m:d.ntmps=e)(n:d.results=g)(h:∀(b:Nat) (w:World),b<=w.heap.size->hx prog b ⟨w,[],[]⟩ (Bg cx.L g.toList (Kept k R)) cx e 200 [.code c] ⟨km a 0,[]⟩)(l:d.body=some c:=by rfl)(i:Nat.ble a.length e=true:=by rfl):Q9 prog f a R:=QdS k VK 200 j l m n i h
def Q3{R}{F}{f}{d:Func}{c}{a:List D}{e}{g:Array ResultVar}(k:prog.funcs[f]? = some d)(m:d.ntmps=e)(n:d.results=g)(h:∀(b:Nat) (w:World) (i:List Pl),b<=w.heap.size->hx prog b ⟨w,F,i⟩ (Bg cx.L g.toList R) cx e 200 [.code c] ⟨km a 0,F⟩)(l:d.body=some c:=by rfl)(j:Nat.ble a.length e=true:=by rfl):QI prog f F a R:=eY VK 200 k l m n j h
def ZD{R}{H:List Ob}{f}{e:Func}{c}{a:List D}{i}{j:Array ResultVar}(m:prog.funcs[f]? = some e)(p:e.ntmps=i)(q:e.results=j)(h:∀(b:Nat) (w:World) (k:List Pl) (F:List Ob),F=H.map Ob.ro->F.length=H.length->b<=w.heap.size->hx prog b ⟨w,F,k⟩ (Bg cx.L j.toList λd o=>∃g,o=F++g/\d.upto F.length=true/\R d) cx i 200 [.code c] ⟨km a 0,F⟩)(n:e.body=some c:=by rfl)(l:Nat.ble a.length i=true:=by rfl):Zf prog f H a R:=QpQ VK 200 m n p q l h
def Wo{p}(h:p:=by first|exact⟨_,rfl,rfl⟩|exact⟨_,rfl⟩|rfl|exact⟨[],(Jv _).symm⟩|exact⟨[],(Jv _).symm,rfl⟩):p:=h
def ZK{e n}(h:-9223372036854775808<=e/\e<=9223372036854775807/\e=n:=by omega):IntKind.i64.wrap e=n:=by rw[wrap64 h.1 h.2.1];exact h.2.2
def QQ{b}{a g}{h}(e:Hn a g:=by simp only[go_sem]):QH b ⟨a,h⟩ ⟨g,h⟩:=QH.frame e
end Go.Fg.X
namespace Go.Fg
def Qum{P}{o:Oper}{a}{w}{K i}{Q g}(f:∀a w,K a w->i a w)(d:∀e a w,Q e a w->g e a w)(h:o.wp P a w K Q):o.wp P a w i g:=by
 unfold Oper.wp at *;generalize (execOp a.eval o).run P w=r at *;cases r with
 | ok x j=>
  cases x<;>simp only[Oper.upon]at h ⊢<;>first|exact f _ _ h|exact h|skip
  .exact h.mono λe k b=>by
    cases e with
    | returned v=>exact f _ _ b
    | panicked c=>exact d _ _ _ b
    | outgrown=>obtain⟨a,w,h⟩:=b;exact⟨a,w,d _ _ _ h⟩
  .exact h.mono λv k b=>f _ _ b
 | halt x j=>cases x<;>first|exact h|exact d _ _ _ h
def gy{P}{Q d}(b:∀e a w,Q e a w->d e a w):∀(l:List (Oper × G)) (a:Act) (w:World),qp P Q l a w->qp P d l a w
 | [],a,w,h=>b _ _ _ h
 | (o,g)::r,a,w,h=>by
  simp only[qp]at h ⊢;split at h
  .rename_i c;rw[Qf c];exact Qum (λa w=>gy b r a w) b h
  .rename_i c;rw[Qe c];exact gy b r _ _ h
section
variable {P:Program}{base nt:Nat}{w0:Start}{Q:Exit->St->Prop}{k:List Item}{s s1:St}
def TF(P:Program)(base nt:Nat)(w0:Start)(Q:Exit->St->Prop)(k:List Item)(s1:St):Exit->St->Prop
 | .normal,s=>QH w0 s s1
 | e,s=>Qw P base nt w0 Q k e s
@[go_sem] theorem QHb:TF P base nt w0 Q k s1 .normal s=QH w0 s s1:=Vk rfl
@[go_sem] theorem QHc{j}:TF P base nt w0 Q k s1 (.exit j) s=Qw P base nt w0 Q k (.exit j) s:=Vk rfl
@[go_sem] theorem QHd:TF P base nt w0 Q k s1 .ret s=Qw P base nt w0 Q k .ret s:=Vk rfl
def rI{x}{c}(s1)(d:Qw P base nt w0 (TF P base nt w0 Q (.code c::k) s1) [x] .normal s)(f:Qw P base nt w0 Q (.code c::k) .normal s1):Qw P base nt w0 Q (x::.code c::k) .normal s:=by
 cases x with
 | code x=>
  simp only[Qw]at d;show A P base nt w0 x _ s;refine d.mono λe g i=>?_;cases e with
  | normal=>exact DL i f
  | _=>exact i
 | ops l=>
  simp only[Qw]at d;show AG P base nt w0 l _ s;intro Z z m a w r b;refine gy (λe q p ⟨g,o,h,j,n⟩=>⟨g,o,?_,j,n⟩) _ _ _ (d Z z m a w r b);cases e with
  | normal=>exact DL h f
  | _=>exact h
 | inBlock id=>simp only[Qw]at d ⊢;exact DL d f
 | inScope=>simp only[Qw]at d ⊢;exact DL d f
def y7{x}{c}(b)(V){d}{h}{a}(g:fk d b=a)
  (f:Qw P base nt w0 (TF P base nt w0 Q (.code c::k) ⟨V++a,h⟩) [x] .normal ⟨d,h⟩) (e:Qw P base nt w0 Q (.code c::k) .normal ⟨V++a,h⟩):Qw P base nt w0 Q (x::.code c::k) .normal ⟨d,h⟩:=rI _ f e
@[go_sem] theorem QHe{X}:hx P base w0 Q X nt 0 k s=Qw P base nt w0 Q k .normal s:=by cases k<;>exact Vk rfl
end
end Go.Fg
namespace Go.Fg.X
open Go.Proofs Go.Fg
open Go.Proofs.Tryz
@[go_sem] def rJ(c:Cv):D:=.agg c.cells
@[go_sem] def Yh(c:Qq):D:=.agg c.cells
def QS(c:Cv):Int:=if c.m1=0/\c.d=0/\c.m2=0 then 1 else if 4294967295<c.m1\/4294967295<c.m2\/1048576<c.d then 0 else if c.d=0/\c.m1=c.m2 then 2 else if 0<c.d/\c.m2<c.m1 then 3 else if 0<c.d/\c.m1=0/\0<c.m2 then 4 else 0
def gz(c):Q9 prog 47 [rJ c] (Zp (Qb (QS c))):=by
 refine ZH 0 func47 ntmps47 results47 λa w b=>?_;simp only[go_sem]
 repeat' (first|((first|refine FF (λh=>?_) (λh=>?_)|refine FG (λh=>?_) (λh=>?_)|refine FH (λh=>?_) (λh=>?_)|refine q7 (λh=>?_) (λh=>?_)|refine FI (λh=>?_) (λh=>?_)|refine FJ (λh=>?_) (λh=>?_)|refine FK (λh=>?_) (λh=>?_)|refine FC (λh=>?_) (λh=>?_))<;>(try simp only[go_sem]))|(refine And.intro ω ?_;try simp only[go_sem]))
 all_goals (congr 2;(try simp only[Lf,j5,ZX,jr,ne_eq]at *);unfold QS;(repeat' split)<;>omega)
def rK(c):Q9 prog 45 [rJ c] (Zp (QZ (QS c != 0))):=by
 refine ZH 0 func45 ntmps45 results45 λb w a=>?_;simp only[go_sem];apply JW a DU (gz c);exact zT a
def gA(c):Q9 prog 37 [rJ c] (Zp (QZ (decide (1<QS c)))):=by
 refine ZH 0 func37 ntmps37 results37 λb w a=>?_;simp only[go_sem];apply JW a DU (gz c);exact zT a
def DY(c:Qq):Q9 prog 14 [Yh c] (Zp (QZ (decide (1<QS c.rt)))):=by
 refine ZH 0 func14 ntmps14 results14 λb w a=>?_;simp only[go_sem];apply JW a fN (gA c.rt);exact zT a
def wW(c:Qq):Q9 prog 107 [Yh c] (Zp (QZ (decide (1<QS c.ls)))):=by
 refine ZH 0 func107 ntmps107 results107 λb w a=>?_;simp only[go_sem];apply JW a fN (gA c.ls);exact zT a
def Qgf(c:Qq):Q9 prog 233 [Yh c] (Zp (QZ (decide (1<QS c.ul)))):=by
 refine ZH 0 func233 ntmps233 results233 λb w a=>?_;simp only[go_sem];apply JW a fN (gA c.ul);exact zT a
def Bq(n a b:Int):Bool:=decide (a<=n)&&decide (n<=b)
def gC(n a b):Q9 prog 232 [Qb n,Qb a,Qb b] (Zp (QZ (Bq n a b))):=by
 refine ZH 0 func232 ntmps232 results232 λc w d=>?_;simp only[go_sem];unfold Bq;by_cases h:a<=n
 .simp only[go_sem,h]
 .simp only[go_sem,h]
def FQ(c:Qq):Bool:=Bq c.iD 1 65536&&Bq c.parent 0 65536&&!(c.parent==c.iD)
def HC(c:Qq):Bool:=(QS c.rt != 0)&&((QS c.ls != 0)&&!(QS c.ls==4))&&((QS c.ul != 0)&&!(QS c.ul==4))
def wX(c:Qq):Bool:=Bq c.Z4 1 64&&Bq c.bytes 1 1048576&&(decide (1<QS c.rt) || decide (1<QS c.ls))
def CI(c:Qq):Bool:=c.Z4==0&&c.bytes==0&&!decide (1<QS c.rt)
def Vr(c:Qq):Int:=if !FQ c then 1 else if !HC c then 21 else if (c.leaf&&!wX c) || (!c.leaf&&!CI c) || (decide (1<QS c.ul)&&!decide (1<QS c.ls)) then 29 else 0
structure Qun (c:Qq) (k:Nat) (s:St):Prop where
 h0:0<k->QS c.rt≠0
 h1:1<k->QS c.ls≠0/\QS c.ls≠4
 h2:2<k->QS c.ul≠0/\QS c.ul≠4
 eq:s=⟨[(1,.ptr 0 0 0 0),(2,Qb 0),(30,.agg (c.rt.cells++(c.ls.cells++c.ul.cells))),(31,Qb k)],[⟨.one,0,14,1,λ_=>c.cells⟩]⟩
def Qgg(c):Q9 prog 187 [Yh c] (Zp (Qb (Vr c))):=by
 refine ZH 0 func187 ntmps187 results187 λE w f=>?_;simp only[go_sem];apply JW f gi (gC c.iD 1 65536);apply Za f;cases q:Bq c.iD 1 65536
 .have:Vr c=1:=by simp[Vr,FQ,q]
  simp only[go_sem,this]
 .simp only[go_sem];apply JW f gi (gC c.parent 0 65536);apply Za f;cases z:Bq c.parent 0 65536
  .have:Vr c=1:=by simp[Vr,FQ,q,z]
   simp only[go_sem,this]
  .simp only[go_sem];by_cases o:c.parent=c.iD
   .have:Vr c=1:=by simp[Vr,FQ,q,z,o]
    simp only[go_sem,zS o,this]
   .simp only[go_sem,XM o];have n:FQ c=true:=by simp[FQ,q,z,o]
    have u:IntKind.i64.wrap 1=1:=π;have t:IntKind.i64.wrap 2=2:=π;have r:IntKind.i64.wrap 3=3:=π;refine Js (Qun c) 3
     (s0:=⟨[(1,.ptr 0 0 0 0),(2,Qb 0),(30,.agg (c.rt.cells++(c.ls.cells++c.ul.cells))),(31,Qb 0)],[⟨.one,0,14,1,λ_=>c.cells⟩]⟩) QQ ⟨ω,ω,ω,rfl⟩ ?_
    rintro k s J ⟨p,y,C,rfl⟩;obtain rfl|rfl|rfl|rfl:k=0\/k=1\/k=2\/k=3:=ω
    .apply Za f;apply JW f Mf (rK c.rt);apply Za f;by_cases h:QS c.rt=0
     .have:Vr c=21:=by simp[Vr,n,HC,h]
      simp only[go_sem,zS h,bne,this,Go.undef]
     .simp only[go_sem,XM h,bne,Go.undef];refine⟨_,QH.to 1 ⟨?_,by simp only[go_sem],?_,?_⟩,⟨λ_=>h,ω,ω,rfl⟩⟩<;>simp only[go_sem,u,t,r]
    .apply Za f;apply JW f Mf (rK c.ls);apply Za f;by_cases h:QS c.ls=0
     .have:Vr c=21:=by simp[Vr,n,HC,h]
      simp only[go_sem,zS h,bne,this,Go.undef]
     .simp only[go_sem,XM h,bne,Go.undef];apply JW f DU (gz c.ls);apply Za f;by_cases j:QS c.ls=4
      .have:Vr c=21:=by simp[Vr,n,HC,j]
       simp only[go_sem,zS j,this,Go.undef]
      .simp only[go_sem,XM j,Go.undef];refine⟨_,QH.to 1 ⟨?_,by simp only[go_sem],?_,?_⟩,⟨λ_=>p ω,λ_=>⟨h,j⟩,ω,rfl⟩⟩<;>simp only[go_sem,u,t,r]
    .apply Za f;apply JW f Mf (rK c.ul);apply Za f;by_cases h:QS c.ul=0
     .have:Vr c=21:=by simp[Vr,n,HC,h]
      simp only[go_sem,zS h,bne,this,Go.undef]
     .simp only[go_sem,XM h,bne,Go.undef];apply JW f DU (gz c.ul);apply Za f;by_cases j:QS c.ul=4
      .have:Vr c=21:=by simp[Vr,n,HC,j]
       simp only[go_sem,zS j,this,Go.undef]
      .simp only[go_sem,XM j,Go.undef];refine⟨_,QH.to 1 ⟨?_,by simp only[go_sem],?_,?_⟩,⟨λ_=>p ω,λ_=>y ω,λ_=>⟨h,j⟩,rfl⟩⟩<;>simp only[go_sem,u,t,r]
    .have I:HC c=true:=by
      have a:=p ω;have b:=y ω;have d:=C ω;simp[HC,a,b,d]
     clear p y C;apply Za f;first|refine YO ?_|skip
     refine y7 [1,2] [(5,QZ (wX c))] rfl ?_ ?_
     .apply Za f;apply JW f gi (gC c.Z4 1 64);apply Za f;cases i:Bq c.Z4 1 64
      .have e:wX c=false:=by simp[wX,i]
       simp only[go_sem,Go.undef];exact QH.to 1 (by (simp only[go_sem,e])<;>simp)
      .simp only[go_sem,Go.undef];apply JW f gi (gC c.bytes 1 1048576);apply Za f;cases m:Bq c.bytes 1 1048576
       .have e:wX c=false:=by simp[wX,i,m]
        simp only[go_sem,Go.undef];exact QH.to 1 (by (simp only[go_sem,e])<;>simp)
       .simp only[go_sem,Go.undef];apply JW f y0 (DY c);apply Za f;cases B:decide (1<QS c.rt)
        .simp only[go_sem,Go.undef];apply JW f wT (wW c);apply Za f;have e:wX c=decide (1<QS c.ls):=by simp[wX,i,m,B]
         exact QH.to 1 (by (simp only[go_sem,e])<;>simp)
        .have e:wX c=true:=by simp[wX,i,m,B]
         simp only[go_sem,Go.undef];exact QH.to 1 (by (simp only[go_sem,e])<;>simp)
     first|refine YO ?_|skip
     refine y7 [1,2,5] [(6,QZ (CI c))] rfl ?_ ?_
     .apply Za f;by_cases i:c.Z4=0
      .simp only[go_sem,zS i,Go.undef];by_cases m:c.bytes=0
       .simp only[go_sem,zS m,Go.undef];apply JW f y0 (DY c);apply Za f;have e:CI c=!decide (1<QS c.rt):=by simp[CI,i,m]
        exact QH.to 1 (by (simp only[go_sem,e])<;>simp)
       .have e:CI c=false:=by simp[CI,i,m]
        simp only[go_sem,XM m,Go.undef];exact QH.to 1 (by (simp only[go_sem,e])<;>simp)
      .have e:CI c=false:=by simp[CI,i]
       simp only[go_sem,XM i,Go.undef];exact QH.to 1 (by (simp only[go_sem,e])<;>simp)
     apply Za f;have g:Vr c=if (c.leaf&&!wX c) || (!c.leaf&&!CI c) || (decide (1<QS c.ul)&&!decide (1<QS c.ls)) then 29 else 0:=by simp[Vr,n,I]
     generalize wX c=F at g ⊢;generalize CI c=H at g ⊢;cases l:c.leaf<;>rw[l]at g
     .cases H
      .simp at g;simp only[go_sem,Go.undef,g]
      .simp only[go_sem,Go.undef];refine JG f QfX ?_ (Qgf c) ?_
       .simp only[go_sem,l]
       apply Qh f;simp only[go_sem,l];cases v:decide (1<QS c.ul)<;>rw[v]at g
       .simp at g;simp only[go_sem,Go.undef,g]
       .simp only[go_sem,Go.undef];refine JG f wT ?_ (wW c) ?_
        .simp only[go_sem,l]
        apply Qh f;simp only[go_sem,l];cases x:decide (1<QS c.ls)<;>rw[x]at g<;>simp at g<;>simp only[go_sem,Go.undef,g]
     .cases F
      .simp at g;simp only[go_sem,Go.undef,g]
      .simp only[go_sem,Go.undef];refine JG f QfX ?_ (Qgf c) ?_
       .simp only[go_sem,l]
       apply Qh f;simp only[go_sem,l];cases v:decide (1<QS c.ul)<;>rw[v]at g
       .simp at g;simp only[go_sem,Go.undef,g]
       .simp only[go_sem,Go.undef];refine JG f wT ?_ (wW c) ?_
        .simp only[go_sem,l]
        apply Qh f;simp only[go_sem,l];cases x:decide (1<QS c.ls)<;>rw[x]at g<;>simp at g<;>simp only[go_sem,Go.undef,g]
def Cv.Nn(c:Cv):Prop:=0<=c.m1/\0<=c.d/\0<=c.m2
def Qq.Nn(c:Qq):Prop:=c.rt.Nn/\c.ls.Nn/\c.ul.Nn
end Go.Fg.X
namespace Go.Fg
open Go.RowKit (Below)
open Go.Proofs Go.Shelf Go.Sort
def sorted(a:List Int):List Int:=a.mergeSort λx y=>decide (x<=y)
def HE(a:List Int):(sorted a).length=a.length:=by simp[sorted]
def wY(a:Nat)(b:Nat->List D)(c:List Int):Nat->List D:=λi=>if a<=i/\i<a+c.length then [.raw (.int .i64 (c.getD (i - a) 0))] else b i
variable {P:Program}{ρ:Ren}
def Quo{w:World}{b n o}{g}{a}{e:TypeId}{f}(d)(c:w.heap[b]? = some (.cells a e f)):
  (grow (putRow (Value.int .i64) (Sort.ahead w n) b o d) g).heap[b]? = some (.cells (putCells (Value.int .i64) o d a) e f):=by
 have h:b<w.heap.size:=(WO.1 c).1;rw[heap_grow_old _ _ (by simpa using h)];simp[putRow,mapBlock,Sort.ahead,nP,c,onCells]
def Qup{w:World}{b n o}{a}(d):w.grownBy (grow (putRow (Value.int .i64) (Sort.ahead w n) b o d) a) (some b):=by
 refine⟨rfl,rfl,rfl,σ,λk c f=>?_⟩;rw[heap_grow_old _ _ (by simpa using c)];have:b≠k:=λe=>f (by rw[e]);simp[putRow,mapBlock,Sort.ahead,nP,this]
def Quq(Ly:Lays.n189 P ρ){h:List Ob}{l g f N}{r}{m:List Int}(C:h[l]? = some ⟨.arr,g,1,N,r⟩)(hn:f+m.length<=N)(hr:∀i,i<m.length->r (f+i)=[.raw (.int .i64 (m.getD i 0))])(I:m.length<4611686018427387904):
  QI P (ρ.f 189) h [.ref l g f m.length] (λd h'=>d=.tup []/\h'=h.set l ⟨.arr,g,1,N,wY f r (sorted m)⟩):=by
 intro Z t w J vs Q6 hZ R wO hv;match vs,wO with
 | [v],_=>
 have r0:=hv 0 σ;obtain⟨o,p,a,B,E,h1,M,h3,h4,h5⟩:=Fh r0;rw[C]at h1;cases h1;have E:v=.slice a m.length B:=E;have CG:=h5 rfl;subst E;have Qc:l<h.length:=KY C;by_cases h0:m.length=0
 .have hz:m=[]:=NO.1 h0;subst hz;refine(Any.slices_Sort_int_none Ly a B w).mono ?_;rintro e x ⟨rfl,rfl⟩;have hs:h.set l ⟨.arr,g,1,N,wY f r (sorted [])⟩=h:=by
   have:wY f r (sorted [])=r:=by
    funext i;have:¬ (f<=i/\i<f+(sorted []).length):=by rw[HE];simp
    unfold wY;rw[Qe this]
   rw[this];apply AO;intro i;by_cases s:l=i
   .subst s;rw[Xb Qc,C]
   .rw[JZ s]
  rw[hs];exact⟨_,.tup [],h,J,rfl,⟨rfl,rfl⟩,R,.tup [] [] rfl (λi s=>by simp at s),Tr.refl _ _ _,.refl _ _⟩
 .rcases CG with ⟨h6,_⟩|⟨b,q,c,el,rfl,rfl,z,Ce,Z1⟩
  .exact absurd h6 h0
  .obtain⟨Yt,yP⟩:=R.at_ l _ b q C M;obtain⟨c',cT,Va,J2,Kx,ZN⟩:=yP.cells rfl;rw[z]at Va;cases Va;simp only[Nat.mul_one]at Ce J2 ZN ⊢;have DD:∀i,i<m.length->c[q+f+i]? = some (.int .i64 (m.getD i 0)):=λi s=>by
    obtain⟨u,K,F⟩:=ZN (f+i) 0 (by show f+i<N;omega) (by show 0<1;omega);have e2:(r (f+i))=_:=hr i s;have F:QF Z h J w (nth (r (f+i)) 0) u:=F;rw[e2]at F;have:=JJ F;rw[show q+f+i=q+(f+i+0) by omega,K,this]
   have hH:Holds (Value.int .i64) w b (q+f) m.toArray:=by
    intro j H;have WU:j<m.length:=by simpa using H
    refine⟨?_,by simp[World.frozen?,z]⟩;rw[World.cell?_of_block (w:=w) (w':=w) rfl];simp only[World.cell?,z];simp only[xJ,YF,zG];rw[DD j WU];simp[Q7,WU]
   refine(Any.slices_Sort_int Ly b (q+f) B m w hH (vm z) I).mono ?_;rintro e x ⟨rfl,n,os,W⟩;have Y:w.grownBy x (some b):=by rw[W];exact Qup _
   have JN:x.heap[b]? = some (.cells (putCells (Value.int .i64) (q+f) (sorted m).toArray c) el (0,0)):=by rw[W];exact Quo _ z
   have Q:(putCells (Value.int .i64) (q+f) (sorted m).toArray c).size=c.size:=by simp[putCells]
   have y:∀k,k≠b->k<w.heap.size->x.heap[k]? = w.heap[k]? := λk L Qc=>Y.block k Qc (λe=>L (by cases e;rfl));have V:t<=b:=Yt rfl;have hB:Below t w x:=(Below.refl t w).grown Y Q6 (λk L=>by cases L;exact V);have T:=Tr.QY (w':=x) (o':=⟨.arr,g,1,N,wY f r (sorted m)⟩) R C M rfl rfl rfl y (λc1 nX E=>by rw[z]at E;cases E;exact⟨_,JN,Q⟩);have y8:∀i,i<c.size->(putCells (Value.int .i64) (q+f) (sorted m).toArray c)[i]? = if q+f<=i/\i<q+f+m.length then some (.int .i64 ((sorted m).getD (i - (q+f)) 0)) else c[i]? := λi s=>by
    have hl:(sorted m).toArray.size=m.length:=by simp[HE]
    simp only[putCells,Array.getElem?_mapIdx,hl,jV s,KA];split
    .rename_i O;have:i - (q+f)<(sorted m).length:=by rw[HE];omega
     simp[Q7,this]
    .rfl
   refine⟨_,.tup [],_,J,rfl,⟨rfl,rfl⟩,Zo.QY (w':=x) (o':=⟨.arr,g,1,N,wY f r (sorted m)⟩) R C M rfl rfl rfl rfl y z JN Q (by rw[Q];simpa using J2) (λi s=>?_) (λi j s H=>?_) rfl,.tup [] [] rfl (λi s=>by simp at s),T,hB⟩
   .show (wY f r (sorted m) i).length=1;unfold wY;split
    .rfl
    .exact Kx i s
   .have s:i<N:=s;have H:j<1:=H;have TH:j=0:=ω;subst TH;have U:q+(i+0)<c.size:=ω;show ∃v,(putCells (Value.int .i64) (q+f) (sorted m).toArray c)[q+(i*1+0)]? = some v/\QF Z _ J x (nth (wY f r (sorted m) i) 0) v;rw[Nat.mul_one,y8 _ U];have S:wY f r (sorted m) i=if f<=i/\i<f+m.length then [.raw (.int .i64 ((sorted m).getD (i - f) 0))] else r i:=by unfold wY;rw[HE]
    rw[S];by_cases O:f<=i/\i<f+m.length
    .rw[Qf ω,Qf O];exact⟨_,rfl,by rw[show q+(i+0) - (q+f)=i - f by omega];exact .cl _ _ (.raw _)⟩
    .rw[Qe ω,Qe O];obtain⟨u,K,F⟩:=ZN i 0 s H;exact⟨u,K,F.tr T⟩
end Go.Fg
namespace Go.Fg.X
open Go.Proofs Go.Fg
open Go.Proofs.Tryz
def QC(L:List Qq)(k:Int):Option Qq:=L.find? λc=>c.iD==k
def Wp(e:ZQ):Int × D:=(e.k,e.v)
def YK(c:Qq):Int × D:=(c.iD,Yh c)
def Xw(L:List Qq):Prop:=L.Pairwise λa b=>a.iD<b.iD
structure VS (es:List ZQ) (L:List Qq):Prop where
 perm:(es.map Wp).Perm (L.map YK)
 sorted:Xw L
def Qgh{c:Type}{f:c->Int}:∀{l:List c},(l.map f).Nodup->∀{x y:c},x∈l->y∈l->f x=f y->x=y
 | [],_,x,_,hx,_,_=>by simp at hx
 | a::l,b,x,y,hx,d,e=>by
  simp only[Jo,Z8,JA,Fc,not_and]at b;rcases QG.1 hx with h1|h1<;>rcases QG.1 d with h2|h2
  .rw[h1,h2]
  .exact absurd (by rw[<- e,h1]) (b.1 y h2)
  .exact absurd (by rw[e,h2]) (b.1 x h1)
  .exact Qgh b.2 h1 h2 e
def Xw.nd{L:List Qq}(h:Xw L):(L.map (·.iD)).Nodup:=by
 unfold List.Nodup;rw[Sl];exact List.Pairwise.imp (λh=>ω) h
def VS.CJ{a}{L}(T:VS a L):Yc a:=by
 have c:a.map (·.k)=(a.map Wp).map Prod.fst:=by simp[Wp,bB]
 have b:(L.map YK).map Prod.fst=L.map (·.iD):=by simp[YK,bB]
 unfold Yc;rw[c,(T.perm.map Prod.fst).nodup_iff,b];exact T.sorted.nd
def rL:∀{b:List ZQ},Yc b->∀{k:Int} {v:D},Ja b k=some v↔(k,v)∈b.map Wp
 | [],_,k,v=>by simp[Ja]
 | e::b,a,k,v=>by
  have g:Yc b:=by unfold Yc at a ⊢;simp only[Jo,Z8]at a;exact a.2
  simp only[Ja];by_cases h:e.k=k
  .rw[Qf h];constructor
   .rintro⟨rfl⟩;simp[Wp,h]
   .intro hm;simp only[Jo,QG]at hm;rcases hm with hm|hm
    .simp only[Wp,Zh]at hm;rw[hm.2]
    .exfalso;obtain⟨d,f,c⟩:=JA.1 hm;simp only[Wp,Zh]at c;unfold Yc at a;simp only[Jo,Z8,JA,Fc,not_and]at a;exact a.1 d f (by rw[c.1,h])
  .rw[Qe h,rL g];simp only[Jo,QG];constructor
   .exact λh=>.inr h
   .rintro (hm|hm)
    .simp only[Wp,Zh]at hm;exact absurd hm.1.symm h
    .exact hm
def VL{L}(h:Xw L){k}{c:Qq}:QC L k=some c↔c∈L/\c.iD=k:=by
 constructor
 .intro e;exact⟨xF e,by have:=yJ e;simpa using this⟩
 .rintro⟨b,rfl⟩;cases a:QC L c.iD with
  | none=>
   have:=vh.1 a c b;simp at this
  | some d=>
   have g:=xF a;have f:d.iD=c.iD:=by have:=yJ a;simpa using this
   rw[Qgh h.nd g b f]
def HF{L}{k}:QC L k=none↔∀c∈L,c.iD≠k:=by
 simp[QC,vh]
def VS.look{a}{L}(T:VS a L)(k:Int):Ja a k=(QC L k).map Yh:=by
 cases b:QC L k with
 | some c=>
  obtain⟨h,g⟩:=(VL T.sorted).1 b;rw[KA,rL T.CJ,T.perm.mem_iff];exact JA.2 ⟨c,h,by simp[YK,g]⟩
 | none=>
  rw[qU];cases d:Ja a k with
  | none=>rfl
  | some v=>
   rw[rL T.CJ,T.perm.mem_iff]at d;obtain⟨c,f,e⟩:=JA.1 d;simp only[YK,Zh]at e;exact absurd e.1 (HF.1 b c f)
def VS.len{a:List ZQ}{L:List Qq}(T:VS a L):a.length=L.length:=by
 have:=T.perm.length_eq;simpa using this
def VS.nil:VS [] []:=⟨σ,by simp[Xw]⟩
def Wz:List Qq->Qq->List Qq
 | [],x=>[x]
 | c::r,x=>if x.iD<c.iD then x::c::r else if c.iD=x.iD then x::r else c::Wz r x
def XN(L:List Qq)(k:Int):List Qq:=L.filter λc=>c.iD != k
def TI{a:Type}{p}{l:List a}(h:∀x∈l,p x=true):l.filter p=l:=AP.2 h
def Ml:∀{L:List Qq} (x:Qq),Xw L->(Wz L x).Perm (x::XN L x.iD)
 | [],x,_=>by simp[Wz,XN]
 | c::r,x,h=>by
  have g:Xw r:=List.Pairwise.of_cons h;have b:∀d∈r,c.iD<d.iD:=λd hd=>(B5.1 h).1 d hd;simp only[Wz];by_cases e:x.iD<c.iD
  .rw[Qf e];have:XN (c::r) x.iD=c::r:=TI λd hd=>by
    rcases QG.1 hd with rfl|hd
    .simp;omega
    .have:=b d hd;simp;omega
   rw[this]
  .rw[Qe e];by_cases a:c.iD=x.iD
   .rw[Qf a];have f:XN r x.iD=r:=TI λd hd=>by have:=b d hd;simp;omega
    have:XN (c::r) x.iD=r:=by unfold XN at f ⊢;rw[Sf (by simp[a]),f]
    rw[this]
   .rw[Qe a];have:XN (c::r) x.iD=c::XN r x.iD:=by unfold XN;rw[Sg (by simp[a])]
    rw[this];exact((Ml x g).cons c).trans (List.Perm.swap x c _)
def Pb:∀{L:List Qq} (x:Qq),Xw L->Xw (Wz L x)
 | [],x,_=>by simp[Wz,Xw]
 | c::r,x,h=>by
  have a:Xw r:=List.Pairwise.of_cons h;have b:∀d∈r,c.iD<d.iD:=λd hd=>(B5.1 h).1 d hd;simp only[Wz];by_cases e:x.iD<c.iD
  .rw[Qf e];exact B5.2 ⟨λd hd=>by
    rcases QG.1 hd with rfl|hd
    .exact e
    .have:=b d hd;omega,h⟩
  .rw[Qe e];by_cases f:c.iD=x.iD
   .rw[Qf f];exact B5.2 ⟨λd hd=>by have:=b d hd;omega,a⟩
   .rw[Qe f];refine B5.2 ⟨λd hd=>?_,Pb x a⟩;have:=(Ml x a).mem_iff.1 hd;rcases QG.1 this with rfl|g
    .omega
    .exact b d (JI.1 g).1
def rM{L}(k)(h:Xw L):Xw (XN L k):=NN _ h
def Qgi:∀{a:List ZQ} (k:Int) (v:D),Yc a->(∃u,Ja a k=some u)->((kg a k v).map Wp).Perm ((k,v)::(a.map Wp).filter λp=>p.1 != k)
 | [],k,v,_,h=>by simp[Ja]at h
 | e::a,k,v,f,h=>by
  have c:=f;unfold Yc at c;simp only[Jo,Z8,JA,Fc,not_and]at c;simp only[kg];by_cases b:e.k=k
  .rw[Qf b];have i:(a.map Wp).filter (λp=>p.1 != k)=a.map Wp:=TI λp d=>by
    obtain⟨j,l,rfl⟩:=JA.1 d;have:=c.1 j l;simp[Wp];omega
   have:((e::a).map Wp).filter (λp=>p.1 != k)=a.map Wp:=by rw[Jo,Sf (by simp[Wp,b]),i]
   rw[this];simp[Wp]
  .rw[Qe b];have g:∃u,Ja a k=some u:=by simpa only[Ja,Qe b] using h
   have:((e::a).map Wp).filter (λp=>p.1 != k)=Wp e::(a.map Wp).filter (λp=>p.1 != k):=by rw[Jo,Sg (by simp[Wp,b])]
   rw[this,Jo];exact((Qgi k v c.2 g).cons _).trans (List.Perm.swap _ _ _)
def Quu{a}{L}(T:VS a L)(q)(c)(x:Qq):∃i b,Ki q c a x.iD (Yh x)=QR q i b/\VS b (Wz L x):=by
 have d:((Wz L x).map YK).Perm ((x.iD,Yh x)::(L.map YK).filter λp=>p.1 != x.iD):=by
  have:=(Ml x T.sorted).map YK;rw[Jo]at this;refine this.trans ?_;have:(L.map YK).filter (λp=>p.1 != x.iD)=(XN L x.iD).map YK:=by
   rw[Si];rfl
  rw[this];exact Sc _
 have e:=T.perm.filter λp=>p.1 != x.iD;unfold Ki;cases f:Ja a x.iD with
 | some u=>exact⟨c,_,rfl,⟨(Qgi x.iD (Yh x) T.CJ ⟨u,f⟩).trans ((e.cons _).trans d.symm),Pb x T.sorted⟩⟩
 | none=>
  refine⟨c+1,_,rfl,⟨?_,Pb x T.sorted⟩⟩;have g:(a.map Wp).filter (λp=>p.1 != x.iD)=a.map Wp:=TI λp d=>by
   obtain⟨h,j,rfl⟩:=JA.1 d;have:=(SN f).1 h j;simp[Wp];omega
  rw[g]at e;rw[jZ];refine List.perm_append_comm.trans ?_;exact(e.cons (x.iD,Yh x)).trans d.symm
def Qgj:∀{b:List ZQ} (k:Int),Yc b->((Kc b k).map Wp)=((b.map Wp).filter λp=>p.1 != k)
 | [],k,_=>rfl
 | e::b,k,f=>by
  have c:=f;unfold Yc at c;simp only[Jo,Z8,JA,Fc,not_and]at c;simp only[Kc];by_cases a:e.k=k
  .rw[Qf a,Jo,Sf (by simp[Wp,a])];exact(TI λp d=>by
    obtain⟨g,h,rfl⟩:=JA.1 d;have:=c.1 g h;simp[Wp];omega).symm
  .rw[Qe a,Jo,Jo,Sg (by simp[Wp,a]),Qgj k c.2]
def Qgk{a}{L}(T:VS a L)(k):VS (Kc a k) (XN L k):=by
 refine⟨?_,rM k T.sorted⟩;rw[Qgj k T.CJ];have:(L.map YK).filter (λp=>p.1 != k)=(XN L k).map YK:=by rw[Si];rfl
 rw[<- this];exact T.perm.filter _
def Quv{d e:List Int}(h:d.Perm e)(f:e.Pairwise (·<·)):sorted d=e:=by
 refine List.Perm.eq_of_pairwise (le:=λa b=>a<=b) (λa b _ _ i g=>ω) ?_ (f.imp (λh=>ω)) ((List.mergeSort_perm _ _).trans h);have:=List.pairwise_mergeSort (le:=λx y:Int=>decide (x<=y)) (λa b c i g=>by simp at *;omega) (λa b=>ξ) d;exact this.imp (λh=>by simpa using h)
section
variable (h:List Ob)(t m c:Nat){es:List ZQ}{L:List Qq}(T:VS es L)
 (ht:(h.map Ob.ro)[t]? = some ⟨.WI,0,1,1,λ_=>[.mref m 0]⟩) (hm:(h.map Ob.ro)[m]? = some (QR .i64 c es).ro)
include T ht hm
theorem Qgl(a:Int):Zf prog 77 h [.ptr t 0 0 0,Qb a] (λd=>d=.tup [Yh ((QC L a).getD default),Qb (if (QC L a).isSome then 0 else 6)]):=by
 have e:=T.look a;cases j:QC L a with
 | none=>
  rw[j,qU]at e;refine ZD func77 ntmps77 results77 λb w k F f n l=>?_;rw[<- f]at ht hm;have g:=Qc ht;have i:=Qc hm;simp only[go_sem,Qa,ht,g,hm,i,e];exact⟨_,rfl,rfl⟩
 | some x=>
  rw[j,KA]at e;refine ZD func77 ntmps77 results77 λb w k F f n l=>?_;rw[<- f]at ht hm;have g:=Qc ht;have i:=Qc hm;simp only[go_sem,Qa,ht,g,hm,i,e];exact⟨_,rfl,rfl⟩
end
def VE(F H:List Ob):Prop:=∃g,H=F++g
def VE.refl(F):VE F F:=⟨[],σ⟩
def VE.app{F H}(h:VE F H)(g):VE F (H++g):=by
 obtain⟨x,rfl⟩:=h;exact⟨x++g,σ⟩
def VE.set{F H:List Ob}(h:VE F H){lo}(a:F.length<=lo)(o):VE F (H.set lo o):=by
 obtain⟨x,rfl⟩:=h;exact⟨x.set (lo - F.length) o,by rw[NT _ _ a]⟩
def VE.len{F H:List Ob}(h:VE F H):F.length<=H.length:=by
 obtain⟨x,rfl⟩:=h;simp
def VE.get{F H:List Ob}(h:VE F H){l:Nat}{o:Ob}(e:F[l]? = some o):H[l]? = some o:=by
 obtain⟨x,rfl⟩:=h;rw[QJ (Qc e)];exact e
def KC(n:Nat)(H:List Ob)(d:D)(L:List Int):Prop:=(d=.nil/\L=[])\/∃c g a b,d=.ref c g a L.length/\(n<=c/\a=0)/\H[c]? = some ⟨.arr,g,1,a+L.length,b⟩/\∀i,i<L.length->b (a+i)=[Qb (L.getD i 0)]
def KC.app{n}{H}{d}{L}(h:KC n H d L)(g):KC n (H++g) d L:=by
 rcases h with h|⟨e,k,b,a,j,i,c,f⟩
 .exact .inl h
 .exact .inr ⟨e,k,b,a,j,i,by rw[QJ (Qc c)];exact c,f⟩
def KC.base{F h g:List Ob}{d}{L}(f:F.length=h.length)(x:KC F.length (F++g) d L):KC h.length (h++g) d L:=by
 rcases x with x|⟨e,k,b,a,j,l,c,i⟩
 .exact .inl x
 .refine .inr ⟨e,k,b,a,j,ω,?_,i⟩;rw[Kw ω]at c ⊢;rw[<- f];exact c
def KC.done{F h H:List Ob}{d}{L}(b:F.length=h.length)(a:VE F H)(x:KC F.length H d L):∃g,H=F++g/\KC h.length (h++g) d L:=by
 obtain⟨g,rfl⟩:=a;exact⟨g,rfl,x.base b⟩
def Mm{dn:List Int}{off}{row}{v}(b:∀i,i<dn.length->row (off+i)=[Qb (dn.getD i 0)]):∀i,i<(dn++[v]).length->KB dn.length off row (λ_=>[Qb v]) (0+i)=[Qb ((dn++[v]).getD i 0)]:=λi c=>by
 rw[JM];simp at c;by_cases a:i<dn.length
 .rw[A4 a,b i a];simp[a,JY a]
 .have:i=dn.length:=ω;subst this;rw[xM (Qs _)];simp
def Mn{h:List Ob}{l:Nat}{o:Ob}(e:h[l]? = some o.ro):(h.map Ob.ro)[l]? = some o.ro:=by have:=Jc e;rwa [ro_ro]at this
def J3(L:List Qq):Nat->Int->List Int
 | 0,_=>[]
 | n+1,id=>match QC L id with
  | none=>[]
  | some c=>id::J3 L n c.parent
def Ends(L:List Qq):Nat->Int->Prop
 | 0,id=>QC L id=none
 | n+1,id=>match QC L id with
  | none=>True
  | some c=>Ends L n c.parent
structure Quw (t:Nat) (L:List Qq) (N:Nat) (id:Int) (F:List Ob) (n:Nat) (s:St):Prop where
 ex:∃dn cur d H,dn++J3 L n cur=J3 L N id/\dn.length+n<=N+1/\Ends L n cur/\VE F H/\KC F.length H d dn/\s=⟨[(0,.ptr t 0 0 0),(1,Qb cur),(5,d)],H⟩
section
variable (h:List Ob)(t m c:Nat){es:List ZQ}{L:List Qq}(T:VS es L)
 (ht:(h.map Ob.ro)[t]? = some ⟨.WI,0,1,1,λ_=>[.mref m 0]⟩) (hm:(h.map Ob.ro)[m]? = some (QR .i64 c es).ro)
include T ht hm
theorem Qgm(b)(N)(hN:N<1000000)(Q:Ends L N b):Xf prog 115 h [.ptr t 0 0 0,Qb b] (λd g=>KC h.length (h++g) d (J3 L N b)):=by
 refine Bn VK 200 func115 rfl ntmps115 results115 rfl λJ w pl F P U f=>?_;rw[<- P]at ht hm;have S:=Qc ht;have W:=Qc hm;simp only[go_sem,Qa,ht,S,hm,W];refine Ot (Quw t L N b F) N (s0:=⟨[(0,.ptr t 0 0 0),(1,Qb b),(5,.nil)],F⟩) QQ ⟨[],b,.nil,F,rfl,σ,Q,VE.refl F,.inl ⟨rfl,rfl⟩,rfl⟩ ?_;rintro n s ⟨r,a,d,H,q,E,p,hx,B,rfl⟩;have a0:=hx.len;have k:=hx.get ht;have l:=hx.get hm;have o:=Qc k;have v:=Qc l;have e:=Qgl H t m c T (Jc k) (Mn l) a;apply QM f;cases j:QC L a with
 | none=>
  rw[j]at e;simp only[xJ,YF,zG]at e;apply JD f wS e;apply Qh f;simp only[go_sem,Qa,k,l,o,v];have R:J3 L n a=[]:=by cases n with
   | zero=>rfl
   | succ n=>simp only[J3,j]
  rw[R,Jv]at q;rw[<- q];exact KC.done U (hx.app _) (B.app _)
 | some x=>
  rw[j]at e;simp only[wz,VB,Vn]at e;obtain⟨n,rfl⟩:∃K,n=K+1:=by
   cases n with
   | zero=>rw[Ends,j]at p;cases p
   | succ n=>exact⟨n,rfl⟩
  have y:Ends L n x.parent:=by simpa only[Ends,j] using p
  have I:(r++[a])++J3 L n x.parent=J3 L N b:=by rw[<- q];simp only[J3,j,Wu,List.singleton_append]
  rcases B with ⟨rfl,rfl⟩|⟨z,g,Z,Y,rfl,V,C,M⟩
  .apply JD f wS e;apply Qh f;simp only[go_sem,Qa,k,l,o,v];refine⟨n,⟨[(0,.ptr t 0 0 0),(1,Qb x.parent),(5,.ref (H.length+2) 0 0 1)],_⟩,ω,QQ,⟨⟨[a],x.parent,_,_,I,by simp at E ⊢;omega,y,hx.app _,.inr ⟨H.length+2,0,0,_,rfl,ω,by rw[Wm rfl];rfl,λi O=>?_⟩,rfl⟩⟩⟩;have:i=0:=by simp at O;omega
   subst this;rfl
  .have u:=Qc C;apply JD f wS e;apply Qh f;simp only[go_sem,Qa,k,l,o,v,C,u];refine⟨ω,n,⟨[(0,.ptr t 0 0 0),(1,Qb x.parent),(5,.ref z (g+1) 0 (r.length+1))],_⟩,ω,QQ,⟨⟨r++[a],x.parent,_,_,I,?_,y,?_,?_,rfl⟩⟩⟩
   .simp at E ⊢;omega
   .exact(hx.set V.1 _).app _
   .refine .inr ⟨z,g+1,0,_,σ,ω,?_,Mm M⟩;rw[QJ (by simpa using u),Qy u];simp[Qb]
end
def YW(L:List Qq)(a:Int):Bool:=a==0 || decide (1<QS ((QC L a).getD default).ls)
section
variable (h:List Ob)(t m c:Nat){es:List ZQ}{L:List Qq}(T:VS es L)
 (ht:(h.map Ob.ro)[t]? = some ⟨.WI,0,1,1,λ_=>[.mref m 0]⟩) (hm:(h.map Ob.ro)[m]? = some (QR .i64 c es).ro)
include T ht hm
theorem Pc(a:Int)(N)(j:N<1000000)(l:Ends L N a):Zf prog 189 h [.ptr t 0 0 0,Qb a] (λd=>d=Qb (J3 L N a).length):=by
 refine ZD func189 ntmps189 results189 λf w u F k z b=>?_;rw[<- k]at ht hm;have o:=Qc ht;have q:=Qc hm;simp only[go_sem,Qa,ht,o,hm,q];refine Hw b fT rfl ?_ (Qgm F t m c T (Jc ht) (Mn hm) a N j l) rfl λd y i=>?_
 .simp only[go_sem]
 rcases i with ⟨rfl,n⟩|⟨v,g,s,r,rfl,B,e,x⟩
 .apply Qh b;simp only[go_sem,Qa,n];exact⟨_,rfl⟩
 .have p:=Qc e;apply Qh b;simp only[go_sem,Qa,e,p];exact⟨_,rfl⟩
theorem gD(a):Zf prog 188 h [.ptr t 0 0 0,Qb a] (λd=>d=QZ (YW L a)):=by
 by_cases i:a=0
 .have e:YW L a=true:=by simp[YW,i]
  rw[e];refine ZD func188 ntmps188 results188 λb w n F g p f=>?_;rw[<- g]at ht hm;have j:=Qc ht;have k:=Qc hm;simp only[go_sem,Qa,ht,j,hm,k,zS i];exact⟨[],σ⟩
 .have l:=T.look a;have e:YW L a=decide (1<QS ((QC L a).getD default).ls):=by simp[YW,i]
  rw[e];cases o:QC L a with
  | none=>
   rw[o,qU]at l;refine ZD func188 ntmps188 results188 λb w n F g p f=>?_;rw[<- g]at ht hm;have j:=Qc ht;have k:=Qc hm;simp only[go_sem,Qa,ht,j,hm,k,l,XM i];apply qy f wT (wW ⟨0,0,false,⟨0,0,0⟩,⟨0,0,0⟩,⟨0,0,0⟩,0,0⟩);apply QM f;exact⟨[],(Jv F).symm,rfl⟩
  | some x=>
   rw[o,KA]at l;refine ZD func188 ntmps188 results188 λb w n F g p f=>?_;rw[<- g]at ht hm;have j:=Qc ht;have k:=Qc hm;simp only[go_sem,Qa,ht,j,hm,k,l,XM i];apply qy f wT (wW x);apply QM f;exact⟨[],σ⟩
end
def Qo(L:List Qq)(g:Qq->Bool)(k:Int):Bool:=((QC L k).map g).getD false
def Qux{es:List ZQ}{seen:List Nat}{b:Nat}(p:ZQ->Bool)(h:∀e∈es,e.b≠b):(es.filter λx=>(seen++[b]).contains x.b&&p x)=es.filter λx=>seen.contains x.b&&p x:=by
 apply bH;intro x hx;have:=h x hx;simp[this]
def Qgn:∀{a:List ZQ} {seen:List Nat} {e:ZQ} (p:ZQ->Bool),(a.map (·.b)).Nodup->e∈a->e.b ∉ seen->(a.filter λx=>(seen++[e.b]).contains x.b&&p x).Perm (if p e then e::a.filter (λx=>seen.contains x.b&&p x) else a.filter λx=>seen.contains x.b&&p x)
 | [],_,_,_,_,h,_=>by simp at h
 | x::a,seen,e,p,d,h,j=>by
  simp only[Jo,Z8,JA,Fc,not_and]at d;rcases QG.1 h with h1|h1
  .subst h1;have m:=Qux (seen:=seen) (b:=e.b) p (es:=a) λy l g=>d.1 y l g;have i:seen.contains e.b=false:=by simpa using j
   rw[xD,xD,m];simp only[i,Lg,YF,zG];have:(seen++[e.b]).contains e.b=true:=σ;rw[this,NL]
  .have c:=Qgn p d.2 h1 j;have n:x.b≠e.b:=λg=>d.1 e h1 g.symm;have i:(seen++[e.b]).contains x.b=seen.contains x.b:=by simp[n]
   rw[xD,xD,i];by_cases f:(seen.contains x.b&&p x)=true
   .rw[Qf f,Qf f];by_cases k:p e=true
    .rw[Qf k]at c ⊢;exact(c.cons x).trans (List.Perm.swap _ _ _)
    .rw[Qe k]at c ⊢;exact c.cons x
   .rw[Qe f,Qe f];exact c
def VS.x9{b}{L}(T:VS b L){e:ZQ}(c:e∈b):∃x,QC L e.k=some x/\e.v=Yh x/\x.iD=e.k:=by
 have:Wp e∈L.map YK:=T.perm.mem_iff.1 (JA.2 ⟨e,c,rfl⟩);obtain⟨x,hx,a⟩:=JA.1 this;simp only[YK,Wp,Zh]at a;exact⟨x,(VL T.sorted).2 ⟨hx,a.1⟩,a.2.symm,a.1⟩
def VS.pick{a:List ZQ}{L:List Qq}(T:VS a L)(g:Qq->Bool):((a.filter λe=>Qo L g e.k).map (·.k)).Perm ((L.filter g).map (·.iD)):=by
 have b:=(T.perm.filter λp=>Qo L g p.1).map Prod.fst;have d:((a.map Wp).filter λp=>Qo L g p.1).map Prod.fst=(a.filter λe=>Qo L g e.k).map (·.k):=by
  rw[Si,Dw];rfl
 have c:((L.map YK).filter λp=>Qo L g p.1).map Prod.fst=(L.filter g).map (·.iD):=by
  rw[Si,Dw];have:L.filter ((λp=>Qo L g p.1) ∘ YK)=L.filter g:=bH λx hx=>by
   have:=(VL T.sorted).2 ⟨hx,rfl⟩;simp[Qo,YK,this]
  rw[this];rfl
 rw[d,c]at b;exact b
def Quy{L:List Qq}(h:Xw L)(g:Qq->Bool):((L.filter g).map (·.iD)).Pairwise (·<·):=by
 rw[Sl];exact NN g h
open Go.Shelf in
def Quz{P}{c:Ren}(o:Lays.n189 P c)(h):QI P (c.f 189) h [.nil] (λd n=>d=.tup []/\n=h):=by
 intro Z f w k j r q R g l;match j,g with
 | [v],_=>
 obtain⟨a,b⟩:=Ff (l 0 σ);have b:v=_:=b;subst b;refine(Any.slices_Sort_int_none o a 0 w).mono ?_;rintro e p ⟨rfl,rfl⟩;exact⟨_,.tup [],h,k,rfl,⟨rfl,rfl⟩,R,.tup [] [] rfl (λi m=>by simp at m),Tr.refl _ _ _,.refl _ _⟩
open Go.Shelf in
def Tryz.QuA:Go.Shelf.Ren:=⟨fun|189=>110|125=>149|257=>148|128=>201|129=>202|294=>192|295=>193|296=>194|297=>195|298=>196|299=>197|216=>198|300=>199|301=>200|328=>235|329=>236|330=>237|331=>238|332=>239|215=>240|343=>263|n=>n,fun|28=>50|3=>3|46=>185|0=>0|51=>311|53=>38|4=>4|183=>304|182=>303|131=>117|5=>5|9=>9|218=>338|222=>341|228=>358|229=>359|n=>n,fun|n=>n⟩
def Tryz.Qgo:Go.Proofs.Lays.n189 prog Tryz.QuA:={
 mixed:=τ
 f125:=func149.trans (congrArg some τ)
 f128:=func201.trans (congrArg some τ)
 f129:=func202.trans (congrArg some τ)
 f189:=func110.trans (congrArg some τ)
 f215:=func240.trans (congrArg some τ)
 f216:=func198.trans (congrArg some τ)
 f257:=func148.trans (congrArg some τ)
 f294:=func192.trans (congrArg some τ)
 f295:=func193.trans (congrArg some τ)
 f296:=func194.trans (congrArg some τ)
 f297:=func195.trans (congrArg some τ)
 f298:=func196.trans (congrArg some τ)
 f299:=func197.trans (congrArg some τ)
 f300:=func199.trans (congrArg some τ)
 f301:=func200.trans (congrArg some τ)
 f328:=func235.trans (congrArg some τ)
 f329:=func236.trans (congrArg some τ)
 f330:=func237.trans (congrArg some τ)
 f331:=func238.trans (congrArg some τ)
 f332:=func239.trans (congrArg some τ)
 f343:=func263.trans (congrArg some τ)
 t0:=underlying0
 a0:=isAgg0
 z0:=sizeOf0
 v0:=zeroValue0
 t3:=underlying3
 a3:=isAgg3
 z3:=sizeOf3
 v3:=zeroValue3
 t4:=underlying4
 a4:=isAgg4
 z4:=sizeOf4
 v4:=zeroValue4
 t5:=underlying5
 a5:=isAgg5
 z5:=sizeOf5
 v5:=zeroValue5
 t9:=underlying9
 a9:=isAgg9
 z9:=sizeOf9
 v9:=zeroValue9
 t28:=underlying50
 a28:=isAgg50
 z28:=sizeOf50
 v28:=zeroValue50
 t46:=underlying185
 a46:=isAgg185
 z46:=sizeOf185
 v46:=zeroValue185
 t51:=underlying311
 a51:=isAgg311
 z51:=sizeOf311
 v51:=zeroValue311
 t53:=underlying38
 a53:=isAgg38
 z53:=sizeOf38
 v53:=zeroValue38
 t131:=underlying117
 a131:=isAgg117
 z131:=sizeOf117
 v131:=zeroValue117
 t182:=underlying303
 a182:=isAgg303
 z182:=sizeOf303
 v182:=zeroValue303
 t183:=underlying304
 a183:=isAgg304
 z183:=sizeOf304
 v183:=zeroValue304
 t218:=underlying338
 a218:=isAgg338
 z218:=sizeOf338
 v218:=zeroValue338
 t222:=underlying341
 a222:=isAgg341
 z222:=sizeOf341
 v222:=zeroValue341
 t228:=underlying358
 a228:=isAgg358
 z228:=sizeOf358
 v228:=zeroValue358
 t229:=underlying359
 a229:=isAgg359
 z229:=sizeOf359
 v229:=zeroValue359 }
def Qgp{h:List Ob}{l g a N}{b}{c:List Int}(j:h[l]? = some ⟨.arr,g,1,N,b⟩)(k:a+c.length<=N)(f:∀i,i<c.length->b (a+i)=[.raw (.int .i64 (c.getD i 0))])(e:c.length<4611686018427387904):
  QI prog 110 h [.ref l g a c.length] (λd m=>d=.tup []/\m=h.set l ⟨.arr,g,1,N,wY a b (sorted c)⟩):=Quq Tryz.Qgo j k f e
def Qgq(h):QI prog 110 h [.nil] (λd a=>d=.tup []/\a=h):=Quz Tryz.Qgo h
def HG(d):Ye d d:=by unfold Ye;split<;>first|exact rfl|simp_all
def DZ:∀l:List D,KQ l l
 | []=>trivial
 | d::r=>⟨HG d,DZ r⟩
def TJ(F:List Ob)(f a:Nat)(b:List D)(g:Qq->Bool):Prop:=∀(h:List Ob) (c:Qq),VE F h->Zf prog f h (Jm a b [Yh c]) (λd=>d=QZ (g c))
structure QuB (t m c:Nat) (es:List ZQ) (L:List Qq) (gk:Qq->Bool) (so:D) (F:List Ob) (n:Nat) (s:St):Prop where
 ex:∃seen d out H,y5 es seen=n/\VE F H/\KC F.length H d out/\out.Perm ((es.filter λe=>seen.contains e.b&&Qo L gk e.k).map (·.k))/\H[F.length]? = some (Yw m c c seen) /\
  s=⟨[(0,.ptr t 0 0 0),(1,so),(5,d),(14,.mref F.length 0)],H⟩
section
variable (h:List Ob)(t m c:Nat){es:List ZQ}{L:List Qq}(T:VS es L)(hlen:L.length<1000000)
 (ht:(h.map Ob.ro)[t]? = some ⟨.WI,0,1,1,λ_=>[.mref m 0]⟩) (hm:(h.map Ob.ro)[m]? = some (QR .i64 c es).ro)
include T ht hm hlen
theorem gE(p:D)(f nf:Nat)(Qx:List D)(hf:Qn prog f)(VZ:JU p=some (f,nf,Qx))(b:Qq->Bool)(hg:TJ (h.map Ob.ro) f nf Qx b):
  Xf prog 86 h [.ptr t 0 0 0,p] (λd g=>KC h.length (h++g) d ((L.filter b).map (·.iD))):=by
 refine Bn VK 200 func86 rfl ntmps86 results86 rfl λa0 w pl F hF Ze j=>?_;rw[<- hF]at ht hm;have Zu:=Qc ht;have QO:=Qc hm;simp only[go_sem,Qa,ht,Zu,hm,QO];refine Qt8 (kd:=.Sw) (q:=.i64) (l:=m) (c:=c) (es:=es) rfl (by simp only[go_sem,Qa,hm,QO];rfl) λhB=>?_;refine Ot (QuB t m c es L b p F) (y5 es []) (s0:=⟨[(0,.ptr t 0 0 0),(1,p),(5,.nil),(14,.mref F.length 0)],F++[Yw m c c []]⟩) QQ ⟨[],.nil,[],_,rfl,⟨_,rfl⟩,.inl ⟨rfl,rfl⟩,σ,by rw[Vq rfl];rfl,rfl⟩ ?_;rintro n s ⟨seen,d,a,H,hn,hx,N,O,W,rfl⟩;have Xv:=hx.get hm;have Mp:=Qc Xv;have Z:=Qc W;apply QM j;refine QpO j (li:=F.length) (l:=m) (c:=c) (es:=es) (seen:=seen) (q:=.i64) (kd:=.Sw) rfl W rfl Xv rfl (λKI=>?_) (λe z Hf=>?_)
 .apply QM j;have Q:sorted a=(L.filter b).map (·.iD):=by
   refine Quv (O.trans ?_) (Quy T.sorted b);have:(es.filter λe=>seen.contains e.b&&Qo L b e.k)=es.filter λe=>Qo L b e.k:=bH λe z=>by
    have:seen.contains e.b=true:=by simpa using KI e z
    rw[this,NL]
   rw[this];exact T.pick b
  have gF:a.length<4611686018427387904:=by
   have B:a.length=((L.filter b).map (·.iD)).length:=by rw[<- Q,HE]
   have h2:=qS b L;rw[KK]at B;omega
  rcases N with ⟨rfl,rfl⟩|⟨r,g,k,o,rfl,P,u,U⟩
  .apply QM j;refine JO j fS (Qgq H) λd h E=>?_;obtain⟨rfl,rfl⟩:=E;apply Za j;exact KC.done Ze hx (.inl ⟨rfl,by rw[<- Q];simp[sorted]⟩)
  .have I:=Qc u;apply QM j;refine JO j fS (Qgp u (Qs _) U gF) λd h E=>?_;obtain⟨rfl,rfl⟩:=E;apply Za j;refine KC.done Ze (hx.set P.1 _) ?_;have rP:((L.filter b).map (·.iD)).length=a.length:=by rw[<- Q,HE]
   refine .inr ⟨r,g,k,wY k o (sorted a),?_,P,?_,?_⟩
   .rw[rP]
   .rw[rP];exact Qy I
   .rw[Q];intro i hi;unfold wY;rw[Qf ω,show k+i - k=i by omega];rfl
 .obtain⟨x,Y,wF,Zg⟩:=T.x9 z;rw[wF];have Ov:Qo L b e.k=b x:=by simp[Qo,Y]
  obtain⟨v,R⟩:∃v,v=H.set F.length (Yw m c c (seen++[e.b])):=⟨_,rfl⟩;have y:VE F v:=by rw[R];exact hx.set (Qs _) _
  have C:v[F.length]? = some (Yw m c c (seen++[e.b])):=by rw[R];exact Qy Z
  have K:KC F.length v d a:=by
   rcases N with N|⟨r,g,k,o,B,h2,V,h4⟩
   .exact .inl N
   .refine .inr ⟨r,g,k,o,B,h2,?_,h4⟩;rw[R,Qm (by rintro rfl;rw[W]at V;cases V)];exact V
  have FR:=y.get hm;have gG:=Qc FR;have S:=Qc C;have J:=Qgn (λe=>Qo L b e.k) hB.nodup z Hf;have za:=Qgc z Hf;rw[<- R];apply QM j;apply QM j;refine Qub (li:=F.length) (l:=m) (c:=c) (es:=es) (seen:=seen) (q:=.i64) (kd:=.Sw) (e:=e) rfl C rfl FR z rfl ?_;rw[wF];apply QM j;apply QM j;refine X0 j hf VZ ?_ (hg _ x ?_) rfl λd2 E=>?_
  .simp only[go_sem];exact DZ _
  .rw[<- hF];exact y.app _
  subst E;apply Qh j;have gF:a.length<=es.length:=by
   have B:=O.length_eq;rw[KK]at B;rw[B];exact qS _ _
  have a1:=T.len;simp only[Ov]at J;cases M:b x
  .simp only[M,YF,zG]at J;simp only[go_sem,Qa];exact⟨y5 es (seen++[e.b]),⟨[(0,.ptr t 0 0 0),(1,p),(5,d),(14,.mref F.length 0)],_⟩,ω,QQ,⟨⟨seen++[e.b],d,a,_,rfl,y.app _,K.app _,O.trans (J.map _).symm,by rw[QJ S];exact C,rfl⟩⟩⟩
  .simp only[M,VB]at J;have Wf:(a++[e.k]).Perm ((es.filter λx=>(seen++[e.b]).contains x.b&&Qo L b x.k).map (·.k)):=by
    refine(List.perm_append_comm.trans ?_).trans (J.map _).symm;exact O.cons e.k
   rcases K with ⟨rfl,rfl⟩|⟨r,g,k,o,rfl,P,u,U⟩
   .simp only[go_sem,Qa];refine⟨y5 es (seen++[e.b]),⟨[(0,.ptr t 0 0 0),(1,p),(5,.ref (v.length+2) 0 0 1),(14,.mref F.length 0)],_⟩,ω,QQ,⟨⟨seen++[e.b],_,[e.k],_,rfl,y.app _,?_,Wf,by rw[QJ S];exact C,rfl⟩⟩⟩;have:=y.len;refine .inr ⟨v.length+2,0,0,_,rfl,ω,by rw[Wm rfl];rfl,λi hi=>?_⟩;have:i=0:=by simp at hi;omega
    subst this;rfl
   .have I:=Qc u;have QE:F.length≠r:=by rintro rfl;rw[C]at u;cases u
    simp only[go_sem,Qa,u,I];refine⟨ω,y5 es (seen++[e.b]),⟨[(0,.ptr t 0 0 0),(1,p),(5,.ref r (g+1) 0 (a.length+1)),(14,.mref F.length 0)],_⟩,ω,QQ,⟨⟨seen++[e.b],_,a++[e.k],_,rfl,?_,?_,Wf,?_,rfl⟩⟩⟩
    .exact(y.set P.1 _).app _
    .refine .inr ⟨r,g+1,0,_,σ,ω,?_,Mm U⟩;rw[QJ (by simpa using I),Qy I];simp[Qb]
    .rw[QJ (by simpa using S),Qm (Q8 QE)];exact C
end
def XO{h t:List Ob}{l:Nat}{o:Ob}(e:h[l]? = some o):((h++t).map Ob.ro)[l]? = some o.ro:=Jc (by rw[QJ (Qc e)];exact e)
def KC.le{n n'}{H}{d}{L}(x:KC n H d L)(i:n'<=n):KC n' H d L:=by
 rcases x with x|⟨c,h,b,a,g,j,f,e⟩
 .exact .inl x
 .exact .inr ⟨c,h,b,a,g,ω,f,e⟩
def QuE(h:List Ob)(b)(c)(x:Qq)(a:(h.map Ob.ro)[b]? = some ⟨.WI,0,1,1,λ_=>[Qb c]⟩):Zf prog 234 h [Yh x,.ptr b 0 0 0] (λd=>d=QZ (x.parent==c)):=by
 refine ZD func234 ntmps234 results234 λe w i F f k j=>?_;rw[<- f]at a;have g:=Qc a;simp only[go_sem,Qa,a,g];exact⟨_,rfl⟩
def Xh(L:List Qq)(a:Int):List Int:=(L.filter λx=>x.parent==a).map (·.iD)
section
variable (h:List Ob)(t m c:Nat){es:List ZQ}{L:List Qq}(T:VS es L)(hlen:L.length<1000000)
 (ht:(h.map Ob.ro)[t]? = some ⟨.WI,0,1,1,λ_=>[.mref m 0]⟩) (hm:(h.map Ob.ro)[m]? = some (QR .i64 c es).ro)
include T ht hm hlen
theorem rR(a):Xf prog 191 h [.ptr t 0 0 0,Qb a] (λd g=>KC h.length (h++g) d (Xh L a)):=by
 refine Bn VK 200 func191 rfl ntmps191 results191 rfl λi w v F p s b=>?_;rw[<- p]at ht hm;have r:=Qc ht;have u:=Qc hm;simp only[go_sem,Qa,ht,r,hm,u];have hx:VE F (F++([⟨.one,0,1,1,λ_=>[Qb a]⟩]:List Ob)):=⟨_,rfl⟩;have n:TJ ((F++([⟨.one,0,1,1,λ_=>[Qb a]⟩]:List Ob)).map Ob.ro) 234 0 [.ptr F.length 0 0 0] (λx=>x.parent==a):=λq x j=>QuE q F.length a x (by
  have e:=j.get (l:=F.length) (o:=⟨.WI,0,1,1,λ_=>[Qb a]⟩) (by rw[jZ,Vq σ];rfl);exact Jc e)
 refine Hw b fQ rfl ?_ (gE _ t m c T hlen (Jc (hx.get ht)) (Mn (hx.get hm)) (.clo 234 0 [.ptr F.length 0 0 0]) 234 0 [.ptr F.length 0 0 0] QtH rfl _ n) rfl λd g k=>?_
 .simp only[go_sem]
 apply QM b;have f:=k.le (n':=F.length) σ;rw[Wu]at f;exact KC.done s ⟨_,rfl⟩ f
def Br(L:List Qq)(x:Qq)(a:Nat):Int:=
 if Vr x≠0 then Vr x
 else if (QC L x.iD).isSome then 8
 else if L.length=64 then 5
 else if (x.parent≠0/\(QC L x.parent).isNone)\/((QC L x.parent).getD default).leaf=true then 23
 else if 1<QS x.ls/\YW L x.parent=false then 29
 else if a=16 then 25
 else 0
end
section
variable (h:List Ob)(t m c:Nat){es:List ZQ}{L:List Qq}(T:VS es L)(hlen:L.length<1000000)
 (ht:h[t]? = some ⟨.one,0,1,1,λ_=>[.mref m 0]⟩) (hm:h[m]? = some (QR .i64 c es))
include T ht hm hlen
structure Xi (h:List Ob) (t m:Nat) (L:List Qq) (h':List Ob):Prop where
 ex:∃c es,h'[t]? = some ⟨.one,0,1,1,λ_=>[.mref m 0]⟩/\h'[m]? = some (QR .i64 c es)/\VS es L
 len:h.length<=h'.length
 Kl:∀l,l<h.length->l≠m->h'[l]? = h[l]?
omit T hlen in
theorem Xi.same(T:VS es L)(g):Xi h t m L (h++g):=
 ⟨⟨c,es,by rw[QJ (Qc ht)];exact ht,by rw[QJ (Qc hm)];exact hm,T⟩,σ,λl a _=>QJ a⟩
omit hlen in
theorem Xi.QY(x:Qq)(g):Xi h t m (Wz L x) (h.set m (Ki .i64 c es x.iD (Yh x))++g):=by
 obtain⟨f,a,e,j⟩:=Quu T .i64 c x;have b:=Qc hm;have i:=Qc ht;have k:m≠t:=by rintro rfl;rw[ht]at hm;cases hm
 rw[e];refine⟨⟨f,a,?_,?_,j⟩,σ,λl d n=>?_⟩
 .rw[QJ (by simpa using i),Qm k];exact ht
 .rw[QJ (by simpa using b),Qy b]
 .rw[QJ (by simpa using d),Qm (Q8 n)]
omit hlen in
theorem QuF(x:Qq)(N)(v:N<1000000)(B:Ends L N x.parent):QI prog 143 h [.ptr t 0 0 0,Yh x] (λd M=>d=Qb (Br L x (J3 L N x.parent).length)/\Xi h t m (if Br L x (J3 L N x.parent).length=0 then Wz L x else L) M):=by
 have H:=T.look x.iD;have n:=T.look x.parent;have Q:=T.len;have i:=Qc ht;have j:=Qc hm;obtain⟨E,F⟩:∃E,E=Br L x (J3 L N x.parent).length:=⟨_,rfl⟩;rw[<- F];have b:∀g:List Ob,E≠0->Xi h t m (if E=0 then Wz L x else L) (h++g):=λg O=>by rw[Qe O];exact Xi.same h t m c ht hm T g
 refine Q3 func143 ntmps143 results143 λK w P a=>?_;have i:=Qc ht;have j:=Qc hm;simp only[go_sem,Qa,ht,i,hm,j];apply qy a QfN (Qgg x);apply QM a;by_cases C:Vr x=0;case neg=>
  have e:E=Vr x:=by rw[F,Br,Qf C]
  simp only[go_sem,Qa,XM C,bne];exact⟨by rw[e],b _ (by rw[e];exact C)⟩
 simp only[go_sem,Qa,zS C,bne];cases I:QC L x.iD with
 | some y=>
  have e:E=8:=by rw[F,Br,Qe (by simpa using C),Qf (by simp[I])]
  rw[I,KA]at H;apply QB a ol;simp only[go_sem,Qa,ht,hm,i,j,H];cases o:QC L x.parent with
  | none=>
   rw[o,qU]at n;apply QB a ol;simp only[go_sem,Qa,ht,hm,i,j,n];exact⟨by rw[e],b _ (by rw[e];decide)⟩
  | some z=>
   rw[o,KA]at n;apply QB a ol;simp only[go_sem,Qa,ht,hm,i,j,n];exact⟨by rw[e],b _ (by rw[e];decide)⟩
 | none=>
  rw[I,qU]at H;apply QB a ol;simp only[go_sem,Qa,ht,hm,i,j,H];have u:E=(if L.length=64 then 5 else if (x.parent≠0/\(QC L x.parent).isNone)\/((QC L x.parent).getD default).leaf=true then 23 else if 1<QS x.ls/\YW L x.parent=false then 29 else if (J3 L N x.parent).length=16 then 25 else 0):=by
   rw[F,Br,Qe (by simpa using C),Qe (by simp[I])]
  by_cases J:L.length=64
  .have e:E=5:=by rw[u,Qf J]
   have s:((es.length:Int)==64)=true:=ξ;cases o:QC L x.parent with
   | none=>
    rw[o,qU]at n;apply QB a ol;simp only[go_sem,Qa,ht,hm,i,j,n,s];exact⟨by rw[e],b _ (by rw[e];decide)⟩
   | some z=>
    rw[o,KA]at n;apply QB a ol;simp only[go_sem,Qa,ht,hm,i,j,n,s];exact⟨by rw[e],b _ (by rw[e];decide)⟩
  rw[Qe J]at u;have s:((es.length:Int)==64)=false:=ξ;cases o:QC L x.parent with
  | none=>
   rw[o,qU]at n;by_cases p:x.parent=0
   .apply QB a ol;simp only[go_sem,Qa,ht,hm,i,j,n,s,zS p,bne];have l:E=(if 1<QS x.ls/\YW L x.parent=false then 29 else if (J3 L N x.parent).length=16 then 25 else 0):=by rw[u,Qe (by rw[o];rintro (⟨h1,_⟩|h1);exact h1 p;cases h1)]
    apply qy a wT (wW x);apply QM a;cases q:decide (1<QS x.ls)
    .simp only[go_sem,Qa,Go.undef];apply JD a OZ (Pc _ t m c T (XO ht) (XO hm) x.parent N v B);apply QM a;by_cases k:(J3 L N x.parent).length=16
     .have e:E=25:=by rw[l,Qe (by simp at q;omega),Qf k]
      have f:(((J3 L N x.parent).length:Int)==16)=true:=ξ;simp only[go_sem,Qa,f];exact⟨by rw[e],b _ (by rw[e];decide)⟩
     .have e:E=0:=by rw[l,Qe (by simp at q;omega),Qe k]
      have f:(((J3 L N x.parent).length:Int)==16)=false:=ξ;simp only[go_sem,Qa,f];apply QB a ut;simp only[go_sem,Qa,ht,hm,i,j];rw[Qf e];exact⟨by rw[e],Xi.QY h t m c T ht hm x _⟩
    .simp only[go_sem,Qa,Go.undef];apply JD a fW (gD _ t m c T (XO ht) (XO hm) x.parent);apply QM a;cases r:YW L x.parent
     .have e:E=29:=by rw[l,Qf ⟨by simpa using q,r⟩]
      simp only[go_sem,Qa,Go.undef];exact⟨by rw[e],b _ (by rw[e];decide)⟩
     .simp only[go_sem,Qa,Go.undef];apply JD a OZ (Pc _ t m c T (XO ht) (XO hm) x.parent N v B);apply QM a;by_cases k:(J3 L N x.parent).length=16
      .have e:E=25:=by rw[l,Qe (by rw[r];simp),Qf k]
       have f:(((J3 L N x.parent).length:Int)==16)=true:=ξ;simp only[go_sem,Qa,f];exact⟨by rw[e],b _ (by rw[e];decide)⟩
      .have e:E=0:=by rw[l,Qe (by rw[r];simp),Qe k]
       have f:(((J3 L N x.parent).length:Int)==16)=false:=ξ;simp only[go_sem,Qa,f];apply QB a ut;simp only[go_sem,Qa,ht,hm,i,j];rw[Qf e];exact⟨by rw[e],Xi.QY h t m c T ht hm x _⟩
   .have e:E=23:=by rw[u,Qf (.inl ⟨p,by simp[o]⟩)]
    apply QB a ol;simp only[go_sem,Qa,ht,hm,i,j,n,s,XM p,bne];exact⟨by rw[e],b _ (by rw[e];decide)⟩
  | some z=>
   rw[o,KA]at n;cases hz:z.leaf with
   | true=>
    have e:E=23:=by rw[u,Qf (.inr (by simp[o,hz]))]
    by_cases p:x.parent=0
    .apply QB a ol;simp only[go_sem,Qa,ht,hm,i,j,n,s,zS p,bne,hz];exact⟨by rw[e],b _ (by rw[e];decide)⟩
    .apply QB a ol;simp only[go_sem,Qa,ht,hm,i,j,n,s,XM p,bne,hz];exact⟨by rw[e],b _ (by rw[e];decide)⟩
   | false=>
    by_cases p:x.parent=0
    .apply QB a ol;simp only[go_sem,Qa,ht,hm,i,j,n,s,zS p,bne,hz];have l:E=(if 1<QS x.ls/\YW L x.parent=false then 29 else if (J3 L N x.parent).length=16 then 25 else 0):=by rw[u,Qe (by rw[o];rintro (⟨h1,_⟩|h1);exact h1 p;exact absurd h1 (by simp[hz]))]
     apply qy a wT (wW x);apply QM a;cases q:decide (1<QS x.ls)
     .simp only[go_sem,Qa,Go.undef];apply JD a OZ (Pc _ t m c T (XO ht) (XO hm) x.parent N v B);apply QM a;by_cases k:(J3 L N x.parent).length=16
      .have e:E=25:=by rw[l,Qe (by simp at q;omega),Qf k]
       have f:(((J3 L N x.parent).length:Int)==16)=true:=ξ;simp only[go_sem,Qa,f];exact⟨by rw[e],b _ (by rw[e];decide)⟩
      .have e:E=0:=by rw[l,Qe (by simp at q;omega),Qe k]
       have f:(((J3 L N x.parent).length:Int)==16)=false:=ξ;simp only[go_sem,Qa,f];apply QB a ut;simp only[go_sem,Qa,ht,hm,i,j];rw[Qf e];exact⟨by rw[e],Xi.QY h t m c T ht hm x _⟩
     .simp only[go_sem,Qa,Go.undef];apply JD a fW (gD _ t m c T (XO ht) (XO hm) x.parent);apply QM a;cases r:YW L x.parent
      .have e:E=29:=by rw[l,Qf ⟨by simpa using q,r⟩]
       simp only[go_sem,Qa,Go.undef];exact⟨by rw[e],b _ (by rw[e];decide)⟩
      .simp only[go_sem,Qa,Go.undef];apply JD a OZ (Pc _ t m c T (XO ht) (XO hm) x.parent N v B);apply QM a;by_cases k:(J3 L N x.parent).length=16
       .have e:E=25:=by rw[l,Qe (by rw[r];simp),Qf k]
        have f:(((J3 L N x.parent).length:Int)==16)=true:=ξ;simp only[go_sem,Qa,f];exact⟨by rw[e],b _ (by rw[e];decide)⟩
       .have e:E=0:=by rw[l,Qe (by rw[r];simp),Qe k]
        have f:(((J3 L N x.parent).length:Int)==16)=false:=ξ;simp only[go_sem,Qa,f];apply QB a ut;simp only[go_sem,Qa,ht,hm,i,j];rw[Qf e];exact⟨by rw[e],Xi.QY h t m c T ht hm x _⟩
    .apply QB a ol;simp only[go_sem,Qa,ht,hm,i,j,n,s,XM p,bne,hz];have l:E=(if 1<QS x.ls/\YW L x.parent=false then 29 else if (J3 L N x.parent).length=16 then 25 else 0):=by rw[u,Qe (by simp[o,hz])]
     apply qy a wT (wW x);apply QM a;cases q:decide (1<QS x.ls)
     .simp only[go_sem,Qa,Go.undef];apply JD a OZ (Pc _ t m c T (XO ht) (XO hm) x.parent N v B);apply QM a;by_cases k:(J3 L N x.parent).length=16
      .have e:E=25:=by rw[l,Qe (by simp at q;omega),Qf k]
       have f:(((J3 L N x.parent).length:Int)==16)=true:=ξ;simp only[go_sem,Qa,f];exact⟨by rw[e],b _ (by rw[e];decide)⟩
      .have e:E=0:=by rw[l,Qe (by simp at q;omega),Qe k]
       have f:(((J3 L N x.parent).length:Int)==16)=false:=ξ;simp only[go_sem,Qa,f];apply QB a ut;simp only[go_sem,Qa,ht,hm,i,j];rw[Qf e];exact⟨by rw[e],Xi.QY h t m c T ht hm x _⟩
     .simp only[go_sem,Qa,Go.undef];apply JD a fW (gD _ t m c T (XO ht) (XO hm) x.parent);apply QM a;cases r:YW L x.parent
      .have e:E=29:=by rw[l,Qf ⟨by simpa using q,r⟩]
       simp only[go_sem,Qa,Go.undef];exact⟨by rw[e],b _ (by rw[e];decide)⟩
      .simp only[go_sem,Qa,Go.undef];apply JD a OZ (Pc _ t m c T (XO ht) (XO hm) x.parent N v B);apply QM a;by_cases k:(J3 L N x.parent).length=16
       .have e:E=25:=by rw[l,Qe (by rw[r];simp),Qf k]
        have f:(((J3 L N x.parent).length:Int)==16)=true:=ξ;simp only[go_sem,Qa,f];exact⟨by rw[e],b _ (by rw[e];decide)⟩
       .have e:E=0:=by rw[l,Qe (by rw[r];simp),Qe k]
        have f:(((J3 L N x.parent).length:Int)==16)=false:=ξ;simp only[go_sem,Qa,f];apply QB a ut;simp only[go_sem,Qa,ht,hm,i,j];rw[Qf e];exact⟨by rw[e],Xi.QY h t m c T ht hm x _⟩
end
def CK(L:List Qq)(a:Int):Int:=if (QC L a).isNone then 6 else if Xh L a≠[] then 23 else 0
section
variable (h:List Ob)(t m c:Nat){es:List ZQ}{L:List Qq}(T:VS es L)(hlen:L.length<1000000)
 (ht:h[t]? = some ⟨.one,0,1,1,λ_=>[.mref m 0]⟩) (hm:h[m]? = some (QR .i64 c es))
include T ht hm hlen
omit hlen T in
theorem Xi.put{b}{a}{e}(j:VS a e)(g):Xi h t m e (h.set m (QR .i64 b a)++g):=by
 have d:=Qc hm;have i:=Qc ht;have k:m≠t:=by rintro rfl;rw[ht]at hm;cases hm
 refine⟨⟨b,a,?_,?_,j⟩,σ,λl f n=>?_⟩
 .rw[QJ (by simpa using i),Qm k];exact ht
 .rw[QJ (by simpa using d),Qy d]
 .rw[QJ (by simpa using f),Qm (Q8 n)]
theorem QuG(a):QI prog 146 h [.ptr t 0 0 0,Qb a] (λd z=>d=Qb (CK L a)/\Xi h t m (if CK L a=0 then XN L a else L) z):=by
 have l:=T.look a;have b:=Qc ht;have f:=Qc hm;obtain⟨E,p⟩:∃E,E=CK L a:=⟨_,rfl⟩;rw[<- p];have j:∀g:List Ob,E≠0->Xi h t m (if E=0 then XN L a else L) (h++g):=λg B=>by rw[Qe B];exact Xi.same h t m c ht hm T g
 cases n:QC L a with
 | none=>
  have e:E=6:=by rw[p,CK,Qf (by simp[n])]
  rw[n,qU]at l;refine Q3 func146 ntmps146 results146 λk w v o=>?_;have b:=Qc ht;have f:=Qc hm;simp only[go_sem,Qa,ht,b,hm,f,l];exact⟨by rw[e],j _ (by rw[e];decide)⟩
 | some x=>
  rw[n,KA]at l;have r:E=if Xh L a≠[] then 23 else 0:=by rw[p,CK,Qe (by simp[n])]
  refine Q3 func146 ntmps146 results146 λk w v o=>?_;have b:=Qc ht;have f:=Qc hm;simp only[go_sem,Qa,ht,b,hm,f,l];refine Hw o p6 rfl ?_ (rR _ t m c T hlen (XO ht) (XO hm) a) rfl λd g y=>?_
  .simp only[go_sem]
  rcases y with ⟨rfl,i⟩|⟨H,J,F,C,rfl,K,q,I⟩
  .have e:E=0:=by rw[r,Qe (by simp[i])]
   apply Qh o;simp only[go_sem,Qa,ht,hm,b,f];rw[Qf e];exact⟨by rw[e],Xi.put h t m c ht hm (Qgk T a) _⟩
  .have u:=Qc q;apply Qh o;by_cases i:Xh L a=[]
   .have e:E=0:=by rw[r,Qe (by simp[i])]
    simp only[go_sem,Qa,ht,hm,b,f,q,u,i];rw[Qf e];exact⟨by rw[e],Xi.put h t m c ht hm (Qgk T a) _⟩
   .have e:E=23:=by rw[r,Qf i]
    have M:0<(Xh L a).length:=List.length_pos_iff.2 i;have s:(0:Int)<((Xh L a).length:Int):=ω;simp only[go_sem,Qa,ht,hm,b,f,q,u,s,Q1 s];exact⟨by rw[e],j _ (by rw[e];decide)⟩
end
def rS(h:List Ob):(h.map Ob.ro).map Ob.ro=h.map Ob.ro:=by rw[Dw];exact EX λo _=>ro_ro o
def Qgt(F:List Ob)(f a:Nat)(b:List D)(g:Int->Bool):Prop:=∀(h:List Ob) (n:Int),VE F h->Zf prog f h (Jm a b [Qb n]) (λd=>d=QZ (g n))
def ya(g:Int->Bool)(l:List Int):Int:=match l.findIdx? g with
 | some i=>i
 | none=>-1
def rT{g}{l:List Int}{k}(a:k<l.length)(h:∀i,i<k->g (l.getD i 0)=false)(c:g (l.getD k 0)=true):ya g l=k:=by
 have e:l.findIdx? g=some k:=by
  rw[GN];refine⟨a,by simpa[Q7,a] using c,λi b=>?_⟩;have:=h i b;simpa[Q7,show i<l.length by omega] using this
 rw[ya,e]
def rU{g}{l:List Int}(h:∀i,i<l.length->g (l.getD i 0)=false):ya g l=-1:=by
 have e:l.findIdx? g=none:=by
  rw[Li];intro x hx;obtain⟨i,a,rfl⟩:=AQ hx;have:=h i a;simpa[Q7,a] using this
 rw[ya,e]
section
variable (h:List Ob)(l:List Int)(lo gn off:Nat)(row:Nat->List D)(hlen:l.length<1000000)(ho:(h.map Ob.ro)[lo]? = some ⟨.AU,gn,1,off+l.length,row⟩)(hr:∀i,i<l.length->row (off+i)=[Qb (l.getD i 0)])
include hlen ho hr
theorem QuH(e:D)(f m:Nat)(r:List D)(y:Qn prog f)(E:JU e=some (f,m,r))(c:Int->Bool)(x:Qgt (h.map Ob.ro) f m r c):
  Zf prog 112 h [.ref lo gn off l.length,e] (λd=>d=Qb (ya c l)):=by
 refine ZD func112 ntmps112 results112 λt w H F q I b=>?_;rw[<- q]at ho;have j:=Qc ho;simp only[go_sem,Qa,ho,j];refine Js (λk s=>(∀i,i<k->c (l.getD i 0)=false)/\s=⟨[(0,.ref lo gn off l.length),(1,e),(7,Qb l.length),(8,Qb k)],F⟩) l.length QQ ⟨λi p=>absurd p ω,rfl⟩ ?_;rintro k s o ⟨g,rfl⟩;apply QM b;have j:=Qc ho;have C:=Vl (show k<4611686018427387904 from ω);first|refine yX o (λa=>?_) (λa=>?_)|refine yY o (λa=>?_) (λa=>?_)
 .have u:=hr k a;have v:off+k<off+l.length:=ω;simp only[go_sem,Qa,ho,j,a,u,v];refine X0 b y E ?_ (x F (l.getD k 0) (by rw[<- q];exact VE.refl F)) rfl λd2 z=>?_
  .simp only[go_sem];exact DZ _
  subst z;apply Qh b;cases n:c (l.getD k 0)
  .simp only[go_sem,Qa];refine⟨a,_,QH.frame (by simp only[go_sem,C]),λi p=>?_,rfl⟩;by_cases B:i<k
   .exact g i B
   .have:i=k:=ω;subst this;exact n
  .rw[rT a g n];simp only[go_sem,Qa];exact⟨[],(Jv F).symm⟩
 .have a:k=l.length:=ω;subst a;simp only[go_sem,B6];rw[rU g];apply QM b;exact⟨[],(Jv F).symm⟩
theorem QuJ(a:D)(f b:Nat)(e:List D)(o:Qn prog f)(r:JU a=some (f,b,e))(c:Int->Bool)(m:Qgt (h.map Ob.ro) f b e c):
  Zf prog 73 h [.ref lo gn off l.length,a] (λd=>d=QZ (decide (0<=ya c l))):=by
 refine ZD func73 ntmps73 results73 λk w t F j u g=>?_;rw[<- j]at ho;have s:=Qc ho;simp only[go_sem,Qa,ho,s];refine X0 g Tw rfl ?_ (QuH F l lo gn off row hlen (Jc ho) hr a f b e o r c (λq n hx=>?_)) rfl λd2 p=>?_
 .simp only[go_sem];exact HG a
 .rw[j,rS]at hx;exact m q n hx
 subst p;apply QM g;exact⟨[],(Jv F).symm⟩
end
def Qgu(h)(c):Zf prog 112 h [.nil,c] (λd=>d=Qb (-1)):=by
 refine ZD func112 ntmps112 results112 λb w e F g i a=>?_;simp only[go_sem,Qa];refine Js (λk s=>s=⟨[(7,Qb 0),(8,Qb 0)],F⟩) 0 QQ rfl ?_;rintro k s f rfl;apply QM a;apply QM a;exact⟨[],(Jv F).symm⟩
def QuK(h)(a):Zf prog 73 h [.nil,a] (λd=>d=QZ false):=by
 refine ZD func73 ntmps73 results73 λc w f F g i b=>?_;simp only[go_sem,Qa];refine X0 b Tw rfl ?_ (Qgu F a) rfl λd2 e=>?_
 .simp only[go_sem];exact HG a
 subst e;apply QM b;exact⟨[],(Jv F).symm⟩
def TM(g)(l:List Int):decide (0<=ya g l)=l.any g:=by
 unfold ya;cases h:l.findIdx? g with
 | some i=>
  have:=GN.1 h;obtain⟨b,a,_⟩:=this;have e:l.any g=true:=Dv.2 ⟨_,zF b,a⟩;rw[e];simp
 | none=>
  have:=Li.1 h;have e:l.any g=false:=by rw[bD];intro x hx;simp[this x hx]
  rw[e];decide
def yd(L:List Qq)(a:Int):Bool:=decide (1<QS ((QC L a).getD default).ls)
def CL(L:List Qq)(x:Qq):Int:=
 if Vr x≠0 then Vr x
 else if (QC L x.iD).isNone then 6
 else if x.parent≠((QC L x.iD).getD default).parent\/x.leaf≠((QC L x.iD).getD default).leaf then 1
 else if (1<QS x.ls/\YW L x.parent=false)\/(¬ 1<QS x.ls/\(Xh L x.iD).any (yd L)=true) then 29
 else 0
section
variable (h:List Ob)(t m c tb:Nat){es:List ZQ}{L:List Qq}(T:VS es L)
 (ht:(h.map Ob.ro)[t]? = some ⟨.WI,0,1,1,λ_=>[.mref m 0]⟩) (hm:(h.map Ob.ro)[m]? = some (QR .i64 c es).ro)
 (ZF:(h.map Ob.ro)[tb]? = some ⟨.WI,0,1,1,λ_=>[.ptr t 0 0 0]⟩)
include T ht hm ZF
theorem QuL(e):Zf prog 190 h [Qb e,.ptr tb 0 0 0] (λd=>d=QZ (yd L e)):=by
 have f:=T.look e;unfold yd;cases l:QC L e with
 | none=>
  rw[l,qU]at f;refine ZD func190 ntmps190 results190 λb w n F g o a=>?_;rw[<- g]at ht hm ZF;have i:=Qc ht;have j:=Qc hm;have k:=Qc ZF;simp only[go_sem,Qa,ht,i,hm,j,ZF,k,f];apply qy a wT (wW ⟨0,0,false,⟨0,0,0⟩,⟨0,0,0⟩,⟨0,0,0⟩,0,0⟩);apply QM a;exact⟨[],(Jv F).symm,rfl⟩
 | some x=>
  rw[l,KA]at f;refine ZD func190 ntmps190 results190 λb w n F g o a=>?_;rw[<- g]at ht hm ZF;have i:=Qc ht;have j:=Qc hm;have k:=Qc ZF;simp only[go_sem,Qa,ht,i,hm,j,ZF,k,f];apply qy a wT (wW x);apply QM a;exact⟨[],σ⟩
end
section
variable (h:List Ob)(t m c:Nat){es:List ZQ}{L:List Qq}(T:VS es L)(hlen:L.length<1000000)
 (ht:h[t]? = some ⟨.one,0,1,1,λ_=>[.mref m 0]⟩) (hm:h[m]? = some (QR .i64 c es))
include T ht hm hlen
theorem QuM(x):QI prog 144 h [.ptr t 0 0 0,Yh x] (λd B=>d=Qb (CL L x)/\Xi h t m (if CL L x=0 then Wz L x else L) B):=by
 have k:=T.look x.iD;have f:=Qc ht;have i:=Qc hm;obtain⟨E,u⟩:∃E,E=CL L x:=⟨_,rfl⟩;rw[<- u];have b:∀g:List Ob,E≠0->Xi h t m (if E=0 then Wz L x else L) (h++g):=λg S=>by rw[Qe S];exact Xi.same h t m c ht hm T g
 refine Q3 func144 ntmps144 results144 λM w V a=>?_;have f:=Qc ht;have i:=Qc hm;simp only[go_sem,Qa,ht,f,hm,i];apply qy a QfN (Qgg x);apply QM a;by_cases l:Vr x=0;case neg=>
  have e:E=Vr x:=by rw[u,CL,Qf l]
  simp only[go_sem,Qa,XM l,bne];exact⟨by rw[e],b _ (by rw[e];exact l)⟩
 simp only[go_sem,Qa,zS l,bne];cases s:QC L x.iD with
 | none=>
  have e:E=6:=by rw[u,CL,Qe (by simpa using l),Qf (by simp[s])]
  rw[s,qU]at k;apply QB a ol;simp only[go_sem,Qa,ht,hm,f,i,k];exact⟨by rw[e],b _ (by rw[e];decide)⟩
 | some y=>
  rw[s,KA]at k;have j:E=(if x.parent≠y.parent\/x.leaf≠y.leaf then 1 else if (1<QS x.ls/\YW L x.parent=false)\/(¬ 1<QS x.ls/\(Xh L x.iD).any (yd L)=true) then 29 else 0):=by
   rw[u,CL,Qe (by simpa using l),Qe (by simp[s]),s];rfl
  by_cases r:x.parent=y.parent;case neg=>
   have e:E=1:=by rw[j,Qf (.inl r)]
   apply QB a ol;simp only[go_sem,Qa,ht,hm,f,i,k,XM r,bne];exact⟨by rw[e],b _ (by rw[e];decide)⟩
  by_cases v:x.leaf=y.leaf;case neg=>
   have e:E=1:=by rw[j,Qf (.inr v)]
   have C:(x.leaf==y.leaf)=false:=by simpa using v
   apply QB a ol;simp only[go_sem,Qa,ht,hm,f,i,k,zS r,bne,C];exact⟨by rw[e],b _ (by rw[e];decide)⟩
  have C:(x.leaf==y.leaf)=true:=by simpa using v
  rw[Qe (by simp[r,v])]at j;apply QB a ol;simp only[go_sem,Qa,ht,hm,f,i,k,zS r,bne,C];apply qy a wT (wW x);apply QM a;cases p:decide (1<QS x.ls)
  .have q:¬ 1<QS x.ls:=by simpa using p
   simp only[go_sem,Qa,Go.undef];refine JG a wT ?_ (wW x) ?_
   .simp only[go_sem,Qa,p,Go.undef]
   apply Qh a;simp only[go_sem,Qa,p,Go.undef];refine Hw a p6 rfl ?_ (rR _ t m c T hlen (XO ht) (XO hm) x.iD) rfl λd g O=>?_
   .simp only[go_sem]
   rcases O with ⟨rfl,U⟩|⟨N,Q,H,F,rfl,W,I,P⟩
   .have e:E=0:=by rw[j,Qe (by rintro (⟨z,_⟩|⟨_,z⟩);exact q z;rw[U]at z;simp at z)]
    apply Qh a;simp only[go_sem,Qa,ht,hm,f,i];apply JD a Tv (QuK _ (.clo 190 0 [.ptr h.length 0 0 0]));apply Qh a;simp only[go_sem,Qa,Go.undef];apply QB a ut;simp only[go_sem,Qa,ht,hm,f,i];rw[Qf e];exact⟨by rw[e],Xi.QY h t m c T ht hm x _⟩
   .apply Qh a;have R:(Xh L x.iD).length<1000000:=by
     have:=qS (λy:Qq=>y.parent==x.iD) L;unfold Xh;rw[KK];omega
    rw[Wu]at I;simp only[go_sem,Qa,ht,hm,f,i];refine Xg a Tv ?_ (QuJ _ (Xh L x.iD) N Q H F R (Jc I) P (.clo 190 0 [.ptr h.length 0 0 0]) 190 0 [.ptr h.length 0 0 0] Qtx rfl (yd L) (λB n hx=>QuL B t m c h.length T (Jc (hx.get (XO ht))) (Mn (hx.get (XO hm))) (Jc (hx.get (Jc (o:=⟨.one,0,1,1,λ_=>[.ptr t 0 0 0]⟩) (by rw[Vq rfl];rfl)))) n)) ?_
    .simp only[go_sem,Qa,Go.undef,TM]
    apply Qh a;simp only[go_sem,Qa,Go.undef,TM];cases K:(Xh L x.iD).any (yd L)
    .have e:E=0:=by rw[j,Qe (by rw[K];simp[q])]
     simp only[go_sem,Qa,Go.undef];apply QB a ut;simp only[go_sem,Qa,ht,hm,f,i];rw[Qf e];exact⟨by rw[e],Xi.QY h t m c T ht hm x _⟩
    .have e:E=29:=by rw[j,Qf (.inr ⟨q,K⟩)]
     simp only[go_sem,Qa,Go.undef];exact⟨by rw[e],b _ (by rw[e];decide)⟩
  .have q:1<QS x.ls:=by simpa using p
   simp only[go_sem,Qa,Go.undef];apply JD a fW (gD _ t m c T (XO ht) (XO hm) x.parent);apply QM a;cases J:YW L x.parent
   .have e:E=29:=by rw[j,Qf (.inl ⟨q,J⟩)]
    simp only[go_sem,Qa,Go.undef];exact⟨by rw[e],b _ (by rw[e];decide)⟩
   .have e:E=0:=by rw[j,Qe (by rw[J];simp[q])]
    simp only[go_sem,Qa,Go.undef];refine JG a wT ?_ (wW x) ?_
    .simp only[go_sem,Qa,p,Go.undef]
    apply Qh a;simp only[go_sem,Qa,p,Go.undef];apply QB a ut;simp only[go_sem,Qa,ht,hm,f,i];rw[Qf e];exact⟨by rw[e],Xi.QY h t m c T ht hm x _⟩
end
def Bs{L}(h:Xw L)(x:Qq)(k):QC (Wz L x) k=if k=x.iD then some x else QC L k:=by
 have i:=Pb x h;have d:=λc=>(Ml x h).mem_iff (a:=c);by_cases b:k=x.iD
 .rw[Qf b];exact(VL i).2 ⟨(d x).2 σ,b.symm⟩
 .rw[Qe b];cases f:QC L k with
  | some c=>
   obtain⟨l,j⟩:=(VL h).1 f;exact(VL i).2 ⟨(d c).2 (QG.2 (.inr (JI.2 ⟨l,ξ⟩))),j⟩
  | none=>
   rw[HF]at f ⊢;intro c g;rcases QG.1 ((d c).1 g) with rfl|g
   .exact λe=>b e.symm
   .exact f c (JI.1 g).1
def TN{L}(h:Xw L)(a k):QC (XN L a) k=if k=a then none else QC L k:=by
 have f:=rM a h;by_cases e:k=a
 .rw[Qf e,HF];intro c d;have:=(JI.1 d).2;simp at this;omega
 .rw[Qe e];cases b:QC L k with
  | some c=>
   obtain⟨i,g⟩:=(VL h).1 b;exact(VL f).2 ⟨JI.2 ⟨i,ξ⟩,g⟩
  | none=>
   rw[HF]at b ⊢;exact λc d=>b c (JI.1 d).1
def Ends.succ{L}:∀{n:Nat} {id:Int},Ends L n id->Ends L (n+1) id
 | 0,id,h=>by simp only[Ends]at h ⊢;rw[h];trivial
 | n+1,id,h=>by
  rw[Ends]at h ⊢;cases a:QC L id with
  | none=>trivial
  | some c=>rw[a]at h;exact Ends.succ h
def Ends.le{L}{n k}{a}(h:Ends L n a)(c:n<=k):Ends L k a:=by
 induction c with
 | refl=>exact h
 | step _ b=>exact b.succ
def Qgv{L}:∀{n:Nat} {id:Int},Ends L n id->J3 L (n+1) id=J3 L n id
 | 0,id,h=>by simp only[Ends]at h;simp only[J3,h]
 | n+1,id,h=>by
  rw[Ends]at h;rw[J3]
  conv=>rhs;rw[J3]
  cases a:QC L id with
  | none=>rfl
  | some c=>rw[a]at h;simp only[Qgv h]
def CM{L}:∀{n:Nat} {id:Int},(J3 L n id).length<=n
 | 0,_=>Qs _
 | n+1,id=>by
  rw[J3];cases QC L id with
  | none=>exact Z9 _
  | some c=>have:=CM (L:=L) (n:=n) (id:=c.parent);simp only[VQ];omega
def Ends.short{L}:∀{n k:Nat} {id:Int},Ends L n id->(J3 L n id).length<=k->Ends L k id
 | 0,k,id,h,_=>h.le (Z9 _)
 | n+1,k,id,h,b=>by
  rw[Ends]at h;rw[J3]at b;cases a:QC L id with
  | none=>cases k with
   | zero=>exact a
   | succ k=>rw[Ends,a];trivial
  | some c=>
   rw[a]at h b;simp only[VQ]at b;cases k with
   | zero=>omega
   | succ k=>rw[Ends,a];exact Ends.short h ω
structure TreeInv (L:List Qq):Prop where
 rising:Xw L
 ids:∀c∈L,1<=c.iD
 par:∀c∈L,c.parent=0\/(QC L c.parent).isSome=true
 ends:∀id,Ends L 16 id
def TreeInv.nil:TreeInv []:=⟨by simp[Xw],σ,σ,λid=>by simp[Ends,QC]⟩
def right_id{x:Qq}(h:Vr x=0):1<=x.iD/\x.iD<=65536/\x.parent≠x.iD:=by
 have a:FQ x=true:=by
  cases b:FQ x with
  | true=>rfl
  | false=>rw[Vr,b]at h;simp at h
 simp[FQ,Bq]at a;exact⟨a.1.1.1,a.1.1.2,a.2⟩
def gH{L}(h:Xw L)(x){k:Int}(a:(QC L k).isSome=true):(QC (Wz L x) k).isSome=true:=by
 rw[Bs h];split
 .rfl
 .exact a
def Bt{L}(h:Xw L)(x){c}(a:c∈Wz L x):c=x\/c∈L:=by
 rcases QG.1 ((Ml x h).mem_iff.1 a) with h1|h1
 .exact .inl h1
 .exact .inr (JI.1 h1).1
def TreeInv.add{L}(I:TreeInv L){x:Qq}(m:Vr x=0)(l:QC L x.iD=none)(k:x.parent=0\/(QC L x.parent).isSome=true)(o:(J3 L 16 x.parent).length≠16):TreeInv (Wz L x):=by
 obtain⟨j,_,i⟩:=right_id m;have d:∀n id,id≠x.iD->Ends L n id->Ends (Wz L x) n id:=by
  intro n;induction n with
  | zero=>intro id b h;rw[Ends]at h ⊢;rw[Bs I.rising,Qe b];exact h
  | succ n g=>
   intro id b h;rw[Ends]at h ⊢;rw[Bs I.rising,Qe b];cases f:QC L id with
   | none=>trivial
   | some c=>
    rw[f]at h;refine g _ ?_ h;rcases I.par c ((VL I.rising).1 f).1 with hp|hp
    .rw[hp];omega
    .intro e;rw[e,l]at hp;cases hp
 refine⟨Pb x I.rising,λc a=>?_,λc a=>?_,λid=>?_⟩
 .rcases Bt I.rising x a with rfl|a
  .exact j
  .exact I.ids c a
 .rcases Bt I.rising x a with rfl|a
  .exact k.imp id λh=>gH I.rising c h
  .exact(I.par c a).imp id λh=>gH I.rising x h
 .by_cases b:id=x.iD
  .subst b;rw[Ends,Bs I.rising,Qf rfl];refine d 15 _ i ((I.ends x.parent).short ?_);have:=CM (L:=L) (n:=16) (id:=x.parent);omega
  .exact d 16 id b (I.ends id)
def TreeInv.del{L}(I:TreeInv L){a}(h:Xh L a=[]):TreeInv (XN L a):=by
 have m:∀c∈L,c.parent≠a:=λc b e=>by
  have:c∈L.filter (λy=>y.parent==a):=JI.2 ⟨b,by simp[e]⟩;have l:(L.filter λy=>y.parent==a)=[]:=by simpa[Xh] using h
  rw[l]at this;simp at this
 refine⟨rM a I.rising,λc b=>I.ids c (JI.1 b).1,λc b=>?_,λid=>?_⟩
 .have f:=(JI.1 b).1;exact(I.par c f).imp id λj=>by rw[TN I.rising,Qe (m c f)];exact j
 .have d:∀n id,Ends L n id->Ends (XN L a) n id:=by
   intro n;induction n with
   | zero=>intro id h;rw[Ends]at h ⊢;rw[TN I.rising];split<;>simp[h]
   | succ n i=>
    intro id h;rw[Ends]at h ⊢;rw[TN I.rising];by_cases g:id=a
    .rw[Qf g];trivial
    .rw[Qe g];cases k:QC L id with
     | none=>trivial
     | some c=>rw[k]at h;exact i _ h
  exact d 16 id (I.ends id)
def TreeInv.set{L}(I:TreeInv L){x y:Qq}(k:Vr x=0)(d:QC L x.iD=some y)(g:x.parent=y.parent):TreeInv (Wz L x):=by
 obtain⟨i,_,l⟩:=right_id k;have e:∀n id,Ends L n id->Ends (Wz L x) n id:=by
  intro n;induction n with
  | zero=>
   intro id h;rw[Ends]at h ⊢;rw[Bs I.rising];by_cases b:id=x.iD
   .subst b;rw[d]at h;cases h
   .rw[Qe b];exact h
  | succ n f=>
   intro id h;rw[Ends]at h ⊢;rw[Bs I.rising];by_cases b:id=x.iD
   .subst b;rw[Qf rfl];rw[d]at h;show Ends (Wz L x) n x.parent;rw[g];exact f _ h
   .rw[Qe b];cases j:QC L id with
    | none=>trivial
    | some c=>rw[j]at h;exact f _ h
 refine⟨Pb x I.rising,λc a=>?_,λc a=>?_,λid=>e 16 id (I.ends id)⟩
 .rcases Bt I.rising x a with rfl|a
  .exact i
  .exact I.ids c a
 .rcases Bt I.rising x a with rfl|a
  .rw[g];exact(I.par y ((VL I.rising).1 d).1).imp id λh=>gH I.rising c h
  .exact(I.par c a).imp id λh=>gH I.rising x h
def up(T:List Qq)(id:Int):List Int:=J3 T 16 id
structure KU (T:List Qq):Prop extends TreeInv T where
 right:∀c∈T,Vr c=0
 Zy:∀c∈T,c.parent≠0->∃d,QC T c.parent=some d/\d.leaf=false
 gI:∀c∈T,1<QS c.ls->c.parent≠0->yd T c.parent=true
 len:T.length<=64
section
variable {T:List Qq}(I:KU T)
include I
theorem gJ(a):up T a=match QC T a with|none=>[]|some c=>a::up T c.parent:=by
 have b:=Qgv (I.ends a);unfold up;rw[<- b,J3];all_goals (cases QC T a<;>rfl)
theorem VT{a}{c:Qq}(h:QC T a=some c):up T a=a::up T c.parent:=by rw[gJ I,h]
theorem TO{a}(h:QC T a=none):up T a=[]:=by rw[gJ I,h]
theorem QuN{a}{c:Qq}(h:QC T a=some c):c.iD=a:=((VL I.rising).1 h).2
theorem Ab{a}{c}(h:QC T a=some c):c∈T:=((VL I.rising).1 h).1
theorem FV:QC T 0=none:=HF.2 λc a e=>by have:=I.ids c a;omega
theorem Mr:up T 0=[]:=TO I (FV I)
omit I in
theorem HJ{a j:Int}(h:j∈up T a):(QC T j).isSome=true:=by
 have:∀n a,j∈J3 T n a->(QC T j).isSome=true:=by
  intro n;induction n with
  | zero=>intro a h;cases h
  | succ n d=>
   intro a h;rw[J3]at h;cases b:QC T a with
   | none=>rw[b]at h;cases h
   | some c=>
    rw[b]at h;rcases QG.1 h with rfl|h
    .rw[b];rfl
    .exact d _ h
 exact this 16 a h
theorem TP{a p}(h:p∈up T a):∃l,up T a=l++up T p:=by
 generalize b:(up T a).length=n;induction n using Nat.strongRecOn generalizing a with
 | ind n f=>
  cases d:QC T a with
  | none=>rw[TO I d]at h;cases h
  | some c=>
   have e:=VT I d;rw[e]at h b;rcases QG.1 h with rfl|h
   .exact⟨[],rfl⟩
   .obtain⟨l,g⟩:=f _ (by simp only[VQ]at b;omega) h rfl;exact⟨a::l,by rw[e,g];rfl⟩
theorem up_sub{a p q}(h:p∈up T a)(b:q∈up T p):q∈up T a:=by
 obtain⟨l,e⟩:=TP I h;rw[e];exact NP _ b
theorem Yi{a}{c}(h:QC T a=some c):a∈up T a:=by rw[VT I h];simp
theorem TQ(a:Int):(up T a).Nodup:=by
 generalize b:(up T a).length=n;induction n using Nat.strongRecOn generalizing a with
 | ind n f=>
  cases d:QC T a with
  | none=>rw[TO I d];simp
  | some c=>
   have e:=VT I d;rw[e]at b ⊢;rw[Z8];refine⟨λh=>?_,f _ (by simp only[VQ]at b;omega) _ rfl⟩;obtain⟨l,g⟩:=TP I h;have:=congrArg List.length g;rw[e]at this;simp only[ZT,VQ]at this;omega
theorem gK{a p}(h:p∈up T a)(m:a≠p):∃i c,i∈up T a/\QC T i=some c/\c.parent=p:=by
 generalize f:(up T a).length=n;induction n using Nat.strongRecOn generalizing a with
 | ind n j=>
  cases b:QC T a with
  | none=>rw[TO I b]at h;cases h
  | some c=>
   have e:=VT I b;rw[e]at h f;rcases QG.1 h with rfl|h
   .exact absurd rfl m
   .by_cases g:c.parent=p
    .exact⟨a,c,by rw[e];simp,b,g⟩
    .obtain⟨i,d,l,k⟩:=j _ (by simp only[VQ]at f;omega) h g rfl;exact⟨i,d,by rw[e];simp[l],k⟩
theorem QuO{a i j}{c d:Qq}(o:i∈up T a)(n:j∈up T a)(g:QC T i=some c)(f:QC T j=some d)(e:c.parent=d.parent):i=j:=by
 obtain⟨l,k⟩:=TP I o;obtain⟨m,h⟩:=TP I n;have s:=congrArg List.length (VT I g);have r:=congrArg List.length (VT I f);have q:(up T i).length=(up T j).length:=by rw[s,r,e];rfl
 have p:=k.symm.trans h;obtain⟨_,b⟩:=List.append_inj' p q;rw[VT I g,VT I f]at b;exact(xC b).1
def Jx(T:List Qq)(A:List Int)(b:Int):Bool:=A.any λa=>(up T a).contains b
omit I in
theorem zd{A}{b}:Jx T A b=true↔∃a∈A,b∈up T a:=by simp[Jx]
def zU(T:List Qq)(A:List Int)(p i:Int):Bool:=(match QC T i with|some c=>c.parent==p|none=>false)&&Jx T A i
omit I in
theorem yf{A}{p i}:zU T A p i=true↔∃c,QC T i=some c/\c.parent=p/\Jx T A i=true:=by
 unfold zU;cases QC T i with
 | none=>simp
 | some c=>simp
def Ac(T:List Qq)(A:List Int):Prop:=∀a∈A,∃c,QC T a=some c/\c.leaf=true/\1<QS c.ls
theorem Ms{A}{i p}(h:Jx T A i=true)(b:p∈up T i):Jx T A p=true:=by
 obtain⟨a,d,c⟩:=zd.1 h;exact zd.2 ⟨a,d,up_sub I c b⟩
theorem Qgw{A}(n:Ac T A){p}{d:Qq}(b:QC T p=some d)(g:d.leaf=false):Jx T A p=true↔∃i,zU T A p i=true:=by
 constructor
 .intro h;obtain⟨a,j,l⟩:=zd.1 h;obtain⟨c,f,e,k⟩:=n a j;have t:a≠p:=by rintro rfl;rw[f]at b;cases b;rw[e]at g;cases g
  obtain⟨i,c,r,q,o⟩:=gK I l t;exact⟨i,yf.2 ⟨c,q,o,zd.2 ⟨a,j,r⟩⟩⟩
 .rintro⟨i,m⟩;obtain⟨c,f,e,k⟩:=yf.1 m;have s:p∈up T i:=by
   rw[VT I f,e];exact Jw _ (Yi I b)
  exact Ms I k s
def XP(T:List Qq)(A:List Int)(a:Int):List Int:=(up T a).takeWhile λi=>!Jx T A i
theorem Qgx{b}{c:Qq}(h:QC T b=some c)(j:1<QS c.ls):∀i∈up T b,∃d,QC T i=some d/\1<QS d.ls:=by
 generalize k:(up T b).length=n;induction n using Nat.strongRecOn generalizing b c with
 | ind n m=>
  have e:=VT I h;rw[e]at k ⊢;intro i a;rcases QG.1 a with rfl|a
  .exact⟨c,h,j⟩
  .by_cases f:c.parent=0
   .rw[f,Mr I]at a;cases a
   .obtain⟨d,l,_⟩:=I.Zy c (Ab I h) f;have g:=I.gI c (Ab I h) j f;unfold yd at g;rw[l]at g;exact m _ (by simp only[VQ]at k;omega) l (by simpa using g) rfl i a
end
section
variable {T:List Qq}(I:KU T)
def kz(T:List Qq)(A:List Int)(a:List Int)(p i:Int):Bool:=zU T A p i || (a.contains i&&(match QC T i with|some c=>c.parent==p|none=>false))
def vK(T:List Qq)(A:List Int)(a:List Int)(p i:Int):Bool:=zU T A p i&&!a.contains i
include I
theorem TR{A a}{p i}:kz T A a p i=true↔zU T A p i=true\/(i∈a/\∃c,QC T i=some c/\c.parent=p):=by
 unfold kz;cases QC T i with
 | none=>simp
 | some c=>simp
theorem QuP{a i}{l m}{c:Qq}(h:up T a=l++i::m)(p:QC T i=some c):m=up T c.parent:=by
 have j:i∈up T a:=by rw[h];simp
 obtain⟨b,g⟩:=TP I j;rw[VT I p]at g;have d:=TQ I a;have e:=h.symm.trans g;have f:=d;rw[h]at d;rw[g]at f;have q:l=b:=by
  have n:∀x∈l,x≠i:=λx hx e=>by
   subst e;rw[Kg]at d;exact d.2.2 x hx x σ rfl
  have k:∀x∈b,x≠i:=λx hx e=>by
   subst e;rw[Kg]at f;exact f.2.2 x hx x σ rfl
  clear h g d f j;induction l generalizing b with
  | nil=>cases b with
   | nil=>rfl
   | cons y b=>simp only[Yr,YG,yI]at e;exact absurd e.1.symm (k y σ)
  | cons x l o=>cases b with
   | nil=>simp only[Yr,YG,yI]at e;exact absurd e.1 (n x σ)
   | cons y b=>
    simp only[YG,yI]at e;rw[e.1,o b e.2 (λx hx=>n x (by simp[hx])) (λx hx=>k x (by simp[hx]))]
 subst q;have:=List.append_cancel_left e;exact(xC this).2
theorem QuQ{A}(r:Ac T A){b e}{k}{c}(f:up T b=k++up T e)(j:QC T e=some c)(q:∀i∈k++[e],Jx T A i=false):
  (∃i,kz T A k c.parent i=true)↔∃i,zU T A c.parent i=true:=by
 constructor
 .rintro⟨i,g⟩;rcases (TR I).1 g with h|⟨m,d,o,n⟩
  .exact⟨i,h⟩
  .exfalso;have p:i=e:=QuO I (a:=b) (by rw[f];simp[m]) (by rw[f];exact NP _ (Yi I j)) o j n;subst p;have l:=TQ I b;rw[f,Kg]at l;exact l.2.2 i m i (Yi I j) rfl
 .rintro⟨i,g⟩;exact⟨i,(TR I).2 (.inl g)⟩
theorem QuR{A dn}{e}{c:Qq}(f:QC T e=some c)(p i):kz T A (dn++[e]) p i=if p=c.parent/\i=e then true else kz T A dn p i:=by
 rw[wx,TR I];split
 .rename_i h;obtain⟨rfl,rfl⟩:=h;simp[f]
 .rename_i h;rw[TR I];constructor
  .rintro (h1|⟨h1,d,b,a⟩)
   .exact .inl h1
   .rcases QX.1 h1 with h1|h1
    .exact .inr ⟨h1,d,b,a⟩
    .simp only[Xq]at h1;subst h1;rw[b]at f;cases f;exact absurd ⟨a.symm,rfl⟩ h
  .rintro (h1|⟨h1,d,b,a⟩)
   .exact .inl h1
   .exact .inr ⟨bL _ h1,d,b,a⟩
omit I in
theorem QuS(T)(A)(p i):kz T A [] p i=zU T A p i:=by simp[kz]
theorem QuT{A}(y:Ac T A){a g}{k}{c:Qq}(r:up T a=k++up T g)(v:QC T g=some c)(t:∀i∈k++[g],Jx T A i=false)(he:c.parent=0\/Jx T A c.parent=true):
  k++[g]=XP T A a/\∀p i,kz T A (k++[g]) p i=zU T (a::A) p i:=by
 have l:up T a=(k++[g])++up T c.parent:=by rw[r,VT I v];simp
 have o:∀j∈up T c.parent,Jx T A j=true:=λj n=>by
  rcases he with he|he
  .rw[he,Mr I]at n;cases n
  .exact Ms I he n
 refine⟨?_,λp i=>?_⟩
 .unfold XP;rw[l,List.takeWhile_append_of_pos (λi u=>by rw[t i u];rfl)];have:(up T c.parent).takeWhile (λi=>!Jx T A i)=[]:=by
   cases s:up T c.parent with
   | nil=>rfl
   | cons x q=>rw[bU,o x (by rw[s];simp)];rfl
  rw[this,Jv]
 .rw[wx,TR I,yf (A:=a::A)];have m:∀j,Jx T (a::A) j=true↔j∈up T a\/Jx T A j=true:=λj=>by
   rw[zd,zd];simp
  constructor
  .rintro (h|⟨w,d,f,e⟩)
   .obtain⟨d,f,e,b⟩:=yf.1 h;exact⟨d,f,e,(m i).2 (.inr b)⟩
   .exact⟨d,f,e,(m i).2 (.inl (by rw[l];exact bL _ w))⟩
  .rintro⟨d,f,e,b⟩;rcases (m i).1 b with b|b
   .rw[l]at b;rcases QX.1 b with b|b
    .exact .inr ⟨b,d,f,e⟩
    .exact .inl (yf.2 ⟨d,f,e,o i b⟩)
   .exact .inl (yf.2 ⟨d,f,e,b⟩)
end
def Ku(A:List Int)(b:Int):List Int:=A.filter λa=>a != b
section
variable {T:List Qq}(I:KU T)
def Mt{A}{b}(e:b∈A)(j):Jx T A j=true↔j∈up T b\/Jx T (Ku A b) j=true:=by
 rw[zd,zd];constructor
 .rintro⟨a,d,c⟩;by_cases h:a=b
  .subst h;exact .inl c
  .exact .inr ⟨a,JI.2 ⟨d,by simpa using h⟩,c⟩
 .rintro (h|⟨a,d,c⟩)
  .exact⟨b,e,h⟩
  .exact⟨a,(JI.1 d).1,c⟩
def Ac.off{A}(h:Ac T A)(b):Ac T (Ku A b):=λa c=>h a (JI.1 c).1
def Pf{A a}{p i}:vK T A a p i=true↔zU T A p i=true/\i ∉ a:=by simp[vK]
include I
theorem Qgy{A}(E:Ac T A){b j}(t:b∈A){l}{c:Qq}(z:up T b=l++up T j)(u:QC T j=some c)(B:∀i∈l++[j],Jx T (Ku A b) i=false)(H:c.parent≠0):
  (∃i,vK T A (l++[j]) c.parent i=true)↔Jx T (Ku A b) c.parent=true:=by
 have x:up T b=(l++[j])++up T c.parent:=by rw[z,VT I u];simp
 obtain⟨d,m,w⟩:=I.Zy c (Ab I u) H;constructor
 .rintro⟨i,C⟩;obtain⟨r,q⟩:=Pf.1 C;obtain⟨e,p,k,o⟩:=yf.1 r;have J:c.parent∈up T i:=by rw[VT I p,k];exact Jw _ (Yi I m)
  rcases (Mt t i).1 o with g|g
  .exfalso;rw[x]at g;rcases QX.1 g with g|g
   .exact q g
   .have s:=TQ I i;rw[VT I p,k,Z8]at s;exact s.1 g
  .exact Ms I g J
 .intro h;obtain⟨a,v,y⟩:=zd.1 h;obtain⟨e,r,q,p⟩:=E.off b a v;have K:a≠c.parent:=by rintro rfl;rw[r]at m;cases m;rw[q]at w;cases w
  obtain⟨i,f,k,o,g⟩:=gK I y K;have n:Jx T (Ku A b) i=true:=zd.2 ⟨a,v,k⟩;refine⟨i,Pf.2 ⟨yf.2 ⟨f,o,g,(Mt t i).2 (.inr n)⟩,λF=>?_⟩⟩;rw[B i F]at n;cases n
theorem QuU{A}{a e}(r:a∈A){g}{c:Qq}(t:up T a=g++up T e)(w:QC T e=some c)(o:∀i∈g++[e],Jx T (Ku A a) i=false)(he:c.parent=0\/Jx T (Ku A a) c.parent=true):
  g++[e]=XP T (Ku A a) a/\∀p i,vK T A (g++[e]) p i=zU T (Ku A a) p i:=by
 have n:up T a=(g++[e])++up T c.parent:=by rw[t,VT I w];simp
 have s:∀j∈up T c.parent,Jx T (Ku A a) j=true:=λj h=>by
  rcases he with he|he
  .rw[he,Mr I]at h;cases h
  .exact Ms I he h
 refine⟨?_,λp i=>?_⟩
 .unfold XP;rw[n,List.takeWhile_append_of_pos (λi v=>by rw[o i v];rfl)];have:(up T c.parent).takeWhile (λi=>!Jx T (Ku A a) i)=[]:=by
   cases u:up T c.parent with
   | nil=>rfl
   | cons x q=>rw[bU,s x (by rw[u];simp)];rfl
  rw[this,Jv]
 .rw[wx,Pf,yf,yf];constructor
  .rintro⟨⟨d,m,l,f⟩,k⟩;refine⟨d,m,l,?_⟩;rcases (Mt r i).1 f with b|b
   .rw[n]at b;rcases QX.1 b with b|b
    .exact absurd b k
    .exact s i b
   .exact b
  .rintro⟨d,m,l,f⟩;refine⟨⟨d,m,l,(Mt r i).2 (.inr f)⟩,λk=>?_⟩;rw[o i k]at f;cases f
end
@[go_sem] def u64(n:Nat):D:=.raw (.int .u64 n)
@[go_sem] theorem wl0:IntKind.i64.wrap 0=0:=π
@[go_sem] theorem wl1:IntKind.i64.wrap 1=1:=π
@[go_sem] theorem wl2:IntKind.i64.wrap 2=2:=π
@[go_sem] theorem wl3:IntKind.i64.wrap 3=3:=π
@[go_sem] theorem wl4:IntKind.i64.wrap 4=4:=π
def never:Nat:=9223372036854775808
attribute [go_sem] Go.undef
def Mu(a b:Nat):IntKind.u64.wrap ((a:Int)+(b:Int))=(((a+b) % 18446744073709551616:Nat):Int):=κ
def TS(a b:Nat):IntKind.u64.wrap ((a:Int)*(b:Int))=((a*b % 18446744073709551616:Nat):Int):=by rw[IntKind.wrap_u64,<- jm];omega
def rW(a b:Nat)(h:b<=18446744073709551616):IntKind.u64.wrap ((a:Int) - (b:Int))=(((a+18446744073709551616 - b) % 18446744073709551616:Nat):Int):=κ
def TU(a b:Nat)(h:b<=a)(c:a<18446744073709551616):IntKind.u64.wrap ((a:Int) - (b:Int))=((a - b:Nat):Int):=κ
def Pg(a b:Nat)(h:a+b<18446744073709551616):IntKind.u64.wrap ((a:Int)+(b:Int))=((a+b:Nat):Int):=κ
def Qgz(a b:Nat)(h:a*b<18446744073709551616):IntKind.u64.wrap ((a:Int)*(b:Int))=((a*b:Nat):Int):=by rw[TS,jq h]
def Mv(a s:Nat):((a:Int).fdiv (2 ^ s))=((a / 2 ^ s:Nat):Int):=by
 have h:((2:Int) ^ s)=((2 ^ s:Nat):Int):=σ;rw[h,Int.fdiv_eq_ediv_of_nonneg _ (Dt _),Int.natCast_ediv]
def QuV(a:Nat)(b:a<18446744073709551616):bits .and .u64 (a:Int) 4294967295=((a % 4294967296:Nat):Int):=by
 have:=u64_and_nat a 4294967295 b π;rw[show ((4294967295:Nat):Int)=4294967295 from rfl]at this;rw[this,show (4294967295:Nat)=2 ^ 32 - 1 from rfl,Nat.and_two_pow_sub_one_eq_mod]
def QuW(x y:Nat)(b:x<4294967296)(a:y<4294967296):bits .or .u64 ((x*4294967296:Nat):Int) (y:Int)=((x*4294967296+y:Nat):Int):=by
 rw[u64_or_nat _ _ ω ω,nat_join 32 _ _ (by rw[show (2:Nat) ^ 32=4294967296 from rfl];omega) (by simpa using a)]
def Ph(a)(b:a<18446744073709551616):a / 9223372036854775808=0\/a / 9223372036854775808=1:=ω
def gL(a b)(d:a<18446744073709551616)(c:b<18446744073709551616):(a &&& b) / 9223372036854775808=(a / 9223372036854775808) &&& (b / 9223372036854775808):=by
 rw[show (9223372036854775808:Nat)=2 ^ 63 from rfl,<- E8,Nat.shiftRight_and_distrib,E8,E8]
def rX(a b)(d:a<18446744073709551616)(c:b<18446744073709551616):(a ||| b) / 9223372036854775808=(a / 9223372036854775808) ||| (b / 9223372036854775808):=by
 rw[show (9223372036854775808:Nat)=2 ^ 63 from rfl,<- E8,Nat.shiftRight_or_distrib,E8,E8]
def rY(a b)(d:a<18446744073709551616)(c:b<18446744073709551616):(a ^^^ b) / 9223372036854775808=(a / 9223372036854775808) ^^^ (b / 9223372036854775808):=by
 rw[show (9223372036854775808:Nat)=2 ^ 63 from rfl,<- E8,Nat.shiftRight_xor_distrib,E8,E8]
def QuX(a b c x y z u v)(i:a<18446744073709551616)(h:b<18446744073709551616)(k:c<2)(j:u=(a+18446744073709551616 - b+18446744073709551616 - c) % 18446744073709551616)
  (g:x=a / 9223372036854775808) (f:y=b / 9223372036854775808) (e:z=u / 9223372036854775808) (d:v=(1 ^^^ x) &&& y ||| ((1 ^^^ (x ^^^ y)) &&& z)):v=if a<b+c then 1 else 0:=by
 have h1:=Ph a i;have h2:=Ph b h;have h3:=Ph u ω;rw[<- g]at h1;rw[<- f]at h2;rw[<- e]at h3;rcases h1 with h1|h1<;>rcases h2 with h2|h2<;>rcases h3 with h3|h3<;>(rw[h1,h2,h3]at d;simp at d;subst d;split<;>omega)
def QuY(a b c x y z u v)(i:a<18446744073709551616)(h:b<18446744073709551616)(k:c<2)(j:u=(a+b+c) % 18446744073709551616)
  (g:x=a / 9223372036854775808) (f:y=b / 9223372036854775808) (e:z=u / 9223372036854775808) (d:v=x &&& y ||| ((x ||| y) &&& (1 - z))):v=if 18446744073709551616<=a+b+c then 1 else 0:=by
 have h1:=Ph a i;have h2:=Ph b h;have h3:=Ph u ω;rw[<- g]at h1;rw[<- f]at h2;rw[<- e]at h3;rcases h1 with h1|h1<;>rcases h2 with h2|h2<;>rcases h3 with h3|h3<;>(rw[h1,h2,h3]at d;simp at d;subst d;split<;>omega)
end Go.Fg.X
namespace Go.Fg.X
open Go.Proofs Go.Fg
structure It where
 ka:Nat
 ki:Int
 va:Nat
 vi:Int
deriving DecidableEq
instance:Inhabited It:=⟨⟨0,0,0,0⟩⟩
@[go_sem] def It.cells(x:It):List D:=[u64 x.ka,Qb x.ki,u64 x.va,Qb x.vi]
def KG(a:Nat)(i:Int)(b:Nat)(j:Int):Prop:=a<b\/(a=b/\i<j)
instance (a:Nat) (i:Int) (b:Nat) (j:Int):Decidable (KG a i b j):=inferInstanceAs (Decidable (_\/_))
def It.lt(x y:It):Prop:=KG x.ka x.ki y.ka y.ki
instance (x y:It):Decidable (x.lt y):=inferInstanceAs (Decidable (KG _ _ _ _))
def zV(a:Nat)(i:Int)(b:Nat)(j:Int):Int:=if a=b/\i=j then 0 else if KG a i b j then -1 else 1
def kB(a b:It):It:=if zV b.va b.vi a.va a.vi<0\/(zV b.va b.vi a.va a.vi=0/\zV b.ka b.ki a.ka a.ki<0) then b else a
inductive Tr where
 | nil
 | node (loc:Nat) (it:It) (l r:Tr)
deriving Inhabited
namespace Tr
def list:Tr->List It
 | .nil=>[]
 | .node _ a l r=>l.list++a::r.list
def QP:Tr->List Nat
 | .nil=>[]
 | .node a _ l r=>a::(l.QP++r.QP)
def high:Tr->Nat
 | .nil=>0
 | .node _ _ l r=>1+max l.high r.high
def size:Tr->Nat
 | .nil=>0
 | .node _ _ l r=>1+l.size+r.size
def ptr:Tr->D
 | .nil=>.raw (.pointer none)
 | .node a _ _ _=>.ptr a 0 0 0
@[go_sem] theorem HM:Tr.nil.ptr=.raw (.pointer none):=rfl
@[go_sem] theorem Eb(a)(b)(l r:Tr):(Tr.node a b l r).ptr=.ptr a 0 0 0:=rfl
@[go_sem] theorem QHm(t:Tr):Yu t.ptr=some [t.ptr]:=by cases t<;>rfl
@[go_sem] theorem QHn(t:Tr):t.ptr.VI=true:=by cases t<;>rfl
@[go_sem] theorem QHo(t:Tr):Ye t.ptr t.ptr=True:=by cases t<;>simp[Ye,ptr]
def least:Tr->It
 | .nil=>default
 | .node _ e l r=>match l,r with
  | .nil,.nil=>e
  | .nil,.node a b c d=>kB e (least (.node a b c d))
  | .node a b c d,.nil=>kB e (least (.node a b c d))
  | .node a b c d,.node i h g f=>kB (kB e (least (.node a b c d))) (least (.node i h g f))
def CN:∀t:Tr,t.list.length=t.size
 | .nil=>rfl
 | .node _ _ l r=>by simp only[list,size,ZT,VQ,CN l,CN r];omega
def Pj:∀t:Tr,t.high<=t.size
 | .nil=>Qs _
 | .node _ _ l r=>by have:=Pj l;have:=Pj r;simp only[high,size];omega
end Tr
@[go_sem] def QuZ(b:It)(p q:D)(a:It)(c n:Int):List D:=[u64 b.ka,Qb b.ki,u64 b.va,Qb b.vi,p,q,u64 a.ka,Qb a.ki,u64 a.va,Qb a.vi,Qb c,Qb n]
@[go_sem] def FW(b:It)(p q:D)(a:It)(c n:Int):Ob:=⟨.one,0,12,1,λ_=>QuZ b p q a c n⟩
def Vs(h:List Ob):Tr->Prop
 | .nil=>True
 | .node a b l r=>h[a]? = some (FW b l.ptr r.ptr (Tr.node a b l r).least ((Tr.node a b l r).high:Nat) ((Tr.node a b l r).size:Nat))/\Vs h l/\Vs h r
def Vs.frame{h b:List Ob}:∀{t:Tr},Vs h t->(∀l∈t.QP,b[l]? = h[l]?)->Vs b t
 | .nil,_,_=>trivial
 | .node a g l r,⟨f,d,c⟩,e=>⟨by rw[e a (by simp[Tr.QP])];exact f,d.frame λx hx=>e x (by simp[Tr.QP,hx]),c.frame λx hx=>e x (by simp[Tr.QP,hx])⟩
def Vs.lt{h:List Ob}:∀{t:Tr},Vs h t->∀l∈t.QP,l<h.length
 | .nil,_,l,a=>by cases a
 | .node e f l r,⟨d,c,b⟩,x,hx=>by
  simp only[Tr.QP,QG,QX]at hx;rcases hx with rfl|hx|hx
  .exact KY d
  .exact c.lt x hx
  .exact b.lt x hx
def jz(h:List Ob):Tr->Prop
 | .nil=>True
 | .node a b l r=>(h.map Ob.ro)[a]? = some (FW b l.ptr r.ptr (Tr.node a b l r).least ((Tr.node a b l r).high:Nat) ((Tr.node a b l r).size:Nat)).ro/\jz h l/\jz h r
def Vs.toR{h}:∀{t:Tr},Vs h t->jz h t
 | .nil,_=>trivial
 | .node _ _ _ _,⟨c,b,a⟩=>⟨Jc c,b.toR,a.toR⟩
def jz.more{h h':List Ob}(e:∀(l:Nat) (o:Ob),(h.map Ob.ro)[l]? = some o->(h'.map Ob.ro)[l]? = some o):∀{t:Tr},jz h t->jz h' t
 | .nil,_=>trivial
 | .node _ _ _ _,⟨c,b,a⟩=>⟨e _ _ c,b.more e,a.more e⟩
def HN{h F g:List Ob}(b:F=h.map Ob.ro)(l:Nat)(o:Ob)(e:(h.map Ob.ro)[l]? = some o):((F++g).map Ob.ro)[l]? = some o:=by
 subst b;have c:l<(h.map Ob.ro).length:=KY e;rw[jZ,JY (by simpa using c),Dw];rw[KX]at e ⊢;cases a:h[l]? with
 | none=>rw[a]at e;cases e
 | some u=>rw[a]at e;cases e;simp[ro_ro]
structure kC (h:List Ob) (t:Tr) (L:List It) (h':List Ob) (t':Tr):Prop where
 is:Vs h' t'
 list:t'.list=L
 nd:t'.QP.Nodup
 mem:∀l∈t'.QP,l∈t.QP\/h.length<=l
 keep:∀l,l<h.length->l ∉ t.QP->h'[l]? = h[l]?
 len:h.length<=h'.length
def kC.refl{h}{t:Tr}(i:Vs h t)(n:t.QP.Nodup):kC h t t.list h t:=⟨i,rfl,n,λ_ h=>.inl h,λ_ _ _=>rfl,Qs _⟩
def kC.trans{h h' f}{t e c}{L i}(a:kC h t L h' e)(b:kC h' e i f c):kC h t i f c:=
 ⟨b.is,b.list,b.nd,λl d=>by
  rcases b.mem l d with h1|h1
  .exact a.mem l h1
  .exact .inr (JL a.len h1),λl d g=>by
  rw[b.keep l (wy d a.len) λh1=>by
   rcases a.mem l h1 with h2|h2
   .exact g h2
   .omega]
  exact a.keep l d g,JL a.len b.len⟩
def It.qA(x y:It):Prop:=KG x.va x.vi y.va y.vi\/(x.va=y.va/\x.vi=y.vi/\KG x.ka x.ki y.ka y.ki)
instance (x y:It):Decidable (x.qA y):=inferInstanceAs (Decidable (_\/_))
def CO(a)(i):¬ KG a i a i:=by unfold KG;omega
def HO{a}{i}{b}{j}{c}{k}(h:KG a i b j)(d:KG b j c k):KG a i c k:=by unfold KG at *;omega
def Pm(a)(i)(b)(j):KG a i b j\/(a=b/\i=j)\/KG b j a i:=by unfold KG;omega
def rZ{a}{i}{b}{j}:zV a i b j<0↔KG a i b j:=by
 unfold zV;by_cases h:a=b/\i=j
 .rw[Qf h];obtain⟨rfl,rfl⟩:=h;exact⟨λh=>ω,λh=>absurd h (CO _ _)⟩
 .rw[Qe h];by_cases c:KG a i b j
  .rw[Qf c];exact⟨λ_=>c,λ_=>ω⟩
  .rw[Qe c];exact⟨λh=>ω,λh=>absurd h c⟩
def QgA{a}{i}{b}{j}:zV a i b j=0↔a=b/\i=j:=by
 unfold zV;by_cases h:a=b/\i=j
 .rw[Qf h];exact⟨λ_=>h,λ_=>rfl⟩
 .rw[Qe h];by_cases d:KG a i b j
  .rw[Qf d];exact⟨λh=>ω,λc=>absurd c h⟩
  .rw[Qe d];exact⟨λh=>ω,λc=>absurd c h⟩
def Qu0{a}{i}{b}{j}:0<zV a i b j↔KG b j a i:=by
 have e:=@rZ a i b j;have d:=@QgA a i b j;have h3:=Pm a i b j;constructor
 .intro h;rcases h3 with h3|h3|h3
  .have:=e.2 h3;omega
  .have:=d.2 h3;omega
  .exact h3
 .intro h;have g:¬ zV a i b j<0:=λc=>CO _ _ (HO h (e.1 c));have f:¬ zV a i b j=0:=λc=>by obtain⟨rfl,rfl⟩:=d.1 c;exact CO _ _ h
  omega
def QgB(a b:It):kB a b=if b.qA a then b else a:=by
 have h:(zV b.va b.vi a.va a.vi<0\/(zV b.va b.vi a.va a.vi=0/\zV b.ka b.ki a.ka a.ki<0))↔b.qA a:=by
  rw[rZ,QgA,rZ,It.qA,and_assoc]
 unfold kB;by_cases c:b.qA a
 .rw[Qf (h.2 c),Qf c]
 .rw[Qe (λd=>c (h.1 d)),Qe c]
def TV(a:It):¬ a.qA a:=λh=>by
 rcases h with h|⟨_,_,h⟩<;>exact CO _ _ h
def QgC{a b c:It}(h:a.qA b)(d:b.qA c):a.qA c:=by
 rcases h with h|⟨i,g,h⟩<;>rcases d with d|⟨f,e,d⟩
 .exact .inl (HO h d)
 .exact .inl (by rw[<- f,<- e];exact h)
 .exact .inl (by rw[i,g];exact d)
 .exact .inr ⟨i.trans f,g.trans e,HO h d⟩
def QgD(a b:It):a.qA b\/a=b\/b.qA a:=by
 rcases Pm a.va a.vi b.va b.vi with h|⟨d,c⟩|h
 .exact .inl (.inl h)
 .rcases Pm a.ka a.ki b.ka b.ki with h|⟨f,e⟩|h
  .exact .inl (.inr ⟨d,c,h⟩)
  .refine .inr (.inl ?_);cases a;cases b;simp_all
  .exact .inr (.inr (.inr ⟨d.symm,c.symm,h⟩))
 .exact .inr (.inr (.inl h))
def QgE(a b:It):(kB a b=a/\¬ b.qA a)\/(kB a b=b/\b.qA a):=by
 rw[QgB];by_cases h:b.qA a
 .rw[Qf h];exact .inr ⟨rfl,h⟩
 .rw[Qe h];exact .inl ⟨rfl,h⟩
def Qu1(a b:It):¬ a.qA (kB a b)/\¬ b.qA (kB a b):=by
 rcases QgE a b with ⟨e,h⟩|⟨e,h⟩<;>rw[e]
 .exact⟨TV _,h⟩
 .exact⟨λc=>TV _ (QgC h c),TV _⟩
structure V0 (x:It) (L:List It):Prop where
 mem:x∈L
 le:∀y∈L,¬ y.qA x
def V0.uniq{x y}{L}(a:V0 x L)(b:V0 y L):x=y:=by
 rcases QgD x y with h|h|h
 .exact absurd h (b.le x a.mem)
 .exact h
 .exact absurd h (a.le y b.mem)
def V0.one(x):V0 x [x]:=⟨σ,λy a=>by simp only[Xq]at a;subst a;exact TV _⟩
def V0.join{x y}{L M}(a:V0 x L)(b:V0 y M):V0 (kB x y) (L++M):=by
 obtain⟨i,f⟩:=Qu1 x y;have d:∀{p q r:It},¬ p.qA q->¬ q.qA r->¬ p.qA r:=λ{p q r} h f g=>by
  rcases QgD q p with c|c|c
  .exact f (QgC c g)
  .subst c;exact f g
  .exact h c
 refine⟨?_,λz hz=>?_⟩
 .rcases QgE x y with ⟨e,_⟩|⟨e,_⟩<;>rw[e]
  .exact bL _ a.mem
  .exact NP _ b.mem
 .rcases QX.1 hz with hz|hz
  .exact d (a.le z hz) i
  .exact d (b.le z hz) f
def V0.perm{x:It}{L M}(a:V0 x L)(h:∀y,y∈M↔y∈L):V0 x M:=⟨(h x).2 a.mem,λy b=>a.le y ((h y).1 b)⟩
def Tr.Pn:∀(t:Tr),t≠.nil->V0 t.least t.list
 | .nil,h=>absurd rfl h
 | .node _ e .nil .nil,_=>V0.one e
 | .node _ e .nil (.node a b c d),_=>by
  have:=Tr.Pn (.node a b c d) σ;exact((V0.one e).join this).perm λy=>by simp[Tr.list]
 | .node _ e (.node a b c d) .nil,_=>by
  have:=Tr.Pn (.node a b c d) σ;exact((V0.one e).join this).perm λy=>by simp[Tr.list];constructor<;>(intro h;rcases h with h|h|h|h<;>simp[h])
 | .node _ e (.node a b c d) (.node l k j i),_=>by
  have g:=Tr.Pn (.node a b c d) σ;have f:=Tr.Pn (.node l k j i) σ;refine(((V0.one e).join g).join f).perm λy=>?_;simp only[Tr.list,QX,QG,Xq];grind
end Go.Fg.X
namespace Go.Fg.X
open Go.Proofs Go.Fg
open Go.Proofs.Tryz
def Vt(L:List It):Prop:=L.Pairwise It.lt
def It.lt_trans{a b c:It}(h:a.lt b)(d:b.lt c):a.lt c:=HO h d
def FX{L M}{x:It}:Vt (L++x::M)↔Vt L/\Vt M/\(∀y∈L,y.lt x)/\(∀y∈M,x.lt y):=by
 unfold Vt;rw[bM,B5];constructor
 .rintro⟨g,⟨f,d⟩,c⟩;exact⟨g,d,λy i=>c y i x σ,f⟩
 .rintro⟨g,f,d,c⟩;refine⟨g,⟨c,f⟩,λa h b e=>?_⟩;rcases QG.1 e with rfl|e
  .exact d a h
  .exact It.lt_trans (d a h) (c b e)
def CP(a:Nat)(i:Int)(x:It):Bool:=x.ka==a&&x.ki==i
def YY(a:Nat)(i:Int)(L:List It):Option It:=L.find? (CP a i)
def Yy(x:It):List It->List It
 | []=>[x]
 | y::r=>if y.lt x then y::Yy x r else x::y::r
def XQ(a:Nat)(i:Int)(L:List It):List It:=L.filter λx=>!CP a i x
def yg{a}{i}{x:It}:CP a i x=true↔x.ka=a/\x.ki=i:=by simp[CP]
def QgG(a)(i)(L M)(x)(m:Vt (L++x::M)):
  YY a i (L++x::M)=if x.ka=a/\x.ki=i then some x else if KG x.ka x.ki a i then YY a i M else YY a i L:=by
 obtain⟨_,_,o,n⟩:=FX.1 m;unfold YY;rw[List.find?_append,vg];have k:(x.ka=a/\x.ki=i)\/KG x.ka x.ki a i->L.find? (CP a i)=none:=λh=>by
  rw[vh];intro y f d;obtain⟨j,g⟩:=yg.1 d;have b:KG y.ka y.ki x.ka x.ki:=o y f;rw[j,g]at b;rcases h with ⟨rfl,rfl⟩|h
  .exact CO _ _ b
  .exact CO _ _ (HO h b)
 have l:KG a i x.ka x.ki->M.find? (CP a i)=none:=λh=>by
  rw[vh];intro y f d;obtain⟨j,g⟩:=yg.1 d;have b:KG x.ka x.ki y.ka y.ki:=n y f;rw[j,g]at b;exact CO _ _ (HO h b)
 by_cases c:x.ka=a/\x.ki=i
 .rw[Qf c,yg.2 c,k (.inl c)];rfl
 .have d:CP a i x=false:=by rw[jW];exact λh=>c (yg.1 h)
  rw[Qe c,d];by_cases e:KG x.ka x.ki a i
  .rw[Qf e,k (.inr e)];rfl
  .rw[Qe e,l (by rcases Pm x.ka x.ki a i with h|h|h;exact absurd h e;exact absurd h c;exact h)];simp
def Qu2(y:It)(L M)(x:It)(d:Vt (L++x::M))(e:¬ (x.ka=y.ka/\x.ki=y.ki)):
  Yy y (L++x::M)=if x.lt y then L++x::Yy y M else Yy y L++x::M:=by
 obtain⟨_,_,a,f⟩:=FX.1 d;by_cases h:x.lt y
 .rw[Qf h];have:∀l:List It,(∀z∈l,z.lt y)->Yy y (l++x::M)=l++x::Yy y M:=by
   intro l a;induction l with
   | nil=>simp only[Yr,Yy,Qf h]
   | cons z l b=>simp only[YG,Yy,Qf (a z σ),b λw c=>a w (by simp[c])]
  exact this L λz hz=>It.lt_trans (a z hz) h
 .rw[Qe h];have:∀l:List It,Yy y (l++x::M)=Yy y l++x::M:=by
   intro l;induction l with
   | nil=>simp only[Yr,Yy,Qe h,YG]
   | cons z l b=>
    simp only[YG,Yy];split
    .rw[b,YG]
    .simp only[YG]
  exact this L
def QgH(a)(i)(L M)(x)(n:Vt (L++x::M)):
  XQ a i (L++x::M)=if x.ka=a/\x.ki=i then L++M else if KG x.ka x.ki a i then L++x::XQ a i M else XQ a i L++x::M:=by
 obtain⟨_,_,p,o⟩:=FX.1 n;have keep:∀l:List It,(∀y∈l,¬ (y.ka=a/\y.ki=i))->XQ a i l=l:=λl h=>by
  unfold XQ;rw[AP];intro y e;have:=h y e;rw[jl,jW];exact λd=>this (yg.1 d)
 have j:XQ a i (L++x::M)=XQ a i L++XQ a i (x::M):=by unfold XQ;rw[Se]
 have m:(x.ka=a/\x.ki=i)\/KG x.ka x.ki a i->XQ a i L=L:=λh=>keep L λy e ⟨g,f⟩=>by
  have b:KG y.ka y.ki x.ka x.ki:=p y e;rw[g,f]at b;rcases h with ⟨rfl,rfl⟩|h
  .exact CO _ _ b
  .exact CO _ _ (HO h b)
 have k:(x.ka=a/\x.ki=i)\/KG a i x.ka x.ki->XQ a i M=M:=λh=>keep M λy e ⟨g,f⟩=>by
  have b:KG x.ka x.ki y.ka y.ki:=o y e;rw[g,f]at b;rcases h with ⟨rfl,rfl⟩|h
  .exact CO _ _ b
  .exact CO _ _ (HO h b)
 rw[j];by_cases c:x.ka=a/\x.ki=i
 .have hx:XQ a i (x::M)=XQ a i M:=by unfold XQ;rw[xD,yg.2 c];rfl
  rw[Qf c,m (.inl c),hx,k (.inl c)]
 .have q:CP a i x=false:=by rw[jW];exact λh=>c (yg.1 h)
  have hx:XQ a i (x::M)=x::XQ a i M:=by unfold XQ;rw[xD,q];rfl
  rw[Qe c,hx];by_cases d:KG x.ka x.ki a i
  .rw[Qf d,m (.inr d)]
  .rw[Qe d,k (.inr (by rcases Pm x.ka x.ki a i with h|h|h;exact absurd h d;exact absurd h c;exact h))]
def HP{y x}:∀{L:List It},x∈Yy y L↔x=y\/x∈L
 | []=>by simp[Yy]
 | z::L=>by
  simp only[Yy];split
  .rw[QG,HP,QG];grind
  .rw[QG]
def r5{y:It}:∀{L:List It},Vt L->YY y.ka y.ki L=none->Vt (Yy y L)
 | [],_,_=>by simp[Yy,Vt]
 | z::L,d,a=>by
  obtain⟨e,g⟩:=B5.1 d;unfold YY at a;rw[vg]at a;cases b:CP y.ka y.ki z with
  | true=>rw[b]at a;cases a
  | false=>
   rw[b]at a;have i:¬ (z.ka=y.ka/\z.ki=y.ki):=λh=>by rw[yg.2 h]at b;cases b
   simp only[Yy];split
   .rename_i c;refine B5.2 ⟨λw hw=>?_,r5 g a⟩;rcases HP.1 hw with rfl|hw
    .exact c
    .exact e w hw
   .rename_i c;have f:y.lt z:=by
     rcases Pm z.ka z.ki y.ka y.ki with h|h|h
     .exact absurd h c
     .exact absurd h i
     .exact h
    refine B5.2 ⟨λw hw=>?_,d⟩;rcases QG.1 hw with rfl|hw
    .exact f
    .exact It.lt_trans f (e w hw)
def Qu4{a}{i}{L}(h:Vt L):Vt (XQ a i L):=NN _ h
def Tr.CQ(a:Nat)(i:Int)(f:Tr->List It):Tr->List It
 | .nil=>f .nil
 | .node c b l r=>if b.ka=a/\b.ki=i then f (.node c b l r) else if KG b.ka b.ki a i then l.list++b::r.CQ a i f else l.CQ a i f++b::r.list
def r6{y:It}{f}(e:f .nil=[y]):∀(t:Tr),Vt t.list->YY y.ka y.ki t.list=none->t.CQ y.ka y.ki f=Yy y t.list
 | .nil,_,_=>e
 | .node j b l r,c,a=>by
  obtain⟨i,h,_,_⟩:=FX.1 c;simp only[Tr.list]at c a ⊢;rw[QgG _ _ _ _ _ c]at a;rw[Tr.CQ];by_cases g:b.ka=y.ka/\b.ki=y.ki
  .rw[Qf g]at a;cases a
  .rw[Qe g]at a ⊢;rw[Qu2 y _ _ _ c g];by_cases d:KG b.ka b.ki y.ka y.ki
   .rw[Qf d]at a ⊢;rw[Qf (show b.lt y from d),r6 e r h a]
   .rw[Qe d]at a ⊢;rw[Qe (show ¬ b.lt y from d),r6 e l i a]
def Tr.Mw:Tr->List It
 | .nil=>[]
 | .node _ _ l r=>l.list++r.list
def gN{a}{i}:∀(t:Tr),Vt t.list->t.CQ a i Tr.Mw=XQ a i t.list
 | .nil,_=>rfl
 | .node h b l r,e=>by
  obtain⟨g,f,_,_⟩:=FX.1 e;simp only[Tr.list]at e ⊢;rw[QgH _ _ _ _ _ e,Tr.CQ];by_cases d:b.ka=a/\b.ki=i
  .rw[Qf d,Qf d];rfl
  .rw[Qe d,Qe d];by_cases c:KG b.ka b.ki a i
   .rw[Qf c,Qf c,gN r f]
   .rw[Qe c,Qe c,gN l g]
def Tr.find(a:Nat)(i:Int):Tr->Tr
 | .nil=>.nil
 | .node c b l r=>if b.ka=a/\b.ki=i then .node c b l r else if KG b.ka b.ki a i then r.find a i else l.find a i
def Tr.item:Tr->Option It
 | .nil=>none
 | .node _ a _ _=>some a
def Tr.TW{a}{i:Int}:∀(t:Tr),Vt t.list->(t.find a i).item=YY a i t.list
 | .nil,_=>rfl
 | .node h b l r,e=>by
  obtain⟨g,f,_,_⟩:=FX.1 e;simp only[Tr.list]at e ⊢;rw[QgG _ _ _ _ _ e,Tr.find];by_cases d:b.ka=a/\b.ki=i
  .rw[Qf d,Qf d];rfl
  .rw[Qe d,Qe d];by_cases c:KG b.ka b.ki a i
   .rw[Qf c,Qf c,Tr.TW r f]
   .rw[Qe c,Qe c,Tr.TW l g]
def Tr.hasB(e:Nat):Tr->Bool
 | .nil=>false
 | .node a b c d=>decide ((Tr.node a b c d).least.va<=e)
def V0.va{x y:It}{L}(h:V0 x L)(a:y∈L):x.va<=y.va:=by
 have:=h.le y a;unfold It.qA KG at this;omega
def Tr.TX(e):∀t:Tr,t.hasB e=true↔∃x∈t.list,x.va<=e
 | .nil=>by simp[Tr.hasB,Tr.list]
 | .node a b c d=>by
  have h:=Tr.Pn (.node a b c d) σ;simp only[Tr.hasB,Xd];constructor
  .intro g;exact⟨_,h.mem,g⟩
  .rintro⟨x,hx,f⟩;exact JL (h.va hx) f
def Tr.first(a:Nat):Tr->Option It
 | .nil=>none
 | .node _ b l r=>if l.hasB a then l.first a else if b.va<=a then some b else r.first a
def Tr.gO(a):∀t:Tr,t.first a=t.list.find? λx=>decide (x.va<=a)
 | .nil=>rfl
 | .node _ d l r=>by
  simp only[Tr.first,Tr.list];rw[List.find?_append,vg];by_cases h:l.hasB a=true
  .rw[Qf h,Tr.gO a l];obtain⟨x,hx,c⟩:=(Tr.TX a l).1 h;cases f:l.list.find? λx=>decide (x.va<=a) with
   | some y=>rfl
   | none=>exact absurd c (by simpa using vh.1 f x hx)
  .rw[Qe h,Tr.gO a r];have e:l.list.find? (λx=>decide (x.va<=a))=none:=by
    rw[vh];intro x hx c;exact h ((Tr.TX a l).2 ⟨x,hx,by simpa using c⟩)
   rw[e,Option.none_or];by_cases b:d.va<=a
   .rw[Qf b,Q1 b]
   .rw[Qe b,QU b]
def Tr.FY:Tr->It
 | .nil=>default
 | .node _ e l _=>match l with
  | .nil=>e
  | .node a b c d=>Tr.FY (.node a b c d)
def Tr.r7:∀t:Tr,t≠.nil->t.list.head? = some t.FY
 | .nil,h=>absurd rfl h
 | .node _ e .nil r,_=>rfl
 | .node _ e (.node a b c d) r,_=>by
  have:=Tr.r7 (.node a b c d) σ;simp only[Tr.list,Tr.FY,List.head?_append]at this ⊢;rw[this];rfl
def zW(o:Option It)(i:It):Option It:=match o with
 | none=>some i
 | some a=>some (kB a i)
def Tr.jA(e:Nat):Tr->Option It->Option It
 | .nil,o=>o
 | .node _ f l r,o=>if e<f.ka then l.jA e o else r.jA e (match l with
  | .nil=>zW o f
  | .node a b c d=>zW (zW o f) (Tr.node a b c d).least)
def Ae(o:Option It)(L:List It):Prop:=match o with
 | none=>L=[]
 | some x=>V0 x L
def Ae.take{o}{L}(h:Ae o L){i}{M}(b:V0 i M):Ae (zW o i) (L++M):=by
 cases o with
 | none=>simp only[Ae]at h;subst h;exact b
 | some a=>exact V0.join h b
def Ae.perm{o}{L M}(h:Ae o L)(e:∀y,y∈M↔y∈L):Ae o M:=by
 cases o with
 | none=>
  simp only[Ae]at h ⊢;subst h;exact nT.2 λy b=>by simpa using (e y).1 b
 | some a=>exact V0.perm h e
def Tr.TY(e):∀(t:Tr) (o:Option It) (T:List It),Vt t.list->Ae o T->Ae (t.jA e o) (T++t.list.filter λx=>decide (x.ka<=e))
 | .nil,o,T,_,h=>by simpa[Tr.jA,Tr.list] using h
 | .node _ g l r,o,T,m,h=>by
  obtain⟨k,i,q,n⟩:=FX.1 (show Vt (l.list++g::r.list) from m);have f:∀{x y:It},x.lt y->x.ka<=y.ka:=λh=>by
   have h:KG _ _ _ _:=h;unfold KG at h;omega
  simp only[Tr.jA,Tr.list,Se,xD];by_cases j:e<g.ka
  .rw[Qf j,QU ω];have p:r.list.filter (λx=>decide (x.ka<=e))=[]:=by
    rw[List.filter_eq_nil_iff];intro x hx;have:=f (n x hx);simp;omega
   rw[p];have:=Tr.TY e l o T k h;simpa using this
  .rw[Qe j,Q1 ω];have s:l.list.filter (λx=>decide (x.ka<=e))=l.list:=by
    rw[AP];intro x hx;have:=f (q x hx);simp;omega
   rw[s];cases l with
   | nil=>
    have:=Tr.TY e r _ _ i (h.take (V0.one g));simpa[Tr.list] using this
   | node a b c d=>
    have:=Tr.TY e r _ _ i ((h.take (V0.one g)).take (Tr.Pn (.node a b c d) σ));refine this.perm λy=>?_;simp only[Tr.list,QX,QG,Xq,JI,VB];grind
end Go.Fg.X
