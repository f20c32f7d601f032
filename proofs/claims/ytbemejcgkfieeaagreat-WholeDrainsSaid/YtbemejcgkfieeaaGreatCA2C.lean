/- Contracts and laws on the way to the statement. No conditions. -/
import Derived.Test.YtbemejcgkfieeaaGreatFgTellC
import Derived.Test.YtbemejcgkfieeaaGreatProg
import Derived.KernelRfl
import Derived.Deep.Slices
import Derived.ChangeArms
import Derived.OpenShut
import Derived.ProofKit
import Derived.ChangeOld
import Derived.Below
import Derived.WideShapes
import Derived.Laws.BytesString
import Derived.LoopN
import Derived.Shelf.Sort.Plain
import Derived.Shelf.Slices.In.SortNone
import Derived.Lib.SortBridge
import Derived.Laws.BitsAllLaws
set_option maxRecDepth 100000
set_option maxHeartbeats 16000000
set_option linter.unusedVariables false
set_option linter.unusedSimpArgs false
set_option linter.unusedSectionVars false
set_option linter.defProp false
namespace Go.Fg
open Go.RowKit (Below)
variable {Z:Nat->Prop}
def QC.DE{h M:List Ob}{K}{w}(m:∀(l:Nat) (o:Ob),h[l]? = some o->∃c,M[l]? = some c/\c.gen=o.gen/\c.sz=o.sz/\c.kd.ty=o.kd.ty){d}{v}(r:QC Z h K w d v):QC Z M K w d v:=by
 induction r with
 | cl d v O=>exact .cl d v O
 | ref l g H I o p a J u t y z s=>
  obtain⟨c,C,k,F,B⟩:=m l o u;exact .ref l g H I c p a J C t (by rw[B];exact y) (by rw[k];exact z) (λe=>by rw[F];exact s (by rw[e,k]))
 | ptr l g i j o p a u t y z s=>
  obtain⟨c,C,k,F,B⟩:=m l o u;exact .ptr l g i j c p a C t (by rw[B];exact y) (by rw[k];exact z) (λe=>by rw[F];exact s (by rw[e,k]))
 | mref l g o p b u t y z s=>
  obtain⟨c,C,k,F,B⟩:=m l o u;exact .mref l g c p b C t (by rw[B];exact y) (by rw[k];exact z) (λe=>s (by rw[e,k]))
 | clo f N E n x L q=>exact .clo f N E n x q
 | agg E n x L q=>exact .agg E n x q
 | tup E n x L q=>exact .tup E n x q
def Z3{h:List Ob}{l:Nat}{o:Ob}(e:h[l]? = some o):(h.map Ob.ro)[l]? = some o.ro:=by rw[KP,e];rfl
def Hg{h:List Ob}{l:Nat}{o:Ob}(e:(h.map Ob.ro)[l]? = some o):∃a,h[l]? = some a/\o=a.ro:=by
 rw[KP,X3]at e;obtain⟨a,c,b⟩:=e;exact⟨a,c,b.symm⟩
@[go_sem] theorem QF7(k:Kd)(g z n)(r):Ob.ro ⟨k,g,z,n,r⟩=⟨k.toRo,g,z,n,r⟩:=rfl
theorem ro_ro(o:Ob):o.ro.ro=o.ro:=by
 obtain⟨k,g,z,n,r⟩:=o;cases k<;>rfl
def Xf(P:Program)(f:FuncId)(h:List Ob)(a:List D)(R:D->List Ob->Prop):Prop:=
 QM P f (h.map Ob.ro) a λd b=>∃g,b=h.map Ob.ro++g/\R d g
def Xf.mono{P}{f}{h}{a}{R b}(e:Xf P f h a R)(c:∀d g,R d g->b d g):Xf P f h a b:=QM.mono e λ_ _ ⟨g,j,i⟩=>⟨g,j,c _ _ i⟩
section
variable {P:Program}{base nt:Nat}{w0:Start}{Q:Exit->St->Prop}
def QdA(W:base<=w0.w.heap.size){o:Oper}{s}{x}{c}{V:Array TypeId}{f}{l}{u}(J:Qn P f)(H:o.op=.call ⟨.value x,c,V⟩)
  (E:JF (Qq s.fr x)=some (f,l,u)) {R:D->List Ob->Prop} (S:QM P f s.h (Z6 l u (c.toList.map (Qq s.fr))) R)
  (n:Zn nt o.dst=true) (g:List Pl) (a:Act) (w:World) (r:Rel Z base nt s g a w) (b:Vg Z base w0 s.h g w) (Y:Exit->Act->World->Prop) :
  o.wp P a w (λq k=>∃d h j,R d h/\Rel Z base nt ⟨Zg s.fr o.dst d,h⟩ j q k/\Vg Z base w0 h j k/\Tr s.h g w h j k/\∃v,q=a.put o.dst v) Y:=by
 obtain⟨B,F,z,EZ⟩:=Sn (r.eval x) E;have y:base<=w.heap.size:=Kv W b.1.size;obtain⟨C,Kr⟩:=Sq (r:=λd v=>QC Z s.h g w d v) (nf:=l) z EZ (us:=c.toList.map a.eval) (args:=c.toList.map (Qq s.fr)) σ (λi I=>by
  have JB:i<c.toList.length:=by simpa using I
  simp only[nth,Q7,QY,KP];rw[QG JB];exact r.eval _)
 have M:=S Z base w g (Z6 l B (c.toList.map a.eval)) y b.2.2.new r.o C Kr;unfold Oper.wp;rw[Sr J H F w];simp only[Oper.upon_enter];refine M.mono λe k K=>?_;obtain⟨v,d,U,j,rfl,O,p,N,m,T⟩:=K;refine⟨d,U,j,O,?_,b.step m T,m,v,rfl⟩;cases L:o.dst with
 | none=>exact r.Av m p v
 | some t=>rw[L]at n;exact r.to m p (kZ n) N
def V5(L:base<=w0.w.heap.size){k}{e}{o:TypeId}{pos}{g}{F}{r}{s}{x}{c}{J:Array TypeId}{f}{i}{m}(y:Qn P f)
  (u:JF (Qq s.fr x)=some (f,i,m)) {l:List D} (B:KC (Z6 i m (c.toList.map (Qq s.fr))) l)
  {R:D->List Ob->Prop} (E:QM P f s.h l R) (v:Zn nt e=true) (j:∀d h,R d h->Qw P base nt w0 Q (.ops r::k) .normal ⟨Zg s.fr e d,h⟩) :
  Qw P base nt w0 Q (.ops ((⟨e,.call ⟨.value x,c,J⟩,o,pos,g,F⟩,none)::r)::k) .normal s:=by
 simp only[Qw]at j ⊢;intro Z z t a w p b;simp only[qk,XA,Vp];exact Oper.wp_mono (λI n ⟨d,h,K,C,q,H,_⟩=>j d h C Z z K I n q H) (QdA L y rfl u (E.args B) v t a w p b _)
def QdB(Q5:base<=w0.w.heap.size){o:Oper}{s}{x}{k}{Zq:Array TypeId}{f}{I}{Qv}(hf:Qn P f)(h:o.op=.call ⟨.value x,k,Zq⟩)
  (hx:JF (Qq s.fr x)=some (f,I,Qv)) {R:D->List Ob->Prop} (hF:Xf P f s.h (Z6 I Qv (k.toList.map (Qq s.fr))) R)
  (Y:Zn nt o.dst=true) (y:List Pl) (a:Act) (w:World) (r:Rel Z base nt s y a w) (b:Vg Z base w0 s.h y w) (Q':Exit->Act->World->Prop) :
  o.wp P a w (λa' E=>Ext w E/\∃d g B,R d g/\Rel Z base nt ⟨Zg s.fr o.dst d,s.h++g⟩ B a' E/\Vg Z base w0 (s.h++g) B E/\Tr s.h y w (s.h++g) B E/\∃v,a'=a.put o.dst v) Q':=by
 obtain⟨vs,hv,wx,EZ⟩:=Sn (r.eval x) hx;have S:base<=w.heap.size:=Kv Q5 b.1.size;obtain⟨q1,Kr⟩:=Sq (r:=λd v=>QC Z s.h y w d v) (nf:=I) wx EZ (us:=k.toList.map a.eval) (args:=k.toList.map (Qq s.fr)) σ (λi L=>by
  have JB:i<k.toList.length:=by simpa using L
  simp only[nth,Q7,QY,KP];rw[QG JB];exact r.eval _)
 have W:∀(l:Nat) (o:Ob),s.h[l]? = some o->∃n,(s.h.map Ob.ro)[l]? = some n/\n.gen=o.gen/\n.sz=o.sz/\n.kd.ty=o.kd.ty:=λl o e=>⟨o.ro,Z3 e,rfl,rfl,Kd.toRo_ty _⟩;have SM:Zl Z w.heap.size (s.h.map Ob.ro) y w:=by
  refine⟨by simp[r.o.len],r.o.inj,λl o h u=>?_,λl o b q h u=>?_⟩
  .obtain⟨n,C,rfl⟩:=Hg h;exact r.o.V0 l n C u
  .obtain⟨n,C,rfl⟩:=Hg h;obtain⟨_,x⟩:=r.o.at_ l n b q C u;exact⟨λz=>(by rw[cK,Kd.toRo_ro]at z;cases z),x.to (Kd.toRo_ty _) rfl rfl rfl (λ_ _=>rfl) λi j v _ _ z=>z.DE W⟩
 have M:=hF Z w.heap.size w y (Z6 I vs (k.toList.map a.eval)) (QB _) b.2.2.new SM q1 (λi L=>(Kr i L).DE W);unfold Oper.wp;rw[Sr hf h hv w];simp only[Oper.upon_enter];refine M.mono λe E he=>?_;obtain⟨v,d,_,B,rfl,⟨g,rfl,hR⟩,F,hV,hT,J⟩:=he;have O:∀(l:Nat) (p:Pl),l<s.h.length->B[l]? = some p->y[l]? = some p:=λl p m e=>by
  have H:l<y.length:=by rw[r.o.len];exact m
  obtain⟨n,p',e1,K,_,_,e3⟩:=hT.obj l _ _ (Z3 (QG m)) (QG H);rw[JO (by simpa using m),Z3 (QG m)]at e1;cases e1;obtain⟨_,e4⟩:=e3 rfl;rw[e]at K;cases K;rw[e4];exact QG H
 have oH:∀(l:Nat) (p:Pl),l<s.h.length->y[l]? = some p->B[l]? = some p:=λl p m e=>by
  have H:l<B.length:=by have:=F.len;simp at this;omega
  have C:=O l _ m (QG H);rw[e]at C;cases C;exact QG H
 have T:Tr s.h y w (s.h++g) B E:=by
  refine⟨hT.Ko,λl o p h u=>⟨o,p,by rw[JO (KA h)];exact h,oH l p (KA h) u,QB _,rfl,λ_=>⟨rfl,rfl⟩⟩,λl o n b q h ZM hg u c el M=>⟨c,?_,rfl⟩⟩;rw[J.block b (r.o.lt u).1];exact M
 have V:∀(l:Nat) (o:Ob),(s.h.map Ob.ro++g)[l]? = some o->∃n,(s.h++g)[l]? = some n/\n.gen=o.gen/\n.sz=o.sz/\n.kd.ty=o.kd.ty:=λl o e=>by
  by_cases m:l<s.h.length
  .rw[JO (by simpa using m)]at e;obtain⟨n,C,rfl⟩:=Hg e;exact⟨n,by rw[JO m];exact C,rfl,rfl,(Kd.toRo_ty _).symm⟩
  .rw[Kh (by simpa using m)]at e;exact⟨o,by rw[Kh ω];simpa using e,rfl,rfl,rfl⟩
 have AQ:Zl Z base (s.h++g) B E:=by
  refine⟨by have:=F.len;simpa using this,F.inj,λl o h u=>?_,λl o b q h u=>?_⟩
  .by_cases m:l<s.h.length
   .rw[JO m]at h;exact r.o.V0 l o h (O l _ m u)
   .refine F.V0 l o ?_ u;rw[Kh ω]at h;rw[Kh (by simpa using m)];simpa using h
  .by_cases m:l<s.h.length
   .rw[JO m]at h;have U:=O l _ m u;obtain⟨N,x⟩:=r.o.at_ l o b q h U;exact⟨N,x.to rfl rfl rfl (J.block b (r.o.lt U).1) (λ_ _=>rfl) λi j v _ _ z=>z.tr T⟩
   .have K:(s.h.map Ob.ro++g)[l]? = some o:=by
     rw[Kh ω]at h;rw[Kh (by simpa using m)];simpa using h
    obtain⟨N,x⟩:=F.at_ l o b q K u;exact⟨λz=>Kv S (N z),x.to rfl rfl rfl rfl (λ_ _=>rfl) λi j v _ _ z=>z.DE V⟩
 refine⟨λb hb=>J.block b hb,d,g,B,hR,?_,b.step T (J.mono S),T,v,rfl⟩;cases hd:o.dst with
 | none=>exact r.Av T AQ v
 | some t=>rw[hd]at Y;exact r.to T AQ (kZ Y) (hV.DE V)
def Xf.args{f}{h}{a b}{R}(c:Xf P f h b R)(e:KC a b):Xf P f h a R:=QM.args c e
def Hh(M:base<=w0.w.heap.size){k}{e}{p:TypeId}{pos}{i}{H}{r}{s}{x}{c}{K:Array TypeId}{f}{j}{n}(B:Qn P f)
  (v:JF (Qq s.fr x)=some (f,j,n)) {m:List D} (C:KC (Z6 j n (c.toList.map (Qq s.fr))) m)
  {R:D->List Ob->Prop} (F:Xf P f s.h m R) (y:Zn nt e=true) (l:∀d g,R d g->Qw P base nt w0 Q (.ops r::k) .normal ⟨Zg s.fr e d,s.h++g⟩) :
  Qw P base nt w0 Q (.ops ((⟨e,.call ⟨.value x,c,K⟩,p,pos,i,H⟩,none)::r)::k) .normal s:=by
 simp only[Qw]at l ⊢;intro Z z u a w q b;simp only[qk,XA,Vp];exact Oper.wp_mono (λJ o ⟨_,d,h,L,E,t,I,_⟩=>l d h E Z z L J o t I) (QdB M B rfl v (F.args C) y u a w q b _)
def SN(M:base<=w0.w.heap.size){K}{h}{m:TypeId}{pos}{i}{H}{r}{s}{x}{c}{J:Array TypeId}{f}{j}{l}(y:Qn P f)
  (q:JF (Qq s.fr x)=some (f,j,l)) {k:List D} (B:KC (Z6 j l (c.toList.map (Qq s.fr))) k) {R:D->List Ob->Prop} (E:Xf P f s.h k R)
  (t:Zn nt h=true) (u:∀d g,R d g->AX P base nt w0 K r ⟨Zg s.fr h d,s.h++g⟩) :
  AX P base nt w0 K ((false,⟨h,.call ⟨.value x,c,J⟩,m,pos,i,H⟩,none)::r) s:=by
 simp only[AX,Xq,qV];intro Z z p a w n b;exact Oper.wp_mono (λO N ⟨F,d,g,L,C,o,I,T,v,e⟩=>⟨λ_=>F,_,_,L,v,u d g C,o,I,T,e⟩) (QdB M y rfl q (E.args B) t p a w n b _)
def Qpb(N:base<=w0.w.heap.size){k}{d}{n:TypeId}{pos}{f}{C}{r}{s}{x}{li l c}{es}{seen}{q}
  (H:Qq s.fr x=.mref li 0) (M:s.h[li]? = some (Yv l c c seen)) {kd:Kd} (R:kd.ty=1) (L:s.h[l]? = some (Wr kd q c es)) (p:Zn nt d=true)
  (y:(∀e∈es,e.b∈seen)->Qw P base nt w0 Q (.ops r::k) .normal ⟨Zg s.fr d (.tup [.raw (.bool false)]),s.h⟩)
  (u:∀e∈es,e.b ∉ seen->Qw P base nt w0 Q (.ops r::k) .normal ⟨Zg s.fr d (.tup [.raw (.bool true),.raw (.int q e.k),e.v]),s.h.set li (Yv l c c (seen++[e.b]))⟩) :
  Qw P base nt w0 Q (.ops ((⟨d,.next x false,n,pos,f,C⟩,none)::r)::k) .normal s:=by
 simp only[Qw]at y u ⊢;intro Z z h a w g b;have E:base<=w.heap.size:=Kv N b.1.size;simp only[qk,XA,Vp];unfold Oper.wp;rcases QnI (o:=⟨d,.next x false,n,pos,f,C⟩) rfl g E H M R L with ⟨m,j⟩|⟨e,K,m,v,F,j,T,O,V,B⟩
 .rw[j];simp only[Oper.upon_value];refine y m Z z h _ w ?_ b;have I:QC Z s.h h w (.tup [.raw (.bool false)]) (.tuple #[.bool false]):=.tup _ [.bool false] rfl λi J=>match i,J with
   | 0,_=>.cl _ _ (.raw _)
  cases d with
  | none=>exact g.Av (Tr.refl _ _ _) g.o _
  | some t=>exact g.to (Tr.refl _ _ _) g.o (kZ p) I
 .rw[j];simp only[Oper.upon_value];refine u e K m Z z h _ F ?_ (b.step T B);cases d with
  | none=>exact g.Av T O _
  | some t=>exact g.to T O (kZ p) V
end
def Zi(P:Program)(f:FuncId)(h:List Ob)(a:List D)(R:D->Prop):Prop:=Xf P f h a λd _=>d.upto h.length=true/\R d
def Zi.mono{P}{f}{h:List Ob}{a}{R b}(e:Zi P f h a R)(c:∀d,R d->b d):Zi P f h a b:=Xf.mono e λ_ _ h=>⟨h.1,c _ h.2⟩
def Zi.args{P}{f}{h}{a b}{R}(c:Zi P f h b R)(e:KC a b):Zi P f h a R:=Xf.args c e
section
variable {P:Program}{base nt:Nat}{w0:Start}{Q:Exit->St->Prop}
def QdC(Q5:base<=w0.w.heap.size){o:Oper}{s}{x}{c}{Zq:Array TypeId}{f}{z}{O}(hf:Qn P f)(u:o.op=.call ⟨.value x,c,Zq⟩)
  (hx:JF (Qq s.fr x)=some (f,z,O)) {R:D->Prop} (hF:Zi P f s.h (Z6 z O (c.toList.map (Qq s.fr))) R)
  (K:Zn nt o.dst=true) (k:List Pl) (a:Act) (w:World) (r:Rel Z base nt s k a w) (b:Vg Z base w0 s.h k w) (Q':Exit->Act->World->Prop) :
  o.wp P a w (λM p=>Ext w p/\∃d,R d/\Rel Z base nt ⟨Zg s.fr o.dst d,s.h⟩ k M p/\Vg Z base w0 s.h k p/\Tr s.h k w s.h k p/\∃v,M=a.put o.dst v) Q':=by
 obtain⟨U,hv,T,EZ⟩:=Sn (r.eval x) hx;have S:base<=w.heap.size:=Kv Q5 b.1.size;obtain⟨V,Kr⟩:=Sq (r:=λd v=>QC Z s.h k w d v) (nf:=z) T EZ (us:=c.toList.map a.eval) (args:=c.toList.map (Qq s.fr)) σ (λi m=>by
  have JB:i<c.toList.length:=by simpa using m
  simp only[nth,Q7,QY,KP];rw[QG JB];exact r.eval _)
 have J:∀(l:Nat) (o:Ob),s.h[l]? = some o->∃h,(s.h.map Ob.ro)[l]? = some h/\h.gen=o.gen/\h.sz=o.sz/\h.kd.ty=o.kd.ty:=λl o e=>⟨o.ro,Z3 e,rfl,rfl,Kd.toRo_ty _⟩;have k3:∀(g:List Ob) (l:Nat) (o:Ob),(s.h.map Ob.ro++g)[l]? = some o->∃h,(s.h++g)[l]? = some h/\h.gen=o.gen/\h.sz=o.sz/\h.kd.ty=o.kd.ty:=λg l o e=>by
  by_cases E:l<s.h.length
  .rw[JO (by simpa using E)]at e;obtain⟨h,n,rfl⟩:=Hg e;exact⟨h,by rw[JO E];exact n,rfl,rfl,(Kd.toRo_ty _).symm⟩
  .rw[Kh (by simpa using E)]at e;exact⟨o,by rw[Kh ω];simpa using e,rfl,rfl,rfl⟩
 have SM:Zl Z w.heap.size (s.h.map Ob.ro) k w:=by
  refine⟨by simp[r.o.len],r.o.inj,λl o u C=>?_,λl o b q u C=>?_⟩
  .obtain⟨h,n,rfl⟩:=Hg u;exact r.o.V0 l h n C
  .obtain⟨h,n,rfl⟩:=Hg u;obtain⟨_,x⟩:=r.o.at_ l h b q n C;exact⟨λB=>(by rw[cK,Kd.toRo_ro]at B;cases B),x.to (Kd.toRo_ty _) rfl rfl rfl (λ_ _=>rfl) λi j v _ _ B=>B.DE J⟩
 have hc:=hF Z w.heap.size w k (Z6 z U (c.toList.map a.eval)) (QB _) b.2.2.new SM V (λi m=>(Kr i m).DE J);unfold Oper.wp;rw[Sr hf u hv w];simp only[Oper.upon_enter];refine hc.mono λe p he=>?_;obtain⟨v,d,_,Qj,rfl,⟨g,rfl,hu,hR⟩,hO,hV,hT,L⟩:=he;have F:Ext w p:=λb hb=>L.block b hb;have N:Tr s.h k w s.h k p:=Tr.ext r.o F;have B8:QC Z s.h k p d v:=by
  have n:=hV.take hu;have e1:(s.h.map Ob.ro++g).take s.h.length=s.h.map Ob.ro:=List.take_left' σ;have e2:Qj.take s.h.length=k:=by
   apply Am;intro i;rw[XK];by_cases m:i<s.h.length
   .rw[Qe m];have H:i<k.length:=by rw[r.o.len];exact m
    obtain⟨h,p',I,Y,_,_,W⟩:=hT.obj i _ _ (Z3 (QG m)) (QG H);rw[JO (by simpa using m),Z3 (QG m)]at I;cases I;obtain⟨_,rfl⟩:=W rfl;rw[Y,QG H]
   .rw[Qd m,Gz (by rw[r.o.len];omega)]
  rw[e1,e2]at n;exact n.DE λl o e=>by
   obtain⟨h,n,rfl⟩:=Hg e;exact⟨h,n,rfl,rfl,(Kd.toRo_ty _).symm⟩
 refine⟨F,d,hR,?_,b.step N (L.mono S),N,v,rfl⟩;have y:=r.ext F;cases hd:o.dst with
 | none=>exact y.Av (Tr.refl _ _ _) y.o v
 | some t=>rw[hd]at K;exact y.to (Tr.refl _ _ _) y.o (kZ K) B8
def XR(J:base<=w0.w.heap.size){k}{e}{o:TypeId}{pos}{g}{E}{r}{s}{x}{c}{I:Array TypeId}{f}{i}{m}(v:Qn P f)
  (t:JF (Qq s.fr x)=some (f,i,m)) {l:List D} (y:KC (Z6 i m (c.toList.map (Qq s.fr))) l)
  {R:D->Prop} (C:Zi P f s.h l R) (u:Zn nt e=true) (j:∀d,R d->Qw P base nt w0 Q (.ops r::k) .normal ⟨Zg s.fr e d,s.h⟩) :
  Qw P base nt w0 Q (.ops ((⟨e,.call ⟨.value x,c,I⟩,o,pos,g,E⟩,none)::r)::k) .normal s:=by
 simp only[Qw]at j ⊢;intro Z z h a w p b;simp only[qk,XA,Vp];exact Oper.wp_mono (λH n ⟨_,d,B,q,F,_⟩=>j d B Z z h H n q F) (QdC J v rfl t (C.args y) u h a w p b _)
def OA(J:base<=w0.w.heap.size){K}{g}{m:TypeId}{pos}{h}{F}{r}{s}{x}{c}{I:Array TypeId}{f}{j}{l}(u:Qn P f)
  (p:JF (Qq s.fr x)=some (f,j,l)) {k:List D} (y:KC (Z6 j l (c.toList.map (Qq s.fr))) k) {R:D->Prop} (C:Zi P f s.h k R)
  (q:Zn nt g=true) (t:∀d,R d->AX P base nt w0 K r ⟨Zg s.fr g d,s.h⟩) :
  AX P base nt w0 K ((false,⟨g,.call ⟨.value x,c,I⟩,m,pos,h,F⟩,none)::r) s:=by
 simp only[AX,Xq,qV];intro Z z i a w n b;exact Oper.wp_mono (λM L ⟨E,d,B,o,H,T,v,e⟩=>⟨λ_=>E,_,_,i,v,t d B,o,H,T,e⟩) (QdC J u rfl p (C.args y) q i a w n b _)
end
def Qc{h:List Ob}{l}{o}(e:h[l]? = some o):l<h.length:=KA e
def QE{h t:List Ob}{l}(a:l<h.length):(h++t)[l]? = h[l]? := JO a
def Vj{h t:List Ob}{n}(a:h.length=n):(h++t)[n]? = t[0]? := by rw[<- a,Kh (QB _),Df]
def VP{h t:List Ob}{n k}(a:h.length=n):(h++t)[n+k]? = t[k]? := by rw[<- a,Kh ω,bu]
def DF{h t:List Ob}{l}{o}(a:l<h.length):(h++t).set l o=h.set l o++t:=bn _ _ a
def eG{h t:List Ob}{n}{o}(a:h.length=n):(h++t).set n o=h++t.set 0 o:=by rw[<- a,NB _ _ (QB _),Df]
def Qpc{h t:List Ob}{n k}{o}(a:h.length=n):(h++t).set (n+k) o=h++t.set k o:=by rw[<- a,NB _ _ ω,bu]
def Qt{h:List Ob}{l}{o}(a:l<h.length):(h.set l o)[l]? = some o:=Xb a
def Ql{h:List Ob}{l m}{o}(a:l≠m):(h.set l o)[m]? = h[m]? := JP a
def Qpd{P:Program}{X}(r:qU P X){f}{e:Func}{c}(n)(q:P.funcs[f]? = some e)(k:e.body=some c){h}{b:List D}{R}{j}{l}(v:e.ntmps=j)(x:e.results=l)(o:Nat.ble b.length j=true)
  (p:∀(a:Nat) (w:World) (i:List Pl) (F:List Ob),F=h.map Ob.ro->F.length=h.length->a<=w.heap.size->hx P a ⟨w,F,i⟩ (AP X.L l.toList λd m=>∃g,m=F++g/\d.upto F.length=true/\R d) X j n [.code c] ⟨jV b 0,F⟩):Zi P f h b R:=
 (oz r n q k v x o λa w i k=>p a w i _ rfl σ k).mono λd m ⟨g,u,t,s⟩=>⟨g,u,by simpa using t,s⟩
def B9{P:Program}{X}(q:qU P X){f}{e:Func}{c}(n)(p:P.funcs[f]? = some e)(k:e.body=some c){h}{b:List D}{R}{j}{l}(s:e.ntmps=j)(t:e.results=l)(m:Nat.ble b.length j=true)
  (o:∀(a:Nat) (w:World) (i:List Pl) (F:List Ob),F=h.map Ob.ro->F.length=h.length->a<=w.heap.size->hx P a ⟨w,F,i⟩ (AP X.L l.toList λd r=>∃g,r=F++g/\R d g) X j n [.code c] ⟨jV b 0,F⟩):Xf P f h b R:=
 oz q n p k s t m λa w i k=>o a w i _ rfl σ k
attribute [go_sem] cX cY xv G0 cW Qch Qci Qcg QnL Qcj QnM QnN cR cS NY GV cU cV nJ Qb5 nI Qb4 Qb6 nK Qb7 Qnu Qnv Qnw Qnx cK Qny Qnz ro_ro Dj
def Qa:(∀{h t:List Ob} {l:Nat},l<h.length->(h++t)[l]? = h[l]?)/\(∀{h t:List Ob} {n:Nat},h.length=n->(h++t)[n]? = t[0]?)/\(∀{h t:List Ob} {n k:Nat},h.length=n->(h++t)[n+k]? = t[k]?)/\(∀{h t:List Ob} {l:Nat} {o:Ob},l<h.length->(h++t).set l o=h.set l o++t)/\(∀{h t:List Ob} {n:Nat} {o:Ob},h.length=n->(h++t).set n o=h++t.set 0 o)/\(∀{h t:List Ob} {n k:Nat} {o:Ob},h.length=n->(h++t).set (n+k) o=h++t.set k o)/\(∀{d:Type} {a b:List d},(a++b).length=a.length+b.length)/\(∀{d:Type} {i:Nat} {a:d} {l:List d},(l.set i a).length=l.length)/\(∀{d:Type} (a b c:List d),a++b++c=a++(b++c))/\(∀{d:Type} {a b:d} (l:List d) {i:Nat},(l.set i a).set i b=l.set i b):=
 ⟨QE,Vj,VP,DF,eG,Qpc,Zo,K0,W9,λ_=>JE _⟩
end Go.Fg
namespace Go.Fg.X
open Go.Proofs Go.Fg
open Go.Proofs.Tryz
@[go_sem] def zi:Value:=.int .i64 0
@[go_sem] def zu:Value:=.int .u64 0
@[go_sem] def zh:Value:=.int .u16 0
@[go_sem] def zb:Value:=.bool false
@[go_sem] def zp:Value:=.pointer none
@[go_sem] def zc:Value:=.int .u8 0
@[go_sem] def zs:Value:=.slice none 0 0
@[go_sem] def zm:Value:=.map none
@[go_sem] def Y1:Ty:=⟨.fn,1,8,[.nilFunc]⟩
@[go_sem] def Y2:Ty:=⟨.int .i64,1,8,[zi]⟩
@[go_sem] def Y4:Ty:=⟨.bool,1,1,[zb]⟩
@[go_sem] def Y5:Ty:=⟨.int .u8,1,1,[zc]⟩
@[go_sem] def Y9:Ty:=⟨.str,1,16,[.string ByteArray.empty]⟩
@[go_sem] def Hi:Ty:=⟨.int .u64,1,8,[zu]⟩
@[go_sem] def Y17:Ty:=⟨.ptr 410,1,8,[zp]⟩
@[go_sem] def Y20:Ty:=⟨.iface,1,16,[.nilIface]⟩
@[go_sem] def Y21:Ty:=⟨.int .i32,1,4,[.int .i32 0]⟩
@[go_sem] def OB:Ty:=⟨.struct [(0,3),(1,3)],2,16,[zi,zi]⟩
@[go_sem] def Y24:Ty:=⟨.slice 67,1,24,[zs]⟩
@[go_sem] def eI:Ty:=⟨.struct [(0,23),(2,24)],3,40,[zi,zi,zs]⟩
@[go_sem] def Y27:Ty:=⟨.slice 45,1,24,[zs]⟩
@[go_sem] def Y32:Ty:=⟨.slice 82,1,24,[zs]⟩
@[go_sem] def Y33:Ty:=⟨.slice 62,1,24,[zs]⟩
@[go_sem] def eJ:Ty:=⟨.struct [(0,32),(1,33)],2,48,[zs,zs]⟩
@[go_sem] def OC:Ty:=⟨.struct [(0,40),(1,40),(2,40)],3,24,[zu,zu,zu]⟩
@[go_sem] def eK:Ty:=⟨.struct [(0,3),(1,3),(2,4),(3,43),(6,43),(9,43),(12,3),(13,3)],14,112,[zi,zi,zb,zu,zu,zu,zu,zu,zu,zu,zu,zu,zi,zi]⟩
@[go_sem] def Y49:Ty:=⟨.slice 3,1,24,[zs]⟩
@[go_sem] def eL:Ty:=⟨.struct [(0,3),(1,4)],2,16,[zi,zb]⟩
@[go_sem] def Y56:Ty:=⟨.int .u16,1,2,[zh]⟩
@[go_sem] def eM:Ty:=⟨.array 4 56,4,8,[zh,zh,zh,zh]⟩
@[go_sem] def Y60:Ty:=⟨.struct [(0,40),(1,3),(2,58)],6,24,[zu,zi,zh,zh,zh,zh]⟩
@[go_sem] def eN:Ty:=⟨.struct [(0,3),(1,4),(2,4),(3,40),(4,40),(5,3),(6,60)],12,64,[zi,zb,zb,zu,zu,zi,zu,zi,zh,zh,zh,zh]⟩
@[go_sem] def Y64:Ty:=⟨.slice 75,1,24,[zs]⟩
@[go_sem] def Y65:Ty:=⟨.slice 77,1,24,[zs]⟩
@[go_sem] def Y67:Ty:=⟨.struct [(0,3),(1,64),(2,65),(3,60),(9,40)],10,88,[zi,zs,zs,zu,zi,zh,zh,zh,zh,zu]⟩
@[go_sem] def Y71:Ty:=⟨.struct [(0,27),(1,3),(2,3)],3,40,[zs,zi,zi]⟩
@[go_sem] def Y75:Ty:=⟨.struct [(0,3),(1,45)],15,120,[zi,zi,zi,zb,zu,zu,zu,zu,zu,zu,zu,zu,zu,zi,zi]⟩
@[go_sem] def eO:Ty:=⟨.struct [(0,58),(4,58),(8,3)],9,24,[zh,zh,zh,zh,zh,zh,zh,zh,zi]⟩
@[go_sem] def Y78:Ty:=⟨.ptr 117,1,8,[zp]⟩
@[go_sem] def eP:Ty:=⟨.struct [(0,36),(1,3),(2,3)],3,24,[zi,zi,zi]⟩
@[go_sem] def Y86:Ty:=⟨.slice 89,1,24,[zs]⟩
@[go_sem] def eQ:Ty:=⟨.struct [(0,40),(1,40),(2,3),(3,3),(4,4)],5,40,[zu,zu,zi,zi,zb]⟩
@[go_sem] def eR:Ty:=⟨.array 4 40,4,32,[zu,zu,zu,zu]⟩
@[go_sem] def eT:Ty:=⟨.struct [(0,27),(1,3)],2,32,[zs,zi]⟩
@[go_sem] def QdU:Ty:=⟨.slice 43,1,24,[zs]⟩
@[go_sem] def QdV:Ty:=⟨.ptr 146,1,8,[zp]⟩
@[go_sem] def QdW:Ty:=⟨.ptr 151,1,8,[zp]⟩
@[go_sem] def QdX:Ty:=⟨.ptr 155,1,8,[zp]⟩
@[go_sem] def QdY:Ty:=⟨.ptr 162,1,8,[zp]⟩
@[go_sem] def eU:Ty:=⟨.struct [(0,105),(1,108),(2,111),(3,114),(4,40),(5,3)],6,48,[zp,zp,zp,zp,zu,zi]⟩
@[go_sem] def eV:Ty:=⟨.struct [(0,40),(1,4)],2,16,[zu,zb]⟩
@[go_sem] def QdZ:Ty:=⟨.ptr 194,1,8,[zp]⟩
@[go_sem] def Qd0:Ty:=⟨.map 3 172,1,8,[zm]⟩
@[go_sem] def Qd1:Ty:=⟨.ptr 199,1,8,[zp]⟩
@[go_sem] def Qd2:Ty:=⟨.ptr 201,1,8,[zp]⟩
@[go_sem] def Qd3:Ty:=⟨.map 3 141,1,8,[zm]⟩
@[go_sem] def Qd4:Ty:=⟨.ptr 206,1,8,[zp]⟩
@[go_sem] def Qd5:Ty:=⟨.struct [(0,23),(2,136),(3,138),(4,144),(5,139),(6,143),(7,40),(8,40)],9,72,[zi,zi,zp,zm,zp,zp,zm,zu,zu]⟩
@[go_sem] def Qd6:Ty:=⟨.struct [(0,149),(3,3),(4,40)],5,40,[zu,zu,zu,zi,zu]⟩
@[go_sem] def Qd7:Ty:=⟨.map 58 3,1,8,[zm]⟩
@[go_sem] def Qd8:Ty:=⟨.struct [(0,65),(1,153),(2,49)],3,56,[zs,zm,zs]⟩
@[go_sem] def Qd9:Ty:=⟨.map 3 187,1,8,[zm]⟩
@[go_sem] def Qea:Ty:=⟨.map 3 293,1,8,[zm]⟩
@[go_sem] def Qeb:Ty:=⟨.struct [(0,159),(1,160)],2,16,[zm,zm]⟩
@[go_sem] def Qec:Ty:=⟨.ptr 234,1,8,[zp]⟩
@[go_sem] def Qed:Ty:=⟨.slice 40,1,24,[zs]⟩
@[go_sem] def Qee:Ty:=⟨.map 3 45,1,8,[zm]⟩
@[go_sem] def Qef:Ty:=⟨.struct [(0,192)],1,8,[zm]⟩
@[go_sem] def Qeg:Ty:=⟨.ptr 255,1,8,[zp]⟩
@[go_sem] def Qeh:Ty:=⟨.map 3 327,1,8,[zm]⟩
@[go_sem] def eW:Ty:=⟨.struct [(0,195),(1,197)],2,16,[zp,zm]⟩
@[go_sem] def Qei:Ty:=⟨.map 3 209,1,8,[zm]⟩
@[go_sem] def Qej:Ty:=⟨.map 3 3,1,8,[zm]⟩
@[go_sem] def Qek:Ty:=⟨.map 3 203,1,8,[zm]⟩
@[go_sem] def Qel:Ty:=⟨.struct [(0,202),(1,203),(2,204)],3,24,[zm,zm,zm]⟩
@[go_sem] def Qem:Ty:=⟨.ptr 273,1,8,[zp]⟩
@[go_sem] def Qen:Ty:=⟨.struct [(0,40),(1,40)],2,16,[zu,zu]⟩
@[go_sem] def Qeo:Ty:=⟨.struct [(0,40),(1,222),(3,40)],4,32,[zu,zu,zu,zu]⟩
@[go_sem] def Qep:Ty:=⟨.struct [(0,224),(4,224),(8,4)],9,72,[zu,zu,zu,zu,zu,zu,zu,zu,zb]⟩
@[go_sem] def Qeq:Ty:=⟨.struct [(0,4),(1,226),(10,226),(19,40),(20,40),(21,40)],22,176,[zb,zu,zu,zu,zu,zu,zu,zu,zu,zb,zu,zu,zu,zu,zu,zu,zu,zu,zb,zu,zu,zu]⟩
@[go_sem] def eX:Ty:=⟨.struct [(0,4),(1,226),(10,40)],11,88,[zb,zu,zu,zu,zu,zu,zu,zu,zu,zb,zu]⟩
@[go_sem] def Qer:Ty:=⟨.struct [(0,220),(1,45),(15,40),(16,228),(38,230),(49,232)],60,480,[zp,zi,zi,zb,zu,zu,zu,zu,zu,zu,zu,zu,zu,zi,zi,zu,zb,zu,zu,zu,zu,zu,zu,zu,zu,zb,zu,zu,zu,zu,zu,zu,zu,zu,zb,zu,zu,zu,zb,zu,zu,zu,zu,zu,zu,zu,zu,zb,zu,zb,zu,zu,zu,zu,zu,zu,zu,zu,zb,zu]⟩
@[go_sem] def Qes:Ty:=⟨.struct [(0,3),(1,60),(7,4)],8,40,[zi,zu,zi,zh,zh,zh,zh,zb]⟩
@[go_sem] def Qet:Ty:=⟨.ptr 364,1,8,[zp]⟩
@[go_sem] def Qeu:Ty:=⟨.struct [(0,253)],1,8,[zp]⟩
@[go_sem] def Qev:Ty:=⟨.slice 49,1,24,[zs]⟩
@[go_sem] def Qew:Ty:=⟨.ptr 318,1,8,[zp]⟩
@[go_sem] def Qex:Ty:=⟨.struct [(0,40),(1,40),(2,40),(3,40),(4,40),(5,40)],6,48,[zu,zu,zu,zu,zu,zu]⟩
@[go_sem] def Qey:Ty:=⟨.struct [(0,269),(1,3),(2,3),(3,271)],9,72,[zp,zi,zi,zu,zu,zu,zu,zu,zu]⟩
@[go_sem] def Qez:Ty:=⟨.struct [(0,40),(1,40),(2,40),(3,40),(4,40)],5,40,[zu,zu,zu,zu,zu]⟩
@[go_sem] def QeA:Ty:=⟨.int .u32,1,4,[.int .u32 0]⟩
@[go_sem] def QeB:Ty:=⟨.slice 60,1,24,[zs]⟩
@[go_sem] def QeC:Ty:=⟨.struct [(0,316),(1,3),(2,3)],3,40,[zs,zi,zi]⟩
@[go_sem] def QeD:Ty:=⟨.struct [(0,40),(1,3)],2,16,[zu,zi]⟩
@[go_sem] def QeE:Ty:=⟨.struct [(0,325),(2,325)],4,32,[zu,zi,zu,zi]⟩
@[go_sem] def QeF:Ty:=⟨.ptr 149,1,8,[zp]⟩
@[go_sem] def QeG:Ty:=⟨.array 3 43,9,72,[zu,zu,zu,zu,zu,zu,zu,zu,zu]⟩
@[go_sem] def QeH:Ty:=⟨.ptr 3,1,8,[zp]⟩
@[go_sem] def QeI:Ty:=⟨.array 2 253,2,16,[zp,zp]⟩
@[go_sem] def QeJ:Ty:=⟨.struct [(0,327),(4,362),(6,327),(10,3),(11,3)],12,96,[zu,zi,zu,zi,zp,zp,zu,zi,zu,zi,zi,zi]⟩
@[go_sem] def QeK:Ty:=⟨.array 2 224,8,64,[zu,zu,zu,zu,zu,zu,zu,zu]⟩
@[go_sem] def QeL:Ty:=⟨.ptr 351,1,8,[zp]⟩
def lay:Je:=[(1,Y1),(2,Y2),(3,Y2),(4,Y4),(5,Y5),(9,Y9),(12,Hi),(17,Y17),(20,Y20),(21,Y21),(22,OB),(23,OB),(24,Y24),(25,eI),(26,eI),(27,Y27),(29,Y1),(30,Y1),(31,Y1),(32,Y32),(33,Y33),(34,eJ),(35,eJ),(36,Y2),(38,Y1),(39,Y1),(40,Hi),(41,Y1),(42,OC),(43,OC),(44,eK),(45,eK),(46,Y1),(48,Y1),(49,Y49),(50,Y1),(51,Y1),(52,eL),(53,eL),(54,Y1),(55,Y1),(56,Y56),(57,eM),(58,eM),(60,Y60),(61,eN),(62,eN),(63,Y1),(64,Y64),(65,Y65),(67,Y67),(71,Y71),(73,Y1),(75,Y75),(76,eO),(77,eO),(78,Y78),(81,eP),(82,eP),(84,Y1),(86,Y86),(88,eQ),(89,eQ),(90,eR),(91,eR),(94,Y1),(97,Y1),(98,Y1),(99,eT),(100,eT),(101,Y1),(102,Y1),(103,QdU),(104,Y1),(105,QdV),(108,QdW),(110,Y1),(111,QdX),(114,QdY),(116,eU),(117,eU),(118,Y1),(121,Y1),(122,Y1),(133,eV),(134,eV),(135,Y1),(136,QdZ),(138,Qd0),(139,Qd1),(141,Qd2),(143,Qd3),(144,Qd4),(146,Qd5),(149,OC),(151,Qd6),(153,Qd7),(155,Qd8),(159,Qd9),(160,Qea),(162,Qeb),(167,Y1),(168,Y1),(172,Qec),(187,Qed),(192,Qee),(194,Qef),(195,Qeg),(197,Qeh),(199,eW),(201,eW),(202,Qei),(203,Qej),(204,Qek),(206,Qel),(207,Y1),(209,OB),(220,Qem),(222,Qen),(224,Qeo),(226,Qep),(228,Qeq),(230,eX),(232,eX),(234,Qer),(243,Qes),(253,Qet),(255,Qeu),(257,Y1),(263,Qev),(267,Hi),(269,Qew),(271,Qex),(273,Qey),(293,Qez),(296,Y2),(306,Y2),(314,QeA),(316,QeB),(318,QeC),(319,Y1),(325,QeD),(327,QeE),(338,QeF),(342,QeG),(350,Y1),(351,Hi),(354,QeH),(362,QeI),(364,QeJ),(365,Y1),(368,QeK),(374,QeL)]
def QeM{P:Program}:∀{L:Je},L.map (λp=>(P.underlying p.1).map TK.of)=L.map (λp=>some p.2.k)->L.map (λp=>(P.info? p.1).map λi=>(i.size,i.bytes,i.zero.map λz=>z.cells.toList))=L.map (λp=>some (p.2.size,p.2.bytes,some p.2.zero))->L.map (λp=>((P.info? p.1).bind (·.zero)).map bH)=L.map (λp=>some p.2.k.agg)->Z9 P L
 | [],_,_,_=>.nil _
 | (_,_)::_,c,b,a=>.cons ⟨(xj c).1,(xj b).1,(xj a).1⟩ (QeM (xj c).2 (xj b).2 (xj a).2)
def Ca:Z9 prog lay:=QeM τ τ τ
theorem L1:ty lay 1=some Y1:=rfl
theorem L2:ty lay 2=some Y2:=rfl
theorem L3:ty lay 3=some Y2:=rfl
theorem L4:ty lay 4=some Y4:=rfl
theorem L5:ty lay 5=some Y5:=rfl
theorem L9:ty lay 9=some Y9:=rfl
theorem L12:ty lay 12=some Hi:=rfl
theorem L17:ty lay 17=some Y17:=rfl
theorem L20:ty lay 20=some Y20:=rfl
theorem L21:ty lay 21=some Y21:=rfl
theorem L22:ty lay 22=some OB:=rfl
theorem L23:ty lay 23=some OB:=rfl
theorem L24:ty lay 24=some Y24:=rfl
theorem L25:ty lay 25=some eI:=rfl
theorem L26:ty lay 26=some eI:=rfl
theorem L27:ty lay 27=some Y27:=rfl
theorem L29:ty lay 29=some Y1:=rfl
theorem L30:ty lay 30=some Y1:=rfl
theorem L31:ty lay 31=some Y1:=rfl
theorem L32:ty lay 32=some Y32:=rfl
theorem L33:ty lay 33=some Y33:=rfl
theorem L34:ty lay 34=some eJ:=rfl
theorem L35:ty lay 35=some eJ:=rfl
theorem L36:ty lay 36=some Y2:=rfl
theorem L38:ty lay 38=some Y1:=rfl
theorem L39:ty lay 39=some Y1:=rfl
theorem L40:ty lay 40=some Hi:=rfl
theorem L41:ty lay 41=some Y1:=rfl
theorem L42:ty lay 42=some OC:=rfl
theorem L43:ty lay 43=some OC:=rfl
theorem L44:ty lay 44=some eK:=rfl
theorem L45:ty lay 45=some eK:=rfl
theorem L46:ty lay 46=some Y1:=rfl
theorem L48:ty lay 48=some Y1:=rfl
theorem L49:ty lay 49=some Y49:=rfl
theorem L50:ty lay 50=some Y1:=rfl
theorem L51:ty lay 51=some Y1:=rfl
theorem L52:ty lay 52=some eL:=rfl
theorem L53:ty lay 53=some eL:=rfl
theorem L54:ty lay 54=some Y1:=rfl
theorem L55:ty lay 55=some Y1:=rfl
theorem L56:ty lay 56=some Y56:=rfl
theorem L57:ty lay 57=some eM:=rfl
theorem L58:ty lay 58=some eM:=rfl
theorem L60:ty lay 60=some Y60:=rfl
theorem L61:ty lay 61=some eN:=rfl
theorem L62:ty lay 62=some eN:=rfl
theorem L63:ty lay 63=some Y1:=rfl
theorem L64:ty lay 64=some Y64:=rfl
theorem L65:ty lay 65=some Y65:=rfl
theorem L67:ty lay 67=some Y67:=rfl
theorem L71:ty lay 71=some Y71:=rfl
theorem L73:ty lay 73=some Y1:=rfl
theorem L75:ty lay 75=some Y75:=rfl
theorem L76:ty lay 76=some eO:=rfl
theorem L77:ty lay 77=some eO:=rfl
theorem L78:ty lay 78=some Y78:=rfl
theorem L81:ty lay 81=some eP:=rfl
theorem L82:ty lay 82=some eP:=rfl
theorem L84:ty lay 84=some Y1:=rfl
theorem L86:ty lay 86=some Y86:=rfl
theorem L88:ty lay 88=some eQ:=rfl
theorem L89:ty lay 89=some eQ:=rfl
theorem L90:ty lay 90=some eR:=rfl
theorem L91:ty lay 91=some eR:=rfl
theorem L94:ty lay 94=some Y1:=rfl
theorem L97:ty lay 97=some Y1:=rfl
theorem L98:ty lay 98=some Y1:=rfl
theorem L99:ty lay 99=some eT:=rfl
theorem Qqf:ty lay 100=some eT:=rfl
theorem Qqg:ty lay 101=some Y1:=rfl
theorem Qqh:ty lay 102=some Y1:=rfl
theorem Qqi:ty lay 103=some QdU:=rfl
theorem Qqj:ty lay 104=some Y1:=rfl
theorem Qqk:ty lay 105=some QdV:=rfl
theorem Qql:ty lay 108=some QdW:=rfl
theorem Qqm:ty lay 110=some Y1:=rfl
theorem Qqn:ty lay 111=some QdX:=rfl
theorem Qqo:ty lay 114=some QdY:=rfl
theorem Qqp:ty lay 116=some eU:=rfl
theorem Qqq:ty lay 117=some eU:=rfl
theorem Qqr:ty lay 118=some Y1:=rfl
theorem Qqs:ty lay 121=some Y1:=rfl
theorem Qqt:ty lay 122=some Y1:=rfl
theorem Qqu:ty lay 133=some eV:=rfl
theorem Qqv:ty lay 134=some eV:=rfl
theorem Qqw:ty lay 135=some Y1:=rfl
theorem Qqx:ty lay 136=some QdZ:=rfl
theorem Qqy:ty lay 138=some Qd0:=rfl
theorem Qqz:ty lay 139=some Qd1:=rfl
theorem QqA:ty lay 141=some Qd2:=rfl
theorem QqB:ty lay 143=some Qd3:=rfl
theorem QqC:ty lay 144=some Qd4:=rfl
theorem QqD:ty lay 146=some Qd5:=rfl
theorem QqE:ty lay 149=some OC:=rfl
theorem QqF:ty lay 151=some Qd6:=rfl
theorem QqG:ty lay 153=some Qd7:=rfl
theorem QqH:ty lay 155=some Qd8:=rfl
theorem QqI:ty lay 159=some Qd9:=rfl
theorem QqJ:ty lay 160=some Qea:=rfl
theorem QqK:ty lay 162=some Qeb:=rfl
theorem QqL:ty lay 167=some Y1:=rfl
theorem QqM:ty lay 168=some Y1:=rfl
theorem QqN:ty lay 172=some Qec:=rfl
theorem QqO:ty lay 187=some Qed:=rfl
theorem QqP:ty lay 192=some Qee:=rfl
theorem QqQ:ty lay 194=some Qef:=rfl
theorem QqR:ty lay 195=some Qeg:=rfl
theorem QqS:ty lay 197=some Qeh:=rfl
theorem QqT:ty lay 199=some eW:=rfl
theorem QqU:ty lay 201=some eW:=rfl
theorem QqV:ty lay 202=some Qei:=rfl
theorem QqW:ty lay 203=some Qej:=rfl
theorem QqX:ty lay 204=some Qek:=rfl
theorem QqY:ty lay 206=some Qel:=rfl
theorem QqZ:ty lay 207=some Y1:=rfl
theorem Qq0:ty lay 209=some OB:=rfl
theorem Qq1:ty lay 220=some Qem:=rfl
theorem Qq2:ty lay 222=some Qen:=rfl
theorem Qq3:ty lay 224=some Qeo:=rfl
theorem Qq4:ty lay 226=some Qep:=rfl
theorem Qq5:ty lay 228=some Qeq:=rfl
theorem Qq6:ty lay 230=some eX:=rfl
theorem Qq7:ty lay 232=some eX:=rfl
theorem Qq8:ty lay 234=some Qer:=rfl
theorem Qq9:ty lay 243=some Qes:=rfl
theorem Qra:ty lay 253=some Qet:=rfl
theorem Qrb:ty lay 255=some Qeu:=rfl
theorem Qrc:ty lay 257=some Y1:=rfl
theorem Qrd:ty lay 263=some Qev:=rfl
theorem Qre:ty lay 267=some Hi:=rfl
theorem Qrf:ty lay 269=some Qew:=rfl
theorem Qrg:ty lay 271=some Qex:=rfl
theorem Qrh:ty lay 273=some Qey:=rfl
theorem Qri:ty lay 293=some Qez:=rfl
theorem Qrj:ty lay 296=some Y2:=rfl
theorem Qrk:ty lay 306=some Y2:=rfl
theorem Qrl:ty lay 314=some QeA:=rfl
theorem Qrm:ty lay 316=some QeB:=rfl
theorem Qrn:ty lay 318=some QeC:=rfl
theorem Qro:ty lay 319=some Y1:=rfl
theorem Qrp:ty lay 325=some QeD:=rfl
theorem Qrq:ty lay 327=some QeE:=rfl
theorem Qrr:ty lay 338=some QeF:=rfl
theorem Qrs:ty lay 342=some QeG:=rfl
theorem Qrt:ty lay 350=some Y1:=rfl
theorem Qru:ty lay 351=some Hi:=rfl
theorem Qrv:ty lay 354=some QeH:=rfl
theorem Qrw:ty lay 362=some QeI:=rfl
theorem Qrx:ty lay 364=some QeJ:=rfl
theorem Qry:ty lay 365=some Y1:=rfl
theorem Qrz:ty lay 368=some QeK:=rfl
theorem QrA:ty lay 374=some QeL:=rfl
def LN:Dr:=[(43,[0,0,0]),(45,[0,0,1,0,0,0,0,0,0,0,0,0,0,0]),(58,[0,0,0,0]),(222,[0,0]),(325,[0,0])]
def QeN{P:Program}:∀{E:Dr},E.map (λp=>qT P 60 p.1)=E.map (λp=>some p.2)->E.map (λp=>P.eqGuardType P.depth p.1)=E.map (λ_=>false)->E.map (λp=>match P.underlying p.1 with|some (.struct _)|some (.array _ _)=>true|_=>false)=E.map (λ_=>true)->AK P E
 | [],_,_,_=>.nil _
 | (_,_)::_,c,b,a=>.cons ⟨(xj c).1,(xj b).1,(xj a).1⟩ (QeN (xj c).2 (xj b).2 (xj a).2)
def QrB:AK prog LN:=QeN τ τ τ
theorem E43:BT LN 43=some [0,0,0]:=rfl
theorem E45:BT LN 45=some [0,0,1,0,0,0,0,0,0,0,0,0,0,0]:=rfl
theorem E58:BT LN 58=some [0,0,0,0]:=rfl
theorem QrF:BT LN 222=some [0,0]:=rfl
theorem QrG:BT LN 325=some [0,0]:=rfl
def cx:Cx:=⟨lay,LN⟩
def KS:qU prog cx:=⟨Ca,QrB⟩
def SO:Qn prog 6:=call6
def SQ:Qn prog 7:=call7
def OD:Qn prog 8:=call8
def oL:Qn prog 9:=call9
def QrH:Qn prog 11:=call11
def qY:Qn prog 12:=call12
def AZ:Qn prog 15:=call15
def oM:Qn prog 17:=call17
def QeO:Qn prog 18:=call18
def QrI:Qn prog 19:=call19
def QrJ:Qn prog 20:=call20
def QeP:Qn prog 21:=call21
def QrK:Qn prog 22:=call22
def QrL:Qn prog 23:=call23
def QrM:Qn prog 24:=call24
def OE:Qn prog 27:=call27
def QrN:Qn prog 29:=call29
def QeQ:Qn prog 32:=call32
def QrO:Qn prog 36:=call36
def QrP:Qn prog 37:=call37
def QrQ:Qn prog 38:=call38
def QrR:Qn prog 39:=call39
def QrS:Qn prog 40:=call40
def oN:Qn prog 41:=call41
def QrT:Qn prog 42:=call42
def QeR:Qn prog 43:=call43
def QrU:Qn prog 44:=call44
def eY:Qn prog 45:=call45
def QrV:Qn prog 46:=call46
def QrW:Qn prog 47:=call47
def oO:Qn prog 48:=call48
def Hj:Qn prog 49:=call49
def QrX:Qn prog 51:=call51
def QeS:Qn prog 53:=call53
def QrY:Qn prog 55:=call55
def QrZ:Qn prog 56:=call56
def Qr0:Qn prog 57:=call57
def Qr1:Qn prog 58:=call58
def eZ:Qn prog 59:=call59
def QeT:Qn prog 60:=call60
def Qr2:Qn prog 61:=call61
def Qr3:Qn prog 62:=call62
def QeU:Qn prog 63:=call63
def QeV:Qn prog 64:=call64
def Qr4:Qn prog 65:=call65
def oP:Qn prog 66:=call66
def QeW:Qn prog 67:=call67
def Qr5:Qn prog 68:=call68
def QeX:Qn prog 69:=call69
def SR:Qn prog 70:=call70
def Qr6:Qn prog 71:=call71
def oQ:Qn prog 72:=call72
def oS:Qn prog 73:=call73
def wz:Qn prog 74:=call74
def Qr7:Qn prog 75:=call75
def oU:Qn prog 76:=call76
def QeY:Qn prog 77:=call77
def Qr8:Qn prog 78:=call78
def Qr9:Qn prog 79:=call79
def QeZ:Qn prog 80:=call80
def Qsa:Qn prog 81:=call81
def Qsb:Qn prog 82:=call82
def fa:Qn prog 84:=call84
def fb:Qn prog 85:=call85
def oV:Qn prog 86:=call86
def oW:Qn prog 87:=call87
def Qsc:Qn prog 88:=call88
def Qe0:Qn prog 89:=call89
def Qsd:Qn prog 90:=call90
def Qse:Qn prog 91:=call91
def Qe1:Qn prog 92:=call92
def oX:Qn prog 93:=call93
def wB:Qn prog 94:=call94
def Qsf:Qn prog 95:=call95
def Qsg:Qn prog 96:=call96
def Qsh:Qn prog 97:=call97
def Qsi:Qn prog 98:=call98
def Qsj:Qn prog 99:=call99
def fc:Qn prog 100:=call100
def Qe2:Qn prog 101:=call101
def SS:Qn prog 102:=call102
def Qsk:Qn prog 103:=call103
def Qsl:Qn prog 104:=call104
def fe:Qn prog 105:=call105
def Qsm:Qn prog 106:=call106
def DG:Qn prog 107:=call107
def Qe3:Qn prog 108:=call108
def Qsn:Qn prog 109:=call109
def Qso:Qn prog 110:=call110
def OF:Qn prog 111:=call111
def Qsp:Qn prog 112:=call112
def SU:Qn prog 113:=call113
def fg:Qn prog 114:=call114
def Qe4:Qn prog 115:=call115
def Qsq:Qn prog 116:=call116
def Qsr:Qn prog 117:=call117
def Qss:Qn prog 118:=call118
def Qst:Qn prog 119:=call119
def Qsu:Qn prog 120:=call120
def Qsv:Qn prog 121:=call121
def Qsw:Qn prog 122:=call122
def Qsx:Qn prog 123:=call123
def Qsy:Qn prog 126:=call126
def fh:Qn prog 127:=call127
def Qsz:Qn prog 128:=call128
def fi:Qn prog 129:=call129
def QsA:Qn prog 130:=call130
def QsB:Qn prog 131:=call131
def QsC:Qn prog 132:=call132
def QsD:Qn prog 133:=call133
def QsE:Qn prog 134:=call134
def fj:Qn prog 135:=call135
def Qe5:Qn prog 136:=call136
def Qe6:Qn prog 137:=call137
def Qe7:Qn prog 139:=call139
def QsF:Qn prog 140:=call140
def QsG:Qn prog 141:=call141
def QsH:Qn prog 142:=call142
def QsI:Qn prog 143:=call143
def QsJ:Qn prog 144:=call144
def QsK:Qn prog 145:=call145
def Qe8:Qn prog 146:=call146
def QsL:Qn prog 147:=call147
def QsM:Qn prog 148:=call148
def QsN:Qn prog 149:=call149
def oY:Qn prog 150:=call150
def QsO:Qn prog 151:=call151
def QsP:Qn prog 152:=call152
def QsQ:Qn prog 153:=call153
def oZ:Qn prog 154:=call154
def QsR:Qn prog 155:=call155
def QsS:Qn prog 156:=call156
def QsT:Qn prog 157:=call157
def QsU:Qn prog 158:=call158
def QsV:Qn prog 159:=call159
def QsW:Qn prog 160:=call160
def QsX:Qn prog 161:=call161
def QsY:Qn prog 162:=call162
def Qe9:Qn prog 163:=call163
def QsZ:Qn prog 164:=call164
def Fl:Qn prog 165:=call165
def Qfa:Qn prog 167:=call167
def fk:Qn prog 168:=call168
def OG:Qn prog 169:=call169
def Qs0:Qn prog 170:=call170
def o4:Qn prog 171:=call171
def Qs1:Qn prog 172:=call172
def Qs2:Qn prog 173:=call173
def OH:Qn prog 174:=call174
def Qs3:Qn prog 175:=call175
def Qs4:Qn prog 176:=call176
def Qs5:Qn prog 177:=call177
def Qfb:Qn prog 178:=call178
def Qs6:Qn prog 179:=call179
def Qs7:Qn prog 180:=call180
def Qs8:Qn prog 191:=call191
def Qfc:Qn prog 192:=call192
def o5:Qn prog 193:=call193
def Qfd:Qn prog 194:=call194
def fm:Qn prog 195:=call195
def fo:Qn prog 196:=call196
def o6:Qn prog 197:=call197
def Qfe:Qn prog 198:=call198
def o7:Qn prog 199:=call199
def Qff:Qn prog 200:=call200
def o8:Qn prog 201:=call201
def Qfg:Qn prog 202:=call202
def Cb:Qn prog 203:=call203
def o9:Qn prog 204:=call204
def Qs9:Qn prog 205:=call205
def Qta:Qn prog 206:=call206
def Qtb:Qn prog 207:=call207
def Qtc:Qn prog 208:=call208
def Qtd:Qn prog 209:=call209
def fp:Qn prog 210:=call210
def Qte:Qn prog 211:=call211
def Qfh:Qn prog 212:=call212
def Qtf:Qn prog 213:=call213
def Qfi:Qn prog 214:=call214
def Qtg:Qn prog 215:=call215
def pc:Qn prog 216:=call216
def fq:Qn prog 217:=call217
def jZ:Qn prog 218:=call218
def Qfj:Qn prog 219:=call219
def Qfk:Qn prog 220:=call220
def ft:Qn prog 221:=call221
def Qfl:Qn prog 222:=call222
def Qth:Qn prog 223:=call223
def Qti:Qn prog 224:=call224
def Qtj:Qn prog 225:=call225
def Qtk:Qn prog 226:=call226
def pe:Qn prog 227:=call227
def Qtl:Qn prog 228:=call228
def Qfm:Qn prog 229:=call229
def Qtm:Qn prog 230:=call230
def Qtn:Qn prog 231:=call231
def Qto:Qn prog 232:=call232
def Qfn:Qn prog 233:=call233
def Qtp:Qn prog 235:=call235
def Qtq:Qn prog 236:=call236
def Qfo:Qn prog 240:=call240
def SV:Qn prog 241:=call241
def pf:Qn prog 242:=call242
def Qfp:Qn prog 243:=call243
def SW:Qn prog 244:=call244
def Qtr:Qn prog 245:=call245
def DH:Qn prog 246:=call246
def Qfq:Qn prog 247:=call247
def Qfr:Qn prog 248:=call248
def Qts:Qn prog 249:=call249
def Qtt:Qn prog 250:=call250
def Qfs:Qn prog 251:=call251
def Qtu:Qn prog 252:=call252
def fu:Qn prog 253:=call253
def Qft:Qn prog 254:=call254
def Qfu:Qn prog 255:=call255
def OI:Qn prog 256:=call256
def pg:Qn prog 257:=call257
def Qfv:Qn prog 259:=call259
def Qfw:Qn prog 260:=call260
def Qtv:Qn prog 261:=call261
def Qfx:Qn prog 262:=call262
def ph:Qn prog 263:=call263
def vp:Qn prog 264:=call264
def Fm:Qn prog 265:=call265
def pn:Qn prog 266:=call266
def Qtw:Qn prog 267:=call267
def Qfy:Qn prog 268:=call268
def po:Qn prog 269:=call269
def Qtx:Qn prog 270:=call270
def Qty:Qn prog 271:=call271
def Qtz:Qn prog 272:=call272
def QtA:Qn prog 273:=call273
def QtB:Qn prog 274:=call274
def QtC:Qn prog 275:=call275
def QtD:Qn prog 276:=call276
def QtE:Qn prog 277:=call277
def OJ:Qn prog 278:=call278
def Qfz:Qn prog 279:=call279
def QfA:Qn prog 280:=call280
def QfB:Qn prog 281:=call281
def QfC:Qn prog 282:=call282
def pq:Qn prog 283:=call283
def pw:Qn prog 284:=call284
def pz:Qn prog 285:=call285
attribute [go_sem] cx L1 L2 L3 L4 L5 L9 L12 L17 L20 L21 L22 L23 L24 L25 L26 L27 L29 L30 L31 L32 L33 L34 L35 L36 L38 L39 L40 L41 L42 L43 L44 L45 L46 L48 L49 L50 L51 L52 L53 L54 L55 L56 L57 L58 L60 L61 L62 L63 L64 L65 L67 L71 L73 L75 L76 L77 L78 L81 L82 L84 L86 L88 L89 L90 L91 L94 L97 L98 L99 Qqf Qqg Qqh Qqi Qqj Qqk Qql Qqm Qqn Qqo Qqp Qqq Qqr Qqs Qqt Qqu Qqv Qqw Qqx Qqy Qqz QqA QqB QqC QqD QqE QqF QqG QqH QqI QqJ QqK QqL QqM QqN QqO QqP QqQ QqR QqS QqT QqU QqV QqW QqX QqY QqZ Qq0 Qq1 Qq2 Qq3 Qq4 Qq5 Qq6 Qq7 Qq8 Qq9 Qra Qrb Qrc Qrd Qre Qrf Qrg Qrh Qri Qrj Qrk Qrl Qrm Qrn Qro Qrp Qrq Qrr Qrs Qrt Qru Qrv Qrw Qrx Qry Qrz QrA E43 E45 E58 QrF QrG
def Qf{a c}{b:Start}{Q}{k}{s}(d:a<=b.w.heap.size)(h:hx prog a b Q cx c 200 k s):Qw prog a c b Q k .normal s:=AU KS d 200 h
def Zk{a c}{b:Start}{K}{l}{s}(d:a<=b.w.heap.size)(h:K9 prog a b cx c K l s):AX prog a c b K l s:=QoQ KS d h
end Go.Fg.X
namespace Go.Fg
open Go.RowKit (Below)
def Rd(P:Program)(t:TypeId){f:Type}(g:f->Prop)(b:f->List D):Prop:=
 ∀{H:Type} {h:TypeId × Value->H} {w:World} {d:Nat} {c:Bool} (m:Nat) (e:List Value) (x:DataW H × List MemPlace),DataW.trod h P w d (λ_=>true) c m t e=some x ->
  ∃a,g a/\(b a).length=e.length/\∀j,j<e.length->Cl (λ_=>True) w (nth (b a) j) (Q7 e j)
def Rd.int{P:Program}{t:TypeId}(k)(d:P.underlying t=some (.int k)):Rd P t (λn:Int=>(Lit.int k n).wf=true) (λn=>[.raw (.int k n)]):=by
 intro H f w b a m g x h;obtain⟨n,rfl,_,c⟩:=DataW.trod_int d h;refine⟨n,c,rfl,λj e=>?_⟩;obtain rfl:j=0:=by simpa using e
 exact .raw _
def Rd.bool{P:Program}{t:TypeId}(c:P.underlying t=some .bool):Rd P t (λ_:Bool=>True) (λn=>[.raw (.bool n)]):=by
 intro H e w b a m f x h;obtain⟨n,rfl,_⟩:=DataW.trod_bool c h;refine⟨n,trivial,rfl,λj d=>?_⟩;obtain rfl:j=0:=by simpa using d
 exact .raw _
def Rd.map{P}{t:TypeId}{l k:Type}{c}{b}(r:Rd P t c b)(g:l->k){f}{d}(e:∀a,d (g a)=b a)(n:∀a,c a->f (g a)):Rd P t f d:=by
 intro H u w j i m s x h;obtain⟨a,q,p,o⟩:=r m s x h;exact⟨g a,n a q,by rw[e];exact p,by rw[e];exact o⟩
def KL(P:Program)(l:List Field)(b h:Nat){i:Type}(k:i->Prop)(c:i->List D):Prop:=
 ∀{H:Type} {n:TypeId × Value->H} {w:World} {e:Nat} {d:Bool} (m:Nat) (g:List Value),g.length=h ->
  (∀f∈l,∃x,DataW.trod n P w e (λ_=>true) d m f.type ((g.drop f.offset).take (P.cellsOf f.type))=some x) ->
  ∃a,k a/\b+(c a).length=h/\∀j,b+j<h->Cl (λ_=>True) w (nth (c a) j) (Q7 g (b+j))
def KL.nil{P}{a}:KL P [] a a (λ_:Unit=>True) (λ_=>[]):=by
 intro H f w c b m g d h;exact⟨(),trivial,rfl,λj e=>ω⟩
def KL.cons{P}{f:Field}{t}{d l p}{E C:Type}{q}{c}{y}{e}(r:Rd P f.type q c)(F:KL P t l p y e)
  (I:f.offset=d) (S:d+P.cellsOf f.type=l) (Q:l<=p):KL P (f::t) d p (λi:E × C=>q i.1/\y i.2) (λi=>c i.1++e i.2):=by
 intro H T w B z m n J h;obtain⟨x,hx⟩:=h f σ;obtain⟨a,O,v,u⟩:=r m _ x hx;obtain⟨b,N,U,M⟩:=F m n J λg K=>h g (by simp[K]);have k:((n.drop f.offset).take (P.cellsOf f.type)).length=P.cellsOf f.type:=ξ;rw[k]at v u;refine⟨(a,b),⟨O,N⟩,ξ,λj R=>?_⟩;by_cases s:j<P.cellsOf f.type
 .have:=u j s;have o:nth (c a++e b) j=nth (c a) j:=nA ω;have L:Q7 ((n.drop f.offset).take (P.cellsOf f.type)) j=Q7 n (d+j):=by
   simp only[Q7,QY,XK,Qe s,Gy,I]
  show Cl _ w (nth (c a++e b) j) _;rw[o,<- L];exact this
 .have o:nth (c a++e b) j=nth (e b) (j - P.cellsOf f.type):=by rw[nB ω,v]
  have:=M (j - P.cellsOf f.type) ω;show Cl _ w (nth (c a++e b) j) _;rw[o,show d+j=l+(j - P.cellsOf f.type) by omega];exact this
def Rd.struct{P:Program}{t:TypeId}{c:Array Field}{Z7:Nat}{e:Type}{k:e->Prop}{b:e->List D}(s:P.underlying t=some (.struct c))(F:P.cellsOf t=Z7)(r:KL P c.toList 0 Z7 k b):Rd P t k b:=by
 intro H I w o n m y x h;obtain⟨g,p,rfl,_,C,q,v⟩:=DataW.trod_struct s h;obtain⟨a,B,J,z⟩:=r p y ω λf d=>by
  obtain⟨i,u⟩:=GA d;have l:c[i]? = some f:=by simpa using u
  have Qc:i<g.length:=by rw[q];exact(WL.1 l).1
  exact⟨g[i],by rw[v i f l];exact QG Qc⟩
 exact⟨a,B,ω,λj E=>by have:=z j ω;rwa [JR]at this⟩
def qA(P:Program)(e:TypeId)(i n:Nat){g:Type}(h:g->Prop)(b:g->List D):Prop:=
 ∀{H:Type} {l:TypeId × Value->H} {w:World} {d:Nat} {c:Bool} (m:Nat) (f:List Value),f.length=n*P.cellsOf e ->
  (∀k,k<n->∃x,DataW.trod l P w d (λ_=>true) c m e ((f.drop (k*P.cellsOf e)).take (P.cellsOf e))=some x) ->
  ∃a,h a/\i*P.cellsOf e+(b a).length=n*P.cellsOf e/\∀j,i*P.cellsOf e+j<n*P.cellsOf e->Cl (λ_=>True) w (nth (b a) j) (Q7 f (i*P.cellsOf e+j))
def qA.nil{P}{e:TypeId}{n}:qA P e n n (λ_:Unit=>True) (λ_=>[]):=by
 intro H f w b a m g c h;exact⟨(),trivial,rfl,λj d=>ω⟩
def qA.cons{P}{e:TypeId}{i n}{C B:Type}{o}{c}{v}{d}(p:i<n)(r:Rd P e o c)(E:qA P e (i+1) n v d):
  qA P e i n (λf:C × B=>o f.1/\v f.2) (λf=>c f.1++d f.2):=by
 intro H O w z y m k I h;obtain⟨x,hx⟩:=h i p;obtain⟨a,M,u,t⟩:=r m _ x hx;obtain⟨b,L,K,s⟩:=E m k I h;have F:=XL (P.cellsOf e) (show i+1<=n from p);rw[VM,NJ]at F;rw[VM,NJ]at K s;have g:((k.drop (i*P.cellsOf e)).take (P.cellsOf e)).length=P.cellsOf e:=ξ;rw[g]at u t;refine⟨(a,b),⟨M,L⟩,ξ,λj N=>?_⟩;by_cases q:j<P.cellsOf e
 .have:=t j q;have l:nth (c a++d b) j=nth (c a) j:=nA ω;have J:Q7 ((k.drop (i*P.cellsOf e)).take (P.cellsOf e)) j=Q7 k (i*P.cellsOf e+j):=by
   simp only[Q7,QY,XK,Qe q,Gy]
  show Cl _ w (nth (c a++d b) j) _;rw[l,<- J];exact this
 .have l:nth (c a++d b) j=nth (d b) (j - P.cellsOf e):=by rw[nB ω,u]
  have:=s (j - P.cellsOf e) ω;show Cl _ w (nth (c a++d b) j) _;rw[l,show i*P.cellsOf e+j=i*P.cellsOf e+P.cellsOf e+(j - P.cellsOf e) by omega];exact this
def Rd.array{P:Program}{t e:TypeId}{n:Nat}{c:Type}{f:c->Prop}{b:c->List D}(p:P.underlying t=some (.array n e))(E:P.cellsOf t=n*P.cellsOf e)(r:qA P e 0 n f b):Rd P t f b:=by
 intro H F w l i m u x h;obtain⟨d,o,rfl,_,B,z,s⟩:=DataW.trod_array p h;obtain⟨a,y,v,g⟩:=r o u ω λk q=>by
  have Qc:k<d.length:=ω;exact⟨d[k],by rw[s k q];exact QG Qc⟩
 simp only[Nat.zero_mul,JR]at v g;exact⟨a,y,ω,λj C=>g j ω⟩
def Rd.slice{P:Program}{t e:TypeId}{B:Type}[Inhabited B]{C}{g}(k)(O:P.underlying t=some (.slice e))(R:P.cellsOf e=k)(M:0<k)(r:Rd P e C g):
  Rd P t (λl:List B=>l.length<=maxLen/\∀a∈l,C a) (λl=>[.imm k l.length λi=>g (l.getD i default)]):=by
 intro H en w L K m cs x h;rcases Deep.open_slice O h with ⟨rfl,_⟩|⟨a,c,I,m,N,D',Pl,rfl,hb,Q,hm,T,_,U⟩
 .refine⟨[],⟨σ,σ⟩,rfl,λj p=>?_⟩;obtain rfl:j=0:=by simpa using p
  exact .imm _ _ _ _ _ 0 0 (λ_ _=>Go.undef) (λh=>by simp at h) σ (λi d=>by simp at d) (λi j d=>by simp at d) (λi j d=>by simp at d)
 .simp only[Vp]at T;have F:∀i,∃u:B × List Value,i<c->C u.1/\(g u.1).length=k/\u.2.length=k/\(∀j,j<k->w.cell? (a.add (i*k+j))=some (Q7 u.2 j))/\∀j,j<k->Cl (λ_=>True) w (nth (g u.1) j) (Q7 u.2 j):=λi=>by
   by_cases d:i<c
   .obtain⟨q,s,z⟩:=U i ω;obtain⟨x,hx,Z,S⟩:=r N q _ z;obtain⟨_,n,W⟩:=World.cells?_some s;have V:q.length=k:=ω;refine⟨(x,q),λ_=>⟨hx,(by show (g x).length=k;omega),V,λj p=>?_,λj p=>S j ω⟩⟩;have:=W j ω;rw[Deep.add_add,R]at this;rw[this];simp[Q7,QY,QG (show j<q.length from ω)]
   .exact⟨(default,[]),λh=>absurd h d⟩
  obtain⟨f,v⟩:=Classical.axiomOfChoice F;have n:((List.range c).map λi=>(f i).1).length=c:=σ;have J:∀i,i<c->((List.range c).map λi=>(f i).1).getD i default=(f i).1:=λi d=>by simp[QY,d]
  refine⟨(List.range c).map λi=>(f i).1,⟨by rw[n];omega,λx hx=>?_⟩,rfl,λj p=>?_⟩
  .obtain⟨i,d,rfl⟩:=Jl.1 hx;exact(v i (RL.1 d)).1
  .obtain rfl:j=0:=by simpa using p
   show Cl _ w (.imm k ((List.range c).map λi=>(f i).1).length λi=>g (((List.range c).map λi=>(f i).1).getD i default)) (.slice (some a) c I);rw[n];have y:0<c->a=⟨a.block,a.off,none⟩:=λE=>by
    have s:=(v 0 E).2.2.2.1 0 M;have z:=World.cell?_spot s;obtain⟨b,o,Y⟩:=a;simp[Addr.add]at z;subst z;rfl
   refine .imm _ _ _ _ _ a.block a.off (λi j=>Q7 (f i).2 j) (λE=>by rw[<- y E]) Q (λi d=>?_) (λi j d p=>⟨trivial,?_⟩) (λi j d p=>?_)
   .rw[J i d];exact(v i d).2.1
   .have s:=(v i d).2.2.2.1 j p;rw[y ω]at s;rw[<- s];congr 1;simp only[Addr.add];split<;>simp_all
   .rw[J i d];exact(v i d).2.2.2.2 j p
def Rd.one{P:Program}{t:TypeId}{f:Type}{g:f->Prop}{b:f->D}(r:Rd P t g λa=>[b a]){H:Type}{o:TypeId × Value->H}{w:World}{e:Nat}{c:Bool}{v:Value}{d:DataW H}{j:List MemPlace}
  (h:DataW.Trod o P w e (λ_=>true) c t v d j) (k:v.cells.toList=[v]):∃a,g a/\Cl (λ_=>True) w (b a) v:=by
 obtain⟨m,i⟩:=h;rw[k]at i;obtain⟨a,n,p,l⟩:=r m _ _ i;exact⟨a,n,l 0 σ⟩
def Rd.many{P:Program}{t:TypeId}{j:Type}{k:j->Prop}{b:j->List D}(r:Rd P t k b){H:Type}{s:TypeId × Value->H}{w:World}{g:Nat}{f:Bool}{c:Array Value}{d:DataW H}{n:List MemPlace}
  (h:DataW.Trod s P w g (λ_=>true) f t (.agg c) d n):∃a,k a/\Cl (λ_=>True) w (.agg (b a)) (.agg c):=by
 obtain⟨m,l⟩:=h;have e:(Value.agg c).cells.toList=c.toList:=rfl;rw[e]at l;obtain⟨a,q,p,o⟩:=r m _ _ l;have:=Cl.agg (N:=λ_=>True) (w:=w) (b a) c.toList p.symm (λi u=>o i ω);exact⟨a,q,by simpa using this⟩
def QtG(k)(n:Int):(Value.int k n).cells.toList=[Value.int k n]:=by simp[Value.cells]
def QtH{P}{f}{c:List D}(h:QI P f c λd h=>d=.raw (.bool true)/\h=[])(W)(a:List Value)(k:a.length=c.length)(p:∀i,i<c.length->Cl (λ_=>True) W (nth c i) (Q7 a i)):
  Calls P f a.toArray W λe g=>e=.returned (.bool true)/\Below W.heap.size W g:=by
 refine(h (λ_=>True) W.heap.size W [] a (QB _) (λ_ _=>trivial) ⟨rfl,λl t b q s e=>by simp at e,λl o e=>by simp at e,λl o b q e=>by simp at e⟩ k (λi m=>.cl _ _ ((p i m).mono λb _ _=>⟨⟨trivial,λl q e=>by simp at e⟩,rfl⟩))).mono λe g n=>?_;obtain⟨v,d,u,w,rfl,⟨rfl,rfl⟩,_,j,_,r⟩:=n;rw[Jt j];exact⟨rfl,r⟩
end Go.Fg
namespace Go.Fg.X
open Go.Proofs Go.Fg
open Go.Proofs.Tryz
def pA(k:IntKind)(l:List Int):Nat->List D:=λi=>[.raw (.int k (l.getD i 0))]
@[go_sem] theorem QtI(k)(l:List Int)(i):pA k l i=[.raw (.int k (l.getD i 0))]:=rfl
structure Cf where
 t:Int
 JI:Int
instance:Inhabited Cf:=⟨⟨0,0⟩⟩
@[go_sem] def Cf.cells(x:Cf):List D:=[.raw (.int .i64 x.t),.raw (.int .i64 x.JI)]
def Cf.rows(l:List Cf):Nat->List D:=λi=>(l.getD i default).cells
@[go_sem] theorem Cf.j4(l:List Cf)(i):Cf.rows l i=(l.getD i default).cells:=rfl
def Cf.Ok(x:Cf):Prop:=(Lit.int .i64 x.t).wf=true/\(Lit.int .i64 x.JI).wf=true/\True
def QtJ:Rd prog 23 Cf.Ok Cf.cells:=
 Rd.map (Rd.struct (Z7:=2) underlying23 τ (KL.cons (Rd.int .i64 underlying3) (KL.cons (Rd.int .i64 underlying3) KL.nil rfl τ π) rfl τ π)) (λp=>⟨p.1,p.2.1⟩) (λ_=>rfl) (λ_ h=>⟨h.1,h.2.1,trivial⟩)
structure Cv where
 m1:Int
 d:Int
 m2:Int
instance:Inhabited Cv:=⟨⟨0,0,0⟩⟩
@[go_sem] def Cv.cells(x:Cv):List D:=[.raw (.int .u64 x.m1),.raw (.int .u64 x.d),.raw (.int .u64 x.m2)]
def Cv.rows(l:List Cv):Nat->List D:=λi=>(l.getD i default).cells
@[go_sem] theorem Cv.j4(l:List Cv)(i):Cv.rows l i=(l.getD i default).cells:=rfl
def Cv.Ok(x:Cv):Prop:=(Lit.int .u64 x.m1).wf=true/\(Lit.int .u64 x.d).wf=true/\(Lit.int .u64 x.m2).wf=true/\True
def pB:Rd prog 43 Cv.Ok Cv.cells:=
 Rd.map (Rd.struct (Z7:=3) underlying43 τ (KL.cons (Rd.int .u64 underlying40) (KL.cons (Rd.int .u64 underlying40) (KL.cons (Rd.int .u64 underlying40) KL.nil rfl τ π) rfl τ π) rfl τ π)) (λp=>⟨p.1,p.2.1,p.2.2.1⟩) (λ_=>rfl) (λ_ h=>⟨h.1,h.2.1,h.2.2.1,trivial⟩)
structure Pk where
 iD:Int
 len:Int
 xF:Int
 xG:Int
 xH:Int
 xI:Int
instance:Inhabited Pk:=⟨⟨0,0,0,0,0,0⟩⟩
@[go_sem] def Pk.cells(x:Pk):List D:=[.raw (.int .u64 x.iD),.raw (.int .i64 x.len),.raw (.int .u16 x.xF),.raw (.int .u16 x.xG),.raw (.int .u16 x.xH),.raw (.int .u16 x.xI)]
def Pk.rows(l:List Pk):Nat->List D:=λi=>(l.getD i default).cells
@[go_sem] theorem Pk.j4(l:List Pk)(i):Pk.rows l i=(l.getD i default).cells:=rfl
def Pk.Ok(x:Pk):Prop:=(Lit.int .u64 x.iD).wf=true/\(Lit.int .i64 x.len).wf=true/\(Lit.int .u16 x.xF).wf=true/\(Lit.int .u16 x.xG).wf=true/\(Lit.int .u16 x.xH).wf=true/\(Lit.int .u16 x.xI).wf=true/\True
def QtK:Rd prog 60 Pk.Ok Pk.cells:=
 Rd.map (Rd.struct (Z7:=6) underlying60 τ (KL.cons (Rd.int .u64 underlying40) (KL.cons (Rd.int .i64 underlying3) (KL.cons (Rd.array underlying58 τ (qA.cons π (Rd.int .u16 underlying56) (qA.cons π (Rd.int .u16 underlying56) (qA.cons π (Rd.int .u16 underlying56) (qA.cons π (Rd.int .u16 underlying56) qA.nil))))) KL.nil rfl τ π) rfl τ π) rfl τ π)) (λp=>⟨p.1,p.2.1,p.2.2.1.1,p.2.2.1.2.1,p.2.2.1.2.2.1,p.2.2.1.2.2.2.1⟩) (λ_=>rfl) (λ_ h=>⟨h.1,h.2.1,h.2.2.1.1,h.2.2.1.2.1,h.2.2.1.2.2.1,h.2.2.1.2.2.2.1,trivial⟩)
structure Qm where
 iD:Int
 parent:Int
 leaf:Bool
 rt:Cv
 ls:Cv
 ul:Cv
 ZR:Int
 bytes:Int
instance:Inhabited Qm:=⟨⟨0,0,false,default,default,default,0,0⟩⟩
@[go_sem] def Qm.cells(x:Qm):List D:=[.raw (.int .i64 x.iD),.raw (.int .i64 x.parent),.raw (.bool x.leaf),.raw (.int .u64 x.rt.m1),.raw (.int .u64 x.rt.d),.raw (.int .u64 x.rt.m2),.raw (.int .u64 x.ls.m1),.raw (.int .u64 x.ls.d),.raw (.int .u64 x.ls.m2),.raw (.int .u64 x.ul.m1),.raw (.int .u64 x.ul.d),.raw (.int .u64 x.ul.m2),.raw (.int .i64 x.ZR),.raw (.int .i64 x.bytes)]
def Qm.rows(l:List Qm):Nat->List D:=λi=>(l.getD i default).cells
@[go_sem] theorem Qm.j4(l:List Qm)(i):Qm.rows l i=(l.getD i default).cells:=rfl
def Qm.Ok(x:Qm):Prop:=(Lit.int .i64 x.iD).wf=true/\(Lit.int .i64 x.parent).wf=true/\True/\Cv.Ok x.rt/\Cv.Ok x.ls/\Cv.Ok x.ul/\(Lit.int .i64 x.ZR).wf=true/\(Lit.int .i64 x.bytes).wf=true/\True
def QtL:Rd prog 45 Qm.Ok Qm.cells:=
 Rd.map (Rd.struct (Z7:=14) underlying45 τ (KL.cons (Rd.int .i64 underlying3) (KL.cons (Rd.int .i64 underlying3) (KL.cons (Rd.bool underlying4) (KL.cons pB (KL.cons pB (KL.cons pB (KL.cons (Rd.int .i64 underlying3) (KL.cons (Rd.int .i64 underlying3) KL.nil rfl τ π) rfl τ π) rfl τ π) rfl τ π) rfl τ π) rfl τ π) rfl τ π) rfl τ π)) (λp=>⟨p.1,p.2.1,p.2.2.1,p.2.2.2.1,p.2.2.2.2.1,p.2.2.2.2.2.1,p.2.2.2.2.2.2.1,p.2.2.2.2.2.2.2.1⟩) (λ_=>rfl) (λ_ h=>⟨h.1,h.2.1,h.2.2.1,h.2.2.2.1,h.2.2.2.2.1,h.2.2.2.2.2.1,h.2.2.2.2.2.2.1,h.2.2.2.2.2.2.2.1,trivial⟩)
structure Z4 where
 kind:Int
 cls:Qm
instance:Inhabited Z4:=⟨⟨0,default⟩⟩
@[go_sem] def Z4.cells(x:Z4):List D:=[.raw (.int .i64 x.kind),.raw (.int .i64 x.cls.iD),.raw (.int .i64 x.cls.parent),.raw (.bool x.cls.leaf),.raw (.int .u64 x.cls.rt.m1),.raw (.int .u64 x.cls.rt.d),.raw (.int .u64 x.cls.rt.m2),.raw (.int .u64 x.cls.ls.m1),.raw (.int .u64 x.cls.ls.d),.raw (.int .u64 x.cls.ls.m2),.raw (.int .u64 x.cls.ul.m1),.raw (.int .u64 x.cls.ul.d),.raw (.int .u64 x.cls.ul.m2),.raw (.int .i64 x.cls.ZR),.raw (.int .i64 x.cls.bytes)]
def Z4.rows(l:List Z4):Nat->List D:=λi=>(l.getD i default).cells
@[go_sem] theorem Z4.j4(l:List Z4)(i):Z4.rows l i=(l.getD i default).cells:=rfl
def Z4.Ok(x:Z4):Prop:=(Lit.int .i64 x.kind).wf=true/\Qm.Ok x.cls/\True
def QtM:Rd prog 75 Z4.Ok Z4.cells:=
 Rd.map (Rd.struct (Z7:=15) underlying75 τ (KL.cons (Rd.int .i64 underlying3) (KL.cons QtL KL.nil rfl τ π) rfl τ π)) (λp=>⟨p.1,p.2.1⟩) (λ_=>rfl) (λ_ h=>⟨h.1,h.2.1,trivial⟩)
structure JX where
 A3:Int
 A4:Int
 Fo:Int
 DI:Int
 LO:Int
 LP:Int
 LQ:Int
 Fp:Int
 cls:Int
instance:Inhabited JX:=⟨⟨0,0,0,0,0,0,0,0,0⟩⟩
@[go_sem] def JX.cells(x:JX):List D:=[.raw (.int .u16 x.A3),.raw (.int .u16 x.A4),.raw (.int .u16 x.Fo),.raw (.int .u16 x.DI),.raw (.int .u16 x.LO),.raw (.int .u16 x.LP),.raw (.int .u16 x.LQ),.raw (.int .u16 x.Fp),.raw (.int .i64 x.cls)]
def JX.rows(l:List JX):Nat->List D:=λi=>(l.getD i default).cells
@[go_sem] theorem JX.j4(l:List JX)(i):JX.rows l i=(l.getD i default).cells:=rfl
def JX.Ok(x:JX):Prop:=(Lit.int .u16 x.A3).wf=true/\(Lit.int .u16 x.A4).wf=true/\(Lit.int .u16 x.Fo).wf=true/\(Lit.int .u16 x.DI).wf=true/\(Lit.int .u16 x.LO).wf=true/\(Lit.int .u16 x.LP).wf=true/\(Lit.int .u16 x.LQ).wf=true/\(Lit.int .u16 x.Fp).wf=true/\(Lit.int .i64 x.cls).wf=true/\True
def QtN:Rd prog 77 JX.Ok JX.cells:=
 Rd.map (Rd.struct (Z7:=9) underlying77 τ (KL.cons (Rd.array underlying58 τ (qA.cons π (Rd.int .u16 underlying56) (qA.cons π (Rd.int .u16 underlying56) (qA.cons π (Rd.int .u16 underlying56) (qA.cons π (Rd.int .u16 underlying56) qA.nil))))) (KL.cons (Rd.array underlying58 τ (qA.cons π (Rd.int .u16 underlying56) (qA.cons π (Rd.int .u16 underlying56) (qA.cons π (Rd.int .u16 underlying56) (qA.cons π (Rd.int .u16 underlying56) qA.nil))))) (KL.cons (Rd.int .i64 underlying3) KL.nil rfl τ π) rfl τ π) rfl τ π)) (λp=>⟨p.1.1,p.1.2.1,p.1.2.2.1,p.1.2.2.2.1,p.2.1.1,p.2.1.2.1,p.2.1.2.2.1,p.2.1.2.2.2.1,p.2.2.1⟩) (λ_=>rfl) (λ_ h=>⟨h.1.1,h.1.2.1,h.1.2.2.1,h.1.2.2.2.1,h.2.1.1,h.2.1.2.1,h.2.1.2.2.1,h.2.1.2.2.2.1,h.2.2.1,trivial⟩)
structure Zd where
 kind:Int
 changes:(List Z4)
 rules:(List JX)
 ZA:Pk
 KM:Int
instance:Inhabited Zd:=⟨⟨0,[],[],default,0⟩⟩
@[go_sem] def Zd.cells(x:Zd):List D:=[.raw (.int .i64 x.kind),.imm 15 x.changes.length (Z4.rows x.changes),.imm 9 x.rules.length (JX.rows x.rules),.raw (.int .u64 x.ZA.iD),.raw (.int .i64 x.ZA.len),.raw (.int .u16 x.ZA.xF),.raw (.int .u16 x.ZA.xG),.raw (.int .u16 x.ZA.xH),.raw (.int .u16 x.ZA.xI),.raw (.int .u64 x.KM)]
def Zd.rows(l:List Zd):Nat->List D:=λi=>(l.getD i default).cells
@[go_sem] theorem Zd.j4(l:List Zd)(i):Zd.rows l i=(l.getD i default).cells:=rfl
def Zd.Ok(x:Zd):Prop:=(Lit.int .i64 x.kind).wf=true/\(x.changes.length<=maxLen/\∀a∈x.changes,Z4.Ok a)/\(x.rules.length<=maxLen/\∀a∈x.rules,JX.Ok a)/\Pk.Ok x.ZA/\(Lit.int .u64 x.KM).wf=true/\True
def QtO:Rd prog 67 Zd.Ok Zd.cells:=
 Rd.map (Rd.struct (Z7:=10) underlying67 τ (KL.cons (Rd.int .i64 underlying3) (KL.cons (Rd.slice 15 underlying64 τ π QtM) (KL.cons (Rd.slice 9 underlying65 τ π QtN) (KL.cons QtK (KL.cons (Rd.int .u64 underlying40) KL.nil rfl τ π) rfl τ π) rfl τ π) rfl τ π) rfl τ π)) (λp=>⟨p.1,p.2.1,p.2.2.1,p.2.2.2.1,p.2.2.2.2.1⟩) (λ_=>rfl) (λ_ h=>⟨h.1,h.2.1,h.2.2.1,h.2.2.2.1,h.2.2.2.2.1,trivial⟩)
structure WU where
 config:Cf
 ops:(List Zd)
instance:Inhabited WU:=⟨⟨default,[]⟩⟩
@[go_sem] def WU.cells(x:WU):List D:=[.raw (.int .i64 x.config.t),.raw (.int .i64 x.config.JI),.imm 10 x.ops.length (Zd.rows x.ops)]
def WU.rows(l:List WU):Nat->List D:=λi=>(l.getD i default).cells
@[go_sem] theorem WU.j4(l:List WU)(i):WU.rows l i=(l.getD i default).cells:=rfl
def WU.Ok(x:WU):Prop:=Cf.Ok x.config/\(x.ops.length<=maxLen/\∀a∈x.ops,Zd.Ok a)/\True
def QtP:Rd prog 26 WU.Ok WU.cells:=
 Rd.map (Rd.struct (Z7:=3) underlying26 τ (KL.cons QtJ (KL.cons (Rd.slice 10 underlying24 τ π QtO) KL.nil rfl τ π) rfl τ π)) (λp=>⟨p.1,p.2.1⟩) (λ_=>rfl) (λ_ h=>⟨h.1,h.2.1,trivial⟩)
@[go_sem] def Qb(n:Int):D:=.raw (.int .i64 n)
@[go_sem] def QX(b:Bool):D:=.raw (.bool b)
@[go_sem] def ints(l:List Int):D:=.imm 1 l.length (pA .i64 l)
structure Ev where
 op:Int
 J9:Bool
 real:Bool
 at_:Int
 done:Int
 cls:Int
 id:Int
 len:Int
 h0:Int
 h1:Int
 h2:Int
 h3:Int
instance:Inhabited Ev:=⟨⟨0,false,false,0,0,0,0,0,0,0,0,0⟩⟩
@[go_sem] def Ev.cells(e:Ev):List D:=[.raw (.int .i64 e.op),.raw (.bool e.J9),.raw (.bool e.real),.raw (.int .u64 e.at_),.raw (.int .u64 e.done),.raw (.int .i64 e.cls),.raw (.int .u64 e.id),.raw (.int .i64 e.len),.raw (.int .u16 e.h0),.raw (.int .u16 e.h1),.raw (.int .u16 e.h2),.raw (.int .u16 e.h3)]
def Ev.Ok(x:Ev):Prop:=(Lit.int .i64 x.op).wf=true/\(Lit.int .u64 x.at_).wf=true/\(Lit.int .u64 x.done).wf=true/\(Lit.int .i64 x.cls).wf=true/\(Lit.int .u64 x.id).wf=true/\(Lit.int .i64 x.len).wf=true/\(Lit.int .u16 x.h0).wf=true/\(Lit.int .u16 x.h1).wf=true/\(Lit.int .u16 x.h2).wf=true/\(Lit.int .u16 x.h3).wf=true
def Ev.rows(l:List Ev):Nat->List D:=λi=>(l.getD i default).cells
@[go_sem] theorem Ev.j4(l:List Ev)(i):Ev.rows l i=(l.getD i default).cells:=rfl
@[go_sem] def Fq(l:List Ev):D:=.imm 12 l.length (Ev.rows l)
def wrap64{n}(b:-9223372036854775808<=n)(a:n<=9223372036854775807):IntKind.i64.wrap n=n:=by
 rw[IntKind.wrap_i64];omega
def JT{k:Nat}(h:k<4611686018427387904):IntKind.i64.wrap ((k:Int)+1)=((k+1:Nat):Int):=by
 rw[wrap64 ω ω];rfl
def bz{n:Nat}(h:n=0):((n:Int)==0)=true:=by simp[h]
def pC{n:Nat}(h:n≠0):((n:Int)==0)=false:=by simp[h]
def dp{n:Nat}(h:n≠0):decide ((0:Int)<n)=true:=ξ
def dnp{n:Nat}(h:n=0):decide ((0:Int)<n)=false:=by simp[h]
def pD{a:Type}(l:List a)(x d:a)(i)(b:i<l.length+1):(l++[x]).getD i d=bif decide (i<l.length) then l.getD i d else x:=by
 by_cases h:i<l.length
 .simp[h,JO h]
 .have:i=l.length:=ω;subst this;simp
def QO(d:D):D->List Ob->Prop:=λa h=>a=d/\h=[]
attribute [go_sem] QO
def QO.flat{d:D}(b:d.flat=true):∀a h,QO d a h->a.flat=true/\∀o∈h,o.flat:=by
 rintro a h ⟨rfl,rfl⟩;exact⟨b,σ⟩
def getD_take{a:Type}(l:List a)(d:a)(k)(h:k<l.length):l.take (k+1)=l.take k++[l.getD k d]:=by
 rw[zD,QG h];simp[QY,QG h]
def mixed:prog.follows .mixedOrders=true:=τ
def getD_map{a b:Type}(f:a->b)(l:List a)(d:a)(e:b)(i)(h:i<l.length):(l.map f).getD i e=f (l.getD i d):=by simp[QY,h]
def Yx{a:Type}(l:List a)(d:a)(i)(h:i<l.length):l.getD i d∈l:=by simp[QY,h]
def wf_u64{n:Int}(h:(Lit.int .u64 n).wf=true):0<=n/\n<=18446744073709551615:=by
 simp only[Lit.wf,ZL,X4]at h;exact h
def wf_u16{n:Int}(h:(Lit.int .u16 n).wf=true):0<=n/\n<=65535:=by
 simp only[Lit.wf,ZL,X4]at h;exact h
def fx{n}(b:0<=n)(a:n<=18446744073709551615):IntKind.u64.wrap n=n:=η
@[go_sem] theorem QF8:((0:Nat):Int)=0:=rfl
@[go_sem] theorem QF9:((1:Nat):Int)=1:=rfl
@[go_sem] theorem QGa:((2:Nat):Int)=2:=rfl
@[go_sem] theorem QGb:((3:Nat):Int)=3:=rfl
@[go_sem] theorem QGc:((4:Nat):Int)=4:=rfl
@[go_sem] theorem QGd:((5:Nat):Int)=5:=rfl
@[go_sem] theorem QGe:((6:Nat):Int)=6:=rfl
@[go_sem] theorem QGf:((7:Nat):Int)=7:=rfl
@[go_sem] theorem QGg:((8:Nat):Int)=8:=rfl
@[go_sem] theorem QGh:((9:Nat):Int)=9:=rfl
@[go_sem] theorem QGi:((10:Nat):Int)=10:=rfl
def WC{a b:Int}(h:a=b):(a==b)=true:=by simp[h]
def VU{a b:Int}(h:a≠b):(a==b)=false:=by simp[h]
def QtR{a b:Int}(h:a=b):(a != b)=false:=by simp[h]
end Go.Fg.X
namespace Go.Fg
open Go.RowKit (Below)
def OL(a:List ZF):Prop:=(a.map (·.b)).Pairwise (·<·)
def kX.QfE{Z}{h}{f}{w}{q}{c}{b}{a}(E:kX Z h f w q c b a):OL b:=by
 unfold OL;rw[List.pairwise_iff_getElem];intro i j e d g;simp only[KK]at e d;have k:=E.len;obtain⟨_,_,m,_⟩:=E.at_ i b[i] a[i] (QG e) (QG ω);obtain⟨_,_,l,_⟩:=E.at_ j b[j] a[j] (QG d) (QG ω);have:=E.inc i j a[i] a[j] g (QG ω) (QG ω);simp only[List.getElem_map];omega
def OL.nodup{a:List ZF}(B:OL a):(a.map (·.b)).Nodup:=by
 unfold List.Nodup;exact List.Pairwise.imp (λh=>Nat.ne_of_lt h) B
def yD(b:List ZF)(a:List Nat):Nat:=(b.filter λe=>!a.contains e.b).length
def QfF:∀{a:List ZF} {seen:List Nat} {e:ZF},e∈a->e.b ∉ seen->yD a (seen++[e.b])<yD a seen
 | [],_,_,h,_=>by simp at h
 | x::a,seen,e,h,d=>by
  have b:∀a:List ZF,yD a (seen++[e.b])<=yD a seen:=λa=>by
   induction a with
   | nil=>exact QB _
   | cons y r c=>
    simp only[yD,xk]at c ⊢;by_cases g:y.b∈seen<;>by_cases f:y.b=e.b<;>simp_all<;>omega
  rcases QF.1 h with rfl|h
  .have:=b a;simp only[yD,xk]at this ⊢
   simp_all
   omega
  .have:=QfF h d;simp only[yD,xk]at this ⊢;by_cases g:x.b∈seen<;>by_cases f:x.b=e.b<;>simp_all<;>omega
section
variable {P:Program}{L:Je}{base nt:Nat}{w0:Start}{Q:Exit->St->Prop}
def QtS{Z:Nat->Prop}{s:St}{d:List Pl}{a:Act}{w:World}(r:Rel Z base nt s d a w){l c:Nat}{i:List ZF}{f:Kd}{q:IntKind}(k:f.ty=1)(e:s.h[l]? = some (Wr f q c i)):OL i:=by
 have h:l<d.length:=by rw[r.o.len];exact KA e
 cases g:d[l] with
 | none=>
  have:=r.o.V0 l _ e (by rw[QG h,g]);simp[Wr]at this
 | some j=>
  obtain⟨b,p⟩:=j;obtain⟨_,x⟩:=r.o.at_ l _ b p e (by rw[QG h,g]);obtain⟨_,m,_,E⟩:=cO k x;exact E.QfE
def QtT{e:Code}{k:List Item}{s:St}{l c:Nat}{es:List ZF}{kd:Kd}{q:IntKind}(h:kd.ty=1)(g:s.h[l]? = some (Wr kd q c es))(d:OL es->Qw P base nt w0 Q (.code e::k) .normal s):Qw P base nt w0 Q (.code e::k) .normal s:=by
 simp only[Qw]at d ⊢;intro Z z f a w r b;exact d (QtS r h g) Z z f a w r b
def QtU{o:Oper}{s}{x}(ho:o.op=.entry x){u l c}{k}{f}{q}{v}{e}
  (W:Qq s.fr x=.mref u 0) (N:s.h[u]? = some (Yv l c c (f++[e.b]))) (O:v.ty=1) (M:s.h[l]? = some (Wr v q c k)) (he:e∈k):WA P base nt o s (.tup [.raw (.int q e.k),e.v]):=by
 intro Z pl a w r;have K:=r.eval x;rw[W]at K;obtain⟨o',p,b,t,n,h3,h4,z⟩:=GG K;rw[N]at t;cases t;have z:=z rfl;rw[z]at n;obtain⟨Zw,S⟩:=r.o.at_ u _ b 0 N n;obtain⟨_,m,U,hb,BV,Sf⟩:=Qcf S;have Y:a.eval x=.pointer (some ⟨b,0,none⟩):=h3.2;obtain⟨o2,p2,bm,H,F,h,k4,y⟩:=GG Sf;rw[M]at H;cases H;have y:=y rfl;rw[y]at F;have h:=h.2;rw[show (Wr v q c k).kd.ty=1 from O]at h;have h:m=bm:=by simpa[RV] using h
 subst h;obtain⟨Lm,V⟩:=r.o.at_ l _ m 0 M F;obtain⟨_,d,R,E⟩:=cO O V;have hl:k.length=d.toList.length:=E.len;obtain⟨j,I⟩:=GA he;have Qc:=(Xa.1 I).1;obtain⟨d1,d2,d3,d4⟩:=E.at_ j e (d.toList[j]'ω) I (QG ω);have Jb:(d.toList.map (·.born)).Nodup:=by
  have:d.toList.map (·.born)=k.map (·.b):=by
   apply List.ext_getElem (by simp[hl]);intro i t n;simp only[KK]at t n;obtain⟨_,_,g,_⟩:=E.at_ i (k[i]'ω) (d.toList[i]'ω) (QG ω) (QG ω);simp only[List.getElem_map,g]
  rw[this];exact E.QfE.nodup
 have C:U=(f.toArray).push (d.toList[j]'ω).born:=by
  apply Array.toList_inj.1;rw[BV,d3];simp
 have B:=hb;rw[C]at B;refine⟨.tuple #[(d.toList[j]'ω).key,(d.toList[j]'ω).val],?_,λT J=>?_⟩
 .rw[d1];exact .tup _ [.int q e.k,(d.toList[j]'ω).val] rfl λi hi=>match i,hi with
   | 0,_=>.cl _ _ (.raw _)
   | 1,_=>d2
 .have Zf:=run_entry_at (P:=P) T b m c f.toArray d c (d.toList[j]'ω) (by rw[J b (kO B)];exact B) (by rw[J m (kO R)];exact R) (X0 _) Jb;simp[execOp,ho,Y,Zf]
def QtW{k}{a}{f:TypeId}{pos}{b}{j}{r}{s}{x}{li l c}{es}{seen}{q}{kd}{e}
  (g:Qq s.fr x=.mref li 0) (n:s.h[li]? = some (Yv l c c (seen++[e.b]))) (o:kd.ty=1) (m:s.h[l]? = some (Wr kd q c es)) (i:e∈es) (h:Zn nt a=true)
  (d:Qw P base nt w0 Q (.ops r::k) .normal ⟨Zg s.fr a (.tup [.raw (.int q e.k),e.v]),s.h⟩) :
  Qw P base nt w0 Q (.ops ((⟨a,.entry x,f,pos,b,j⟩,none)::r)::k) .normal s:=by
 simp only[Qw]at d ⊢;exact nT (QtU rfl g n o m i) h d
end
def qZ(a c:Nat)(d:List D)(b:Nat->List D):Nat->List D:=λk=>bif Nat.ble a k&&Nat.blt k (a+c) then d else b k
def pE{a c k}{d}{b}(h:k<a):qZ a c d b k=b k:=by
 have:Nat.ble a k=false:=by rw[<- Yq,IK];omega
 simp[qZ,this]
section
variable {P:Program}{L:Je}{base nt:Nat}{s:St}{o:Oper}
def QtX(hL:Z9 P L){t e:TypeId}{x}{l g f j a b c}{z}{zt}{d}(E:o.op=.call ⟨.builtin .clear,#[x],#[t]⟩)(hx:Qq s.fr x=.ref l g f j)(y:s.h[l]? = some d)
  (n:d.kd.IS=false) (hg:d.gen=g) (C:d.sz=1) (V:d.kd.ro=false) (hn:f+j<=d.n) (ht:ty L t=some ⟨.slice e,a,b,zt⟩) {k:TK} (he:ty L e=some ⟨k,1,c,[z]⟩) (hz:Az z=true) :
  jQ P base nt o s (s.h.set l ⟨d.kd,d.gen,d.sz,d.n,qZ f j [J8 z] d.row⟩) (.tup []):=by
 refine IZ.up ?_ (by simp[calm,E]);intro Z B ac w r KQ;have hv:=r.eval x;rw[hx]at hv;obtain⟨o',p',ad,a1,H,ZM,S,Q,kN,Vq⟩:=EO hv;rw[y]at ZM;cases ZM;have hy:=hL _ _ ht;have WM:=hL _ _ he;have J:P.underlying t=some (.slice e):=ym hy rfl;obtain⟨zv,yn,zJ⟩:=WM.zeroValue;have ET:zv.cells=#[z]:=by apply Array.toList_inj.1;rw[yn]
 have GN:(Builtin.zeroCells zv.cells j).toList=List.replicate j z:=by
  rw[ET];simp[Builtin.zeroCells];apply List.ext_getElem
  .simp
  .intro i h1 h2;simp[Nat.mod_one]
 have U:∀Z' h' Qj p,QC Z' h' Qj p (J8 z) z:=λZ' h' Qj p=>
  .cl _ _ (Di _ _ _)
 rcases Vq hg.symm with ⟨I,OM⟩|⟨O,q,c0,el,Wz,W,Zw,a2,Dl⟩
 .subst I;have ZU:∀i,qZ f 0 [J8 z] d.row i=d.row i:=λi=>by
   unfold qZ;cases h1:Nat.ble f i&&Nat.blt i (f+0)
   .rfl
   .simp at h1;omega
  have jm:s.h.set l ⟨d.kd,d.gen,d.sz,d.n,qZ f 0 [J8 z] d.row⟩=s.h:=by
   have u:(⟨d.kd,d.gen,d.sz,d.n,qZ f 0 [J8 z] d.row⟩:Ob)=d:=by rw[funext ZU]
   rw[u];exact Am λi=>by
    by_cases h:l=i
    .subst h;rw[Xb (KA y),y]
    .rw[JP h]
  rw[jm];refine⟨.tuple #[],w,B,.inl ?_,Tr.refl _ _ _,r.o,.tup [] [] rfl (λi K=>absurd K (X2 i)),Below.refl _ _⟩;subst OM;cases ad<;>simp[execOp,E,H,resolve,invoke,Go.builtin,Builtin.clear_,run_underlying J]
 .subst Wz;obtain⟨Q5,xx⟩:=r.o.at_ l d O q y S;obtain⟨c1,mO,F,La,JS,ZU⟩:=xx.cells Q;rw[F]at Zw;cases Zw;have JL:∀c2:Nat->List D,(⟨d.kd,d.gen,d.sz,d.n,c2⟩:Ob).kd=d.kd:=λ_=>rfl;obtain⟨p,c',g1,g2,N,g4,M,g6,g7,g8,g9⟩:=cr (P:=P) O el (List.replicate j z) 0 (q+f*d.sz) w c0 F (by simp;rw[C]at La ⊢;omega) (λk n=>by
   have R:k<j:=by simpa using n
   have:Q7 (List.replicate j z) k=z:=by simp[Q7,QY,R]
   rw[this];exact hz)
  have T:Tr s.h B w (s.h.set l ⟨d.kd,d.gen,d.sz,d.n,qZ f j [J8 z] d.row⟩) B p:=Tr.Q4 r.o y S rfl rfl rfl (λk n _=>M k n) (λc2 a0 e2=>by rw[F]at e2;cases e2;exact⟨c',g2,N⟩);refine⟨.tuple #[],p,B,.inl ?_,T,?_,.tup [] [] rfl (λi K=>absurd K (X2 i)),NT (Q5 V) M g6 g7 g8 g9⟩
  .subst W;by_cases I:j=0
   .subst I;have u:p=w:=by
     have:(storeCells ⟨O,q+f*d.sz,none⟩ (List.replicate 0 z) 0).run P w=.ok () w:=by simp[storeCells]
     rw[g1]at this;cases this;rfl
    rw[u];simp[execOp,E,H,resolve,invoke,Go.builtin,Builtin.clear_,run_underlying J]
   .obtain⟨m,rfl⟩:∃m,j=m+1:=⟨j - 1,ω⟩;simp[execOp,E,H,resolve,invoke,Go.builtin,Builtin.clear_,run_underlying J,zJ,GN,g1]
  .refine Zl.Q4 (hro:=rfl) r.o y S Q Q rfl rfl (λk n _=>M k n) F g2 N (by rw[N];exact La) (λk n=>?_) (λk m n hm=>?_)
   .show (qZ f j [J8 z] d.row k).length=d.sz;unfold qZ;cases Nat.ble f k&&Nat.blt k (f+j)
    .exact JS k n
    .simp[C]
   .have R:k<d.n:=n;have XS:m<d.sz:=hm;show ∃v,c'[q+(k*d.sz+m)]? = some v/\QC Z _ B p (nth (qZ f j [J8 z] d.row k) m) v;rw[C]at XS;have Lm:m=0:=ω;subst Lm;have fy:k*d.sz+0=k:=by rw[C];omega
    have Y:q+f*d.sz+0=q+f:=by rw[C];omega
    rw[g4,fy,Y];simp only[List.length_replicate];by_cases Wt:f<=k/\k<f+j
    .rw[Qe ω];have u:qZ f j [J8 z] d.row k=[J8 z]:=by simp[qZ,Ff,QoN,Wt.1,Wt.2]
     rw[u];exact⟨z,by rw[List.getElem?_replicate,Qe ω],U _ _ _ _⟩
    .rw[Qd ω];have u:qZ f j [J8 z] d.row k=d.row k:=by
      unfold qZ;cases h:(Nat.ble f k&&Nat.blt k (f+j))
      .rfl
      .simp at h;omega
     rw[u];obtain⟨v,GL,Wd⟩:=ZU k 0 R ω;rw[fy]at GL;exact⟨v,GL,Wd.tr T⟩
end
section
variable {P:Program}{L:Je}{base nt:Nat}{w0:Start}{Q:Exit->St->Prop}
def pG(I:Z9 P L)(H:base<=w0.w.heap.size){k}{i}{M:TypeId}{pos}{j}{J}{r}{s}{t e:TypeId}{x}{l g f h a b c}{z}{o}{d}
  (u:Qq s.fr x=.ref l g f h) (K:s.h[l]? = some d)
  (B:d.kd.IS=false) (C:d.gen=g) (w:d.sz=1) (m:d.kd.ro=false) (y:f+h<=d.n) (v:ty L t=some ⟨.slice e,a,b,o⟩) {p:TK} (E:ty L e=some ⟨p,1,c,[z]⟩) (q:Az z=true) (F:Zn nt i=true)
  (n:Qw P base nt w0 Q (.ops r::k) .normal ⟨Zg s.fr i (.tup []),s.h.set l ⟨d.kd,d.gen,d.sz,d.n,qZ f h [J8 z] d.row⟩⟩) :
  Qw P base nt w0 Q (.ops ((⟨i,.call ⟨.builtin .clear,#[x],#[t]⟩,M,pos,j,J⟩,none)::r)::k) .normal s:=by
 simp only[Qw]at n ⊢;exact cZ H (QtX I rfl u K B C w m y v E q) F n
end
def QM.cut{P}{f}{F}{k}{R R'}(hf:QM P f F k R)
  (s:∀d h,R d h->∃l o n,h[l]? = some o/\o.kd.ty=0/\n<=o.n/\R' d (h.set l ⟨o.kd,o.gen,o.sz,n,o.row⟩)):QM P f F k R':=by
 intro Z y w pl vs h1 h2 h3 t K;refine(hf Z y w pl vs h1 h2 h3 t K).mono λe w' he=>?_;obtain⟨v,d,h,Qj,rfl,hR,r,hV,B,hB⟩:=he;obtain⟨l,o,n,z,S,I,M⟩:=s _ _ hR;have t:=KA z;have a:∀(x:Nat) (u:Ob),h[x]? = some u->∃m,(h.set l ⟨o.kd,o.gen,o.sz,n,o.row⟩)[x]? = some m/\m.gen=u.gen/\m.sz=u.sz/\m.kd.ty=u.kd.ty:=λx u e=>by
  by_cases hx:l=x
  .subst hx;rw[z]at e;cases e;exact⟨_,Xb t,rfl,rfl,rfl⟩
  .exact⟨u,by rw[JP hx];exact e,rfl,rfl,rfl⟩
 refine⟨v,d,_,Qj,rfl,M,⟨by simp[r.len],r.inj,λx u e g=>?_,λx u b q e g=>?_⟩,hV.DE a,⟨B.Ko,λx u p e g=>?_,λx u m b q e e' hg g c el K=>?_⟩,hB⟩
 .by_cases hx:l=x
  .subst hx;rw[Xb t]at e;cases e;have:=r.V0 l o z g;show n=0;omega
  .rw[JP hx]at e;exact r.V0 x u e g
 .by_cases hx:l=x
  .subst hx;rw[Xb t]at e;cases e;obtain⟨L,H⟩:=r.at_ l o b q z g;obtain⟨c,el,c1,c2,c3,c4⟩:=H.cells S;refine⟨L,.NO S ⟨c,el,c1,?_,λi J=>c3 i (wg J I),λi j J hj=>?_⟩⟩
   .have:=XL o.sz I;show q+n*o.sz<=c.size;omega
   .obtain⟨u,hu,s⟩:=c4 i j (wg J I) hj;exact⟨u,hu,s.DE a⟩
  .rw[JP hx]at e;obtain⟨L,H⟩:=r.at_ x u b q e g;exact⟨L,H.to rfl rfl rfl rfl (λ_ _=>rfl) λi j v _ _ s=>s.DE a⟩
 .obtain⟨m,Q,E,Y,a3,W,V⟩:=B.obj x u p e g;obtain⟨N,C,b2,U,T⟩:=a x m E;exact⟨N,Q,C,Y,ω,by rw[T,W],λhh=>by rw[U];exact V ω⟩
 .obtain⟨O,Q,E,Y,a3,W,V⟩:=B.obj x u _ e g;obtain⟨N,C,b2,U,T⟩:=a x O E;rw[e']at C;cases C;exact B.shape x u O b q e E ω g c el K
section
variable {P:Program}{L:Je}{base nt:Nat}{s:St}{o:Oper}
def Qt2(j:Z9 P L){t:TypeId}{x:Operand}(i:o.op=.call ⟨.builtin .cap,#[x],#[t]⟩)(f:Qq s.fr x=.nil){e a b:Nat}{d:List Value}(h:ty L t=some ⟨.slice e,a,b,d⟩):WA P base nt o s (.raw (.int .i64 0)):=by
 intro Z l m w r;have c:=r.eval x;rw[f]at c;obtain⟨n,g⟩:=Ax c;refine⟨_,.cl _ _ (.raw _),λk _=>?_⟩;rw[kQ i];simp[builtin,g,Builtin.cap_,run_underlying (ym (j _ _ h) rfl),goInt]
def Qt3{t l e:TypeId}{ty0:TypeId}{y:Ty}{k J:IntKind}(N:P.underlying t=some (.slice e))(U:P.underlying l=some (.int J))(c:Xc P e y)(p:y.zero.length=y.size)(V:0<y.size)(w:World)(b:Option Addr)(n:Nat)
  (O:0<n) (K:n<=4294967296) (C:y.bytes<=1024) :
  ∃f a,(Builtin.append_ #[t,l] ty0 #[.slice b 0 0,.int k n]).run P w=.ok (.slice (some ⟨w.heap.size,0,none⟩) n f) (w.drew.alloc (.cells ((flat n y.size λ_ j=>Q7 y.zero j).toArray++a) e))/\n<=f/\a.size=(f - n)*y.size:=by
 obtain⟨z,d,B⟩:=c.zeroValue;obtain⟨i,r,Y,m⟩:=c.typeInfo w;have S:∀w,(typeInfo e).run P w=.ok i w:=λw=>by
  have u:=c.info;cases hx:P.info? e with
  | none=>rw[hx]at u;cases u
  | some k=>
   simp[typeInfo,hx]at r ⊢;exact r
 refine⟨grownCap w n 0 e,Builtin.zeroCells z.cells (grownCap w n 0 e - n),?_,grownCap_ge _ _ _ _,by rw[ni];congr 1;rw[<- p,<- d];simp⟩;have q:¬ n=0:=ω;have M:IntKind.i64.wrap (n:Int)=n:=by rw[IntKind.wrap_i64];omega
 have I:¬ (9223372036854775807<(n:Int)):=ω;have x:n*y.bytes<=4294967296*1024:=Ys K C;have H:¬ (281474976710656<Builtin.nextslicecap n 0*i.bytes):=by rw[nextslicecap_zero O,m];omega
 have F:¬ (281474976710656<(n:Int)*(i.bytes:Int)):=by
  rw[<- EF,m];omega
 have R:¬ ((n:Int)<0):=ω;have T:¬ (n*y.size=0):=Nat.mul_ne_zero q ω;have h:z.cells.size=y.size:=by rw[<- p,<- d];simp
 have E:(flat n y.size λ_ j=>Q7 y.zero j).toArray=Builtin.zeroCells z.cells n:=by
  apply Array.ext
  .rw[ni,h];simp[zH]
  .intro j v W;simp only[GC,zH]at v;obtain⟨d1,d2,d3⟩:=div_lt v;have Q:y.zero=z.cells.toList:=d.symm;have g:j % y.size<z.cells.size:=by rw[h];exact d2
   simp[flat,Builtin.zeroCells,Q7,Q,QY,h,g];rw[getElem!_pos z.cells _ g,jK g];rfl
 rw[E];cases b<;>simp[Builtin.append_,run_underlying N,run_underlying U,c.sizeOf,S,B,asInt,asIntOf,M,q,R,T,I,H,F,Question.forced,Builtin.firstCells,loadCells,loadCellsFrom,newRow,grownCap,askRoom,mark,Sem.run]
def Qt4(p:Z9 P L){t u e:TypeId}{g x:Operand}{n:Nat}{R:IntKind}{a b c d:Nat}{M N:List Value}{y:Ty}{k:IntKind}(z:o.op=.call ⟨.builtin .append,#[g,x],#[t,u]⟩)(BN:Qq s.fr g=.nil)(V:Qq s.fr x=.raw (.int k n))
  (Y:ty L t=some ⟨.slice e,a,b,M⟩) (Ft:ty L u=some ⟨.int R,c,d,N⟩) (WM:ty L e=some y) (m:y.zero.length=y.size) (hs:0<y.size) (h0:0<n) (S:n<=4294967296) (O:y.bytes<=1024) :
  jQ P base nt o s (s.h++[⟨.arr,0,y.size,n,λ_=>y.zero.map J8⟩]) (.ref s.h.length 0 0 n):=by
 refine IZ.up ?_ (by simp[calm,z]);intro Z l ac w r J;have I:=r.eval g;have v:=r.eval x;rw[BN]at I;rw[V]at v;obtain⟨H,NV⟩:=Ax I;have W:=Jt v;have U:=p _ _ WM;have Zb:l.length=s.h.length:=r.o.len;obtain⟨Q,f,Zf,GP,AF⟩:=Qt3 (ty0:=o.type) (k:=k) (ym (p _ _ Y) rfl) (Dh (p _ _ Ft) rfl) U m hs w H n h0 S O;have F:∀b,b<w.heap.size->(w.drew.alloc (.cells ((flat n y.size λ_ j=>Q7 y.zero j).toArray++f) e)).heap[b]? = w.heap[b]? := λb hb=>xq w.drew _ b hb;have K:(w.drew.alloc (.cells ((flat n y.size λ_ j=>Q7 y.zero j).toArray++f) e)).heap[w.heap.size]? = some (.cells ((flat n y.size λ_ j=>Q7 y.zero j).toArray++f) e (0,0)):=heap_alloc_new w.drew _;have T:Tr s.h l w (s.h++[⟨.arr,0,y.size,n,λ_=>y.zero.map J8⟩]) (l++[some (w.heap.size,0)]) (w.drew.alloc (.cells ((flat n y.size λ_ j=>Q7 y.zero j).toArray++f) e)):=Tr.push r.o F _ _ (by intro b q h;simp at h;omega);refine⟨.slice (some ⟨w.heap.size,0,none⟩) n Q,_,_,.inl ?_,T,Zl.push r.o F _ rfl (QB _) J K (by simp[zH]) (λi C=>by simp[m]) (λi j C B=>⟨Q7 y.zero j,?_,?_⟩),.ref _ _ _ _ ⟨.arr,0,y.size,n,λ_=>y.zero.map J8⟩ (some (w.heap.size,0)) _ _ σ (by rw[<- Zb];simp) rfl (QB _) (λ_=>.inr ⟨w.heap.size,0,_,_,rfl,σ,K,?_,GP⟩),((Below.refl base w).drew).alloc J _⟩
 .rw[kQ z];have:(Array.map ac.eval #[g,x])=#[.slice H 0 0,.int k n]:=by simp[NV,W]
  rw[this];simp only[builtin,Sem.run_bind,Zf,Result.andThen_ok,Sem.run_pure]
 .have E:=GM (vs:=λ_ j=>Q7 y.zero j) C B;have Qc:=(Xa.1 E).1;rw[JR,Nv (by simpa using Qc)];simpa using E
 .have Z1:j<y.zero.length:=by rw[m];exact B
  have:nth (y.zero.map J8) j=J8 (Q7 y.zero j):=by simp[nth,Q7,QY,Z1]
  show QC Z _ _ _ (nth (y.zero.map J8) j) _;rw[this];exact .cl _ _ (Di _ _ _)
 .simp only[JR,Array.size_append,GC,zH,AF];rw[<- VM];exact XL _ ω
end
section
variable {P:Program}{L:Je}{base nt:Nat}{w0:Start}{Q:Exit->St->Prop}
def pI(l:Z9 P L){k:List Item}{c:Option Nat}{n:TypeId}{pos:String}{d:Array Edge}{m:Option (Nat × Bool)}{r:List (Oper × G)}{s:St}{t e a b:Nat}{x:Operand}{g:List Value}
  (h:Qq s.fr x=.nil) (i:ty L t=some ⟨.slice e,a,b,g⟩) (j:Zn nt c=true) (f:Qw P base nt w0 Q (.ops r::k) .normal ⟨Zg s.fr c (.raw (.int .i64 0)),s.h⟩) :
  Qw P base nt w0 Q (.ops ((⟨c,.call ⟨.builtin .cap,#[x],#[t]⟩,n,pos,d,m⟩,none)::r)::k) .normal s:=by
 simp only[Qw]at f ⊢;exact nT (Qt2 l rfl h i) j f
def Qt5(F:Z9 P L)(E:base<=w0.w.heap.size){k:List Item}{f:Option Nat}{M:TypeId}{pos:String}{g:Array Edge}{I:Option (Nat × Bool)}{r:List (Oper × G)}{s:St}{t i e:TypeId}{h x:Operand}{n:Nat}{p:IntKind}{a b c d:Nat}{l m:List Value}{y:Ty}{q:IntKind}
  (N:Qq s.fr h=.nil) (w:Qq s.fr x=.raw (.int q n)) (z:ty L t=some ⟨.slice e,a,b,l⟩) (K:ty L i=some ⟨.int p,c,d,m⟩) (J:ty L e=some y) (v:y.zero.length=y.size) (B:0<y.size) (H:0<n) (u:n<=4294967296) (o:y.bytes<=1024) (C:Zn nt f=true)
  (j:Qw P base nt w0 Q (.ops r::k) .normal ⟨Zg s.fr f (.ref s.h.length 0 0 n),s.h++[⟨.arr,0,y.size,n,λ_=>y.zero.map J8⟩]⟩) :
  Qw P base nt w0 Q (.ops ((⟨f,.call ⟨.builtin .append,#[h,x],#[t,i]⟩,M,pos,g,I⟩,none)::r)::k) .normal s:=by
 simp only[Qw]at j ⊢;exact cZ E (Qt4 F rfl N w z K J v B H u o) C j
end
section
variable {P:Program}{L:Je}{base nt:Nat}{s:St}{o:Oper}
end
section
variable {P:Program}{L:Je}{base nt:Nat}{w0:Start}{Q:Exit->St->Prop}
end
section
variable {Z:Nat->Prop}
def QC.QfG{h:List Ob}{m:List Pl}{w}{l}{o:Ob}{p}(L:h[l]? = some o)(Q:m[l]? = some p)(U:o.kd.ty=0){d}{v}(r:QC Z h m w d v):QC Z (h.set l o.gone) (m.set l none) w d v:=by
 have M:∀(c:Nat),c≠l->(m.set l none)[c]? = m[c]? := λc W=>by rw[JP (Q9 W)]
 have Y:∀b,Xy m b->Xy (m.set l none) b:=λb n c q e=>by
  by_cases R:c=l
  .subst R;rw[Xb (Wp Q)]at e;cases e
  .rw[M c R]at e;exact n c q e
 have S:∀b,free Z m b->free Z (m.set l none) b:=λb n=>⟨n.1,Y b n.2⟩;have O:(h.set l o.gone)[l]? = some o.gone:=Xb (KA L);have K:(m.set l none)[l]? = some none:=Xb (Wp Q);induction r with
 | cl d v V=>exact .cl _ _ (V.mono λb n _=>⟨S b n,rfl⟩)
 | ref c g H I x u a J k F s C z=>
  by_cases e:c=l
  .subst e;rw[L]at k;cases k;exact .ref _ g H I o.gone none a J O K rfl (by simp[Ob.gone];omega) (λN=>by simp[Ob.gone]at N;omega)
  .exact .ref _ g H I x u a J (by rw[JP (Q9 e)];exact k) (by rw[M c e];exact F) s C z
 | ptr c g i j x u a k F s C z=>
  by_cases e:c=l
  .subst e;rw[L]at k;cases k;exact .ptr _ g i j o.gone none a O K rfl (by simp[Ob.gone];omega) (λN=>by simp[Ob.gone]at N;omega)
  .exact .ptr _ g i j x u a (by rw[JP (Q9 e)];exact k) (by rw[M c e];exact F) s C z
 | mref c g x u b k F s C z=>
  by_cases e:c=l
  .subst e;rw[L]at k;cases k;exact absurd U s.1
  .exact .mref _ g x u b (by rw[JP (Q9 e)];exact k) (by rw[M c e];exact F) s C z
 | clo f T E t B P y=>exact .clo f T E t B y
 | agg E t B P y=>exact .agg E t B y
 | tup E t B P y=>exact .tup E t B y
end
def QfI(F h:List Ob):Prop:=∀(l:Nat) (o:Ob),F[l]? = some o->∃a,h[l]? = some a/\a.gen=o.gen
def Qr.SZ{k:Start}(hF:k.pl.length=k.F.length){fr}{h:List Ob}(P:QfI k.F h)(t l)(hl:k.F.length<=l){o:Ob}{off len}(ht:get fr t=.ref l o.gen off len)(E:h[l]? = some o)(hn:off+len<=o.n)(L:o.kd.ty=0)(Zx:∀i,i<o.n->(o.row i).all D.XO=true):
  Qr k ⟨fr,h⟩ ⟨put fr t (.imm o.sz len (rowFrom off o.row)),h.set l o.gone⟩:=by
 intro Z z V nt f a w r b;have F:f.length=h.length:=r.o.len;have U:l<f.length:=by have g:=KA E;omega
 have n:f[l]? = some f[l]:=QG U;generalize nF:f[l]=p at n;have oJ:∀d q:Nat,p=some (d,q)->k.w.heap.size<=d:=λd q e=>by
  subst e;rcases xn d k.w.heap.size with Qc|Xd
  .exfalso;have YP:¬ Xy k.pl d:=λha=>(b.2.1.Ko d ha Qc).1 l q n;obtain⟨J,g⟩:=Nw.1 YP;obtain⟨Y,N⟩:=Nw.1 g;have S:=Classical.not_not.1 N;have R:J<k.F.length:=by rw[<- hF];exact Wp S
   obtain⟨I,p1,Q,k2,k3,k4,k5⟩:=b.2.1.obj J _ _ (QG R) S;obtain⟨o2,k6,k7⟩:=P J _ (QG R);rw[k6]at Q;cases Q;obtain⟨_,k8⟩:=k5 k7;subst k8;have:=r.o.inj J l d Y q k2 n;omega
  .exact Xd
 have Vq:∀d q,p=some (d,q)->Z d/\(∀c H,f[c]? = some (some (d,H))->c=l)/\NN Z h f w o d q:=λd q e=>by
  have g:=oJ d q e;subst e;exact⟨b.2.2.own l d q n g,λc H e'=>r.o.inj _ _ _ _ _ e' n,(r.o.at_ l o d q E n).2.cells L⟩
 have O:∀(c:Nat),c≠l->(f.set l none)[c]? = f[c]? := λc T=>by rw[JP (Q9 T)]
 have W:(f.set l none)[l]? = some none:=Xb U;have M:∀c d q:Nat,(f.set l none)[c]? = some (some (d,q))->c≠l/\f[c]? = some (some (d,q)):=λc d q e=>by
  by_cases m:c=l
  .subst m;rw[W]at e;cases e
  .exact⟨m,by rw[<- O c m];exact e⟩
 have hh:∀(c:Nat) (s:Ob),c≠l->h[c]? = some s->∃u:Ob,(h.set l o.gone)[c]? = some u/\u.gen=s.gen/\u.sz=s.sz/\u.kd.ty=s.kd.ty:=λc s C e=>
  ⟨s,by rw[JP (Q9 C)];exact e,rfl,rfl,rfl⟩
 have K:Dw k.F.length h f (h.set l o.gone) (f.set l none):=⟨λb' K7 c q e=>K7 c q (M _ _ _ e).2,λc s p' T ZM Z2=>by
  have C:c≠l:=ω;exact⟨s,by rw[JP (Q9 C)];exact ZM,by rw[O c C];exact Z2,rfl,rfl,rfl⟩⟩
 refine⟨f.set l none,⟨r.nt,r.defers,λu=>?_,⟨by simp[F],λy l2 d q H m B=>r.o.inj y l2 d q H (M _ _ _ m).2 (M _ _ _ B).2,λy I g m=>?_,λy I d q g m=>?_⟩⟩,b.keep K⟩
 .show QC Z _ _ w (get (put fr t _) u) _;rw[EM];by_cases e:u=t
  .subst e;rw[Qe rfl];have g:=(r.fr u).fz E n L Vq Zx hh;rw[ht]at g;have N:Nat.ble (off+len) o.n=true:=by rw[IK];exact hn
   simpa only[D.fz,NF,N,Bool.and_self,wi] using g
  .rw[Qd e];exact(r.fr u).QfG E n L
 .by_cases B:y=l
  .subst B;rw[Xb ω]at g;cases g;rfl
  .rw[JP (Q9 B)]at g;rw[O y B]at m;exact r.o.V0 y I g m
 .obtain⟨C,B⟩:=M _ _ _ m;rw[JP (Q9 C)]at g;obtain⟨g1,x⟩:=r.o.at_ y I d q g B;exact⟨g1,x.to rfl rfl rfl rfl (λi _=>rfl) λi j v hi hj hr=>hr.QfG E n L⟩
section
variable {P:Program}{base nt:Nat}{w0:Start}
end
section
variable {P:Program}{base nt:Nat}{w0:Start}{Q:Exit->St->Prop}
end
section
variable {P:Program}{base nt:Nat}{w0:Start}{Q:Exit->St->Prop}
end
end Go.Fg
namespace Go.Fg
section
variable {P:Program}{base nt:Nat}{w0:Start}{Q:Exit->St->Prop}{k:List Item}{s:St}
def ON(P:Program)(base nt:Nat)(w0:Start)(Q:Exit->St->Prop)(k:List Item)(c:Code):Nat->Exit->St->Prop
 | 0,.normal,_=>False
 | n+1,.normal,s=>Qw P base nt w0 (ON P base nt w0 Q k c n) [.code c] .normal s
 | _,e,s=>Qw P base nt w0 Q k e s
@[go_sem] theorem QGl{c}{n}:ON P base nt w0 Q k c (n+1) .normal s=Qw P base nt w0 (ON P base nt w0 Q k c n) [.code c] .normal s:=Vh rfl
@[go_sem] theorem QGm{c}{n j}:ON P base nt w0 Q k c n (.exit j) s=Qw P base nt w0 Q k (.exit j) s:=Vh (by cases n<;>rfl)
@[go_sem] theorem QGn{c}{n}:ON P base nt w0 Q k c n .ret s=Qw P base nt w0 Q k .ret s:=Vh (by cases n<;>rfl)
def xJ(n){c}(h:Qw P base nt w0 (ON P base nt w0 Q k c n) [.code c] .normal s):Qw P base nt w0 Q (.code (.loop c)::k) .normal s:=by
 simp only[Qw];intro Z z l a w r b;refine wp_loop_rounds (n+1) ?_;induction n generalizing s l a w with
 | zero=>
  simp only[Qw]at h;rw[rounds_succ];refine Code.wp_mono (λe a w q=>?_) (h Z z l a w r b);obtain⟨j,i,d,g,f⟩:=q;cases e with
  | normal=>exact d.elim
  | _=>exact⟨j,i,d,g,f⟩
 | succ n m=>
  simp only[Qw]at h;rw[rounds_succ];refine Code.wp_mono (λe a w q=>?_) (h Z z l a w r b);obtain⟨j,i,d,g,f⟩:=q;cases e with
  | normal=>exact m d i a w g f
  | _=>exact⟨j,i,d,g,f⟩
end
end Go.Fg
namespace Go.Fg
section
variable {P:Program}{base nt:Nat}{w0:Start}
def yE(M:base<=w0.w.heap.size){K}{g}{m:TypeId}{i}{H}{r}{s}{x}{c}{J:Array TypeId}{f}{j}{l}(y:Qn P f)
  (q:JF (Qq s.fr x)=some (f,j,l)) {k:List D} (B:KC (Z6 j l (c.toList.map (Qq s.fr))) k) {R:D->List Ob->Prop} (F:QM P f s.h k R)
  (t:Zn nt g=true) (u:∀d h,R d h->AX P base nt w0 K r ⟨Zg s.fr g d,h⟩) :
  AX P base nt w0 K ((false, ⟨g, .call ⟨.value x, c, J⟩, m, "!", i, H⟩, none) :: r) s := by
 simp only[AX,Xq,qV];intro Z z p a w n b;exact Oper.wp_mono (λO N ⟨d,h,L,E,o,I,T,v,e⟩=>⟨λC=>absurd C (by simp[E6]),_,_,L,v,u d h E,o,I,T,e⟩) (QdA M y rfl q (F.args B) t p a w n b _)
end
end Go.Fg
namespace Go.Fg.X
open Go.Proofs Go.Fg
open Go.Proofs.Tryz
@[go_sem] def ol:List Nat:=[0,1,2,3,4,5,6,7,8,9,1010,1011,12]
@[go_sem] def ut:List Nat:=[0,1,2,3,4,5,6,1007]
@[go_sem] def Eq:List Nat:=[0,1,2,3,4,5,6,7,8,9]
@[go_sem] def i4:List Nat:=[0,1,2,3,4,5,6,7,8,1009]
@[go_sem] def i5:List Nat:=[0,1,2,3,4,5,6,7,8,9,10,11,1012]
@[go_sem] def i6:List Nat:=[0,1,2,3,4,5,6,7,8,9,10]
@[go_sem] def i7:List Nat:=[0,1,2,3,4,5,1006]
@[go_sem] def i9:List Nat:=[0,1,2,3,4,5,6,7,1008]
@[go_sem] def ii:List Nat:=[0,1,2,3,4,5,6,7,8,9,10,11,12,1013,14,1015]
@[go_sem] def Id:List Nat:=[0,1,2,3,4,5,6,7,8,9,10,11,1012,13]
@[go_sem] def o00:List Nat:=[0,1,2,3,4,5,6,7,8,9,10,11,1012,13,14]
@[go_sem] def o01:List Nat:=[0,1,2,3,4,5,6,7,8,1009,10,11,1012]
@[go_sem] def o02:List Nat:=[0,1,2,3,4,5,7,8,9,10,11,1006,1012,13,14,15,16,1017]
@[go_sem] def o03:List Nat:=[0,1,2,3,4,5,8,9,10,11,12,1006,7,1013,14,15,16,1017]
@[go_sem] def o04:List Nat:=[0,1,2,3,4,5,6,7,8]
@[go_sem] def o05:List Nat:=[0,1,2,3,4,5,6,7,8,9,10,11,12,13]
@[go_sem] def o06:List Nat:=[0,1,2,3,4,5,6,7,8,9,10,11,12,14,15,1013,16,17]
@[go_sem] def o07:List Nat:=[0,1,2,3,4,5,6,7,8,9,1010]
@[go_sem] def o08:List Nat:=[0,1,2,3,4,5,6,7,8,9,10,11,12,13,14,1015,16,17]
@[go_sem] def o09:List Nat:=[0,1,2,3,4,5,6,7,1008,1009,10,11,12,1013,1014,15]
@[go_sem] def o10:List Nat:=[0,1,2,3,4,5,6,7,8,9,10,11,12,13,14,15,16,17,1018,19]
@[go_sem] def o11:List Nat:=[0,1,2,3,4,5,6,7,8,9,10,11,12,13,14,1015,16,17,1018]
def ml:List Nat->List (Nat × Bool)
 | []=>[]
 | a::l=>(if a<1000 then (a,true) else (a - 1000,false))::ml l
@[go_sem] theorem QGo:ml []=[]:=rfl
@[go_sem] theorem QGp(a)(l):ml (a::l)=(if a<1000 then (a,true) else (a - 1000,false))::ml l:=rfl
section
variable {base nt:Nat}{w0:Start}{Q:Exit->St->Prop}{k:List Item}{s:St}{B:Prop}{K:St->Prop}{l:List (Bool × Oper × G)}
def QP(a:base<=w0.w.heap.size)(h:B)(e:hx prog base w0 Q cx nt 200 k s=B:=by (simp only[go_sem,Qa];rfl)):Qw prog base nt w0 Q k .normal s:=Qf a (e▸h)
def Hm(a:base<=w0.w.heap.size)(e:hx prog base w0 Q cx nt 200 k s:=by simp only[go_sem,Qa]):Qw prog base nt w0 Q k .normal s:=Qf a e
def YQ(a:base<=w0.w.heap.size)(h:B)(e:K9 prog base w0 cx nt K l s=B:=by (simp only[go_sem,Qa];rfl)):AX prog base nt w0 K l s:=Zk a (e▸h)
def az1(a:base<=w0.w.heap.size)(e:K9 prog base w0 cx nt K l s:=by simp only[go_sem,Qa]):AX prog base nt w0 K l s:=Zk a e
def QV(a:base<=w0.w.heap.size)(h:B)(e:hx prog base w0 Q cx nt 200 k s=B:=by (simp only[go_sem];rfl)):Qw prog base nt w0 Q k .normal s:=Qf a (e▸h)
def Yc(a:base<=w0.w.heap.size)(e:hx prog base w0 Q cx nt 200 k s:=by simp only[go_sem]):Qw prog base nt w0 Q k .normal s:=Qf a e
def VD(a:base<=w0.w.heap.size)(h:B)(e:K9 prog base w0 cx nt K l s=B:=by (simp only[go_sem];rfl)):AX prog base nt w0 K l s:=Zk a (e▸h)
def Hn(a:base<=w0.w.heap.size)(e:K9 prog base w0 cx nt K l s:=by simp only[go_sem]):AX prog base nt w0 K l s:=Zk a e
def Qx{b}{a}(c:base<=w0.w.heap.size)(l)(h:K9 prog base w0 cx nt (Om prog base w0 Q cx nt 200 k) (Go.Fg.VO [] a (ml l)) s)(e:dX cx.L a (ml l)=true:=by kernel_rfl)(d:B3 a s.fr=true:=by kernel_rfl):Qw prog base nt w0 Q (.code (.region b a true)::k) .normal s:=Qdf KS c 200 mixed (ml l) e d h
def Fu{b}{j:TypeId}{pos}{c}{v}{r}{x}{a:Array Operand}{w:Array TypeId}{f}{e}{i}{g}(t:base<=w0.w.heap.size)(p:Qn prog f){R}(u:QM prog f s.h g R)(o:∀d h,R d h->Qw prog base nt w0 Q (.ops r::k) .normal ⟨Zg s.fr b d,h⟩)(m:JF (Qq s.fr x)=some (f,e,i):=by rfl)(q:KC (Z6 e i (a.toList.map (Qq s.fr))) g:=by simp only[go_sem,Qa])(n:Zn nt b=true:=by rfl):Qw prog base nt w0 Q (.ops ((⟨b,.call ⟨.value x,a,w⟩,j,pos,c,v⟩,none)::r)::k) .normal s:=V5 t p m q u n o
def pJ{b}{i:TypeId}{pos}{c}{u}{r}{x}{a:Array Operand}{v:Array TypeId}{f}{e}{h}{g}(q:base<=w0.w.heap.size)(o:Qn prog f){R}(t:Zi prog f s.h g R)(n:∀d,R d->Qw prog base nt w0 Q (.ops r::k) .normal ⟨Zg s.fr b d,s.h⟩)(j:JF (Qq s.fr x)=some (f,e,h):=by rfl)(p:KC (Z6 e h (a.toList.map (Qq s.fr))) g:=by simp only[go_sem,Qa])(m:Zn nt b=true:=by rfl):Qw prog base nt w0 Q (.ops ((⟨b,.call ⟨.value x,a,v⟩,i,pos,c,u⟩,none)::r)::k) .normal s:=XR q o j p t m n
def cA1{b}{m:TypeId}{pos}{c}{C}{r}{x}{a:Array Operand}{E:Array TypeId}{f}{g}{j}{i}(y:base<=w0.w.heap.size)(v:Qn prog f){R}(z:QI prog f i R)(t:∀d h,R d h->d.flat=true/\∀o∈h,o.flat)(u:∀d h,R d h->Qw prog base nt w0 Q (.ops r::k) .normal ⟨Zg s.fr b (d.shift s.h.length),s.h++h.map (Ob.shift s.h.length)⟩)(n:JF (Qq s.fr x)=some (f,g,j):=by rfl)(w:match YK (Wi s.h 4) (Z6 g j (a.toList.map (Qq s.fr))) with|some (p,e)=>p/\KC e i|none=>False:=by simp only[go_sem,Qa])(q:Zn nt b=true:=by rfl):Qw prog base nt w0 Q (.ops ((⟨b,.call ⟨.value x,a,E⟩,m,pos,c,C⟩,none)::r)::k) .normal s:=Yw y v n w z t q u
def xR1{b}{i:TypeId}{pos}{c}{u}{r}{x}{a:Array Operand}{v:Array TypeId}{f}{e}{h}{g}(q:base<=w0.w.heap.size)(o:Qn prog f){R}(t:Zi prog f s.h g R)(n:∀d,R d->AX prog base nt w0 K r ⟨Zg s.fr b d,s.h⟩)(j:JF (Qq s.fr x)=some (f,e,h):=by rfl)(p:KC (Z6 e h (a.toList.map (Qq s.fr))) g:=by simp only[go_sem,Qa])(m:Zn nt b=true:=by rfl):AX prog base nt w0 K ((false,⟨b,.call ⟨.value x,a,v⟩,i,pos,c,u⟩,none)::r) s:=OA q o j p t m n
def xH1{b}{j : TypeId}{c}{v}{r}{x}{a : Array Operand}{w : Array TypeId}{f}{e}{i}{g}(t : base <= w0.w.heap.size)(p : Qn prog f){R}(u : QM prog f s.h g R)(o : ∀ d h, R d h -> AX prog base nt w0 K r ⟨Zg s.fr b d, h⟩)(m : JF (Qq s.fr x) = some (f, e, i) := by rfl)(q : KC (Z6 e i (a.toList.map (Qq s.fr))) g := by simp only[go_sem, Qa])(n : Zn nt b = true := by rfl): AX prog base nt w0 K ((false, ⟨b, .call ⟨.value x, a, w⟩, j, "!", c, v⟩, none) :: r) s := yE t p m q u n o
def xA1{b}{m:TypeId}{pos}{c}{C}{r}{x}{a:Array Operand}{E:Array TypeId}{f}{g}{j}{i}(y:base<=w0.w.heap.size)(v:Qn prog f){R}(z:QI prog f i R)(t:∀d h,R d h->d.flat=true/\∀o∈h,o.flat)(u:∀d h,R d h->AX prog base nt w0 K r ⟨Zg s.fr b (d.shift s.h.length),s.h++h.map (Ob.shift s.h.length)⟩)(n:JF (Qq s.fr x)=some (f,g,j):=by rfl)(w:match YK (Wi s.h 4) (Z6 g j (a.toList.map (Qq s.fr))) with|some (p,e)=>p/\KC e i|none=>False:=by simp only[go_sem,Qa])(q:Zn nt b=true:=by rfl):AX prog base nt w0 K ((false,⟨b,.call ⟨.value x,a,E⟩,m,pos,c,C⟩,none)::r) s:=SF y v n w z t q u
def JG{b}{j:TypeId}{pos}{c}{v}{r}{x}{a:Array Operand}{w:Array TypeId}{f}{e}{i}{g}(t:base<=w0.w.heap.size)(p:Qn prog f){R}(u:QM prog f s.h g R)(o:∀d h,R d h->Qw prog base nt w0 Q (.ops r::k) .normal ⟨Zg s.fr b d,h⟩)(m:JF (Qq s.fr x)=some (f,e,i):=by rfl)(q:KC (Z6 e i (a.toList.map (Qq s.fr))) g:=by simp only[go_sem])(n:Zn nt b=true:=by rfl):Qw prog base nt w0 Q (.ops ((⟨b,.call ⟨.value x,a,w⟩,j,pos,c,v⟩,none)::r)::k) .normal s:=V5 t p m q u n o
def cR2{b}{i:TypeId}{pos}{c}{u}{r}{x}{a:Array Operand}{v:Array TypeId}{f}{e}{h}{g}(q:base<=w0.w.heap.size)(o:Qn prog f){R}(t:Zi prog f s.h g R)(n:∀d,R d->Qw prog base nt w0 Q (.ops r::k) .normal ⟨Zg s.fr b d,s.h⟩)(j:JF (Qq s.fr x)=some (f,e,h):=by rfl)(p:KC (Z6 e h (a.toList.map (Qq s.fr))) g:=by simp only[go_sem])(m:Zn nt b=true:=by rfl):Qw prog base nt w0 Q (.ops ((⟨b,.call ⟨.value x,a,v⟩,i,pos,c,u⟩,none)::r)::k) .normal s:=XR q o j p t m n
def cA2{b}{m:TypeId}{pos}{c}{C}{r}{x}{a:Array Operand}{E:Array TypeId}{f}{g}{j}{i}(y:base<=w0.w.heap.size)(v:Qn prog f){R}(z:QI prog f i R)(t:∀d h,R d h->d.flat=true/\∀o∈h,o.flat)(u:∀d h,R d h->Qw prog base nt w0 Q (.ops r::k) .normal ⟨Zg s.fr b (d.shift s.h.length),s.h++h.map (Ob.shift s.h.length)⟩)(n:JF (Qq s.fr x)=some (f,g,j):=by rfl)(w:match YK (Wi s.h 4) (Z6 g j (a.toList.map (Qq s.fr))) with|some (p,e)=>p/\KC e i|none=>False:=by simp only[go_sem])(q:Zn nt b=true:=by rfl):Qw prog base nt w0 Q (.ops ((⟨b,.call ⟨.value x,a,E⟩,m,pos,c,C⟩,none)::r)::k) .normal s:=Yw y v n w z t q u
def xR2{b}{i:TypeId}{pos}{c}{u}{r}{x}{a:Array Operand}{v:Array TypeId}{f}{e}{h}{g}(q:base<=w0.w.heap.size)(o:Qn prog f){R}(t:Zi prog f s.h g R)(n:∀d,R d->AX prog base nt w0 K r ⟨Zg s.fr b d,s.h⟩)(j:JF (Qq s.fr x)=some (f,e,h):=by rfl)(p:KC (Z6 e h (a.toList.map (Qq s.fr))) g:=by simp only[go_sem])(m:Zn nt b=true:=by rfl):AX prog base nt w0 K ((false,⟨b,.call ⟨.value x,a,v⟩,i,pos,c,u⟩,none)::r) s:=OA q o j p t m n
def wC{b}{j : TypeId}{c}{v}{r}{x}{a : Array Operand}{w : Array TypeId}{f}{e}{i}{g}(t : base <= w0.w.heap.size)(p : Qn prog f){R}(u : QM prog f s.h g R)(o : ∀ d h, R d h -> AX prog base nt w0 K r ⟨Zg s.fr b d, h⟩)(m : JF (Qq s.fr x) = some (f, e, i) := by rfl)(q : KC (Z6 e i (a.toList.map (Qq s.fr))) g := by simp only[go_sem])(n : Zn nt b = true := by rfl): AX prog base nt w0 K ((false, ⟨b, .call ⟨.value x, a, w⟩, j, "!", c, v⟩, none) :: r) s := yE t p m q u n o
def xA2{b}{m:TypeId}{pos}{c}{C}{r}{x}{a:Array Operand}{E:Array TypeId}{f}{g}{j}{i}(y:base<=w0.w.heap.size)(v:Qn prog f){R}(z:QI prog f i R)(t:∀d h,R d h->d.flat=true/\∀o∈h,o.flat)(u:∀d h,R d h->AX prog base nt w0 K r ⟨Zg s.fr b (d.shift s.h.length),s.h++h.map (Ob.shift s.h.length)⟩)(n:JF (Qq s.fr x)=some (f,g,j):=by rfl)(w:match YK (Wi s.h 4) (Z6 g j (a.toList.map (Qq s.fr))) with|some (p,e)=>p/\KC e i|none=>False:=by simp only[go_sem])(q:Zn nt b=true:=by rfl):AX prog base nt w0 K ((false,⟨b,.call ⟨.value x,a,E⟩,m,pos,c,C⟩,none)::r) s:=SF y v n w z t q u
def Yy{b}{m:TypeId}{pos}{c}{E}{r}{x}{a:Array Operand}{F:Array TypeId}{f}{g}{j}{i}(y:base<=w0.w.heap.size)(u:Qn prog f){v:D}(C:QI prog f i (QO v))(t:Qw prog base nt w0 Q (.ops r::k) .normal ⟨Zg s.fr b (v.shift s.h.length),s.h++([]:List Ob).map (Ob.shift s.h.length)⟩)(n:JF (Qq s.fr x)=some (f,g,j):=by rfl)(w:match YK (Wi s.h 4) (Z6 g j (a.toList.map (Qq s.fr))) with|some (p,e)=>p/\KC e i|none=>False:=by simp only[go_sem,Qa])(o:Zn nt b=true:=by rfl)(q:v.flat=true:=by rfl):Qw prog base nt w0 Q (.ops ((⟨b,.call ⟨.value x,a,F⟩,m,pos,c,E⟩,none)::r)::k) .normal s:=Yw y u n w C (QO.flat q) o λd h z=>by obtain⟨rfl,rfl⟩:=z;exact t
def Ju{b}{i:TypeId}{pos}{c}{w}{r}{x}{a:Array Operand}{y:Array TypeId}{f}{e}{h}{g}(q:base<=w0.w.heap.size)(o:Qn prog f){v}(u:Zi prog f s.h g (λd=>d=v))(n:Qw prog base nt w0 Q (.ops r::k) .normal ⟨Zg s.fr b v,s.h⟩)(j:JF (Qq s.fr x)=some (f,e,h):=by rfl)(p:KC (Z6 e h (a.toList.map (Qq s.fr))) g:=by simp only[go_sem,Qa])(m:Zn nt b=true:=by rfl):Qw prog base nt w0 Q (.ops ((⟨b,.call ⟨.value x,a,y⟩,i,pos,c,w⟩,none)::r)::k) .normal s:=XR q o j p u m λd t=>by subst t;exact n
def S3{b}{m:TypeId}{pos}{c}{E}{r}{x}{a:Array Operand}{F:Array TypeId}{f}{g}{j}{i}(y:base<=w0.w.heap.size)(u:Qn prog f){v:D}(C:QI prog f i (QO v))(t:AX prog base nt w0 K r ⟨Zg s.fr b (v.shift s.h.length),s.h++([]:List Ob).map (Ob.shift s.h.length)⟩)(n:JF (Qq s.fr x)=some (f,g,j):=by rfl)(w:match YK (Wi s.h 4) (Z6 g j (a.toList.map (Qq s.fr))) with|some (p,e)=>p/\KC e i|none=>False:=by simp only[go_sem,Qa])(o:Zn nt b=true:=by rfl)(q:v.flat=true:=by rfl):AX prog base nt w0 K ((false,⟨b,.call ⟨.value x,a,F⟩,m,pos,c,E⟩,none)::r) s:=SF y u n w C (QO.flat q) o λd h z=>by obtain⟨rfl,rfl⟩:=z;exact t
def XB{b}{i:TypeId}{pos}{c}{w}{r}{x}{a:Array Operand}{y:Array TypeId}{f}{e}{h}{g}(q:base<=w0.w.heap.size)(o:Qn prog f){v}(u:Zi prog f s.h g (λd=>d=v))(n:AX prog base nt w0 K r ⟨Zg s.fr b v,s.h⟩)(j:JF (Qq s.fr x)=some (f,e,h):=by rfl)(p:KC (Z6 e h (a.toList.map (Qq s.fr))) g:=by simp only[go_sem,Qa])(m:Zn nt b=true:=by rfl):AX prog base nt w0 K ((false,⟨b,.call ⟨.value x,a,y⟩,i,pos,c,w⟩,none)::r) s:=OA q o j p u m λd t=>by subst t;exact n
def Jp{b}{m:TypeId}{pos}{c}{E}{r}{x}{a:Array Operand}{F:Array TypeId}{f}{g}{j}{i}(y:base<=w0.w.heap.size)(u:Qn prog f){v:D}(C:QI prog f i (QO v))(t:Qw prog base nt w0 Q (.ops r::k) .normal ⟨Zg s.fr b (v.shift s.h.length),s.h++([]:List Ob).map (Ob.shift s.h.length)⟩)(n:JF (Qq s.fr x)=some (f,g,j):=by rfl)(w:match YK (Wi s.h 4) (Z6 g j (a.toList.map (Qq s.fr))) with|some (p,e)=>p/\KC e i|none=>False:=by simp only[go_sem])(o:Zn nt b=true:=by rfl)(q:v.flat=true:=by rfl):Qw prog base nt w0 Q (.ops ((⟨b,.call ⟨.value x,a,F⟩,m,pos,c,E⟩,none)::r)::k) .normal s:=Yw y u n w C (QO.flat q) o λd h z=>by obtain⟨rfl,rfl⟩:=z;exact t
def cS2{b}{i:TypeId}{pos}{c}{w}{r}{x}{a:Array Operand}{y:Array TypeId}{f}{e}{h}{g}(q:base<=w0.w.heap.size)(o:Qn prog f){v}(u:Zi prog f s.h g (λd=>d=v))(n:Qw prog base nt w0 Q (.ops r::k) .normal ⟨Zg s.fr b v,s.h⟩)(j:JF (Qq s.fr x)=some (f,e,h):=by rfl)(p:KC (Z6 e h (a.toList.map (Qq s.fr))) g:=by simp only[go_sem])(m:Zn nt b=true:=by rfl):Qw prog base nt w0 Q (.ops ((⟨b,.call ⟨.value x,a,y⟩,i,pos,c,w⟩,none)::r)::k) .normal s:=XR q o j p u m λd t=>by subst t;exact n
def Kw{b}{m:TypeId}{pos}{c}{E}{r}{x}{a:Array Operand}{F:Array TypeId}{f}{g}{j}{i}(y:base<=w0.w.heap.size)(u:Qn prog f){v:D}(C:QI prog f i (QO v))(t:AX prog base nt w0 K r ⟨Zg s.fr b (v.shift s.h.length),s.h++([]:List Ob).map (Ob.shift s.h.length)⟩)(n:JF (Qq s.fr x)=some (f,g,j):=by rfl)(w:match YK (Wi s.h 4) (Z6 g j (a.toList.map (Qq s.fr))) with|some (p,e)=>p/\KC e i|none=>False:=by simp only[go_sem])(o:Zn nt b=true:=by rfl)(q:v.flat=true:=by rfl):AX prog base nt w0 K ((false,⟨b,.call ⟨.value x,a,F⟩,m,pos,c,E⟩,none)::r) s:=SF y u n w C (QO.flat q) o λd h z=>by obtain⟨rfl,rfl⟩:=z;exact t
def xS2{b}{i:TypeId}{pos}{c}{w}{r}{x}{a:Array Operand}{y:Array TypeId}{f}{e}{h}{g}(q:base<=w0.w.heap.size)(o:Qn prog f){v}(u:Zi prog f s.h g (λd=>d=v))(n:AX prog base nt w0 K r ⟨Zg s.fr b v,s.h⟩)(j:JF (Qq s.fr x)=some (f,e,h):=by rfl)(p:KC (Z6 e h (a.toList.map (Qq s.fr))) g:=by simp only[go_sem])(m:Zn nt b=true:=by rfl):AX prog base nt w0 K ((false,⟨b,.call ⟨.value x,a,y⟩,i,pos,c,w⟩,none)::r) s:=OA q o j p u m λd t=>by subst t;exact n
def ZO{b}{m:TypeId}{pos}{c}{E}{r}{x}{a:Array Operand}{F:Array TypeId}{f}{g}{j}{i}(y:base<=w0.w.heap.size)(u:Qn prog f)(w:match YK (Wi s.h 4) (Z6 g j (a.toList.map (Qq s.fr))) with|some (p,e)=>p/\KC e i|none=>False){v:D}(C:QI prog f i (QO v))(t:Qw prog base nt w0 Q (.ops r::k) .normal ⟨Zg s.fr b (v.shift s.h.length),s.h++([]:List Ob).map (Ob.shift s.h.length)⟩)(n:JF (Qq s.fr x)=some (f,g,j):=by rfl)(o:Zn nt b=true:=by rfl)(q:v.flat=true:=by rfl):Qw prog base nt w0 Q (.ops ((⟨b,.call ⟨.value x,a,F⟩,m,pos,c,E⟩,none)::r)::k) .normal s:=Yw y u n w C (QO.flat q) o λd h z=>by obtain⟨rfl,rfl⟩:=z;exact t
def Xr{b}{i:TypeId}{pos}{c}{w}{r}{x}{a:Array Operand}{y:Array TypeId}{f}{e}{h}{g}(q:base<=w0.w.heap.size)(o:Qn prog f)(p:KC (Z6 e h (a.toList.map (Qq s.fr))) g){v}(u:Zi prog f s.h g (λd=>d=v))(n:Qw prog base nt w0 Q (.ops r::k) .normal ⟨Zg s.fr b v,s.h⟩)(j:JF (Qq s.fr x)=some (f,e,h):=by rfl)(m:Zn nt b=true:=by rfl):Qw prog base nt w0 Q (.ops ((⟨b,.call ⟨.value x,a,y⟩,i,pos,c,w⟩,none)::r)::k) .normal s:=XR q o j p u m λd t=>by subst t;exact n
def Vb{b}{m:TypeId}{pos}{c}{E}{r}{x}{a:Array Operand}{F:Array TypeId}{f}{g}{j}{i}(y:base<=w0.w.heap.size)(u:Qn prog f)(w:match YK (Wi s.h 4) (Z6 g j (a.toList.map (Qq s.fr))) with|some (p,e)=>p/\KC e i|none=>False){v:D}(C:QI prog f i (QO v))(t:AX prog base nt w0 K r ⟨Zg s.fr b (v.shift s.h.length),s.h++([]:List Ob).map (Ob.shift s.h.length)⟩)(n:JF (Qq s.fr x)=some (f,g,j):=by rfl)(o:Zn nt b=true:=by rfl)(q:v.flat=true:=by rfl):AX prog base nt w0 K ((false,⟨b,.call ⟨.value x,a,F⟩,m,pos,c,E⟩,none)::r) s:=SF y u n w C (QO.flat q) o λd h z=>by obtain⟨rfl,rfl⟩:=z;exact t
def js{b}{i:TypeId}{pos}{c}{w}{r}{x}{a:Array Operand}{y:Array TypeId}{f}{e}{h}{g}(q:base<=w0.w.heap.size)(o:Qn prog f)(p:KC (Z6 e h (a.toList.map (Qq s.fr))) g){v}(u:Zi prog f s.h g (λd=>d=v))(n:AX prog base nt w0 K r ⟨Zg s.fr b v,s.h⟩)(j:JF (Qq s.fr x)=some (f,e,h):=by rfl)(m:Zn nt b=true:=by rfl):AX prog base nt w0 K ((false,⟨b,.call ⟨.value x,a,y⟩,i,pos,c,w⟩,none)::r) s:=OA q o j p u m λd t=>by subst t;exact n
def VE(b){c}{a}(d:base<=w0.w.heap.size)(l:List Nat)(R:List Nat)(h:K9 prog base w0 cx nt (Fh prog base w0 cx nt (Om prog base w0 Q cx nt 200 k) R.length (Go.Fg.jX b a R) ((ml l).map (·.1))) (Go.Fg.VO b a (ml l)) s)(f:DB b cx.L a (ml l) R=true:=by kernel_rfl)(e:B3 a s.fr=true:=by kernel_rfl):Qw prog base nt w0 Q (.code (.region c a true)::k) .normal s:=Qdh b KS d 200 mixed (ml l) R f e h
end
def QZ(k){R}{f}{d:Func}{c}{a:List D}{e}{g:Array ResultVar}(j:prog.funcs[f]? = some d)(m:d.ntmps=e)(n:d.results=g)(h:∀(b:Nat) (w:World),b<=w.heap.size->hx prog b ⟨w,[],[]⟩ (AP cx.L g.toList (Kept k R)) cx e 200 [.code c] ⟨jV a 0,[]⟩)(l:d.body=some c:=by rfl)(i:Nat.ble a.length e=true:=by rfl):QI prog f a R:=Qdc k KS 200 j l m n i h
def Q8{R}{F}{f}{d:Func}{c}{a:List D}{e}{g:Array ResultVar}(k:prog.funcs[f]? = some d)(m:d.ntmps=e)(n:d.results=g)(h:∀(b:Nat) (w:World) (i:List Pl),b<=w.heap.size->hx prog b ⟨w,F,i⟩ (AP cx.L g.toList R) cx e 200 [.code c] ⟨jV a 0,F⟩)(l:d.body=some c:=by rfl)(j:Nat.ble a.length e=true:=by rfl):QM prog f F a R:=oz KS 200 k l m n j h
def ZJ{R}{H:List Ob}{f}{e:Func}{c}{a:List D}{i}{j:Array ResultVar}(m:prog.funcs[f]? = some e)(p:e.ntmps=i)(q:e.results=j)(h:∀(b:Nat) (w:World) (k:List Pl) (F:List Ob),F=H.map Ob.ro->F.length=H.length->b<=w.heap.size->hx prog b ⟨w,F,k⟩ (AP cx.L j.toList λd o=>∃g,o=F++g/\d.upto F.length=true/\R d) cx i 200 [.code c] ⟨jV a 0,F⟩)(n:e.body=some c:=by rfl)(l:Nat.ble a.length i=true:=by rfl):Zi prog f H a R:=Qpd KS 200 m n p q l h
def Xg{p}(h:p:=by first|exact⟨_,rfl,rfl⟩|exact⟨_,rfl⟩|rfl|exact⟨[],(JZ _).symm⟩|exact⟨[],(JZ _).symm,rfl⟩):p:=h
def ZB{e n}(h:-9223372036854775808<=e/\e<=9223372036854775807/\e=n:=by omega):IntKind.i64.wrap e=n:=by rw[wrap64 h.1 h.2.1];exact h.2.2
def QQ{b}{a g}{h}(e:G7 a g:=by simp only[go_sem]):Qr b ⟨a,h⟩ ⟨g,h⟩:=Qr.frame e
end Go.Fg.X
namespace Go.Fg
def Qt8{P}{o:Oper}{a}{w}{K i}{Q g}(f:∀a w,K a w->i a w)(d:∀e a w,Q e a w->g e a w)(h:o.wp P a w K Q):o.wp P a w i g:=by
 unfold Oper.wp at *;generalize (execOp a.eval o).run P w=r at *;cases r with
 | ok x j=>
  cases x<;>simp only[Oper.upon]at h ⊢<;>first|exact f _ _ h|exact h|skip
  .exact h.mono λe k b=>by
    cases e with
    | returned v=>exact f _ _ b
    | panicked c=>exact d _ _ _ b
    | outgrown=>obtain⟨a,w,h⟩:=b;exact⟨a,w,d _ _ _ h⟩
  .exact h.mono λv k b=>f _ _ b
 | halt x j=>cases x<;>first|exact h|exact d _ _ _ h
def fA{P}{Q d}(b:∀e a w,Q e a w->d e a w):∀(l:List (Oper × G)) (a:Act) (w:World),qk P Q l a w->qk P d l a w
 | [],a,w,h=>b _ _ _ h
 | (o,g)::r,a,w,h=>by
  simp only[qk]at h ⊢;split at h
  .rename_i c;rw[Qe c];exact Qt8 (λa w=>fA b r a w) b h
  .rename_i c;rw[Qd c];exact fA b r _ _ h
section
variable {P:Program}{base nt:Nat}{w0:Start}{Q:Exit->St->Prop}{k:List Item}{s s1:St}
def S4(P:Program)(base nt:Nat)(w0:Start)(Q:Exit->St->Prop)(k:List Item)(s1:St):Exit->St->Prop
 | .normal,s=>Qr w0 s s1
 | e,s=>Qw P base nt w0 Q k e s
@[go_sem] theorem QGA:S4 P base nt w0 Q k s1 .normal s=Qr w0 s s1:=Vh rfl
@[go_sem] theorem QGB{j}:S4 P base nt w0 Q k s1 (.exit j) s=Qw P base nt w0 Q k (.exit j) s:=Vh rfl
@[go_sem] theorem QGC:S4 P base nt w0 Q k s1 .ret s=Qw P base nt w0 Q k .ret s:=Vh rfl
def pK{x}{c}(s1)(d:Qw P base nt w0 (S4 P base nt w0 Q (.code c::k) s1) [x] .normal s)(f:Qw P base nt w0 Q (.code c::k) .normal s1):Qw P base nt w0 Q (x::.code c::k) .normal s:=by
 cases x with
 | code x=>
  simp only[Qw]at d;show A P base nt w0 x _ s;refine d.mono λe g i=>?_;cases e with
  | normal=>exact E0 i f
  | _=>exact i
 | ops l=>
  simp only[Qw]at d;show AG P base nt w0 l _ s;intro Z z m a w r b;refine fA (λe q p ⟨g,o,h,j,n⟩=>⟨g,o,?_,j,n⟩) _ _ _ (d Z z m a w r b);cases e with
  | normal=>exact E0 h f
  | _=>exact h
 | inBlock id=>simp only[Qw]at d ⊢;exact E0 d f
 | inScope=>simp only[Qw]at d ⊢;exact E0 d f
def Cc{x}{c}(b)(V){d}{h}{a}(g:eD d b=a)
  (f:Qw P base nt w0 (S4 P base nt w0 Q (.code c::k) ⟨V++a,h⟩) [x] .normal ⟨d,h⟩) (e:Qw P base nt w0 Q (.code c::k) .normal ⟨V++a,h⟩):Qw P base nt w0 Q (x::.code c::k) .normal ⟨d,h⟩:=pK _ f e
@[go_sem] theorem QGD{X}:hx P base w0 Q X nt 0 k s=Qw P base nt w0 Q k .normal s:=by cases k<;>exact Vh rfl
end
end Go.Fg
namespace Go.Fg.X
open Go.Proofs Go.Fg
open Go.Proofs.Tryz
@[go_sem] def fB(c:Cv):D:=.agg c.cells
@[go_sem] def WV(c:Qm):D:=.agg c.cells
def QJ(c:Cv):Int:=if c.m1=0/\c.d=0/\c.m2=0 then 1 else if 4294967295<c.m1\/4294967295<c.m2\/1048576<c.d then 0 else if c.d=0/\c.m1=c.m2 then 2 else if 0<c.d/\c.m2<c.m1 then 3 else if 0<c.d/\c.m1=0/\0<c.m2 then 4 else 0
def fC(c):QI prog 165 [fB c] (QO (Qb (QJ c))):=by
 refine QZ 0 func165 ntmps165 results165 λa w b=>?_;simp only[go_sem]
 repeat' (first|((first|refine qu (λh=>?_) (λh=>?_)|refine qv (λh=>?_) (λh=>?_)|refine qw (λh=>?_) (λh=>?_)|refine Wu (λh=>?_) (λh=>?_)|refine qx (λh=>?_) (λh=>?_)|refine qy (λh=>?_) (λh=>?_)|refine qz (λh=>?_) (λh=>?_)|refine qp (λh=>?_) (λh=>?_))<;>(try simp only[go_sem]))|(refine And.intro ω ?_;try simp only[go_sem]))
 all_goals (congr 2;(try simp only[Gv,jN,ZL,zF,ne_eq]at *);unfold QJ;(repeat' split)<;>omega)
def DJ(c:Cv)(f:0<=c.m1)(e:0<=c.d)(d:0<=c.m2):QI prog 12 [fB c] (QO (Qb (QJ c))):=by
 refine QZ 0 func12 ntmps12 results12 λa w b=>?_;simp only[go_sem]
 repeat' (first|((first|refine qu (λh=>?_) (λh=>?_)|refine qv (λh=>?_) (λh=>?_)|refine qw (λh=>?_) (λh=>?_)|refine Wu (λh=>?_) (λh=>?_)|refine qx (λh=>?_) (λh=>?_)|refine qy (λh=>?_) (λh=>?_)|refine qz (λh=>?_) (λh=>?_)|refine qp (λh=>?_) (λh=>?_))<;>(try simp only[go_sem]))|(refine And.intro ω ?_;try simp only[go_sem]))
 all_goals (congr 2;unfold QJ;(repeat' split)<;>omega)
def pL(c):QI prog 174 [fB c] (QO (QX (QJ c != 0))):=by
 refine QZ 0 func174 ntmps174 results174 λb w a=>?_;simp only[go_sem];apply Jp a Fl (fC c);exact Yc a
def fD(c):QI prog 129 [fB c] (QO (QX (decide (1<QJ c)))):=by
 refine QZ 0 func129 ntmps129 results129 λb w a=>?_;simp only[go_sem];apply Jp a Fl (fC c);exact Yc a
def Fv(c:Qm):QI prog 107 [WV c] (QO (QX (decide (1<QJ c.rt)))):=by
 refine QZ 0 func107 ntmps107 results107 λb w a=>?_;simp only[go_sem];apply Jp a fi (fD c.rt);exact Yc a
def wD(c:Qm):QI prog 94 [WV c] (QO (QX (decide (1<QJ c.ls)))):=by
 refine QZ 0 func94 ntmps94 results94 λb w a=>?_;simp only[go_sem];apply Jp a fi (fD c.ls);exact Yc a
def QfJ(c:Qm):QI prog 222 [WV c] (QO (QX (decide (1<QJ c.ul)))):=by
 refine QZ 0 func222 ntmps222 results222 λb w a=>?_;simp only[go_sem];apply Jp a fi (fD c.ul);exact Yc a
def yF(n a b:Int):Bool:=decide (a<=n)&&decide (n<=b)
def fF(n a b):QI prog 221 [Qb n,Qb a,Qb b] (QO (QX (yF n a b))):=by
 refine QZ 0 func221 ntmps221 results221 λc w d=>?_;simp only[go_sem];unfold yF;by_cases h:a<=n
 .simp only[go_sem,h]
 .simp only[go_sem,h]
def DK(c:Qm):Bool:=yF c.iD 1 65536&&yF c.parent 0 65536&&!(c.parent==c.iD)
def Fw(c:Qm):Bool:=(QJ c.rt != 0)&&((QJ c.ls != 0)&&!(QJ c.ls==4))&&((QJ c.ul != 0)&&!(QJ c.ul==4))
def vr(c:Qm):Bool:=yF c.ZR 1 64&&yF c.bytes 1 1048576&&(decide (1<QJ c.rt) || decide (1<QJ c.ls))
def Cd(c:Qm):Bool:=c.ZR==0&&c.bytes==0&&!decide (1<QJ c.rt)
def Vk(c:Qm):Int:=if !DK c then 1 else if !Fw c then 21 else if (c.leaf&&!vr c) || (!c.leaf&&!Cd c) || (decide (1<QJ c.ul)&&!decide (1<QJ c.ls)) then 29 else 0
structure Qt9 (c:Qm) (k:Nat) (s:St):Prop where
 h0:0<k->QJ c.rt≠0
 h1:1<k->QJ c.ls≠0/\QJ c.ls≠4
 h2:2<k->QJ c.ul≠0/\QJ c.ul≠4
 eq:s=⟨[(1,.ptr 0 0 0 0),(2,Qb 0),(30,.agg (c.rt.cells++(c.ls.cells++c.ul.cells))),(31,Qb k)],[⟨.one,0,14,1,λ_=>c.cells⟩]⟩
def QfK(c):QI prog 167 [WV c] (QO (Qb (Vk c))):=by
 refine QZ 0 func167 ntmps167 results167 λE w f=>?_;simp only[go_sem];apply Jp f ft (fF c.iD 1 65536);apply QV f;cases q:yF c.iD 1 65536
 .have:Vk c=1:=by simp[Vk,DK,q]
  simp only[go_sem,this]
 .simp only[go_sem];apply Jp f ft (fF c.parent 0 65536);apply QV f;cases z:yF c.parent 0 65536
  .have:Vk c=1:=by simp[Vk,DK,q,z]
   simp only[go_sem,this]
  .simp only[go_sem];by_cases o:c.parent=c.iD
   .have:Vk c=1:=by simp[Vk,DK,q,z,o]
    simp only[go_sem,WC o,this]
   .simp only[go_sem,VU o];have n:DK c=true:=by simp[DK,q,z,o]
    have u:IntKind.i64.wrap 1=1:=π;have t:IntKind.i64.wrap 2=2:=π;have r:IntKind.i64.wrap 3=3:=π;refine ZW (Qt9 c) 3
     (s0:=⟨[(1,.ptr 0 0 0 0),(2,Qb 0),(30,.agg (c.rt.cells++(c.ls.cells++c.ul.cells))),(31,Qb 0)],[⟨.one,0,14,1,λ_=>c.cells⟩]⟩) QQ ⟨ω,ω,ω,rfl⟩ ?_
    rintro k s J ⟨p,y,C,rfl⟩;obtain rfl|rfl|rfl|rfl:k=0\/k=1\/k=2\/k=3:=ω
    .apply QV f;apply Jp f OH (pL c.rt);apply QV f;by_cases h:QJ c.rt=0
     .have:Vk c=21:=by simp[Vk,n,Fw,h]
      simp only[go_sem,WC h,bne,this,Go.undef]
     .simp only[go_sem,VU h,bne,Go.undef];refine⟨_,Qr.to 1 ⟨?_,by simp only[go_sem],?_,?_⟩,⟨λ_=>h,ω,ω,rfl⟩⟩<;>simp only[go_sem,u,t,r]
    .apply QV f;apply Jp f OH (pL c.ls);apply QV f;by_cases h:QJ c.ls=0
     .have:Vk c=21:=by simp[Vk,n,Fw,h]
      simp only[go_sem,WC h,bne,this,Go.undef]
     .simp only[go_sem,VU h,bne,Go.undef];apply Jp f Fl (fC c.ls);apply QV f;by_cases j:QJ c.ls=4
      .have:Vk c=21:=by simp[Vk,n,Fw,j]
       simp only[go_sem,WC j,this,Go.undef]
      .simp only[go_sem,VU j,Go.undef];refine⟨_,Qr.to 1 ⟨?_,by simp only[go_sem],?_,?_⟩,⟨λ_=>p ω,λ_=>⟨h,j⟩,ω,rfl⟩⟩<;>simp only[go_sem,u,t,r]
    .apply QV f;apply Jp f OH (pL c.ul);apply QV f;by_cases h:QJ c.ul=0
     .have:Vk c=21:=by simp[Vk,n,Fw,h]
      simp only[go_sem,WC h,bne,this,Go.undef]
     .simp only[go_sem,VU h,bne,Go.undef];apply Jp f Fl (fC c.ul);apply QV f;by_cases j:QJ c.ul=4
      .have:Vk c=21:=by simp[Vk,n,Fw,j]
       simp only[go_sem,WC j,this,Go.undef]
      .simp only[go_sem,VU j,Go.undef];refine⟨_,Qr.to 1 ⟨?_,by simp only[go_sem],?_,?_⟩,⟨λ_=>p ω,λ_=>y ω,λ_=>⟨h,j⟩,rfl⟩⟩<;>simp only[go_sem,u,t,r]
    .have F:Fw c=true:=by
      have a:=p ω;have b:=y ω;have d:=C ω;simp[Fw,a,b,d]
     clear p y C;apply QV f;first|refine ql ?_|skip
     refine Cc [1,2] [(5,QX (vr c))] rfl ?_ ?_
     .apply QV f;apply Jp f ft (fF c.ZR 1 64);apply QV f;cases i:yF c.ZR 1 64
      .have e:vr c=false:=by simp[vr,i]
       simp only[go_sem,Go.undef];exact Qr.to 1 (by (simp only[go_sem,e])<;>simp)
      .simp only[go_sem,Go.undef];apply Jp f ft (fF c.bytes 1 1048576);apply QV f;cases m:yF c.bytes 1 1048576
       .have e:vr c=false:=by simp[vr,i,m]
        simp only[go_sem,Go.undef];exact Qr.to 1 (by (simp only[go_sem,e])<;>simp)
       .simp only[go_sem,Go.undef];apply Jp f DG (Fv c);apply QV f;cases B:decide (1<QJ c.rt)
        .simp only[go_sem,Go.undef];apply Jp f wB (wD c);apply QV f;have e:vr c=decide (1<QJ c.ls):=by simp[vr,i,m,B]
         exact Qr.to 1 (by (simp only[go_sem,e])<;>simp)
        .have e:vr c=true:=by simp[vr,i,m,B]
         simp only[go_sem,Go.undef];exact Qr.to 1 (by (simp only[go_sem,e])<;>simp)
     first|refine ql ?_|skip
     refine Cc [1,2,5] [(6,QX (Cd c))] rfl ?_ ?_
     .apply QV f;by_cases i:c.ZR=0
      .simp only[go_sem,WC i,Go.undef];by_cases m:c.bytes=0
       .simp only[go_sem,WC m,Go.undef];apply Jp f DG (Fv c);apply QV f;have e:Cd c=!decide (1<QJ c.rt):=by simp[Cd,i,m]
        exact Qr.to 1 (by (simp only[go_sem,e])<;>simp)
       .have e:Cd c=false:=by simp[Cd,i,m]
        simp only[go_sem,VU m,Go.undef];exact Qr.to 1 (by (simp only[go_sem,e])<;>simp)
      .have e:Cd c=false:=by simp[Cd,i]
       simp only[go_sem,VU i,Go.undef];exact Qr.to 1 (by (simp only[go_sem,e])<;>simp)
     apply QV f;have g:Vk c=if (c.leaf&&!vr c) || (!c.leaf&&!Cd c) || (decide (1<QJ c.ul)&&!decide (1<QJ c.ls)) then 29 else 0:=by simp[Vk,n,F]
     generalize vr c=H at g ⊢;generalize Cd c=I at g ⊢;cases l:c.leaf<;>rw[l]at g
     .cases I
      .simp at g;simp only[go_sem,Go.undef,g]
      .simp only[go_sem,Go.undef];refine ZO f Qfl ?_ (QfJ c) ?_
       .simp only[go_sem,l]
       apply Qf f;simp only[go_sem,l];cases v:decide (1<QJ c.ul)<;>rw[v]at g
       .simp at g;simp only[go_sem,Go.undef,g]
       .simp only[go_sem,Go.undef];refine ZO f wB ?_ (wD c) ?_
        .simp only[go_sem,l]
        apply Qf f;simp only[go_sem,l];cases x:decide (1<QJ c.ls)<;>rw[x]at g<;>simp at g<;>simp only[go_sem,Go.undef,g]
     .cases H
      .simp at g;simp only[go_sem,Go.undef,g]
      .simp only[go_sem,Go.undef];refine ZO f Qfl ?_ (QfJ c) ?_
       .simp only[go_sem,l]
       apply Qf f;simp only[go_sem,l];cases v:decide (1<QJ c.ul)<;>rw[v]at g
       .simp at g;simp only[go_sem,Go.undef,g]
       .simp only[go_sem,Go.undef];refine ZO f wB ?_ (wD c) ?_
        .simp only[go_sem,l]
        apply Qf f;simp only[go_sem,l];cases x:decide (1<QJ c.ls)<;>rw[x]at g<;>simp at g<;>simp only[go_sem,Go.undef,g]
def pN(c):0<=QJ c/\QJ c<=4:=by unfold QJ;(repeat' split)<;>omega
def Ce(c:Qm):Int:=if c.iD<1\/65536<c.iD\/c.parent<0\/65536<c.parent\/c.iD=c.parent then 1
 else if QJ c.rt=0\/QJ c.ls=0\/QJ c.ul=0\/QJ c.ls=4\/QJ c.ul=4 then 21
 else if 1<QJ c.ul/\QJ c.ls=1 then 29
 else if c.leaf=true then (if c.ZR<1\/64<c.ZR\/c.bytes<1\/1048576<c.bytes\/(QJ c.rt=1/\QJ c.ls=1) then 29 else 0)
 else if c.ZR≠0\/c.bytes≠0\/QJ c.rt≠1 then 29 else 0
def Cv.Nn(c:Cv):Prop:=0<=c.m1/\0<=c.d/\0<=c.m2
def Qm.Nn(c:Qm):Prop:=c.rt.Nn/\c.ls.Nn/\c.ul.Nn
def fG(c:Qm)(a:c.Nn):QI prog 84 [WV c] (QO (Qb (Ce c))):=by
 refine QZ 0 func84 ntmps84 results84 λd w b=>?_;simp only[go_sem]
 repeat' (first|((first|refine qu (λh=>?_) (λh=>?_)|refine qv (λh=>?_) (λh=>?_)|refine qw (λh=>?_) (λh=>?_)|refine Wu (λh=>?_) (λh=>?_)|refine qx (λh=>?_) (λh=>?_)|refine qy (λh=>?_) (λh=>?_)|refine qz (λh=>?_) (λh=>?_)|refine qp (λh=>?_) (λh=>?_))<;>(try simp only[go_sem]))|(refine And.intro ω ?_;try simp only[go_sem]))
 all_goals first|(congr 2;unfold Ce;(repeat' split)<;>first|omega|simp_all;done)|skip
 apply Jp b qY (DJ c.rt a.1.1 a.1.2.1 a.1.2.2);apply QV b;apply Jp b qY (DJ c.ls a.2.1.1 a.2.1.2.1 a.2.1.2.2);apply QV b;apply Jp b qY (DJ c.ul a.2.2.1 a.2.2.2.1 a.2.2.2.2);apply QV b
 repeat' (first|((first|refine qu (λh=>?_) (λh=>?_)|refine qv (λh=>?_) (λh=>?_)|refine qw (λh=>?_) (λh=>?_)|refine Wu (λh=>?_) (λh=>?_)|refine qx (λh=>?_) (λh=>?_)|refine qy (λh=>?_) (λh=>?_)|refine qz (λh=>?_) (λh=>?_)|refine qp (λh=>?_) (λh=>?_))<;>(try simp only[go_sem]))|(refine And.intro ω ?_;try simp only[go_sem]))
 all_goals first|(congr 2;unfold Ce;(repeat' split)<;>first|omega|simp_all;done)|skip
def QfL(c):Ce c=Vk c:=by
 have h:=pN c.rt;have g:=pN c.ls;have f:=pN c.ul;unfold Ce Vk DK Fw vr Cd yF;generalize QJ c.rt=a at *;generalize QJ c.ls=b at *;generalize QJ c.ul=d at *;cases e:c.leaf<;>simp only[ZL,yi,zB,Gv,Db,X4,GF,zF,jN,bne_iff_ne,bne_eq_false_iff_eq,Bool.not_eq_false',ne_eq,reduceCtorEq,false_and,yl,false_or,or_false,YF,Vp]<;>(repeat' split)<;>omega
end Go.Fg.X
namespace Go.Fg
open Go.RowKit (Below)
open Go.Proofs Go.Shelf Go.Sort
def sorted(a:List Int):List Int:=a.mergeSort λx y=>decide (x<=y)
def Ho(a:List Int):(sorted a).length=a.length:=by simp[sorted]
def wF(a:Nat)(b:Nat->List D)(c:List Int):Nat->List D:=λi=>if a<=i/\i<a+c.length then [.raw (.int .i64 (c.getD (i - a) 0))] else b i
variable {P:Program}{ρ:Ren}
def Qua{w:World}{b n o}{g}{a}{e:TypeId}{f}(d)(c:w.heap[b]? = some (.cells a e f)):
  (grow (putRow (Value.int .i64) (Sort.ahead w n) b o d) g).heap[b]? = some (.cells (putCells (Value.int .i64) o d a) e f):=by
 have h:b<w.heap.size:=(WL.1 c).1;rw[heap_grow_old _ _ (by simpa using h)];simp[putRow,mapBlock,Sort.ahead,mG,c,onCells]
def Qub{w:World}{b n o}{a}(d):w.grownBy (grow (putRow (Value.int .i64) (Sort.ahead w n) b o d) a) (some b):=by
 refine⟨rfl,rfl,rfl,σ,λk c f=>?_⟩;rw[heap_grow_old _ _ (by simpa using c)];have:b≠k:=λe=>f (by rw[e]);simp[putRow,mapBlock,Sort.ahead,mG,this]
def Quc(Ly:Lays.n189 P ρ){h:List Ob}{l g f N}{r}{m:List Int}(C:h[l]? = some ⟨.arr,g,1,N,r⟩)(hn:f+m.length<=N)(hr:∀i,i<m.length->r (f+i)=[.raw (.int .i64 (m.getD i 0))])(I:m.length<4611686018427387904):
  QM P (ρ.f 189) h [.ref l g f m.length] (λd h'=>d=.tup []/\h'=h.set l ⟨.arr,g,1,N,wF f r (sorted m)⟩):=by
 intro Z t w J vs Q5 hZ R wx hv;match vs,wx with
 | [v],_=>
 have r0:=hv 0 σ;obtain⟨o,p,a,B,E,h1,M,h3,h4,h5⟩:=EO r0;rw[C]at h1;cases h1;have E:v=.slice a m.length B:=E;have B7:=h5 rfl;subst E;have Qc:l<h.length:=KA C;by_cases h0:m.length=0
 .have hz:m=[]:=RK.1 h0;subst hz;refine(Any.slices_Sort_int_none Ly a B w).mono ?_;rintro e x ⟨rfl,rfl⟩;have hs:h.set l ⟨.arr,g,1,N,wF f r (sorted [])⟩=h:=by
   have:wF f r (sorted [])=r:=by
    funext i;have:¬ (f<=i/\i<f+(sorted []).length):=by rw[Ho];simp
    unfold wF;rw[Qd this]
   rw[this];apply Am;intro i;by_cases s:l=i
   .subst s;rw[Xb Qc,C]
   .rw[JP s]
  rw[hs];exact⟨_,.tup [],h,J,rfl,⟨rfl,rfl⟩,R,.tup [] [] rfl (λi s=>by simp at s),Tr.refl _ _ _,.refl _ _⟩
 .rcases B7 with ⟨h6,_⟩|⟨b,q,c,el,rfl,rfl,z,GP,Zx⟩
  .exact absurd h6 h0
  .obtain⟨Aw,yq⟩:=R.at_ l _ b q C M;obtain⟨c',cu,K7,JM,JS,ZU⟩:=yq.cells rfl;rw[z]at K7;cases K7;simp only[Nat.mul_one]at GP JM ZU ⊢;have Dm:∀i,i<m.length->c[q+f+i]? = some (.int .i64 (m.getD i 0)):=λi s=>by
    obtain⟨u,K,F⟩:=ZU (f+i) 0 (by show f+i<N;omega) (by show 0<1;omega);have e2:(r (f+i))=_:=hr i s;have F:QC Z h J w (nth (r (f+i)) 0) u:=F;rw[e2]at F;have:=Jt F;rw[show q+f+i=q+(f+i+0) by omega,K,this]
   have hH:Holds (Value.int .i64) w b (q+f) m.toArray:=by
    intro j H;have WN:j<m.length:=by simpa using H
    refine⟨?_,by simp[World.frozen?,z]⟩;rw[World.cell?_of_block (w:=w) (w':=w) rfl];simp only[World.cell?,z];simp only[xp,XZ,YF];rw[Dm j WN];simp[QY,WN]
   refine(Any.slices_Sort_int Ly b (q+f) B m w hH (kO z) I).mono ?_;rintro e x ⟨rfl,n,os,Y⟩;have hG:w.grownBy x (some b):=by rw[Y];exact Qub _
   have J6:x.heap[b]? = some (.cells (putCells (Value.int .i64) (q+f) (sorted m).toArray c) el (0,0)):=by rw[Y];exact Qua _ z
   have Q:(putCells (Value.int .i64) (q+f) (sorted m).toArray c).size=c.size:=by simp[putCells]
   have y:∀k,k≠b->k<w.heap.size->x.heap[k]? = w.heap[k]? := λk L Qc=>hG.block k Qc (λe=>L (by cases e;rfl));have W:t<=b:=Aw rfl;have hB:Below t w x:=(Below.refl t w).grown hG Q5 (λk L=>by cases L;exact W);have T:=Tr.Q4 (w':=x) (o':=⟨.arr,g,1,N,wF f r (sorted m)⟩) R C M rfl rfl rfl y (λc1 mO E=>by rw[z]at E;cases E;exact⟨_,J6,Q⟩);have vu:∀i,i<c.size->(putCells (Value.int .i64) (q+f) (sorted m).toArray c)[i]? = if q+f<=i/\i<q+f+m.length then some (.int .i64 ((sorted m).getD (i - (q+f)) 0)) else c[i]? := λi s=>by
    have hl:(sorted m).toArray.size=m.length:=by simp[Ho]
    simp only[putCells,Array.getElem?_mapIdx,hl,jK s,K6];split
    .rename_i O;have:i - (q+f)<(sorted m).length:=by rw[Ho];omega
     simp[QY,this]
    .rfl
   refine⟨_,.tup [],_,J,rfl,⟨rfl,rfl⟩,Zl.Q4 (w':=x) (o':=⟨.arr,g,1,N,wF f r (sorted m)⟩) R C M rfl rfl rfl rfl y z J6 Q (by rw[Q];simpa using JM) (λi s=>?_) (λi j s H=>?_) rfl,.tup [] [] rfl (λi s=>by simp at s),T,hB⟩
   .show (wF f r (sorted m) i).length=1;unfold wF;split
    .rfl
    .exact JS i s
   .have s:i<N:=s;have H:j<1:=H;have U:j=0:=ω;subst U;have V:q+(i+0)<c.size:=ω;show ∃v,(putCells (Value.int .i64) (q+f) (sorted m).toArray c)[q+(i*1+0)]? = some v/\QC Z _ J x (nth (wF f r (sorted m) i) 0) v;rw[Nat.mul_one,vu _ V];have S:wF f r (sorted m) i=if f<=i/\i<f+m.length then [.raw (.int .i64 ((sorted m).getD (i - f) 0))] else r i:=by unfold wF;rw[Ho]
    rw[S];by_cases O:f<=i/\i<f+m.length
    .rw[Qe ω,Qe O];exact⟨_,rfl,by rw[show q+(i+0) - (q+f)=i - f by omega];exact .cl _ _ (.raw _)⟩
    .rw[Qd ω,Qd O];obtain⟨u,K,F⟩:=ZU i 0 s H;exact⟨u,K,F.tr T⟩
end Go.Fg
namespace Go.Fg.X
open Go.Proofs Go.Fg
open Go.Proofs.Tryz
def Qy(L:List Qm)(k:Int):Option Qm:=L.find? λc=>c.iD==k
def Wj(e:ZF):Int × D:=(e.k,e.v)
def YG(c:Qm):Int × D:=(c.iD,WV c)
def Wv(L:List Qm):Prop:=L.Pairwise λa b=>a.iD<b.iD
structure VF (es:List ZF) (L:List Qm):Prop where
 perm:(es.map Wj).Perm (L.map YG)
 sorted:Wv L
def QfM{c:Type}{f:c->Int}:∀{l:List c},(l.map f).Nodup->∀{x y:c},x∈l->y∈l->f x=f y->x=y
 | [],_,x,_,hx,_,_=>by simp at hx
 | a::l,b,x,y,hx,d,e=>by
  simp only[JQ,ZY,Jl,EL,not_and]at b;rcases QF.1 hx with h1|h1<;>rcases QF.1 d with h2|h2
  .rw[h1,h2]
  .exact absurd (by rw[<- e,h1]) (b.1 y h2)
  .exact absurd (by rw[e,h2]) (b.1 x h1)
  .exact QfM b.2 h1 h2 e
def Wv.nd{L:List Qm}(h:Wv L):(L.map (·.iD)).Nodup:=by
 unfold List.Nodup;rw[IJ];exact List.Pairwise.imp (λh=>ω) h
def VF.Cg{a}{L}(T:VF a L):X7 a:=by
 have c:a.map (·.k)=(a.map Wj).map Prod.fst:=by simp[Wj,aT]
 have b:(L.map YG).map Prod.fst=L.map (·.iD):=by simp[YG,aT]
 unfold X7;rw[c,(T.perm.map Prod.fst).nodup_iff,b];exact T.sorted.nd
def pO:∀{b:List ZF},X7 b->∀{k:Int} {v:D},ZZ b k=some v↔(k,v)∈b.map Wj
 | [],_,k,v=>by simp[ZZ]
 | e::b,a,k,v=>by
  have g:X7 b:=by unfold X7 at a ⊢;simp only[JQ,ZY]at a;exact a.2
  simp only[ZZ];by_cases h:e.k=k
  .rw[Qe h];constructor
   .rintro⟨rfl⟩;simp[Wj,h]
   .intro hm;simp only[JQ,QF]at hm;rcases hm with hm|hm
    .simp only[Wj,Ze]at hm;rw[hm.2]
    .exfalso;obtain⟨d,f,c⟩:=Jl.1 hm;simp only[Wj,Ze]at c;unfold X7 at a;simp only[JQ,ZY,Jl,EL,not_and]at a;exact a.1 d f (by rw[c.1,h])
  .rw[Qd h,pO g];simp only[JQ,QF];constructor
   .exact λh=>.inr h
   .rintro (hm|hm)
    .simp only[Wj,Ze]at hm;exact absurd hm.1.symm h
    .exact hm
def VH{L}(h:Wv L){k}{c:Qm}:Qy L k=some c↔c∈L/\c.iD=k:=by
 constructor
 .intro e;exact⟨wc e,by have:=yj e;simpa using this⟩
 .rintro⟨b,rfl⟩;cases a:Qy L c.iD with
  | none=>
   have:=jL.1 a c b;simp at this
  | some d=>
   have g:=wc a;have f:d.iD=c.iD:=by have:=yj a;simpa using this
   rw[QfM h.nd g b f]
def Hp{L}{k}:Qy L k=none↔∀c∈L,c.iD≠k:=by
 simp[Qy,jL]
def VF.look{a}{L}(T:VF a L)(k:Int):ZZ a k=(Qy L k).map WV:=by
 cases b:Qy L k with
 | some c=>
  obtain⟨h,g⟩:=(VH T.sorted).1 b;rw[K6,pO T.Cg,T.perm.mem_iff];exact Jl.2 ⟨c,h,by simp[YG,g]⟩
 | none=>
  rw[zE];cases d:ZZ a k with
  | none=>rfl
  | some v=>
   rw[pO T.Cg,T.perm.mem_iff]at d;obtain⟨c,f,e⟩:=Jl.1 d;simp only[YG,Ze]at e;exact absurd e.1 (Hp.1 b c f)
def VF.len{a:List ZF}{L:List Qm}(T:VF a L):a.length=L.length:=by
 have:=T.perm.length_eq;simpa using this
def VF.nil:VF [] []:=⟨σ,by simp[Wv]⟩
def Vt:List Qm->Qm->List Qm
 | [],x=>[x]
 | c::r,x=>if x.iD<c.iD then x::c::r else if c.iD=x.iD then x::r else c::Vt r x
def Ww(L:List Qm)(k:Int):List Qm:=L.filter λc=>c.iD != k
def S5{a:Type}{p}{l:List a}(h:∀x∈l,p x=true):l.filter p=l:=An.2 h
def Hq:∀{L:List Qm} (x:Qm),Wv L->(Vt L x).Perm (x::Ww L x.iD)
 | [],x,_=>by simp[Vt,Ww]
 | c::r,x,h=>by
  have i:Wv r:=mJ h;have e:∀d∈r,c.iD<d.iD:=λd a=>(Ao.1 h).1 d a;simp only[Vt];by_cases f:x.iD<c.iD
  .rw[Qe f];have:Ww (c::r) x.iD=c::r:=S5 λd a=>by
    rcases QF.1 a with rfl|a
    .simp;omega
    .have:=e d a;simp;omega
   rw[this]
  .rw[Qd f];by_cases b:c.iD=x.iD
   .rw[Qe b];have g:Ww r x.iD=r:=S5 λd a=>by have:=e d a;simp;omega
    have:Ww (c::r) x.iD=r:=by unfold Ww at g ⊢;rw[IF (by simp[b]),g]
    rw[this]
   .rw[Qd b];have:Ww (c::r) x.iD=c::Ww r x.iD:=by unfold Ww;rw[IG (by simp[b])]
    rw[this];exact((Hq x i).cons c).trans (List.Perm.swap x c _)
def OO:∀{L:List Qm} (x:Qm),Wv L->Wv (Vt L x)
 | [],x,_=>by simp[Vt,Wv]
 | c::r,x,h=>by
  have b:Wv r:=mJ h;have e:∀d∈r,c.iD<d.iD:=λd a=>(Ao.1 h).1 d a;simp only[Vt];by_cases f:x.iD<c.iD
  .rw[Qe f];exact Ao.2 ⟨λd a=>by
    rcases QF.1 a with rfl|a
    .exact f
    .have:=e d a;omega,h⟩
  .rw[Qd f];by_cases g:c.iD=x.iD
   .rw[Qe g];exact Ao.2 ⟨λd a=>by have:=e d a;omega,b⟩
   .rw[Qd g];refine Ao.2 ⟨λd a=>?_,OO x b⟩;have:=(Hq x b).mem_iff.1 a;rcases QF.1 this with rfl|i
    .omega
    .exact e d (JH.1 i).1
def pP{L}(k)(h:Wv L):Wv (Ww L k):=Nx _ h
def QfN:∀{a:List ZF} (k:Int) (v:D),X7 a->(∃u,ZZ a k=some u)->((jT a k v).map Wj).Perm ((k,v)::(a.map Wj).filter λp=>p.1 != k)
 | [],k,v,_,h=>by simp[ZZ]at h
 | e::a,k,v,f,h=>by
  have c:=f;unfold X7 at c;simp only[JQ,ZY,Jl,EL,not_and]at c;simp only[jT];by_cases b:e.k=k
  .rw[Qe b];have i:(a.map Wj).filter (λp=>p.1 != k)=a.map Wj:=S5 λp d=>by
    obtain⟨j,l,rfl⟩:=Jl.1 d;have:=c.1 j l;simp[Wj];omega
   have:((e::a).map Wj).filter (λp=>p.1 != k)=a.map Wj:=by rw[JQ,IF (by simp[Wj,b]),i]
   rw[this];simp[Wj]
  .rw[Qd b];have g:∃u,ZZ a k=some u:=by simpa only[ZZ,Qd b] using h
   have:((e::a).map Wj).filter (λp=>p.1 != k)=Wj e::(a.map Wj).filter (λp=>p.1 != k):=by rw[JQ,IG (by simp[Wj,b])]
   rw[this,JQ];exact((QfN k v c.2 g).cons _).trans (List.Perm.swap _ _ _)
def Quh{a}{L}(T:VF a L)(q)(c)(x:Qm):∃i b,J7 q c a x.iD (WV x)=QS q i b/\VF b (Vt L x):=by
 have d:((Vt L x).map YG).Perm ((x.iD,WV x)::(L.map YG).filter λp=>p.1 != x.iD):=by
  have:=(Hq x T.sorted).map YG;rw[JQ]at this;refine this.trans ?_;have:(L.map YG).filter (λp=>p.1 != x.iD)=(Ww L x.iD).map YG:=by
   rw[RJ];rfl
  rw[this];exact Ny _
 have e:=T.perm.filter λp=>p.1 != x.iD;unfold J7;cases f:ZZ a x.iD with
 | some u=>exact⟨c,_,rfl,⟨(QfN x.iD (WV x) T.Cg ⟨u,f⟩).trans ((e.cons _).trans d.symm),OO x T.sorted⟩⟩
 | none=>
  refine⟨c+1,_,rfl,⟨?_,OO x T.sorted⟩⟩;have g:(a.map Wj).filter (λp=>p.1 != x.iD)=a.map Wj:=S5 λp d=>by
   obtain⟨h,j,rfl⟩:=Jl.1 d;have:=(Se f).1 h j;simp[Wj];omega
  rw[g]at e;rw[wa];refine List.perm_append_comm.trans ?_;exact(e.cons (x.iD,WV x)).trans d.symm
def QfO:∀{b:List ZF} (k:Int),X7 b->((J1 b k).map Wj)=((b.map Wj).filter λp=>p.1 != k)
 | [],k,_=>rfl
 | e::b,k,f=>by
  have c:=f;unfold X7 at c;simp only[JQ,ZY,Jl,EL,not_and]at c;simp only[J1];by_cases a:e.k=k
  .rw[Qe a,JQ,IF (by simp[Wj,a])];exact(S5 λp d=>by
    obtain⟨g,h,rfl⟩:=Jl.1 d;have:=c.1 g h;simp[Wj];omega).symm
  .rw[Qd a,JQ,JQ,IG (by simp[Wj,a]),QfO k c.2]
def QfP{a}{L}(T:VF a L)(k):VF (J1 a k) (Ww L k):=by
 refine⟨?_,pP k T.sorted⟩;rw[QfO k T.Cg];have:(L.map YG).filter (λp=>p.1 != k)=(Ww L k).map YG:=by rw[RJ];rfl
 rw[<- this];exact T.perm.filter _
def QfQ{d e:List Int}(h:d.Perm e)(f:e.Pairwise (·<·)):sorted d=e:=by
 refine List.Perm.eq_of_pairwise (le:=λa b=>a<=b) (λa b _ _ i g=>ω) ?_ (f.imp (λh=>ω)) ((List.mergeSort_perm _ _).trans h);have:=List.pairwise_mergeSort (le:=λx y:Int=>decide (x<=y)) (λa b c i g=>by simp at *;omega) (λa b=>ξ) d;exact this.imp (λh=>by simpa using h)
section
variable (h:List Ob)(t m c:Nat){es:List ZF}{L:List Qm}(T:VF es L)
 (ht:(h.map Ob.ro)[t]? = some ⟨.Wh,0,1,1,λ_=>[.mref m 0]⟩) (hm:(h.map Ob.ro)[m]? = some (QS .i64 c es).ro)
include T ht hm
theorem QfR(a:Int):Zi prog 74 h [.ptr t 0 0 0,Qb a] (λd=>d=.tup [WV ((Qy L a).getD default),Qb (if (Qy L a).isSome then 0 else 6)]):=by
 have e:=T.look a;cases j:Qy L a with
 | none=>
  rw[j,zE]at e;refine ZJ func74 ntmps74 results74 λb w k F f n l=>?_;rw[<- f]at ht hm;have g:=Qc ht;have i:=Qc hm;simp only[go_sem,Qa,ht,g,hm,i,e];exact⟨_,rfl,rfl⟩
 | some x=>
  rw[j,K6]at e;refine ZJ func74 ntmps74 results74 λb w k F f n l=>?_;rw[<- f]at ht hm;have g:=Qc ht;have i:=Qc hm;simp only[go_sem,Qa,ht,g,hm,i,e];exact⟨_,rfl,rfl⟩
end
def VQ(F H:List Ob):Prop:=∃g,H=F++g
def VQ.refl(F):VQ F F:=⟨[],σ⟩
def VQ.app{F H}(h:VQ F H)(g):VQ F (H++g):=by
 obtain⟨x,rfl⟩:=h;exact⟨x++g,σ⟩
def VQ.set{F H:List Ob}(h:VQ F H){lo}(a:F.length<=lo)(o):VQ F (H.set lo o):=by
 obtain⟨x,rfl⟩:=h;exact⟨x.set (lo - F.length) o,by rw[NB _ _ a]⟩
def VQ.len{F H:List Ob}(h:VQ F H):F.length<=H.length:=by
 obtain⟨x,rfl⟩:=h;simp
def VQ.get{F H:List Ob}(h:VQ F H){l:Nat}{o:Ob}(e:F[l]? = some o):H[l]? = some o:=by
 obtain⟨x,rfl⟩:=h;rw[QE (Qc e)];exact e
def Kp(n:Nat)(H:List Ob)(d:D)(L:List Int):Prop:=(d=.nil/\L=[])\/∃c g a b,d=.ref c g a L.length/\(n<=c/\a=0)/\H[c]? = some ⟨.arr,g,1,a+L.length,b⟩/\∀i,i<L.length->b (a+i)=[Qb (L.getD i 0)]
def Kp.app{n}{H}{d}{L}(h:Kp n H d L)(g):Kp n (H++g) d L:=by
 rcases h with h|⟨e,k,b,a,j,i,c,f⟩
 .exact .inl h
 .exact .inr ⟨e,k,b,a,j,i,by rw[QE (Qc c)];exact c,f⟩
def Kp.base{F h g:List Ob}{d}{L}(f:F.length=h.length)(x:Kp F.length (F++g) d L):Kp h.length (h++g) d L:=by
 rcases x with x|⟨e,k,b,a,j,l,c,i⟩
 .exact .inl x
 .refine .inr ⟨e,k,b,a,j,ω,?_,i⟩;rw[Kh ω]at c ⊢;rw[<- f];exact c
def Kp.done{F h H:List Ob}{d}{L}(b:F.length=h.length)(a:VQ F H)(x:Kp F.length H d L):∃g,H=F++g/\Kp h.length (h++g) d L:=by
 obtain⟨g,rfl⟩:=a;exact⟨g,rfl,x.base b⟩
def LR{dn:List Int}{off}{row}{v}(b:∀i,i<dn.length->row (off+i)=[Qb (dn.getD i 0)]):∀i,i<(dn++[v]).length->JC dn.length off row (λ_=>[Qb v]) (0+i)=[Qb ((dn++[v]).getD i 0)]:=λi c=>by
 rw[JR];simp at c;by_cases a:i<dn.length
 .rw[AD a,b i a];simp[a,JO a]
 .have:i=dn.length:=ω;subst this;rw[kS (QB _)];simp
def LS{h:List Ob}{l:Nat}{o:Ob}(e:h[l]? = some o.ro):(h.map Ob.ro)[l]? = some o.ro:=by have:=Z3 e;rwa [ro_ro]at this
def ZT(L:List Qm):Nat->Int->List Int
 | 0,_=>[]
 | n+1,id=>match Qy L id with
  | none=>[]
  | some c=>id::ZT L n c.parent
def Ends(L:List Qm):Nat->Int->Prop
 | 0,id=>Qy L id=none
 | n+1,id=>match Qy L id with
  | none=>True
  | some c=>Ends L n c.parent
structure Qui (t:Nat) (L:List Qm) (N:Nat) (id:Int) (F:List Ob) (n:Nat) (s:St):Prop where
 ex:∃dn cur d H,dn++ZT L n cur=ZT L N id/\dn.length+n<=N+1/\Ends L n cur/\VQ F H/\Kp F.length H d dn/\s=⟨[(0,.ptr t 0 0 0),(1,Qb cur),(5,d)],H⟩
section
variable (h:List Ob)(t m c:Nat){es:List ZF}{L:List Qm}(T:VF es L)
 (ht:(h.map Ob.ro)[t]? = some ⟨.Wh,0,1,1,λ_=>[.mref m 0]⟩) (hm:(h.map Ob.ro)[m]? = some (QS .i64 c es).ro)
include T ht hm
theorem QfS(b)(N)(hN:N<1000000)(Q:Ends L N b):Xf prog 105 h [.ptr t 0 0 0,Qb b] (λd g=>Kp h.length (h++g) d (ZT L N b)):=by
 refine B9 KS 200 func105 rfl ntmps105 results105 rfl λJ w pl F P U f=>?_;rw[<- P]at ht hm;have S:=Qc ht;have W:=Qc hm;simp only[go_sem,Qa,ht,S,hm,W];refine Ls (Qui t L N b F) N (s0:=⟨[(0,.ptr t 0 0 0),(1,Qb b),(5,.nil)],F⟩) QQ ⟨[],b,.nil,F,rfl,σ,Q,VQ.refl F,.inl ⟨rfl,rfl⟩,rfl⟩ ?_;rintro n s ⟨r,a,d,H,q,E,p,hx,B,rfl⟩;have a0:=hx.len;have k:=hx.get ht;have l:=hx.get hm;have o:=Qc k;have v:=Qc l;have e:=QfR H t m c T (Z3 k) (LS l) a;apply QP f;cases j:Qy L a with
 | none=>
  rw[j]at e;simp only[xp,XZ,YF]at e;apply Ju f wz e;apply Qf f;simp only[go_sem,Qa,k,l,o,v];have R:ZT L n a=[]:=by cases n with
   | zero=>rfl
   | succ n=>simp only[ZT,j]
  rw[R,JZ]at q;rw[<- q];exact Kp.done U (hx.app _) (B.app _)
 | some x=>
  rw[j]at e;simp only[wh,Vp,Ky]at e;obtain⟨n,rfl⟩:∃K,n=K+1:=by
   cases n with
   | zero=>rw[Ends,j]at p;cases p
   | succ n=>exact⟨n,rfl⟩
  have y:Ends L n x.parent:=by simpa only[Ends,j] using p
  have I:(r++[a])++ZT L n x.parent=ZT L N b:=by rw[<- q];simp only[ZT,j,W9,List.singleton_append]
  rcases B with ⟨rfl,rfl⟩|⟨z,g,Z,Y,rfl,V,C,M⟩
  .apply Ju f wz e;apply Qf f;simp only[go_sem,Qa,k,l,o,v];refine⟨n,⟨[(0,.ptr t 0 0 0),(1,Qb x.parent),(5,.ref (H.length+2) 0 0 1)],_⟩,ω,QQ,⟨⟨[a],x.parent,_,_,I,by simp at E ⊢;omega,y,hx.app _,.inr ⟨H.length+2,0,0,_,rfl,ω,by rw[VP rfl];rfl,λi O=>?_⟩,rfl⟩⟩⟩;have:i=0:=by simp at O;omega
   subst this;rfl
  .have u:=Qc C;apply Ju f wz e;apply Qf f;simp only[go_sem,Qa,k,l,o,v,C,u];refine⟨ω,n,⟨[(0,.ptr t 0 0 0),(1,Qb x.parent),(5,.ref z (g+1) 0 (r.length+1))],_⟩,ω,QQ,⟨⟨r++[a],x.parent,_,_,I,?_,y,?_,?_,rfl⟩⟩⟩
   .simp at E ⊢;omega
   .exact(hx.set V.1 _).app _
   .refine .inr ⟨z,g+1,0,_,σ,ω,?_,LR M⟩;rw[QE (by simpa using u),Qt u];simp[Qb]
end
def Vl(L:List Qm)(a:Int):Bool:=a==0 || decide (1<QJ ((Qy L a).getD default).ls)
section
variable (h:List Ob)(t m c:Nat){es:List ZF}{L:List Qm}(T:VF es L)
 (ht:(h.map Ob.ro)[t]? = some ⟨.Wh,0,1,1,λ_=>[.mref m 0]⟩) (hm:(h.map Ob.ro)[m]? = some (QS .i64 c es).ro)
include T ht hm
theorem OP(a:Int)(N)(j:N<1000000)(l:Ends L N a):Zi prog 169 h [.ptr t 0 0 0,Qb a] (λd=>d=Qb (ZT L N a).length):=by
 refine ZJ func169 ntmps169 results169 λf w u F k z b=>?_;rw[<- k]at ht hm;have o:=Qc ht;have q:=Qc hm;simp only[go_sem,Qa,ht,o,hm,q];refine Hh b fe rfl ?_ (QfS F t m c T (Z3 ht) (LS hm) a N j l) rfl λd y i=>?_
 .simp only[go_sem]
 rcases i with ⟨rfl,n⟩|⟨v,g,s,r,rfl,B,e,x⟩
 .apply Qf b;simp only[go_sem,Qa,n];exact⟨_,rfl⟩
 .have p:=Qc e;apply Qf b;simp only[go_sem,Qa,e,p];exact⟨_,rfl⟩
theorem fH(a):Zi prog 168 h [.ptr t 0 0 0,Qb a] (λd=>d=QX (Vl L a)):=by
 by_cases i:a=0
 .have e:Vl L a=true:=by simp[Vl,i]
  rw[e];refine ZJ func168 ntmps168 results168 λb w n F g p f=>?_;rw[<- g]at ht hm;have j:=Qc ht;have k:=Qc hm;simp only[go_sem,Qa,ht,j,hm,k,WC i];exact⟨[],σ⟩
 .have l:=T.look a;have e:Vl L a=decide (1<QJ ((Qy L a).getD default).ls):=by simp[Vl,i]
  rw[e];cases o:Qy L a with
  | none=>
   rw[o,zE]at l;refine ZJ func168 ntmps168 results168 λb w n F g p f=>?_;rw[<- g]at ht hm;have j:=Qc ht;have k:=Qc hm;simp only[go_sem,Qa,ht,j,hm,k,l,VU i];apply Yy f wB (wD ⟨0,0,false,⟨0,0,0⟩,⟨0,0,0⟩,⟨0,0,0⟩,0,0⟩);apply QP f;exact⟨[],(JZ F).symm,rfl⟩
  | some x=>
   rw[o,K6]at l;refine ZJ func168 ntmps168 results168 λb w n F g p f=>?_;rw[<- g]at ht hm;have j:=Qc ht;have k:=Qc hm;simp only[go_sem,Qa,ht,j,hm,k,l,VU i];apply Yy f wB (wD x);apply QP f;exact⟨[],σ⟩
end
def Qp(L:List Qm)(g:Qm->Bool)(k:Int):Bool:=((Qy L k).map g).getD false
def Quj{es:List ZF}{seen:List Nat}{b:Nat}(p:ZF->Bool)(h:∀e∈es,e.b≠b):(es.filter λx=>(seen++[b]).contains x.b&&p x)=es.filter λx=>seen.contains x.b&&p x:=by
 apply aX;intro x hx;have:=h x hx;simp[this]
def QfT:∀{a:List ZF} {seen:List Nat} {e:ZF} (p:ZF->Bool),(a.map (·.b)).Nodup->e∈a->e.b ∉ seen->(a.filter λx=>(seen++[e.b]).contains x.b&&p x).Perm (if p e then e::a.filter (λx=>seen.contains x.b&&p x) else a.filter λx=>seen.contains x.b&&p x)
 | [],_,_,_,_,h,_=>by simp at h
 | x::a,seen,e,p,d,h,j=>by
  simp only[JQ,ZY,Jl,EL,not_and]at d;rcases QF.1 h with h1|h1
  .subst h1;have m:=Quj (seen:=seen) (b:=e.b) p (es:=a) λy l g=>d.1 y l g;have i:seen.contains e.b=false:=by simpa using j
   rw[xk,xk,m];simp only[i,Gw,XZ,YF];have:(seen++[e.b]).contains e.b=true:=σ;rw[this,IB]
  .have c:=QfT p d.2 h1 j;have n:x.b≠e.b:=λg=>d.1 e h1 g.symm;have i:(seen++[e.b]).contains x.b=seen.contains x.b:=by simp[n]
   rw[xk,xk,i];by_cases f:(seen.contains x.b&&p x)=true
   .rw[Qe f,Qe f];by_cases k:p e=true
    .rw[Qe k]at c ⊢;exact(c.cons x).trans (List.Perm.swap _ _ _)
    .rw[Qd k]at c ⊢;exact c.cons x
   .rw[Qd f,Qd f];exact c
def VF.xK{b}{L}(T:VF b L){e:ZF}(c:e∈b):∃x,Qy L e.k=some x/\e.v=WV x/\x.iD=e.k:=by
 have:Wj e∈L.map YG:=T.perm.mem_iff.1 (Jl.2 ⟨e,c,rfl⟩);obtain⟨x,hx,a⟩:=Jl.1 this;simp only[YG,Wj,Ze]at a;exact⟨x,(VH T.sorted).2 ⟨hx,a.1⟩,a.2.symm,a.1⟩
def VF.pick{a:List ZF}{L:List Qm}(T:VF a L)(g:Qm->Bool):((a.filter λe=>Qp L g e.k).map (·.k)).Perm ((L.filter g).map (·.iD)):=by
 have b:=(T.perm.filter λp=>Qp L g p.1).map Prod.fst;have d:((a.map Wj).filter λp=>Qp L g p.1).map Prod.fst=(a.filter λe=>Qp L g e.k).map (·.k):=by
  rw[RJ,GB];rfl
 have c:((L.map YG).filter λp=>Qp L g p.1).map Prod.fst=(L.filter g).map (·.iD):=by
  rw[RJ,GB];have:L.filter ((λp=>Qp L g p.1) ∘ YG)=L.filter g:=aX λx hx=>by
   have:=(VH T.sorted).2 ⟨hx,rfl⟩;simp[Qp,YG,this]
  rw[this];rfl
 rw[d,c]at b;exact b
def Quk{L:List Qm}(h:Wv L)(g:Qm->Bool):((L.filter g).map (·.iD)).Pairwise (·<·):=by
 rw[IJ];exact Nx g h
open Go.Shelf in
def Qul{P}{c:Ren}(o:Lays.n189 P c)(h):QM P (c.f 189) h [.nil] (λd n=>d=.tup []/\n=h):=by
 intro Z f w k j r q R g l;match j,g with
 | [v],_=>
 obtain⟨a,b⟩:=Ax (l 0 σ);have b:v=_:=b;subst b;refine(Any.slices_Sort_int_none o a 0 w).mono ?_;rintro e p ⟨rfl,rfl⟩;exact⟨_,.tup [],h,k,rfl,⟨rfl,rfl⟩,R,.tup [] [] rfl (λi m=>by simp at m),Tr.refl _ _ _,.refl _ _⟩
open Go.Shelf in
def Tryz.Qum:Go.Shelf.Ren:=⟨fun|189=>100|125=>139|257=>138|128=>190|129=>191|294=>181|295=>182|296=>183|297=>184|298=>185|299=>186|216=>187|300=>188|301=>189|328=>234|329=>235|330=>236|331=>237|332=>238|215=>239|343=>258|n=>n,fun|28=>49|3=>3|46=>267|0=>0|51=>314|53=>40|4=>4|183=>307|182=>306|131=>157|5=>5|9=>9|218=>351|222=>354|228=>374|229=>375|n=>n,fun|n=>n⟩
def Tryz.QfU:Go.Proofs.Lays.n189 prog Tryz.Qum:={
 mixed:=τ
 f125:=func139.trans (congrArg some τ)
 f128:=func190.trans (congrArg some τ)
 f129:=func191.trans (congrArg some τ)
 f189:=func100.trans (congrArg some τ)
 f215:=func239.trans (congrArg some τ)
 f216:=func187.trans (congrArg some τ)
 f257:=func138.trans (congrArg some τ)
 f294:=func181.trans (congrArg some τ)
 f295:=func182.trans (congrArg some τ)
 f296:=func183.trans (congrArg some τ)
 f297:=func184.trans (congrArg some τ)
 f298:=func185.trans (congrArg some τ)
 f299:=func186.trans (congrArg some τ)
 f300:=func188.trans (congrArg some τ)
 f301:=func189.trans (congrArg some τ)
 f328:=func234.trans (congrArg some τ)
 f329:=func235.trans (congrArg some τ)
 f330:=func236.trans (congrArg some τ)
 f331:=func237.trans (congrArg some τ)
 f332:=func238.trans (congrArg some τ)
 f343:=func258.trans (congrArg some τ)
 t0:=underlying0
 a0:=isAgg0
 z0:=sizeOf0
 v0:=zeroValue0
 t3:=underlying3
 a3:=isAgg3
 z3:=sizeOf3
 v3:=zeroValue3
 t4:=underlying4
 a4:=isAgg4
 z4:=sizeOf4
 v4:=zeroValue4
 t5:=underlying5
 a5:=isAgg5
 z5:=sizeOf5
 v5:=zeroValue5
 t9:=underlying9
 a9:=isAgg9
 z9:=sizeOf9
 v9:=zeroValue9
 t28:=underlying49
 a28:=isAgg49
 z28:=sizeOf49
 v28:=zeroValue49
 t46:=underlying267
 a46:=isAgg267
 z46:=sizeOf267
 v46:=zeroValue267
 t51:=underlying314
 a51:=isAgg314
 z51:=sizeOf314
 v51:=zeroValue314
 t53:=underlying40
 a53:=isAgg40
 z53:=sizeOf40
 v53:=zeroValue40
 t131:=underlying157
 a131:=isAgg157
 z131:=sizeOf157
 v131:=zeroValue157
 t182:=underlying306
 a182:=isAgg306
 z182:=sizeOf306
 v182:=zeroValue306
 t183:=underlying307
 a183:=isAgg307
 z183:=sizeOf307
 v183:=zeroValue307
 t218:=underlying351
 a218:=isAgg351
 z218:=sizeOf351
 v218:=zeroValue351
 t222:=underlying354
 a222:=isAgg354
 z222:=sizeOf354
 v222:=zeroValue354
 t228:=underlying374
 a228:=isAgg374
 z228:=sizeOf374
 v228:=zeroValue374
 t229:=underlying375
 a229:=isAgg375
 z229:=sizeOf375
 v229:=zeroValue375 }
def QfV{h:List Ob}{l g a N}{b}{c:List Int}(j:h[l]? = some ⟨.arr,g,1,N,b⟩)(k:a+c.length<=N)(f:∀i,i<c.length->b (a+i)=[.raw (.int .i64 (c.getD i 0))])(e:c.length<4611686018427387904):
  QM prog 100 h [.ref l g a c.length] (λd m=>d=.tup []/\m=h.set l ⟨.arr,g,1,N,wF a b (sorted c)⟩):=Quc Tryz.QfU j k f e
def QfW(h):QM prog 100 h [.nil] (λd a=>d=.tup []/\a=h):=Qul Tryz.QfU h
def LV(d):X9 d d:=by unfold X9;split<;>first|exact rfl|simp_all
def DL:∀l:List D,KC l l
 | []=>trivial
 | d::r=>⟨LV d,DL r⟩
def S6(F:List Ob)(f a:Nat)(b:List D)(g:Qm->Bool):Prop:=∀(h:List Ob) (c:Qm),VQ F h->Zi prog f h (Z6 a b [WV c]) (λd=>d=QX (g c))
structure Qun (t m c:Nat) (es:List ZF) (L:List Qm) (gk:Qm->Bool) (so:D) (F:List Ob) (n:Nat) (s:St):Prop where
 ex:∃seen d out H,yD es seen=n/\VQ F H/\Kp F.length H d out/\out.Perm ((es.filter λe=>seen.contains e.b&&Qp L gk e.k).map (·.k))/\H[F.length]? = some (Yv m c c seen) /\
  s=⟨[(0,.ptr t 0 0 0),(1,so),(5,d),(14,.mref F.length 0)],H⟩
section
variable (h:List Ob)(t m c:Nat){es:List ZF}{L:List Qm}(T:VF es L)(hlen:L.length<1000000)
 (ht:(h.map Ob.ro)[t]? = some ⟨.Wh,0,1,1,λ_=>[.mref m 0]⟩) (hm:(h.map Ob.ro)[m]? = some (QS .i64 c es).ro)
include T ht hm hlen
theorem fI(p:D)(f Z:Nat)(Qv:List D)(hf:Qn prog f)(V6:JF p=some (f,Z,Qv))(b:Qm->Bool)(hg:S6 (h.map Ob.ro) f Z Qv b):
  Xf prog 127 h [.ptr t 0 0 0,p] (λd g=>Kp h.length (h++g) d ((L.filter b).map (·.iD))):=by
 refine B9 KS 200 func127 rfl ntmps127 results127 rfl λa0 w pl F hF Zm j=>?_;rw[<- hF]at ht hm;have Zr:=Qc ht;have QR:=Qc hm;simp only[go_sem,Qa,ht,Zr,hm,QR];refine QtT (kd:=.RU) (q:=.i64) (l:=m) (c:=c) (es:=es) rfl (by simp only[go_sem,Qa,hm,QR];rfl) λhB=>?_;refine Ls (Qun t m c es L b p F) (yD es []) (s0:=⟨[(0,.ptr t 0 0 0),(1,p),(5,.nil),(14,.mref F.length 0)],F++[Yv m c c []]⟩) QQ ⟨[],.nil,[],_,rfl,⟨_,rfl⟩,.inl ⟨rfl,rfl⟩,σ,by rw[Vj rfl];rfl,rfl⟩ ?_;rintro n s ⟨seen,d,a,H,hn,hx,N,O,W,rfl⟩;have XS:=hx.get hm;have LU:=Qc XS;have Y:=Qc W;apply QP j;refine Qpb j (li:=F.length) (l:=m) (c:=c) (es:=es) (seen:=seen) (q:=.i64) (kd:=.RU) rfl W rfl XS rfl (λKr=>?_) (λe z GZ=>?_)
 .apply QP j;have R:sorted a=(L.filter b).map (·.iD):=by
   refine QfQ (O.trans ?_) (Quk T.sorted b);have:(es.filter λe=>seen.contains e.b&&Qp L b e.k)=es.filter λe=>Qp L b e.k:=aX λe z=>by
    have:seen.contains e.b=true:=by simpa using Kr e z
    rw[this,IB]
   rw[this];exact T.pick b
  have fJ:a.length<4611686018427387904:=by
   have B:a.length=((L.filter b).map (·.iD)).length:=by rw[<- R,Ho]
   have h2:=Yr b L;rw[KK]at B;omega
  rcases N with ⟨rfl,rfl⟩|⟨r,g,k,o,rfl,P,u,U⟩
  .apply QP j;refine JG j fc (QfW H) λd h E=>?_;obtain⟨rfl,rfl⟩:=E;apply QV j;exact Kp.done Zm hx (.inl ⟨rfl,by rw[<- R];simp[sorted]⟩)
  .have I:=Qc u;apply QP j;refine JG j fc (QfV u (QB _) U fJ) λd h E=>?_;obtain⟨rfl,rfl⟩:=E;apply QV j;refine Kp.done Zm (hx.set P.1 _) ?_;have S8:((L.filter b).map (·.iD)).length=a.length:=by rw[<- R,Ho]
   refine .inr ⟨r,g,k,wF k o (sorted a),?_,P,?_,?_⟩
   .rw[S8]
   .rw[S8];exact Qt I
   .rw[R];intro i hi;unfold wF;rw[Qe ω,show k+i - k=i by omega];rfl
 .obtain⟨x,S9,BP,Zp⟩:=T.xK z;rw[BP];have Oa:Qp L b e.k=b x:=by simp[Qp,S9]
  obtain⟨v,Q⟩:∃v,v=H.set F.length (Yv m c c (seen++[e.b])):=⟨_,rfl⟩;have y:VQ F v:=by rw[Q];exact hx.set (QB _) _
  have C:v[F.length]? = some (Yv m c c (seen++[e.b])):=by rw[Q];exact Qt Y
  have K:Kp F.length v d a:=by
   rcases N with N|⟨r,g,k,o,B,h2,V,h4⟩
   .exact .inl N
   .refine .inr ⟨r,g,k,o,B,h2,?_,h4⟩;rw[Q,Ql (by rintro rfl;rw[W]at V;cases V)];exact V
  have Fx:=y.get hm;have fK:=Qc Fx;have S:=Qc C;have J:=QfT (λe=>Qp L b e.k) hB.nodup z GZ;have Yd:=QfF z GZ;rw[<- Q];apply QP j;apply QP j;refine QtW (li:=F.length) (l:=m) (c:=c) (es:=es) (seen:=seen) (q:=.i64) (kd:=.RU) (e:=e) rfl C rfl Fx z rfl ?_;rw[BP];apply QP j;apply QP j;refine XR j hf V6 ?_ (hg _ x ?_) rfl λd2 E=>?_
  .simp only[go_sem];exact DL _
  .rw[<- hF];exact y.app _
  subst E;apply Qf j;have fJ:a.length<=es.length:=by
   have B:=O.length_eq;rw[KK]at B;rw[B];exact Yr _ _
  have a1:=T.len;simp only[Oa]at J;cases M:b x
  .simp only[M,XZ,YF]at J;simp only[go_sem,Qa];exact⟨yD es (seen++[e.b]),⟨[(0,.ptr t 0 0 0),(1,p),(5,d),(14,.mref F.length 0)],_⟩,ω,QQ,⟨⟨seen++[e.b],d,a,_,rfl,y.app _,K.app _,O.trans (J.map _).symm,by rw[QE S];exact C,rfl⟩⟩⟩
  .simp only[M,Vp]at J;have fM:(a++[e.k]).Perm ((es.filter λx=>(seen++[e.b]).contains x.b&&Qp L b x.k).map (·.k)):=by
    refine(List.perm_append_comm.trans ?_).trans (J.map _).symm;exact O.cons e.k
   rcases K with ⟨rfl,rfl⟩|⟨r,g,k,o,rfl,P,u,U⟩
   .simp only[go_sem,Qa];refine⟨yD es (seen++[e.b]),⟨[(0,.ptr t 0 0 0),(1,p),(5,.ref (v.length+2) 0 0 1),(14,.mref F.length 0)],_⟩,ω,QQ,⟨⟨seen++[e.b],_,[e.k],_,rfl,y.app _,?_,fM,by rw[QE S];exact C,rfl⟩⟩⟩;have:=y.len;refine .inr ⟨v.length+2,0,0,_,rfl,ω,by rw[VP rfl];rfl,λi hi=>?_⟩;have:i=0:=by simp at hi;omega
    subst this;rfl
   .have I:=Qc u;have QA:F.length≠r:=by rintro rfl;rw[C]at u;cases u
    simp only[go_sem,Qa,u,I];refine⟨ω,yD es (seen++[e.b]),⟨[(0,.ptr t 0 0 0),(1,p),(5,.ref r (g+1) 0 (a.length+1)),(14,.mref F.length 0)],_⟩,ω,QQ,⟨⟨seen++[e.b],_,a++[e.k],_,rfl,?_,?_,fM,?_,rfl⟩⟩⟩
    .exact(y.set P.1 _).app _
    .refine .inr ⟨r,g+1,0,_,σ,ω,?_,LR U⟩;rw[QE (by simpa using I),Qt I];simp[Qb]
    .rw[QE (by simpa using S),Ql (Q9 QA)];exact C
end
def XC{h t:List Ob}{l:Nat}{o:Ob}(e:h[l]? = some o):((h++t).map Ob.ro)[l]? = some o.ro:=Z3 (by rw[QE (Qc e)];exact e)
def Kp.le{n n'}{H}{d}{L}(x:Kp n H d L)(i:n'<=n):Kp n' H d L:=by
 rcases x with x|⟨c,h,b,a,g,j,f,e⟩
 .exact .inl x
 .exact .inr ⟨c,h,b,a,g,ω,f,e⟩
def Qup(h:List Ob)(b)(c)(x:Qm)(a:(h.map Ob.ro)[b]? = some ⟨.Wh,0,1,1,λ_=>[Qb c]⟩):Zi prog 223 h [WV x,.ptr b 0 0 0] (λd=>d=QX (x.parent==c)):=by
 refine ZJ func223 ntmps223 results223 λe w i F f k j=>?_;rw[<- f]at a;have g:=Qc a;simp only[go_sem,Qa,a,g];exact⟨_,rfl⟩
def KE(L:List Qm)(a:Int):List Int:=(L.filter λx=>x.parent==a).map (·.iD)
section
variable (h:List Ob)(t m c:Nat){es:List ZF}{L:List Qm}(T:VF es L)(hlen:L.length<1000000)
 (ht:(h.map Ob.ro)[t]? = some ⟨.Wh,0,1,1,λ_=>[.mref m 0]⟩) (hm:(h.map Ob.ro)[m]? = some (QS .i64 c es).ro)
include T ht hm hlen
theorem pS(a):Xf prog 171 h [.ptr t 0 0 0,Qb a] (λd g=>Kp h.length (h++g) d (KE L a)):=by
 refine B9 KS 200 func171 rfl ntmps171 results171 rfl λi w v F p s b=>?_;rw[<- p]at ht hm;have r:=Qc ht;have u:=Qc hm;simp only[go_sem,Qa,ht,r,hm,u];have hx:VQ F (F++([⟨.one,0,1,1,λ_=>[Qb a]⟩]:List Ob)):=⟨_,rfl⟩;have n:S6 ((F++([⟨.one,0,1,1,λ_=>[Qb a]⟩]:List Ob)).map Ob.ro) 223 0 [.ptr F.length 0 0 0] (λx=>x.parent==a):=λq x j=>Qup q F.length a x (by
  have e:=j.get (l:=F.length) (o:=⟨.Wh,0,1,1,λ_=>[Qb a]⟩) (by rw[wa,Vj σ];rfl);exact Z3 e)
 refine Hh b fh rfl ?_ (fI _ t m c T hlen (Z3 (hx.get ht)) (LS (hx.get hm)) (.clo 223 0 [.ptr F.length 0 0 0]) 223 0 [.ptr F.length 0 0 0] Qth rfl _ n) rfl λd g k=>?_
 .simp only[go_sem]
 apply QP b;have f:=k.le (n':=F.length) σ;rw[W9]at f;exact Kp.done s ⟨_,rfl⟩ f
def vw(L:List Qm)(x:Qm)(a:Nat):Int:=
 if Vk x≠0 then Vk x
 else if (Qy L x.iD).isSome then 8
 else if L.length=64 then 5
 else if (x.parent≠0/\(Qy L x.parent).isNone)\/((Qy L x.parent).getD default).leaf=true then 23
 else if 1<QJ x.ls/\Vl L x.parent=false then 29
 else if a=16 then 25
 else 0
end
section
variable (h:List Ob)(t m c:Nat){es:List ZF}{L:List Qm}(T:VF es L)(hlen:L.length<1000000)
 (ht:h[t]? = some ⟨.one,0,1,1,λ_=>[.mref m 0]⟩) (hm:h[m]? = some (QS .i64 c es))
include T ht hm hlen
structure Xh (h:List Ob) (t m:Nat) (L:List Qm) (h':List Ob):Prop where
 ex:∃c es,h'[t]? = some ⟨.one,0,1,1,λ_=>[.mref m 0]⟩/\h'[m]? = some (QS .i64 c es)/\VF es L
 len:h.length<=h'.length
 Ko:∀l,l<h.length->l≠m->h'[l]? = h[l]?
omit T hlen in
theorem Xh.same(T:VF es L)(g):Xh h t m L (h++g):=
 ⟨⟨c,es,by rw[QE (Qc ht)];exact ht,by rw[QE (Qc hm)];exact hm,T⟩,σ,λl a _=>QE a⟩
omit hlen in
theorem Xh.Q4(x:Qm)(g):Xh h t m (Vt L x) (h.set m (J7 .i64 c es x.iD (WV x))++g):=by
 obtain⟨f,a,e,j⟩:=Quh T .i64 c x;have b:=Qc hm;have i:=Qc ht;have k:m≠t:=by rintro rfl;rw[ht]at hm;cases hm
 rw[e];refine⟨⟨f,a,?_,?_,j⟩,σ,λl d n=>?_⟩
 .rw[QE (by simpa using i),Ql k];exact ht
 .rw[QE (by simpa using b),Qt b]
 .rw[QE (by simpa using d),Ql (Q9 n)]
omit hlen in
theorem Quq(x:Qm)(N)(v:N<1000000)(B:Ends L N x.parent):QM prog 131 h [.ptr t 0 0 0,WV x] (λd M=>d=Qb (vw L x (ZT L N x.parent).length)/\Xh h t m (if vw L x (ZT L N x.parent).length=0 then Vt L x else L) M):=by
 have H:=T.look x.iD;have n:=T.look x.parent;have Q:=T.len;have i:=Qc ht;have j:=Qc hm;obtain⟨E,F⟩:∃E,E=vw L x (ZT L N x.parent).length:=⟨_,rfl⟩;rw[<- F];have b:∀g:List Ob,E≠0->Xh h t m (if E=0 then Vt L x else L) (h++g):=λg O=>by rw[Qd O];exact Xh.same h t m c ht hm T g
 refine Q8 func131 ntmps131 results131 λK w P a=>?_;have i:=Qc ht;have j:=Qc hm;simp only[go_sem,Qa,ht,i,hm,j];apply Yy a Qfa (QfK x);apply QP a;by_cases C:Vk x=0;case neg=>
  have e:E=Vk x:=by rw[F,vw,Qe C]
  simp only[go_sem,Qa,VU C,bne];exact⟨by rw[e],b _ (by rw[e];exact C)⟩
 simp only[go_sem,Qa,WC C,bne];cases I:Qy L x.iD with
 | some y=>
  have e:E=8:=by rw[F,vw,Qd (by simpa using C),Qe (by simp[I])]
  rw[I,K6]at H;apply Qx a ol;simp only[go_sem,Qa,ht,hm,i,j,H];cases o:Qy L x.parent with
  | none=>
   rw[o,zE]at n;apply Qx a ol;simp only[go_sem,Qa,ht,hm,i,j,n];exact⟨by rw[e],b _ (by rw[e];decide)⟩
  | some z=>
   rw[o,K6]at n;apply Qx a ol;simp only[go_sem,Qa,ht,hm,i,j,n];exact⟨by rw[e],b _ (by rw[e];decide)⟩
 | none=>
  rw[I,zE]at H;apply Qx a ol;simp only[go_sem,Qa,ht,hm,i,j,H];have u:E=(if L.length=64 then 5 else if (x.parent≠0/\(Qy L x.parent).isNone)\/((Qy L x.parent).getD default).leaf=true then 23 else if 1<QJ x.ls/\Vl L x.parent=false then 29 else if (ZT L N x.parent).length=16 then 25 else 0):=by
   rw[F,vw,Qd (by simpa using C),Qd (by simp[I])]
  by_cases J:L.length=64
  .have e:E=5:=by rw[u,Qe J]
   have s:((es.length:Int)==64)=true:=ξ;cases o:Qy L x.parent with
   | none=>
    rw[o,zE]at n;apply Qx a ol;simp only[go_sem,Qa,ht,hm,i,j,n,s];exact⟨by rw[e],b _ (by rw[e];decide)⟩
   | some z=>
    rw[o,K6]at n;apply Qx a ol;simp only[go_sem,Qa,ht,hm,i,j,n,s];exact⟨by rw[e],b _ (by rw[e];decide)⟩
  rw[Qd J]at u;have s:((es.length:Int)==64)=false:=ξ;cases o:Qy L x.parent with
  | none=>
   rw[o,zE]at n;by_cases p:x.parent=0
   .apply Qx a ol;simp only[go_sem,Qa,ht,hm,i,j,n,s,WC p,bne];have l:E=(if 1<QJ x.ls/\Vl L x.parent=false then 29 else if (ZT L N x.parent).length=16 then 25 else 0):=by rw[u,Qd (by rw[o];rintro (⟨h1,_⟩|h1);exact h1 p;cases h1)]
    apply Yy a wB (wD x);apply QP a;cases q:decide (1<QJ x.ls)
    .simp only[go_sem,Qa,Go.undef];apply Ju a OG (OP _ t m c T (XC ht) (XC hm) x.parent N v B);apply QP a;by_cases k:(ZT L N x.parent).length=16
     .have e:E=25:=by rw[l,Qd (by simp at q;omega),Qe k]
      have f:(((ZT L N x.parent).length:Int)==16)=true:=ξ;simp only[go_sem,Qa,f];exact⟨by rw[e],b _ (by rw[e];decide)⟩
     .have e:E=0:=by rw[l,Qd (by simp at q;omega),Qd k]
      have f:(((ZT L N x.parent).length:Int)==16)=false:=ξ;simp only[go_sem,Qa,f];apply Qx a ut;simp only[go_sem,Qa,ht,hm,i,j];rw[Qe e];exact⟨by rw[e],Xh.Q4 h t m c T ht hm x _⟩
    .simp only[go_sem,Qa,Go.undef];apply Ju a fk (fH _ t m c T (XC ht) (XC hm) x.parent);apply QP a;cases r:Vl L x.parent
     .have e:E=29:=by rw[l,Qe ⟨by simpa using q,r⟩]
      simp only[go_sem,Qa,Go.undef];exact⟨by rw[e],b _ (by rw[e];decide)⟩
     .simp only[go_sem,Qa,Go.undef];apply Ju a OG (OP _ t m c T (XC ht) (XC hm) x.parent N v B);apply QP a;by_cases k:(ZT L N x.parent).length=16
      .have e:E=25:=by rw[l,Qd (by rw[r];simp),Qe k]
       have f:(((ZT L N x.parent).length:Int)==16)=true:=ξ;simp only[go_sem,Qa,f];exact⟨by rw[e],b _ (by rw[e];decide)⟩
      .have e:E=0:=by rw[l,Qd (by rw[r];simp),Qd k]
       have f:(((ZT L N x.parent).length:Int)==16)=false:=ξ;simp only[go_sem,Qa,f];apply Qx a ut;simp only[go_sem,Qa,ht,hm,i,j];rw[Qe e];exact⟨by rw[e],Xh.Q4 h t m c T ht hm x _⟩
   .have e:E=23:=by rw[u,Qe (.inl ⟨p,by simp[o]⟩)]
    apply Qx a ol;simp only[go_sem,Qa,ht,hm,i,j,n,s,VU p,bne];exact⟨by rw[e],b _ (by rw[e];decide)⟩
  | some z=>
   rw[o,K6]at n;cases hz:z.leaf with
   | true=>
    have e:E=23:=by rw[u,Qe (.inr (by simp[o,hz]))]
    by_cases p:x.parent=0
    .apply Qx a ol;simp only[go_sem,Qa,ht,hm,i,j,n,s,WC p,bne,hz];exact⟨by rw[e],b _ (by rw[e];decide)⟩
    .apply Qx a ol;simp only[go_sem,Qa,ht,hm,i,j,n,s,VU p,bne,hz];exact⟨by rw[e],b _ (by rw[e];decide)⟩
   | false=>
    by_cases p:x.parent=0
    .apply Qx a ol;simp only[go_sem,Qa,ht,hm,i,j,n,s,WC p,bne,hz];have l:E=(if 1<QJ x.ls/\Vl L x.parent=false then 29 else if (ZT L N x.parent).length=16 then 25 else 0):=by rw[u,Qd (by rw[o];rintro (⟨h1,_⟩|h1);exact h1 p;exact absurd h1 (by simp[hz]))]
     apply Yy a wB (wD x);apply QP a;cases q:decide (1<QJ x.ls)
     .simp only[go_sem,Qa,Go.undef];apply Ju a OG (OP _ t m c T (XC ht) (XC hm) x.parent N v B);apply QP a;by_cases k:(ZT L N x.parent).length=16
      .have e:E=25:=by rw[l,Qd (by simp at q;omega),Qe k]
       have f:(((ZT L N x.parent).length:Int)==16)=true:=ξ;simp only[go_sem,Qa,f];exact⟨by rw[e],b _ (by rw[e];decide)⟩
      .have e:E=0:=by rw[l,Qd (by simp at q;omega),Qd k]
       have f:(((ZT L N x.parent).length:Int)==16)=false:=ξ;simp only[go_sem,Qa,f];apply Qx a ut;simp only[go_sem,Qa,ht,hm,i,j];rw[Qe e];exact⟨by rw[e],Xh.Q4 h t m c T ht hm x _⟩
     .simp only[go_sem,Qa,Go.undef];apply Ju a fk (fH _ t m c T (XC ht) (XC hm) x.parent);apply QP a;cases r:Vl L x.parent
      .have e:E=29:=by rw[l,Qe ⟨by simpa using q,r⟩]
       simp only[go_sem,Qa,Go.undef];exact⟨by rw[e],b _ (by rw[e];decide)⟩
      .simp only[go_sem,Qa,Go.undef];apply Ju a OG (OP _ t m c T (XC ht) (XC hm) x.parent N v B);apply QP a;by_cases k:(ZT L N x.parent).length=16
       .have e:E=25:=by rw[l,Qd (by rw[r];simp),Qe k]
        have f:(((ZT L N x.parent).length:Int)==16)=true:=ξ;simp only[go_sem,Qa,f];exact⟨by rw[e],b _ (by rw[e];decide)⟩
       .have e:E=0:=by rw[l,Qd (by rw[r];simp),Qd k]
        have f:(((ZT L N x.parent).length:Int)==16)=false:=ξ;simp only[go_sem,Qa,f];apply Qx a ut;simp only[go_sem,Qa,ht,hm,i,j];rw[Qe e];exact⟨by rw[e],Xh.Q4 h t m c T ht hm x _⟩
    .apply Qx a ol;simp only[go_sem,Qa,ht,hm,i,j,n,s,VU p,bne,hz];have l:E=(if 1<QJ x.ls/\Vl L x.parent=false then 29 else if (ZT L N x.parent).length=16 then 25 else 0):=by rw[u,Qd (by simp[o,hz])]
     apply Yy a wB (wD x);apply QP a;cases q:decide (1<QJ x.ls)
     .simp only[go_sem,Qa,Go.undef];apply Ju a OG (OP _ t m c T (XC ht) (XC hm) x.parent N v B);apply QP a;by_cases k:(ZT L N x.parent).length=16
      .have e:E=25:=by rw[l,Qd (by simp at q;omega),Qe k]
       have f:(((ZT L N x.parent).length:Int)==16)=true:=ξ;simp only[go_sem,Qa,f];exact⟨by rw[e],b _ (by rw[e];decide)⟩
      .have e:E=0:=by rw[l,Qd (by simp at q;omega),Qd k]
       have f:(((ZT L N x.parent).length:Int)==16)=false:=ξ;simp only[go_sem,Qa,f];apply Qx a ut;simp only[go_sem,Qa,ht,hm,i,j];rw[Qe e];exact⟨by rw[e],Xh.Q4 h t m c T ht hm x _⟩
     .simp only[go_sem,Qa,Go.undef];apply Ju a fk (fH _ t m c T (XC ht) (XC hm) x.parent);apply QP a;cases r:Vl L x.parent
      .have e:E=29:=by rw[l,Qe ⟨by simpa using q,r⟩]
       simp only[go_sem,Qa,Go.undef];exact⟨by rw[e],b _ (by rw[e];decide)⟩
      .simp only[go_sem,Qa,Go.undef];apply Ju a OG (OP _ t m c T (XC ht) (XC hm) x.parent N v B);apply QP a;by_cases k:(ZT L N x.parent).length=16
       .have e:E=25:=by rw[l,Qd (by rw[r];simp),Qe k]
        have f:(((ZT L N x.parent).length:Int)==16)=true:=ξ;simp only[go_sem,Qa,f];exact⟨by rw[e],b _ (by rw[e];decide)⟩
       .have e:E=0:=by rw[l,Qd (by rw[r];simp),Qd k]
        have f:(((ZT L N x.parent).length:Int)==16)=false:=ξ;simp only[go_sem,Qa,f];apply Qx a ut;simp only[go_sem,Qa,ht,hm,i,j];rw[Qe e];exact⟨by rw[e],Xh.Q4 h t m c T ht hm x _⟩
end
def wG(L:List Qm)(a:Int):Int:=if (Qy L a).isNone then 6 else if KE L a≠[] then 23 else 0
section
variable (h:List Ob)(t m c:Nat){es:List ZF}{L:List Qm}(T:VF es L)(hlen:L.length<1000000)
 (ht:h[t]? = some ⟨.one,0,1,1,λ_=>[.mref m 0]⟩) (hm:h[m]? = some (QS .i64 c es))
include T ht hm hlen
omit hlen T in
theorem Xh.put{b}{a}{e}(j:VF a e)(g):Xh h t m e (h.set m (QS .i64 b a)++g):=by
 have d:=Qc hm;have i:=Qc ht;have k:m≠t:=by rintro rfl;rw[ht]at hm;cases hm
 refine⟨⟨b,a,?_,?_,j⟩,σ,λl f n=>?_⟩
 .rw[QE (by simpa using i),Ql k];exact ht
 .rw[QE (by simpa using d),Qt d]
 .rw[QE (by simpa using f),Ql (Q9 n)]
theorem Qur(a):QM prog 134 h [.ptr t 0 0 0,Qb a] (λd z=>d=Qb (wG L a)/\Xh h t m (if wG L a=0 then Ww L a else L) z):=by
 have l:=T.look a;have b:=Qc ht;have f:=Qc hm;obtain⟨E,p⟩:∃E,E=wG L a:=⟨_,rfl⟩;rw[<- p];have j:∀g:List Ob,E≠0->Xh h t m (if E=0 then Ww L a else L) (h++g):=λg B=>by rw[Qd B];exact Xh.same h t m c ht hm T g
 cases n:Qy L a with
 | none=>
  have e:E=6:=by rw[p,wG,Qe (by simp[n])]
  rw[n,zE]at l;refine Q8 func134 ntmps134 results134 λk w v o=>?_;have b:=Qc ht;have f:=Qc hm;simp only[go_sem,Qa,ht,b,hm,f,l];exact⟨by rw[e],j _ (by rw[e];decide)⟩
 | some x=>
  rw[n,K6]at l;have r:E=if KE L a≠[] then 23 else 0:=by rw[p,wG,Qd (by simp[n])]
  refine Q8 func134 ntmps134 results134 λk w v o=>?_;have b:=Qc ht;have f:=Qc hm;simp only[go_sem,Qa,ht,b,hm,f,l];refine Hh o o4 rfl ?_ (pS _ t m c T hlen (XC ht) (XC hm) a) rfl λd g y=>?_
  .simp only[go_sem]
  rcases y with ⟨rfl,i⟩|⟨I,K,F,C,rfl,M,q,J⟩
  .have e:E=0:=by rw[r,Qd (by simp[i])]
   apply Qf o;simp only[go_sem,Qa,ht,hm,b,f];rw[Qe e];exact⟨by rw[e],Xh.put h t m c ht hm (QfP T a) _⟩
  .have u:=Qc q;apply Qf o;by_cases i:KE L a=[]
   .have e:E=0:=by rw[r,Qd (by simp[i])]
    simp only[go_sem,Qa,ht,hm,b,f,q,u,i];rw[Qe e];exact⟨by rw[e],Xh.put h t m c ht hm (QfP T a) _⟩
   .have e:E=23:=by rw[r,Qe i]
    have H:0<(KE L a).length:=bc.2 i;have s:(0:Int)<((KE L a).length:Int):=ω;simp only[go_sem,Qa,ht,hm,b,f,q,u,s,QT s];exact⟨by rw[e],j _ (by rw[e];decide)⟩
end
def pT(h:List Ob):(h.map Ob.ro).map Ob.ro=h.map Ob.ro:=by rw[GB];exact Dd λo _=>ro_ro o
def QfZ(F:List Ob)(f a:Nat)(b:List D)(g:Int->Bool):Prop:=∀(h:List Ob) (n:Int),VQ F h->Zi prog f h (Z6 a b [Qb n]) (λd=>d=QX (g n))
def xL(g:Int->Bool)(l:List Int):Int:=match l.findIdx? g with
 | some i=>i
 | none=>-1
def pU{g}{l:List Int}{k}(a:k<l.length)(h:∀i,i<k->g (l.getD i 0)=false)(c:g (l.getD k 0)=true):xL g l=k:=by
 have e:l.findIdx? g=some k:=by
  rw[Dc];refine⟨a,by simpa[QY,a] using c,λi b=>?_⟩;have:=h i b;simpa[QY,show i<l.length by omega] using this
 rw[xL,e]
def pV{g}{l:List Int}(h:∀i,i<l.length->g (l.getD i 0)=false):xL g l=-1:=by
 have e:l.findIdx? g=none:=by
  rw[EH];intro x hx;obtain⟨i,a,rfl⟩:=xl hx;have:=h i a;simpa[QY,a] using this
 rw[xL,e]
section
variable (h:List Ob)(l:List Int)(lo gn off:Nat)(row:Nat->List D)(hlen:l.length<1000000)(ho:(h.map Ob.ro)[lo]? = some ⟨.As,gn,1,off+l.length,row⟩)(hr:∀i,i<l.length->row (off+i)=[Qb (l.getD i 0)])
include hlen ho hr
theorem Qus(e:D)(f m:Nat)(r:List D)(y:Qn prog f)(C:JF e=some (f,m,r))(c:Int->Bool)(x:QfZ (h.map Ob.ro) f m r c):
  Zi prog 102 h [.ref lo gn off l.length,e] (λd=>d=Qb (xL c l)):=by
 refine ZJ func102 ntmps102 results102 λt w H F q I b=>?_;rw[<- q]at ho;have j:=Qc ho;simp only[go_sem,Qa,ho,j];refine ZW (λk s=>(∀i,i<k->c (l.getD i 0)=false)/\s=⟨[(0,.ref lo gn off l.length),(1,e),(7,Qb l.length),(8,Qb k)],F⟩) l.length QQ ⟨λi p=>absurd p ω,rfl⟩ ?_;rintro k s o ⟨g,rfl⟩;apply QP b;have j:=Qc ho;have E:=JT (show k<4611686018427387904 from ω);first|refine WS o (λa=>?_) (λa=>?_)|refine WT o (λa=>?_) (λa=>?_)
 .have u:=hr k a;have v:off+k<off+l.length:=ω;simp only[go_sem,Qa,ho,j,a,u,v];refine XR b y C ?_ (x F (l.getD k 0) (by rw[<- q];exact VQ.refl F)) rfl λd2 z=>?_
  .simp only[go_sem];exact DL _
  subst z;apply Qf b;cases n:c (l.getD k 0)
  .simp only[go_sem,Qa];refine⟨a,_,Qr.frame (by simp only[go_sem,E]),λi p=>?_,rfl⟩;by_cases B:i<k
   .exact g i B
   .have:i=k:=ω;subst this;exact n
  .rw[pU a g n];simp only[go_sem,Qa];exact⟨[],(JZ F).symm⟩
 .have a:k=l.length:=ω;subst a;simp only[go_sem,GD];rw[pV g];apply QP b;exact⟨[],(JZ F).symm⟩
theorem Qut(a:D)(f b:Nat)(e:List D)(o:Qn prog f)(r:JF a=some (f,b,e))(c:Int->Bool)(m:QfZ (h.map Ob.ro) f b e c):
  Zi prog 70 h [.ref lo gn off l.length,a] (λd=>d=QX (decide (0<=xL c l))):=by
 refine ZJ func70 ntmps70 results70 λk w t F j u g=>?_;rw[<- j]at ho;have s:=Qc ho;simp only[go_sem,Qa,ho,s];refine XR g SS rfl ?_ (Qus F l lo gn off row hlen (Z3 ho) hr a f b e o r c (λq n hx=>?_)) rfl λd2 p=>?_
 .simp only[go_sem];exact LV a
 .rw[j,pT]at hx;exact m q n hx
 subst p;apply QP g;exact⟨[],(JZ F).symm⟩
end
def Qf0(h)(c):Zi prog 102 h [.nil,c] (λd=>d=Qb (-1)):=by
 refine ZJ func102 ntmps102 results102 λb w e F g i a=>?_;simp only[go_sem,Qa];refine ZW (λk s=>s=⟨[(7,Qb 0),(8,Qb 0)],F⟩) 0 QQ rfl ?_;rintro k s f rfl;apply QP a;apply QP a;exact⟨[],(JZ F).symm⟩
def Quu(h)(a):Zi prog 70 h [.nil,a] (λd=>d=QX false):=by
 refine ZJ func70 ntmps70 results70 λc w f F g i b=>?_;simp only[go_sem,Qa];refine XR b SS rfl ?_ (Qf0 F a) rfl λd2 e=>?_
 .simp only[go_sem];exact LV a
 subst e;apply QP b;exact⟨[],(JZ F).symm⟩
def Ta(g)(l:List Int):decide (0<=xL g l)=l.any g:=by
 unfold xL;cases h:l.findIdx? g with
 | some i=>
  have:=Dc.1 h;obtain⟨b,a,_⟩:=this;have e:l.any g=true:=vY.2 ⟨_,X0 b,a⟩;rw[e];simp
 | none=>
  have:=EH.1 h;have e:l.any g=false:=by rw[aU];intro x hx;simp[this x hx]
  rw[e];decide
def vA(L:List Qm)(a:Int):Bool:=decide (1<QJ ((Qy L a).getD default).ls)
def wH(L:List Qm)(x:Qm):Int:=
 if Vk x≠0 then Vk x
 else if (Qy L x.iD).isNone then 6
 else if x.parent≠((Qy L x.iD).getD default).parent\/x.leaf≠((Qy L x.iD).getD default).leaf then 1
 else if (1<QJ x.ls/\Vl L x.parent=false)\/(¬ 1<QJ x.ls/\(KE L x.iD).any (vA L)=true) then 29
 else 0
section
variable (h:List Ob)(t m c tb:Nat){es:List ZF}{L:List Qm}(T:VF es L)
 (ht:(h.map Ob.ro)[t]? = some ⟨.Wh,0,1,1,λ_=>[.mref m 0]⟩) (hm:(h.map Ob.ro)[m]? = some (QS .i64 c es).ro)
 (Zw:(h.map Ob.ro)[tb]? = some ⟨.Wh,0,1,1,λ_=>[.ptr t 0 0 0]⟩)
include T ht hm Zw
theorem Quv(e):Zi prog 170 h [Qb e,.ptr tb 0 0 0] (λd=>d=QX (vA L e)):=by
 have f:=T.look e;unfold vA;cases l:Qy L e with
 | none=>
  rw[l,zE]at f;refine ZJ func170 ntmps170 results170 λb w n F i o a=>?_;rw[<- i]at ht hm Zw;have j:=Qc ht;have k:=Qc hm;have g:=Qc Zw;simp only[go_sem,Qa,ht,j,hm,k,Zw,g,f];apply Yy a wB (wD ⟨0,0,false,⟨0,0,0⟩,⟨0,0,0⟩,⟨0,0,0⟩,0,0⟩);apply QP a;exact⟨[],(JZ F).symm,rfl⟩
 | some x=>
  rw[l,K6]at f;refine ZJ func170 ntmps170 results170 λb w n F i o a=>?_;rw[<- i]at ht hm Zw;have j:=Qc ht;have k:=Qc hm;have g:=Qc Zw;simp only[go_sem,Qa,ht,j,hm,k,Zw,g,f];apply Yy a wB (wD x);apply QP a;exact⟨[],σ⟩
end
section
variable (h:List Ob)(t m c:Nat){es:List ZF}{L:List Qm}(T:VF es L)(hlen:L.length<1000000)
 (ht:h[t]? = some ⟨.one,0,1,1,λ_=>[.mref m 0]⟩) (hm:h[m]? = some (QS .i64 c es))
include T ht hm hlen
theorem Quw(x):QM prog 132 h [.ptr t 0 0 0,WV x] (λd B=>d=Qb (wH L x)/\Xh h t m (if wH L x=0 then Vt L x else L) B):=by
 have k:=T.look x.iD;have f:=Qc ht;have i:=Qc hm;obtain⟨E,u⟩:∃E,E=wH L x:=⟨_,rfl⟩;rw[<- u];have b:∀g:List Ob,E≠0->Xh h t m (if E=0 then Vt L x else L) (h++g):=λg S=>by rw[Qd S];exact Xh.same h t m c ht hm T g
 refine Q8 func132 ntmps132 results132 λM w V a=>?_;have f:=Qc ht;have i:=Qc hm;simp only[go_sem,Qa,ht,f,hm,i];apply Yy a Qfa (QfK x);apply QP a;by_cases l:Vk x=0;case neg=>
  have e:E=Vk x:=by rw[u,wH,Qe l]
  simp only[go_sem,Qa,VU l,bne];exact⟨by rw[e],b _ (by rw[e];exact l)⟩
 simp only[go_sem,Qa,WC l,bne];cases s:Qy L x.iD with
 | none=>
  have e:E=6:=by rw[u,wH,Qd (by simpa using l),Qe (by simp[s])]
  rw[s,zE]at k;apply Qx a ol;simp only[go_sem,Qa,ht,hm,f,i,k];exact⟨by rw[e],b _ (by rw[e];decide)⟩
 | some y=>
  rw[s,K6]at k;have j:E=(if x.parent≠y.parent\/x.leaf≠y.leaf then 1 else if (1<QJ x.ls/\Vl L x.parent=false)\/(¬ 1<QJ x.ls/\(KE L x.iD).any (vA L)=true) then 29 else 0):=by
   rw[u,wH,Qd (by simpa using l),Qd (by simp[s]),s];rfl
  by_cases r:x.parent=y.parent;case neg=>
   have e:E=1:=by rw[j,Qe (.inl r)]
   apply Qx a ol;simp only[go_sem,Qa,ht,hm,f,i,k,VU r,bne];exact⟨by rw[e],b _ (by rw[e];decide)⟩
  by_cases v:x.leaf=y.leaf;case neg=>
   have e:E=1:=by rw[j,Qe (.inr v)]
   have C:(x.leaf==y.leaf)=false:=by simpa using v
   apply Qx a ol;simp only[go_sem,Qa,ht,hm,f,i,k,WC r,bne,C];exact⟨by rw[e],b _ (by rw[e];decide)⟩
  have C:(x.leaf==y.leaf)=true:=by simpa using v
  rw[Qd (by simp[r,v])]at j;apply Qx a ol;simp only[go_sem,Qa,ht,hm,f,i,k,WC r,bne,C];apply Yy a wB (wD x);apply QP a;cases p:decide (1<QJ x.ls)
  .have q:¬ 1<QJ x.ls:=by simpa using p
   simp only[go_sem,Qa,Go.undef];refine ZO a wB ?_ (wD x) ?_
   .simp only[go_sem,Qa,p,Go.undef]
   apply Qf a;simp only[go_sem,Qa,p,Go.undef];refine Hh a o4 rfl ?_ (pS _ t m c T hlen (XC ht) (XC hm) x.iD) rfl λd g O=>?_
   .simp only[go_sem]
   rcases O with ⟨rfl,U⟩|⟨N,Q,H,F,rfl,W,J,P⟩
   .have e:E=0:=by rw[j,Qd (by rintro (⟨z,_⟩|⟨_,z⟩);exact q z;rw[U]at z;simp at z)]
    apply Qf a;simp only[go_sem,Qa,ht,hm,f,i];apply Ju a SR (Quu _ (.clo 170 0 [.ptr h.length 0 0 0]));apply Qf a;simp only[go_sem,Qa,Go.undef];apply Qx a ut;simp only[go_sem,Qa,ht,hm,f,i];rw[Qe e];exact⟨by rw[e],Xh.Q4 h t m c T ht hm x _⟩
   .apply Qf a;have R:(KE L x.iD).length<1000000:=by
     have:=Yr (λy:Qm=>y.parent==x.iD) L;unfold KE;rw[KK];omega
    rw[W9]at J;simp only[go_sem,Qa,ht,hm,f,i];refine Xr a SR ?_ (Qut _ (KE L x.iD) N Q H F R (Z3 J) P (.clo 170 0 [.ptr h.length 0 0 0]) 170 0 [.ptr h.length 0 0 0] Qs0 rfl (vA L) (λB n hx=>Quv B t m c h.length T (Z3 (hx.get (XC ht))) (LS (hx.get (XC hm))) (Z3 (hx.get (Z3 (o:=⟨.one,0,1,1,λ_=>[.ptr t 0 0 0]⟩) (by rw[Vj rfl];rfl)))) n)) ?_
    .simp only[go_sem,Qa,Go.undef,Ta]
    apply Qf a;simp only[go_sem,Qa,Go.undef,Ta];cases I:(KE L x.iD).any (vA L)
    .have e:E=0:=by rw[j,Qd (by rw[I];simp[q])]
     simp only[go_sem,Qa,Go.undef];apply Qx a ut;simp only[go_sem,Qa,ht,hm,f,i];rw[Qe e];exact⟨by rw[e],Xh.Q4 h t m c T ht hm x _⟩
    .have e:E=29:=by rw[j,Qe (.inr ⟨q,I⟩)]
     simp only[go_sem,Qa,Go.undef];exact⟨by rw[e],b _ (by rw[e];decide)⟩
  .have q:1<QJ x.ls:=by simpa using p
   simp only[go_sem,Qa,Go.undef];apply Ju a fk (fH _ t m c T (XC ht) (XC hm) x.parent);apply QP a;cases K:Vl L x.parent
   .have e:E=29:=by rw[j,Qe (.inl ⟨q,K⟩)]
    simp only[go_sem,Qa,Go.undef];exact⟨by rw[e],b _ (by rw[e];decide)⟩
   .have e:E=0:=by rw[j,Qd (by rw[K];simp[q])]
    simp only[go_sem,Qa,Go.undef];refine ZO a wB ?_ (wD x) ?_
    .simp only[go_sem,Qa,p,Go.undef]
    apply Qf a;simp only[go_sem,Qa,p,Go.undef];apply Qx a ut;simp only[go_sem,Qa,ht,hm,f,i];rw[Qe e];exact⟨by rw[e],Xh.Q4 h t m c T ht hm x _⟩
end
def A5{L}(h:Wv L)(x:Qm)(k):Qy (Vt L x) k=if k=x.iD then some x else Qy L k:=by
 have i:=OO x h;have d:=λc=>(Hq x h).mem_iff (a:=c);by_cases b:k=x.iD
 .rw[Qe b];exact(VH i).2 ⟨(d x).2 σ,b.symm⟩
 .rw[Qd b];cases f:Qy L k with
  | some c=>
   obtain⟨l,j⟩:=(VH h).1 f;exact(VH i).2 ⟨(d c).2 (QF.2 (.inr (JH.2 ⟨l,ξ⟩))),j⟩
  | none=>
   rw[Hp]at f ⊢;intro c g;rcases QF.1 ((d c).1 g) with rfl|g
   .exact λe=>b e.symm
   .exact f c (JH.1 g).1
def Td{L}(h:Wv L)(a k):Qy (Ww L a) k=if k=a then none else Qy L k:=by
 have f:=pP a h;by_cases e:k=a
 .rw[Qe e,Hp];intro c d;have:=(JH.1 d).2;simp at this;omega
 .rw[Qd e];cases b:Qy L k with
  | some c=>
   obtain⟨i,g⟩:=(VH h).1 b;exact(VH f).2 ⟨JH.2 ⟨i,ξ⟩,g⟩
  | none=>
   rw[Hp]at b ⊢;exact λc d=>b c (JH.1 d).1
def Ends.succ{L}:∀{n:Nat} {id:Int},Ends L n id->Ends L (n+1) id
 | 0,id,h=>by simp only[Ends]at h ⊢;rw[h];trivial
 | n+1,id,h=>by
  rw[Ends]at h ⊢;cases a:Qy L id with
  | none=>trivial
  | some c=>rw[a]at h;exact Ends.succ h
def Ends.le{L}{n k}{a}(h:Ends L n a)(c:n<=k):Ends L k a:=by
 induction c with
 | refl=>exact h
 | step _ b=>exact b.succ
def pW{L}:∀{n:Nat} {id:Int},Ends L n id->ZT L (n+1) id=ZT L n id
 | 0,id,h=>by simp only[Ends]at h;simp only[ZT,h]
 | n+1,id,h=>by
  rw[Ends]at h;rw[ZT]
  conv=>rhs;rw[ZT]
  cases a:Qy L id with
  | none=>rfl
  | some c=>rw[a]at h;simp only[pW h]
def Qux{L}{n k}{a}(h:Ends L n a)(b:n<=k):ZT L k a=ZT L n a:=by
 induction b with
 | refl=>rfl
 | step b c=>rw[pW (h.le b),c]
def A7{L}:∀{n:Nat} {id:Int},(ZT L n id).length<=n
 | 0,_=>QB _
 | n+1,id=>by
  rw[ZT];cases Qy L id with
  | none=>exact Jj _
  | some c=>have:=A7 (L:=L) (n:=n) (id:=c.parent);simp only[Vo];omega
def Ends.short{L}:∀{n k:Nat} {id:Int},Ends L n id->(ZT L n id).length<=k->Ends L k id
 | 0,k,id,h,_=>h.le (Jj _)
 | n+1,k,id,h,b=>by
  rw[Ends]at h;rw[ZT]at b;cases a:Qy L id with
  | none=>cases k with
   | zero=>exact a
   | succ k=>rw[Ends,a];trivial
  | some c=>
   rw[a]at h b;simp only[Vo]at b;cases k with
   | zero=>omega
   | succ k=>rw[Ends,a];exact Ends.short h ω
structure TreeInv (L:List Qm):Prop where
 rising:Wv L
 ids:∀c∈L,1<=c.iD
 par:∀c∈L,c.parent=0\/(Qy L c.parent).isSome=true
 ends:∀id,Ends L 16 id
def TreeInv.nil:TreeInv []:=⟨by simp[Wv],σ,σ,λid=>by simp[Ends,Qy]⟩
def right_id{x:Qm}(h:Vk x=0):1<=x.iD/\x.iD<=65536/\x.parent≠x.iD:=by
 have a:DK x=true:=by
  cases b:DK x with
  | true=>rfl
  | false=>rw[Vk,b]at h;simp at h
 simp[DK,yF]at a;exact⟨a.1.1.1,a.1.1.2,a.2⟩
def fN{L}(h:Wv L)(x){k:Int}(a:(Qy L k).isSome=true):(Qy (Vt L x) k).isSome=true:=by
 rw[A5 h];split
 .rfl
 .exact a
def yI{L}(h:Wv L)(x){c}(a:c∈Vt L x):c=x\/c∈L:=by
 rcases QF.1 ((Hq x h).mem_iff.1 a) with h1|h1
 .exact .inl h1
 .exact .inr (JH.1 h1).1
def TreeInv.add{L}(I:TreeInv L){x:Qm}(m:Vk x=0)(l:Qy L x.iD=none)(k:x.parent=0\/(Qy L x.parent).isSome=true)(o:(ZT L 16 x.parent).length≠16):TreeInv (Vt L x):=by
 obtain⟨j,_,i⟩:=right_id m;have d:∀n id,id≠x.iD->Ends L n id->Ends (Vt L x) n id:=by
  intro n;induction n with
  | zero=>intro id b h;rw[Ends]at h ⊢;rw[A5 I.rising,Qd b];exact h
  | succ n g=>
   intro id b h;rw[Ends]at h ⊢;rw[A5 I.rising,Qd b];cases f:Qy L id with
   | none=>trivial
   | some c=>
    rw[f]at h;refine g _ ?_ h;rcases I.par c ((VH I.rising).1 f).1 with hp|hp
    .rw[hp];omega
    .intro e;rw[e,l]at hp;cases hp
 refine⟨OO x I.rising,λc a=>?_,λc a=>?_,λid=>?_⟩
 .rcases yI I.rising x a with rfl|a
  .exact j
  .exact I.ids c a
 .rcases yI I.rising x a with rfl|a
  .exact k.imp id λh=>fN I.rising c h
  .exact(I.par c a).imp id λh=>fN I.rising x h
 .by_cases b:id=x.iD
  .subst b;rw[Ends,A5 I.rising,Qe rfl];refine d 15 _ i ((I.ends x.parent).short ?_);have:=A7 (L:=L) (n:=16) (id:=x.parent);omega
  .exact d 16 id b (I.ends id)
def TreeInv.del{L}(I:TreeInv L){a}(h:KE L a=[]):TreeInv (Ww L a):=by
 have m:∀c∈L,c.parent≠a:=λc b e=>by
  have:c∈L.filter (λy=>y.parent==a):=JH.2 ⟨b,by simp[e]⟩;have l:(L.filter λy=>y.parent==a)=[]:=by simpa[KE] using h
  rw[l]at this;simp at this
 refine⟨pP a I.rising,λc b=>I.ids c (JH.1 b).1,λc b=>?_,λid=>?_⟩
 .have g:=(JH.1 b).1;exact(I.par c g).imp id λj=>by rw[Td I.rising,Qd (m c g)];exact j
 .have d:∀n id,Ends L n id->Ends (Ww L a) n id:=by
   intro n;induction n with
   | zero=>intro id h;rw[Ends]at h ⊢;rw[Td I.rising];split<;>simp[h]
   | succ n i=>
    intro id h;rw[Ends]at h ⊢;rw[Td I.rising];by_cases f:id=a
    .rw[Qe f];trivial
    .rw[Qd f];cases k:Qy L id with
     | none=>trivial
     | some c=>rw[k]at h;exact i _ h
  exact d 16 id (I.ends id)
def TreeInv.set{L}(I:TreeInv L){x y:Qm}(k:Vk x=0)(d:Qy L x.iD=some y)(g:x.parent=y.parent):TreeInv (Vt L x):=by
 obtain⟨i,_,l⟩:=right_id k;have e:∀n id,Ends L n id->Ends (Vt L x) n id:=by
  intro n;induction n with
  | zero=>
   intro id h;rw[Ends]at h ⊢;rw[A5 I.rising];by_cases b:id=x.iD
   .subst b;rw[d]at h;cases h
   .rw[Qd b];exact h
  | succ n f=>
   intro id h;rw[Ends]at h ⊢;rw[A5 I.rising];by_cases b:id=x.iD
   .subst b;rw[Qe rfl];rw[d]at h;show Ends (Vt L x) n x.parent;rw[g];exact f _ h
   .rw[Qd b];cases j:Qy L id with
    | none=>trivial
    | some c=>rw[j]at h;exact f _ h
 refine⟨OO x I.rising,λc a=>?_,λc a=>?_,λid=>e 16 id (I.ends id)⟩
 .rcases yI I.rising x a with rfl|a
  .exact i
  .exact I.ids c a
 .rcases yI I.rising x a with rfl|a
  .rw[g];exact(I.par y ((VH I.rising).1 d).1).imp id λh=>fN I.rising c h
  .exact(I.par c a).imp id λh=>fN I.rising x h
def up(T:List Qm)(id:Int):List Int:=ZT T 16 id
structure KF (T:List Qm):Prop extends TreeInv T where
 right:∀c∈T,Vk c=0
 J9:∀c∈T,c.parent≠0->∃d,Qy T c.parent=some d/\d.leaf=false
 fO:∀c∈T,1<QJ c.ls->c.parent≠0->vA T c.parent=true
 len:T.length<=64
section
variable {T:List Qm}(I:KF T)
include I
theorem fQ(a):up T a=match Qy T a with|none=>[]|some c=>a::up T c.parent:=by
 have b:=pW (I.ends a);unfold up;rw[<- b,ZT];all_goals (cases Qy T a<;>rfl)
theorem Vu{a}{c:Qm}(h:Qy T a=some c):up T a=a::up T c.parent:=by rw[fQ I,h]
theorem Te{a}(h:Qy T a=none):up T a=[]:=by rw[fQ I,h]
theorem Quy{a}{c:Qm}(h:Qy T a=some c):c.iD=a:=((VH I.rising).1 h).2
theorem yJ{a}{c}(h:Qy T a=some c):c∈T:=((VH I.rising).1 h).1
theorem LW:Qy T 0=none:=Hp.2 λc a e=>by have:=I.ids c a;omega
theorem LX:up T 0=[]:=Te I (LW I)
omit I in
theorem Ht{a j:Int}(h:j∈up T a):(Qy T j).isSome=true:=by
 have:∀n a,j∈ZT T n a->(Qy T j).isSome=true:=by
  intro n;induction n with
  | zero=>intro a h;cases h
  | succ n d=>
   intro a h;rw[ZT]at h;cases b:Qy T a with
   | none=>rw[b]at h;cases h
   | some c=>
    rw[b]at h;rcases QF.1 h with rfl|h
    .rw[b];rfl
    .exact d _ h
 exact this 16 a h
theorem OS{a p}(h:p∈up T a):∃l,up T a=l++up T p:=by
 generalize b:(up T a).length=n;induction n using Nat.strongRecOn generalizing a with
 | ind n f=>
  cases d:Qy T a with
  | none=>rw[Te I d]at h;cases h
  | some c=>
   have e:=Vu I d;rw[e]at h b;rcases QF.1 h with rfl|h
   .exact⟨[],rfl⟩
   .obtain⟨l,g⟩:=f _ (by simp only[Vo]at b;omega) h rfl;exact⟨a::l,by rw[e,g];rfl⟩
theorem up_sub{a p q}(h:p∈up T a)(b:q∈up T p):q∈up T a:=by
 obtain⟨l,e⟩:=OS I h;rw[e];exact Nz _ b
theorem Ye{a}{c}(h:Qy T a=some c):a∈up T a:=by rw[Vu I h];simp
theorem Tf(a:Int):(up T a).Nodup:=by
 generalize b:(up T a).length=n;induction n using Nat.strongRecOn generalizing a with
 | ind n f=>
  cases d:Qy T a with
  | none=>rw[Te I d];simp
  | some c=>
   have e:=Vu I d;rw[e]at b ⊢;rw[ZY];refine⟨λh=>?_,f _ (by simp only[Vo]at b;omega) _ rfl⟩;obtain⟨l,g⟩:=OS I h;have:=congrArg List.length g;rw[e]at this;simp only[Zo,Vo]at this;omega
theorem fR{a p}(h:p∈up T a)(m:a≠p):∃i c,i∈up T a/\Qy T i=some c/\c.parent=p:=by
 generalize f:(up T a).length=n;induction n using Nat.strongRecOn generalizing a with
 | ind n j=>
  cases b:Qy T a with
  | none=>rw[Te I b]at h;cases h
  | some c=>
   have e:=Vu I b;rw[e]at h f;rcases QF.1 h with rfl|h
   .exact absurd rfl m
   .by_cases g:c.parent=p
    .exact⟨a,c,by rw[e];simp,b,g⟩
    .obtain⟨i,d,l,k⟩:=j _ (by simp only[Vo]at f;omega) h g rfl;exact⟨i,d,by rw[e];simp[l],k⟩
theorem Quz{a i j}{c d:Qm}(o:i∈up T a)(n:j∈up T a)(g:Qy T i=some c)(f:Qy T j=some d)(e:c.parent=d.parent):i=j:=by
 obtain⟨l,k⟩:=OS I o;obtain⟨m,h⟩:=OS I n;have s:=congrArg List.length (Vu I g);have r:=congrArg List.length (Vu I f);have q:(up T i).length=(up T j).length:=by rw[s,r,e];rfl
 have p:=k.symm.trans h;obtain⟨_,b⟩:=List.append_inj' p q;rw[Vu I g,Vu I f]at b;exact(xj b).1
def Jq(T:List Qm)(A:List Int)(b:Int):Bool:=A.any λa=>(up T a).contains b
omit I in
theorem YS{A}{b}:Jq T A b=true↔∃a∈A,b∈up T a:=by simp[Jq]
def zR(T:List Qm)(A:List Int)(p i:Int):Bool:=(match Qy T i with|some c=>c.parent==p|none=>false)&&Jq T A i
omit I in
theorem xN{A}{p i}:zR T A p i=true↔∃c,Qy T i=some c/\c.parent=p/\Jq T A i=true:=by
 unfold zR;cases Qy T i with
 | none=>simp
 | some c=>simp
def yK(T:List Qm)(A:List Int):Prop:=∀a∈A,∃c,Qy T a=some c/\c.leaf=true/\1<QJ c.ls
theorem LY{A}{i p}(h:Jq T A i=true)(b:p∈up T i):Jq T A p=true:=by
 obtain⟨a,d,c⟩:=YS.1 h;exact YS.2 ⟨a,d,up_sub I c b⟩
theorem Qf1{A}(m:yK T A){p}{d:Qm}(b:Qy T p=some d)(g:d.leaf=false):Jq T A p=true↔∃i,zR T A p i=true:=by
 constructor
 .intro h;obtain⟨a,j,t⟩:=YS.1 h;obtain⟨c,f,e,k⟩:=m a j;have s:a≠p:=by rintro rfl;rw[f]at b;cases b;rw[e]at g;cases g
  obtain⟨i,c,q,o,n⟩:=fR I t s;exact⟨i,xN.2 ⟨c,o,n,YS.2 ⟨a,j,q⟩⟩⟩
 .rintro⟨i,l⟩;obtain⟨c,f,e,k⟩:=xN.1 l;have r:p∈up T i:=by
   rw[Vu I f,e];exact Ki _ (Ye I b)
  exact LY I k r
def Xs(T:List Qm)(A:List Int)(a:Int):List Int:=(up T a).takeWhile λi=>!Jq T A i
theorem Qf2{b}{c:Qm}(h:Qy T b=some c)(j:1<QJ c.ls):∀i∈up T b,∃d,Qy T i=some d/\1<QJ d.ls:=by
 generalize k:(up T b).length=n;induction n using Nat.strongRecOn generalizing b c with
 | ind n m=>
  have e:=Vu I h;rw[e]at k ⊢;intro i a;rcases QF.1 a with rfl|a
  .exact⟨c,h,j⟩
  .by_cases f:c.parent=0
   .rw[f,LX I]at a;cases a
   .obtain⟨d,l,_⟩:=I.J9 c (yJ I h) f;have g:=I.fO c (yJ I h) j f;unfold vA at g;rw[l]at g;exact m _ (by simp only[Vo]at k;omega) l (by simpa using g) rfl i a
end
section
variable {T:List Qm}(I:KF T)
def j6(T:List Qm)(A:List Int)(a:List Int)(p i:Int):Bool:=zR T A p i || (a.contains i&&(match Qy T i with|some c=>c.parent==p|none=>false))
def vC(T:List Qm)(A:List Int)(a:List Int)(p i:Int):Bool:=zR T A p i&&!a.contains i
include I
theorem Tg{A a}{p i}:j6 T A a p i=true↔zR T A p i=true\/(i∈a/\∃c,Qy T i=some c/\c.parent=p):=by
 unfold j6;cases Qy T i with
 | none=>simp
 | some c=>simp
theorem QuA{a i}{l m}{c:Qm}(h:up T a=l++i::m)(p:Qy T i=some c):m=up T c.parent:=by
 have j:i∈up T a:=by rw[h];simp
 obtain⟨b,g⟩:=OS I j;rw[Vu I p]at g;have d:=Tf I a;have e:=h.symm.trans g;have f:=d;rw[h]at d;rw[g]at f;have q:l=b:=by
  have n:∀x∈l,x≠i:=λx hx e=>by
   subst e;rw[J5]at d;exact d.2.2 x hx x σ rfl
  have k:∀x∈b,x≠i:=λx hx e=>by
   subst e;rw[J5]at f;exact f.2.2 x hx x σ rfl
  clear h g d f j;induction l generalizing b with
  | nil=>cases b with
   | nil=>rfl
   | cons y b=>simp only[jM,qc,ID]at e;exact absurd e.1.symm (k y σ)
  | cons x l o=>cases b with
   | nil=>simp only[jM,qc,ID]at e;exact absurd e.1 (n x σ)
   | cons y b=>
    simp only[qc,ID]at e;rw[e.1,o b e.2 (λx hx=>n x (by simp[hx])) (λx hx=>k x (by simp[hx]))]
 subst q;have:=List.append_cancel_left e;exact(xj this).2
theorem QuB{A}(r:yK T A){b e}{k}{c}(f:up T b=k++up T e)(j:Qy T e=some c)(q:∀i∈k++[e],Jq T A i=false):
  (∃i,j6 T A k c.parent i=true)↔∃i,zR T A c.parent i=true:=by
 constructor
 .rintro⟨i,g⟩;rcases (Tg I).1 g with h|⟨m,d,o,n⟩
  .exact⟨i,h⟩
  .exfalso;have p:i=e:=Quz I (a:=b) (by rw[f];simp[m]) (by rw[f];exact Nz _ (Ye I j)) o j n;subst p;have l:=Tf I b;rw[f,J5]at l;exact l.2.2 i m i (Ye I j) rfl
 .rintro⟨i,g⟩;exact⟨i,(Tg I).2 (.inl g)⟩
theorem QuC{A dn}{e}{c:Qm}(f:Qy T e=some c)(p i):j6 T A (dn++[e]) p i=if p=c.parent/\i=e then true else j6 T A dn p i:=by
 rw[vX,Tg I];split
 .rename_i h;obtain⟨rfl,rfl⟩:=h;simp[f]
 .rename_i h;rw[Tg I];constructor
  .rintro (h1|⟨h1,d,b,a⟩)
   .exact .inl h1
   .rcases Q3.1 h1 with h1|h1
    .exact .inr ⟨h1,d,b,a⟩
    .simp only[X1]at h1;subst h1;rw[b]at f;cases f;exact absurd ⟨a.symm,rfl⟩ h
  .rintro (h1|⟨h1,d,b,a⟩)
   .exact .inl h1
   .exact .inr ⟨II _ h1,d,b,a⟩
omit I in
theorem QuD(T)(A)(p i):j6 T A [] p i=zR T A p i:=by simp[j6]
theorem QuE{A}(y:yK T A){a g}{k}{c:Qm}(r:up T a=k++up T g)(v:Qy T g=some c)(t:∀i∈k++[g],Jq T A i=false)(he:c.parent=0\/Jq T A c.parent=true):
  k++[g]=Xs T A a/\∀p i,j6 T A (k++[g]) p i=zR T (a::A) p i:=by
 have l:up T a=(k++[g])++up T c.parent:=by rw[r,Vu I v];simp
 have o:∀j∈up T c.parent,Jq T A j=true:=λj n=>by
  rcases he with he|he
  .rw[he,LX I]at n;cases n
  .exact LY I he n
 refine⟨?_,λp i=>?_⟩
 .unfold Xs;rw[l,List.takeWhile_append_of_pos (λi u=>by rw[t i u];rfl)];have:(up T c.parent).takeWhile (λi=>!Jq T A i)=[]:=by
   cases s:up T c.parent with
   | nil=>rfl
   | cons x q=>rw[br,o x (by rw[s];simp)];rfl
  rw[this,JZ]
 .rw[vX,Tg I,xN (A:=a::A)];have m:∀j,Jq T (a::A) j=true↔j∈up T a\/Jq T A j=true:=λj=>by
   rw[YS,YS];simp
  constructor
  .rintro (h|⟨w,d,f,e⟩)
   .obtain⟨d,f,e,b⟩:=xN.1 h;exact⟨d,f,e,(m i).2 (.inr b)⟩
   .exact⟨d,f,e,(m i).2 (.inl (by rw[l];exact II _ w))⟩
  .rintro⟨d,f,e,b⟩;rcases (m i).1 b with b|b
   .rw[l]at b;rcases Q3.1 b with b|b
    .exact .inr ⟨b,d,f,e⟩
    .exact .inl (xN.2 ⟨d,f,e,o i b⟩)
   .exact .inl (xN.2 ⟨d,f,e,b⟩)
end
def Kf(A:List Int)(b:Int):List Int:=A.filter λa=>a != b
section
variable {T:List Qm}(I:KF T)
def LZ{A}{b}(e:b∈A)(j):Jq T A j=true↔j∈up T b\/Jq T (Kf A b) j=true:=by
 rw[YS,YS];constructor
 .rintro⟨a,d,c⟩;by_cases h:a=b
  .subst h;exact .inl c
  .exact .inr ⟨a,JH.2 ⟨d,by simpa using h⟩,c⟩
 .rintro (h|⟨a,d,c⟩)
  .exact⟨b,e,h⟩
  .exact⟨a,(JH.1 d).1,c⟩
def yK.off{A}(h:yK T A)(b):yK T (Kf A b):=λa c=>h a (JH.1 c).1
def OU{A a}{p i}:vC T A a p i=true↔zR T A p i=true/\i ∉ a:=by simp[vC]
include I
theorem Qf3{A}(C:yK T A){b j}(t:b∈A){l}{c:Qm}(y:up T b=l++up T j)(u:Qy T j=some c)(z:∀i∈l++[j],Jq T (Kf A b) i=false)(F:c.parent≠0):
  (∃i,vC T A (l++[j]) c.parent i=true)↔Jq T (Kf A b) c.parent=true:=by
 have x:up T b=(l++[j])++up T c.parent:=by rw[y,Vu I u];simp
 obtain⟨d,m,w⟩:=I.J9 c (yJ I u) F;constructor
 .rintro⟨i,B⟩;obtain⟨r,q⟩:=OU.1 B;obtain⟨e,p,k,o⟩:=xN.1 r;have H:c.parent∈up T i:=by rw[Vu I p,k];exact Ki _ (Ye I m)
  rcases (LZ t i).1 o with g|g
  .exfalso;rw[x]at g;rcases Q3.1 g with g|g
   .exact q g
   .have s:=Tf I i;rw[Vu I p,k,ZY]at s;exact s.1 g
  .exact LY I g H
 .intro h;obtain⟨a,v,K⟩:=YS.1 h;obtain⟨e,r,q,p⟩:=C.off b a v;have J:a≠c.parent:=by rintro rfl;rw[r]at m;cases m;rw[q]at w;cases w
  obtain⟨i,f,k,o,g⟩:=fR I K J;have n:Jq T (Kf A b) i=true:=YS.2 ⟨a,v,k⟩;refine⟨i,OU.2 ⟨xN.2 ⟨f,o,g,(LZ t i).2 (.inr n)⟩,λE=>?_⟩⟩;rw[z i E]at n;cases n
theorem QuF{A}{a e}(r:a∈A){g}{c:Qm}(t:up T a=g++up T e)(w:Qy T e=some c)(o:∀i∈g++[e],Jq T (Kf A a) i=false)(he:c.parent=0\/Jq T (Kf A a) c.parent=true):
  g++[e]=Xs T (Kf A a) a/\∀p i,vC T A (g++[e]) p i=zR T (Kf A a) p i:=by
 have n:up T a=(g++[e])++up T c.parent:=by rw[t,Vu I w];simp
 have s:∀j∈up T c.parent,Jq T (Kf A a) j=true:=λj h=>by
  rcases he with he|he
  .rw[he,LX I]at h;cases h
  .exact LY I he h
 refine⟨?_,λp i=>?_⟩
 .unfold Xs;rw[n,List.takeWhile_append_of_pos (λi v=>by rw[o i v];rfl)];have:(up T c.parent).takeWhile (λi=>!Jq T (Kf A a) i)=[]:=by
   cases u:up T c.parent with
   | nil=>rfl
   | cons x q=>rw[br,s x (by rw[u];simp)];rfl
  rw[this,JZ]
 .rw[vX,OU,xN,xN];constructor
  .rintro⟨⟨d,m,l,f⟩,k⟩;refine⟨d,m,l,?_⟩;rcases (LZ r i).1 f with b|b
   .rw[n]at b;rcases Q3.1 b with b|b
    .exact absurd b k
    .exact s i b
   .exact b
  .rintro⟨d,m,l,f⟩;refine⟨⟨d,m,l,(LZ r i).2 (.inr f)⟩,λk=>?_⟩;rw[o i k]at f;cases f
end
@[go_sem] def u64(n:Nat):D:=.raw (.int .u64 n)
@[go_sem] theorem wl0:IntKind.i64.wrap 0=0:=π
@[go_sem] theorem wl1:IntKind.i64.wrap 1=1:=π
@[go_sem] theorem wl2:IntKind.i64.wrap 2=2:=π
@[go_sem] theorem wl3:IntKind.i64.wrap 3=3:=π
@[go_sem] theorem wl4:IntKind.i64.wrap 4=4:=π
def never:Nat:=9223372036854775808
attribute [go_sem] Go.undef
def Ci(a b:Nat):IntKind.u64.wrap ((a:Int)+(b:Int))=(((a+b) % 18446744073709551616:Nat):Int):=η
def L0(a b:Nat):IntKind.u64.wrap ((a:Int)*(b:Int))=((a*b % 18446744073709551616:Nat):Int):=by rw[IntKind.wrap_u64,<- EF];omega
def pX(a b:Nat)(h:b<=18446744073709551616):IntKind.u64.wrap ((a:Int) - (b:Int))=(((a+18446744073709551616 - b) % 18446744073709551616:Nat):Int):=η
def Th(a b:Nat)(h:b<=a)(c:a<18446744073709551616):IntKind.u64.wrap ((a:Int) - (b:Int))=((a - b:Nat):Int):=η
def Qf4(a b:Nat)(h:a+b<18446744073709551616):IntKind.u64.wrap ((a:Int)+(b:Int))=((a+b:Nat):Int):=η
def Ti(a b:Nat)(h:a*b<18446744073709551616):IntKind.u64.wrap ((a:Int)*(b:Int))=((a*b:Nat):Int):=by rw[L0,Aq h]
def L6(a s:Nat):((a:Int).fdiv (2 ^ s))=((a / 2 ^ s:Nat):Int):=by
 have h:((2:Int) ^ s)=((2 ^ s:Nat):Int):=σ;rw[h,Int.fdiv_eq_ediv_of_nonneg _ (Int.natCast_nonneg _),Int.natCast_ediv]
def QuG(a:Nat)(b:a<18446744073709551616):bits .and .u64 (a:Int) 4294967295=((a % 4294967296:Nat):Int):=by
 have:=u64_and_nat a 4294967295 b π;rw[show ((4294967295:Nat):Int)=4294967295 from rfl]at this;rw[this,show (4294967295:Nat)=2 ^ 32 - 1 from rfl,Nat.and_two_pow_sub_one_eq_mod]
def QuH(x y:Nat)(b:x<4294967296)(a:y<4294967296):bits .or .u64 ((x*4294967296:Nat):Int) (y:Int)=((x*4294967296+y:Nat):Int):=by
 rw[u64_or_nat _ _ ω ω,nat_join 32 _ _ (by rw[show (2:Nat) ^ 32=4294967296 from rfl];omega) (by simpa using a)]
def OV(a)(b:a<18446744073709551616):a / 9223372036854775808=0\/a / 9223372036854775808=1:=ω
def fS(a b)(d:a<18446744073709551616)(c:b<18446744073709551616):(a &&& b) / 9223372036854775808=(a / 9223372036854775808) &&& (b / 9223372036854775808):=by
 rw[show (9223372036854775808:Nat)=2 ^ 63 from rfl,<- EI,Nat.shiftRight_and_distrib,EI,EI]
def pY(a b)(d:a<18446744073709551616)(c:b<18446744073709551616):(a ||| b) / 9223372036854775808=(a / 9223372036854775808) ||| (b / 9223372036854775808):=by
 rw[show (9223372036854775808:Nat)=2 ^ 63 from rfl,<- EI,Nat.shiftRight_or_distrib,EI,EI]
def pZ(a b)(d:a<18446744073709551616)(c:b<18446744073709551616):(a ^^^ b) / 9223372036854775808=(a / 9223372036854775808) ^^^ (b / 9223372036854775808):=by
 rw[show (9223372036854775808:Nat)=2 ^ 63 from rfl,<- EI,Nat.shiftRight_xor_distrib,EI,EI]
def QuI(a b c x y z u v)(i:a<18446744073709551616)(h:b<18446744073709551616)(k:c<2)(j:u=(a+18446744073709551616 - b+18446744073709551616 - c) % 18446744073709551616)
  (g:x=a / 9223372036854775808) (f:y=b / 9223372036854775808) (e:z=u / 9223372036854775808) (d:v=(1 ^^^ x) &&& y ||| ((1 ^^^ (x ^^^ y)) &&& z)):v=if a<b+c then 1 else 0:=by
 have h1:=OV a i;have h2:=OV b h;have h3:=OV u ω;rw[<- g]at h1;rw[<- f]at h2;rw[<- e]at h3;rcases h1 with h1|h1<;>rcases h2 with h2|h2<;>rcases h3 with h3|h3<;>(rw[h1,h2,h3]at d;simp at d;subst d;split<;>omega)
def QuJ(a b c x y z u v)(i:a<18446744073709551616)(h:b<18446744073709551616)(k:c<2)(j:u=(a+b+c) % 18446744073709551616)
  (g:x=a / 9223372036854775808) (f:y=b / 9223372036854775808) (e:z=u / 9223372036854775808) (d:v=x &&& y ||| ((x ||| y) &&& (1 - z))):v=if 18446744073709551616<=a+b+c then 1 else 0:=by
 have h1:=OV a i;have h2:=OV b h;have h3:=OV u ω;rw[<- g]at h1;rw[<- f]at h2;rw[<- e]at h3;rcases h1 with h1|h1<;>rcases h2 with h2|h2<;>rcases h3 with h3|h3<;>(rw[h1,h2,h3]at d;simp at d;subst d;split<;>omega)
end Go.Fg.X
namespace Go.Fg.X
open Go.Proofs Go.Fg
structure It where
 ka:Nat
 ki:Int
 va:Nat
 vi:Int
deriving DecidableEq
instance:Inhabited It:=⟨⟨0,0,0,0⟩⟩
@[go_sem] def It.cells(x:It):List D:=[u64 x.ka,Qb x.ki,u64 x.va,Qb x.vi]
def Ks(a:Nat)(i:Int)(b:Nat)(j:Int):Prop:=a<b\/(a=b/\i<j)
instance (a:Nat) (i:Int) (b:Nat) (j:Int):Decidable (Ks a i b j):=inferInstanceAs (Decidable (_\/_))
def It.lt(x y:It):Prop:=Ks x.ka x.ki y.ka y.ki
instance (x y:It):Decidable (x.lt y):=inferInstanceAs (Decidable (Ks _ _ _ _))
def zS(a:Nat)(i:Int)(b:Nat)(j:Int):Int:=if a=b/\i=j then 0 else if Ks a i b j then -1 else 1
def j7(a b:It):It:=if zS b.va b.vi a.va a.vi<0\/(zS b.va b.vi a.va a.vi=0/\zS b.ka b.ki a.ka a.ki<0) then b else a
inductive Tr where
 | nil
 | node (loc:Nat) (it:It) (l r:Tr)
deriving Inhabited
namespace Tr
def list:Tr->List It
 | .nil=>[]
 | .node _ a l r=>l.list++a::r.list
def QN:Tr->List Nat
 | .nil=>[]
 | .node a _ l r=>a::(l.QN++r.QN)
def high:Tr->Nat
 | .nil=>0
 | .node _ _ l r=>1+max l.high r.high
def size:Tr->Nat
 | .nil=>0
 | .node _ _ l r=>1+l.size+r.size
def ptr:Tr->D
 | .nil=>.raw (.pointer none)
 | .node a _ _ _=>.ptr a 0 0 0
@[go_sem] theorem Hv:Tr.nil.ptr=.raw (.pointer none):=rfl
@[go_sem] theorem DN(a)(b)(l r:Tr):(Tr.node a b l r).ptr=.ptr a 0 0 0:=rfl
@[go_sem] theorem QGL(t:Tr):Yu t.ptr=some [t.ptr]:=by cases t<;>rfl
@[go_sem] theorem QGM(t:Tr):t.ptr.Vr=true:=by cases t<;>rfl
@[go_sem] theorem QGN(t:Tr):X9 t.ptr t.ptr=True:=by cases t<;>simp[X9,ptr]
def least:Tr->It
 | .nil=>default
 | .node _ e l r=>match l,r with
  | .nil,.nil=>e
  | .nil,.node a b c d=>j7 e (least (.node a b c d))
  | .node a b c d,.nil=>j7 e (least (.node a b c d))
  | .node a b c d,.node i h g f=>j7 (j7 e (least (.node a b c d))) (least (.node i h g f))
def Cj:∀t:Tr,t.list.length=t.size
 | .nil=>rfl
 | .node _ _ l r=>by simp only[list,size,Zo,Vo,Cj l,Cj r];omega
def OW:∀t:Tr,t.high<=t.size
 | .nil=>QB _
 | .node _ _ l r=>by have:=OW l;have:=OW r;simp only[high,size];omega
end Tr
@[go_sem] def QuK(b:It)(p q:D)(a:It)(c n:Int):List D:=[u64 b.ka,Qb b.ki,u64 b.va,Qb b.vi,p,q,u64 a.ka,Qb a.ki,u64 a.va,Qb a.vi,Qb c,Qb n]
@[go_sem] def FA(b:It)(p q:D)(a:It)(c n:Int):Ob:=⟨.one,0,12,1,λ_=>QuK b p q a c n⟩
def Vv(h:List Ob):Tr->Prop
 | .nil=>True
 | .node a b l r=>h[a]? = some (FA b l.ptr r.ptr (Tr.node a b l r).least ((Tr.node a b l r).high:Nat) ((Tr.node a b l r).size:Nat))/\Vv h l/\Vv h r
def Vv.frame{h b:List Ob}:∀{t:Tr},Vv h t->(∀l∈t.QN,b[l]? = h[l]?)->Vv b t
 | .nil,_,_=>trivial
 | .node a g l r,⟨f,d,c⟩,e=>⟨by rw[e a (by simp[Tr.QN])];exact f,d.frame λx hx=>e x (by simp[Tr.QN,hx]),c.frame λx hx=>e x (by simp[Tr.QN,hx])⟩
def Vv.lt{h:List Ob}:∀{t:Tr},Vv h t->∀l∈t.QN,l<h.length
 | .nil,_,l,a=>by cases a
 | .node e f l r,⟨d,c,b⟩,x,hx=>by
  simp only[Tr.QN,QF,Q3]at hx;rcases hx with rfl|hx|hx
  .exact KA d
  .exact c.lt x hx
  .exact b.lt x hx
def ju(h:List Ob):Tr->Prop
 | .nil=>True
 | .node a b l r=>(h.map Ob.ro)[a]? = some (FA b l.ptr r.ptr (Tr.node a b l r).least ((Tr.node a b l r).high:Nat) ((Tr.node a b l r).size:Nat)).ro/\ju h l/\ju h r
def Vv.toR{h}:∀{t:Tr},Vv h t->ju h t
 | .nil,_=>trivial
 | .node _ _ _ _,⟨c,b,a⟩=>⟨Z3 c,b.toR,a.toR⟩
def ju.more{h h':List Ob}(e:∀(l:Nat) (o:Ob),(h.map Ob.ro)[l]? = some o->(h'.map Ob.ro)[l]? = some o):∀{t:Tr},ju h t->ju h' t
 | .nil,_=>trivial
 | .node _ _ _ _,⟨c,b,a⟩=>⟨e _ _ c,b.more e,a.more e⟩
def Hw{h F g:List Ob}(b:F=h.map Ob.ro)(l:Nat)(o:Ob)(e:(h.map Ob.ro)[l]? = some o):((F++g).map Ob.ro)[l]? = some o:=by
 subst b;have c:l<(h.map Ob.ro).length:=KA e;rw[wa,JO (by simpa using c),GB];rw[KP]at e ⊢;cases a:h[l]? with
 | none=>rw[a]at e;cases e
 | some u=>rw[a]at e;cases e;simp[ro_ro]
structure j8 (h:List Ob) (t:Tr) (L:List It) (h':List Ob) (t':Tr):Prop where
 is:Vv h' t'
 list:t'.list=L
 nd:t'.QN.Nodup
 mem:∀l∈t'.QN,l∈t.QN\/h.length<=l
 keep:∀l,l<h.length->l ∉ t.QN->h'[l]? = h[l]?
 len:h.length<=h'.length
def j8.refl{h}{t:Tr}(i:Vv h t)(n:t.QN.Nodup):j8 h t t.list h t:=⟨i,rfl,n,λ_ h=>.inl h,λ_ _ _=>rfl,QB _⟩
def j8.trans{h h' f}{t e c}{L i}(a:j8 h t L h' e)(b:j8 h' e i f c):j8 h t i f c:=
 ⟨b.is,b.list,b.nd,λl d=>by
  rcases b.mem l d with h1|h1
  .exact a.mem l h1
  .exact .inr (Kv a.len h1),λl d g=>by
  rw[b.keep l (wg d a.len) λh1=>by
   rcases a.mem l h1 with h2|h2
   .exact g h2
   .omega]
  exact a.keep l d g,Kv a.len b.len⟩
def It.qB(x y:It):Prop:=Ks x.va x.vi y.va y.vi\/(x.va=y.va/\x.vi=y.vi/\Ks x.ka x.ki y.ka y.ki)
instance (x y:It):Decidable (x.qB y):=inferInstanceAs (Decidable (_\/_))
def Cm(a)(i):¬ Ks a i a i:=by unfold Ks;omega
def Hx{a}{i}{b}{j}{c}{k}(h:Ks a i b j)(d:Ks b j c k):Ks a i c k:=by unfold Ks at *;omega
def OX(a)(i)(b)(j):Ks a i b j\/(a=b/\i=j)\/Ks b j a i:=by unfold Ks;omega
def p5{a}{i}{b}{j}:zS a i b j<0↔Ks a i b j:=by
 unfold zS;by_cases h:a=b/\i=j
 .rw[Qe h];obtain⟨rfl,rfl⟩:=h;exact⟨λh=>ω,λh=>absurd h (Cm _ _)⟩
 .rw[Qd h];by_cases c:Ks a i b j
  .rw[Qe c];exact⟨λ_=>c,λ_=>ω⟩
  .rw[Qd c];exact⟨λh=>ω,λh=>absurd h c⟩
def Qf5{a}{i}{b}{j}:zS a i b j=0↔a=b/\i=j:=by
 unfold zS;by_cases h:a=b/\i=j
 .rw[Qe h];exact⟨λ_=>h,λ_=>rfl⟩
 .rw[Qd h];by_cases d:Ks a i b j
  .rw[Qe d];exact⟨λh=>ω,λc=>absurd c h⟩
  .rw[Qd d];exact⟨λh=>ω,λc=>absurd c h⟩
def QuL{a}{i}{b}{j}:0<zS a i b j↔Ks b j a i:=by
 have e:=@p5 a i b j;have d:=@Qf5 a i b j;have h3:=OX a i b j;constructor
 .intro h;rcases h3 with h3|h3|h3
  .have:=e.2 h3;omega
  .have:=d.2 h3;omega
  .exact h3
 .intro h;have g:¬ zS a i b j<0:=λc=>Cm _ _ (Hx h (e.1 c));have f:¬ zS a i b j=0:=λc=>by obtain⟨rfl,rfl⟩:=d.1 c;exact Cm _ _ h
  omega
def Qf6(a b:It):j7 a b=if b.qB a then b else a:=by
 have h:(zS b.va b.vi a.va a.vi<0\/(zS b.va b.vi a.va a.vi=0/\zS b.ka b.ki a.ka a.ki<0))↔b.qB a:=by
  rw[p5,Qf5,p5,It.qB,and_assoc]
 unfold j7;by_cases c:b.qB a
 .rw[Qe (h.2 c),Qe c]
 .rw[Qd (λd=>c (h.1 d)),Qd c]
def Tj(a:It):¬ a.qB a:=λh=>by
 rcases h with h|⟨_,_,h⟩<;>exact Cm _ _ h
def Qf7{a b c:It}(h:a.qB b)(d:b.qB c):a.qB c:=by
 rcases h with h|⟨i,g,h⟩<;>rcases d with d|⟨f,e,d⟩
 .exact .inl (Hx h d)
 .exact .inl (by rw[<- f,<- e];exact h)
 .exact .inl (by rw[i,g];exact d)
 .exact .inr ⟨i.trans f,g.trans e,Hx h d⟩
def Qf8(a b:It):a.qB b\/a=b\/b.qB a:=by
 rcases OX a.va a.vi b.va b.vi with h|⟨d,c⟩|h
 .exact .inl (.inl h)
 .rcases OX a.ka a.ki b.ka b.ki with h|⟨f,e⟩|h
  .exact .inl (.inr ⟨d,c,h⟩)
  .refine .inr (.inl ?_);cases a;cases b;simp_all
  .exact .inr (.inr (.inr ⟨d.symm,c.symm,h⟩))
 .exact .inr (.inr (.inl h))
def Qf9(a b:It):(j7 a b=a/\¬ b.qB a)\/(j7 a b=b/\b.qB a):=by
 rw[Qf6];by_cases h:b.qB a
 .rw[Qe h];exact .inr ⟨rfl,h⟩
 .rw[Qd h];exact .inl ⟨rfl,h⟩
def QuM(a b:It):¬ a.qB (j7 a b)/\¬ b.qB (j7 a b):=by
 rcases Qf9 a b with ⟨e,h⟩|⟨e,h⟩<;>rw[e]
 .exact⟨Tj _,h⟩
 .exact⟨λc=>Tj _ (Qf7 h c),Tj _⟩
structure Wf (x:It) (L:List It):Prop where
 mem:x∈L
 le:∀y∈L,¬ y.qB x
def Wf.uniq{x y}{L}(a:Wf x L)(b:Wf y L):x=y:=by
 rcases Qf8 x y with h|h|h
 .exact absurd h (b.le x a.mem)
 .exact h
 .exact absurd h (a.le y b.mem)
def Wf.one(x):Wf x [x]:=⟨σ,λy a=>by simp only[X1]at a;subst a;exact Tj _⟩
def Wf.join{x y}{L M}(a:Wf x L)(b:Wf y M):Wf (j7 x y) (L++M):=by
 obtain⟨i,f⟩:=QuM x y;have d:∀{p q r:It},¬ p.qB q->¬ q.qB r->¬ p.qB r:=λ{p q r} h f g=>by
  rcases Qf8 q p with c|c|c
  .exact f (Qf7 c g)
  .subst c;exact f g
  .exact h c
 refine⟨?_,λz hz=>?_⟩
 .rcases Qf9 x y with ⟨e,_⟩|⟨e,_⟩<;>rw[e]
  .exact II _ a.mem
  .exact Nz _ b.mem
 .rcases Q3.1 hz with hz|hz
  .exact d (a.le z hz) i
  .exact d (b.le z hz) f
def Wf.perm{x:It}{L M}(a:Wf x L)(h:∀y,y∈M↔y∈L):Wf x M:=⟨(h x).2 a.mem,λy b=>a.le y ((h y).1 b)⟩
def Tr.OY:∀(t:Tr),t≠.nil->Wf t.least t.list
 | .nil,h=>absurd rfl h
 | .node _ e .nil .nil,_=>Wf.one e
 | .node _ e .nil (.node a b c d),_=>by
  have:=Tr.OY (.node a b c d) σ;exact((Wf.one e).join this).perm λy=>by simp[Tr.list]
 | .node _ e (.node a b c d) .nil,_=>by
  have:=Tr.OY (.node a b c d) σ;exact((Wf.one e).join this).perm λy=>by simp[Tr.list];constructor<;>(intro h;rcases h with h|h|h|h<;>simp[h])
 | .node _ e (.node a b c d) (.node l k j i),_=>by
  have g:=Tr.OY (.node a b c d) σ;have f:=Tr.OY (.node l k j i) σ;refine(((Wf.one e).join g).join f).perm λy=>?_;simp only[Tr.list,Q3,QF,X1];grind
end Go.Fg.X
namespace Go.Fg.X
open Go.Proofs Go.Fg
open Go.Proofs.Tryz
def Vw(L:List It):Prop:=L.Pairwise It.lt
def It.lt_trans{a b c:It}(h:a.lt b)(d:b.lt c):a.lt c:=Hx h d
def FB{L M}{x:It}:Vw (L++x::M)↔Vw L/\Vw M/\(∀y∈L,y.lt x)/\(∀y∈M,x.lt y):=by
 unfold Vw;rw[bj,Ao];constructor
 .rintro⟨g,⟨f,d⟩,c⟩;exact⟨g,d,λy i=>c y i x σ,f⟩
 .rintro⟨g,f,d,c⟩;refine⟨g,⟨c,f⟩,λa h b e=>?_⟩;rcases QF.1 e with rfl|e
  .exact d a h
  .exact It.lt_trans (d a h) (c b e)
def Cn(a:Nat)(i:Int)(x:It):Bool:=x.ka==a&&x.ki==i
def YT(a:Nat)(i:Int)(L:List It):Option It:=L.find? (Cn a i)
def Yz(x:It):List It->List It
 | []=>[x]
 | y::r=>if y.lt x then y::Yz x r else x::y::r
def XD(a:Nat)(i:Int)(L:List It):List It:=L.filter λx=>!Cn a i x
def xO{a}{i}{x:It}:Cn a i x=true↔x.ka=a/\x.ki=i:=by simp[Cn]
def Qgb(a)(i)(L M)(x)(m:Vw (L++x::M)):
  YT a i (L++x::M)=if x.ka=a/\x.ki=i then some x else if Ks x.ka x.ki a i then YT a i M else YT a i L:=by
 obtain⟨_,_,o,n⟩:=FB.1 m;unfold YT;rw[List.find?_append,vZ];have k:(x.ka=a/\x.ki=i)\/Ks x.ka x.ki a i->L.find? (Cn a i)=none:=λh=>by
  rw[jL];intro y f d;obtain⟨j,g⟩:=xO.1 d;have b:Ks y.ka y.ki x.ka x.ki:=o y f;rw[j,g]at b;rcases h with ⟨rfl,rfl⟩|h
  .exact Cm _ _ b
  .exact Cm _ _ (Hx h b)
 have l:Ks a i x.ka x.ki->M.find? (Cn a i)=none:=λh=>by
  rw[jL];intro y f d;obtain⟨j,g⟩:=xO.1 d;have b:Ks x.ka x.ki y.ka y.ki:=n y f;rw[j,g]at b;exact Cm _ _ (Hx h b)
 by_cases c:x.ka=a/\x.ki=i
 .rw[Qe c,xO.2 c,k (.inl c)];rfl
 .have d:Cn a i x=false:=by rw[jj];exact λh=>c (xO.1 h)
  rw[Qd c,d];by_cases e:Ks x.ka x.ki a i
  .rw[Qe e,k (.inr e)];rfl
  .rw[Qd e,l (by rcases OX x.ka x.ki a i with h|h|h;exact absurd h e;exact absurd h c;exact h)];simp
def QuN(y:It)(L M)(x:It)(d:Vw (L++x::M))(e:¬ (x.ka=y.ka/\x.ki=y.ki)):
  Yz y (L++x::M)=if x.lt y then L++x::Yz y M else Yz y L++x::M:=by
 obtain⟨_,_,a,f⟩:=FB.1 d;by_cases h:x.lt y
 .rw[Qe h];have:∀l:List It,(∀z∈l,z.lt y)->Yz y (l++x::M)=l++x::Yz y M:=by
   intro l a;induction l with
   | nil=>simp only[jM,Yz,Qe h]
   | cons z l b=>simp only[qc,Yz,Qe (a z σ),b λw c=>a w (by simp[c])]
  exact this L λz hz=>It.lt_trans (a z hz) h
 .rw[Qd h];have:∀l:List It,Yz y (l++x::M)=Yz y l++x::M:=by
   intro l;induction l with
   | nil=>simp only[jM,Yz,Qd h,qc]
   | cons z l b=>
    simp only[qc,Yz];split
    .rw[b,qc]
    .simp only[qc]
  exact this L
def Qgc(a)(i)(L M)(x)(n:Vw (L++x::M)):
  XD a i (L++x::M)=if x.ka=a/\x.ki=i then L++M else if Ks x.ka x.ki a i then L++x::XD a i M else XD a i L++x::M:=by
 obtain⟨_,_,p,o⟩:=FB.1 n;have keep:∀l:List It,(∀y∈l,¬ (y.ka=a/\y.ki=i))->XD a i l=l:=λl h=>by
  unfold XD;rw[An];intro y e;have:=h y e;rw[zB,jj];exact λd=>this (xO.1 d)
 have j:XD a i (L++x::M)=XD a i L++XD a i (x::M):=by unfold XD;rw[IE]
 have m:(x.ka=a/\x.ki=i)\/Ks x.ka x.ki a i->XD a i L=L:=λh=>keep L λy e ⟨g,f⟩=>by
  have b:Ks y.ka y.ki x.ka x.ki:=p y e;rw[g,f]at b;rcases h with ⟨rfl,rfl⟩|h
  .exact Cm _ _ b
  .exact Cm _ _ (Hx h b)
 have k:(x.ka=a/\x.ki=i)\/Ks a i x.ka x.ki->XD a i M=M:=λh=>keep M λy e ⟨g,f⟩=>by
  have b:Ks x.ka x.ki y.ka y.ki:=o y e;rw[g,f]at b;rcases h with ⟨rfl,rfl⟩|h
  .exact Cm _ _ b
  .exact Cm _ _ (Hx h b)
 rw[j];by_cases c:x.ka=a/\x.ki=i
 .have hx:XD a i (x::M)=XD a i M:=by unfold XD;rw[xk,xO.2 c];rfl
  rw[Qe c,m (.inl c),hx,k (.inl c)]
 .have q:Cn a i x=false:=by rw[jj];exact λh=>c (xO.1 h)
  have hx:XD a i (x::M)=x::XD a i M:=by unfold XD;rw[xk,q];rfl
  rw[Qd c,hx];by_cases d:Ks x.ka x.ki a i
  .rw[Qe d,m (.inr d)]
  .rw[Qd d,k (.inr (by rcases OX x.ka x.ki a i with h|h|h;exact absurd h d;exact absurd h c;exact h))]
def Hy{y x}:∀{L:List It},x∈Yz y L↔x=y\/x∈L
 | []=>by simp[Yz]
 | z::L=>by
  simp only[Yz];split
  .rw[QF,Hy,QF];grind
  .rw[QF]
def p6{y:It}:∀{L:List It},Vw L->YT y.ka y.ki L=none->Vw (Yz y L)
 | [],_,_=>by simp[Yz,Vw]
 | z::L,e,a=>by
  obtain⟨f,g⟩:=Ao.1 e;unfold YT at a;rw[vZ]at a;cases c:Cn y.ka y.ki z with
  | true=>rw[c]at a;cases a
  | false=>
   rw[c]at a;have i:¬ (z.ka=y.ka/\z.ki=y.ki):=λh=>by rw[xO.2 h]at c;cases c
   simp only[Yz];split
   .rename_i d;refine Ao.2 ⟨λw hw=>?_,p6 g a⟩;rcases Hy.1 hw with rfl|hw
    .exact d
    .exact f w hw
   .rename_i d;have b:y.lt z:=by
     rcases OX z.ka z.ki y.ka y.ki with h|h|h
     .exact absurd h d
     .exact absurd h i
     .exact h
    refine Ao.2 ⟨λw hw=>?_,e⟩;rcases QF.1 hw with rfl|hw
    .exact b
    .exact It.lt_trans b (f w hw)
def QuP{a}{i}{L}(h:Vw L):Vw (XD a i L):=Nx _ h
def Tr.Co(a:Nat)(i:Int)(f:Tr->List It):Tr->List It
 | .nil=>f .nil
 | .node c b l r=>if b.ka=a/\b.ki=i then f (.node c b l r) else if Ks b.ka b.ki a i then l.list++b::r.Co a i f else l.Co a i f++b::r.list
def p7{y:It}{f}(e:f .nil=[y]):∀(t:Tr),Vw t.list->YT y.ka y.ki t.list=none->t.Co y.ka y.ki f=Yz y t.list
 | .nil,_,_=>e
 | .node j b l r,c,a=>by
  obtain⟨i,h,_,_⟩:=FB.1 c;simp only[Tr.list]at c a ⊢;rw[Qgb _ _ _ _ _ c]at a;rw[Tr.Co];by_cases g:b.ka=y.ka/\b.ki=y.ki
  .rw[Qe g]at a;cases a
  .rw[Qd g]at a ⊢;rw[QuN y _ _ _ c g];by_cases d:Ks b.ka b.ki y.ka y.ki
   .rw[Qe d]at a ⊢;rw[Qe (show b.lt y from d),p7 e r h a]
   .rw[Qd d]at a ⊢;rw[Qd (show ¬ b.lt y from d),p7 e l i a]
def Tr.L7:Tr->List It
 | .nil=>[]
 | .node _ _ l r=>l.list++r.list
def fT{a}{i}:∀(t:Tr),Vw t.list->t.Co a i Tr.L7=XD a i t.list
 | .nil,_=>rfl
 | .node h b l r,e=>by
  obtain⟨g,f,_,_⟩:=FB.1 e;simp only[Tr.list]at e ⊢;rw[Qgc _ _ _ _ _ e,Tr.Co];by_cases d:b.ka=a/\b.ki=i
  .rw[Qe d,Qe d];rfl
  .rw[Qd d,Qd d];by_cases c:Ks b.ka b.ki a i
   .rw[Qe c,Qe c,fT r f]
   .rw[Qd c,Qd c,fT l g]
def Tr.find(a:Nat)(i:Int):Tr->Tr
 | .nil=>.nil
 | .node c b l r=>if b.ka=a/\b.ki=i then .node c b l r else if Ks b.ka b.ki a i then r.find a i else l.find a i
def Tr.item:Tr->Option It
 | .nil=>none
 | .node _ a _ _=>some a
def Tr.Tl{a}{i:Int}:∀(t:Tr),Vw t.list->(t.find a i).item=YT a i t.list
 | .nil,_=>rfl
 | .node h b l r,e=>by
  obtain⟨g,f,_,_⟩:=FB.1 e;simp only[Tr.list]at e ⊢;rw[Qgb _ _ _ _ _ e,Tr.find];by_cases d:b.ka=a/\b.ki=i
  .rw[Qe d,Qe d];rfl
  .rw[Qd d,Qd d];by_cases c:Ks b.ka b.ki a i
   .rw[Qe c,Qe c,Tr.Tl r f]
   .rw[Qd c,Qd c,Tr.Tl l g]
def Tr.hasB(e:Nat):Tr->Bool
 | .nil=>false
 | .node a b c d=>decide ((Tr.node a b c d).least.va<=e)
def Wf.va{x y:It}{L}(h:Wf x L)(a:y∈L):x.va<=y.va:=by
 have:=h.le y a;unfold It.qB Ks at this;omega
def Tr.Tm(e):∀t:Tr,t.hasB e=true↔∃x∈t.list,x.va<=e
 | .nil=>by simp[Tr.hasB,Tr.list]
 | .node a b c d=>by
  have h:=Tr.OY (.node a b c d) σ;simp only[Tr.hasB,X4];constructor
  .intro g;exact⟨_,h.mem,g⟩
  .rintro⟨x,hx,f⟩;exact Kv (h.va hx) f
def Tr.first(a:Nat):Tr->Option It
 | .nil=>none
 | .node _ b l r=>if l.hasB a then l.first a else if b.va<=a then some b else r.first a
def Tr.fU(a):∀t:Tr,t.first a=t.list.find? λx=>decide (x.va<=a)
 | .nil=>rfl
 | .node _ d l r=>by
  simp only[Tr.first,Tr.list];rw[List.find?_append,vZ];by_cases h:l.hasB a=true
  .rw[Qe h,Tr.fU a l];obtain⟨x,hx,c⟩:=(Tr.Tm a l).1 h;cases f:l.list.find? λx=>decide (x.va<=a) with
   | some y=>rfl
   | none=>exact absurd c (by simpa using jL.1 f x hx)
  .rw[Qd h,Tr.fU a r];have e:l.list.find? (λx=>decide (x.va<=a))=none:=by
    rw[jL];intro x hx c;exact h ((Tr.Tm a l).2 ⟨x,hx,by simpa using c⟩)
   rw[e,Option.none_or];by_cases b:d.va<=a
   .rw[Qe b,QT b]
   .rw[Qd b,QH b]
def Tr.FC:Tr->It
 | .nil=>default
 | .node _ e l _=>match l with
  | .nil=>e
  | .node a b c d=>Tr.FC (.node a b c d)
def Tr.p8:∀t:Tr,t≠.nil->t.list.head? = some t.FC
 | .nil,h=>absurd rfl h
 | .node _ e .nil r,_=>rfl
 | .node _ e (.node a b c d) r,_=>by
  have:=Tr.p8 (.node a b c d) σ;simp only[Tr.list,Tr.FC,List.head?_append]at this ⊢;rw[this];rfl
def zT(o:Option It)(i:It):Option It:=match o with
 | none=>some i
 | some a=>some (j7 a i)
def Tr.zU(e:Nat):Tr->Option It->Option It
 | .nil,o=>o
 | .node _ f l r,o=>if e<f.ka then l.zU e o else r.zU e (match l with
  | .nil=>zT o f
  | .node a b c d=>zT (zT o f) (Tr.node a b c d).least)
def yL(o:Option It)(L:List It):Prop:=match o with
 | none=>L=[]
 | some x=>Wf x L
def yL.take{o}{L}(h:yL o L){i}{M}(b:Wf i M):yL (zT o i) (L++M):=by
 cases o with
 | none=>simp only[yL]at h;subst h;exact b
 | some a=>exact Wf.join h b
def yL.perm{o}{L M}(h:yL o L)(e:∀y,y∈M↔y∈L):yL o M:=by
 cases o with
 | none=>
  simp only[yL]at h ⊢;subst h;exact mK.2 λy b=>by simpa using (e y).1 b
 | some a=>exact Wf.perm h e
def Tr.Tn(e):∀(t:Tr) (o:Option It) (T:List It),Vw t.list->yL o T->yL (t.zU e o) (T++t.list.filter λx=>decide (x.ka<=e))
 | .nil,o,T,_,h=>by simpa[Tr.zU,Tr.list] using h
 | .node _ g l r,o,T,m,h=>by
  obtain⟨k,i,q,n⟩:=FB.1 (show Vw (l.list++g::r.list) from m);have f:∀{x y:It},x.lt y->x.ka<=y.ka:=λh=>by
   have h:Ks _ _ _ _:=h;unfold Ks at h;omega
  simp only[Tr.zU,Tr.list,IE,xk];by_cases j:e<g.ka
  .rw[Qe j,QH ω];have p:r.list.filter (λx=>decide (x.ka<=e))=[]:=by
    rw[List.filter_eq_nil_iff];intro x hx;have:=f (n x hx);simp;omega
   rw[p];have:=Tr.Tn e l o T k h;simpa using this
  .rw[Qd j,QT ω];have s:l.list.filter (λx=>decide (x.ka<=e))=l.list:=by
    rw[An];intro x hx;have:=f (q x hx);simp;omega
   rw[s];cases l with
   | nil=>
    have:=Tr.Tn e r _ _ i (h.take (Wf.one g));simpa[Tr.list] using this
   | node a b c d=>
    have:=Tr.Tn e r _ _ i ((h.take (Wf.one g)).take (Tr.OY (.node a b c d) σ));refine this.perm λy=>?_;simp only[Tr.list,Q3,QF,X1,JH,Vp];grind
end Go.Fg.X
