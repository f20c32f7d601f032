/- Contracts and laws on the way to the statement. No conditions. -/
import Derived.Test.YtagebhlinnibkaaGreatFgTellE
import Derived.Test.YtagebhlinnibkaaGreatProg
import Derived.KernelRfl
import Derived.Deep.Slices
import Derived.ChangeArms
import Derived.OpenShut
import Derived.ProofKit
import Derived.ChangeOld
import Derived.Below
import Derived.WideShapes
import Derived.Shelf.Sort.Plain
import Derived.Shelf.Slices.In.SortNone
import Derived.Lib.SortBridge
import Derived.Laws.BitsAllLaws
import Derived.Laws.BytesString
import Derived.LoopN
set_option maxRecDepth 100000
set_option maxHeartbeats 16000000
set_option linter.unusedVariables false
set_option linter.unusedSimpArgs false
set_option linter.unusedSectionVars false
set_option linter.defProp false
namespace Go.Fg
open Go.RowKit (Below)
variable {Z:Nat->Prop}
def QE.EI{h h':List Ob}{pl}{w}(key:∀(l:Nat) (o:Ob),h[l]? = some o->∃o',h'[l]? = some o'/\o'.gen=o.gen/\o'.sz=o.sz/\o'.kd.ty=o.kd.ty){d}{v}(r:QE Z h pl w d v):QE Z h' pl w d v:=by
 induction r with
 | cl d v hc=>exact .cl d v hc
 | ref l g off len o p a cap ho hp hk hg hs=>
  obtain⟨o',h3,h4,h5,h6⟩:=key l o ho;exact .ref l g off len o' p a cap h3 hp (by rw[h6];exact hk) (by rw[h4];exact hg) (λe=>by rw[h5];exact hs (by rw[e,h4]))
 | ptr l g i j o p a ho hp hk hg hs=>
  obtain⟨o',h3,h4,h5,h6⟩:=key l o ho;exact .ptr l g i j o' p a h3 hp (by rw[h6];exact hk) (by rw[h4];exact hg) (λe=>by rw[h5];exact hs (by rw[e,h4]))
 | mref l g o p b ho hp hk hg hs=>
  obtain⟨o',h3,h4,h5,h6⟩:=key l o ho;exact .mref l g o' p b h3 hp (by rw[h6];exact hk) (by rw[h4];exact hg) (λe=>hs (by rw[e,h4]))
 | clo f nf cs vs hl hr ih=>exact .clo f nf cs vs hl ih
 | agg cs vs hl hr ih=>exact .agg cs vs hl ih
 | tup cs vs hl hr ih=>exact .tup cs vs hl ih
def Z3{h:List Ob}{l:Nat}{o:Ob}(e:h[l]? = some o):(h.map Ob.ro)[l]? = some o.ro:=by rw[KG,e];rfl
def Ir{h:List Ob}{l:Nat}{o:Ob}(e:(h.map Ob.ro)[l]? = some o):∃o',h[l]? = some o'/\o=o'.ro:=by
 rw[KG,Xv]at e;obtain⟨o',h1,h2⟩:=e;exact⟨o',h1,h2.symm⟩
@[go_sem] theorem QKq(k:Kd)(g z n)(r):Ob.ro ⟨k,g,z,n,r⟩=⟨k.toRo,g,z,n,r⟩:=rfl
theorem ro_ro(o:Ob):o.ro.ro=o.ro:=by
 obtain⟨k,g,z,n,r⟩:=o;cases k<;>rfl
def Wf(P:Program)(f:FuncId)(h:List Ob)(args:List D)(R:D->List Ob->Prop):Prop:=
 QK P f (h.map Ob.ro) args λd h'=>∃g,h'=h.map Ob.ro++g/\R d g
def Wf.mono{P}{f}{h}{args}{R R'}(hh:Wf P f h args R)(hr:∀d g,R d g->R' d g):Wf P f h args R':=QK.mono hh λ_ _ ⟨g,h1,h2⟩=>⟨g,h1,hr _ _ h2⟩
section
variable {P:Program}{base nt:Nat}{w0:Start}{Q:Exit->St->Prop}
def Qf4(Zd:base<=w0.w.heap.size){o:Oper}{s}{x}{args}{Jm:Array TypeId}{f}{nf}{QI}(hf:Qo P f)(ho:o.op=.call ⟨.value x,args,Jm⟩)
  (hx:KM (Qt s.fr x)=some (f,nf,QI)) {R:D->List Ob->Prop} (hF:QK P f s.h (JT nf QI (args.toList.map (Qt s.fr))) R)
  (ht:ZQ nt o.dst=true) (pl:List Pl) (a:Act) (w:World) (r:Rel Z base nt s pl a w) (b:Vp Z base w0 s.h pl w) (Q':Exit->Act->World->Prop) :
  o.wp P a w (λa' w'=>∃d h Qm,R d h/\Rel Z base nt ⟨ZC s.fr o.dst d,h⟩ Qm a' w'/\Vp Z base w0 h Qm w'/\Tr s.h pl w h Qm w'/\∃v,a'=a.put o.dst v) Q':=by
 obtain⟨vs,hv,xk,F7⟩:=Uf (r.eval x) hx;have jm:base<=w.heap.size:=KZ Zd b.1.size;obtain⟨q1,KS⟩:=Ug (r:=λd v=>QE Z s.h pl w d v) (nf:=nf) xk F7 (us:=args.toList.map a.eval) (args:=args.toList.map (Qt s.fr)) (by simp) (λi hi=>by
  have JQ:i<args.toList.length:=by simpa using hi
  simp only[nth,Zb,Ze,KG];rw[QW JQ];exact r.eval _)
 have hc:=hF Z base w pl (JT nf vs (args.toList.map a.eval)) jm b.2.2.new r.o q1 KS;unfold Oper.wp;rw[Uh hf ho hv w];simp only[Oper.upon_enter];refine hc.mono λe w' he=>?_;obtain⟨v,d,h',Qm,rfl,hR,hO,hV,hT,hB⟩:=he;refine⟨d,h',Qm,hR,?_,b.step hT hB,hT,v,rfl⟩;cases hd:o.dst with
 | none=>exact r.Bg hT hO v
 | some t=>rw[hd]at ht;exact r.to hT hO (kI ht) hV
def VH(Zd:base<=w0.w.heap.size){k}{dst}{ty:TypeId}{pos}{after}{gd}{r}{s}{x}{args}{Jm:Array TypeId}{f}{nf}{QI}(hf:Qo P f)
  (hx:KM (Qt s.fr x)=some (f,nf,QI)) {cs:List D} (he:WH (JT nf QI (args.toList.map (Qt s.fr))) cs)
  {R:D->List Ob->Prop} (hF:QK P f s.h cs R) (ht:ZQ nt dst=true) (hk:∀d h,R d h->QA P base nt w0 Q (.ops r::k) .normal ⟨ZC s.fr dst d,h⟩) :
  QA P base nt w0 Q (.ops ((⟨dst,.call ⟨.value x,args,Jm⟩,ty,pos,after,gd⟩,none)::r)::k) .normal s:=by
 simp only[QA]at hk ⊢;intro Z z pl a w rr b;simp only[qn,XB,K6];exact Oper.wp_mono (λa' w' ⟨d,h,Qm,hR,r',b',_⟩=>hk d h hR Z z Qm a' w' r' b') (Qf4 Zd hf rfl hx (hF.args he) ht pl a w rr b _)
def Qf5(Zd:base<=w0.w.heap.size){o:Oper}{s}{x}{args}{Jm:Array TypeId}{f}{nf}{QI}(hf:Qo P f)(ho:o.op=.call ⟨.value x,args,Jm⟩)
  (hx:KM (Qt s.fr x)=some (f,nf,QI)) {R:D->List Ob->Prop} (hF:Wf P f s.h (JT nf QI (args.toList.map (Qt s.fr))) R)
  (ht:ZQ nt o.dst=true) (pl:List Pl) (a:Act) (w:World) (r:Rel Z base nt s pl a w) (b:Vp Z base w0 s.h pl w) (Q':Exit->Act->World->Prop) :
  o.wp P a w (λa' w'=>Ext w w'/\∃d g Qm,R d g/\Rel Z base nt ⟨ZC s.fr o.dst d,s.h++g⟩ Qm a' w'/\Vp Z base w0 (s.h++g) Qm w'/\Tr s.h pl w (s.h++g) Qm w'/\∃v,a'=a.put o.dst v) Q':=by
 obtain⟨vs,hv,xk,F7⟩:=Uf (r.eval x) hx;have jm:base<=w.heap.size:=KZ Zd b.1.size;obtain⟨q1,KS⟩:=Ug (r:=λd v=>QE Z s.h pl w d v) (nf:=nf) xk F7 (us:=args.toList.map a.eval) (args:=args.toList.map (Qt s.fr)) (by simp) (λi hi=>by
  have JQ:i<args.toList.length:=by simpa using hi
  simp only[nth,Zb,Ze,KG];rw[QW JQ];exact r.eval _)
 have k1:∀(l:Nat) (o:Ob),s.h[l]? = some o->∃o',(s.h.map Ob.ro)[l]? = some o'/\o'.gen=o.gen/\o'.sz=o.sz/\o'.kd.ty=o.kd.ty:=λl o e=>⟨o.ro,Z3 e,rfl,rfl,Kd.toRo_ty _⟩;have Uz:Zv Z w.heap.size (s.h.map Ob.ro) pl w:=by
  refine⟨by simp[r.o.len],r.o.inj,λl o ho hp=>?_,λl o b q ho hp=>?_⟩
  ·obtain⟨o',h1,rfl⟩:=Ir ho;exact r.o.VM l o' h1 hp
  ·obtain⟨o',h1,rfl⟩:=Ir ho;obtain⟨_,x⟩:=r.o.at_ l o' b q h1 hp;exact⟨λhr=>(by rw[fJ,Kd.toRo_ro]at hr;cases hr),x.to (Kd.toRo_ty _) rfl rfl rfl (λ_ _=>rfl) λi j v _ _ hr=>hr.EI k1⟩
 have hc:=hF Z w.heap.size w pl (JT nf vs (args.toList.map a.eval)) (QB _) b.2.2.new Uz q1 (λi hi=>(KS i hi).EI k1);unfold Oper.wp;rw[Uh hf ho hv w];simp only[Oper.upon_enter];refine hc.mono λe w' he=>?_;obtain⟨v,d,_,Qm,rfl,⟨g,rfl,hR⟩,hO,hV,hT,hB⟩:=he;have Zk:∀(l:Nat) (p:Pl),l<s.h.length->Qm[l]? = some p->pl[l]? = some p:=λl p hl e=>by
  have Jx:l<pl.length:=by rw[r.o.len];exact hl
  obtain⟨o',p',e1,e2,_,_,e3⟩:=hT.obj l _ _ (Z3 (QW hl)) (QW Jx);rw[JD (by simpa using hl),Z3 (QW hl)]at e1;cases e1;obtain⟨_,e4⟩:=e3 rfl;rw[e]at e2;cases e2;rw[e4];exact QW Jx
 have sJ:∀(l:Nat) (p:Pl),l<s.h.length->pl[l]? = some p->Qm[l]? = some p:=λl p hl e=>by
  have Jx:l<Qm.length:=by have:=hO.len;simp at this;omega
  have h1:=Zk l _ hl (QW Jx);rw[e]at h1;cases h1;exact QW Jx
 have T:Tr s.h pl w (s.h++g) Qm w':=by
  refine⟨hT.KE,λl o p ho hp=>⟨o,p,by rw[JD (Kr ho)];exact ho,sJ l p (Kr ho) hp,QB _,rfl,λ_=>⟨rfl,rfl⟩⟩,λl o o' b q ho ZT hg hp c el hc=>⟨c,?_,rfl⟩⟩;rw[hB.block b (r.o.lt hp).1];exact hc
 have k2:∀(l:Nat) (o:Ob),(s.h.map Ob.ro++g)[l]? = some o->∃o',(s.h++g)[l]? = some o'/\o'.gen=o.gen/\o'.sz=o.sz/\o'.kd.ty=o.kd.ty:=λl o e=>by
  by_cases hl:l<s.h.length
  ·rw[JD (by simpa using hl)]at e;obtain⟨o',h1,rfl⟩:=Ir e;exact⟨o',by rw[JD hl];exact h1,rfl,rfl,(Kd.toRo_ty _).symm⟩
  ·rw[Kf (by simpa using hl)]at e;exact⟨o,by rw[Kf (by omega)];simpa using e,rfl,rfl,rfl⟩
 have MN:Zv Z base (s.h++g) Qm w':=by
  refine⟨by have:=hO.len;simpa using this,hO.inj,λl o ho hp=>?_,λl o b q ho hp=>?_⟩
  ·by_cases hl:l<s.h.length
   ·rw[JD hl]at ho;exact r.o.VM l o ho (Zk l _ hl hp)
   ·refine hO.VM l o ?_ hp;rw[Kf (by omega)]at ho;rw[Kf (by simpa using hl)];simpa using ho
  ·by_cases hl:l<s.h.length
   ·rw[JD hl]at ho;have yl:=Zk l _ hl hp;obtain⟨g1,x⟩:=r.o.at_ l o b q ho yl;exact⟨g1,x.to rfl rfl rfl (hB.block b (r.o.lt yl).1) (λ_ _=>rfl) λi j v _ _ hr=>hr.tr T⟩
   ·have e2:(s.h.map Ob.ro++g)[l]? = some o:=by
     rw[Kf (by omega)]at ho;rw[Kf (by simpa using hl)];simpa using ho
    obtain⟨g1,x⟩:=hO.at_ l o b q e2 hp;exact⟨λhr=>KZ jm (g1 hr),x.to rfl rfl rfl rfl (λ_ _=>rfl) λi j v _ _ hr=>hr.EI k2⟩
 refine⟨λb hb=>hB.block b hb,d,g,Qm,hR,?_,b.step T (hB.mono jm),T,v,rfl⟩;cases hd:o.dst with
 | none=>exact r.Bg T MN v
 | some t=>rw[hd]at ht;exact r.to T MN (kI ht) (hV.EI k2)
def Wf.args{f}{h}{cs' cs}{R}(hh:Wf P f h cs R)(e:WH cs' cs):Wf P f h cs' R:=QK.args hh e
def Is(Zd:base<=w0.w.heap.size){k}{dst}{ty:TypeId}{pos}{after}{gd}{r}{s}{x}{args}{Jm:Array TypeId}{f}{nf}{QI}(hf:Qo P f)
  (hx:KM (Qt s.fr x)=some (f,nf,QI)) {cs:List D} (he:WH (JT nf QI (args.toList.map (Qt s.fr))) cs)
  {R:D->List Ob->Prop} (hF:Wf P f s.h cs R) (ht:ZQ nt dst=true) (hk:∀d g,R d g->QA P base nt w0 Q (.ops r::k) .normal ⟨ZC s.fr dst d,s.h++g⟩) :
  QA P base nt w0 Q (.ops ((⟨dst,.call ⟨.value x,args,Jm⟩,ty,pos,after,gd⟩,none)::r)::k) .normal s:=by
 simp only[QA]at hk ⊢;intro Z z pl a w rr b;simp only[qn,XB,K6];exact Oper.wp_mono (λa' w' ⟨_,d,h,Qm,hR,r',b',_⟩=>hk d h hR Z z Qm a' w' r' b') (Qf5 Zd hf rfl hx (hF.args he) ht pl a w rr b _)
def Gl(Zd:base<=w0.w.heap.size){K}{dst}{ty:TypeId}{pos}{after}{gd}{r}{s}{x}{args}{Jm:Array TypeId}{f}{nf}{QI}(hf:Qo P f)
  (hx:KM (Qt s.fr x)=some (f,nf,QI)) {cs:List D} (he:WH (JT nf QI (args.toList.map (Qt s.fr))) cs) {R:D->List Ob->Prop} (hF:Wf P f s.h cs R)
  (ht:ZQ nt dst=true) (hk:∀d g,R d g->AX P base nt w0 K r ⟨ZC s.fr dst d,s.h++g⟩) :
  AX P base nt w0 K ((false,⟨dst,.call ⟨.value x,args,Jm⟩,ty,pos,after,gd⟩,none)::r) s:=by
 simp only[AX,XR,jo];intro Z z pl a w rr b;exact Oper.wp_mono (λa' w' ⟨hE,d,g,Qm,hR,r',b',T,v,e⟩=>⟨λ_=>hE,_,_,Qm,v,hk d g hR,r',b',T,e⟩) (Qf5 Zd hf rfl hx (hF.args he) ht pl a w rr b _)
def Qf6(Zd:base<=w0.w.heap.size){k}{dst}{ty:TypeId}{pos}{after}{gd}{r}{s}{x}{li l c}{es}{seen}{q}
  (hx:Qt s.fr x=.mref li 0) (Xh:s.h[li]? = some (XO l c c seen)) {kd:Kd} (Jc:kd.ty=1) (Zt:s.h[l]? = some (Wr kd q c es)) (ht:ZQ nt dst=true)
  (h0:(∀e∈es,e.b∈seen)->QA P base nt w0 Q (.ops r::k) .normal ⟨ZC s.fr dst (.tup [.raw (.bool false)]),s.h⟩)
  (h1:∀e∈es,e.b ∉ seen->QA P base nt w0 Q (.ops r::k) .normal ⟨ZC s.fr dst (.tup [.raw (.bool true),.raw (.int q e.k),e.v]),s.h.set li (XO l c c (seen++[e.b]))⟩) :
  QA P base nt w0 Q (.ops ((⟨dst,.next x false,ty,pos,after,gd⟩,none)::r)::k) .normal s:=by
 simp only[QA]at h0 h1 ⊢;intro Z z pl a w rr b;have jm:base<=w.heap.size:=KZ Zd b.1.size;simp only[qn,XB,K6];unfold Oper.wp;rcases Qqe (o:=⟨dst,.next x false,ty,pos,after,gd⟩) rfl rr jm hx Xh Jc Zt with ⟨g1,g2⟩|⟨e,he,g1,v,w',g2,T,O,V,B⟩
 ·rw[g2];simp only[Oper.upon_value];refine h0 g1 Z z pl _ w ?_ b;have hv:QE Z s.h pl w (.tup [.raw (.bool false)]) (.tuple #[.bool false]):=.tup _ [.bool false] rfl λi hi=>match i,hi with
   | 0,_=>.cl _ _ (.raw _)
  cases dst with
  | none=>exact rr.Bg (Tr.refl _ _ _) rr.o _
  | some t=>exact rr.to (Tr.refl _ _ _) rr.o (kI ht) hv
 ·rw[g2];simp only[Oper.upon_value];refine h1 e he g1 Z z pl _ w' ?_ (b.step T B);cases dst with
  | none=>exact rr.Bg T O _
  | some t=>exact rr.to T O (kI ht) V
end
def QV(P:Program)(f:FuncId)(h:List Ob)(args:List D)(R:D->Prop):Prop:=Wf P f h args λd _=>d.upto h.length=true/\R d
def QV.mono{P}{f}{h:List Ob}{args}{R R'}(hh:QV P f h args R)(hr:∀d,R d->R' d):QV P f h args R':=Wf.mono hh λ_ _ h=>⟨h.1,hr _ h.2⟩
def QV.args{P}{f}{h}{cs' cs}{R}(hh:QV P f h cs R)(e:WH cs' cs):QV P f h cs' R:=Wf.args hh e
section
variable {P:Program}{base nt:Nat}{w0:Start}{Q:Exit->St->Prop}
def Qf7(Zd:base<=w0.w.heap.size){o:Oper}{s}{x}{args}{Jm:Array TypeId}{f}{nf}{QI}(hf:Qo P f)(ho:o.op=.call ⟨.value x,args,Jm⟩)
  (hx:KM (Qt s.fr x)=some (f,nf,QI)) {R:D->Prop} (hF:QV P f s.h (JT nf QI (args.toList.map (Qt s.fr))) R)
  (ht:ZQ nt o.dst=true) (pl:List Pl) (a:Act) (w:World) (r:Rel Z base nt s pl a w) (b:Vp Z base w0 s.h pl w) (Q':Exit->Act->World->Prop) :
  o.wp P a w (λa' w'=>Ext w w'/\∃d,R d/\Rel Z base nt ⟨ZC s.fr o.dst d,s.h⟩ pl a' w'/\Vp Z base w0 s.h pl w'/\Tr s.h pl w s.h pl w'/\∃v,a'=a.put o.dst v) Q':=by
 obtain⟨vs,hv,xk,F7⟩:=Uf (r.eval x) hx;have jm:base<=w.heap.size:=KZ Zd b.1.size;obtain⟨q1,KS⟩:=Ug (r:=λd v=>QE Z s.h pl w d v) (nf:=nf) xk F7 (us:=args.toList.map a.eval) (args:=args.toList.map (Qt s.fr)) (by simp) (λi hi=>by
  have JQ:i<args.toList.length:=by simpa using hi
  simp only[nth,Zb,Ze,KG];rw[QW JQ];exact r.eval _)
 have k1:∀(l:Nat) (o:Ob),s.h[l]? = some o->∃o',(s.h.map Ob.ro)[l]? = some o'/\o'.gen=o.gen/\o'.sz=o.sz/\o'.kd.ty=o.kd.ty:=λl o e=>⟨o.ro,Z3 e,rfl,rfl,Kd.toRo_ty _⟩;have k3:∀(g:List Ob) (l:Nat) (o:Ob),(s.h.map Ob.ro++g)[l]? = some o->∃o',(s.h++g)[l]? = some o'/\o'.gen=o.gen/\o'.sz=o.sz/\o'.kd.ty=o.kd.ty:=λg l o e=>by
  by_cases hl:l<s.h.length
  ·rw[JD (by simpa using hl)]at e;obtain⟨o',h1,rfl⟩:=Ir e;exact⟨o',by rw[JD hl];exact h1,rfl,rfl,(Kd.toRo_ty _).symm⟩
  ·rw[Kf (by simpa using hl)]at e;exact⟨o,by rw[Kf (by omega)];simpa using e,rfl,rfl,rfl⟩
 have Uz:Zv Z w.heap.size (s.h.map Ob.ro) pl w:=by
  refine⟨by simp[r.o.len],r.o.inj,λl o ho hp=>?_,λl o b q ho hp=>?_⟩
  ·obtain⟨o',h1,rfl⟩:=Ir ho;exact r.o.VM l o' h1 hp
  ·obtain⟨o',h1,rfl⟩:=Ir ho;obtain⟨_,x⟩:=r.o.at_ l o' b q h1 hp;exact⟨λhr=>(by rw[fJ,Kd.toRo_ro]at hr;cases hr),x.to (Kd.toRo_ty _) rfl rfl rfl (λ_ _=>rfl) λi j v _ _ hr=>hr.EI k1⟩
 have hc:=hF Z w.heap.size w pl (JT nf vs (args.toList.map a.eval)) (QB _) b.2.2.new Uz q1 (λi hi=>(KS i hi).EI k1);unfold Oper.wp;rw[Uh hf ho hv w];simp only[Oper.upon_enter];refine hc.mono λe w' he=>?_;obtain⟨v,d,_,Qm,rfl,⟨g,rfl,hu,hR⟩,hO,hV,hT,hB⟩:=he;have hE:Ext w w':=λb hb=>hB.block b hb;have T0:Tr s.h pl w s.h pl w':=Tr.ext r.o hE;have Iu:QE Z s.h pl w' d v:=by
  have h1:=hV.take hu;have e1:(s.h.map Ob.ro++g).take s.h.length=s.h.map Ob.ro:=List.take_left' (by simp);have e2:Qm.take s.h.length=pl:=by
   apply A9;intro i;rw[Yq];by_cases hi:i<s.h.length
   ·rw[Qf hi];have zz:i<pl.length:=by rw[r.o.len];exact hi
    obtain⟨o',p',m1,m2,_,_,m3⟩:=hT.obj i _ _ (Z3 (QW hi)) (QW zz);rw[JD (by simpa using hi),Z3 (QW hi)]at m1;cases m1;obtain⟨_,rfl⟩:=m3 rfl;rw[m2,QW zz]
   ·rw[Qd hi,Cs (by rw[r.o.len];omega)]
  rw[e1,e2]at h1;exact h1.EI λl o e=>by
   obtain⟨o',h1,rfl⟩:=Ir e;exact⟨o',h1,rfl,rfl,(Kd.toRo_ty _).symm⟩
 refine⟨hE,d,hR,?_,b.step T0 (hB.mono jm),T0,v,rfl⟩;have r':=r.ext hE;cases hd:o.dst with
 | none=>exact r'.Bg (Tr.refl _ _ _) r'.o v
 | some t=>rw[hd]at ht;exact r'.to (Tr.refl _ _ _) r'.o (kI ht) Iu
def Z8(Zd:base<=w0.w.heap.size){k}{dst}{ty:TypeId}{pos}{after}{gd}{r}{s}{x}{args}{Jm:Array TypeId}{f}{nf}{QI}(hf:Qo P f)
  (hx:KM (Qt s.fr x)=some (f,nf,QI)) {cs:List D} (he:WH (JT nf QI (args.toList.map (Qt s.fr))) cs)
  {R:D->Prop} (hF:QV P f s.h cs R) (ht:ZQ nt dst=true) (hk:∀d,R d->QA P base nt w0 Q (.ops r::k) .normal ⟨ZC s.fr dst d,s.h⟩) :
  QA P base nt w0 Q (.ops ((⟨dst,.call ⟨.value x,args,Jm⟩,ty,pos,after,gd⟩,none)::r)::k) .normal s:=by
 simp only[QA]at hk ⊢;intro Z z pl a w rr b;simp only[qn,XB,K6];exact Oper.wp_mono (λa' w' ⟨_,d,hR,r',b',_⟩=>hk d hR Z z pl a' w' r' b') (Qf7 Zd hf rfl hx (hF.args he) ht pl a w rr b _)
def Xj(Zd:base<=w0.w.heap.size){K}{dst}{ty:TypeId}{pos}{after}{gd}{r}{s}{x}{args}{Jm:Array TypeId}{f}{nf}{QI}(hf:Qo P f)
  (hx:KM (Qt s.fr x)=some (f,nf,QI)) {cs:List D} (he:WH (JT nf QI (args.toList.map (Qt s.fr))) cs) {R:D->Prop} (hF:QV P f s.h cs R)
  (ht:ZQ nt dst=true) (hk:∀d,R d->AX P base nt w0 K r ⟨ZC s.fr dst d,s.h⟩) :
  AX P base nt w0 K ((false,⟨dst,.call ⟨.value x,args,Jm⟩,ty,pos,after,gd⟩,none)::r) s:=by
 simp only[AX,XR,jo];intro Z z pl a w rr b;exact Oper.wp_mono (λa' w' ⟨hE,d,hR,r',b',T,v,e⟩=>⟨λ_=>hE,_,_,pl,v,hk d hR,r',b',T,e⟩) (Qf7 Zd hf rfl hx (hF.args he) ht pl a w rr b _)
end
def Qc{h:List Ob}{l}{o}(e:h[l]? = some o):l<h.length:=Kr e
def Qx{h t:List Ob}{l}(hl:l<h.length):(h++t)[l]? = h[l]? := JD hl
def Kx{h t:List Ob}{n}(hn:h.length=n):(h++t)[n]? = t[0]? := by rw[<- hn,Kf (QB _),Ee]
def Vr{h t:List Ob}{n k}(hn:h.length=n):(h++t)[n+k]? = t[k]? := by rw[<- hn,Kf (by omega),eL]
def EJ{h t:List Ob}{l}{o}(hl:l<h.length):(h++t).set l o=h.set l o++t:=eI _ _ hl
def UA{h t:List Ob}{n}{o}(hn:h.length=n):(h++t).set n o=h++t.set 0 o:=by rw[<- hn,OR _ _ (QB _),Ee]
def QrK{h t:List Ob}{n k}{o}(hn:h.length=n):(h++t).set (n+k) o=h++t.set k o:=by rw[<- hn,OR _ _ (by omega),eL]
def Qs{h:List Ob}{l}{o}(hl:l<h.length):(h.set l o)[l]? = some o:=Wm hl
def Qk{h:List Ob}{l m}{o}(hn:l≠m):(h.set l o)[m]? = h[m]? := JJ hn
def Zq{P:Program}{X}(hX:zB P X){f}{fn:Func}{c}(n)(hf:P.funcs[f]? = some fn)(hb:fn.body=some c){h}{args:List D}{R}{nt}{rs}(vR:fn.ntmps=nt)(qs:fn.results=rs)(hn:Nat.ble args.length nt=true)
  (hh:∀(base:Nat) (w:World) (pl:List Pl) (F:List Ob),F=h.map Ob.ro->F.length=h.length->base<=w.heap.size->hx P base ⟨w,F,pl⟩ (F6 X.L rs.toList λd h'=>∃g,h'=F++g/\d.upto F.length=true/\R d) X nt n [.code c] ⟨x9 args 0,F⟩):QV P f h args R:=
 (Q6 hX n hf hb vR qs hn λbase w pl hb=>hh base w pl _ rfl (by simp) hb).mono λd h' ⟨g,h1,h2,h3⟩=>⟨g,h1,by simpa using h2,h3⟩
def jT{P:Program}{X}(hX:zB P X){f}{fn:Func}{c}(n)(hf:P.funcs[f]? = some fn)(hb:fn.body=some c){h}{args:List D}{R}{nt}{rs}(vR:fn.ntmps=nt)(qs:fn.results=rs)(hn:Nat.ble args.length nt=true)
  (hh:∀(base:Nat) (w:World) (pl:List Pl) (F:List Ob),F=h.map Ob.ro->F.length=h.length->base<=w.heap.size->hx P base ⟨w,F,pl⟩ (F6 X.L rs.toList λd h'=>∃g,h'=F++g/\R d g) X nt n [.code c] ⟨x9 args 0,F⟩):Wf P f h args R:=
 Q6 hX n hf hb vR qs hn λbase w pl hb=>hh base w pl _ rfl (by simp) hb
attribute [go_sem] fW fX x7 Ib fV QeS QeT QeR Qqh QeU Qqi Qqj fQ fR Pe HY fT fU rM QeH rL QeG QeI rN QeJ Qp0 Qp1 Qp2 Qp3 fJ Qp4 Qp5 ro_ro Ej
def Qa:(∀{h t:List Ob} {l:Nat},l<h.length->(h++t)[l]? = h[l]?)/\(∀{h t:List Ob} {n:Nat},h.length=n->(h++t)[n]? = t[0]?)/\(∀{h t:List Ob} {n k:Nat},h.length=n->(h++t)[n+k]? = t[k]?)/\(∀{h t:List Ob} {l:Nat} {o:Ob},l<h.length->(h++t).set l o=h.set l o++t)/\(∀{h t:List Ob} {n:Nat} {o:Ob},h.length=n->(h++t).set n o=h++t.set 0 o)/\(∀{h t:List Ob} {n k:Nat} {o:Ob},h.length=n->(h++t).set (n+k) o=h++t.set k o)/\(∀{α:Type} {a b:List α},(a++b).length=a.length+b.length)/\(∀{α:Type} {i:Nat} {a:α} {l:List α},(l.set i a).length=l.length)/\(∀{α:Type} (a b c:List α),a++b++c=a++(b++c))/\(∀{α:Type} {a b:α} (l:List α) {i:Nat},(l.set i a).set i b=l.set i b):=
 ⟨Qx,Kx,Vr,EJ,UA,QrK,Zj,KD,WC,λ_=>JS _⟩
end Go.Fg
namespace Go.Fg.X
open Go.Proofs Go.Fg
open Go.Proofs.Tryz
@[go_sem] def zi:Value:=.int .i64 0
@[go_sem] def zu:Value:=.int .u64 0
@[go_sem] def zh:Value:=.int .u16 0
@[go_sem] def zb:Value:=.bool false
@[go_sem] def zp:Value:=.pointer none
@[go_sem] def zc:Value:=.int .u8 0
@[go_sem] def zs:Value:=.slice none 0 0
@[go_sem] def zm:Value:=.map none
@[go_sem] def Y1:Ty:=⟨.fn,1,8,[.nilFunc]⟩
@[go_sem] def Y2:Ty:=⟨.int .i64,1,8,[zi]⟩
@[go_sem] def Y4:Ty:=⟨.bool,1,1,[zb]⟩
@[go_sem] def Y5:Ty:=⟨.int .u8,1,1,[zc]⟩
@[go_sem] def Y9:Ty:=⟨.str,1,16,[.string ByteArray.empty]⟩
@[go_sem] def Iv:Ty:=⟨.int .u64,1,8,[zu]⟩
@[go_sem] def Y17:Ty:=⟨.ptr 449,1,8,[zp]⟩
@[go_sem] def Y20:Ty:=⟨.iface,1,16,[.nilIface]⟩
@[go_sem] def Y21:Ty:=⟨.int .i32,1,4,[.int .i32 0]⟩
@[go_sem] def PT:Ty:=⟨.struct [(0,3),(1,3)],2,16,[zi,zi]⟩
@[go_sem] def Y24:Ty:=⟨.slice 45,1,24,[zs]⟩
@[go_sem] def iq:Ty:=⟨.struct [(0,23),(2,24)],3,40,[zi,zi,zs]⟩
@[go_sem] def Y31:Ty:=⟨.ptr 134,1,8,[zp]⟩
@[go_sem] def Y35:Ty:=⟨.slice 70,1,24,[zs]⟩
@[go_sem] def Y36:Ty:=⟨.slice 184,1,24,[zs]⟩
@[go_sem] def Y37:Ty:=⟨.slice 75,1,24,[zs]⟩
@[go_sem] def Y39:Ty:=⟨.int .u16,1,2,[zh]⟩
@[go_sem] def Y41:Ty:=⟨.array 4 39,4,8,[zh,zh,zh,zh]⟩
@[go_sem] def iu:Ty:=⟨.struct [(0,38),(1,3),(2,41)],6,24,[zu,zi,zh,zh,zh,zh]⟩
@[go_sem] def iv:Ty:=⟨.struct [(0,3),(1,36),(2,37),(3,43),(9,38)],10,88,[zi,zs,zs,zu,zi,zh,zh,zh,zh,zu]⟩
@[go_sem] def iw:Ty:=⟨.struct [(0,32),(1,3),(2,3)],3,24,[zi,zi,zi]⟩
@[go_sem] def Y59:Ty:=⟨.slice 3,1,24,[zs]⟩
@[go_sem] def Y62:Ty:=⟨.slice 43,1,24,[zs]⟩
@[go_sem] def iz:Ty:=⟨.struct [(0,3),(1,32)],2,16,[zi,zi]⟩
@[go_sem] def Y70:Ty:=⟨.struct [(0,3),(1,4),(2,4),(3,38),(4,38),(5,3),(6,43)],12,64,[zi,zb,zb,zu,zu,zi,zu,zi,zh,zh,zh,zh]⟩
@[go_sem] def Y75:Ty:=⟨.struct [(0,41),(4,41),(8,3)],9,24,[zh,zh,zh,zh,zh,zh,zh,zh,zi]⟩
@[go_sem] def Y79:Ty:=⟨.slice 47,1,24,[zs]⟩
@[go_sem] def Y81:Ty:=⟨.struct [(0,79),(1,35)],2,48,[zs,zs]⟩
@[go_sem] def Y84:Ty:=⟨.ptr 170,1,8,[zp]⟩
@[go_sem] def PU:Ty:=⟨.struct [(0,38),(1,38),(2,38)],3,24,[zu,zu,zu]⟩
@[go_sem] def iB:Ty:=⟨.struct [(0,3),(1,3),(2,4),(3,87),(6,87),(9,87),(12,3),(13,3)],14,112,[zi,zi,zb,zu,zu,zu,zu,zu,zu,zu,zu,zu,zi,zi]⟩
@[go_sem] def PV:Ty:=⟨.struct [(0,38),(1,38)],2,16,[zu,zu]⟩
@[go_sem] def Y93:Ty:=⟨.struct [(0,38),(1,91),(3,38)],4,32,[zu,zu,zu,zu]⟩
@[go_sem] def iC:Ty:=⟨.struct [(0,93),(4,93),(8,4)],9,72,[zu,zu,zu,zu,zu,zu,zu,zu,zb]⟩
@[go_sem] def Y97:Ty:=⟨.struct [(0,4),(1,95),(10,95),(19,38),(20,38),(21,38)],22,176,[zb,zu,zu,zu,zu,zu,zu,zu,zu,zb,zu,zu,zu,zu,zu,zu,zu,zu,zb,zu,zu,zu]⟩
@[go_sem] def PW:Ty:=⟨.struct [(0,4),(1,95),(10,38)],11,88,[zb,zu,zu,zu,zu,zu,zu,zu,zu,zb,zu]⟩
@[go_sem] def iF:Ty:=⟨.struct [(0,38),(1,38),(2,38),(3,38),(4,38),(5,38)],6,48,[zu,zu,zu,zu,zu,zu]⟩
@[go_sem] def Qgp:Ty:=⟨.struct [(0,89),(14,4),(15,38),(16,97),(38,99),(49,101),(60,38),(61,103)],67,536,[zi,zi,zb,zu,zu,zu,zu,zu,zu,zu,zu,zu,zi,zi,zb,zu,zb,zu,zu,zu,zu,zu,zu,zu,zu,zb,zu,zu,zu,zu,zu,zu,zu,zu,zb,zu,zu,zu,zb,zu,zu,zu,zu,zu,zu,zu,zu,zb,zu,zb,zu,zu,zu,zu,zu,zu,zu,zu,zb,zu,zu,zu,zu,zu,zu,zu,zu]⟩
@[go_sem] def Qgq:Ty:=⟨.slice 89,1,24,[zs]⟩
@[go_sem] def Qgr:Ty:=⟨.slice 121,1,24,[zs]⟩
@[go_sem] def Qgs:Ty:=⟨.ptr 194,1,8,[zp]⟩
@[go_sem] def Qgt:Ty:=⟨.ptr 199,1,8,[zp]⟩
@[go_sem] def Qgu:Ty:=⟨.ptr 203,1,8,[zp]⟩
@[go_sem] def Qgv:Ty:=⟨.ptr 209,1,8,[zp]⟩
@[go_sem] def iG:Ty:=⟨.struct [(0,122),(1,125),(2,128),(3,131),(4,38),(5,3)],6,48,[zp,zp,zp,zp,zu,zi]⟩
@[go_sem] def QgB:Ty:=⟨.struct [(0,38),(1,38),(2,38),(3,38),(4,38)],5,40,[zu,zu,zu,zu,zu]⟩
@[go_sem] def QdL:Ty:=⟨.slice 167,1,24,[zs]⟩
@[go_sem] def QdM:Ty:=⟨.struct [(0,38),(1,38),(2,3),(3,3),(4,4)],5,40,[zu,zu,zi,zi,zb]⟩
@[go_sem] def QgC:Ty:=⟨.map 3 89,1,8,[zm]⟩
@[go_sem] def QgD:Ty:=⟨.struct [(0,168)],1,8,[zm]⟩
@[go_sem] def QgE:Ty:=⟨.struct [(0,3),(1,89)],15,120,[zi,zi,zi,zb,zu,zu,zu,zu,zu,zu,zu,zu,zu,zi,zi]⟩
@[go_sem] def QgF:Ty:=⟨.map 3 217,1,8,[zm]⟩
@[go_sem] def QgG:Ty:=⟨.ptr 256,1,8,[zp]⟩
@[go_sem] def QgH:Ty:=⟨.ptr 258,1,8,[zp]⟩
@[go_sem] def QgI:Ty:=⟨.map 3 189,1,8,[zm]⟩
@[go_sem] def QgJ:Ty:=⟨.ptr 263,1,8,[zp]⟩
@[go_sem] def QgK:Ty:=⟨.struct [(0,23),(2,84),(3,186),(4,192),(5,187),(6,191),(7,38),(8,38)],9,72,[zi,zi,zp,zm,zp,zp,zm,zu,zu]⟩
@[go_sem] def QgL:Ty:=⟨.struct [(0,197),(3,3),(4,38)],5,40,[zu,zu,zu,zi,zu]⟩
@[go_sem] def QgM:Ty:=⟨.map 41 3,1,8,[zm]⟩
@[go_sem] def QgN:Ty:=⟨.struct [(0,37),(1,201),(2,59)],3,56,[zs,zm,zs]⟩
@[go_sem] def QgO:Ty:=⟨.map 3 276,1,8,[zm]⟩
@[go_sem] def QgP:Ty:=⟨.map 3 157,1,8,[zm]⟩
@[go_sem] def QgQ:Ty:=⟨.struct [(0,206),(1,207)],2,16,[zm,zm]⟩
@[go_sem] def QgR:Ty:=⟨.ptr 229,1,8,[zp]⟩
@[go_sem] def QgS:Ty:=⟨.ptr 286,1,8,[zp]⟩
@[go_sem] def QgT:Ty:=⟨.struct [(0,227),(1,89),(15,38),(16,97),(38,99),(49,101)],60,480,[zp,zi,zi,zb,zu,zu,zu,zu,zu,zu,zu,zu,zu,zi,zi,zu,zb,zu,zu,zu,zu,zu,zu,zu,zu,zb,zu,zu,zu,zu,zu,zu,zu,zu,zb,zu,zu,zu,zb,zu,zu,zu,zu,zu,zu,zu,zu,zb,zu,zb,zu,zu,zu,zu,zu,zu,zu,zu,zb,zu]⟩
@[go_sem] def QgV:Ty:=⟨.array 3 87,9,72,[zu,zu,zu,zu,zu,zu,zu,zu,zu]⟩
@[go_sem] def QgW:Ty:=⟨.slice 87,1,24,[zs]⟩
@[go_sem] def QgX:Ty:=⟨.ptr 305,1,8,[zp]⟩
@[go_sem] def QgY:Ty:=⟨.map 3 333,1,8,[zm]⟩
@[go_sem] def iI:Ty:=⟨.struct [(0,252),(1,254)],2,16,[zp,zm]⟩
@[go_sem] def QgZ:Ty:=⟨.map 3 265,1,8,[zm]⟩
@[go_sem] def Qg0:Ty:=⟨.map 3 3,1,8,[zm]⟩
@[go_sem] def Qg1:Ty:=⟨.map 3 260,1,8,[zm]⟩
@[go_sem] def Qg2:Ty:=⟨.struct [(0,259),(1,260),(2,261)],3,24,[zm,zm,zm]⟩
@[go_sem] def Qg3:Ty:=⟨.slice 38,1,24,[zs]⟩
@[go_sem] def Qg4:Ty:=⟨.struct [(0,3),(1,43),(7,4)],8,40,[zi,zu,zi,zh,zh,zh,zh,zb]⟩
@[go_sem] def Qg5:Ty:=⟨.ptr 327,1,8,[zp]⟩
@[go_sem] def Qg6:Ty:=⟨.struct [(0,284),(1,3),(2,3),(3,103)],9,72,[zp,zi,zi,zu,zu,zu,zu,zu,zu]⟩
@[go_sem] def Qg7:Ty:=⟨.ptr 378,1,8,[zp]⟩
@[go_sem] def Qg8:Ty:=⟨.struct [(0,303)],1,8,[zp]⟩
@[go_sem] def Qg9:Ty:=⟨.slice 59,1,24,[zs]⟩
@[go_sem] def Qha:Ty:=⟨.struct [(0,62),(1,3),(2,3)],3,40,[zs,zi,zi]⟩
@[go_sem] def Qhb:Ty:=⟨.struct [(0,38),(1,3)],2,16,[zu,zi]⟩
@[go_sem] def Qhc:Ty:=⟨.struct [(0,331),(2,331)],4,32,[zu,zi,zu,zi]⟩
@[go_sem] def Qhd:Ty:=⟨.int .u32,1,4,[.int .u32 0]⟩
@[go_sem] def Qhe:Ty:=⟨.ptr 197,1,8,[zp]⟩
@[go_sem] def Qhf:Ty:=⟨.array 2 303,2,16,[zp,zp]⟩
@[go_sem] def Qhg:Ty:=⟨.struct [(0,333),(4,376),(6,333),(10,3),(11,3)],12,96,[zu,zi,zu,zi,zp,zp,zu,zi,zu,zi,zi,zi]⟩
@[go_sem] def Qhh:Ty:=⟨.ptr 3,1,8,[zp]⟩
@[go_sem] def Qhi:Ty:=⟨.array 2 93,8,64,[zu,zu,zu,zu,zu,zu,zu,zu]⟩
@[go_sem] def Qhj:Ty:=⟨.ptr 381,1,8,[zp]⟩
def lay:Jt:=[(1,Y1),(2,Y2),(3,Y2),(4,Y4),(5,Y5),(9,Y9),(12,Iv),(17,Y17),(20,Y20),(21,Y21),(22,PT),(23,PT),(24,Y24),(25,iq),(26,iq),(27,Y1),(28,Y1),(29,Y1),(30,Y1),(31,Y31),(32,Y2),(34,Y1),(35,Y35),(36,Y36),(37,Y37),(38,Iv),(39,Y39),(41,Y41),(42,iu),(43,iu),(44,iv),(45,iv),(46,iw),(47,iw),(49,Y1),(50,Y1),(52,Y1),(53,Y1),(54,Y1),(55,Y1),(57,Y1),(58,Y1),(59,Y59),(60,Y1),(61,Y1),(62,Y62),(63,Y1),(64,Y1),(65,iz),(67,Y1),(70,Y70),(73,Y1),(75,Y75),(76,Y1),(78,Y1),(79,Y79),(81,Y81),(84,Y84),(86,PU),(87,PU),(88,iB),(89,iB),(90,PV),(91,PV),(93,Y93),(94,iC),(95,iC),(97,Y97),(98,PW),(99,PW),(101,PW),(102,iF),(103,iF),(105,Qgp),(108,Y1),(110,Y1),(111,Qgq),(114,Y1),(116,Y1),(117,Y1),(118,Qgr),(121,PV),(122,Qgs),(125,Qgt),(128,Qgu),(131,Qgv),(133,iG),(134,iG),(135,Y1),(138,Y1),(141,Y1),(157,QgB),(164,QdL),(167,QdM),(168,QgC),(170,QgD),(172,Y1),(184,QgE),(186,QgF),(187,QgG),(189,QgH),(191,QgI),(192,QgJ),(194,QgK),(197,PU),(199,QgL),(201,QgM),(203,QgN),(206,QgO),(207,QgP),(209,QgQ),(217,QgR),(225,Y1),(227,QgS),(229,QgT),(240,QgV),(241,Y2),(250,QgW),(252,QgX),(254,QgY),(256,iI),(258,iI),(259,QgZ),(260,Qg0),(261,Qg1),(263,Qg2),(265,PT),(276,Qg3),(278,Qg4),(284,Qg5),(286,Qg6),(297,Iv),(303,Qg7),(305,Qg8),(309,Qg9),(327,Qha),(331,Qhb),(333,Qhc),(338,Y2),(345,Qhd),(363,Y1),(375,Qhe),(376,Qhf),(378,Qhg),(381,Iv),(384,Qhh),(399,Y1),(406,Y1),(407,Qhi),(412,Qhj)]
def Qhk{P:Program}:∀{L:Jt},L.map (λp=>(P.underlying p.1).map TK.of)=L.map (λp=>some p.2.k)->L.map (λp=>(P.info? p.1).map λi=>(i.size,i.bytes,i.zero.map λz=>z.cells.toList))=L.map (λp=>some (p.2.size,p.2.bytes,some p.2.zero))->L.map (λp=>((P.info? p.1).bind (·.zero)).map eX)=L.map (λp=>some p.2.k.agg)->Jq P L
 | [],_,_,_=>.nil _
 | (_,_)::_,h1,h2,h3=>.cons ⟨(xR h1).1,(xR h2).1,(xR h3).1⟩ (Qhk (xR h1).2 (xR h2).2 (xR h3).2)
def BE:Jq prog lay:=Qhk (by kernel_rfl) (by kernel_rfl) (by kernel_rfl)
theorem L1:ty lay 1=some Y1:=rfl
theorem L2:ty lay 2=some Y2:=rfl
theorem L3:ty lay 3=some Y2:=rfl
theorem L4:ty lay 4=some Y4:=rfl
theorem L5:ty lay 5=some Y5:=rfl
theorem L9:ty lay 9=some Y9:=rfl
theorem L12:ty lay 12=some Iv:=rfl
theorem L17:ty lay 17=some Y17:=rfl
theorem L20:ty lay 20=some Y20:=rfl
theorem L21:ty lay 21=some Y21:=rfl
theorem L22:ty lay 22=some PT:=rfl
theorem L23:ty lay 23=some PT:=rfl
theorem L24:ty lay 24=some Y24:=rfl
theorem L25:ty lay 25=some iq:=rfl
theorem L26:ty lay 26=some iq:=rfl
theorem L27:ty lay 27=some Y1:=rfl
theorem L28:ty lay 28=some Y1:=rfl
theorem L29:ty lay 29=some Y1:=rfl
theorem L30:ty lay 30=some Y1:=rfl
theorem L31:ty lay 31=some Y31:=rfl
theorem L32:ty lay 32=some Y2:=rfl
theorem L34:ty lay 34=some Y1:=rfl
theorem L35:ty lay 35=some Y35:=rfl
theorem L36:ty lay 36=some Y36:=rfl
theorem L37:ty lay 37=some Y37:=rfl
theorem L38:ty lay 38=some Iv:=rfl
theorem L39:ty lay 39=some Y39:=rfl
theorem L41:ty lay 41=some Y41:=rfl
theorem L42:ty lay 42=some iu:=rfl
theorem L43:ty lay 43=some iu:=rfl
theorem L44:ty lay 44=some iv:=rfl
theorem L45:ty lay 45=some iv:=rfl
theorem L46:ty lay 46=some iw:=rfl
theorem L47:ty lay 47=some iw:=rfl
theorem L49:ty lay 49=some Y1:=rfl
theorem L50:ty lay 50=some Y1:=rfl
theorem L52:ty lay 52=some Y1:=rfl
theorem L53:ty lay 53=some Y1:=rfl
theorem L54:ty lay 54=some Y1:=rfl
theorem L55:ty lay 55=some Y1:=rfl
theorem L57:ty lay 57=some Y1:=rfl
theorem L58:ty lay 58=some Y1:=rfl
theorem L59:ty lay 59=some Y59:=rfl
theorem L60:ty lay 60=some Y1:=rfl
theorem L61:ty lay 61=some Y1:=rfl
theorem L62:ty lay 62=some Y62:=rfl
theorem L63:ty lay 63=some Y1:=rfl
theorem L64:ty lay 64=some Y1:=rfl
theorem L65:ty lay 65=some iz:=rfl
theorem L67:ty lay 67=some Y1:=rfl
theorem L70:ty lay 70=some Y70:=rfl
theorem L73:ty lay 73=some Y1:=rfl
theorem L75:ty lay 75=some Y75:=rfl
theorem L76:ty lay 76=some Y1:=rfl
theorem L78:ty lay 78=some Y1:=rfl
theorem L79:ty lay 79=some Y79:=rfl
theorem L81:ty lay 81=some Y81:=rfl
theorem L84:ty lay 84=some Y84:=rfl
theorem L86:ty lay 86=some PU:=rfl
theorem L87:ty lay 87=some PU:=rfl
theorem L88:ty lay 88=some iB:=rfl
theorem L89:ty lay 89=some iB:=rfl
theorem L90:ty lay 90=some PV:=rfl
theorem L91:ty lay 91=some PV:=rfl
theorem L93:ty lay 93=some Y93:=rfl
theorem L94:ty lay 94=some iC:=rfl
theorem L95:ty lay 95=some iC:=rfl
theorem L97:ty lay 97=some Y97:=rfl
theorem L98:ty lay 98=some PW:=rfl
theorem L99:ty lay 99=some PW:=rfl
theorem QsQ:ty lay 101=some PW:=rfl
theorem QsR:ty lay 102=some iF:=rfl
theorem QsS:ty lay 103=some iF:=rfl
theorem QsT:ty lay 105=some Qgp:=rfl
theorem QsU:ty lay 108=some Y1:=rfl
theorem QsV:ty lay 110=some Y1:=rfl
theorem QsW:ty lay 111=some Qgq:=rfl
theorem QsX:ty lay 114=some Y1:=rfl
theorem QsY:ty lay 116=some Y1:=rfl
theorem QsZ:ty lay 117=some Y1:=rfl
theorem Qs0:ty lay 118=some Qgr:=rfl
theorem Qs1:ty lay 121=some PV:=rfl
theorem Qs2:ty lay 122=some Qgs:=rfl
theorem Qs3:ty lay 125=some Qgt:=rfl
theorem Qs4:ty lay 128=some Qgu:=rfl
theorem Qs5:ty lay 131=some Qgv:=rfl
theorem Qs6:ty lay 133=some iG:=rfl
theorem Qs7:ty lay 134=some iG:=rfl
theorem Qs8:ty lay 135=some Y1:=rfl
theorem Qs9:ty lay 138=some Y1:=rfl
theorem Qta:ty lay 141=some Y1:=rfl
theorem Qtj:ty lay 157=some QgB:=rfl
theorem Qsf:ty lay 164=some QdL:=rfl
theorem Qsg:ty lay 167=some QdM:=rfl
theorem Qtl:ty lay 168=some QgC:=rfl
theorem Qtm:ty lay 170=some QgD:=rfl
theorem Qtn:ty lay 172=some Y1:=rfl
theorem Qto:ty lay 184=some QgE:=rfl
theorem Qtp:ty lay 186=some QgF:=rfl
theorem Qtq:ty lay 187=some QgG:=rfl
theorem Qtr:ty lay 189=some QgH:=rfl
theorem Qts:ty lay 191=some QgI:=rfl
theorem Qtt:ty lay 192=some QgJ:=rfl
theorem Qtu:ty lay 194=some QgK:=rfl
theorem Qtv:ty lay 197=some PU:=rfl
theorem Qtw:ty lay 199=some QgL:=rfl
theorem Qtx:ty lay 201=some QgM:=rfl
theorem Qty:ty lay 203=some QgN:=rfl
theorem Qtz:ty lay 206=some QgO:=rfl
theorem QtA:ty lay 207=some QgP:=rfl
theorem QtB:ty lay 209=some QgQ:=rfl
theorem QtC:ty lay 217=some QgR:=rfl
theorem QtD:ty lay 225=some Y1:=rfl
theorem QtE:ty lay 227=some QgS:=rfl
theorem QtF:ty lay 229=some QgT:=rfl
theorem QtH:ty lay 240=some QgV:=rfl
theorem QtI:ty lay 241=some Y2:=rfl
theorem QtJ:ty lay 250=some QgW:=rfl
theorem QtK:ty lay 252=some QgX:=rfl
theorem QtL:ty lay 254=some QgY:=rfl
theorem QtM:ty lay 256=some iI:=rfl
theorem QtN:ty lay 258=some iI:=rfl
theorem QtO:ty lay 259=some QgZ:=rfl
theorem QtP:ty lay 260=some Qg0:=rfl
theorem QtQ:ty lay 261=some Qg1:=rfl
theorem QtR:ty lay 263=some Qg2:=rfl
theorem QtS:ty lay 265=some PT:=rfl
theorem QtT:ty lay 276=some Qg3:=rfl
theorem QtU:ty lay 278=some Qg4:=rfl
theorem QtV:ty lay 284=some Qg5:=rfl
theorem QtW:ty lay 286=some Qg6:=rfl
theorem QtX:ty lay 297=some Iv:=rfl
theorem QtY:ty lay 303=some Qg7:=rfl
theorem QtZ:ty lay 305=some Qg8:=rfl
theorem Qt0:ty lay 309=some Qg9:=rfl
theorem Qt1:ty lay 327=some Qha:=rfl
theorem Qt2:ty lay 331=some Qhb:=rfl
theorem Qt3:ty lay 333=some Qhc:=rfl
theorem Qt4:ty lay 338=some Y2:=rfl
theorem Qt5:ty lay 345=some Qhd:=rfl
theorem Qt6:ty lay 363=some Y1:=rfl
theorem Qt7:ty lay 375=some Qhe:=rfl
theorem Qt8:ty lay 376=some Qhf:=rfl
theorem Qt9:ty lay 378=some Qhg:=rfl
theorem Qua:ty lay 381=some Iv:=rfl
theorem Qub:ty lay 384=some Qhh:=rfl
theorem Quc:ty lay 399=some Y1:=rfl
theorem Qud:ty lay 406=some Y1:=rfl
theorem Que:ty lay 407=some Qhi:=rfl
theorem Quf:ty lay 412=some Qhj:=rfl
def xn:Er:=[(41,[0,0,0,0]),(87,[0,0,0]),(89,[0,0,1,0,0,0,0,0,0,0,0,0,0,0]),(91,[0,0]),(167,[0,0,0,0,1]),(331,[0,0])]
def Qhl{P:Program}:∀{E:Er},E.map (λp=>zA P 60 p.1)=E.map (λp=>some p.2)->E.map (λp=>P.eqGuardType P.depth p.1)=E.map (λ_=>false)->E.map (λp=>match P.underlying p.1 with|some (.struct _)|some (.array _ _)=>true|_=>false)=E.map (λ_=>true)->Bq P E
 | [],_,_,_=>.nil _
 | (_,_)::_,h1,h2,h3=>.cons ⟨(xR h1).1,(xR h2).1,(xR h3).1⟩ (Qhl (xR h1).2 (xR h2).2 (xR h3).2)
def Qug:Bq prog xn:=Qhl (by kernel_rfl) (by kernel_rfl) (by kernel_rfl)
theorem E41:jl xn 41=some [0,0,0,0]:=rfl
theorem E87:jl xn 87=some [0,0,0]:=rfl
theorem E89:jl xn 89=some [0,0,1,0,0,0,0,0,0,0,0,0,0,0]:=rfl
theorem E91:jl xn 91=some [0,0]:=rfl
theorem Qsl:jl xn 167=some [0,0,0,0,1]:=rfl
theorem Qut:jl xn 331=some [0,0]:=rfl
def cx:Cx:=⟨lay,xn⟩
def Qi:zB prog cx:=⟨BE,Qug⟩
def Yf:Qo prog 11:=call11
def jr:Qo prog 12:=call12
def UC:Qo prog 15:=call15
def EK:Qo prog 16:=call16
def iL:Qo prog 25:=call25
def sP:Qo prog 28:=call28
def QaB:Qo prog 38:=call38
def Quu:Qo prog 39:=call39
def sT:Qo prog 40:=call40
def Quv:Qo prog 41:=call41
def Qsm:Qo prog 42:=call42
def iO:Qo prog 43:=call43
def QaI:Qo prog 44:=call44
def Qux:Qo prog 54:=call54
def Quy:Qo prog 55:=call55
def sU:Qo prog 56:=call56
def Quz:Qo prog 57:=call57
def Qhu:Qo prog 58:=call58
def QuA:Qo prog 59:=call59
def iP:Qo prog 60:=call60
def QuB:Qo prog 61:=call61
def QuC:Qo prog 62:=call62
def vX:Qo prog 63:=call63
def sV:Qo prog 64:=call64
def Qhw:Qo prog 67:=call67
def QuF:Qo prog 70:=call70
def QuG:Qo prog 71:=call71
def sW:Qo prog 77:=call77
def QaY:Qo prog 81:=call81
def QdN:Qo prog 82:=call82
def Qsn:Qo prog 83:=call83
def QuM:Qo prog 84:=call84
def QhA:Qo prog 85:=call85
def iQ:Qo prog 86:=call86
def PX:Qo prog 87:=call87
def QhB:Qo prog 88:=call88
def QuN:Qo prog 89:=call89
def Qso:Qo prog 90:=call90
def QuO:Qo prog 91:=call91
def iR:Qo prog 92:=call92
def iS:Qo prog 93:=call93
def QuP:Qo prog 94:=call94
def QdP:Qo prog 95:=call95
def QuQ:Qo prog 98:=call98
def QhC:Qo prog 99:=call99
def QhD:Qo prog 100:=call100
def QhE:Qo prog 101:=call101
def sY:Qo prog 102:=call102
def QhF:Qo prog 103:=call103
def QuR:Qo prog 104:=call104
def QhG:Qo prog 105:=call105
def UD:Qo prog 106:=call106
def QuS:Qo prog 107:=call107
def sZ:Qo prog 108:=call108
def td:Qo prog 109:=call109
def xo:Qo prog 110:=call110
def QuT:Qo prog 111:=call111
def te:Qo prog 112:=call112
def QhH:Qo prog 113:=call113
def QuU:Qo prog 114:=call114
def QuV:Qo prog 115:=call115
def QhI:Qo prog 116:=call116
def iT:Qo prog 117:=call117
def Gm:Qo prog 118:=call118
def QhJ:Qo prog 120:=call120
def QuX:Qo prog 121:=call121
def QhK:Qo prog 127:=call127
def Qu7:Qo prog 134:=call134
def Qu8:Qo prog 135:=call135
def Ix:Qo prog 137:=call137
def QhL:Qo prog 138:=call138
def Qva:Qo prog 139:=call139
def iW:Qo prog 140:=call140
def PY:Qo prog 141:=call141
def Gn:Qo prog 142:=call142
def EL:Qo prog 143:=call143
def UE:Qo prog 144:=call144
def Qvb:Qo prog 145:=call145
def Qvc:Qo prog 146:=call146
def iX:Qo prog 147:=call147
def QhM:Qo prog 151:=call151
def Qvd:Qo prog 152:=call152
def Qve:Qo prog 153:=call153
def Qvf:Qo prog 154:=call154
def Qvg:Qo prog 155:=call155
def QhN:Qo prog 156:=call156
def Qvh:Qo prog 157:=call157
def Qvi:Qo prog 158:=call158
def Qvj:Qo prog 159:=call159
def Qvk:Qo prog 160:=call160
def iY:Qo prog 161:=call161
def QhO:Qo prog 162:=call162
def Qvl:Qo prog 163:=call163
def Qvm:Qo prog 164:=call164
def Qvn:Qo prog 165:=call165
def Qvo:Qo prog 166:=call166
def Qvp:Qo prog 167:=call167
def Qvq:Qo prog 168:=call168
def Qvr:Qo prog 169:=call169
def tf:Qo prog 170:=call170
def iZ:Qo prog 171:=call171
def QhP:Qo prog 172:=call172
def Qvs:Qo prog 173:=call173
def Qvt:Qo prog 174:=call174
def Qvu:Qo prog 175:=call175
def th:Qo prog 176:=call176
def QhQ:Qo prog 177:=call177
def QhR:Qo prog 179:=call179
def Qvv:Qo prog 185:=call185
def Qvw:Qo prog 186:=call186
def Qvx:Qo prog 187:=call187
def ld:Qo prog 188:=call188
def QhS:Qo prog 189:=call189
def QhT:Qo prog 190:=call190
def Qvy:Qo prog 191:=call191
def Qvz:Qo prog 192:=call192
def QvA:Qo prog 193:=call193
def QhU:Qo prog 194:=call194
def QvB:Qo prog 195:=call195
def QvC:Qo prog 196:=call196
def QvD:Qo prog 197:=call197
def tj:Qo prog 198:=call198
def QvE:Qo prog 199:=call199
def QvF:Qo prog 200:=call200
def QvG:Qo prog 201:=call201
def tm:Qo prog 202:=call202
def QvH:Qo prog 203:=call203
def QvI:Qo prog 204:=call204
def QvJ:Qo prog 205:=call205
def tq:Qo prog 207:=call207
def kQ:Qo prog 208:=call208
def QhV:Qo prog 209:=call209
def QhW:Qo prog 210:=call210
def tu:Qo prog 211:=call211
def QhX:Qo prog 212:=call212
def QvK:Qo prog 223:=call223
def QvL:Qo prog 234:=call234
def tv:Qo prog 235:=call235
def QvM:Qo prog 236:=call236
def QvN:Qo prog 237:=call237
def QvO:Qo prog 238:=call238
def QvP:Qo prog 239:=call239
def QvQ:Qo prog 240:=call240
def QhY:Qo prog 241:=call241
def QvR:Qo prog 242:=call242
def QvS:Qo prog 243:=call243
def QhZ:Qo prog 244:=call244
def Qh0:Qo prog 245:=call245
def lg:Qo prog 246:=call246
def lh:Qo prog 247:=call247
def tx:Qo prog 248:=call248
def Qh1:Qo prog 249:=call249
def tz:Qo prog 250:=call250
def Qh2:Qo prog 251:=call251
def tA:Qo prog 252:=call252
def Db:Qo prog 253:=call253
def tB:Qo prog 254:=call254
def QvT:Qo prog 255:=call255
def QvU:Qo prog 256:=call256
def QvV:Qo prog 257:=call257
def QvW:Qo prog 258:=call258
def lj:Qo prog 259:=call259
def QvX:Qo prog 260:=call260
def Qh3:Qo prog 261:=call261
def QvY:Qo prog 262:=call262
def Qh4:Qo prog 263:=call263
def QvZ:Qo prog 264:=call264
def Qh5:Qo prog 265:=call265
def Qh6:Qo prog 266:=call266
def Qh7:Qo prog 267:=call267
def PZ:Qo prog 268:=call268
def Qv0:Qo prog 270:=call270
def Qv1:Qo prog 271:=call271
def Qv2:Qo prog 281:=call281
def Qv3:Qo prog 282:=call282
def Qv4:Qo prog 283:=call283
def Qv5:Qo prog 284:=call284
def tC:Qo prog 285:=call285
def Qv6:Qo prog 286:=call286
def Qh8:Qo prog 287:=call287
def Qv7:Qo prog 288:=call288
def Qv8:Qo prog 289:=call289
def Qv9:Qo prog 290:=call290
def Qh9:Qo prog 291:=call291
def Qia:Qo prog 292:=call292
def UF:Qo prog 293:=call293
def tD:Qo prog 294:=call294
def Qib:Qo prog 295:=call295
def UG:Qo prog 296:=call296
def Qwa:Qo prog 297:=call297
def EM:Qo prog 298:=call298
def Qic:Qo prog 299:=call299
def Qwb:Qo prog 300:=call300
def Qwc:Qo prog 301:=call301
def lu:Qo prog 302:=call302
def Gp:Qo prog 303:=call303
def tE:Qo prog 304:=call304
def tF:Qo prog 310:=call310
def Qid:Qo prog 311:=call311
def Qie:Qo prog 312:=call312
def Qwd:Qo prog 313:=call313
def Qif:Qo prog 314:=call314
def tG:Qo prog 315:=call315
def vY:Qo prog 316:=call316
def tH:Qo prog 317:=call317
def Qwe:Qo prog 318:=call318
def Qig:Qo prog 319:=call319
def Qwf:Qo prog 320:=call320
def Qwg:Qo prog 321:=call321
def Qwh:Qo prog 322:=call322
def Qwi:Qo prog 323:=call323
def Qwj:Qo prog 324:=call324
def Qwk:Qo prog 325:=call325
def Qwl:Qo prog 326:=call326
def Qwm:Qo prog 327:=call327
def P3:Qo prog 328:=call328
def Qih:Qo prog 329:=call329
def Qii:Qo prog 330:=call330
def Qij:Qo prog 331:=call331
def Qik:Qo prog 332:=call332
def tI:Qo prog 333:=call333
def tJ:Qo prog 334:=call334
def tK:Qo prog 335:=call335
attribute [go_sem] cx L1 L2 L3 L4 L5 L9 L12 L17 L20 L21 L22 L23 L24 L25 L26 L27 L28 L29 L30 L31 L32 L34 L35 L36 L37 L38 L39 L41 L42 L43 L44 L45 L46 L47 L49 L50 L52 L53 L54 L55 L57 L58 L59 L60 L61 L62 L63 L64 L65 L67 L70 L73 L75 L76 L78 L79 L81 L84 L86 L87 L88 L89 L90 L91 L93 L94 L95 L97 L98 L99 QsQ QsR QsS QsT QsU QsV QsW QsX QsY QsZ Qs0 Qs1 Qs2 Qs3 Qs4 Qs5 Qs6 Qs7 Qs8 Qs9 Qta Qtj Qsf Qsg Qtl Qtm Qtn Qto Qtp Qtq Qtr Qts Qtt Qtu Qtv Qtw Qtx Qty Qtz QtA QtB QtC QtD QtE QtF QtH QtI QtJ QtK QtL QtM QtN QtO QtP QtQ QtR QtS QtT QtU QtV QtW QtX QtY QtZ Qt0 Qt1 Qt2 Qt3 Qt4 Qt5 Qt6 Qt7 Qt8 Qt9 Qua Qub Quc Qud Que Quf E41 E87 E89 E91 Qsl Qut
def Qe{base nt}{w0:Start}{Q}{k}{s}(hb:base<=w0.w.heap.size)(h:hx prog base w0 Q cx nt 200 k s):QA prog base nt w0 Q k .normal s:=Ye Qi hb 200 h
def Zr{base nt}{w0:Start}{K}{l}{s}(hb:base<=w0.w.heap.size)(h:Vk prog base w0 cx nt K l s):AX prog base nt w0 K l s:=Qrm Qi hb h
end Go.Fg.X
namespace Go.Fg
open Go.RowKit (Below)
def Rd(P:Program)(t:TypeId){α:Type}(ok:α->Prop)(enc:α->List D):Prop:=
 ∀{H:Type} {en:TypeId × Value->H} {w:World} {base:Nat} {held:Bool} (m:Nat) (cs:List Value) (x:DataW H × List MemPlace),DataW.trod en P w base (λ_=>true) held m t cs=some x ->
  ∃a,ok a/\(enc a).length=cs.length/\∀j,j<cs.length->Cl (λ_=>True) w (nth (enc a) j) (Zb cs j)
def Rd.int{P:Program}{t:TypeId}(k)(ht:P.underlying t=some (.int k)):Rd P t (λn:Int=>(Lit.int k n).wf=true) (λn=>[.raw (.int k n)]):=by
 intro H en w base held m cs x h;obtain⟨n,rfl,_,hw⟩:=DataW.trod_int ht h;refine⟨n,hw,rfl,λj hj=>?_⟩;obtain rfl:j=0:=by simpa using hj
 exact .raw _
def Rd.bool{P:Program}{t:TypeId}(ht:P.underlying t=some .bool):Rd P t (λ_:Bool=>True) (λn=>[.raw (.bool n)]):=by
 intro H en w base held m cs x h;obtain⟨n,rfl,_⟩:=DataW.trod_bool ht h;refine⟨n,trivial,rfl,λj hj=>?_⟩;obtain rfl:j=0:=by simpa using hj
 exact .raw _
def Rd.map{P}{t:TypeId}{α β:Type}{ok}{enc}(r:Rd P t ok enc)(g:α->β){Iy}{jU}(he:∀a,jU (g a)=enc a)(ho:∀a,ok a->Iy (g a)):Rd P t Iy jU:=by
 intro H en w base held m cs x h;obtain⟨a,h1,h2,h3⟩:=r m cs x h;exact⟨g a,ho a h1,by rw[he];exact h2,by rw[he];exact h3⟩
def KV(P:Program)(fs:List Field)(off Jz:Nat){α:Type}(ok:α->Prop)(enc:α->List D):Prop:=
 ∀{H:Type} {en:TypeId × Value->H} {w:World} {base:Nat} {held:Bool} (m:Nat) (cs:List Value),cs.length=Jz ->
  (∀f∈fs,∃x,DataW.trod en P w base (λ_=>true) held m f.type ((cs.drop f.offset).take (P.cellsOf f.type))=some x) ->
  ∃a,ok a/\off+(enc a).length=Jz/\∀j,off+j<Jz->Cl (λ_=>True) w (nth (enc a) j) (Zb cs (off+j))
def KV.nil{P}{Jz}:KV P [] Jz Jz (λ_:Unit=>True) (λ_=>[]):=by
 intro H en w base held m cs hl h;exact⟨(),trivial,rfl,λj hj=>by omega⟩
def KV.cons{P}{f:Field}{fs}{off jg Jz}{α β:Type}{ok}{enc}{Iy}{jU}(r:Rd P f.type ok enc)(rs:KV P fs jg Jz Iy jU)
  (ho:f.offset=off) (hc:off+P.cellsOf f.type=jg) (ht:jg<=Jz):KV P (f::fs) off Jz (λab:α × β=>ok ab.1/\Iy ab.2) (λab=>enc ab.1++jU ab.2):=by
 intro H en w base held m cs hl h;obtain⟨x,hx⟩:=h f (by simp);obtain⟨a,a1,a2,a3⟩:=r m _ x hx;obtain⟨b,b1,b2,b3⟩:=rs m cs hl λg hg=>h g (by simp[hg]);have hlen:((cs.drop f.offset).take (P.cellsOf f.type)).length=P.cellsOf f.type:=by simp;omega
 rw[hlen]at a2 a3;refine⟨(a,b),⟨a1,b1⟩,by simp;omega,λj hj=>?_⟩;by_cases h1:j<P.cellsOf f.type
 ·have:=a3 j h1;have e1:nth (enc a++jU b) j=nth (enc a) j:=rB (by omega);have e2:Zb ((cs.drop f.offset).take (P.cellsOf f.type)) j=Zb cs (off+j):=by
   simp only[Zb,Ze,Yq,Qf h1,HA,ho]
  show Cl _ w (nth (enc a++jU b) j) _;rw[e1,<- e2];exact this
 ·have e1:nth (enc a++jU b) j=nth (jU b) (j - P.cellsOf f.type):=by rw[rC (by omega),a2]
  have:=b3 (j - P.cellsOf f.type) (by omega);show Cl _ w (nth (enc a++jU b) j) _;rw[e1,show off+j=jg+(j - P.cellsOf f.type) by omega];exact this
def Rd.struct{P:Program}{t:TypeId}{fs:Array Field}{Jz:Nat}{α:Type}{ok:α->Prop}{enc:α->List D}(ht:P.underlying t=some (.struct fs))(hc:P.cellsOf t=Jz)(r:KV P fs.toList 0 Jz ok enc):Rd P t ok enc:=by
 intro H en w base held m cs x h;obtain⟨xs,m',rfl,_,hl,kF,hf⟩:=DataW.trod_struct ht h;obtain⟨a,a1,a2,a3⟩:=r m' cs (by omega) λf hf'=>by
  obtain⟨i,hi⟩:=HB hf';have JQ:fs[i]? = some f:=by simpa using hi
  have Qc:i<xs.length:=by rw[kF];exact(WN.1 JQ).1
  exact⟨xs[i],by rw[hf i f JQ];exact QW Qc⟩
 exact⟨a,a1,by omega,λj hj=>by have:=a3 j (by omega);rwa [JV]at this⟩
def qW(P:Program)(e:TypeId)(i n:Nat){α:Type}(ok:α->Prop)(enc:α->List D):Prop:=
 ∀{H:Type} {en:TypeId × Value->H} {w:World} {base:Nat} {held:Bool} (m:Nat) (cs:List Value),cs.length=n*P.cellsOf e ->
  (∀k,k<n->∃x,DataW.trod en P w base (λ_=>true) held m e ((cs.drop (k*P.cellsOf e)).take (P.cellsOf e))=some x) ->
  ∃a,ok a/\i*P.cellsOf e+(enc a).length=n*P.cellsOf e/\∀j,i*P.cellsOf e+j<n*P.cellsOf e->Cl (λ_=>True) w (nth (enc a) j) (Zb cs (i*P.cellsOf e+j))
def qW.nil{P}{e:TypeId}{n}:qW P e n n (λ_:Unit=>True) (λ_=>[]):=by
 intro H en w base held m cs hl h;exact⟨(),trivial,rfl,λj hj=>by omega⟩
def qW.cons{P}{e:TypeId}{i n}{α β:Type}{ok}{enc}{Iy}{jU}(hi:i<n)(r:Rd P e ok enc)(rs:qW P e (i+1) n Iy jU):
  qW P e i n (λab:α × β=>ok ab.1/\Iy ab.2) (λab=>enc ab.1++jU ab.2):=by
 intro H en w base held m cs hl h;obtain⟨x,hx⟩:=h i hi;obtain⟨a,a1,a2,a3⟩:=r m _ x hx;obtain⟨b,b1,b2,b3⟩:=rs m cs hl h;have hm:=qN (P.cellsOf e) (show i+1<=n from hi);rw[VL,Nat.one_mul]at hm;rw[VL,Nat.one_mul]at b2 b3;have hlen:((cs.drop (i*P.cellsOf e)).take (P.cellsOf e)).length=P.cellsOf e:=by simp;omega
 rw[hlen]at a2 a3;refine⟨(a,b),⟨a1,b1⟩,by simp;omega,λj hj=>?_⟩;by_cases h1:j<P.cellsOf e
 ·have:=a3 j h1;have e1:nth (enc a++jU b) j=nth (enc a) j:=rB (by omega);have e2:Zb ((cs.drop (i*P.cellsOf e)).take (P.cellsOf e)) j=Zb cs (i*P.cellsOf e+j):=by
   simp only[Zb,Ze,Yq,Qf h1,HA]
  show Cl _ w (nth (enc a++jU b) j) _;rw[e1,<- e2];exact this
 ·have e1:nth (enc a++jU b) j=nth (jU b) (j - P.cellsOf e):=by rw[rC (by omega),a2]
  have:=b3 (j - P.cellsOf e) (by omega);show Cl _ w (nth (enc a++jU b) j) _;rw[e1,show i*P.cellsOf e+j=i*P.cellsOf e+P.cellsOf e+(j - P.cellsOf e) by omega];exact this
def Rd.array{P:Program}{t e:TypeId}{n:Nat}{α:Type}{ok:α->Prop}{enc:α->List D}(ht:P.underlying t=some (.array n e))(hc:P.cellsOf t=n*P.cellsOf e)(r:qW P e 0 n ok enc):Rd P t ok enc:=by
 intro H en w base held m cs x h;obtain⟨xs,m',rfl,_,hl,kF,hf⟩:=DataW.trod_array ht h;obtain⟨a,a1,a2,a3⟩:=r m' cs (by omega) λk hk=>by
  have Qc:k<xs.length:=by omega
  exact⟨xs[k],by rw[hf k hk];exact QW Qc⟩
 simp only[Nat.zero_mul,JV]at a2 a3;exact⟨a,a1,by omega,λj hj=>a3 j (by omega)⟩
def Rd.slice{P:Program}{t e:TypeId}{α:Type}[Inhabited α]{ok}{enc}(sz)(ht:P.underlying t=some (.slice e))(hc:P.cellsOf e=sz)(qk:0<sz)(r:Rd P e ok enc):
  Rd P t (λl:List α=>l.length<=maxLen/\∀a∈l,ok a) (λl=>[.imm sz l.length λi=>enc (l.getD i default)]):=by
 intro H en w base held m cs x h;rcases Deep.open_slice ht h with ⟨rfl,_⟩|⟨a,len,cap,m,n',D',Pl,rfl,hb,hl,hm,lz,_,hel⟩
 ·refine⟨[],⟨by simp,by simp⟩,rfl,λj hj=>?_⟩;obtain rfl:j=0:=by simpa using hj
  exact .imm _ _ _ _ _ 0 0 (λ_ _=>Go.undef) (λh=>by simp at h) (by simp) (λi hi=>by simp at hi) (λi j hi=>by simp at hi) (λi j hi=>by simp at hi)
 ·simp only[K6]at lz;have key:∀i,∃ac:α × List Value,i<len->ok ac.1/\(enc ac.1).length=sz/\ac.2.length=sz/\(∀j,j<sz->w.cell? (a.add (i*sz+j))=some (Zb ac.2 j))/\∀j,j<sz->Cl (λ_=>True) w (nth (enc ac.1) j) (Zb ac.2 j):=λi=>by
   by_cases hi:i<len
   ·obtain⟨cs',h1,h2⟩:=hel i (by omega);obtain⟨x,hx,kF,lD⟩:=r n' cs' _ h2;obtain⟨_,hlen,Ek⟩:=World.cells?_some h1;have Jx:cs'.length=sz:=by omega
    refine⟨(x,cs'),λ_=>⟨hx,(by show (enc x).length=sz;omega),Jx,λj hj=>?_,λj hj=>lD j (by omega)⟩⟩;have:=Ek j (by omega);rw[Deep.add_add,hc]at this;rw[this];simp[Zb,Ze,QW (show j<cs'.length by omega)]
   ·exact⟨(default,[]),λh=>absurd h hi⟩
  obtain⟨f,hf⟩:=Classical.axiomOfChoice key;have hlen:((List.range len).map λi=>(f i).1).length=len:=by simp
  have qQ:∀i,i<len->((List.range len).map λi=>(f i).1).getD i default=(f i).1:=λi hi=>by simp[Ze,hi]
  refine⟨(List.range len).map λi=>(f i).1,⟨by rw[hlen];omega,λx hx=>?_⟩,rfl,λj hj=>?_⟩
  ·obtain⟨i,hi,rfl⟩:=Jk.1 hx;exact(hf i (Tu.1 hi)).1
  ·obtain rfl:j=0:=by simpa using hj
   show Cl _ w (.imm sz ((List.range len).map λi=>(f i).1).length λi=>enc (((List.range len).map λi=>(f i).1).getD i default)) (.slice (some a) len cap);rw[hlen];have Qil:0<len->a=⟨a.block,a.off,none⟩:=λh0=>by
    have h1:=(hf 0 h0).2.2.2.1 0 qk;have h2:=World.cell?_spot h1;obtain⟨b,o,sp⟩:=a;simp[Addr.add]at h2;subst h2;rfl
   refine .imm _ _ _ _ _ a.block a.off (λi j=>Zb (f i).2 j) (λh0=>by rw[<- Qil h0]) hl (λi hi=>?_) (λi j hi hj=>⟨trivial,?_⟩) (λi j hi hj=>?_)
   ·rw[qQ i hi];exact(hf i hi).2.1
   ·have h1:=(hf i hi).2.2.2.1 j hj;rw[Qil (by omega)]at h1;rw[<- h1];congr 1;simp only[Addr.add];split<;>simp_all
   ·rw[qQ i hi];exact(hf i hi).2.2.2.2 j hj
def Rd.one{P:Program}{t:TypeId}{α:Type}{ok:α->Prop}{enc:α->D}(r:Rd P t ok λa=>[enc a]){H:Type}{en:TypeId × Value->H}{w:World}{base:Nat}{held:Bool}{v:Value}{d:DataW H}{ps:List MemPlace}
  (h:DataW.Trod en P w base (λ_=>true) held t v d ps) (hv:v.cells.toList=[v]):∃a,ok a/\Cl (λ_=>True) w (enc a) v:=by
 obtain⟨m,hm⟩:=h;rw[hv]at hm;obtain⟨a,h1,h2,h3⟩:=r m _ _ hm;exact⟨a,h1,h3 0 (by simp)⟩
def Rd.many{P:Program}{t:TypeId}{α:Type}{ok:α->Prop}{enc:α->List D}(r:Rd P t ok enc){H:Type}{en:TypeId × Value->H}{w:World}{base:Nat}{held:Bool}{cs:Array Value}{d:DataW H}{ps:List MemPlace}
  (h:DataW.Trod en P w base (λ_=>true) held t (.agg cs) d ps):∃a,ok a/\Cl (λ_=>True) w (.agg (enc a)) (.agg cs):=by
 obtain⟨m,hm⟩:=h;have e:(Value.agg cs).cells.toList=cs.toList:=rfl;rw[e]at hm;obtain⟨a,h1,h2,h3⟩:=r m _ _ hm;have:=Cl.agg (N:=λ_=>True) (w:=w) (enc a) cs.toList h2.symm (λi hi=>h3 i (by omega));exact⟨a,h1,by simpa using this⟩
def tM(k)(n:Int):(Value.int k n).cells.toList=[Value.int k n]:=by simp[Value.cells]
def P4{P}{f}{ds:List D}(h:Q4 P f ds λd h=>d=.raw (.bool true)/\h=[])(W)(vs:List Value)(hl:vs.length=ds.length)(hc:∀i,i<ds.length->Cl (λ_=>True) W (nth ds i) (Zb vs i)):
  Calls P f vs.toArray W λe W'=>e=.returned (.bool true)/\Below W.heap.size W W':=by
 refine(h (λ_=>True) W.heap.size W [] vs (QB _) (λ_ _=>trivial) ⟨rfl,λl l' b q q' e=>by simp at e,λl o e=>by simp at e,λl o b q e=>by simp at e⟩ hl (λi hi=>.cl _ _ ((hc i hi).mono λb _ _=>⟨⟨trivial,λl q e=>by simp at e⟩,rfl⟩))).mono λe W' he=>?_;obtain⟨v,d,h',Qm,rfl,⟨rfl,rfl⟩,_,hv,_,hb⟩:=he;rw[JG hv];exact⟨rfl,hb⟩
end Go.Fg
namespace Go.Fg.X
open Go.Proofs Go.Fg
open Go.Proofs.Tryz
def lF(k:IntKind)(l:List Int):Nat->List D:=λi=>[.raw (.int k (l.getD i 0))]
@[go_sem] theorem Qwp(k)(l:List Int)(i):lF k l i=[.raw (.int k (l.getD i 0))]:=rfl
structure Cf where
 t:Int
 JK:Int
instance:Inhabited Cf:=⟨⟨0,0⟩⟩
@[go_sem] def Cf.cells(x:Cf):List D:=[.raw (.int .i64 x.t),.raw (.int .i64 x.JK)]
def Cf.rows(l:List Cf):Nat->List D:=λi=>(l.getD i default).cells
@[go_sem] theorem Cf.yn(l:List Cf)(i):Cf.rows l i=(l.getD i default).cells:=rfl
def Cf.Ok(x:Cf):Prop:=(Lit.int .i64 x.t).wf=true/\(Lit.int .i64 x.JK).wf=true/\True
def Qwq:Rd prog 23 Cf.Ok Cf.cells:=
 Rd.map (Rd.struct (Jz:=2) underlying23 (by kernel_rfl) (KV.cons (Rd.int .i64 underlying3) (KV.cons (Rd.int .i64 underlying3) KV.nil rfl (by kernel_rfl) (by decide)) rfl (by kernel_rfl) (by decide))) (λp=>⟨p.1,p.2.1⟩) (λ_=>rfl) (λ_ h=>⟨h.1,h.2.1,trivial⟩)
structure Cv where
 m1:Int
 d:Int
 m2:Int
instance:Inhabited Cv:=⟨⟨0,0,0⟩⟩
@[go_sem] def Cv.cells(x:Cv):List D:=[.raw (.int .u64 x.m1),.raw (.int .u64 x.d),.raw (.int .u64 x.m2)]
def Cv.rows(l:List Cv):Nat->List D:=λi=>(l.getD i default).cells
@[go_sem] theorem Cv.yn(l:List Cv)(i):Cv.rows l i=(l.getD i default).cells:=rfl
def Cv.Ok(x:Cv):Prop:=(Lit.int .u64 x.m1).wf=true/\(Lit.int .u64 x.d).wf=true/\(Lit.int .u64 x.m2).wf=true/\True
def tN:Rd prog 87 Cv.Ok Cv.cells:=
 Rd.map (Rd.struct (Jz:=3) underlying87 (by kernel_rfl) (KV.cons (Rd.int .u64 underlying38) (KV.cons (Rd.int .u64 underlying38) (KV.cons (Rd.int .u64 underlying38) KV.nil rfl (by kernel_rfl) (by decide)) rfl (by kernel_rfl) (by decide)) rfl (by kernel_rfl) (by decide))) (λp=>⟨p.1,p.2.1,p.2.2.1⟩) (λ_=>rfl) (λ_ h=>⟨h.1,h.2.1,h.2.2.1,trivial⟩)
structure Pk where
 iD:Int
 len:Int
 yo:Int
 yp:Int
 yq:Int
 yr:Int
instance:Inhabited Pk:=⟨⟨0,0,0,0,0,0⟩⟩
@[go_sem] def Pk.cells(x:Pk):List D:=[.raw (.int .u64 x.iD),.raw (.int .i64 x.len),.raw (.int .u16 x.yo),.raw (.int .u16 x.yp),.raw (.int .u16 x.yq),.raw (.int .u16 x.yr)]
def Pk.rows(l:List Pk):Nat->List D:=λi=>(l.getD i default).cells
@[go_sem] theorem Pk.yn(l:List Pk)(i):Pk.rows l i=(l.getD i default).cells:=rfl
def Pk.Ok(x:Pk):Prop:=(Lit.int .u64 x.iD).wf=true/\(Lit.int .i64 x.len).wf=true/\(Lit.int .u16 x.yo).wf=true/\(Lit.int .u16 x.yp).wf=true/\(Lit.int .u16 x.yq).wf=true/\(Lit.int .u16 x.yr).wf=true/\True
def Qwr:Rd prog 43 Pk.Ok Pk.cells:=
 Rd.map (Rd.struct (Jz:=6) underlying43 (by kernel_rfl) (KV.cons (Rd.int .u64 underlying38) (KV.cons (Rd.int .i64 underlying3) (KV.cons (Rd.array underlying41 (by kernel_rfl) (qW.cons (by decide) (Rd.int .u16 underlying39) (qW.cons (by decide) (Rd.int .u16 underlying39) (qW.cons (by decide) (Rd.int .u16 underlying39) (qW.cons (by decide) (Rd.int .u16 underlying39) qW.nil))))) KV.nil rfl (by kernel_rfl) (by decide)) rfl (by kernel_rfl) (by decide)) rfl (by kernel_rfl) (by decide))) (λp=>⟨p.1,p.2.1,p.2.2.1.1,p.2.2.1.2.1,p.2.2.1.2.2.1,p.2.2.1.2.2.2.1⟩) (λ_=>rfl) (λ_ h=>⟨h.1,h.2.1,h.2.2.1.1,h.2.2.1.2.1,h.2.2.1.2.2.1,h.2.2.1.2.2.2.1,trivial⟩)
structure Qw where
 iD:Int
 parent:Int
 leaf:Bool
 rt:Cv
 ls:Cv
 ul:Cv
 Z5:Int
 bytes:Int
instance:Inhabited Qw:=⟨⟨0,0,false,default,default,default,0,0⟩⟩
@[go_sem] def Qw.cells(x:Qw):List D:=[.raw (.int .i64 x.iD),.raw (.int .i64 x.parent),.raw (.bool x.leaf),.raw (.int .u64 x.rt.m1),.raw (.int .u64 x.rt.d),.raw (.int .u64 x.rt.m2),.raw (.int .u64 x.ls.m1),.raw (.int .u64 x.ls.d),.raw (.int .u64 x.ls.m2),.raw (.int .u64 x.ul.m1),.raw (.int .u64 x.ul.d),.raw (.int .u64 x.ul.m2),.raw (.int .i64 x.Z5),.raw (.int .i64 x.bytes)]
def Qw.rows(l:List Qw):Nat->List D:=λi=>(l.getD i default).cells
@[go_sem] theorem Qw.yn(l:List Qw)(i):Qw.rows l i=(l.getD i default).cells:=rfl
def Qw.Ok(x:Qw):Prop:=(Lit.int .i64 x.iD).wf=true/\(Lit.int .i64 x.parent).wf=true/\True/\Cv.Ok x.rt/\Cv.Ok x.ls/\Cv.Ok x.ul/\(Lit.int .i64 x.Z5).wf=true/\(Lit.int .i64 x.bytes).wf=true/\True
def Qws:Rd prog 89 Qw.Ok Qw.cells:=
 Rd.map (Rd.struct (Jz:=14) underlying89 (by kernel_rfl) (KV.cons (Rd.int .i64 underlying3) (KV.cons (Rd.int .i64 underlying3) (KV.cons (Rd.bool underlying4) (KV.cons tN (KV.cons tN (KV.cons tN (KV.cons (Rd.int .i64 underlying3) (KV.cons (Rd.int .i64 underlying3) KV.nil rfl (by kernel_rfl) (by decide)) rfl (by kernel_rfl) (by decide)) rfl (by kernel_rfl) (by decide)) rfl (by kernel_rfl) (by decide)) rfl (by kernel_rfl) (by decide)) rfl (by kernel_rfl) (by decide)) rfl (by kernel_rfl) (by decide)) rfl (by kernel_rfl) (by decide))) (λp=>⟨p.1,p.2.1,p.2.2.1,p.2.2.2.1,p.2.2.2.2.1,p.2.2.2.2.2.1,p.2.2.2.2.2.2.1,p.2.2.2.2.2.2.2.1⟩) (λ_=>rfl) (λ_ h=>⟨h.1,h.2.1,h.2.2.1,h.2.2.2.1,h.2.2.2.2.1,h.2.2.2.2.2.1,h.2.2.2.2.2.2.1,h.2.2.2.2.2.2.2.1,trivial⟩)
structure JH where
 kind:Int
 cls:Qw
instance:Inhabited JH:=⟨⟨0,default⟩⟩
@[go_sem] def JH.cells(x:JH):List D:=[.raw (.int .i64 x.kind),.raw (.int .i64 x.cls.iD),.raw (.int .i64 x.cls.parent),.raw (.bool x.cls.leaf),.raw (.int .u64 x.cls.rt.m1),.raw (.int .u64 x.cls.rt.d),.raw (.int .u64 x.cls.rt.m2),.raw (.int .u64 x.cls.ls.m1),.raw (.int .u64 x.cls.ls.d),.raw (.int .u64 x.cls.ls.m2),.raw (.int .u64 x.cls.ul.m1),.raw (.int .u64 x.cls.ul.d),.raw (.int .u64 x.cls.ul.m2),.raw (.int .i64 x.cls.Z5),.raw (.int .i64 x.cls.bytes)]
def JH.rows(l:List JH):Nat->List D:=λi=>(l.getD i default).cells
@[go_sem] theorem JH.yn(l:List JH)(i):JH.rows l i=(l.getD i default).cells:=rfl
def JH.Ok(x:JH):Prop:=(Lit.int .i64 x.kind).wf=true/\Qw.Ok x.cls/\True
def Qwt:Rd prog 184 JH.Ok JH.cells:=
 Rd.map (Rd.struct (Jz:=15) underlying184 (by kernel_rfl) (KV.cons (Rd.int .i64 underlying3) (KV.cons Qws KV.nil rfl (by kernel_rfl) (by decide)) rfl (by kernel_rfl) (by decide))) (λp=>⟨p.1,p.2.1⟩) (λ_=>rfl) (λ_ h=>⟨h.1,h.2.1,trivial⟩)
structure JU where
 BG:Int
 BH:Int
 Gq:Int
 EN:Int
 Nh:Int
 Ni:Int
 Nj:Int
 Gr:Int
 cls:Int
instance:Inhabited JU:=⟨⟨0,0,0,0,0,0,0,0,0⟩⟩
@[go_sem] def JU.cells(x:JU):List D:=[.raw (.int .u16 x.BG),.raw (.int .u16 x.BH),.raw (.int .u16 x.Gq),.raw (.int .u16 x.EN),.raw (.int .u16 x.Nh),.raw (.int .u16 x.Ni),.raw (.int .u16 x.Nj),.raw (.int .u16 x.Gr),.raw (.int .i64 x.cls)]
def JU.rows(l:List JU):Nat->List D:=λi=>(l.getD i default).cells
@[go_sem] theorem JU.yn(l:List JU)(i):JU.rows l i=(l.getD i default).cells:=rfl
def JU.Ok(x:JU):Prop:=(Lit.int .u16 x.BG).wf=true/\(Lit.int .u16 x.BH).wf=true/\(Lit.int .u16 x.Gq).wf=true/\(Lit.int .u16 x.EN).wf=true/\(Lit.int .u16 x.Nh).wf=true/\(Lit.int .u16 x.Ni).wf=true/\(Lit.int .u16 x.Nj).wf=true/\(Lit.int .u16 x.Gr).wf=true/\(Lit.int .i64 x.cls).wf=true/\True
def Qwu:Rd prog 75 JU.Ok JU.cells:=
 Rd.map (Rd.struct (Jz:=9) underlying75 (by kernel_rfl) (KV.cons (Rd.array underlying41 (by kernel_rfl) (qW.cons (by decide) (Rd.int .u16 underlying39) (qW.cons (by decide) (Rd.int .u16 underlying39) (qW.cons (by decide) (Rd.int .u16 underlying39) (qW.cons (by decide) (Rd.int .u16 underlying39) qW.nil))))) (KV.cons (Rd.array underlying41 (by kernel_rfl) (qW.cons (by decide) (Rd.int .u16 underlying39) (qW.cons (by decide) (Rd.int .u16 underlying39) (qW.cons (by decide) (Rd.int .u16 underlying39) (qW.cons (by decide) (Rd.int .u16 underlying39) qW.nil))))) (KV.cons (Rd.int .i64 underlying3) KV.nil rfl (by kernel_rfl) (by decide)) rfl (by kernel_rfl) (by decide)) rfl (by kernel_rfl) (by decide))) (λp=>⟨p.1.1,p.1.2.1,p.1.2.2.1,p.1.2.2.2.1,p.2.1.1,p.2.1.2.1,p.2.1.2.2.1,p.2.1.2.2.2.1,p.2.2.1⟩) (λ_=>rfl) (λ_ h=>⟨h.1.1,h.1.2.1,h.1.2.2.1,h.1.2.2.2.1,h.2.1.1,h.2.1.2.1,h.2.1.2.2.1,h.2.1.2.2.2.1,h.2.2.1,trivial⟩)
structure QZ where
 kind:Int
 changes:(List JH)
 rules:(List JU)
 Zw:Pk
 Jn:Int
instance:Inhabited QZ:=⟨⟨0,[],[],default,0⟩⟩
@[go_sem] def QZ.cells(x:QZ):List D:=[.raw (.int .i64 x.kind),.imm 15 x.changes.length (JH.rows x.changes),.imm 9 x.rules.length (JU.rows x.rules),.raw (.int .u64 x.Zw.iD),.raw (.int .i64 x.Zw.len),.raw (.int .u16 x.Zw.yo),.raw (.int .u16 x.Zw.yp),.raw (.int .u16 x.Zw.yq),.raw (.int .u16 x.Zw.yr),.raw (.int .u64 x.Jn)]
def QZ.rows(l:List QZ):Nat->List D:=λi=>(l.getD i default).cells
@[go_sem] theorem QZ.yn(l:List QZ)(i):QZ.rows l i=(l.getD i default).cells:=rfl
def QZ.Ok(x:QZ):Prop:=(Lit.int .i64 x.kind).wf=true/\(x.changes.length<=maxLen/\∀a∈x.changes,JH.Ok a)/\(x.rules.length<=maxLen/\∀a∈x.rules,JU.Ok a)/\Pk.Ok x.Zw/\(Lit.int .u64 x.Jn).wf=true/\True
def Qim:Rd prog 45 QZ.Ok QZ.cells:=
 Rd.map (Rd.struct (Jz:=10) underlying45 (by kernel_rfl) (KV.cons (Rd.int .i64 underlying3) (KV.cons (Rd.slice 15 underlying36 (by kernel_rfl) (by decide) Qwt) (KV.cons (Rd.slice 9 underlying37 (by kernel_rfl) (by decide) Qwu) (KV.cons Qwr (KV.cons (Rd.int .u64 underlying38) KV.nil rfl (by kernel_rfl) (by decide)) rfl (by kernel_rfl) (by decide)) rfl (by kernel_rfl) (by decide)) rfl (by kernel_rfl) (by decide)) rfl (by kernel_rfl) (by decide))) (λp=>⟨p.1,p.2.1,p.2.2.1,p.2.2.2.1,p.2.2.2.2.1⟩) (λ_=>rfl) (λ_ h=>⟨h.1,h.2.1,h.2.2.1,h.2.2.2.1,h.2.2.2.2.1,trivial⟩)
structure KW where
 config:Cf
 ops:(List QZ)
instance:Inhabited KW:=⟨⟨default,[]⟩⟩
@[go_sem] def KW.cells(x:KW):List D:=[.raw (.int .i64 x.config.t),.raw (.int .i64 x.config.JK),.imm 10 x.ops.length (QZ.rows x.ops)]
def KW.rows(l:List KW):Nat->List D:=λi=>(l.getD i default).cells
@[go_sem] theorem KW.yn(l:List KW)(i):KW.rows l i=(l.getD i default).cells:=rfl
def KW.Ok(x:KW):Prop:=Cf.Ok x.config/\(x.ops.length<=maxLen/\∀a∈x.ops,QZ.Ok a)/\True
def P5:Rd prog 26 KW.Ok KW.cells:=
 Rd.map (Rd.struct (Jz:=3) underlying26 (by kernel_rfl) (KV.cons Qwq (KV.cons (Rd.slice 10 underlying24 (by kernel_rfl) (by decide) Qim) KV.nil rfl (by kernel_rfl) (by decide)) rfl (by kernel_rfl) (by decide))) (λp=>⟨p.1,p.2.1⟩) (λ_=>rfl) (λ_ h=>⟨h.1,h.2.1,trivial⟩)
@[go_sem] def Qb(n:Int):D:=.raw (.int .i64 n)
@[go_sem] def QJ(b:Bool):D:=.raw (.bool b)
@[go_sem] def ints(l:List Int):D:=.imm 1 l.length (lF .i64 l)
structure Ev where
 op:Int
 J4:Bool
 real:Bool
 at_:Int
 done:Int
 cls:Int
 id:Int
 len:Int
 h0:Int
 h1:Int
 h2:Int
 h3:Int
instance:Inhabited Ev:=⟨⟨0,false,false,0,0,0,0,0,0,0,0,0⟩⟩
@[go_sem] def Ev.cells(e:Ev):List D:=[.raw (.int .i64 e.op),.raw (.bool e.J4),.raw (.bool e.real),.raw (.int .u64 e.at_),.raw (.int .u64 e.done),.raw (.int .i64 e.cls),.raw (.int .u64 e.id),.raw (.int .i64 e.len),.raw (.int .u16 e.h0),.raw (.int .u16 e.h1),.raw (.int .u16 e.h2),.raw (.int .u16 e.h3)]
def Ev.Ok(x:Ev):Prop:=(Lit.int .i64 x.op).wf=true/\(Lit.int .u64 x.at_).wf=true/\(Lit.int .u64 x.done).wf=true/\(Lit.int .i64 x.cls).wf=true/\(Lit.int .u64 x.id).wf=true/\(Lit.int .i64 x.len).wf=true/\(Lit.int .u16 x.h0).wf=true/\(Lit.int .u16 x.h1).wf=true/\(Lit.int .u16 x.h2).wf=true/\(Lit.int .u16 x.h3).wf=true
def Ev.rows(l:List Ev):Nat->List D:=λi=>(l.getD i default).cells
@[go_sem] theorem Ev.yn(l:List Ev)(i):Ev.rows l i=(l.getD i default).cells:=rfl
@[go_sem] def Kv(l:List Ev):D:=.imm 12 l.length (Ev.rows l)
def wrap64{n}(h1:-9223372036854775808<=n)(h2:n<=9223372036854775807):IntKind.i64.wrap n=n:=by
 rw[IntKind.wrap_i64];omega
def JX{k:Nat}(h:k<4611686018427387904):IntKind.i64.wrap ((k:Int)+1)=((k+1:Nat):Int):=by
 rw[wrap64 (by omega) (by omega)];rfl
def bz{n:Nat}(h:n=0):((n:Int)==0)=true:=by simp[h]
def tO{n:Nat}(h:n≠0):((n:Int)==0)=false:=by simp[h]
def dp{n:Nat}(h:n≠0):decide ((0:Int)<n)=true:=by simp;omega
def dnp{n:Nat}(h:n=0):decide ((0:Int)<n)=false:=by simp[h]
def Qn(d:D):D->List Ob->Prop:=λd' h=>d'=d/\h=[]
attribute [go_sem] Qn
def Qn.flat{d:D}(hd:d.flat=true):∀d' h,Qn d d' h->d'.flat=true/\∀o∈h,o.flat:=by
 rintro d' h ⟨rfl,rfl⟩;exact⟨hd,by simp⟩
def getD_take{α:Type}(l:List α)(d:α)(k)(h:k<l.length):l.take (k+1)=l.take k++[l.getD k d]:=by
 rw[Ed,QW h];simp[Ze,QW h]
def mixed:prog.follows .mixedOrders=true:=by kernel_rfl
def getD_map{α β:Type}(f:α->β)(l:List α)(d:α)(e:β)(i)(h:i<l.length):(l.map f).getD i e=f (l.getD i d):=by simp[Ze,h]
def WI{α:Type}(l:List α)(d:α)(i)(h:i<l.length):l.getD i d∈l:=by simp[Ze,h]
def wf_u64{n:Int}(h:(Lit.int .u64 n).wf=true):0<=n/\n<=18446744073709551615:=by
 simp only[Lit.wf,Z9,XM]at h;exact h
def wf_u16{n:Int}(h:(Lit.int .u16 n).wf=true):0<=n/\n<=65535:=by
 simp only[Lit.wf,Z9,XM]at h;exact h
def lG{n}(h1:0<=n)(h2:n<=18446744073709551615):IntKind.u64.wrap n=n:=by rw[IntKind.wrap_u64];omega
@[go_sem] theorem QKr:((0:Nat):Int)=0:=rfl
@[go_sem] theorem QKs:((1:Nat):Int)=1:=rfl
@[go_sem] theorem QKt:((2:Nat):Int)=2:=rfl
@[go_sem] theorem QKu:((3:Nat):Int)=3:=rfl
@[go_sem] theorem QKv:((4:Nat):Int)=4:=rfl
@[go_sem] theorem QKw:((5:Nat):Int)=5:=rfl
@[go_sem] theorem QKx:((6:Nat):Int)=6:=rfl
@[go_sem] theorem QKy:((7:Nat):Int)=7:=rfl
@[go_sem] theorem QKz:((8:Nat):Int)=8:=rfl
@[go_sem] theorem QKA:((9:Nat):Int)=9:=rfl
@[go_sem] theorem QKB:((10:Nat):Int)=10:=rfl
def Wg{a b:Int}(h:a=b):(a==b)=true:=by simp[h]
def J5{a b:Int}(h:a≠b):(a==b)=false:=by simp[h]
def tP{a b:Int}(h:a=b):(a != b)=false:=by simp[h]
end Go.Fg.X
namespace Go.Fg
def Qwv{P}{o:Oper}{a}{w}{K K'}{Q Q'}(hk:∀a w,K a w->K' a w)(hq:∀e a w,Q e a w->Q' e a w)(h:o.wp P a w K Q):o.wp P a w K' Q':=by
 unfold Oper.wp at *;generalize (execOp a.eval o).run P w=r at *;cases r with
 | ok x w'=>
  cases x<;>simp only[Oper.upon]at h ⊢<;>first|exact hk _ _ h|exact h|skip
  ·exact h.mono λe Ms he=>by
    cases e with
    | returned v=>exact hk _ _ he
    | panicked c=>exact hq _ _ _ he
    | outgrown=>obtain⟨a,w,h⟩:=he;exact⟨a,w,hq _ _ _ h⟩
  ·exact h.mono λv Ms he=>hk _ _ he
 | halt x w'=>cases x<;>first|exact h|exact hq _ _ _ h
def lH{P}{Q Q'}(hq:∀e a w,Q e a w->Q' e a w):∀(l:List (Oper × G)) (a:Act) (w:World),qn P Q l a w->qn P Q' l a w
 | [],a,w,h=>hq _ _ _ h
 | (o,g)::r,a,w,h=>by
  simp only[qn]at h ⊢;split at h
  ·rename_i hw;rw[Qf hw];exact Qwv (λa w=>lH hq r a w) hq h
  ·rename_i hw;rw[Qd hw];exact lH hq r _ _ h
section
variable {P:Program}{base nt:Nat}{w0:Start}{Q:Exit->St->Prop}{k:List Item}{s s1:St}
def UI(P:Program)(base nt:Nat)(w0:Start)(Q:Exit->St->Prop)(k:List Item)(s1:St):Exit->St->Prop
 | .normal,s=>Qp w0 s s1
 | e,s=>QA P base nt w0 Q k e s
@[go_sem] theorem QKC:UI P base nt w0 Q k s1 .normal s=Qp w0 s s1:=Vq rfl
@[go_sem] theorem QKD{j}:UI P base nt w0 Q k s1 (.exit j) s=QA P base nt w0 Q k (.exit j) s:=Vq rfl
@[go_sem] theorem QKE:UI P base nt w0 Q k s1 .ret s=QA P base nt w0 Q k .ret s:=Vq rfl
def tQ{x}{c}(s1)(h1:QA P base nt w0 (UI P base nt w0 Q (.code c::k) s1) [x] .normal s)(h2:QA P base nt w0 Q (.code c::k) .normal s1):QA P base nt w0 Q (x::.code c::k) .normal s:=by
 cases x with
 | code x=>
  simp only[QA]at h1;show A P base nt w0 x _ s;refine h1.mono λe s' he=>?_;cases e with
  | normal=>exact qS he h2
  | _=>exact he
 | ops l=>
  simp only[QA]at h1;show AG P base nt w0 l _ s;intro Z z pl a w r b;refine lH (λe a' w' ⟨s',Qm,hs,r',b'⟩=>⟨s',Qm,?_,r',b'⟩) _ _ _ (h1 Z z pl a w r b);cases e with
  | normal=>exact qS hs h2
  | _=>exact hs
 | inBlock id=>simp only[QA]at h1 ⊢;exact qS h1 h2
 | inScope=>simp only[QA]at h1 ⊢;exact qS h1 h2
def Dc{x}{c}(keep)(V){fr}{h}{rest}(hr:gZ fr keep=rest)
  (h1:QA P base nt w0 (UI P base nt w0 Q (.code c::k) ⟨V++rest,h⟩) [x] .normal ⟨fr,h⟩) (h2:QA P base nt w0 Q (.code c::k) .normal ⟨V++rest,h⟩):QA P base nt w0 Q (x::.code c::k) .normal ⟨fr,h⟩:=tQ _ h1 h2
@[go_sem] theorem QKF{X}:hx P base w0 Q X nt 0 k s=QA P base nt w0 Q k .normal s:=by cases k<;>exact Vq rfl
end
end Go.Fg
namespace Go.Fg.X
open Go.Proofs Go.Fg
open Go.Proofs.Tryz
@[go_sem] def tR(c:Cv):D:=.agg c.cells
@[go_sem] def Yy(c:Qw):D:=.agg c.cells
def Q7(c:Cv):Int:=if c.m1=0/\c.d=0/\c.m2=0 then 1 else if 4294967295<c.m1\/4294967295<c.m2\/1048576<c.d then 0 else if c.d=0/\c.m1=c.m2 then 2 else if 0<c.d/\c.m2<c.m1 then 3 else if 0<c.d/\c.m1=0/\0<c.m2 then 4 else 0
def lI(c):Q4 prog 142 [tR c] (Qn (Qb (Q7 c))):=by
 refine ZA 0 Qi 200 func142 rfl ntmps142 results142 rfl λbase w hb=>?_;simp only[go_sem]
 repeat' (first|((first|refine zE (λh=>?_) (λh=>?_)|refine zF (λh=>?_) (λh=>?_)|refine zG (λh=>?_) (λh=>?_)|refine XS (λh=>?_) (λh=>?_)|refine zH (λh=>?_) (λh=>?_)|refine zI (λh=>?_) (λh=>?_)|refine zJ (λh=>?_) (λh=>?_)|refine zD (λh=>?_) (λh=>?_))<;>(try simp only[go_sem]))|(refine And.intro (by omega) ?_;try simp only[go_sem]))
 all_goals (congr 2;(try simp only[Me,jO,Z9,vG,ne_eq]at *);unfold Q7;(repeat' split)<;>omega)
def tS(c):Q4 prog 141 [tR c] (Qn (QJ (Q7 c != 0))):=by
 refine ZA 0 Qi 200 func141 rfl ntmps141 results141 rfl λbase w hb=>?_;simp only[go_sem];refine ZW hb Gn rfl ?_ (lI c) (Qn.flat rfl) rfl λd h hR=>?_
 ·simp only[go_sem]
 obtain⟨rfl,rfl⟩:=hR;refine Qe hb ?_;simp only[go_sem]
def lJ(c):Q4 prog 117 [tR c] (Qn (QJ (decide (1<Q7 c)))):=by
 refine ZA 0 Qi 200 func117 rfl ntmps117 results117 rfl λbase w hb=>?_;simp only[go_sem];refine ZW hb Gn rfl ?_ (lI c) (Qn.flat rfl) rfl λd h hR=>?_
 ·simp only[go_sem]
 obtain⟨rfl,rfl⟩:=hR;refine Qe hb ?_;simp only[go_sem]
def Gt(c:Qw):Q4 prog 143 [Yy c] (Qn (QJ (decide (1<Q7 c.rt)))):=by
 refine ZA 0 Qi 200 func143 rfl ntmps143 results143 rfl λbase w hb=>?_;simp only[go_sem];refine ZW hb iT rfl ?_ (lJ c.rt) (Qn.flat rfl) rfl λd h hR=>?_
 ·simp only[go_sem]
 obtain⟨rfl,rfl⟩:=hR;refine Qe hb ?_;simp only[go_sem]
def v8(c:Qw):Q4 prog 63 [Yy c] (Qn (QJ (decide (1<Q7 c.ls)))):=by
 refine ZA 0 Qi 200 func63 rfl ntmps63 results63 rfl λbase w hb=>?_;simp only[go_sem];refine ZW hb iT rfl ?_ (lJ c.ls) (Qn.flat rfl) rfl λd h hR=>?_
 ·simp only[go_sem]
 obtain⟨rfl,rfl⟩:=hR;refine Qe hb ?_;simp only[go_sem]
def tT(c:Qw):Q4 prog 64 [Yy c] (Qn (QJ (decide (1<Q7 c.ul)))):=by
 refine ZA 0 Qi 200 func64 rfl ntmps64 results64 rfl λbase w hb=>?_;simp only[go_sem];refine ZW hb iT rfl ?_ (lJ c.ul) (Qn.flat rfl) rfl λd h hR=>?_
 ·simp only[go_sem]
 obtain⟨rfl,rfl⟩:=hR;refine Qe hb ?_;simp only[go_sem]
def BI(n a b:Int):Bool:=decide (a<=n)&&decide (n<=b)
def lK(n a b):Q4 prog 140 [Qb n,Qb a,Qb b] (Qn (QJ (BI n a b))):=by
 refine ZA 0 Qi 200 func140 rfl ntmps140 results140 rfl λbase w hb=>?_;simp only[go_sem];unfold BI;by_cases h:a<=n
 ·simp only[go_sem,h]
 ·simp only[go_sem,h]
def Gu(c:Qw):Bool:=BI c.iD 1 65536&&BI c.parent 0 65536&&!(c.parent==c.iD)
def Iz(c:Qw):Bool:=(Q7 c.rt != 0)&&((Q7 c.ls != 0)&&!(Q7 c.ls==4))&&((Q7 c.ul != 0)&&!(Q7 c.ul==4))
def xp(c:Qw):Bool:=BI c.Z5 1 64&&BI c.bytes 1 1048576&&(decide (1<Q7 c.rt) || decide (1<Q7 c.ls))
def EO(c:Qw):Bool:=c.Z5==0&&c.bytes==0&&!decide (1<Q7 c.rt)
def VP(c:Qw):Int:=if !Gu c then 1 else if !Iz c then 21 else if (c.leaf&&!xp c) || (!c.leaf&&!EO c) || (decide (1<Q7 c.ul)&&!decide (1<Q7 c.ls)) then 29 else 0
structure Qww (c:Qw) (k:Nat) (s:St):Prop where
 h0:0<k->Q7 c.rt≠0
 h1:1<k->Q7 c.ls≠0/\Q7 c.ls≠4
 h2:2<k->Q7 c.ul≠0/\Q7 c.ul≠4
 eq:s=⟨[(1,.ptr 0 0 0 0),(2,Qb 0),(30,.agg (c.rt.cells++(c.ls.cells++c.ul.cells))),(31,Qb k)],[⟨.one,0,14,1,λ_=>c.cells⟩]⟩
def Qiq(c):Q4 prog 85 [Yy c] (Qn (Qb (VP c))):=by
 refine ZA 0 Qi 200 func85 rfl ntmps85 results85 rfl λbase w hb=>?_;simp only[go_sem];refine ZW hb iW rfl ?_ (lK c.iD 1 65536) (Qn.flat rfl) rfl λd h hR=>?_
 ·simp only[go_sem]
 obtain⟨rfl,rfl⟩:=hR;refine Qe hb ?_;simp only[go_sem];cases KL:BI c.iD 1 65536
 ·have:VP c=1:=by simp[VP,Gu,KL]
  simp only[go_sem,this]
 ·simp only[go_sem];refine ZW hb iW rfl ?_ (lK c.parent 0 65536) (Qn.flat rfl) rfl λd h hR=>?_
  ·simp only[go_sem]
  obtain⟨rfl,rfl⟩:=hR;refine Qe hb ?_;simp only[go_sem];cases Jb:BI c.parent 0 65536
  ·have:VP c=1:=by simp[VP,Gu,KL,Jb]
   simp only[go_sem,this]
  ·simp only[go_sem];by_cases h3:c.parent=c.iD
   ·have:VP c=1:=by simp[VP,Gu,KL,Jb,h3]
    simp only[go_sem,Wg h3,this]
   ·simp only[go_sem,J5 h3];have Zg:Gu c=true:=by simp[Gu,KL,Jb,h3]
    have w1:IntKind.i64.wrap 1=1:=by decide
    have w2:IntKind.i64.wrap 2=2:=by decide
    have w3:IntKind.i64.wrap 3=3:=by decide
    refine Jg (Qww c) 3
     (s0:=⟨[(1,.ptr 0 0 0 0),(2,Qb 0),(30,.agg (c.rt.cells++(c.ls.cells++c.ul.cells))),(31,Qb 0)],[⟨.one,0,14,1,λ_=>c.cells⟩]⟩) (Qp.frame (by simp only[go_sem])) ⟨by omega,by omega,by omega,rfl⟩ ?_
    rintro k s hk ⟨g0,g1,g2,rfl⟩;obtain rfl|rfl|rfl|rfl:k=0\/k=1\/k=2\/k=3:=by omega
    ·refine Qe hb ?_;simp only[go_sem];refine ZW hb PY rfl ?_ (tS c.rt) (Qn.flat rfl) rfl λd h hR=>?_
     ·simp only[go_sem]
     obtain⟨rfl,rfl⟩:=hR;refine Qe hb ?_;simp only[go_sem];by_cases r0:Q7 c.rt=0
     ·have:VP c=21:=by simp[VP,Zg,Iz,r0]
      simp only[go_sem,Wg r0,bne,this,Go.undef]
     ·simp only[go_sem,J5 r0,bne,Go.undef];refine⟨_,Qp.to 1 ⟨?_,by simp only[go_sem],?_,?_⟩,⟨λ_=>r0,by omega,by omega,rfl⟩⟩<;>simp only[go_sem,w1,w2,w3]
    ·refine Qe hb ?_;simp only[go_sem];refine ZW hb PY rfl ?_ (tS c.ls) (Qn.flat rfl) rfl λd h hR=>?_
     ·simp only[go_sem]
     obtain⟨rfl,rfl⟩:=hR;refine Qe hb ?_;simp only[go_sem];by_cases r0:Q7 c.ls=0
     ·have:VP c=21:=by simp[VP,Zg,Iz,r0]
      simp only[go_sem,Wg r0,bne,this,Go.undef]
     ·simp only[go_sem,J5 r0,bne,Go.undef];refine ZW hb Gn rfl ?_ (lI c.ls) (Qn.flat rfl) rfl λd h hR=>?_
      ·simp only[go_sem]
      obtain⟨rfl,rfl⟩:=hR;refine Qe hb ?_;simp only[go_sem];by_cases r4:Q7 c.ls=4
      ·have:VP c=21:=by simp[VP,Zg,Iz,r4]
       simp only[go_sem,Wg r4,this,Go.undef]
      ·simp only[go_sem,J5 r4,Go.undef];refine⟨_,Qp.to 1 ⟨?_,by simp only[go_sem],?_,?_⟩,⟨λ_=>g0 (by omega),λ_=>⟨r0,r4⟩,by omega,rfl⟩⟩<;>simp only[go_sem,w1,w2,w3]
    ·refine Qe hb ?_;simp only[go_sem];refine ZW hb PY rfl ?_ (tS c.ul) (Qn.flat rfl) rfl λd h hR=>?_
     ·simp only[go_sem]
     obtain⟨rfl,rfl⟩:=hR;refine Qe hb ?_;simp only[go_sem];by_cases r0:Q7 c.ul=0
     ·have:VP c=21:=by simp[VP,Zg,Iz,r0]
      simp only[go_sem,Wg r0,bne,this,Go.undef]
     ·simp only[go_sem,J5 r0,bne,Go.undef];refine ZW hb Gn rfl ?_ (lI c.ul) (Qn.flat rfl) rfl λd h hR=>?_
      ·simp only[go_sem]
      obtain⟨rfl,rfl⟩:=hR;refine Qe hb ?_;simp only[go_sem];by_cases r4:Q7 c.ul=4
      ·have:VP c=21:=by simp[VP,Zg,Iz,r4]
       simp only[go_sem,Wg r4,this,Go.undef]
      ·simp only[go_sem,J5 r4,Go.undef];refine⟨_,Qp.to 1 ⟨?_,by simp only[go_sem],?_,?_⟩,⟨λ_=>g0 (by omega),λ_=>g1 (by omega),λ_=>⟨r0,r4⟩,rfl⟩⟩<;>simp only[go_sem,w1,w2,w3]
    ·have tU:Iz c=true:=by
      have a:=g0 (by omega);have b:=g1 (by omega);have d:=g2 (by omega);simp[Iz,a,b,d]
     clear g0 g1 g2;refine Qe hb ?_;simp only[go_sem];first|refine Yu ?_|skip
     refine Dc [1,2] [(5,QJ (xp c))] rfl ?_ ?_
     ·refine Qe hb ?_;simp only[go_sem];refine ZW hb iW rfl ?_ (lK c.Z5 1 64) (Qn.flat rfl) rfl λd h hR=>?_
      ·simp only[go_sem]
      obtain⟨rfl,rfl⟩:=hR;refine Qe hb ?_;simp only[go_sem];cases hp:BI c.Z5 1 64
      ·have e:xp c=false:=by simp[xp,hp]
       simp only[go_sem,Go.undef];exact Qp.to 1 (by (simp only[go_sem,e])<;>simp)
      ·simp only[go_sem,Go.undef];refine ZW hb iW rfl ?_ (lK c.bytes 1 1048576) (Qn.flat rfl) rfl λd h hR=>?_
       ·simp only[go_sem]
       obtain⟨rfl,rfl⟩:=hR;refine Qe hb ?_;simp only[go_sem];cases hq:BI c.bytes 1 1048576
       ·have e:xp c=false:=by simp[xp,hp,hq]
        simp only[go_sem,Go.undef];exact Qp.to 1 (by (simp only[go_sem,e])<;>simp)
       ·simp only[go_sem,Go.undef];refine ZW hb EL rfl ?_ (Gt c) (Qn.flat rfl) rfl λd h hR=>?_
        ·simp only[go_sem]
        obtain⟨rfl,rfl⟩:=hR;refine Qe hb ?_;simp only[go_sem];cases hr:decide (1<Q7 c.rt)
        ·simp only[go_sem,Go.undef];refine ZW hb vX rfl ?_ (v8 c) (Qn.flat rfl) rfl λd h hR=>?_
         ·simp only[go_sem]
         obtain⟨rfl,rfl⟩:=hR;refine Qe hb ?_;simp only[go_sem];have e:xp c=decide (1<Q7 c.ls):=by simp[xp,hp,hq,hr]
         exact Qp.to 1 (by (simp only[go_sem,e])<;>simp)
        ·have e:xp c=true:=by simp[xp,hp,hq,hr]
         simp only[go_sem,Go.undef];exact Qp.to 1 (by (simp only[go_sem,e])<;>simp)
     first|refine Yu ?_|skip
     refine Dc [1,2,5] [(6,QJ (EO c))] rfl ?_ ?_
     ·refine Qe hb ?_;simp only[go_sem];by_cases hp:c.Z5=0
      ·simp only[go_sem,Wg hp,Go.undef];by_cases hq:c.bytes=0
       ·simp only[go_sem,Wg hq,Go.undef];refine ZW hb EL rfl ?_ (Gt c) (Qn.flat rfl) rfl λd h hR=>?_
        ·simp only[go_sem]
        obtain⟨rfl,rfl⟩:=hR;refine Qe hb ?_;simp only[go_sem];have e:EO c=!decide (1<Q7 c.rt):=by simp[EO,hp,hq]
        exact Qp.to 1 (by (simp only[go_sem,e])<;>simp)
       ·have e:EO c=false:=by simp[EO,hp,hq]
        simp only[go_sem,J5 hq,Go.undef];exact Qp.to 1 (by (simp only[go_sem,e])<;>simp)
      ·have e:EO c=false:=by simp[EO,hp]
       simp only[go_sem,J5 hp,Go.undef];exact Qp.to 1 (by (simp only[go_sem,e])<;>simp)
     refine Qe hb ?_;simp only[go_sem];have hv:VP c=if (c.leaf&&!xp c) || (!c.leaf&&!EO c) || (decide (1<Q7 c.ul)&&!decide (1<Q7 c.ls)) then 29 else 0:=by simp[VP,Zg,tU]
     generalize xp c=lo at hv ⊢;generalize EO c=io at hv ⊢;cases hl:c.leaf<;>rw[hl]at hv
     ·cases io
      ·simp at hv;simp only[go_sem,Go.undef,hv]
      ·simp only[go_sem,Go.undef];refine ZW hb sV rfl ?_ (tT c) (Qn.flat rfl) rfl λd h hR=>?_
       ·simp only[go_sem,hl]
       obtain⟨rfl,rfl⟩:=hR;refine Qe hb ?_;simp only[go_sem,hl];cases hu:decide (1<Q7 c.ul)<;>rw[hu]at hv
       ·simp at hv;simp only[go_sem,Go.undef,hv]
       ·simp only[go_sem,Go.undef];refine ZW hb vX rfl ?_ (v8 c) (Qn.flat rfl) rfl λd h hR=>?_
        ·simp only[go_sem,hl]
        obtain⟨rfl,rfl⟩:=hR;refine Qe hb ?_;simp only[go_sem,hl];cases hs:decide (1<Q7 c.ls)<;>rw[hs]at hv<;>simp at hv<;>simp only[go_sem,Go.undef,hv]
     ·cases lo
      ·simp at hv;simp only[go_sem,Go.undef,hv]
      ·simp only[go_sem,Go.undef];refine ZW hb sV rfl ?_ (tT c) (Qn.flat rfl) rfl λd h hR=>?_
       ·simp only[go_sem,hl]
       obtain⟨rfl,rfl⟩:=hR;refine Qe hb ?_;simp only[go_sem,hl];cases hu:decide (1<Q7 c.ul)<;>rw[hu]at hv
       ·simp at hv;simp only[go_sem,Go.undef,hv]
       ·simp only[go_sem,Go.undef];refine ZW hb vX rfl ?_ (v8 c) (Qn.flat rfl) rfl λd h hR=>?_
        ·simp only[go_sem,hl]
        obtain⟨rfl,rfl⟩:=hR;refine Qe hb ?_;simp only[go_sem,hl];cases hs:decide (1<Q7 c.ls)<;>rw[hs]at hv<;>simp at hv<;>simp only[go_sem,Go.undef,hv]
def Cv.Nn(c:Cv):Prop:=0<=c.m1/\0<=c.d/\0<=c.m2
def Qw.Nn(c:Qw):Prop:=c.rt.Nn/\c.ls.Nn/\c.ul.Nn
end Go.Fg.X
namespace Go.Fg
open Go.RowKit (Below)
def P6(es:List ZU):Prop:=(es.map (·.b)).Pairwise (·<·)
def vN.Qir{Z}{h}{pl}{w}{q}{c}{es}{Q1}(E:vN Z h pl w q c es Q1):P6 es:=by
 unfold P6;rw[List.pairwise_iff_getElem];intro i j hi hj Vy;simp only[Kl]at hi hj;have hl:=E.len;obtain⟨_,_,h1,_⟩:=E.at_ i es[i] Q1[i] (QW hi) (QW (by omega));obtain⟨_,_,h2,_⟩:=E.at_ j es[j] Q1[j] (QW hj) (QW (by omega));have:=E.inc i j Q1[i] Q1[j] Vy (QW (by omega)) (QW (by omega));simp only[List.getElem_map];omega
def P6.nodup{es:List ZU}(B:P6 es):(es.map (·.b)).Nodup:=by
 unfold List.Nodup;exact List.Pairwise.imp (λh=>Nat.ne_of_lt h) B
def xq(es:List ZU)(seen:List Nat):Nat:=(es.filter λe=>!seen.contains e.b).length
def tV:∀{es:List ZU} {seen:List Nat} {e:ZU},e∈es->e.b ∉ seen->xq es (seen++[e.b])<xq es seen
 | [],_,_,h,_=>by simp at h
 | x::es,seen,e,h,hs=>by
  have le:∀es:List ZU,xq es (seen++[e.b])<=xq es seen:=λes=>by
   induction es with
   | nil=>exact QB _
   | cons y r ih=>
    simp only[xq,xS]at ih ⊢;by_cases h1:y.b∈seen<;>by_cases h2:y.b=e.b<;>simp_all<;>omega
  rcases QM.1 h with rfl|h
  ·have:=le es;simp only[xq,xS]at this ⊢
   simp_all
   omega
  ·have:=tV h hs;simp only[xq,xS]at this ⊢;by_cases h1:x.b∈seen<;>by_cases h2:x.b=e.b<;>simp_all<;>omega
section
variable {P:Program}{L:Jt}{base nt:Nat}{w0:Start}{Q:Exit->St->Prop}
def Qwx{Z:Nat->Prop}{s:St}{pl:List Pl}{a:Act}{w:World}(r:Rel Z base nt s pl a w){l c:Nat}{es:List ZU}{kd:Kd}{q:IntKind}(Jc:kd.ty=1)(Zt:s.h[l]? = some (Wr kd q c es)):P6 es:=by
 have hl:l<pl.length:=by rw[r.o.len];exact Kr Zt
 cases hp:pl[l] with
 | none=>
  have:=r.o.VM l _ Zt (by rw[QW hl,hp]);simp[Wr]at this
 | some bq=>
  obtain⟨b,p⟩:=bq;obtain⟨_,x⟩:=r.o.at_ l _ b p Zt (by rw[QW hl,hp]);obtain⟨_,Q1,_,E⟩:=fM Jc x;exact E.Qir
def Qis{c0:Code}{k:List Item}{s:St}{l c:Nat}{es:List ZU}{kd:Kd}{q:IntKind}(Jc:kd.ty=1)(Zt:s.h[l]? = some (Wr kd q c es))(hk:P6 es->QA P base nt w0 Q (.code c0::k) .normal s):QA P base nt w0 Q (.code c0::k) .normal s:=by
 simp only[QA]at hk ⊢;intro Z z pl a w r b;exact hk (Qwx r Jc Zt) Z z pl a w r b
def Qwy{o:Oper}{s}{x}(ho:o.op=.entry x){li l c}{es}{seen}{q}{kd}{e}
  (hx:Qt s.fr x=.mref li 0) (Xh:s.h[li]? = some (XO l c c (seen++[e.b]))) (Jc:kd.ty=1) (Zt:s.h[l]? = some (Wr kd q c es)) (he:e∈es):WE P base nt o s (.tup [.raw (.int q e.k),e.v]):=by
 intro Z pl a w r;have e1:=r.eval x;rw[hx]at e1;obtain⟨o',p,b,h1,h2,h3,h4,h5⟩:=HI e1;rw[Xh]at h1;cases h1;have h5:=h5 rfl;rw[h5]at h2;obtain⟨ZG,Ag⟩:=r.o.at_ li _ b 0 Xh h2;obtain⟨_,m,sn,hb,CJ,H9⟩:=QeQ Ag;have hv:a.eval x=.pointer (some ⟨b,0,none⟩):=h3.2;obtain⟨o2,p2,bm,k1,k2,k3,k4,k5⟩:=HI H9;rw[Zt]at k1;cases k1;have k5:=k5 rfl;rw[k5]at k2;have k3:=k3.2;rw[show (Wr kd q c es).kd.ty=1 from Jc]at k3;have k3:m=bm:=by simpa[TH] using k3
 subst k3;obtain⟨MK,rQ⟩:=r.o.at_ l _ m 0 Zt k2;obtain⟨_,Q1,Ia,E⟩:=fM Jc rQ;have hl:es.length=Q1.toList.length:=E.len;obtain⟨j,hj⟩:=HB he;have Qc:=(Xd.1 hj).1;obtain⟨d1,d2,d3,d4⟩:=E.at_ j e (Q1.toList[j]'(by omega)) hj (QW (by omega));have ZY:(Q1.toList.map (·.born)).Nodup:=by
  have:Q1.toList.map (·.born)=es.map (·.b):=by
   apply List.ext_getElem (by simp[hl]);intro i h1 h2;simp only[Kl]at h1 h2;obtain⟨_,_,g,_⟩:=E.at_ i (es[i]'(by omega)) (Q1.toList[i]'(by omega)) (QW (by omega)) (QW (by omega));simp only[List.getElem_map,g]
  rw[this];exact E.Qir.nodup
 have Qwz:sn=(seen.toArray).push (Q1.toList[j]'(by omega)).born:=by
  apply Array.toList_inj.1;rw[CJ,d3];simp
 have KR:=hb;rw[Qwz]at KR;refine⟨.tuple #[(Q1.toList[j]'(by omega)).key,(Q1.toList[j]'(by omega)).val],?_,λw' ew=>?_⟩
 ·rw[d1];exact .tup _ [.int q e.k,(Q1.toList[j]'(by omega)).val] rfl λi hi=>match i,hi with
   | 0,_=>.cl _ _ (.raw _)
   | 1,_=>d2
 ·have Zl:=run_entry_at (P:=P) w' b m c seen.toArray Q1 c (Q1.toList[j]'(by omega)) (by rw[ew b (vI KR)];exact KR) (by rw[ew m (vI Ia)];exact Ia) (qK _) ZY;simp[execOp,ho,hv,Zl]
def Qit{k}{dst}{ty:TypeId}{pos}{after}{gd}{r}{s}{x}{li l c}{es}{seen}{q}{kd}{e}
  (hx:Qt s.fr x=.mref li 0) (Xh:s.h[li]? = some (XO l c c (seen++[e.b]))) (Jc:kd.ty=1) (Zt:s.h[l]? = some (Wr kd q c es)) (he:e∈es) (ht:ZQ nt dst=true)
  (h1:QA P base nt w0 Q (.ops r::k) .normal ⟨ZC s.fr dst (.tup [.raw (.int q e.k),e.v]),s.h⟩) :
  QA P base nt w0 Q (.ops ((⟨dst,.entry x,ty,pos,after,gd⟩,none)::r)::k) .normal s:=by
 simp only[QA]at h1 ⊢;exact rV (Qwy rfl hx Xh Jc Zt he) ht h1
end
end Go.Fg
namespace Go.Fg
open Go.RowKit (Below)
open Go.Proofs Go.Shelf Go.Sort
def sorted(zs:List Int):List Int:=zs.mergeSort λx y=>decide (x<=y)
def IA(zs:List Int):(sorted zs).length=zs.length:=by simp[sorted]
def xr(off:Nat)(row:Nat->List D)(ts:List Int):Nat->List D:=λi=>if off<=i/\i<off+ts.length then [.raw (.int .i64 (ts.getD (i - off) 0))] else row i
variable {P:Program}{ρ:Ren}
def QwA{w:World}{b n o}{os}{cur}{e:TypeId}{fr}(d)(hb:w.heap[b]? = some (.cells cur e fr)):
  (grow (putRow (Value.int .i64) (Sort.ahead w n) b o d) os).heap[b]? = some (.cells (putCells (Value.int .i64) o d cur) e fr):=by
 have hg:b<w.heap.size:=(WN.1 hb).1;rw[heap_grow_old _ _ (by simpa using hg)];simp[putRow,mapBlock,Sort.ahead,pI,hb,onCells]
def QwB{w:World}{b n o}{os}(d):w.grownBy (grow (putRow (Value.int .i64) (Sort.ahead w n) b o d) os) (some b):=by
 refine⟨rfl,rfl,rfl,by simp,λk hk Qz=>?_⟩;rw[heap_grow_old _ _ (by simpa using hk)];have:b≠k:=λe=>Qz (by rw[e]);simp[putRow,mapBlock,Sort.ahead,pI,this]
def QwC(Ly:Lays.n189 P ρ){h:List Ob}{l g off N}{row}{zs:List Int}(ho:h[l]? = some ⟨.arr,g,1,N,row⟩)(hn:off+zs.length<=N)(hr:∀i,i<zs.length->row (off+i)=[.raw (.int .i64 (zs.getD i 0))])(hlen:zs.length<4611686018427387904):
  QK P (ρ.f 189) h [.ref l g off zs.length] (λd h'=>d=.tup []/\h'=h.set l ⟨.arr,g,1,N,xr off row (sorted zs)⟩):=by
 intro Z base w pl vs Zd hZ R xk hv;match vs,xk with
 | [v],_=>
 have r0:=hv 0 (by simp);obtain⟨o,p,a,cap,e1,h1,h2,h3,h4,h5⟩:=Cw r0;rw[ho]at h1;cases h1;have e1:v=.slice a zs.length cap:=e1;have yh:=h5 rfl;subst e1;have Qc:l<h.length:=Kr ho;by_cases h0:zs.length=0
 ·have hz:zs=[]:=Mj.1 h0;subst hz;refine(Any.slices_Sort_int_none Ly a cap w).mono ?_;rintro e w' ⟨rfl,rfl⟩;have hs:h.set l ⟨.arr,g,1,N,xr off row (sorted [])⟩=h:=by
   have:xr off row (sorted [])=row:=by
    funext i;have:¬ (off<=i/\i<off+(sorted []).length):=by rw[IA];simp
    unfold xr;rw[Qd this]
   rw[this];apply A9;intro i;by_cases hi:l=i
   ·subst hi;rw[Wm Qc,ho]
   ·rw[JJ hi]
  rw[hs];exact⟨_,.tup [],h,pl,rfl,⟨rfl,rfl⟩,R,.tup [] [] rfl (λi hi=>by simp at hi),Tr.refl _ _ _,.refl _ _⟩
 ·rcases yh with ⟨h6,_⟩|⟨b,q,c,el,rfl,rfl,hb,HT,ZP⟩
  ·exact absurd h6 h0
  ·obtain⟨Bi,Ag⟩:=R.at_ l _ b q ho h2;obtain⟨c',O8,KR,JW,Ku,ZH⟩:=Ag.cells rfl;rw[hb]at KR;cases KR;simp only[Nat.mul_one]at HT JW ZH ⊢;have Ek:∀i,i<zs.length->c[q+off+i]? = some (.int .i64 (zs.getD i 0)):=λi hi=>by
    obtain⟨u,hu,Es⟩:=ZH (off+i) 0 (by show off+i<N;omega) (by show 0<1;omega);have e2:(row (off+i))=_:=hr i hi;have Es:QE Z h pl w (nth (row (off+i)) 0) u:=Es;rw[e2]at Es;have:=JG Es;rw[show q+off+i=q+(off+i+0) by omega,hu,this]
   have hH:Holds (Value.int .i64) w b (q+off) zs.toArray:=by
    intro j hj;have WQ:j<zs.length:=by simpa using hj
    refine⟨?_,by simp[World.frozen?,hb]⟩;rw[World.cell?_of_block (w:=w) (w':=w) rfl];simp only[World.cell?,hb];simp only[xW,qa,jP];rw[Ek j WQ];simp[Ze,WQ]
   refine(Any.slices_Sort_int Ly b (q+off) cap zs w hH (vI hb) hlen).mono ?_;rintro e w' ⟨rfl,n,os,hw⟩;have hG:w.grownBy w' (some b):=by rw[hw];exact QwB _
   have Kb:w'.heap[b]? = some (.cells (putCells (Value.int .i64) (q+off) (sorted zs).toArray c) el (0,0)):=by rw[hw];exact QwA _ hb
   have JP:(putCells (Value.int .i64) (q+off) (sorted zs).toArray c).size=c.size:=by simp[putCells]
   have hold:∀k,k≠b->k<w.heap.size->w'.heap[k]? = w.heap[k]? := λk hk Qc=>hG.block k Qc (λe=>hk (by cases e;rfl));have QwD:base<=b:=Bi rfl;have hB:Below base w w':=(Below.refl base w).grown hG Zd (λk hk=>by cases hk;exact QwD);have T:=Tr.QX (w':=w') (o':=⟨.arr,g,1,N,xr off row (sorted zs)⟩) R ho h2 rfl rfl rfl hold (λc1 pP e1=>by rw[hb]at e1;cases e1;exact⟨_,Kb,JP⟩);have Ap:∀i,i<c.size->(putCells (Value.int .i64) (q+off) (sorted zs).toArray c)[i]? = if q+off<=i/\i<q+off+zs.length then some (.int .i64 ((sorted zs).getD (i - (q+off)) 0)) else c[i]? := λi hi=>by
    have hl:(sorted zs).toArray.size=zs.length:=by simp[IA]
    simp only[putCells,Array.getElem?_mapIdx,hl,kv hi,K0];split
    ·rename_i Xi;have:i - (q+off)<(sorted zs).length:=by rw[IA];omega
     simp[Ze,this]
    ·rfl
   refine⟨_,.tup [],_,pl,rfl,⟨rfl,rfl⟩,Zv.QX (w':=w') (o':=⟨.arr,g,1,N,xr off row (sorted zs)⟩) R ho h2 rfl rfl rfl rfl hold hb Kb JP (by rw[JP];simpa using JW) (λi hi=>?_) (λi j hi hj=>?_) rfl,.tup [] [] rfl (λi hi=>by simp at hi),T,hB⟩
   ·show (xr off row (sorted zs) i).length=1;unfold xr;split
    ·rfl
    ·exact Ku i hi
   ·have hi:i<N:=hi;have hj:j<1:=hj;have hj0:j=0:=by omega
    subst hj0;have hic:q+(i+0)<c.size:=by omega
    show ∃v,(putCells (Value.int .i64) (q+off) (sorted zs).toArray c)[q+(i*1+0)]? = some v/\QE Z _ pl w' (nth (xr off row (sorted zs) i) 0) v;rw[Nat.mul_one,Ap _ hic];have hsr:xr off row (sorted zs) i=if off<=i/\i<off+zs.length then [.raw (.int .i64 ((sorted zs).getD (i - off) 0))] else row i:=by unfold xr;rw[IA]
    rw[hsr];by_cases Xi:off<=i/\i<off+zs.length
    ·rw[Qf (by omega),Qf Xi];exact⟨_,rfl,by rw[show q+(i+0) - (q+off)=i - off by omega];exact .cl _ _ (.raw _)⟩
    ·rw[Qd (by omega),Qd Xi];obtain⟨u,hu,Es⟩:=ZH i 0 hi hj;exact⟨u,hu,Es.tr T⟩
end Go.Fg
namespace Go.Fg.X
open Go.Proofs Go.Fg
open Go.Proofs.Tryz
def QF(L:List Qw)(k:Int):Option Qw:=L.find? λc=>c.iD==k
def Wo(e:ZU):Int × D:=(e.k,e.v)
def qd(c:Qw):Int × D:=(c.iD,Yy c)
def XD(L:List Qw):Prop:=L.Pairwise λa b=>a.iD<b.iD
structure VW (es:List ZU) (L:List Qw):Prop where
 perm:(es.map Wo).Perm (L.map qd)
 sorted:XD L
def Qiu{α:Type}{f:α->Int}:∀{l:List α},(l.map f).Nodup->∀{x y:α},x∈l->y∈l->f x=f y->x=y
 | [],_,x,_,hx,_,_=>by simp at hx
 | a::l,hn,x,y,hx,hy,e=>by
  simp only[J7,Jf,Jk,FR,not_and]at hn;rcases QM.1 hx with h1|h1<;>rcases QM.1 hy with h2|h2
  ·rw[h1,h2]
  ·exact absurd (by rw[<- e,h1]) (hn.1 y h2)
  ·exact absurd (by rw[e,h2]) (hn.1 x h1)
  ·exact Qiu hn.2 h1 h2 e
def XD.nd{L:List Qw}(h:XD L):(L.map (·.iD)).Nodup:=by
 unfold List.Nodup;rw[Ml];exact List.Pairwise.imp (λh=>by omega) h
def VW.De{es}{L}(T:VW es L):Yt es:=by
 have h1:es.map (·.k)=(es.map Wo).map Prod.fst:=by simp[Wo,dW]
 have h2:(L.map qd).map Prod.fst=L.map (·.iD):=by simp[qd,dW]
 unfold Yt;rw[h1,(T.perm.map Prod.fst).nodup_iff,h2];exact T.sorted.nd
def tW:∀{es:List ZU},Yt es->∀{k:Int} {v:D},ZJ es k=some v↔(k,v)∈es.map Wo
 | [],_,k,v=>by simp[ZJ]
 | e::es,hn,k,v=>by
  have VQ:Yt es:=by unfold Yt at hn ⊢;simp only[J7,Jf]at hn;exact hn.2
  simp only[ZJ];by_cases h:e.k=k
  ·rw[Qf h];constructor
   ·rintro⟨rfl⟩;simp[Wo,h]
   ·intro hm;simp only[J7,QM]at hm;rcases hm with hm|hm
    ·simp only[Wo,Zp]at hm;rw[hm.2]
    ·exfalso;obtain⟨e',Xz,hh⟩:=Jk.1 hm;simp only[Wo,Zp]at hh;unfold Yt at hn;simp only[J7,Jf,Jk,FR,not_and]at hn;exact hn.1 e' Xz (by rw[hh.1,h])
  ·rw[Qd h,tW VQ];simp only[J7,QM];constructor
   ·exact λh=>.inr h
   ·rintro (hm|hm)
    ·simp only[Wo,Zp]at hm;exact absurd hm.1.symm h
    ·exact hm
def Vs{L}(h:XD L){k}{c:Qw}:QF L k=some c↔c∈L/\c.iD=k:=by
 constructor
 ·intro e;exact⟨wS e,by have:=y8 e;simpa using this⟩
 ·rintro⟨hm,rfl⟩;cases hf:QF L c.iD with
  | none=>
   have:=vE.1 hf c hm;simp at this
  | some d=>
   have h1:=wS hf;have h2:d.iD=c.iD:=by have:=y8 hf;simpa using this
   rw[Qiu h.nd h1 hm h2]
def IB{L}{k}:QF L k=none↔∀c∈L,c.iD≠k:=by
 simp[QF,vE]
def VW.look{es}{L}(T:VW es L)(k:Int):ZJ es k=(QF L k).map Yy:=by
 cases hf:QF L k with
 | some c=>
  obtain⟨h1,h2⟩:=(Vs T.sorted).1 hf;rw[K0,tW T.De,T.perm.mem_iff];exact Jk.2 ⟨c,h1,by simp[qd,h2]⟩
 | none=>
  rw[zq];cases ha:ZJ es k with
  | none=>rfl
  | some v=>
   rw[tW T.De,T.perm.mem_iff]at ha;obtain⟨c,hc,e⟩:=Jk.1 ha;simp only[qd,Zp]at e;exact absurd e.1 (IB.1 hf c hc)
def VW.len{es:List ZU}{L:List Qw}(T:VW es L):es.length=L.length:=by
 have:=T.perm.length_eq;simpa using this
def VW.nil:VW [] []:=⟨by simp,by simp[XD]⟩
def WJ:List Qw->Qw->List Qw
 | [],x=>[x]
 | c::r,x=>if x.iD<c.iD then x::c::r else if c.iD=x.iD then x::r else c::WJ r x
def XT(L:List Qw)(k:Int):List Qw:=L.filter λc=>c.iD != k
def UJ{α:Type}{p}{l:List α}(h:∀x∈l,p x=true):l.filter p=l:=y7.2 h
def Nk:∀{L:List Qw} (x:Qw),XD L->(WJ L x).Perm (x::XT L x.iD)
 | [],x,_=>by simp[WJ,XT]
 | c::r,x,h=>by
  have hr:XD r:=List.Pairwise.of_cons h;have hc:∀d∈r,c.iD<d.iD:=λd hd=>(Ct.1 h).1 d hd;simp only[WJ];by_cases h1:x.iD<c.iD
  ·rw[Qf h1];have:XT (c::r) x.iD=c::r:=UJ λd hd=>by
    rcases QM.1 hd with rfl|hd
    ·simp;omega
    ·have:=hc d hd;simp;omega
   rw[this]
  ·rw[Qd h1];by_cases h2:c.iD=x.iD
   ·rw[Qf h2];have e1:XT r x.iD=r:=UJ λd hd=>by have:=hc d hd;simp;omega
    have:XT (c::r) x.iD=r:=by unfold XT at e1 ⊢;rw[Tp (by simp[h2]),e1]
    rw[this]
   ·rw[Qd h2];have:XT (c::r) x.iD=c::XT r x.iD:=by unfold XT;rw[Tq (by simp[h2])]
    rw[this];exact((Nk x hr).cons c).trans (List.Perm.swap x c _)
def P7:∀{L:List Qw} (x:Qw),XD L->XD (WJ L x)
 | [],x,_=>by simp[WJ,XD]
 | c::r,x,h=>by
  have hr:XD r:=List.Pairwise.of_cons h;have hc:∀d∈r,c.iD<d.iD:=λd hd=>(Ct.1 h).1 d hd;simp only[WJ];by_cases h1:x.iD<c.iD
  ·rw[Qf h1];exact Ct.2 ⟨λd hd=>by
    rcases QM.1 hd with rfl|hd
    ·exact h1
    ·have:=hc d hd;omega,h⟩
  ·rw[Qd h1];by_cases h2:c.iD=x.iD
   ·rw[Qf h2];exact Ct.2 ⟨λd hd=>by have:=hc d hd;omega,hr⟩
   ·rw[Qd h2];refine Ct.2 ⟨λd hd=>?_,P7 x hr⟩;have:=(Nk x hr).mem_iff.1 hd;rcases QM.1 this with rfl|KN
    ·omega
    ·exact hc d (J8.1 KN).1
def tX{L}(k)(h:XD L):XD (XT L k):=ON _ h
def Qiv:∀{es:List ZU} (k:Int) (v:D),Yt es->(∃u,ZJ es k=some u)->((kG es k v).map Wo).Perm ((k,v)::(es.map Wo).filter λp=>p.1 != k)
 | [],k,v,_,h=>by simp[ZJ]at h
 | e::es,k,v,hn,h=>by
  have KX:=hn;unfold Yt at KX;simp only[J7,Jf,Jk,FR,not_and]at KX;simp only[kG];by_cases he:e.k=k
  ·rw[Qf he];have e1:(es.map Wo).filter (λp=>p.1 != k)=es.map Wo:=UJ λp hp=>by
    obtain⟨e',Xz,rfl⟩:=Jk.1 hp;have:=KX.1 e' Xz;simp[Wo];omega
   have:((e::es).map Wo).filter (λp=>p.1 != k)=es.map Wo:=by rw[J7,Tp (by simp[Wo,he]),e1]
   rw[this];simp[Wo]
  ·rw[Qd he];have h2:∃u,ZJ es k=some u:=by simpa only[ZJ,Qd he] using h
   have:((e::es).map Wo).filter (λp=>p.1 != k)=Wo e::(es.map Wo).filter (λp=>p.1 != k):=by rw[J7,Tq (by simp[Wo,he])]
   rw[this,J7];exact((Qiv k v KX.2 h2).cons _).trans (List.Perm.swap _ _ _)
def QwH{es}{L}(T:VW es L)(q)(c)(x:Qw):∃c' es',J2 q c es x.iD (Yy x)=QS q c' es'/\VW es' (WJ L x):=by
 have hp:((WJ L x).map qd).Perm ((x.iD,Yy x)::(L.map qd).filter λp=>p.1 != x.iD):=by
  have:=(Nk x T.sorted).map qd;rw[J7]at this;refine this.trans ?_;have:(L.map qd).filter (λp=>p.1 != x.iD)=(XT L x.iD).map qd:=by
   rw[Tt];rfl
  rw[this];exact OO _
 have hf:=T.perm.filter λp=>p.1 != x.iD;unfold J2;cases ha:ZJ es x.iD with
 | some u=>exact⟨c,_,rfl,⟨(Qiv x.iD (Yy x) T.De ⟨u,ha⟩).trans ((hf.cons _).trans hp.symm),P7 x T.sorted⟩⟩
 | none=>
  refine⟨c+1,_,rfl,⟨?_,P7 x T.sorted⟩⟩;have e1:(es.map Wo).filter (λp=>p.1 != x.iD)=es.map Wo:=UJ λp hp=>by
   obtain⟨e',Xz,rfl⟩:=Jk.1 hp;have:=(TY ha).1 e' Xz;simp[Wo];omega
  rw[e1]at hf;rw[jN];refine List.perm_append_comm.trans ?_;exact(hf.cons (x.iD,Yy x)).trans hp.symm
def Qiw:∀{es:List ZU} (k:Int),Yt es->((Kg es k).map Wo)=((es.map Wo).filter λp=>p.1 != k)
 | [],k,_=>rfl
 | e::es,k,hn=>by
  have KX:=hn;unfold Yt at KX;simp only[J7,Jf,Jk,FR,not_and]at KX;simp only[Kg];by_cases he:e.k=k
  ·rw[Qf he,J7,Tp (by simp[Wo,he])];exact(UJ λp hp=>by
    obtain⟨e',Xz,rfl⟩:=Jk.1 hp;have:=KX.1 e' Xz;simp[Wo];omega).symm
  ·rw[Qd he,J7,J7,Tq (by simp[Wo,he]),Qiw k KX.2]
def Qix{es}{L}(T:VW es L)(k):VW (Kg es k) (XT L k):=by
 refine⟨?_,tX k T.sorted⟩;rw[Qiw k T.De];have:(L.map qd).filter (λp=>p.1 != k)=(XT L k).map qd:=by rw[Tt];rfl
 rw[<- this];exact T.perm.filter _
def Qiy{zs ts:List Int}(h:zs.Perm ts)(hs:ts.Pairwise (·<·)):sorted zs=ts:=by
 refine List.Perm.eq_of_pairwise (le:=λa b=>a<=b) (λa b _ _ h1 h2=>by omega) ?_ (hs.imp (λh=>by omega)) ((List.mergeSort_perm _ _).trans h);have:=List.pairwise_mergeSort (le:=λx y:Int=>decide (x<=y)) (λa b c h1 h2=>by simp at *;omega) (λa b=>by simp;omega) zs;exact this.imp (λh=>by simpa using h)
section
variable (h:List Ob)(t m c:Nat){es:List ZU}{L:List Qw}(T:VW es L)
 (ht:(h.map Ob.ro)[t]? = some ⟨.Wn,0,1,1,λ_=>[.mref m 0]⟩) (hm:(h.map Ob.ro)[m]? = some (QS .i64 c es).ro)
include T ht hm
theorem Qiz(id:Int):QV prog 110 h [.ptr t 0 0 0,Qb id] (λd=>d=.tup [Yy ((QF L id).getD default),Qb (if (QF L id).isSome then 0 else 6)]):=by
 have hk:=T.look id;cases hf:QF L id with
 | none=>
  rw[hf,zq]at hk;refine Zq Qi 200 func110 rfl ntmps110 results110 rfl λbase w pl F hF Q3 hb=>?_;rw[<- hF]at ht hm;have ZD:=Qc ht;have QG:=Qc hm;simp only[go_sem,Qa,ht,ZD,hm,QG,hk];exact⟨_,rfl,rfl⟩
 | some x=>
  rw[hf,K0]at hk;refine Zq Qi 200 func110 rfl ntmps110 results110 rfl λbase w pl F hF Q3 hb=>?_;rw[<- hF]at ht hm;have ZD:=Qc ht;have QG:=Qc hm;simp only[go_sem,Qa,ht,ZD,hm,QG,hk];exact⟨_,rfl,rfl⟩
end
def Vt(F H:List Ob):Prop:=∃g,H=F++g
def Vt.refl(F):Vt F F:=⟨[],by simp⟩
def Vt.app{F H}(h:Vt F H)(g):Vt F (H++g):=by
 obtain⟨x,rfl⟩:=h;exact⟨x++g,by simp⟩
def Vt.set{F H:List Ob}(h:Vt F H){lo}(hl:F.length<=lo)(o):Vt F (H.set lo o):=by
 obtain⟨x,rfl⟩:=h;exact⟨x.set (lo - F.length) o,by rw[OR _ _ hl]⟩
def Vt.len{F H:List Ob}(h:Vt F H):F.length<=H.length:=by
 obtain⟨x,rfl⟩:=h;simp
def Vt.get{F H:List Ob}(h:Vt F H){l:Nat}{o:Ob}(e:F[l]? = some o):H[l]? = some o:=by
 obtain⟨x,rfl⟩:=h;rw[Qx (Qc e)];exact e
def Ky(n:Nat)(H:List Ob)(d:D)(L:List Int):Prop:=(d=.nil/\L=[])\/∃lo g off row,d=.ref lo g off L.length/\(n<=lo/\off=0)/\H[lo]? = some ⟨.arr,g,1,off+L.length,row⟩/\∀i,i<L.length->row (off+i)=[Qb (L.getD i 0)]
def Ky.app{n}{H}{d}{L}(h:Ky n H d L)(g):Ky n (H++g) d L:=by
 rcases h with h|⟨lo,gg,off,row,h1,h2,h3,h4⟩
 ·exact .inl h
 ·exact .inr ⟨lo,gg,off,row,h1,h2,by rw[Qx (Qc h3)];exact h3,h4⟩
def Ky.base{F h g:List Ob}{d}{L}(hl:F.length=h.length)(x:Ky F.length (F++g) d L):Ky h.length (h++g) d L:=by
 rcases x with x|⟨lo,gg,off,row,h1,h2,h3,h4⟩
 ·exact .inl x
 ·refine .inr ⟨lo,gg,off,row,h1,by omega,?_,h4⟩;rw[Kf (by omega)]at h3 ⊢;rw[<- hl];exact h3
def Ky.done{F h H:List Ob}{d}{L}(hl:F.length=h.length)(hx:Vt F H)(x:Ky F.length H d L):∃g,H=F++g/\Ky h.length (h++g) d L:=by
 obtain⟨g,rfl⟩:=hx;exact⟨g,rfl,x.base hl⟩
def No{dn:List Int}{off}{row}{v}(hr:∀i,i<dn.length->row (off+i)=[Qb (dn.getD i 0)]):∀i,i<(dn++[v]).length->J1 dn.length off row (λ_=>[Qb v]) (0+i)=[Qb ((dn++[v]).getD i 0)]:=λi hi=>by
 rw[JV];simp at hi;by_cases h1:i<dn.length
 ·rw[Ad h1,hr i h1];simp[h1,JD h1]
 ·have:i=dn.length:=by omega
  subst this;rw[vL (QB _)];simp
def Np{h:List Ob}{l:Nat}{o:Ob}(e:h[l]? = some o.ro):(h.map Ob.ro)[l]? = some o.ro:=by have:=Z3 e;rwa [ro_ro]at this
def J6(L:List Qw):Nat->Int->List Int
 | 0,_=>[]
 | n+1,id=>match QF L id with
  | none=>[]
  | some c=>id::J6 L n c.parent
def Ends(L:List Qw):Nat->Int->Prop
 | 0,id=>QF L id=none
 | n+1,id=>match QF L id with
  | none=>True
  | some c=>Ends L n c.parent
structure QwI (t:Nat) (L:List Qw) (N:Nat) (id:Int) (F:List Ob) (n:Nat) (s:St):Prop where
 ex:∃dn cur d H,dn++J6 L n cur=J6 L N id/\dn.length+n<=N+1/\Ends L n cur/\Vt F H/\Ky F.length H d dn/\s=⟨[(0,.ptr t 0 0 0),(1,Qb cur),(5,d)],H⟩
section
variable (h:List Ob)(t m c:Nat){es:List ZU}{L:List Qw}(T:VW es L)
 (ht:(h.map Ob.ro)[t]? = some ⟨.Wn,0,1,1,λ_=>[.mref m 0]⟩) (hm:(h.map Ob.ro)[m]? = some (QS .i64 c es).ro)
include T ht hm
theorem QiA(id)(N)(hN:N<1000000)(hE:Ends L N id):Wf prog 92 h [.ptr t 0 0 0,Qb id] (λd g=>Ky h.length (h++g) d (J6 L N id)):=by
 refine jT Qi 200 func92 rfl ntmps92 results92 rfl λbase w pl F hF Q3 hb=>?_;rw[<- hF]at ht hm;have ZD:=Qc ht;have QG:=Qc hm;simp only[go_sem,Qa,ht,ZD,hm,QG];refine MP (QwI t L N id F) N (s0:=⟨[(0,.ptr t 0 0 0),(1,Qb id),(5,.nil)],F⟩) (Qp.frame (by simp only[go_sem])) ⟨[],id,.nil,F,rfl,by simp,hE,Vt.refl F,.inl ⟨rfl,rfl⟩,rfl⟩ ?_;rintro n s ⟨dn,cur,d,H,h1,h2,h3,hx,hs,rfl⟩;have hFH:=hx.len;have wa:=hx.get ht;have Xk:=hx.get hm;have P8:=Qc wa;have EP:=Qc Xk;have hg:=Qiz H t m c T (Z3 wa) (Np Xk) cur;refine Qe hb ?_;simp only[go_sem,Qa];cases hf:QF L cur with
 | none=>
  rw[hf]at hg;simp only[xW,qa,jP]at hg;refine Z8 hb xo rfl ?_ hg rfl λd hR=>?_
  ·simp only[go_sem,Qa,wa,Xk,P8,EP]
  subst hR;refine Qe hb ?_;simp only[go_sem,Qa,wa,Xk,P8,EP];have e0:J6 L n cur=[]:=by cases n with
   | zero=>rfl
   | succ n=>simp only[J6,hf]
  rw[e0,QU]at h1;rw[<- h1];exact Ky.done Q3 (hx.app _) (hs.app _)
 | some x=>
  rw[hf]at hg;simp only[wV,K6,KA]at hg;obtain⟨n,rfl⟩:∃n',n=n'+1:=by
   cases n with
   | zero=>rw[Ends,hf]at h3;cases h3
   | succ n=>exact⟨n,rfl⟩
  have tY:Ends L n x.parent:=by simpa only[Ends,hf] using h3
  have JE:(dn++[cur])++J6 L n x.parent=J6 L N id:=by rw[<- h1];simp only[J6,hf,WC,List.singleton_append]
  rcases hs with ⟨rfl,rfl⟩|⟨lo,g,off,row,rfl,Zm,ho,hr⟩
  ·refine Z8 hb xo rfl ?_ hg rfl λd hR=>?_
   ·simp only[go_sem,Qa,wa,Xk,P8,EP]
   subst hR;refine Qe hb ?_;simp only[go_sem,Qa,wa,Xk,P8,EP];refine⟨n,⟨[(0,.ptr t 0 0 0),(1,Qb x.parent),(5,.ref (H.length+2) 0 0 1)],_⟩,by omega,Qp.frame (by simp only[go_sem]),⟨⟨[cur],x.parent,_,_,JE,by simp at h2 ⊢;omega,tY,hx.app _,.inr ⟨H.length+2,0,0,_,rfl,by omega,by rw[Vr rfl];rfl,λi hi=>?_⟩,rfl⟩⟩⟩;have:i=0:=by simp at hi;omega
   subst this;rfl
  ·have Qg:=Qc ho;refine Z8 hb xo rfl ?_ hg rfl λd hR=>?_
   ·simp only[go_sem,Qa,wa,Xk,P8,EP,ho,Qg]
   subst hR;refine Qe hb ?_;simp only[go_sem,Qa,wa,Xk,P8,EP,ho,Qg];refine⟨by omega,n,⟨[(0,.ptr t 0 0 0),(1,Qb x.parent),(5,.ref lo (g+1) 0 (dn.length+1))],_⟩,by omega,Qp.frame (by simp only[go_sem]),⟨⟨dn++[cur],x.parent,_,_,JE,?_,tY,?_,?_,rfl⟩⟩⟩
   ·simp at h2 ⊢;omega
   ·exact(hx.set Zm.1 _).app _
   ·refine .inr ⟨lo,g+1,0,_,by simp,by omega,?_,No hr⟩;rw[Qx (by simpa using Qg),Qs Qg];simp[Qb]
end
def qv(L:List Qw)(id:Int):Bool:=id==0 || decide (1<Q7 ((QF L id).getD default).ls)
section
variable (h:List Ob)(t m c:Nat){es:List ZU}{L:List Qw}(T:VW es L)
 (ht:(h.map Ob.ro)[t]? = some ⟨.Wn,0,1,1,λ_=>[.mref m 0]⟩) (hm:(h.map Ob.ro)[m]? = some (QS .i64 c es).ro)
include T ht hm
theorem P9(id:Int)(N)(hN:N<1000000)(hE:Ends L N id):QV prog 87 h [.ptr t 0 0 0,Qb id] (λd=>d=Qb (J6 L N id).length):=by
 refine Zq Qi 200 func87 rfl ntmps87 results87 rfl λbase w pl F hF Q3 hb=>?_;rw[<- hF]at ht hm;have ZD:=Qc ht;have QG:=Qc hm;simp only[go_sem,Qa,ht,ZD,hm,QG];refine Is hb iR rfl ?_ (QiA F t m c T (Z3 ht) (Np hm) id N hN hE) rfl λd g2 hs=>?_
 ·simp only[go_sem]
 rcases hs with ⟨rfl,h0⟩|⟨lo,g,off,row,rfl,Zm,ho,hr⟩
 ·refine Qe hb ?_;simp only[go_sem,Qa,h0];exact⟨_,rfl⟩
 ·have Qg:=Qc ho;refine Qe hb ?_;simp only[go_sem,Qa,ho,Qg];exact⟨_,rfl⟩
theorem lL(id):QV prog 86 h [.ptr t 0 0 0,Qb id] (λd=>d=QJ (qv L id)):=by
 by_cases h0:id=0
 ·have e:qv L id=true:=by simp[qv,h0]
  rw[e];refine Zq Qi 200 func86 rfl ntmps86 results86 rfl λbase w pl F hF Q3 hb=>?_;rw[<- hF]at ht hm;have ZD:=Qc ht;have QG:=Qc hm;simp only[go_sem,Qa,ht,ZD,hm,QG,Wg h0];exact⟨[],by simp⟩
 ·have hk:=T.look id;have e:qv L id=decide (1<Q7 ((QF L id).getD default).ls):=by simp[qv,h0]
  rw[e];cases hf:QF L id with
  | none=>
   rw[hf,zq]at hk;refine Zq Qi 200 func86 rfl ntmps86 results86 rfl λbase w pl F hF Q3 hb=>?_;rw[<- hF]at ht hm;have ZD:=Qc ht;have QG:=Qc hm;simp only[go_sem,Qa,ht,ZD,hm,QG,hk,J5 h0];refine ZW hb vX rfl ?_ (v8 ⟨0,0,false,⟨0,0,0⟩,⟨0,0,0⟩,⟨0,0,0⟩,0,0⟩) (Qn.flat rfl) rfl λd h hR=>?_
   ·simp only[go_sem,Qa]
   obtain⟨rfl,rfl⟩:=hR;refine Qe hb ?_;simp only[go_sem,Qa];exact⟨[],(QU F).symm,rfl⟩
  | some x=>
   rw[hf,K0]at hk;refine Zq Qi 200 func86 rfl ntmps86 results86 rfl λbase w pl F hF Q3 hb=>?_;rw[<- hF]at ht hm;have ZD:=Qc ht;have QG:=Qc hm;simp only[go_sem,Qa,ht,ZD,hm,QG,hk,J5 h0];refine ZW hb vX rfl ?_ (v8 x) (Qn.flat rfl) rfl λd h hR=>?_
   ·simp only[go_sem,Qa]
   obtain⟨rfl,rfl⟩:=hR;refine Qe hb ?_;simp only[go_sem,Qa];exact⟨[],by simp⟩
end
def Qr(L:List Qw)(g:Qw->Bool)(k:Int):Bool:=((QF L k).map g).getD false
def QwJ{es:List ZU}{seen:List Nat}{b:Nat}(p:ZU->Bool)(h:∀e∈es,e.b≠b):(es.filter λx=>(seen++[b]).contains x.b&&p x)=es.filter λx=>seen.contains x.b&&p x:=by
 apply dZ;intro x hx;have:=h x hx;simp[this]
def tZ:∀{es:List ZU} {seen:List Nat} {e:ZU} (p:ZU->Bool),(es.map (·.b)).Nodup->e∈es->e.b ∉ seen->(es.filter λx=>(seen++[e.b]).contains x.b&&p x).Perm (if p e then e::es.filter (λx=>seen.contains x.b&&p x) else es.filter λx=>seen.contains x.b&&p x)
 | [],_,_,_,_,h,_=>by simp at h
 | x::es,seen,e,p,hn,h,hs=>by
  simp only[J7,Jf,Jk,FR,not_and]at hn;rcases QM.1 h with h1|h1
  ·subst h1;have e1:=QwJ (seen:=seen) (b:=e.b) p (es:=es) λy hy he=>hn.1 y hy he;have hc:seen.contains e.b=false:=by simpa using hs
   rw[xS,xS,e1];simp only[hc,Mf,qa,jP];have:(seen++[e.b]).contains e.b=true:=by simp
   rw[this,Mg]
  ·have ih:=tZ p hn.2 h1 hs;have Qz:x.b≠e.b:=λhe=>hn.1 e h1 he.symm;have hc:(seen++[e.b]).contains x.b=seen.contains x.b:=by simp[Qz]
   rw[xS,xS,hc];by_cases h2:(seen.contains x.b&&p x)=true
   ·rw[Qf h2,Qf h2];by_cases h3:p e=true
    ·rw[Qf h3]at ih ⊢;exact(ih.cons x).trans (List.Perm.swap _ _ _)
    ·rw[Qd h3]at ih ⊢;exact ih.cons x
   ·rw[Qd h2,Qd h2];exact ih
def VW.yu{es}{L}(T:VW es L){e:ZU}(he:e∈es):∃x,QF L e.k=some x/\e.v=Yy x/\x.iD=e.k:=by
 have:Wo e∈L.map qd:=T.perm.mem_iff.1 (Jk.2 ⟨e,he,rfl⟩);obtain⟨x,hx,e1⟩:=Jk.1 this;simp only[qd,Wo,Zp]at e1;exact⟨x,(Vs T.sorted).2 ⟨hx,e1.1⟩,e1.2.symm,e1.1⟩
def VW.pick{es:List ZU}{L:List Qw}(T:VW es L)(g:Qw->Bool):((es.filter λe=>Qr L g e.k).map (·.k)).Perm ((L.filter g).map (·.iD)):=by
 have h1:=(T.perm.filter λp=>Qr L g p.1).map Prod.fst;have e1:((es.map Wo).filter λp=>Qr L g p.1).map Prod.fst=(es.filter λe=>Qr L g e.k).map (·.k):=by
  rw[Tt,xT];rfl
 have e2:((L.map qd).filter λp=>Qr L g p.1).map Prod.fst=(L.filter g).map (·.iD):=by
  rw[Tt,xT];have:L.filter ((λp=>Qr L g p.1) ∘ qd)=L.filter g:=dZ λx hx=>by
   have:=(Vs T.sorted).2 ⟨hx,rfl⟩;simp[Qr,qd,this]
  rw[this];rfl
 rw[e1,e2]at h1;exact h1
def QwK{L:List Qw}(h:XD L)(g:Qw->Bool):((L.filter g).map (·.iD)).Pairwise (·<·):=by
 rw[Ml];exact ON g h
open Go.Shelf in
def QwL{P}{ρ:Ren}(Ly:Lays.n189 P ρ)(h):QK P (ρ.f 189) h [.nil] (λd h'=>d=.tup []/\h'=h):=by
 intro Z base w pl vs Zd hZ R xk hv;match vs,xk with
 | [v],_=>
 obtain⟨a,e1⟩:=Ei (hv 0 (by simp));have e1:v=_:=e1;subst e1;refine(Any.slices_Sort_int_none Ly a 0 w).mono ?_;rintro e w' ⟨rfl,rfl⟩;exact⟨_,.tup [],h,pl,rfl,⟨rfl,rfl⟩,R,.tup [] [] rfl (λi hi=>by simp at hi),Tr.refl _ _ _,.refl _ _⟩
open Go.Shelf in
def Tryz.QwM:Go.Shelf.Ren:=⟨fun|189=>147|125=>179|257=>178|128=>222|129=>223|294=>213|295=>214|296=>215|297=>216|298=>217|299=>218|216=>219|300=>220|301=>221|328=>269|329=>270|330=>271|331=>272|332=>273|215=>274|343=>305|n=>n,fun|28=>59|3=>3|46=>297|0=>0|51=>345|53=>38|4=>4|183=>339|182=>338|131=>56|5=>5|9=>9|218=>381|222=>384|228=>412|229=>51|n=>n,fun|n=>n⟩
def Tryz.QiB:Go.Proofs.Lays.n189 prog Tryz.QwM:={
 mixed:=by kernel_rfl
 f125:=func179.trans (congrArg some (by kernel_rfl))
 f128:=func222.trans (congrArg some (by kernel_rfl))
 f129:=func223.trans (congrArg some (by kernel_rfl))
 f189:=func147.trans (congrArg some (by kernel_rfl))
 f215:=func274.trans (congrArg some (by kernel_rfl))
 f216:=func219.trans (congrArg some (by kernel_rfl))
 f257:=func178.trans (congrArg some (by kernel_rfl))
 f294:=func213.trans (congrArg some (by kernel_rfl))
 f295:=func214.trans (congrArg some (by kernel_rfl))
 f296:=func215.trans (congrArg some (by kernel_rfl))
 f297:=func216.trans (congrArg some (by kernel_rfl))
 f298:=func217.trans (congrArg some (by kernel_rfl))
 f299:=func218.trans (congrArg some (by kernel_rfl))
 f300:=func220.trans (congrArg some (by kernel_rfl))
 f301:=func221.trans (congrArg some (by kernel_rfl))
 f328:=func269.trans (congrArg some (by kernel_rfl))
 f329:=func270.trans (congrArg some (by kernel_rfl))
 f330:=func271.trans (congrArg some (by kernel_rfl))
 f331:=func272.trans (congrArg some (by kernel_rfl))
 f332:=func273.trans (congrArg some (by kernel_rfl))
 f343:=func305.trans (congrArg some (by kernel_rfl))
 t0:=underlying0
 a0:=isAgg0
 z0:=sizeOf0
 v0:=zeroValue0
 t3:=underlying3
 a3:=isAgg3
 z3:=sizeOf3
 v3:=zeroValue3
 t4:=underlying4
 a4:=isAgg4
 z4:=sizeOf4
 v4:=zeroValue4
 t5:=underlying5
 a5:=isAgg5
 z5:=sizeOf5
 v5:=zeroValue5
 t9:=underlying9
 a9:=isAgg9
 z9:=sizeOf9
 v9:=zeroValue9
 t28:=underlying59
 a28:=isAgg59
 z28:=sizeOf59
 v28:=zeroValue59
 t46:=underlying297
 a46:=isAgg297
 z46:=sizeOf297
 v46:=zeroValue297
 t51:=underlying345
 a51:=isAgg345
 z51:=sizeOf345
 v51:=zeroValue345
 t53:=underlying38
 a53:=isAgg38
 z53:=sizeOf38
 v53:=zeroValue38
 t131:=underlying56
 a131:=isAgg56
 z131:=sizeOf56
 v131:=zeroValue56
 t182:=underlying338
 a182:=isAgg338
 z182:=sizeOf338
 v182:=zeroValue338
 t183:=underlying339
 a183:=isAgg339
 z183:=sizeOf339
 v183:=zeroValue339
 t218:=underlying381
 a218:=isAgg381
 z218:=sizeOf381
 v218:=zeroValue381
 t222:=underlying384
 a222:=isAgg384
 z222:=sizeOf384
 v222:=zeroValue384
 t228:=underlying412
 a228:=isAgg412
 z228:=sizeOf412
 v228:=zeroValue412
 t229:=underlying51
 a229:=isAgg51
 z229:=sizeOf51
 v229:=zeroValue51 }
def QiC{h:List Ob}{l g off N}{row}{zs:List Int}(ho:h[l]? = some ⟨.arr,g,1,N,row⟩)(hn:off+zs.length<=N)(hr:∀i,i<zs.length->row (off+i)=[.raw (.int .i64 (zs.getD i 0))])(hlen:zs.length<4611686018427387904):
  QK prog 147 h [.ref l g off zs.length] (λd h'=>d=.tup []/\h'=h.set l ⟨.arr,g,1,N,xr off row (sorted zs)⟩):=QwC Tryz.QiB ho hn hr hlen
def QiD(h):QK prog 147 h [.nil] (λd h'=>d=.tup []/\h'=h):=QwL Tryz.QiB h
def Df(d):Yd d d:=by unfold Yd;split<;>first|exact rfl|simp_all
def ER:∀l:List D,WH l l
 | []=>trivial
 | d::r=>⟨Df d,ER r⟩
def UK(F:List Ob)(f nf:Nat)(QI:List D)(g:Qw->Bool):Prop:=∀(h:List Ob) (c:Qw),Vt F h->QV prog f h (JT nf QI [Yy c]) (λd=>d=QJ (g c))
structure QwN (t m c:Nat) (es:List ZU) (L:List Qw) (gk:Qw->Bool) (so:D) (F:List Ob) (n:Nat) (s:St):Prop where
 ex:∃seen d out H,xq es seen=n/\Vt F H/\Ky F.length H d out/\out.Perm ((es.filter λe=>seen.contains e.b&&Qr L gk e.k).map (·.k))/\H[F.length]? = some (XO m c c seen) /\
  s=⟨[(0,.ptr t 0 0 0),(1,so),(5,d),(14,.mref F.length 0)],H⟩
section
variable (h:List Ob)(t m c:Nat){es:List ZU}{L:List Qw}(T:VW es L)(hlen:L.length<1000000)
 (ht:(h.map Ob.ro)[t]? = some ⟨.Wn,0,1,1,λ_=>[.mref m 0]⟩) (hm:(h.map Ob.ro)[m]? = some (QS .i64 c es).ro)
include T ht hm hlen
theorem lM(so:D)(f nf:Nat)(QI:List D)(hf:Qo prog f)(V8:KM so=some (f,nf,QI))(gk:Qw->Bool)(hg:UK (h.map Ob.ro) f nf QI gk):
  Wf prog 93 h [.ptr t 0 0 0,so] (λd g=>Ky h.length (h++g) d ((L.filter gk).map (·.iD))):=by
 refine jT Qi 200 func93 rfl ntmps93 results93 rfl λbase w pl F hF Q3 hb=>?_;rw[<- hF]at ht hm;have ZD:=Qc ht;have QG:=Qc hm;simp only[go_sem,Qa,ht,ZD,hm,QG];refine Qis (kd:=.HH) (q:=.i64) (l:=m) (c:=c) (es:=es) rfl (by simp only[go_sem,Qa,hm,QG];rfl) λhB=>?_;refine MP (QwN t m c es L gk so F) (xq es []) (s0:=⟨[(0,.ptr t 0 0 0),(1,so),(5,.nil),(14,.mref F.length 0)],F++[XO m c c []]⟩) (Qp.frame (by simp only[go_sem])) ⟨[],.nil,[],_,rfl,⟨_,rfl⟩,.inl ⟨rfl,rfl⟩,by simp,by rw[Kx rfl];rfl,rfl⟩ ?_;rintro n s ⟨seen,d,out,H,hn,hx,hs,hp,Xh,rfl⟩;have Xk:=hx.get hm;have EP:=Qc Xk;have ua:=Qc Xh;refine Qe hb ?_;simp only[go_sem,Qa];refine Qf6 hb (li:=F.length) (l:=m) (c:=c) (es:=es) (seen:=seen) (q:=.i64) (kd:=.HH) rfl Xh rfl Xk rfl (λKS=>?_) (λe he CK=>?_)
 ·refine Qe hb ?_;simp only[go_sem,Qa];have Iu:sorted out=(L.filter gk).map (·.iD):=by
   refine Qiy (hp.trans ?_) (QwK T.sorted gk);have:(es.filter λe=>seen.contains e.b&&Qr L gk e.k)=es.filter λe=>Qr L gk e.k:=dZ λe he=>by
    have:seen.contains e.b=true:=by simpa using KS e he
    rw[this,Mg]
   rw[this];exact T.pick gk
  have Aq:out.length<4611686018427387904:=by
   have h1:out.length=((L.filter gk).map (·.iD)).length:=by rw[<- Iu,IA]
   have h2:=qL gk L;rw[Kl]at h1;omega
  rcases hs with ⟨rfl,rfl⟩|⟨lo,g,off,row,rfl,Zm,ho,hr⟩
  ·refine Qe hb ?_;simp only[go_sem,Qa];refine VH hb iX rfl ?_ (QiD H) rfl λd h hR=>?_
   ·simp only[go_sem]
   obtain⟨rfl,rfl⟩:=hR;refine Qe hb ?_;simp only[go_sem];exact Ky.done Q3 hx (.inl ⟨rfl,by rw[<- Iu];simp[sorted]⟩)
  ·have Qg:=Qc ho;refine Qe hb ?_;simp only[go_sem,Qa];refine VH hb iX rfl ?_ (QiC ho (QB _) hr Aq) rfl λd h hR=>?_
   ·simp only[go_sem]
   obtain⟨rfl,rfl⟩:=hR;refine Qe hb ?_;simp only[go_sem];refine Ky.done Q3 (hx.set Zm.1 _) ?_;have ub:((L.filter gk).map (·.iD)).length=out.length:=by rw[<- Iu,IA]
   refine .inr ⟨lo,g,off,xr off row (sorted out),?_,Zm,?_,?_⟩
   ·rw[ub]
   ·rw[ub];exact Qs Qg
   ·rw[Iu];intro i hi;unfold xr;rw[Qf (by omega),show off+i - off=i by omega];rfl
 ·obtain⟨x,hfx,WG,Zg⟩:=T.yu he;rw[WG];have Pp:Qr L gk e.k=gk x:=by simp[Qr,hfx]
  obtain⟨H',BJ⟩:∃H',H'=H.set F.length (XO m c c (seen++[e.b])):=⟨_,rfl⟩;have qm:Vt F H':=by rw[BJ];exact hx.set (QB _) _
  have ES:H'[F.length]? = some (XO m c c (seen++[e.b])):=by rw[BJ];exact Qs ua
  have hs':Ky F.length H' d out:=by
   rcases hs with hs|⟨lo,g,off,row,h1,h2,h3,h4⟩
   ·exact .inl hs
   ·refine .inr ⟨lo,g,off,row,h1,h2,?_,h4⟩;rw[BJ,Qk (by rintro rfl;rw[Xh]at h3;cases h3)];exact h3
  have Gv:=qm.get hm;have lN:=Qc Gv;have lO:=Qc ES;have Jo:=tZ (λe=>Qr L gk e.k) hB.nodup he CK;have XU:=tV he CK;rw[<- BJ];refine Qe hb ?_;simp only[go_sem,Qa];refine Qe hb ?_;simp only[go_sem,Qa];refine Qit (li:=F.length) (l:=m) (c:=c) (es:=es) (seen:=seen) (q:=.i64) (kd:=.HH) (e:=e) rfl ES rfl Gv he rfl ?_;rw[WG];refine Qe hb ?_;simp only[go_sem,Qa];refine Qe hb ?_;simp only[go_sem,Qa];refine Z8 hb hf V8 ?_ (hg _ x ?_) rfl λd2 hR=>?_
  ·simp only[go_sem];exact ER _
  ·rw[<- hF];exact qm.app _
  subst hR;refine Qe hb ?_;have Aq:out.length<=es.length:=by
   have h1:=hp.length_eq;rw[Kl]at h1;rw[h1];exact qL _ _
  have QKH:=T.len;simp only[Pp]at Jo;cases hgx:gk x
  ·simp only[hgx,qa,jP]at Jo;simp only[go_sem,Qa];exact⟨xq es (seen++[e.b]),⟨[(0,.ptr t 0 0 0),(1,so),(5,d),(14,.mref F.length 0)],_⟩,by omega,Qp.frame (by simp only[go_sem]),⟨⟨seen++[e.b],d,out,_,rfl,qm.app _,hs'.app _,hp.trans (Jo.map _).symm,by rw[Qx lO];exact ES,rfl⟩⟩⟩
  ·simp only[hgx,K6]at Jo;have lP:(out++[e.k]).Perm ((es.filter λx=>(seen++[e.b]).contains x.b&&Qr L gk x.k).map (·.k)):=by
    refine(List.perm_append_comm.trans ?_).trans (Jo.map _).symm;exact hp.cons e.k
   rcases hs' with ⟨rfl,rfl⟩|⟨lo,g,off,row,rfl,Zm,ho,hr⟩
   ·simp only[go_sem,Qa];refine⟨xq es (seen++[e.b]),⟨[(0,.ptr t 0 0 0),(1,so),(5,.ref (H'.length+2) 0 0 1),(14,.mref F.length 0)],_⟩,by omega,Qp.frame (by simp only[go_sem]),⟨⟨seen++[e.b],_,[e.k],_,rfl,qm.app _,?_,lP,by rw[Qx lO];exact ES,rfl⟩⟩⟩;have:=qm.len;refine .inr ⟨H'.length+2,0,0,_,rfl,by omega,by rw[Vr rfl];rfl,λi hi=>?_⟩;have:i=0:=by simp at hi;omega
    subst this;rfl
   ·have Qg:=Qc ho;have Qz:F.length≠lo:=by rintro rfl;rw[ES]at ho;cases ho
    simp only[go_sem,Qa,ho,Qg];refine⟨by omega,xq es (seen++[e.b]),⟨[(0,.ptr t 0 0 0),(1,so),(5,.ref lo (g+1) 0 (out.length+1)),(14,.mref F.length 0)],_⟩,by omega,Qp.frame (by simp only[go_sem]),⟨⟨seen++[e.b],_,out++[e.k],_,rfl,?_,?_,lP,?_,rfl⟩⟩⟩
    ·exact(qm.set Zm.1 _).app _
    ·refine .inr ⟨lo,g+1,0,_,by simp,by omega,?_,No hr⟩;rw[Qx (by simpa using Qg),Qs Qg];simp[Qb]
    ·rw[Qx (by simpa using lO),Qk (Q8 Qz)];exact ES
end
def XV{h t:List Ob}{l:Nat}{o:Ob}(e:h[l]? = some o):((h++t).map Ob.ro)[l]? = some o.ro:=Z3 (by rw[Qx (Qc e)];exact e)
def Ky.le{n n'}{H}{d}{L}(x:Ky n H d L)(hn:n'<=n):Ky n' H d L:=by
 rcases x with x|⟨lo,gg,off,row,h1,h2,h3,h4⟩
 ·exact .inl x
 ·exact .inr ⟨lo,gg,off,row,h1,by omega,h3,h4⟩
def QwP(h:List Ob)(lb)(id)(x:Qw)(hl:(h.map Ob.ro)[lb]? = some ⟨.Wn,0,1,1,λ_=>[Qb id]⟩):QV prog 281 h [Yy x,.ptr lb 0 0 0] (λd=>d=QJ (x.parent==id)):=by
 refine Zq Qi 200 func281 rfl ntmps281 results281 rfl λbase w pl F hF Q3 hb=>?_;rw[<- hF]at hl;have IC:=Qc hl;simp only[go_sem,Qa,hl,IC];exact⟨_,rfl⟩
def Xl(L:List Qw)(id:Int):List Int:=(L.filter λx=>x.parent==id).map (·.iD)
section
variable (h:List Ob)(t m c:Nat){es:List ZU}{L:List Qw}(T:VW es L)(hlen:L.length<1000000)
 (ht:(h.map Ob.ro)[t]? = some ⟨.Wn,0,1,1,λ_=>[.mref m 0]⟩) (hm:(h.map Ob.ro)[m]? = some (QS .i64 c es).ro)
include T ht hm hlen
theorem uc(id):Wf prog 235 h [.ptr t 0 0 0,Qb id] (λd g=>Ky h.length (h++g) d (Xl L id)):=by
 refine jT Qi 200 func235 rfl ntmps235 results235 rfl λbase w pl F hF Q3 hb=>?_;rw[<- hF]at ht hm;have ZD:=Qc ht;have QG:=Qc hm;simp only[go_sem,Qa,ht,ZD,hm,QG];have hx:Vt F (F++([⟨.one,0,1,1,λ_=>[Qb id]⟩]:List Ob)):=⟨_,rfl⟩;have hT:UK ((F++([⟨.one,0,1,1,λ_=>[Qb id]⟩]:List Ob)).map Ob.ro) 281 0 [.ptr F.length 0 0 0] (λx=>x.parent==id):=λh' x qm=>QwP h' F.length id x (by
  have e:=qm.get (l:=F.length) (o:=⟨.Wn,0,1,1,λ_=>[Qb id]⟩) (by rw[jN,Kx (by simp)];rfl);exact Z3 e)
 refine Is hb iS rfl ?_ (lM _ t m c T hlen (Z3 (hx.get ht)) (Np (hx.get hm)) (.clo 281 0 [.ptr F.length 0 0 0]) 281 0 [.ptr F.length 0 0 0] Qv2 rfl _ hT) rfl λd g hs=>?_
 ·simp only[go_sem]
 refine Qe hb ?_;simp only[go_sem,Qa];have JL:=hs.le (n':=F.length) (by simp);rw[WC]at JL;exact Ky.done Q3 ⟨_,rfl⟩ JL
def Dg(L:List Qw)(x:Qw)(dp:Nat):Int:=
 if VP x≠0 then VP x
 else if (QF L x.iD).isSome then 8
 else if L.length=64 then 5
 else if (x.parent≠0/\(QF L x.parent).isNone)\/((QF L x.parent).getD default).leaf=true then 23
 else if 1<Q7 x.ls/\qv L x.parent=false then 29
 else if dp=16 then 25
 else 0
end
section
variable (h:List Ob)(t m c:Nat){es:List ZU}{L:List Qw}(T:VW es L)(hlen:L.length<1000000)
 (ht:h[t]? = some ⟨.one,0,1,1,λ_=>[.mref m 0]⟩) (hm:h[m]? = some (QS .i64 c es))
include T ht hm hlen
structure Xm (h:List Ob) (t m:Nat) (L:List Qw) (h':List Ob):Prop where
 ex:∃c es,h'[t]? = some ⟨.one,0,1,1,λ_=>[.mref m 0]⟩/\h'[m]? = some (QS .i64 c es)/\VW es L
 len:h.length<=h'.length
 KE:∀l,l<h.length->l≠m->h'[l]? = h[l]?
omit T hlen in
theorem Xm.same(T:VW es L)(g):Xm h t m L (h++g):=
 ⟨⟨c,es,by rw[Qx (Qc ht)];exact ht,by rw[Qx (Qc hm)];exact hm,T⟩,by simp,λl hl _=>Qx hl⟩
omit hlen in
theorem Xm.QX(x:Qw)(g):Xm h t m (WJ L x) (h.set m (J2 .i64 c es x.iD (Yy x))++g):=by
 obtain⟨c',es',e,T'⟩:=QwH T .i64 c x;have QG:=Qc hm;have ZD:=Qc ht;have Qz:m≠t:=by rintro rfl;rw[ht]at hm;cases hm
 rw[e];refine⟨⟨c',es',?_,?_,T'⟩,by simp,λl hl Jx=>?_⟩
 ·rw[Qx (by simpa using ZD),Qk Qz];exact ht
 ·rw[Qx (by simpa using QG),Qs QG]
 ·rw[Qx (by simpa using hl),Qk (Q8 Jx)]
omit hlen in
theorem QwQ(x:Qw)(N)(hN:N<1000000)(hE:Ends L N x.parent):QK prog 41 h [.ptr t 0 0 0,Yy x] (λd h'=>d=Qb (Dg L x (J6 L N x.parent).length)/\Xm h t m (if Dg L x (J6 L N x.parent).length=0 then WJ L x else L) h'):=by
 have hk:=T.look x.iD;have Ju:=T.look x.parent;have qi:=T.len;have ZD:=Qc ht;have QG:=Qc hm;obtain⟨E,wc⟩:∃E,E=Dg L x (J6 L N x.parent).length:=⟨_,rfl⟩;rw[<- wc];have bad:∀g:List Ob,E≠0->Xm h t m (if E=0 then WJ L x else L) (h++g):=λg Qz=>by rw[Qd Qz];exact Xm.same h t m c ht hm T g
 refine Q6 Qi 200 func41 rfl ntmps41 results41 rfl λbase w pl hb=>?_;have ZD:=Qc ht;have QG:=Qc hm;simp only[go_sem,Qa,ht,ZD,hm,QG];refine ZW hb QhA rfl ?_ (Qiq x) (Qn.flat rfl) rfl λd h hR=>?_
 ·simp only[go_sem,Qa]
 obtain⟨rfl,rfl⟩:=hR;refine Qe hb ?_;simp only[go_sem,Qa];by_cases h0:VP x=0;case neg=>
  have e:E=VP x:=by rw[wc,Dg,Qf h0]
  simp only[go_sem,Qa,J5 h0,bne];exact⟨by rw[e],bad _ (by rw[e];exact h0)⟩
 simp only[go_sem,Qa,Wg h0,bne];cases ET:QF L x.iD with
 | some y=>
  have e:E=8:=by rw[wc,Dg,Qd (by simpa using h0),Qf (by simp[ET])]
  rw[ET,K0]at hk;refine KU Qi hb 200 mixed [(0,true),(1,true),(2,true),(3,true),(4,true),(5,true),(6,true),(7,true),(8,true),(9,true),(10,false),(11,false),(12,true)] (by kernel_rfl) (by kernel_rfl) ?_;simp only[go_sem,Qa,ht,hm,ZD,QG,hk];cases jV:QF L x.parent with
  | none=>
   rw[jV,zq]at Ju;refine KU Qi hb 200 mixed [(0,true),(1,true),(2,true),(3,true),(4,true),(5,true),(6,true),(7,true),(8,true),(9,true),(10,false),(11,false),(12,true)] (by kernel_rfl) (by kernel_rfl) ?_;simp only[go_sem,Qa,ht,hm,ZD,QG,Ju];exact⟨by rw[e],bad _ (by rw[e];decide)⟩
  | some z=>
   rw[jV,K0]at Ju;refine KU Qi hb 200 mixed [(0,true),(1,true),(2,true),(3,true),(4,true),(5,true),(6,true),(7,true),(8,true),(9,true),(10,false),(11,false),(12,true)] (by kernel_rfl) (by kernel_rfl) ?_;simp only[go_sem,Qa,ht,hm,ZD,QG,Ju];exact⟨by rw[e],bad _ (by rw[e];decide)⟩
 | none=>
  rw[ET,zq]at hk;refine KU Qi hb 200 mixed [(0,true),(1,true),(2,true),(3,true),(4,true),(5,true),(6,true),(7,true),(8,true),(9,true),(10,false),(11,false),(12,true)] (by kernel_rfl) (by kernel_rfl) ?_;simp only[go_sem,Qa,ht,hm,ZD,QG,hk];have a1:E=(if L.length=64 then 5 else if (x.parent≠0/\(QF L x.parent).isNone)\/((QF L x.parent).getD default).leaf=true then 23 else if 1<Q7 x.ls/\qv L x.parent=false then 29 else if (J6 L N x.parent).length=16 then 25 else 0):=by
   rw[wc,Dg,Qd (by simpa using h0),Qd (by simp[ET])]
  by_cases ID:L.length=64
  ·have e:E=5:=by rw[a1,Qf ID]
   have Gw:((es.length:Int)==64)=true:=by simp;omega
   cases jV:QF L x.parent with
   | none=>
    rw[jV,zq]at Ju;refine KU Qi hb 200 mixed [(0,true),(1,true),(2,true),(3,true),(4,true),(5,true),(6,true),(7,true),(8,true),(9,true),(10,false),(11,false),(12,true)] (by kernel_rfl) (by kernel_rfl) ?_;simp only[go_sem,Qa,ht,hm,ZD,QG,Ju,Gw];exact⟨by rw[e],bad _ (by rw[e];decide)⟩
   | some z=>
    rw[jV,K0]at Ju;refine KU Qi hb 200 mixed [(0,true),(1,true),(2,true),(3,true),(4,true),(5,true),(6,true),(7,true),(8,true),(9,true),(10,false),(11,false),(12,true)] (by kernel_rfl) (by kernel_rfl) ?_;simp only[go_sem,Qa,ht,hm,ZD,QG,Ju,Gw];exact⟨by rw[e],bad _ (by rw[e];decide)⟩
  rw[Qd ID]at a1;have Gw:((es.length:Int)==64)=false:=by simp;omega
  cases jV:QF L x.parent with
  | none=>
   rw[jV,zq]at Ju;by_cases yl:x.parent=0
   ·refine KU Qi hb 200 mixed [(0,true),(1,true),(2,true),(3,true),(4,true),(5,true),(6,true),(7,true),(8,true),(9,true),(10,false),(11,false),(12,true)] (by kernel_rfl) (by kernel_rfl) ?_;simp only[go_sem,Qa,ht,hm,ZD,QG,Ju,Gw,Wg yl,bne];have a2:E=(if 1<Q7 x.ls/\qv L x.parent=false then 29 else if (J6 L N x.parent).length=16 then 25 else 0):=by rw[a1,Qd (by rw[jV];rintro (⟨h1,_⟩|h1);exact h1 yl;cases h1)]
    refine ZW hb vX rfl ?_ (v8 x) (Qn.flat rfl) rfl λd h hR=>?_
    ·simp only[go_sem,Qa]
    obtain⟨rfl,rfl⟩:=hR;refine Qe hb ?_;simp only[go_sem,Qa];cases Jd:decide (1<Q7 x.ls)
    ·simp only[go_sem,Qa,Go.undef];refine Z8 hb PX rfl ?_ (P9 _ t m c T (XV ht) (XV hm) x.parent N hN hE) rfl λd hR=>?_
     ·simp only[go_sem,Qa]
     subst hR;refine Qe hb ?_;simp only[go_sem,Qa];by_cases hd:(J6 L N x.parent).length=16
     ·have e:E=25:=by rw[a2,Qd (by simp at Jd;omega),Qf hd]
      have KN:(((J6 L N x.parent).length:Int)==16)=true:=by simp;omega
      simp only[go_sem,Qa,KN];exact⟨by rw[e],bad _ (by rw[e];decide)⟩
     ·have e:E=0:=by rw[a2,Qd (by simp at Jd;omega),Qd hd]
      have KN:(((J6 L N x.parent).length:Int)==16)=false:=by simp;omega
      simp only[go_sem,Qa,KN];refine KU Qi hb 200 mixed [(0,true),(1,true),(2,true),(3,true),(4,true),(5,true),(6,true),(7,false)] (by kernel_rfl) (by kernel_rfl) ?_;simp only[go_sem,Qa,ht,hm,ZD,QG];rw[Qf e];exact⟨by rw[e],Xm.QX h t m c T ht hm x _⟩
    ·simp only[go_sem,Qa,Go.undef];refine Z8 hb iQ rfl ?_ (lL _ t m c T (XV ht) (XV hm) x.parent) rfl λd hR=>?_
     ·simp only[go_sem,Qa]
     subst hR;refine Qe hb ?_;simp only[go_sem,Qa];cases JL:qv L x.parent
     ·have e:E=29:=by rw[a2,Qf ⟨by simpa using Jd,JL⟩]
      simp only[go_sem,Qa,Go.undef];exact⟨by rw[e],bad _ (by rw[e];decide)⟩
     ·simp only[go_sem,Qa,Go.undef];refine Z8 hb PX rfl ?_ (P9 _ t m c T (XV ht) (XV hm) x.parent N hN hE) rfl λd hR=>?_
      ·simp only[go_sem,Qa]
      subst hR;refine Qe hb ?_;simp only[go_sem,Qa];by_cases hd:(J6 L N x.parent).length=16
      ·have e:E=25:=by rw[a2,Qd (by rw[JL];simp),Qf hd]
       have KN:(((J6 L N x.parent).length:Int)==16)=true:=by simp;omega
       simp only[go_sem,Qa,KN];exact⟨by rw[e],bad _ (by rw[e];decide)⟩
      ·have e:E=0:=by rw[a2,Qd (by rw[JL];simp),Qd hd]
       have KN:(((J6 L N x.parent).length:Int)==16)=false:=by simp;omega
       simp only[go_sem,Qa,KN];refine KU Qi hb 200 mixed [(0,true),(1,true),(2,true),(3,true),(4,true),(5,true),(6,true),(7,false)] (by kernel_rfl) (by kernel_rfl) ?_;simp only[go_sem,Qa,ht,hm,ZD,QG];rw[Qf e];exact⟨by rw[e],Xm.QX h t m c T ht hm x _⟩
   ·have e:E=23:=by rw[a1,Qf (.inl ⟨yl,by simp[jV]⟩)]
    refine KU Qi hb 200 mixed [(0,true),(1,true),(2,true),(3,true),(4,true),(5,true),(6,true),(7,true),(8,true),(9,true),(10,false),(11,false),(12,true)] (by kernel_rfl) (by kernel_rfl) ?_;simp only[go_sem,Qa,ht,hm,ZD,QG,Ju,Gw,J5 yl,bne];exact⟨by rw[e],bad _ (by rw[e];decide)⟩
  | some z=>
   rw[jV,K0]at Ju;cases hz:z.leaf with
   | true=>
    have e:E=23:=by rw[a1,Qf (.inr (by simp[jV,hz]))]
    by_cases yl:x.parent=0
    ·refine KU Qi hb 200 mixed [(0,true),(1,true),(2,true),(3,true),(4,true),(5,true),(6,true),(7,true),(8,true),(9,true),(10,false),(11,false),(12,true)] (by kernel_rfl) (by kernel_rfl) ?_;simp only[go_sem,Qa,ht,hm,ZD,QG,Ju,Gw,Wg yl,bne,hz];exact⟨by rw[e],bad _ (by rw[e];decide)⟩
    ·refine KU Qi hb 200 mixed [(0,true),(1,true),(2,true),(3,true),(4,true),(5,true),(6,true),(7,true),(8,true),(9,true),(10,false),(11,false),(12,true)] (by kernel_rfl) (by kernel_rfl) ?_;simp only[go_sem,Qa,ht,hm,ZD,QG,Ju,Gw,J5 yl,bne,hz];exact⟨by rw[e],bad _ (by rw[e];decide)⟩
   | false=>
    by_cases yl:x.parent=0
    ·refine KU Qi hb 200 mixed [(0,true),(1,true),(2,true),(3,true),(4,true),(5,true),(6,true),(7,true),(8,true),(9,true),(10,false),(11,false),(12,true)] (by kernel_rfl) (by kernel_rfl) ?_;simp only[go_sem,Qa,ht,hm,ZD,QG,Ju,Gw,Wg yl,bne,hz];have a2:E=(if 1<Q7 x.ls/\qv L x.parent=false then 29 else if (J6 L N x.parent).length=16 then 25 else 0):=by rw[a1,Qd (by rw[jV];rintro (⟨h1,_⟩|h1);exact h1 yl;exact absurd h1 (by simp[hz]))]
     refine ZW hb vX rfl ?_ (v8 x) (Qn.flat rfl) rfl λd h hR=>?_
     ·simp only[go_sem,Qa]
     obtain⟨rfl,rfl⟩:=hR;refine Qe hb ?_;simp only[go_sem,Qa];cases Jd:decide (1<Q7 x.ls)
     ·simp only[go_sem,Qa,Go.undef];refine Z8 hb PX rfl ?_ (P9 _ t m c T (XV ht) (XV hm) x.parent N hN hE) rfl λd hR=>?_
      ·simp only[go_sem,Qa]
      subst hR;refine Qe hb ?_;simp only[go_sem,Qa];by_cases hd:(J6 L N x.parent).length=16
      ·have e:E=25:=by rw[a2,Qd (by simp at Jd;omega),Qf hd]
       have KN:(((J6 L N x.parent).length:Int)==16)=true:=by simp;omega
       simp only[go_sem,Qa,KN];exact⟨by rw[e],bad _ (by rw[e];decide)⟩
      ·have e:E=0:=by rw[a2,Qd (by simp at Jd;omega),Qd hd]
       have KN:(((J6 L N x.parent).length:Int)==16)=false:=by simp;omega
       simp only[go_sem,Qa,KN];refine KU Qi hb 200 mixed [(0,true),(1,true),(2,true),(3,true),(4,true),(5,true),(6,true),(7,false)] (by kernel_rfl) (by kernel_rfl) ?_;simp only[go_sem,Qa,ht,hm,ZD,QG];rw[Qf e];exact⟨by rw[e],Xm.QX h t m c T ht hm x _⟩
     ·simp only[go_sem,Qa,Go.undef];refine Z8 hb iQ rfl ?_ (lL _ t m c T (XV ht) (XV hm) x.parent) rfl λd hR=>?_
      ·simp only[go_sem,Qa]
      subst hR;refine Qe hb ?_;simp only[go_sem,Qa];cases JL:qv L x.parent
      ·have e:E=29:=by rw[a2,Qf ⟨by simpa using Jd,JL⟩]
       simp only[go_sem,Qa,Go.undef];exact⟨by rw[e],bad _ (by rw[e];decide)⟩
      ·simp only[go_sem,Qa,Go.undef];refine Z8 hb PX rfl ?_ (P9 _ t m c T (XV ht) (XV hm) x.parent N hN hE) rfl λd hR=>?_
       ·simp only[go_sem,Qa]
       subst hR;refine Qe hb ?_;simp only[go_sem,Qa];by_cases hd:(J6 L N x.parent).length=16
       ·have e:E=25:=by rw[a2,Qd (by rw[JL];simp),Qf hd]
        have KN:(((J6 L N x.parent).length:Int)==16)=true:=by simp;omega
        simp only[go_sem,Qa,KN];exact⟨by rw[e],bad _ (by rw[e];decide)⟩
       ·have e:E=0:=by rw[a2,Qd (by rw[JL];simp),Qd hd]
        have KN:(((J6 L N x.parent).length:Int)==16)=false:=by simp;omega
        simp only[go_sem,Qa,KN];refine KU Qi hb 200 mixed [(0,true),(1,true),(2,true),(3,true),(4,true),(5,true),(6,true),(7,false)] (by kernel_rfl) (by kernel_rfl) ?_;simp only[go_sem,Qa,ht,hm,ZD,QG];rw[Qf e];exact⟨by rw[e],Xm.QX h t m c T ht hm x _⟩
    ·refine KU Qi hb 200 mixed [(0,true),(1,true),(2,true),(3,true),(4,true),(5,true),(6,true),(7,true),(8,true),(9,true),(10,false),(11,false),(12,true)] (by kernel_rfl) (by kernel_rfl) ?_;simp only[go_sem,Qa,ht,hm,ZD,QG,Ju,Gw,J5 yl,bne,hz];have a2:E=(if 1<Q7 x.ls/\qv L x.parent=false then 29 else if (J6 L N x.parent).length=16 then 25 else 0):=by rw[a1,Qd (by simp[jV,hz])]
     refine ZW hb vX rfl ?_ (v8 x) (Qn.flat rfl) rfl λd h hR=>?_
     ·simp only[go_sem,Qa]
     obtain⟨rfl,rfl⟩:=hR;refine Qe hb ?_;simp only[go_sem,Qa];cases Jd:decide (1<Q7 x.ls)
     ·simp only[go_sem,Qa,Go.undef];refine Z8 hb PX rfl ?_ (P9 _ t m c T (XV ht) (XV hm) x.parent N hN hE) rfl λd hR=>?_
      ·simp only[go_sem,Qa]
      subst hR;refine Qe hb ?_;simp only[go_sem,Qa];by_cases hd:(J6 L N x.parent).length=16
      ·have e:E=25:=by rw[a2,Qd (by simp at Jd;omega),Qf hd]
       have KN:(((J6 L N x.parent).length:Int)==16)=true:=by simp;omega
       simp only[go_sem,Qa,KN];exact⟨by rw[e],bad _ (by rw[e];decide)⟩
      ·have e:E=0:=by rw[a2,Qd (by simp at Jd;omega),Qd hd]
       have KN:(((J6 L N x.parent).length:Int)==16)=false:=by simp;omega
       simp only[go_sem,Qa,KN];refine KU Qi hb 200 mixed [(0,true),(1,true),(2,true),(3,true),(4,true),(5,true),(6,true),(7,false)] (by kernel_rfl) (by kernel_rfl) ?_;simp only[go_sem,Qa,ht,hm,ZD,QG];rw[Qf e];exact⟨by rw[e],Xm.QX h t m c T ht hm x _⟩
     ·simp only[go_sem,Qa,Go.undef];refine Z8 hb iQ rfl ?_ (lL _ t m c T (XV ht) (XV hm) x.parent) rfl λd hR=>?_
      ·simp only[go_sem,Qa]
      subst hR;refine Qe hb ?_;simp only[go_sem,Qa];cases JL:qv L x.parent
      ·have e:E=29:=by rw[a2,Qf ⟨by simpa using Jd,JL⟩]
       simp only[go_sem,Qa,Go.undef];exact⟨by rw[e],bad _ (by rw[e];decide)⟩
      ·simp only[go_sem,Qa,Go.undef];refine Z8 hb PX rfl ?_ (P9 _ t m c T (XV ht) (XV hm) x.parent N hN hE) rfl λd hR=>?_
       ·simp only[go_sem,Qa]
       subst hR;refine Qe hb ?_;simp only[go_sem,Qa];by_cases hd:(J6 L N x.parent).length=16
       ·have e:E=25:=by rw[a2,Qd (by rw[JL];simp),Qf hd]
        have KN:(((J6 L N x.parent).length:Int)==16)=true:=by simp;omega
        simp only[go_sem,Qa,KN];exact⟨by rw[e],bad _ (by rw[e];decide)⟩
       ·have e:E=0:=by rw[a2,Qd (by rw[JL];simp),Qd hd]
        have KN:(((J6 L N x.parent).length:Int)==16)=false:=by simp;omega
        simp only[go_sem,Qa,KN];refine KU Qi hb 200 mixed [(0,true),(1,true),(2,true),(3,true),(4,true),(5,true),(6,true),(7,false)] (by kernel_rfl) (by kernel_rfl) ?_;simp only[go_sem,Qa,ht,hm,ZD,QG];rw[Qf e];exact⟨by rw[e],Xm.QX h t m c T ht hm x _⟩
end
def Dh(L:List Qw)(id:Int):Int:=if (QF L id).isNone then 6 else if Xl L id≠[] then 23 else 0
section
variable (h:List Ob)(t m c:Nat){es:List ZU}{L:List Qw}(T:VW es L)(hlen:L.length<1000000)
 (ht:h[t]? = some ⟨.one,0,1,1,λ_=>[.mref m 0]⟩) (hm:h[m]? = some (QS .i64 c es))
include T ht hm hlen
omit hlen T in
theorem Xm.put{c'}{es'}{L'}(T':VW es' L')(g):Xm h t m L' (h.set m (QS .i64 c' es')++g):=by
 have QG:=Qc hm;have ZD:=Qc ht;have Qz:m≠t:=by rintro rfl;rw[ht]at hm;cases hm
 refine⟨⟨c',es',?_,?_,T'⟩,by simp,λl hl Jx=>?_⟩
 ·rw[Qx (by simpa using ZD),Qk Qz];exact ht
 ·rw[Qx (by simpa using QG),Qs QG]
 ·rw[Qx (by simpa using hl),Qk (Q8 Jx)]
theorem QwR(id):QK prog 187 h [.ptr t 0 0 0,Qb id] (λd h'=>d=Qb (Dh L id)/\Xm h t m (if Dh L id=0 then XT L id else L) h'):=by
 have hk:=T.look id;have ZD:=Qc ht;have QG:=Qc hm;obtain⟨E,wc⟩:∃E,E=Dh L id:=⟨_,rfl⟩;rw[<- wc];have bad:∀g:List Ob,E≠0->Xm h t m (if E=0 then XT L id else L) (h++g):=λg Qz=>by rw[Qd Qz];exact Xm.same h t m c ht hm T g
 cases hf:QF L id with
 | none=>
  have e:E=6:=by rw[wc,Dh,Qf (by simp[hf])]
  rw[hf,zq]at hk;refine Q6 Qi 200 func187 rfl ntmps187 results187 rfl λbase w pl hb=>?_;have ZD:=Qc ht;have QG:=Qc hm;simp only[go_sem,Qa,ht,ZD,hm,QG,hk];exact⟨by rw[e],bad _ (by rw[e];decide)⟩
 | some x=>
  rw[hf,K0]at hk;have a1:E=if Xl L id≠[] then 23 else 0:=by rw[wc,Dh,Qd (by simp[hf])]
  refine Q6 Qi 200 func187 rfl ntmps187 results187 rfl λbase w pl hb=>?_;have ZD:=Qc ht;have QG:=Qc hm;simp only[go_sem,Qa,ht,ZD,hm,QG,hk];refine Is hb tv rfl ?_ (uc _ t m c T hlen (XV ht) (XV hm) id) rfl λd g hs=>?_
  ·simp only[go_sem]
  rcases hs with ⟨rfl,h0⟩|⟨lo,gn,off,row,rfl,Zm,ho,hr⟩
  ·have e:E=0:=by rw[a1,Qd (by simp[h0])]
   refine Qe hb ?_;simp only[go_sem,Qa,ht,hm,ZD,QG];rw[Qf e];exact⟨by rw[e],Xm.put h t m c ht hm (Qix T id) _⟩
  ·have Qg:=Qc ho;refine Qe hb ?_;by_cases h0:Xl L id=[]
   ·have e:E=0:=by rw[a1,Qd (by simp[h0])]
    simp only[go_sem,Qa,ht,hm,ZD,QG,ho,Qg,h0];rw[Qf e];exact⟨by rw[e],Xm.put h t m c ht hm (Qix T id) _⟩
   ·have e:E=23:=by rw[a1,Qf h0]
    have qk:0<(Xl L id).length:=List.length_pos_iff.2 h0;have Yz:(0:Int)<((Xl L id).length:Int):=by omega
    simp only[go_sem,Qa,ht,hm,ZD,QG,ho,Qg,Yz,Q5 Yz];exact⟨by rw[e],bad _ (by rw[e];decide)⟩
end
def ud(h:List Ob):(h.map Ob.ro).map Ob.ro=h.map Ob.ro:=by rw[xT];exact Ec λo _=>ro_ro o
def QiG(F:List Ob)(f nf:Nat)(QI:List D)(g:Int->Bool):Prop:=∀(h:List Ob) (n:Int),Vt F h->QV prog f h (JT nf QI [Qb n]) (λd=>d=QJ (g n))
def yv(g:Int->Bool)(l:List Int):Int:=match l.findIdx? g with
 | some i=>i
 | none=>-1
def ue{g}{l:List Int}{k}(hk:k<l.length)(h:∀i,i<k->g (l.getD i 0)=false)(hg:g (l.getD k 0)=true):yv g l=k:=by
 have e:l.findIdx? g=some k:=by
  rw[Hz];refine⟨hk,by simpa[Ze,hk] using hg,λi hi=>?_⟩;have:=h i hi;simpa[Ze,show i<l.length by omega] using this
 rw[yv,e]
def uf{g}{l:List Int}(h:∀i,i<l.length->g (l.getD i 0)=false):yv g l=-1:=by
 have e:l.findIdx? g=none:=by
  rw[Mi];intro x hx;obtain⟨i,hi,rfl⟩:=y9 hx;have:=h i hi;simpa[Ze,hi] using this
 rw[yv,e]
section
variable (h:List Ob)(l:List Int)(lo gn off:Nat)(row:Nat->List D)(hlen:l.length<1000000)(ho:(h.map Ob.ro)[lo]? = some ⟨.Be,gn,1,off+l.length,row⟩)(hr:∀i,i<l.length->row (off+i)=[Qb (l.getD i 0)])
include hlen ho hr
theorem QwS(so:D)(f nf:Nat)(QI:List D)(hf:Qo prog f)(V8:KM so=some (f,nf,QI))(gk:Int->Bool)(hg:QiG (h.map Ob.ro) f nf QI gk):
  QV prog 144 h [.ref lo gn off l.length,so] (λd=>d=Qb (yv gk l)):=by
 refine Zq Qi 200 func144 rfl ntmps144 results144 rfl λbase w pl F hF Q3 hb=>?_;rw[<- hF]at ho;have Qg:=Qc ho;simp only[go_sem,Qa,ho,Qg];refine Jg (λk s=>(∀i,i<k->gk (l.getD i 0)=false)/\s=⟨[(0,.ref lo gn off l.length),(1,so),(7,Qb l.length),(8,Qb k)],F⟩) l.length (Qp.frame (by simp only[go_sem])) ⟨λi hi=>absurd hi (by omega),rfl⟩ ?_;rintro k s hk ⟨hn,rfl⟩;refine Qe hb ?_;simp only[go_sem,Qa];have Qg:=Qc ho;have QT:=JX (show k<4611686018427387904 by omega);first|refine YU hk (λQj=>?_) (λQj=>?_)|refine qu hk (λQj=>?_) (λQj=>?_)
 ·have yw:=hr k Qj;have jW:off+k<off+l.length:=by omega
  simp only[go_sem,Qa,ho,Qg,Qj,yw,jW];refine Z8 hb hf V8 ?_ (hg F (l.getD k 0) (by rw[<- hF];exact Vt.refl F)) rfl λd2 hR=>?_
  ·simp only[go_sem];exact ER _
  subst hR;refine Qe hb ?_;cases kR:gk (l.getD k 0)
  ·simp only[go_sem,Qa];refine⟨Qj,_,Qp.frame (by simp only[go_sem,QT]),λi hi=>?_,rfl⟩;by_cases h1:i<k
   ·exact hn i h1
   ·have:i=k:=by omega
    subst this;exact kR
  ·rw[ue Qj hn kR];simp only[go_sem,Qa];exact⟨[],(QU F).symm⟩
 ·have Qj:k=l.length:=by omega
  subst Qj;simp only[go_sem,YP];rw[uf hn];refine Qe hb ?_;simp only[go_sem,Qa];exact⟨[],(QU F).symm⟩
theorem QwT(so:D)(f nf:Nat)(QI:List D)(hf:Qo prog f)(V8:KM so=some (f,nf,QI))(gk:Int->Bool)(hg:QiG (h.map Ob.ro) f nf QI gk):
  QV prog 106 h [.ref lo gn off l.length,so] (λd=>d=QJ (decide (0<=yv gk l))):=by
 refine Zq Qi 200 func106 rfl ntmps106 results106 rfl λbase w pl F hF Q3 hb=>?_;rw[<- hF]at ho;have Qg:=Qc ho;simp only[go_sem,Qa,ho,Qg];refine Z8 hb UE rfl ?_ (QwS F l lo gn off row hlen (Z3 ho) hr so f nf QI hf V8 gk (λh' n hx=>?_)) rfl λd2 hR=>?_
 ·simp only[go_sem];exact Df so
 ·rw[hF,ud]at hx;exact hg h' n hx
 subst hR;refine Qe hb ?_;simp only[go_sem,Qa];exact⟨[],(QU F).symm⟩
end
def QiH(h)(so):QV prog 144 h [.nil,so] (λd=>d=Qb (-1)):=by
 refine Zq Qi 200 func144 rfl ntmps144 results144 rfl λbase w pl F hF Q3 hb=>?_;simp only[go_sem,Qa];refine Jg (λk s=>s=⟨[(7,Qb 0),(8,Qb 0)],F⟩) 0 (Qp.frame (by simp only[go_sem])) rfl ?_;rintro k s hk rfl;refine Qe hb ?_;simp only[go_sem,Qa];refine Qe hb ?_;simp only[go_sem,Qa];exact⟨[],(QU F).symm⟩
def QwU(h)(so):QV prog 106 h [.nil,so] (λd=>d=QJ false):=by
 refine Zq Qi 200 func106 rfl ntmps106 results106 rfl λbase w pl F hF Q3 hb=>?_;simp only[go_sem,Qa];refine Z8 hb UE rfl ?_ (QiH F so) rfl λd2 hR=>?_
 ·simp only[go_sem];exact Df so
 subst hR;refine Qe hb ?_;simp only[go_sem,Qa];exact⟨[],(QU F).symm⟩
def UL(g)(l:List Int):decide (0<=yv g l)=l.any g:=by
 unfold yv;cases h:l.findIdx? g with
 | some i=>
  have:=Hz.1 h;obtain⟨h1,h2,_⟩:=this;have e:l.any g=true:=Eb.2 ⟨_,qK h1,h2⟩;rw[e];simp
 | none=>
  have:=Mi.1 h;have e:l.any g=false:=by rw[List.any_eq_false];intro x hx;simp[this x hx]
  rw[e];decide
def yx(L:List Qw)(id:Int):Bool:=decide (1<Q7 ((QF L id).getD default).ls)
def Di(L:List Qw)(x:Qw):Int:=
 if VP x≠0 then VP x
 else if (QF L x.iD).isNone then 6
 else if x.parent≠((QF L x.iD).getD default).parent\/x.leaf≠((QF L x.iD).getD default).leaf then 1
 else if (1<Q7 x.ls/\qv L x.parent=false)\/(¬ 1<Q7 x.ls/\(Xl L x.iD).any (yx L)=true) then 29
 else 0
section
variable (h:List Ob)(t m c tb:Nat){es:List ZU}{L:List Qw}(T:VW es L)
 (ht:(h.map Ob.ro)[t]? = some ⟨.Wn,0,1,1,λ_=>[.mref m 0]⟩) (hm:(h.map Ob.ro)[m]? = some (QS .i64 c es).ro)
 (ZG:(h.map Ob.ro)[tb]? = some ⟨.Wn,0,1,1,λ_=>[.ptr t 0 0 0]⟩)
include T ht hm ZG
theorem QwV(id):QV prog 234 h [Qb id,.ptr tb 0 0 0] (λd=>d=QJ (yx L id)):=by
 have hk:=T.look id;unfold yx;cases hf:QF L id with
 | none=>
  rw[hf,zq]at hk;refine Zq Qi 200 func234 rfl ntmps234 results234 rfl λbase w pl F hF Q3 hb=>?_;rw[<- hF]at ht hm ZG;have ZD:=Qc ht;have QG:=Qc hm;have Ar:=Qc ZG;simp only[go_sem,Qa,ht,ZD,hm,QG,ZG,Ar,hk];refine ZW hb vX rfl ?_ (v8 ⟨0,0,false,⟨0,0,0⟩,⟨0,0,0⟩,⟨0,0,0⟩,0,0⟩) (Qn.flat rfl) rfl λd h hR=>?_
  ·simp only[go_sem,Qa]
  obtain⟨rfl,rfl⟩:=hR;refine Qe hb ?_;simp only[go_sem,Qa];exact⟨[],(QU F).symm,rfl⟩
 | some x=>
  rw[hf,K0]at hk;refine Zq Qi 200 func234 rfl ntmps234 results234 rfl λbase w pl F hF Q3 hb=>?_;rw[<- hF]at ht hm ZG;have ZD:=Qc ht;have QG:=Qc hm;have Ar:=Qc ZG;simp only[go_sem,Qa,ht,ZD,hm,QG,ZG,Ar,hk];refine ZW hb vX rfl ?_ (v8 x) (Qn.flat rfl) rfl λd h hR=>?_
  ·simp only[go_sem,Qa]
  obtain⟨rfl,rfl⟩:=hR;refine Qe hb ?_;simp only[go_sem,Qa];exact⟨[],by simp⟩
end
section
variable (h:List Ob)(t m c:Nat){es:List ZU}{L:List Qw}(T:VW es L)(hlen:L.length<1000000)
 (ht:h[t]? = some ⟨.one,0,1,1,λ_=>[.mref m 0]⟩) (hm:h[m]? = some (QS .i64 c es))
include T ht hm hlen
theorem QwW(x):QK prog 185 h [.ptr t 0 0 0,Yy x] (λd h'=>d=Qb (Di L x)/\Xm h t m (if Di L x=0 then WJ L x else L) h'):=by
 have hk:=T.look x.iD;have ZD:=Qc ht;have QG:=Qc hm;obtain⟨E,wc⟩:∃E,E=Di L x:=⟨_,rfl⟩;rw[<- wc];have bad:∀g:List Ob,E≠0->Xm h t m (if E=0 then WJ L x else L) (h++g):=λg Qz=>by rw[Qd Qz];exact Xm.same h t m c ht hm T g
 refine Q6 Qi 200 func185 rfl ntmps185 results185 rfl λbase w pl hb=>?_;have ZD:=Qc ht;have QG:=Qc hm;simp only[go_sem,Qa,ht,ZD,hm,QG];refine ZW hb QhA rfl ?_ (Qiq x) (Qn.flat rfl) rfl λd h hR=>?_
 ·simp only[go_sem,Qa]
 obtain⟨rfl,rfl⟩:=hR;refine Qe hb ?_;simp only[go_sem,Qa];by_cases h0:VP x=0;case neg=>
  have e:E=VP x:=by rw[wc,Di,Qf h0]
  simp only[go_sem,Qa,J5 h0,bne];exact⟨by rw[e],bad _ (by rw[e];exact h0)⟩
 simp only[go_sem,Qa,Wg h0,bne];cases ET:QF L x.iD with
 | none=>
  have e:E=6:=by rw[wc,Di,Qd (by simpa using h0),Qf (by simp[ET])]
  rw[ET,zq]at hk;refine KU Qi hb 200 mixed [(0,true),(1,true),(2,true),(3,true),(4,true),(5,true),(6,true),(7,true),(8,true),(9,true),(10,false),(11,false),(12,true)] (by kernel_rfl) (by kernel_rfl) ?_;simp only[go_sem,Qa,ht,hm,ZD,QG,hk];exact⟨by rw[e],bad _ (by rw[e];decide)⟩
 | some y=>
  rw[ET,K0]at hk;have a1:E=(if x.parent≠y.parent\/x.leaf≠y.leaf then 1 else if (1<Q7 x.ls/\qv L x.parent=false)\/(¬ 1<Q7 x.ls/\(Xl L x.iD).any (yx L)=true) then 29 else 0):=by
   rw[wc,Di,Qd (by simpa using h0),Qd (by simp[ET]),ET];rfl
  by_cases hp:x.parent=y.parent;case neg=>
   have e:E=1:=by rw[a1,Qf (.inl hp)]
   refine KU Qi hb 200 mixed [(0,true),(1,true),(2,true),(3,true),(4,true),(5,true),(6,true),(7,true),(8,true),(9,true),(10,false),(11,false),(12,true)] (by kernel_rfl) (by kernel_rfl) ?_;simp only[go_sem,Qa,ht,hm,ZD,QG,hk,J5 hp,bne];exact⟨by rw[e],bad _ (by rw[e];decide)⟩
  by_cases hl:x.leaf=y.leaf;case neg=>
   have e:E=1:=by rw[a1,Qf (.inr hl)]
   have Jx:(x.leaf==y.leaf)=false:=by simpa using hl
   refine KU Qi hb 200 mixed [(0,true),(1,true),(2,true),(3,true),(4,true),(5,true),(6,true),(7,true),(8,true),(9,true),(10,false),(11,false),(12,true)] (by kernel_rfl) (by kernel_rfl) ?_;simp only[go_sem,Qa,ht,hm,ZD,QG,hk,Wg hp,bne,Jx];exact⟨by rw[e],bad _ (by rw[e];decide)⟩
  have Jx:(x.leaf==y.leaf)=true:=by simpa using hl
  rw[Qd (by simp[hp,hl])]at a1;refine KU Qi hb 200 mixed [(0,true),(1,true),(2,true),(3,true),(4,true),(5,true),(6,true),(7,true),(8,true),(9,true),(10,false),(11,false),(12,true)] (by kernel_rfl) (by kernel_rfl) ?_;simp only[go_sem,Qa,ht,hm,ZD,QG,hk,Wg hp,bne,Jx];refine ZW hb vX rfl ?_ (v8 x) (Qn.flat rfl) rfl λd h hR=>?_
  ·simp only[go_sem,Qa]
  obtain⟨rfl,rfl⟩:=hR;refine Qe hb ?_;simp only[go_sem,Qa];cases Jd:decide (1<Q7 x.ls)
  ·have Ra:¬ 1<Q7 x.ls:=by simpa using Jd
   simp only[go_sem,Qa,Go.undef];refine ZW hb vX rfl ?_ (v8 x) (Qn.flat rfl) rfl λd h hR=>?_
   ·simp only[go_sem,Qa,Jd,Go.undef]
   obtain⟨rfl,rfl⟩:=hR;refine Qe hb ?_;simp only[go_sem,Qa,Jd,Go.undef];refine Is hb tv rfl ?_ (uc _ t m c T hlen (XV ht) (XV hm) x.iD) rfl λd g hs=>?_
   ·simp only[go_sem]
   rcases hs with ⟨rfl,Rb⟩|⟨lo,gn,off,row,rfl,Zm,ho,hr⟩
   ·have e:E=0:=by rw[a1,Qd (by rintro (⟨h1,_⟩|⟨_,h1⟩);exact Ra h1;rw[Rb]at h1;simp at h1)]
    refine Qe hb ?_;simp only[go_sem,Qa,ht,hm,ZD,QG];refine Z8 hb UD rfl ?_ (QwU _ (.clo 234 0 [.ptr h.length 0 0 0])) rfl λd hR=>?_
    ·simp only[go_sem,Qa,Go.undef]
    subst hR;refine Qe hb ?_;simp only[go_sem,Qa,Go.undef];refine KU Qi hb 200 mixed [(0,true),(1,true),(2,true),(3,true),(4,true),(5,true),(6,true),(7,false)] (by kernel_rfl) (by kernel_rfl) ?_;simp only[go_sem,Qa,ht,hm,ZD,QG];rw[Qf e];exact⟨by rw[e],Xm.QX h t m c T ht hm x _⟩
   ·refine Qe hb ?_;have ZP:(Xl L x.iD).length<1000000:=by
     have:=qL (λy:Qw=>y.parent==x.iD) L;unfold Xl;rw[Kl];omega
    rw[WC]at ho;simp only[go_sem,Qa,ht,hm,ZD,QG];refine Z8 hb UD rfl ?_ (QwT _ (Xl L x.iD) lo gn off row ZP (Z3 ho) hr (.clo 234 0 [.ptr h.length 0 0 0]) 234 0 [.ptr h.length 0 0 0] QvL rfl (yx L) (λh' n hx=>QwV h' t m c h.length T (Z3 (hx.get (XV ht))) (Np (hx.get (XV hm))) (Z3 (hx.get (Z3 (o:=⟨.one,0,1,1,λ_=>[.ptr t 0 0 0]⟩) (by rw[Kx rfl];rfl)))) n)) rfl λd hR=>?_
    ·simp only[go_sem,Qa,Go.undef,UL]
    subst hR;refine Qe hb ?_;simp only[go_sem,Qa,Go.undef,UL];cases Gx:(Xl L x.iD).any (yx L)
    ·have e:E=0:=by rw[a1,Qd (by rw[Gx];simp[Ra])]
     simp only[go_sem,Qa,Go.undef];refine KU Qi hb 200 mixed [(0,true),(1,true),(2,true),(3,true),(4,true),(5,true),(6,true),(7,false)] (by kernel_rfl) (by kernel_rfl) ?_;simp only[go_sem,Qa,ht,hm,ZD,QG];rw[Qf e];exact⟨by rw[e],Xm.QX h t m c T ht hm x _⟩
    ·have e:E=29:=by rw[a1,Qf (.inr ⟨Ra,Gx⟩)]
     simp only[go_sem,Qa,Go.undef];exact⟨by rw[e],bad _ (by rw[e];decide)⟩
  ·have Ra:1<Q7 x.ls:=by simpa using Jd
   simp only[go_sem,Qa,Go.undef];refine Z8 hb iQ rfl ?_ (lL _ t m c T (XV ht) (XV hm) x.parent) rfl λd hR=>?_
   ·simp only[go_sem,Qa]
   subst hR;refine Qe hb ?_;simp only[go_sem,Qa];cases JL:qv L x.parent
   ·have e:E=29:=by rw[a1,Qf (.inl ⟨Ra,JL⟩)]
    simp only[go_sem,Qa,Go.undef];exact⟨by rw[e],bad _ (by rw[e];decide)⟩
   ·have e:E=0:=by rw[a1,Qd (by rw[JL];simp[Ra])]
    simp only[go_sem,Qa,Go.undef];refine ZW hb vX rfl ?_ (v8 x) (Qn.flat rfl) rfl λd h hR=>?_
    ·simp only[go_sem,Qa,Jd,Go.undef]
    obtain⟨rfl,rfl⟩:=hR;refine Qe hb ?_;simp only[go_sem,Qa,Jd,Go.undef];refine KU Qi hb 200 mixed [(0,true),(1,true),(2,true),(3,true),(4,true),(5,true),(6,true),(7,false)] (by kernel_rfl) (by kernel_rfl) ?_;simp only[go_sem,Qa,ht,hm,ZD,QG];rw[Qf e];exact⟨by rw[e],Xm.QX h t m c T ht hm x _⟩
end
def BK{L}(h:XD L)(x:Qw)(k):QF (WJ L x) k=if k=x.iD then some x else QF L k:=by
 have hr:=P7 x h;have hm:=λc=>(Nk x h).mem_iff (a:=c);by_cases hk:k=x.iD
 ·rw[Qf hk];exact(Vs hr).2 ⟨(hm x).2 (by simp),hk.symm⟩
 ·rw[Qd hk];cases hf:QF L k with
  | some c=>
   obtain⟨h1,h2⟩:=(Vs h).1 hf;exact(Vs hr).2 ⟨(hm c).2 (QM.2 (.inr (J8.2 ⟨h1,by simp;omega⟩))),h2⟩
  | none=>
   rw[IB]at hf ⊢;intro c hc;rcases QM.1 ((hm c).1 hc) with rfl|hc
   ·exact λe=>hk e.symm
   ·exact hf c (J8.1 hc).1
def UM{L}(h:XD L)(k0 k):QF (XT L k0) k=if k=k0 then none else QF L k:=by
 have hr:=tX k0 h;by_cases hk:k=k0
 ·rw[Qf hk,IB];intro c hc;have:=(J8.1 hc).2;simp at this;omega
 ·rw[Qd hk];cases hf:QF L k with
  | some c=>
   obtain⟨h1,h2⟩:=(Vs h).1 hf;exact(Vs hr).2 ⟨J8.2 ⟨h1,by simp;omega⟩,h2⟩
  | none=>
   rw[IB]at hf ⊢;exact λc hc=>hf c (J8.1 hc).1
def Ends.succ{L}:∀{n:Nat} {id:Int},Ends L n id->Ends L (n+1) id
 | 0,id,h=>by simp only[Ends]at h ⊢;rw[h];trivial
 | n+1,id,h=>by
  rw[Ends]at h ⊢;cases hf:QF L id with
  | none=>trivial
  | some c=>rw[hf]at h;exact Ends.succ h
def Ends.le{L}{n k}{id}(h:Ends L n id)(hk:n<=k):Ends L k id:=by
 induction hk with
 | refl=>exact h
 | step _ ih=>exact ih.succ
def QiI{L}:∀{n:Nat} {id:Int},Ends L n id->J6 L (n+1) id=J6 L n id
 | 0,id,h=>by simp only[Ends]at h;simp only[J6,h]
 | n+1,id,h=>by
  rw[Ends]at h;rw[J6]
  conv=>rhs;rw[J6]
  cases hf:QF L id with
  | none=>rfl
  | some c=>rw[hf]at h;simp only[QiI h]
def Dj{L}:∀{n:Nat} {id:Int},(J6 L n id).length<=n
 | 0,_=>QB _
 | n+1,id=>by
  rw[J6];cases QF L id with
  | none=>exact Z7 _
  | some c=>have:=Dj (L:=L) (n:=n) (id:=c.parent);simp only[Vh];omega
def Ends.short{L}:∀{n k:Nat} {id:Int},Ends L n id->(J6 L n id).length<=k->Ends L k id
 | 0,k,id,h,_=>h.le (Z7 _)
 | n+1,k,id,h,hk=>by
  rw[Ends]at h;rw[J6]at hk;cases hf:QF L id with
  | none=>cases k with
   | zero=>exact hf
   | succ k=>rw[Ends,hf];trivial
  | some c=>
   rw[hf]at h hk;simp only[Vh]at hk;cases k with
   | zero=>omega
   | succ k=>rw[Ends,hf];exact Ends.short h (by omega)
structure TreeInv (L:List Qw):Prop where
 rising:XD L
 ids:∀c∈L,1<=c.iD
 par:∀c∈L,c.parent=0\/(QF L c.parent).isSome=true
 ends:∀id,Ends L 16 id
def TreeInv.nil:TreeInv []:=⟨by simp[XD],by simp,by simp,λid=>by simp[Ends,QF]⟩
def right_id{x:Qw}(h:VP x=0):1<=x.iD/\x.iD<=65536/\x.parent≠x.iD:=by
 have h2:Gu x=true:=by
  cases h3:Gu x with
  | true=>rfl
  | false=>rw[VP,h3]at h;simp at h
 simp[Gu,BI]at h2;exact⟨h2.1.1.1,h2.1.1.2,h2.2⟩
def lQ{L}(h:XD L)(x){k:Int}(hk:(QF L k).isSome=true):(QF (WJ L x) k).isSome=true:=by
 rw[BK h];split
 ·rfl
 ·exact hk
def BL{L}(h:XD L)(x){c}(hc:c∈WJ L x):c=x\/c∈L:=by
 rcases QM.1 ((Nk x h).mem_iff.1 hc) with h1|h1
 ·exact .inl h1
 ·exact .inr (J8.1 h1).1
def TreeInv.add{L}(I:TreeInv L){x:Qw}(h0:VP x=0)(h1:QF L x.iD=none)(h2:x.parent=0\/(QF L x.parent).isSome=true)(h3:(J6 L 16 x.parent).length≠16):TreeInv (WJ L x):=by
 obtain⟨i1,_,i3⟩:=right_id h0;have key:∀n id,id≠x.iD->Ends L n id->Ends (WJ L x) n id:=by
  intro n;induction n with
  | zero=>intro id Zg h;rw[Ends]at h ⊢;rw[BK I.rising,Qd Zg];exact h
  | succ n ih=>
   intro id Zg h;rw[Ends]at h ⊢;rw[BK I.rising,Qd Zg];cases hf:QF L id with
   | none=>trivial
   | some c=>
    rw[hf]at h;refine ih _ ?_ h;rcases I.par c ((Vs I.rising).1 hf).1 with hp|hp
    ·rw[hp];omega
    ·intro e;rw[e,h1]at hp;cases hp
 refine⟨P7 x I.rising,λc hc=>?_,λc hc=>?_,λid=>?_⟩
 ·rcases BL I.rising x hc with rfl|hc
  ·exact i1
  ·exact I.ids c hc
 ·rcases BL I.rising x hc with rfl|hc
  ·exact h2.imp id λh=>lQ I.rising c h
  ·exact(I.par c hc).imp id λh=>lQ I.rising x h
 ·by_cases Zg:id=x.iD
  ·subst Zg;rw[Ends,BK I.rising,Qf rfl];refine key 15 _ i3 ((I.ends x.parent).short ?_);have:=Dj (L:=L) (n:=16) (id:=x.parent);omega
  ·exact key 16 id Zg (I.ends id)
def TreeInv.del{L}(I:TreeInv L){k0}(h:Xl L k0=[]):TreeInv (XT L k0):=by
 have Jy:∀c∈L,c.parent≠k0:=λc hc e=>by
  have:c∈L.filter (λy=>y.parent==k0):=J8.2 ⟨hc,by simp[e]⟩;have h2:(L.filter λy=>y.parent==k0)=[]:=by simpa[Xl] using h
  rw[h2]at this;simp at this
 refine⟨tX k0 I.rising,λc hc=>I.ids c (J8.1 hc).1,λc hc=>?_,λid=>?_⟩
 ·have x6:=(J8.1 hc).1;exact(I.par c x6).imp id λhp=>by rw[UM I.rising,Qd (Jy c x6)];exact hp
 ·have key:∀n id,Ends L n id->Ends (XT L k0) n id:=by
   intro n;induction n with
   | zero=>intro id h;rw[Ends]at h ⊢;rw[UM I.rising];split<;>simp[h]
   | succ n ih=>
    intro id h;rw[Ends]at h ⊢;rw[UM I.rising];by_cases Zg:id=k0
    ·rw[Qf Zg];trivial
    ·rw[Qd Zg];cases hf:QF L id with
     | none=>trivial
     | some c=>rw[hf]at h;exact ih _ h
  exact key 16 id (I.ends id)
def TreeInv.set{L}(I:TreeInv L){x y:Qw}(h0:VP x=0)(h1:QF L x.iD=some y)(h2:x.parent=y.parent):TreeInv (WJ L x):=by
 obtain⟨i1,_,i3⟩:=right_id h0;have key:∀n id,Ends L n id->Ends (WJ L x) n id:=by
  intro n;induction n with
  | zero=>
   intro id h;rw[Ends]at h ⊢;rw[BK I.rising];by_cases Zg:id=x.iD
   ·subst Zg;rw[h1]at h;cases h
   ·rw[Qd Zg];exact h
  | succ n ih=>
   intro id h;rw[Ends]at h ⊢;rw[BK I.rising];by_cases Zg:id=x.iD
   ·subst Zg;rw[Qf rfl];rw[h1]at h;show Ends (WJ L x) n x.parent;rw[h2];exact ih _ h
   ·rw[Qd Zg];cases hf:QF L id with
    | none=>trivial
    | some c=>rw[hf]at h;exact ih _ h
 refine⟨P7 x I.rising,λc hc=>?_,λc hc=>?_,λid=>key 16 id (I.ends id)⟩
 ·rcases BL I.rising x hc with rfl|hc
  ·exact i1
  ·exact I.ids c hc
 ·rcases BL I.rising x hc with rfl|hc
  ·rw[h2];exact(I.par y ((Vs I.rising).1 h1).1).imp id λh=>lQ I.rising c h
  ·exact(I.par c hc).imp id λh=>lQ I.rising x h
def up(T:List Qw)(id:Int):List Int:=J6 T 16 id
structure VR (T:List Qw):Prop extends TreeInv T where
 right:∀c∈T,VP c=0
 J4:∀c∈T,c.parent≠0->∃d,QF T c.parent=some d/\d.leaf=false
 lS:∀c∈T,1<Q7 c.ls->c.parent≠0->yx T c.parent=true
 len:T.length<=64
section
variable {T:List Qw}(I:VR T)
include I
theorem lT(id):up T id=match QF T id with|none=>[]|some c=>id::up T c.parent:=by
 have h1:=QiI (I.ends id);unfold up;rw[<- h1,J6];all_goals (cases QF T id<;>rfl)
theorem Vz{id}{c:Qw}(h:QF T id=some c):up T id=id::up T c.parent:=by rw[lT I,h]
theorem UN{id}(h:QF T id=none):up T id=[]:=by rw[lT I,h]
theorem QwX{id}{c:Qw}(h:QF T id=some c):c.iD=id:=((Vs I.rising).1 h).2
theorem As{id}{c}(h:QF T id=some c):c∈T:=((Vs I.rising).1 h).1
theorem Gy:QF T 0=none:=IB.2 λc hc e=>by have:=I.ids c hc;omega
theorem Nq:up T 0=[]:=UN I (Gy I)
omit I in
theorem IE{id j:Int}(h:j∈up T id):(QF T j).isSome=true:=by
 have:∀n id,j∈J6 T n id->(QF T j).isSome=true:=by
  intro n;induction n with
  | zero=>intro id h;cases h
  | succ n ih=>
   intro id h;rw[J6]at h;cases hf:QF T id with
   | none=>rw[hf]at h;cases h
   | some c=>
    rw[hf]at h;rcases QM.1 h with rfl|h
    ·rw[hf];rfl
    ·exact ih _ h
 exact this 16 id h
theorem Rc{a p}(h:p∈up T a):∃l,up T a=l++up T p:=by
 generalize hn:(up T a).length=n;induction n using Nat.strongRecOn generalizing a with
 | ind n ih=>
  cases hf:QF T a with
  | none=>rw[UN I hf]at h;cases h
  | some c=>
   have e:=Vz I hf;rw[e]at h hn;rcases QM.1 h with rfl|h
   ·exact⟨[],rfl⟩
   ·obtain⟨l,hl⟩:=ih _ (by simp only[Vh]at hn;omega) h rfl;exact⟨a::l,by rw[e,hl];rfl⟩
theorem up_sub{a p q}(h:p∈up T a)(h2:q∈up T p):q∈up T a:=by
 obtain⟨l,e⟩:=Rc I h;rw[e];exact OP _ h2
theorem YA{id}{c}(h:QF T id=some c):id∈up T id:=by rw[Vz I h];simp
theorem UO(id:Int):(up T id).Nodup:=by
 generalize hn:(up T id).length=n;induction n using Nat.strongRecOn generalizing id with
 | ind n ih=>
  cases hf:QF T id with
  | none=>rw[UN I hf];simp
  | some c=>
   have e:=Vz I hf;rw[e]at hn ⊢;rw[Jf];refine⟨λh=>?_,ih _ (by simp only[Vh]at hn;omega) _ rfl⟩;obtain⟨l,hl⟩:=Rc I h;have:=congrArg List.length hl;rw[e]at this;simp only[Zj,Vh]at this;omega
theorem lU{a p}(h:p∈up T a)(Qz:a≠p):∃i c,i∈up T a/\QF T i=some c/\c.parent=p:=by
 generalize hn:(up T a).length=n;induction n using Nat.strongRecOn generalizing a with
 | ind n ih=>
  cases hf:QF T a with
  | none=>rw[UN I hf]at h;cases h
  | some c=>
   have e:=Vz I hf;rw[e]at h hn;rcases QM.1 h with rfl|h
   ·exact absurd rfl Qz
   ·by_cases h2:c.parent=p
    ·exact⟨a,c,by rw[e];simp,hf,h2⟩
    ·obtain⟨i,d,h3,h4⟩:=ih _ (by simp only[Vh]at hn;omega) h h2 rfl;exact⟨i,d,by rw[e];simp[h3],h4⟩
theorem QwY{a i j}{c d:Qw}(hi:i∈up T a)(hj:j∈up T a)(ci:QF T i=some c)(dj:QF T j=some d)(e:c.parent=d.parent):i=j:=by
 obtain⟨l,hl⟩:=Rc I hi;obtain⟨m,hm⟩:=Rc I hj;have e1:=congrArg List.length (Vz I ci);have e2:=congrArg List.length (Vz I dj);have e3:(up T i).length=(up T j).length:=by rw[e1,e2,e];rfl
 have e4:=hl.symm.trans hm;obtain⟨_,e5⟩:=List.append_inj' e4 e3;rw[Vz I ci,Vz I dj]at e5;exact(xR e5).1
def JB(T:List Qw)(A:List Int)(id:Int):Bool:=A.any λa=>(up T a).contains id
omit I in
theorem qw{A}{id}:JB T A id=true↔∃a∈A,id∈up T a:=by simp[JB]
def js(T:List Qw)(A:List Int)(p i:Int):Bool:=(match QF T i with|some c=>c.parent==p|none=>false)&&JB T A i
omit I in
theorem yy{A}{p i}:js T A p i=true↔∃c,QF T i=some c/\c.parent=p/\JB T A i=true:=by
 unfold js;cases QF T i with
 | none=>simp
 | some c=>simp
def Au(T:List Qw)(A:List Int):Prop:=∀a∈A,∃c,QF T a=some c/\c.leaf=true/\1<Q7 c.ls
theorem Nr{A}{i p}(h:JB T A i=true)(hp:p∈up T i):JB T A p=true:=by
 obtain⟨a,ha,hi⟩:=qw.1 h;exact qw.2 ⟨a,ha,up_sub I hi hp⟩
theorem QiJ{A}(hA:Au T A){p}{d:Qw}(hp:QF T p=some d)(hd:d.leaf=false):JB T A p=true↔∃i,js T A p i=true:=by
 constructor
 ·intro h;obtain⟨a,ha,Dl⟩:=qw.1 h;obtain⟨c,h1,h2,h3⟩:=hA a ha;have Qz:a≠p:=by rintro rfl;rw[h1]at hp;cases hp;rw[h2]at hd;cases hd
  obtain⟨i,c,h4,h5,h6⟩:=lU I Dl Qz;exact⟨i,yy.2 ⟨c,h5,h6,qw.2 ⟨a,ha,h4⟩⟩⟩
 ·rintro⟨i,hi⟩;obtain⟨c,h1,h2,h3⟩:=yy.1 hi;have Yz:p∈up T i:=by
   rw[Vz I h1,h2];exact KI _ (YA I hp)
  exact Nr I h3 Yz
def XE(T:List Qw)(A:List Int)(leaf:Int):List Int:=(up T leaf).takeWhile λi=>!JB T A i
theorem QiK{id}{c:Qw}(h:QF T id=some c)(hs:1<Q7 c.ls):∀i∈up T id,∃d,QF T i=some d/\1<Q7 d.ls:=by
 generalize hn:(up T id).length=n;induction n using Nat.strongRecOn generalizing id c with
 | ind n ih=>
  have e:=Vz I h;rw[e]at hn ⊢;intro i hi;rcases QM.1 hi with rfl|hi
  ·exact⟨c,h,hs⟩
  ·by_cases h0:c.parent=0
   ·rw[h0,Nq I]at hi;cases hi
   ·obtain⟨d,hd,_⟩:=I.J4 c (As I h) h0;have JL:=I.lS c (As I h) hs h0;unfold yx at JL;rw[hd]at JL;exact ih _ (by simp only[Vh]at hn;omega) hd (by simpa using JL) rfl i hi
end
section
variable {T:List Qw}(I:VR T)
def kS(T:List Qw)(A:List Int)(dn:List Int)(p i:Int):Bool:=js T A p i || (dn.contains i&&(match QF T i with|some c=>c.parent==p|none=>false))
def wg(T:List Qw)(A:List Int)(dn:List Int)(p i:Int):Bool:=js T A p i&&!dn.contains i
include I
theorem UP{A dn}{p i}:kS T A dn p i=true↔js T A p i=true\/(i∈dn/\∃c,QF T i=some c/\c.parent=p):=by
 unfold kS;cases QF T i with
 | none=>simp
 | some c=>simp
theorem QwZ{a i}{l m}{c:Qw}(h:up T a=l++i::m)(hi:QF T i=some c):m=up T c.parent:=by
 have hm:i∈up T a:=by rw[h];simp
 obtain⟨l2,h2⟩:=Rc I hm;rw[Vz I hi]at h2;have nd:=UO I a;have e:=h.symm.trans h2;have n2:=nd;rw[h]at nd;rw[h2]at n2;have h3:l=l2:=by
  have a1:∀x∈l,x≠i:=λx hx e=>by
   subst e;rw[Km]at nd;exact nd.2.2 x hx x (by simp) rfl
  have a2:∀x∈l2,x≠i:=λx hx e=>by
   subst e;rw[Km]at n2;exact n2.2.2 x hx x (by simp) rfl
  clear h h2 nd n2 hm;induction l generalizing l2 with
  | nil=>cases l2 with
   | nil=>rfl
   | cons y l2=>simp only[zo,qJ,Mh]at e;exact absurd e.1.symm (a2 y (by simp))
  | cons x l ih=>cases l2 with
   | nil=>simp only[zo,qJ,Mh]at e;exact absurd e.1 (a1 x (by simp))
   | cons y l2=>
    simp only[qJ,Mh]at e;rw[e.1,ih l2 e.2 (λx hx=>a1 x (by simp[hx])) (λx hx=>a2 x (by simp[hx]))]
 subst h3;have:=List.append_cancel_left e;exact(xR this).2
theorem Qw0{A}(hA:Au T A){leaf id}{dn}{c}(hu:up T leaf=dn++up T id)(hc:QF T id=some c)(hn:∀i∈dn++[id],JB T A i=false):
  (∃i,kS T A dn c.parent i=true)↔∃i,js T A c.parent i=true:=by
 constructor
 ·rintro⟨i,hi⟩;rcases (UP I).1 hi with h|⟨h1,d,h2,h3⟩
  ·exact⟨i,h⟩
  ·exfalso;have e1:i=id:=QwY I (a:=leaf) (by rw[hu];simp[h1]) (by rw[hu];exact OP _ (YA I hc)) h2 hc h3;subst e1;have nd:=UO I leaf;rw[hu,Km]at nd;exact nd.2.2 i h1 i (YA I hc) rfl
 ·rintro⟨i,hi⟩;exact⟨i,(UP I).2 (.inl hi)⟩
theorem Qw1{A dn}{id}{c:Qw}(hc:QF T id=some c)(p i):kS T A (dn++[id]) p i=if p=c.parent/\i=id then true else kS T A dn p i:=by
 rw[kx,UP I];split
 ·rename_i h;obtain⟨rfl,rfl⟩:=h;simp[hc]
 ·rename_i h;rw[UP I];constructor
  ·rintro (h1|⟨h1,d,h2,h3⟩)
   ·exact .inl h1
   ·rcases Q9.1 h1 with h1|h1
    ·exact .inr ⟨h1,d,h2,h3⟩
    ·simp only[zn]at h1;subst h1;rw[h2]at hc;cases hc;exact absurd ⟨h3.symm,rfl⟩ h
  ·rintro (h1|⟨h1,d,h2,h3⟩)
   ·exact .inl h1
   ·exact .inr ⟨ez _ h1,d,h2,h3⟩
omit I in
theorem Qw2(T)(A)(p i):kS T A [] p i=js T A p i:=by simp[kS]
theorem Qw3{A}(hA:Au T A){leaf id}{dn}{c:Qw}(hu:up T leaf=dn++up T id)(hc:QF T id=some c)(hn:∀i∈dn++[id],JB T A i=false)(he:c.parent=0\/JB T A c.parent=true):
  dn++[id]=XE T A leaf/\∀p i,kS T A (dn++[id]) p i=js T (leaf::A) p i:=by
 have An:up T leaf=(dn++[id])++up T c.parent:=by rw[hu,Vz I hc];simp
 have IF:∀j∈up T c.parent,JB T A j=true:=λj hj=>by
  rcases he with he|he
  ·rw[he,Nq I]at hj;cases hj
  ·exact Nr I he hj
 refine⟨?_,λp i=>?_⟩
 ·unfold XE;rw[An,List.takeWhile_append_of_pos (λi hi=>by rw[hn i hi];rfl)];have:(up T c.parent).takeWhile (λi=>!JB T A i)=[]:=by
   cases hq:up T c.parent with
   | nil=>rfl
   | cons x q=>rw[eJ,IF x (by rw[hq];simp)];rfl
  rw[this,QU]
 ·rw[kx,UP I,yy (A:=leaf::A)];have jX:∀j,JB T (leaf::A) j=true↔j∈up T leaf\/JB T A j=true:=λj=>by
   rw[qw,qw];simp
  constructor
  ·rintro (h|⟨h1,d,h2,h3⟩)
   ·obtain⟨d,h2,h3,h4⟩:=yy.1 h;exact⟨d,h2,h3,(jX i).2 (.inr h4)⟩
   ·exact⟨d,h2,h3,(jX i).2 (.inl (by rw[An];exact ez _ h1))⟩
  ·rintro⟨d,h2,h3,h4⟩;rcases (jX i).1 h4 with h4|h4
   ·rw[An]at h4;rcases Q9.1 h4 with h4|h4
    ·exact .inr ⟨h4,d,h2,h3⟩
    ·exact .inl (yy.2 ⟨d,h2,h3,IF i h4⟩)
   ·exact .inl (yy.2 ⟨d,h2,h3,h4⟩)
end
def Kt(A:List Int)(leaf:Int):List Int:=A.filter λa=>a != leaf
section
variable {T:List Qw}(I:VR T)
def Ns{A}{leaf}(hl:leaf∈A)(j):JB T A j=true↔j∈up T leaf\/JB T (Kt A leaf) j=true:=by
 rw[qw,qw];constructor
 ·rintro⟨a,ha,hj⟩;by_cases h:a=leaf
  ·subst h;exact .inl hj
  ·exact .inr ⟨a,J8.2 ⟨ha,by simpa using h⟩,hj⟩
 ·rintro (h|⟨a,ha,hj⟩)
  ·exact⟨leaf,hl,h⟩
  ·exact⟨a,(J8.1 ha).1,hj⟩
def Au.off{A}(h:Au T A)(leaf):Au T (Kt A leaf):=λa ha=>h a (J8.1 ha).1
def Re{A dn}{p i}:wg T A dn p i=true↔js T A p i=true/\i ∉ dn:=by simp[wg]
include I
theorem QiL{A}(hA:Au T A){leaf id}(hl:leaf∈A){dn}{c:Qw}(hu:up T leaf=dn++up T id)(hc:QF T id=some c)(hn:∀i∈dn++[id],JB T (Kt A leaf) i=false)(h0:c.parent≠0):
  (∃i,wg T A (dn++[id]) c.parent i=true)↔JB T (Kt A leaf) c.parent=true:=by
 have An:up T leaf=(dn++[id])++up T c.parent:=by rw[hu,Vz I hc];simp
 obtain⟨d,hd,Gz⟩:=I.J4 c (As I hc) h0;constructor
 ·rintro⟨i,hi⟩;obtain⟨h1,h2⟩:=Re.1 hi;obtain⟨e,h3,h4,h5⟩:=yy.1 h1;have Yz:c.parent∈up T i:=by rw[Vz I h3,h4];exact KI _ (YA I hd)
  rcases (Ns hl i).1 h5 with h6|h6
  ·exfalso;rw[An]at h6;rcases Q9.1 h6 with h6|h6
   ·exact h2 h6
   ·have nd:=UO I i;rw[Vz I h3,h4,Jf]at nd;exact nd.1 h6
  ·exact Nr I h6 Yz
 ·intro h;obtain⟨a,ha,Dl⟩:=qw.1 h;obtain⟨e,h1,h2,h3⟩:=hA.off leaf a ha;have Qz:a≠c.parent:=by rintro rfl;rw[h1]at hd;cases hd;rw[h2]at Gz;cases Gz
  obtain⟨i,f,h4,h5,h6⟩:=lU I Dl Qz;have h7:JB T (Kt A leaf) i=true:=qw.2 ⟨a,ha,h4⟩;refine⟨i,Re.2 ⟨yy.2 ⟨f,h5,h6,(Ns hl i).2 (.inr h7)⟩,λh8=>?_⟩⟩;rw[hn i h8]at h7;cases h7
theorem Qw4{A}{leaf id}(hl:leaf∈A){dn}{c:Qw}(hu:up T leaf=dn++up T id)(hc:QF T id=some c)(hn:∀i∈dn++[id],JB T (Kt A leaf) i=false)(he:c.parent=0\/JB T (Kt A leaf) c.parent=true):
  dn++[id]=XE T (Kt A leaf) leaf/\∀p i,wg T A (dn++[id]) p i=js T (Kt A leaf) p i:=by
 have An:up T leaf=(dn++[id])++up T c.parent:=by rw[hu,Vz I hc];simp
 have IF:∀j∈up T c.parent,JB T (Kt A leaf) j=true:=λj hj=>by
  rcases he with he|he
  ·rw[he,Nq I]at hj;cases hj
  ·exact Nr I he hj
 refine⟨?_,λp i=>?_⟩
 ·unfold XE;rw[An,List.takeWhile_append_of_pos (λi hi=>by rw[hn i hi];rfl)];have:(up T c.parent).takeWhile (λi=>!JB T (Kt A leaf) i)=[]:=by
   cases hq:up T c.parent with
   | nil=>rfl
   | cons x q=>rw[eJ,IF x (by rw[hq];simp)];rfl
  rw[this,QU]
 ·rw[kx,Re,yy,yy];constructor
  ·rintro⟨⟨d,h2,h3,h4⟩,h5⟩;refine⟨d,h2,h3,?_⟩;rcases (Ns hl i).1 h4 with h6|h6
   ·rw[An]at h6;rcases Q9.1 h6 with h6|h6
    ·exact absurd h6 h5
    ·exact IF i h6
   ·exact h6
  ·rintro⟨d,h2,h3,h4⟩;refine⟨⟨d,h2,h3,(Ns hl i).2 (.inr h4)⟩,λh5=>?_⟩;rw[hn i h5]at h4;cases h4
end
@[go_sem] def u64(n:Nat):D:=.raw (.int .u64 n)
@[go_sem] theorem wl0:IntKind.i64.wrap 0=0:=by decide
@[go_sem] theorem wl1:IntKind.i64.wrap 1=1:=by decide
@[go_sem] theorem wl2:IntKind.i64.wrap 2=2:=by decide
@[go_sem] theorem wl3:IntKind.i64.wrap 3=3:=by decide
@[go_sem] theorem wl4:IntKind.i64.wrap 4=4:=by decide
def never:Nat:=9223372036854775808
attribute [go_sem] Go.undef
def Nt(a b:Nat):IntKind.u64.wrap ((a:Int)+(b:Int))=(((a+b) % 18446744073709551616:Nat):Int):=by rw[IntKind.wrap_u64];omega
def UQ(a b:Nat):IntKind.u64.wrap ((a:Int)*(b:Int))=((a*b % 18446744073709551616:Nat):Int):=by rw[IntKind.wrap_u64,<- OM];omega
def ug(a b:Nat)(h:b<=18446744073709551616):IntKind.u64.wrap ((a:Int) - (b:Int))=(((a+18446744073709551616 - b) % 18446744073709551616:Nat):Int):=by rw[IntKind.wrap_u64];omega
def lV(a b:Nat)(h:b<=a)(ha:a<18446744073709551616):IntKind.u64.wrap ((a:Int) - (b:Int))=((a - b:Nat):Int):=by rw[IntKind.wrap_u64];omega
def QiM(a b:Nat)(h:a+b<18446744073709551616):IntKind.u64.wrap ((a:Int)+(b:Int))=((a+b:Nat):Int):=by rw[IntKind.wrap_u64];omega
def Qw5(a b:Nat)(h:a*b<18446744073709551616):IntKind.u64.wrap ((a:Int)*(b:Int))=((a*b:Nat):Int):=by rw[UQ,Cu h]
def Nu(a s:Nat):((a:Int).fdiv (2 ^ s))=((a / 2 ^ s:Nat):Int):=by
 have h:((2:Int) ^ s)=((2 ^ s:Nat):Int):=by simp
 rw[h,Int.fdiv_eq_ediv_of_nonneg _ (Int.natCast_nonneg _),Int.natCast_ediv]
def Qw6(a:Nat)(ha:a<18446744073709551616):bits .and .u64 (a:Int) 4294967295=((a % 4294967296:Nat):Int):=by
 have:=u64_and_nat a 4294967295 ha (by decide);rw[show ((4294967295:Nat):Int)=4294967295 from rfl]at this;rw[this,show (4294967295:Nat)=2 ^ 32 - 1 from rfl,Nat.and_two_pow_sub_one_eq_mod]
def Qw7(x y:Nat)(hx:x<4294967296)(hy:y<4294967296):bits .or .u64 ((x*4294967296:Nat):Int) (y:Int)=((x*4294967296+y:Nat):Int):=by
 rw[u64_or_nat _ _ (by omega) (by omega),nat_join 32 _ _ (by rw[show (2:Nat) ^ 32=4294967296 from rfl];omega) (by simpa using hy)]
def Rg(a)(ha:a<18446744073709551616):a / 9223372036854775808=0\/a / 9223372036854775808=1:=by omega
def lW(a b)(ha:a<18446744073709551616)(hb:b<18446744073709551616):(a &&& b) / 9223372036854775808=(a / 9223372036854775808) &&& (b / 9223372036854775808):=by
 rw[show (9223372036854775808:Nat)=2 ^ 63 from rfl,<- FN,Nat.shiftRight_and_distrib,FN,FN]
def uh(a b)(ha:a<18446744073709551616)(hb:b<18446744073709551616):(a ||| b) / 9223372036854775808=(a / 9223372036854775808) ||| (b / 9223372036854775808):=by
 rw[show (9223372036854775808:Nat)=2 ^ 63 from rfl,<- FN,Nat.shiftRight_or_distrib,FN,FN]
def ui(a b)(ha:a<18446744073709551616)(hb:b<18446744073709551616):(a ^^^ b) / 9223372036854775808=(a / 9223372036854775808) ^^^ (b / 9223372036854775808):=by
 rw[show (9223372036854775808:Nat)=2 ^ 63 from rfl,<- FN,Nat.shiftRight_xor_distrib,FN,FN]
def Qw8(a b c x y z u v)(ha:a<18446744073709551616)(hb:b<18446744073709551616)(hc:c<2)(hl:u=(a+18446744073709551616 - b+18446744073709551616 - c) % 18446744073709551616)
  (hx:x=a / 9223372036854775808) (hy:y=b / 9223372036854775808) (hz:z=u / 9223372036854775808) (hv:v=(1 ^^^ x) &&& y ||| ((1 ^^^ (x ^^^ y)) &&& z)):v=if a<b+c then 1 else 0:=by
 have h1:=Rg a ha;have h2:=Rg b hb;have h3:=Rg u (by omega);rw[<- hx]at h1;rw[<- hy]at h2;rw[<- hz]at h3;rcases h1 with h1|h1<;>rcases h2 with h2|h2<;>rcases h3 with h3|h3<;>(rw[h1,h2,h3]at hv;simp at hv;subst hv;split<;>omega)
def Qw9(a b c x y z u v)(ha:a<18446744073709551616)(hb:b<18446744073709551616)(hc:c<2)(hl:u=(a+b+c) % 18446744073709551616)
  (hx:x=a / 9223372036854775808) (hy:y=b / 9223372036854775808) (hz:z=u / 9223372036854775808) (hv:v=x &&& y ||| ((x ||| y) &&& (1 - z))):v=if 18446744073709551616<=a+b+c then 1 else 0:=by
 have h1:=Rg a ha;have h2:=Rg b hb;have h3:=Rg u (by omega);rw[<- hx]at h1;rw[<- hy]at h2;rw[<- hz]at h3;rcases h1 with h1|h1<;>rcases h2 with h2|h2<;>rcases h3 with h3|h3<;>(rw[h1,h2,h3]at hv;simp at hv;subst hv;split<;>omega)
end Go.Fg.X
namespace Go.Fg.X
open Go.Proofs Go.Fg
structure It where
 ka:Nat
 ki:Int
 va:Nat
 vi:Int
deriving DecidableEq
instance:Inhabited It:=⟨⟨0,0,0,0⟩⟩
@[go_sem] def It.cells(x:It):List D:=[u64 x.ka,Qb x.ki,u64 x.va,Qb x.vi]
def KB(a:Nat)(i:Int)(b:Nat)(j:Int):Prop:=a<b\/(a=b/\i<j)
instance (a:Nat) (i:Int) (b:Nat) (j:Int):Decidable (KB a i b j):=inferInstanceAs (Decidable (_\/_))
def It.lt(x y:It):Prop:=KB x.ka x.ki y.ka y.ki
instance (x y:It):Decidable (x.lt y):=inferInstanceAs (Decidable (KB _ _ _ _))
def jt(a:Nat)(i:Int)(b:Nat)(j:Int):Int:=if a=b/\i=j then 0 else if KB a i b j then -1 else 1
def kU(a b:It):It:=if jt b.va b.vi a.va a.vi<0\/(jt b.va b.vi a.va a.vi=0/\jt b.ka b.ki a.ka a.ki<0) then b else a
inductive Tr where
 | nil
 | node (loc:Nat) (it:It) (l r:Tr)
deriving Inhabited
namespace Tr
def list:Tr->List It
 | .nil=>[]
 | .node _ it l r=>l.list++it::r.list
def QR:Tr->List Nat
 | .nil=>[]
 | .node loc _ l r=>loc::(l.QR++r.QR)
def high:Tr->Nat
 | .nil=>0
 | .node _ _ l r=>1+max l.high r.high
def size:Tr->Nat
 | .nil=>0
 | .node _ _ l r=>1+l.size+r.size
def ptr:Tr->D
 | .nil=>.raw (.pointer none)
 | .node loc _ _ _=>.ptr loc 0 0 0
@[go_sem] theorem IG:Tr.nil.ptr=.raw (.pointer none):=rfl
@[go_sem] theorem EU(loc)(it)(l r:Tr):(Tr.node loc it l r).ptr=.ptr loc 0 0 0:=rfl
@[go_sem] theorem QKN(t:Tr):YR t.ptr=some [t.ptr]:=by cases t<;>rfl
@[go_sem] theorem QKO(t:Tr):t.ptr.KK=true:=by cases t<;>rfl
@[go_sem] theorem QKP(t:Tr):Yd t.ptr t.ptr=True:=by cases t<;>simp[Yd,ptr]
def least:Tr->It
 | .nil=>default
 | .node _ it l r=>match l,r with
  | .nil,.nil=>it
  | .nil,.node a b c d=>kU it (least (.node a b c d))
  | .node a b c d,.nil=>kU it (least (.node a b c d))
  | .node a b c d,.node a' b' c' d'=>kU (kU it (least (.node a b c d))) (least (.node a' b' c' d'))
def Dm:∀t:Tr,t.list.length=t.size
 | .nil=>rfl
 | .node _ _ l r=>by simp only[list,size,Zj,Vh,Dm l,Dm r];omega
def Rh:∀t:Tr,t.high<=t.size
 | .nil=>QB _
 | .node _ _ l r=>by have:=Rh l;have:=Rh r;simp only[high,size];omega
end Tr
@[go_sem] def Qxa(it:It)(p q:D)(le:It)(hi n:Int):List D:=[u64 it.ka,Qb it.ki,u64 it.va,Qb it.vi,p,q,u64 le.ka,Qb le.ki,u64 le.va,Qb le.vi,Qb hi,Qb n]
@[go_sem] def GA(it:It)(p q:D)(le:It)(hi n:Int):Ob:=⟨.one,0,12,1,λ_=>Qxa it p q le hi n⟩
def VA(h:List Ob):Tr->Prop
 | .nil=>True
 | .node loc it l r=>h[loc]? = some (GA it l.ptr r.ptr (Tr.node loc it l r).least ((Tr.node loc it l r).high:Nat) ((Tr.node loc it l r).size:Nat))/\VA h l/\VA h r
def VA.frame{h h':List Ob}:∀{t:Tr},VA h t->(∀l∈t.QR,h'[l]? = h[l]?)->VA h' t
 | .nil,_,_=>trivial
 | .node loc it l r,⟨h1,h2,h3⟩,e=>⟨by rw[e loc (by simp[Tr.QR])];exact h1,h2.frame λx hx=>e x (by simp[Tr.QR,hx]),h3.frame λx hx=>e x (by simp[Tr.QR,hx])⟩
def VA.lt{h:List Ob}:∀{t:Tr},VA h t->∀l∈t.QR,l<h.length
 | .nil,_,l,hl=>by cases hl
 | .node loc it l r,⟨h1,h2,h3⟩,x,hx=>by
  simp only[Tr.QR,QM,Q9]at hx;rcases hx with rfl|hx|hx
  ·exact Kr h1
  ·exact h2.lt x hx
  ·exact h3.lt x hx
def jY(h:List Ob):Tr->Prop
 | .nil=>True
 | .node loc it l r=>(h.map Ob.ro)[loc]? = some (GA it l.ptr r.ptr (Tr.node loc it l r).least ((Tr.node loc it l r).high:Nat) ((Tr.node loc it l r).size:Nat)).ro/\jY h l/\jY h r
def VA.toR{h}:∀{t:Tr},VA h t->jY h t
 | .nil,_=>trivial
 | .node _ _ _ _,⟨h1,h2,h3⟩=>⟨Z3 h1,h2.toR,h3.toR⟩
def jY.more{h h':List Ob}(e:∀(l:Nat) (o:Ob),(h.map Ob.ro)[l]? = some o->(h'.map Ob.ro)[l]? = some o):∀{t:Tr},jY h t->jY h' t
 | .nil,_=>trivial
 | .node _ _ _ _,⟨h1,h2,h3⟩=>⟨e _ _ h1,h2.more e,h3.more e⟩
def II{h F g:List Ob}(hF:F=h.map Ob.ro)(l:Nat)(o:Ob)(e:(h.map Ob.ro)[l]? = some o):((F++g).map Ob.ro)[l]? = some o:=by
 subst hF;have h1:l<(h.map Ob.ro).length:=Kr e;rw[jN,JD (by simpa using h1),xT];rw[KG]at e ⊢;cases hh:h[l]? with
 | none=>rw[hh]at e;cases e
 | some u=>rw[hh]at e;cases e;simp[ro_ro]
structure kV (h:List Ob) (t:Tr) (L:List It) (h':List Ob) (t':Tr):Prop where
 is:VA h' t'
 list:t'.list=L
 nd:t'.QR.Nodup
 mem:∀l∈t'.QR,l∈t.QR\/h.length<=l
 keep:∀l,l<h.length->l ∉ t.QR->h'[l]? = h[l]?
 len:h.length<=h'.length
def kV.refl{h}{t:Tr}(i:VA h t)(n:t.QR.Nodup):kV h t t.list h t:=⟨i,rfl,n,λ_ h=>.inl h,λ_ _ _=>rfl,QB _⟩
def kV.trans{h h' qO}{t t' t''}{L L'}(a:kV h t L h' t')(b:kV h' t' L' qO t''):kV h t L' qO t'':=
 ⟨b.is,b.list,b.nd,λl hl=>by
  rcases b.mem l hl with h1|h1
  ·exact a.mem l h1
  ·exact .inr (KZ a.len h1),λl hl hn=>by
  rw[b.keep l (wU hl a.len) λh1=>by
   rcases a.mem l h1 with h2|h2
   ·exact hn h2
   ·omega]
  exact a.keep l hl hn,KZ a.len b.len⟩
def It.qX(x y:It):Prop:=KB x.va x.vi y.va y.vi\/(x.va=y.va/\x.vi=y.vi/\KB x.ka x.ki y.ka y.ki)
instance (x y:It):Decidable (x.qX y):=inferInstanceAs (Decidable (_\/_))
def Dn(a)(i):¬ KB a i a i:=by unfold KB;omega
def IJ{a}{i}{b}{j}{c}{k}(h:KB a i b j)(h2:KB b j c k):KB a i c k:=by unfold KB at *;omega
def Ri(a)(i)(b)(j):KB a i b j\/(a=b/\i=j)\/KB b j a i:=by unfold KB;omega
def uj{a}{i}{b}{j}:jt a i b j<0↔KB a i b j:=by
 unfold jt;by_cases h:a=b/\i=j
 ·rw[Qf h];obtain⟨rfl,rfl⟩:=h;exact⟨λh=>by omega,λh=>absurd h (Dn _ _)⟩
 ·rw[Qd h];by_cases h2:KB a i b j
  ·rw[Qf h2];exact⟨λ_=>h2,λ_=>by omega⟩
  ·rw[Qd h2];exact⟨λh=>by omega,λh=>absurd h h2⟩
def QiN{a}{i}{b}{j}:jt a i b j=0↔a=b/\i=j:=by
 unfold jt;by_cases h:a=b/\i=j
 ·rw[Qf h];exact⟨λ_=>h,λ_=>rfl⟩
 ·rw[Qd h];by_cases h2:KB a i b j
  ·rw[Qf h2];exact⟨λh=>by omega,λh1=>absurd h1 h⟩
  ·rw[Qd h2];exact⟨λh=>by omega,λh1=>absurd h1 h⟩
def Qxb{a}{i}{b}{j}:0<jt a i b j↔KB b j a i:=by
 have h1:=@uj a i b j;have h2:=@QiN a i b j;have h3:=Ri a i b j;constructor
 ·intro h;rcases h3 with h3|h3|h3
  ·have:=h1.2 h3;omega
  ·have:=h2.2 h3;omega
  ·exact h3
 ·intro h;have n1:¬ jt a i b j<0:=λh4=>Dn _ _ (IJ h (h1.1 h4));have n2:¬ jt a i b j=0:=λh4=>by obtain⟨rfl,rfl⟩:=h2.1 h4;exact Dn _ _ h
  omega
def QiO(a b:It):kU a b=if b.qX a then b else a:=by
 have h:(jt b.va b.vi a.va a.vi<0\/(jt b.va b.vi a.va a.vi=0/\jt b.ka b.ki a.ka a.ki<0))↔b.qX a:=by
  rw[uj,QiN,uj,It.qX,and_assoc]
 unfold kU;by_cases hb:b.qX a
 ·rw[Qf (h.2 hb),Qf hb]
 ·rw[Qd (λh1=>hb (h.1 h1)),Qd hb]
def UR(a:It):¬ a.qX a:=λh=>by
 rcases h with h|⟨_,_,h⟩<;>exact Dn _ _ h
def QiP{a b c:It}(h:a.qX b)(h2:b.qX c):a.qX c:=by
 rcases h with h|⟨e1,e2,h⟩<;>rcases h2 with h2|⟨e3,e4,h2⟩
 ·exact .inl (IJ h h2)
 ·exact .inl (by rw[<- e3,<- e4];exact h)
 ·exact .inl (by rw[e1,e2];exact h2)
 ·exact .inr ⟨e1.trans e3,e2.trans e4,IJ h h2⟩
def QiQ(a b:It):a.qX b\/a=b\/b.qX a:=by
 rcases Ri a.va a.vi b.va b.vi with h|⟨h1,h2⟩|h
 ·exact .inl (.inl h)
 ·rcases Ri a.ka a.ki b.ka b.ki with h|⟨h3,h4⟩|h
  ·exact .inl (.inr ⟨h1,h2,h⟩)
  ·refine .inr (.inl ?_);cases a;cases b;simp_all
  ·exact .inr (.inr (.inr ⟨h1.symm,h2.symm,h⟩))
 ·exact .inr (.inr (.inl h))
def QiR(a b:It):(kU a b=a/\¬ b.qX a)\/(kU a b=b/\b.qX a):=by
 rw[QiO];by_cases h:b.qX a
 ·rw[Qf h];exact .inr ⟨rfl,h⟩
 ·rw[Qd h];exact .inl ⟨rfl,h⟩
def Qxc(a b:It):¬ a.qX (kU a b)/\¬ b.qX (kU a b):=by
 rcases QiR a b with ⟨e,h⟩|⟨e,h⟩<;>rw[e]
 ·exact⟨UR _,h⟩
 ·exact⟨λh2=>UR _ (QiP h h2),UR _⟩
structure Wh (x:It) (L:List It):Prop where
 mem:x∈L
 le:∀y∈L,¬ y.qX x
def Wh.uniq{x y}{L}(a:Wh x L)(b:Wh y L):x=y:=by
 rcases QiQ x y with h|h|h
 ·exact absurd h (b.le x a.mem)
 ·exact h
 ·exact absurd h (a.le y b.mem)
def Wh.one(x):Wh x [x]:=⟨by simp,λy hy=>by simp only[zn]at hy;subst hy;exact UR _⟩
def Wh.join{x y}{L M}(a:Wh x L)(b:Wh y M):Wh (kU x y) (L++M):=by
 obtain⟨h1,h2⟩:=Qxc x y;have nle:∀{p q r:It},¬ p.qX q->¬ q.qX r->¬ p.qX r:=λ{p q r} h h2 h3=>by
  rcases QiQ q p with h4|h4|h4
  ·exact h2 (QiP h4 h3)
  ·subst h4;exact h2 h3
  ·exact h h4
 refine⟨?_,λz hz=>?_⟩
 ·rcases QiR x y with ⟨e,_⟩|⟨e,_⟩<;>rw[e]
  ·exact ez _ a.mem
  ·exact OP _ b.mem
 ·rcases Q9.1 hz with hz|hz
  ·exact nle (a.le z hz) h1
  ·exact nle (b.le z hz) h2
def Wh.perm{x:It}{L M}(a:Wh x L)(h:∀y,y∈M↔y∈L):Wh x M:=⟨(h x).2 a.mem,λy hy=>a.le y ((h y).1 hy)⟩
def Tr.Rj:∀(t:Tr),t≠.nil->Wh t.least t.list
 | .nil,h=>absurd rfl h
 | .node _ it .nil .nil,_=>Wh.one it
 | .node _ it .nil (.node a b c d),_=>by
  have:=Tr.Rj (.node a b c d) (by simp);exact((Wh.one it).join this).perm λy=>by simp[Tr.list]
 | .node _ it (.node a b c d) .nil,_=>by
  have:=Tr.Rj (.node a b c d) (by simp);exact((Wh.one it).join this).perm λy=>by simp[Tr.list];constructor<;>(intro h;rcases h with h|h|h|h<;>simp[h])
 | .node _ it (.node a b c d) (.node a' b' c' d'),_=>by
  have h1:=Tr.Rj (.node a b c d) (by simp);have h2:=Tr.Rj (.node a' b' c' d') (by simp);refine(((Wh.one it).join h1).join h2).perm λy=>?_;simp only[Tr.list,Q9,QM,zn];grind
end Go.Fg.X
namespace Go.Fg.X
open Go.Proofs Go.Fg
open Go.Proofs.Tryz
def VB(L:List It):Prop:=L.Pairwise It.lt
def It.lt_trans{a b c:It}(h:a.lt b)(h2:b.lt c):a.lt c:=IJ h h2
def GB{L M}{x:It}:VB (L++x::M)↔VB L/\VB M/\(∀y∈L,y.lt x)/\(∀y∈M,x.lt y):=by
 unfold VB;rw[eF,Ct];constructor
 ·rintro⟨h1,⟨h2,h3⟩,h4⟩;exact⟨h1,h3,λy hy=>h4 y hy x (by simp),h2⟩
 ·rintro⟨h1,h2,h3,h4⟩;refine⟨h1,⟨h4,h2⟩,λa ha b hb=>?_⟩;rcases QM.1 hb with rfl|hb
  ·exact h3 a ha
  ·exact It.lt_trans (h3 a ha) (h4 b hb)
def Dp(a:Nat)(i:Int)(x:It):Bool:=x.ka==a&&x.ki==i
def qx(a:Nat)(i:Int)(L:List It):Option It:=L.find? (Dp a i)
def YV(x:It):List It->List It
 | []=>[x]
 | y::r=>if y.lt x then y::YV x r else x::y::r
def XW(a:Nat)(i:Int)(L:List It):List It:=L.filter λx=>!Dp a i x
def yz{a}{i}{x:It}:Dp a i x=true↔x.ka=a/\x.ki=i:=by simp[Dp]
def QiT(a)(i)(L M)(x)(hs:VB (L++x::M)):
  qx a i (L++x::M)=if x.ka=a/\x.ki=i then some x else if KB x.ka x.ki a i then qx a i M else qx a i L:=by
 obtain⟨_,_,hl,hm⟩:=GB.1 hs;unfold qx;rw[List.find?_append,wR];have nL:(x.ka=a/\x.ki=i)\/KB x.ka x.ki a i->L.find? (Dp a i)=none:=λh=>by
  rw[vE];intro y hy hk;obtain⟨e1,e2⟩:=yz.1 hk;have h3:KB y.ka y.ki x.ka x.ki:=hl y hy;rw[e1,e2]at h3;rcases h with ⟨rfl,rfl⟩|h
  ·exact Dn _ _ h3
  ·exact Dn _ _ (IJ h h3)
 have nM:KB a i x.ka x.ki->M.find? (Dp a i)=none:=λh=>by
  rw[vE];intro y hy hk;obtain⟨e1,e2⟩:=yz.1 hk;have h3:KB x.ka x.ki y.ka y.ki:=hm y hy;rw[e1,e2]at h3;exact Dn _ _ (IJ h h3)
 by_cases h1:x.ka=a/\x.ki=i
 ·rw[Qf h1,yz.2 h1,nL (.inl h1)];rfl
 ·have hk:Dp a i x=false:=by rw[jK];exact λh=>h1 (yz.1 h)
  rw[Qd h1,hk];by_cases h2:KB x.ka x.ki a i
  ·rw[Qf h2,nL (.inr h2)];rfl
  ·rw[Qd h2,nM (by rcases Ri x.ka x.ki a i with h|h|h;exact absurd h h2;exact absurd h h1;exact h)];simp
def Qxd(y:It)(L M)(x:It)(hs:VB (L++x::M))(hn:¬ (x.ka=y.ka/\x.ki=y.ki)):
  YV y (L++x::M)=if x.lt y then L++x::YV y M else YV y L++x::M:=by
 obtain⟨_,_,hl,hm⟩:=GB.1 hs;by_cases h:x.lt y
 ·rw[Qf h];have:∀l:List It,(∀z∈l,z.lt y)->YV y (l++x::M)=l++x::YV y M:=by
   intro l hl;induction l with
   | nil=>simp only[zo,YV,Qf h]
   | cons z l ih=>simp only[qJ,YV,Qf (hl z (by simp)),ih λw hw=>hl w (by simp[hw])]
  exact this L λz hz=>It.lt_trans (hl z hz) h
 ·rw[Qd h];have:∀l:List It,YV y (l++x::M)=YV y l++x::M:=by
   intro l;induction l with
   | nil=>simp only[zo,YV,Qd h,qJ]
   | cons z l ih=>
    simp only[qJ,YV];split
    ·rw[ih,qJ]
    ·simp only[qJ]
  exact this L
def QiU(a)(i)(L M)(x)(hs:VB (L++x::M)):
  XW a i (L++x::M)=if x.ka=a/\x.ki=i then L++M else if KB x.ka x.ki a i then L++x::XW a i M else XW a i L++x::M:=by
 obtain⟨_,_,hl,hm⟩:=GB.1 hs;have keep:∀l:List It,(∀y∈l,¬ (y.ka=a/\y.ki=i))->XW a i l=l:=λl h=>by
  unfold XW;rw[y7];intro y hy;have:=h y hy;rw[jL,jK];exact λh2=>this (yz.1 h2)
 have Qxe:XW a i (L++x::M)=XW a i L++XW a i (x::M):=by unfold XW;rw[Tn]
 have kL:(x.ka=a/\x.ki=i)\/KB x.ka x.ki a i->XW a i L=L:=λh=>keep L λy hy ⟨e1,e2⟩=>by
  have h3:KB y.ka y.ki x.ka x.ki:=hl y hy;rw[e1,e2]at h3;rcases h with ⟨rfl,rfl⟩|h
  ·exact Dn _ _ h3
  ·exact Dn _ _ (IJ h h3)
 have kM:(x.ka=a/\x.ki=i)\/KB a i x.ka x.ki->XW a i M=M:=λh=>keep M λy hy ⟨e1,e2⟩=>by
  have h3:KB x.ka x.ki y.ka y.ki:=hm y hy;rw[e1,e2]at h3;rcases h with ⟨rfl,rfl⟩|h
  ·exact Dn _ _ h3
  ·exact Dn _ _ (IJ h h3)
 rw[Qxe];by_cases h1:x.ka=a/\x.ki=i
 ·have hx:XW a i (x::M)=XW a i M:=by unfold XW;rw[xS,yz.2 h1];rfl
  rw[Qf h1,kL (.inl h1),hx,kM (.inl h1)]
 ·have hk:Dp a i x=false:=by rw[jK];exact λh=>h1 (yz.1 h)
  have hx:XW a i (x::M)=x::XW a i M:=by unfold XW;rw[xS,hk];rfl
  rw[Qd h1,hx];by_cases h2:KB x.ka x.ki a i
  ·rw[Qf h2,kL (.inr h2)]
  ·rw[Qd h2,kM (.inr (by rcases Ri x.ka x.ki a i with h|h|h;exact absurd h h2;exact absurd h h1;exact h))]
def IK{y x}:∀{L:List It},x∈YV y L↔x=y\/x∈L
 | []=>by simp[YV]
 | z::L=>by
  simp only[YV];split
  ·rw[QM,IK,QM];grind
  ·rw[QM]
def uk{y:It}:∀{L:List It},VB L->qx y.ka y.ki L=none->VB (YV y L)
 | [],_,_=>by simp[YV,VB]
 | z::L,hs,hf=>by
  obtain⟨h1,h2⟩:=Ct.1 hs;unfold qx at hf;rw[wR]at hf;cases hk:Dp y.ka y.ki z with
  | true=>rw[hk]at hf;cases hf
  | false=>
   rw[hk]at hf;have Qz:¬ (z.ka=y.ka/\z.ki=y.ki):=λh=>by rw[yz.2 h]at hk;cases hk
   simp only[YV];split
   ·rename_i hl;refine Ct.2 ⟨λw hw=>?_,uk h2 hf⟩;rcases IK.1 hw with rfl|hw
    ·exact hl
    ·exact h1 w hw
   ·rename_i hl;have hyz:y.lt z:=by
     rcases Ri z.ka z.ki y.ka y.ki with h|h|h
     ·exact absurd h hl
     ·exact absurd h Qz
     ·exact h
    refine Ct.2 ⟨λw hw=>?_,hs⟩;rcases QM.1 hw with rfl|hw
    ·exact hyz
    ·exact It.lt_trans hyz (h1 w hw)
def Qxf{a}{i}{L}(h:VB L):VB (XW a i L):=ON _ h
def Tr.Dq(a:Nat)(i:Int)(f:Tr->List It):Tr->List It
 | .nil=>f .nil
 | .node loc it l r=>if it.ka=a/\it.ki=i then f (.node loc it l r) else if KB it.ka it.ki a i then l.list++it::r.Dq a i f else l.Dq a i f++it::r.list
def um{y:It}{f}(hf:f .nil=[y]):∀(t:Tr),VB t.list->qx y.ka y.ki t.list=none->t.Dq y.ka y.ki f=YV y t.list
 | .nil,_,_=>hf
 | .node loc it l r,hs,hn=>by
  obtain⟨s1,s2,_,_⟩:=GB.1 hs;simp only[Tr.list]at hs hn ⊢;rw[QiT _ _ _ _ _ hs]at hn;rw[Tr.Dq];by_cases h1:it.ka=y.ka/\it.ki=y.ki
  ·rw[Qf h1]at hn;cases hn
  ·rw[Qd h1]at hn ⊢;rw[Qxd y _ _ _ hs h1];by_cases h2:KB it.ka it.ki y.ka y.ki
   ·rw[Qf h2]at hn ⊢;rw[Qf (show it.lt y from h2),um hf r s2 hn]
   ·rw[Qd h2]at hn ⊢;rw[Qd (show ¬ it.lt y from h2),um hf l s1 hn]
def Tr.Nv:Tr->List It
 | .nil=>[]
 | .node _ _ l r=>l.list++r.list
def lY{a}{i}:∀(t:Tr),VB t.list->t.Dq a i Tr.Nv=XW a i t.list
 | .nil,_=>rfl
 | .node loc it l r,hs=>by
  obtain⟨s1,s2,_,_⟩:=GB.1 hs;simp only[Tr.list]at hs ⊢;rw[QiU _ _ _ _ _ hs,Tr.Dq];by_cases h1:it.ka=a/\it.ki=i
  ·rw[Qf h1,Qf h1];rfl
  ·rw[Qd h1,Qd h1];by_cases h2:KB it.ka it.ki a i
   ·rw[Qf h2,Qf h2,lY r s2]
   ·rw[Qd h2,Qd h2,lY l s1]
def Tr.find(a:Nat)(i:Int):Tr->Tr
 | .nil=>.nil
 | .node loc it l r=>if it.ka=a/\it.ki=i then .node loc it l r else if KB it.ka it.ki a i then r.find a i else l.find a i
def Tr.item:Tr->Option It
 | .nil=>none
 | .node _ it _ _=>some it
def Tr.US{a}{i:Int}:∀(t:Tr),VB t.list->(t.find a i).item=qx a i t.list
 | .nil,_=>rfl
 | .node loc it l r,hs=>by
  obtain⟨s1,s2,_,_⟩:=GB.1 hs;simp only[Tr.list]at hs ⊢;rw[QiT _ _ _ _ _ hs,Tr.find];by_cases h1:it.ka=a/\it.ki=i
  ·rw[Qf h1,Qf h1];rfl
  ·rw[Qd h1,Qd h1];by_cases h2:KB it.ka it.ki a i
   ·rw[Qf h2,Qf h2,Tr.US r s2]
   ·rw[Qd h2,Qd h2,Tr.US l s1]
def Tr.hasB(at_:Nat):Tr->Bool
 | .nil=>false
 | .node a b c d=>decide ((Tr.node a b c d).least.va<=at_)
def Wh.va{x y:It}{L}(h:Wh x L)(hy:y∈L):x.va<=y.va:=by
 have:=h.le y hy;unfold It.qX KB at this;omega
def Tr.UT(at_):∀t:Tr,t.hasB at_=true↔∃x∈t.list,x.va<=at_
 | .nil=>by simp[Tr.hasB,Tr.list]
 | .node a b c d=>by
  have h:=Tr.Rj (.node a b c d) (by simp);simp only[Tr.hasB,XM];constructor
  ·intro h1;exact⟨_,h.mem,h1⟩
  ·rintro⟨x,hx,hv⟩;exact KZ (h.va hx) hv
def Tr.first(at_:Nat):Tr->Option It
 | .nil=>none
 | .node _ it l r=>if l.hasB at_ then l.first at_ else if it.va<=at_ then some it else r.first at_
def Tr.lZ(at_):∀t:Tr,t.first at_=t.list.find? λx=>decide (x.va<=at_)
 | .nil=>rfl
 | .node _ it l r=>by
  simp only[Tr.first,Tr.list];rw[List.find?_append,wR];by_cases h:l.hasB at_=true
  ·rw[Qf h,Tr.lZ at_ l];obtain⟨x,hx,hv⟩:=(Tr.UT at_ l).1 h;cases hf:l.list.find? λx=>decide (x.va<=at_) with
   | some y=>rfl
   | none=>exact absurd hv (by simpa using vE.1 hf x hx)
  ·rw[Qd h,Tr.lZ at_ r];have hn:l.list.find? (λx=>decide (x.va<=at_))=none:=by
    rw[vE];intro x hx hv;exact h ((Tr.UT at_ l).2 ⟨x,hx,by simpa using hv⟩)
   rw[hn,Option.none_or];by_cases h2:it.va<=at_
   ·rw[Qf h2,Q5 h2]
   ·rw[Qd h2,QN h2]
def Tr.GC:Tr->It
 | .nil=>default
 | .node _ it l _=>match l with
  | .nil=>it
  | .node a b c d=>Tr.GC (.node a b c d)
def Tr.uq:∀t:Tr,t≠.nil->t.list.head? = some t.GC
 | .nil,h=>absurd rfl h
 | .node _ it .nil r,_=>rfl
 | .node _ it (.node a b c d) r,_=>by
  have:=Tr.uq (.node a b c d) (by simp);simp only[Tr.list,Tr.GC,List.head?_append]at this ⊢;rw[this];rfl
def ju(o:Option It)(i:It):Option It:=match o with
 | none=>some i
 | some a=>some (kU a i)
def Tr.VI(at_:Nat):Tr->Option It->Option It
 | .nil,o=>o
 | .node _ it l r,o=>if at_<it.ka then l.VI at_ o else r.VI at_ (match l with
  | .nil=>ju o it
  | .node a b c d=>ju (ju o it) (Tr.node a b c d).least)
def Av(o:Option It)(L:List It):Prop:=match o with
 | none=>L=[]
 | some x=>Wh x L
def Av.take{o}{L}(h:Av o L){i}{M}(hi:Wh i M):Av (ju o i) (L++M):=by
 cases o with
 | none=>simp only[Av]at h;subst h;exact hi
 | some a=>exact Wh.join h hi
def Av.perm{o}{L M}(h:Av o L)(e:∀y,y∈M↔y∈L):Av o M:=by
 cases o with
 | none=>
  simp only[Av]at h ⊢;subst h;exact pL.2 λy hy=>by simpa using (e y).1 hy
 | some a=>exact Wh.perm h e
def Tr.UU(at_):∀(t:Tr) (o:Option It) (T:List It),VB t.list->Av o T->Av (t.VI at_ o) (T++t.list.filter λx=>decide (x.ka<=at_))
 | .nil,o,T,_,h=>by simpa[Tr.VI,Tr.list] using h
 | .node _ it l r,o,T,hs,h=>by
  obtain⟨s1,s2,hl,hr⟩:=GB.1 (show VB (l.list++it::r.list) from hs);have kle:∀{x y:It},x.lt y->x.ka<=y.ka:=λh=>by
   have h:KB _ _ _ _:=h;unfold KB at h;omega
  simp only[Tr.VI,Tr.list,Tn,xS];by_cases h1:at_<it.ka
  ·rw[Qf h1,QN (by omega)];have hn:r.list.filter (λx=>decide (x.ka<=at_))=[]:=by
    rw[List.filter_eq_nil_iff];intro x hx;have:=kle (hr x hx);simp;omega
   rw[hn];have:=Tr.UU at_ l o T s1 h;simpa using this
  ·rw[Qd h1,Q5 (by omega)];have ha:l.list.filter (λx=>decide (x.ka<=at_))=l.list:=by
    rw[y7];intro x hx;have:=kle (hl x hx);simp;omega
   rw[ha];cases l with
   | nil=>
    have:=Tr.UU at_ r _ _ s2 (h.take (Wh.one it));simpa[Tr.list] using this
   | node a b c d=>
    have:=Tr.UU at_ r _ _ s2 ((h.take (Wh.one it)).take (Tr.Rj (.node a b c d) (by simp)));refine this.perm λy=>?_;simp only[Tr.list,Q9,QM,zn,J8,K6];grind
end Go.Fg.X
namespace Go.Fg
open Go.RowKit (Below)
def zL(off len:Nat)(zs:List D)(row:Nat->List D):Nat->List D:=λk=>bif Nat.ble off k&&Nat.blt k (off+len) then zs else row k
def ur{off len k}{zs}{row}(h:k<off):zL off len zs row k=row k:=by
 have:Nat.ble off k=false:=by rw[<- qb,Mm];omega
 simp[zL,this]
section
variable {P:Program}{L:Jt}{base nt:Nat}{s:St}{o:Oper}
def Qxg(hL:Jq P L){t e:TypeId}{x}{l g off len a b c}{z}{zt}{ob}(ho:o.op=.call ⟨.builtin .clear,#[x],#[t]⟩)(hx:Qt s.fr x=.ref l g off len)(Zt:s.h[l]? = some ob)
  (hk:ob.kd.Mp=false) (hg:ob.gen=g) (hs:ob.sz=1) (hro:ob.kd.ro=false) (hn:off+len<=ob.n) (ht:ty L t=some ⟨.slice e,a,b,zt⟩) {k:TK} (he:ty L e=some ⟨k,1,c,[z]⟩) (hz:Bl z=true) :
  kE P base nt o s (s.h.set l ⟨ob.kd,ob.gen,ob.sz,ob.n,zL off len [Kq z] ob.row⟩) (.tup []):=by
 refine Mx.up ?_ (by simp[calm,ho]);intro Z pl ac w r K7;have hv:=r.eval x;rw[hx]at hv;obtain⟨o',p',ad,cap,uu,ZT,Jl,ZE,vH,VN⟩:=Cw hv;rw[Zt]at ZT;cases ZT;have hy:=hL _ _ ht;have WO:=hL _ _ he;have hu:P.underlying t=some (.slice e):=xZ hy rfl;obtain⟨zv,Ac,jj⟩:=WO.zeroValue;have F1:zv.cells=#[z]:=by apply Array.toList_inj.1;rw[Ac]
 have HQ:(Builtin.zeroCells zv.cells len).toList=List.replicate len z:=by
  rw[F1];simp[Builtin.zeroCells];apply List.ext_getElem
  ·simp
  ·intro i h1 h2;simp[Nat.mod_one]
 have hrz:∀Z' h' Qm w',QE Z' h' Qm w' (Kq z) z:=λZ' h' Qm w'=>
  .cl _ _ (Eh _ _ _)
 rcases VN hg.symm with ⟨XX,Rb⟩|⟨bb,q,c0,el,WD,haa,ZG,QKQ,Bk⟩
 ·subst XX;have ZH:∀i,zL off 0 [Kq z] ob.row i=ob.row i:=λi=>by
   unfold zL;cases h1:Nat.ble off i&&Nat.blt i (off+0)
   ·rfl
   ·simp at h1;omega
  have zx:s.h.set l ⟨ob.kd,ob.gen,ob.sz,ob.n,zL off 0 [Kq z] ob.row⟩=s.h:=by
   have e1:(⟨ob.kd,ob.gen,ob.sz,ob.n,zL off 0 [Kq z] ob.row⟩:Ob)=ob:=by rw[funext ZH]
   rw[e1];exact A9 λi=>by
    by_cases h:l=i
    ·subst h;rw[Wm (Kr Zt),Zt]
    ·rw[JJ h]
  rw[zx];refine⟨.tuple #[],w,pl,.inl ?_,Tr.refl _ _ _,r.o,.tup [] [] rfl (λi hi=>absurd hi (Vw i)),Below.refl _ _⟩;subst Rb;cases ad<;>simp[execOp,ho,uu,resolve,invoke,Go.builtin,Builtin.clear_,run_underlying hu]
 ·subst WD;obtain⟨Zd,xx⟩:=r.o.at_ l ob bb q Zt Jl;obtain⟨c1,pP,hb,My,Ku,ZH⟩:=xx.cells ZE;rw[hb]at ZG;cases ZG;have Jc:∀c2:Nat->List D,(⟨ob.kd,ob.gen,ob.sz,ob.n,c2⟩:Ob).kd=ob.kd:=λ_=>rfl;obtain⟨w',c',g1,g2,g3,g4,g5,g6,g7,g8,g9⟩:=ft (P:=P) bb el (List.replicate len z) 0 (q+off*ob.sz) w c0 hb (by simp;rw[hs]at My ⊢;omega) (λk hk=>by
   have Ju:k<len:=by simpa using hk
   have:Zb (List.replicate len z) k=z:=by simp[Zb,Ze,Ju]
   rw[this];exact hz)
  have T:Tr s.h pl w (s.h.set l ⟨ob.kd,ob.gen,ob.sz,ob.n,zL off len [Kq z] ob.row⟩) pl w':=Tr.QX r.o Zt Jl rfl rfl rfl (λk hk _=>g5 k hk) (λc2 el2 e2=>by rw[hb]at e2;cases e2;exact⟨c',g2,g3⟩);refine⟨.tuple #[],w',pl,.inl ?_,T,?_,.tup [] [] rfl (λi hi=>absurd hi (Vw i)),O6 (Zd hro) g5 g6 g7 g8 g9⟩
  ·subst haa;by_cases XX:len=0
   ·subst XX;have e1:w'=w:=by
     have:(storeCells ⟨bb,q+off*ob.sz,none⟩ (List.replicate 0 z) 0).run P w=.ok () w:=by simp[storeCells]
     rw[g1]at this;cases this;rfl
    rw[e1];simp[execOp,ho,uu,resolve,invoke,Go.builtin,Builtin.clear_,run_underlying hu]
   ·obtain⟨m,rfl⟩:∃m,len=m+1:=⟨len - 1,by omega⟩;simp[execOp,ho,uu,resolve,invoke,Go.builtin,Builtin.clear_,run_underlying hu,jj,HQ,g1]
  ·refine Zv.QX (hro:=rfl) r.o Zt Jl ZE ZE rfl rfl (λk hk _=>g5 k hk) hb g2 g3 (by rw[g3];exact My) (λk hk=>?_) (λk m hk hm=>?_)
   ·show (zL off len [Kq z] ob.row k).length=ob.sz;unfold zL;cases Nat.ble off k&&Nat.blt k (off+len)
    ·exact Ku k hk
    ·simp[hs]
   ·have Ju:k<ob.n:=hk;have Xk:m<ob.sz:=hm;show ∃v,c'[q+(k*ob.sz+m)]? = some v/\QE Z _ pl w' (nth (zL off len [Kq z] ob.row k) m) v;rw[hs]at Xk;have MK:m=0:=by omega
    subst MK;have l7:k*ob.sz+0=k:=by rw[hs];omega
    have Qxj:q+off*ob.sz+0=q+off:=by rw[hs];omega
    rw[g4,l7,Qxj];simp only[List.length_replicate];by_cases Xi:off<=k/\k<off+len
    ·rw[Qf (by omega)];have e1:zL off len [Kq z] ob.row k=[Kq z]:=by simp[zL,Gf,Qrj,Xi.1,Xi.2]
     rw[e1];exact⟨z,by rw[List.getElem?_replicate,Qf (by omega)],hrz _ _ _ _⟩
    ·rw[Qd (by omega)];have e1:zL off len [Kq z] ob.row k=ob.row k:=by
      unfold zL;cases h:(Nat.ble off k&&Nat.blt k (off+len))
      ·rfl
      ·simp at h;omega
     rw[e1];obtain⟨v,HO,Vx⟩:=ZH k 0 Ju (by omega);rw[l7]at HO;exact⟨v,HO,Vx.tr T⟩
end
section
variable {P:Program}{L:Jt}{base nt:Nat}{w0:Start}{Q:Exit->St->Prop}
def uv(hL:Jq P L)(hb:base<=w0.w.heap.size){k}{dst}{BM:TypeId}{pos}{after}{gd}{r}{s}{t e:TypeId}{x}{l g off len a b c}{z}{zt}{ob}
  (hx:Qt s.fr x=.ref l g off len) (Zt:s.h[l]? = some ob)
  (hk:ob.kd.Mp=false) (hg:ob.gen=g) (hs:ob.sz=1) (hro:ob.kd.ro=false) (hn:off+len<=ob.n) (ht:ty L t=some ⟨.slice e,a,b,zt⟩) {tk:TK} (he:ty L e=some ⟨tk,1,c,[z]⟩) (hz:Bl z=true) (hd:ZQ nt dst=true)
  (h1:QA P base nt w0 Q (.ops r::k) .normal ⟨ZC s.fr dst (.tup []),s.h.set l ⟨ob.kd,ob.gen,ob.sz,ob.n,zL off len [Kq z] ob.row⟩⟩) :
  QA P base nt w0 Q (.ops ((⟨dst,.call ⟨.builtin .clear,#[x],#[t]⟩,BM,pos,after,gd⟩,none)::r)::k) .normal s:=by
 simp only[QA]at h1 ⊢;exact fY hb (Qxg hL rfl hx Zt hk hg hs hro hn ht he hz) hd h1
end
def QK.cut{P}{f}{F}{args}{R R'}(hf:QK P f F args R)
  (hr:∀d h,R d h->∃l o n',h[l]? = some o/\o.kd.ty=0/\n'<=o.n/\R' d (h.set l ⟨o.kd,o.gen,o.sz,n',o.row⟩)):QK P f F args R':=by
 intro Z base w pl vs h1 h2 h3 hl hc;refine(hf Z base w pl vs h1 h2 h3 hl hc).mono λe w' he=>?_;obtain⟨v,d,h,Qm,rfl,hR,hO,hV,hT,hB⟩:=he;obtain⟨l,o,n',ho,hk,hn,hR'⟩:=hr _ _ hR;have hl:=Kr ho;have key:∀(x:Nat) (u:Ob),h[x]? = some u->∃u',(h.set l ⟨o.kd,o.gen,o.sz,n',o.row⟩)[x]? = some u'/\u'.gen=u.gen/\u'.sz=u.sz/\u'.kd.ty=u.kd.ty:=λx u e=>by
  by_cases hx:l=x
  ·subst hx;rw[ho]at e;cases e;exact⟨_,Wm hl,rfl,rfl,rfl⟩
  ·exact⟨u,by rw[JJ hx];exact e,rfl,rfl,rfl⟩
 refine⟨v,d,_,Qm,rfl,hR',⟨by simp[hO.len],hO.inj,λx u e ep=>?_,λx u b q e ep=>?_⟩,hV.EI key,⟨hT.KE,λx u p e ep=>?_,λx u u' b q e e' hg ep c el hc=>?_⟩,hB⟩
 ·by_cases hx:l=x
  ·subst hx;rw[Wm hl]at e;cases e;have:=hO.VM l o ho ep;show n'=0;omega
  ·rw[JJ hx]at e;exact hO.VM x u e ep
 ·by_cases hx:l=x
  ·subst hx;rw[Wm hl]at e;cases e;obtain⟨g1,xx⟩:=hO.at_ l o b q ho ep;obtain⟨c,el,c1,c2,c3,c4⟩:=xx.cells hk;refine⟨g1,.Mq hk ⟨c,el,c1,?_,λi hi=>c3 i (wU hi hn),λi j hi hj=>?_⟩⟩
   ·have:=qN o.sz hn;show q+n'*o.sz<=c.size;omega
   ·obtain⟨u,hu,hr⟩:=c4 i j (wU hi hn) hj;exact⟨u,hu,hr.EI key⟩
  ·rw[JJ hx]at e;obtain⟨g1,xx⟩:=hO.at_ x u b q e ep;exact⟨g1,xx.to rfl rfl rfl rfl (λ_ _=>rfl) λi j v _ _ hr=>hr.EI key⟩
 ·obtain⟨u',p',a1,a2,a3,a4,a5⟩:=hT.obj x u p e ep;obtain⟨u2,b1,b2,b3,b4⟩:=key x u' a1;exact⟨u2,p',b1,a2,by omega,by rw[b4,a4],λhh=>by rw[b3];exact a5 (by omega)⟩
 ·obtain⟨u1,p',a1,a2,a3,a4,a5⟩:=hT.obj x u _ e ep;obtain⟨u2,b1,b2,b3,b4⟩:=key x u1 a1;rw[e']at b1;cases b1;exact hT.shape x u u1 b q e a1 (by omega) ep c el hc
section
variable {P:Program}{L:Jt}{base nt:Nat}{s:St}{o:Oper}
def Qxl(hL:Jq P L){t:TypeId}{x:Operand}(ho:o.op=.call ⟨.builtin .cap,#[x],#[t]⟩)(hx:Qt s.fr x=.nil){e a b:Nat}{zt:List Value}(ht:ty L t=some ⟨.slice e,a,b,zt⟩):WE P base nt o s (.raw (.int .i64 0)):=by
 intro Z pl ac w r;have hr:=r.eval x;rw[hx]at hr;obtain⟨a0,hv⟩:=Ei hr;refine⟨_,.cl _ _ (.raw _),λw' _=>?_⟩;rw[vJ ho];simp[builtin,hv,Builtin.cap_,run_underlying (xZ (hL _ _ ht) rfl),goInt]
def Qxm{t ti e:TypeId}{ty0:TypeId}{y:Ty}{k kn:IntKind}(ht:P.underlying t=some (.slice e))(UW:P.underlying ti=some (.int kn))(hy:Xf P e y)(hz:y.zero.length=y.size)(hs:0<y.size)(w:World)(b:Option Addr)(n:Nat)
  (h0:0<n) (vK:n<=4294967296) (qg:y.bytes<=1024) :
  ∃wZ rest,(Builtin.append_ #[t,ti] ty0 #[.slice b 0 0,.int k n]).run P w=.ok (.slice (some ⟨w.heap.size,0,none⟩) n wZ) (w.drew.alloc (.cells ((flat n y.size λ_ j=>Zb y.zero j).toArray++rest) e))/\n<=wZ/\rest.size=(wZ - n)*y.size:=by
 obtain⟨z,Ac,jj⟩:=hy.zeroValue;obtain⟨i,hi,zy,zz⟩:=hy.typeInfo w;have JQ:∀w,(typeInfo e).run P w=.ok i w:=λw=>by
  have h4:=hy.info;cases hx:P.info? e with
  | none=>rw[hx]at h4;cases h4
  | some k=>
   simp[typeInfo,hx]at hi ⊢;exact hi
 refine⟨grownCap w n 0 e,Builtin.zeroCells z.cells (grownCap w n 0 e - n),?_,grownCap_ge _ _ _ _,by rw[rj];congr 1;rw[<- hz,<- Ac];simp⟩;have hn:¬ n=0:=by omega
 have hw:IntKind.i64.wrap (n:Int)=n:=by rw[IntKind.wrap_i64];omega
 have rk:¬ (9223372036854775807<(n:Int)):=by omega
 have hmul:n*y.bytes<=4294967296*1024:=vF vK qg;have rn:¬ (281474976710656<Builtin.nextslicecap n 0*i.bytes):=by rw[nextslicecap_zero h0,zz];omega
 have uw:¬ (281474976710656<(n:Int)*(i.bytes:Int)):=by
  rw[<- OM,zz];omega
 have UX:¬ ((n:Int)<0):=by omega
 have CK:¬ (n*y.size=0):=Nat.mul_ne_zero hn (by omega);have FZ:z.cells.size=y.size:=by rw[<- hz,<- Ac];simp
 have wh:(flat n y.size λ_ j=>Zb y.zero j).toArray=Builtin.zeroCells z.cells n:=by
  apply Array.ext
  ·rw[rj,FZ];simp[ji]
  ·intro j h1 h2;simp only[HC,ji]at h1;obtain⟨d1,d2,d3⟩:=div_lt h1;have UY:y.zero=z.cells.toList:=Ac.symm;have hj:j % y.size<z.cells.size:=by rw[FZ];exact d2
   simp[flat,Builtin.zeroCells,Zb,UY,Ze,FZ,hj];rw[getElem!_pos z.cells _ hj,kv hj];rfl
 rw[wh];cases b<;>simp[Builtin.append_,run_underlying ht,run_underlying UW,hy.sizeOf,JQ,jj,asInt,asIntOf,hw,hn,UX,CK,rk,rn,uw,Question.forced,Builtin.firstCells,loadCells,loadCellsFrom,newRow,grownCap,askRoom,mark,Sem.run]
def Qxn(hL:Jq P L){t ti e:TypeId}{x0 x:Operand}{n:Nat}{kn:IntKind}{a b c d:Nat}{zt zi:List Value}{y:Ty}{k:IntKind}(ho:o.op=.call ⟨.builtin .append,#[x0,x],#[t,ti]⟩)(w9:Qt s.fr x0=.nil)(hx:Qt s.fr x=.raw (.int k n))
  (ht:ty L t=some ⟨.slice e,a,b,zt⟩) (UW:ty L ti=some ⟨.int kn,c,d,zi⟩) (WO:ty L e=some y) (hz:y.zero.length=y.size) (hs:0<y.size) (h0:0<n) (vK:n<=4294967296) (qg:y.bytes<=1024) :
  kE P base nt o s (s.h++[⟨.arr,0,y.size,n,λ_=>y.zero.map Kq⟩]) (.ref s.h.length 0 0 n):=by
 refine Mx.up ?_ (by simp[calm,ho]);intro Z pl ac w r K7;have Xx:=r.eval x0;have FY:=r.eval x;rw[w9]at Xx;rw[hx]at FY;obtain⟨a0,Pb⟩:=Ei Xx;have hv:=JG FY;have hy:=hL _ _ WO;have Zk:pl.length=s.h.length:=r.o.len;obtain⟨wZ,rest,Zl,HT,Bn⟩:=Qxm (ty0:=o.type) (k:=k) (xZ (hL _ _ ht) rfl) (Eg (hL _ _ UW) rfl) hy hz hs w a0 n h0 vK qg;have e1:∀b,b<w.heap.size->(w.drew.alloc (.cells ((flat n y.size λ_ j=>Zb y.zero j).toArray++rest) e)).heap[b]? = w.heap[b]? := λb hb=>xY w.drew _ b hb;have Kb:(w.drew.alloc (.cells ((flat n y.size λ_ j=>Zb y.zero j).toArray++rest) e)).heap[w.heap.size]? = some (.cells ((flat n y.size λ_ j=>Zb y.zero j).toArray++rest) e (0,0)):=heap_alloc_new w.drew _;have T:Tr s.h pl w (s.h++[⟨.arr,0,y.size,n,λ_=>y.zero.map Kq⟩]) (pl++[some (w.heap.size,0)]) (w.drew.alloc (.cells ((flat n y.size λ_ j=>Zb y.zero j).toArray++rest) e)):=Tr.push r.o e1 _ _ (by intro b q h;simp at h;omega);refine⟨.slice (some ⟨w.heap.size,0,none⟩) n wZ,_,_,.inl ?_,T,Zv.push r.o e1 _ rfl (QB _) K7 Kb (by simp[ji]) (λi hi=>by simp[hz]) (λi j hi hj=>⟨Zb y.zero j,?_,?_⟩),.ref _ _ _ _ ⟨.arr,0,y.size,n,λ_=>y.zero.map Kq⟩ (some (w.heap.size,0)) _ _ (by simp) (by rw[<- Zk];simp) rfl (QB _) (λ_=>.inr ⟨w.heap.size,0,_,_,rfl,by simp,Kb,?_,HT⟩),((Below.refl base w).drew).alloc K7 _⟩
 ·rw[vJ ho];have:(Array.map ac.eval #[x0,x])=#[.slice a0 0 0,.int k n]:=by simp[Pb,hv]
  rw[this];simp only[builtin,Sem.run_bind,Zl,Result.andThen_ok,Sem.run_pure]
 ·have hg:=HP (vs:=λ_ j=>Zb y.zero j) hi hj;have Qc:=(Xd.1 hg).1;rw[JV,OJ (by simpa using Qc)];simpa using hg
 ·have Ws:j<y.zero.length:=by rw[hz];exact hj
  have:nth (y.zero.map Kq) j=Kq (Zb y.zero j):=by simp[nth,Zb,Ze,Ws]
  show QE Z _ _ _ (nth (y.zero.map Kq) j) _;rw[this];exact .cl _ _ (Eh _ _ _)
 ·simp only[JV,Array.size_append,HC,ji,Bn];rw[<- VL];exact qN _ (by omega)
end
section
variable {P:Program}{L:Jt}{base nt:Nat}{w0:Start}{Q:Exit->St->Prop}
def ux(hL:Jq P L){k:List Item}{dst:Option Nat}{BM:TypeId}{pos:String}{after:Array Edge}{gd:Option (Nat × Bool)}{r:List (Oper × G)}{s:St}{t e a b:Nat}{x:Operand}{zt:List Value}
  (hx:Qt s.fr x=.nil) (ht:ty L t=some ⟨.slice e,a,b,zt⟩) (hd:ZQ nt dst=true) (h1:QA P base nt w0 Q (.ops r::k) .normal ⟨ZC s.fr dst (.raw (.int .i64 0)),s.h⟩) :
  QA P base nt w0 Q (.ops ((⟨dst,.call ⟨.builtin .cap,#[x],#[t]⟩,BM,pos,after,gd⟩,none)::r)::k) .normal s:=by
 simp only[QA]at h1 ⊢;exact rV (Qxl hL rfl hx ht) hd h1
def Qxo(hL:Jq P L)(hb:base<=w0.w.heap.size){k:List Item}{dst:Option Nat}{BM:TypeId}{pos:String}{after:Array Edge}{gd:Option (Nat × Bool)}{r:List (Oper × G)}{s:St}{t ti e:TypeId}{x0 x:Operand}{n:Nat}{kn:IntKind}{a b c d:Nat}{zt zi:List Value}{y:Ty}{ki:IntKind}
  (w9:Qt s.fr x0=.nil) (hx:Qt s.fr x=.raw (.int ki n)) (ht:ty L t=some ⟨.slice e,a,b,zt⟩) (UW:ty L ti=some ⟨.int kn,c,d,zi⟩) (WO:ty L e=some y) (hz:y.zero.length=y.size) (hs:0<y.size) (h0:0<n) (vK:n<=4294967296) (qg:y.bytes<=1024) (hd:ZQ nt dst=true)
  (h1:QA P base nt w0 Q (.ops r::k) .normal ⟨ZC s.fr dst (.ref s.h.length 0 0 n),s.h++[⟨.arr,0,y.size,n,λ_=>y.zero.map Kq⟩]⟩) :
  QA P base nt w0 Q (.ops ((⟨dst,.call ⟨.builtin .append,#[x0,x],#[t,ti]⟩,BM,pos,after,gd⟩,none)::r)::k) .normal s:=by
 simp only[QA]at h1 ⊢;exact fY hb (Qxn hL rfl w9 hx ht UW WO hz hs h0 vK qg) hd h1
end
section
variable {P:Program}{L:Jt}{base nt:Nat}{s:St}{o:Oper}
end
section
variable {P:Program}{L:Jt}{base nt:Nat}{w0:Start}{Q:Exit->St->Prop}
end
section
variable {Z:Nat->Prop}
def QE.QiX{h:List Ob}{pl:List Pl}{w}{l}{o:Ob}{p}(ho:h[l]? = some o)(hp:pl[l]? = some p)(hk:o.kd.ty=0){d}{v}(r:QE Z h pl w d v):QE Z (h.set l o.gone) (pl.set l none) w d v:=by
 have Zk:∀(l':Nat),l'≠l->(pl.set l none)[l']? = pl[l']? := λl' qh=>by rw[JJ (Q8 qh)]
 have Px:∀b,XN pl b->XN (pl.set l none) b:=λb hb l' q e=>by
  by_cases e1:l'=l
  ·subst e1;rw[Wm (Wq hp)]at e;cases e
  ·rw[Zk l' e1]at e;exact hb l' q e
 have qR:∀b,free Z pl b->free Z (pl.set l none) b:=λb hb=>⟨hb.1,Px b hb.2⟩;have x5:(h.set l o.gone)[l]? = some o.gone:=Wm (Kr ho);have QiY:(pl.set l none)[l]? = some none:=Wm (Wq hp);induction r with
 | cl d v hc=>exact .cl _ _ (hc.mono λb hb _=>⟨qR b hb,rfl⟩)
 | ref l' g off len o' p' a cap ZT Jl ZE hg hs=>
  by_cases e:l'=l
  ·subst e;rw[ho]at ZT;cases ZT;exact .ref _ g off len o.gone none a cap x5 QiY rfl (by simp[Ob.gone];omega) (λh1=>by simp[Ob.gone]at h1;omega)
  ·exact .ref _ g off len o' p' a cap (by rw[JJ (Q8 e)];exact ZT) (by rw[Zk l' e];exact Jl) ZE hg hs
 | ptr l' g i j o' p' a ZT Jl ZE hg hs=>
  by_cases e:l'=l
  ·subst e;rw[ho]at ZT;cases ZT;exact .ptr _ g i j o.gone none a x5 QiY rfl (by simp[Ob.gone];omega) (λh1=>by simp[Ob.gone]at h1;omega)
  ·exact .ptr _ g i j o' p' a (by rw[JJ (Q8 e)];exact ZT) (by rw[Zk l' e];exact Jl) ZE hg hs
 | mref l' g o' p' b ZT Jl ZE hg hs=>
  by_cases e:l'=l
  ·subst e;rw[ho]at ZT;cases ZT;exact absurd hk ZE.1
  ·exact .mref _ g o' p' b (by rw[JJ (Q8 e)];exact ZT) (by rw[Zk l' e];exact Jl) ZE hg hs
 | clo f nf cs vs hl hr ih=>exact .clo f nf cs vs hl ih
 | agg cs vs hl hr ih=>exact .agg cs vs hl ih
 | tup cs vs hl hr ih=>exact .tup cs vs hl ih
end
def l9(F h:List Ob):Prop:=∀(l:Nat) (o:Ob),F[l]? = some o->∃o',h[l]? = some o'/\o'.gen=o.gen
def Qp.IL{w0:Start}(hF:w0.pl.length=w0.F.length){fr}{h:List Ob}(Qxp:l9 w0.F h)(t l)(hl:w0.F.length<=l){o:Ob}{off len}(ht:get fr t=.ref l o.gen off len)(ho:h[l]? = some o)(hn:off+len<=o.n)(hk:o.kd.ty=0)(ZP:∀i,i<o.n->(o.row i).all D.WS=true):
  Qp w0 ⟨fr,h⟩ ⟨put fr t (.imm o.sz len (rowFrom off o.row)),h.set l o.gone⟩:=by
 intro Z z base nt pl a w r b;have hlen:pl.length=h.length:=r.o.len;have PM:l<pl.length:=by have h1:=Kr ho;omega
 have hp:pl[l]? = some pl[l]:=QW PM;generalize rG:pl[l]=p at hp;have sL:∀bb q:Nat,p=some (bb,q)->w0.w.heap.size<=bb:=λbb q e=>by
  subst e;rcases Bb bb w0.w.heap.size with Qc|XP
  ·exfalso;have qy:¬ XN w0.pl bb:=λha=>(b.2.1.KE bb ha Qc).1 l q hp;obtain⟨l0,h1⟩:=OL.1 qy;obtain⟨q0,h2⟩:=OL.1 h1;have h3:=Classical.not_not.1 h2;have XX:l0<w0.F.length:=by rw[<- hF];exact Wq h3
   obtain⟨o1,p1,k1,k2,k3,k4,k5⟩:=b.2.1.obj l0 _ _ (QW XX) h3;obtain⟨o2,k6,k7⟩:=Qxp l0 _ (QW XX);rw[k6]at k1;cases k1;obtain⟨_,k8⟩:=k5 k7;subst k8;have:=r.o.inj l0 l bb q0 q k2 hp;omega
  ·exact XP
 have VN:∀bb q,p=some (bb,q)->Z bb/\(∀l' q',pl[l']? = some (some (bb,q'))->l'=l)/\OY Z h pl w o bb q:=λbb q e=>by
  have h1:=sL bb q e;subst e;exact⟨b.2.2.own l bb q hp h1,λl' q' e'=>r.o.inj _ _ _ _ _ e' hp,(r.o.at_ l o bb q ho hp).2.cells hk⟩
 have Zk:∀(l':Nat),l'≠l->(pl.set l none)[l']? = pl[l']? := λl' qh=>by rw[JJ (Q8 qh)]
 have x5:(pl.set l none)[l]? = some none:=Wm PM;have BC:∀l' bb q:Nat,(pl.set l none)[l']? = some (some (bb,q))->l'≠l/\pl[l']? = some (some (bb,q)):=λl' bb q e=>by
  by_cases e1:l'=l
  ·subst e1;rw[x5]at e;cases e
  ·exact⟨e1,by rw[<- Zk l' e1];exact e⟩
 have hh:∀(l':Nat) (o':Ob),l'≠l->h[l']? = some o'->∃u:Ob,(h.set l o.gone)[l']? = some u/\u.gen=o'.gen/\u.sz=o'.sz/\u.kd.ty=o'.kd.ty:=λl' o' Qz e=>
  ⟨o',by rw[JJ (Q8 Qz)];exact e,rfl,rfl,rfl⟩
 have K:Ez w0.F.length h pl (h.set l o.gone) (pl.set l none):=⟨λb' KR l' q e=>KR l' q (BC _ _ _ e).2,λl' o' p' qh ZT Jl=>by
  have Qz:l'≠l:=by omega
  exact⟨o',by rw[JJ (Q8 Qz)];exact ZT,by rw[Zk l' Qz];exact Jl,rfl,rfl,rfl⟩⟩
 refine⟨pl.set l none,⟨r.nt,r.defers,λu=>?_,⟨by simp[hlen],λl1 l2 bb q q' e1 e2=>r.o.inj l1 l2 bb q q' (BC _ _ _ e1).2 (BC _ _ _ e2).2,λl1 o1 h1 e1=>?_,λl1 o1 bb q h1 e1=>?_⟩⟩,b.keep K⟩
 ·show QE Z _ _ w (get (put fr t _) u) _;rw[FT];by_cases e:u=t
  ·subst e;rw[Qf rfl];have h1:=(r.fr u).fz ho hp hk VN ZP hh;rw[ht]at h1;have h2:Nat.ble (off+len) o.n=true:=by rw[Mm];exact hn
   simpa only[D.fz,OT,h2,Bool.and_self,Yr] using h1
  ·rw[Qd e];exact(r.fr u).QiX ho hp hk
 ·by_cases e2:l1=l
  ·subst e2;rw[Wm (by omega)]at h1;cases h1;rfl
  ·rw[JJ (Q8 e2)]at h1;rw[Zk l1 e2]at e1;exact r.o.VM l1 o1 h1 e1
 ·obtain⟨Qz,e2⟩:=BC _ _ _ e1;rw[JJ (Q8 Qz)]at h1;obtain⟨g1,x⟩:=r.o.at_ l1 o1 bb q h1 e2;exact⟨g1,x.to rfl rfl rfl rfl (λi _=>rfl) λi j v hi hj hr=>hr.QiX ho hp hk⟩
section
variable {P:Program}{base nt:Nat}{w0:Start}
end
section
variable {P:Program}{base nt:Nat}{w0:Start}{Q:Exit->St->Prop}
end
section
variable {P:Program}{base nt:Nat}{w0:Start}{Q:Exit->St->Prop}
end
end Go.Fg
namespace Go.Fg
section
variable {P:Program}{base nt:Nat}{w0:Start}{Q:Exit->St->Prop}{k:List Item}{s:St}
def Rl(P:Program)(base nt:Nat)(w0:Start)(Q:Exit->St->Prop)(k:List Item)(c:Code):Nat->Exit->St->Prop
 | 0,.normal,_=>False
 | n+1,.normal,s=>QA P base nt w0 (Rl P base nt w0 Q k c n) [.code c] .normal s
 | _,e,s=>QA P base nt w0 Q k e s
@[go_sem] theorem QKS{c}{n}:Rl P base nt w0 Q k c (n+1) .normal s=QA P base nt w0 (Rl P base nt w0 Q k c n) [.code c] .normal s:=Vq rfl
@[go_sem] theorem QKT{c}{n j}:Rl P base nt w0 Q k c n (.exit j) s=QA P base nt w0 Q k (.exit j) s:=Vq (by cases n<;>rfl)
@[go_sem] theorem QKU{c}{n}:Rl P base nt w0 Q k c n .ret s=QA P base nt w0 Q k .ret s:=Vq (by cases n<;>rfl)
def xu(n){c}(h:QA P base nt w0 (Rl P base nt w0 Q k c n) [.code c] .normal s):QA P base nt w0 Q (.code (.loop c)::k) .normal s:=by
 simp only[QA];intro Z z pl a w r b;refine wp_loop_rounds (n+1) ?_;induction n generalizing s pl a w with
 | zero=>
  simp only[QA]at h;rw[rounds_succ];refine Code.wp_mono (λe a w q=>?_) (h Z z pl a w r b);obtain⟨s',Qm,h1,h2,h3⟩:=q;cases e with
  | normal=>exact h1.elim
  | _=>exact⟨s',Qm,h1,h2,h3⟩
 | succ n ih=>
  simp only[QA]at h;rw[rounds_succ];refine Code.wp_mono (λe a w q=>?_) (h Z z pl a w r b);obtain⟨s',Qm,h1,h2,h3⟩:=q;cases e with
  | normal=>exact ih h1 Qm a w h2 h3
  | _=>exact⟨s',Qm,h1,h2,h3⟩
end
end Go.Fg
namespace Go.Fg.X
open Go.Proofs Go.Fg
open Go.Proofs.Tryz
def uy(a)(i)(b)(j):Q4 prog 304 [.agg [u64 a,Qb i],.agg [u64 b,Qb j]] (Qn (Qb (jt a i b j))):=by
 refine ZA 0 Qi 200 func304 rfl ntmps304 results304 rfl λbase w hb=>?_;simp only[go_sem]
 repeat' (first|((first|refine zE (λh=>?_) (λh=>?_)|refine zF (λh=>?_) (λh=>?_)|refine zG (λh=>?_) (λh=>?_)|refine XS (λh=>?_) (λh=>?_)|refine zH (λh=>?_) (λh=>?_)|refine zI (λh=>?_) (λh=>?_)|refine zJ (λh=>?_) (λh=>?_)|refine zD (λh=>?_) (λh=>?_))<;>(try simp only[go_sem,Go.undef]))|(refine And.intro (by first|assumption|omega) ?_;try simp only[go_sem,Go.undef])|fail)
 all_goals (congr 2;(try simp only[Z9,Me,Cr,Hy,vG,jO,bne_iff_ne,bne_eq_false_iff_eq,XM,TG,ne_eq]at *);(try unfold jt KB);(repeat' split)<;>omega)
def Rm(x y:It):Q4 prog 268 [.agg x.cells,.agg y.cells] (Qn (.agg (kU x y).cells)):=by
 have c1:=uy y.va y.vi x.va x.vi;have c2:=uy y.ka y.ki x.ka x.ki;simp only[kU];generalize jt y.va y.vi x.va x.vi=p at *;generalize jt y.ka y.ki x.ka x.ki=q at *;refine ZA 0 Qi 200 func268 rfl ntmps268 results268 rfl λbase w hb=>?_;simp only[go_sem];refine ZW hb tE rfl ?_ c1 (Qn.flat rfl) rfl λd h hR=>?_
 ·simp only[go_sem]
 obtain⟨rfl,rfl⟩:=hR;refine Qe hb ?_;simp only[go_sem]
 repeat' (first|((first|refine zE (λh=>?_) (λh=>?_)|refine zF (λh=>?_) (λh=>?_)|refine zG (λh=>?_) (λh=>?_)|refine XS (λh=>?_) (λh=>?_)|refine zH (λh=>?_) (λh=>?_)|refine zI (λh=>?_) (λh=>?_)|refine zJ (λh=>?_) (λh=>?_)|refine zD (λh=>?_) (λh=>?_))<;>(try simp only[go_sem,Go.undef]))|(refine And.intro (by first|assumption|omega) ?_;try simp only[go_sem,Go.undef])|(refine Zu hb [] tE rfl ?_ (c2) rfl ?_;(· simp only[go_sem,Go.undef]);intro d h hR;obtain⟨rfl,rfl⟩:=hR;(simp only[go_sem,Go.undef]);refine Qe hb ?_;simp only[go_sem,Go.undef])|fail)
 all_goals (try simp only[vG,jO,ne_eq]at *);(first|rw[Qf (by omega)]|rw[Qd (by omega)])
section
variable {h:List Ob}{t:Tr}(i:jY h t)
include i
theorem wi:QV prog 316 h [t.ptr] (λd=>d=Qb t.high):=by
 cases t with
 | nil=>
  refine Zq Qi 200 func316 rfl ntmps316 results316 rfl λbase w pl F hF Q3 hb=>?_;simp only[go_sem,Qa];exact⟨[],by simp[Tr.high]⟩
 | node loc it l r=>
  have h2:=i.1;refine Zq Qi 200 func316 rfl ntmps316 results316 rfl λbase w pl F hF Q3 hb=>?_;rw[<- hF]at h2;have K9:=Qc h2;simp only[go_sem,Qa,h2,K9];exact⟨[],by simp⟩
theorem GD:QV prog 303 h [t.ptr] (λd=>d=Qb t.size):=by
 cases t with
 | nil=>
  refine Zq Qi 200 func303 rfl ntmps303 results303 rfl λbase w pl F hF Q3 hb=>?_;simp only[go_sem,Qa];exact⟨[],by simp[Tr.size]⟩
 | node loc it l r=>
  have h2:=i.1;refine Zq Qi 200 func303 rfl ntmps303 results303 rfl λbase w pl F hF Q3 hb=>?_;rw[<- hF]at h2;have K9:=Qc h2;simp only[go_sem,Qa,h2,K9];exact⟨[],by simp⟩
theorem uz(n):QV prog 317 h [t.ptr,u64 n] (λd=>d=QJ (t.hasB n)):=by
 cases t with
 | nil=>
  refine Zq Qi 200 func317 rfl ntmps317 results317 rfl λbase w pl F hF Q3 hb=>?_;simp only[go_sem,Qa];exact⟨[],by simp[Tr.hasB]⟩
 | node loc it l r=>
  have h2:=i.1;refine Zq Qi 200 func317 rfl ntmps317 results317 rfl λbase w pl F hF Q3 hb=>?_;rw[<- hF]at h2;have K9:=Qc h2;simp only[go_sem,Qa,h2,K9];exact⟨[],by simp[Tr.hasB]⟩
end
structure Raw (h:List Ob) (loc:Nat) (it:It) (l r:Tr) (le:It) (hi n:Int):Prop where
 o:h[loc]? = some (GA it l.ptr r.ptr le hi n)
 il:VA h l
 ir:VA h r
def VA.set{h:List Ob}{t:Tr}(i:VA h t){k}(o)(hn:k ∉ t.QR):VA (h.set k o) t:=i.frame λl hl=>Qk λe=>hn (e▸hl)
def EV{h}{loc}{it}{l r:Tr}{le}{hi n}(i:Raw h loc it l r le hi n)(hs:l.size<1000000)(JL:r.size<1000000)(nl:loc ∉ l.QR)(nr:loc ∉ r.QR):
  QK prog 298 h [.ptr loc 0 0 0] (λd h'=>h'=h.set loc (GA it l.ptr r.ptr (Tr.node loc it l r).least ((Tr.node loc it l r).high:Nat) ((Tr.node loc it l r).size:Nat))):=by
 have h1:=i.o;have il:=i.il;have ir:=i.ir;have w1:=l.Rh;have w2:=r.Rh;have e1:max (l.high:Int) (r.high:Int)=((max l.high r.high:Nat):Int):=by omega
 have e2:IntKind.i64.wrap (1+((max l.high r.high:Nat):Int))=((1+max l.high r.high:Nat):Int):=by rw[wrap64 (by omega) (by omega)];omega
 have e3:IntKind.i64.wrap (1+(l.size:Int))=((1+l.size:Nat):Int):=by rw[wrap64 (by omega) (by omega)];omega
 have e4:IntKind.i64.wrap (((1+l.size:Nat):Int)+(r.size:Int))=((1+l.size+r.size:Nat):Int):=by rw[wrap64 (by omega) (by omega)];omega
 rcases l with _|⟨a,b,c,d⟩<;>rcases r with _|⟨a',b',c',d'⟩
 ·simp only[Tr.IG,Tr.EU]at h1;refine Q6 Qi 200 func298 rfl ntmps298 results298 rfl λbase w pl hb=>?_;have QO:=Qc h1;simp only[go_sem,Qa,h1,QO];refine KU Qi hb 200 mixed [(0,true),(1,true),(2,true),(3,true),(4,true),(5,true),(7,true),(8,true),(9,true),(10,true),(11,true),(6,false),(12,false),(13,true),(14,true),(15,true),(16,true),(17,false)] (by kernel_rfl) (by kernel_rfl) ?_;simp only[go_sem,Qa,h1,QO];refine Xj hb vY rfl ?_ (wi il.toR) rfl λd hR=>?_
  ·simp only[go_sem,Qa,h1,QO]
  subst hR;refine Zr hb ?_;simp only[go_sem,Qa,h1,QO];refine Xj hb vY rfl ?_ (wi ir.toR) rfl λd hR=>?_
  ·simp only[go_sem,Qa,h1,QO,e1,e2]
  subst hR;refine Zr hb ?_;simp only[go_sem,Qa,h1,QO,e1,e2];refine KU Qi hb 200 mixed [(0,true),(1,true),(2,true),(3,true),(4,true),(5,true),(8,true),(9,true),(10,true),(11,true),(12,true),(6,false),(7,true),(13,false),(14,true),(15,true),(16,true),(17,false)] (by kernel_rfl) (by kernel_rfl) ?_;simp only[go_sem,Qa,h1,QO,Qs QO];refine Xj hb Gp rfl ?_ (GD (il.set _ nl).toR) rfl λd hR=>?_
  ·simp only[go_sem,Qa,h1,QO,Qs QO,e3]
  subst hR;refine Zr hb ?_;simp only[go_sem,Qa,h1,QO,Qs QO,e3];refine Xj hb Gp rfl ?_ (GD (ir.set _ nr).toR) rfl λd hR=>?_
  ·simp only[go_sem,Qa,h1,QO,Qs QO,e4]
  subst hR;refine Zr hb ?_;simp only[go_sem,Qa,h1,QO,Qs QO,e4];refine xu 2 ?_;refine Qe hb ?_;simp only[go_sem,Qa,h1,QO,Qs QO];refine Qe hb ?_;simp only[go_sem,Qa,h1,QO,Qs QO];refine Qe hb ?_;simp only[go_sem,Qa,h1,QO,Qs QO];rfl
 ·simp only[Tr.IG,Tr.EU]at h1;have KR:=ir.1;have Yv:loc≠a':=by rintro rfl;exact nr (by simp[Tr.QR])
  refine Q6 Qi 200 func298 rfl ntmps298 results298 rfl λbase w pl hb=>?_;have QO:=Qc h1;simp only[go_sem,Qa,h1,QO];refine KU Qi hb 200 mixed [(0,true),(1,true),(2,true),(3,true),(4,true),(5,true),(7,true),(8,true),(9,true),(10,true),(11,true),(6,false),(12,false),(13,true),(14,true),(15,true),(16,true),(17,false)] (by kernel_rfl) (by kernel_rfl) ?_;simp only[go_sem,Qa,h1,QO];refine Xj hb vY rfl ?_ (wi il.toR) rfl λd hR=>?_
  ·simp only[go_sem,Qa,h1,QO]
  subst hR;refine Zr hb ?_;simp only[go_sem,Qa,h1,QO];refine Xj hb vY rfl ?_ (wi ir.toR) rfl λd hR=>?_
  ·simp only[go_sem,Qa,h1,QO,e1,e2]
  subst hR;refine Zr hb ?_;simp only[go_sem,Qa,h1,QO,e1,e2];refine KU Qi hb 200 mixed [(0,true),(1,true),(2,true),(3,true),(4,true),(5,true),(8,true),(9,true),(10,true),(11,true),(12,true),(6,false),(7,true),(13,false),(14,true),(15,true),(16,true),(17,false)] (by kernel_rfl) (by kernel_rfl) ?_;simp only[go_sem,Qa,h1,QO,Qs QO];refine Xj hb Gp rfl ?_ (GD (il.set _ nl).toR) rfl λd hR=>?_
  ·simp only[go_sem,Qa,h1,QO,Qs QO,e3]
  subst hR;refine Zr hb ?_;simp only[go_sem,Qa,h1,QO,Qs QO,e3];refine Xj hb Gp rfl ?_ (GD (ir.set _ nr).toR) rfl λd hR=>?_
  ·simp only[go_sem,Qa,h1,QO,Qs QO,e4]
  subst hR;refine Zr hb ?_;simp only[go_sem,Qa,h1,QO,Qs QO,e4];refine xu 2 ?_;refine Qe hb ?_;simp only[go_sem,Qa,h1,QO,Qs QO,KR,Qk Yv];refine Qe hb ?_;simp only[go_sem,Qa,h1,QO,Qs QO,KR,Qk Yv];refine KU Qi hb 200 mixed [(0,true),(1,true),(2,true),(3,true),(4,true),(5,true),(6,true),(7,true),(8,true),(9,false),(10,true),(11,true),(12,false)] (by kernel_rfl) (by kernel_rfl) ?_;simp only[go_sem,Qa,h1,QO,Qs QO,KR,Qk Yv];refine Vj hb PZ rfl ?_ (Rm it (Tr.node a' b' c' d').least) (Qn.flat rfl) rfl λd h hR=>?_
  ·simp only[go_sem,Qa,h1,QO,Qs QO,KR,Qk Yv]
  obtain⟨rfl,rfl⟩:=hR;refine Zr hb ?_;simp only[go_sem,Qa,h1,QO,Qs QO,KR,Qk Yv];refine Qe hb ?_;simp only[go_sem,Qa,h1,QO,Qs QO,KR,Qk Yv];rfl
 ·simp only[Tr.IG,Tr.EU]at h1;have ha:=il.1;have qy:loc≠a:=by rintro rfl;exact nl (by simp[Tr.QR])
  refine Q6 Qi 200 func298 rfl ntmps298 results298 rfl λbase w pl hb=>?_;have QO:=Qc h1;simp only[go_sem,Qa,h1,QO];refine KU Qi hb 200 mixed [(0,true),(1,true),(2,true),(3,true),(4,true),(5,true),(7,true),(8,true),(9,true),(10,true),(11,true),(6,false),(12,false),(13,true),(14,true),(15,true),(16,true),(17,false)] (by kernel_rfl) (by kernel_rfl) ?_;simp only[go_sem,Qa,h1,QO];refine Xj hb vY rfl ?_ (wi il.toR) rfl λd hR=>?_
  ·simp only[go_sem,Qa,h1,QO]
  subst hR;refine Zr hb ?_;simp only[go_sem,Qa,h1,QO];refine Xj hb vY rfl ?_ (wi ir.toR) rfl λd hR=>?_
  ·simp only[go_sem,Qa,h1,QO,e1,e2]
  subst hR;refine Zr hb ?_;simp only[go_sem,Qa,h1,QO,e1,e2];refine KU Qi hb 200 mixed [(0,true),(1,true),(2,true),(3,true),(4,true),(5,true),(8,true),(9,true),(10,true),(11,true),(12,true),(6,false),(7,true),(13,false),(14,true),(15,true),(16,true),(17,false)] (by kernel_rfl) (by kernel_rfl) ?_;simp only[go_sem,Qa,h1,QO,Qs QO];refine Xj hb Gp rfl ?_ (GD (il.set _ nl).toR) rfl λd hR=>?_
  ·simp only[go_sem,Qa,h1,QO,Qs QO,e3]
  subst hR;refine Zr hb ?_;simp only[go_sem,Qa,h1,QO,Qs QO,e3];refine Xj hb Gp rfl ?_ (GD (ir.set _ nr).toR) rfl λd hR=>?_
  ·simp only[go_sem,Qa,h1,QO,Qs QO,e4]
  subst hR;refine Zr hb ?_;simp only[go_sem,Qa,h1,QO,Qs QO,e4];refine xu 2 ?_;refine Qe hb ?_;simp only[go_sem,Qa,h1,QO,Qs QO,ha,Qk qy];refine KU Qi hb 200 mixed [(0,true),(1,true),(2,true),(3,true),(4,true),(5,true),(6,true),(7,true),(8,true),(9,false),(10,true),(11,true),(12,false)] (by kernel_rfl) (by kernel_rfl) ?_;simp only[go_sem,Qa,h1,QO,Qs QO,ha,Qk qy];refine Vj hb PZ rfl ?_ (Rm it (Tr.node a b c d).least) (Qn.flat rfl) rfl λd h hR=>?_
  ·simp only[go_sem,Qa,h1,QO,Qs QO,ha,Qk qy]
  obtain⟨rfl,rfl⟩:=hR;refine Zr hb ?_;simp only[go_sem,Qa,h1,QO,Qs QO,ha,Qk qy];refine Qe hb ?_;simp only[go_sem,Qa,h1,QO,Qs QO,ha,Qk qy];refine Qe hb ?_;simp only[go_sem,Qa,h1,QO,Qs QO,ha,Qk qy];rfl
 ·simp only[Tr.IG,Tr.EU]at h1;have ha:=il.1;have qy:loc≠a:=by rintro rfl;exact nl (by simp[Tr.QR])
  have KR:=ir.1;have Yv:loc≠a':=by rintro rfl;exact nr (by simp[Tr.QR])
  refine Q6 Qi 200 func298 rfl ntmps298 results298 rfl λbase w pl hb=>?_;have QO:=Qc h1;simp only[go_sem,Qa,h1,QO];refine KU Qi hb 200 mixed [(0,true),(1,true),(2,true),(3,true),(4,true),(5,true),(7,true),(8,true),(9,true),(10,true),(11,true),(6,false),(12,false),(13,true),(14,true),(15,true),(16,true),(17,false)] (by kernel_rfl) (by kernel_rfl) ?_;simp only[go_sem,Qa,h1,QO];refine Xj hb vY rfl ?_ (wi il.toR) rfl λd hR=>?_
  ·simp only[go_sem,Qa,h1,QO]
  subst hR;refine Zr hb ?_;simp only[go_sem,Qa,h1,QO];refine Xj hb vY rfl ?_ (wi ir.toR) rfl λd hR=>?_
  ·simp only[go_sem,Qa,h1,QO,e1,e2]
  subst hR;refine Zr hb ?_;simp only[go_sem,Qa,h1,QO,e1,e2];refine KU Qi hb 200 mixed [(0,true),(1,true),(2,true),(3,true),(4,true),(5,true),(8,true),(9,true),(10,true),(11,true),(12,true),(6,false),(7,true),(13,false),(14,true),(15,true),(16,true),(17,false)] (by kernel_rfl) (by kernel_rfl) ?_;simp only[go_sem,Qa,h1,QO,Qs QO];refine Xj hb Gp rfl ?_ (GD (il.set _ nl).toR) rfl λd hR=>?_
  ·simp only[go_sem,Qa,h1,QO,Qs QO,e3]
  subst hR;refine Zr hb ?_;simp only[go_sem,Qa,h1,QO,Qs QO,e3];refine Xj hb Gp rfl ?_ (GD (ir.set _ nr).toR) rfl λd hR=>?_
  ·simp only[go_sem,Qa,h1,QO,Qs QO,e4]
  subst hR;refine Zr hb ?_;simp only[go_sem,Qa,h1,QO,Qs QO,e4];refine xu 2 ?_;refine Qe hb ?_;simp only[go_sem,Qa,h1,QO,Qs QO,ha,Qk qy,KR,Qk Yv];refine KU Qi hb 200 mixed [(0,true),(1,true),(2,true),(3,true),(4,true),(5,true),(6,true),(7,true),(8,true),(9,false),(10,true),(11,true),(12,false)] (by kernel_rfl) (by kernel_rfl) ?_;simp only[go_sem,Qa,h1,QO,Qs QO,ha,Qk qy,KR,Qk Yv];refine Vj hb PZ rfl ?_ (Rm it (Tr.node a b c d).least) (Qn.flat rfl) rfl λd h hR=>?_
  ·simp only[go_sem,Qa,h1,QO,Qs QO,ha,Qk qy,KR,Qk Yv]
  obtain⟨rfl,rfl⟩:=hR;refine Zr hb ?_;simp only[go_sem,Qa,h1,QO,Qs QO,ha,Qk qy,KR,Qk Yv];refine Qe hb ?_;simp only[go_sem,Qa,h1,QO,Qs QO,ha,Qk qy,KR,Qk Yv];refine KU Qi hb 200 mixed [(0,true),(1,true),(2,true),(3,true),(4,true),(5,true),(6,true),(7,true),(8,true),(9,false),(10,true),(11,true),(12,false)] (by kernel_rfl) (by kernel_rfl) ?_;simp only[go_sem,Qa,h1,QO,Qs QO,ha,Qk qy,KR,Qk Yv];refine Vj hb PZ rfl ?_ (Rm (kU it (Tr.node a b c d).least) (Tr.node a' b' c' d').least) (Qn.flat rfl) rfl λd h hR=>?_
  ·simp only[go_sem,Qa,h1,QO,Qs QO,ha,Qk qy,KR,Qk Yv]
  obtain⟨rfl,rfl⟩:=hR;refine Zr hb ?_;simp only[go_sem,Qa,h1,QO,Qs QO,ha,Qk qy,KR,Qk Yv];refine Qe hb ?_;simp only[go_sem,Qa,h1,QO,Qs QO,ha,Qk qy,KR,Qk Yv];rfl
end Go.Fg.X
