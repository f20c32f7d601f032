/- Contracts and laws on the way to the statement. No conditions. -/
import Derived.Test.YtkfemlhbbcojnaaGreatFgTellD
import Derived.Test.YtkfemlhbbcojnaaGreatProg
import Derived.KernelRfl
import Derived.Deep.Slices
import Derived.ChangeArms
import Derived.OpenShut
import Derived.ProofKit
import Derived.ChangeOld
import Derived.Below
import Derived.WideShapes
import Derived.Laws.BytesString
import Derived.LoopN
import Derived.Shelf.Sort.Plain
import Derived.Shelf.Slices.In.SortNone
import Derived.Lib.SortBridge
import Derived.Laws.BitsAllLaws
set_option maxRecDepth 100000
set_option maxHeartbeats 16000000
set_option linter.unusedVariables false
set_option linter.unusedSimpArgs false
set_option linter.unusedSectionVars false
set_option linter.defProp false
namespace Go.Fg
open Go.RowKit (Below)
variable {Z:Nat->Prop}
def QC.Cb{h h':List Ob}{pl}{w}(key:∀(l:Nat) (o:Ob),h[l]? = some o->∃o',h'[l]? = some o'/\o'.gen=o.gen/\o'.sz=o.sz/\o'.kd.ty=o.kd.ty){d}{v}(r:QC Z h pl w d v):QC Z h' pl w d v:=by
 induction r with
 | cl d v hc=>exact .cl d v hc
 | ref l g off len o p a cap ho hp hk hg hs=>
  obtain⟨o',h3,h4,h5,h6⟩:=key l o ho;exact .ref l g off len o' p a cap h3 hp (by rw[h6];exact hk) (by rw[h4];exact hg) (λe=>by rw[h5];exact hs (by rw[e,h4]))
 | ptr l g i j o p a ho hp hk hg hs=>
  obtain⟨o',h3,h4,h5,h6⟩:=key l o ho;exact .ptr l g i j o' p a h3 hp (by rw[h6];exact hk) (by rw[h4];exact hg) (λe=>by rw[h5];exact hs (by rw[e,h4]))
 | mref l g o p b ho hp hk hg hs=>
  obtain⟨o',h3,h4,h5,h6⟩:=key l o ho;exact .mref l g o' p b h3 hp (by rw[h6];exact hk) (by rw[h4];exact hg) (λe=>hs (by rw[e,h4]))
 | clo f nf cs vs hl hr ih=>exact .clo f nf cs vs hl ih
 | agg cs vs hl hr ih=>exact .agg cs vs hl ih
 | tup cs vs hl hr ih=>exact .tup cs vs hl ih
def ZC{h:List Ob}{l:Nat}{o:Ob}(e:h[l]? = some o):(h.map Ob.ro)[l]? = some o.ro:=by rw[Ks,e];rfl
def F7{h:List Ob}{l:Nat}{o:Ob}(e:(h.map Ob.ro)[l]? = some o):∃o',h[l]? = some o'/\o=o'.ro:=by
 rw[Ks,VA]at e;obtain⟨o',h1,h2⟩:=e;exact⟨o',h1,h2.symm⟩
@[go_sem] theorem QDX(k:Kd)(g z n)(r):Ob.ro ⟨k,g,z,n,r⟩=⟨k.toRo,g,z,n,r⟩:=rfl
theorem ro_ro(o:Ob):o.ro.ro=o.ro:=by
 obtain⟨k,g,z,n,r⟩:=o;cases k<;>rfl
def Wy(P:Program)(f:FuncId)(h:List Ob)(args:List D)(R:D->List Ob->Prop):Prop:=
 QH P f (h.map Ob.ro) args λd h'=>∃g,h'=h.map Ob.ro++g/\R d g
def Wy.mono{P}{f}{h}{args}{R R'}(hh:Wy P f h args R)(hr:∀d g,R d g->R' d g):Wy P f h args R':=QH.mono hh λ_ _ ⟨g,h1,h2⟩=>⟨g,h1,hr _ _ h2⟩
section
variable {P:Program}{base nt:Nat}{w0:Start}{Q:Exit->St->Prop}
def QbT(Q1:base<=w0.w.heap.size){o:Oper}{s}{x}{args}{Zl:Array TypeId}{f}{nf}{Qs}(hf:Qm P f)(ho:o.op=.call ⟨.value x,args,Zl⟩)
  (hx:Jq (Qo s.fr x)=some (f,nf,Qs)) {R:D->List Ob->Prop} (hF:QH P f s.h (ZT nf Qs (args.toList.map (Qo s.fr))) R)
  (ht:Zk nt o.dst=true) (pl:List Pl) (a:Act) (w:World) (r:Rel Z base nt s pl a w) (b:KX Z base w0 s.h pl w) (Q':Exit->Act->World->Prop) :
  o.wp P a w (λa' w'=>∃d h Qi,R d h/\Rel Z base nt ⟨Za s.fr o.dst d,h⟩ Qi a' w'/\KX Z base w0 h Qi w'/\Tr s.h pl w h Qi w'/\∃v,a'=a.put o.dst v) Q':=by
 obtain⟨vs,hv,kR,DE⟩:=P3 (r.eval x) hx;have qJ:base<=w.heap.size:=Ki Q1 b.1.size;obtain⟨q1,Kj⟩:=P4 (r:=λd v=>QC Z s.h pl w d v) (nf:=nf) kR DE (us:=args.toList.map a.eval) (args:=args.toList.map (Qo s.fr)) σ (λi hi=>by
  have Z9:i<args.toList.length:=by simpa using hi
  simp only[nth,QZ,Q5,Ks];rw[QP Z9];exact r.eval _)
 have hc:=hF Z base w pl (ZT nf vs (args.toList.map a.eval)) qJ b.2.2.new r.o q1 Kj;unfold Oper.wp;rw[P5 hf ho hv w];simp only[Oper.upon_enter];refine hc.mono λe w' he=>?_;obtain⟨v,d,h',Qi,rfl,hR,hO,hV,hT,hB⟩:=he;refine⟨d,h',Qi,hR,?_,b.step hT hB,hT,v,rfl⟩;cases hd:o.dst with
 | none=>exact r.ym hT hO v
 | some t=>rw[hd]at ht;exact r.to hT hO (jE ht) hV
def YB(Q1:base<=w0.w.heap.size){k}{dst}{ty:TypeId}{pos}{after}{gd}{r}{s}{x}{args}{Zl:Array TypeId}{f}{nf}{Qs}(hf:Qm P f)
  (hx:Jq (Qo s.fr x)=some (f,nf,Qs)) {cs:List D} (he:KA (ZT nf Qs (args.toList.map (Qo s.fr))) cs)
  {R:D->List Ob->Prop} (hF:QH P f s.h cs R) (ht:Zk nt dst=true) (hk:∀d h,R d h->Qv P base nt w0 Q (.ops r::k) .normal ⟨Za s.fr dst d,h⟩) :
  Qv P base nt w0 Q (.ops ((⟨dst,.call ⟨.value x,args,Zl⟩,ty,pos,after,gd⟩,none)::r)::k) .normal s:=by
 simp only[Qv]at hk ⊢;intro Z z pl a w rr b;simp only[Yx,W3,Vs];exact Oper.wp_mono (λa' w' ⟨d,h,Qi,hR,r',b',_⟩=>hk d h hR Z z Qi a' w' r' b') (QbT Q1 hf rfl hx (hF.args he) ht pl a w rr b _)
def QbU(Q1:base<=w0.w.heap.size){o:Oper}{s}{x}{args}{Zl:Array TypeId}{f}{nf}{Qs}(hf:Qm P f)(ho:o.op=.call ⟨.value x,args,Zl⟩)
  (hx:Jq (Qo s.fr x)=some (f,nf,Qs)) {R:D->List Ob->Prop} (hF:Wy P f s.h (ZT nf Qs (args.toList.map (Qo s.fr))) R)
  (ht:Zk nt o.dst=true) (pl:List Pl) (a:Act) (w:World) (r:Rel Z base nt s pl a w) (b:KX Z base w0 s.h pl w) (Q':Exit->Act->World->Prop) :
  o.wp P a w (λa' w'=>Ext w w'/\∃d g Qi,R d g/\Rel Z base nt ⟨Za s.fr o.dst d,s.h++g⟩ Qi a' w'/\KX Z base w0 (s.h++g) Qi w'/\Tr s.h pl w (s.h++g) Qi w'/\∃v,a'=a.put o.dst v) Q':=by
 obtain⟨vs,hv,kR,DE⟩:=P3 (r.eval x) hx;have qJ:base<=w.heap.size:=Ki Q1 b.1.size;obtain⟨q1,Kj⟩:=P4 (r:=λd v=>QC Z s.h pl w d v) (nf:=nf) kR DE (us:=args.toList.map a.eval) (args:=args.toList.map (Qo s.fr)) σ (λi hi=>by
  have Z9:i<args.toList.length:=by simpa using hi
  simp only[nth,QZ,Q5,Ks];rw[QP Z9];exact r.eval _)
 have k1:∀(l:Nat) (o:Ob),s.h[l]? = some o->∃o',(s.h.map Ob.ro)[l]? = some o'/\o'.gen=o.gen/\o'.sz=o.sz/\o'.kd.ty=o.kd.ty:=λl o e=>⟨o.ro,ZC e,rfl,rfl,Kd.toRo_ty _⟩;have Rv:Zi Z w.heap.size (s.h.map Ob.ro) pl w:=by
  refine⟨by simp[r.o.len],r.o.inj,λl o ho hp=>?_,λl o b q ho hp=>?_⟩
  .obtain⟨o',h1,rfl⟩:=F7 ho;exact r.o.VB l o' h1 hp
  .obtain⟨o',h1,rfl⟩:=F7 ho;obtain⟨_,x⟩:=r.o.at_ l o' b q h1 hp;exact⟨λhr=>(by rw[U9,Kd.toRo_ro]at hr;cases hr),x.to (Kd.toRo_ty _) rfl rfl rfl (λ_ _=>rfl) λi j v _ _ hr=>hr.Cb k1⟩
 have hc:=hF Z w.heap.size w pl (ZT nf vs (args.toList.map a.eval)) (QB _) b.2.2.new Rv q1 (λi hi=>(Kj i hi).Cb k1);unfold Oper.wp;rw[P5 hf ho hv w];simp only[Oper.upon_enter];refine hc.mono λe w' he=>?_;obtain⟨v,d,_,Qi,rfl,⟨g,rfl,hR⟩,hO,hV,hT,hB⟩:=he;have Zh:∀(l:Nat) (p:Pl),l<s.h.length->Qi[l]? = some p->pl[l]? = some p:=λl p hl e=>by
  have Jp:l<pl.length:=by rw[r.o.len];exact hl
  obtain⟨o',p',e1,e2,_,_,e3⟩:=hT.obj l _ _ (ZC (QP hl)) (QP Jp);rw[JC (by simpa using hl),ZC (QP hl)]at e1;cases e1;obtain⟨_,e4⟩:=e3 rfl;rw[e]at e2;cases e2;rw[e4];exact QP Jp
 have mE:∀(l:Nat) (p:Pl),l<s.h.length->pl[l]? = some p->Qi[l]? = some p:=λl p hl e=>by
  have Jp:l<Qi.length:=by have:=hO.len;simp at this;omega
  have h1:=Zh l _ hl (QP Jp);rw[e]at h1;cases h1;exact QP Jp
 have T:Tr s.h pl w (s.h++g) Qi w':=by
  refine⟨hT.J3,λl o p ho hp=>⟨o,p,by rw[JC (KD ho)];exact ho,mE l p (KD ho) hp,QB _,rfl,λ_=>⟨rfl,rfl⟩⟩,λl o o' b q ho Zv hg hp c el hc=>⟨c,?_,rfl⟩⟩;rw[hB.block b (r.o.lt hp).1];exact hc
 have k2:∀(l:Nat) (o:Ob),(s.h.map Ob.ro++g)[l]? = some o->∃o',(s.h++g)[l]? = some o'/\o'.gen=o.gen/\o'.sz=o.sz/\o'.kd.ty=o.kd.ty:=λl o e=>by
  by_cases hl:l<s.h.length
  .rw[JC (by simpa using hl)]at e;obtain⟨o',h1,rfl⟩:=F7 e;exact⟨o',by rw[JC hl];exact h1,rfl,rfl,(Kd.toRo_ty _).symm⟩
  .rw[Kb (by simpa using hl)]at e;exact⟨o,by rw[Kb ω];simpa using e,rfl,rfl,rfl⟩
 have HH:Zi Z base (s.h++g) Qi w':=by
  refine⟨by have:=hO.len;simpa using this,hO.inj,λl o ho hp=>?_,λl o b q ho hp=>?_⟩
  .by_cases hl:l<s.h.length
   .rw[JC hl]at ho;exact r.o.VB l o ho (Zh l _ hl hp)
   .refine hO.VB l o ?_ hp;rw[Kb ω]at ho;rw[Kb (by simpa using hl)];simpa using ho
  .by_cases hl:l<s.h.length
   .rw[JC hl]at ho;have hp0:=Zh l _ hl hp;obtain⟨g1,x⟩:=r.o.at_ l o b q ho hp0;exact⟨g1,x.to rfl rfl rfl (hB.block b (r.o.lt hp0).1) (λ_ _=>rfl) λi j v _ _ hr=>hr.tr T⟩
   .have e2:(s.h.map Ob.ro++g)[l]? = some o:=by
     rw[Kb ω]at ho;rw[Kb (by simpa using hl)];simpa using ho
    obtain⟨g1,x⟩:=hO.at_ l o b q e2 hp;exact⟨λhr=>Ki qJ (g1 hr),x.to rfl rfl rfl rfl (λ_ _=>rfl) λi j v _ _ hr=>hr.Cb k2⟩
 refine⟨λb hb=>hB.block b hb,d,g,Qi,hR,?_,b.step T (hB.mono qJ),T,v,rfl⟩;cases hd:o.dst with
 | none=>exact r.ym T HH v
 | some t=>rw[hd]at ht;exact r.to T HH (jE ht) (hV.Cb k2)
def Wy.args{f}{h}{cs' cs}{R}(hh:Wy P f h cs R)(e:KA cs' cs):Wy P f h cs' R:=QH.args hh e
def Cc(Q1:base<=w0.w.heap.size){k}{dst}{ty:TypeId}{pos}{after}{gd}{r}{s}{x}{args}{Zl:Array TypeId}{f}{nf}{Qs}(hf:Qm P f)
  (hx:Jq (Qo s.fr x)=some (f,nf,Qs)) {cs:List D} (he:KA (ZT nf Qs (args.toList.map (Qo s.fr))) cs)
  {R:D->List Ob->Prop} (hF:Wy P f s.h cs R) (ht:Zk nt dst=true) (hk:∀d g,R d g->Qv P base nt w0 Q (.ops r::k) .normal ⟨Za s.fr dst d,s.h++g⟩) :
  Qv P base nt w0 Q (.ops ((⟨dst,.call ⟨.value x,args,Zl⟩,ty,pos,after,gd⟩,none)::r)::k) .normal s:=by
 simp only[Qv]at hk ⊢;intro Z z pl a w rr b;simp only[Yx,W3,Vs];exact Oper.wp_mono (λa' w' ⟨_,d,h,Qi,hR,r',b',_⟩=>hk d h hR Z z Qi a' w' r' b') (QbU Q1 hf rfl hx (hF.args he) ht pl a w rr b _)
def Nf(Q1:base<=w0.w.heap.size){K}{dst}{ty:TypeId}{pos}{after}{gd}{r}{s}{x}{args}{Zl:Array TypeId}{f}{nf}{Qs}(hf:Qm P f)
  (hx:Jq (Qo s.fr x)=some (f,nf,Qs)) {cs:List D} (he:KA (ZT nf Qs (args.toList.map (Qo s.fr))) cs) {R:D->List Ob->Prop} (hF:Wy P f s.h cs R)
  (ht:Zk nt dst=true) (hk:∀d g,R d g->AX P base nt w0 K r ⟨Za s.fr dst d,s.h++g⟩) :
  AX P base nt w0 K ((false,⟨dst,.call ⟨.value x,args,Zl⟩,ty,pos,after,gd⟩,none)::r) s:=by
 simp only[AX,W6,qK];intro Z z pl a w rr b;exact Oper.wp_mono (λa' w' ⟨hE,d,g,Qi,hR,r',b',T,v,e⟩=>⟨λ_=>hE,_,_,Qi,v,hk d g hR,r',b',T,e⟩) (QbU Q1 hf rfl hx (hF.args he) ht pl a w rr b _)
def Qnd(Q1:base<=w0.w.heap.size){k}{dst}{ty:TypeId}{pos}{after}{gd}{r}{s}{x}{li l c}{es}{seen}{q}
  (hx:Qo s.fr x=.mref li 0) (Xh:s.h[li]? = some (XQ l c c seen)) {kd:Kd} (JE:kd.ty=1) (Zf:s.h[l]? = some (VT kd q c es)) (ht:Zk nt dst=true)
  (h0:(∀e∈es,e.b∈seen)->Qv P base nt w0 Q (.ops r::k) .normal ⟨Za s.fr dst (.tup [.raw (.bool false)]),s.h⟩)
  (h1:∀e∈es,e.b ∉ seen->Qv P base nt w0 Q (.ops r::k) .normal ⟨Za s.fr dst (.tup [.raw (.bool true),.raw (.int q e.k),e.v]),s.h.set li (XQ l c c (seen++[e.b]))⟩) :
  Qv P base nt w0 Q (.ops ((⟨dst,.next x false,ty,pos,after,gd⟩,none)::r)::k) .normal s:=by
 simp only[Qv]at h0 h1 ⊢;intro Z z pl a w rr b;have qJ:base<=w.heap.size:=Ki Q1 b.1.size;simp only[Yx,W3,Vs];unfold Oper.wp;rcases QlH (o:=⟨dst,.next x false,ty,pos,after,gd⟩) rfl rr qJ hx Xh JE Zf with ⟨g1,g2⟩|⟨e,he,g1,v,w',g2,T,O,V,B⟩
 .rw[g2];simp only[Oper.upon_value];refine h0 g1 Z z pl _ w ?_ b;have hv:QC Z s.h pl w (.tup [.raw (.bool false)]) (.tuple #[.bool false]):=.tup _ [.bool false] rfl λi hi=>match i,hi with
   | 0,_=>.cl _ _ (.raw _)
  cases dst with
  | none=>exact rr.ym (Tr.refl _ _ _) rr.o _
  | some t=>exact rr.to (Tr.refl _ _ _) rr.o (jE ht) hv
 .rw[g2];simp only[Oper.upon_value];refine h1 e he g1 Z z pl _ w' ?_ (b.step T B);cases dst with
  | none=>exact rr.ym T O _
  | some t=>exact rr.to T O (jE ht) V
end
def Q6(P:Program)(f:FuncId)(h:List Ob)(args:List D)(R:D->Prop):Prop:=Wy P f h args λd _=>d.upto h.length=true/\R d
def Q6.mono{P}{f}{h:List Ob}{args}{R R'}(hh:Q6 P f h args R)(hr:∀d,R d->R' d):Q6 P f h args R':=Wy.mono hh λ_ _ h=>⟨h.1,hr _ h.2⟩
def Q6.args{P}{f}{h}{cs' cs}{R}(hh:Q6 P f h cs R)(e:KA cs' cs):Q6 P f h cs' R:=Wy.args hh e
section
variable {P:Program}{base nt:Nat}{w0:Start}{Q:Exit->St->Prop}
def QbV(Q1:base<=w0.w.heap.size){o:Oper}{s}{x}{args}{Zl:Array TypeId}{f}{nf}{Qs}(hf:Qm P f)(ho:o.op=.call ⟨.value x,args,Zl⟩)
  (hx:Jq (Qo s.fr x)=some (f,nf,Qs)) {R:D->Prop} (hF:Q6 P f s.h (ZT nf Qs (args.toList.map (Qo s.fr))) R)
  (ht:Zk nt o.dst=true) (pl:List Pl) (a:Act) (w:World) (r:Rel Z base nt s pl a w) (b:KX Z base w0 s.h pl w) (Q':Exit->Act->World->Prop) :
  o.wp P a w (λa' w'=>Ext w w'/\∃d,R d/\Rel Z base nt ⟨Za s.fr o.dst d,s.h⟩ pl a' w'/\KX Z base w0 s.h pl w'/\Tr s.h pl w s.h pl w'/\∃v,a'=a.put o.dst v) Q':=by
 obtain⟨vs,hv,kR,DE⟩:=P3 (r.eval x) hx;have qJ:base<=w.heap.size:=Ki Q1 b.1.size;obtain⟨q1,Kj⟩:=P4 (r:=λd v=>QC Z s.h pl w d v) (nf:=nf) kR DE (us:=args.toList.map a.eval) (args:=args.toList.map (Qo s.fr)) σ (λi hi=>by
  have Z9:i<args.toList.length:=by simpa using hi
  simp only[nth,QZ,Q5,Ks];rw[QP Z9];exact r.eval _)
 have k1:∀(l:Nat) (o:Ob),s.h[l]? = some o->∃o',(s.h.map Ob.ro)[l]? = some o'/\o'.gen=o.gen/\o'.sz=o.sz/\o'.kd.ty=o.kd.ty:=λl o e=>⟨o.ro,ZC e,rfl,rfl,Kd.toRo_ty _⟩;have k3:∀(g:List Ob) (l:Nat) (o:Ob),(s.h.map Ob.ro++g)[l]? = some o->∃o',(s.h++g)[l]? = some o'/\o'.gen=o.gen/\o'.sz=o.sz/\o'.kd.ty=o.kd.ty:=λg l o e=>by
  by_cases hl:l<s.h.length
  .rw[JC (by simpa using hl)]at e;obtain⟨o',h1,rfl⟩:=F7 e;exact⟨o',by rw[JC hl];exact h1,rfl,rfl,(Kd.toRo_ty _).symm⟩
  .rw[Kb (by simpa using hl)]at e;exact⟨o,by rw[Kb ω];simpa using e,rfl,rfl,rfl⟩
 have Rv:Zi Z w.heap.size (s.h.map Ob.ro) pl w:=by
  refine⟨by simp[r.o.len],r.o.inj,λl o ho hp=>?_,λl o b q ho hp=>?_⟩
  .obtain⟨o',h1,rfl⟩:=F7 ho;exact r.o.VB l o' h1 hp
  .obtain⟨o',h1,rfl⟩:=F7 ho;obtain⟨_,x⟩:=r.o.at_ l o' b q h1 hp;exact⟨λhr=>(by rw[U9,Kd.toRo_ro]at hr;cases hr),x.to (Kd.toRo_ty _) rfl rfl rfl (λ_ _=>rfl) λi j v _ _ hr=>hr.Cb k1⟩
 have hc:=hF Z w.heap.size w pl (ZT nf vs (args.toList.map a.eval)) (QB _) b.2.2.new Rv q1 (λi hi=>(Kj i hi).Cb k1);unfold Oper.wp;rw[P5 hf ho hv w];simp only[Oper.upon_enter];refine hc.mono λe w' he=>?_;obtain⟨v,d,_,Qi,rfl,⟨g,rfl,hu,hR⟩,hO,hV,hT,hB⟩:=he;have hE:Ext w w':=λb hb=>hB.block b hb;have T0:Tr s.h pl w s.h pl w':=Tr.ext r.o hE;have F8:QC Z s.h pl w' d v:=by
  have h1:=hV.take hu;have e1:(s.h.map Ob.ro++g).take s.h.length=s.h.map Ob.ro:=List.take_left' σ;have e2:Qi.take s.h.length=pl:=by
   apply wY;intro i;rw[Xw];by_cases hi:i<s.h.length
   .rw[Qd hi];have VH:i<pl.length:=by rw[r.o.len];exact hi
    obtain⟨o',p',m1,m2,_,_,m3⟩:=hT.obj i _ _ (ZC (QP hi)) (QP VH);rw[JC (by simpa using hi),ZC (QP hi)]at m1;cases m1;obtain⟨_,rfl⟩:=m3 rfl;rw[m2,QP VH]
   .rw[Qc hi,Ar (by rw[r.o.len];omega)]
  rw[e1,e2]at h1;exact h1.Cb λl o e=>by
   obtain⟨o',h1,rfl⟩:=F7 e;exact⟨o',h1,rfl,rfl,(Kd.toRo_ty _).symm⟩
 refine⟨hE,d,hR,?_,b.step T0 (hB.mono qJ),T0,v,rfl⟩;have r':=r.ext hE;cases hd:o.dst with
 | none=>exact r'.ym (Tr.refl _ _ _) r'.o v
 | some t=>rw[hd]at ht;exact r'.to (Tr.refl _ _ _) r'.o (jE ht) F8
def Kw(Q1:base<=w0.w.heap.size){k}{dst}{ty:TypeId}{pos}{after}{gd}{r}{s}{x}{args}{Zl:Array TypeId}{f}{nf}{Qs}(hf:Qm P f)
  (hx:Jq (Qo s.fr x)=some (f,nf,Qs)) {cs:List D} (he:KA (ZT nf Qs (args.toList.map (Qo s.fr))) cs)
  {R:D->Prop} (hF:Q6 P f s.h cs R) (ht:Zk nt dst=true) (hk:∀d,R d->Qv P base nt w0 Q (.ops r::k) .normal ⟨Za s.fr dst d,s.h⟩) :
  Qv P base nt w0 Q (.ops ((⟨dst,.call ⟨.value x,args,Zl⟩,ty,pos,after,gd⟩,none)::r)::k) .normal s:=by
 simp only[Qv]at hk ⊢;intro Z z pl a w rr b;simp only[Yx,W3,Vs];exact Oper.wp_mono (λa' w' ⟨_,d,hR,r',b',_⟩=>hk d hR Z z pl a' w' r' b') (QbV Q1 hf rfl hx (hF.args he) ht pl a w rr b _)
def Yh(Q1:base<=w0.w.heap.size){K}{dst}{ty:TypeId}{pos}{after}{gd}{r}{s}{x}{args}{Zl:Array TypeId}{f}{nf}{Qs}(hf:Qm P f)
  (hx:Jq (Qo s.fr x)=some (f,nf,Qs)) {cs:List D} (he:KA (ZT nf Qs (args.toList.map (Qo s.fr))) cs) {R:D->Prop} (hF:Q6 P f s.h cs R)
  (ht:Zk nt dst=true) (hk:∀d,R d->AX P base nt w0 K r ⟨Za s.fr dst d,s.h⟩) :
  AX P base nt w0 K ((false,⟨dst,.call ⟨.value x,args,Zl⟩,ty,pos,after,gd⟩,none)::r) s:=by
 simp only[AX,W6,qK];intro Z z pl a w rr b;exact Oper.wp_mono (λa' w' ⟨hE,d,hR,r',b',T,v,e⟩=>⟨λ_=>hE,_,_,pl,v,hk d hR,r',b',T,e⟩) (QbV Q1 hf rfl hx (hF.args he) ht pl a w rr b _)
end
def Qb{h:List Ob}{l}{o}(e:h[l]? = some o):l<h.length:=KD e
def QG{h t:List Ob}{l}(hl:l<h.length):(h++t)[l]? = h[l]? := JC hl
def KV{h t:List Ob}{n}(hn:h.length=n):(h++t)[n]? = t[0]? := by rw[<- hn,Kb (QB _),xg]
def VD{h t:List Ob}{n k}(hn:h.length=n):(h++t)[n+k]? = t[k]? := by rw[<- hn,Kb ω,Pq]
def Cd{h t:List Ob}{l}{o}(hl:l<h.length):(h++t).set l o=h.set l o++t:=Us _ _ hl
def bF{h t:List Ob}{n}{o}(hn:h.length=n):(h++t).set n o=h++t.set 0 o:=by rw[<- hn,Hg _ _ (QB _),xg]
def Qne{h t:List Ob}{n k}{o}(hn:h.length=n):(h++t).set (n+k) o=h++t.set k o:=by rw[<- hn,Hg _ _ ω,Pq]
def QE{h:List Ob}{l}{o}(hl:l<h.length):(h.set l o)[l]? = some o:=Wt hl
def Qr{h:List Ob}{l m}{o}(hn:l≠m):(h.set l o)[m]? = h[m]? := Jw hn
def qd{P:Program}{X}(hX:qH P X){f}{fn:Func}{c}(n)(hf:P.funcs[f]? = some fn)(hb:fn.body=some c){h}{args:List D}{R}{nt}{rs}(qb:fn.ntmps=nt)(XR:fn.results=rs)(hn:Nat.ble args.length nt=true)
  (hh:∀(base:Nat) (w:World) (pl:List Pl) (F:List Ob),F=h.map Ob.ro->F.length=h.length->base<=w.heap.size->hx P base ⟨w,F,pl⟩ (AO X.L rs.toList λd h'=>∃g,h'=F++g/\d.upto F.length=true/\R d) X nt n [.code c] ⟨jG args 0,F⟩):Q6 P f h args R:=
 (kV hX n hf hb qb XR hn λbase w pl hb=>hh base w pl _ rfl σ hb).mono λd h' ⟨g,h1,h2,h3⟩=>⟨g,h1,by simpa using h2,h3⟩
def xz{P:Program}{X}(hX:qH P X){f}{fn:Func}{c}(n)(hf:P.funcs[f]? = some fn)(hb:fn.body=some c){h}{args:List D}{R}{nt}{rs}(qb:fn.ntmps=nt)(XR:fn.results=rs)(hn:Nat.ble args.length nt=true)
  (hh:∀(base:Nat) (w:World) (pl:List Pl) (F:List Ob),F=h.map Ob.ro->F.length=h.length->base<=w.heap.size->hx P base ⟨w,F,pl⟩ (AO X.L rs.toList λd h'=>∃g,h'=F++g/\R d g) X nt n [.code c] ⟨jG args 0,F⟩):Wy P f h args R:=
 kV hX n hf hb qb XR hn λbase w pl hb=>hh base w pl _ rfl σ hb
attribute [go_sem] ay az vT FK aw QaG QaH QaF QlK QaI QlL QlM ak an Mu FF ar au lJ Qau lI Qat Qav lK Qaw Qlt Qlu Qlv Qlw U9 Qlx Qly ro_ro BV
def Qe:(∀{h t:List Ob} {l:Nat},l<h.length->(h++t)[l]? = h[l]?)/\(∀{h t:List Ob} {n:Nat},h.length=n->(h++t)[n]? = t[0]?)/\(∀{h t:List Ob} {n k:Nat},h.length=n->(h++t)[n+k]? = t[k]?)/\(∀{h t:List Ob} {l:Nat} {o:Ob},l<h.length->(h++t).set l o=h.set l o++t)/\(∀{h t:List Ob} {n:Nat} {o:Ob},h.length=n->(h++t).set n o=h++t.set 0 o)/\(∀{h t:List Ob} {n k:Nat} {o:Ob},h.length=n->(h++t).set (n+k) o=h++t.set k o)/\(∀{α:Type} {a b:List α},(a++b).length=a.length+b.length)/\(∀{α:Type} {i:Nat} {a:α} {l:List α},(l.set i a).length=l.length)/\(∀{α:Type} (a b c:List α),a++b++c=a++(b++c))/\(∀{α:Type} {a b:α} (l:List α) {i:Nat},(l.set i a).set i b=l.set i b):=
 ⟨QG,KV,VD,Cd,bF,Qne,ZW,Wu,V9,λ_=>JK _⟩
end Go.Fg
namespace Go.Fg.X
open Go.Proofs Go.Fg
open Go.Proofs.Tryz
@[go_sem] def zi:Value:=.int .i64 0
@[go_sem] def zu:Value:=.int .u64 0
@[go_sem] def zh:Value:=.int .u16 0
@[go_sem] def zb:Value:=.bool false
@[go_sem] def zp:Value:=.pointer none
@[go_sem] def zc:Value:=.int .u8 0
@[go_sem] def zs:Value:=.slice none 0 0
@[go_sem] def zm:Value:=.map none
@[go_sem] def Y1:Ty:=⟨.fn,1,8,[.nilFunc]⟩
@[go_sem] def Y2:Ty:=⟨.int .i64,1,8,[zi]⟩
@[go_sem] def Y4:Ty:=⟨.bool,1,1,[zb]⟩
@[go_sem] def Y5:Ty:=⟨.int .u8,1,1,[zc]⟩
@[go_sem] def Y9:Ty:=⟨.str,1,16,[.string ByteArray.empty]⟩
@[go_sem] def F9:Ty:=⟨.int .u64,1,8,[zu]⟩
@[go_sem] def Y17:Ty:=⟨.ptr 446,1,8,[zp]⟩
@[go_sem] def Y20:Ty:=⟨.iface,1,16,[.nilIface]⟩
@[go_sem] def Y21:Ty:=⟨.int .i32,1,4,[.int .i32 0]⟩
@[go_sem] def Ng:Ty:=⟨.struct [(0,3),(1,3)],2,16,[zi,zi]⟩
@[go_sem] def Y24:Ty:=⟨.slice 75,1,24,[zs]⟩
@[go_sem] def bG:Ty:=⟨.struct [(0,23),(2,24)],3,40,[zi,zi,zs]⟩
@[go_sem] def Y29:Ty:=⟨.slice 77,1,24,[zs]⟩
@[go_sem] def Y30:Ty:=⟨.slice 66,1,24,[zs]⟩
@[go_sem] def bH:Ty:=⟨.struct [(0,29),(1,30)],2,48,[zs,zs]⟩
@[go_sem] def Y40:Ty:=⟨.ptr 136,1,8,[zp]⟩
@[go_sem] def Y43:Ty:=⟨.slice 3,1,24,[zs]⟩
@[go_sem] def Nh:Ty:=⟨.struct [(0,45),(1,45),(2,45)],3,24,[zu,zu,zu]⟩
@[go_sem] def bI:Ty:=⟨.struct [(0,3),(1,3),(2,4),(3,47),(6,47),(9,47),(12,3),(13,3)],14,112,[zi,zi,zb,zu,zu,zu,zu,zu,zu,zu,zu,zu,zi,zi]⟩
@[go_sem] def Y56:Ty:=⟨.slice 59,1,24,[zs]⟩
@[go_sem] def bJ:Ty:=⟨.struct [(0,45),(1,45),(2,3),(3,3),(4,4)],5,40,[zu,zu,zi,zi,zb]⟩
@[go_sem] def Y60:Ty:=⟨.int .u16,1,2,[zh]⟩
@[go_sem] def Y61:Ty:=⟨.array 4 60,4,8,[zh,zh,zh,zh]⟩
@[go_sem] def bL:Ty:=⟨.struct [(0,45),(1,3),(2,62)],6,24,[zu,zi,zh,zh,zh,zh]⟩
@[go_sem] def bM:Ty:=⟨.struct [(0,3),(1,4),(2,4),(3,45),(4,45),(5,3),(6,64)],12,64,[zi,zb,zb,zu,zu,zi,zu,zi,zh,zh,zh,zh]⟩
@[go_sem] def Y69:Ty:=⟨.ptr 162,1,8,[zp]⟩
@[go_sem] def Y72:Ty:=⟨.slice 267,1,24,[zs]⟩
@[go_sem] def Y73:Ty:=⟨.slice 223,1,24,[zs]⟩
@[go_sem] def Y75:Ty:=⟨.struct [(0,3),(1,72),(2,73),(3,64),(9,45)],10,88,[zi,zs,zs,zu,zi,zh,zh,zh,zh,zu]⟩
@[go_sem] def bO:Ty:=⟨.struct [(0,33),(1,3),(2,3)],3,24,[zi,zi,zi]⟩
@[go_sem] def bT:Ty:=⟨.struct [(0,45),(1,45)],2,16,[zu,zu]⟩
@[go_sem] def bU:Ty:=⟨.struct [(0,45),(1,81),(3,45)],4,32,[zu,zu,zu,zu]⟩
@[go_sem] def bV:Ty:=⟨.struct [(0,83),(4,83),(8,4)],9,72,[zu,zu,zu,zu,zu,zu,zu,zu,zb]⟩
@[go_sem] def bW:Ty:=⟨.struct [(0,4),(1,85),(10,85),(19,45),(20,45),(21,45)],22,176,[zb,zu,zu,zu,zu,zu,zu,zu,zu,zb,zu,zu,zu,zu,zu,zu,zu,zu,zb,zu,zu,zu]⟩
@[go_sem] def Ga:Ty:=⟨.struct [(0,4),(1,85),(10,45)],11,88,[zb,zu,zu,zu,zu,zu,zu,zu,zu,zb,zu]⟩
@[go_sem] def Y93:Ty:=⟨.struct [(0,45),(1,45),(2,45),(3,45),(4,45),(5,45)],6,48,[zu,zu,zu,zu,zu,zu]⟩
@[go_sem] def Y94:Ty:=⟨.struct [(0,49),(14,4),(15,45),(16,87),(38,89),(49,91),(60,45),(61,93)],67,536,[zi,zi,zb,zu,zu,zu,zu,zu,zu,zu,zu,zu,zi,zi,zb,zu,zb,zu,zu,zu,zu,zu,zu,zu,zu,zb,zu,zu,zu,zu,zu,zu,zu,zu,zb,zu,zu,zu,zb,zu,zu,zu,zu,zu,zu,zu,zu,zb,zu,zb,zu,zu,zu,zu,zu,zu,zu,zu,zb,zu,zu,zu,zu,zu,zu,zu,zu]⟩
@[go_sem] def Qcb:Ty:=⟨.slice 105,1,24,[zs]⟩
@[go_sem] def Qcc:Ty:=⟨.struct [(0,4),(1,45),(2,45)],3,24,[zb,zu,zu]⟩
@[go_sem] def Qcd:Ty:=⟨.array 2 49,28,224,[zi,zi,zb,zu,zu,zu,zu,zu,zu,zu,zu,zu,zi,zi,zi,zi,zb,zu,zu,zu,zu,zu,zu,zu,zu,zu,zi,zi]⟩
@[go_sem] def Qce:Ty:=⟨.slice 45,1,24,[zs]⟩
@[go_sem] def Qcf:Ty:=⟨.slice 117,1,24,[zs]⟩
@[go_sem] def Qnm:Ty:=⟨.struct [(0,4),(1,45),(2,45),(3,45)],4,32,[zb,zu,zu,zu]⟩
@[go_sem] def Qcg:Ty:=⟨.map 3 49,1,8,[zm]⟩
@[go_sem] def bZ:Ty:=⟨.struct [(0,134)],1,8,[zm]⟩
@[go_sem] def Qch:Ty:=⟨.ptr 215,1,8,[zp]⟩
@[go_sem] def Qci:Ty:=⟨.ptr 220,1,8,[zp]⟩
@[go_sem] def Qcj:Ty:=⟨.ptr 226,1,8,[zp]⟩
@[go_sem] def Qck:Ty:=⟨.ptr 232,1,8,[zp]⟩
@[go_sem] def Qcl:Ty:=⟨.struct [(0,150),(1,153),(2,156),(3,159),(4,45),(5,3)],6,48,[zp,zp,zp,zp,zu,zi]⟩
@[go_sem] def Qcm:Ty:=⟨.map 3 238,1,8,[zm]⟩
@[go_sem] def Qcn:Ty:=⟨.ptr 276,1,8,[zp]⟩
@[go_sem] def Qco:Ty:=⟨.ptr 278,1,8,[zp]⟩
@[go_sem] def Qcp:Ty:=⟨.map 3 210,1,8,[zm]⟩
@[go_sem] def Qcq:Ty:=⟨.ptr 283,1,8,[zp]⟩
@[go_sem] def Qcr:Ty:=⟨.struct [(0,23),(2,40),(3,207),(4,213),(5,208),(6,212),(7,45),(8,45)],9,72,[zi,zi,zp,zm,zp,zp,zm,zu,zu]⟩
@[go_sem] def Qcs:Ty:=⟨.struct [(0,218),(3,3),(4,45)],5,40,[zu,zu,zu,zi,zu]⟩
@[go_sem] def Qct:Ty:=⟨.struct [(0,62),(4,62),(8,3)],9,24,[zh,zh,zh,zh,zh,zh,zh,zh,zi]⟩
@[go_sem] def Qcu:Ty:=⟨.map 62 3,1,8,[zm]⟩
@[go_sem] def Qcv:Ty:=⟨.struct [(0,73),(1,224),(2,43)],3,56,[zs,zm,zs]⟩
@[go_sem] def Qcw:Ty:=⟨.map 3 111,1,8,[zm]⟩
@[go_sem] def Qcx:Ty:=⟨.map 3 359,1,8,[zm]⟩
@[go_sem] def Qcy:Ty:=⟨.struct [(0,229),(1,230)],2,16,[zm,zm]⟩
@[go_sem] def Qcz:Ty:=⟨.ptr 249,1,8,[zp]⟩
@[go_sem] def QcA:Ty:=⟨.ptr 305,1,8,[zp]⟩
@[go_sem] def QcB:Ty:=⟨.struct [(0,247),(1,49),(15,45),(16,87),(38,89),(49,91)],60,480,[zp,zi,zi,zb,zu,zu,zu,zu,zu,zu,zu,zu,zu,zi,zi,zu,zb,zu,zu,zu,zu,zu,zu,zu,zu,zb,zu,zu,zu,zu,zu,zu,zu,zu,zb,zu,zu,zu,zb,zu,zu,zu,zu,zu,zu,zu,zu,zb,zu,zb,zu,zu,zu,zu,zu,zu,zu,zu,zb,zu]⟩
@[go_sem] def QcC:Ty:=⟨.slice 47,1,24,[zs]⟩
@[go_sem] def QcD:Ty:=⟨.struct [(0,3),(1,49)],15,120,[zi,zi,zi,zb,zu,zu,zu,zu,zu,zu,zu,zu,zu,zi,zi]⟩
@[go_sem] def QcE:Ty:=⟨.array 3 47,9,72,[zu,zu,zu,zu,zu,zu,zu,zu,zu]⟩
@[go_sem] def QcF:Ty:=⟨.ptr 336,1,8,[zp]⟩
@[go_sem] def QcG:Ty:=⟨.map 3 366,1,8,[zm]⟩
@[go_sem] def cn:Ty:=⟨.struct [(0,272),(1,274)],2,16,[zp,zm]⟩
@[go_sem] def QcH:Ty:=⟨.map 3 285,1,8,[zm]⟩
@[go_sem] def QcI:Ty:=⟨.map 3 3,1,8,[zm]⟩
@[go_sem] def QcJ:Ty:=⟨.map 3 280,1,8,[zm]⟩
@[go_sem] def QcK:Ty:=⟨.struct [(0,279),(1,280),(2,281)],3,24,[zm,zm,zm]⟩
@[go_sem] def QcL:Ty:=⟨.struct [(0,3),(1,64),(7,4)],8,40,[zi,zu,zi,zh,zh,zh,zh,zb]⟩
@[go_sem] def QcM:Ty:=⟨.ptr 386,1,8,[zp]⟩
@[go_sem] def QcN:Ty:=⟨.struct [(0,303),(1,3),(2,3),(3,93)],9,72,[zp,zi,zi,zu,zu,zu,zu,zu,zu]⟩
@[go_sem] def QuN:Ty:=⟨.array 2 107,4,32,[zu,zu,zu,zu]⟩
@[go_sem] def QcO:Ty:=⟨.int .u32,1,4,[.int .u32 0]⟩
@[go_sem] def QcP:Ty:=⟨.ptr 404,1,8,[zp]⟩
@[go_sem] def QcQ:Ty:=⟨.struct [(0,334)],1,8,[zp]⟩
@[go_sem] def QcR:Ty:=⟨.slice 43,1,24,[zs]⟩
@[go_sem] def QcS:Ty:=⟨.struct [(0,45),(1,45),(2,45),(3,45),(4,45)],5,40,[zu,zu,zu,zu,zu]⟩
@[go_sem] def QcT:Ty:=⟨.struct [(0,45),(1,3)],2,16,[zu,zi]⟩
@[go_sem] def QcU:Ty:=⟨.struct [(0,364),(2,364)],4,32,[zu,zi,zu,zi]⟩
@[go_sem] def QcV:Ty:=⟨.ptr 3,1,8,[zp]⟩
@[go_sem] def QcW:Ty:=⟨.slice 64,1,24,[zs]⟩
@[go_sem] def QcX:Ty:=⟨.struct [(0,384),(1,3),(2,3)],3,40,[zs,zi,zi]⟩
@[go_sem] def QcY:Ty:=⟨.ptr 218,1,8,[zp]⟩
@[go_sem] def QcZ:Ty:=⟨.array 2 334,2,16,[zp,zp]⟩
@[go_sem] def Qc0:Ty:=⟨.struct [(0,366),(4,402),(6,366),(10,3),(11,3)],12,96,[zu,zi,zu,zi,zp,zp,zu,zi,zu,zi,zi,zi]⟩
@[go_sem] def Qc1:Ty:=⟨.ptr 379,1,8,[zp]⟩
@[go_sem] def Qc2:Ty:=⟨.array 2 83,8,64,[zu,zu,zu,zu,zu,zu,zu,zu]⟩
def lay:Z8:=[(1,Y1),(2,Y2),(3,Y2),(4,Y4),(5,Y5),(9,Y9),(12,F9),(17,Y17),(20,Y20),(21,Y21),(22,Ng),(23,Ng),(24,Y24),(25,bG),(26,bG),(27,Y1),(28,Y1),(29,Y29),(30,Y30),(31,bH),(32,bH),(33,Y2),(36,Y1),(37,Y1),(39,Y1),(40,Y40),(42,Y1),(43,Y43),(44,Y1),(45,F9),(46,Nh),(47,Nh),(48,bI),(49,bI),(51,Y1),(52,Y1),(53,Y1),(54,Y1),(55,Y1),(56,Y56),(57,Y1),(58,bJ),(59,bJ),(60,Y60),(61,Y61),(62,Y61),(63,bL),(64,bL),(65,bM),(66,bM),(67,Y1),(69,Y69),(72,Y72),(73,Y73),(75,Y75),(76,bO),(77,bO),(79,Y1),(81,bT),(82,bU),(83,bU),(84,bV),(85,bV),(86,bW),(87,bW),(88,Ga),(89,Ga),(90,Ga),(91,Ga),(93,Y93),(94,Y94),(95,Y94),(97,Y1),(98,Y1),(99,Y1),(101,Y1),(102,Y1),(103,Qcb),(105,Qcc),(107,bT),(108,Y1),(110,Qcd),(111,Qce),(113,Y1),(114,Qcf),(116,Qnm),(117,Qnm),(118,Y1),(122,Y1),(134,Qcg),(135,bZ),(136,bZ),(138,Y1),(140,Y1),(141,Y1),(150,Qch),(153,Qci),(156,Qcj),(159,Qck),(162,Qcl),(163,Y1),(166,Y1),(168,Y1),(189,Y2),(198,F9),(207,Qcm),(208,Qcn),(210,Qco),(212,Qcp),(213,Qcq),(215,Qcr),(218,Nh),(220,Qcs),(223,Qct),(224,Qcu),(226,Qcv),(229,Qcw),(230,Qcx),(232,Qcy),(238,Qcz),(247,QcA),(249,QcB),(257,QcC),(267,QcD),(269,QcE),(272,QcF),(274,QcG),(276,cn),(278,cn),(279,QcH),(280,QcI),(281,QcJ),(283,QcK),(285,Ng),(296,QcL),(303,QcM),(305,QcN),(315,QuN),(324,Y2),(332,QcO),(334,QcP),(336,QcQ),(338,QcR),(359,QcS),(364,QcT),(366,QcU),(371,Y1),(379,F9),(382,QcV),(384,QcW),(386,QcX),(387,Y1),(398,QcY),(402,QcZ),(404,Qc0),(407,Qc1),(414,Y1),(416,Qc2)]
def Qc3{P:Program}:∀{L:Z8},L.map (λp=>(P.underlying p.1).map TK.of)=L.map (λp=>some p.2.k)->L.map (λp=>(P.info? p.1).map λi=>(i.size,i.bytes,i.zero.map λz=>z.cells.toList))=L.map (λp=>some (p.2.size,p.2.bytes,some p.2.zero))->L.map (λp=>((P.info? p.1).bind (·.zero)).map UB)=L.map (λp=>some p.2.k.agg)->Z5 P L
 | [],_,_,_=>.nil _
 | (_,_)::_,h1,h2,h3=>.cons ⟨(vH h1).1,(vH h2).1,(vH h3).1⟩ (Qc3 (vH h1).2 (vH h2).2 (vH h3).2)
def yG:Z5 prog lay:=Qc3 τ τ τ
theorem L1:ty lay 1=some Y1:=rfl
theorem L2:ty lay 2=some Y2:=rfl
theorem L3:ty lay 3=some Y2:=rfl
theorem L4:ty lay 4=some Y4:=rfl
theorem L5:ty lay 5=some Y5:=rfl
theorem L9:ty lay 9=some Y9:=rfl
theorem L12:ty lay 12=some F9:=rfl
theorem L17:ty lay 17=some Y17:=rfl
theorem L20:ty lay 20=some Y20:=rfl
theorem L21:ty lay 21=some Y21:=rfl
theorem L22:ty lay 22=some Ng:=rfl
theorem L23:ty lay 23=some Ng:=rfl
theorem L24:ty lay 24=some Y24:=rfl
theorem L25:ty lay 25=some bG:=rfl
theorem L26:ty lay 26=some bG:=rfl
theorem L27:ty lay 27=some Y1:=rfl
theorem L28:ty lay 28=some Y1:=rfl
theorem L29:ty lay 29=some Y29:=rfl
theorem L30:ty lay 30=some Y30:=rfl
theorem L31:ty lay 31=some bH:=rfl
theorem L32:ty lay 32=some bH:=rfl
theorem L33:ty lay 33=some Y2:=rfl
theorem L36:ty lay 36=some Y1:=rfl
theorem L37:ty lay 37=some Y1:=rfl
theorem L39:ty lay 39=some Y1:=rfl
theorem L40:ty lay 40=some Y40:=rfl
theorem L42:ty lay 42=some Y1:=rfl
theorem L43:ty lay 43=some Y43:=rfl
theorem L44:ty lay 44=some Y1:=rfl
theorem L45:ty lay 45=some F9:=rfl
theorem L46:ty lay 46=some Nh:=rfl
theorem L47:ty lay 47=some Nh:=rfl
theorem L48:ty lay 48=some bI:=rfl
theorem L49:ty lay 49=some bI:=rfl
theorem L51:ty lay 51=some Y1:=rfl
theorem L52:ty lay 52=some Y1:=rfl
theorem L53:ty lay 53=some Y1:=rfl
theorem L54:ty lay 54=some Y1:=rfl
theorem L55:ty lay 55=some Y1:=rfl
theorem L56:ty lay 56=some Y56:=rfl
theorem L57:ty lay 57=some Y1:=rfl
theorem L58:ty lay 58=some bJ:=rfl
theorem L59:ty lay 59=some bJ:=rfl
theorem L60:ty lay 60=some Y60:=rfl
theorem L61:ty lay 61=some Y61:=rfl
theorem L62:ty lay 62=some Y61:=rfl
theorem L63:ty lay 63=some bL:=rfl
theorem L64:ty lay 64=some bL:=rfl
theorem L65:ty lay 65=some bM:=rfl
theorem L66:ty lay 66=some bM:=rfl
theorem L67:ty lay 67=some Y1:=rfl
theorem L69:ty lay 69=some Y69:=rfl
theorem L72:ty lay 72=some Y72:=rfl
theorem L73:ty lay 73=some Y73:=rfl
theorem L75:ty lay 75=some Y75:=rfl
theorem L76:ty lay 76=some bO:=rfl
theorem L77:ty lay 77=some bO:=rfl
theorem L79:ty lay 79=some Y1:=rfl
theorem L81:ty lay 81=some bT:=rfl
theorem L82:ty lay 82=some bU:=rfl
theorem L83:ty lay 83=some bU:=rfl
theorem L84:ty lay 84=some bV:=rfl
theorem L85:ty lay 85=some bV:=rfl
theorem L86:ty lay 86=some bW:=rfl
theorem L87:ty lay 87=some bW:=rfl
theorem L88:ty lay 88=some Ga:=rfl
theorem L89:ty lay 89=some Ga:=rfl
theorem L90:ty lay 90=some Ga:=rfl
theorem L91:ty lay 91=some Ga:=rfl
theorem L93:ty lay 93=some Y93:=rfl
theorem L94:ty lay 94=some Y94:=rfl
theorem L95:ty lay 95=some Y94:=rfl
theorem L97:ty lay 97=some Y1:=rfl
theorem L98:ty lay 98=some Y1:=rfl
theorem L99:ty lay 99=some Y1:=rfl
theorem Qom:ty lay 101=some Y1:=rfl
theorem Qon:ty lay 102=some Y1:=rfl
theorem Qoo:ty lay 103=some Qcb:=rfl
theorem Qop:ty lay 105=some Qcc:=rfl
theorem QJ0:ty lay 107=some bT:=rfl
theorem Qor:ty lay 108=some Y1:=rfl
theorem Qos:ty lay 110=some Qcd:=rfl
theorem Qot:ty lay 111=some Qce:=rfl
theorem QLQ:ty lay 113=some Y1:=rfl
theorem Qou:ty lay 114=some Qcf:=rfl
theorem Qov:ty lay 116=some Qnm:=rfl
theorem Qow:ty lay 117=some Qnm:=rfl
theorem Qox:ty lay 118=some Y1:=rfl
theorem Qoy:ty lay 122=some Y1:=rfl
theorem Qoz:ty lay 134=some Qcg:=rfl
theorem QoA:ty lay 135=some bZ:=rfl
theorem QoB:ty lay 136=some bZ:=rfl
theorem QoC:ty lay 138=some Y1:=rfl
theorem QoD:ty lay 140=some Y1:=rfl
theorem QoE:ty lay 141=some Y1:=rfl
theorem QoF:ty lay 150=some Qch:=rfl
theorem QoG:ty lay 153=some Qci:=rfl
theorem QoH:ty lay 156=some Qcj:=rfl
theorem QoI:ty lay 159=some Qck:=rfl
theorem QoJ:ty lay 162=some Qcl:=rfl
theorem QoK:ty lay 163=some Y1:=rfl
theorem QoL:ty lay 166=some Y1:=rfl
theorem QoM:ty lay 168=some Y1:=rfl
theorem QoN:ty lay 189=some Y2:=rfl
theorem QoO:ty lay 198=some F9:=rfl
theorem QoP:ty lay 207=some Qcm:=rfl
theorem QoQ:ty lay 208=some Qcn:=rfl
theorem QoR:ty lay 210=some Qco:=rfl
theorem QoS:ty lay 212=some Qcp:=rfl
theorem QoT:ty lay 213=some Qcq:=rfl
theorem QoU:ty lay 215=some Qcr:=rfl
theorem QoV:ty lay 218=some Nh:=rfl
theorem QoW:ty lay 220=some Qcs:=rfl
theorem QoX:ty lay 223=some Qct:=rfl
theorem QoY:ty lay 224=some Qcu:=rfl
theorem QoZ:ty lay 226=some Qcv:=rfl
theorem Qo0:ty lay 229=some Qcw:=rfl
theorem Qo1:ty lay 230=some Qcx:=rfl
theorem Qo2:ty lay 232=some Qcy:=rfl
theorem Qo3:ty lay 238=some Qcz:=rfl
theorem Qo4:ty lay 247=some QcA:=rfl
theorem Qo5:ty lay 249=some QcB:=rfl
theorem Qo6:ty lay 257=some QcC:=rfl
theorem Qo7:ty lay 267=some QcD:=rfl
theorem Qo8:ty lay 269=some QcE:=rfl
theorem Qo9:ty lay 272=some QcF:=rfl
theorem Qpa:ty lay 274=some QcG:=rfl
theorem Qpb:ty lay 276=some cn:=rfl
theorem Qpc:ty lay 278=some cn:=rfl
theorem Qpd:ty lay 279=some QcH:=rfl
theorem Qpe:ty lay 280=some QcI:=rfl
theorem Qpf:ty lay 281=some QcJ:=rfl
theorem Qpg:ty lay 283=some QcK:=rfl
theorem Qph:ty lay 285=some Ng:=rfl
theorem Qpi:ty lay 296=some QcL:=rfl
theorem Qpj:ty lay 303=some QcM:=rfl
theorem Qpk:ty lay 305=some QcN:=rfl
theorem QJ1:ty lay 315=some QuN:=rfl
theorem Qpl:ty lay 324=some Y2:=rfl
theorem Qpm:ty lay 332=some QcO:=rfl
theorem Qpn:ty lay 334=some QcP:=rfl
theorem Qpo:ty lay 336=some QcQ:=rfl
theorem Qpp:ty lay 338=some QcR:=rfl
theorem Qpq:ty lay 359=some QcS:=rfl
theorem Qpr:ty lay 364=some QcT:=rfl
theorem Qps:ty lay 366=some QcU:=rfl
theorem Qpt:ty lay 371=some Y1:=rfl
theorem Qpu:ty lay 379=some F9:=rfl
theorem Qpv:ty lay 382=some QcV:=rfl
theorem Qpw:ty lay 384=some QcW:=rfl
theorem Qpx:ty lay 386=some QcX:=rfl
theorem Qpy:ty lay 387=some Y1:=rfl
theorem Qpz:ty lay 398=some QcY:=rfl
theorem QpA:ty lay 402=some QcZ:=rfl
theorem QpB:ty lay 404=some Qc0:=rfl
theorem QpC:ty lay 407=some Qc1:=rfl
theorem QpD:ty lay 414=some Y1:=rfl
theorem QpE:ty lay 416=some Qc2:=rfl
def H4:B0:=[(47,[0,0,0]),(49,[0,0,1,0,0,0,0,0,0,0,0,0,0,0]),(62,[0,0,0,0]),(81,[0,0]),(364,[0,0])]
def Qc4{P:Program}:∀{E:B0},E.map (λp=>Y3 P 60 p.1)=E.map (λp=>some p.2)->E.map (λp=>P.eqGuardType P.depth p.1)=E.map (λ_=>false)->E.map (λp=>match P.underlying p.1 with|some (.struct _)|some (.array _ _)=>true|_=>false)=E.map (λ_=>true)->yw P E
 | [],_,_,_=>.nil _
 | (_,_)::_,h1,h2,h3=>.cons ⟨(vH h1).1,(vH h2).1,(vH h3).1⟩ (Qc4 (vH h1).2 (vH h2).2 (vH h3).2)
def QpF:yw prog H4:=Qc4 τ τ τ
theorem E47:AJ H4 47=some [0,0,0]:=rfl
theorem E49:AJ H4 49=some [0,0,1,0,0,0,0,0,0,0,0,0,0,0]:=rfl
theorem E62:AJ H4 62=some [0,0,0,0]:=rfl
theorem E81:AJ H4 81=some [0,0]:=rfl
theorem QpK:AJ H4 364=some [0,0]:=rfl
def cx:Cx:=⟨lay,H4⟩
def Q4:qH prog cx:=⟨yG,QpF⟩
def Gb:Qm prog 12:=call12
def Ni:Qm prog 17:=call17
def Rw:Qm prog 21:=call21
def qf:Qm prog 22:=call22
def Nj:Qm prog 24:=call24
def QpM:Qm prog 32:=call32
def QpN:Qm prog 33:=call33
def QpO:Qm prog 34:=call34
def QpP:Qm prog 35:=call35
def yH:Qm prog 36:=call36
def kX:Qm prog 44:=call44
def QA7:Qm prog 47:=call47
def Qog:Qm prog 48:=call48
def QBe:Qm prog 49:=call49
def Qwl:Qm prog 50:=call50
def QBg:Qm prog 55:=call55
def Qc8:Qm prog 61:=call61
def Qc9:Qm prog 62:=call62
def cu:Qm prog 63:=call63
def QpQ:Qm prog 64:=call64
def cv:Qm prog 65:=call65
def Qda:Qm prog 66:=call66
def Rx:Qm prog 68:=call68
def Ry:Qm prog 69:=call69
def cw:Qm prog 70:=call70
def Qdb:Qm prog 74:=call74
def Qdc:Qm prog 78:=call78
def QpV:Qm prog 79:=call79
def QpW:Qm prog 80:=call80
def mK:Qm prog 81:=call81
def QpX:Qm prog 82:=call82
def Qdd:Qm prog 83:=call83
def QpY:Qm prog 84:=call84
def Qgz:Qm prog 85:=call85
def QpZ:Qm prog 86:=call86
def Qp0:Qm prog 87:=call87
def Qp1:Qm prog 88:=call88
def Qp2:Qm prog 89:=call89
def Ba:Qm prog 91:=call91
def mL:Qm prog 93:=call93
def QLV:Qm prog 95:=call95
def Qvc:Qm prog 103:=call103
def QvD:Qm prog 104:=call104
def Qww:Qm prog 105:=call105
def QLW:Qm prog 106:=call106
def Qwx:Qm prog 107:=call107
def Qp3:Qm prog 111:=call111
def Rz:Qm prog 112:=call112
def Qde:Qm prog 113:=call113
def Nk:Qm prog 114:=call114
def QJ7:Qm prog 115:=call115
def DT:Qm prog 116:=call116
def QLX:Qm prog 117:=call117
def QLY:Qm prog 118:=call118
def QLZ:Qm prog 119:=call119
def Qdf:Qm prog 124:=call124
def cA:Qm prog 125:=call125
def No:Qm prog 126:=call126
def cB:Qm prog 127:=call127
def H9:Qm prog 128:=call128
def Qp4:Qm prog 129:=call129
def Qdg:Qm prog 130:=call130
def mM:Qm prog 131:=call131
def mN:Qm prog 132:=call132
def Qp5:Qm prog 133:=call133
def Qdh:Qm prog 134:=call134
def Qdi:Qm prog 135:=call135
def Qp6:Qm prog 136:=call136
def mO:Qm prog 137:=call137
def Qdj:Qm prog 138:=call138
def Qp7:Qm prog 139:=call139
def Qdk:Qm prog 140:=call140
def RC:Qm prog 141:=call141
def Qp8:Qm prog 142:=call142
def mP:Qm prog 143:=call143
def mQ:Qm prog 144:=call144
def Qp9:Qm prog 145:=call145
def mR:Qm prog 146:=call146
def Qdl:Qm prog 147:=call147
def Qqa:Qm prog 148:=call148
def Qqb:Qm prog 149:=call149
def Qdm:Qm prog 150:=call150
def Qqc:Qm prog 151:=call151
def Qdn:Qm prog 152:=call152
def Gc:Qm prog 153:=call153
def Qdo:Qm prog 154:=call154
def Qqd:Qm prog 155:=call155
def Qqe:Qm prog 158:=call158
def Qqf:Qm prog 161:=call161
def Qqg:Qm prog 162:=call162
def QvQ:Qm prog 165:=call165
def QnM:Qm prog 166:=call166
def Qdp:Qm prog 167:=call167
def Qdq:Qm prog 168:=call168
def QL0:Qm prog 169:=call169
def cC:Qm prog 172:=call172
def Qdr:Qm prog 174:=call174
def Qds:Qm prog 175:=call175
def Qqh:Qm prog 176:=call176
def Qqi:Qm prog 177:=call177
def Qdt:Qm prog 178:=call178
def Qqj:Qm prog 179:=call179
def Qqk:Qm prog 180:=call180
def Qql:Qm prog 181:=call181
def Np:Qm prog 182:=call182
def Qqm:Qm prog 183:=call183
def cE:Qm prog 184:=call184
def Qdu:Qm prog 185:=call185
def Qqn:Qm prog 186:=call186
def Qqo:Qm prog 187:=call187
def Qqp:Qm prog 188:=call188
def Qqq:Qm prog 189:=call189
def Qqr:Qm prog 190:=call190
def Qqs:Qm prog 191:=call191
def Qqt:Qm prog 192:=call192
def Qqu:Qm prog 193:=call193
def Qqv:Qm prog 194:=call194
def Qdv:Qm prog 195:=call195
def mS:Qm prog 196:=call196
def Qqw:Qm prog 199:=call199
def Qqx:Qm prog 200:=call200
def Qqy:Qm prog 201:=call201
def cF:Qm prog 202:=call202
def Qdw:Qm prog 203:=call203
def Qqz:Qm prog 222:=call222
def QqA:Qm prog 223:=call223
def QqB:Qm prog 224:=call224
def QqC:Qm prog 225:=call225
def Qdx:Qm prog 226:=call226
def QqD:Qm prog 227:=call227
def QqE:Qm prog 228:=call228
def QqF:Qm prog 229:=call229
def QqG:Qm prog 230:=call230
def Qdy:Qm prog 231:=call231
def QqH:Qm prog 232:=call232
def QqI:Qm prog 233:=call233
def QqJ:Qm prog 234:=call234
def mT:Qm prog 235:=call235
def QqK:Qm prog 236:=call236
def QqL:Qm prog 237:=call237
def QqM:Qm prog 238:=call238
def mU:Qm prog 239:=call239
def QqN:Qm prog 240:=call240
def QqO:Qm prog 241:=call241
def QqP:Qm prog 242:=call242
def QqQ:Qm prog 243:=call243
def QqR:Qm prog 244:=call244
def QqS:Qm prog 245:=call245
def QqT:Qm prog 246:=call246
def QqU:Qm prog 247:=call247
def mV:Qm prog 249:=call249
def Qdz:Qm prog 250:=call250
def QqV:Qm prog 251:=call251
def QdA:Qm prog 252:=call252
def QqW:Qm prog 253:=call253
def QqX:Qm prog 254:=call254
def QqY:Qm prog 255:=call255
def QqZ:Qm prog 256:=call256
def Qq0:Qm prog 257:=call257
def Qq1:Qm prog 258:=call258
def Qq2:Qm prog 259:=call259
def QdB:Qm prog 260:=call260
def Qq3:Qm prog 265:=call265
def Qq4:Qm prog 266:=call266
def Qq5:Qm prog 270:=call270
def mW:Qm prog 271:=call271
def QdC:Qm prog 272:=call272
def mX:Qm prog 273:=call273
def QdD:Qm prog 274:=call274
def cG:Qm prog 275:=call275
def cH:Qm prog 276:=call276
def mY:Qm prog 277:=call277
def QdE:Qm prog 278:=call278
def mZ:Qm prog 279:=call279
def QdF:Qm prog 280:=call280
def m6:Qm prog 281:=call281
def QdG:Qm prog 282:=call282
def m7:Qm prog 283:=call283
def Qq6:Qm prog 284:=call284
def Qq7:Qm prog 285:=call285
def Qq8:Qm prog 286:=call286
def Qq9:Qm prog 287:=call287
def cI:Qm prog 288:=call288
def Qra:Qm prog 289:=call289
def QdH:Qm prog 290:=call290
def Qrb:Qm prog 291:=call291
def QdI:Qm prog 292:=call292
def Qrc:Qm prog 293:=call293
def cJ:Qm prog 294:=call294
def zU:Qm prog 295:=call295
def QdJ:Qm prog 296:=call296
def QdK:Qm prog 297:=call297
def Nq:Qm prog 298:=call298
def m8:Qm prog 299:=call299
def Qrd:Qm prog 300:=call300
def Qre:Qm prog 302:=call302
def QdL:Qm prog 303:=call303
def m9:Qm prog 304:=call304
def QdM:Qm prog 305:=call305
def RD:Qm prog 306:=call306
def Qrf:Qm prog 307:=call307
def Ce:Qm prog 308:=call308
def QdN:Qm prog 309:=call309
def QdO:Qm prog 310:=call310
def Qrg:Qm prog 311:=call311
def QdP:Qm prog 312:=call312
def Qrh:Qm prog 313:=call313
def cK:Qm prog 314:=call314
def QdQ:Qm prog 315:=call315
def ng:Qm prog 316:=call316
def Qri:Qm prog 317:=call317
def Qrj:Qm prog 318:=call318
def Qrk:Qm prog 319:=call319
def Qrl:Qm prog 320:=call320
def Qrm:Qm prog 321:=call321
def Qrn:Qm prog 322:=call322
def Qro:Qm prog 323:=call323
def Qrp:Qm prog 324:=call324
def QdR:Qm prog 325:=call325
def Qrq:Qm prog 326:=call326
def QdS:Qm prog 327:=call327
def nh:Qm prog 328:=call328
def jQ:Qm prog 329:=call329
def DU:Qm prog 330:=call330
def QnN:Qm prog 331:=call331
def QdT:Qm prog 332:=call332
def QnO:Qm prog 333:=call333
def ns:Qm prog 334:=call334
def Nr:Qm prog 335:=call335
def nu:Qm prog 336:=call336
attribute [go_sem] cx L1 L2 L3 L4 L5 L9 L12 L17 L20 L21 L22 L23 L24 L25 L26 L27 L28 L29 L30 L31 L32 L33 L36 L37 L39 L40 L42 L43 L44 L45 L46 L47 L48 L49 L51 L52 L53 L54 L55 L56 L57 L58 L59 L60 L61 L62 L63 L64 L65 L66 L67 L69 L72 L73 L75 L76 L77 L79 L81 L82 L83 L84 L85 L86 L87 L88 L89 L90 L91 L93 L94 L95 L97 L98 L99 Qom Qon Qoo Qop QJ0 Qor Qos Qot QLQ Qou Qov Qow Qox Qoy Qoz QoA QoB QoC QoD QoE QoF QoG QoH QoI QoJ QoK QoL QoM QoN QoO QoP QoQ QoR QoS QoT QoU QoV QoW QoX QoY QoZ Qo0 Qo1 Qo2 Qo3 Qo4 Qo5 Qo6 Qo7 Qo8 Qo9 Qpa Qpb Qpc Qpd Qpe Qpf Qpg Qph Qpi Qpj Qpk QJ1 Qpl Qpm Qpn Qpo Qpp Qpq Qpr Qps Qpt Qpu Qpv Qpw Qpx Qpy Qpz QpA QpB QpC QpD QpE E47 E49 E62 E81 QpK
def Qg{base nt}{w0:Start}{Q}{k}{s}(hb:base<=w0.w.heap.size)(h:hx prog base w0 Q cx nt 200 k s):Qv prog base nt w0 Q k .normal s:=HU Q4 hb 200 h
def ZH{base nt}{w0:Start}{K}{l}{s}(hb:base<=w0.w.heap.size)(h:KU prog base w0 cx nt K l s):AX prog base nt w0 K l s:=QmO Q4 hb h
end Go.Fg.X
namespace Go.Fg
open Go.RowKit (Below)
def Rd(P:Program)(t:TypeId){α:Type}(ok:α->Prop)(enc:α->List D):Prop:=
 ∀{H:Type} {en:TypeId × Value->H} {w:World} {base:Nat} {held:Bool} (m:Nat) (cs:List Value) (x:DataW H × List MemPlace),DataW.trod en P w base (λ_=>true) held m t cs=some x ->
  ∃a,ok a/\(enc a).length=cs.length/\∀j,j<cs.length->Cl (λ_=>True) w (nth (enc a) j) (QZ cs j)
def Rd.int{P:Program}{t:TypeId}(k)(ht:P.underlying t=some (.int k)):Rd P t (λn:Int=>(Lit.int k n).wf=true) (λn=>[.raw (.int k n)]):=by
 intro H en w base held m cs x h;obtain⟨n,rfl,_,hw⟩:=DataW.trod_int ht h;refine⟨n,hw,rfl,λj hj=>?_⟩;obtain rfl:j=0:=by simpa using hj
 exact .raw _
def Rd.bool{P:Program}{t:TypeId}(ht:P.underlying t=some .bool):Rd P t (λ_:Bool=>True) (λn=>[.raw (.bool n)]):=by
 intro H en w base held m cs x h;obtain⟨n,rfl,_⟩:=DataW.trod_bool ht h;refine⟨n,trivial,rfl,λj hj=>?_⟩;obtain rfl:j=0:=by simpa using hj
 exact .raw _
def Rd.map{P}{t:TypeId}{α β:Type}{ok}{enc}(r:Rd P t ok enc)(g:α->β){Gd}{zf}(he:∀a,zf (g a)=enc a)(ho:∀a,ok a->Gd (g a)):Rd P t Gd zf:=by
 intro H en w base held m cs x h;obtain⟨a,h1,h2,h3⟩:=r m cs x h;exact⟨g a,ho a h1,by rw[he];exact h2,by rw[he];exact h3⟩
def KG(P:Program)(fs:List Field)(off QO:Nat){α:Type}(ok:α->Prop)(enc:α->List D):Prop:=
 ∀{H:Type} {en:TypeId × Value->H} {w:World} {base:Nat} {held:Bool} (m:Nat) (cs:List Value),cs.length=QO ->
  (∀f∈fs,∃x,DataW.trod en P w base (λ_=>true) held m f.type ((cs.drop f.offset).take (P.cellsOf f.type))=some x) ->
  ∃a,ok a/\off+(enc a).length=QO/\∀j,off+j<QO->Cl (λ_=>True) w (nth (enc a) j) (QZ cs (off+j))
def KG.nil{P}{QO}:KG P [] QO QO (λ_:Unit=>True) (λ_=>[]):=by
 intro H en w base held m cs hl h;exact⟨(),trivial,rfl,λj hj=>ω⟩
def KG.cons{P}{f:Field}{fs}{off vQ QO}{α β:Type}{ok}{enc}{Gd}{zf}(r:Rd P f.type ok enc)(rs:KG P fs vQ QO Gd zf)
  (ho:f.offset=off) (hc:off+P.cellsOf f.type=vQ) (ht:vQ<=QO):KG P (f::fs) off QO (λab:α × β=>ok ab.1/\Gd ab.2) (λab=>enc ab.1++zf ab.2):=by
 intro H en w base held m cs hl h;obtain⟨x,hx⟩:=h f σ;obtain⟨a,a1,a2,a3⟩:=r m _ x hx;obtain⟨b,b1,b2,b3⟩:=rs m cs hl λg hg=>h g (by simp[hg]);have hlen:((cs.drop f.offset).take (P.cellsOf f.type)).length=P.cellsOf f.type:=ξ;rw[hlen]at a2 a3;refine⟨(a,b),⟨a1,b1⟩,ξ,λj hj=>?_⟩;by_cases h1:j<P.cellsOf f.type
 .have:=a3 j h1;have e1:nth (enc a++zf b) j=nth (enc a) j:=lg ω;have e2:QZ ((cs.drop f.offset).take (P.cellsOf f.type)) j=QZ cs (off+j):=by
   simp only[QZ,Q5,Xw,Qd h1,Fj,ho]
  show Cl _ w (nth (enc a++zf b) j) _;rw[e1,<- e2];exact this
 .have e1:nth (enc a++zf b) j=nth (zf b) (j - P.cellsOf f.type):=by rw[lh ω,a2]
  have:=b3 (j - P.cellsOf f.type) ω;show Cl _ w (nth (enc a++zf b) j) _;rw[e1,show off+j=vQ+(j - P.cellsOf f.type) by omega];exact this
def Rd.struct{P:Program}{t:TypeId}{fs:Array Field}{QO:Nat}{α:Type}{ok:α->Prop}{enc:α->List D}(ht:P.underlying t=some (.struct fs))(hc:P.cellsOf t=QO)(r:KG P fs.toList 0 QO ok enc):Rd P t ok enc:=by
 intro H en w base held m cs x h;obtain⟨xs,m',rfl,_,hl,zQ,hf⟩:=DataW.trod_struct ht h;obtain⟨a,a1,a2,a3⟩:=r m' cs ω λf hf'=>by
  obtain⟨i,hi⟩:=Fk hf';have Z9:fs[i]? = some f:=by simpa using hi
  have Qb:i<xs.length:=by rw[zQ];exact(Ws.1 Z9).1
  exact⟨xs[i],by rw[hf i f Z9];exact QP Qb⟩
 exact⟨a,a1,ω,λj hj=>by have:=a3 j ω;rwa [JD]at this⟩
def YC(P:Program)(e:TypeId)(i n:Nat){α:Type}(ok:α->Prop)(enc:α->List D):Prop:=
 ∀{H:Type} {en:TypeId × Value->H} {w:World} {base:Nat} {held:Bool} (m:Nat) (cs:List Value),cs.length=n*P.cellsOf e ->
  (∀k,k<n->∃x,DataW.trod en P w base (λ_=>true) held m e ((cs.drop (k*P.cellsOf e)).take (P.cellsOf e))=some x) ->
  ∃a,ok a/\i*P.cellsOf e+(enc a).length=n*P.cellsOf e/\∀j,i*P.cellsOf e+j<n*P.cellsOf e->Cl (λ_=>True) w (nth (enc a) j) (QZ cs (i*P.cellsOf e+j))
def YC.nil{P}{e:TypeId}{n}:YC P e n n (λ_:Unit=>True) (λ_=>[]):=by
 intro H en w base held m cs hl h;exact⟨(),trivial,rfl,λj hj=>ω⟩
def YC.cons{P}{e:TypeId}{i n}{α β:Type}{ok}{enc}{Gd}{zf}(hi:i<n)(r:Rd P e ok enc)(rs:YC P e (i+1) n Gd zf):
  YC P e i n (λab:α × β=>ok ab.1/\Gd ab.2) (λab=>enc ab.1++zf ab.2):=by
 intro H en w base held m cs hl h;obtain⟨x,hx⟩:=h i hi;obtain⟨a,a1,a2,a3⟩:=r m _ x hx;obtain⟨b,b1,b2,b3⟩:=rs m cs hl h;have hm:=X7 (P.cellsOf e) (show i+1<=n from hi);rw[Vz,Me]at hm;rw[Vz,Me]at b2 b3;have hlen:((cs.drop (i*P.cellsOf e)).take (P.cellsOf e)).length=P.cellsOf e:=ξ;rw[hlen]at a2 a3;refine⟨(a,b),⟨a1,b1⟩,ξ,λj hj=>?_⟩;by_cases h1:j<P.cellsOf e
 .have:=a3 j h1;have e1:nth (enc a++zf b) j=nth (enc a) j:=lg ω;have e2:QZ ((cs.drop (i*P.cellsOf e)).take (P.cellsOf e)) j=QZ cs (i*P.cellsOf e+j):=by
   simp only[QZ,Q5,Xw,Qd h1,Fj]
  show Cl _ w (nth (enc a++zf b) j) _;rw[e1,<- e2];exact this
 .have e1:nth (enc a++zf b) j=nth (zf b) (j - P.cellsOf e):=by rw[lh ω,a2]
  have:=b3 (j - P.cellsOf e) ω;show Cl _ w (nth (enc a++zf b) j) _;rw[e1,show i*P.cellsOf e+j=i*P.cellsOf e+P.cellsOf e+(j - P.cellsOf e) by omega];exact this
def Rd.array{P:Program}{t e:TypeId}{n:Nat}{α:Type}{ok:α->Prop}{enc:α->List D}(ht:P.underlying t=some (.array n e))(hc:P.cellsOf t=n*P.cellsOf e)(r:YC P e 0 n ok enc):Rd P t ok enc:=by
 intro H en w base held m cs x h;obtain⟨xs,m',rfl,_,hl,zQ,hf⟩:=DataW.trod_array ht h;obtain⟨a,a1,a2,a3⟩:=r m' cs ω λk hk=>by
  have Qb:k<xs.length:=ω;exact⟨xs[k],by rw[hf k hk];exact QP Qb⟩
 simp only[Qkp,JD]at a2 a3;exact⟨a,a1,ω,λj hj=>a3 j ω⟩
def Rd.slice{P:Program}{t e:TypeId}{α:Type}[Inhabited α]{ok}{enc}(sz)(ht:P.underlying t=some (.slice e))(hc:P.cellsOf e=sz)(YZ:0<sz)(r:Rd P e ok enc):
  Rd P t (λl:List α=>l.length<=maxLen/\∀a∈l,ok a) (λl=>[.imm sz l.length λi=>enc (l.getD i default)]):=by
 intro H en w base held m cs x h;rcases Deep.open_slice ht h with ⟨rfl,_⟩|⟨a,len,cap,m,n',D',Pl,rfl,hb,hl,hm,cM,_,hel⟩
 .refine⟨[],⟨σ,σ⟩,rfl,λj hj=>?_⟩;obtain rfl:j=0:=by simpa using hj
  exact .imm _ _ _ _ _ 0 0 (λ_ _=>Go.undef) (λh=>by simp at h) σ (λi hi=>by simp at hi) (λi j hi=>by simp at hi) (λi j hi=>by simp at hi)
 .simp only[Vs]at cM;have key:∀i,∃ac:α × List Value,i<len->ok ac.1/\(enc ac.1).length=sz/\ac.2.length=sz/\(∀j,j<sz->w.cell? (a.add (i*sz+j))=some (QZ ac.2 j))/\∀j,j<sz->Cl (λ_=>True) w (nth (enc ac.1) j) (QZ ac.2 j):=λi=>by
   by_cases hi:i<len
   .obtain⟨cs',h1,h2⟩:=hel i ω;obtain⟨x,hx,zQ,cO⟩:=r n' cs' _ h2;obtain⟨_,hlen,BX⟩:=World.cells?_some h1;have Jp:cs'.length=sz:=ω;refine⟨(x,cs'),λ_=>⟨hx,(by show (enc x).length=sz;omega),Jp,λj hj=>?_,λj hj=>cO j ω⟩⟩;have:=BX j ω;rw[Deep.add_add,hc]at this;rw[this];simp[QZ,Q5,QP (show j<cs'.length from ω)]
   .exact⟨(default,[]),λh=>absurd h hi⟩
  obtain⟨f,hf⟩:=Classical.axiomOfChoice key;have hlen:((List.range len).map λi=>(f i).1).length=len:=σ;have XB:∀i,i<len->((List.range len).map λi=>(f i).1).getD i default=(f i).1:=λi hi=>by simp[Q5,hi]
  refine⟨(List.range len).map λi=>(f i).1,⟨by rw[hlen];omega,λx hx=>?_⟩,rfl,λj hj=>?_⟩
  .obtain⟨i,hi,rfl⟩:=Z2.1 hx;exact(hf i (Pj.1 hi)).1
  .obtain rfl:j=0:=by simpa using hj
   show Cl _ w (.imm sz ((List.range len).map λi=>(f i).1).length λi=>enc (((List.range len).map λi=>(f i).1).getD i default)) (.slice (some a) len cap);rw[hlen];have QdU:0<len->a=⟨a.block,a.off,none⟩:=λh0=>by
    have h1:=(hf 0 h0).2.2.2.1 0 YZ;have h2:=World.cell?_spot h1;obtain⟨b,o,sp⟩:=a;simp[Addr.add]at h2;subst h2;rfl
   refine .imm _ _ _ _ _ a.block a.off (λi j=>QZ (f i).2 j) (λh0=>by rw[<- QdU h0]) hl (λi hi=>?_) (λi j hi hj=>⟨trivial,?_⟩) (λi j hi hj=>?_)
   .rw[XB i hi];exact(hf i hi).2.1
   .have h1:=(hf i hi).2.2.2.1 j hj;rw[QdU ω]at h1;rw[<- h1];congr 1;simp only[Addr.add];split<;>simp_all
   .rw[XB i hi];exact(hf i hi).2.2.2.2 j hj
def Rd.one{P:Program}{t:TypeId}{α:Type}{ok:α->Prop}{enc:α->D}(r:Rd P t ok λa=>[enc a]){H:Type}{en:TypeId × Value->H}{w:World}{base:Nat}{held:Bool}{v:Value}{d:DataW H}{ps:List MemPlace}
  (h:DataW.Trod en P w base (λ_=>true) held t v d ps) (hv:v.cells.toList=[v]):∃a,ok a/\Cl (λ_=>True) w (enc a) v:=by
 obtain⟨m,hm⟩:=h;rw[hv]at hm;obtain⟨a,h1,h2,h3⟩:=r m _ _ hm;exact⟨a,h1,h3 0 σ⟩
def Rd.many{P:Program}{t:TypeId}{α:Type}{ok:α->Prop}{enc:α->List D}(r:Rd P t ok enc){H:Type}{en:TypeId × Value->H}{w:World}{base:Nat}{held:Bool}{cs:Array Value}{d:DataW H}{ps:List MemPlace}
  (h:DataW.Trod en P w base (λ_=>true) held t (.agg cs) d ps):∃a,ok a/\Cl (λ_=>True) w (.agg (enc a)) (.agg cs):=by
 obtain⟨m,hm⟩:=h;have e:(Value.agg cs).cells.toList=cs.toList:=rfl;rw[e]at hm;obtain⟨a,h1,h2,h3⟩:=r m _ _ hm;have:=Cl.agg (N:=λ_=>True) (w:=w) (enc a) cs.toList h2.symm (λi hi=>h3 i ω);exact⟨a,h1,by simpa using this⟩
def Qrt(k)(n:Int):(Value.int k n).cells.toList=[Value.int k n]:=by simp[Value.cells]
def QdV{P}{f}{ds:List D}(h:QW P f ds λd h=>d=.raw (.bool true)/\h=[])(W)(vs:List Value)(hl:vs.length=ds.length)(hc:∀i,i<ds.length->Cl (λ_=>True) W (nth ds i) (QZ vs i)):
  Calls P f vs.toArray W λe W'=>e=.returned (.bool true)/\Below W.heap.size W W':=by
 refine(h (λ_=>True) W.heap.size W [] vs (QB _) (λ_ _=>trivial) ⟨rfl,λl l' b q q' e=>by simp at e,λl o e=>by simp at e,λl o b q e=>by simp at e⟩ hl (λi hi=>.cl _ _ ((hc i hi).mono λb _ _=>⟨⟨trivial,λl q e=>by simp at e⟩,rfl⟩))).mono λe W' he=>?_;obtain⟨v,d,h',Qi,rfl,⟨rfl,rfl⟩,_,hv,_,hb⟩:=he;rw[Jn hv];exact⟨rfl,hb⟩
end Go.Fg
namespace Go.Fg.X
open Go.Proofs Go.Fg
open Go.Proofs.Tryz
def nw(k:IntKind)(l:List Int):Nat->List D:=λi=>[.raw (.int k (l.getD i 0))]
@[go_sem] theorem Qru(k)(l:List Int)(i):nw k l i=[.raw (.int k (l.getD i 0))]:=rfl
structure Cf where
 t:Int
 ZX:Int
instance:Inhabited Cf:=⟨⟨0,0⟩⟩
@[go_sem] def Cf.cells(x:Cf):List D:=[.raw (.int .i64 x.t),.raw (.int .i64 x.ZX)]
def Cf.rows(l:List Cf):Nat->List D:=λi=>(l.getD i default).cells
@[go_sem] theorem Cf.xA(l:List Cf)(i):Cf.rows l i=(l.getD i default).cells:=rfl
def Cf.Ok(x:Cf):Prop:=(Lit.int .i64 x.t).wf=true/\(Lit.int .i64 x.ZX).wf=true/\True
def Qrv:Rd prog 23 Cf.Ok Cf.cells:=
 Rd.map (Rd.struct (QO:=2) underlying23 τ (KG.cons (Rd.int .i64 underlying3) (KG.cons (Rd.int .i64 underlying3) KG.nil rfl τ π) rfl τ π)) (λp=>⟨p.1,p.2.1⟩) (λ_=>rfl) (λ_ h=>⟨h.1,h.2.1,trivial⟩)
structure Cv where
 m1:Int
 d:Int
 m2:Int
instance:Inhabited Cv:=⟨⟨0,0,0⟩⟩
@[go_sem] def Cv.cells(x:Cv):List D:=[.raw (.int .u64 x.m1),.raw (.int .u64 x.d),.raw (.int .u64 x.m2)]
def Cv.rows(l:List Cv):Nat->List D:=λi=>(l.getD i default).cells
@[go_sem] theorem Cv.xA(l:List Cv)(i):Cv.rows l i=(l.getD i default).cells:=rfl
def Cv.Ok(x:Cv):Prop:=(Lit.int .u64 x.m1).wf=true/\(Lit.int .u64 x.d).wf=true/\(Lit.int .u64 x.m2).wf=true/\True
def ny:Rd prog 47 Cv.Ok Cv.cells:=
 Rd.map (Rd.struct (QO:=3) underlying47 τ (KG.cons (Rd.int .u64 underlying45) (KG.cons (Rd.int .u64 underlying45) (KG.cons (Rd.int .u64 underlying45) KG.nil rfl τ π) rfl τ π) rfl τ π)) (λp=>⟨p.1,p.2.1,p.2.2.1⟩) (λ_=>rfl) (λ_ h=>⟨h.1,h.2.1,h.2.2.1,trivial⟩)
structure Pk where
 iD:Int
 len:Int
 wc:Int
 wg:Int
 wh:Int
 wi:Int
instance:Inhabited Pk:=⟨⟨0,0,0,0,0,0⟩⟩
@[go_sem] def Pk.cells(x:Pk):List D:=[.raw (.int .u64 x.iD),.raw (.int .i64 x.len),.raw (.int .u16 x.wc),.raw (.int .u16 x.wg),.raw (.int .u16 x.wh),.raw (.int .u16 x.wi)]
def Pk.rows(l:List Pk):Nat->List D:=λi=>(l.getD i default).cells
@[go_sem] theorem Pk.xA(l:List Pk)(i):Pk.rows l i=(l.getD i default).cells:=rfl
def Pk.Ok(x:Pk):Prop:=(Lit.int .u64 x.iD).wf=true/\(Lit.int .i64 x.len).wf=true/\(Lit.int .u16 x.wc).wf=true/\(Lit.int .u16 x.wg).wf=true/\(Lit.int .u16 x.wh).wf=true/\(Lit.int .u16 x.wi).wf=true/\True
def Qrw:Rd prog 64 Pk.Ok Pk.cells:=
 Rd.map (Rd.struct (QO:=6) underlying64 τ (KG.cons (Rd.int .u64 underlying45) (KG.cons (Rd.int .i64 underlying3) (KG.cons (Rd.array underlying62 τ (YC.cons π (Rd.int .u16 underlying60) (YC.cons π (Rd.int .u16 underlying60) (YC.cons π (Rd.int .u16 underlying60) (YC.cons π (Rd.int .u16 underlying60) YC.nil))))) KG.nil rfl τ π) rfl τ π) rfl τ π)) (λp=>⟨p.1,p.2.1,p.2.2.1.1,p.2.2.1.2.1,p.2.2.1.2.2.1,p.2.2.1.2.2.2.1⟩) (λ_=>rfl) (λ_ h=>⟨h.1,h.2.1,h.2.2.1.1,h.2.2.1.2.1,h.2.2.1.2.2.1,h.2.2.1.2.2.2.1,trivial⟩)
structure Qq where
 iD:Int
 parent:Int
 leaf:Bool
 rt:Cv
 ls:Cv
 ul:Cv
 ZD:Int
 bytes:Int
instance:Inhabited Qq:=⟨⟨0,0,false,default,default,default,0,0⟩⟩
@[go_sem] def Qq.cells(x:Qq):List D:=[.raw (.int .i64 x.iD),.raw (.int .i64 x.parent),.raw (.bool x.leaf),.raw (.int .u64 x.rt.m1),.raw (.int .u64 x.rt.d),.raw (.int .u64 x.rt.m2),.raw (.int .u64 x.ls.m1),.raw (.int .u64 x.ls.d),.raw (.int .u64 x.ls.m2),.raw (.int .u64 x.ul.m1),.raw (.int .u64 x.ul.d),.raw (.int .u64 x.ul.m2),.raw (.int .i64 x.ZD),.raw (.int .i64 x.bytes)]
def Qq.rows(l:List Qq):Nat->List D:=λi=>(l.getD i default).cells
@[go_sem] theorem Qq.xA(l:List Qq)(i):Qq.rows l i=(l.getD i default).cells:=rfl
def Qq.Ok(x:Qq):Prop:=(Lit.int .i64 x.iD).wf=true/\(Lit.int .i64 x.parent).wf=true/\True/\Cv.Ok x.rt/\Cv.Ok x.ls/\Cv.Ok x.ul/\(Lit.int .i64 x.ZD).wf=true/\(Lit.int .i64 x.bytes).wf=true/\True
def Qrx:Rd prog 49 Qq.Ok Qq.cells:=
 Rd.map (Rd.struct (QO:=14) underlying49 τ (KG.cons (Rd.int .i64 underlying3) (KG.cons (Rd.int .i64 underlying3) (KG.cons (Rd.bool underlying4) (KG.cons ny (KG.cons ny (KG.cons ny (KG.cons (Rd.int .i64 underlying3) (KG.cons (Rd.int .i64 underlying3) KG.nil rfl τ π) rfl τ π) rfl τ π) rfl τ π) rfl τ π) rfl τ π) rfl τ π) rfl τ π)) (λp=>⟨p.1,p.2.1,p.2.2.1,p.2.2.2.1,p.2.2.2.2.1,p.2.2.2.2.2.1,p.2.2.2.2.2.2.1,p.2.2.2.2.2.2.2.1⟩) (λ_=>rfl) (λ_ h=>⟨h.1,h.2.1,h.2.2.1,h.2.2.2.1,h.2.2.2.2.1,h.2.2.2.2.2.1,h.2.2.2.2.2.2.1,h.2.2.2.2.2.2.2.1,trivial⟩)
structure JN where
 kind:Int
 cls:Qq
instance:Inhabited JN:=⟨⟨0,default⟩⟩
@[go_sem] def JN.cells(x:JN):List D:=[.raw (.int .i64 x.kind),.raw (.int .i64 x.cls.iD),.raw (.int .i64 x.cls.parent),.raw (.bool x.cls.leaf),.raw (.int .u64 x.cls.rt.m1),.raw (.int .u64 x.cls.rt.d),.raw (.int .u64 x.cls.rt.m2),.raw (.int .u64 x.cls.ls.m1),.raw (.int .u64 x.cls.ls.d),.raw (.int .u64 x.cls.ls.m2),.raw (.int .u64 x.cls.ul.m1),.raw (.int .u64 x.cls.ul.d),.raw (.int .u64 x.cls.ul.m2),.raw (.int .i64 x.cls.ZD),.raw (.int .i64 x.cls.bytes)]
def JN.rows(l:List JN):Nat->List D:=λi=>(l.getD i default).cells
@[go_sem] theorem JN.xA(l:List JN)(i):JN.rows l i=(l.getD i default).cells:=rfl
def JN.Ok(x:JN):Prop:=(Lit.int .i64 x.kind).wf=true/\Qq.Ok x.cls/\True
def Qry:Rd prog 267 JN.Ok JN.cells:=
 Rd.map (Rd.struct (QO:=15) underlying267 τ (KG.cons (Rd.int .i64 underlying3) (KG.cons Qrx KG.nil rfl τ π) rfl τ π)) (λp=>⟨p.1,p.2.1⟩) (λ_=>rfl) (λ_ h=>⟨h.1,h.2.1,trivial⟩)
structure JT where
 yI:Int
 yJ:Int
 DV:Int
 Cg:Int
 Ia:Int
 Ib:Int
 Ic:Int
 DW:Int
 cls:Int
instance:Inhabited JT:=⟨⟨0,0,0,0,0,0,0,0,0⟩⟩
@[go_sem] def JT.cells(x:JT):List D:=[.raw (.int .u16 x.yI),.raw (.int .u16 x.yJ),.raw (.int .u16 x.DV),.raw (.int .u16 x.Cg),.raw (.int .u16 x.Ia),.raw (.int .u16 x.Ib),.raw (.int .u16 x.Ic),.raw (.int .u16 x.DW),.raw (.int .i64 x.cls)]
def JT.rows(l:List JT):Nat->List D:=λi=>(l.getD i default).cells
@[go_sem] theorem JT.xA(l:List JT)(i):JT.rows l i=(l.getD i default).cells:=rfl
def JT.Ok(x:JT):Prop:=(Lit.int .u16 x.yI).wf=true/\(Lit.int .u16 x.yJ).wf=true/\(Lit.int .u16 x.DV).wf=true/\(Lit.int .u16 x.Cg).wf=true/\(Lit.int .u16 x.Ia).wf=true/\(Lit.int .u16 x.Ib).wf=true/\(Lit.int .u16 x.Ic).wf=true/\(Lit.int .u16 x.DW).wf=true/\(Lit.int .i64 x.cls).wf=true/\True
def Qrz:Rd prog 223 JT.Ok JT.cells:=
 Rd.map (Rd.struct (QO:=9) underlying223 τ (KG.cons (Rd.array underlying62 τ (YC.cons π (Rd.int .u16 underlying60) (YC.cons π (Rd.int .u16 underlying60) (YC.cons π (Rd.int .u16 underlying60) (YC.cons π (Rd.int .u16 underlying60) YC.nil))))) (KG.cons (Rd.array underlying62 τ (YC.cons π (Rd.int .u16 underlying60) (YC.cons π (Rd.int .u16 underlying60) (YC.cons π (Rd.int .u16 underlying60) (YC.cons π (Rd.int .u16 underlying60) YC.nil))))) (KG.cons (Rd.int .i64 underlying3) KG.nil rfl τ π) rfl τ π) rfl τ π)) (λp=>⟨p.1.1,p.1.2.1,p.1.2.2.1,p.1.2.2.2.1,p.2.1.1,p.2.1.2.1,p.2.1.2.2.1,p.2.1.2.2.2.1,p.2.2.1⟩) (λ_=>rfl) (λ_ h=>⟨h.1.1,h.1.2.1,h.1.2.2.1,h.1.2.2.2.1,h.2.1.1,h.2.1.2.1,h.2.1.2.2.1,h.2.1.2.2.2.1,h.2.2.1,trivial⟩)
structure ZV where
 kind:Int
 changes:(List JN)
 rules:(List JT)
 ZI:Pk
 Wi:Int
instance:Inhabited ZV:=⟨⟨0,[],[],default,0⟩⟩
@[go_sem] def ZV.cells(x:ZV):List D:=[.raw (.int .i64 x.kind),.imm 15 x.changes.length (JN.rows x.changes),.imm 9 x.rules.length (JT.rows x.rules),.raw (.int .u64 x.ZI.iD),.raw (.int .i64 x.ZI.len),.raw (.int .u16 x.ZI.wc),.raw (.int .u16 x.ZI.wg),.raw (.int .u16 x.ZI.wh),.raw (.int .u16 x.ZI.wi),.raw (.int .u64 x.Wi)]
def ZV.rows(l:List ZV):Nat->List D:=λi=>(l.getD i default).cells
@[go_sem] theorem ZV.xA(l:List ZV)(i):ZV.rows l i=(l.getD i default).cells:=rfl
def ZV.Ok(x:ZV):Prop:=(Lit.int .i64 x.kind).wf=true/\(x.changes.length<=maxLen/\∀a∈x.changes,JN.Ok a)/\(x.rules.length<=maxLen/\∀a∈x.rules,JT.Ok a)/\Pk.Ok x.ZI/\(Lit.int .u64 x.Wi).wf=true/\True
def QrA:Rd prog 75 ZV.Ok ZV.cells:=
 Rd.map (Rd.struct (QO:=10) underlying75 τ (KG.cons (Rd.int .i64 underlying3) (KG.cons (Rd.slice 15 underlying72 τ π Qry) (KG.cons (Rd.slice 9 underlying73 τ π Qrz) (KG.cons Qrw (KG.cons (Rd.int .u64 underlying45) KG.nil rfl τ π) rfl τ π) rfl τ π) rfl τ π) rfl τ π)) (λp=>⟨p.1,p.2.1,p.2.2.1,p.2.2.2.1,p.2.2.2.2.1⟩) (λ_=>rfl) (λ_ h=>⟨h.1,h.2.1,h.2.2.1,h.2.2.2.1,h.2.2.2.2.1,trivial⟩)
structure YD where
 config:Cf
 ops:(List ZV)
instance:Inhabited YD:=⟨⟨default,[]⟩⟩
@[go_sem] def YD.cells(x:YD):List D:=[.raw (.int .i64 x.config.t),.raw (.int .i64 x.config.ZX),.imm 10 x.ops.length (ZV.rows x.ops)]
def YD.rows(l:List YD):Nat->List D:=λi=>(l.getD i default).cells
@[go_sem] theorem YD.xA(l:List YD)(i):YD.rows l i=(l.getD i default).cells:=rfl
def YD.Ok(x:YD):Prop:=Cf.Ok x.config/\(x.ops.length<=maxLen/\∀a∈x.ops,ZV.Ok a)/\True
def QdW:Rd prog 26 YD.Ok YD.cells:=
 Rd.map (Rd.struct (QO:=3) underlying26 τ (KG.cons Qrv (KG.cons (Rd.slice 10 underlying24 τ π QrA) KG.nil rfl τ π) rfl τ π)) (λp=>⟨p.1,p.2.1⟩) (λ_=>rfl) (λ_ h=>⟨h.1,h.2.1,trivial⟩)
@[go_sem] def Qa(n:Int):D:=.raw (.int .i64 n)
@[go_sem] def QT(b:Bool):D:=.raw (.bool b)
@[go_sem] def ints(l:List Int):D:=.imm 1 l.length (nw .i64 l)
structure Ev where
 op:Int
 J8:Bool
 real:Bool
 at_:Int
 done:Int
 cls:Int
 id:Int
 len:Int
 h0:Int
 h1:Int
 h2:Int
 h3:Int
instance:Inhabited Ev:=⟨⟨0,false,false,0,0,0,0,0,0,0,0,0⟩⟩
@[go_sem] def Ev.cells(e:Ev):List D:=[.raw (.int .i64 e.op),.raw (.bool e.J8),.raw (.bool e.real),.raw (.int .u64 e.at_),.raw (.int .u64 e.done),.raw (.int .i64 e.cls),.raw (.int .u64 e.id),.raw (.int .i64 e.len),.raw (.int .u16 e.h0),.raw (.int .u16 e.h1),.raw (.int .u16 e.h2),.raw (.int .u16 e.h3)]
def Ev.Ok(x:Ev):Prop:=(Lit.int .i64 x.op).wf=true/\(Lit.int .u64 x.at_).wf=true/\(Lit.int .u64 x.done).wf=true/\(Lit.int .i64 x.cls).wf=true/\(Lit.int .u64 x.id).wf=true/\(Lit.int .i64 x.len).wf=true/\(Lit.int .u16 x.h0).wf=true/\(Lit.int .u16 x.h1).wf=true/\(Lit.int .u16 x.h2).wf=true/\(Lit.int .u16 x.h3).wf=true
def Ev.rows(l:List Ev):Nat->List D:=λi=>(l.getD i default).cells
@[go_sem] theorem Ev.xA(l:List Ev)(i):Ev.rows l i=(l.getD i default).cells:=rfl
@[go_sem] def evs(l:List Ev):D:=.imm 12 l.length (Ev.rows l)
def wrap64{n}(h1:-9223372036854775808<=n)(h2:n<=9223372036854775807):IntKind.i64.wrap n=n:=by
 rw[IntKind.wrap_i64];omega
def J9{k:Nat}(h:k<4611686018427387904):IntKind.i64.wrap ((k:Int)+1)=((k+1:Nat):Int):=by
 rw[wrap64 ω ω];rfl
def cP{n:Nat}(h:n≠0):((n:Int)==0)=false:=by simp[h]
def dp{n:Nat}(h:n≠0):decide ((0:Int)<n)=true:=ξ
def QN(d:D):D->List Ob->Prop:=λd' h=>d'=d/\h=[]
attribute [go_sem] QN
def QN.flat{d:D}(hd:d.flat=true):∀d' h,QN d d' h->d'.flat=true/\∀o∈h,o.flat:=by
 rintro d' h ⟨rfl,rfl⟩;exact⟨hd,σ⟩
def getD_take{α:Type}(l:List α)(d:α)(k)(h:k<l.length):l.take (k+1)=l.take k++[l.getD k d]:=by
 rw[Fo,QP h];simp[Q5,QP h]
def mixed:prog.follows .mixedOrders=true:=τ
def getD_map{α β:Type}(f:α->β)(l:List α)(d:α)(e:β)(i)(h:i<l.length):(l.map f).getD i e=f (l.getD i d):=by simp[Q5,h]
def qg{α:Type}(l:List α)(d:α)(i)(h:i<l.length):l.getD i d∈l:=by simp[Q5,h]
def wf_u64{n:Int}(h:(Lit.int .u64 n).wf=true):0<=n/\n<=18446744073709551615:=by
 simp only[Lit.wf,Zy,XL]at h;exact h
def wf_u16{n:Int}(h:(Lit.int .u16 n).wf=true):0<=n/\n<=65535:=by
 simp only[Lit.wf,Zy,XL]at h;exact h
def cQ{n}(h1:0<=n)(h2:n<=18446744073709551615):IntKind.u64.wrap n=n:=η
@[go_sem] theorem QDY:((0:Nat):Int)=0:=rfl
@[go_sem] theorem QDZ:((1:Nat):Int)=1:=rfl
@[go_sem] theorem QD0:((2:Nat):Int)=2:=rfl
@[go_sem] theorem QD1:((3:Nat):Int)=3:=rfl
@[go_sem] theorem QD2:((4:Nat):Int)=4:=rfl
@[go_sem] theorem QD3:((5:Nat):Int)=5:=rfl
@[go_sem] theorem QD4:((6:Nat):Int)=6:=rfl
@[go_sem] theorem QD5:((7:Nat):Int)=7:=rfl
@[go_sem] theorem QD6:((8:Nat):Int)=8:=rfl
@[go_sem] theorem QD7:((9:Nat):Int)=9:=rfl
@[go_sem] theorem QD8:((10:Nat):Int)=10:=rfl
def qN{a b:Int}(h:a=b):(a==b)=true:=by simp[h]
def Xl{a b:Int}(h:a≠b):(a==b)=false:=by simp[h]
def QrB{a b:Int}(h:a=b):(a != b)=false:=by simp[h]
def QnP{a b:Int}(h:a≠b):(a != b)=true:=by simp[h]
end Go.Fg.X
namespace Go.Fg
open Go.RowKit (Below)
def Ns(es:List Zt):Prop:=(es.map (·.b)).Pairwise (·<·)
def jB.QdZ{Z}{h}{pl}{w}{q}{c}{es}{QS}(E:jB Z h pl w q c es QS):Ns es:=by
 unfold Ns;rw[List.pairwise_iff_getElem];intro i j hi hj K7;simp only[J1]at hi hj;have hl:=E.len;obtain⟨_,_,h1,_⟩:=E.at_ i es[i] QS[i] (QP hi) (QP ω);obtain⟨_,_,h2,_⟩:=E.at_ j es[j] QS[j] (QP hj) (QP ω);have:=E.inc i j QS[i] QS[j] K7 (QP ω) (QP ω);simp only[List.getElem_map];omega
def Ns.nodup{es:List Zt}(B:Ns es):(es.map (·.b)).Nodup:=by
 unfold List.Nodup;exact List.Pairwise.imp (λh=>Nat.ne_of_lt h) B
def xB(es:List Zt)(seen:List Nat):Nat:=(es.filter λe=>!seen.contains e.b).length
def Qd0:∀{es:List Zt} {seen:List Nat} {e:Zt},e∈es->e.b ∉ seen->xB es (seen++[e.b])<xB es seen
 | [],_,_,h,_=>by simp at h
 | x::es,seen,e,h,hs=>by
  have le:∀es:List Zt,xB es (seen++[e.b])<=xB es seen:=λes=>by
   induction es with
   | nil=>exact QB _
   | cons y r ih=>
    simp only[xB,vI]at ih ⊢;by_cases h1:y.b∈seen<;>by_cases h2:y.b=e.b<;>simp_all<;>omega
  rcases QD.1 h with rfl|h
  .have:=le es;simp only[xB,vI]at this ⊢
   simp_all
   omega
  .have:=Qd0 h hs;simp only[xB,vI]at this ⊢;by_cases h1:x.b∈seen<;>by_cases h2:x.b=e.b<;>simp_all<;>omega
section
variable {P:Program}{L:Z8}{base nt:Nat}{w0:Start}{Q:Exit->St->Prop}
def QrE{Z:Nat->Prop}{s:St}{pl:List Pl}{a:Act}{w:World}(r:Rel Z base nt s pl a w){l c:Nat}{es:List Zt}{kd:Kd}{q:IntKind}(JE:kd.ty=1)(Zf:s.h[l]? = some (VT kd q c es)):Ns es:=by
 have hl:l<pl.length:=by rw[r.o.len];exact KD Zf
 cases hp:pl[l] with
 | none=>
  have:=r.o.VB l _ Zf (by rw[QP hl,hp]);simp[VT]at this
 | some bq=>
  obtain⟨b,p⟩:=bq;obtain⟨_,x⟩:=r.o.at_ l _ b p Zf (by rw[QP hl,hp]);obtain⟨_,QS,_,E⟩:=ag JE x;exact E.QdZ
def QrF{c0:Code}{k:List Item}{s:St}{l c:Nat}{es:List Zt}{kd:Kd}{q:IntKind}(JE:kd.ty=1)(Zf:s.h[l]? = some (VT kd q c es))(hk:Ns es->Qv P base nt w0 Q (.code c0::k) .normal s):Qv P base nt w0 Q (.code c0::k) .normal s:=by
 simp only[Qv]at hk ⊢;intro Z z pl a w r b;exact hk (QrE r JE Zf) Z z pl a w r b
def QrG{o:Oper}{s}{x}(ho:o.op=.entry x){li l c}{es}{seen}{q}{kd}{e}
  (hx:Qo s.fr x=.mref li 0) (Xh:s.h[li]? = some (XQ l c c (seen++[e.b]))) (JE:kd.ty=1) (Zf:s.h[l]? = some (VT kd q c es)) (he:e∈es):Wd P base nt o s (.tup [.raw (.int q e.k),e.v]):=by
 intro Z pl a w r;have e1:=r.eval x;rw[hx]at e1;obtain⟨o',p,b,h1,h2,h3,h4,h5⟩:=Ft e1;rw[Xh]at h1;cases h1;have h5:=h5 rfl;rw[h5]at h2;obtain⟨Zp,xn⟩:=r.o.at_ li _ b 0 Xh h2;obtain⟨_,m,sn,hb,AL,PT⟩:=QaE xn;have hv:a.eval x=.pointer (some ⟨b,0,none⟩):=h3.2;obtain⟨o2,p2,bm,k1,k2,k3,k4,k5⟩:=Ft PT;rw[Zf]at k1;cases k1;have k5:=k5 rfl;rw[k5]at k2;have k3:=k3.2;rw[show (VT kd q c es).kd.ty=1 from JE]at k3;have k3:m=bm:=by simpa[PB] using k3
 subst k3;obtain⟨PU,lM⟩:=r.o.at_ l _ m 0 Zf k2;obtain⟨_,QS,Mv,E⟩:=ag JE lM;have hl:es.length=QS.toList.length:=E.len;obtain⟨j,hj⟩:=Fk he;have Qb:=(WC.1 hj).1;obtain⟨d1,d2,d3,d4⟩:=E.at_ j e (QS.toList[j]'ω) hj (QP ω);have ZU:(QS.toList.map (·.born)).Nodup:=by
  have:QS.toList.map (·.born)=es.map (·.b):=by
   apply List.ext_getElem (by simp[hl]);intro i h1 h2;simp only[J1]at h1 h2;obtain⟨_,_,g,_⟩:=E.at_ i (es[i]'ω) (QS.toList[i]'ω) (QP ω) (QP ω);simp only[List.getElem_map,g]
  rw[this];exact E.QdZ.nodup
 have QrH:sn=(seen.toArray).push (QS.toList[j]'ω).born:=by
  apply Array.toList_inj.1;rw[AL,d3];simp
 have WN:=hb;rw[QrH]at WN;refine⟨.tuple #[(QS.toList[j]'ω).key,(QS.toList[j]'ω).val],?_,λw' ew=>?_⟩
 .rw[d1];exact .tup _ [.int q e.k,(QS.toList[j]'ω).val] rfl λi hi=>match i,hi with
   | 0,_=>.cl _ _ (.raw _)
   | 1,_=>d2
 .have Ze:=run_entry_at (P:=P) w' b m c seen.toArray QS c (QS.toList[j]'ω) (by rw[ew b (ju WN)];exact WN) (by rw[ew m (ju Mv)];exact Mv) (YU _) ZU;simp[execOp,ho,hv,Ze]
def QrI{k}{dst}{ty:TypeId}{pos}{after}{gd}{r}{s}{x}{li l c}{es}{seen}{q}{kd}{e}
  (hx:Qo s.fr x=.mref li 0) (Xh:s.h[li]? = some (XQ l c c (seen++[e.b]))) (JE:kd.ty=1) (Zf:s.h[l]? = some (VT kd q c es)) (he:e∈es) (ht:Zk nt dst=true)
  (h1:Qv P base nt w0 Q (.ops r::k) .normal ⟨Za s.fr dst (.tup [.raw (.int q e.k),e.v]),s.h⟩) :
  Qv P base nt w0 Q (.ops ((⟨dst,.entry x,ty,pos,after,gd⟩,none)::r)::k) .normal s:=by
 simp only[Qv]at h1 ⊢;exact lS (QrG rfl hx Xh JE Zf he) ht h1
end
def qk(off len:Nat)(zs:List D)(row:Nat->List D):Nat->List D:=λk=>bif Nat.ble off k&&Nat.blt k (off+len) then zs else row k
def dH{off len k}{zs}{row}(h:k<off):qk off len zs row k=row k:=by
 have:Nat.ble off k=false:=by rw[<- Ys,Nat.ble_eq];omega
 simp[qk,this]
section
variable {P:Program}{L:Z8}{base nt:Nat}{s:St}{o:Oper}
def Qsq(hL:Z5 P L){t e:TypeId}{x}{l g off len a b c}{z}{zt}{ob}(ho:o.op=.call ⟨.builtin .clear,#[x],#[t]⟩)(hx:Qo s.fr x=.ref l g off len)(Zf:s.h[l]? = some ob)
  (hk:ob.kd.Hl=false) (hg:ob.gen=g) (hs:ob.sz=1) (hro:ob.kd.ro=false) (hn:off+len<=ob.n) (ht:ty L t=some ⟨.slice e,a,b,zt⟩) {k:TK} (he:ty L e=some ⟨k,1,c,[z]⟩) (hz:yo z=true) :
  zO P base nt o s (s.h.set l ⟨ob.kd,ob.gen,ob.sz,ob.n,qk off len [J4 z] ob.row⟩) (.tup []):=by
 refine Hr.up ?_ (by simp[calm,ho]);intro Z pl ac w r KL;have hv:=r.eval x;rw[hx]at hv;obtain⟨o',p',ad,cap,oe,Zv,ZS,ZJ,jt,Kz⟩:=Dq hv;rw[Zf]at Zv;cases Zv;have hy:=hL _ _ ht;have Wv:=hL _ _ he;have hu:P.underlying t=some (.slice e):=xi hy rfl;obtain⟨zv,xj,Cm⟩:=Wv.zeroValue;have Dx:zv.cells=#[z]:=by apply Array.toList_inj.1;rw[xj]
 have FA:(Builtin.zeroCells zv.cells len).toList=List.replicate len z:=by
  rw[Dx];simp[Builtin.zeroCells];apply List.ext_getElem
  .simp
  .intro i h1 h2;simp[Nat.mod_one]
 have hrz:∀Z' h' Qi w',QC Z' h' Qi w' (J4 z) z:=λZ' h' Qi w'=>
  .cl _ _ (BU _ _ _)
 rcases Kz hg.symm with ⟨ql,Ny⟩|⟨bb,q,c0,el,Wb,haa,Zp,QEo,BW⟩
 .subst ql;have ZG:∀i,qk off 0 [J4 z] ob.row i=ob.row i:=λi=>by
   unfold qk;cases h1:Nat.ble off i&&Nat.blt i (off+0)
   .rfl
   .simp at h1;omega
  have Yv:s.h.set l ⟨ob.kd,ob.gen,ob.sz,ob.n,qk off 0 [J4 z] ob.row⟩=s.h:=by
   have e1:(⟨ob.kd,ob.gen,ob.sz,ob.n,qk off 0 [J4 z] ob.row⟩:Ob)=ob:=by rw[funext ZG]
   rw[e1];exact wY λi=>by
    by_cases h:l=i
    .subst h;rw[Wt (KD Zf),Zf]
    .rw[Jw h]
  rw[Yv];refine⟨.tuple #[],w,pl,.inl ?_,Tr.refl _ _ _,r.o,.tup [] [] rfl (λi hi=>absurd hi (WZ i)),Below.refl _ _⟩;subst Ny;cases ad<;>simp[execOp,ho,oe,resolve,invoke,Go.builtin,Builtin.clear_,run_underlying hu]
 .subst Wb;obtain⟨Q1,xx⟩:=r.o.at_ l ob bb q Zf ZS;obtain⟨c1,iz,hb,Hs,Kc,ZG⟩:=xx.cells ZJ;rw[hb]at Zp;cases Zp;have JE:∀c2:Nat->List D,(⟨ob.kd,ob.gen,ob.sz,ob.n,c2⟩:Ob).kd=ob.kd:=λ_=>rfl;obtain⟨w',c',g1,g2,g3,g4,g5,g6,g7,g8,g9⟩:=UQ (P:=P) bb el (List.replicate len z) 0 (q+off*ob.sz) w c0 hb (by simp;rw[hs]at Hs ⊢;omega) (λk hk=>by
   have Jf:k<len:=by simpa using hk
   have:QZ (List.replicate len z) k=z:=by simp[QZ,Q5,Jf]
   rw[this];exact hz)
  have T:Tr s.h pl w (s.h.set l ⟨ob.kd,ob.gen,ob.sz,ob.n,qk off len [J4 z] ob.row⟩) pl w':=Tr.QV r.o Zf ZS rfl rfl rfl (λk hk _=>g5 k hk) (λc2 el2 e2=>by rw[hb]at e2;cases e2;exact⟨c',g2,g3⟩);refine⟨.tuple #[],w',pl,.inl ?_,T,?_,.tup [] [] rfl (λi hi=>absurd hi (WZ i)),Mn (Q1 hro) g5 g6 g7 g8 g9⟩
  .subst haa;by_cases ql:len=0
   .subst ql;have e1:w'=w:=by
     have:(storeCells ⟨bb,q+off*ob.sz,none⟩ (List.replicate 0 z) 0).run P w=.ok () w:=by simp[storeCells]
     rw[g1]at this;cases this;rfl
    rw[e1];simp[execOp,ho,oe,resolve,invoke,Go.builtin,Builtin.clear_,run_underlying hu]
   .obtain⟨m,rfl⟩:∃m,len=m+1:=⟨len - 1,ω⟩;simp[execOp,ho,oe,resolve,invoke,Go.builtin,Builtin.clear_,run_underlying hu,Cm,FA,g1]
  .refine Zi.QV (hro:=rfl) r.o Zf ZS ZJ ZJ rfl rfl (λk hk _=>g5 k hk) hb g2 g3 (by rw[g3];exact Hs) (λk hk=>?_) (λk m hk hm=>?_)
   .show (qk off len [J4 z] ob.row k).length=ob.sz;unfold qk;cases Nat.ble off k&&Nat.blt k (off+len)
    .exact Kc k hk
    .simp[hs]
   .have Jf:k<ob.n:=hk;have YE:m<ob.sz:=hm;show ∃v,c'[q+(k*ob.sz+m)]? = some v/\QC Z _ pl w' (nth (qk off len [J4 z] ob.row k) m) v;rw[hs]at YE;have PU:m=0:=ω;subst PU;have dI:k*ob.sz+0=k:=by rw[hs];omega
    have Qst:q+off*ob.sz+0=q+off:=by rw[hs];omega
    rw[g4,dI,Qst];simp only[List.length_replicate];by_cases K9:off<=k/\k<off+len
    .rw[Qd ω];have e1:qk off len [J4 z] ob.row k=[J4 z]:=by simp[qk,Rj,QmL,K9.1,K9.2]
     rw[e1];exact⟨z,by rw[List.getElem?_replicate,Qd ω],hrz _ _ _ _⟩
    .rw[Qc ω];have e1:qk off len [J4 z] ob.row k=ob.row k:=by
      unfold qk;cases h:(Nat.ble off k&&Nat.blt k (off+len))
      .rfl
      .simp at h;omega
     rw[e1];obtain⟨v,Fy,We⟩:=ZG k 0 Jf ω;rw[dI]at Fy;exact⟨v,Fy,We.tr T⟩
end
section
variable {P:Program}{L:Z8}{base nt:Nat}{w0:Start}{Q:Exit->St->Prop}
def dJ(hL:Z5 P L)(hb:base<=w0.w.heap.size){k}{dst}{Ei:TypeId}{pos}{after}{gd}{r}{s}{t e:TypeId}{x}{l g off len a b c}{z}{zt}{ob}
  (hx:Qo s.fr x=.ref l g off len) (Zf:s.h[l]? = some ob)
  (hk:ob.kd.Hl=false) (hg:ob.gen=g) (hs:ob.sz=1) (hro:ob.kd.ro=false) (hn:off+len<=ob.n) (ht:ty L t=some ⟨.slice e,a,b,zt⟩) {tk:TK} (he:ty L e=some ⟨tk,1,c,[z]⟩) (hz:yo z=true) (hd:Zk nt dst=true)
  (h1:Qv P base nt w0 Q (.ops r::k) .normal ⟨Za s.fr dst (.tup []),s.h.set l ⟨ob.kd,ob.gen,ob.sz,ob.n,qk off len [J4 z] ob.row⟩⟩) :
  Qv P base nt w0 Q (.ops ((⟨dst,.call ⟨.builtin .clear,#[x],#[t]⟩,Ei,pos,after,gd⟩,none)::r)::k) .normal s:=by
 simp only[Qv]at h1 ⊢;exact aA hb (Qsq hL rfl hx Zf hk hg hs hro hn ht he hz) hd h1
end
def QH.cut{P}{f}{F}{args}{R R'}(hf:QH P f F args R)
  (hr:∀d h,R d h->∃l o n',h[l]? = some o/\o.kd.ty=0/\n'<=o.n/\R' d (h.set l ⟨o.kd,o.gen,o.sz,n',o.row⟩)):QH P f F args R':=by
 intro Z base w pl vs h1 h2 h3 hl hc;refine(hf Z base w pl vs h1 h2 h3 hl hc).mono λe w' he=>?_;obtain⟨v,d,h,Qi,rfl,hR,hO,hV,hT,hB⟩:=he;obtain⟨l,o,n',ho,hk,hn,hR'⟩:=hr _ _ hR;have hl:=KD ho;have key:∀(x:Nat) (u:Ob),h[x]? = some u->∃u',(h.set l ⟨o.kd,o.gen,o.sz,n',o.row⟩)[x]? = some u'/\u'.gen=u.gen/\u'.sz=u.sz/\u'.kd.ty=u.kd.ty:=λx u e=>by
  by_cases hx:l=x
  .subst hx;rw[ho]at e;cases e;exact⟨_,Wt hl,rfl,rfl,rfl⟩
  .exact⟨u,by rw[Jw hx];exact e,rfl,rfl,rfl⟩
 refine⟨v,d,_,Qi,rfl,hR',⟨by simp[hO.len],hO.inj,λx u e ep=>?_,λx u b q e ep=>?_⟩,hV.Cb key,⟨hT.J3,λx u p e ep=>?_,λx u u' b q e e' hg ep c el hc=>?_⟩,hB⟩
 .by_cases hx:l=x
  .subst hx;rw[Wt hl]at e;cases e;have:=hO.VB l o ho ep;show n'=0;omega
  .rw[Jw hx]at e;exact hO.VB x u e ep
 .by_cases hx:l=x
  .subst hx;rw[Wt hl]at e;cases e;obtain⟨g1,xx⟩:=hO.at_ l o b q ho ep;obtain⟨c,el,c1,c2,c3,c4⟩:=xx.cells hk;refine⟨g1,.Mh hk ⟨c,el,c1,?_,λi hi=>c3 i (kG hi hn),λi j hi hj=>?_⟩⟩
   .have:=X7 o.sz hn;show q+n'*o.sz<=c.size;omega
   .obtain⟨u,hu,hr⟩:=c4 i j (kG hi hn) hj;exact⟨u,hu,hr.Cb key⟩
  .rw[Jw hx]at e;obtain⟨g1,xx⟩:=hO.at_ x u b q e ep;exact⟨g1,xx.to rfl rfl rfl rfl (λ_ _=>rfl) λi j v _ _ hr=>hr.Cb key⟩
 .obtain⟨u',p',a1,a2,a3,a4,a5⟩:=hT.obj x u p e ep;obtain⟨u2,b1,b2,b3,b4⟩:=key x u' a1;exact⟨u2,p',b1,a2,ω,by rw[b4,a4],λhh=>by rw[b3];exact a5 ω⟩
 .obtain⟨u1,p',a1,a2,a3,a4,a5⟩:=hT.obj x u _ e ep;obtain⟨u2,b1,b2,b3,b4⟩:=key x u1 a1;rw[e']at b1;cases b1;exact hT.shape x u u1 b q e a1 ω ep c el hc
section
variable {P:Program}{L:Z8}{base nt:Nat}{s:St}{o:Oper}
def Qsv(hL:Z5 P L){t:TypeId}{x:Operand}(ho:o.op=.call ⟨.builtin .cap,#[x],#[t]⟩)(hx:Qo s.fr x=.nil){e a b:Nat}{zt:List Value}(ht:ty L t=some ⟨.slice e,a,b,zt⟩):Wd P base nt o s (.raw (.int .i64 0)):=by
 intro Z pl ac w r;have hr:=r.eval x;rw[hx]at hr;obtain⟨a0,hv⟩:=Dp hr;refine⟨_,.cl _ _ (.raw _),λw' _=>?_⟩;rw[jv ho];simp[builtin,hv,Builtin.cap_,run_underlying (xi (hL _ _ ht) rfl),goInt]
def Qsw{t ti e:TypeId}{ty0:TypeId}{y:Ty}{k kn:IntKind}(ht:P.underlying t=some (.slice e))(RS:P.underlying ti=some (.int kn))(hy:WD P e y)(hz:y.zero.length=y.size)(hs:0<y.size)(w:World)(b:Option Addr)(n:Nat)
  (h0:0<n) (jw:n<=4294967296) (zP:y.bytes<=1024) :
  ∃kJ rest,(Builtin.append_ #[t,ti] ty0 #[.slice b 0 0,.int k n]).run P w=.ok (.slice (some ⟨w.heap.size,0,none⟩) n kJ) (w.drew.alloc (.cells ((flat n y.size λ_ j=>QZ y.zero j).toArray++rest) e))/\n<=kJ/\rest.size=(kJ - n)*y.size:=by
 obtain⟨z,xj,Cm⟩:=hy.zeroValue;obtain⟨i,hi,WO,VH⟩:=hy.typeInfo w;have Z9:∀w,(typeInfo e).run P w=.ok i w:=λw=>by
  have h4:=hy.info;cases hx:P.info? e with
  | none=>rw[hx]at h4;cases h4
  | some k=>
   simp[typeInfo,hx]at hi ⊢;exact hi
 refine⟨grownCap w n 0 e,Builtin.zeroCells z.cells (grownCap w n 0 e - n),?_,grownCap_ge _ _ _ _,by rw[iT];congr 1;rw[<- hz,<- xj];simp⟩;have hn:¬ n=0:=ω;have hw:IntKind.i64.wrap (n:Int)=n:=by rw[IntKind.wrap_i64];omega
 have iU:¬ (9223372036854775807<(n:Int)):=ω;have hmul:n*y.bytes<=4294967296*1024:=qC jw zP;have iV:¬ (281474976710656<Builtin.nextslicecap n 0*i.bytes):=by rw[nextslicecap_zero h0,VH];omega
 have og:¬ (281474976710656<(n:Int)*(i.bytes:Int)):=by
  rw[<- Aq,VH];omega
 have RU:¬ ((n:Int)<0):=ω;have FJ:¬ (n*y.size=0):=Nat.mul_ne_zero hn ω;have Dw:z.cells.size=y.size:=by rw[<- hz,<- xj];simp
 have jW:(flat n y.size λ_ j=>QZ y.zero j).toArray=Builtin.zeroCells z.cells n:=by
  apply Array.ext
  .rw[iT,Dw];simp[qF]
  .intro j h1 h2;simp only[Fm,qF]at h1;obtain⟨d1,d2,d3⟩:=div_lt h1;have RV:y.zero=z.cells.toList:=xj.symm;have hj:j % y.size<z.cells.size:=by rw[Dw];exact d2
   simp[flat,Builtin.zeroCells,QZ,RV,Q5,Dw];rw[getElem!_pos z.cells _ hj,zJ hj];rfl
 rw[jW];cases b<;>simp[Builtin.append_,run_underlying ht,run_underlying RS,hy.sizeOf,Z9,Cm,asInt,asIntOf,hw,hn,RU,FJ,iU,iV,og,Question.forced,Builtin.firstCells,loadCells,loadCellsFrom,newRow,grownCap,askRoom,mark,Sem.run]
def Qsx(hL:Z5 P L){t ti e:TypeId}{x0 x:Operand}{n:Nat}{kn:IntKind}{a b c d:Nat}{zt zi:List Value}{y:Ty}{k:IntKind}(ho:o.op=.call ⟨.builtin .append,#[x0,x],#[t,ti]⟩)(Xg:Qo s.fr x0=.nil)(hx:Qo s.fr x=.raw (.int k n))
  (ht:ty L t=some ⟨.slice e,a,b,zt⟩) (RS:ty L ti=some ⟨.int kn,c,d,zi⟩) (Wv:ty L e=some y) (hz:y.zero.length=y.size) (hs:0<y.size) (h0:0<n) (jw:n<=4294967296) (zP:y.bytes<=1024) :
  zO P base nt o s (s.h++[⟨.arr,0,y.size,n,λ_=>y.zero.map J4⟩]) (.ref s.h.length 0 0 n):=by
 refine Hr.up ?_ (by simp[calm,ho]);intro Z pl ac w r KL;have WQ:=r.eval x0;have Dv:=r.eval x;rw[Xg]at WQ;rw[hx]at Dv;obtain⟨a0,Mq⟩:=Dp WQ;have hv:=Jn Dv;have hy:=hL _ _ Wv;have Zh:pl.length=s.h.length:=r.o.len;obtain⟨kJ,rest,Ze,FC,yq⟩:=Qsw (ty0:=o.type) (k:=k) (xi (hL _ _ ht) rfl) (BT (hL _ _ RS) rfl) hy hz hs w a0 n h0 jw zP;have e1:∀b,b<w.heap.size->(w.drew.alloc (.cells ((flat n y.size λ_ j=>QZ y.zero j).toArray++rest) e)).heap[b]? = w.heap[b]? := λb hb=>vP w.drew _ b hb;have JY:(w.drew.alloc (.cells ((flat n y.size λ_ j=>QZ y.zero j).toArray++rest) e)).heap[w.heap.size]? = some (.cells ((flat n y.size λ_ j=>QZ y.zero j).toArray++rest) e (0,0)):=heap_alloc_new w.drew _;have T:Tr s.h pl w (s.h++[⟨.arr,0,y.size,n,λ_=>y.zero.map J4⟩]) (pl++[some (w.heap.size,0)]) (w.drew.alloc (.cells ((flat n y.size λ_ j=>QZ y.zero j).toArray++rest) e)):=Tr.push r.o e1 _ _ (by intro b q h;simp at h;omega);refine⟨.slice (some ⟨w.heap.size,0,none⟩) n kJ,_,_,.inl ?_,T,Zi.push r.o e1 _ rfl (QB _) KL JY (by simp[qF]) (λi hi=>by simp[hz]) (λi j hi hj=>⟨QZ y.zero j,?_,?_⟩),.ref _ _ _ _ ⟨.arr,0,y.size,n,λ_=>y.zero.map J4⟩ (some (w.heap.size,0)) _ _ σ (by rw[<- Zh];simp) rfl (QB _) (λ_=>.inr ⟨w.heap.size,0,_,_,rfl,σ,JY,?_,FC⟩),((Below.refl base w).drew).alloc KL _⟩
 .rw[jv ho];have:(Array.map ac.eval #[x0,x])=#[.slice a0 0 0,.int k n]:=by simp[Mq,hv]
  rw[this];simp only[builtin,Sem.run_bind,Ze,Result.andThen_ok,Sem.run_pure]
 .have hg:=Fz (vs:=λ_ j=>QZ y.zero j) hi hj;have Qb:=(WC.1 hg).1;rw[JD,LS (by simpa using Qb)];simpa using hg
 .have V5:j<y.zero.length:=by rw[hz];exact hj
  have:nth (y.zero.map J4) j=J4 (QZ y.zero j):=by simp[nth,QZ,Q5,V5]
  show QC Z _ _ _ (nth (y.zero.map J4) j) _;rw[this];exact .cl _ _ (BU _ _ _)
 .simp only[JD,Array.size_append,Fm,qF,yq];rw[<- Vz];exact X7 _ ω
end
section
variable {P:Program}{L:Z8}{base nt:Nat}{w0:Start}{Q:Exit->St->Prop}
def oh(hL:Z5 P L){k:List Item}{dst:Option Nat}{Ei:TypeId}{pos:String}{after:Array Edge}{gd:Option (Nat × Bool)}{r:List (Oper × G)}{s:St}{t e a b:Nat}{x:Operand}{zt:List Value}
  (hx:Qo s.fr x=.nil) (ht:ty L t=some ⟨.slice e,a,b,zt⟩) (hd:Zk nt dst=true) (h1:Qv P base nt w0 Q (.ops r::k) .normal ⟨Za s.fr dst (.raw (.int .i64 0)),s.h⟩) :
  Qv P base nt w0 Q (.ops ((⟨dst,.call ⟨.builtin .cap,#[x],#[t]⟩,Ei,pos,after,gd⟩,none)::r)::k) .normal s:=by
 simp only[Qv]at h1 ⊢;exact lS (Qsv hL rfl hx ht) hd h1
def Qsy(hL:Z5 P L)(hb:base<=w0.w.heap.size){k:List Item}{dst:Option Nat}{Ei:TypeId}{pos:String}{after:Array Edge}{gd:Option (Nat × Bool)}{r:List (Oper × G)}{s:St}{t ti e:TypeId}{x0 x:Operand}{n:Nat}{kn:IntKind}{a b c d:Nat}{zt zi:List Value}{y:Ty}{ki:IntKind}
  (Xg:Qo s.fr x0=.nil) (hx:Qo s.fr x=.raw (.int ki n)) (ht:ty L t=some ⟨.slice e,a,b,zt⟩) (RS:ty L ti=some ⟨.int kn,c,d,zi⟩) (Wv:ty L e=some y) (hz:y.zero.length=y.size) (hs:0<y.size) (h0:0<n) (jw:n<=4294967296) (zP:y.bytes<=1024) (hd:Zk nt dst=true)
  (h1:Qv P base nt w0 Q (.ops r::k) .normal ⟨Za s.fr dst (.ref s.h.length 0 0 n),s.h++[⟨.arr,0,y.size,n,λ_=>y.zero.map J4⟩]⟩) :
  Qv P base nt w0 Q (.ops ((⟨dst,.call ⟨.builtin .append,#[x0,x],#[t,ti]⟩,Ei,pos,after,gd⟩,none)::r)::k) .normal s:=by
 simp only[Qv]at h1 ⊢;exact aA hb (Qsx hL rfl Xg hx ht RS Wv hz hs h0 jw zP) hd h1
end
section
variable {P:Program}{L:Z8}{base nt:Nat}{s:St}{o:Oper}
end
section
variable {P:Program}{L:Z8}{base nt:Nat}{w0:Start}{Q:Exit->St->Prop}
end
section
variable {Z:Nat->Prop}
end
def oq(F h:List Ob):Prop:=∀(l:Nat) (o:Ob),F[l]? = some o->∃o',h[l]? = some o'/\o'.gen=o.gen
section
variable {P:Program}{base nt:Nat}{w0:Start}
end
section
variable {P:Program}{base nt:Nat}{w0:Start}{Q:Exit->St->Prop}
end
section
variable {P:Program}{base nt:Nat}{w0:Start}{Q:Exit->St->Prop}
end
end Go.Fg
namespace Go.Fg
section
variable {P:Program}{base nt:Nat}{w0:Start}{Q:Exit->St->Prop}{k:List Item}{s:St}
def NF(P:Program)(base nt:Nat)(w0:Start)(Q:Exit->St->Prop)(k:List Item)(c:Code):Nat->Exit->St->Prop
 | 0,.normal,_=>False
 | n+1,.normal,s=>Qv P base nt w0 (NF P base nt w0 Q k c n) [.code c] .normal s
 | _,e,s=>Qv P base nt w0 Q k e s
@[go_sem] theorem QEq{c}{n}:NF P base nt w0 Q k c (n+1) .normal s=Qv P base nt w0 (NF P base nt w0 Q k c n) [.code c] .normal s:=KY rfl
@[go_sem] theorem QEr{c}{n j}:NF P base nt w0 Q k c n (.exit j) s=Qv P base nt w0 Q k (.exit j) s:=KY (by cases n<;>rfl)
@[go_sem] theorem QEs{c}{n}:NF P base nt w0 Q k c n .ret s=Qv P base nt w0 Q k .ret s:=KY (by cases n<;>rfl)
def wv(n){c}(h:Qv P base nt w0 (NF P base nt w0 Q k c n) [.code c] .normal s):Qv P base nt w0 Q (.code (.loop c)::k) .normal s:=by
 simp only[Qv];intro Z z pl a w r b;refine wp_loop_rounds (n+1) ?_;induction n generalizing s pl a w with
 | zero=>
  simp only[Qv]at h;rw[rounds_succ];refine Code.wp_mono (λe a w q=>?_) (h Z z pl a w r b);obtain⟨s',Qi,h1,h2,h3⟩:=q;cases e with
  | normal=>exact h1.elim
  | _=>exact⟨s',Qi,h1,h2,h3⟩
 | succ n ih=>
  simp only[Qv]at h;rw[rounds_succ];refine Code.wp_mono (λe a w q=>?_) (h Z z pl a w r b);obtain⟨s',Qi,h1,h2,h3⟩:=q;cases e with
  | normal=>exact ih h1 Qi a w h2 h3
  | _=>exact⟨s',Qi,h1,h2,h3⟩
end
end Go.Fg
namespace Go.Fg
section
variable {P:Program}{base nt:Nat}{w0:Start}
def xI(Q1:base<=w0.w.heap.size){K}{dst}{ty:TypeId}{after}{gd}{r}{s}{x}{args}{Zl:Array TypeId}{f}{nf}{Qs}(hf:Qm P f)
  (hx:Jq (Qo s.fr x)=some (f,nf,Qs)) {cs:List D} (he:KA (ZT nf Qs (args.toList.map (Qo s.fr))) cs) {R:D->List Ob->Prop} (hF:QH P f s.h cs R)
  (ht:Zk nt dst=true) (hk:∀d h,R d h->AX P base nt w0 K r ⟨Za s.fr dst d,h⟩) :
  AX P base nt w0 K ((false, ⟨dst, .call ⟨.value x, args, Zl⟩, ty, "!", after, gd⟩, none) :: r) s := by
 simp only[AX,W6,qK];intro Z z pl a w rr b;exact Oper.wp_mono (λa' w' ⟨d,h,Qi,hR,r',b',T,v,e⟩=>⟨λhc=>absurd hc (by simp[DG]),_,_,Qi,v,hk d h hR,r',b',T,e⟩) (QbT Q1 hf rfl hx (hF.args he) ht pl a w rr b _)
end
end Go.Fg
namespace Go.Fg.X
open Go.Proofs Go.Fg
open Go.Proofs.Tryz
@[go_sem] def o9:List Nat:=[0,1,2,3,4,5,6,7,8,9,1010,1011,12]
@[go_sem] def ol:List Nat:=[0,1,2,3,4,5,6,1007]
@[go_sem] def ot:List Nat:=[0,1,2,3,4,5,6,7,8,1009]
@[go_sem] def O1:List Nat:=[0,1,2,3,4,5,6,7,8,9,10,11,1012]
@[go_sem] def O3:List Nat:=[0,1,2,3,4,5,6,7,8,9,10]
@[go_sem] def ut:List Nat:=[0,1,2,3,4,5,1006]
@[go_sem] def uw:List Nat:=[0,1,2,3,4,5,6,7,1008]
@[go_sem] def ux:List Nat:=[0,1,2,3,4,5,6,7,8,9,10,11,12,1013,14,1015]
@[go_sem] def uy:List Nat:=[0,1,2,3,4,5,6,7,8,9,10,11,1012,13]
@[go_sem] def uz:List Nat:=[0,1,2,3,4,5,6,7,8,9,10,11,1012,13,14]
@[go_sem] def Ua:List Nat:=[0,1,1002,3,4]
@[go_sem] def Ub:List Nat:=[0,1,2,1003,4,5]
@[go_sem] def Uc:List Nat:=[0,1,2,3,4,5,6,7,8,1009,10,11,1012]
@[go_sem] def Ud:List Nat:=[0,1,2,3,4,5,6,7,8,9]
@[go_sem] def Ue:List Nat:=[0,1,2,3,4,5,6,7,8,9,10,11,12,13,14,1015,16,17]
@[go_sem] def Uh:List Nat:=[0,1,2,3,4,5,7,8,9,10,11,1006,1012,13,14,15,16,1017]
@[go_sem] def Uk:List Nat:=[0,1,2,3,4,5,8,9,10,11,12,1006,7,1013,14,15,16,1017]
@[go_sem] def Uo:List Nat:=[0,1,2,3,4,5,6,7,8,9,10,11,12,13]
@[go_sem] def Up:List Nat:=[0,1,2,3,4,5,6,7,8,9,10,11,12,14,15,1013,16,17]
@[go_sem] def Eq:List Nat:=[0,1,2,3,4,5,6,7,8,9,1010]
@[go_sem] def yh:List Nat:=[0,1,2,3,4,5,6,7,8,9,10,11,12,13,14,15,16,17,1018,19]
@[go_sem] def Y6:List Nat:=[0,1,2,3,4,5,6,7,8,9,10,11,12,13,14,1015,1016,17]
@[go_sem] def Y7:List Nat:=[0,1,2,3,4,5,6,7,8,9,10,11,12,13,14,1015,16,17,1018]
@[go_sem] def Y8:List Nat:=[0,1,2,3,4,5,6,7,1008,1009,10,11,12,1013,1014,15]
@[go_sem] def i4:List Nat:=[0,1,2,3,4,5,6,8,9,10,11,1007,1012,1013,14,15]
def ml:List Nat->List (Nat × Bool)
 | []=>[]
 | a::l=>(if a<1000 then (a,true) else (a - 1000,false))::ml l
@[go_sem] theorem QEt:ml []=[]:=rfl
@[go_sem] theorem QEu(a)(l):ml (a::l)=(if a<1000 then (a,true) else (a - 1000,false))::ml l:=rfl
section
variable {base nt:Nat}{w0:Start}{Q:Exit->St->Prop}{k:List Item}{s:St}{B:Prop}{K:St->Prop}{l:List (Bool × Oper × G)}
def JH(hb:base<=w0.w.heap.size)(h:B)(e:hx prog base w0 Q cx nt 200 k s=B:=by (simp only[go_sem,Qe];rfl)):Qv prog base nt w0 Q k .normal s:=Qg hb (e▸h)
def Bk(hb:base<=w0.w.heap.size)(e:hx prog base w0 Q cx nt 200 k s:=by simp only[go_sem,Qe]):Qv prog base nt w0 Q k .normal s:=Qg hb e
def Cs(hb:base<=w0.w.heap.size)(h:B)(e:KU prog base w0 cx nt K l s=B:=by (simp only[go_sem,Qe];rfl)):AX prog base nt w0 K l s:=ZH hb (e▸h)
def az1(hb:base<=w0.w.heap.size)(e:KU prog base w0 cx nt K l s:=by simp only[go_sem,Qe]):AX prog base nt w0 K l s:=ZH hb e
def Qn(hb:base<=w0.w.heap.size)(h:B)(e:hx prog base w0 Q cx nt 200 k s=B:=by (simp only[go_sem];rfl)):Qv prog base nt w0 Q k .normal s:=Qg hb (e▸h)
def qQ(hb:base<=w0.w.heap.size)(e:hx prog base w0 Q cx nt 200 k s:=by simp only[go_sem]):Qv prog base nt w0 Q k .normal s:=Qg hb e
def ZA(hb:base<=w0.w.heap.size)(h:B)(e:KU prog base w0 cx nt K l s=B:=by (simp only[go_sem];rfl)):AX prog base nt w0 K l s:=ZH hb (e▸h)
def Iq(hb:base<=w0.w.heap.size)(e:KU prog base w0 cx nt K l s:=by simp only[go_sem]):AX prog base nt w0 K l s:=ZH hb e
def QF{id}{ops}(hb:base<=w0.w.heap.size)(l)(h:KU prog base w0 cx nt (MO prog base w0 Q cx nt 200 k) (Go.Fg.K8 [] ops (ml l)) s)(hB:bg cx.L ops (ml l)=true:=by kernel_rfl)(hU:AY ops s.fr=true:=by kernel_rfl):Qv prog base nt w0 Q (.code (.region id ops true)::k) .normal s:=KF Q4 hb 200 mixed (ml l) hB hU h
def cH1{dst}{ty:TypeId}{pos}{after}{gd}{r}{x}{args:Array Operand}{Zl:Array TypeId}{f}{nf}{Qs}{cs}(hb:base<=w0.w.heap.size)(hf:Qm prog f){R}(hF:QH prog f s.h cs R)(hk:∀d h,R d h->Qv prog base nt w0 Q (.ops r::k) .normal ⟨Za s.fr dst d,h⟩)(hx:Jq (Qo s.fr x)=some (f,nf,Qs):=by rfl)(he:KA (ZT nf Qs (args.toList.map (Qo s.fr))) cs:=by simp only[go_sem,Qe])(ht:Zk nt dst=true:=by rfl):Qv prog base nt w0 Q (.ops ((⟨dst,.call ⟨.value x,args,Zl⟩,ty,pos,after,gd⟩,none)::r)::k) .normal s:=YB hb hf hx he hF ht hk
def cR1{dst}{ty:TypeId}{pos}{after}{gd}{r}{x}{args:Array Operand}{Zl:Array TypeId}{f}{nf}{Qs}{cs}(hb:base<=w0.w.heap.size)(hf:Qm prog f){R}(hF:Q6 prog f s.h cs R)(hk:∀d,R d->Qv prog base nt w0 Q (.ops r::k) .normal ⟨Za s.fr dst d,s.h⟩)(hx:Jq (Qo s.fr x)=some (f,nf,Qs):=by rfl)(he:KA (ZT nf Qs (args.toList.map (Qo s.fr))) cs:=by simp only[go_sem,Qe])(ht:Zk nt dst=true:=by rfl):Qv prog base nt w0 Q (.ops ((⟨dst,.call ⟨.value x,args,Zl⟩,ty,pos,after,gd⟩,none)::r)::k) .normal s:=Kw hb hf hx he hF ht hk
def cA1{dst}{ty:TypeId}{pos}{after}{gd}{r}{x}{args:Array Operand}{Zl:Array TypeId}{f}{nf}{Qs}{cs}(hb:base<=w0.w.heap.size)(hf:Qm prog f){R}(hF:QW prog f cs R)(hl:∀d h,R d h->d.flat=true/\∀o∈h,o.flat)(hk:∀d h,R d h->Qv prog base nt w0 Q (.ops r::k) .normal ⟨Za s.fr dst (d.shift s.h.length),s.h++h.map (Ob.shift s.h.length)⟩)(hx:Jq (Qo s.fr x)=some (f,nf,Qs):=by rfl)(he:match Yc (VU s.h 4) (ZT nf Qs (args.toList.map (Qo s.fr))) with|some (p,cs')=>p/\KA cs' cs|none=>False:=by simp only[go_sem,Qe])(ht:Zk nt dst=true:=by rfl):Qv prog base nt w0 Q (.ops ((⟨dst,.call ⟨.value x,args,Zl⟩,ty,pos,after,gd⟩,none)::r)::k) .normal s:=KE hb hf hx he hF hl ht hk
def xR1{dst}{ty:TypeId}{pos}{after}{gd}{r}{x}{args:Array Operand}{Zl:Array TypeId}{f}{nf}{Qs}{cs}(hb:base<=w0.w.heap.size)(hf:Qm prog f){R}(hF:Q6 prog f s.h cs R)(hk:∀d,R d->AX prog base nt w0 K r ⟨Za s.fr dst d,s.h⟩)(hx:Jq (Qo s.fr x)=some (f,nf,Qs):=by rfl)(he:KA (ZT nf Qs (args.toList.map (Qo s.fr))) cs:=by simp only[go_sem,Qe])(ht:Zk nt dst=true:=by rfl):AX prog base nt w0 K ((false,⟨dst,.call ⟨.value x,args,Zl⟩,ty,pos,after,gd⟩,none)::r) s:=Yh hb hf hx he hF ht hk
def xH1{dst}{ty : TypeId}{after}{gd}{r}{x}{args : Array Operand}{Zl : Array TypeId}{f}{nf}{Qs}{cs}(hb : base <= w0.w.heap.size)(hf : Qm prog f){R}(hF : QH prog f s.h cs R)(hk : ∀ d h, R d h -> AX prog base nt w0 K r ⟨Za s.fr dst d, h⟩)(hx : Jq (Qo s.fr x) = some (f, nf, Qs) := by rfl)(he : KA (ZT nf Qs (args.toList.map (Qo s.fr))) cs := by simp only[go_sem, Qe])(ht : Zk nt dst = true := by rfl): AX prog base nt w0 K ((false, ⟨dst, .call ⟨.value x, args, Zl⟩, ty, "!", after, gd⟩, none) :: r) s := xI hb hf hx he hF ht hk
def xA1{dst}{ty:TypeId}{pos}{after}{gd}{r}{x}{args:Array Operand}{Zl:Array TypeId}{f}{nf}{Qs}{cs}(hb:base<=w0.w.heap.size)(hf:Qm prog f){R}(hF:QW prog f cs R)(hl:∀d h,R d h->d.flat=true/\∀o∈h,o.flat)(hk:∀d h,R d h->AX prog base nt w0 K r ⟨Za s.fr dst (d.shift s.h.length),s.h++h.map (Ob.shift s.h.length)⟩)(hx:Jq (Qo s.fr x)=some (f,nf,Qs):=by rfl)(he:match Yc (VU s.h 4) (ZT nf Qs (args.toList.map (Qo s.fr))) with|some (p,cs')=>p/\KA cs' cs|none=>False:=by simp only[go_sem,Qe])(ht:Zk nt dst=true:=by rfl):AX prog base nt w0 K ((false,⟨dst,.call ⟨.value x,args,Zl⟩,ty,pos,after,gd⟩,none)::r) s:=DN hb hf hx he hF hl ht hk
def Zw{dst}{ty:TypeId}{pos}{after}{gd}{r}{x}{args:Array Operand}{Zl:Array TypeId}{f}{nf}{Qs}{cs}(hb:base<=w0.w.heap.size)(hf:Qm prog f){R}(hF:QH prog f s.h cs R)(hk:∀d h,R d h->Qv prog base nt w0 Q (.ops r::k) .normal ⟨Za s.fr dst d,h⟩)(hx:Jq (Qo s.fr x)=some (f,nf,Qs):=by rfl)(he:KA (ZT nf Qs (args.toList.map (Qo s.fr))) cs:=by simp only[go_sem])(ht:Zk nt dst=true:=by rfl):Qv prog base nt w0 Q (.ops ((⟨dst,.call ⟨.value x,args,Zl⟩,ty,pos,after,gd⟩,none)::r)::k) .normal s:=YB hb hf hx he hF ht hk
def oz{dst}{ty:TypeId}{pos}{after}{gd}{r}{x}{args:Array Operand}{Zl:Array TypeId}{f}{nf}{Qs}{cs}(hb:base<=w0.w.heap.size)(hf:Qm prog f){R}(hF:Q6 prog f s.h cs R)(hk:∀d,R d->Qv prog base nt w0 Q (.ops r::k) .normal ⟨Za s.fr dst d,s.h⟩)(hx:Jq (Qo s.fr x)=some (f,nf,Qs):=by rfl)(he:KA (ZT nf Qs (args.toList.map (Qo s.fr))) cs:=by simp only[go_sem])(ht:Zk nt dst=true:=by rfl):Qv prog base nt w0 Q (.ops ((⟨dst,.call ⟨.value x,args,Zl⟩,ty,pos,after,gd⟩,none)::r)::k) .normal s:=Kw hb hf hx he hF ht hk
def cA2{dst}{ty:TypeId}{pos}{after}{gd}{r}{x}{args:Array Operand}{Zl:Array TypeId}{f}{nf}{Qs}{cs}(hb:base<=w0.w.heap.size)(hf:Qm prog f){R}(hF:QW prog f cs R)(hl:∀d h,R d h->d.flat=true/\∀o∈h,o.flat)(hk:∀d h,R d h->Qv prog base nt w0 Q (.ops r::k) .normal ⟨Za s.fr dst (d.shift s.h.length),s.h++h.map (Ob.shift s.h.length)⟩)(hx:Jq (Qo s.fr x)=some (f,nf,Qs):=by rfl)(he:match Yc (VU s.h 4) (ZT nf Qs (args.toList.map (Qo s.fr))) with|some (p,cs')=>p/\KA cs' cs|none=>False:=by simp only[go_sem])(ht:Zk nt dst=true:=by rfl):Qv prog base nt w0 Q (.ops ((⟨dst,.call ⟨.value x,args,Zl⟩,ty,pos,after,gd⟩,none)::r)::k) .normal s:=KE hb hf hx he hF hl ht hk
def xR2{dst}{ty:TypeId}{pos}{after}{gd}{r}{x}{args:Array Operand}{Zl:Array TypeId}{f}{nf}{Qs}{cs}(hb:base<=w0.w.heap.size)(hf:Qm prog f){R}(hF:Q6 prog f s.h cs R)(hk:∀d,R d->AX prog base nt w0 K r ⟨Za s.fr dst d,s.h⟩)(hx:Jq (Qo s.fr x)=some (f,nf,Qs):=by rfl)(he:KA (ZT nf Qs (args.toList.map (Qo s.fr))) cs:=by simp only[go_sem])(ht:Zk nt dst=true:=by rfl):AX prog base nt w0 K ((false,⟨dst,.call ⟨.value x,args,Zl⟩,ty,pos,after,gd⟩,none)::r) s:=Yh hb hf hx he hF ht hk
def jZ{dst}{ty : TypeId}{after}{gd}{r}{x}{args : Array Operand}{Zl : Array TypeId}{f}{nf}{Qs}{cs}(hb : base <= w0.w.heap.size)(hf : Qm prog f){R}(hF : QH prog f s.h cs R)(hk : ∀ d h, R d h -> AX prog base nt w0 K r ⟨Za s.fr dst d, h⟩)(hx : Jq (Qo s.fr x) = some (f, nf, Qs) := by rfl)(he : KA (ZT nf Qs (args.toList.map (Qo s.fr))) cs := by simp only[go_sem])(ht : Zk nt dst = true := by rfl): AX prog base nt w0 K ((false, ⟨dst, .call ⟨.value x, args, Zl⟩, ty, "!", after, gd⟩, none) :: r) s := xI hb hf hx he hF ht hk
def xA2{dst}{ty:TypeId}{pos}{after}{gd}{r}{x}{args:Array Operand}{Zl:Array TypeId}{f}{nf}{Qs}{cs}(hb:base<=w0.w.heap.size)(hf:Qm prog f){R}(hF:QW prog f cs R)(hl:∀d h,R d h->d.flat=true/\∀o∈h,o.flat)(hk:∀d h,R d h->AX prog base nt w0 K r ⟨Za s.fr dst (d.shift s.h.length),s.h++h.map (Ob.shift s.h.length)⟩)(hx:Jq (Qo s.fr x)=some (f,nf,Qs):=by rfl)(he:match Yc (VU s.h 4) (ZT nf Qs (args.toList.map (Qo s.fr))) with|some (p,cs')=>p/\KA cs' cs|none=>False:=by simp only[go_sem])(ht:Zk nt dst=true:=by rfl):AX prog base nt w0 K ((false,⟨dst,.call ⟨.value x,args,Zl⟩,ty,pos,after,gd⟩,none)::r) s:=DN hb hf hx he hF hl ht hk
def cC1{dst}{ty:TypeId}{pos}{after}{gd}{r}{x}{args:Array Operand}{Zl:Array TypeId}{f}{nf}{Qs}{cs}(hb:base<=w0.w.heap.size)(hf:Qm prog f){v:D}(hF:QW prog f cs (QN v))(hk:Qv prog base nt w0 Q (.ops r::k) .normal ⟨Za s.fr dst (v.shift s.h.length),s.h++([]:List Ob).map (Ob.shift s.h.length)⟩)(hx:Jq (Qo s.fr x)=some (f,nf,Qs):=by rfl)(he:match Yc (VU s.h 4) (ZT nf Qs (args.toList.map (Qo s.fr))) with|some (p,cs')=>p/\KA cs' cs|none=>False:=by simp only[go_sem,Qe])(ht:Zk nt dst=true:=by rfl)(hl:v.flat=true:=by rfl):Qv prog base nt w0 Q (.ops ((⟨dst,.call ⟨.value x,args,Zl⟩,ty,pos,after,gd⟩,none)::r)::k) .normal s:=KE hb hf hx he hF (QN.flat hl) ht λd h hR=>by obtain⟨rfl,rfl⟩:=hR;exact hk
def Gp{dst}{ty:TypeId}{pos}{after}{gd}{r}{x}{args:Array Operand}{Zl:Array TypeId}{f}{nf}{Qs}{cs}(hb:base<=w0.w.heap.size)(hf:Qm prog f){v}(hF:Q6 prog f s.h cs (λd=>d=v))(hk:Qv prog base nt w0 Q (.ops r::k) .normal ⟨Za s.fr dst v,s.h⟩)(hx:Jq (Qo s.fr x)=some (f,nf,Qs):=by rfl)(he:KA (ZT nf Qs (args.toList.map (Qo s.fr))) cs:=by simp only[go_sem,Qe])(ht:Zk nt dst=true:=by rfl):Qv prog base nt w0 Q (.ops ((⟨dst,.call ⟨.value x,args,Zl⟩,ty,pos,after,gd⟩,none)::r)::k) .normal s:=Kw hb hf hx he hF ht λd hR=>by subst hR;exact hk
def xC1{dst}{ty:TypeId}{pos}{after}{gd}{r}{x}{args:Array Operand}{Zl:Array TypeId}{f}{nf}{Qs}{cs}(hb:base<=w0.w.heap.size)(hf:Qm prog f){v:D}(hF:QW prog f cs (QN v))(hk:AX prog base nt w0 K r ⟨Za s.fr dst (v.shift s.h.length),s.h++([]:List Ob).map (Ob.shift s.h.length)⟩)(hx:Jq (Qo s.fr x)=some (f,nf,Qs):=by rfl)(he:match Yc (VU s.h 4) (ZT nf Qs (args.toList.map (Qo s.fr))) with|some (p,cs')=>p/\KA cs' cs|none=>False:=by simp only[go_sem,Qe])(ht:Zk nt dst=true:=by rfl)(hl:v.flat=true:=by rfl):AX prog base nt w0 K ((false,⟨dst,.call ⟨.value x,args,Zl⟩,ty,pos,after,gd⟩,none)::r) s:=DN hb hf hx he hF (QN.flat hl) ht λd h hR=>by obtain⟨rfl,rfl⟩:=hR;exact hk
def xS1{dst}{ty:TypeId}{pos}{after}{gd}{r}{x}{args:Array Operand}{Zl:Array TypeId}{f}{nf}{Qs}{cs}(hb:base<=w0.w.heap.size)(hf:Qm prog f){v}(hF:Q6 prog f s.h cs (λd=>d=v))(hk:AX prog base nt w0 K r ⟨Za s.fr dst v,s.h⟩)(hx:Jq (Qo s.fr x)=some (f,nf,Qs):=by rfl)(he:KA (ZT nf Qs (args.toList.map (Qo s.fr))) cs:=by simp only[go_sem,Qe])(ht:Zk nt dst=true:=by rfl):AX prog base nt w0 K ((false,⟨dst,.call ⟨.value x,args,Zl⟩,ty,pos,after,gd⟩,none)::r) s:=Yh hb hf hx he hF ht λd hR=>by subst hR;exact hk
def ZK{dst}{ty:TypeId}{pos}{after}{gd}{r}{x}{args:Array Operand}{Zl:Array TypeId}{f}{nf}{Qs}{cs}(hb:base<=w0.w.heap.size)(hf:Qm prog f){v:D}(hF:QW prog f cs (QN v))(hk:Qv prog base nt w0 Q (.ops r::k) .normal ⟨Za s.fr dst (v.shift s.h.length),s.h++([]:List Ob).map (Ob.shift s.h.length)⟩)(hx:Jq (Qo s.fr x)=some (f,nf,Qs):=by rfl)(he:match Yc (VU s.h 4) (ZT nf Qs (args.toList.map (Qo s.fr))) with|some (p,cs')=>p/\KA cs' cs|none=>False:=by simp only[go_sem])(ht:Zk nt dst=true:=by rfl)(hl:v.flat=true:=by rfl):Qv prog base nt w0 Q (.ops ((⟨dst,.call ⟨.value x,args,Zl⟩,ty,pos,after,gd⟩,none)::r)::k) .normal s:=KE hb hf hx he hF (QN.flat hl) ht λd h hR=>by obtain⟨rfl,rfl⟩:=hR;exact hk
def ZQ{dst}{ty:TypeId}{pos}{after}{gd}{r}{x}{args:Array Operand}{Zl:Array TypeId}{f}{nf}{Qs}{cs}(hb:base<=w0.w.heap.size)(hf:Qm prog f){v}(hF:Q6 prog f s.h cs (λd=>d=v))(hk:Qv prog base nt w0 Q (.ops r::k) .normal ⟨Za s.fr dst v,s.h⟩)(hx:Jq (Qo s.fr x)=some (f,nf,Qs):=by rfl)(he:KA (ZT nf Qs (args.toList.map (Qo s.fr))) cs:=by simp only[go_sem])(ht:Zk nt dst=true:=by rfl):Qv prog base nt w0 Q (.ops ((⟨dst,.call ⟨.value x,args,Zl⟩,ty,pos,after,gd⟩,none)::r)::k) .normal s:=Kw hb hf hx he hF ht λd hR=>by subst hR;exact hk
def Jb{dst}{ty:TypeId}{pos}{after}{gd}{r}{x}{args:Array Operand}{Zl:Array TypeId}{f}{nf}{Qs}{cs}(hb:base<=w0.w.heap.size)(hf:Qm prog f){v:D}(hF:QW prog f cs (QN v))(hk:AX prog base nt w0 K r ⟨Za s.fr dst (v.shift s.h.length),s.h++([]:List Ob).map (Ob.shift s.h.length)⟩)(hx:Jq (Qo s.fr x)=some (f,nf,Qs):=by rfl)(he:match Yc (VU s.h 4) (ZT nf Qs (args.toList.map (Qo s.fr))) with|some (p,cs')=>p/\KA cs' cs|none=>False:=by simp only[go_sem])(ht:Zk nt dst=true:=by rfl)(hl:v.flat=true:=by rfl):AX prog base nt w0 K ((false,⟨dst,.call ⟨.value x,args,Zl⟩,ty,pos,after,gd⟩,none)::r) s:=DN hb hf hx he hF (QN.flat hl) ht λd h hR=>by obtain⟨rfl,rfl⟩:=hR;exact hk
def Wz{dst}{ty:TypeId}{pos}{after}{gd}{r}{x}{args:Array Operand}{Zl:Array TypeId}{f}{nf}{Qs}{cs}(hb:base<=w0.w.heap.size)(hf:Qm prog f){v}(hF:Q6 prog f s.h cs (λd=>d=v))(hk:AX prog base nt w0 K r ⟨Za s.fr dst v,s.h⟩)(hx:Jq (Qo s.fr x)=some (f,nf,Qs):=by rfl)(he:KA (ZT nf Qs (args.toList.map (Qo s.fr))) cs:=by simp only[go_sem])(ht:Zk nt dst=true:=by rfl):AX prog base nt w0 K ((false,⟨dst,.call ⟨.value x,args,Zl⟩,ty,pos,after,gd⟩,none)::r) s:=Yh hb hf hx he hF ht λd hR=>by subst hR;exact hk
def cT{dst}{ty:TypeId}{pos}{after}{gd}{r}{x}{args:Array Operand}{Zl:Array TypeId}{f}{nf}{Qs}{cs}(hb:base<=w0.w.heap.size)(hf:Qm prog f)(he:match Yc (VU s.h 4) (ZT nf Qs (args.toList.map (Qo s.fr))) with|some (p,cs')=>p/\KA cs' cs|none=>False){v:D}(hF:QW prog f cs (QN v))(hk:Qv prog base nt w0 Q (.ops r::k) .normal ⟨Za s.fr dst (v.shift s.h.length),s.h++([]:List Ob).map (Ob.shift s.h.length)⟩)(hx:Jq (Qo s.fr x)=some (f,nf,Qs):=by rfl)(ht:Zk nt dst=true:=by rfl)(hl:v.flat=true:=by rfl):Qv prog base nt w0 Q (.ops ((⟨dst,.call ⟨.value x,args,Zl⟩,ty,pos,after,gd⟩,none)::r)::k) .normal s:=KE hb hf hx he hF (QN.flat hl) ht λd h hR=>by obtain⟨rfl,rfl⟩:=hR;exact hk
def QaX{dst}{ty:TypeId}{pos}{after}{gd}{r}{x}{args:Array Operand}{Zl:Array TypeId}{f}{nf}{Qs}{cs}(hb:base<=w0.w.heap.size)(hf:Qm prog f)(he:KA (ZT nf Qs (args.toList.map (Qo s.fr))) cs){v}(hF:Q6 prog f s.h cs (λd=>d=v))(hk:Qv prog base nt w0 Q (.ops r::k) .normal ⟨Za s.fr dst v,s.h⟩)(hx:Jq (Qo s.fr x)=some (f,nf,Qs):=by rfl)(ht:Zk nt dst=true:=by rfl):Qv prog base nt w0 Q (.ops ((⟨dst,.call ⟨.value x,args,Zl⟩,ty,pos,after,gd⟩,none)::r)::k) .normal s:=Kw hb hf hx he hF ht λd hR=>by subst hR;exact hk
def Qad{dst}{ty:TypeId}{pos}{after}{gd}{r}{x}{args:Array Operand}{Zl:Array TypeId}{f}{nf}{Qs}{cs}(hb:base<=w0.w.heap.size)(hf:Qm prog f)(he:match Yc (VU s.h 4) (ZT nf Qs (args.toList.map (Qo s.fr))) with|some (p,cs')=>p/\KA cs' cs|none=>False){v:D}(hF:QW prog f cs (QN v))(hk:AX prog base nt w0 K r ⟨Za s.fr dst (v.shift s.h.length),s.h++([]:List Ob).map (Ob.shift s.h.length)⟩)(hx:Jq (Qo s.fr x)=some (f,nf,Qs):=by rfl)(ht:Zk nt dst=true:=by rfl)(hl:v.flat=true:=by rfl):AX prog base nt w0 K ((false,⟨dst,.call ⟨.value x,args,Zl⟩,ty,pos,after,gd⟩,none)::r) s:=DN hb hf hx he hF (QN.flat hl) ht λd h hR=>by obtain⟨rfl,rfl⟩:=hR;exact hk
def Qbl{dst}{ty:TypeId}{pos}{after}{gd}{r}{x}{args:Array Operand}{Zl:Array TypeId}{f}{nf}{Qs}{cs}(hb:base<=w0.w.heap.size)(hf:Qm prog f)(he:KA (ZT nf Qs (args.toList.map (Qo s.fr))) cs){v}(hF:Q6 prog f s.h cs (λd=>d=v))(hk:AX prog base nt w0 K r ⟨Za s.fr dst v,s.h⟩)(hx:Jq (Qo s.fr x)=some (f,nf,Qs):=by rfl)(ht:Zk nt dst=true:=by rfl):AX prog base nt w0 K ((false,⟨dst,.call ⟨.value x,args,Zl⟩,ty,pos,after,gd⟩,none)::r) s:=Yh hb hf hx he hF ht λd hR=>by subst hR;exact hk
def Vk(nc){id}{ops}(hb:base<=w0.w.heap.size)(l:List Nat)(R:List Nat)(h:KU prog base w0 cx nt (DO prog base w0 cx nt (MO prog base w0 Q cx nt 200 k) R.length (Go.Fg.zT nc ops R) ((ml l).map (·.1))) (Go.Fg.K8 nc ops (ml l)) s)(hB:B9 nc cx.L ops (ml l) R=true:=by kernel_rfl)(hU:AY ops s.fr=true:=by kernel_rfl):Qv prog base nt w0 Q (.code (.region id ops true)::k) .normal s:=QbD nc Q4 hb 200 mixed (ml l) R hB hU h
end
def xT(k){R}{f}{fn:Func}{c}{args:List D}{nt}{rs:Array ResultVar}(hf:prog.funcs[f]? = some fn)(qb:fn.ntmps=nt)(XR:fn.results=rs)(h:∀(base:Nat) (w:World),base<=w.heap.size->hx prog base ⟨w,[],[]⟩ (AO cx.L rs.toList (Kept k R)) cx nt 200 [.code c] ⟨jG args 0,[]⟩)(hc:fn.body=some c:=by rfl)(hn:Nat.ble args.length nt=true:=by rfl):QW prog f args R:=QyO k Q4 200 hf hc qb XR hn h
def QQ{R}{F}{f}{fn:Func}{c}{args:List D}{nt}{rs:Array ResultVar}(hf:prog.funcs[f]? = some fn)(qb:fn.ntmps=nt)(XR:fn.results=rs)(h:∀(base:Nat) (w:World) (pl:List Pl),base<=w.heap.size->hx prog base ⟨w,F,pl⟩ (AO cx.L rs.toList R) cx nt 200 [.code c] ⟨jG args 0,F⟩)(hc:fn.body=some c:=by rfl)(hn:Nat.ble args.length nt=true:=by rfl):QH prog f F args R:=kV Q4 200 hf hc qb XR hn h
def xD{R}{H:List Ob}{f}{fn:Func}{c}{args:List D}{nt}{rs:Array ResultVar}(hf:prog.funcs[f]? = some fn)(qb:fn.ntmps=nt)(XR:fn.results=rs)(h:∀(base:Nat) (w:World) (pl:List Pl) (F:List Ob),F=H.map Ob.ro->F.length=H.length->base<=w.heap.size->hx prog base ⟨w,F,pl⟩ (AO cx.L rs.toList λd h'=>∃g,h'=F++g/\d.upto F.length=true/\R d) cx nt 200 [.code c] ⟨jG args 0,F⟩)(hc:fn.body=some c:=by rfl)(hn:Nat.ble args.length nt=true:=by rfl):Q6 prog f H args R:=qd Q4 200 hf hc qb XR hn h
def cD{p}(h:p:=by first|exact⟨_,rfl,rfl⟩|exact⟨_,rfl⟩|rfl|exact⟨[],(JI _).symm⟩|exact⟨[],(JI _).symm,rfl⟩):p:=h
def Zu{e n}(h:-9223372036854775808<=e/\e<=9223372036854775807/\e=n:=by omega):IntKind.i64.wrap e=n:=by rw[wrap64 h.1 h.2.1];exact h.2.2
def QM{w0}{fr g}{h}(e:FQ fr g:=by simp only[go_sem]):Qz w0 ⟨fr,h⟩ ⟨g,h⟩:=Qz.frame e
end Go.Fg.X
namespace Go.Fg
def QrC{P}{o:Oper}{a}{w}{K K'}{Q Q'}(hk:∀a w,K a w->K' a w)(hq:∀e a w,Q e a w->Q' e a w)(h:o.wp P a w K Q):o.wp P a w K' Q':=by
 unfold Oper.wp at *;generalize (execOp a.eval o).run P w=r at *;cases r with
 | ok x w'=>
  cases x<;>simp only[Oper.upon]at h ⊢<;>first|exact hk _ _ h|exact h|skip
  .exact h.mono λe Hn he=>by
    cases e with
    | returned v=>exact hk _ _ he
    | panicked c=>exact hq _ _ _ he
    | outgrown=>obtain⟨a,w,h⟩:=he;exact⟨a,w,hq _ _ _ h⟩
  .exact h.mono λv Hn he=>hk _ _ he
 | halt x w'=>cases x<;>first|exact h|exact hq _ _ _ h
def cR{P}{Q Q'}(hq:∀e a w,Q e a w->Q' e a w):∀(l:List (Oper × G)) (a:Act) (w:World),Yx P Q l a w->Yx P Q' l a w
 | [],a,w,h=>hq _ _ _ h
 | (o,g)::r,a,w,h=>by
  simp only[Yx]at h ⊢;split at h
  .rename_i hw;rw[Qd hw];exact QrC (λa w=>cR hq r a w) hq h
  .rename_i hw;rw[Qc hw];exact cR hq r _ _ h
section
variable {P:Program}{base nt:Nat}{w0:Start}{Q:Exit->St->Prop}{k:List Item}{s s1:St}
def RE(P:Program)(base nt:Nat)(w0:Start)(Q:Exit->St->Prop)(k:List Item)(s1:St):Exit->St->Prop
 | .normal,s=>Qz w0 s s1
 | e,s=>Qv P base nt w0 Q k e s
@[go_sem] theorem QD9:RE P base nt w0 Q k s1 .normal s=Qz w0 s s1:=KY rfl
@[go_sem] theorem QEa{j}:RE P base nt w0 Q k s1 (.exit j) s=Qv P base nt w0 Q k (.exit j) s:=KY rfl
@[go_sem] theorem QEb:RE P base nt w0 Q k s1 .ret s=Qv P base nt w0 Q k .ret s:=KY rfl
def nD{x}{c}(s1)(h1:Qv P base nt w0 (RE P base nt w0 Q (.code c::k) s1) [x] .normal s)(h2:Qv P base nt w0 Q (.code c::k) .normal s1):Qv P base nt w0 Q (x::.code c::k) .normal s:=by
 cases x with
 | code x=>
  simp only[Qv]at h1;show A P base nt w0 x _ s;refine h1.mono λe s' he=>?_;cases e with
  | normal=>exact DF he h2
  | _=>exact he
 | ops l=>
  simp only[Qv]at h1;show AG P base nt w0 l _ s;intro Z z pl a w r b;refine cR (λe a' w' ⟨s',Qi,hs,r',b'⟩=>⟨s',Qi,?_,r',b'⟩) _ _ _ (h1 Z z pl a w r b);cases e with
  | normal=>exact DF hs h2
  | _=>exact hs
 | inBlock id=>simp only[Qv]at h1 ⊢;exact DF h1 h2
 | inScope=>simp only[Qv]at h1 ⊢;exact DF h1 h2
def Bb{x}{c}(keep)(V){fr}{h}{rest}(hr:bB fr keep=rest)
  (h1:Qv P base nt w0 (RE P base nt w0 Q (.code c::k) ⟨V++rest,h⟩) [x] .normal ⟨fr,h⟩) (h2:Qv P base nt w0 Q (.code c::k) .normal ⟨V++rest,h⟩):Qv P base nt w0 Q (x::.code c::k) .normal ⟨fr,h⟩:=nD _ h1 h2
@[go_sem] theorem QEc{X}:hx P base w0 Q X nt 0 k s=Qv P base nt w0 Q k .normal s:=by cases k<;>exact KY rfl
end
end Go.Fg
namespace Go.Fg.X
open Go.Proofs Go.Fg
open Go.Proofs.Tryz
@[go_sem] def nF(c:Cv):D:=.agg c.cells
@[go_sem] def Xm(c:Qq):D:=.agg c.cells
def QR(c:Cv):Int:=if c.m1=0/\c.d=0/\c.m2=0 then 1 else if 4294967295<c.m1\/4294967295<c.m2\/1048576<c.d then 0 else if c.d=0/\c.m1=c.m2 then 2 else if 0<c.d/\c.m2<c.m1 then 3 else if 0<c.d/\c.m1=0/\0<c.m2 then 4 else 0
def cS(c):QW prog 116 [nF c] (QN (Qa (QR c))):=by
 refine xT 0 func116 ntmps116 results116 λbase w hb=>?_;simp only[go_sem]
 repeat' (first|((first|refine QfZ (λh=>?_) (λh=>?_)|refine Qf0 (λh=>?_) (λh=>?_)|refine QgF (λh=>?_) (λh=>?_)|refine YA (λh=>?_) (λh=>?_)|refine QgM (λh=>?_) (λh=>?_)|refine Qhb (λh=>?_) (λh=>?_)|refine F5 (λh=>?_) (λh=>?_)|refine FW (λh=>?_) (λh=>?_))<;>(try simp only[go_sem]))|(refine And.intro ω ?_;try simp only[go_sem]))
 all_goals (congr 2;(try simp only[Hb,zL,Zy,jr,ne_eq]at *);unfold QR;(repeat' split)<;>omega)
def nG(c):QW prog 114 [nF c] (QN (QT (QR c != 0))):=by
 refine xT 0 func114 ntmps114 results114 λbase w hb=>?_;simp only[go_sem];apply ZK hb DT (cS c);exact qQ hb
def cU(c):QW prog 70 [nF c] (QN (QT (decide (1<QR c)))):=by
 refine xT 0 func70 ntmps70 results70 λbase w hb=>?_;simp only[go_sem];apply ZK hb DT (cS c);exact qQ hb
def Ch(c:Qq):QW prog 36 [Xm c] (QN (QT (decide (1<QR c.rt)))):=by
 refine xT 0 func36 ntmps36 results36 λbase w hb=>?_;simp only[go_sem];apply ZK hb cw (cU c.rt);exact qQ hb
def kY(c:Qq):QW prog 44 [Xm c] (QN (QT (decide (1<QR c.ls)))):=by
 refine xT 0 func44 ntmps44 results44 λbase w hb=>?_;simp only[go_sem];apply ZK hb cw (cU c.ls);exact qQ hb
def cV(c:Qq):QW prog 24 [Xm c] (QN (QT (decide (1<QR c.ul)))):=by
 refine xT 0 func24 ntmps24 results24 λbase w hb=>?_;simp only[go_sem];apply ZK hb cw (cU c.ul);exact qQ hb
def yK(n a b:Int):Bool:=decide (a<=n)&&decide (n<=b)
def cW(n a b):QW prog 172 [Qa n,Qa a,Qa b] (QN (QT (yK n a b))):=by
 refine xT 0 func172 ntmps172 results172 λbase w hb=>?_;simp only[go_sem];unfold yK;by_cases h:a<=n
 .simp only[go_sem,h]
 .simp only[go_sem,h]
def DX(c:Qq):Bool:=yK c.iD 1 65536&&yK c.parent 0 65536&&!(c.parent==c.iD)
def DY(c:Qq):Bool:=(QR c.rt != 0)&&((QR c.ls != 0)&&!(QR c.ls==4))&&((QR c.ul != 0)&&!(QR c.ul==4))
def jR(c:Qq):Bool:=yK c.ZD 1 64&&yK c.bytes 1 1048576&&(decide (1<QR c.rt) || decide (1<QR c.ls))
def Ci(c:Qq):Bool:=c.ZD==0&&c.bytes==0&&!decide (1<QR c.rt)
def KN(c:Qq):Int:=if !DX c then 1 else if !DY c then 21 else if (c.leaf&&!jR c) || (!c.leaf&&!Ci c) || (decide (1<QR c.ul)&&!decide (1<QR c.ls)) then 29 else 0
structure QrD (c:Qq) (k:Nat) (s:St):Prop where
 h0:0<k->QR c.rt≠0
 h1:1<k->QR c.ls≠0/\QR c.ls≠4
 h2:2<k->QR c.ul≠0/\QR c.ul≠4
 eq:s=⟨[(1,.ptr 0 0 0 0),(2,Qa 0),(30,.agg (c.rt.cells++(c.ls.cells++c.ul.cells))),(31,Qa k)],[⟨.one,0,14,1,λ_=>c.cells⟩]⟩
def QdY(c):QW prog 124 [Xm c] (QN (Qa (KN c))):=by
 refine xT 0 func124 ntmps124 results124 λbase w hb=>?_;simp only[go_sem];apply ZK hb cC (cW c.iD 1 65536);apply Qn hb;cases J5:yK c.iD 1 65536
 .have:KN c=1:=by simp[KN,DX,J5]
  simp only[go_sem,this]
 .simp only[go_sem];apply ZK hb cC (cW c.parent 0 65536);apply Qn hb;cases ZB:yK c.parent 0 65536
  .have:KN c=1:=by simp[KN,DX,J5,ZB]
   simp only[go_sem,this]
  .simp only[go_sem];by_cases h3:c.parent=c.iD
   .have:KN c=1:=by simp[KN,DX,J5,h3]
    simp only[go_sem,qN h3,this]
   .simp only[go_sem,Xl h3];have Q8:DX c=true:=by simp[DX,J5,ZB,h3]
    have w1:IntKind.i64.wrap 1=1:=π;have w2:IntKind.i64.wrap 2=2:=π;have w3:IntKind.i64.wrap 3=3:=π;refine Z3 (QrD c) 3
     (s0:=⟨[(1,.ptr 0 0 0 0),(2,Qa 0),(30,.agg (c.rt.cells++(c.ls.cells++c.ul.cells))),(31,Qa 0)],[⟨.one,0,14,1,λ_=>c.cells⟩]⟩) QM ⟨ω,ω,ω,rfl⟩ ?_
    rintro k s hk ⟨g0,g1,g2,rfl⟩;obtain rfl|rfl|rfl|rfl:k=0\/k=1\/k=2\/k=3:=ω
    .apply Qn hb;apply ZK hb Nk (nG c.rt);apply Qn hb;by_cases r0:QR c.rt=0
     .have:KN c=21:=by simp[KN,Q8,DY,r0]
      simp only[go_sem,qN r0,bne,this,Go.undef]
     .simp only[go_sem,Xl r0,bne,Go.undef];refine⟨_,Qz.to 1 ⟨?_,by simp only[go_sem],?_,?_⟩,⟨λ_=>r0,ω,ω,rfl⟩⟩<;>simp only[go_sem,w1]
    .apply Qn hb;apply ZK hb Nk (nG c.ls);apply Qn hb;by_cases r0:QR c.ls=0
     .have:KN c=21:=by simp[KN,Q8,DY,r0]
      simp only[go_sem,qN r0,bne,this,Go.undef]
     .simp only[go_sem,Xl r0,bne,Go.undef];apply ZK hb DT (cS c.ls);apply Qn hb;by_cases r4:QR c.ls=4
      .have:KN c=21:=by simp[KN,Q8,DY,r4]
       simp only[go_sem,qN r4,this]
      .simp only[go_sem,Xl r4];refine⟨_,Qz.to 1 ⟨?_,by simp only[go_sem],?_,?_⟩,⟨λ_=>g0 ω,λ_=>⟨r0,r4⟩,ω,rfl⟩⟩<;>simp only[go_sem,w2]
    .apply Qn hb;apply ZK hb Nk (nG c.ul);apply Qn hb;by_cases r0:QR c.ul=0
     .have:KN c=21:=by simp[KN,Q8,DY,r0]
      simp only[go_sem,qN r0,bne,this,Go.undef]
     .simp only[go_sem,Xl r0,bne,Go.undef];apply ZK hb DT (cS c.ul);apply Qn hb;by_cases r4:QR c.ul=4
      .have:KN c=21:=by simp[KN,Q8,DY,r4]
       simp only[go_sem,qN r4,this]
      .simp only[go_sem,Xl r4];refine⟨_,Qz.to 1 ⟨?_,by simp only[go_sem],?_,?_⟩,⟨λ_=>g0 ω,λ_=>g1 ω,λ_=>⟨r0,r4⟩,rfl⟩⟩<;>simp only[go_sem,w3]
    .have nH:DY c=true:=by
      have a:=g0 ω;have b:=g1 ω;have d:=g2 ω;simp[DY,a,b,d]
     clear g0 g1 g2;apply Qn hb;first|refine qa ?_|skip
     refine Bb [1,2] [(5,QT (jR c))] rfl ?_ ?_
     .apply Qn hb;apply ZK hb cC (cW c.ZD 1 64);apply Qn hb;cases hp:yK c.ZD 1 64
      .have e:jR c=false:=by simp[jR,hp]
       simp only[go_sem,Go.undef];exact Qz.to 1 (by (simp only[go_sem,e])<;>simp)
      .simp only[go_sem];apply ZK hb cC (cW c.bytes 1 1048576);apply Qn hb;cases hq:yK c.bytes 1 1048576
       .have e:jR c=false:=by simp[jR,hp,hq]
        simp only[go_sem,Go.undef];exact Qz.to 1 (by (simp only[go_sem,e])<;>simp)
       .simp only[go_sem];apply ZK hb yH (Ch c);apply Qn hb;cases hr:decide (1<QR c.rt)
        .simp only[go_sem];apply ZK hb kX (kY c);apply Qn hb;have e:jR c=decide (1<QR c.ls):=by simp[jR,hp,hq,hr]
         exact Qz.to 1 (by (simp only[go_sem,e])<;>simp)
        .have e:jR c=true:=by simp[jR,hp,hq,hr]
         simp only[go_sem,Go.undef];exact Qz.to 1 (by (simp only[go_sem,e])<;>simp)
     first|refine qa ?_|skip
     refine Bb [1,2,5] [(6,QT (Ci c))] rfl ?_ ?_
     .apply Qn hb;by_cases hp:c.ZD=0
      .simp only[go_sem,qN hp,Go.undef];by_cases hq:c.bytes=0
       .simp only[go_sem,qN hq];apply ZK hb yH (Ch c);apply Qn hb;have e:Ci c=!decide (1<QR c.rt):=by simp[Ci,hp,hq]
        exact Qz.to 1 (by (simp only[go_sem,e])<;>simp)
       .have e:Ci c=false:=by simp[Ci,hp,hq]
        simp only[go_sem,Xl hq,Go.undef];exact Qz.to 1 (by (simp only[go_sem,e])<;>simp)
      .have e:Ci c=false:=by simp[Ci,hp]
       simp only[go_sem,Xl hp,Go.undef];exact Qz.to 1 (by (simp only[go_sem,e])<;>simp)
     apply Qn hb;have hv:KN c=if (c.leaf&&!jR c) || (!c.leaf&&!Ci c) || (decide (1<QR c.ul)&&!decide (1<QR c.ls)) then 29 else 0:=by simp[KN,Q8,nH]
     generalize jR c=lo at hv ⊢;generalize Ci c=io at hv ⊢;cases hl:c.leaf<;>rw[hl]at hv
     .cases io
      .simp at hv;simp only[go_sem,Go.undef,hv]
      .simp only[go_sem,Go.undef];refine cT hb Nj ?_ (cV c) ?_
       .simp only[go_sem,hl]
       apply Qn hb;cases hu:decide (1<QR c.ul)<;>rw[hu]at hv
       .simp at hv;simp only[go_sem,Go.undef,hv]
       .simp only[go_sem];refine cT hb kX ?_ (kY c) ?_
        .simp only[go_sem,hl]
        apply Qn hb;cases hs:decide (1<QR c.ls)<;>rw[hs]at hv<;>simp at hv<;>simp only[go_sem,hv]
     .cases lo
      .simp at hv;simp only[go_sem,Go.undef,hv]
      .simp only[go_sem,Go.undef];refine cT hb Nj ?_ (cV c) ?_
       .simp only[go_sem,hl]
       apply Qn hb;cases hu:decide (1<QR c.ul)<;>rw[hu]at hv
       .simp at hv;simp only[go_sem,Go.undef,hv]
       .simp only[go_sem];refine cT hb kX ?_ (kY c) ?_
        .simp only[go_sem,hl]
        apply Qn hb;cases hs:decide (1<QR c.ls)<;>rw[hs]at hv<;>simp at hv<;>simp only[go_sem,hv]
def Cv.Nn(c:Cv):Prop:=0<=c.m1/\0<=c.d/\0<=c.m2
def Qq.Nn(c:Qq):Prop:=c.rt.Nn/\c.ls.Nn/\c.ul.Nn
end Go.Fg.X
namespace Go.Fg
open Go.RowKit (Below)
open Go.Proofs Go.Shelf Go.Sort
def sorted(zs:List Int):List Int:=zs.mergeSort λx y=>decide (x<=y)
def Ge(zs:List Int):(sorted zs).length=zs.length:=by simp[sorted]
def kZ(off:Nat)(row:Nat->List D)(ts:List Int):Nat->List D:=λi=>if off<=i/\i<off+ts.length then [.raw (.int .i64 (ts.getD (i - off) 0))] else row i
variable {P:Program}{ρ:Ren}
def QrJ{w:World}{b n o}{os}{cur}{e:TypeId}{fr}(d)(hb:w.heap[b]? = some (.cells cur e fr)):
  (grow (putRow (Value.int .i64) (Sort.ahead w n) b o d) os).heap[b]? = some (.cells (putCells (Value.int .i64) o d cur) e fr):=by
 have hg:b<w.heap.size:=(Ws.1 hb).1;rw[heap_grow_old _ _ (by simpa using hg)];simp[putRow,mapBlock,Sort.ahead,ie,hb,onCells]
def QrK{w:World}{b n o}{os}(d):w.grownBy (grow (putRow (Value.int .i64) (Sort.ahead w n) b o d) os) (some b):=by
 refine⟨rfl,rfl,rfl,σ,λk hk QA=>?_⟩;rw[heap_grow_old _ _ (by simpa using hk)];have:b≠k:=λe=>QA (by rw[e]);simp[putRow,mapBlock,Sort.ahead,ie,this]
def QrL(Ly:Lays.n189 P ρ){h:List Ob}{l g off N}{row}{zs:List Int}(ho:h[l]? = some ⟨.arr,g,1,N,row⟩)(hn:off+zs.length<=N)(hr:∀i,i<zs.length->row (off+i)=[.raw (.int .i64 (zs.getD i 0))])(hlen:zs.length<4611686018427387904):
  QH P (ρ.f 189) h [.ref l g off zs.length] (λd h'=>d=.tup []/\h'=h.set l ⟨.arr,g,1,N,kZ off row (sorted zs)⟩):=by
 intro Z base w pl vs Q1 hZ R kR hv;match vs,kR with
 | [v],_=>
 have r0:=hv 0 σ;obtain⟨o,p,a,cap,e1,h1,h2,h3,h4,h5⟩:=Dq r0;rw[ho]at h1;cases h1;have e1:v=.slice a zs.length cap:=e1;have A7:=h5 rfl;subst e1;have Qb:l<h.length:=KD ho;by_cases h0:zs.length=0
 .have hz:zs=[]:=Di.1 h0;subst hz;refine(Any.slices_Sort_int_none Ly a cap w).mono ?_;rintro e w' ⟨rfl,rfl⟩;have hs:h.set l ⟨.arr,g,1,N,kZ off row (sorted [])⟩=h:=by
   have:kZ off row (sorted [])=row:=by
    funext i;have:¬ (off<=i/\i<off+(sorted []).length):=by rw[Ge];simp
    unfold kZ;rw[Qc this]
   rw[this];apply wY;intro i;by_cases hi:l=i
   .subst hi;rw[Wt Qb,ho]
   .rw[Jw hi]
  rw[hs];exact⟨_,.tup [],h,pl,rfl,⟨rfl,rfl⟩,R,.tup [] [] rfl (λi hi=>by simp at hi),Tr.refl _ _ _,.refl _ _⟩
 .rcases A7 with ⟨h6,_⟩|⟨b,q,c,el,rfl,rfl,hb,FC,Z7⟩
  .exact absurd h6 h0
  .obtain⟨Xf,xn⟩:=R.at_ l _ b q ho h2;obtain⟨c',UT,WN,JF,Kc,ZG⟩:=xn.cells rfl;rw[hb]at WN;cases WN;simp only[Qkn]at FC JF ZG ⊢;have BX:∀i,i<zs.length->c[q+off+i]? = some (.int .i64 (zs.getD i 0)):=λi hi=>by
    obtain⟨u,hu,B1⟩:=ZG (off+i) 0 (by show off+i<N;omega) (by show 0<1;omega);have e2:(row (off+i))=_:=hr i hi;have B1:QC Z h pl w (nth (row (off+i)) 0) u:=B1;rw[e2]at B1;have:=Jn B1;rw[show q+off+i=q+(off+i+0) by omega,hu,this]
   have hH:Holds (Value.int .i64) w b (q+off) zs.toArray:=by
    intro j hj;have VS:j<zs.length:=by simpa using hj
    refine⟨?_,by simp[World.frozen?,hb]⟩;rw[World.cell?_of_block (w:=w) (w':=w) rfl];simp only[World.cell?,hb];simp only[xh,q7,vN];rw[BX j VS];simp[Q5,VS]
   refine(Any.slices_Sort_int Ly b (q+off) cap zs w hH (ju hb) hlen).mono ?_;rintro e w' ⟨rfl,n,os,hw⟩;have hG:w.grownBy w' (some b):=by rw[hw];exact QrK _
   have JY:w'.heap[b]? = some (.cells (putCells (Value.int .i64) (q+off) (sorted zs).toArray c) el (0,0)):=by rw[hw];exact QrJ _ hb
   have Ju:(putCells (Value.int .i64) (q+off) (sorted zs).toArray c).size=c.size:=by simp[putCells]
   have hold:∀k,k≠b->k<w.heap.size->w'.heap[k]? = w.heap[k]? := λk hk Qb=>hG.block k Qb (λe=>hk (by cases e;rfl));have QrM:base<=b:=Xf rfl;have hB:Below base w w':=(Below.refl base w).grown hG Q1 (λk hk=>by cases hk;exact QrM);have T:=Tr.QV (w':=w') (o':=⟨.arr,g,1,N,kZ off row (sorted zs)⟩) R ho h2 rfl rfl rfl hold (λc1 iz e1=>by rw[hb]at e1;cases e1;exact⟨_,JY,Ju⟩);have xC:∀i,i<c.size->(putCells (Value.int .i64) (q+off) (sorted zs).toArray c)[i]? = if q+off<=i/\i<q+off+zs.length then some (.int .i64 ((sorted zs).getD (i - (q+off)) 0)) else c[i]? := λi hi=>by
    have hl:(sorted zs).toArray.size=zs.length:=by simp[Ge]
    simp only[putCells,Array.getElem?_mapIdx,hl,zJ hi,KK];split
    .rename_i K9;have:i - (q+off)<(sorted zs).length:=by rw[Ge];omega
     simp[Q5,this]
    .rfl
   refine⟨_,.tup [],_,pl,rfl,⟨rfl,rfl⟩,Zi.QV (w':=w') (o':=⟨.arr,g,1,N,kZ off row (sorted zs)⟩) R ho h2 rfl rfl rfl rfl hold hb JY Ju (by rw[Ju];simpa using JF) (λi hi=>?_) (λi j hi hj=>?_) rfl,.tup [] [] rfl (λi hi=>by simp at hi),T,hB⟩
   .show (kZ off row (sorted zs) i).length=1;unfold kZ;split
    .rfl
    .exact Kc i hi
   .have hi:i<N:=hi;have hj:j<1:=hj;have hj0:j=0:=ω;subst hj0;have hic:q+(i+0)<c.size:=ω;show ∃v,(putCells (Value.int .i64) (q+off) (sorted zs).toArray c)[q+(i*1+0)]? = some v/\QC Z _ pl w' (nth (kZ off row (sorted zs) i) 0) v;rw[Qkn,xC _ hic];have hsr:kZ off row (sorted zs) i=if off<=i/\i<off+zs.length then [.raw (.int .i64 ((sorted zs).getD (i - off) 0))] else row i:=by unfold kZ;rw[Ge]
    rw[hsr];by_cases K9:off<=i/\i<off+zs.length
    .rw[Qd ω,Qd K9];exact⟨_,rfl,by rw[show q+(i+0) - (q+off)=i - off by omega];exact .cl _ _ (.raw _)⟩
    .rw[Qc ω,Qc K9];obtain⟨u,hu,B1⟩:=ZG i 0 hi hj;exact⟨u,hu,B1.tr T⟩
end Go.Fg
namespace Go.Fg.X
open Go.Proofs Go.Fg
open Go.Proofs.Tryz
def Qx(L:List Qq)(k:Int):Option Qq:=L.find? λc=>c.iD==k
def VJ(e:Zt):Int × D:=(e.k,e.v)
def XO(c:Qq):Int × D:=(c.iD,Xm c)
def WU(L:List Qq):Prop:=L.Pairwise λa b=>a.iD<b.iD
structure Va (es:List Zt) (L:List Qq):Prop where
 perm:(es.map VJ).Perm (L.map XO)
 sorted:WU L
def Qd1{α:Type}{f:α->Int}:∀{l:List α},(l.map f).Nodup->∀{x y:α},x∈l->y∈l->f x=f y->x=y
 | [],_,x,_,hx,_,_=>by simp at hx
 | a::l,hn,x,y,hx,hy,e=>by
  simp only[JQ,Zz,Z2,Dm,not_and]at hn;rcases QD.1 hx with h1|h1<;>rcases QD.1 hy with h2|h2
  .rw[h1,h2]
  .exact absurd (by rw[<- e,h1]) (hn.1 y h2)
  .exact absurd (by rw[e,h2]) (hn.1 x h1)
  .exact Qd1 hn.2 h1 h2 e
def WU.nd{L:List Qq}(h:WU L):(L.map (·.iD)).Nodup:=by
 unfold List.Nodup;rw[L6];exact List.Pairwise.imp (λh=>ω) h
def Va.Bc{es}{L}(T:Va es L):XA es:=by
 have h1:es.map (·.k)=(es.map VJ).map Prod.fst:=by simp[VJ,Uj]
 have h2:(L.map XO).map Prod.fst=L.map (·.iD):=by simp[XO,Uj]
 unfold XA;rw[h1,(T.perm.map Prod.fst).nodup_iff,h2];exact T.sorted.nd
def nI:∀{es:List Zt},XA es->∀{k:Int} {v:D},ZL es k=some v↔(k,v)∈es.map VJ
 | [],_,k,v=>by simp[ZL]
 | e::es,hn,k,v=>by
  have KO:XA es:=by unfold XA at hn ⊢;simp only[JQ,Zz]at hn;exact hn.2
  simp only[ZL];by_cases h:e.k=k
  .rw[Qd h];constructor
   .rintro⟨rfl⟩;simp[VJ,h]
   .intro hm;simp only[JQ,QD]at hm;rcases hm with hm|hm
    .simp only[VJ,Q9]at hm;rw[hm.2]
    .exfalso;obtain⟨e',WS,hh⟩:=Z2.1 hm;simp only[VJ,Q9]at hh;unfold XA at hn;simp only[JQ,Zz,Z2,Dm,not_and]at hn;exact hn.1 e' WS (by rw[hh.1,h])
  .rw[Qc h,nI KO];simp only[JQ,QD];constructor
   .exact λh=>.inr h
   .rintro (hm|hm)
    .simp only[VJ,Q9]at hm;exact absurd hm.1.symm h
    .exact hm
def J6{L}(h:WU L){k}{c:Qq}:Qx L k=some c↔c∈L/\c.iD=k:=by
 constructor
 .intro e;exact⟨kF e,by have:=vJ e;simpa using this⟩
 .rintro⟨hm,rfl⟩;cases hf:Qx L c.iD with
  | none=>
   have:=jm.1 hf c hm;simp at this
  | some d=>
   have h1:=kF hf;have h2:d.iD=c.iD:=by have:=vJ hf;simpa using this
   rw[Qd1 h.nd h1 hm h2]
def yL{L}{k}:Qx L k=none↔∀c∈L,c.iD≠k:=by
 simp[Qx,jm]
def Va.look{es}{L}(T:Va es L)(k:Int):ZL es k=(Qx L k).map Xm:=by
 cases hf:Qx L k with
 | some c=>
  obtain⟨h1,h2⟩:=(J6 T.sorted).1 hf;rw[KK,nI T.Bc,T.perm.mem_iff];exact Z2.2 ⟨c,h1,by simp[XO,h2]⟩
 | none=>
  rw[YV];cases ha:ZL es k with
  | none=>rfl
  | some v=>
   rw[nI T.Bc,T.perm.mem_iff]at ha;obtain⟨c,hc,e⟩:=Z2.1 ha;simp only[XO,Q9]at e;exact absurd e.1 (yL.1 hf c hc)
def Va.len{es:List Zt}{L:List Qq}(T:Va es L):es.length=L.length:=by
 have:=T.perm.length_eq;simpa using this
def Va.nil:Va [] []:=⟨σ,by simp[WU]⟩
def VK:List Qq->Qq->List Qq
 | [],x=>[x]
 | c::r,x=>if x.iD<c.iD then x::c::r else if c.iD=x.iD then x::r else c::VK r x
def WV(L:List Qq)(k:Int):List Qq:=L.filter λc=>c.iD != k
def RF{α:Type}{p}{l:List α}(h:∀x∈l,p x=true):l.filter p=l:=yi.2 h
def Gf:∀{L:List Qq} (x:Qq),WU L->(VK L x).Perm (x::WV L x.iD)
 | [],x,_=>by simp[VK,WV]
 | c::r,x,h=>by
  have hr:WU r:=List.Pairwise.of_cons h;have hc:∀d∈r,c.iD<d.iD:=λd hd=>(yj.1 h).1 d hd;simp only[VK];by_cases h1:x.iD<c.iD
  .rw[Qd h1];have:WV (c::r) x.iD=c::r:=RF λd hd=>by
    rcases QD.1 hd with rfl|hd
    .simp;omega
    .have:=hc d hd;simp;omega
   rw[this]
  .rw[Qc h1];by_cases h2:c.iD=x.iD
   .rw[Qd h2];have e1:WV r x.iD=r:=RF λd hd=>by have:=hc d hd;simp;omega
    have:WV (c::r) x.iD=r:=by unfold WV at e1 ⊢;rw[Pd (by simp[h2]),e1]
    rw[this]
   .rw[Qc h2];have:WV (c::r) x.iD=c::WV r x.iD:=by unfold WV;rw[Pe (by simp[h2])]
    rw[this];exact((Gf x hr).cons c).trans (List.Perm.swap x c _)
def Nt:∀{L:List Qq} (x:Qq),WU L->WU (VK L x)
 | [],x,_=>by simp[VK,WU]
 | c::r,x,h=>by
  have hr:WU r:=List.Pairwise.of_cons h;have hc:∀d∈r,c.iD<d.iD:=λd hd=>(yj.1 h).1 d hd;simp only[VK];by_cases h1:x.iD<c.iD
  .rw[Qd h1];exact yj.2 ⟨λd hd=>by
    rcases QD.1 hd with rfl|hd
    .exact h1
    .have:=hc d hd;omega,h⟩
  .rw[Qc h1];by_cases h2:c.iD=x.iD
   .rw[Qd h2];exact yj.2 ⟨λd hd=>by have:=hc d hd;omega,hr⟩
   .rw[Qc h2];refine yj.2 ⟨λd hd=>?_,Nt x hr⟩;have:=(Gf x hr).mem_iff.1 hd;rcases QD.1 this with rfl|KI
    .omega
    .exact hc d (Jt.1 KI).1
def nJ{L}(k)(h:WU L):WU (WV L k):=LY _ h
def Qd2:∀{es:List Zt} (k:Int) (v:D),XA es->(∃u,ZL es k=some u)->((zR es k v).map VJ).Perm ((k,v)::(es.map VJ).filter λp=>p.1 != k)
 | [],k,v,_,h=>by simp[ZL]at h
 | e::es,k,v,hn,h=>by
  have KJ:=hn;unfold XA at KJ;simp only[JQ,Zz,Z2,Dm,not_and]at KJ;simp only[zR];by_cases he:e.k=k
  .rw[Qd he];have e1:(es.map VJ).filter (λp=>p.1 != k)=es.map VJ:=RF λp hp=>by
    obtain⟨e',WS,rfl⟩:=Z2.1 hp;have:=KJ.1 e' WS;simp[VJ];omega
   have:((e::es).map VJ).filter (λp=>p.1 != k)=es.map VJ:=by rw[JQ,Pd (by simp[VJ,he]),e1]
   rw[this];simp[VJ]
  .rw[Qc he];have h2:∃u,ZL es k=some u:=by simpa only[ZL,Qc he] using h
   have:((e::es).map VJ).filter (λp=>p.1 != k)=VJ e::(es.map VJ).filter (λp=>p.1 != k):=by rw[JQ,Pe (by simp[VJ,he])]
   rw[this,JQ];exact((Qd2 k v KJ.2 h2).cons _).trans (List.Perm.swap _ _ _)
def QrQ{es}{L}(T:Va es L)(q)(c)(x:Qq):∃c' es',JZ q c es x.iD (Xm x)=QK q c' es'/\Va es' (VK L x):=by
 have hp:((VK L x).map XO).Perm ((x.iD,Xm x)::(L.map XO).filter λp=>p.1 != x.iD):=by
  have:=(Gf x T.sorted).map XO;rw[JQ]at this;refine this.trans ?_;have:(L.map XO).filter (λp=>p.1 != x.iD)=(WV L x.iD).map XO:=by
   rw[Pf];rfl
  rw[this];exact O8 _
 have hf:=T.perm.filter λp=>p.1 != x.iD;unfold JZ;cases ha:ZL es x.iD with
 | some u=>exact⟨c,_,rfl,⟨(Qd2 x.iD (Xm x) T.Bc ⟨u,ha⟩).trans ((hf.cons _).trans hp.symm),Nt x T.sorted⟩⟩
 | none=>
  refine⟨c+1,_,rfl,⟨?_,Nt x T.sorted⟩⟩;have e1:(es.map VJ).filter (λp=>p.1 != x.iD)=es.map VJ:=RF λp hp=>by
   obtain⟨e',WS,rfl⟩:=Z2.1 hp;have:=(PS ha).1 e' WS;simp[VJ];omega
  rw[e1]at hf;rw[vK];refine List.perm_append_comm.trans ?_;exact(hf.cons (x.iD,Xm x)).trans hp.symm
def Qd3:∀{es:List Zt} (k:Int),XA es->((JS es k).map VJ)=((es.map VJ).filter λp=>p.1 != k)
 | [],k,_=>rfl
 | e::es,k,hn=>by
  have KJ:=hn;unfold XA at KJ;simp only[JQ,Zz,Z2,Dm,not_and]at KJ;simp only[JS];by_cases he:e.k=k
  .rw[Qd he,JQ,Pd (by simp[VJ,he])];exact(RF λp hp=>by
    obtain⟨e',WS,rfl⟩:=Z2.1 hp;have:=KJ.1 e' WS;simp[VJ];omega).symm
  .rw[Qc he,JQ,JQ,Pe (by simp[VJ,he]),Qd3 k KJ.2]
def Qd4{es}{L}(T:Va es L)(k):Va (JS es k) (WV L k):=by
 refine⟨?_,nJ k T.sorted⟩;rw[Qd3 k T.Bc];have:(L.map XO).filter (λp=>p.1 != k)=(WV L k).map XO:=by rw[Pf];rfl
 rw[<- this];exact T.perm.filter _
def QrR{zs ts:List Int}(h:zs.Perm ts)(hs:ts.Pairwise (·<·)):sorted zs=ts:=by
 refine List.Perm.eq_of_pairwise (le:=λa b=>a<=b) (λa b _ _ h1 h2=>ω) ?_ (hs.imp (λh=>ω)) ((List.mergeSort_perm _ _).trans h);have:=List.pairwise_mergeSort (le:=λx y:Int=>decide (x<=y)) (λa b c h1 h2=>by simp at *;omega) (λa b=>ξ) zs;exact this.imp (λh=>by simpa using h)
section
variable (h:List Ob)(t m c:Nat){es:List Zt}{L:List Qq}(T:Va es L)
 (ht:(h.map Ob.ro)[t]? = some ⟨.Vt,0,1,1,λ_=>[.mref m 0]⟩) (hm:(h.map Ob.ro)[m]? = some (QK .i64 c es).ro)
include T ht hm
theorem Qd5(id:Int):Q6 prog 22 h [.ptr t 0 0 0,Qa id] (λd=>d=.tup [Xm ((Qx L id).getD default),Qa (if (Qx L id).isSome then 0 else 6)]):=by
 have hk:=T.look id;cases hf:Qx L id with
 | none=>
  rw[hf,YV]at hk;refine xD func22 ntmps22 results22 λbase w pl F hF Q7 hb=>?_;rw[<- hF]at ht hm;have ZY:=Qb ht;have Zg:=Qb hm;simp only[go_sem,Qe,ht,ZY,hm,Zg,hk];exact⟨_,rfl,rfl⟩
 | some x=>
  rw[hf,KK]at hk;refine xD func22 ntmps22 results22 λbase w pl F hF Q7 hb=>?_;rw[<- hF]at ht hm;have ZY:=Qb ht;have Zg:=Qb hm;simp only[go_sem,Qe,ht,ZY,hm,Zg,hk];exact⟨_,rfl,rfl⟩
end
def Vj(F H:List Ob):Prop:=∃g,H=F++g
def Vj.refl(F):Vj F F:=⟨[],σ⟩
def Vj.app{F H}(h:Vj F H)(g):Vj F (H++g):=by
 obtain⟨x,rfl⟩:=h;exact⟨x++g,σ⟩
def Vj.set{F H:List Ob}(h:Vj F H){lo}(hl:F.length<=lo)(o):Vj F (H.set lo o):=by
 obtain⟨x,rfl⟩:=h;exact⟨x.set (lo - F.length) o,by rw[Hg _ _ hl]⟩
def Vj.len{F H:List Ob}(h:Vj F H):F.length<=H.length:=by
 obtain⟨x,rfl⟩:=h;simp
def Vj.get{F H:List Ob}(h:Vj F H){l:Nat}{o:Ob}(e:F[l]? = some o):H[l]? = some o:=by
 obtain⟨x,rfl⟩:=h;rw[QG (Qb e)];exact e
def J7(n:Nat)(H:List Ob)(d:D)(L:List Int):Prop:=(d=.nil/\L=[])\/∃lo g off row,d=.ref lo g off L.length/\(n<=lo/\off=0)/\H[lo]? = some ⟨.arr,g,1,off+L.length,row⟩/\∀i,i<L.length->row (off+i)=[Qa (L.getD i 0)]
def J7.app{n}{H}{d}{L}(h:J7 n H d L)(g):J7 n (H++g) d L:=by
 rcases h with h|⟨lo,gg,off,row,h1,h2,h3,h4⟩
 .exact .inl h
 .exact .inr ⟨lo,gg,off,row,h1,h2,by rw[QG (Qb h3)];exact h3,h4⟩
def J7.base{F h g:List Ob}{d}{L}(hl:F.length=h.length)(x:J7 F.length (F++g) d L):J7 h.length (h++g) d L:=by
 rcases x with x|⟨lo,gg,off,row,h1,h2,h3,h4⟩
 .exact .inl x
 .refine .inr ⟨lo,gg,off,row,h1,ω,?_,h4⟩;rw[Kb ω]at h3 ⊢;rw[<- hl];exact h3
def J7.done{F h H:List Ob}{d}{L}(hl:F.length=h.length)(hx:Vj F H)(x:J7 F.length H d L):∃g,H=F++g/\J7 h.length (h++g) d L:=by
 obtain⟨g,rfl⟩:=hx;exact⟨g,rfl,x.base hl⟩
def Ie{dn:List Int}{off}{row}{v}(hr:∀i,i<dn.length->row (off+i)=[Qa (dn.getD i 0)]):∀i,i<(dn++[v]).length->Kt dn.length off row (λ_=>[Qa v]) (0+i)=[Qa ((dn++[v]).getD i 0)]:=λi hi=>by
 rw[JD];simp at hi;by_cases h1:i<dn.length
 .rw[Az h1,hr i h1];simp[h1,JC h1]
 .have:i=dn.length:=ω;subst this;rw[xk (QB _)];simp
def DZ{h:List Ob}{l:Nat}{o:Ob}(e:h[l]? = some o.ro):(h.map Ob.ro)[l]? = some o.ro:=by have:=ZC e;rwa [ro_ro]at this
def Jr(L:List Qq):Nat->Int->List Int
 | 0,_=>[]
 | n+1,id=>match Qx L id with
  | none=>[]
  | some c=>id::Jr L n c.parent
def Ends(L:List Qq):Nat->Int->Prop
 | 0,id=>Qx L id=none
 | n+1,id=>match Qx L id with
  | none=>True
  | some c=>Ends L n c.parent
structure QrS (t:Nat) (L:List Qq) (N:Nat) (id:Int) (F:List Ob) (n:Nat) (s:St):Prop where
 ex:∃dn cur d H,dn++Jr L n cur=Jr L N id/\dn.length+n<=N+1/\Ends L n cur/\Vj F H/\J7 F.length H d dn/\s=⟨[(0,.ptr t 0 0 0),(1,Qa cur),(5,d)],H⟩
section
variable (h:List Ob)(t m c:Nat){es:List Zt}{L:List Qq}(T:Va es L)
 (ht:(h.map Ob.ro)[t]? = some ⟨.Vt,0,1,1,λ_=>[.mref m 0]⟩) (hm:(h.map Ob.ro)[m]? = some (QK .i64 c es).ro)
include T ht hm
theorem nK(id)(N)(hN:N<1000000)(hE:Ends L N id):Wy prog 69 h [.ptr t 0 0 0,Qa id] (λd g=>J7 h.length (h++g) d (Jr L N id)):=by
 refine xz Q4 200 func69 rfl ntmps69 results69 rfl λbase w pl F hF Q7 hb=>?_;rw[<- hF]at ht hm;have ZY:=Qb ht;have Zg:=Qb hm;simp only[go_sem];refine HJ (QrS t L N id F) N (s0:=⟨[(0,.ptr t 0 0 0),(1,Qa id),(5,.nil)],F⟩) QM ⟨[],id,.nil,F,rfl,σ,hE,Vj.refl F,.inl ⟨rfl,rfl⟩,rfl⟩ ?_;rintro n s ⟨dn,cur,d,H,h1,h2,h3,hx,hs,rfl⟩;have hFH:=hx.len;have Cj:=hx.get ht;have YE:=hx.get hm;have QEe:=Qb Cj;have nN:=Qb YE;have hg:=Qd5 H t m c T (ZC Cj) (DZ YE) cur;apply Qn hb;cases hf:Qx L cur with
 | none=>
  rw[hf]at hg;simp only[xh,q7,vN]at hg;apply ZQ hb qf hg;apply JH hb;have e0:Jr L n cur=[]:=by cases n with
   | zero=>rfl
   | succ n=>simp only[Jr,hf]
  rw[e0,JI]at h1;rw[<- h1];exact J7.done Q7 (hx.app _) (hs.app _)
 | some x=>
  rw[hf]at hg;simp only[za,Vs,KR]at hg;obtain⟨n,rfl⟩:∃n',n=n'+1:=by
   cases n with
   | zero=>rw[Ends,hf]at h3;cases h3
   | succ n=>exact⟨n,rfl⟩
  have nO:Ends L n x.parent:=by simpa only[Ends,hf] using h3
  have Ji:(dn++[cur])++Jr L n x.parent=Jr L N id:=by rw[<- h1];simp only[Jr,hf,V9,List.singleton_append]
  rcases hs with ⟨rfl,rfl⟩|⟨lo,g,off,row,rfl,Zq,ho,hr⟩
  .apply ZQ hb qf hg;apply JH hb;refine⟨n,⟨[(0,.ptr t 0 0 0),(1,Qa x.parent),(5,.ref (H.length+2) 0 0 1)],_⟩,ω,QM,⟨⟨[cur],x.parent,_,_,Ji,by simp at h2 ⊢;omega,nO,hx.app _,.inr ⟨H.length+2,0,0,_,rfl,ω,by rw[VD rfl];rfl,λi hi=>?_⟩,rfl⟩⟩⟩;have:i=0:=by simp at hi;omega
   subst this;rfl
  .have Ql:=Qb ho;apply ZQ hb qf hg;apply Qg hb;simp only[go_sem,Qe,ho,Ql];refine⟨ω,n,⟨[(0,.ptr t 0 0 0),(1,Qa x.parent),(5,.ref lo (g+1) 0 (dn.length+1))],_⟩,ω,QM,⟨⟨dn++[cur],x.parent,_,_,Ji,?_,nO,?_,?_,rfl⟩⟩⟩
   .simp at h2 ⊢;omega
   .exact(hx.set Zq.1 _).app _
   .refine .inr ⟨lo,g+1,0,_,σ,ω,?_,Ie hr⟩;rw[QG (by simpa using Ql),QE Ql];simp[Qa]
end
def Xn(L:List Qq)(id:Int):Bool:=id==0 || decide (1<QR ((Qx L id).getD default).ls)
section
variable (h:List Ob)(t m c:Nat){es:List Zt}{L:List Qq}(T:Va es L)
 (ht:(h.map Ob.ro)[t]? = some ⟨.Vt,0,1,1,λ_=>[.mref m 0]⟩) (hm:(h.map Ob.ro)[m]? = some (QK .i64 c es).ro)
include T ht hm
theorem Nu(id:Int)(N)(hN:N<1000000)(hE:Ends L N id):Q6 prog 126 h [.ptr t 0 0 0,Qa id] (λd=>d=Qa (Jr L N id).length):=by
 refine xD func126 ntmps126 results126 λbase w pl F hF Q7 hb=>?_;rw[<- hF]at ht hm;have ZY:=Qb ht;have Zg:=Qb hm;simp only[go_sem];refine Cc hb Ry rfl ?_ (nK F t m c T (ZC ht) (DZ hm) id N hN hE) rfl λd g2 hs=>?_
 .simp only[go_sem]
 rcases hs with ⟨rfl,h0⟩|⟨lo,g,off,row,rfl,Zq,ho,hr⟩
 .apply Qg hb;simp only[go_sem,h0];exact⟨_,rfl⟩
 .have Ql:=Qb ho;apply Qn hb;exact⟨_,rfl⟩
theorem cX(id):Q6 prog 125 h [.ptr t 0 0 0,Qa id] (λd=>d=QT (Xn L id)):=by
 by_cases h0:id=0
 .have e:Xn L id=true:=by simp[Xn,h0]
  rw[e];refine xD func125 ntmps125 results125 λbase w pl F hF Q7 hb=>?_;rw[<- hF]at ht hm;have ZY:=Qb ht;have Zg:=Qb hm;simp only[go_sem,qN h0];exact⟨[],σ⟩
 .have hk:=T.look id;have e:Xn L id=decide (1<QR ((Qx L id).getD default).ls):=by simp[Xn,h0]
  rw[e];cases hf:Qx L id with
  | none=>
   rw[hf,YV]at hk;refine xD func125 ntmps125 results125 λbase w pl F hF Q7 hb=>?_;rw[<- hF]at ht hm;have ZY:=Qb ht;have Zg:=Qb hm;simp only[go_sem,ht,hm,hk,Xl h0];apply ZK hb kX (kY ⟨0,0,false,⟨0,0,0⟩,⟨0,0,0⟩,⟨0,0,0⟩,0,0⟩);apply Qn hb;exact⟨[],(JI F).symm,rfl⟩
  | some x=>
   rw[hf,KK]at hk;refine xD func125 ntmps125 results125 λbase w pl F hF Q7 hb=>?_;rw[<- hF]at ht hm;have ZY:=Qb ht;have Zg:=Qb hm;simp only[go_sem,ht,hm,hk,Xl h0];apply ZK hb kX (kY x);apply Qn hb;exact⟨[],σ⟩
end
def Qp(L:List Qq)(g:Qq->Bool)(k:Int):Bool:=((Qx L k).map g).getD false
def QrT{es:List Zt}{seen:List Nat}{b:Nat}(p:Zt->Bool)(h:∀e∈es,e.b≠b):(es.filter λx=>(seen++[b]).contains x.b&&p x)=es.filter λx=>seen.contains x.b&&p x:=by
 apply Um;intro x hx;have:=h x hx;simp[this]
def Qd6:∀{es:List Zt} {seen:List Nat} {e:Zt} (p:Zt->Bool),(es.map (·.b)).Nodup->e∈es->e.b ∉ seen->(es.filter λx=>(seen++[e.b]).contains x.b&&p x).Perm (if p e then e::es.filter (λx=>seen.contains x.b&&p x) else es.filter λx=>seen.contains x.b&&p x)
 | [],_,_,_,_,h,_=>by simp at h
 | x::es,seen,e,p,hn,h,hs=>by
  simp only[JQ,Zz,Z2,Dm,not_and]at hn;rcases QD.1 h with h1|h1
  .subst h1;have e1:=QrT (seen:=seen) (b:=e.b) p (es:=es) λy hy he=>hn.1 y hy he;have hc:seen.contains e.b=false:=by simpa using hs
   rw[vI,vI,e1];simp only[hc,O6,q7,vN];have:(seen++[e.b]).contains e.b=true:=σ;rw[this,O7]
  .have ih:=Qd6 p hn.2 h1 hs;have QA:x.b≠e.b:=λhe=>hn.1 e h1 he.symm;have hc:(seen++[e.b]).contains x.b=seen.contains x.b:=by simp[QA]
   rw[vI,vI,hc];by_cases h2:(seen.contains x.b&&p x)=true
   .rw[Qd h2,Qd h2];by_cases h3:p e=true
    .rw[Qd h3]at ih ⊢;exact(ih.cons x).trans (List.Perm.swap _ _ _)
    .rw[Qc h3]at ih ⊢;exact ih.cons x
   .rw[Qc h2,Qc h2];exact ih
def Va.wj{es}{L}(T:Va es L){e:Zt}(he:e∈es):∃x,Qx L e.k=some x/\e.v=Xm x/\x.iD=e.k:=by
 have:VJ e∈L.map XO:=T.perm.mem_iff.1 (Z2.2 ⟨e,he,rfl⟩);obtain⟨x,hx,e1⟩:=Z2.1 this;simp only[XO,VJ,Q9]at e1;exact⟨x,(J6 T.sorted).2 ⟨hx,e1.1⟩,e1.2.symm,e1.1⟩
def Va.pick{es:List Zt}{L:List Qq}(T:Va es L)(g:Qq->Bool):((es.filter λe=>Qp L g e.k).map (·.k)).Perm ((L.filter g).map (·.iD)):=by
 have h1:=(T.perm.filter λp=>Qp L g p.1).map Prod.fst;have e1:((es.map VJ).filter λp=>Qp L g p.1).map Prod.fst=(es.filter λe=>Qp L g e.k).map (·.k):=by
  rw[Pf,Fl];rfl
 have e2:((L.map XO).filter λp=>Qp L g p.1).map Prod.fst=(L.filter g).map (·.iD):=by
  rw[Pf,Fl];have:L.filter ((λp=>Qp L g p.1) ∘ XO)=L.filter g:=Um λx hx=>by
   have:=(J6 T.sorted).2 ⟨hx,rfl⟩;simp[Qp,XO,this]
  rw[this];rfl
 rw[e1,e2]at h1;exact h1
def QrU{L:List Qq}(h:WU L)(g:Qq->Bool):((L.filter g).map (·.iD)).Pairwise (·<·):=by
 rw[L6];exact LY g h
open Go.Shelf in
def QrV{P}{ρ:Ren}(Ly:Lays.n189 P ρ)(h):QH P (ρ.f 189) h [.nil] (λd h'=>d=.tup []/\h'=h):=by
 intro Z base w pl vs Q1 hZ R kR hv;match vs,kR with
 | [v],_=>
 obtain⟨a,e1⟩:=Dp (hv 0 σ);have e1:v=_:=e1;subst e1;refine(Any.slices_Sort_int_none Ly a 0 w).mono ?_;rintro e w' ⟨rfl,rfl⟩;exact⟨_,.tup [],h,pl,rfl,⟨rfl,rfl⟩,R,.tup [] [] rfl (λi hi=>by simp at hi),Tr.refl _ _ _,.refl _ _⟩
open Go.Shelf in
def Tryz.QrW:Go.Shelf.Ren:=⟨fun|189=>127|125=>174|257=>173|128=>221|129=>222|294=>212|295=>213|296=>214|297=>215|298=>216|299=>217|216=>218|300=>219|301=>220|328=>264|329=>265|330=>266|331=>267|332=>268|215=>269|343=>301|n=>n,fun|28=>43|3=>3|46=>198|0=>0|51=>332|53=>45|4=>4|183=>325|182=>324|131=>128|5=>5|9=>9|218=>379|222=>382|228=>407|229=>408|n=>n,fun|n=>n⟩
def Tryz.Qd7:Go.Proofs.Lays.n189 prog Tryz.QrW:={
 mixed:=τ
 f125:=func174.trans (congrArg some τ)
 f128:=func221.trans (congrArg some τ)
 f129:=func222.trans (congrArg some τ)
 f189:=func127.trans (congrArg some τ)
 f215:=func269.trans (congrArg some τ)
 f216:=func218.trans (congrArg some τ)
 f257:=func173.trans (congrArg some τ)
 f294:=func212.trans (congrArg some τ)
 f295:=func213.trans (congrArg some τ)
 f296:=func214.trans (congrArg some τ)
 f297:=func215.trans (congrArg some τ)
 f298:=func216.trans (congrArg some τ)
 f299:=func217.trans (congrArg some τ)
 f300:=func219.trans (congrArg some τ)
 f301:=func220.trans (congrArg some τ)
 f328:=func264.trans (congrArg some τ)
 f329:=func265.trans (congrArg some τ)
 f330:=func266.trans (congrArg some τ)
 f331:=func267.trans (congrArg some τ)
 f332:=func268.trans (congrArg some τ)
 f343:=func301.trans (congrArg some τ)
 t0:=underlying0
 a0:=isAgg0
 z0:=sizeOf0
 v0:=zeroValue0
 t3:=underlying3
 a3:=isAgg3
 z3:=sizeOf3
 v3:=zeroValue3
 t4:=underlying4
 a4:=isAgg4
 z4:=sizeOf4
 v4:=zeroValue4
 t5:=underlying5
 a5:=isAgg5
 z5:=sizeOf5
 v5:=zeroValue5
 t9:=underlying9
 a9:=isAgg9
 z9:=sizeOf9
 v9:=zeroValue9
 t28:=underlying43
 a28:=isAgg43
 z28:=sizeOf43
 v28:=zeroValue43
 t46:=underlying198
 a46:=isAgg198
 z46:=sizeOf198
 v46:=zeroValue198
 t51:=underlying332
 a51:=isAgg332
 z51:=sizeOf332
 v51:=zeroValue332
 t53:=underlying45
 a53:=isAgg45
 z53:=sizeOf45
 v53:=zeroValue45
 t131:=underlying128
 a131:=isAgg128
 z131:=sizeOf128
 v131:=zeroValue128
 t182:=underlying324
 a182:=isAgg324
 z182:=sizeOf324
 v182:=zeroValue324
 t183:=underlying325
 a183:=isAgg325
 z183:=sizeOf325
 v183:=zeroValue325
 t218:=underlying379
 a218:=isAgg379
 z218:=sizeOf379
 v218:=zeroValue379
 t222:=underlying382
 a222:=isAgg382
 z222:=sizeOf382
 v222:=zeroValue382
 t228:=underlying407
 a228:=isAgg407
 z228:=sizeOf407
 v228:=zeroValue407
 t229:=underlying408
 a229:=isAgg408
 z229:=sizeOf408
 v229:=zeroValue408 }
def Qd8{h:List Ob}{l g off N}{row}{zs:List Int}(ho:h[l]? = some ⟨.arr,g,1,N,row⟩)(hn:off+zs.length<=N)(hr:∀i,i<zs.length->row (off+i)=[.raw (.int .i64 (zs.getD i 0))])(hlen:zs.length<4611686018427387904):
  QH prog 127 h [.ref l g off zs.length] (λd h'=>d=.tup []/\h'=h.set l ⟨.arr,g,1,N,kZ off row (sorted zs)⟩):=QrL Tryz.Qd7 ho hn hr hlen
def Qd9(h):QH prog 127 h [.nil] (λd h'=>d=.tup []/\h'=h):=QrV Tryz.Qd7 h
def Cn(d):XC d d:=by unfold XC;split<;>first|exact rfl|simp_all
def Bd:∀l:List D,KA l l
 | []=>trivial
 | d::r=>⟨Cn d,Bd r⟩
def RG(F:List Ob)(f nf:Nat)(Qs:List D)(g:Qq->Bool):Prop:=∀(h:List Ob) (c:Qq),Vj F h->Q6 prog f h (ZT nf Qs [Xm c]) (λd=>d=QT (g c))
structure QrX (t m c:Nat) (es:List Zt) (L:List Qq) (gk:Qq->Bool) (so:D) (F:List Ob) (n:Nat) (s:St):Prop where
 ex:∃seen d out H,xB es seen=n/\Vj F H/\J7 F.length H d out/\out.Perm ((es.filter λe=>seen.contains e.b&&Qp L gk e.k).map (·.k))/\H[F.length]? = some (XQ m c c seen) /\
  s=⟨[(0,.ptr t 0 0 0),(1,so),(5,d),(14,.mref F.length 0)],H⟩
section
variable (h:List Ob)(t m c:Nat){es:List Zt}{L:List Qq}(T:Va es L)(hlen:L.length<1000000)
 (ht:(h.map Ob.ro)[t]? = some ⟨.Vt,0,1,1,λ_=>[.mref m 0]⟩) (hm:(h.map Ob.ro)[m]? = some (QK .i64 c es).ro)
include T ht hm hlen
theorem cY(so:D)(f nf:Nat)(Qs:List D)(hf:Qm prog f)(KZ:Jq so=some (f,nf,Qs))(gk:Qq->Bool)(hg:RG (h.map Ob.ro) f nf Qs gk):
  Wy prog 63 h [.ptr t 0 0 0,so] (λd g=>J7 h.length (h++g) d ((L.filter gk).map (·.iD))):=by
 refine xz Q4 200 func63 rfl ntmps63 results63 rfl λbase w pl F hF Q7 hb=>?_;rw[<- hF]at ht hm;have ZY:=Qb ht;have Zg:=Qb hm;simp only[go_sem,ht,hm];refine QrF (kd:=.PA) (q:=.i64) (l:=m) (c:=c) (es:=es) rfl (by simp only[go_sem,Qe,hm,Zg];rfl) λhB=>?_;refine HJ (QrX t m c es L gk so F) (xB es []) (s0:=⟨[(0,.ptr t 0 0 0),(1,so),(5,.nil),(14,.mref F.length 0)],F++[XQ m c c []]⟩) QM ⟨[],.nil,[],_,rfl,⟨_,rfl⟩,.inl ⟨rfl,rfl⟩,σ,by rw[KV rfl];rfl,rfl⟩ ?_;rintro n s ⟨seen,d,out,H,hn,hx,hs,hp,Xh,rfl⟩;have YE:=hx.get hm;have nN:=Qb YE;have QrY:=Qb Xh;apply Qn hb;refine Qnd hb (li:=F.length) (l:=m) (c:=c) (es:=es) (seen:=seen) (q:=.i64) (kd:=.PA) rfl Xh rfl YE rfl (λKj=>?_) (λe he FJ=>?_)
 .apply Qn hb;have F8:sorted out=(L.filter gk).map (·.iD):=by
   refine QrR (hp.trans ?_) (QrU T.sorted gk);have:(es.filter λe=>seen.contains e.b&&Qp L gk e.k)=es.filter λe=>Qp L gk e.k:=Um λe he=>by
    have:seen.contains e.b=true:=by simpa using Kj e he
    rw[this,O7]
   rw[this];exact T.pick gk
  have cZ:out.length<4611686018427387904:=by
   have h1:out.length=((L.filter gk).map (·.iD)).length:=by rw[<- F8,Ge]
   have h2:=Xx gk L;rw[J1]at h1;omega
  rcases hs with ⟨rfl,rfl⟩|⟨lo,g,off,row,rfl,Zq,ho,hr⟩
  .apply Qn hb;refine Zw hb cB (Qd9 H) λd h hR=>?_;obtain⟨rfl,rfl⟩:=hR;apply Qn hb;exact J7.done Q7 hx (.inl ⟨rfl,by rw[<- F8];simp[sorted]⟩)
  .have Ql:=Qb ho;apply Qn hb;refine Zw hb cB (Qd8 ho (QB _) hr cZ) λd h hR=>?_;obtain⟨rfl,rfl⟩:=hR;apply Qn hb;refine J7.done Q7 (hx.set Zq.1 _) ?_;have RH:((L.filter gk).map (·.iD)).length=out.length:=by rw[<- F8,Ge]
   refine .inr ⟨lo,g,off,kZ off row (sorted out),?_,Zq,?_,?_⟩
   .rw[RH]
   .rw[RH];exact QE Ql
   .rw[F8];intro i hi;unfold kZ;rw[Qd ω,show off+i - off=i by omega];rfl
 .obtain⟨x,hfx,AD,Q8⟩:=T.wj he;rw[AD];have MD:Qp L gk e.k=gk x:=by simp[Qp,hfx]
  obtain⟨H',Gg⟩:∃H',H'=H.set F.length (XQ m c c (seen++[e.b])):=⟨_,rfl⟩;have xp:Vj F H':=by rw[Gg];exact hx.set (QB _) _
  have Nv:H'[F.length]? = some (XQ m c c (seen++[e.b])):=by rw[Gg];exact QE QrY
  have db:J7 F.length H' d out:=by
   rcases hs with hs|⟨lo,g,off,row,h1,h2,h3,h4⟩
   .exact .inl hs
   .refine .inr ⟨lo,g,off,row,h1,h2,?_,h4⟩;rw[Gg,Qr (by rintro rfl;rw[Xh]at h3;cases h3)];exact h3
  have Ea:=xp.get hm;have Qea:=Qb Ea;have nP:=Qb Nv;have Jk:=Qd6 (λe=>Qp L gk e.k) hB.nodup he FJ;have qh:=Qd0 he FJ;rw[<- Gg];apply Qn hb;apply Qn hb;refine QrI (li:=F.length) (l:=m) (c:=c) (es:=es) (seen:=seen) (q:=.i64) (kd:=.PA) (e:=e) rfl Nv rfl Ea he rfl ?_;rw[AD];apply JH hb;apply Qn hb;refine Kw hb hf KZ ?_ (hg _ x ?_) rfl λd2 hR=>?_
  .simp only[go_sem];exact Bd _
  .rw[<- hF];exact xp.app _
  subst hR;apply Qg hb;have cZ:out.length<=es.length:=by
   have h1:=hp.length_eq;rw[J1]at h1;rw[h1];exact Xx _ _
  have QEf:=T.len;simp only[MD]at Jk;cases hgx:gk x
  .simp only[hgx,q7,vN]at Jk;simp only[go_sem];exact⟨xB es (seen++[e.b]),⟨[(0,.ptr t 0 0 0),(1,so),(5,d),(14,.mref F.length 0)],_⟩,ω,QM,⟨⟨seen++[e.b],d,out,_,rfl,xp.app _,db.app _,hp.trans (Jk.map _).symm,by rw[QG nP];exact Nv,rfl⟩⟩⟩
  .simp only[hgx,Vs]at Jk;have de:(out++[e.k]).Perm ((es.filter λx=>(seen++[e.b]).contains x.b&&Qp L gk x.k).map (·.k)):=by
    refine(List.perm_append_comm.trans ?_).trans (Jk.map _).symm;exact hp.cons e.k
   rcases db with ⟨rfl,rfl⟩|⟨lo,g,off,row,rfl,Zq,ho,hr⟩
   .simp only[go_sem,Qe];refine⟨xB es (seen++[e.b]),⟨[(0,.ptr t 0 0 0),(1,so),(5,.ref (H'.length+2) 0 0 1),(14,.mref F.length 0)],_⟩,ω,QM,⟨⟨seen++[e.b],_,[e.k],_,rfl,xp.app _,?_,de,by rw[QG nP];exact Nv,rfl⟩⟩⟩;have:=xp.len;refine .inr ⟨H'.length+2,0,0,_,rfl,ω,by rw[VD rfl];rfl,λi hi=>?_⟩;have:i=0:=by simp at hi;omega
    subst this;rfl
   .have Ql:=Qb ho;have QA:F.length≠lo:=by rintro rfl;rw[Nv]at ho;cases ho
    simp only[go_sem,Qe,ho,Ql];refine⟨ω,xB es (seen++[e.b]),⟨[(0,.ptr t 0 0 0),(1,so),(5,.ref lo (g+1) 0 (out.length+1)),(14,.mref F.length 0)],_⟩,ω,QM,⟨⟨seen++[e.b],_,out++[e.k],_,rfl,?_,?_,de,?_,rfl⟩⟩⟩
    .exact(xp.set Zq.1 _).app _
    .refine .inr ⟨lo,g+1,0,_,σ,ω,?_,Ie hr⟩;rw[QG (by simpa using Ql),QE Ql];simp[Qa]
    .rw[QG (by simpa using nP),Qr (Q3 QA)];exact Nv
end
def W8{h t:List Ob}{l:Nat}{o:Ob}(e:h[l]? = some o):((h++t).map Ob.ro)[l]? = some o.ro:=ZC (by rw[QG (Qb e)];exact e)
def J7.le{n n'}{H}{d}{L}(x:J7 n H d L)(hn:n'<=n):J7 n' H d L:=by
 rcases x with x|⟨lo,gg,off,row,h1,h2,h3,h4⟩
 .exact .inl x
 .exact .inr ⟨lo,gg,off,row,h1,ω,h3,h4⟩
def Qr0(h:List Ob)(lb)(id)(x:Qq)(hl:(h.map Ob.ro)[lb]? = some ⟨.Vt,0,1,1,λ_=>[Qa id]⟩):Q6 prog 302 h [Xm x,.ptr lb 0 0 0] (λd=>d=QT (x.parent==id)):=by
 refine xD func302 ntmps302 results302 λbase w pl F hF Q7 hb=>?_;rw[<- hF]at hl;have df:=Qb hl;simp only[go_sem,Qe,hl,df];exact⟨_,rfl⟩
def WE(L:List Qq)(id:Int):List Int:=(L.filter λx=>x.parent==id).map (·.iD)
section
variable (h:List Ob)(t m c:Nat){es:List Zt}{L:List Qq}(T:Va es L)(hlen:L.length<1000000)
 (ht:(h.map Ob.ro)[t]? = some ⟨.Vt,0,1,1,λ_=>[.mref m 0]⟩) (hm:(h.map Ob.ro)[m]? = some (QK .i64 c es).ro)
include T ht hm hlen
theorem nQ(id):Wy prog 271 h [.ptr t 0 0 0,Qa id] (λd g=>J7 h.length (h++g) d (WE L id)):=by
 refine xz Q4 200 func271 rfl ntmps271 results271 rfl λbase w pl F hF Q7 hb=>?_;rw[<- hF]at ht hm;have ZY:=Qb ht;have Zg:=Qb hm;simp only[go_sem];have hx:Vj F (F++([⟨.one,0,1,1,λ_=>[Qa id]⟩]:List Ob)):=⟨_,rfl⟩;have hT:RG ((F++([⟨.one,0,1,1,λ_=>[Qa id]⟩]:List Ob)).map Ob.ro) 302 0 [.ptr F.length 0 0 0] (λx=>x.parent==id):=λh' x xp=>Qr0 h' F.length id x (by
  have e:=xp.get (l:=F.length) (o:=⟨.Vt,0,1,1,λ_=>[Qa id]⟩) (by rw[vK,KV σ];rfl);exact ZC e)
 refine Cc hb cu rfl ?_ (cY _ t m c T hlen (ZC (hx.get ht)) (DZ (hx.get hm)) (.clo 302 0 [.ptr F.length 0 0 0]) 302 0 [.ptr F.length 0 0 0] Qre rfl _ hT) rfl λd g hs=>?_
 .simp only[go_sem]
 apply JH hb;have Jv:=hs.le (n':=F.length) σ;rw[V9]at Jv;exact J7.done Q7 ⟨_,rfl⟩ Jv
def jS(L:List Qq)(x:Qq)(dp:Nat):Int:=
 if KN x≠0 then KN x
 else if (Qx L x.iD).isSome then 8
 else if L.length=64 then 5
 else if (x.parent≠0/\(Qx L x.parent).isNone)\/((Qx L x.parent).getD default).leaf=true then 23
 else if 1<QR x.ls/\Xn L x.parent=false then 29
 else if dp=16 then 25
 else 0
end
section
variable (h:List Ob)(t m c:Nat){es:List Zt}{L:List Qq}(T:Va es L)(hlen:L.length<1000000)
 (ht:h[t]? = some ⟨.one,0,1,1,λ_=>[.mref m 0]⟩) (hm:h[m]? = some (QK .i64 c es))
include T ht hm hlen
structure WG (h:List Ob) (t m:Nat) (L:List Qq) (h':List Ob):Prop where
 ex:∃c es,h'[t]? = some ⟨.one,0,1,1,λ_=>[.mref m 0]⟩/\h'[m]? = some (QK .i64 c es)/\Va es L
 len:h.length<=h'.length
 J3:∀l,l<h.length->l≠m->h'[l]? = h[l]?
omit T hlen in
theorem WG.same(T:Va es L)(g):WG h t m L (h++g):=
 ⟨⟨c,es,by rw[QG (Qb ht)];exact ht,by rw[QG (Qb hm)];exact hm,T⟩,σ,λl hl _=>QG hl⟩
omit hlen in
theorem WG.QV(x:Qq)(g):WG h t m (VK L x) (h.set m (JZ .i64 c es x.iD (Xm x))++g):=by
 obtain⟨c',es',e,T'⟩:=QrQ T .i64 c x;have Zg:=Qb hm;have ZY:=Qb ht;have QA:m≠t:=by rintro rfl;rw[ht]at hm;cases hm
 rw[e];refine⟨⟨c',es',?_,?_,T'⟩,σ,λl hl Jp=>?_⟩
 .rw[QG (by simpa using ZY),Qr QA];exact ht
 .rw[QG (by simpa using Zg),QE Zg]
 .rw[QG (by simpa using hl),Qr (Q3 Jp)]
omit hlen in
theorem Qr1(x:Qq)(N)(hN:N<1000000)(hE:Ends L N x.parent):QH prog 62 h [.ptr t 0 0 0,Xm x] (λd h'=>d=Qa (jS L x (Jr L N x.parent).length)/\WG h t m (if jS L x (Jr L N x.parent).length=0 then VK L x else L) h'):=by
 have hk:=T.look x.iD;have Jf:=T.look x.parent;have Xy:=T.len;have ZY:=Qb ht;have Zg:=Qb hm;obtain⟨E,jT⟩:∃E,E=jS L x (Jr L N x.parent).length:=⟨_,rfl⟩;rw[<- jT];have bad:∀g:List Ob,E≠0->WG h t m (if E=0 then VK L x else L) (h++g):=λg QA=>by rw[Qc QA];exact WG.same h t m c ht hm T g
 refine QQ func62 ntmps62 results62 λbase w pl hb=>?_;have ZY:=Qb ht;have Zg:=Qb hm;simp only[go_sem,Qe];apply ZK hb Qdf (QdY x);apply JH hb;by_cases h0:KN x=0;case neg=>
  have e:E=KN x:=by rw[jT,jS,Qd h0]
  simp only[go_sem,Xl h0,bne];exact⟨by rw[e],bad _ (by rw[e];exact h0)⟩
 simp only[go_sem,qN h0,bne];cases Co:Qx L x.iD with
 | some y=>
  have e:E=8:=by rw[jT,jS,Qc (by simpa using h0),Qd (by simp[Co])]
  rw[Co,KK]at hk;apply QF hb o9;simp only[go_sem,Qe,ht,hm,ZY,Zg,hk];cases zg:Qx L x.parent with
  | none=>
   rw[zg,YV]at Jf;apply QF hb o9;simp only[go_sem,Qe,ht,hm,ZY,Zg,Jf];exact⟨by rw[e],bad _ (by rw[e];decide)⟩
  | some z=>
   rw[zg,KK]at Jf;apply QF hb o9;simp only[go_sem,Qe,ht,hm,ZY,Zg,Jf];exact⟨by rw[e],bad _ (by rw[e];decide)⟩
 | none=>
  rw[Co,YV]at hk;apply QF hb o9;simp only[go_sem,Qe,ht,hm,ZY,Zg,hk];have a1:E=(if L.length=64 then 5 else if (x.parent≠0/\(Qx L x.parent).isNone)\/((Qx L x.parent).getD default).leaf=true then 23 else if 1<QR x.ls/\Xn L x.parent=false then 29 else if (Jr L N x.parent).length=16 then 25 else 0):=by
   rw[jT,jS,Qc (by simpa using h0),Qc (by simp[Co])]
  by_cases If:L.length=64
  .have e:E=5:=by rw[a1,Qd If]
   have Eb:((es.length:Int)==64)=true:=ξ;cases zg:Qx L x.parent with
   | none=>
    rw[zg,YV]at Jf;apply QF hb o9;simp only[go_sem,Qe,ht,hm,ZY,Zg,Jf,Eb];exact⟨by rw[e],bad _ (by rw[e];decide)⟩
   | some z=>
    rw[zg,KK]at Jf;apply QF hb o9;simp only[go_sem,Qe,ht,hm,ZY,Zg,Jf,Eb];exact⟨by rw[e],bad _ (by rw[e];decide)⟩
  rw[Qc If]at a1;have Eb:((es.length:Int)==64)=false:=ξ;cases zg:Qx L x.parent with
  | none=>
   rw[zg,YV]at Jf;by_cases hp0:x.parent=0
   .apply QF hb o9;simp only[go_sem,Qe,ht,hm,ZY,Zg,Jf,Eb,qN hp0,bne];have a2:E=(if 1<QR x.ls/\Xn L x.parent=false then 29 else if (Jr L N x.parent).length=16 then 25 else 0):=by rw[a1,Qc (by rw[zg];rintro (⟨h1,_⟩|h1);exact h1 hp0;cases h1)]
    apply ZK hb kX (kY x);apply JH hb;cases ZZ:decide (1<QR x.ls)
    .simp only[go_sem,Qe,Go.undef];apply ZQ hb No (Nu _ t m c T (W8 ht) (W8 hm) x.parent N hN hE);apply Qn hb;by_cases hd:(Jr L N x.parent).length=16
     .have e:E=25:=by rw[a2,Qc (by simp at ZZ;omega),Qd hd]
      have KI:(((Jr L N x.parent).length:Int)==16)=true:=ξ;simp only[go_sem,KI];exact⟨by rw[e],bad _ (by rw[e];decide)⟩
     .have e:E=0:=by rw[a2,Qc (by simp at ZZ;omega),Qc hd]
      have KI:(((Jr L N x.parent).length:Int)==16)=false:=ξ;simp only[go_sem,KI];apply QF hb ol;simp only[go_sem,Qe,ht,hm,ZY,Zg];rw[Qd e];exact⟨by rw[e],WG.QV h t m c T ht hm x _⟩
    .simp only[go_sem,Qe,Go.undef];apply ZQ hb cA (cX _ t m c T (W8 ht) (W8 hm) x.parent);apply Qn hb;cases Jv:Xn L x.parent
     .have e:E=29:=by rw[a2,Qd ⟨by simpa using ZZ,Jv⟩]
      simp only[go_sem];exact⟨by rw[e],bad _ (by rw[e];decide)⟩
     .simp only[go_sem,Qe];apply ZQ hb No (Nu _ t m c T (W8 ht) (W8 hm) x.parent N hN hE);apply Qn hb;by_cases hd:(Jr L N x.parent).length=16
      .have e:E=25:=by rw[a2,Qc (by rw[Jv];simp),Qd hd]
       have KI:(((Jr L N x.parent).length:Int)==16)=true:=ξ;simp only[go_sem,KI];exact⟨by rw[e],bad _ (by rw[e];decide)⟩
      .have e:E=0:=by rw[a2,Qc (by rw[Jv];simp),Qc hd]
       have KI:(((Jr L N x.parent).length:Int)==16)=false:=ξ;simp only[go_sem,KI];apply QF hb ol;simp only[go_sem,Qe,ht,hm,ZY,Zg];rw[Qd e];exact⟨by rw[e],WG.QV h t m c T ht hm x _⟩
   .have e:E=23:=by rw[a1,Qd (.inl ⟨hp0,by simp[zg]⟩)]
    apply QF hb o9;simp only[go_sem,Qe,ht,hm,ZY,Zg,Jf,Eb,Xl hp0,bne];exact⟨by rw[e],bad _ (by rw[e];decide)⟩
  | some z=>
   rw[zg,KK]at Jf;cases hz:z.leaf with
   | true=>
    have e:E=23:=by rw[a1,Qd (.inr (by simp[zg,hz]))]
    by_cases hp0:x.parent=0
    .apply QF hb o9;simp only[go_sem,Qe,ht,hm,ZY,Zg,Jf,Eb,qN hp0,bne,hz];exact⟨by rw[e],bad _ (by rw[e];decide)⟩
    .apply QF hb o9;simp only[go_sem,Qe,ht,hm,ZY,Zg,Jf,Eb,Xl hp0,bne,hz];exact⟨by rw[e],bad _ (by rw[e];decide)⟩
   | false=>
    by_cases hp0:x.parent=0
    .apply QF hb o9;simp only[go_sem,Qe,ht,hm,ZY,Zg,Jf,Eb,qN hp0,bne,hz];have a2:E=(if 1<QR x.ls/\Xn L x.parent=false then 29 else if (Jr L N x.parent).length=16 then 25 else 0):=by rw[a1,Qc (by rw[zg];rintro (⟨h1,_⟩|h1);exact h1 hp0;exact absurd h1 (by simp[hz]))]
     apply ZK hb kX (kY x);apply JH hb;cases ZZ:decide (1<QR x.ls)
     .simp only[go_sem,Qe,Go.undef];apply ZQ hb No (Nu _ t m c T (W8 ht) (W8 hm) x.parent N hN hE);apply Qn hb;by_cases hd:(Jr L N x.parent).length=16
      .have e:E=25:=by rw[a2,Qc (by simp at ZZ;omega),Qd hd]
       have KI:(((Jr L N x.parent).length:Int)==16)=true:=ξ;simp only[go_sem,KI];exact⟨by rw[e],bad _ (by rw[e];decide)⟩
      .have e:E=0:=by rw[a2,Qc (by simp at ZZ;omega),Qc hd]
       have KI:(((Jr L N x.parent).length:Int)==16)=false:=ξ;simp only[go_sem,KI];apply QF hb ol;simp only[go_sem,Qe,ht,hm,ZY,Zg];rw[Qd e];exact⟨by rw[e],WG.QV h t m c T ht hm x _⟩
     .simp only[go_sem,Qe,Go.undef];apply ZQ hb cA (cX _ t m c T (W8 ht) (W8 hm) x.parent);apply Qn hb;cases Jv:Xn L x.parent
      .have e:E=29:=by rw[a2,Qd ⟨by simpa using ZZ,Jv⟩]
       simp only[go_sem];exact⟨by rw[e],bad _ (by rw[e];decide)⟩
      .simp only[go_sem,Qe];apply ZQ hb No (Nu _ t m c T (W8 ht) (W8 hm) x.parent N hN hE);apply Qn hb;by_cases hd:(Jr L N x.parent).length=16
       .have e:E=25:=by rw[a2,Qc (by rw[Jv];simp),Qd hd]
        have KI:(((Jr L N x.parent).length:Int)==16)=true:=ξ;simp only[go_sem,KI];exact⟨by rw[e],bad _ (by rw[e];decide)⟩
       .have e:E=0:=by rw[a2,Qc (by rw[Jv];simp),Qc hd]
        have KI:(((Jr L N x.parent).length:Int)==16)=false:=ξ;simp only[go_sem,KI];apply QF hb ol;simp only[go_sem,Qe,ht,hm,ZY,Zg];rw[Qd e];exact⟨by rw[e],WG.QV h t m c T ht hm x _⟩
    .apply QF hb o9;simp only[go_sem,Qe,ht,hm,ZY,Zg,Jf,Eb,Xl hp0,bne,hz];have a2:E=(if 1<QR x.ls/\Xn L x.parent=false then 29 else if (Jr L N x.parent).length=16 then 25 else 0):=by rw[a1,Qc (by simp[zg,hz])]
     apply ZK hb kX (kY x);apply JH hb;cases ZZ:decide (1<QR x.ls)
     .simp only[go_sem,Qe,Go.undef];apply ZQ hb No (Nu _ t m c T (W8 ht) (W8 hm) x.parent N hN hE);apply Qn hb;by_cases hd:(Jr L N x.parent).length=16
      .have e:E=25:=by rw[a2,Qc (by simp at ZZ;omega),Qd hd]
       have KI:(((Jr L N x.parent).length:Int)==16)=true:=ξ;simp only[go_sem,KI];exact⟨by rw[e],bad _ (by rw[e];decide)⟩
      .have e:E=0:=by rw[a2,Qc (by simp at ZZ;omega),Qc hd]
       have KI:(((Jr L N x.parent).length:Int)==16)=false:=ξ;simp only[go_sem,KI];apply QF hb ol;simp only[go_sem,Qe,ht,hm,ZY,Zg];rw[Qd e];exact⟨by rw[e],WG.QV h t m c T ht hm x _⟩
     .simp only[go_sem,Qe];apply ZQ hb cA (cX _ t m c T (W8 ht) (W8 hm) x.parent);apply Qn hb;cases Jv:Xn L x.parent
      .have e:E=29:=by rw[a2,Qd ⟨by simpa using ZZ,Jv⟩]
       simp only[go_sem];exact⟨by rw[e],bad _ (by rw[e];decide)⟩
      .simp only[go_sem,Qe];apply ZQ hb No (Nu _ t m c T (W8 ht) (W8 hm) x.parent N hN hE);apply Qn hb;by_cases hd:(Jr L N x.parent).length=16
       .have e:E=25:=by rw[a2,Qc (by rw[Jv];simp),Qd hd]
        have KI:(((Jr L N x.parent).length:Int)==16)=true:=ξ;simp only[go_sem,KI];exact⟨by rw[e],bad _ (by rw[e];decide)⟩
       .have e:E=0:=by rw[a2,Qc (by rw[Jv];simp),Qc hd]
        have KI:(((Jr L N x.parent).length:Int)==16)=false:=ξ;simp only[go_sem,KI];apply QF hb ol;simp only[go_sem,Qe,ht,hm,ZY,Zg];rw[Qd e];exact⟨by rw[e],WG.QV h t m c T ht hm x _⟩
end
def Be(L:List Qq)(id:Int):Int:=if (Qx L id).isNone then 6 else if WE L id≠[] then 23 else 0
section
variable (h:List Ob)(t m c:Nat){es:List Zt}{L:List Qq}(T:Va es L)(hlen:L.length<1000000)
 (ht:h[t]? = some ⟨.one,0,1,1,λ_=>[.mref m 0]⟩) (hm:h[m]? = some (QK .i64 c es))
include T ht hm hlen
omit hlen T in
theorem WG.put{c'}{es'}{L'}(T':Va es' L')(g):WG h t m L' (h.set m (QK .i64 c' es')++g):=by
 have Zg:=Qb hm;have ZY:=Qb ht;have QA:m≠t:=by rintro rfl;rw[ht]at hm;cases hm
 refine⟨⟨c',es',?_,?_,T'⟩,σ,λl hl Jp=>?_⟩
 .rw[QG (by simpa using ZY),Qr QA];exact ht
 .rw[QG (by simpa using Zg),QE Zg]
 .rw[QG (by simpa using hl),Qr (Q3 Jp)]
theorem Qr2(id):QH prog 225 h [.ptr t 0 0 0,Qa id] (λd h'=>d=Qa (Be L id)/\WG h t m (if Be L id=0 then WV L id else L) h'):=by
 have hk:=T.look id;have ZY:=Qb ht;have Zg:=Qb hm;obtain⟨E,jT⟩:∃E,E=Be L id:=⟨_,rfl⟩;rw[<- jT];have bad:∀g:List Ob,E≠0->WG h t m (if E=0 then WV L id else L) (h++g):=λg QA=>by rw[Qc QA];exact WG.same h t m c ht hm T g
 cases hf:Qx L id with
 | none=>
  have e:E=6:=by rw[jT,Be,Qd (by simp[hf])]
  rw[hf,YV]at hk;refine QQ func225 ntmps225 results225 λbase w pl hb=>?_;have ZY:=Qb ht;have Zg:=Qb hm;simp only[go_sem,Qe,ht,hm,hk];exact⟨by rw[e],bad _ (by rw[e];decide)⟩
 | some x=>
  rw[hf,KK]at hk;have a1:E=if WE L id≠[] then 23 else 0:=by rw[jT,Be,Qc (by simp[hf])]
  refine QQ func225 ntmps225 results225 λbase w pl hb=>?_;have ZY:=Qb ht;have Zg:=Qb hm;simp only[go_sem,Qe,ht,hm,hk];refine Cc hb mW rfl ?_ (nQ _ t m c T hlen (W8 ht) (W8 hm) id) rfl λd g hs=>?_
  .simp only[go_sem]
  rcases hs with ⟨rfl,h0⟩|⟨lo,gn,off,row,rfl,Zq,ho,hr⟩
  .have e:E=0:=by rw[a1,Qc (by simp[h0])]
   apply Qg hb;simp only[go_sem,Qe,ht,hm,ZY,Zg];rw[Qd e];exact⟨by rw[e],WG.put h t m c ht hm (Qd4 T id) _⟩
  .have Ql:=Qb ho;apply Qg hb;by_cases h0:WE L id=[]
   .have e:E=0:=by rw[a1,Qc (by simp[h0])]
    simp only[go_sem,Qe,ht,hm,ZY,Zg,h0];rw[Qd e];exact⟨by rw[e],WG.put h t m c ht hm (Qd4 T id) _⟩
   .have e:E=23:=by rw[a1,Qd h0]
    have YZ:0<(WE L id).length:=QpJ.2 h0;have YF:(0:Int)<((WE L id).length:Int):=ω;simp only[go_sem,Qe,YF];exact⟨by rw[e],bad _ (by rw[e];decide)⟩
end
def nR(h:List Ob):(h.map Ob.ro).map Ob.ro=h.map Ob.ro:=by rw[Fl];exact Pg λo _=>ro_ro o
def Qec(F:List Ob)(f nf:Nat)(Qs:List D)(g:Int->Bool):Prop:=∀(h:List Ob) (n:Int),Vj F h->Q6 prog f h (ZT nf Qs [Qa n]) (λd=>d=QT (g n))
def wk(g:Int->Bool)(l:List Int):Int:=match l.findIdx? g with
 | some i=>i
 | none=>-1
def nT{g}{l:List Int}{k}(hk:k<l.length)(h:∀i,i<k->g (l.getD i 0)=false)(hg:g (l.getD k 0)=true):wk g l=k:=by
 have e:l.findIdx? g=some k:=by
  rw[Fi];refine⟨hk,by simpa[Q5,hk] using hg,λi hi=>?_⟩;have:=h i hi;simpa[Q5,show i<l.length by omega] using this
 rw[wk,e]
def nU{g}{l:List Int}(h:∀i,i<l.length->g (l.getD i 0)=false):wk g l=-1:=by
 have e:l.findIdx? g=none:=by
  rw[He];intro x hx;obtain⟨i,hi,rfl⟩:=wZ hx;have:=h i hi;simpa[Q5,hi] using this
 rw[wk,e]
section
variable (h:List Ob)(l:List Int)(lo gn off:Nat)(row:Nat->List D)(hlen:l.length<1000000)(ho:(h.map Ob.ro)[lo]? = some ⟨.yl,gn,1,off+l.length,row⟩)(hr:∀i,i<l.length->row (off+i)=[Qa (l.getD i 0)])
include hlen ho hr
theorem Qed(so:D)(f nf:Nat)(Qs:List D)(hf:Qm prog f)(KZ:Jq so=some (f,nf,Qs))(gk:Int->Bool)(hg:Qec (h.map Ob.ro) f nf Qs gk):
  Q6 prog 128 h [.ref lo gn off l.length,so] (λd=>d=Qa (wk gk l)):=by
 refine xD func128 ntmps128 results128 λbase w pl F hF Q7 hb=>?_;rw[<- hF]at ho;have Ql:=Qb ho;simp only[go_sem];refine Z3 (λk s=>(∀i,i<k->gk (l.getD i 0)=false)/\s=⟨[(0,.ref lo gn off l.length),(1,so),(7,Qa l.length),(8,Qa k)],F⟩) l.length QM ⟨λi hi=>absurd hi ω,rfl⟩ ?_;rintro k s hk ⟨hn,rfl⟩;apply Qn hb;have Ql:=Qb ho;have Zb:=J9 (show k<4611686018427387904 from ω);first|refine jO hk (λQj=>?_) (λQj=>?_)|refine jP hk (λQj=>?_) (λQj=>?_)
 .have wm:=hr k Qj;have zj:off+k<off+l.length:=ω;simp only[go_sem,ho,Qj,wm,zj];refine Kw hb hf KZ ?_ (hg F (l.getD k 0) (by rw[<- hF];exact Vj.refl F)) rfl λd2 hR=>?_
  .simp only[go_sem];exact Bd _
  subst hR;apply Qg hb;cases be:gk (l.getD k 0)
  .simp only[go_sem];refine⟨Qj,_,Qz.frame (by simp only[go_sem,Zb]),λi hi=>?_,rfl⟩;by_cases h1:i<k
   .exact hn i h1
   .have:i=k:=ω;subst this;exact be
  .rw[nT Qj hn be];simp only[go_sem];exact⟨[],(JI F).symm⟩
 .have Qj:k=l.length:=ω;subst Qj;simp only[go_sem,Mb];rw[nU hn];apply Qn hb;exact⟨[],(JI F).symm⟩
theorem Qr3(so:D)(f nf:Nat)(Qs:List D)(hf:Qm prog f)(KZ:Jq so=some (f,nf,Qs))(gk:Int->Bool)(hg:Qec (h.map Ob.ro) f nf Qs gk):
  Q6 prog 141 h [.ref lo gn off l.length,so] (λd=>d=QT (decide (0<=wk gk l))):=by
 refine xD func141 ntmps141 results141 λbase w pl F hF Q7 hb=>?_;rw[<- hF]at ho;have Ql:=Qb ho;simp only[go_sem];refine Kw hb H9 rfl ?_ (Qed F l lo gn off row hlen (ZC ho) hr so f nf Qs hf KZ gk (λh' n hx=>?_)) rfl λd2 hR=>?_
 .simp only[go_sem];exact Cn so
 .rw[hF,nR]at hx;exact hg h' n hx
 subst hR;apply Qn hb;exact⟨[],(JI F).symm⟩
end
def nV(h)(so):Q6 prog 128 h [.nil,so] (λd=>d=Qa (-1)):=by
 refine xD func128 ntmps128 results128 λbase w pl F hF Q7 hb=>?_;simp only[go_sem];refine Z3 (λk s=>s=⟨[(7,Qa 0),(8,Qa 0)],F⟩) 0 QM rfl ?_;rintro k s hk rfl;apply Qn hb;apply Qn hb;exact⟨[],(JI F).symm⟩
def Qr4(h)(so):Q6 prog 141 h [.nil,so] (λd=>d=QT false):=by
 refine xD func141 ntmps141 results141 λbase w pl F hF Q7 hb=>?_;simp only[go_sem];refine Kw hb H9 rfl ?_ (nV F so) rfl λd2 hR=>?_
 .simp only[go_sem];exact Cn so
 subst hR;apply Qn hb;exact⟨[],(JI F).symm⟩
def dh(g)(l:List Int):decide (0<=wk g l)=l.any g:=by
 unfold wk;cases h:l.findIdx? g with
 | some i=>
  have:=Fi.1 h;obtain⟨h1,h2,_⟩:=this;have e:l.any g=true:=BN.2 ⟨_,YU h1,h2⟩;rw[e];simp
 | none=>
  have:=He.1 h;have e:l.any g=false:=by rw[List.any_eq_false];intro x hx;simp[this x hx]
  rw[e];decide
def k9(L:List Qq)(id:Int):Bool:=decide (1<QR ((Qx L id).getD default).ls)
def Bf(L:List Qq)(x:Qq):Int:=
 if KN x≠0 then KN x
 else if (Qx L x.iD).isNone then 6
 else if x.parent≠((Qx L x.iD).getD default).parent\/x.leaf≠((Qx L x.iD).getD default).leaf then 1
 else if (1<QR x.ls/\Xn L x.parent=false)\/(¬ 1<QR x.ls/\(WE L x.iD).any (k9 L)=true) then 29
 else 0
section
variable (h:List Ob)(t m c tb:Nat){es:List Zt}{L:List Qq}(T:Va es L)
 (ht:(h.map Ob.ro)[t]? = some ⟨.Vt,0,1,1,λ_=>[.mref m 0]⟩) (hm:(h.map Ob.ro)[m]? = some (QK .i64 c es).ro)
 (Zp:(h.map Ob.ro)[tb]? = some ⟨.Vt,0,1,1,λ_=>[.ptr t 0 0 0]⟩)
include T ht hm Zp
theorem Qr5(id):Q6 prog 270 h [Qa id,.ptr tb 0 0 0] (λd=>d=QT (k9 L id)):=by
 have hk:=T.look id;unfold k9;cases hf:Qx L id with
 | none=>
  rw[hf,YV]at hk;refine xD func270 ntmps270 results270 λbase w pl F hF Q7 hb=>?_;rw[<- hF]at ht hm Zp;have ZY:=Qb ht;have Zg:=Qb hm;have Nw:=Qb Zp;simp only[go_sem,ht,hm,Zp,hk];apply ZK hb kX (kY ⟨0,0,false,⟨0,0,0⟩,⟨0,0,0⟩,⟨0,0,0⟩,0,0⟩);apply Qn hb;exact⟨[],(JI F).symm,rfl⟩
 | some x=>
  rw[hf,KK]at hk;refine xD func270 ntmps270 results270 λbase w pl F hF Q7 hb=>?_;rw[<- hF]at ht hm Zp;have ZY:=Qb ht;have Zg:=Qb hm;have Nw:=Qb Zp;simp only[go_sem,ht,hm,Zp,hk];apply ZK hb kX (kY x);apply Qn hb;exact⟨[],σ⟩
end
section
variable (h:List Ob)(t m c:Nat){es:List Zt}{L:List Qq}(T:Va es L)(hlen:L.length<1000000)
 (ht:h[t]? = some ⟨.one,0,1,1,λ_=>[.mref m 0]⟩) (hm:h[m]? = some (QK .i64 c es))
include T ht hm hlen
theorem Qr6(x):QH prog 223 h [.ptr t 0 0 0,Xm x] (λd h'=>d=Qa (Bf L x)/\WG h t m (if Bf L x=0 then VK L x else L) h'):=by
 have hk:=T.look x.iD;have ZY:=Qb ht;have Zg:=Qb hm;obtain⟨E,jT⟩:∃E,E=Bf L x:=⟨_,rfl⟩;rw[<- jT];have bad:∀g:List Ob,E≠0->WG h t m (if E=0 then VK L x else L) (h++g):=λg QA=>by rw[Qc QA];exact WG.same h t m c ht hm T g
 refine QQ func223 ntmps223 results223 λbase w pl hb=>?_;have ZY:=Qb ht;have Zg:=Qb hm;simp only[go_sem,Qe];apply ZK hb Qdf (QdY x);apply JH hb;by_cases h0:KN x=0;case neg=>
  have e:E=KN x:=by rw[jT,Bf,Qd h0]
  simp only[go_sem,Xl h0,bne];exact⟨by rw[e],bad _ (by rw[e];exact h0)⟩
 simp only[go_sem,qN h0,bne];cases Co:Qx L x.iD with
 | none=>
  have e:E=6:=by rw[jT,Bf,Qc (by simpa using h0),Qd (by simp[Co])]
  rw[Co,YV]at hk;apply QF hb o9;simp only[go_sem,Qe,ht,hm,ZY,Zg,hk];exact⟨by rw[e],bad _ (by rw[e];decide)⟩
 | some y=>
  rw[Co,KK]at hk;have a1:E=(if x.parent≠y.parent\/x.leaf≠y.leaf then 1 else if (1<QR x.ls/\Xn L x.parent=false)\/(¬ 1<QR x.ls/\(WE L x.iD).any (k9 L)=true) then 29 else 0):=by
   rw[jT,Bf,Qc (by simpa using h0),Qc (by simp[Co]),Co];rfl
  by_cases hp:x.parent=y.parent;case neg=>
   have e:E=1:=by rw[a1,Qd (.inl hp)]
   apply QF hb o9;simp only[go_sem,Qe,ht,hm,ZY,Zg,hk,Xl hp,bne];exact⟨by rw[e],bad _ (by rw[e];decide)⟩
  by_cases hl:x.leaf=y.leaf;case neg=>
   have e:E=1:=by rw[a1,Qd (.inr hl)]
   have Jp:(x.leaf==y.leaf)=false:=by simpa using hl
   apply QF hb o9;simp only[go_sem,Qe,ht,hm,ZY,Zg,hk,qN hp,bne,Jp];exact⟨by rw[e],bad _ (by rw[e];decide)⟩
  have Jp:(x.leaf==y.leaf)=true:=by simpa using hl
  rw[Qc (by simp[hp,hl])]at a1;apply QF hb o9;simp only[go_sem,Qe,ht,hm,ZY,Zg,hk,qN hp,bne,Jp];apply ZK hb kX (kY x);apply JH hb;cases ZZ:decide (1<QR x.ls)
  .have Nx:¬ 1<QR x.ls:=by simpa using ZZ
   simp only[go_sem,Qe,Go.undef];apply ZK hb kX (kY x);apply Qg hb;simp only[go_sem,Qe,ZZ];refine Cc hb mW rfl ?_ (nQ _ t m c T hlen (W8 ht) (W8 hm) x.iD) rfl λd g hs=>?_
   .simp only[go_sem]
   rcases hs with ⟨rfl,Ny⟩|⟨lo,gn,off,row,rfl,Zq,ho,hr⟩
   .have e:E=0:=by rw[a1,Qc (by rintro (⟨h1,_⟩|⟨_,h1⟩);exact Nx h1;rw[Ny]at h1;simp at h1)]
    apply JH hb;apply ZQ hb RC (Qr4 _ (.clo 270 0 [.ptr h.length 0 0 0]));apply Qn hb;apply QF hb ol;simp only[go_sem,Qe,ht,hm,ZY,Zg];rw[Qd e];exact⟨by rw[e],WG.QV h t m c T ht hm x _⟩
   .apply Qg hb;have Z7:(WE L x.iD).length<1000000:=by
     have:=Xx (λy:Qq=>y.parent==x.iD) L;unfold WE;rw[J1];omega
    rw[V9]at ho;simp only[go_sem,Qe];apply ZQ hb RC (Qr3 _ (WE L x.iD) lo gn off row Z7 (ZC ho) hr (.clo 270 0 [.ptr h.length 0 0 0]) 270 0 [.ptr h.length 0 0 0] Qq5 rfl (k9 L) (λh' n hx=>Qr5 h' t m c h.length T (ZC (hx.get (W8 ht))) (DZ (hx.get (W8 hm))) (ZC (hx.get (ZC (o:=⟨.one,0,1,1,λ_=>[.ptr t 0 0 0]⟩) (by rw[KV rfl];rfl)))) n));apply Qg hb;simp only[go_sem,dh];cases Gi:(WE L x.iD).any (k9 L)
    .have e:E=0:=by rw[a1,Qc (by rw[Gi];simp[Nx])]
     simp only[go_sem];apply QF hb ol;simp only[go_sem,Qe,ht,hm,ZY,Zg];rw[Qd e];exact⟨by rw[e],WG.QV h t m c T ht hm x _⟩
    .have e:E=29:=by rw[a1,Qd (.inr ⟨Nx,Gi⟩)]
     simp only[go_sem];exact⟨by rw[e],bad _ (by rw[e];decide)⟩
  .have Nx:1<QR x.ls:=by simpa using ZZ
   simp only[go_sem,Qe];apply ZQ hb cA (cX _ t m c T (W8 ht) (W8 hm) x.parent);apply Qn hb;cases Jv:Xn L x.parent
   .have e:E=29:=by rw[a1,Qd (.inl ⟨Nx,Jv⟩)]
    simp only[go_sem,Go.undef];exact⟨by rw[e],bad _ (by rw[e];decide)⟩
   .have e:E=0:=by rw[a1,Qc (by rw[Jv];simp[Nx])]
    simp only[go_sem,Qe,Go.undef];apply ZK hb kX (kY x);apply Qg hb;simp only[go_sem,Qe,ZZ,Go.undef];apply QF hb ol;simp only[go_sem,Qe,ht,hm,ZY,Zg];rw[Qd e];exact⟨by rw[e],WG.QV h t m c T ht hm x _⟩
end
def yM{L}(h:WU L)(x:Qq)(k):Qx (VK L x) k=if k=x.iD then some x else Qx L k:=by
 have hr:=Nt x h;have hm:=λc=>(Gf x h).mem_iff (a:=c);by_cases hk:k=x.iD
 .rw[Qd hk];exact(J6 hr).2 ⟨(hm x).2 σ,hk.symm⟩
 .rw[Qc hk];cases hf:Qx L k with
  | some c=>
   obtain⟨h1,h2⟩:=(J6 h).1 hf;exact(J6 hr).2 ⟨(hm c).2 (QD.2 (.inr (Jt.2 ⟨h1,ξ⟩))),h2⟩
  | none=>
   rw[yL]at hf ⊢;intro c hc;rcases QD.1 ((hm c).1 hc) with rfl|hc
   .exact λe=>hk e.symm
   .exact hf c (Jt.1 hc).1
def RI{L}(h:WU L)(k0 k):Qx (WV L k0) k=if k=k0 then none else Qx L k:=by
 have hr:=nJ k0 h;by_cases hk:k=k0
 .rw[Qd hk,yL];intro c hc;have:=(Jt.1 hc).2;simp at this;omega
 .rw[Qc hk];cases hf:Qx L k with
  | some c=>
   obtain⟨h1,h2⟩:=(J6 h).1 hf;exact(J6 hr).2 ⟨Jt.2 ⟨h1,ξ⟩,h2⟩
  | none=>
   rw[yL]at hf ⊢;exact λc hc=>hf c (Jt.1 hc).1
def Ends.succ{L}:∀{n:Nat} {id:Int},Ends L n id->Ends L (n+1) id
 | 0,id,h=>by simp only[Ends]at h ⊢;rw[h];trivial
 | n+1,id,h=>by
  rw[Ends]at h ⊢;cases hf:Qx L id with
  | none=>trivial
  | some c=>rw[hf]at h;exact Ends.succ h
def Ends.le{L}{n k}{id}(h:Ends L n id)(hk:n<=k):Ends L k id:=by
 induction hk with
 | refl=>exact h
 | step _ ih=>exact ih.succ
def Qee{L}:∀{n:Nat} {id:Int},Ends L n id->Jr L (n+1) id=Jr L n id
 | 0,id,h=>by simp only[Ends]at h;simp only[Jr,h]
 | n+1,id,h=>by
  rw[Ends]at h;rw[Jr]
  conv=>rhs;rw[Jr]
  cases hf:Qx L id with
  | none=>rfl
  | some c=>rw[hf]at h;simp only[Qee h]
def yN{L}:∀{n:Nat} {id:Int},(Jr L n id).length<=n
 | 0,_=>QB _
 | n+1,id=>by
  rw[Jr];cases Qx L id with
  | none=>exact Jh _
  | some c=>have:=yN (L:=L) (n:=n) (id:=c.parent);simp only[Kv];omega
def Ends.short{L}:∀{n k:Nat} {id:Int},Ends L n id->(Jr L n id).length<=k->Ends L k id
 | 0,k,id,h,_=>h.le (Jh _)
 | n+1,k,id,h,hk=>by
  rw[Ends]at h;rw[Jr]at hk;cases hf:Qx L id with
  | none=>cases k with
   | zero=>exact hf
   | succ k=>rw[Ends,hf];trivial
  | some c=>
   rw[hf]at h hk;simp only[Kv]at hk;cases k with
   | zero=>omega
   | succ k=>rw[Ends,hf];exact Ends.short h ω
structure TreeInv (L:List Qq):Prop where
 rising:WU L
 ids:∀c∈L,1<=c.iD
 par:∀c∈L,c.parent=0\/(Qx L c.parent).isSome=true
 ends:∀id,Ends L 16 id
def TreeInv.nil:TreeInv []:=⟨by simp[WU],σ,σ,λid=>by simp[Ends,Qx]⟩
def right_id{x:Qq}(h:KN x=0):1<=x.iD/\x.iD<=65536/\x.parent≠x.iD:=by
 have h2:DX x=true:=by
  cases h3:DX x with
  | true=>rfl
  | false=>rw[KN,h3]at h;simp at h
 simp[DX,yK]at h2;exact⟨h2.1.1.1,h2.1.1.2,h2.2⟩
def QgE{L}(h:WU L)(x){k:Int}(hk:(Qx L k).isSome=true):(Qx (VK L x) k).isSome=true:=by
 rw[yM h];split
 .rfl
 .exact hk
def yO{L}(h:WU L)(x){c}(hc:c∈VK L x):c=x\/c∈L:=by
 rcases QD.1 ((Gf x h).mem_iff.1 hc) with h1|h1
 .exact .inl h1
 .exact .inr (Jt.1 h1).1
def TreeInv.add{L}(I:TreeInv L){x:Qq}(h0:KN x=0)(h1:Qx L x.iD=none)(h2:x.parent=0\/(Qx L x.parent).isSome=true)(h3:(Jr L 16 x.parent).length≠16):TreeInv (VK L x):=by
 obtain⟨i1,_,i3⟩:=right_id h0;have key:∀n id,id≠x.iD->Ends L n id->Ends (VK L x) n id:=by
  intro n;induction n with
  | zero=>intro id Q8 h;rw[Ends]at h ⊢;rw[yM I.rising,Qc Q8];exact h
  | succ n ih=>
   intro id Q8 h;rw[Ends]at h ⊢;rw[yM I.rising,Qc Q8];cases hf:Qx L id with
   | none=>trivial
   | some c=>
    rw[hf]at h;refine ih _ ?_ h;rcases I.par c ((J6 I.rising).1 hf).1 with hp|hp
    .rw[hp];omega
    .intro e;rw[e,h1]at hp;cases hp
 refine⟨Nt x I.rising,λc hc=>?_,λc hc=>?_,λid=>?_⟩
 .rcases yO I.rising x hc with rfl|hc
  .exact i1
  .exact I.ids c hc
 .rcases yO I.rising x hc with rfl|hc
  .exact h2.imp id λh=>QgE I.rising c h
  .exact(I.par c hc).imp id λh=>QgE I.rising x h
 .by_cases Q8:id=x.iD
  .subst Q8;rw[Ends,yM I.rising,Qd rfl];refine key 15 _ i3 ((I.ends x.parent).short ?_);have:=yN (L:=L) (n:=16) (id:=x.parent);omega
  .exact key 16 id Q8 (I.ends id)
def TreeInv.del{L}(I:TreeInv L){k0}(h:WE L k0=[]):TreeInv (WV L k0):=by
 have ZP:∀c∈L,c.parent≠k0:=λc hc e=>by
  have:c∈L.filter (λy=>y.parent==k0):=Jt.2 ⟨hc,by simp[e]⟩;have h2:(L.filter λy=>y.parent==k0)=[]:=by simpa[WE] using h
  rw[h2]at this;simp at this
 refine⟨nJ k0 I.rising,λc hc=>I.ids c (Jt.1 hc).1,λc hc=>?_,λid=>?_⟩
 .have jx:=(Jt.1 hc).1;exact(I.par c jx).imp id λhp=>by rw[RI I.rising,Qc (ZP c jx)];exact hp
 .have key:∀n id,Ends L n id->Ends (WV L k0) n id:=by
   intro n;induction n with
   | zero=>intro id h;rw[Ends]at h ⊢;rw[RI I.rising];split<;>simp[h]
   | succ n ih=>
    intro id h;rw[Ends]at h ⊢;rw[RI I.rising];by_cases Q8:id=k0
    .rw[Qd Q8];trivial
    .rw[Qc Q8];cases hf:Qx L id with
     | none=>trivial
     | some c=>rw[hf]at h;exact ih _ h
  exact key 16 id (I.ends id)
def TreeInv.set{L}(I:TreeInv L){x y:Qq}(h0:KN x=0)(h1:Qx L x.iD=some y)(h2:x.parent=y.parent):TreeInv (VK L x):=by
 obtain⟨i1,_,i3⟩:=right_id h0;have key:∀n id,Ends L n id->Ends (VK L x) n id:=by
  intro n;induction n with
  | zero=>
   intro id h;rw[Ends]at h ⊢;rw[yM I.rising];by_cases Q8:id=x.iD
   .subst Q8;rw[h1]at h;cases h
   .rw[Qc Q8];exact h
  | succ n ih=>
   intro id h;rw[Ends]at h ⊢;rw[yM I.rising];by_cases Q8:id=x.iD
   .subst Q8;rw[Qd rfl];rw[h1]at h;show Ends (VK L x) n x.parent;rw[h2];exact ih _ h
   .rw[Qc Q8];cases hf:Qx L id with
    | none=>trivial
    | some c=>rw[hf]at h;exact ih _ h
 refine⟨Nt x I.rising,λc hc=>?_,λc hc=>?_,λid=>key 16 id (I.ends id)⟩
 .rcases yO I.rising x hc with rfl|hc
  .exact i1
  .exact I.ids c hc
 .rcases yO I.rising x hc with rfl|hc
  .rw[h2];exact(I.par y ((J6 I.rising).1 h1).1).imp id λh=>QgE I.rising c h
  .exact(I.par c hc).imp id λh=>QgE I.rising x h
def up(T:List Qq)(id:Int):List Int:=Jr T 16 id
structure JG (T:List Qq):Prop extends TreeInv T where
 right:∀c∈T,KN c=0
 J8:∀c∈T,c.parent≠0->∃d,Qx T c.parent=some d/\d.leaf=false
 RJ:∀c∈T,1<QR c.ls->c.parent≠0->k9 T c.parent=true
 len:T.length<=64
section
variable {T:List Qq}(I:JG T)
include I
theorem dw(id):up T id=match Qx T id with|none=>[]|some c=>id::up T c.parent:=by
 have h1:=Qee (I.ends id);unfold up;rw[<- h1,Jr];all_goals (cases Qx T id<;>rfl)
theorem Km{id}{c:Qq}(h:Qx T id=some c):up T id=id::up T c.parent:=by rw[dw I,h]
theorem xE{id}(h:Qx T id=none):up T id=[]:=by rw[dw I,h]
theorem Qr7{id}{c:Qq}(h:Qx T id=some c):c.iD=id:=((J6 I.rising).1 h).2
theorem xF{id}{c}(h:Qx T id=some c):c∈T:=((J6 I.rising).1 h).1
theorem Ig:Qx T 0=none:=yL.2 λc hc e=>by have:=I.ids c hc;omega
theorem Gj:up T 0=[]:=xE I (Ig I)
omit I in
theorem Gk{id j:Int}(h:j∈up T id):(Qx T j).isSome=true:=by
 have:∀n id,j∈Jr T n id->(Qx T j).isSome=true:=by
  intro n;induction n with
  | zero=>intro id h;cases h
  | succ n ih=>
   intro id h;rw[Jr]at h;cases hf:Qx T id with
   | none=>rw[hf]at h;cases h
   | some c=>
    rw[hf]at h;rcases QD.1 h with rfl|h
    .rw[hf];rfl
    .exact ih _ h
 exact this 16 id h
theorem Ih{a p}(h:p∈up T a):∃l,up T a=l++up T p:=by
 generalize hn:(up T a).length=n;induction n using Nat.strongRecOn generalizing a with
 | ind n ih=>
  cases hf:Qx T a with
  | none=>rw[xE I hf]at h;cases h
  | some c=>
   have e:=Km I hf;rw[e]at h hn;rcases QD.1 h with rfl|h
   .exact⟨[],rfl⟩
   .obtain⟨l,hl⟩:=ih _ (by simp only[Kv]at hn;omega) h rfl;exact⟨a::l,by rw[e,hl];rfl⟩
theorem up_sub{a p q}(h:p∈up T a)(h2:q∈up T p):q∈up T a:=by
 obtain⟨l,e⟩:=Ih I h;rw[e];exact Qn7 _ h2
theorem Xo{id}{c}(h:Qx T id=some c):id∈up T id:=by rw[Km I h];simp
theorem Ec(id:Int):(up T id).Nodup:=by
 generalize hn:(up T id).length=n;induction n using Nat.strongRecOn generalizing id with
 | ind n ih=>
  cases hf:Qx T id with
  | none=>rw[xE I hf];simp
  | some c=>
   have e:=Km I hf;rw[e]at hn ⊢;rw[Zz];refine⟨λh=>?_,ih _ (by simp only[Kv]at hn;omega) _ rfl⟩;obtain⟨l,hl⟩:=Ih I h;have:=congrArg List.length hl;rw[e]at this;simp only[ZW,Kv]at this;omega
theorem dB{a p}(h:p∈up T a)(QA:a≠p):∃i c,i∈up T a/\Qx T i=some c/\c.parent=p:=by
 generalize hn:(up T a).length=n;induction n using Nat.strongRecOn generalizing a with
 | ind n ih=>
  cases hf:Qx T a with
  | none=>rw[xE I hf]at h;cases h
  | some c=>
   have e:=Km I hf;rw[e]at h hn;rcases QD.1 h with rfl|h
   .exact absurd rfl QA
   .by_cases h2:c.parent=p
    .exact⟨a,c,by rw[e];simp,hf,h2⟩
    .obtain⟨i,d,h3,h4⟩:=ih _ (by simp only[Kv]at hn;omega) h h2 rfl;exact⟨i,d,by rw[e];simp[h3],h4⟩
theorem Qr8{a i j}{c d:Qq}(hi:i∈up T a)(hj:j∈up T a)(ci:Qx T i=some c)(dj:Qx T j=some d)(e:c.parent=d.parent):i=j:=by
 obtain⟨l,hl⟩:=Ih I hi;obtain⟨m,hm⟩:=Ih I hj;have e1:=congrArg List.length (Km I ci);have e2:=congrArg List.length (Km I dj);have e3:(up T i).length=(up T j).length:=by rw[e1,e2,e];rfl
 have e4:=hl.symm.trans hm;obtain⟨_,e5⟩:=List.append_inj' e4 e3;rw[Km I ci,Km I dj]at e5;exact(vH e5).1
def Ja(T:List Qq)(A:List Int)(id:Int):Bool:=A.any λa=>(up T a).contains id
omit I in
theorem XU{A}{id}:Ja T A id=true↔∃a∈A,id∈up T a:=by simp[Ja]
def qO(T:List Qq)(A:List Int)(p i:Int):Bool:=(match Qx T i with|some c=>c.parent==p|none=>false)&&Ja T A i
omit I in
theorem wo{A}{p i}:qO T A p i=true↔∃c,Qx T i=some c/\c.parent=p/\Ja T A i=true:=by
 unfold qO;cases Qx T i with
 | none=>simp
 | some c=>simp
def xG(T:List Qq)(A:List Int):Prop:=∀a∈A,∃c,Qx T a=some c/\c.leaf=true/\1<QR c.ls
theorem Ii{A}{i p}(h:Ja T A i=true)(hp:p∈up T i):Ja T A p=true:=by
 obtain⟨a,ha,hi⟩:=XU.1 h;exact XU.2 ⟨a,ha,up_sub I hi hp⟩
theorem Qef{A}(hA:xG T A){p}{d:Qq}(hp:Qx T p=some d)(hd:d.leaf=false):Ja T A p=true↔∃i,qO T A p i=true:=by
 constructor
 .intro h;obtain⟨a,ha,nW⟩:=XU.1 h;obtain⟨c,h1,h2,h3⟩:=hA a ha;have QA:a≠p:=by rintro rfl;rw[h1]at hp;cases hp;rw[h2]at hd;cases hd
  obtain⟨i,c,h4,h5,h6⟩:=dB I nW QA;exact⟨i,wo.2 ⟨c,h5,h6,XU.2 ⟨a,ha,h4⟩⟩⟩
 .rintro⟨i,hi⟩;obtain⟨c,h1,h2,h3⟩:=wo.1 hi;have YF:p∈up T i:=by
   rw[Km I h1,h2];exact JR _ (Xo I hp)
  exact Ii I h3 YF
def Vo(T:List Qq)(A:List Int)(leaf:Int):List Int:=(up T leaf).takeWhile λi=>!Ja T A i
theorem Qeg{id}{c:Qq}(h:Qx T id=some c)(hs:1<QR c.ls):∀i∈up T id,∃d,Qx T i=some d/\1<QR d.ls:=by
 generalize hn:(up T id).length=n;induction n using Nat.strongRecOn generalizing id c with
 | ind n ih=>
  have e:=Km I h;rw[e]at hn ⊢;intro i hi;rcases QD.1 hi with rfl|hi
  .exact⟨c,h,hs⟩
  .by_cases h0:c.parent=0
   .rw[h0,Gj I]at hi;cases hi
   .obtain⟨d,hd,_⟩:=I.J8 c (xF I h) h0;have Jv:=I.RJ c (xF I h) hs h0;unfold k9 at Jv;rw[hd]at Jv;exact ih _ (by simp only[Kv]at hn;omega) hd (by simpa using Jv) rfl i hi
end
section
variable {T:List Qq}(I:JG T)
def zV(T:List Qq)(A:List Int)(dn:List Int)(p i:Int):Bool:=qO T A p i || (dn.contains i&&(match Qx T i with|some c=>c.parent==p|none=>false))
def jU(T:List Qq)(A:List Int)(dn:List Int)(p i:Int):Bool:=qO T A p i&&!dn.contains i
include I
theorem RK{A dn}{p i}:zV T A dn p i=true↔qO T A p i=true\/(i∈dn/\∃c,Qx T i=some c/\c.parent=p):=by
 unfold zV;cases Qx T i with
 | none=>simp
 | some c=>simp
theorem Qr9{a i}{l m}{c:Qq}(h:up T a=l++i::m)(hi:Qx T i=some c):m=up T c.parent:=by
 have hm:i∈up T a:=by rw[h];simp
 obtain⟨l2,h2⟩:=Ih I hm;rw[Km I hi]at h2;have nd:=Ec I a;have e:=h.symm.trans h2;have n2:=nd;rw[h]at nd;rw[h2]at n2;have h3:l=l2:=by
  have a1:∀x∈l,x≠i:=λx hx e=>by
   subst e;rw[JJ]at nd;exact nd.2.2 x hx x σ rfl
  have a2:∀x∈l2,x≠i:=λx hx e=>by
   subst e;rw[JJ]at n2;exact n2.2.2 x hx x σ rfl
  clear h h2 nd n2 hm;induction l generalizing l2 with
  | nil=>cases l2 with
   | nil=>rfl
   | cons y l2=>simp only[zK,YT,Hc]at e;exact absurd e.1.symm (a2 y σ)
  | cons x l ih=>cases l2 with
   | nil=>simp only[zK,YT,Hc]at e;exact absurd e.1 (a1 x σ)
   | cons y l2=>
    simp only[YT,Hc]at e;rw[e.1,ih l2 e.2 (λx hx=>a1 x (by simp[hx])) (λx hx=>a2 x (by simp[hx]))]
 subst h3;have:=List.append_cancel_left e;exact(vH this).2
theorem Qsa{A}(hA:xG T A){leaf id}{dn}{c}(hu:up T leaf=dn++up T id)(hc:Qx T id=some c)(hn:∀i∈dn++[id],Ja T A i=false):
  (∃i,zV T A dn c.parent i=true)↔∃i,qO T A c.parent i=true:=by
 constructor
 .rintro⟨i,hi⟩;rcases (RK I).1 hi with h|⟨h1,d,h2,h3⟩
  .exact⟨i,h⟩
  .exfalso;have e1:i=id:=Qr8 I (a:=leaf) (by rw[hu];simp[h1]) (by rw[hu];exact Qn7 _ (Xo I hc)) h2 hc h3;subst e1;have nd:=Ec I leaf;rw[hu,JJ]at nd;exact nd.2.2 i h1 i (Xo I hc) rfl
 .rintro⟨i,hi⟩;exact⟨i,(RK I).2 (.inl hi)⟩
theorem Qsb{A dn}{id}{c:Qq}(hc:Qx T id=some c)(p i):zV T A (dn++[id]) p i=if p=c.parent/\i=id then true else zV T A dn p i:=by
 rw[vG,RK I];split
 .rename_i h;obtain⟨rfl,rfl⟩:=h;simp[hc]
 .rename_i h;rw[RK I];constructor
  .rintro (h1|⟨h1,d,h2,h3⟩)
   .exact .inl h1
   .rcases QX.1 h1 with h1|h1
    .exact .inr ⟨h1,d,h2,h3⟩
    .simp only[q8]at h1;subst h1;rw[h2]at hc;cases hc;exact absurd ⟨h3.symm,rfl⟩ h
  .rintro (h1|⟨h1,d,h2,h3⟩)
   .exact .inl h1
   .exact .inr ⟨Ph _ h1,d,h2,h3⟩
omit I in
theorem Qsc(T)(A)(p i):zV T A [] p i=qO T A p i:=by simp[zV]
theorem Qsd{A}(hA:xG T A){leaf id}{dn}{c:Qq}(hu:up T leaf=dn++up T id)(hc:Qx T id=some c)(hn:∀i∈dn++[id],Ja T A i=false)(he:c.parent=0\/Ja T A c.parent=true):
  dn++[id]=Vo T A leaf/\∀p i,zV T A (dn++[id]) p i=qO T (leaf::A) p i:=by
 have xw:up T leaf=(dn++[id])++up T c.parent:=by rw[hu,Km I hc];simp
 have Cq:∀j∈up T c.parent,Ja T A j=true:=λj hj=>by
  rcases he with he|he
  .rw[he,Gj I]at hj;cases hj
  .exact Ii I he hj
 refine⟨?_,λp i=>?_⟩
 .unfold Vo;rw[xw,iq (λi hi=>by rw[hn i hi];rfl)];have:(up T c.parent).takeWhile (λi=>!Ja T A i)=[]:=by
   cases hq:up T c.parent with
   | nil=>rfl
   | cons x q=>rw[Pn,Cq x (by rw[hq];simp)];rfl
  rw[this,JI]
 .rw[vG,RK I,wo (A:=leaf::A)];have jV:∀j,Ja T (leaf::A) j=true↔j∈up T leaf\/Ja T A j=true:=λj=>by
   rw[XU,XU];simp
  constructor
  .rintro (h|⟨h1,d,h2,h3⟩)
   .obtain⟨d,h2,h3,h4⟩:=wo.1 h;exact⟨d,h2,h3,(jV i).2 (.inr h4)⟩
   .exact⟨d,h2,h3,(jV i).2 (.inl (by rw[xw];exact Ph _ h1))⟩
  .rintro⟨d,h2,h3,h4⟩;rcases (jV i).1 h4 with h4|h4
   .rw[xw]at h4;rcases QX.1 h4 with h4|h4
    .exact .inr ⟨h4,d,h2,h3⟩
    .exact .inl (wo.2 ⟨d,h2,h3,Cq i h4⟩)
   .exact .inl (wo.2 ⟨d,h2,h3,h4⟩)
end
def Ka(A:List Int)(leaf:Int):List Int:=A.filter λa=>a != leaf
section
variable {T:List Qq}(I:JG T)
def Ij{A}{leaf}(hl:leaf∈A)(j):Ja T A j=true↔j∈up T leaf\/Ja T (Ka A leaf) j=true:=by
 rw[XU,XU];constructor
 .rintro⟨a,ha,hj⟩;by_cases h:a=leaf
  .subst h;exact .inl hj
  .exact .inr ⟨a,Jt.2 ⟨ha,by simpa using h⟩,hj⟩
 .rintro (h|⟨a,ha,hj⟩)
  .exact⟨leaf,hl,h⟩
  .exact⟨a,(Jt.1 ha).1,hj⟩
def xG.off{A}(h:xG T A)(leaf):xG T (Ka A leaf):=λa ha=>h a (Jt.1 ha).1
def Nz{A dn}{p i}:jU T A dn p i=true↔qO T A p i=true/\i ∉ dn:=by simp[jU]
include I
theorem Qeh{A}(hA:xG T A){leaf id}(hl:leaf∈A){dn}{c:Qq}(hu:up T leaf=dn++up T id)(hc:Qx T id=some c)(hn:∀i∈dn++[id],Ja T (Ka A leaf) i=false)(h0:c.parent≠0):
  (∃i,jU T A (dn++[id]) c.parent i=true)↔Ja T (Ka A leaf) c.parent=true:=by
 have xw:up T leaf=(dn++[id])++up T c.parent:=by rw[hu,Km I hc];simp
 obtain⟨d,hd,Ed⟩:=I.J8 c (xF I hc) h0;constructor
 .rintro⟨i,hi⟩;obtain⟨h1,h2⟩:=Nz.1 hi;obtain⟨e,h3,h4,h5⟩:=wo.1 h1;have YF:c.parent∈up T i:=by rw[Km I h3,h4];exact JR _ (Xo I hd)
  rcases (Ij hl i).1 h5 with h6|h6
  .exfalso;rw[xw]at h6;rcases QX.1 h6 with h6|h6
   .exact h2 h6
   .have nd:=Ec I i;rw[Km I h3,h4,Zz]at nd;exact nd.1 h6
  .exact Ii I h6 YF
 .intro h;obtain⟨a,ha,nW⟩:=XU.1 h;obtain⟨e,h1,h2,h3⟩:=hA.off leaf a ha;have QA:a≠c.parent:=by rintro rfl;rw[h1]at hd;cases hd;rw[h2]at Ed;cases Ed
  obtain⟨i,f,h4,h5,h6⟩:=dB I nW QA;have h7:Ja T (Ka A leaf) i=true:=XU.2 ⟨a,ha,h4⟩;refine⟨i,Nz.2 ⟨wo.2 ⟨f,h5,h6,(Ij hl i).2 (.inr h7)⟩,λh8=>?_⟩⟩;rw[hn i h8]at h7;cases h7
theorem Qse{A}{leaf id}(hl:leaf∈A){dn}{c:Qq}(hu:up T leaf=dn++up T id)(hc:Qx T id=some c)(hn:∀i∈dn++[id],Ja T (Ka A leaf) i=false)(he:c.parent=0\/Ja T (Ka A leaf) c.parent=true):
  dn++[id]=Vo T (Ka A leaf) leaf/\∀p i,jU T A (dn++[id]) p i=qO T (Ka A leaf) p i:=by
 have xw:up T leaf=(dn++[id])++up T c.parent:=by rw[hu,Km I hc];simp
 have Cq:∀j∈up T c.parent,Ja T (Ka A leaf) j=true:=λj hj=>by
  rcases he with he|he
  .rw[he,Gj I]at hj;cases hj
  .exact Ii I he hj
 refine⟨?_,λp i=>?_⟩
 .unfold Vo;rw[xw,iq (λi hi=>by rw[hn i hi];rfl)];have:(up T c.parent).takeWhile (λi=>!Ja T (Ka A leaf) i)=[]:=by
   cases hq:up T c.parent with
   | nil=>rfl
   | cons x q=>rw[Pn,Cq x (by rw[hq];simp)];rfl
  rw[this,JI]
 .rw[vG,Nz,wo,wo];constructor
  .rintro⟨⟨d,h2,h3,h4⟩,h5⟩;refine⟨d,h2,h3,?_⟩;rcases (Ij hl i).1 h4 with h6|h6
   .rw[xw]at h6;rcases QX.1 h6 with h6|h6
    .exact absurd h6 h5
    .exact Cq i h6
   .exact h6
  .rintro⟨d,h2,h3,h4⟩;refine⟨⟨d,h2,h3,(Ij hl i).2 (.inr h4)⟩,λh5=>?_⟩;rw[hn i h5]at h4;cases h4
end
@[go_sem] def u64(n:Nat):D:=.raw (.int .u64 n)
@[go_sem] theorem wl0:IntKind.i64.wrap 0=0:=π
@[go_sem] theorem wl1:IntKind.i64.wrap 1=1:=π
@[go_sem] theorem wl2:IntKind.i64.wrap 2=2:=π
@[go_sem] theorem wl3:IntKind.i64.wrap 3=3:=π
@[go_sem] theorem wl4:IntKind.i64.wrap 4=4:=π
def never:Nat:=9223372036854775808
attribute [go_sem] Go.undef
def Ee(a b:Nat):IntKind.u64.wrap ((a:Int)+(b:Int))=(((a+b) % 18446744073709551616:Nat):Int):=η
def RL(a b:Nat):IntKind.u64.wrap ((a:Int)*(b:Int))=((a*b % 18446744073709551616:Nat):Int):=by rw[IntKind.wrap_u64,<- Aq];omega
def nX(a b:Nat)(h:b<=18446744073709551616):IntKind.u64.wrap ((a:Int) - (b:Int))=(((a+18446744073709551616 - b) % 18446744073709551616:Nat):Int):=η
def dC(a b:Nat)(h:b<=a)(ha:a<18446744073709551616):IntKind.u64.wrap ((a:Int) - (b:Int))=((a - b:Nat):Int):=η
def nY(a b:Nat)(h:a+b<18446744073709551616):IntKind.u64.wrap ((a:Int)+(b:Int))=((a+b:Nat):Int):=η
def Qsf(a b:Nat)(h:a*b<18446744073709551616):IntKind.u64.wrap ((a:Int)*(b:Int))=((a*b:Nat):Int):=by rw[RL,jq h]
def Il(a s:Nat):((a:Int).fdiv (2 ^ s))=((a / 2 ^ s:Nat):Int):=by
 have h:((2:Int) ^ s)=((2 ^ s:Nat):Int):=σ;rw[h,Int.fdiv_eq_ediv_of_nonneg _ (Int.natCast_nonneg _),Int.natCast_ediv]
def Qsg(a:Nat)(ha:a<18446744073709551616):bits .and .u64 (a:Int) 4294967295=((a % 4294967296:Nat):Int):=by
 have:=u64_and_nat a 4294967295 ha π;rw[show ((4294967295:Nat):Int)=4294967295 from rfl]at this;rw[this,show (4294967295:Nat)=2 ^ 32 - 1 from rfl,Nat.and_two_pow_sub_one_eq_mod]
def Qsh(x y:Nat)(hx:x<4294967296)(hy:y<4294967296):bits .or .u64 ((x*4294967296:Nat):Int) (y:Int)=((x*4294967296+y:Nat):Int):=by
 rw[u64_or_nat _ _ ω ω,nat_join 32 _ _ (by rw[show (2:Nat) ^ 32=4294967296 from rfl];omega) (by simpa using hy)]
def NA(a)(ha:a<18446744073709551616):a / 9223372036854775808=0\/a / 9223372036854775808=1:=ω
def dD(a b)(ha:a<18446744073709551616)(hb:b<18446744073709551616):(a &&& b) / 9223372036854775808=(a / 9223372036854775808) &&& (b / 9223372036854775808):=by
 rw[show (9223372036854775808:Nat)=2 ^ 63 from rfl,<- Dj,Nat.shiftRight_and_distrib,Dj,Dj]
def nZ(a b)(ha:a<18446744073709551616)(hb:b<18446744073709551616):(a ||| b) / 9223372036854775808=(a / 9223372036854775808) ||| (b / 9223372036854775808):=by
 rw[show (9223372036854775808:Nat)=2 ^ 63 from rfl,<- Dj,Nat.shiftRight_or_distrib,Dj,Dj]
def Qhq(a b)(ha:a<18446744073709551616)(hb:b<18446744073709551616):(a ^^^ b) / 9223372036854775808=(a / 9223372036854775808) ^^^ (b / 9223372036854775808):=by
 rw[show (9223372036854775808:Nat)=2 ^ 63 from rfl,<- Dj,Nat.shiftRight_xor_distrib,Dj,Dj]
def Qsi(a b c x y z u v)(ha:a<18446744073709551616)(hb:b<18446744073709551616)(hc:c<2)(hl:u=(a+18446744073709551616 - b+18446744073709551616 - c) % 18446744073709551616)
  (hx:x=a / 9223372036854775808) (hy:y=b / 9223372036854775808) (hz:z=u / 9223372036854775808) (hv:v=(1 ^^^ x) &&& y ||| ((1 ^^^ (x ^^^ y)) &&& z)):v=if a<b+c then 1 else 0:=by
 have h1:=NA a ha;have h2:=NA b hb;have h3:=NA u ω;rw[<- hx]at h1;rw[<- hy]at h2;rw[<- hz]at h3;rcases h1 with h1|h1<;>rcases h2 with h2|h2<;>rcases h3 with h3|h3<;>(rw[h1,h2,h3]at hv;simp at hv;subst hv;split<;>omega)
def Qsj(a b c x y z u v)(ha:a<18446744073709551616)(hb:b<18446744073709551616)(hc:c<2)(hl:u=(a+b+c) % 18446744073709551616)
  (hx:x=a / 9223372036854775808) (hy:y=b / 9223372036854775808) (hz:z=u / 9223372036854775808) (hv:v=x &&& y ||| ((x ||| y) &&& (1 - z))):v=if 18446744073709551616<=a+b+c then 1 else 0:=by
 have h1:=NA a ha;have h2:=NA b hb;have h3:=NA u ω;rw[<- hx]at h1;rw[<- hy]at h2;rw[<- hz]at h3;rcases h1 with h1|h1<;>rcases h2 with h2|h2<;>rcases h3 with h3|h3<;>(rw[h1,h2,h3]at hv;simp at hv;subst hv;split<;>omega)
end Go.Fg.X
namespace Go.Fg.X
open Go.Proofs Go.Fg
structure It where
 ka:Nat
 ki:Int
 va:Nat
 vi:Int
deriving DecidableEq
instance:Inhabited It:=⟨⟨0,0,0,0⟩⟩
@[go_sem] def It.cells(x:It):List D:=[u64 x.ka,Qa x.ki,u64 x.va,Qa x.vi]
def Ku(a:Nat)(i:Int)(b:Nat)(j:Int):Prop:=a<b\/(a=b/\i<j)
instance (a:Nat) (i:Int) (b:Nat) (j:Int):Decidable (Ku a i b j):=inferInstanceAs (Decidable (_\/_))
def It.lt(x y:It):Prop:=Ku x.ka x.ki y.ka y.ki
instance (x y:It):Decidable (x.lt y):=inferInstanceAs (Decidable (Ku _ _ _ _))
def qP(a:Nat)(i:Int)(b:Nat)(j:Int):Int:=if a=b/\i=j then 0 else if Ku a i b j then -1 else 1
def zW(a b:It):It:=if qP b.va b.vi a.va a.vi<0\/(qP b.va b.vi a.va a.vi=0/\qP b.ka b.ki a.ka a.ki<0) then b else a
inductive Tr where
 | nil
 | node (loc:Nat) (it:It) (l r:Tr)
deriving Inhabited
namespace Tr
def list:Tr->List It
 | .nil=>[]
 | .node _ it l r=>l.list++it::r.list
def QJ:Tr->List Nat
 | .nil=>[]
 | .node loc _ l r=>loc::(l.QJ++r.QJ)
def high:Tr->Nat
 | .nil=>0
 | .node _ _ l r=>1+max l.high r.high
def size:Tr->Nat
 | .nil=>0
 | .node _ _ l r=>1+l.size+r.size
def ptr:Tr->D
 | .nil=>.raw (.pointer none)
 | .node loc _ _ _=>.ptr loc 0 0 0
@[go_sem] theorem RM:Tr.nil.ptr=.raw (.pointer none):=rfl
@[go_sem] theorem Im(loc)(it)(l r:Tr):(Tr.node loc it l r).ptr=.ptr loc 0 0 0:=rfl
@[go_sem] theorem QEl(t:Tr):XP t.ptr=some [t.ptr]:=by cases t<;>rfl
@[go_sem] theorem QEm(t:Tr):t.ptr.Vn=true:=by cases t<;>rfl
@[go_sem] theorem QEn(t:Tr):XC t.ptr t.ptr=True:=by cases t<;>simp[XC,ptr]
def least:Tr->It
 | .nil=>default
 | .node _ it l r=>match l,r with
  | .nil,.nil=>it
  | .nil,.node a b c d=>zW it (least (.node a b c d))
  | .node a b c d,.nil=>zW it (least (.node a b c d))
  | .node a b c d,.node a' b' c' d'=>zW (zW it (least (.node a b c d))) (least (.node a' b' c' d'))
def Bg:∀t:Tr,t.list.length=t.size
 | .nil=>rfl
 | .node _ _ l r=>by simp only[list,size,ZW,Kv,Bg l,Bg r];omega
def NB:∀t:Tr,t.high<=t.size
 | .nil=>QB _
 | .node _ _ l r=>by have:=NB l;have:=NB r;simp only[high,size];omega
end Tr
@[go_sem] def Qsk(it:It)(p q:D)(le:It)(hi n:Int):List D:=[u64 it.ka,Qa it.ki,u64 it.va,Qa it.vi,p,q,u64 le.ka,Qa le.ki,u64 le.va,Qa le.vi,Qa hi,Qa n]
@[go_sem] def Ef(it:It)(p q:D)(le:It)(hi n:Int):Ob:=⟨.one,0,12,1,λ_=>Qsk it p q le hi n⟩
def Vb(h:List Ob):Tr->Prop
 | .nil=>True
 | .node loc it l r=>h[loc]? = some (Ef it l.ptr r.ptr (Tr.node loc it l r).least ((Tr.node loc it l r).high:Nat) ((Tr.node loc it l r).size:Nat))/\Vb h l/\Vb h r
def Vb.frame{h h':List Ob}:∀{t:Tr},Vb h t->(∀l∈t.QJ,h'[l]? = h[l]?)->Vb h' t
 | .nil,_,_=>trivial
 | .node loc it l r,⟨h1,h2,h3⟩,e=>⟨by rw[e loc (by simp[Tr.QJ])];exact h1,h2.frame λx hx=>e x (by simp[Tr.QJ,hx]),h3.frame λx hx=>e x (by simp[Tr.QJ,hx])⟩
def Vb.lt{h:List Ob}:∀{t:Tr},Vb h t->∀l∈t.QJ,l<h.length
 | .nil,_,l,hl=>by cases hl
 | .node loc it l r,⟨h1,h2,h3⟩,x,hx=>by
  simp only[Tr.QJ,QD,QX]at hx;rcases hx with rfl|hx|hx
  .exact KD h1
  .exact h2.lt x hx
  .exact h3.lt x hx
def zk(h:List Ob):Tr->Prop
 | .nil=>True
 | .node loc it l r=>(h.map Ob.ro)[loc]? = some (Ef it l.ptr r.ptr (Tr.node loc it l r).least ((Tr.node loc it l r).high:Nat) ((Tr.node loc it l r).size:Nat)).ro/\zk h l/\zk h r
def Vb.toR{h}:∀{t:Tr},Vb h t->zk h t
 | .nil,_=>trivial
 | .node _ _ _ _,⟨h1,h2,h3⟩=>⟨ZC h1,h2.toR,h3.toR⟩
def zk.more{h h':List Ob}(e:∀(l:Nat) (o:Ob),(h.map Ob.ro)[l]? = some o->(h'.map Ob.ro)[l]? = some o):∀{t:Tr},zk h t->zk h' t
 | .nil,_=>trivial
 | .node _ _ _ _,⟨h1,h2,h3⟩=>⟨e _ _ h1,h2.more e,h3.more e⟩
def Gl{h F g:List Ob}(hF:F=h.map Ob.ro)(l:Nat)(o:Ob)(e:(h.map Ob.ro)[l]? = some o):((F++g).map Ob.ro)[l]? = some o:=by
 subst hF;have h1:l<(h.map Ob.ro).length:=KD e;rw[vK,JC (by simpa using h1),Fl];rw[Ks]at e ⊢;cases hh:h[l]? with
 | none=>rw[hh]at e;cases e
 | some u=>rw[hh]at e;cases e;simp[ro_ro]
structure zX (h:List Ob) (t:Tr) (L:List It) (h':List Ob) (t':Tr):Prop where
 is:Vb h' t'
 list:t'.list=L
 nd:t'.QJ.Nodup
 mem:∀l∈t'.QJ,l∈t.QJ\/h.length<=l
 keep:∀l,l<h.length->l ∉ t.QJ->h'[l]? = h[l]?
 len:h.length<=h'.length
def zX.refl{h}{t:Tr}(i:Vb h t)(n:t.QJ.Nodup):zX h t t.list h t:=⟨i,rfl,n,λ_ h=>.inl h,λ_ _ _=>rfl,QB _⟩
def zX.trans{h h' Yt}{t t' t''}{L L'}(a:zX h t L h' t')(b:zX h' t' L' Yt t''):zX h t L' Yt t'':=
 ⟨b.is,b.list,b.nd,λl hl=>by
  rcases b.mem l hl with h1|h1
  .exact a.mem l h1
  .exact .inr (Ki a.len h1),λl hl hn=>by
  rw[b.keep l (kG hl a.len) λh1=>by
   rcases a.mem l h1 with h2|h2
   .exact hn h2
   .omega]
  exact a.keep l hl hn,Ki a.len b.len⟩
def It.YG(x y:It):Prop:=Ku x.va x.vi y.va y.vi\/(x.va=y.va/\x.vi=y.vi/\Ku x.ka x.ki y.ka y.ki)
instance (x y:It):Decidable (x.YG y):=inferInstanceAs (Decidable (_\/_))
def Bh(a)(i):¬ Ku a i a i:=by unfold Ku;omega
def Gm{a}{i}{b}{j}{c}{k}(h:Ku a i b j)(h2:Ku b j c k):Ku a i c k:=by unfold Ku at *;omega
def NC(a)(i)(b)(j):Ku a i b j\/(a=b/\i=j)\/Ku b j a i:=by unfold Ku;omega
def n9{a}{i}{b}{j}:qP a i b j<0↔Ku a i b j:=by
 unfold qP;by_cases h:a=b/\i=j
 .rw[Qd h];obtain⟨rfl,rfl⟩:=h;exact⟨λh=>ω,λh=>absurd h (Bh _ _)⟩
 .rw[Qc h];by_cases h2:Ku a i b j
  .rw[Qd h2];exact⟨λ_=>h2,λ_=>ω⟩
  .rw[Qc h2];exact⟨λh=>ω,λh=>absurd h h2⟩
def Qei{a}{i}{b}{j}:qP a i b j=0↔a=b/\i=j:=by
 unfold qP;by_cases h:a=b/\i=j
 .rw[Qd h];exact⟨λ_=>h,λ_=>rfl⟩
 .rw[Qc h];by_cases h2:Ku a i b j
  .rw[Qd h2];exact⟨λh=>ω,λh1=>absurd h1 h⟩
  .rw[Qc h2];exact⟨λh=>ω,λh1=>absurd h1 h⟩
def Qsl{a}{i}{b}{j}:0<qP a i b j↔Ku b j a i:=by
 have h1:=@n9 a i b j;have h2:=@Qei a i b j;have h3:=NC a i b j;constructor
 .intro h;rcases h3 with h3|h3|h3
  .have:=h1.2 h3;omega
  .have:=h2.2 h3;omega
  .exact h3
 .intro h;have n1:¬ qP a i b j<0:=λh4=>Bh _ _ (Gm h (h1.1 h4));have n2:¬ qP a i b j=0:=λh4=>by obtain⟨rfl,rfl⟩:=h2.1 h4;exact Bh _ _ h
  omega
def Qej(a b:It):zW a b=if b.YG a then b else a:=by
 have h:(qP b.va b.vi a.va a.vi<0\/(qP b.va b.vi a.va a.vi=0/\qP b.ka b.ki a.ka a.ki<0))↔b.YG a:=by
  rw[n9,Qei,n9,It.YG,and_assoc]
 unfold zW;by_cases hb:b.YG a
 .rw[Qd (h.2 hb),Qd hb]
 .rw[Qc (λh1=>hb (h.1 h1)),Qc hb]
def RN(a:It):¬ a.YG a:=λh=>by
 rcases h with h|⟨_,_,h⟩<;>exact Bh _ _ h
def Qek{a b c:It}(h:a.YG b)(h2:b.YG c):a.YG c:=by
 rcases h with h|⟨e1,e2,h⟩<;>rcases h2 with h2|⟨e3,e4,h2⟩
 .exact .inl (Gm h h2)
 .exact .inl (by rw[<- e3,<- e4];exact h)
 .exact .inl (by rw[e1,e2];exact h2)
 .exact .inr ⟨e1.trans e3,e2.trans e4,Gm h h2⟩
def Qel(a b:It):a.YG b\/a=b\/b.YG a:=by
 rcases NC a.va a.vi b.va b.vi with h|⟨h1,h2⟩|h
 .exact .inl (.inl h)
 .rcases NC a.ka a.ki b.ka b.ki with h|⟨h3,h4⟩|h
  .exact .inl (.inr ⟨h1,h2,h⟩)
  .refine .inr (.inl ?_);cases a;cases b;simp_all
  .exact .inr (.inr (.inr ⟨h1.symm,h2.symm,h⟩))
 .exact .inr (.inr (.inl h))
def Qem(a b:It):(zW a b=a/\¬ b.YG a)\/(zW a b=b/\b.YG a):=by
 rw[Qej];by_cases h:b.YG a
 .rw[Qd h];exact .inr ⟨rfl,h⟩
 .rw[Qc h];exact .inl ⟨rfl,h⟩
def Qsm(a b:It):¬ a.YG (zW a b)/\¬ b.YG (zW a b):=by
 rcases Qem a b with ⟨e,h⟩|⟨e,h⟩<;>rw[e]
 .exact⟨RN _,h⟩
 .exact⟨λh2=>RN _ (Qek h h2),RN _⟩
structure VL (x:It) (L:List It):Prop where
 mem:x∈L
 le:∀y∈L,¬ y.YG x
def VL.uniq{x y}{L}(a:VL x L)(b:VL y L):x=y:=by
 rcases Qel x y with h|h|h
 .exact absurd h (b.le x a.mem)
 .exact h
 .exact absurd h (a.le y b.mem)
def VL.one(x):VL x [x]:=⟨σ,λy hy=>by simp only[q8]at hy;subst hy;exact RN _⟩
def VL.join{x y}{L M}(a:VL x L)(b:VL y M):VL (zW x y) (L++M):=by
 obtain⟨h1,h2⟩:=Qsm x y;have nle:∀{p q r:It},¬ p.YG q->¬ q.YG r->¬ p.YG r:=λ{p q r} h h2 h3=>by
  rcases Qel q p with h4|h4|h4
  .exact h2 (Qek h4 h3)
  .subst h4;exact h2 h3
  .exact h h4
 refine⟨?_,λz hz=>?_⟩
 .rcases Qem x y with ⟨e,_⟩|⟨e,_⟩<;>rw[e]
  .exact Ph _ a.mem
  .exact Qn7 _ b.mem
 .rcases QX.1 hz with hz|hz
  .exact nle (a.le z hz) h1
  .exact nle (b.le z hz) h2
def VL.perm{x:It}{L M}(a:VL x L)(h:∀y,y∈M↔y∈L):VL x M:=⟨(h x).2 a.mem,λy hy=>a.le y ((h y).1 hy)⟩
def Tr.ND:∀(t:Tr),t≠.nil->VL t.least t.list
 | .nil,h=>absurd rfl h
 | .node _ it .nil .nil,_=>VL.one it
 | .node _ it .nil (.node a b c d),_=>by
  have:=Tr.ND (.node a b c d) σ;exact((VL.one it).join this).perm λy=>by simp[Tr.list]
 | .node _ it (.node a b c d) .nil,_=>by
  have:=Tr.ND (.node a b c d) σ;exact((VL.one it).join this).perm λy=>by simp[Tr.list];constructor<;>(intro h;rcases h with h|h|h|h<;>simp[h])
 | .node _ it (.node a b c d) (.node a' b' c' d'),_=>by
  have h1:=Tr.ND (.node a b c d) σ;have h2:=Tr.ND (.node a' b' c' d') σ;refine(((VL.one it).join h1).join h2).perm λy=>?_;simp only[Tr.list,QX,QD];grind
end Go.Fg.X
namespace Go.Fg.X
open Go.Proofs Go.Fg
open Go.Proofs.Tryz
def Vc(L:List It):Prop:=L.Pairwise It.lt
def It.lt_trans{a b c:It}(h:a.lt b)(h2:b.lt c):a.lt c:=Gm h h2
def Eg{L M}{x:It}:Vc (L++x::M)↔Vc L/\Vc M/\(∀y∈L,y.lt x)/\(∀y∈M,x.lt y):=by
 unfold Vc;rw[Uq,yj];constructor
 .rintro⟨h1,⟨h2,h3⟩,h4⟩;exact⟨h1,h3,λy hy=>h4 y hy x σ,h2⟩
 .rintro⟨h1,h2,h3,h4⟩;refine⟨h1,⟨h4,h2⟩,λa ha b hb=>?_⟩;rcases QD.1 hb with rfl|hb
  .exact h3 a ha
  .exact It.lt_trans (h3 a ha) (h4 b hb)
def Bi(a:Nat)(i:Int)(x:It):Bool:=x.ka==a&&x.ki==i
def Yi(a:Nat)(i:Int)(L:List It):Option It:=L.find? (Bi a i)
def XV(x:It):List It->List It
 | []=>[x]
 | y::r=>if y.lt x then y::XV x r else x::y::r
def W9(a:Nat)(i:Int)(L:List It):List It:=L.filter λx=>!Bi a i x
def wu{a}{i}{x:It}:Bi a i x=true↔x.ka=a/\x.ki=i:=by simp[Bi]
def Qeo(a)(i)(L M)(x)(hs:Vc (L++x::M)):
  Yi a i (L++x::M)=if x.ka=a/\x.ki=i then some x else if Ku x.ka x.ki a i then Yi a i M else Yi a i L:=by
 obtain⟨_,_,hl,hm⟩:=Eg.1 hs;unfold Yi;rw[List.find?_append,jl];have nL:(x.ka=a/\x.ki=i)\/Ku x.ka x.ki a i->L.find? (Bi a i)=none:=λh=>by
  rw[jm];intro y hy hk;obtain⟨e1,e2⟩:=wu.1 hk;have h3:Ku y.ka y.ki x.ka x.ki:=hl y hy;rw[e1,e2]at h3;rcases h with ⟨rfl,rfl⟩|h
  .exact Bh _ _ h3
  .exact Bh _ _ (Gm h h3)
 have nM:Ku a i x.ka x.ki->M.find? (Bi a i)=none:=λh=>by
  rw[jm];intro y hy hk;obtain⟨e1,e2⟩:=wu.1 hk;have h3:Ku x.ka x.ki y.ka y.ki:=hm y hy;rw[e1,e2]at h3;exact Bh _ _ (Gm h h3)
 by_cases h1:x.ka=a/\x.ki=i
 .rw[Qd h1,wu.2 h1,nL (.inl h1)];rfl
 .have hk:Bi a i x=false:=by rw[Xe];exact λh=>h1 (wu.1 h)
  rw[Qc h1,hk];by_cases h2:Ku x.ka x.ki a i
  .rw[Qd h2,nL (.inr h2)];rfl
  .rw[Qc h2,nM (by rcases NC x.ka x.ki a i with h|h|h;exact absurd h h2;exact absurd h h1;exact h)];simp
def Qsn(y:It)(L M)(x:It)(hs:Vc (L++x::M))(hn:¬ (x.ka=y.ka/\x.ki=y.ki)):
  XV y (L++x::M)=if x.lt y then L++x::XV y M else XV y L++x::M:=by
 obtain⟨_,_,hl,hm⟩:=Eg.1 hs;by_cases h:x.lt y
 .rw[Qd h];have:∀l:List It,(∀z∈l,z.lt y)->XV y (l++x::M)=l++x::XV y M:=by
   intro l hl;induction l with
   | nil=>simp only[zK,XV,Qd h]
   | cons z l ih=>simp only[YT,XV,Qd (hl z σ),ih λw hw=>hl w (by simp[hw])]
  exact this L λz hz=>It.lt_trans (hl z hz) h
 .rw[Qc h];have:∀l:List It,XV y (l++x::M)=XV y l++x::M:=by
   intro l;induction l with
   | nil=>simp only[zK,XV,Qc h,YT]
   | cons z l ih=>
    simp only[YT,XV];split
    .rw[ih,YT]
    .simp only[YT]
  exact this L
def Qep(a)(i)(L M)(x)(hs:Vc (L++x::M)):
  W9 a i (L++x::M)=if x.ka=a/\x.ki=i then L++M else if Ku x.ka x.ki a i then L++x::W9 a i M else W9 a i L++x::M:=by
 obtain⟨_,_,hl,hm⟩:=Eg.1 hs;have keep:∀l:List It,(∀y∈l,¬ (y.ka=a/\y.ki=i))->W9 a i l=l:=λl h=>by
  unfold W9;rw[yi];intro y hy;have:=h y hy;rw[qB,Xe];exact λh2=>this (wu.1 h2)
 have Qso:W9 a i (L++x::M)=W9 a i L++W9 a i (x::M):=by unfold W9;rw[Pc]
 have kL:(x.ka=a/\x.ki=i)\/Ku x.ka x.ki a i->W9 a i L=L:=λh=>keep L λy hy ⟨e1,e2⟩=>by
  have h3:Ku y.ka y.ki x.ka x.ki:=hl y hy;rw[e1,e2]at h3;rcases h with ⟨rfl,rfl⟩|h
  .exact Bh _ _ h3
  .exact Bh _ _ (Gm h h3)
 have kM:(x.ka=a/\x.ki=i)\/Ku a i x.ka x.ki->W9 a i M=M:=λh=>keep M λy hy ⟨e1,e2⟩=>by
  have h3:Ku x.ka x.ki y.ka y.ki:=hm y hy;rw[e1,e2]at h3;rcases h with ⟨rfl,rfl⟩|h
  .exact Bh _ _ h3
  .exact Bh _ _ (Gm h h3)
 rw[Qso];by_cases h1:x.ka=a/\x.ki=i
 .have hx:W9 a i (x::M)=W9 a i M:=by unfold W9;rw[vI,wu.2 h1];rfl
  rw[Qd h1,kL (.inl h1),hx,kM (.inl h1)]
 .have hk:Bi a i x=false:=by rw[Xe];exact λh=>h1 (wu.1 h)
  have hx:W9 a i (x::M)=x::W9 a i M:=by unfold W9;rw[vI,hk];rfl
  rw[Qc h1,hx];by_cases h2:Ku x.ka x.ki a i
  .rw[Qd h2,kL (.inr h2)]
  .rw[Qc h2,kM (.inr (by rcases NC x.ka x.ki a i with h|h|h;exact absurd h h2;exact absurd h h1;exact h))]
def Gn{y x}:∀{L:List It},x∈XV y L↔x=y\/x∈L
 | []=>by simp[XV]
 | z::L=>by
  simp only[XV];split
  .rw[QD,Gn,QD];grind
  .rw[QD]
def oa{y:It}:∀{L:List It},Vc L->Yi y.ka y.ki L=none->Vc (XV y L)
 | [],_,_=>by simp[XV,Vc]
 | z::L,hs,hf=>by
  obtain⟨h1,h2⟩:=yj.1 hs;unfold Yi at hf;rw[jl]at hf;cases hk:Bi y.ka y.ki z with
  | true=>rw[hk]at hf;cases hf
  | false=>
   rw[hk]at hf;have QA:¬ (z.ka=y.ka/\z.ki=y.ki):=λh=>by rw[wu.2 h]at hk;cases hk
   simp only[XV];split
   .rename_i hl;refine yj.2 ⟨λw hw=>?_,oa h2 hf⟩;rcases Gn.1 hw with rfl|hw
    .exact hl
    .exact h1 w hw
   .rename_i hl;have hyz:y.lt z:=by
     rcases NC z.ka z.ki y.ka y.ki with h|h|h
     .exact absurd h hl
     .exact absurd h QA
     .exact h
    refine yj.2 ⟨λw hw=>?_,hs⟩;rcases QD.1 hw with rfl|hw
    .exact hyz
    .exact It.lt_trans hyz (h1 w hw)
def Qsp{a}{i}{L}(h:Vc L):Vc (W9 a i L):=LY _ h
def Tr.Bj(a:Nat)(i:Int)(f:Tr->List It):Tr->List It
 | .nil=>f .nil
 | .node loc it l r=>if it.ka=a/\it.ki=i then f (.node loc it l r) else if Ku it.ka it.ki a i then l.list++it::r.Bj a i f else l.Bj a i f++it::r.list
def oc{y:It}{f}(hf:f .nil=[y]):∀(t:Tr),Vc t.list->Yi y.ka y.ki t.list=none->t.Bj y.ka y.ki f=XV y t.list
 | .nil,_,_=>hf
 | .node loc it l r,hs,hn=>by
  obtain⟨s1,s2,_,_⟩:=Eg.1 hs;simp only[Tr.list]at hs hn ⊢;rw[Qeo _ _ _ _ _ hs]at hn;rw[Tr.Bj];by_cases h1:it.ka=y.ka/\it.ki=y.ki
  .rw[Qd h1]at hn;cases hn
  .rw[Qc h1]at hn ⊢;rw[Qsn y _ _ _ hs h1];by_cases h2:Ku it.ka it.ki y.ka y.ki
   .rw[Qd h2]at hn ⊢;rw[Qd (show it.lt y from h2),oc hf r s2 hn]
   .rw[Qc h2]at hn ⊢;rw[Qc (show ¬ it.lt y from h2),oc hf l s1 hn]
def Tr.Ip:Tr->List It
 | .nil=>[]
 | .node _ _ l r=>l.list++r.list
def dF{a}{i}:∀(t:Tr),Vc t.list->t.Bj a i Tr.Ip=W9 a i t.list
 | .nil,_=>rfl
 | .node loc it l r,hs=>by
  obtain⟨s1,s2,_,_⟩:=Eg.1 hs;simp only[Tr.list]at hs ⊢;rw[Qep _ _ _ _ _ hs,Tr.Bj];by_cases h1:it.ka=a/\it.ki=i
  .rw[Qd h1,Qd h1];rfl
  .rw[Qc h1,Qc h1];by_cases h2:Ku it.ka it.ki a i
   .rw[Qd h2,Qd h2,dF r s2]
   .rw[Qc h2,Qc h2,dF l s1]
def Tr.find(a:Nat)(i:Int):Tr->Tr
 | .nil=>.nil
 | .node loc it l r=>if it.ka=a/\it.ki=i then .node loc it l r else if Ku it.ka it.ki a i then r.find a i else l.find a i
def Tr.item:Tr->Option It
 | .nil=>none
 | .node _ it _ _=>some it
def Tr.RO{a}{i:Int}:∀(t:Tr),Vc t.list->(t.find a i).item=Yi a i t.list
 | .nil,_=>rfl
 | .node loc it l r,hs=>by
  obtain⟨s1,s2,_,_⟩:=Eg.1 hs;simp only[Tr.list]at hs ⊢;rw[Qeo _ _ _ _ _ hs,Tr.find];by_cases h1:it.ka=a/\it.ki=i
  .rw[Qd h1,Qd h1];rfl
  .rw[Qc h1,Qc h1];by_cases h2:Ku it.ka it.ki a i
   .rw[Qd h2,Qd h2,Tr.RO r s2]
   .rw[Qc h2,Qc h2,Tr.RO l s1]
def Tr.hasB(at_:Nat):Tr->Bool
 | .nil=>false
 | .node a b c d=>decide ((Tr.node a b c d).least.va<=at_)
def VL.va{x y:It}{L}(h:VL x L)(hy:y∈L):x.va<=y.va:=by
 have:=h.le y hy;unfold It.YG Ku at this;omega
def Tr.RP(at_):∀t:Tr,t.hasB at_=true↔∃x∈t.list,x.va<=at_
 | .nil=>by simp[Tr.hasB,Tr.list]
 | .node a b c d=>by
  have h:=Tr.ND (.node a b c d) σ;simp only[Tr.hasB,XL];constructor
  .intro h1;exact⟨_,h.mem,h1⟩
  .rintro⟨x,hx,hv⟩;exact Ki (h.va hx) hv
def Tr.first(at_:Nat):Tr->Option It
 | .nil=>none
 | .node _ it l r=>if l.hasB at_ then l.first at_ else if it.va<=at_ then some it else r.first at_
def Tr.dG(at_):∀t:Tr,t.first at_=t.list.find? λx=>decide (x.va<=at_)
 | .nil=>rfl
 | .node _ it l r=>by
  simp only[Tr.first,Tr.list];rw[List.find?_append,jl];by_cases h:l.hasB at_=true
  .rw[Qd h,Tr.dG at_ l];obtain⟨x,hx,hv⟩:=(Tr.RP at_ l).1 h;cases hf:l.list.find? λx=>decide (x.va<=at_) with
   | some y=>rfl
   | none=>exact absurd hv (by simpa using jm.1 hf x hx)
  .rw[Qc h,Tr.dG at_ r];have hn:l.list.find? (λx=>decide (x.va<=at_))=none:=by
    rw[jm];intro x hx hv;exact h ((Tr.RP at_ l).2 ⟨x,hx,by simpa using hv⟩)
   rw[hn,Option.none_or];by_cases h2:it.va<=at_
   .rw[Qd h2,QU h2]
   .rw[Qc h2,QI h2]
def Tr.Eh:Tr->It
 | .nil=>default
 | .node _ it l _=>match l with
  | .nil=>it
  | .node a b c d=>Tr.Eh (.node a b c d)
def Tr.od:∀t:Tr,t≠.nil->t.list.head? = some t.Eh
 | .nil,h=>absurd rfl h
 | .node _ it .nil r,_=>rfl
 | .node _ it (.node a b c d) r,_=>by
  have:=Tr.od (.node a b c d) σ;simp only[Tr.list,Tr.Eh,List.head?_append]at this ⊢;rw[this];rfl
def vg(o:Option It)(i:It):Option It:=match o with
 | none=>some i
 | some a=>some (zW a i)
def Tr.Yj(at_:Nat):Tr->Option It->Option It
 | .nil,o=>o
 | .node _ it l r,o=>if at_<it.ka then l.Yj at_ o else r.Yj at_ (match l with
  | .nil=>vg o it
  | .node a b c d=>vg (vg o it) (Tr.node a b c d).least)
def xH(o:Option It)(L:List It):Prop:=match o with
 | none=>L=[]
 | some x=>VL x L
def xH.take{o}{L}(h:xH o L){i}{M}(hi:VL i M):xH (vg o i) (L++M):=by
 cases o with
 | none=>simp only[xH]at h;subst h;exact hi
 | some a=>exact VL.join h hi
def xH.perm{o}{L M}(h:xH o L)(e:∀y,y∈M↔y∈L):xH o M:=by
 cases o with
 | none=>
  simp only[xH]at h ⊢;subst h;exact ij.2 λy hy=>by simpa using (e y).1 hy
 | some a=>exact VL.perm h e
def Tr.RQ(at_):∀(t:Tr) (o:Option It) (T:List It),Vc t.list->xH o T->xH (t.Yj at_ o) (T++t.list.filter λx=>decide (x.ka<=at_))
 | .nil,o,T,_,h=>by simpa[Tr.Yj,Tr.list] using h
 | .node _ it l r,o,T,hs,h=>by
  obtain⟨s1,s2,hl,hr⟩:=Eg.1 (show Vc (l.list++it::r.list) from hs);have kle:∀{x y:It},x.lt y->x.ka<=y.ka:=λh=>by
   have h:Ku _ _ _ _:=h;unfold Ku at h;omega
  simp only[Tr.Yj,Tr.list,Pc,vI];by_cases h1:at_<it.ka
  .rw[Qd h1,QI ω];have hn:r.list.filter (λx=>decide (x.ka<=at_))=[]:=by
    rw[List.filter_eq_nil_iff];intro x hx;have:=kle (hr x hx);simp;omega
   rw[hn];have:=Tr.RQ at_ l o T s1 h;simpa using this
  .rw[Qc h1,QU ω];have ha:l.list.filter (λx=>decide (x.ka<=at_))=l.list:=by
    rw[yi];intro x hx;have:=kle (hl x hx);simp;omega
   rw[ha];cases l with
   | nil=>
    have:=Tr.RQ at_ r _ _ s2 (h.take (VL.one it));simpa[Tr.list] using this
   | node a b c d=>
    have:=Tr.RQ at_ r _ _ s2 ((h.take (VL.one it)).take (Tr.ND (.node a b c d) σ));refine this.perm λy=>?_;simp only[Tr.list,QX,QD,Jt,Vs];grind
def ou(a)(i)(b)(j):QW prog 316 [.agg [u64 a,Qa i],.agg [u64 b,Qa j]] (QN (Qa (qP a i b j))):=by
 refine xT 0 func316 ntmps316 results316 λbase w hb=>?_;simp only[go_sem]
 repeat' (first|((first|refine QfZ (λh=>?_) (λh=>?_)|refine Qf0 (λh=>?_) (λh=>?_)|refine QgF (λh=>?_) (λh=>?_)|refine YA (λh=>?_) (λh=>?_)|refine QgM (λh=>?_) (λh=>?_)|refine Qhb (λh=>?_) (λh=>?_)|refine F5 (λh=>?_) (λh=>?_)|refine FW (λh=>?_) (λh=>?_))<;>(try simp only[go_sem,Go.undef]))|(refine And.intro δ ?_;try simp only[go_sem,Go.undef])|fail)
 all_goals (congr 2;(try simp only[Zy,Hb,jr,zL,ne_eq]at *);(try unfold qP Ku);(repeat' split)<;>omega)
def NG(x y:It):QW prog 298 [.agg x.cells,.agg y.cells] (QN (.agg (zW x y).cells)):=by
 have c1:=ou y.va y.vi x.va x.vi;have c2:=ou y.ka y.ki x.ka x.ki;simp only[zW];generalize qP y.va y.vi x.va x.vi=p at *;generalize qP y.ka y.ki x.ka x.ki=q at *;refine xT 0 func298 ntmps298 results298 λbase w hb=>?_;simp only[go_sem];apply ZK hb ng c1;apply Qn hb
 repeat' (first|((first|refine QfZ (λh=>?_) (λh=>?_)|refine Qf0 (λh=>?_) (λh=>?_)|refine QgF (λh=>?_) (λh=>?_)|refine YA (λh=>?_) (λh=>?_)|refine QgM (λh=>?_) (λh=>?_)|refine Qhb (λh=>?_) (λh=>?_)|refine F5 (λh=>?_) (λh=>?_)|refine FW (λh=>?_) (λh=>?_))<;>(try simp only[go_sem,Go.undef]))|(refine And.intro δ ?_;try simp only[go_sem,Go.undef])|(refine VC hb [] ng rfl ?_ (c2) rfl ?_;(· simp only[go_sem]);intro d h hR;obtain⟨rfl,rfl⟩:=hR;(simp only[go_sem]);apply Qg hb;simp only[go_sem])|fail)
 all_goals (try simp only[jr,zL,ne_eq]at *);(first|rw[Qd ω]|rw[Qc ω])
section
variable {h:List Ob}{t:Tr}(i:zk h t)
include i
theorem jX:Q6 prog 329 h [t.ptr] (λd=>d=Qa t.high):=by
 cases t with
 | nil=>
  refine xD func329 ntmps329 results329 λbase w pl F hF Q7 hb=>?_;simp only[go_sem];exact⟨[],by simp[Tr.high]⟩
 | node loc it l r=>
  have h2:=i.1;refine xD func329 ntmps329 results329 λbase w pl F hF Q7 hb=>?_;rw[<- hF]at h2;have wx:=Qb h2;simp only[go_sem,h2];exact⟨[],σ⟩
theorem Ek:Q6 prog 330 h [t.ptr] (λd=>d=Qa t.size):=by
 cases t with
 | nil=>
  refine xD func330 ntmps330 results330 λbase w pl F hF Q7 hb=>?_;simp only[go_sem];exact⟨[],by simp[Tr.size]⟩
 | node loc it l r=>
  have h2:=i.1;refine xD func330 ntmps330 results330 λbase w pl F hF Q7 hb=>?_;rw[<- hF]at h2;have wx:=Qb h2;simp only[go_sem,h2];exact⟨[],σ⟩
theorem ov(n):Q6 prog 331 h [t.ptr,u64 n] (λd=>d=QT (t.hasB n)):=by
 cases t with
 | nil=>
  refine xD func331 ntmps331 results331 λbase w pl F hF Q7 hb=>?_;simp only[go_sem];exact⟨[],by simp[Tr.hasB]⟩
 | node loc it l r=>
  have h2:=i.1;refine xD func331 ntmps331 results331 λbase w pl F hF Q7 hb=>?_;rw[<- hF]at h2;have wx:=Qb h2;simp only[go_sem,h2];exact⟨[],by simp[Tr.hasB]⟩
end
structure Raw (h:List Ob) (loc:Nat) (it:It) (l r:Tr) (le:It) (hi n:Int):Prop where
 o:h[loc]? = some (Ef it l.ptr r.ptr le hi n)
 il:Vb h l
 ir:Vb h r
def Vb.set{h:List Ob}{t:Tr}(i:Vb h t){k}(o)(hn:k ∉ t.QJ):Vb (h.set k o) t:=i.frame λl hl=>Qr λe=>hn (e▸hl)
def Cr{h}{loc}{it}{l r:Tr}{le}{hi n}(i:Raw h loc it l r le hi n)(hs:l.size<1000000)(Jv:r.size<1000000)(nl:loc ∉ l.QJ)(nr:loc ∉ r.QJ):
  QH prog 308 h [.ptr loc 0 0 0] (λd h'=>h'=h.set loc (Ef it l.ptr r.ptr (Tr.node loc it l r).least ((Tr.node loc it l r).high:Nat) ((Tr.node loc it l r).size:Nat))):=by
 have h1:=i.o;have il:=i.il;have ir:=i.ir;have w1:=l.NB;have w2:=r.NB;have e1:max (l.high:Int) (r.high:Int)=((max l.high r.high:Nat):Int):=ω;have e2:IntKind.i64.wrap (1+((max l.high r.high:Nat):Int))=((1+max l.high r.high:Nat):Int):=Zu;have e3:IntKind.i64.wrap (1+(l.size:Int))=((1+l.size:Nat):Int):=Zu;have e4:IntKind.i64.wrap (((1+l.size:Nat):Int)+(r.size:Int))=((1+l.size+r.size:Nat):Int):=Zu;rcases l with _|⟨a,b,c,d⟩<;>rcases r with _|⟨a',b',c',d'⟩
 .simp only[Tr.RM]at h1;refine QQ func308 ntmps308 results308 λbase w pl hb=>?_;have Kx:=Qb h1;simp only[go_sem];apply QF hb Uh;simp only[go_sem,h1];apply Wz hb jQ (jX il.toR);apply ZA hb;apply Wz hb jQ (jX ir.toR);apply ZH hb;simp only[go_sem,h1,e1,e2];apply QF hb Uk;simp only[go_sem,QE Kx];apply Wz hb DU (Ek (il.set _ nl).toR);apply ZH hb;simp only[go_sem,e3];apply Wz hb DU (Ek (ir.set _ nr).toR);apply ZH hb;simp only[go_sem,Qe,QE Kx,e4];refine wv 2 ?_;apply Qn hb;apply Qn hb;apply Qn hb;rfl
 .simp only[Tr.RM,Tr.Im]at h1;have WN:=ir.1;have AV:loc≠a':=by rintro rfl;exact nr (by simp[Tr.QJ])
  refine QQ func308 ntmps308 results308 λbase w pl hb=>?_;have Kx:=Qb h1;simp only[go_sem];apply QF hb Uh;simp only[go_sem,h1];apply Wz hb jQ (jX il.toR);apply ZA hb;apply Wz hb jQ (jX ir.toR);apply ZH hb;simp only[go_sem,h1,e1,e2];apply QF hb Uk;simp only[go_sem,QE Kx];apply Wz hb DU (Ek (il.set _ nl).toR);apply ZH hb;simp only[go_sem,e3];apply Wz hb DU (Ek (ir.set _ nr).toR);apply ZH hb;simp only[go_sem,Qe,QE Kx,e4];refine wv 2 ?_;apply Qn hb;apply Qn hb;apply QF hb Uc;simp only[go_sem,QE Kx,WN,Qr AV];apply Jb hb Nq (NG it (Tr.node a' b' c' d').least);apply ZH hb;simp only[go_sem,Qe,QE Kx];apply Qn hb;rfl
 .simp only[Tr.RM,Tr.Im]at h1;have ha:=il.1;have Ej:loc≠a:=by rintro rfl;exact nl (by simp[Tr.QJ])
  refine QQ func308 ntmps308 results308 λbase w pl hb=>?_;have Kx:=Qb h1;simp only[go_sem];apply QF hb Uh;simp only[go_sem,h1];apply Wz hb jQ (jX il.toR);apply ZA hb;apply Wz hb jQ (jX ir.toR);apply ZH hb;simp only[go_sem,h1,e1,e2];apply QF hb Uk;simp only[go_sem,QE Kx];apply Wz hb DU (Ek (il.set _ nl).toR);apply ZH hb;simp only[go_sem,e3];apply Wz hb DU (Ek (ir.set _ nr).toR);apply ZH hb;simp only[go_sem,Qe,QE Kx,e4];refine wv 2 ?_;apply Qn hb;apply QF hb Uc;simp only[go_sem,QE Kx,ha,Qr Ej];apply Jb hb Nq (NG it (Tr.node a b c d).least);apply ZH hb;simp only[go_sem,Qe,QE Kx];apply Qn hb;apply Qn hb;rfl
 .simp only[Tr.Im]at h1;have ha:=il.1;have Ej:loc≠a:=by rintro rfl;exact nl (by simp[Tr.QJ])
  have WN:=ir.1;have AV:loc≠a':=by rintro rfl;exact nr (by simp[Tr.QJ])
  refine QQ func308 ntmps308 results308 λbase w pl hb=>?_;have Kx:=Qb h1;simp only[go_sem];apply QF hb Uh;simp only[go_sem,h1];apply Wz hb jQ (jX il.toR);apply ZA hb;apply Wz hb jQ (jX ir.toR);apply ZH hb;simp only[go_sem,h1,e1,e2];apply QF hb Uk;simp only[go_sem,QE Kx];apply Wz hb DU (Ek (il.set _ nl).toR);apply ZH hb;simp only[go_sem,e3];apply Wz hb DU (Ek (ir.set _ nr).toR);apply ZH hb;simp only[go_sem,Qe,QE Kx,e4];refine wv 2 ?_;apply Qn hb;apply QF hb Uc;simp only[go_sem,QE Kx,ha,Qr Ej];apply Jb hb Nq (NG it (Tr.node a b c d).least);apply ZH hb;simp only[go_sem,Qe,QE Kx];apply Qn hb;apply QF hb Uc;simp only[go_sem,QE Kx,WN,Qr AV];apply Jb hb Nq (NG (zW it (Tr.node a b c d).least) (Tr.node a' b' c' d').least);apply ZH hb;simp only[go_sem,Qe,QE Kx];apply Qn hb;rfl
end Go.Fg.X
