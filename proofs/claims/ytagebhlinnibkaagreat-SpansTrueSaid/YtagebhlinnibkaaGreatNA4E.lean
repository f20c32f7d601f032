/- Contracts and laws on the way to the statement. No conditions. -/
import Derived.Test.YtagebhlinnibkaaGreatCA3E
set_option maxRecDepth 100000
set_option maxHeartbeats 16000000
set_option linter.unusedVariables false
set_option linter.unusedSimpArgs false
set_option linter.unusedSectionVars false
set_option linter.defProp false
namespace Go.Fg.X
open Go.Proofs Go.Fg
open Go.Proofs.Tryz
def uA{h:List Ob}{lx ly}{ix iy}{a b c:Tr}{e e'}{p p' q q'}(hx:h[lx]? = some (GA ix (.ptr ly 0 0 0) c.ptr e p p'))(hy:h[ly]? = some (GA iy a.ptr b.ptr e' q q'))
  (ia:VA h a) (ib:VA h b) (ic:VA h c) (nd:(lx::ly::(a.QR++b.QR++c.QR)).Nodup) (hs:a.size+b.size+c.size<900000) :
  QK prog 328 h [.ptr lx 0 0 0,Qb 0] (λd h'=>d=.ptr ly 0 0 0/\VA h' (.node ly iy a (.node lx ix b c))/\h'.length=h.length/\∀l,l≠lx->l≠ly->h'[l]? = h[l]?):=by
 have yA:=nd;simp only[Jf,QM,Q9,zw]at yA;obtain⟨⟨Qz,⟨na,nb⟩,nc⟩,⟨⟨ma,mb⟩,mc⟩,_⟩:=yA;have Yg:ly≠lx:=Q8 Qz;rcases b with _|⟨b1,b2,b3,b4⟩
 ·simp only[Tr.IG,Tr.EU]at hx hy;refine Q6 Qi 200 func328 rfl ntmps328 results328 rfl λbase w pl hb=>?_;have WV:=Qc hx;have Wt:=Qc hy;simp only[go_sem,Qa,hx,WV,hy,Wt];refine KU Qi hb 200 mixed [(0,true),(1,true),(2,true),(3,true),(4,true),(5,true),(6,true),(7,true),(8,true),(9,true),(10,true),(11,true),(12,false)] (by kernel_rfl) (by kernel_rfl) ?_;simp only[go_sem,Qa,hx,WV,hy,Wt,Qk Qz,Qs WV];refine VH hb EM rfl ?_ (EV (loc:=lx) (l:=Tr.nil) (r:=c) (it:=ix) (hi:=p) (n:=p') (le:=e) ⟨?_,?_,?_⟩ ?_ ?_ nb nc) rfl λd h' hR=>?_
  ·simp only[go_sem]
  ·rw[Qk Yg,Qs WV];rfl
  ·exact(ib.set _ nb).set _ mb
  ·exact(ic.set _ nc).set _ mc
  ·omega
  ·omega
  subst hR;refine Qe hb ?_;simp only[go_sem,Qa];refine VH hb EM rfl ?_ (EV (loc:=ly) (l:=a) (r:=(.node lx ix Tr.nil c)) (it:=iy) (hi:=q) (n:=q') (le:=e') ⟨?_,?_,?_⟩ ?_ ?_ ?_ ?_) rfl λd h' hR=>?_
  ·simp only[go_sem]
  ·rw[Qk Qz,Qs (by simpa using Wt)];rfl
  ·exact((ia.set _ na).set _ ma).set _ na
  ·exact⟨Qs (by simpa using WV),((ib.set _ nb).set _ mb).set _ nb,((ic.set _ nc).set _ mc).set _ nc⟩
  ·simp only[Tr.size]at *;omega
  ·simp only[Tr.size]at *;omega
  ·exact ma
  ·intro hm;rcases QM.1 hm with hm|hm;exact Yg hm;rcases Q9.1 hm with hm|hm;exact mb hm;exact mc hm
  subst hR;refine Qe hb ?_;simp only[go_sem,Qa];exact⟨⟨Qs (by simpa using Wt),(((ia.set _ na).set _ ma).set _ na).set _ ma,⟨by rw[Qk Yg,Qs (by simpa using WV)];rfl,(((ib.set _ nb).set _ mb).set _ nb).set _ mb,(((ic.set _ nc).set _ mc).set _ nc).set _ mc⟩⟩,λl k1 k2=>by rw[Qk (Q8 k2),Qk (Q8 k1),Qk (Q8 k2),Qk (Q8 k1)]⟩
 ·simp only[Tr.IG,Tr.EU]at hx hy;refine Q6 Qi 200 func328 rfl ntmps328 results328 rfl λbase w pl hb=>?_;have WV:=Qc hx;have Wt:=Qc hy;simp only[go_sem,Qa,hx,WV,hy,Wt];refine KU Qi hb 200 mixed [(0,true),(1,true),(2,true),(3,true),(4,true),(5,true),(6,true),(7,true),(8,true),(9,true),(10,true),(11,true),(12,false)] (by kernel_rfl) (by kernel_rfl) ?_;simp only[go_sem,Qa,hx,WV,hy,Wt,Qk Qz,Qs WV];refine VH hb EM rfl ?_ (EV (loc:=lx) (l:=(Tr.node b1 b2 b3 b4)) (r:=c) (it:=ix) (hi:=p) (n:=p') (le:=e) ⟨?_,?_,?_⟩ ?_ ?_ nb nc) rfl λd h' hR=>?_
  ·simp only[go_sem]
  ·rw[Qk Yg,Qs WV];rfl
  ·exact(ib.set _ nb).set _ mb
  ·exact(ic.set _ nc).set _ mc
  ·omega
  ·omega
  subst hR;refine Qe hb ?_;simp only[go_sem,Qa];refine VH hb EM rfl ?_ (EV (loc:=ly) (l:=a) (r:=(.node lx ix (Tr.node b1 b2 b3 b4) c)) (it:=iy) (hi:=q) (n:=q') (le:=e') ⟨?_,?_,?_⟩ ?_ ?_ ?_ ?_) rfl λd h' hR=>?_
  ·simp only[go_sem]
  ·rw[Qk Qz,Qs (by simpa using Wt)];rfl
  ·exact((ia.set _ na).set _ ma).set _ na
  ·exact⟨Qs (by simpa using WV),((ib.set _ nb).set _ mb).set _ nb,((ic.set _ nc).set _ mc).set _ nc⟩
  ·simp only[Tr.size]at *;omega
  ·simp only[Tr.size]at *;omega
  ·exact ma
  ·intro hm;rcases QM.1 hm with hm|hm;exact Yg hm;rcases Q9.1 hm with hm|hm;exact mb hm;exact mc hm
  subst hR;refine Qe hb ?_;simp only[go_sem,Qa];exact⟨⟨Qs (by simpa using Wt),(((ia.set _ na).set _ ma).set _ na).set _ ma,⟨by rw[Qk Yg,Qs (by simpa using WV)];rfl,(((ib.set _ nb).set _ mb).set _ nb).set _ mb,(((ic.set _ nc).set _ mc).set _ nc).set _ mc⟩⟩,λl k1 k2=>by rw[Qk (Q8 k2),Qk (Q8 k1),Qk (Q8 k2),Qk (Q8 k1)]⟩
def uB{h:List Ob}{lx ly}{ix iy}{a b c:Tr}{e e'}{p p' q q'}(hx:h[lx]? = some (GA ix a.ptr (.ptr ly 0 0 0) e p p'))(hy:h[ly]? = some (GA iy b.ptr c.ptr e' q q'))
  (ia:VA h a) (ib:VA h b) (ic:VA h c) (nd:(lx::ly::(a.QR++b.QR++c.QR)).Nodup) (hs:a.size+b.size+c.size<900000) :
  QK prog 328 h [.ptr lx 0 0 0,Qb 1] (λd h'=>d=.ptr ly 0 0 0/\VA h' (.node ly iy (.node lx ix a b) c)/\h'.length=h.length/\∀l,l≠lx->l≠ly->h'[l]? = h[l]?):=by
 have yA:=nd;simp only[Jf,QM,Q9,zw]at yA;obtain⟨⟨Qz,⟨na,nb⟩,nc⟩,⟨⟨ma,mb⟩,mc⟩,_⟩:=yA;have Yg:ly≠lx:=Q8 Qz;rcases b with _|⟨b1,b2,b3,b4⟩
 ·simp only[Tr.IG,Tr.EU]at hx hy;refine Q6 Qi 200 func328 rfl ntmps328 results328 rfl λbase w pl hb=>?_;have WV:=Qc hx;have Wt:=Qc hy;simp only[go_sem,Qa,hx,WV,hy,Wt];refine KU Qi hb 200 mixed [(0,true),(1,true),(2,true),(3,true),(4,true),(5,true),(6,true),(7,true),(8,true),(9,true),(10,true),(11,true),(12,false)] (by kernel_rfl) (by kernel_rfl) ?_;simp only[go_sem,Qa,hx,WV,hy,Wt,Qk Qz,Qs WV];refine VH hb EM rfl ?_ (EV (loc:=lx) (l:=a) (r:=Tr.nil) (it:=ix) (hi:=p) (n:=p') (le:=e) ⟨?_,?_,?_⟩ ?_ ?_ na nb) rfl λd h' hR=>?_
  ·simp only[go_sem]
  ·rw[Qk Yg,Qs WV];rfl
  ·exact(ia.set _ na).set _ ma
  ·exact(ib.set _ nb).set _ mb
  ·omega
  ·omega
  subst hR;refine Qe hb ?_;simp only[go_sem,Qa];refine VH hb EM rfl ?_ (EV (loc:=ly) (l:=(.node lx ix a Tr.nil)) (r:=c) (it:=iy) (hi:=q) (n:=q') (le:=e') ⟨?_,?_,?_⟩ ?_ ?_ ?_ ?_) rfl λd h' hR=>?_
  ·simp only[go_sem]
  ·rw[Qk Qz,Qs (by simpa using Wt)];rfl
  ·exact⟨Qs (by simpa using WV),((ia.set _ na).set _ ma).set _ na,((ib.set _ nb).set _ mb).set _ nb⟩
  ·exact((ic.set _ nc).set _ mc).set _ nc
  ·simp only[Tr.size]at *;omega
  ·simp only[Tr.size]at *;omega
  ·intro hm;rcases QM.1 hm with hm|hm;exact Yg hm;rcases Q9.1 hm with hm|hm;exact ma hm;exact mb hm
  ·exact mc
  subst hR;refine Qe hb ?_;simp only[go_sem,Qa];exact⟨⟨Qs (by simpa using Wt),⟨by rw[Qk Yg,Qs (by simpa using WV)];rfl,(((ia.set _ na).set _ ma).set _ na).set _ ma,(((ib.set _ nb).set _ mb).set _ nb).set _ mb⟩,(((ic.set _ nc).set _ mc).set _ nc).set _ mc⟩,λl k1 k2=>by rw[Qk (Q8 k2),Qk (Q8 k1),Qk (Q8 k2),Qk (Q8 k1)]⟩
 ·simp only[Tr.IG,Tr.EU]at hx hy;refine Q6 Qi 200 func328 rfl ntmps328 results328 rfl λbase w pl hb=>?_;have WV:=Qc hx;have Wt:=Qc hy;simp only[go_sem,Qa,hx,WV,hy,Wt];refine KU Qi hb 200 mixed [(0,true),(1,true),(2,true),(3,true),(4,true),(5,true),(6,true),(7,true),(8,true),(9,true),(10,true),(11,true),(12,false)] (by kernel_rfl) (by kernel_rfl) ?_;simp only[go_sem,Qa,hx,WV,hy,Wt,Qk Qz,Qs WV];refine VH hb EM rfl ?_ (EV (loc:=lx) (l:=a) (r:=(Tr.node b1 b2 b3 b4)) (it:=ix) (hi:=p) (n:=p') (le:=e) ⟨?_,?_,?_⟩ ?_ ?_ na nb) rfl λd h' hR=>?_
  ·simp only[go_sem]
  ·rw[Qk Yg,Qs WV];rfl
  ·exact(ia.set _ na).set _ ma
  ·exact(ib.set _ nb).set _ mb
  ·omega
  ·omega
  subst hR;refine Qe hb ?_;simp only[go_sem,Qa];refine VH hb EM rfl ?_ (EV (loc:=ly) (l:=(.node lx ix a (Tr.node b1 b2 b3 b4))) (r:=c) (it:=iy) (hi:=q) (n:=q') (le:=e') ⟨?_,?_,?_⟩ ?_ ?_ ?_ ?_) rfl λd h' hR=>?_
  ·simp only[go_sem]
  ·rw[Qk Qz,Qs (by simpa using Wt)];rfl
  ·exact⟨Qs (by simpa using WV),((ia.set _ na).set _ ma).set _ na,((ib.set _ nb).set _ mb).set _ nb⟩
  ·exact((ic.set _ nc).set _ mc).set _ nc
  ·simp only[Tr.size]at *;omega
  ·simp only[Tr.size]at *;omega
  ·intro hm;rcases QM.1 hm with hm|hm;exact Yg hm;rcases Q9.1 hm with hm|hm;exact ma hm;exact mb hm
  ·exact mc
  subst hR;refine Qe hb ?_;simp only[go_sem,Qa];exact⟨⟨Qs (by simpa using Wt),⟨by rw[Qk Yg,Qs (by simpa using WV)];rfl,(((ia.set _ na).set _ ma).set _ na).set _ ma,(((ib.set _ nb).set _ mb).set _ nb).set _ mb⟩,(((ic.set _ nc).set _ mc).set _ nc).set _ mc⟩,λl k1 k2=>by rw[Qk (Q8 k2),Qk (Q8 k1),Qk (Q8 k2),Qk (Q8 k1)]⟩
end Go.Fg.X
namespace Go.Fg
section
variable {P:Program}{base nt:Nat}{w0:Start}
def Aw(Zd:base<=w0.w.heap.size){K}{dst}{ty:TypeId}{after}{gd}{r}{s}{x}{args}{Jm:Array TypeId}{f}{nf}{QI}(hf:Qo P f)
  (hx:KM (Qt s.fr x)=some (f,nf,QI)) {cs:List D} (he:WH (JT nf QI (args.toList.map (Qt s.fr))) cs) {R:D->List Ob->Prop} (hF:QK P f s.h cs R)
  (ht:ZQ nt dst=true) (hk:∀d h,R d h->AX P base nt w0 K r ⟨ZC s.fr dst d,h⟩) :
  AX P base nt w0 K ((false, ⟨dst, .call ⟨.value x, args, Jm⟩, ty, "!", after, gd⟩, none) :: r) s := by
 simp only[AX,XR,jo];intro Z z pl a w rr b;exact Oper.wp_mono (λa' w' ⟨d,h,Qm,hR,r',b',T,v,e⟩=>⟨λhc=>absurd hc (by simp[F8]),_,_,Qm,v,hk d h hR,r',b',T,e⟩) (Qf4 Zd hf rfl hx (hF.args he) ht pl a w rr b _)
end
end Go.Fg
namespace Go.Fg.X
open Go.Proofs Go.Fg
open Go.Proofs.Tryz
def ml:List Nat->List (Nat × Bool)
 | []=>[]
 | a::l=>(if a<1000 then (a,true) else (a - 1000,false))::ml l
@[go_sem] theorem QKV:ml []=[]:=rfl
@[go_sem] theorem QKW(a)(l):ml (a::l)=(if a<1000 then (a,true) else (a - 1000,false))::ml l:=rfl
section
variable {base nt:Nat}{w0:Start}{Q:Exit->St->Prop}{k:List Item}{s:St}{B:Prop}{K:St->Prop}{l:List (Bool × Oper × G)}
def QC(hb:base<=w0.w.heap.size)(h:B)(e:hx prog base w0 Q cx nt 200 k s=B:=by (simp only[go_sem,Qa];rfl)):QA prog base nt w0 Q k .normal s:=Qe hb (e▸h)
def V9(hb:base<=w0.w.heap.size)(e:hx prog base w0 Q cx nt 200 k s:=by simp only[go_sem,Qa]):QA prog base nt w0 Q k .normal s:=Qe hb e
def XF(hb:base<=w0.w.heap.size)(h:B)(e:Vk prog base w0 cx nt K l s=B:=by (simp only[go_sem,Qa];rfl)):AX prog base nt w0 K l s:=Zr hb (e▸h)
def az1(hb:base<=w0.w.heap.size)(e:Vk prog base w0 cx nt K l s:=by simp only[go_sem,Qa]):AX prog base nt w0 K l s:=Zr hb e
def Zi(hb:base<=w0.w.heap.size)(h:B)(e:hx prog base w0 Q cx nt 200 k s=B:=by (simp only[go_sem];rfl)):QA prog base nt w0 Q k .normal s:=Qe hb (e▸h)
def qY(hb:base<=w0.w.heap.size)(e:hx prog base w0 Q cx nt 200 k s:=by simp only[go_sem]):QA prog base nt w0 Q k .normal s:=Qe hb e
def WW(hb:base<=w0.w.heap.size)(h:B)(e:Vk prog base w0 cx nt K l s=B:=by (simp only[go_sem];rfl)):AX prog base nt w0 K l s:=Zr hb (e▸h)
def Ro(hb:base<=w0.w.heap.size)(e:Vk prog base w0 cx nt K l s:=by simp only[go_sem]):AX prog base nt w0 K l s:=Zr hb e
def QH{id}{ops}(hb:base<=w0.w.heap.size)(l)(h:Vk prog base w0 cx nt (PC prog base w0 Q cx nt 200 k) (Go.Fg.VO [] ops (ml l)) s)(hB:gQ cx.L ops (ml l)=true:=by kernel_rfl)(hU:CV ops s.fr=true:=by kernel_rfl):QA prog base nt w0 Q (.code (.region id ops true)::k) .normal s:=KU Qi hb 200 mixed (ml l) hB hU h
def qZ{dst}{ty:TypeId}{pos}{after}{gd}{r}{x}{args:Array Operand}{Jm:Array TypeId}{f}{nf}{QI}{cs}(hb:base<=w0.w.heap.size)(hf:Qo prog f){R}(hF:QK prog f s.h cs R)(hk:∀d h,R d h->QA prog base nt w0 Q (.ops r::k) .normal ⟨ZC s.fr dst d,h⟩)(hx:KM (Qt s.fr x)=some (f,nf,QI):=by rfl)(he:WH (JT nf QI (args.toList.map (Qt s.fr))) cs:=by simp only[go_sem,Qa])(ht:ZQ nt dst=true:=by rfl):QA prog base nt w0 Q (.ops ((⟨dst,.call ⟨.value x,args,Jm⟩,ty,pos,after,gd⟩,none)::r)::k) .normal s:=VH hb hf hx he hF ht hk
def ZN{dst}{ty:TypeId}{pos}{after}{gd}{r}{x}{args:Array Operand}{Jm:Array TypeId}{f}{nf}{QI}{cs}(hb:base<=w0.w.heap.size)(hf:Qo prog f){R}(hF:QV prog f s.h cs R)(hk:∀d,R d->QA prog base nt w0 Q (.ops r::k) .normal ⟨ZC s.fr dst d,s.h⟩)(hx:KM (Qt s.fr x)=some (f,nf,QI):=by rfl)(he:WH (JT nf QI (args.toList.map (Qt s.fr))) cs:=by simp only[go_sem,Qa])(ht:ZQ nt dst=true:=by rfl):QA prog base nt w0 Q (.ops ((⟨dst,.call ⟨.value x,args,Jm⟩,ty,pos,after,gd⟩,none)::r)::k) .normal s:=Z8 hb hf hx he hF ht hk
def Ax{dst}{ty:TypeId}{pos}{after}{gd}{r}{x}{args:Array Operand}{Jm:Array TypeId}{f}{nf}{QI}{cs}(hb:base<=w0.w.heap.size)(hf:Qo prog f){R}(hF:Q4 prog f cs R)(hl:∀d h,R d h->d.flat=true/\∀o∈h,o.flat)(hk:∀d h,R d h->QA prog base nt w0 Q (.ops r::k) .normal ⟨ZC s.fr dst (d.shift s.h.length),s.h++h.map (Ob.shift s.h.length)⟩)(hx:KM (Qt s.fr x)=some (f,nf,QI):=by rfl)(he:match vQ (XQ s.h 4) (JT nf QI (args.toList.map (Qt s.fr))) with|some (p,cs')=>p/\WH cs' cs|none=>False:=by simp only[go_sem,Qa])(ht:ZQ nt dst=true:=by rfl):QA prog base nt w0 Q (.ops ((⟨dst,.call ⟨.value x,args,Jm⟩,ty,pos,after,gd⟩,none)::r)::k) .normal s:=ZW hb hf hx he hF hl ht hk
def Yh{dst}{ty:TypeId}{pos}{after}{gd}{r}{x}{args:Array Operand}{Jm:Array TypeId}{f}{nf}{QI}{cs}(hb:base<=w0.w.heap.size)(hf:Qo prog f){R}(hF:QV prog f s.h cs R)(hk:∀d,R d->AX prog base nt w0 K r ⟨ZC s.fr dst d,s.h⟩)(hx:KM (Qt s.fr x)=some (f,nf,QI):=by rfl)(he:WH (JT nf QI (args.toList.map (Qt s.fr))) cs:=by simp only[go_sem,Qa])(ht:ZQ nt dst=true:=by rfl):AX prog base nt w0 K ((false,⟨dst,.call ⟨.value x,args,Jm⟩,ty,pos,after,gd⟩,none)::r) s:=Xj hb hf hx he hF ht hk
def xH1{dst}{ty : TypeId}{after}{gd}{r}{x}{args : Array Operand}{Jm : Array TypeId}{f}{nf}{QI}{cs}(hb : base <= w0.w.heap.size)(hf : Qo prog f){R}(hF : QK prog f s.h cs R)(hk : ∀ d h, R d h -> AX prog base nt w0 K r ⟨ZC s.fr dst d, h⟩)(hx : KM (Qt s.fr x) = some (f, nf, QI) := by rfl)(he : WH (JT nf QI (args.toList.map (Qt s.fr))) cs := by simp only[go_sem, Qa])(ht : ZQ nt dst = true := by rfl): AX prog base nt w0 K ((false, ⟨dst, .call ⟨.value x, args, Jm⟩, ty, "!", after, gd⟩, none) :: r) s := Aw hb hf hx he hF ht hk
def Rp{dst}{ty:TypeId}{pos}{after}{gd}{r}{x}{args:Array Operand}{Jm:Array TypeId}{f}{nf}{QI}{cs}(hb:base<=w0.w.heap.size)(hf:Qo prog f){R}(hF:Q4 prog f cs R)(hl:∀d h,R d h->d.flat=true/\∀o∈h,o.flat)(hk:∀d h,R d h->AX prog base nt w0 K r ⟨ZC s.fr dst (d.shift s.h.length),s.h++h.map (Ob.shift s.h.length)⟩)(hx:KM (Qt s.fr x)=some (f,nf,QI):=by rfl)(he:match vQ (XQ s.h 4) (JT nf QI (args.toList.map (Qt s.fr))) with|some (p,cs')=>p/\WH cs' cs|none=>False:=by simp only[go_sem,Qa])(ht:ZQ nt dst=true:=by rfl):AX prog base nt w0 K ((false,⟨dst,.call ⟨.value x,args,Jm⟩,ty,pos,after,gd⟩,none)::r) s:=Vj hb hf hx he hF hl ht hk
def Jh{dst}{ty:TypeId}{pos}{after}{gd}{r}{x}{args:Array Operand}{Jm:Array TypeId}{f}{nf}{QI}{cs}(hb:base<=w0.w.heap.size)(hf:Qo prog f){R}(hF:QK prog f s.h cs R)(hk:∀d h,R d h->QA prog base nt w0 Q (.ops r::k) .normal ⟨ZC s.fr dst d,h⟩)(hx:KM (Qt s.fr x)=some (f,nf,QI):=by rfl)(he:WH (JT nf QI (args.toList.map (Qt s.fr))) cs:=by simp only[go_sem])(ht:ZQ nt dst=true:=by rfl):QA prog base nt w0 Q (.ops ((⟨dst,.call ⟨.value x,args,Jm⟩,ty,pos,after,gd⟩,none)::r)::k) .normal s:=VH hb hf hx he hF ht hk
def cR2{dst}{ty:TypeId}{pos}{after}{gd}{r}{x}{args:Array Operand}{Jm:Array TypeId}{f}{nf}{QI}{cs}(hb:base<=w0.w.heap.size)(hf:Qo prog f){R}(hF:QV prog f s.h cs R)(hk:∀d,R d->QA prog base nt w0 Q (.ops r::k) .normal ⟨ZC s.fr dst d,s.h⟩)(hx:KM (Qt s.fr x)=some (f,nf,QI):=by rfl)(he:WH (JT nf QI (args.toList.map (Qt s.fr))) cs:=by simp only[go_sem])(ht:ZQ nt dst=true:=by rfl):QA prog base nt w0 Q (.ops ((⟨dst,.call ⟨.value x,args,Jm⟩,ty,pos,after,gd⟩,none)::r)::k) .normal s:=Z8 hb hf hx he hF ht hk
def Wu{dst}{ty:TypeId}{pos}{after}{gd}{r}{x}{args:Array Operand}{Jm:Array TypeId}{f}{nf}{QI}{cs}(hb:base<=w0.w.heap.size)(hf:Qo prog f){R}(hF:Q4 prog f cs R)(hl:∀d h,R d h->d.flat=true/\∀o∈h,o.flat)(hk:∀d h,R d h->QA prog base nt w0 Q (.ops r::k) .normal ⟨ZC s.fr dst (d.shift s.h.length),s.h++h.map (Ob.shift s.h.length)⟩)(hx:KM (Qt s.fr x)=some (f,nf,QI):=by rfl)(he:match vQ (XQ s.h 4) (JT nf QI (args.toList.map (Qt s.fr))) with|some (p,cs')=>p/\WH cs' cs|none=>False:=by simp only[go_sem])(ht:ZQ nt dst=true:=by rfl):QA prog base nt w0 Q (.ops ((⟨dst,.call ⟨.value x,args,Jm⟩,ty,pos,after,gd⟩,none)::r)::k) .normal s:=ZW hb hf hx he hF hl ht hk
def xR2{dst}{ty:TypeId}{pos}{after}{gd}{r}{x}{args:Array Operand}{Jm:Array TypeId}{f}{nf}{QI}{cs}(hb:base<=w0.w.heap.size)(hf:Qo prog f){R}(hF:QV prog f s.h cs R)(hk:∀d,R d->AX prog base nt w0 K r ⟨ZC s.fr dst d,s.h⟩)(hx:KM (Qt s.fr x)=some (f,nf,QI):=by rfl)(he:WH (JT nf QI (args.toList.map (Qt s.fr))) cs:=by simp only[go_sem])(ht:ZQ nt dst=true:=by rfl):AX prog base nt w0 K ((false,⟨dst,.call ⟨.value x,args,Jm⟩,ty,pos,after,gd⟩,none)::r) s:=Xj hb hf hx he hF ht hk
def xv{dst}{ty : TypeId}{after}{gd}{r}{x}{args : Array Operand}{Jm : Array TypeId}{f}{nf}{QI}{cs}(hb : base <= w0.w.heap.size)(hf : Qo prog f){R}(hF : QK prog f s.h cs R)(hk : ∀ d h, R d h -> AX prog base nt w0 K r ⟨ZC s.fr dst d, h⟩)(hx : KM (Qt s.fr x) = some (f, nf, QI) := by rfl)(he : WH (JT nf QI (args.toList.map (Qt s.fr))) cs := by simp only[go_sem])(ht : ZQ nt dst = true := by rfl): AX prog base nt w0 K ((false, ⟨dst, .call ⟨.value x, args, Jm⟩, ty, "!", after, gd⟩, none) :: r) s := Aw hb hf hx he hF ht hk
def VX{dst}{ty:TypeId}{pos}{after}{gd}{r}{x}{args:Array Operand}{Jm:Array TypeId}{f}{nf}{QI}{cs}(hb:base<=w0.w.heap.size)(hf:Qo prog f){R}(hF:Q4 prog f cs R)(hl:∀d h,R d h->d.flat=true/\∀o∈h,o.flat)(hk:∀d h,R d h->AX prog base nt w0 K r ⟨ZC s.fr dst (d.shift s.h.length),s.h++h.map (Ob.shift s.h.length)⟩)(hx:KM (Qt s.fr x)=some (f,nf,QI):=by rfl)(he:match vQ (XQ s.h 4) (JT nf QI (args.toList.map (Qt s.fr))) with|some (p,cs')=>p/\WH cs' cs|none=>False:=by simp only[go_sem])(ht:ZQ nt dst=true:=by rfl):AX prog base nt w0 K ((false,⟨dst,.call ⟨.value x,args,Jm⟩,ty,pos,after,gd⟩,none)::r) s:=Vj hb hf hx he hF hl ht hk
def Va(nc){id}{ops}(hb:base<=w0.w.heap.size)(l:List Nat)(R:List Nat)(h:Vk prog base w0 cx nt (Gg prog base w0 cx nt (PC prog base w0 Q cx nt 200 k) R.length (Go.Fg.kN nc ops R) ((ml l).map (·.1))) (Go.Fg.VO nc ops (ml l)) s)(hB:EG nc cx.L ops (ml l) R=true:=by kernel_rfl)(hU:CV ops s.fr=true:=by kernel_rfl):QA prog base nt w0 Q (.code (.region id ops true)::k) .normal s:=QfQ nc Qi hb 200 mixed (ml l) R hB hU h
end
def QQ{w0}{fr g}{h}(e:Ig fr g:=by simp only[go_sem]):Qp w0 ⟨fr,h⟩ ⟨g,h⟩:=Qp.frame e
end Go.Fg.X
namespace Go.Fg.X
open Go.Proofs Go.Fg
open Go.Proofs.Tryz
def uC{h}{loc}{it}{l r:Tr}{le}{hi n}(i:Raw h loc it l r le hi n)(nd:(loc::(l.QR++r.QR)).Nodup)(hs:l.size+r.size<800000):
  QK prog 315 h [.ptr loc 0 0 0] (λd h'=>∃t',d=t'.ptr/\kV h (.node loc it l r) (l.list++it::r.list) h' t'):=by
 have yA:=nd;simp only[Jf,Q9,zw]at yA;obtain⟨⟨nl,nr⟩,nd3⟩:=yA;have hl:=l.Rh;have hr:=r.Rh;have el:IntKind.i64.wrap ((l.high:Int)+1)=((l.high+1:Nat):Int):=by rw[wrap64 (by omega) (by omega)];omega
 have er:IntKind.i64.wrap ((r.high:Int)+1)=((r.high+1:Nat):Int):=by rw[wrap64 (by omega) (by omega)];omega
 have h1:=i.o;refine Q6 Qi 200 func315 rfl ntmps315 results315 rfl λbase w pl hb=>?_;have QO:=Qc h1;simp only[go_sem,Qa,h1,QO];refine Jh hb EM (EV (loc:=loc) i (by omega) (by omega) nl nr) λd h2 hR=>?_;have hlen:h2.length=h.length:=by rw[hR];simp
 have t2:VA h2 (.node loc it l r):=by
  rw[hR];exact⟨Qs QO,i.il.set _ nl,i.ir.set _ nr⟩
 have k2:∀k,k≠loc->h2[k]? = h[k]? := λk hk=>by rw[hR,Qk (Q8 hk)]
 clear hR;have u2:kV h (.node loc it l r) (Tr.node loc it l r).list h2 (.node loc it l r):=⟨t2,rfl,nd,λ_ h=>.inl h,λk _ hn=>k2 k λe=>hn (by rw[e];simp[Tr.QR]),by omega⟩;have h3:=t2.1;have ZR:=Qc h3;refine Qe hb ?_;simp only[go_sem,Qa,h3,ZR];refine xu 2 ?_;refine Qe hb ?_;simp only[go_sem,Qa,h3,ZR];apply QH hb [0,2,3,4,5,6,7,8,1001,1009,10,11];simp only[go_sem,Qa,h3,ZR];refine Yh hb vY (wi t2.2.1.toR) λd hR=>?_;subst hR;refine Zr hb ?_;simp only[go_sem,Qa,h3,ZR];refine Xj hb vY rfl ?_ (wi t2.2.2.toR) rfl λd hR=>?_
 ·simp only[go_sem,Qa,h3,ZR,er]
 subst hR;refine Zr hb ?_;simp only[go_sem,Qa,h3,ZR,er];by_cases c0:l.high<=r.high+1
 ·have d0:=Q5 c0;simp only[go_sem,Qa,d0];refine Qe hb ?_;simp only[go_sem,Qa,h3,ZR];apply QH hb [0,2,3,4,5,6,7,8,1001,1009,10,11];simp only[go_sem,Qa,h3,ZR];refine Yh hb vY (wi t2.2.2.toR) λd hR=>?_;subst hR;refine Zr hb ?_;simp only[go_sem,Qa,h3,ZR];refine Xj hb vY rfl ?_ (wi t2.2.1.toR) rfl λd hR=>?_
  ·simp only[go_sem,Qa,h3,ZR,el]
  subst hR;refine Zr hb ?_;simp only[go_sem,Qa,h3,ZR,el];by_cases c1:r.high<=l.high+1
  ·have d1:=Q5 c1;simp only[go_sem,Qa,d1];refine Qe hb ?_;simp only[go_sem,Qa,h3,ZR];apply Zi hb;exact⟨.node loc it l r,rfl,u2⟩
  ·have d1:=QN c1;simp only[go_sem,Qa,d1];cases r with
   | nil=>exact absurd (Z7 _) c1
   | node ly iy b a=>
    have JP:=hs;simp only[Tr.size]at JP;have h4:=t2.2.2.1;have GF:=Qc h4;have Qz:loc≠ly:=by rintro rfl;simp[Tr.QR,Jf,Km,QM,Q9]at nd
    apply QH hb [0,1,2,3,4,5,6,8,9,10,11,12,13,1007,1014,15];simp only[go_sem,Qa,h3,ZR,h4,GF];refine Yh hb vY (wi t2.2.2.2.1.toR) λd hR=>?_;subst hR;refine Zr hb ?_;simp only[go_sem,Qa,h3,ZR,h4,GF];refine Yh hb vY (wi t2.2.2.2.2.toR) λd hR=>?_;subst hR;refine Zr hb ?_;simp only[go_sem,Qa,h3,ZR,h4,GF];by_cases c2:a.high<b.high
    ·have d2:=Q5 c2;simp only[go_sem,Qa,d2];cases b with
     | nil=>exact absurd c2 (Vw _)
     | node lb ib b1 b2=>
      simp only[Tr.EU]at h4;simp only[Tr.size]at JP;have h5:=t2.2.2.2.1.1;have Qxs:=Qc h5;have VQ:loc≠lb:=by rintro rfl;simp[Tr.QR,Jf,Km,QM,Q9]at nd
      have BN:ly≠lb:=by rintro rfl;simp[Tr.QR,Jf,Km,QM,Q9]at nd
      apply Va [5] hb [0,1,2,3,4,6,7,1005,8,1009] [];simp only[go_sem,Qa,h3,ZR];refine xv hb P3 (uA (lx:=ly) (ly:=lb) (a:=b1) (b:=b2) (c:=a) h4 h5 t2.2.2.2.1.2.1 t2.2.2.2.1.2.2 t2.2.2.2.2 (by simp only[Tr.QR,Jf,Km,QM,Q9]at nd ⊢;grind) (by omega)) λd h6 hR=>?_;obtain⟨rfl,t4,l4,k4⟩:=hR;have h7:h6[loc]? = _:=(k4 loc Qz VQ).trans h3;have yB:=Qc h7;refine Zr hb ?_;simp only[go_sem,Qa,h7,yB];have tr:VA h6 l:=t2.2.1.frame λk hk=>k4 k (by rintro rfl;simp only[Tr.QR,Jf,Km,QM,Q9]at nd;grind) (by rintro rfl;simp only[Tr.QR,Jf,Km,QM,Q9]at nd;grind);apply Zi hb;refine Jh hb P3 (uB (lx:=loc) (ly:=lb) (a:=l) (b:=b1) (c:=.node ly iy b2 a) (Qs yB) ((Qk VQ).trans t4.1) (tr.set _ nl) (t4.2.1.set _ (by simp only[Tr.QR,Jf,Km,QM,Q9]at nd ⊢;grind)) (t4.2.2.set _ (by simp only[Tr.QR,Jf,Km,QM,Q9]at nd ⊢;grind)) (by simp only[Tr.QR,Jf,Km,QM,Q9]at nd ⊢;grind) (by simp only[Tr.size];omega)) λd h8 hR=>?_;obtain⟨rfl,t8,l8,k8⟩:=hR;apply Zi hb;refine⟨(.node lb ib (.node loc it l b1) (.node ly iy b2 a)),rfl,u2.trans ⟨t8,by simp[Tr.list],by simp only[Tr.QR,Jf,Km,QM,Q9]at nd ⊢;grind,λk hk=>.inl (by simp only[Tr.QR,QM,Q9]at hk ⊢;grind),λk _ hk=>?_,by rw[l8,KD,l4];exact QB _⟩⟩;simp only[Tr.QR,QM,Q9,zw]at hk;rw[k8 k (by grind) (by grind),Qk (by grind),k4 k (by grind) (by grind)]
    ·have d2:=QN c2;simp only[go_sem,Qa,d2];apply Zi hb;refine Jh hb P3 (uB (lx:=loc) (ly:=ly) (a:=l) (b:=b) (c:=a) h3 h4 t2.2.1 t2.2.2.2.1 t2.2.2.2.2 (by simp only[Tr.QR,Jf,Km,QM,Q9]at nd ⊢;grind) (by omega)) λd h8 hR=>?_;obtain⟨rfl,t8,l8,k8⟩:=hR;apply Zi hb;refine⟨(.node ly iy (.node loc it l b) a),rfl,u2.trans ⟨t8,by simp[Tr.list],by simp only[Tr.QR,Jf,Km,QM,Q9]at nd ⊢;grind,λk hk=>.inl (by simp only[Tr.QR,QM,Q9]at hk ⊢;grind),λk _ hk=>?_,by rw[l8];exact QB _⟩⟩;simp only[Tr.QR,QM,Q9,zw]at hk;exact k8 k (by grind) (by grind)
 ·have d0:=QN c0;simp only[go_sem,Qa,d0];cases l with
  | nil=>exact absurd (Z7 _) c0
  | node ly iy a b=>
   have JP:=hs;simp only[Tr.size]at JP;have h4:=t2.2.1.1;have GF:=Qc h4;have Qz:loc≠ly:=by rintro rfl;simp[Tr.QR,Jf,Km,QM,Q9]at nd
   apply QH hb [0,1,2,3,4,5,6,8,9,10,11,12,13,1007,1014,15];simp only[go_sem,Qa,h3,ZR,h4,GF];refine Yh hb vY (wi t2.2.1.2.2.toR) λd hR=>?_;subst hR;refine Zr hb ?_;simp only[go_sem,Qa,h3,ZR,h4,GF];refine Yh hb vY (wi t2.2.1.2.1.toR) λd hR=>?_;subst hR;refine Zr hb ?_;simp only[go_sem,Qa,h3,ZR,h4,GF];by_cases c2:a.high<b.high
   ·have d2:=Q5 c2;simp only[go_sem,Qa,d2];cases b with
    | nil=>exact absurd c2 (Vw _)
    | node lb ib b1 b2=>
     simp only[Tr.EU]at h4;simp only[Tr.size]at JP;have h5:=t2.2.1.2.2.1;have Qxs:=Qc h5;have VQ:loc≠lb:=by rintro rfl;simp[Tr.QR,Jf,Km,QM,Q9]at nd
     have BN:ly≠lb:=by rintro rfl;simp[Tr.QR,Jf,Km,QM,Q9]at nd
     apply Va [5] hb [0,1,2,3,4,6,7,1005,8,1009] [];simp only[go_sem,Qa,h3,ZR];refine xv hb P3 (uB (lx:=ly) (ly:=lb) (a:=a) (b:=b1) (c:=b2) h4 h5 t2.2.1.2.1 t2.2.1.2.2.2.1 t2.2.1.2.2.2.2 (by simp only[Tr.QR,Jf,Km,QM,Q9]at nd ⊢;grind) (by omega)) λd h6 hR=>?_;obtain⟨rfl,t4,l4,k4⟩:=hR;have h7:h6[loc]? = _:=(k4 loc Qz VQ).trans h3;have yB:=Qc h7;refine Zr hb ?_;simp only[go_sem,Qa,h7,yB];have tr:VA h6 r:=t2.2.2.frame λk hk=>k4 k (by rintro rfl;simp only[Tr.QR,Jf,Km,QM,Q9]at nd;grind) (by rintro rfl;simp only[Tr.QR,Jf,Km,QM,Q9]at nd;grind);apply Zi hb;refine Jh hb P3 (uA (lx:=loc) (ly:=lb) (a:=.node ly iy a b1) (b:=b2) (c:=r) (Qs yB) ((Qk VQ).trans t4.1) (t4.2.1.set _ (by simp only[Tr.QR,Jf,Km,QM,Q9]at nd ⊢;grind)) (t4.2.2.set _ (by simp only[Tr.QR,Jf,Km,QM,Q9]at nd ⊢;grind)) (tr.set _ nr) (by simp only[Tr.QR,Jf,Km,QM,Q9]at nd ⊢;grind) (by simp only[Tr.size];omega)) λd h8 hR=>?_;obtain⟨rfl,t8,l8,k8⟩:=hR;apply Zi hb;refine⟨(.node lb ib (.node ly iy a b1) (.node loc it b2 r)),rfl,u2.trans ⟨t8,by simp[Tr.list],by simp only[Tr.QR,Jf,Km,QM,Q9]at nd ⊢;grind,λk hk=>.inl (by simp only[Tr.QR,QM,Q9]at hk ⊢;grind),λk _ hk=>?_,by rw[l8,KD,l4];exact QB _⟩⟩;simp only[Tr.QR,QM,Q9,zw]at hk;rw[k8 k (by grind) (by grind),Qk (by grind),k4 k (by grind) (by grind)]
   ·have d2:=QN c2;simp only[go_sem,Qa,d2];apply Zi hb;refine Jh hb P3 (uA (lx:=loc) (ly:=ly) (a:=a) (b:=b) (c:=r) h3 h4 t2.2.1.2.1 t2.2.1.2.2 t2.2.2 (by simp only[Tr.QR,Jf,Km,QM,Q9]at nd ⊢;grind) (by omega)) λd h8 hR=>?_;obtain⟨rfl,t8,l8,k8⟩:=hR;apply Zi hb;refine⟨(.node ly iy a (.node loc it b r)),rfl,u2.trans ⟨t8,by simp[Tr.list],by simp only[Tr.QR,Jf,Km,QM,Q9]at nd ⊢;grind,λk hk=>.inl (by simp only[Tr.QR,QM,Q9]at hk ⊢;grind),λk _ hk=>?_,by rw[l8];exact QB _⟩⟩;simp only[Tr.QR,QM,Q9,zw]at hk;exact k8 k (by grind) (by grind)
def UZ(d):Yd d d=True:=by cases d<;>simp[Yd]
def uD:∀l:List D,WH l l
 | []=>trivial
 | d::r=>⟨(UZ d).mpr trivial,uD r⟩
def QiZ{h}{loc}{it:It}{l r}(i:jY h (.node loc it l r))(a)(k):QV prog 314 h [.ptr loc 0 0 0,.agg [u64 a,Qb k]] (λd=>d=Qb (if KB it.ka it.ki a k then 1 else 0)):=by
 have h2:=i.1;have c1:=uy a k it.ka it.ki;have e1:(0<jt a k it.ka it.ki)↔KB it.ka it.ki a k:=Qxb;generalize jt a k it.ka it.ki=p at *;refine Zq Qi 200 func314 rfl ntmps314 results314 rfl λbase w pl F hF Q3 hb=>?_;rw[<- hF]at h2;have K9:=Qc h2;simp only[go_sem,Qa,h2,K9];apply QH hb [0,1,2,3,4,5,1006,7];simp only[go_sem,Qa,h2,K9];refine VX hb tE c1 (Qn.flat rfl) λd h hR=>?_;obtain⟨rfl,rfl⟩:=hR;apply WW hb;by_cases hp:0<p
 ·have d1:=Q5 hp;simp only[go_sem,Qa,d1];rw[Qf (e1.1 hp)];exact⟨_,rfl,rfl⟩
 ·have d1:=QN hp;simp only[go_sem,Qa,d1];rw[Qd (λh=>hp (e1.2 h))];exact⟨_,rfl,rfl⟩
structure uE (dv:D) (f nf:Nat) (QI:List D) (B:List (Nat × Ob)) (a:Nat) (k:Int) (fL:Tr->List It) (N:Nat) (Nl:Prop):Prop where
 fok:Qo prog f
 cal:KM dv=some (f,nf,QI)
 len:∀s,(fL s).length<=s.size+1
 run:∀(h:List Ob) (s:Tr),VA h s->s.QR.Nodup->s.size<=N->VB s.list->(s=.nil->Nl)->(∀loc it l r,s=.node loc it l r->it.ka=a/\it.ki=k)->(∀p∈B,h[p.1]? = some p.2/\p.1 ∉ s.QR) ->
  QK prog f h (JT nf QI [s.ptr]) (λd h'=>∃s',d=s'.ptr/\kV h s (fL s) h' s')
def uF{a}{k}{fL:Tr->List It}(hf:∀s,(fL s).length<=s.size+1):∀t:Tr,(t.Dq a k fL).length<=t.size+1
 | .nil=>hf _
 | .node loc it l r=>by
  have h1:=uF (a:=a) (k:=k) hf l;have h2:=uF (a:=a) (k:=k) hf r;have h3:=hf (.node loc it l r);have h4:=Tr.Dm l;have h5:=Tr.Dm r;rw[Tr.Dq];split
  ·exact h3
  ·split
   ·simp only[Zj,Vh,Tr.size]at *;omega
   ·simp only[Zj,Vh,Tr.size]at *;omega
def VA.app{h}{t}(i:VA h t)(g):VA (h++g) t:=i.frame λl hl=>Qx (i.lt l hl)
def kV.under{h g h'}{t t'}{L}(u:kV (h++g) t L h' t'):kV h t L h' t':=
 ⟨u.is,u.list,u.nd,λl hl=>by
  rcases u.mem l hl with h1|h1
  ·exact .inl h1
  ·exact .inr (by simp only[Zj]at h1;omega),λl hl hn=>by rw[u.keep l (by simp only[Zj];omega) hn,Qx hl],by have:=u.len;simp only[Zj]at this;omega⟩
def U0{dv}{f nf}{QI}{B}{a}{k}{fL}{N}{Nl}(O:uE dv f nf QI B a k fL N Nl)(hN:N<700000):
  ∀(t:Tr) (h:List Ob),VA h t->t.QR.Nodup->t.size<=N->VB t.list->(t.find a k=.nil->Nl)->(∀p∈B,h[p.1]? = some p.2/\p.1 ∉ t.QR) ->
   QK prog 296 h [t.ptr,.agg [u64 a,Qb k],dv] (λd h'=>∃t',d=t'.ptr/\kV h t (t.Dq a k fL) h' t')
 | .nil,h,i,nd,hs,V8,mg,hB=>by
  have hd:=O.run;have hO:=O.fok;have hc:=O.cal;refine Q6 Qi 200 func296 rfl ntmps296 results296 rfl λbase w pl hb=>?_;simp only[go_sem,Qa];apply QH hb [0,1,2,3,4,5,6,7,8,9,10];simp only[go_sem,Qa];refine VH hb hO hc (uD _) (hd _ .nil trivial (by simp[Tr.QR]) (Z7 _) V8 (λ_=>mg rfl) (λ_ _ _ _ e=>by cases e) λp hp=>⟨(Qx (Qc (hB p hp).1)).trans (hB p hp).1,(hB p hp).2⟩) rfl λd h2 hR=>?_;obtain⟨s',rfl,u⟩:=hR;apply Zi hb;exact⟨s',rfl,u.under⟩
 | .node loc it l r,h,i,nd,hs,V8,mg,hB=>by
  have hd:=O.run;have hO:=O.fok;have hc:=O.cal;have h1:=i.1;have yA:=nd;simp only[Tr.QR,Jf,Q9,zw]at yA;obtain⟨⟨nl,nr⟩,nd3⟩:=yA;have hlen:=uF (a:=a) (k:=k) O.len;obtain⟨sl,sr,_,_⟩:=GB.1 (show VB (l.list++it::r.list) from V8);refine Q6 Qi 200 func296 rfl ntmps296 results296 rfl λbase w pl hb=>?_;have QO:=Qc h1;simp only[go_sem,Qa,h1,QO];apply QH hb [0,1,2,3,4,5,6,7,8,9,10];simp only[go_sem,Qa,h1,QO];by_cases e1:it.ka=a/\it.ki=k
  ·have d1:((it.ka:Int)==(a:Int)&&it.ki==k)=true:=by simp[e1.1,e1.2]
   simp only[go_sem,Qa,d1,Tr.Dq,Qf e1];refine VH hb hO hc (uD _) (hd _ (.node loc it l r) (i.app _) nd hs V8 (λe=>by cases e) (λ_ _ _ _ e=>by cases e;exact e1) λp hp=>⟨(Qx (Qc (hB p hp).1)).trans (hB p hp).1,(hB p hp).2⟩) rfl λd h2 hR=>?_;obtain⟨s',rfl,u⟩:=hR;apply Zi hb;exact⟨s',rfl,u.under⟩
  have d1:((it.ka:Int)==(a:Int)&&it.ki==k)=false:=by
   rw[jK];intro hh;simp only[Z9,vG]at hh;exact e1 ⟨by omega,hh.2⟩
  simp only[go_sem,Qa,d1,Tr.Dq,Qd e1];refine ZN hb Qif (QiZ (i.app _).toR a k) λd hR=>?_;subst hR;refine Qe hb ?_;simp only[go_sem,Qa,h1,QO];by_cases e2:KB it.ka it.ki a k
  ·simp only[Qf e2];apply Va [10] hb [0,1,2,3,4,5,6,7,8,9,11,12,1010,13,1014] [];simp only[go_sem,Qa,h1,QO];refine Aw hb UG rfl ?_ (U0 O hN r _ (i.2.2.app _) (by simp only[Tr.QR,Jf,Km,QM,Q9]at nd ⊢;grind) (by simp only[Tr.size]at hs;omega) sr (λe=>mg (by rw[Tr.find,Qd e1,Qf e2];exact e)) λp hp=>⟨(Qx (Qc (hB p hp).1)).trans (hB p hp).1,λhm=>(hB p hp).2 (by simp only[Tr.QR,QM,Q9];grind)⟩) rfl λd h6 hR=>?_
   ·simp only[go_sem,UZ]
   obtain⟨t',rfl,u⟩:=hR;have u:=u.under;have h7:h6[loc]? = _:=(u.keep loc QO (by simp only[Tr.QR,Jf,Km,QM,Q9]at nd ⊢;grind)).trans h1;have yB:=Qc h7;have ul:=u.list;have JP:=Tr.Dm t';rw[ul]at JP;have Jx:=hlen r;have nt:loc ∉ t'.QR:=λhm=>by
    rcases u.mem loc hm with h9|h9
    ·simp only[Tr.QR,Jf,Km,QM,Q9]at nd;grind
    ·omega
   have no:∀k∈l.QR,k ∉ t'.QR:=λk hk hm=>by
    have U1:=i.2.1.lt k hk;rcases u.mem k hm with h9|h9
    ·simp only[Tr.QR,Jf,Km,QM,Q9]at nd;grind
    ·omega
   have to:VA h6 l:=i.2.1.frame λk hk=>u.keep k (i.2.1.lt k hk) (by simp only[Tr.QR,Jf,Km,QM,Q9]at nd ⊢;grind);refine Zr hb ?_;simp only[go_sem,Qa,h7,yB];apply Zi hb;refine VH hb tG rfl ?_ (uC (loc:=loc) (l:=l) (r:=t') ⟨Qs yB,to.set _ nl,u.is.set _ nt⟩ (by
    have a1:=u.nd;simp only[Tr.QR,Jf,Km,QM,Q9]at nd ⊢;grind) (by simp only[Tr.size]at hs;omega)) rfl λd h8 hR=>?_
   ·simp only[go_sem]
   obtain⟨t'',rfl,v⟩:=hR;apply Zi hb;have vl:=v.list;refine⟨t'',rfl,v.is,by rw[vl,ul],v.nd,λk hk=>?_,λk hk hn=>?_,by have q1:=v.len;have q2:=u.len;simp only[KD]at q1;omega⟩
   ·rcases v.mem k hk with h9|h9
    ·have a2:=u.mem k;simp only[Tr.QR,QM,Q9]at h9 ⊢;grind
    ·have:=u.len;simp only[KD]at h9;exact .inr (by omega)
   ·have a2:=u.mem k;have a3:=u.len;rw[v.keep k (by simp only[KD];omega) (λh9=>by
     simp only[Tr.QR,QM,Q9]at h9 hn;rcases h9 with h9|h9|h9
     ·exact hn (.inl h9)
     ·exact hn (.inr (.inl h9))
     ·rcases a2 h9 with jh|jh
      ·exact hn (.inr (.inr jh))
      ·omega),Qk (λh9=>hn (by rw[h9];simp[Tr.QR])),u.keep k hk (λh9=>hn (by simp only[Tr.QR,QM,Q9];grind))]
  ·simp only[Qd e2];apply Va [10] hb [0,1,2,3,4,5,6,7,8,9,11,12,1010,13,1014] [];simp only[go_sem,Qa,h1,QO];refine Aw hb UG rfl ?_ (U0 O hN l _ (i.2.1.app _) (by simp only[Tr.QR,Jf,Km,QM,Q9]at nd ⊢;grind) (by simp only[Tr.size]at hs;omega) sl (λe=>mg (by rw[Tr.find,Qd e1,Qd e2];exact e)) λp hp=>⟨(Qx (Qc (hB p hp).1)).trans (hB p hp).1,λhm=>(hB p hp).2 (by simp only[Tr.QR,QM,Q9];grind)⟩) rfl λd h6 hR=>?_
   ·simp only[go_sem,UZ]
   obtain⟨t',rfl,u⟩:=hR;have u:=u.under;have h7:h6[loc]? = _:=(u.keep loc QO (by simp only[Tr.QR,Jf,Km,QM,Q9]at nd ⊢;grind)).trans h1;have yB:=Qc h7;have ul:=u.list;have JP:=Tr.Dm t';rw[ul]at JP;have Jx:=hlen l;have nt:loc ∉ t'.QR:=λhm=>by
    rcases u.mem loc hm with h9|h9
    ·simp only[Tr.QR,Jf,Km,QM,Q9]at nd;grind
    ·omega
   have no:∀k∈r.QR,k ∉ t'.QR:=λk hk hm=>by
    have U1:=i.2.2.lt k hk;rcases u.mem k hm with h9|h9
    ·simp only[Tr.QR,Jf,Km,QM,Q9]at nd;grind
    ·omega
   have to:VA h6 r:=i.2.2.frame λk hk=>u.keep k (i.2.2.lt k hk) (by simp only[Tr.QR,Jf,Km,QM,Q9]at nd ⊢;grind);refine Zr hb ?_;simp only[go_sem,Qa,h7,yB];apply Zi hb;refine VH hb tG rfl ?_ (uC (loc:=loc) (l:=t') (r:=r) ⟨Qs yB,u.is.set _ nt,to.set _ nr⟩ (by
    have a1:=u.nd;simp only[Tr.QR,Jf,Km,QM,Q9]at nd ⊢;grind) (by simp only[Tr.size]at hs;omega)) rfl λd h8 hR=>?_
   ·simp only[go_sem]
   obtain⟨t'',rfl,v⟩:=hR;apply Zi hb;have vl:=v.list;refine⟨t'',rfl,v.is,by rw[vl,ul],v.nd,λk hk=>?_,λk hk hn=>?_,by have q1:=v.len;have q2:=u.len;simp only[KD]at q1;omega⟩
   ·rcases v.mem k hk with h9|h9
    ·have a2:=u.mem k;simp only[Tr.QR,QM,Q9]at h9 ⊢;grind
    ·have:=u.len;simp only[KD]at h9;exact .inr (by omega)
   ·have a2:=u.mem k;have a3:=u.len;rw[v.keep k (by simp only[KD];omega) (λh9=>by
     simp only[Tr.QR,QM,Q9]at h9 hn;rcases h9 with h9|h9|h9
     ·exact hn (.inl h9)
     ·rcases a2 h9 with jh|jh
      ·exact hn (.inr (.inl jh))
      ·omega
     ·exact hn (.inr (.inr h9))),Qk (λh9=>hn (by rw[h9];simp[Tr.QR])),u.keep k hk (λh9=>hn (by simp only[Tr.QR,QM,Q9];grind))]
def yC(t:Tr):Ob:=⟨.one,0,1,1,λ_=>[t.ptr]⟩
attribute [go_sem] yC
def Qi2{h:List Ob}{tl}{t:Tr}(ht:(h.map Ob.ro)[tl]? = some (yC t).ro)(i:jY h t)(a)(k):
  QV prog 295 h [.ptr tl 0 0 0,.agg [u64 a,Qb k]] (λd=>d=(t.find a k).ptr):=by
 refine Zq Qi 200 func295 rfl ntmps295 results295 rfl λbase w pl F hF Q3 hb=>?_;rw[<- hF]at ht;have ZD:=Qc ht;simp only[go_sem,Qa,ht,ZD];refine Jg (λj st=>∃s:Tr,s.size+j<=t.size/\jY h s/\s.find a k=t.find a k/\st=⟨[(3,.ptr F.length 0 0 0),(5,s.ptr)],F++[⟨.one,0,2,1,λ_=>[u64 a,Qb k]⟩]⟩) t.size (s0:=⟨[(3,.ptr F.length 0 0 0),(5,t.ptr)],F++[⟨.one,0,2,1,λ_=>[u64 a,Qb k]⟩]⟩) ?_ ⟨t,by omega,i,rfl,rfl⟩ ?_
 ·exact QQ
 rintro j _ hj ⟨s,hs,is,hf,rfl⟩;cases s with
 | nil=>
  apply QC hb;apply QH hb [0,1,2,3,4,5,6,7,8,9,10];simp only[go_sem,Qa,Go.undef];apply Zi hb;exact⟨_,rfl,by rw[<- hf];rfl⟩
 | node loc it l r=>
  have h3:=is.1;rw[<- hF]at h3;have ZR:=Qc h3;apply QC hb;apply QH hb [0,1,2,3,4,5,6,7,8,9,10];simp only[go_sem,Qa,h3,ZR];rw[Tr.find]at hf;by_cases e1:it.ka=a/\it.ki=k
  ·have d1:((it.ka:Int)==(a:Int)&&it.ki==k)=true:=by simp[e1.1,e1.2]
   rw[Qf e1]at hf;simp only[go_sem,Qa,d1,bne];refine Qe hb ?_;simp only[go_sem,ZR];exact⟨_,rfl,by rw[<- hf];rfl⟩
  ·have d1:((it.ka:Int)==(a:Int)&&it.ki==k)=false:=by
    rw[jK];intro hh;simp only[Z9,vG]at hh;exact e1 ⟨by omega,hh.2⟩
   rw[Qd e1]at hf;simp only[go_sem,Qa,d1,bne];apply QH hb [0,1,2,4,5,1003,6,7,8];simp only[go_sem,Qa,h3,ZR];refine Yh hb Qif (QiZ (is.more (II hF)) a k) λd hR=>?_;subst hR;refine Zr hb ?_;simp only[go_sem,Qa,h3,ZR];have JP:l.size+j+1<=t.size/\r.size+j+1<=t.size:=by simp only[Tr.size]at hs;omega
   by_cases e2:KB it.ka it.ki a k
   ·rw[Qf e2]at hf;simp only[go_sem,Qa,Qf e2,h3,ZR];refine⟨by omega,_,QQ,r,by omega,is.2.2,hf,rfl⟩
   ·rw[Qd e2]at hf;simp only[go_sem,Qa,Qd e2,h3,ZR];refine⟨by omega,_,QQ,l,by omega,is.2.1,hf,rfl⟩
def Qxt{h:List Ob}{lk lv}{x:It}(hk:h[lk]? = some ⟨.one,0,2,1,λ_=>[u64 x.ka,Qb x.ki]⟩)(hv:h[lv]? = some ⟨.one,0,2,1,λ_=>[u64 x.va,Qb x.vi]⟩)(s):
  QK prog 297 h [s.ptr,.ptr lk 0 0 0,.ptr lv 0 0 0] (λd h'=>∃s',d=s'.ptr/\kV h s [x] h' s'):=by
 refine Q6 Qi 200 func297 rfl ntmps297 results297 rfl λbase w pl hb=>?_;have Qxu:=Qc hk;have Qxv:=Qc hv;simp only[go_sem,Qa,hk,Qxu,hv,Qxv];refine Jh hb EM (EV (loc:=h.length) (it:=x) (l:=.nil) (r:=.nil) (le:=⟨0,0,0,0⟩) (hi:=0) (n:=0) ⟨Kx rfl,trivial,trivial⟩ (by simp[Tr.size]) (by simp[Tr.size]) (by simp[Tr.QR]) (by simp[Tr.QR])) λd h2 hR=>?_;apply Zi hb;refine⟨.node h.length x .nil .nil,rfl,⟨?_,trivial,trivial⟩,rfl,by simp[Tr.QR],λl hl=>.inr (by simp[Tr.QR]at hl;omega),λl hl _=>?_,by rw[hR];simp⟩
 ·rw[hR,Qs (by simp)]
 ·rw[hR,Qk (by omega),Qx hl]
structure BO (h:List Ob) (tl:Nat) (t:Tr) (L:List It):Prop where
 o:h[tl]? = some (yC t)
 is:VA h t
 list:t.list=L
 nd:t.QR.Nodup
 out:tl ∉ t.QR
 sorted:VB L
structure U2 (h:List Ob) (tl:Nat) (t:Tr) (L:List It) (h':List Ob) (t':Tr):Prop where
 is:BO h' tl t' L
 mem:∀l∈t'.QR,l∈t.QR\/h.length<=l
 keep:∀l,l<h.length->l≠tl->l ∉ t.QR->h'[l]? = h[l]?
 len:h.length<=h'.length
def BO.app{h}{tl}{t}{L}(a:BO h tl t L)(g):BO (h++g) tl t L:=⟨(Qx (Qc a.o)).trans a.o,a.is.app g,a.list,a.nd,a.out,a.sorted⟩
def BO.to{h g h2:List Ob}{tl}{t t'}{L L'}(a:BO h tl t L)(u:kV (h++g) t L' h2 t')(hs:VB L'):U2 h tl t L' (h2.set tl (yC t')) t':=by
 have v:=u.under;have hl:=Qc a.o;have h1:h2[tl]? = some (yC t):=(v.keep tl hl a.out).trans a.o;have nt:tl ∉ t'.QR:=λhm=>by
  rcases v.mem tl hm with h3|h3
  ·exact a.out h3
  ·omega
 exact⟨⟨Qs (Qc h1),v.is.set _ nt,v.list,v.nd,nt,hs⟩,v.mem,λl h3 h4 h5=>by rw[Qk (Q8 h4)];exact v.keep l h3 h5,by rw[KD];exact v.len⟩
def U3{h}{tl}{t}{L:List It}(A:BO h tl t L)(x:It)(hf:qx x.ka x.ki L=none)(hs:L.length<600000):
  QK prog 252 h [.ptr tl 0 0 0,.agg [u64 x.ka,Qb x.ki],.agg [u64 x.va,Qb x.vi]] (λd h'=>d=Qb 0/\∃t',U2 h tl t (YV x L) h' t'):=by
 have h1:=A.o;have hl:t.size=L.length:=by rw[<- Tr.Dm,A.list]
 have uG:(t.find x.ka x.ki)=.nil:=by
  have h2:=Tr.US (a:=x.ka) (i:=x.ki) t (by rw[A.list];exact A.sorted);rw[A.list,hf]at h2;cases hc:t.find x.ka x.ki with
  | nil=>rfl
  | node a b c d=>rw[hc]at h2;cases h2
 have cf:=λg=>Qi2 (h:=h++g) (Z3 (A.app g).o) (A.is.app g).toR x.ka x.ki;rw[uG]at cf;refine Q6 Qi 200 func252 rfl ntmps252 results252 rfl λbase w pl hb=>?_;have QO:=Qc h1;simp only[go_sem,Qa,h1,QO];refine ZN hb Qib (cf _) λd hR=>?_;subst hR;refine Qe hb ?_;simp only[go_sem,Qa,h1,QO];apply Va [7] hb [0,1,2,3,4,5,6,1007,8,9,1010] [];simp only[go_sem,Qa,h1,QO];have O:uE (.clo 297 0 [.ptr h.length 0 0 0,.ptr (h.length+1) 0 0 0]) 297 0 [.ptr h.length 0 0 0,.ptr (h.length+1) 0 0 0] [(h.length,⟨.one,0,2,1,λ_=>[u64 x.ka,Qb x.ki]⟩),(h.length+1,⟨.one,0,2,1,λ_=>[u64 x.va,Qb x.vi]⟩)] x.ka x.ki (λ_=>[x]) 600000 True:=
  ⟨Qwa,rfl,λs=>by simp,λh' s i2 yA JL _ _ _ hB=>by
   have b1:=(hB (h.length,_) (Vn ..)).1;have b2:=(hB (h.length+1,_) (KI _ (Vn ..))).1;exact Qxt (x:=x) b1 b2 s⟩
 refine xv hb UG (U0 O (by decide) t _ (A.is.app _) A.nd (by omega) (by rw[A.list];exact A.sorted) (λ_=>trivial) ?_) λd h6 hR=>?_
 ·intro p hp;have hm:∀q,h.length<=q->q ∉ t.QR:=λq hq hm=>by have:=A.is.lt q hm;omega
  simp only[QM,List.not_mem_nil,or_false]at hp;rcases hp with rfl|rfl
  ·exact⟨Kx rfl,hm _ (QB _)⟩
  ·exact⟨Vr rfl,hm _ (by show h.length<=h.length+1;omega)⟩
 obtain⟨t',rfl,u⟩:=hR;rw[um rfl t (by rw[A.list];exact A.sorted) (by rw[A.list];exact hf),A.list]at u;have h2:=(u.under.keep tl QO A.out).trans A.o;have K9:=Qc h2;refine Zr hb ?_;simp only[go_sem,Qa,h2,K9];exact⟨t',A.to u (uk A.sorted hf)⟩
def Tr.Qxw:∀t:Tr,t≠.nil->∃rest,t.list=t.GC::rest:=λt h=>by
 have h1:=Tr.uq t h;cases hl:t.list with
 | nil=>rw[hl]at h1;cases h1
 | cons a b=>rw[hl]at h1;simp only[List.head?_cons,Za]at h1;exact⟨b,by rw[h1]⟩
def Qxx{x:It}{L}:qx x.ka x.ki (x::L)=some x:=by
 unfold qx;rw[wR,yz.2 ⟨rfl,rfl⟩]
def Qxy{x:It}{L}(hs:VB (x::L)):XW x.ka x.ki (x::L)=L:=by
 have h:=QiU x.ka x.ki [] L x hs;rw[Qf ⟨rfl,rfl⟩]at h;exact h
def Qi3(N:Nat):Prop:=∀(h:List Ob) (s:Tr),VA h s->s.QR.Nodup->s.size<=N->VB s.list->s≠.nil ->
 QK prog 313 h [s.ptr] (λd h'=>∃s',d=s'.ptr/\kV h s s.Nv h' s')
def Qi4{N}(W:Qi3 N)(a)(k):uE (.raw (.func (.func 313) #[] #[])) 313 0 [] [] a k Tr.Nv N False:=
 ⟨Qwd,rfl,λs=>by
  cases s with
  | nil=>simp[Tr.Nv]
  | node loc it l r=>simp only[Tr.Nv,Zj,Tr.Dm,Tr.size];omega,λh s i nd hs V8 hn _ _=>W h s i nd hs V8 λe=>hn e⟩
def Qi5:∀N,N<600000->Qi3 N
 | 0,_,_,.nil,_,_,_,_,hn=>absurd rfl hn
 | 0,_,_,.node _ _ _ _,_,_,hs,_,_=>by simp only[Tr.size]at hs;omega
 | _+1,_,_,.nil,_,_,_,_,hn=>absurd rfl hn
 | N+1,hN,h,.node loc it l .nil,i,nd,hs,V8,_=>by
  have h1:=i.1;refine Q6 Qi 200 func313 rfl ntmps313 results313 rfl λbase w pl hb=>?_;have QO:=Qc h1;simp only[go_sem,Qa,h1,QO];refine⟨l,rfl,?_⟩;have u:=kV.refl i.2.1 (t:=l) (by simp only[Tr.QR,Jf,Km]at nd;exact nd.2.1);simp only[Tr.Nv,Tr.list,QU];exact⟨u.is,rfl,u.nd,λx hx=>.inl (by simp[Tr.QR,hx]),λ_ _ _=>rfl,QB _⟩
 | N+1,hN,h,.node loc it l (.node lr ir rl rr),i,nd,hs,V8,_=>by
  have h1:=i.1;refine Q6 Qi 200 func313 rfl ntmps313 results313 rfl λbase w pl hb=>?_;have QO:=Qc h1;simp only[go_sem,Qa,h1,QO];have yA:=nd;simp only[Tr.QR,Jf,Km,QM,Q9,zw]at yA;generalize hr:Tr.node lr ir rl rr=r at *;have hrn:r≠.nil:=by rw[<- hr];simp
  have hrp:D.ptr lr 0 0 0=r.ptr:=by rw[<- hr];rfl
  rw[hrp];refine Jg (λj st=>∃s:Tr,s.size+j<=r.size/\s≠.nil/\VA h s/\s.GC=r.GC/\(∀x∈s.QR,x∈r.QR)/\st=⟨[(0,.ptr loc 0 0 0),(3,s.ptr)],h⟩) r.size (s0:=⟨[(0,.ptr loc 0 0 0),(3,r.ptr)],h⟩) QQ ⟨r,by omega,hrn,i.2.2,rfl,λ_ hx=>hx,rfl⟩ ?_;rintro j _ hj ⟨s,kW,CJ,is,hf,Xn,rfl⟩;rcases s with _|⟨ls,im,sl,sr⟩
  ·exact absurd rfl CJ
  have h3:=is.1;have ZR:=Qc h3;rcases sl with _|⟨a1,a2,a3,a4⟩
  ·have jv:ls∈r.QR:=Xn ls (by simp[Tr.QR]);have Qz:loc≠ls:=by rintro rfl;simp only[Tr.QR,Jf,Km,QM,Q9]at nd;grind
   have nl:loc ∉ l.QR:=by simp only[Tr.QR,Jf,Km,QM,Q9]at nd;grind
   have nr:loc ∉ r.QR:=by simp only[Tr.QR,Jf,Km,QM,Q9]at nd;grind
   have ZY:=Qk (h:=h) (o:=GA im l.ptr r.ptr (Tr.node loc it l r).least ((Tr.node loc it l r).high:Nat) ((Tr.node loc it l r).size:Nat)) Qz;obtain⟨s1,s2,s3,s4⟩:=GB.1 (show VB (l.list++it::r.list) from V8);obtain⟨rest,Ku⟩:=Tr.Qxw r hrn;have Nw:r.GC=im:=by rw[<- hf];rfl
   rw[Nw]at Ku;have uG:r.find im.ka im.ki=.nil->False:=λe=>by
    have h5:=Tr.US (a:=im.ka) (i:=im.ki) r s2;rw[e,Ku,Qxx]at h5;cases h5
   have ndr:r.QR.Nodup:=by simp only[Tr.QR,Jf,Km,QM,Q9]at nd;grind
   refine Qe hb ?_;simp only[go_sem,Qa,h3,ZR];refine Qe hb ?_;simp only[go_sem,Qa,h1,QO,h3,ZR];apply Va [11] hb [0,1,2,3,4,5,6,7,8,9,10,12,13,1011,14,1015] [];simp only[go_sem,Qa,h1,QO,Qs QO,Qk Qz,h3];refine Aw hb UG rfl ?_ (U0 (Qi4 (Qi5 N (by omega)) im.ka im.ki) (by omega) r _ (i.2.2.set _ nr) ndr (by simp only[Tr.size]at hs;omega) s2 uG (λp hp=>by cases hp)) rfl λd h6 hR=>?_
   ·simp only[go_sem,UZ]
   obtain⟨t',rfl,u⟩:=hR;rw[lY r s2,Ku,Qxy (by rw[<- Ku];exact s2)]at u;have h7:=(u.keep loc (by simpa using QO) nr).trans (Qs QO);have yB:=Qc h7;have nt:loc ∉ t'.QR:=λhm=>by
    rcases u.mem loc hm with h9|h9
    ·exact nr h9
    ·simp only[KD]at h9;omega
   have no:∀k∈l.QR,k ∉ t'.QR:=λk hk hm=>by
    have U1:=i.2.1.lt k hk;rcases u.mem k hm with h9|h9
    ·simp only[Tr.QR,Jf,Km,QM,Q9]at nd;grind
    ·simp only[KD]at h9;omega
   have to:VA h6 l:=(i.2.1.set _ nl).frame λk hk=>u.keep k (by simpa using i.2.1.lt k hk) (by simp only[Tr.QR,Jf,Km,QM,Q9]at nd ⊢;grind);refine Zr hb ?_;simp only[go_sem,Qa,h7,yB];apply Zi hb;have ul:=u.list;have JP:=Tr.Dm t';rw[ul]at JP;have qs:=Tr.Dm r;rw[Ku,Vh]at qs;refine VH hb tG rfl ?_ (uC (loc:=loc) (l:=l) (r:=t') (it:=im) ⟨Qs yB,to.set _ nl,u.is.set _ nt⟩ (by
    have a1:=u.nd;simp only[Tr.QR,Jf,Km,QM,Q9]at nd ⊢;grind) (by simp only[Tr.size]at hs;omega)) rfl λd h8 hR=>?_
   ·simp only[go_sem]
   obtain⟨t'',rfl,v⟩:=hR;apply Zi hb;have vl:=v.list;refine⟨t'',rfl,v.is,by rw[vl,ul,Tr.Nv,Ku],v.nd,λk hk=>?_,λk hk hn=>?_,by have q1:=v.len;have q2:=u.len;simp only[KD]at q1 q2;omega⟩
   ·have q2:=u.len;rcases v.mem k hk with h9|h9
    ·have a2:=u.mem k;simp only[Tr.QR,QM,Q9,KD]at h9 a2 ⊢;grind
    ·simp only[KD]at h9 q2;exact .inr (by omega)
   ·have a2:=u.mem k;have a3:=u.len;simp only[KD]at a2 a3;rw[v.keep k (by simp only[KD];omega) (λh9=>by
     simp only[Tr.QR,QM,Q9]at h9 hn;rcases h9 with h9|h9|h9
     ·exact hn (.inl h9)
     ·exact hn (.inr (.inl h9))
     ·rcases a2 h9 with jh|jh
      ·exact hn (.inr (.inr jh))
      ·omega),Qk (λh9=>hn (by rw[h9];simp[Tr.QR])),u.keep k (by simpa using hk) (λh9=>hn (by simp only[Tr.QR,QM,Q9];grind)),Qk (λh9=>hn (by rw[h9];simp[Tr.QR]))]
  ·refine Qe hb ?_;simp only[go_sem,Qa,h3,ZR];refine⟨by simp only[Tr.size]at kW;omega,_,QQ,.node a1 a2 a3 a4,by simp only[Tr.size]at kW ⊢;omega,by simp,is.2.1,by rw[<- hf];rfl,λx hx=>Xn x (by rw[Tr.QR];simp[hx]),rfl⟩
@[go_sem] def uH(o:Option It):D:=.tup [.agg (o.getD default).cells,QJ o.isSome]
def uJ{h}{tl}{t}{L:List It}(A:BO h tl t L)(a)(k)(hf:qx a k L≠none)(hs:L.length<500000):
  QK prog 294 h [.ptr tl 0 0 0,.agg [u64 a,Qb k]] (λd h'=>d=Qb 0/\∃t',U2 h tl t (XW a k L) h' t'):=by
 have h1:=A.o;have hl:t.size=L.length:=by rw[<- Tr.Dm,A.list]
 have h2:=Tr.US (a:=a) (i:=k) t (by rw[A.list];exact A.sorted);rw[A.list]at h2;have cf:=λg=>Qi2 (h:=h++g) (Z3 (A.app g).o) (A.is.app g).toR a k;cases hc:t.find a k with
 | nil=>rw[hc]at h2;exact absurd h2.symm hf
 | node b1 b2 b3 b4=>
  rw[hc]at cf;refine Q6 Qi 200 func294 rfl ntmps294 results294 rfl λbase w pl hb=>?_;have QO:=Qc h1;simp only[go_sem,Qa,h1,QO];refine ZN hb Qib (cf _) λd hR=>?_;subst hR;refine Qe hb ?_;simp only[go_sem,Qa,h1,QO];apply Va [6] hb [0,1,2,3,4,5,1006,7,8,1009] [];simp only[go_sem,Qa,h1,QO];refine Aw hb UG rfl ?_ (U0 (Qi4 (Qi5 500000 (by decide)) a k) (by decide) t _ (A.is.app _) A.nd (by omega) (by rw[A.list];exact A.sorted) (λe=>by rw[hc]at e;cases e) (λp hp=>by cases hp)) rfl λd h6 hR=>?_
  ·simp only[go_sem,UZ]
  obtain⟨t',rfl,u⟩:=hR;rw[lY t (by rw[A.list];exact A.sorted),A.list]at u;have h2:=(u.under.keep tl QO A.out).trans A.o;have K9:=Qc h2;refine Zr hb ?_;simp only[go_sem,Qa,h2,K9];exact⟨t',A.to u (Qxf A.sorted)⟩
section
variable {h:List Ob}{tl:Nat}{t:Tr}(ht:(h.map Ob.ro)[tl]? = some (yC t).ro)(i:jY h t)
include ht i
theorem Qi7:QV prog 266 h [.ptr tl 0 0 0] (λd=>d=Qb t.size):=by
 refine Zq Qi 200 func266 rfl ntmps266 results266 rfl λbase w pl F hF Q3 hb=>?_;rw[<- hF]at ht;have ZD:=Qc ht;simp only[go_sem,Qa,ht,ZD];refine ZN hb Gp (GD (i.more λl o e=>by have:=II (g:=[]) hF l o e;rwa [QU]at this)) λd hR=>?_;subst hR;refine Qe hb ?_;simp only[go_sem,Qa,ht,ZD];exact⟨[],by simp⟩
theorem Qi8:QV prog 210 h [.ptr tl 0 0 0] (λd=>d=uH t.list.head?):=by
 have i2:∀{F:List Ob},F=h.map Ob.ro->∀g,jY (F++g) t:=λhF g=>i.more (II hF);have wa:∀{F:List Ob},F=h.map Ob.ro->∀g,((F++g).map Ob.ro)[tl]? = some (yC t).ro:=λhF g=>II hF _ _ ht;by_cases hn:t=.nil
 ·subst hn;refine Zq Qi 200 func210 rfl ntmps210 results210 rfl λbase w pl F hF Q3 hb=>?_;rw[<- hF]at ht;have ZD:=Qc ht;simp only[go_sem,Qa,ht,ZD];refine Z8 hb Qh6 rfl ?_ (Qi7 (wa hF _) (i2 hF _)) rfl λd hR=>?_
  ·simp only[go_sem,Qa,ht,ZD,Tr.size]
  subst hR;refine Qe hb ?_;simp only[go_sem,Qa,ht,ZD,Tr.size];exact⟨_,rfl,rfl⟩
 ·rw[Tr.uq t hn];have JP:t.size≠0:=by cases t with
   | nil=>exact absurd rfl hn
   | node a b c d=>simp only[Tr.size];omega
  have d0:((t.size:Int)==0)=false:=by simpa using JP
  refine Zq Qi 200 func210 rfl ntmps210 results210 rfl λbase w pl F hF Q3 hb=>?_;rw[<- hF]at ht;have ZD:=Qc ht;simp only[go_sem,Qa,ht,ZD];refine Z8 hb Qh6 rfl ?_ (Qi7 (wa hF _) (i2 hF _)) rfl λd hR=>?_
  ·simp only[go_sem,Qa,ht,ZD,d0]
  subst hR;refine Qe hb ?_;simp only[go_sem,Qa,ht,ZD,d0];refine Jg (λj st=>∃s:Tr,s.size+j<=t.size/\s≠.nil/\jY h s/\s.GC=t.GC/\st=⟨[(2,.ptr F.length 0 0 0),(4,s.ptr)],F++[⟨.one,0,4,1,λ_=>[u64 0,Qb 0,u64 0,Qb 0]⟩]⟩) t.size (s0:=⟨[(2,.ptr F.length 0 0 0),(4,t.ptr)],F++[⟨.one,0,4,1,λ_=>[u64 0,Qb 0,u64 0,Qb 0]⟩]⟩) QQ ⟨t,by omega,hn,i,rfl,rfl⟩ ?_;rintro j _ hj ⟨s,kW,CJ,is,hf,rfl⟩;rcases s with _|⟨ls,im,sl,sr⟩
  ·exact absurd rfl CJ
  have h3:=is.1;rw[<- hF]at h3;have ZR:=Qc h3;rcases sl with _|⟨a1,a2,a3,a4⟩
  ·refine Qe hb ?_;simp only[go_sem,Qa,h3,ZR];refine Qe hb ?_;simp only[go_sem,Qa,h3,ZR];rw[<- hf];exact⟨_,rfl,rfl⟩
  ·refine Qe hb ?_;simp only[go_sem,Qa,h3,ZR];refine⟨by simp only[Tr.size]at kW;omega,_,QQ,.node a1 a2 a3 a4,by simp only[Tr.size]at kW ⊢;omega,by simp,is.2.1,by rw[<- hf];rfl,rfl⟩
omit ht i in
theorem QxB{n loc}{it:It}{l r:Tr}(h:(Tr.node loc it l r).hasB n=true)(hl:l.hasB n=false)(hi:¬ it.va<=n):r.hasB n=true:=by
 rw[Tr.UT]at h ⊢;obtain⟨x,hx,hv⟩:=h;simp only[Tr.list,Q9,QM]at hx;rcases hx with hx|rfl|hx
 ·have:=(Tr.UT n l).2 ⟨x,hx,hv⟩;rw[hl]at this;cases this
 ·exact absurd hv hi
 ·exact⟨x,hx,hv⟩
theorem QxC(n):QV prog 300 h [.ptr tl 0 0 0,u64 n] (λd=>d=uH (t.list.find? λx=>decide (x.va<=n))):=by
 have i2:∀{F:List Ob},F=h.map Ob.ro->∀g,jY (F++g) t:=λhF g=>i.more (II hF);rw[<- Tr.lZ];cases hB:t.hasB n with
 | false=>
  have Jy:t.first n=none:=by
   rw[Tr.lZ,vE];intro x hx hv;have:=(Tr.UT n t).2 ⟨x,hx,by simpa using hv⟩;rw[hB]at this;cases this
  rw[Jy];refine Zq Qi 200 func300 rfl ntmps300 results300 rfl λbase w pl F hF Q3 hb=>?_;rw[<- hF]at ht;have ZD:=Qc ht;simp only[go_sem,Qa,ht,ZD];refine Z8 hb tH rfl ?_ (uz (i2 hF _) n) rfl λd hR=>?_
  ·simp only[go_sem,Qa,ht,ZD,hB]
  subst hR;refine Qe hb ?_;simp only[go_sem,Qa,ht,ZD,hB];exact⟨_,rfl,rfl⟩
 | true=>
  refine Zq Qi 200 func300 rfl ntmps300 results300 rfl λbase w pl F hF Q3 hb=>?_;rw[<- hF]at ht;have ZD:=Qc ht;simp only[go_sem,Qa,ht,ZD];refine Z8 hb tH rfl ?_ (uz (i2 hF _) n) rfl λd hR=>?_
  ·simp only[go_sem,Qa,ht,ZD,hB]
  subst hR;refine Qe hb ?_;simp only[go_sem,Qa,ht,ZD,hB];have hn:t≠.nil:=by rintro rfl;simp[Tr.hasB]at hB
  refine Jg (λj st=>∃s:Tr,s.size+j<=t.size/\s≠.nil/\jY h s/\s.hasB n=true/\s.first n=t.first n/\st=⟨[(1,u64 n),(4,.ptr F.length 0 0 0),(6,s.ptr)],F++[⟨.one,0,4,1,λ_=>[u64 0,Qb 0,u64 0,Qb 0]⟩]⟩) t.size (s0:=⟨[(1,u64 n),(4,.ptr F.length 0 0 0),(6,t.ptr)],F++[⟨.one,0,4,1,λ_=>[u64 0,Qb 0,u64 0,Qb 0]⟩]⟩) QQ ⟨t,by omega,hn,i,hB,rfl,rfl⟩ ?_;rintro j _ hj ⟨s,kW,CJ,is,hsB,hf,rfl⟩;rcases s with _|⟨ls,im,sl,sr⟩
  ·exact absurd rfl CJ
  have h3:=is.1;rw[<- hF]at h3;have ZR:=Qc h3;rw[Tr.first]at hf;refine Qe hb ?_;simp only[go_sem,Qa,h3,ZR];refine ZN hb tH (uz (is.2.1.more (II hF)) n) λd hR=>?_;subst hR;refine Qe hb ?_;simp only[go_sem,Qa,h3,ZR];cases hL:sl.hasB n with
  | true=>
   rw[hL,Qf rfl]at hf;simp only[go_sem,Qa,hL,h3,ZR];refine⟨by simp only[Tr.size]at kW;omega,_,QQ,sl,by simp only[Tr.size]at kW;omega,by rintro rfl;simp[Tr.hasB]at hL,is.2.1,hL,hf,rfl⟩
  | false=>
   rw[hL,Qd (by decide)]at hf;simp only[go_sem,Qa,hL,h3,ZR];by_cases hv:im.va<=n
   ·have d1:=Q5 hv;rw[Qf hv]at hf;simp only[go_sem,Qa,d1,h3,ZR];rw[<- hf];exact⟨_,rfl,rfl⟩
   ·have d1:=QN hv;rw[Qd hv]at hf;simp only[go_sem,Qa,d1,h3,ZR];have hR:=QxB hsB hL hv;refine⟨by simp only[Tr.size]at kW;omega,_,QQ,sr,by simp only[Tr.size]at kW;omega,by rintro rfl;simp[Tr.hasB]at hR,is.2.2,hR,hf,rfl⟩
end
@[go_sem] def uK(o:Option It):Ob:=⟨.one,0,4,1,λ_=>(o.getD default).cells⟩
@[go_sem] def uL(o:Option It):Ob:=⟨.one,0,1,1,λ_=>[QJ o.isSome]⟩
def QxE(x):kU x x=x:=by rw[QiO,Qd (UR x)]
def Qi9{h:List Ob}{lm lo}{o}(hm:h[lm]? = some (uL o))(ho:h[lo]? = some (uK o))(Qz:lm≠lo)(x):
  QK prog 267 h [.agg x.cells,.ptr lm 0 0 0,.ptr lo 0 0 0] (λ_ h'=>∃g,h'=(h.set lm (uL (ju o x))).set lo (uK (ju o x))++g):=by
 have Yg:=Q8 Qz;cases o with
 | none=>
  have cb:=Rm x x;rw[QxE]at cb;refine Q6 Qi 200 func267 rfl ntmps267 results267 rfl λbase w pl hb=>?_;have QG:=Qc hm;have Qg:=Qc ho;simp only[go_sem,Qa,hm,QG,ho,Qg,Qk Qz,Qk Yg,xW,wV,KA,OX,ju,Qs QG,Qs Qg];refine ZW hb PZ rfl ?_ cb (Qn.flat rfl) rfl λd h hR=>?_
  ·simp only[go_sem,Qa,hm,QG,ho,Qg,Qk Qz,Qk Yg,xW,wV,KA,OX,ju,Qs QG,Qs Qg]
  obtain⟨rfl,rfl⟩:=hR;refine Qe hb ?_;simp only[go_sem,Qa,hm,QG,ho,Qg,Qk Qz,Qk Yg,xW,wV,KA,OX,ju,Qs QG,Qs Qg];rw[List.set_comm _ _ Yg,JS];exact⟨_,rfl⟩
 | some y=>
  have cb:=Rm y x;refine Q6 Qi 200 func267 rfl ntmps267 results267 rfl λbase w pl hb=>?_;have QG:=Qc hm;have Qg:=Qc ho;simp only[go_sem,Qa,hm,QG,ho,Qg,Qk Qz,Qk Yg,xW,wV,KA,OX,ju,Qs QG,Qs Qg];refine ZW hb PZ rfl ?_ cb (Qn.flat rfl) rfl λd h hR=>?_
  ·simp only[go_sem,Qa,hm,QG,ho,Qg,Qk Qz,Qk Yg,xW,wV,KA,OX,ju,Qs QG,Qs Qg]
  obtain⟨rfl,rfl⟩:=hR;refine Qe hb ?_;simp only[go_sem,Qa,hm,QG,ho,Qg,Qk Qz,Qk Yg,xW,wV,KA,OX,ju,Qs QG,Qs Qg];exact⟨_,rfl⟩
def Tr.QxF(n loc)(it:It)(l r:Tr)(o):(Tr.node loc it l r).VI n o=if n<it.ka then l.VI n o else r.VI n (match l with
  | .nil=>ju o it
  | .node a b c d=>ju (ju o it) (Tr.node a b c d).least):=by cases l<;>rfl
def BP(F g:List Ob)(n:Nat)(s:Tr)(o:Option It):St:=
 ⟨[(1,u64 n),(4,.ptr F.length 0 0 0),(6,.ptr (F.length+1) 0 0 0),(7,.ptr (F.length+2) 0 0 0),(8,.clo 267 0 [.ptr (F.length+2) 0 0 0,.ptr (F.length+1) 0 0 0]),(9,s.ptr)],
  F++(⟨.one,0,4,1,λ_=>[u64 0,Qb 0,u64 0,Qb 0]⟩::uK o::uL o::g)⟩
section
variable {h:List Ob}{tl:Nat}{t:Tr}(ht:(h.map Ob.ro)[tl]? = some (yC t).ro)(i:jY h t)
include ht i
theorem Qja(n):QV prog 212 h [.ptr tl 0 0 0,u64 n] (λd=>d=uH (t.VI n none)):=by
 refine Zq Qi 200 func212 rfl ntmps212 results212 rfl λbase w pl F hF Q3 hb=>?_;rw[<- hF]at ht;have ZD:=Qc ht;simp only[go_sem,Qa,ht,ZD];refine Jg (λj st=>∃(s:Tr) (o:Option It) (g:List Ob),s.size+j<=t.size/\jY h s/\s.VI n o=t.VI n none/\st=BP F g n s o) t.size (s0:=BP F [] n t none) ?_ ⟨t,none,[],by omega,i,rfl,rfl⟩ ?_
 ·simp only[BP];exact QQ
 rintro j _ hj ⟨s,o,g,kW,is,hf,rfl⟩;rcases s with _|⟨ls,im,sl,sr⟩
 ·simp only[BP];apply QC hb;apply QC hb;apply Va [] hb [0] [1,2,3];simp only[go_sem,Qa];have jV:o=t.VI n none:=hf;subst jV;refine⟨⟨_,rfl,rfl⟩,⟨_,rfl,rfl⟩⟩
 have h3:=is.1;rw[<- hF]at h3;have ZR:=Qc h3;rw[Tr.QxF]at hf;by_cases hv:n<im.ka
 ·have d1:=Q5 hv;rw[Qf hv]at hf;simp only[BP];refine Qe hb ?_;simp only[go_sem,Qa,h3,ZR,d1];refine⟨by simp only[Tr.size]at kW;omega,BP F g n sl o,?_,sl,o,g,by simp only[Tr.size]at kW;omega,is.2.1,hf,rfl⟩;simp only[BP];exact QQ
 ·have d1:=QN hv;rw[Qd hv]at hf;simp only[BP];refine Qe hb ?_;simp only[go_sem,Qa,h3,ZR,d1];refine Jh hb Qh7 (Qi9 (lm:=F.length+2) (lo:=F.length+1) (o:=o) (Vr rfl) (Vr rfl) (by omega) im) λd h6 hR=>?_;obtain⟨g2,rfl⟩:=hR;simp only[go_sem,Qa];cases sl with
  | nil=>
   refine Qe hb ?_;simp only[go_sem,Qa,h3,ZR];refine⟨by simp only[Tr.size]at kW;omega,BP F (g++g2) n sr (ju o im),?_,sr,_,_,by simp only[Tr.size]at kW;omega,is.2.2,hf,rfl⟩;simp only[BP];exact QQ
  | node a b c e=>
   have h4:=is.2.1.1;rw[<- hF]at h4;have GF:=Qc h4;refine Qe hb ?_;simp only[go_sem,Qa,h3,ZR,h4,GF];refine Jh hb Qh7 (Qi9 (lm:=F.length+2) (lo:=F.length+1) (o:=ju o im) (Vr rfl) (Vr rfl) (by omega) (Tr.node a b c e).least) λd h6 hR=>?_;obtain⟨g3,rfl⟩:=hR;simp only[go_sem,Qa];refine Qe hb ?_;simp only[go_sem,Qa,h3,ZR];refine⟨by simp only[Tr.size]at kW;omega,BP F (g++(g2++g3)) n sr (ju (ju o im) (Tr.node a b c e).least),?_,sr,_,_,by simp only[Tr.size]at kW;omega,is.2.2,hf,rfl⟩;simp only[BP];exact QQ
end
def Yi(e:ZU):Int × D:=(e.k,e.v)
structure YW (es:List ZU) (P:List (Int × D)):Prop where
 perm:(es.map Yi).Perm P
 nd:(P.map Prod.fst).Nodup
def YW.De{es}{P}(M:YW es P):Yt es:=by
 have h1:es.map (·.k)=(es.map Yi).map Prod.fst:=by simp[Yi,dW]
 unfold Yt;rw[h1,(M.perm.map Prod.fst).nodup_iff];exact M.nd
def Rq:∀{es:List ZU},Yt es->∀{k:Int} {v:D},ZJ es k=some v↔(k,v)∈es.map Yi
 | [],_,k,v=>by simp[ZJ]
 | e::es,hn,k,v=>by
  have VQ:Yt es:=by unfold Yt at hn ⊢;simp only[J7,Jf]at hn;exact hn.2
  simp only[ZJ];by_cases h:e.k=k
  ·rw[Qf h];constructor
   ·rintro⟨rfl⟩;simp[Yi,h]
   ·intro hm;simp only[J7,QM]at hm;rcases hm with hm|hm
    ·simp only[Yi,Zp]at hm;rw[hm.2]
    ·exfalso;obtain⟨e',Xz,hh⟩:=Jk.1 hm;simp only[Yi,Zp]at hh;unfold Yt at hn;simp only[J7,Jf,Jk,FR,not_and]at hn;exact hn.1 e' Xz (by rw[hh.1,h])
  ·rw[Qd h,Rq VQ];simp only[J7,QM];constructor
   ·exact λh=>.inr h
   ·rintro (hm|hm)
    ·simp only[Yi,Zp]at hm;exact absurd hm.1.symm h
    ·exact hm
def look(P:List (Int × D))(k:Int):Option D:=(P.find? λp=>p.1==k).map Prod.snd
def mh:∀{P:List (Int × D)},(P.map Prod.fst).Nodup->∀{k:Int} {v:D},look P k=some v↔(k,v)∈P
 | [],_,k,v=>by simp[look]
 | p::P,hn,k,v=>by
  simp only[J7,Jf]at hn;have ih:=mh hn.2 (k:=k) (v:=v);unfold look at ih ⊢;rw[wR];by_cases h:p.1=k
  ·rw[vG.2 h];simp only[K0,Za,QM];constructor
   ·rintro rfl;exact .inl (by rw[<- h])
   ·rintro (hm|hm)
    ·rw[<- hm]
    ·exact absurd (Jk.2 ⟨_,hm,rfl⟩) (by rw[<- h];exact hn.1)
  ·have hb:(p.1==k)=false:=by simpa using h
   rw[hb,ih,QM];constructor
   ·exact λh=>.inr h
   ·rintro (hm|hm)
    ·exact absurd (by rw[<- hm]) h
    ·exact hm
def YW.look{es}{P}(M:YW es P)(k):ZJ es k=look P k:=by
 cases hf:X.look P k with
 | some v=>
  rw[Rq M.De,M.perm.mem_iff];exact(mh M.nd).1 hf
 | none=>
  cases ha:ZJ es k with
  | none=>rfl
  | some v=>
   rw[Rq M.De,M.perm.mem_iff]at ha;rw[(mh M.nd).2 ha]at hf;cases hf
def YW.len{es:List ZU}{P:List (Int × D)}(M:YW es P):es.length=P.length:=by
 have:=M.perm.length_eq;rwa [Kl]at this
def Dr(P:List (Int × D))(k:Int):List (Int × D):=P.filter λp=>p.1 != k
def GG(P:List (Int × D))(k:Int)(v:D):List (Int × D):=(k,v)::Dr P k
def Qjb{P:List (Int × D)}(k:Int)(h:(P.map Prod.fst).Nodup):((Dr P k).map Prod.fst).Nodup:=by
 unfold Dr;exact List.Nodup.sublist (List.Sublist.map _ List.filter_sublist) h
def Qjc{P:List (Int × D)}(k)(v:D)(h:(P.map Prod.fst).Nodup):((GG P k v).map Prod.fst).Nodup:=by
 rw[GG,J7,Jf];refine⟨λhm=>?_,Qjb k h⟩;obtain⟨p,hp,e⟩:=Jk.1 hm;simp only[Dr,J8,bne_iff_ne,ne_eq]at hp;exact hp.2 e
def Qjd:∀{es:List ZU} (k:Int) (v:D),Yt es->(∃u,ZJ es k=some u)->((kG es k v).map Yi).Perm ((k,v)::(es.map Yi).filter λp=>p.1 != k)
 | [],k,v,_,h=>by obtain⟨u,hu⟩:=h;cases hu
 | e::es,k,v,hn,h=>by
  have VQ:Yt es/\∀e'∈es,e'.k≠e.k:=by
   unfold Yt at hn ⊢;simp only[J7,Jf,Jk,FR,not_and]at hn;exact⟨hn.2,hn.1⟩
  simp only[kG];by_cases he:e.k=k
  ·rw[Qf he,J7,J7];have h1:(Yi e).1=k:=he;rw[xS,show ((Yi e).1 != k)=false by rw[h1];simp];simp only[qa,jP];rw[y7.2]
   ·exact OO _
   ·intro p hp;obtain⟨e',Xz,rfl⟩:=Jk.1 hp;have:=VQ.2 e' Xz;simpa[Yi,<- he] using this
  ·rw[Qd he,J7,J7,xS];have h1:((Yi e).1 != k)=true:=by simpa[Yi] using he
   rw[h1,Qf rfl];have h2:∃u,ZJ es k=some u:=by
    obtain⟨u,hu⟩:=h;simp only[ZJ,Qd he]at hu;exact⟨u,hu⟩
   exact(List.Perm.cons _ (Qjd k v VQ.1 h2)).trans (List.Perm.swap _ _ _)
def YW.set{es}{P}(M:YW es P)(q)(c)(k)(v):∃c' es',J2 q c es k v=QS q c' es'/\YW es' (GG P k v):=by
 unfold J2;cases ha:ZJ es k with
 | some u=>
  refine⟨c,kG es k v,rfl,?_,Qjc k v M.nd⟩;exact(Qjd k v M.De ⟨u,ha⟩).trans (List.Perm.cons _ (M.perm.filter _))
 | none=>
  refine⟨c+1,es++[⟨k,v,c⟩],rfl,?_,Qjc k v M.nd⟩;rw[jN,GG];have hd:Dr P k=P:=by
   unfold Dr;rw[y7];intro p hp;rw[bne_iff_ne];intro e;have:=(mh M.nd (k:=k) (v:=p.2)).2 (by rw[<- e];exact hp);rw[<- M.look,ha]at this;cases this
  rw[hd];exact(List.perm_append_comm.trans (List.Perm.cons _ M.perm))
def Qje:∀{es:List ZU} (k:Int),Yt es->((Kg es k).map Yi)=((es.map Yi).filter λp=>p.1 != k)
 | [],_,_=>rfl
 | e::es,k,hn=>by
  have VQ:Yt es/\∀e'∈es,e'.k≠e.k:=by
   unfold Yt at hn ⊢;simp only[J7,Jf,Jk,FR,not_and]at hn;exact⟨hn.2,hn.1⟩
  simp only[Kg];by_cases he:e.k=k
  ·rw[Qf he,J7,xS,show ((Yi e).1 != k)=false by simpa[Yi] using he];simp only[qa,jP];rw[y7.2];intro p hp;obtain⟨e',Xz,rfl⟩:=Jk.1 hp;have:=VQ.2 e' Xz;simpa[Yi,<- he] using this
  ·rw[Qd he,J7,J7,xS,show ((Yi e).1 != k)=true by simpa[Yi] using he,Qf rfl,Qje k VQ.1]
def YW.del{es}{P}(M:YW es P)(k):YW (Kg es k) (Dr P k):=by
 refine⟨?_,Qjb k M.nd⟩;rw[Qje k M.De];exact M.perm.filter _
def YW.nil:YW [] []:=⟨by simp,by simp⟩
def YW.to{es}{P Q:List (Int × D)}(M:YW es P)(h:P.Perm Q):YW es Q:=⟨M.perm.trans h,((h.map Prod.fst).nodup_iff).1 M.nd⟩
structure Step (S:Nat->Prop) (h h':List Ob):Prop where
 keep:∀l,l<h.length->¬ S l->h'[l]? = h[l]?
 len:h.length<=h'.length
def more(S:Nat->Prop)(h:List Ob):Nat->Prop:=λl=>S l\/h.length<=l
def Step.trans{S}{h h' qO}(a:Step S h h')(b:Step (more S h) h' qO):Step S h qO:=
 ⟨λl hl hn=>by rw[b.keep l (wU hl a.len) (λh1=>h1.elim hn (by omega)),a.keep l hl hn],KZ a.len b.len⟩
def Step.app(S)(h g):Step S h (h++g):=⟨λl hl _=>Qx hl,by simp⟩
structure Vl (es:List ZU) (f:Int->Option D):Prop where
 nd:Yt es
 at_:∀k,ZJ es k=f k
section
variable {es:List ZU}{f:Int->Option D}
def Vl.p(M:Vl es f):YW es (es.map Yi):=⟨OO _,by
 have h1:(es.map Yi).map Prod.fst=es.map (·.k):=by simp[Yi,dW]
 rw[h1];exact M.nd⟩
def Vl.to{g}(M:Vl es f)(h:∀k,f k=g k):Vl es g:=⟨M.nd,λk=>(M.at_ k).trans (h k)⟩
def Qjf(P)(k j):look (Dr P k) j=if j=k then none else look P j:=by
 unfold look Dr;rw[List.find?_filter];by_cases h:j=k
 ·subst h;rw[Qf rfl,pM,vE];intro p _ hp;simp at hp
 ·rw[Qd h];congr 2;funext p;by_cases h2:p.1=j
  ·simp[h2,h]
  ·simp[h2]
def QxG(P)(k)(v)(j):look (GG P k v) j=if j=k then some v else look P j:=by
 have h0:=Qjf P k j;unfold look at h0 ⊢;unfold GG;rw[wR];by_cases h:j=k
 ·subst h;simp
 ·have hb:((k,v).1==j)=false:=by simpa using Q8 h
  rw[hb,Qd h];rw[Qd h]at h0;exact h0
def Vl.set(M:Vl es f)(q)(c)(k)(v):∃c' es',J2 q c es k v=QS q c' es'/\Vl es' (λj=>if j=k then some v else f j):=by
 obtain⟨c',es',h1,h2⟩:=M.p.set q c k v;refine⟨c',es',h1,h2.De,λj=>?_⟩;rw[h2.look,QxG];split
 ·rfl
 ·rw[<- M.p.look,M.at_]
def Vl.del(M:Vl es f)(k):Vl (Kg es k) (λj=>if j=k then none else f j):=by
 have h2:=M.p.del k;refine⟨h2.De,λj=>?_⟩;rw[h2.look,Qjf];split
 ·rfl
 ·rw[<- M.p.look,M.at_]
def Vl.nil:Vl [] (λ_=>none):=⟨by simp[Yt],λ_=>rfl⟩
def Vl.Qjg(M:Vl es f):es.length=0↔∀k,f k=none:=by
 constructor
 ·intro h k;rw[Mj]at h;rw[<- M.at_,h];rfl
 ·intro h;cases es with
  | nil=>rfl
  | cons e es=>
   have h1:=M.at_ e.k;rw[h,ZJ,Qf rfl]at h1;cases h1
end
def Nx(b:Bool):Int:=if b then 1 else 0
def xw(T:List Qw)(k:Int):Option D:=match QF T k with
 | some c=>if 1<Q7 c.ls then some (.agg [Qb c.parent,Qb (Nx c.leaf)]) else none
 | none=>none
def BQ(T:List Qw)(A:List Int)(k:Int):Option D:=if k∈A then some (Qb ((QF T k).getD default).parent) else none
def EW(kl:Int->Option Nat)(k:Int):Option D:=(kl k).map λl=>.mref l 0
def Ay(f:Int->Bool)(i:Int):Option D:=if f i then some (Qb 1) else none
@[go_sem] def mi(b1 b2 b3:Nat):Ob:=⟨.one,0,3,1,λ_=>[.mref b1 0,.mref b2 0,.mref b3 0]⟩
structure jZ (S:Nat->Prop) (h:List Ob) (p b1 b2 b3 c1 c2 c3:Nat) (Z4 Je Vb:List ZU) (kl:Int->Option Nat) (T:List Qw) (A:List Int) (Kd:Int->Int->Bool):Prop where
 o:h[p]? = some (mi b1 b2 b3)
 m1:h[b1]? = some (QS .i64 c1 Z4)
 f1:Vl Z4 (xw T)
 m2:h[b2]? = some (QS .i64 c2 Je)
 f2:Vl Je (BQ T A)
 m3:h[b3]? = some (QS .i64 c3 Vb)
 f3:Vl Vb (EW kl)
 ks:∀k l,kl k=some l->∃c es,h[l]? = some (QS .i64 c es)/\Vl es (Ay (Kd k))
 kn:∀k i,kl k=none->Kd k i=false
 ki:∀k k' l,kl k=some l->kl k'=some l->k=k'
 U4:b1≠b2
 U5:b1≠b3
 Rr:b2≠b3
 mj:p≠b1
 U6:p≠b2
 GH:p≠b3
 nk:∀k l,kl k=some l->l≠p/\l≠b1/\l≠b2/\l≠b3
 sp:S p
 s1:S b1
 s2:S b2
 s3:S b3
 sk:∀k l,kl k=some l->S l
def j4(S:Nat->Prop)(h:List Ob)(p:Nat)(T:List Qw)(A:List Int):Prop:=∃b1 b2 b3 c1 c2 c3 Z4 Je Vb kl,jZ S h p b1 b2 b3 c1 c2 c3 Z4 Je Vb kl T A (js T A)
def jZ.step{S S'}{h h'}{p b1 b2 b3 c1 c2 c3}{Z4 Je Vb}{kl}{T}{A}{Kd}
  (e:∀l,l<h.length->S l->S' l/\h'[l]? = h[l]?) (T0:jZ S h p b1 b2 b3 c1 c2 c3 Z4 Je Vb kl T A Kd):jZ S' h' p b1 b2 b3 c1 c2 c3 Z4 Je Vb kl T A Kd:=by
 have k:∀l o,S l->h[l]? = some o->S' l/\h'[l]? = some o:=λl o h1 h2=>⟨(e l (Qc h2) h1).1,(e l (Qc h2) h1).2.trans h2⟩;refine⟨(k _ _ T0.sp T0.o).2,(k _ _ T0.s1 T0.m1).2,T0.f1,(k _ _ T0.s2 T0.m2).2,T0.f2,(k _ _ T0.s3 T0.m3).2,T0.f3,λq l hl=>?_,T0.kn,T0.ki,T0.U4,T0.U5,T0.Rr,T0.mj,T0.U6,T0.GH,T0.nk,(k _ _ T0.sp T0.o).1,(k _ _ T0.s1 T0.m1).1,(k _ _ T0.s2 T0.m2).1,(k _ _ T0.s3 T0.m3).1,λq l hl=>?_⟩
 ·obtain⟨c,es,h1,h2⟩:=T0.ks q l hl;exact⟨c,es,(k _ _ (T0.sk q l hl) h1).2,h2⟩
 ·obtain⟨c,es,h1,h2⟩:=T0.ks q l hl;exact(k _ _ (T0.sk q l hl) h1).1
def j4.step{S S'}{h h':List Ob}{p}{T}{A}(e:∀l,l<h.length->S l->S' l/\h'[l]? = h[l]?):j4 S h p T A->j4 S' h' p T A:=
 λ⟨b1,b2,b3,c1,c2,c3,Z4,Je,Vb,kl,O⟩=>⟨b1,b2,b3,c1,c2,c3,Z4,Je,Vb,kl,O.step e⟩
structure QxH (h:List Ob) (p b1 b2 b3 c1 c2 c3:Nat) (Z4 Je Vb:List ZU) (kl:Int->Option Nat) (T:List Qw) (A:List Int) (Kd:Int->Int->Bool):Prop where
 o:(h.map Ob.ro)[p]? = some (mi b1 b2 b3).ro
 m1:(h.map Ob.ro)[b1]? = some (QS .i64 c1 Z4).ro
 f1:Vl Z4 (xw T)
 m2:(h.map Ob.ro)[b2]? = some (QS .i64 c2 Je).ro
 f2:Vl Je (BQ T A)
 m3:(h.map Ob.ro)[b3]? = some (QS .i64 c3 Vb).ro
 f3:Vl Vb (EW kl)
 ks:∀k l,kl k=some l->∃c es,(h.map Ob.ro)[l]? = some (QS .i64 c es).ro/\Vl es (Ay (Kd k))
 kn:∀k i,kl k=none->Kd k i=false
def IM(h:List Ob)(p:Nat)(T:List Qw)(A:List Int):Prop:=∃b1 b2 b3 c1 c2 c3 Z4 Je Vb kl,QxH h p b1 b2 b3 c1 c2 c3 Z4 Je Vb kl T A (js T A)
def j4.toR{S}{h}{p}{T}{A}:j4 S h p T A->IM h p T A:=
 λ⟨b1,b2,b3,c1,c2,c3,Z4,Je,Vb,kl,O⟩=>⟨b1,b2,b3,c1,c2,c3,Z4,Je,Vb,kl,Z3 O.o,Z3 O.m1,O.f1,Z3 O.m2,O.f2,Z3 O.m3,O.f3,λk l hl=>by
  obtain⟨c,es,h1,h2⟩:=O.ks k l hl;exact⟨c,es,Z3 h1,h2⟩,O.kn⟩
def IM.more{h h':List Ob}{p}{T}{A}(e:∀(l:Nat) (o:Ob),(h.map Ob.ro)[l]? = some o->(h'.map Ob.ro)[l]? = some o):IM h p T A->IM h' p T A:=
 λ⟨b1,b2,b3,c1,c2,c3,Z4,Je,Vb,kl,O⟩=>⟨b1,b2,b3,c1,c2,c3,Z4,Je,Vb,kl,e _ _ O.o,e _ _ O.m1,O.f1,e _ _ O.m2,O.f2,e _ _ O.m3,O.f3,λk l hl=>by
  obtain⟨c,es,h1,h2⟩:=O.ks k l hl;exact⟨c,es,e _ _ h1,h2⟩,O.kn⟩
def QxI{T}(I:VR T){A}(hA:Au T A)(id)(h0:id≠0):(id∈A\/∃i,js T A id i=true)↔JB T A id=true:=by
 constructor
 ·rintro (h|⟨i,hi⟩)
  ·obtain⟨c,h1,h2,h3⟩:=hA id h;exact qw.2 ⟨id,h,YA I h1⟩
  ·obtain⟨c,h1,h2,h3⟩:=yy.1 hi;obtain⟨d,hd,_⟩:=I.J4 c (As I h1) (by rw[h2];exact h0);rw[h2]at hd;exact Nr I h3 (by rw[Vz I h1,h2];exact KI _ (YA I hd))
 ·intro h;obtain⟨a,ha,hi⟩:=qw.1 h;by_cases Qz:a=id
  ·subst Qz;exact .inl ha
  ·obtain⟨i,c,h1,h2,h3⟩:=lU I hi Qz;exact .inr ⟨i,yy.2 ⟨c,h2,h3,qw.2 ⟨a,ha,h1⟩⟩⟩
end Go.Fg.X
namespace Go.Fg.X
open Go.Proofs Go.Fg
open Go.RowKit (Below)
open Go.Proofs.Tryz
def uM{P}{f}{h}{args}{R}(d2:D)(hu:∀k,d2.upto k=true)
  (hd:∀d g,R d g->J3 6 d d2\/∃lo gn sz n row,h.length<=lo/\(h++g)[lo]? = some ⟨.arr,gn,sz,n,row⟩/\(∀i,i<n->(row i).all D.WS=true)/\J3 6 (D.fz lo gn n sz row d) d2) (H:Wf P f h args R):QV P f h args (λd=>d=d2):=by
 intro Z base w pl vs h1 h2 h3 hl hc;have Uz:Zv Z w.heap.size (h.map Ob.ro) pl w:=by
  refine⟨h3.len,h3.inj,h3.VM,λl o b q ho hp=>⟨λhr=>?_,(h3.at_ l o b q ho hp).2⟩⟩;obtain⟨o',_,rfl⟩:=Ir ho;rw[fJ,Kd.toRo_ro]at hr;cases hr
 refine(H Z w.heap.size w pl vs (QB _) h2 Uz hl hc).mono λe w' he=>?_;obtain⟨v,d,_,Qm,rfl,⟨g,rfl,hR⟩,hO,hV,hT,hB⟩:=he;have hE:∀b,b<w.heap.size->w'.heap[b]? = w.heap[b]? := λb hb=>hB.block b hb;have Zk:∀(l:Nat),l<h.length->Qm[l]? = pl[l]? := λl hl=>by
  have Jx:l<pl.length:=by rw[h3.len];simpa using hl
  obtain⟨o',p',m1,m2,_,_,m3⟩:=hT.obj l _ _ (Z3 (QW hl)) (QW Jx);rw[JD (by simpa using hl),Z3 (QW hl)]at m1;cases m1;obtain⟨_,rfl⟩:=m3 rfl;rw[m2,QW Jx]
 have e1:(h.map Ob.ro++g).take h.length=h.map Ob.ro:=List.take_left' (by simp);have mm:QE Z (h.map Ob.ro) pl w' d2 v->_:=λhx=>(⟨v,d2,h.map Ob.ro,pl,rfl,⟨[],(QU _).symm,hu _,rfl⟩,h3.ext hE,hx,Go.Fg.Tr.ext h3 hE,hB.mono h1⟩:∃v' d h' Qm,Ending.returned v=.returned v'/\(∃g,h'=h.map Ob.ro++g/\d.upto h.length=true/\d=d2)/\Zv Z base h' Qm w'/\QE Z h' Qm w' d v'/\Go.Fg.Tr (h.map Ob.ro) pl w h' Qm w'/\Below base w w');refine mm ?_;rcases hd _ _ hR with hle|⟨lo,gn,sz,n,row,Qjh,Zm,ZP,hle⟩
 ·have r:=(yj 6 hle hV).take (hu h.length);have e2:Qm.take h.length=pl:=by
   apply A9;intro i;rw[Yq];by_cases hi:i<h.length
   ·rw[Qf hi,Zk i hi]
   ·rw[Qd hi,Cs (by rw[h3.len];simp;omega)]
  rw[e1,e2]at r;exact r
 have Az:(h.map Ob.ro++g)[lo]? = some ⟨.arr,gn,sz,n,row⟩:=by
  rw[Kf (by omega)]at Zm;rw[Kf (by simpa using Qjh)];simpa using Zm
 have Qc:lo<Qm.length:=by rw[hO.len];exact(Xd.1 Az).1
 obtain⟨p,hp⟩:∃p,Qm[lo]? = some p:=⟨_,QW Qc⟩;have yD:=hV.fz (l:=lo) (o:=⟨.arr,gn,sz,n,row⟩) (p:=p) Az hp rfl (λb q e=>by
  subst e;refine⟨h2 b ?_,λl' q' e'=>hO.inj _ _ _ _ _ e' hp,(hO.at_ lo _ b q Az hp).2.cells rfl⟩;exact(hO.at_ lo _ b q Az hp).1 rfl) ZP (h':=(h.map Ob.ro++g).set lo (Ob.gone ⟨.arr,gn,sz,n,row⟩)) (λl' o' Qz e=>by
  exact⟨o',by rw[JJ (Q8 Qz)];exact e,rfl,rfl,rfl⟩)
 have r:=(yj 6 hle yD).take (hu h.length);have e3:((h.map Ob.ro++g).set lo (Ob.gone ⟨.arr,gn,sz,n,row⟩)).take h.length=h.map Ob.ro:=by
  rw[OR _ _ (by simpa using Qjh)];exact List.take_left' (by simp)
 have e2:(Qm.set lo none).take h.length=pl:=by
  apply A9;intro i;rw[Yq];by_cases hi:i<h.length
  ·rw[Qf hi,JJ (by omega),Zk i hi]
  ·rw[Qd hi,Cs (by rw[h3.len];simp;omega)]
 rw[e3,e2]at r;exact r
end Go.Fg.X
namespace Go.Fg.X
open Go.Proofs Go.Fg
open Go.Proofs.Tryz
section
variable (h:List Ob)(t m c:Nat){es:List ZU}{L:List Qw}(T:VW es L)(hlen:L.length<1000000)
 (ht:(h.map Ob.ro)[t]? = some ⟨.Wn,0,1,1,λ_=>[.mref m 0]⟩) (hm:(h.map Ob.ro)[m]? = some (QS .i64 c es).ro)
include T ht hm hlen
theorem QxJ:Wf prog 89 h [.ptr t 0 0 0] (λd g=>Ky h.length (h++g) d ((L.filter (·.leaf)).map (·.iD))):=by
 refine jT Qi 200 func89 rfl ntmps89 results89 rfl λbase w pl F hF Q3 hb=>?_;rw[<- hF]at ht hm;have ZD:=Qc ht;have QG:=Qc hm;simp only[go_sem,Qa,ht,ZD,hm,QG];have hT:UK (F.map Ob.ro) 145 0 [] (λx=>x.leaf):=λh' x qm=>by
  refine Zq Qi 200 func145 rfl ntmps145 results145 rfl λbase w pl F hF Q3 hb=>?_;simp only[go_sem,Qa];exact⟨_,rfl⟩
 refine Is hb iS rfl ?_ (lM _ t m c T hlen (Z3 ht) (Np hm) (.raw (.func (.func 145) ⟨[]⟩ ⟨[]⟩)) 145 0 [] Qvb rfl _ hT) rfl λd g hs=>?_
 ·simp only[go_sem]
 apply QC hb;exact Ky.done Q3 ⟨_,rfl⟩ hs
end
def yE{h g:List Ob}(l:Nat)(o:Ob)(e:(h.map Ob.ro)[l]? = some o):((h++g).map Ob.ro)[l]? = some o:=by
 rw[jN,JD (Kr e)];exact e
def Ky.closed{P}{f}{h:List Ob}{args}{L}(H:Wf P f h args (λd g=>Ky h.length (h++g) d L)):QV P f h args (λd=>d=ints L):=by
 refine uM (ints L) (λ_=>rfl) ?_ H;rintro d g (⟨rfl,h3⟩|⟨lo,gn,off,row,rfl,⟨Zm,rfl⟩,ho,hr⟩)
 ·subst h3;exact .inl rfl
 ·refine .inr ⟨lo,gn,1,_,row,Zm,ho,λi hi=>?_,?_⟩
  ·have:=hr i (by omega);rw[JV]at this;rw[this];rfl
  ·have e1:D.fz lo gn (0+L.length) 1 row (.ref lo gn 0 L.length)=.imm 1 L.length (rowFrom 0 row):=by simp[D.fz,Gf]
   rw[e1];simp only[ints];rw[Uy];refine⟨rfl,rfl,λi hi=>?_⟩;rw[Ip,hr i hi,Qwp];exact BD (kP _) _
def QxK(h)(x):QV prog 94 h [Yy x] (λd=>d=QJ true):=by
 refine Zq Qi 200 func94 rfl ntmps94 results94 rfl λbase w pl F hF Q3 hb=>?_;simp only[go_sem,Qa];all_goals first|exact⟨_,rfl,rfl⟩|exact⟨_,rfl⟩|rfl|exact⟨[],(QU _).symm⟩|exact⟨[],(QU _).symm,rfl⟩
section
variable (h:List Ob)(t m c:Nat){es:List ZU}{L:List Qw}(T:VW es L)(hlen:L.length<1000000)
 (ht:(h.map Ob.ro)[t]? = some ⟨.Wn,0,1,1,λ_=>[.mref m 0]⟩) (hm:(h.map Ob.ro)[m]? = some (QS .i64 c es).ro)
include T ht hm hlen
theorem QxL:Wf prog 43 h [.ptr t 0 0 0] (λd g=>Ky h.length (h++g) d ((L.filter (λ_=>true)).map (·.iD))):=by
 refine jT Qi 200 func43 rfl ntmps43 results43 rfl λbase w pl F hF Q3 hb=>?_;rw[<- hF]at ht hm;have ZD:=Qc ht;have QG:=Qc hm;simp only[go_sem,Qa,ht,ZD,hm,QG];have hT:UK (F.map Ob.ro) 94 0 [] (λx=>true):=λh' x qm=>QxK h' x;refine Is hb iS rfl ?_ (lM _ t m c T hlen (Z3 ht) (Np hm) (.raw (.func (.func 94) ⟨[]⟩ ⟨[]⟩)) 94 0 [] QuP rfl _ hT) rfl λd g hs=>?_
 ·simp only[go_sem]
 apply QC hb;exact Ky.done Q3 ⟨_,rfl⟩ hs
end
def Wv(S:Nat->Prop)(h:List Ob)(t:Nat)(T:List Qw):Prop:=∃m c es,h[t]? = some ⟨.one,0,1,1,λ_=>[.mref m 0]⟩/\h[m]? = some (QS .i64 c es)/\VW es T/\S t/\S m
def XY(h:List Ob)(t:Nat)(T:List Qw):Prop:=∃m c es,(h.map Ob.ro)[t]? = some ⟨.Wn,0,1,1,λ_=>[.mref m 0]⟩/\(h.map Ob.ro)[m]? = some (QS .i64 c es).ro/\VW es T
def Wv.toR{S}{h}{t}{T}:Wv S h t T->XY h t T:=λ⟨m,c,es,h1,h2,h3,_,_⟩=>⟨m,c,es,Z3 h1,Z3 h2,h3⟩
def Wv.step{S S'}{h h':List Ob}{t}{T}(e:∀l,l<h.length->S l->S' l/\h'[l]? = h[l]?):Wv S h t T->Wv S' h' t T:=λ⟨m,c,es,h1,h2,h3,h4,h5⟩=>
 ⟨m,c,es,((e _ (Qc h1) h4).2).trans h1,((e _ (Qc h2) h5).2).trans h2,h3,(e _ (Qc h1) h4).1,(e _ (Qc h2) h5).1⟩
def XY.more{h h':List Ob}{t}{T}(e:∀(l:Nat) (o:Ob),(h.map Ob.ro)[l]? = some o->(h'.map Ob.ro)[l]? = some o):XY h t T->XY h' t T:=λ⟨m,c,es,h1,h2,h3⟩=>⟨m,c,es,e _ _ h1,e _ _ h2,h3⟩
section
variable {h:List Ob}{t:Nat}{T:List Qw}(R:XY h t T)(hlen:T.length<1000000)
include R hlen
theorem mn:QV prog 43 h [.ptr t 0 0 0] (λd=>d=ints (T.map (·.iD))):=by
 obtain⟨m,c,es,ht,hm,hT⟩:=R;have:=Ky.closed (QxL h t m c hT hlen ht hm);rwa [y7.2 (λ_ _=>rfl)]at this
theorem QxM(id):QV prog 235 h [.ptr t 0 0 0,Qb id] (λd=>d=ints (Xl T id)):=by
 obtain⟨m,c,es,ht,hm,hT⟩:=R;exact Ky.closed (uc h t m c hT hlen ht hm id)
omit hlen in
theorem uN(I:TreeInv T)(id):QV prog 92 h [.ptr t 0 0 0,Qb id] (λd=>d=ints (J6 T 16 id)):=by
 obtain⟨m,c,es,ht,hm,hT⟩:=R;exact Ky.closed (QiA h t m c hT ht hm id 16 (by decide) (I.ends id))
omit hlen in
theorem Rs(id:Int):QV prog 110 h [.ptr t 0 0 0,Qb id] (λd=>d=.tup [Yy ((QF T id).getD default),Qb (if (QF T id).isSome then 0 else 6)]):=by
 obtain⟨m,c,es,ht,hm,hT⟩:=R;exact Qiz h t m c hT ht hm id
end
def mu{f}{es:List ZU}(M:Vl es (Ay f)):0<es.length↔∃i,f i=true:=by
 constructor
 ·intro h;refine jM λh2=>?_;have:=M.Qjg.2 λk=>by
   unfold Ay;rw[Qd (λh3=>h2 ⟨k,h3⟩)]
  omega
 ·rintro⟨i,hi⟩;refine Nat.pos_of_ne_zero λh=>?_;have:=M.Qjg.1 h i;unfold Ay at this;rw[Qf hi]at this;cases this
def EX{h}{p}{T}{A}(O:IM h p T A)(I:VR T)(hA:Au T A)(id)(h0:id≠0):QV prog 137 h [.ptr p 0 0 0,Qb id] (λd=>d=QJ (JB T A id)):=by
 obtain⟨b1,b2,b3,c1,c2,c3,Z4,Je,Vb,kl,O⟩:=O;obtain⟨ho,m1,f1,m2,f2,m3,f3,ks,kn⟩:=O;have hi:=QxI I hA id h0;have k2:=f2.at_ id;have k3:=f3.at_ id;by_cases Zg:id∈A
 ·have e:JB T A id=true:=hi.1 (.inl Zg);rw[BQ,Qf Zg]at k2;rw[e];refine Zq Qi 200 func137 rfl ntmps137 results137 rfl λbase w pl F hF Q3 hb=>?_;rw[<- hF]at ho m2;have Qg:=Qc ho;have Ny:=Qc m2;simp only[go_sem,Qa,ho,Qg,m2,Ny,k2,Go.undef];all_goals first|exact⟨_,rfl,rfl⟩|exact⟨_,rfl⟩|rfl|exact⟨[],(QU _).symm⟩|exact⟨[],(QU _).symm,rfl⟩
 ·rw[BQ,Qd Zg]at k2;cases hk:kl id with
  | none=>
   have e:JB T A id=false:=by
    rw[jK];intro h;rcases hi.2 h with h|⟨i,h⟩
    ·exact Zg h
    ·rw[kn id i hk]at h;cases h
   rw[EW,hk,zq]at k3;rw[e];refine Zq Qi 200 func137 rfl ntmps137 results137 rfl λbase w pl F hF Q3 hb=>?_;rw[<- hF]at ho m2 m3;have Qg:=Qc ho;have Ny:=Qc m2;have zM:=Qc m3;simp only[go_sem,Qa,ho,Qg,m2,Ny,m3,zM,k2,k3,Go.undef];all_goals first|exact⟨_,rfl,rfl⟩|exact⟨_,rfl⟩|rfl|exact⟨[],(QU _).symm⟩|exact⟨[],(QU _).symm,rfl⟩
  | some l=>
   obtain⟨c,es,ml,fl⟩:=ks id l hk;rw[EW,hk,K0]at k3;have hl:=mu fl;have zz:0<es.length↔JB T A id=true:=hl.trans ⟨λh=>hi.1 (.inr h),λh=>(hi.2 h).elim (λh=>absurd h Zg) λh=>h⟩;have d0:decide (0<es.length)=JB T A id:=by
    cases hq:JB T A id with
    | true=>exact Q5 (zz.2 hq)
    | false=>exact QN λh=>by rw[zz.1 h]at hq;cases hq
   have d1:decide ((0:Int)<(es.length:Int))=JB T A id:=by rw[<- d0];congr 1;rw[eq_iff_iff];omega
   refine Zq Qi 200 func137 rfl ntmps137 results137 rfl λbase w pl F hF Q3 hb=>?_;rw[<- hF]at ho m2 m3 ml;have Qg:=Qc ho;have Ny:=Qc m2;have zM:=Qc m3;have yF:=Qc ml;simp only[go_sem,Qa,ho,Qg,m2,Ny,m3,zM,ml,yF,k2,k3,Go.undef,d1];all_goals first|exact⟨_,rfl,rfl⟩|exact⟨_,rfl⟩|rfl|exact⟨[],(QU _).symm⟩|exact⟨[],(QU _).symm,rfl⟩
def Step.U7{S}{h H:List Ob}(s:Step S h H){l}(hl:more S h l)(o):Step S h (H.set l o):=
 ⟨λj h1 h2=>by
  have Qz:l≠j:=by
   rintro rfl;rcases hl with h3|h3
   ·exact h2 h3
   ·omega
  rw[Qk Qz];exact s.keep j h1 h2,by rw[KD];exact s.len⟩
def Step.uO{S}{h H}(s:Step S h H)(g):Step S h (H++g):=
 ⟨λj h1 h2=>by rw[Qx (wU h1 s.len)];exact s.keep j h1 h2,by have:=s.len;simp;omega⟩
structure Rt (S:Nat->Prop) (h:List Ob) (p:Nat) (T:List Qw) (A:List Int) (leaf:Int) (n:Nat) (s:St):Prop where
 ex:∃id dn c lo g row H S' b1 b2 b3 c1 c2 c3 Z4 Je Vb kl,up T leaf=dn++up T id/\QF T id=some c/\(up T id).length<=n/\(∀i∈dn++[id],JB T A i=false) /\
  jZ S' H p b1 b2 b3 c1 c2 c3 Z4 Je Vb kl T (leaf::A) (kS T A dn)/\(∀l,S' l->more S h l/\l<H.length)/\¬ S' lo/\h.length<=lo/\Step S h H /\
  H[lo]? = some ⟨.arr,g,1,dn.length+1,row⟩/\(∀i,i<dn.length+1->row i=[Qb ((dn++[id]).getD i 0)]) /\
  s=⟨[(0,.ptr p 0 0 0),(6,.ref lo g 0 (dn.length+1)),(7,Qb id)],H⟩
section
variable {S:Nat->Prop}{h:List Ob}{p b1 b2 b3 c1 c2 c3:Nat}{Z4 Je Vb:List ZU}{kl:Int->Option Nat}{T:List Qw}{A:List Int}{Kd:Int->Int->Bool}(O:jZ S h p b1 b2 b3 c1 c2 c3 Z4 Je Vb kl T A Kd)
include O
theorem jZ.Qji{c2'}{GI}{A'}(M2:Vl GI (BQ T A')):jZ S (h.set b2 (QS .i64 c2' GI)) p b1 b2 b3 c1 c2' c3 Z4 GI Vb kl T A' Kd:=by
 refine⟨(Qk (Q8 O.U6)).trans O.o,(Qk (Q8 O.U4)).trans O.m1,O.f1,Qs (Qc O.m2),M2,(Qk O.Rr).trans O.m3,O.f3,λk l hl=>?_,O.kn,O.ki,O.U4,O.U5,O.Rr,O.mj,O.U6,O.GH,O.nk,O.sp,O.s1,O.s2,O.s3,O.sk⟩;obtain⟨c,es,h1,h2⟩:=O.ks k l hl;exact⟨c,es,(Qk (Q8 (O.nk k l hl).2.2.1)).trans h1,h2⟩
theorem jZ.Qjj{k}{l c'}{es'}{Kd'}(hk:kl k=some l)(M:Vl es' (Ay (Kd' k)))(he:∀j,j≠k->∀i,Kd' j i=Kd j i):jZ S (h.set l (QS .i64 c' es')) p b1 b2 b3 c1 c2 c3 Z4 Je Vb kl T A Kd':=by
 obtain⟨n0,n1,n2,n3⟩:=O.nk k l hk;have hl:l<h.length:=by
  obtain⟨c,es,h1,h2⟩:=O.ks k l hk;exact Qc h1
 refine⟨(Qk n0).trans O.o,(Qk n1).trans O.m1,O.f1,(Qk n2).trans O.m2,O.f2,(Qk n3).trans O.m3,O.f3,λj m hj=>?_,λj i hj=>?_,O.ki,O.U4,O.U5,O.Rr,O.mj,O.U6,O.GH,O.nk,O.sp,O.s1,O.s2,O.s3,O.sk⟩
 ·by_cases V7:j=k
  ·subst V7;rw[hk]at hj;cases hj;exact⟨c',es',Qs hl,M⟩
  ·obtain⟨c,es,h1,h2⟩:=O.ks j m hj;have Qz:l≠m:=λe=>V7 (O.ki j k m hj (by rw[<- e];exact hk));exact⟨c,es,(Qk Qz).trans h1,h2.to λi=>by unfold Ay;rw[he j V7 i]⟩
 ·have V7:j≠k:=by rintro rfl;rw[hk]at hj;cases hj
  rw[he j V7 i];exact O.kn j i hj
theorem jZ.QxN{k}{n c c3'}{es es3'}{Kd'}(hn:h[n]? = some (QS .i64 c es))(M:Vl es (Ay (Kd' k)))(h0:n≠p)(h1:n≠b1)(h2:n≠b2)(h3:n≠b3)(h4:∀j l,kl j=some l->l≠n)(sn:S n)
  (M3:Vl es3' (λj=>if j=k then some (.mref n 0) else EW kl j)) (he:∀j,j≠k->∀i,Kd' j i=Kd j i):jZ S (h.set b3 (QS .i64 c3' es3')) p b1 b2 b3 c1 c2 c3' Z4 Je es3' (λj=>if j=k then some n else kl j) T A Kd':=by
 refine⟨(Qk (Q8 O.GH)).trans O.o,(Qk (Q8 O.U5)).trans O.m1,O.f1,(Qk (Q8 O.Rr)).trans O.m2,O.f2,Qs (Qc O.m3),M3.to λj=>?_,λj m hj=>?_,λj i hj=>?_,λj j' m hj WQ=>?_,O.U4,O.U5,O.Rr,O.mj,O.U6,O.GH,λj m hj=>?_,O.sp,O.s1,O.s2,O.s3,λj m hj=>?_⟩
 ·by_cases V7:j=k<;>simp[EW,V7]
 ·by_cases V7:j=k
  ·subst V7;rw[Qf rfl]at hj;cases hj;exact⟨c,es,(Qk (Q8 h3)).trans hn,M⟩
  ·rw[Qd V7]at hj;obtain⟨c,es,g1,g2⟩:=O.ks j m hj;exact⟨c,es,(Qk (Q8 (O.nk j m hj).2.2.2)).trans g1,g2.to λi=>by unfold Ay;rw[he j V7 i]⟩
 ·by_cases V7:j=k
  ·subst V7;rw[Qf rfl]at hj;cases hj
  ·rw[Qd V7]at hj;rw[he j V7 i];exact O.kn j i hj
 ·by_cases V7:j=k
  ·by_cases U8:j'=k
   ·rw[V7,U8]
   ·rw[Qf V7]at hj;rw[Qd U8]at WQ;cases hj;exact absurd rfl (h4 _ _ WQ)
  ·by_cases U8:j'=k
   ·rw[Qd V7]at hj;rw[Qf U8]at WQ;cases WQ;exact absurd rfl (h4 _ _ hj)
   ·rw[Qd V7]at hj;rw[Qd U8]at WQ;exact O.ki j j' m hj WQ
 ·by_cases V7:j=k
  ·rw[Qf V7]at hj;cases hj;exact⟨h0,h1,h2,h3⟩
  ·rw[Qd V7]at hj;exact O.nk j m hj
 ·by_cases V7:j=k
  ·rw[Qf V7]at hj;cases hj;exact sn
  ·rw[Qd V7]at hj;exact O.sk j m hj
theorem jZ.app(g):jZ S (h++g) p b1 b2 b3 c1 c2 c3 Z4 Je Vb kl T A Kd:=O.step λl hl h1=>⟨h1,Qx hl⟩
end
def Rt.of{S}{h}{p}{T}{A}{leaf}{n}{id}{dn}{c}{lo g k}(row){H}(S'){b1 b2 b3 c1 c2 c3}{Z4 Je Vb}{kl}
  (hu:up T leaf=dn++up T id) (hc:QF T id=some c) (hn:(up T id).length<=n) (ha:∀i∈dn++[id],JB T A i=false) (O:jZ S' H p b1 b2 b3 c1 c2 c3 Z4 Je Vb kl T (leaf::A) (kS T A dn)) (hS:∀l,S' l->more S h l/\l<H.length) (h1:¬ S' lo) (h2:h.length<=lo) (hs:Step S h H)
  (hk:k=dn.length+1) (h3:H[lo]? = some ⟨.arr,g,1,k,row⟩) (h4:∀i,i<dn.length+1->row i=[Qb ((dn++[id]).getD i 0)]):Rt S h p T A leaf n ⟨[(0,.ptr p 0 0 0),(6,.ref lo g 0 k),(7,Qb id)],H⟩:=by
 subst hk;exact⟨⟨id,dn,c,lo,g,row,H,S',b1,b2,b3,c1,c2,c3,Z4,Je,Vb,kl,hu,hc,hn,ha,O,hS,h1,h2,hs,h3,h4,rfl⟩⟩
def QxO(T)(A)(leaf:Int)(k):(if k=leaf then some (Qb ((QF T leaf).getD default).parent) else BQ T A k)=BQ T (leaf::A) k:=by
 unfold BQ;by_cases h:k=leaf
 ·subst h;simp
 ·simp[h]
def Qjk{S}{h}{p}{T}{A}(O:j4 S h p T A)(I:VR T)(hA:Au T A)(leaf)(c:Qw)(hc:QF T leaf=some c)(wj:c.leaf=true)(jv:1<Q7 c.ls)(Jy:JB T A leaf=false):
  QK prog 112 h [.ptr p 0 0 0,Qb leaf] (λd h'=>∃d1,d=.tup [d1,Qb 0]/\Ky h.length h' d1 (XE T A leaf)/\j4 (more S h) h' p T (leaf::A)/\Step S h h'):=by
 have O0:=O;have hR:=O.toR;obtain⟨b1,b2,b3,c1,c2,c3,Z4,Je,Vb,kl,O⟩:=O;have ho:=O.o;have m1:=O.m1;have m2:=O.m2;have m3:=O.m3;have k1:=O.f1.at_ leaf;rw[xw,hc]at k1;simp only[Qf jv,wj,Nx,K6]at k1;have uP:leaf≠0:=λe=>by rw[e,Gy I]at hc;cases hc
 have Nz:=EX hR I hA leaf uP;rw[Jy]at Nz;obtain⟨c2',GI,e2,M2⟩:=O.f2.set .i64 c2 leaf (Qb c.parent);simp only[go_sem]at e2;refine Q6 Qi 200 func112 rfl ntmps112 results112 rfl λbase w pl hb=>?_;have Qg:=Qc ho;have xy:=Qc m1;simp only[go_sem,Qa,ho,Qg,m1,xy,k1];refine ZN hb Ix Nz λd hR=>?_;subst hR;refine Qe hb ?_;simp only[go_sem,Qa,ho,Qg];apply QH hb [0,1,2,3,4,5,6,7,8,9,10,11,1012];simp only[go_sem,Qa,ho,Qg,m1,Qc m1,m2,Qc m2,k1];simp only[e2];have U9:Rt S h p T A leaf (up T leaf).length ⟨[(0,.ptr p 0 0 0),(6,.ref h.length 0 0 1),(7,Qb leaf)],h.set b2 (QS .i64 c2' GI)++[⟨.arr,0,1,1,λ_=>[Qb leaf]⟩]⟩:=by
  have O2:=((O.step (S':=λl=>S l/\l<h.length) λl h1 h2=>⟨⟨h2,h1⟩,rfl⟩).Qji (c2':=c2') (M2.to λk=>by
   have hp:(QF T leaf).getD default=c:=by rw[hc];rfl
   have:=QxO T A leaf k;rw[hp]at this;exact this)).app [⟨.arr,0,1,1,λ_=>[Qb leaf]⟩]
  refine⟨leaf,[],c,h.length,0,λ_=>[Qb leaf],_,λl=>S l/\l<h.length,b1,b2,b3,c1,c2',c3,Z4,GI,Vb,kl,rfl,hc,QB _,λi hi=>?_,?_,λl h1=>⟨.inl h1.1,by have:=h1.2;simp;omega⟩,λh1=>by have:=h1.2;omega,QB _,⟨λl h1 h2=>?_,by simp⟩,?_,λi hi=>?_,rfl⟩
  ·simp only[zo,zn]at hi;rw[hi];exact Jy
  ·rw[show kS T A []=js T A from funext λp=>funext λi=>Qw2 T A p i];exact O2
  ·rw[Qx (by simpa using h1),Qk (λ(e:b2=l)=>h2 (e▸O.s2))]
  ·rw[Kx (by simp)];rfl
  ·obtain rfl:i=0:=by simp at hi;omega
   rfl
 refine MP (Rt S h p T A leaf) (up T leaf).length QQ U9 ?_;clear U9 O m1 m2 m3 ho k1 e2 M2 Nz O0 hR;rintro n s ⟨id,dn,cc,lo,g,row,H,S',b1,b2,b3,c1,c2,c3,Z4,Je,Vb,kl,hu,Ww,hn,IN,O,hS,Zm,Az,ZF,kX,ZH,rfl⟩;have ho:=O.o;have m1:=O.m1;have m3:=O.m3;have Qg:=Qc ho;have xy:=Qc m1;have zM:=Qc m3;have IP:=Qc kX;obtain⟨d0,IQ,Ks⟩:=QiK I hc jv id (by rw[hu];exact OP _ (YA I Ww));rw[Ww]at IQ;cases IQ;have k1:=O.f1.at_ id;rw[xw,Ww]at k1;simp only[Qf Ks]at k1;have k3:=O.f3.at_ cc.parent;have Jo:=Qw0 I hA hu Ww IN;have mv:=Qw1 I (A:=A) (dn:=dn) Ww;have uQ:b3≠lo:=λe=>Zm (e▸O.s3);have QK0:p≠lo:=λe=>Zm (e▸O.sp);have QK1:b1≠lo:=λe=>Zm (e▸O.s1);have fin:∀(H2:List Ob) (S2:Nat->Prop) c3' es3' kl',jZ S2 H2 p b1 b2 b3 c1 c2 c3' Z4 Je es3' kl' T (leaf::A) (kS T A (dn++[id]))->(∀l,S2 l->more S h l)->Step S h H2->H2[lo]? = some ⟨.arr,g,1,dn.length+1,row⟩->(cc.parent=0\/JB T A cc.parent=true) ->
   Ky h.length H2 (.ref lo g 0 (dn.length+1)) (XE T A leaf)/\j4 (more S h) H2 p T (leaf::A)/\Step S h H2:=λH2 S2 c3' es3' kl' O2 NA IS QxP he=>by
  obtain⟨e1,e2⟩:=Qw3 I hA hu Ww IN he;rw[<- e1];refine⟨.inr ⟨lo,g,0,row,by simp,⟨Az,rfl⟩,by simpa using QxP,λi hi=>?_⟩,?_,IS⟩
  ·rw[JV];exact ZH i (by simpa using hi)
  ·rw[show kS T A (dn++[id])=js T (leaf::A) from funext λp=>funext λi=>e2 p i]at O2;exact⟨_,_,_,_,_,_,_,_,_,_,O2.step λl h1 h2=>⟨NA l h2,rfl⟩⟩
 by_cases Ru:∃i,kS T A dn cc.parent i=true
 ·
  cases hk:kl cc.parent with
  | none=>obtain⟨i,hi⟩:=Ru;rw[O.kn _ i hk]at hi;cases hi
  | some l=>
   obtain⟨c,es,ml,fl⟩:=O.ks _ l hk;have yF:=Qc ml;rw[EW,hk,K0]at k3;have qk:0<es.length:=(mu fl).2 Ru;have d1:((es.length:Int)==0)=false:=J5 (by omega);have d2:decide ((0:Int)<(es.length:Int))=true:=Q5 (by omega);have xz:=(O.nk _ l hk).2.2.2;have uR:l≠lo:=λe=>Zm (e▸O.sk _ l hk);obtain⟨c',es',ea,M'⟩:=fl.set .i64 c id (Qb 1);simp only[go_sem]at ea;have he:cc.parent=0\/JB T A cc.parent=true:=by
    by_cases h0:cc.parent=0
    ·exact .inl h0
    ·obtain⟨d,hd,Gz⟩:=I.J4 cc (As I Ww) h0;exact .inr ((QiJ I hA hd Gz).2 (Jo.1 Ru))
   have O2:=O.Qjj (c':=c') (es':=es') (Kd':=kS T A (dn++[id])) hk (M'.to λj=>by
    unfold Ay;rw[mv];by_cases hj:j=id
    ·simp[hj]
    ·simp[hj]) (λj hj i=>by rw[mv,Qd (λh=>hj h.1)])
   refine Qe hb ?_;simp only[go_sem,Qa,ho,Qg,m1,xy,m3,zM,k1,k3,ml,yF,d1,d2,Go.undef];simp only[ea];exact⟨_,rfl,fin _ _ _ _ _ O2 (λl h=>(hS l h).1) (ZF.U7 (hS l (O.sk _ l hk)).1 _) ((Qk uR).trans kX) he⟩
 ·
  have hz:∀i,kS T A dn cc.parent i=false:=λi=>by
   rw[jK];exact λh=>Ru ⟨i,h⟩
  have hB:(kl cc.parent=none/\True/\True/\True)\/∃l c es,kl cc.parent=some l/\H[l]? = some (QS .i64 c es)/\l<H.length/\es.length=0:=by
   cases hk:kl cc.parent with
   | none=>exact .inl ⟨rfl,trivial,trivial,trivial⟩
   | some l=>
    obtain⟨c,es,ml,fl⟩:=O.ks _ l hk;refine .inr ⟨l,c,es,rfl,ml,Qc ml,?_⟩;have:=(mu fl).1;by_cases h0:0<es.length
    ·exact absurd (this h0) Ru
    ·omega
  obtain⟨c3',es3',e3,M3⟩:=O.f3.set .i64 c3 cc.parent (.mref H.length 0);obtain⟨Rv,Rw,e0,M0⟩:=Vl.nil.set .i64 0 id (Qb 1);simp only[go_sem]at e3 e0;have af:=M3.at_ cc.parent;rw[Qf rfl]at af;have ag:∀l,S' l->l≠H.length:=λl hl e=>by have:=(hS l hl).2;omega
  have QK2:=ZF.len;have O2:=((O.app [QS .i64 Rv Rw]).step (S':=λl=>S' l\/l=H.length) λl _ h2=>⟨.inl h2,rfl⟩).QxN (k:=cc.parent) (n:=H.length) (c3':=c3') (es3':=es3') (Kd':=kS T A (dn++[id])) (Kx rfl) (M0.to λj=>by
    unfold Ay;rw[mv,hz];by_cases hj:j=id
    ·simp[hj]
    ·simp[hj]) (λe=>ag p O.sp e.symm) (λe=>ag b1 O.s1 e.symm) (λe=>ag b2 O.s2 e.symm) (λe=>ag b3 O.s3 e.symm) (λj l hj=>ag l (O.sk j l hj)) (.inr rfl) M3 (λj hj i=>by rw[mv,Qd (λh=>hj h.1)])
  rw[EJ zM]at O2;have IS:=(ZF.U7 (hS b3 O.s3).1 (QS .i64 c3' es3')).uO [QS .i64 Rv Rw];have NB:((H.set b3 (QS .i64 c3' es3'))++[QS .i64 Rv Rw])[lo]? = some ⟨.arr,g,1,dn.length+1,row⟩:=by
   rw[Qx (by simpa using IP),Qk uQ];exact kX
  have NA:∀l,(S' l\/l=H.length)->more S h l:=λl hl=>hl.elim (λh=>(hS l h).1) λe=>.inr (by omega);have Gz:dn.length<=16:=by
   have e:=congrArg List.length hu;have:=Dj (L:=T) (n:=16) (id:=leaf);rw[Zj]at e;unfold up at e;omega
  have yf:cc.parent≠0->Rt S h p T A leaf (up T cc.parent).length ⟨[(0,.ptr p 0 0 0),(6,.ref lo (g+1) 0 (dn.length+1+1)),(7,Qb cc.parent)],
    (H.set b3 (QS .i64 c3' es3')).set lo ⟨.arr,g+1,1,dn.length+1+1,J1 (dn.length+1) 0 row λ_=>[Qb cc.parent]⟩++[QS .i64 Rv Rw,⟨.arr,0,1,1,λ_=>[Qb cc.parent]⟩]⟩:=λh0=>by
   obtain⟨d,hd,Qjm⟩:=I.J4 cc (As I Ww) h0;have e1:(dn++[id]).length+1=dn.length+1+1:=by simp
   have qy:JB T A cc.parent=false:=by
    rw[jK];exact λhq=>Ru (Jo.2 ((QiJ I hA hd Qjm).1 hq))
   have wk:lo<(H.set b3 (QS .i64 c3' es3')).length:=by simpa using IP
   have e2:(H.set b3 (QS .i64 c3' es3')).set lo ⟨.arr,g+1,1,dn.length+1+1,J1 (dn.length+1) 0 row λ_=>[Qb cc.parent]⟩++[QS .i64 Rv Rw,⟨.arr,0,1,1,λ_=>[Qb cc.parent]⟩] =
     (H.set b3 (QS .i64 c3' es3')++[QS .i64 Rv Rw]).set lo ⟨.arr,g+1,1,dn.length+1+1,J1 (dn.length+1) 0 row λ_=>[Qb cc.parent]⟩++[⟨.arr,0,1,1,λ_=>[Qb cc.parent]⟩]:=by
    rw[EJ wk];simp
   rw[e2];have Qjn:∀l,(S' l\/l=H.length)->l≠lo:=λl hl e=>by
    subst e;rcases hl with hl|hl
    ·exact Zm hl
    ·omega
   refine Rt.of (J1 (dn.length+1) 0 row λ_=>[Qb cc.parent]) (λl=>S' l\/l=H.length) (dn:=dn++[id]) ?_ hd (QB _) (λi hi=>?_) (O2.step (λl h1 h2=>⟨h2,?_⟩)) (λl hl=>⟨NA l hl,?_⟩) (λh1=>Qjn lo h1 rfl) Az ((IS.U7 (.inr Az) _).uO _) e1.symm ?_ ?_
   ·rw[hu,Vz I Ww];simp
   ·rcases Q9.1 hi with hi|hi
    ·exact IN i hi
    ·rw[zn.1 hi];exact qy
   ·rw[Qx (by simpa using h1),Qk (Q8 (Qjn l h2))]
   ·rcases hl with hl|hl
    ·have:=(hS l hl).2;simp;omega
    ·simp;omega
   ·rw[Qx (by simp;omega),Qs (by simp;omega)]
   ·intro i hi;have:=No (dn:=dn++[id]) (off:=0) (row:=row) (v:=cc.parent) (λi hi=>by rw[JV];exact ZH i (by simpa using hi)) i (by simpa using hi);rw[JV]at this;simpa using this
  rcases hB with ⟨hk,ml,yF,Uo⟩|⟨l,c,es,hk,ml,yF,Uo⟩
  ·rw[EW,hk,zq]at k3;refine Qe hb ?_;simp only[go_sem,Qa,ho,Qg,m1,xy,m3,zM,k1,k3,ml,yF,Uo,Go.undef];simp only[e3];by_cases h0:cc.parent=0
   ·have d0:(cc.parent==0)=true:=by simpa using h0
    simp only[go_sem,Qa,ho,Qg,Qk (Q8 O.GH),Qs zM,zM,af,e0,d0];exact⟨_,rfl,fin _ _ _ _ _ O2 NA IS NB (.inl h0)⟩
   ·have d0:(cc.parent==0)=false:=by simpa using h0
    simp only[go_sem,Qa,ho,Qg,Qk (Q8 O.GH),Qs zM,zM,af,e0,d0,NB,kX,Qk uQ,IP];refine⟨by omega,(up T cc.parent).length,⟨[(0,.ptr p 0 0 0),(6,.ref lo (g+1) 0 (dn.length+1+1)),(7,Qb cc.parent)],_⟩,?_,QQ,yf h0⟩;have:=congrArg List.length (Vz I Ww);simp only[Vh]at this;omega
  ·rw[EW,hk,K0]at k3;refine Qe hb ?_;simp only[go_sem,Qa,ho,Qg,m1,xy,m3,zM,k1,k3,ml,yF,Uo,Go.undef];simp only[e3];by_cases h0:cc.parent=0
   ·have d0:(cc.parent==0)=true:=by simpa using h0
    simp only[go_sem,Qa,ho,Qg,Qk (Q8 O.GH),Qs zM,zM,af,e0,d0];exact⟨_,rfl,fin _ _ _ _ _ O2 NA IS NB (.inl h0)⟩
   ·have d0:(cc.parent==0)=false:=by simpa using h0
    simp only[go_sem,Qa,ho,Qg,Qk (Q8 O.GH),Qs zM,zM,af,e0,d0,NB,kX,Qk uQ,IP];refine⟨by omega,(up T cc.parent).length,⟨[(0,.ptr p 0 0 0),(6,.ref lo (g+1) 0 (dn.length+1+1)),(7,Qb cc.parent)],_⟩,?_,QQ,yf h0⟩;have:=congrArg List.length (Vz I Ww);simp only[Vh]at this;omega
structure Rx (S:Nat->Prop) (h:List Ob) (p:Nat) (T:List Qw) (A:List Int) (leaf:Int) (n:Nat) (s:St):Prop where
 ex:∃id dn c lo g row H S' b1 b2 b3 c1 c2 c3 Z4 Je Vb kl,up T leaf=dn++up T id/\QF T id=some c/\(up T id).length<=n/\(∀i∈dn++[id],JB T (Kt A leaf) i=false) /\
  jZ S' H p b1 b2 b3 c1 c2 c3 Z4 Je Vb kl T (Kt A leaf) (wg T A dn)/\(∀l,S' l->more S h l/\l<H.length)/\¬ S' lo/\h.length<=lo/\Step S h H /\
  H[lo]? = some ⟨.arr,g,1,dn.length+1,row⟩/\(∀i,i<dn.length+1->row i=[Qb ((dn++[id]).getD i 0)]) /\
  s=⟨[(0,.ptr p 0 0 0),(6,.ref lo g 0 (dn.length+1)),(7,Qb id)],H⟩
def Rx.of{S}{h}{p}{T}{A}{leaf}{n}{id}{dn}{c}{lo g k}(row){H}(S'){b1 b2 b3 c1 c2 c3}{Z4 Je Vb}{kl}
  (hu:up T leaf=dn++up T id) (hc:QF T id=some c) (hn:(up T id).length<=n) (ha:∀i∈dn++[id],JB T (Kt A leaf) i=false) (O:jZ S' H p b1 b2 b3 c1 c2 c3 Z4 Je Vb kl T (Kt A leaf) (wg T A dn)) (hS:∀l,S' l->more S h l/\l<H.length) (h1:¬ S' lo) (h2:h.length<=lo) (hs:Step S h H)
  (hk:k=dn.length+1) (h3:H[lo]? = some ⟨.arr,g,1,k,row⟩) (h4:∀i,i<dn.length+1->row i=[Qb ((dn++[id]).getD i 0)]):Rx S h p T A leaf n ⟨[(0,.ptr p 0 0 0),(6,.ref lo g 0 k),(7,Qb id)],H⟩:=by
 subst hk;exact⟨⟨id,dn,c,lo,g,row,H,S',b1,b2,b3,c1,c2,c3,Z4,Je,Vb,kl,hu,hc,hn,ha,O,hS,h1,h2,hs,h3,h4,rfl⟩⟩
def QxQ(T)(A)(leaf)(k):(if k=leaf then none else BQ T A k)=BQ T (Kt A leaf) k:=by
 unfold BQ Kt;by_cases h:k=leaf
 ·subst h;simp
 ·simp[h,J8]
def QxR{S}{h}{p}{T}{A}(O:j4 S h p T A)(I:VR T)(hA:Au T A)(leaf)(c:Qw)(hc:QF T leaf=some c)(wj:c.leaf=true)(jv:1<Q7 c.ls)(Xi:leaf∈A)(Jy:JB T (Kt A leaf) leaf=false):
  QK prog 263 h [.ptr p 0 0 0,Qb leaf] (λd h'=>∃d1,d=.tup [d1,Qb 0]/\Ky h.length h' d1 (XE T (Kt A leaf) leaf)/\j4 (more S h) h' p T (Kt A leaf)/\Step S h h'):=by
 have O0:=O;have hR:=O.toR;obtain⟨b1,b2,b3,c1,c2,c3,Z4,Je,Vb,kl,O⟩:=O;have ho:=O.o;have m1:=O.m1;have m2:=O.m2;have m3:=O.m3;have Ny:=Qc m2;have k1:=O.f1.at_ leaf;rw[xw,hc]at k1;simp only[Qf jv,wj,Nx,K6]at k1;have uP:leaf≠0:=λe=>by rw[e,Gy I]at hc;cases hc
 have Nz:=EX hR I hA leaf uP;rw[(Ns Xi leaf).2 (.inl (YA I hc))]at Nz;have M2:=O.f2.del leaf;refine Q6 Qi 200 func263 rfl ntmps263 results263 rfl λbase w pl hb=>?_;have Qg:=Qc ho;have xy:=Qc m1;simp only[go_sem,Qa,ho,Qg,m1,xy,k1,Go.undef];refine ZN hb Ix Nz λd hR=>?_;subst hR;refine Qe hb ?_;simp only[go_sem,Qa,ho,Qg,m2,Ny,Go.undef];have U9:Rx S h p T A leaf (up T leaf).length ⟨[(0,.ptr p 0 0 0),(6,.ref h.length 0 0 1),(7,Qb leaf)],h.set b2 (QS .i64 c2 (Kg Je leaf))++[⟨.arr,0,1,1,λ_=>[Qb leaf]⟩]⟩:=by
  have O2:=((O.step (S':=λl=>S l/\l<h.length) λl h1 h2=>⟨⟨h2,h1⟩,rfl⟩).Qji (c2':=c2) (A':=Kt A leaf) (M2.to λk=>QxQ T A leaf k)).app [⟨.arr,0,1,1,λ_=>[Qb leaf]⟩];rw[<- show wg T A []=js T A from funext λp=>funext λi=>by simp[wg]]at O2;refine Rx.of (λ_=>[Qb leaf]) (λl=>S l/\l<h.length) (dn:=[]) rfl hc (QB _) (λi hi=>?_) O2 (λl h1=>⟨.inl h1.1,by have:=h1.2;simp;omega⟩) (λh1=>by have:=h1.2;omega) (QB _) ⟨λl h1 h2=>?_,by simp⟩ rfl ?_ (λi hi=>?_)
  ·simp only[zo,zn]at hi;rw[hi];exact Jy
  ·rw[Qx (by simpa using h1),Qk (λ(e:b2=l)=>h2 (e▸O.s2))]
  ·rw[Kx (by simp)];rfl
  ·obtain rfl:i=0:=by simp at hi;omega
   rfl
 refine MP (Rx S h p T A leaf) (up T leaf).length QQ U9 ?_;clear U9 O m1 m2 m3 ho k1 M2 Nz O0 hR;rintro n s ⟨id,dn,cc,lo,g,row,H,S',b1,b2,b3,c1,c2,c3,Z4,Je,Vb,kl,hu,Ww,hn,IN,O,hS,Zm,Az,ZF,kX,ZH,rfl⟩;have ho:=O.o;have m1:=O.m1;have m3:=O.m3;have Qg:=Qc ho;have xy:=Qc m1;have zM:=Qc m3;have IP:=Qc kX;obtain⟨d0,IQ,Ks⟩:=QiK I hc jv id (by rw[hu];exact OP _ (YA I Ww));rw[Ww]at IQ;cases IQ;have k1:=O.f1.at_ id;rw[xw,Ww]at k1;simp only[Qf Ks]at k1;have k3:=O.f3.at_ cc.parent;have QxS:JB T A id=true:=(Ns Xi id).2 (.inl (by rw[hu];exact OP _ (YA I Ww)));have QxT:id ∉ dn:=λhm=>by
  have nd:=UO I leaf;rw[hu,Km]at nd;exact nd.2.2 id hm id (YA I Ww) rfl
 have Qjo:wg T A dn cc.parent id=true:=Re.2 ⟨yy.2 ⟨cc,Ww,rfl,QxS⟩,QxT⟩;have hKn:∀j,j≠cc.parent->∀i,wg T A (dn++[id]) j i=wg T A dn j i:=λj hj i=>by
  rw[kx,Re,Re];constructor
  ·exact λ⟨h1,h2⟩=>⟨h1,λh3=>h2 (ez _ h3)⟩
  ·rintro⟨h1,h2⟩;refine⟨h1,λh3=>?_⟩;rcases Q9.1 h3 with h3|h3
   ·exact h2 h3
   ·rw[zn.1 h3]at h1;obtain⟨e,h4,h5,_⟩:=yy.1 h1;rw[Ww]at h4;cases h4;exact hj h5.symm
 cases hk:kl cc.parent with
 | none=>rw[O.kn _ id hk]at Qjo;cases Qjo
 | some l=>
  obtain⟨c,es,ml,fl⟩:=O.ks _ l hk;have yF:=Qc ml;rw[EW,hk,K0]at k3;obtain⟨n0,n1,n2,n3⟩:=O.nk _ l hk;have uR:l≠lo:=λe=>Zm (e▸O.sk _ l hk);have M':Vl (Kg es id) (Ay (wg T A (dn++[id]) cc.parent)):=(fl.del id).to λj=>by
   unfold Ay wg;by_cases hj:j=id
   ·simp[hj]
   ·simp[hj]
  have hlen:=mu M';have O2:=O.Qjj (c':=c) (es':=Kg es id) (Kd':=wg T A (dn++[id])) hk M' hKn;have IS:=ZF.U7 (hS l (O.sk _ l hk)).1 (QS .i64 c (Kg es id));have NB:(H.set l (QS .i64 c (Kg es id)))[lo]? = some ⟨.arr,g,1,dn.length+1,row⟩:=(Qk uR).trans kX;have fin:(cc.parent=0\/JB T (Kt A leaf) cc.parent=true) ->
    Ky h.length (H.set l (QS .i64 c (Kg es id))) (.ref lo g 0 (dn.length+1)) (XE T (Kt A leaf) leaf)/\j4 (more S h) (H.set l (QS .i64 c (Kg es id))) p T (Kt A leaf)/\Step S h (H.set l (QS .i64 c (Kg es id))):=λhe=>by
   obtain⟨e1,e2⟩:=Qw4 I Xi hu Ww IN he;rw[<- e1];refine⟨.inr ⟨lo,g,0,row,by simp,⟨Az,rfl⟩,by simpa using NB,λi hi=>?_⟩,?_,IS⟩
   ·rw[JV];exact ZH i (by simpa using hi)
   ·rw[show wg T A (dn++[id])=js T (Kt A leaf) from funext λp=>funext λi=>e2 p i]at O2;exact⟨_,_,_,_,_,_,_,_,_,_,O2.step λl h1 h2=>⟨(hS l h2).1,rfl⟩⟩
  by_cases mw:∃i,wg T A (dn++[id]) cc.parent i=true
  ·have qk:=hlen.2 mw;have d2:decide ((0:Int)<((Kg es id).length:Int))=true:=Q5 (by omega);have he:cc.parent=0\/JB T (Kt A leaf) cc.parent=true:=by
    by_cases h0:cc.parent=0
    ·exact .inl h0
    ·exact .inr ((QiL I hA Xi hu Ww IN h0).1 mw)
   refine Qe hb ?_;simp only[go_sem,Qa,ho,Qg,m1,xy,m3,zM,k1,k3,ml,yF,d2,Go.undef,Qk n0,Qk n3,Qs yF];exact⟨_,rfl,fin he⟩
  ·have hz:¬ 0<(Kg es id).length:=λh=>mw (hlen.1 h);have d2:decide ((0:Int)<((Kg es id).length:Int))=false:=QN (by omega);by_cases h0:cc.parent=0
   ·have d0:(cc.parent==0)=true:=by simpa using h0
    refine Qe hb ?_;simp only[go_sem,Qa,ho,Qg,m1,xy,m3,zM,k1,k3,ml,yF,d2,d0,Go.undef,Qk n0,Qk n3,Qs yF];exact⟨_,rfl,fin (.inl h0)⟩
   ·have d0:(cc.parent==0)=false:=by simpa using h0
    have Gz:dn.length<=16:=by
     have e:=congrArg List.length hu;have:=Dj (L:=T) (n:=16) (id:=leaf);rw[Zj]at e;unfold up at e;omega
    obtain⟨d,hd,Qjm⟩:=I.J4 cc (As I Ww) h0;have qy:JB T (Kt A leaf) cc.parent=false:=by
     rw[jK];exact λhq=>mw ((QiL I hA Xi hu Ww IN h0).2 hq)
    have e1:(dn++[id]).length+1=dn.length+1+1:=by simp
    refine Qe hb ?_;simp only[go_sem,Qa,ho,Qg,m1,xy,m3,zM,k1,k3,ml,yF,d2,d0,Go.undef,Qk n0,Qk n3,Qs yF,NB,kX,IP];refine⟨by omega,(up T cc.parent).length,⟨[(0,.ptr p 0 0 0),(6,.ref lo (g+1) 0 (dn.length+1+1)),(7,Qb cc.parent)],_⟩,?_,QQ,?_⟩
    ·have:=congrArg List.length (Vz I Ww);simp only[Vh]at this;omega
    ·refine Rx.of (J1 (dn.length+1) 0 row λ_=>[Qb cc.parent]) S' (dn:=dn++[id]) ?_ hd (QB _) (λi hi=>?_) (O2.step (λj h1 h2=>⟨h2,?_⟩)) (λj hj=>⟨(hS j hj).1,?_⟩) Zm Az ((IS.U7 (.inr Az) _).uO _) e1.symm ?_ ?_
     ·rw[hu,Vz I Ww];simp
     ·rcases Q9.1 hi with hi|hi
      ·exact IN i hi
      ·rw[zn.1 hi];exact qy
     ·rw[Qx (by simpa using h1),Qk (λ(e:lo=j)=>Zm (e▸h2))]
     ·have:=(hS j hj).2;simp;omega
     ·rw[Qx (by simpa using IP),Qs (by simpa using IP)];rfl
     ·intro i hi;have:=No (dn:=dn++[id]) (off:=0) (row:=row) (v:=cc.parent) (λi hi=>by rw[JV];exact ZH i (by simpa using hi)) i (by simpa using hi);rw[JV]at this;simpa using this
def QxV{T:List Qw}(hr:XD T){k}(hk:k<T.length)(j):QF (T.take (k+1)) j=if j=(T.getD k default).iD then some (T.getD k default) else QF (T.take k) j:=by
 rw[getD_take T default k hk];unfold QF;rw[List.find?_append];have Xn:T.getD k default∈T:=WI T default k hk;by_cases h:j=(T.getD k default).iD
 ·rw[Qf h];have:List.find? (λc=>c.iD==j) (T.take k)=none:=by
   rw[vE];intro x hx hxj;have hp:=hr;rw[<- HE k T]at hp;have h2:=(eF.1 hp).2.2 x hx (T.getD k default) (by
    rw[Tl hk,Ze,QW hk];exact Vn ..)
   simp at hxj;omega
  rw[this];simp[h]
 ·rw[Qd h];have:((T.getD k default).iD==j)=false:=by simpa using Q8 h
  simp only[wR,this,List.find?_nil,Option.or_none]
def Qjp{h:List Ob}{t}{T}(R:XY h t T)(I:VR T):QK prog 100 h [.ptr t 0 0 0] (λd h'=>d=.ptr (h.length+3) 0 0 0/\j4 (λl=>h.length<=l) h' (h.length+3) T []/\∃g,h'=h++g):=by
 have hlen:=I.len;have R2:∀g,XY (h++g) t T:=λg=>R.more yE;refine Q6 Qi 200 func100 rfl ntmps100 results100 rfl λbase w pl hb=>?_;simp only[go_sem,Qa,Qa];refine ZN hb iO (mn (R2 _) (by omega)) λd hR=>?_;subst hR;apply QC hb;refine Jg (λk st=>∃c es g,Vl es (xw (T.take k))/\st=⟨[(0,.ptr t 0 0 0),(3,.ptr (h.length+3) 0 0 0),(15,ints (T.map (·.iD))),(16,Qb T.length),(17,Qb k)],h++(QS .i64 c es::QS .i64 0 []::QS .i64 0 []::mi h.length (h.length+1) (h.length+2)::g)⟩) T.length (s0:=⟨[(0,.ptr t 0 0 0),(3,.ptr (h.length+3) 0 0 0),(15,ints (T.map (·.iD))),(16,Qb T.length),(17,Qb 0)],h++(QS .i64 0 []::QS .i64 0 []::QS .i64 0 []::mi h.length (h.length+1) (h.length+2)::[])⟩) (Qp.frame (by simp only[go_sem,Kl])) ⟨0,[],[],Vl.nil.to λk=>by simp[xw,QF],rfl⟩ ?_;rintro k _ hk ⟨c,es,g,M,rfl⟩;by_cases Qj:k<T.length
 ·have dk:=Q5 Qj;have hg:(T.map (·.iD)).getD k 0=(T.getD k default).iD:=getD_map _ _ _ _ _ Qj;have Xn:T.getD k default∈T:=WI T default k Qj;have hf:QF T (T.getD k default).iD=some (T.getD k default):=(Vs I.rising).2 ⟨Xn,rfl⟩;have hft:=QxV I.rising Qj;obtain⟨x,hx⟩:∃x,x=T.getD k default:=⟨_,rfl⟩;rw[<- hx]at hg Xn hf hft;have qQ:=λg=>Rs (R2 g) x.iD;rw[hf]at qQ;simp only[KA,wV,K6]at qQ;have Zk:∀j,xw (T.take (k+1)) j=if j=x.iD then (if 1<Q7 x.ls then some (.agg [Qb x.parent,Qb (Nx x.leaf)]) else none) else xw (T.take k) j:=λj=>by
   unfold xw;rw[hft];by_cases hj:j=x.iD
   ·simp[hj]
   ·simp[hj]
  have rR:xw (T.take k) x.iD=none:=by
   unfold xw;have:QF (T.take k) x.iD=none:=by
    rw[IB];intro y hy e;have hp:=I.rising;rw[<- HE k T]at hp;have h2:=(eF.1 hp).2.2 y hy x (by
     rw[Tl Qj,hx,Ze,QW Qj];exact Vn ..)
    omega
   rw[this]
  refine Qe hb ?_;simp only[go_sem,Qa,dk,Qj,hg,Kl];refine ZN hb xo (qQ _) λd hR=>?_;subst hR;apply QC hb;refine Ax hb vX (v8 x) (Qn.flat rfl) λd h hR=>?_;obtain⟨rfl,rfl⟩:=hR;apply QC hb;by_cases hs:1<Q7 x.ls
  ·have ds:=Q5 hs;simp only[Qf hs]at Zk;obtain⟨c',es',e1,M'⟩:=M.set .i64 c x.iD (.agg [Qb x.parent,Qb (Nx x.leaf)]);simp only[go_sem]at e1;have M2:=M'.to λj=>(Zk j).symm;have QT:=JX (show k<4611686018427387904 by omega);cases hl:x.leaf with
   | true=>
    rw[hl]at e1;simp only[Nx,K6]at e1;simp only[go_sem,Qa,ds,hl];apply QH hb [0,1,2,3,4,5,1006];simp only[go_sem,Qa,hl];simp only[e1];exact⟨Qj,_,Qp.frame (by simp only[go_sem,QT]),c',es',_,M2,rfl⟩
   | false=>
    rw[hl]at e1;simp only[Nx]at e1;simp only[go_sem,Qa,ds,hl];apply QH hb [0,1,2,3,4,5,1006];simp only[go_sem,Qa,hl];simp only[qa,jP]at e1;simp only[e1];exact⟨Qj,_,Qp.frame (by simp only[go_sem,QT]),c',es',_,M2,rfl⟩
  ·have ds:=QN hs;simp only[Qd hs]at Zk;have QT:=JX (show k<4611686018427387904 by omega);simp only[go_sem,Qa,ds];refine⟨Qj,_,Qp.frame (by simp only[go_sem,QT]),c,es,_,M.to λj=>?_,rfl⟩;rw[Zk];by_cases hj:j=x.iD
   ·rw[Qf hj,hj,rR]
   ·rw[Qd hj]
 ·have Ju:k=T.length:=by omega
  have dk:=QN Qj;rw[Ju,YO]at M;refine Qe hb ?_;simp only[go_sem,Qa,dk];apply QC hb;refine⟨⟨h.length,h.length+1,h.length+2,c,0,0,es,[],[],λ_=>none,Vr rfl,Kx rfl,M,Vr rfl,Vl.nil.to (λj=>by simp[BQ]),Vr rfl,Vl.nil.to (λj=>rfl),(λ_ _ e=>nomatch e),(λk i _=>by simp[js,JB]),(λ_ _ _ e=>nomatch e),by omega,by omega,by omega,by omega,by omega,by omega,(λ_ _ e=>nomatch e),by show h.length<=_;omega,QB _,by show h.length<=_;omega,by show h.length<=_;omega,(λ_ _ e=>nomatch e)⟩,_,rfl⟩
@[go_sem] def GJ(a m:Nat):Ob:=⟨.one,0,2,1,λ_=>[.ptr a 0 0 0,.mref m 0]⟩
def EY(x:It):Int × D:=(x.ki,.agg x.cells)
structure NC (S:Nat->Prop) (h:List Ob) (p a m:Nat) (t:Tr) (c:Nat) (es:List ZU) (L:List It):Prop where
 o:h[p]? = some (GJ a m)
 av:BO h a t L
 mo:h[m]? = some (QS .i64 c es)
 mp:YW es (L.map EY)
 vi:∀x∈L,x.vi=x.ki
 pa:p≠a
 pm:p≠m
 am:a≠m
 pt:p ∉ t.QR
 mt:m ∉ t.QR
 sp:S p
 sa:S a
 sm:S m
 st:∀l∈t.QR,S l
def WX(S:Nat->Prop)(h:List Ob)(p:Nat)(L:List It):Prop:=∃a m t c es,NC S h p a m t c es L
def uS{L:List It}(id:Int):look (L.map EY) id=(L.find? λx=>x.ki==id).map λx=>.agg x.cells:=by
 unfold look;rw[List.find?_map,TF];rfl
def VC(id:Int)(L:List It):List It:=L.filter λx=>x.ki != id
def YX(id:Int)(vt fit:Nat)(L:List It):List It:=YV ⟨vt,id,fit,id⟩ (VC id L)
def NC.ids{S}{h}{p a m}{t}{c}{es}{L:List It}(T:NC S h p a m t c es L):(L.map It.ki).Nodup:=by
 have:=T.mp.nd;rwa [xT]at this
def uT{L:List It}(hn:(L.map It.ki).Nodup){x:It}(hx:x∈L):XW x.ka x.ki L=VC x.ki L:=by
 unfold XW VC;apply dZ;intro y hy;by_cases h:y.ki=x.ki
 ·have wX:y=x:=by
   have:∀{l:List It},(l.map It.ki).Nodup->∀{u v:It},u∈l->v∈l->u.ki=v.ki->u=v:=by
    intro l;induction l with
    | nil=>intro _ u v hu;cases hu
    | cons a l ih=>
     intro hn u v hu hv e;simp only[J7,Jf,Jk,FR,not_and]at hn;rcases QM.1 hu with h1|h1<;>rcases QM.1 hv with h2|h2
     ·rw[h1,h2]
     ·exact absurd (by rw[<- e,h1]) (hn.1 v h2)
     ·exact absurd (by rw[e,h2]) (hn.1 u h1)
     ·exact ih hn.2 h1 h2 e
   exact this hn hy hx h
  subst wX;simp[Dp]
 ·have hb:(y.ki==x.ki)=false:=by simpa using h
  simp[Dp,hb,bne]
def uU{L:List It}{id}(h:(L.find? λx=>x.ki==id)=none):VC id L=L:=by
 unfold VC;rw[y7];intro x hx;have:=vE.1 h x hx;simpa using this
def uV(L)(a)(id):qx a id (VC id L)=none:=by
 unfold qx VC;rw[vE];intro x hx hk;simp only[J8,bne_iff_ne,ne_eq]at hx;exact hx.2 (yz.1 hk).2
def Qjr(y):∀L:List It,(YV y L).Perm (y::L)
 | []=>OO _
 | z::L=>by
  simp only[YV];split
  ·exact(List.Perm.cons _ (Qjr y L)).trans (List.Perm.swap _ _ _)
  ·exact OO _
def uW(id)(L:List It):Dr (L.map EY) id=(VC id L).map EY:=by
 unfold Dr VC;rw[Tt];rfl
def BO.set{h:List Ob}{tl}{t:Tr}{L}(A:BO h tl t L){m}(o)(h1:m≠tl)(h2:m ∉ t.QR):BO (h.set m o) tl t L:=⟨(Qk h1).trans A.o,A.is.set o h2,A.list,A.nd,A.out,A.sorted⟩
def QxX{id:Int}{vt fit}{L:List It}:(GG (L.map EY) id (.agg (It.mk vt id fit id).cells)).Perm ((YX id vt fit L).map EY):=by
 unfold GG YX;rw[uW];exact((Qjr ⟨vt,id,fit,id⟩ (VC id L)).map EY).symm
def uX(id)(L:List It):(VC id L).length<=L.length:=qL _ _
def NC.fin{S}{h H H2 h8}{p a m c c'}{t t' t''}{es es'}{L L2}(T:NC S h p a m t c es L)(s0:Step S h H)
  (hp:H[p]? = some (GJ a m)) (hm:m<H.length) (hH:H2=H.set m (QS .i64 c' es')) (mt:m ∉ t'.QR) (pt:p ∉ t'.QR) (st:∀l∈t'.QR,more S h l) (xi:YW es' (L2.map EY)) (hvi:∀x∈L2,x.vi=x.ki)
  (A:U2 H2 a t' L2 h8 t''):WX (more S h) h8 p L2/\Step S h h8:=by
 have e2:H2.length=H.length:=by rw[hH,KD]
 have hl:=s0.len;have lP:H2[p]? = some (GJ a m):=by rw[hH,Qk (Q8 T.pm)];exact hp
 have Xk:H2[m]? = some (QS .i64 c' es'):=by rw[hH,Qs hm]
 have Kb:∀l,H2.length<=l->h.length<=l:=λl h1=>by omega
 have Zk:=Qc T.o;have Bp:=Qc T.mo;refine⟨⟨a,m,t'',c',es',?_,A.is,?_,xi,hvi,T.pa,T.pm,T.am,?_,?_,.inl T.sp,.inl T.sa,.inl T.sm,?_⟩,⟨λl h1 h2=>?_,by have:=A.len;omega⟩⟩
 ·rw[A.keep p (by omega) T.pa pt];exact lP
 ·rw[A.keep m (by omega) (Q8 T.am) mt];exact Xk
 ·intro h1;rcases A.mem p h1 with h2|h2
  ·exact pt h2
  ·omega
 ·intro h1;rcases A.mem m h1 with h2|h2
  ·exact mt h2
  ·omega
 ·intro l h1;rcases A.mem l h1 with h2|h2
  ·exact st l h2
  ·exact .inr (Kb l h2)
 ·have na:l≠a:=by rintro rfl;exact h2 T.sa
  have nm:l≠m:=by rintro rfl;exact h2 T.sm
  have nt:l ∉ t'.QR:=λh3=>by
   rcases st l h3 with h4|h4
   ·exact h2 h4
   ·omega
  rw[A.keep l (by omega) na nt,hH,Qk (Q8 nm)];exact s0.keep l h1 h2
def NC.done{S}{h H H2 h8}{p a m c c'}{t t' t''}{es es'}{L}{id}{vt fit}(T:NC S h p a m t c es L)(s0:Step S h H)
  (hp:H[p]? = some (GJ a m)) (hm:m<H.length) (hH:H2=H.set m (QS .i64 c' es')) (mt:m ∉ t'.QR) (pt:p ∉ t'.QR) (st:∀l∈t'.QR,more S h l) (xi:YW es' (GG (L.map EY) id (.agg (It.mk vt id fit id).cells)))
  (A:U2 H2 a t' (YX id vt fit L) h8 t''):WX (more S h) h8 p (YX id vt fit L)/\Step S h h8:=
 T.fin s0 hp hm hH mt pt st (xi.to QxX) (λx hx=>by
  rcases IK.1 hx with rfl|hx
  ·rfl
  ·exact T.vi x (J8.1 hx).1) A
def QxZ{S}{h}{p}{L:List It}(T:WX S h p L)(id)(vt fit)(hs:L.length<400000):
  QK prog 255 h [.ptr p 0 0 0,Qb id,u64 vt,u64 fit] (λd h'=>WX (more S h) h' p (YX id vt fit L)/\Step S h h'):=by
 obtain⟨a,m,t,c,es,T⟩:=T;have ho:=T.o;have YB:=T.mo;have ha:=T.av.o;have hk:=T.mp.look id;rw[uS]at hk;cases hf:L.find? λx=>x.ki==id with
 | none=>
  rw[hf,zq]at hk;have zN:=uU hf;obtain⟨c',es',e1,M'⟩:=T.mp.set .i64 c id (.agg (It.mk vt id fit id).cells);have e2:J2 .i64 c es id (.agg [.raw (.int .u64 vt),.raw (.int .i64 id),.raw (.int .u64 fit),.raw (.int .i64 id)])=QS .i64 c' es':=e1;refine Q6 Qi 200 func255 rfl ntmps255 results255 rfl λbase w pl hb=>?_;have Qg:=Qc ho;have YC:=Qc YB;simp only[go_sem,Qa,ho,Qg,YB,YC,hk];apply QH hb [0,1,2,3,4,5,1006];simp only[go_sem,Qa,ho,Qg,YB,YC];simp only[e2];apply Va [8] hb [0,1,2,3,4,5,6,7,1008,9] [];simp only[go_sem,Qa,ho,Qg,YB,YC,Qk (Q8 T.pm)];refine xv hb tA (U3 (tl:=a) (t:=t) (L:=VC id L) (by rw[zN];exact(T.av.set _ (Q8 T.am) T.mt).app _) ⟨vt,id,fit,id⟩ (uV L vt id) (by have:=uX id L;omega)) λd h8 hR=>?_;obtain⟨rfl,t'',A8⟩:=hR;apply XF hb;exact T.done (H:=h++_) (Step.app S h _) (Qx Qg |>.trans ho) (by simp;omega) (EJ YC).symm T.mt T.pt (λl hl=>.inl (T.st l hl)) M' A8
 | some x=>
  rw[hf,K0]at hk;obtain⟨c',es',e1,M'⟩:=T.mp.set .i64 c id (.agg (It.mk vt id fit id).cells);have e2:J2 .i64 c es id (.agg [.raw (.int .u64 vt),.raw (.int .i64 id),.raw (.int .u64 fit),.raw (.int .i64 id)])=QS .i64 c' es':=e1;refine Q6 Qi 200 func255 rfl ntmps255 results255 rfl λbase w pl hb=>?_;have Qg:=Qc ho;have YC:=Qc YB;simp only[go_sem,Qa,ho,Qg,YB,YC,hk];apply Va [6] hb [0,1,2,3,4,5,1006] [];simp only[go_sem,Qa,ho,Qg];have Xn:x∈L:=wS hf;have Zg:x.ki=id:=by have:=y8 hf;simpa using this
  have ai:XW x.ka id L=VC id L:=by rw[<- Zg];exact uT T.ids Xn
  have Qz:qx x.ka id L≠none:=λe=>by
   unfold qx at e;have:=vE.1 e x Xn;exact this (yz.2 ⟨rfl,Zg⟩)
  have uY:∀l∈t.QR,l<h.length:=T.av.is.lt;have Zx:=Qc ha;refine Aw hb tD rfl ?_ (uJ (tl:=a) (t:=t) (L:=L) (T.av.app _) x.ka id Qz (by omega)) rfl λd h6 hR=>?_
  ·simp only[go_sem,Zg]
  obtain⟨rfl,t',A6⟩:=hR;rw[ai]at A6;have QK3:h.length+2<=h6.length:=by have:=A6.len;simpa using this
  have k6:∀l,l<h.length->l≠a->l ∉ t.QR->h6[l]? = h[l]? := λl h1 h2 h3=>(A6.keep l (by simp;omega) h2 h3).trans (Qx h1);have mz:h6[p]? = _:=(k6 p Qg T.pa T.pt).trans ho;have uZ:h6[m]? = _:=(k6 m YC (Q8 T.am) T.mt).trans YB;have Ds:=(A6.keep h.length (by simp) (by omega) (λh1=>by have:=uY _ h1;omega)).trans (Kx rfl);have Qjs:=Qc mz;have u0:=Qc uZ;have oE:=Qc Ds;have mt6:m ∉ t'.QR:=λh1=>by
   rcases A6.mem m h1 with h2|h2
   ·exact T.mt h2
   ·simp only[Zj]at h2;omega
  have pt6:p ∉ t'.QR:=λh1=>by
   rcases A6.mem p h1 with h2|h2
   ·exact T.pt h2
   ·simp only[Zj]at h2;omega
  have Dt:m≠h.length:=by omega
  apply XF hb;apply QH hb [0,1,2,3,4,5,1006];simp only[go_sem,Qa,mz,Qjs,uZ,u0,Ds,oE];simp only[e2];apply Va [8] hb [0,1,2,3,4,5,6,7,1008,9] [];simp only[go_sem,Qa,mz,Qjs,uZ,u0,Ds,oE,Qk (Q8 T.pm),Qk Dt];refine xv hb tA (U3 (tl:=a) (t:=t') (L:=VC id L) (A6.is.set _ (Q8 T.am) mt6) ⟨vt,id,fit,id⟩ (uV L vt id) (by have:=uX id L;omega)) λd h8 hR=>?_;obtain⟨rfl,t'',A8⟩:=hR;apply XF hb;refine T.done (H:=h6) ⟨λl h1 h2=>k6 l h1 (by rintro rfl;exact h2 T.sa) (λh3=>h2 (T.st l h3)),by omega⟩ mz u0 rfl mt6 pt6 (λl hl=>?_) M' A8;rcases A6.mem l hl with h1|h1
  ·exact .inl (T.st l h1)
  ·simp only[Zj]at h1;exact .inr (by omega)
def Kh{h F:List Ob}(hF:F=h.map Ob.ro)(l:Nat)(o:Ob)(e:(h.map Ob.ro)[l]? = some o):(F.map Ob.ro)[l]? = some o:=by
 have:=II (g:=[]) hF l o e;rwa [QU]at this
structure Qx1 (h:List Ob) (p a m:Nat) (t:Tr) (c:Nat) (es:List ZU) (L:List It):Prop where
 o:(h.map Ob.ro)[p]? = some (GJ a m).ro
 ao:(h.map Ob.ro)[a]? = some (yC t).ro
 is:jY h t
 list:t.list=L
 sorted:VB L
 mo:(h.map Ob.ro)[m]? = some (QS .i64 c es).ro
 mp:YW es (L.map EY)
def GK(h:List Ob)(p:Nat)(L:List It):Prop:=∃a m t c es,Qx1 h p a m t c es L
def WX.toR{S}{h}{p}{L}:WX S h p L->GK h p L:=λ⟨a,m,t,c,es,T⟩=>
 ⟨a,m,t,c,es,Z3 T.o,Z3 T.av.o,T.av.is.toR,T.av.list,T.av.sorted,Z3 T.mo,T.mp⟩
def GK.more{h h':List Ob}{p}{L}(e:∀(l:Nat) (o:Ob),(h.map Ob.ro)[l]? = some o->(h'.map Ob.ro)[l]? = some o):GK h p L->GK h' p L:=λ⟨a,m,t,c,es,T⟩=>
 ⟨a,m,t,c,es,e _ _ T.o,e _ _ T.ao,T.is.more e,T.list,T.sorted,e _ _ T.mo,T.mp⟩
def WX.frame{S}{h h':List Ob}{p}{L}(e:∀l,S l->l<h.length->h'[l]? = h[l]?):WX S h p L->WX S h' p L:=λ⟨a,m,t,c,es,T⟩=>
 have k:∀l o,S l->h[l]? = some o->h'[l]? = some o:=λl o h1 h2=>(e l h1 (Qc h2)).trans h2
 ⟨a,m,t,c,es,k _ _ T.sp T.o,⟨k _ _ T.sa T.av.o,T.av.is.frame λl hl=>e l (T.st l hl) (T.av.is.lt l hl),T.av.list,T.av.nd,T.av.out,T.av.sorted⟩,k _ _ T.sm T.mo,T.mp,T.vi,T.pa,T.pm,T.am,T.pt,T.mt,T.sp,T.sa,T.sm,T.st⟩
def WX.mono{S S'}{h}{p}{L}(e:∀l,S l->S' l):WX S h p L->WX S' h p L:=λ⟨a,m,t,c,es,T⟩=>
 ⟨a,m,t,c,es,T.o,T.av,T.mo,T.mp,T.vi,T.pa,T.pm,T.am,T.pt,T.mt,e _ T.sp,e _ T.sa,e _ T.sm,λl hl=>e l (T.st l hl)⟩
section
variable {h:List Ob}{p:Nat}{L:List It}(T:GK h p L)
include T
theorem Qx2(now):QV prog 257 h [.ptr p 0 0 0,u64 now] (λd=>d=.tup [Qb ((L.find? λx=>decide (x.va<=min now 9223372036854775807)).getD default).ki,QJ (L.find? λx=>decide (x.va<=min now 9223372036854775807)).isSome]):=by
 obtain⟨a,m,t,c,es,T⟩:=T;obtain⟨ho,ha,is,hl,hs,hm,mp⟩:=T;have e1:min (now:Int) 9223372036854775807=((min now 9223372036854775807:Nat):Int):=by omega
 have Ae:=ha;refine Zq Qi 200 func257 rfl ntmps257 results257 rfl λbase w pl F hF Q3 hb=>?_;rw[<- hF]at ho ha;have Qg:=Qc ho;have Zx:=Qc ha;simp only[go_sem,Qa,ho,Qg,ha,Zx,e1];refine ZN hb Qwb (QxC (Kh hF _ _ Ae) (is.more (Kh hF)) (min now 9223372036854775807)) λd hR=>?_;subst hR;refine Qe hb ?_;simp only[go_sem,Qa,ho,Qg];subst hl;exact⟨_,rfl,rfl⟩
theorem Qx3:QV prog 195 h [.ptr p 0 0 0] (λd=>d=.tup [u64 (L.head?.getD default).ka,QJ L.head?.isSome]):=by
 obtain⟨a,m,t,c,es,T⟩:=T;obtain⟨ho,ha,is,hl,hs,hm,mp⟩:=T;have Ae:=ha;refine Zq Qi 200 func195 rfl ntmps195 results195 rfl λbase w pl F hF Q3 hb=>?_;rw[<- hF]at ho ha;have Qg:=Qc ho;have Zx:=Qc ha;simp only[go_sem,Qa,ho,Qg,ha,Zx];refine ZN hb QhW (Qi8 (Kh hF _ _ Ae) (is.more (Kh hF))) λd hR=>?_;subst hR;refine Qe hb ?_;simp only[go_sem,Qa,ho,Qg];subst hl;exact⟨_,rfl,rfl⟩
theorem u6:QV prog 211 h [.ptr p 0 0 0] (λd=>d=Qb L.length):=by
 obtain⟨a,m,t,c,es,T⟩:=T;obtain⟨ho,ha,is,hl,hs,hm,mp⟩:=T;have e1:es.length=L.length:=by rw[mp.len,Kl]
 refine Zq Qi 200 func211 rfl ntmps211 results211 rfl λbase w pl F hF Q3 hb=>?_;rw[<- hF]at ho ha hm;have Qg:=Qc ho;have Zx:=Qc ha;have QG:=Qc hm;simp only[go_sem,Qa,ho,Qg,ha,Zx,hm,QG,e1];exact⟨[],by simp⟩
def xA(L:List It):Nat:=L.foldl (λo x=>min o x.va) never
omit T in
theorem mA:∀(L:List It) (o:Nat),L.foldl (λo x=>min o x.va) o<=o/\(∀x∈L,L.foldl (λo x=>min o x.va) o<=x.va)/\(L.foldl (λo x=>min o x.va) o=o\/∃x∈L,L.foldl (λo x=>min o x.va) o=x.va)
 | [],o=>⟨QB _,by simp,.inl rfl⟩
 | y::L,o=>by
  obtain⟨h1,h2,h3⟩:=mA L (min o y.va);simp only[Ba];refine⟨by omega,λx hx=>?_,?_⟩
  ·rcases QM.1 hx with rfl|hx
   ·omega
   ·exact h2 x hx
  ·rcases h3 with h3|⟨x,hx,h3⟩
   ·rw[h3];by_cases hle:o<=y.va
    ·exact .inl (Qau hle)
    ·exact .inr ⟨y,by simp,Nat.min_eq_right (by omega)⟩
   ·exact .inr ⟨x,by simp[hx],h3⟩
omit T in
theorem Qx4{x:It}{L}(h:Wh x L):xA L=min x.va never:=by
 obtain⟨h1,h2,h3⟩:=mA L never;unfold xA;have h4:=h2 x h.mem;rcases h3 with h3|⟨y,hy,h3⟩
 ·omega
 ·have:=h.va hy;omega
theorem u7(hk:∀x∈L,x.ka<=18446744073709551615):QV prog 176 h [.ptr p 0 0 0] (λd=>d=u64 (xA L)):=by
 have T0:=T;obtain⟨a,m,t,c,es,T⟩:=T;obtain⟨ho,ha,is,hl,hs,hm,mp⟩:=T;have Ae:=ha;by_cases hn:L=[]
 ·have d0:((L.length:Int)==0)=true:=by simp[hn]
  refine Zq Qi 200 func176 rfl ntmps176 results176 rfl λbase w pl F hF Q3 hb=>?_;rw[<- hF]at ho ha;have Qg:=Qc ho;have Zx:=Qc ha;simp only[go_sem,Qa,ho,Qg,ha,Zx];refine Z8 hb tu rfl ?_ (u6 (T0.more (Kh hF))) rfl λd hR=>?_
  ·simp only[go_sem,Qa,ho,Qg,d0]
  subst hR;refine Qe hb ?_;simp only[go_sem,Qa,ho,Qg,d0];subst hn;exact⟨[],by simp[xA,never]⟩
 ·have d0:((L.length:Int)==0)=false:=by simp[hn]
  refine Zq Qi 200 func176 rfl ntmps176 results176 rfl λbase w pl F hF Q3 hb=>?_;rw[<- hF]at ho ha;have Qg:=Qc ho;have Zx:=Qc ha;simp only[go_sem,Qa,ho,Qg,ha,Zx];refine Z8 hb tu rfl ?_ (u6 (T0.more (Kh hF))) rfl λd hR=>?_
  ·simp only[go_sem,Qa,ho,Qg,d0]
  subst hR;refine Qe hb ?_;simp only[go_sem,Qa,ho,Qg,d0];refine Qe hb ?_;simp only[go_sem,Qa,ho,Qg];refine ZN hb QhX (Qja (Kh hF _ _ Ae) (is.more (Kh hF)) 18446744073709551615) λd hR=>?_;subst hR;refine Qe hb ?_;simp only[go_sem,Qa,ho,Qg];have Jb:=Tr.UU 18446744073709551615 t none [] (by rw[hl];exact hs) rfl;rw[hl,zo,y7.2 (λx hx=>by simpa using hk x hx)]at Jb;refine⟨_,rfl,?_⟩;cases Qju:t.VI 18446744073709551615 none with
  | none=>rw[Qju]at Jb;exact absurd Jb hn
  | some x=>
   rw[Qju]at Jb;rw[Qx4 Jb];simp only[KA,never];congr 2;omega
end
def mB(id:Int)(L:List It):Bool:=(L.find? λx=>x.ki==id).isSome
def Qx5{S}{h}{p}{L:List It}(T:WX S h p L)(id)(hs:L.length<400000):
  QK prog 264 h [.ptr p 0 0 0,Qb id] (λd h'=>d=Qb (if mB id L then 0 else 6)/\WX (more S h) h' p (VC id L)/\Step S h h'):=by
 have T0:=T;obtain⟨a,m,t,c,es,T⟩:=T;have ho:=T.o;have YB:=T.mo;have ha:=T.av.o;have hk:=T.mp.look id;rw[uS]at hk;unfold mB;cases hf:L.find? λx=>x.ki==id with
 | none=>
  rw[hf,zq]at hk;refine Q6 Qi 200 func264 rfl ntmps264 results264 rfl λbase w pl hb=>?_;have Qg:=Qc ho;have YC:=Qc YB;simp only[go_sem,Qa,ho,Qg,YB,YC,hk];rw[uU hf];exact⟨rfl,(T0.frame λl h1 h2=>Qx h2).mono λl hl=>.inl hl,Step.app S h _⟩
 | some x=>
  rw[hf,K0]at hk;have Xn:x∈L:=wS hf;have Zg:x.ki=id:=by have:=y8 hf;simpa using this
  have ai:XW x.ka id L=VC id L:=by rw[<- Zg];exact uT T.ids Xn
  have Qz:qx x.ka id L≠none:=λe=>by
   unfold qx at e;have:=vE.1 e x Xn;exact this (yz.2 ⟨rfl,Zg⟩)
  have uY:∀l∈t.QR,l<h.length:=T.av.is.lt;have Zx:=Qc ha;have M':=T.mp.del id;rw[uW]at M';refine Q6 Qi 200 func264 rfl ntmps264 results264 rfl λbase w pl hb=>?_;have Qg:=Qc ho;have YC:=Qc YB;simp only[go_sem,Qa,ho,Qg,YB,YC,hk];apply Va [6] hb [0,1,2,3,4,5,1006,7] [];simp only[go_sem,Qa,ho,Qg,YB,YC,Qk (Q8 T.pm)];refine Aw hb tD rfl ?_ (uJ (tl:=a) (t:=t) (L:=L) ((T.av.set _ (Q8 T.am) T.mt).app _) x.ka id Qz (by omega)) rfl λd h6 hR=>?_
  ·simp only[go_sem,Zg]
  obtain⟨rfl,t',A6⟩:=hR;rw[ai]at A6;apply XF hb;exact⟨rfl,T.fin (H:=h++_) (Step.app S h _) ((Qx Qg).trans ho) (by simp;omega) (EJ YC).symm T.mt T.pt (λl hl=>.inl (T.st l hl)) M' (λy hy=>T.vi y (J8.1 hy).1) A6⟩
def Qjv(h:List Ob):QK prog 151 h [] (λd h'=>d=.ptr h.length 0 0 0/\h'=h++[yC .nil]):=by
 refine Q6 Qi 200 func151 rfl ntmps151 results151 rfl λbase w pl hb=>?_;simp only[go_sem,Qa]
def Qjw{S}{h}{p}{L:List It}(T:WX S h p L)(id)(hs:L.length<400000):
  QK prog 251 h [.ptr p 0 0 0,Qb id] (λd h'=>d=Qb (if mB id L then 0 else 6)/\WX (more S h) h' p (VC id L)/\Step S h h'):=by
 have T0:=T;obtain⟨a,m,t,c,es,T⟩:=T;have ho:=T.o;have YB:=T.mo;have ha:=T.av.o;have hk:=T.mp.look id;rw[uS]at hk;unfold mB;cases hf:L.find? λx=>x.ki==id with
 | none=>
  rw[hf,zq]at hk;refine Q6 Qi 200 func251 rfl ntmps251 results251 rfl λbase w pl hb=>?_;have Qg:=Qc ho;have YC:=Qc YB;simp only[go_sem,Qa,ho,Qg,YB,YC,hk];rw[uU hf];exact⟨rfl,(T0.frame λl h1 h2=>Qx h2).mono λl hl=>.inl hl,Step.app S h _⟩
 | some x=>
  rw[hf,K0]at hk;have Xn:x∈L:=wS hf;have Zg:x.ki=id:=by have:=y8 hf;simpa using this
  have ai:XW x.ka id L=VC id L:=by rw[<- Zg];exact uT T.ids Xn
  have Qz:qx x.ka id L≠none:=λe=>by
   unfold qx at e;have:=vE.1 e x Xn;exact this (yz.2 ⟨rfl,Zg⟩)
  have uY:∀l∈t.QR,l<h.length:=T.av.is.lt;have Zx:=Qc ha;have M':=T.mp.del id;rw[uW]at M';refine Q6 Qi 200 func251 rfl ntmps251 results251 rfl λbase w pl hb=>?_;have Qg:=Qc ho;have YC:=Qc YB;simp only[go_sem,Qa,ho,Qg,YB,YC,hk];apply Va [6] hb [0,1,2,3,4,5,1006,7] [];simp only[go_sem,Qa,ho,Qg,YB,YC,Qk (Q8 T.pm)];refine Aw hb tD rfl ?_ (uJ (tl:=a) (t:=t) (L:=L) ((T.av.set _ (Q8 T.am) T.mt).app _) x.ka id Qz (by omega)) rfl λd h6 hR=>?_
  ·simp only[go_sem,Zg]
  obtain⟨rfl,t',A6⟩:=hR;rw[ai]at A6;apply XF hb;exact⟨rfl,T.fin (H:=h++_) (Step.app S h _) ((Qx Qg).trans ho) (by simp;omega) (EJ YC).symm T.mt T.pt (λl hl=>.inl (T.st l hl)) M' (λy hy=>T.vi y (J8.1 hy).1) A6⟩
section
variable {h:List Ob}{p:Nat}{L:List It}(T:GK h p L)
include T
theorem Qjx:QV prog 209 h [.ptr p 0 0 0] (λd=>d=Qb L.length):=by
 obtain⟨a,m,t,c,es,T⟩:=T;obtain⟨ho,ha,is,hl,hs,hm,mp⟩:=T;have e1:es.length=L.length:=by rw[mp.len,Kl]
 refine Zq Qi 200 func209 rfl ntmps209 results209 rfl λbase w pl F hF Q3 hb=>?_;rw[<- hF]at ho ha hm;have Qg:=Qc ho;have Zx:=Qc ha;have QG:=Qc hm;simp only[go_sem,Qa,ho,Qg,ha,Zx,hm,QG,e1];exact⟨[],by simp⟩
theorem Qx6(now):QV prog 256 h [.ptr p 0 0 0,u64 now] (λd=>∃o,Av o (L.filter λx=>decide (x.ka<=min now 9223372036854775807))/\d=.tup [Qb (o.getD default).ki,QJ o.isSome]):=by
 obtain⟨a,m,t,c,es,T⟩:=T;obtain⟨ho,ha,is,hl,hs,hm,mp⟩:=T;have e1:min (now:Int) 9223372036854775807=((min now 9223372036854775807:Nat):Int):=by omega
 have Ae:=ha;have Jb:=Tr.UU (min now 9223372036854775807) t none [] (by rw[hl];exact hs) rfl;rw[hl,zo]at Jb;refine QV.mono (R:=λd=>d=.tup [Qb ((t.VI (min now 9223372036854775807) none).getD default).ki,QJ (t.VI (min now 9223372036854775807) none).isSome]) ?_ (λd hd=>⟨_,Jb,hd⟩);refine Zq Qi 200 func256 rfl ntmps256 results256 rfl λbase w pl F hF Q3 hb=>?_;rw[<- hF]at ho ha;have Qg:=Qc ho;have Zx:=Qc ha;simp only[go_sem,Qa,ho,Qg,ha,Zx,e1];refine ZN hb QhX (Qja (Kh hF _ _ Ae) (is.more (Kh hF)) (min now 9223372036854775807)) λd hR=>?_;subst hR;refine Qe hb ?_;simp only[go_sem,Qa,ho,Qg];exact⟨_,rfl⟩
theorem Qx7:QV prog 175 h [.ptr p 0 0 0] (λd=>d=u64 (match L.head? with|some x=>min x.ka never|none=>never)):=by
 have T0:=T;obtain⟨a,m,t,c,es,T⟩:=T;obtain⟨ho,ha,is,hl,hs,hm,mp⟩:=T;have Ae:=ha;cases hL:L with
 | nil=>
  have d0:((L.length:Int)==0)=true:=by simp[hL]
  refine Zq Qi 200 func175 rfl ntmps175 results175 rfl λbase w pl F hF Q3 hb=>?_;rw[<- hF]at ho ha;have Qg:=Qc ho;have Zx:=Qc ha;simp only[go_sem,Qa,ho,Qg,ha,Zx];refine Z8 hb QhV rfl ?_ (Qjx (T0.more (Kh hF))) rfl λd hR=>?_
  ·simp only[go_sem,Qa,ho,Qg,d0]
  subst hR;refine Qe hb ?_;simp only[go_sem,Qa,ho,Qg,d0];exact⟨[],by simp[never]⟩
 | cons x M=>
  have d0:((L.length:Int)==0)=false:=by simp[hL];omega
  refine Zq Qi 200 func175 rfl ntmps175 results175 rfl λbase w pl F hF Q3 hb=>?_;rw[<- hF]at ho ha;have Qg:=Qc ho;have Zx:=Qc ha;simp only[go_sem,Qa,ho,Qg,ha,Zx];refine Z8 hb QhV rfl ?_ (Qjx (T0.more (Kh hF))) rfl λd hR=>?_
  ·simp only[go_sem,Qa,ho,Qg,d0]
  subst hR;refine Qe hb ?_;simp only[go_sem,Qa,ho,Qg,d0];refine Qe hb ?_;simp only[go_sem,Qa,ho,Qg];refine ZN hb QhW (Qi8 (Kh hF _ _ Ae) (is.more (Kh hF))) λd hR=>?_;subst hR;refine Qe hb ?_;simp only[go_sem,Qa,ho,Qg];refine⟨_,rfl,?_⟩;rw[hl,hL];congr 2;show min (x.ka:Int) 9223372036854775808=((min x.ka never:Nat):Int);simp only[never];omega
end
def Qjy{S}{h}{p}{L:List It}(T:WX S h p L)(id)(vt fit)(hs:L.length<400000):
  QK prog 194 h [.ptr p 0 0 0,Qb id,u64 vt,u64 fit] (λd h'=>WX (more S h) h' p (YX id vt fit L)/\Step S h h'):=by
 have T0:=T;obtain⟨a,m,t,c,es,T⟩:=T;have ho:=T.o;refine Q6 Qi 200 func194 rfl ntmps194 results194 rfl λbase w pl hb=>?_;have Qg:=Qc ho;simp only[go_sem,Qa,ho,Qg];refine Jh hb Qh2 (Qjw T0 id hs) λd h2 hR=>?_;obtain⟨rfl,T2,s2⟩:=hR;obtain⟨a,m,t,c,es,T⟩:=T2;have ho:=T.o;have YB:=T.mo;have ha:=T.av.o;have Qg:=Qc ho;have YC:=Qc YB;have zN:VC id (VC id L)=VC id L:=by unfold VC;rw[List.filter_filter];simp
 obtain⟨c',es',e1,M'⟩:=T.mp.set .i64 c id (.agg (It.mk vt id fit id).cells);have e2:J2 .i64 c es id (.agg [.raw (.int .u64 vt),.raw (.int .i64 id),.raw (.int .u64 fit),.raw (.int .i64 id)])=QS .i64 c' es':=e1;refine Qe hb ?_;simp only[go_sem,Qa,ho,Qg,YB,YC];apply QH hb [0,1,2,3,4,5,1006];simp only[go_sem,Qa,ho,Qg,YB,YC];simp only[e2];apply Va [8] hb [0,1,2,3,4,5,6,7,1008,9] [];simp only[go_sem,Qa,ho,Qg,YB,YC,Qk (Q8 T.pm)];refine xv hb tA (U3 (tl:=a) (t:=t) (L:=VC id L) ((T.av.set _ (Q8 T.am) T.mt).app _) ⟨vt,id,fit,id⟩ (uV L vt id) (by have:=uX id L;omega)) λd h8 hR=>?_;obtain⟨rfl,t'',A8⟩:=hR;apply XF hb;have zx:YX id vt fit (VC id L)=YX id vt fit L:=by unfold YX;rw[zN]
 have hD:=T.done (H:=h2++_) (h8:=h8) (t'':=t'') (Step.app _ h2 _) ((Qx Qg).trans ho) (by simp;omega) (EJ YC).symm T.mt T.pt (λl hl=>.inl (T.st l hl)) M' (by rw[zx];exact A8);rw[zx]at hD;have Jx:=s2.len;exact⟨hD.1.mono λl hl=>hl.elim (λh3=>h3) λh3=>.inr (by omega),s2.trans hD.2⟩
end Go.Fg.X
namespace Go.Fg
open Go.RowKit (Below)
section
variable {P:Program}{L:Jt}{base nt:Nat}{s:St}{o:Oper}
def Qx8{t e:TypeId}{y:Ty}{k:IntKind}(ht:P.underlying t=some (.slice e))(hy:Xf P e y)(hz:y.zero.length=y.size)(hs:0<y.size)(w:World)(n:Nat)
  (vK:n<=4294967296) (qg:y.bytes<=1024) :
  (Instr.makeSlice t (.int k n) (.int k n)).run P w=.ok (.slice (some ⟨w.heap.size,0,none⟩) n n) (w.alloc (.cells (flat n y.size λ_ j=>Zb y.zero j).toArray e)):=by
 obtain⟨z,Ac,jj⟩:=hy.zeroValue;obtain⟨i,hi,zy,zz⟩:=hy.typeInfo w;have JQ:∀w,(typeInfo e).run P w=.ok i w:=λw=>by
  have h4:=hy.info;cases hx:P.info? e with
  | none=>rw[hx]at h4;cases h4
  | some k=>
   simp[typeInfo,hx]at hi ⊢;exact hi
 have hw:IntKind.i64.wrap (n:Int)=n:=by rw[IntKind.wrap_i64];omega
 have uw:¬ (281474976710656<(i.bytes:Int)*(n:Int)):=by
  have hmul:y.bytes*n<=1024*4294967296:=vF qg vK;rw[<- OM,zz];omega
 have UX:¬ ((n:Int)<0):=by omega
 have FZ:z.cells.size=y.size:=by rw[<- hz,<- Ac];simp
 have wh:(flat n y.size λ_ j=>Zb y.zero j).toArray=(Array.range (n*y.size)).map (z.cells[· % z.cells.size]!):=by
  apply Array.ext
  ·simp[ji]
  ·intro j h1 h2;simp only[HC,ji]at h1;obtain⟨d1,d2,d3⟩:=div_lt h1;have UY:y.zero=z.cells.toList:=Ac.symm;have hj:j % y.size<z.cells.size:=by rw[FZ];exact d2
   simp[flat,Zb,UY,Ze,FZ,hj];rw[getElem!_pos z.cells _ hj,kv hj];rfl
 rw[wh];by_cases hn:n=0
 ·subst hn;have Ry:IntKind.i64.wrap 0=0:=rfl;simp[Instr.makeSlice,run_underlying ht,hy.sizeOf,JQ,jj,asInt,asIntOf,newRow,Sem.run,Ry];congr 2;apply Array.ext<;>simp
 ·have CK:¬ (n*y.size=0):=Nat.mul_ne_zero hn (by omega);simp[Instr.makeSlice,run_underlying ht,hy.sizeOf,JQ,jj,asInt,asIntOf,hw,hn,UX,CK,uw,newRow,Sem.run]
def Qx9(hL:Jq P L){t e:TypeId}{x0 x:Operand}{n:Nat}{a b:Nat}{zt:List Value}{y:Ty}{k:IntKind}(ho:o.op=.makeSlice t x x)(hx:Qt s.fr x=.raw (.int k n))
  (ht:ty L t=some ⟨.slice e,a,b,zt⟩) (WO:ty L e=some y) (hz:y.zero.length=y.size) (hs:0<y.size) (vK:n<=4294967296) (qg:y.bytes<=1024) :
  kE P base nt o s (s.h++[⟨.arr,0,y.size,n,λ_=>y.zero.map Kq⟩]) (.ref s.h.length 0 0 n):=by
 intro Z pl ac w r K7;have FY:=r.eval x;rw[hx]at FY;have hv:=JG FY;have hy:=hL _ _ WO;have Zk:pl.length=s.h.length:=r.o.len;have Zl:=Qx8 (k:=k) (xZ (hL _ _ ht) rfl) hy hz hs w n vK qg;have e1:∀b,b<w.heap.size->(w.alloc (.cells (flat n y.size λ_ j=>Zb y.zero j).toArray e)).heap[b]? = w.heap[b]? := λb hb=>xY w _ b hb;have Kb:(w.alloc (.cells (flat n y.size λ_ j=>Zb y.zero j).toArray e)).heap[w.heap.size]? = some (.cells (flat n y.size λ_ j=>Zb y.zero j).toArray e (0,0)):=heap_alloc_new w _;have T:Tr s.h pl w (s.h++[⟨.arr,0,y.size,n,λ_=>y.zero.map Kq⟩]) (pl++[some (w.heap.size,0)]) (w.alloc (.cells (flat n y.size λ_ j=>Zb y.zero j).toArray e)):=Tr.push r.o e1 _ _ (by intro b q h;simp at h;omega);refine⟨.slice (some ⟨w.heap.size,0,none⟩) n n,_,_,.inl ?_,T,Zv.push r.o e1 _ rfl (QB _) K7 Kb (by simp[ji]) (λi hi=>by simp[hz]) (λi j hi hj=>⟨Zb y.zero j,?_,?_⟩),.ref _ _ _ _ ⟨.arr,0,y.size,n,λ_=>y.zero.map Kq⟩ (some (w.heap.size,0)) _ _ (by simp) (by rw[<- Zk];simp) rfl (QB _) (λ_=>.inr ⟨w.heap.size,0,_,_,rfl,by simp,Kb,?_,QB _⟩),FX K7 _,λ_=>e1⟩
 ·simp only[execOp,ho,hv,Zl,Sem.run_bind,Result.andThen_ok,Sem.run_pure]
 ·have hg:=HP (vs:=λ_ j=>Zb y.zero j) hi hj;rw[JV];simpa using hg
 ·have Ws:j<y.zero.length:=by rw[hz];exact hj
  have:nth (y.zero.map Kq) j=Kq (Zb y.zero j):=by simp[nth,Zb,Ze,Ws]
  show QE Z _ _ _ (nth (y.zero.map Kq) j) _;rw[this];exact .cl _ _ (Eh _ _ _)
 ·simp[ji]
end
section
variable {P:Program}{L:Jt}{base nt:Nat}{w0:Start}{Q:Exit->St->Prop}
def Qya(hL:Jq P L)(hb:base<=w0.w.heap.size){k:List Item}{dst:Option Nat}{BM:TypeId}{pos:String}{after:Array Edge}{gd:Option (Nat × Bool)}{r:List (Oper × G)}{s:St}{t e:TypeId}{x:Operand}{n:Nat}{a b:Nat}{zt:List Value}{y:Ty}{ki:IntKind}
  (hx:Qt s.fr x=.raw (.int ki n)) (ht:ty L t=some ⟨.slice e,a,b,zt⟩) (WO:ty L e=some y) (hz:y.zero.length=y.size) (hs:0<y.size) (vK:n<=4294967296) (qg:y.bytes<=1024) (hd:ZQ nt dst=true)
  (h1:QA P base nt w0 Q (.ops r::k) .normal ⟨ZC s.fr dst (.ref s.h.length 0 0 n),s.h++[⟨.arr,0,y.size,n,λ_=>y.zero.map Kq⟩]⟩) :
  QA P base nt w0 Q (.ops ((⟨dst,.makeSlice t x x,BM,pos,after,gd⟩,none)::r)::k) .normal s:=by
 simp only[QA]at h1 ⊢;exact fY hb (Qx9 (x0:=x) hL rfl hx ht WO hz hs vK qg) hd h1
end
end Go.Fg
namespace Go.Fg.X
open Go.Proofs Go.Fg
open Go.Proofs.Tryz
@[go_sem] def aj(a room first n:Nat):Ob:=⟨.one,0,3,1,λ_=>[.ref a 0 0 room,Qb first,Qb n]⟩
structure Qyb (S:Nat->Prop) (h:List Ob) (r a room first:Nat) (row:Nat->List D) (L:List Pk):Prop where
 o:h[r]? = some (aj a room first L.length)
 ao:h[a]? = some ⟨.arr,0,6,room,row⟩
 ra:r≠a
 fl:first<room
 len:L.length<=room
 yG:room<=64
 rows:∀i,i<L.length->row ((first+i) % room)=(L.getD i default).cells
 lens:∀i,i<room->(row i).length=6
 sr:S r
 sa:S a
def wm(S:Nat->Prop)(h:List Ob)(r room:Nat)(L:List Pk):Prop:=∃a first row,Qyb S h r a room first row L
structure ND (h:List Ob) (r a room first:Nat) (row:Nat->List D) (L:List Pk):Prop where
 o:(h.map Ob.ro)[r]? = some (aj a room first L.length).ro
 ao:(h.map Ob.ro)[a]? = some (⟨.arr,0,6,room,row⟩:Ob).ro
 fl:first<room
 len:L.length<=room
 yG:room<=64
 rows:∀i,i<L.length->row ((first+i) % room)=(L.getD i default).cells
def Rz(h:List Ob)(r room:Nat)(L:List Pk):Prop:=∃a first row,ND h r a room first row L
def wm.toR{S}{h}{r room}{L}:wm S h r room L->Rz h r room L:=λ⟨a,f,row,T⟩=>⟨a,f,row,Z3 T.o,Z3 T.ao,T.fl,T.len,T.yG,T.rows⟩
def ND.more{h h':List Ob}{r a room first}{row}{L}(e:∀(l:Nat) (o:Ob),(h.map Ob.ro)[l]? = some o->(h'.map Ob.ro)[l]? = some o)(T:ND h r a room first row L):ND h' r a room first row L:=⟨e _ _ T.o,e _ _ T.ao,T.fl,T.len,T.yG,T.rows⟩
def Rz.more{h h':List Ob}{r room}{L}(e:∀(l:Nat) (o:Ob),(h.map Ob.ro)[l]? = some o->(h'.map Ob.ro)[l]? = some o):Rz h r room L->Rz h' r room L:=λ⟨a,f,row,T⟩=>⟨a,f,row,e _ _ T.o,e _ _ T.ao,T.fl,T.len,T.yG,T.rows⟩
def wm.frame{S}{h h':List Ob}{r room}{L}(e:∀l,S l->l<h.length->h'[l]? = h[l]?):wm S h r room L->wm S h' r room L:=λ⟨a,f,row,T⟩=>
 ⟨a,f,row,(e _ T.sr (Qc T.o)).trans T.o,(e _ T.sa (Qc T.ao)).trans T.ao,T.ra,T.fl,T.len,T.yG,T.rows,T.lens,T.sr,T.sa⟩
def Qjz{h:List Ob}{r a room first n:Nat}{row:Nat->List D}(ho:(h.map Ob.ro)[r]? = some (aj a room first n).ro)(ha:(h.map Ob.ro)[a]? = some (⟨.arr,0,6,room,row⟩:Ob).ro)(wh:first<room)(zN:room<=64)(i:Nat)(hi:i<=64):
  QV prog 207 h [.ptr r 0 0 0,Qb i] (λd=>d=Qb ((first+i) % room:Nat)):=by
 have e1:IntKind.i64.wrap ((first:Int)+i)=((first+i:Nat):Int):=by rw[wrap64 (by omega) (by omega)];omega
 refine Zq Qi 200 func207 rfl ntmps207 results207 rfl λbase w pl F hF Q3 hb=>?_;rw[<- hF]at ho ha;have Qg:=Qc ho;have Zx:=Qc ha;simp only[go_sem,Qa,ho,Qg,ha,Zx];apply QH hb [0,1,2,3,4,5,6,7,8,9,10,11,12];simp only[go_sem,Qa,ho,Qg,ha,Zx,e1];refine⟨by omega,[],by simp,?_⟩;congr 2
section
variable {h:List Ob}{r a room first:Nat}{row:Nat->List D}{L:List Pk}(T:ND h r a room first row L)
include T
theorem QjA(i:Nat)(hi:i<=64):QV prog 207 h [.ptr r 0 0 0,Qb i] (λd=>d=Qb ((first+i) % room:Nat)):=Qjz T.o T.ao T.fl T.yG i hi
theorem QjB:QV prog 244 h [.ptr r 0 0 0] (λd=>d=Qb (room - L.length:Nat)):=by
 obtain⟨ho,ha,wh,Bx,zN,BR⟩:=T;have e1:IntKind.i64.wrap ((room:Int) - L.length)=((room - L.length:Nat):Int):=by rw[wrap64 (by omega) (by omega)];omega
 refine Zq Qi 200 func244 rfl ntmps244 results244 rfl λbase w pl F hF Q3 hb=>?_;rw[<- hF]at ho ha;have Qg:=Qc ho;have Zx:=Qc ha;simp only[go_sem,Qa,ho,Qg,ha,Zx];apply QH hb [0,1,2,3,4,5,6,7,8,9,10];simp only[go_sem,Qa,ho,Qg,ha,Zx,e1];exact⟨[],by simp⟩
theorem Qyc:QV prog 168 h [.ptr r 0 0 0] (λd=>d=Qb L.length):=by
 obtain⟨ho,ha,wh,Bx,zN,BR⟩:=T;refine Zq Qi 200 func168 rfl ntmps168 results168 rfl λbase w pl F hF Q3 hb=>?_;rw[<- hF]at ho ha;have Qg:=Qc ho;have Zx:=Qc ha;simp only[go_sem,Qa,ho,Qg,ha,Zx];exact⟨[],by simp⟩
theorem u9(i)(hi:i<L.length):QV prog 170 h [.ptr r 0 0 0,Qb i] (λd=>d=.tup [.agg (L.getD i default).cells,Qb 0]):=by
 have T0:=T;obtain⟨ho,ha,wh,Bx,zN,BR⟩:=T;have d1:decide ((i:Int)<0)=false:=QN (by omega);have d2:decide (L.length<=i)=false:=QN (by omega);refine Zq Qi 200 func170 rfl ntmps170 results170 rfl λbase w pl F hF Q3 hb=>?_;rw[<- hF]at ho ha;have Qg:=Qc ho;have Zx:=Qc ha;simp only[go_sem,Qa,ho,Qg,ha,Zx,d1,d2];apply QH hb [0,1,2,3,4,5,1006,7,8,1009,10];simp only[go_sem,Qa,ho,Qg,ha,Zx];refine Yh hb tq (QjA (T0.more (II hF)) i (by omega)) λd hR=>?_;subst hR;refine Zr hb ?_;simp only[go_sem,Qa,ho,Qg,ha,Zx];have hm:(first+i) % room<room:=qM _ (by omega);have ZH:=BR i hi;refine⟨hm,hm,?_⟩;simp only[go_sem,Qa,ho,Qg,ha,Zx,ZH];exact⟨_,rfl⟩
end
def Qaa{f i n:Nat}(h1:f<n)(h2:i<=n):(f+i) % n=if f+i<n then f+i else f+i - n:=by
 split
 ·exact Cu ‹_›
 ·rw[Nat.mod_eq_sub_mod (by omega),Cu (by omega)]
def Qyd{S}{h}{r room}{L}(T:wm S h r room L)(x):
  QK prog 192 h [.ptr r 0 0 0,.agg x.cells] (λd h'=>d=Qb (if L.length=room then 5 else 0)/\wm S h' r room (if L.length=room then L else L++[x])/\Step S h h'):=by
 have T0:=T;obtain⟨a,first,row,T⟩:=T;have ho:=T.o;have ha:=T.ao;have Tr:=λg=>(show ND (h++g) r a room first row L from ⟨Z3 ((Qx (Qc T.o)).trans T.o),Z3 ((Qx (Qc T.ao)).trans T.ao),T.fl,T.len,T.yG,T.rows⟩);by_cases hf:L.length=room
 ·have d0:(((room - L.length:Nat):Int)==0)=true:=by simp;omega
  refine Q6 Qi 200 func192 rfl ntmps192 results192 rfl λbase w pl hb=>?_;have Qg:=Qc ho;have Zx:=Qc ha;simp only[go_sem,Qa,ho,Qg,ha,Zx];refine Z8 hb QhZ rfl ?_ (QjB (Tr _)) rfl λd hR=>?_
  ·simp only[go_sem,Qa,ho,Qg,ha,Zx,d0]
  subst hR;refine Qe hb ?_;simp only[go_sem,Qa,ho,Qg,ha,Zx,d0];rw[Qf hf,Qf hf];exact⟨rfl,T0.frame λl h1 h2=>Qx h2,Step.app S h _⟩
 ·have hlen:=T.len;have d0:(((room - L.length:Nat):Int)==0)=false:=by simp;omega
  refine Q6 Qi 200 func192 rfl ntmps192 results192 rfl λbase w pl hb=>?_;have Qg:=Qc ho;have Zx:=Qc ha;simp only[go_sem,Qa,ho,Qg,ha,Zx];refine Z8 hb QhZ rfl ?_ (QjB (Tr _)) rfl λd hR=>?_
  ·simp only[go_sem,Qa,ho,Qg,ha,Zx,d0]
  subst hR;refine Qe hb ?_;simp only[go_sem,Qa,ho,Qg,ha,Zx,d0];apply QH hb [0,1,2,3,4,5,6,7,8,10,1009,11,1012];simp only[go_sem,Qa,ho,Qg,ha,Zx];refine Yh hb tq (QjA (Tr _) L.length (by have:=T.yG;omega)) λd hR=>?_;subst hR;refine Zr hb ?_;simp only[go_sem,Qa,ho,Qg,ha,Zx];have hm:(first+L.length) % room<room:=qM _ (by have:=T.fl;omega);have Zy:(row ((first+L.length) % room)).drop 6=[]:=dY (by rw[T.lens _ hm];exact QB _);refine⟨hm,hm,?_⟩;simp only[go_sem,Qa,ho,Qg,ha,Zx,Zy,Qk (Q8 T.ra)];rw[Qd hf,Qd hf];have NF:=Qc ho;have Xo:=Qc ha;have wh:=T.fl;have zN:=T.yG;have e1:IntKind.i64.wrap ((L.length:Int)+1)=((L.length+1:Nat):Int):=by rw[wrap64 (by omega) (by omega)];omega
  refine⟨rfl,⟨a,first,λk=>bif k==(first+L.length) % room then x.cells else row k,?_,?_,T.ra,T.fl,by simp;omega,zN,?_,?_,T.sr,T.sa⟩,?_,?_⟩
  ·rw[Qx (by simp;exact NF),Wm (by simp;exact NF),e1];simp[aj,Qb]
  ·rw[Qx (by simp;exact Xo),JJ T.ra,Wm Xo];rfl
  ·intro i hi;simp only[Zj,jf]at hi;by_cases h1:i=L.length
   ·subst h1;simp
   ·have JQ:i<L.length:=by omega
    have Qz:((first+i) % room==(first+L.length) % room)=false:=by
     rw[Qaa wh (by omega),Qaa wh (by omega)];simp only[jO];split<;>split<;>omega
    rw[Qz];simp only[Xw,T.rows i JQ,List.getD,JD JQ]
  ·intro i hi;show (bif _ then _ else _:List D).length=6;by_cases h1:(i==(first+L.length) % room)=true
   ·rw[h1];rfl
   ·rw[jK.2 h1];exact T.lens i hi
  ·intro l hl hn;have n1:a≠l:=λe=>hn (e▸T.sa);have n2:r≠l:=λe=>hn (e▸T.sr);rw[Qx (by simp;exact hl),JJ n2,JJ n1]
  ·simp
def Qye{S}{h}{r room}{x}{L}(T:wm S h r room (x::L)):
  QK prog 258 h [.ptr r 0 0 0] (λd h'=>d=.tup [.agg x.cells,Qb 0]/\wm S h' r room L/\Step S h h'):=by
 have T0:=T;obtain⟨a,first,row,T⟩:=T;have ho:=T.o;have ha:=T.ao;have Tr:=λg=>(show ND (h++g) r a room first row (x::L) from ⟨Z3 ((Qx (Qc T.o)).trans T.o),Z3 ((Qx (Qc T.ao)).trans T.ao),T.fl,T.len,T.yG,T.rows⟩);have zN:=T.yG;have wh:=T.fl;have Bx:=T.len;simp only[Vh]at Bx;refine Q6 Qi 200 func258 rfl ntmps258 results258 rfl λbase w pl hb=>?_;have Qg:=Qc ho;have Zx:=Qc ha;simp only[go_sem,Qa,ho,Qg,ha,Zx];refine Z8 hb tf rfl ?_ (u9 (Tr _) 0 (by simp)) rfl λd hR=>?_
 ·simp only[go_sem,Qa,Qa,ho,Qg,ha,Zx]
 subst hR;refine Qe hb ?_;simp only[go_sem,Qa,Qa,ho,Qg,ha,Zx];apply QH hb [0,1,2,3,4,5,6,7,8,9,1010];simp only[go_sem,Qa,ho,Qg,ha,Zx];refine⟨wh,wh,?_⟩;have NF:=Qc ho;have Xo:=Qc ha;have Zy:(row first).drop 6=[]:=dY (by rw[T.lens _ wh];exact QB _);have Bf:∀A B,((h.set a A).set r B)[r]? = some B:=λA B=>Wm (by simp;exact NF);have e2:IntKind.i64.wrap (((L.length+1:Nat):Int) - 1)=(L.length:Int):=by rw[wrap64 (by omega) (by omega)];omega
 have GL:=λA g=>(show ((h.set a A++g).map Ob.ro)[r]? = some (aj a room first (L.length+1)).ro from Z3 ((Qx (by simp;exact NF)).trans ((JJ (Q8 T.ra)).trans ho)));have haN:=λKO g=>(show ((h.set a ⟨.arr,0,6,room,KO⟩++g).map Ob.ro)[a]? = some (⟨.arr,0,6,room,KO⟩:Ob).ro from Z3 ((Qx (by simp;exact Xo)).trans (Wm Xo)));refine Z8 hb tq rfl ?_ (Qjz (GL _ _) (haN _ _) wh zN 1 (by omega)) rfl λd hR=>?_
 ·simp only[go_sem,Qa,Qa,ho,Qg,ha,Zx,Qk (Q8 T.ra),Zy,Bf,e2]
 subst hR;refine Qe hb ?_;simp only[go_sem,Qa,Qa,ho,Qg,ha,Zx,Qk (Q8 T.ra),Zy,Bf,e2];refine⟨⟨a,(first+1) % room,λk=>bif k==first then (default:Pk).cells else row k,?_,?_,T.ra,qM _ (by omega),by omega,zN,?_,?_,T.sr,T.sa⟩,?_,?_⟩
 ·rw[Qx (by simp;exact NF),Wm (by simp;exact NF)];rfl
 ·rw[Qx (by simp;exact Xo),JJ T.ra,Wm Xo];rfl
 ·intro i hi;have e3:((first+1) % room+i) % room=(first+(i+1)) % room:=by rw[Nat.mod_add_mod];congr 1;omega
  have h1:i+1<room:=by omega
  have Qz:((first+(i+1)) % room==first)=false:=by
   rw[Qaa wh (by omega)];simp only[jO];split<;>omega
  rw[e3];simp only[Qz,Xw,T.rows (i+1) (by simp;omega)];simp
 ·intro i hi;show (bif _ then _ else _:List D).length=6;by_cases h1:(i==first)=true
  ·rw[h1];rfl
  ·rw[jK.2 h1];exact T.lens i hi
 ·intro l hl hn;have n1:a≠l:=λe=>hn (e▸T.sa);have n2:r≠l:=λe=>hn (e▸T.sr);rw[Qx (by simp;exact hl),JJ n2,JJ n1]
 ·simp
def Qyg(h:List Ob)(n:Nat)(h1:1<=n)(h2:n<=64):QK prog 191 h [Qb n] (λd h'=>d=.tup [.ptr (h.length+1) 0 0 0,Qb 0]/\wm (λl=>h.length<=l) h' (h.length+1) n []/\∃g,h'=h++g/\g.length=2):=by
 have d1:decide ((n:Int)<1)=false:=QN (by omega);have d2:decide ((64:Int)<n)=false:=QN (by omega);refine Q6 Qi 200 func191 rfl ntmps191 results191 rfl λbase w pl hb=>?_;simp only[go_sem,Qa,d1,d2];refine Qya BE hb rfl rfl rfl rfl (by decide) (by omega) (by decide) rfl ?_;apply Zi hb;simp only[Zj,jf,WC,qJ,zo];refine⟨trivial,⟨h.length,0,λ_=>(default:Pk).cells,Vr rfl,Kx rfl,by omega,by omega,by simp,h2,by simp,λ_ _=>rfl,by show h.length<=_;omega,QB _⟩,_,rfl,rfl⟩
@[go_sem] def num(n:Nat):D:=.agg [u64 (n / 18446744073709551616),u64 (n % 18446744073709551616)]
def Qyh(a b ah al bh bl)(ha:a=ah*4294967296+al)(hb:b=bh*4294967296+bl)(h1:ah<4294967296)(h2:al<4294967296)(h3:bh<4294967296)(h4:bl<4294967296):
  ∃P Q R S:Nat,P=ah*bh/\Q=ah*bl/\R=al*bh/\S=al*bl/\a*b=P*18446744073709551616+(Q+R)*4294967296+S/\P<=18446744065119617025/\Q<=18446744065119617025/\R<=18446744065119617025/\S<=18446744065119617025:=by
 refine⟨_,_,_,_,rfl,rfl,rfl,rfl,?_,?_,?_,?_,?_⟩
 ·subst ha hb;have e:(ah*4294967296+al)*(bh*4294967296+bl)=ah*bh*(4294967296*4294967296)+(ah*bl+al*bh)*4294967296+al*bl:=by
   simp only[VL,Nat.mul_add,OV,Nat.mul_left_comm,TC];omega
  rw[e]
 all_goals (refine KZ (vF (Nat.le_sub_one_of_lt ‹_›) (Nat.le_sub_one_of_lt ‹_›)) (by decide))
def Dv(a b)(ha:a<18446744073709551616)(hb:b<18446744073709551616):Q4 prog 253 [u64 a,u64 b] (Qn (num (a*b))):=by
 refine ZA 0 Qi 200 func253 rfl ntmps253 results253 rfl λbase w hb=>?_;simp only[go_sem,-Nat.reducePow];have e32:(2:Nat) ^ min 32 64=4294967296:=rfl;have i32:(2:Int) ^ min 32 64=((4294967296:Nat):Int):=rfl;obtain⟨P,Q,R,S,hP,hQ,hR,hS,Vo,bP,bQ,bR,bS⟩:=Qyh a b (a / 4294967296) (a % 4294967296) (b / 4294967296) (b % 4294967296) (by omega) (by omega) (by omega) (by omega) (by omega) (by omega);have s32:∀x:Nat,((x:Int)).fdiv ((4294967296:Nat):Int)=((x / 4294967296:Nat):Int):=λx=>by have:=Nu x 32;rwa [show (2:Int) ^ 32=((4294967296:Nat):Int) from rfl,show (2:Nat) ^ 32=4294967296 from rfl]at this
 simp (disch:=omega) only [s32,Qw6,i32,UQ,Nt,<- hP,<- hQ,<- hR,<- hS,Vo];have k2:∀X:Nat,X*4294967296 % 18446744073709551616=X % 4294967296*4294967296:=λX=>by omega
 rw[k2,Qw7 _ _ (by omega) (by omega)];have e1:((P % 18446744073709551616+((Q % 18446744073709551616+S % 18446744073709551616 / 4294967296) % 18446744073709551616) / 4294967296) % 18446744073709551616+((R % 18446744073709551616+((Q % 18446744073709551616+S % 18446744073709551616 / 4294967296) % 18446744073709551616) % 4294967296) % 18446744073709551616) / 4294967296) % 18446744073709551616=(P*18446744073709551616+(Q+R)*4294967296+S) / 18446744073709551616:=by omega
 have e2:((R % 18446744073709551616+((Q % 18446744073709551616+S % 18446744073709551616 / 4294967296) % 18446744073709551616) % 4294967296) % 18446744073709551616) % 4294967296*4294967296+S % 18446744073709551616 % 4294967296=(P*18446744073709551616+(Q+R)*4294967296+S) % 18446744073709551616:=by omega
 rw[e1,e2]
def Qab(a b)(ha:a<2 ^ 128)(hb:b<2 ^ 128):Q4 prog 285 [num a,num b] (Qn (Qb (if a<b then -1 else if a=b then 0 else 1))):=by
 refine ZA 0 Qi 200 func285 rfl ntmps285 results285 rfl λbase w hb=>?_;simp only[go_sem,-Nat.reducePow];refine XS (λh1=>?_) (λh1=>?_)
 ·simp only[go_sem,-Nat.reducePow,h1];have:=Wc h1;rw[Qf (by omega)]
 simp only[go_sem,-Nat.reducePow,h1];have JE:=Ef h1;refine XS (λh2=>?_) (λh2=>?_)
 ·have YQ:a / 18446744073709551616=b / 18446744073709551616:=by have:=eq_of_beq h2;omega
  simp only[go_sem,-Nat.reducePow,h2];refine XS (λh3=>?_) (λh3=>?_)
  ·have:=Wc h3;simp only[go_sem,-Nat.reducePow,h3];rw[Qf (by omega)]
  ·have tY:=Ef h3;simp only[go_sem,-Nat.reducePow,h3];refine XS (λh4=>?_) (λh4=>?_)
   ·simp only[go_sem,-Nat.reducePow,h4];simp only[Z9,vG]at h4;rw[Qd (by omega),Qf (by omega)]
   ·simp only[go_sem,-Nat.reducePow,h4];simp only[Me,jO]at h4;rw[Qd (by omega),Qd (by omega)]
 ·have YQ:=ne_of_beq_false h2;simp only[go_sem,-Nat.reducePow,h2,Mf];rw[Qd (by omega),Qd (by omega)]
def Qyj(a b c u:Nat)(ha:a<18446744073709551616)(hb:b<18446744073709551616)(hc:c<2)(hl:u=(a+18446744073709551616 - b+18446744073709551616 - c) % 18446744073709551616):
  (bits BinOp.or IntKind.u64 (bits BinOp.and IntKind.u64 (bits BinOp.xor IntKind.u64 (if IntKind.u64.signed=true then -1 else IntKind.u64.max) (a:Int)) (b:Int)) (bits BinOp.and IntKind.u64 (bits BinOp.xor IntKind.u64 (if IntKind.u64.signed=true then -1 else IntKind.u64.max) (bits BinOp.xor IntKind.u64 (a:Int) (b:Int))) (u:Int))).fdiv (2 ^ min 63 64)=((if a<b+c then 1 else 0:Nat):Int):=by
 have em:(if IntKind.u64.signed=true then -1 else IntKind.u64.max)=((18446744073709551615:Nat):Int):=by decide
 have hx:a ^^^ b<2 ^ 64:=TE (by omega) (by omega);have Kc:18446744073709551615 ^^^ a<2 ^ 64:=TE (by omega) (by omega);have Xg:18446744073709551615 ^^^ (a ^^^ b)<2 ^ 64:=TE (by omega) (by omega);have NG:(18446744073709551615 ^^^ a) &&& b<2 ^ 64:=eM _ (by omega);have hx4:(18446744073709551615 ^^^ (a ^^^ b)) &&& u<2 ^ 64:=eM _ (by omega);rw[em,u64_xor_nat a b ha hb,u64_xor_nat _ a (by decide) ha,u64_xor_nat _ _ (by decide) (by omega),u64_and_nat _ b (by omega) hb,u64_and_nat _ u (by omega) (by omega),u64_or_nat _ _ (by omega) (by omega),Nu];rw[show (2:Nat) ^ min 63 64=9223372036854775808 from rfl,uh _ _ (by omega) (by omega),lW _ _ (by omega) (by omega),lW _ _ (by omega) (by omega),ui _ _ (by omega) (by omega),ui _ _ (by omega) (by omega),ui _ _ (by omega) (by omega)];rw[Qw8 a b c _ _ _ u _ ha hb hc hl rfl rfl rfl rfl]
def QjC(a b)(c)(ha:a<18446744073709551616)(hb:b<18446744073709551616)(hc:c<2):Q4 prog 329 [u64 a,u64 b,u64 c] (Qn (.tup [u64 ((a+18446744073709551616 - b+18446744073709551616 - c) % 18446744073709551616),u64 (if a<b+c then 1 else 0)])):=by
 refine ZA 0 Qi 200 func329 rfl ntmps329 results329 rfl λbase w hb=>?_;simp only[go_sem,-Nat.reducePow];have h2:IntKind.u64.wrap (IntKind.u64.wrap ((a:Int) - (b:Int)) - (c:Int))=(((a+18446744073709551616 - b+18446744073709551616 - c) % 18446744073709551616:Nat):Int):=by
  rw[ug a b (by omega),ug _ c (by omega)];omega
 rw[h2,Qyj a b c _ ha ‹_› hc rfl]
def Qyl(a b)(ha:a<2 ^ 128)(hb:b<2 ^ 128):Q4 prog 318 [num a,num b] (Qn (.tup [num ((a+2 ^ 128 - b) % 2 ^ 128),QJ (decide (a<b))])):=by
 refine ZA 0 Qi 200 func318 rfl ntmps318 results318 rfl λbase w hb=>?_;simp only[go_sem,-Nat.reducePow];refine ZW hb Qih rfl ?_ (QjC (a % 18446744073709551616) (b % 18446744073709551616) 0 (by omega) (by omega) (by omega)) (Qn.flat rfl) rfl λd h hR=>?_
 ·simp only[go_sem,-Nat.reducePow]
 obtain⟨rfl,rfl⟩:=hR;refine Qe hb ?_;simp only[go_sem,-Nat.reducePow];refine ZW hb Qih rfl ?_ (QjC (a / 18446744073709551616) (b / 18446744073709551616) (if a % 18446744073709551616<b % 18446744073709551616+0 then 1 else 0) (by omega) (by omega) (by split<;>omega)) (Qn.flat rfl) rfl λd h hR=>?_
 ·simp only[go_sem,-Nat.reducePow]
 obtain⟨rfl,rfl⟩:=hR;refine Qe hb ?_;simp only[go_sem,-Nat.reducePow];have e1:∀x:Nat,(((if x=1 then (1:Nat) else 0:Nat):Int) != 0)=decide (x=1):=λx=>by by_cases h:x=1<;>simp[h]
 have e2:(((if a / 18446744073709551616<b / 18446744073709551616+if a % 18446744073709551616<b % 18446744073709551616 then 1 else 0 then 1 else 0:Nat):Int) != 0)=decide (a<b):=by
  by_cases h1:a % 18446744073709551616<b % 18446744073709551616
  ·rw[Qf h1];by_cases h2:a / 18446744073709551616<b / 18446744073709551616+1
   ·rw[Qf h2];simp;omega
   ·rw[Qd h2];simp;omega
  ·rw[Qd h1];by_cases h2:a / 18446744073709551616<b / 18446744073709551616+0
   ·rw[Qf h2];simp;omega
   ·rw[Qd h2];simp;omega
 have e3:(a / 18446744073709551616+18446744073709551616 - b / 18446744073709551616+18446744073709551616 - if a % 18446744073709551616<b % 18446744073709551616 then 1 else 0) % 18446744073709551616=(a+2 ^ 128 - b) % 2 ^ 128 / 18446744073709551616:=by
  split<;>omega
 have e4:(a % 18446744073709551616+18446744073709551616 - b % 18446744073709551616+18446744073709551616 - 0) % 18446744073709551616=(a+2 ^ 128 - b) % 2 ^ 128 % 18446744073709551616:=by omega
 try rw[HF]at e4
 try rw[HF]at e4
 rw[e2,e3,e4]
def Qym(a b c u:Nat)(ha:a<18446744073709551616)(hb:b<18446744073709551616)(hc:c<2)(hl:u=(a+b+c) % 18446744073709551616):
  (bits BinOp.or IntKind.u64 (bits BinOp.and IntKind.u64 (a:Int) (b:Int)) (bits BinOp.andNot IntKind.u64 (bits BinOp.or IntKind.u64 (a:Int) (b:Int)) (u:Int))).fdiv (2 ^ min 63 64)=((if 18446744073709551616<=a+b+c then 1 else 0:Nat):Int):=by
 have hx:a ||| b<2 ^ 64:=Nat.or_lt_two_pow (by omega) (by omega);have NG:a &&& b<2 ^ 64:=eM _ (by omega);have hx4:(a ||| b) &&& (18446744073709551615 - u)<2 ^ 64:=eM _ (by omega);rw[u64_and_nat a b ha hb,u64_or_nat a b ha hb,u64_andNot_nat _ u (by omega) (by omega),u64_or_nat _ _ (by omega) (by omega),Nu];rw[show (2:Nat) ^ min 63 64=9223372036854775808 from rfl,uh _ _ (by omega) (by omega),lW _ _ (by omega) (by omega),lW _ _ (by omega) (by omega),uh _ _ (by omega) (by omega)];rw[show (18446744073709551615 - u) / 9223372036854775808=1 - u / 9223372036854775808 by omega];rw[Qw9 a b c _ _ _ u _ ha hb hc hl rfl rfl rfl rfl]
def QjD(a b)(c)(ha:a<18446744073709551616)(hb:b<18446744073709551616)(hc:c<2):Q4 prog 312 [u64 a,u64 b,u64 c] (Qn (.tup [u64 ((a+b+c) % 18446744073709551616),u64 (if 18446744073709551616<=a+b+c then 1 else 0)])):=by
 refine ZA 0 Qi 200 func312 rfl ntmps312 results312 rfl λbase w hb=>?_;simp only[go_sem,-Nat.reducePow];have h2:IntKind.u64.wrap (IntKind.u64.wrap ((a:Int)+(b:Int))+(c:Int))=(((a+b+c) % 18446744073709551616:Nat):Int):=by
  rw[Nt,Nt];omega
 rw[h2,Qym a b c _ ha ‹_› hc rfl]
def ak(a b)(ha:a<2 ^ 128)(hb:b<2 ^ 128):Q4 prog 293 [num a,num b] (Qn (.tup [num ((a+b) % 2 ^ 128),QJ (decide (2 ^ 128<=a+b))])):=by
 refine ZA 0 Qi 200 func293 rfl ntmps293 results293 rfl λbase w hb=>?_;simp only[go_sem,-Nat.reducePow];refine ZW hb Qie rfl ?_ (QjD (a % 18446744073709551616) (b % 18446744073709551616) 0 (by omega) (by omega) (by omega)) (Qn.flat rfl) rfl λd h hR=>?_
 ·simp only[go_sem,-Nat.reducePow]
 obtain⟨rfl,rfl⟩:=hR;refine Qe hb ?_;simp only[go_sem,-Nat.reducePow];refine ZW hb Qie rfl ?_ (QjD (a / 18446744073709551616) (b / 18446744073709551616) (if 18446744073709551616<=a % 18446744073709551616+b % 18446744073709551616+0 then 1 else 0) (by omega) (by omega) (by split<;>omega)) (Qn.flat rfl) rfl λd h hR=>?_
 ·simp only[go_sem,-Nat.reducePow]
 obtain⟨rfl,rfl⟩:=hR;refine Qe hb ?_;simp only[go_sem,-Nat.reducePow];have e2:(((if 18446744073709551616<=a / 18446744073709551616+b / 18446744073709551616+(if 18446744073709551616<=a % 18446744073709551616+b % 18446744073709551616 then 1 else 0) then 1 else 0:Nat):Int) != 0)=decide (2 ^ 128<=a+b):=by
  by_cases h1:18446744073709551616<=a % 18446744073709551616+b % 18446744073709551616
  ·rw[Qf h1];by_cases h2:18446744073709551616<=a / 18446744073709551616+b / 18446744073709551616+1
   ·rw[Qf h2];simp;omega
   ·rw[Qd h2];simp;omega
  ·rw[Qd h1];by_cases h2:18446744073709551616<=a / 18446744073709551616+b / 18446744073709551616+0
   ·rw[Qf h2];simp;omega
   ·rw[Qd h2];simp;omega
 have e3:(a / 18446744073709551616+b / 18446744073709551616+if 18446744073709551616<=a % 18446744073709551616+b % 18446744073709551616 then 1 else 0) % 18446744073709551616=(a+b) % 2 ^ 128 / 18446744073709551616:=by
  split<;>omega
 have e4:(a % 18446744073709551616+b % 18446744073709551616) % 18446744073709551616=(a+b) % 2 ^ 128 % 18446744073709551616:=by omega
 try rw[HF]at e4
 try rw[HF]at e4
 rw[e2,e3,e4]
def QjE(a)(ha:a<18446744073709551616):Q4 prog 291 [u64 a] (Qn (num a)):=by
 refine ZA 0 Qi 200 func291 rfl ntmps291 results291 rfl λbase w hb=>?_;simp only[go_sem,-Nat.reducePow];have e1:a / 18446744073709551616=0:=by omega
 have e2:a % 18446744073709551616=a:=by omega
 rw[e1,e2];rfl
def W8(x y:Nat)(hx:x<9223372036854775808)(hy:y<2):bits .or .u64 ((x*2:Nat):Int) (y:Int)=((x*2+y:Nat):Int):=by
 rw[u64_or_nat _ _ (by omega) (by omega),nat_join 1 _ _ (by omega) (by omega)]
def Qad(x:Nat):(x:Int).fdiv (2 ^ min 63 64)=((x / 9223372036854775808:Nat):Int):=by
 have:=Nu x 63;rwa [show (2:Int) ^ 63=2 ^ min 63 64 from rfl,show (2:Nat) ^ 63=9223372036854775808 from rfl]at this
def Qae(x:Nat):IntKind.u64.wrap ((x:Int)*2 ^ min 1 64)=((x % 9223372036854775808*2:Nat):Int):=by
 rw[show (2:Int) ^ min 1 64=((2:Nat):Int) from rfl,UQ];omega
def Qaf(r A:Nat)(hA:A<2 ^ 128):bits .or .u64 (IntKind.u64.wrap ((r:Int)*2 ^ min 1 64)) ((A / 18446744073709551616 / 9223372036854775808:Nat):Int)=(((2*r+A / 2 ^ 127) % 18446744073709551616:Nat):Int):=by
 rw[Qae,W8 _ _ (by omega) (by omega)];congr 1;omega
def RC(A)(hA:A<2 ^ 128):bits .or .u64 (IntKind.u64.wrap (((A / 18446744073709551616:Nat):Int)*2 ^ min 1 64)) ((A % 18446744073709551616 / 9223372036854775808:Nat):Int)=(((A*2 % 2 ^ 128) / 18446744073709551616:Nat):Int):=by
 rw[Qae,W8 _ _ (by omega) (by omega)];congr 1;omega
def Qag(A):IntKind.u64.wrap (((A % 18446744073709551616:Nat):Int)*2 ^ min 1 64)=(((A*2 % 2 ^ 128) % 18446744073709551616:Nat):Int):=by
 rw[Qae];congr 1;omega
def mC(x):bits .or .u64 (((x*2 % 2 ^ 128) % 18446744073709551616:Nat):Int) 1=((((x*2+1) % 2 ^ 128) % 18446744073709551616:Nat):Int):=by
 have:=W8 ((x*2 % 2 ^ 128) % 18446744073709551616 / 2) 1 (by omega) (by omega);rw[show (x*2 % 2 ^ 128) % 18446744073709551616 / 2*2=(x*2 % 2 ^ 128) % 18446744073709551616 by omega]at this;rw[show ((1:Nat):Int)=1 from rfl]at this;rw[this];congr 1;omega
def bnT{n:Nat}(h:n≠0):((n:Int) != 0)=true:=by simp[h]
def mD{n:Nat}(h:n=0):((n:Int) != 0)=false:=by simp[h]
def Qyn(a k)(hk:k<128):a / 2 ^ (128 - (k+1))=2*(a / 2 ^ (128 - k))+(a*2 ^ k % 2 ^ 128) / 2 ^ 127:=by
 obtain⟨m,hm⟩:∃m,m=127 - k:=⟨_,rfl⟩;have e1:128 - (k+1)=m:=by omega
 have e2:128 - k=m+1:=by omega
 have e3:(2:Nat) ^ 128=2 ^ (m+1)*2 ^ k:=by rw[<- Nat.pow_add];congr 1;omega
 have e4:(2:Nat) ^ 127=2 ^ m*2 ^ k:=by rw[<- Nat.pow_add];congr 1;omega
 rw[e1,e2,e3,e4,Nat.mul_mod_mul_right,Nat.mul_div_mul_right _ _ (eQ k),Nat.pow_succ];have hM:=eQ m;generalize 2 ^ m=M at *;have h1:=eN a (M*2);have h2:a=M*(2*(a / (M*2)))+a % (M*2):=by rw[<- TC];omega
 conv=>lhs;rw[h2]
 rw[Nat.mul_add_div hM]
def Qyo(a k):a*2 ^ k % 2 ^ 128*2 % 2 ^ 128=a*2 ^ (k+1) % 2 ^ 128:=by
 have:a*2 ^ (k+1)=a*2 ^ k*2:=by rw[Nat.pow_succ,TC]
 rw[this];omega
def Qyp(t b β)(hb:0<b)(hβ:β<2):
  (b<=2*(t % b)+β->(2*t+β) / b=2*(t / b)+1/\(2*t+β) % b=2*(t % b)+β - b)/\(2*(t % b)+β<b->(2*t+β) / b=2*(t / b)/\(2*t+β) % b=2*(t % b)+β):=by
 have h1:=eN t b;have h2:=qM t hb;constructor
 ·intro h;refine(eP hb).2 ⟨?_,by omega⟩;rw[Nat.mul_add,Nat.mul_left_comm];omega
 ·intro h;refine(eP hb).2 ⟨?_,by omega⟩;rw[Nat.mul_left_comm];omega
def dA(a k:Nat):Nat:=a*2 ^ k % 2 ^ 128
def dT(a k:Nat):Nat:=a / 2 ^ (128 - k)
def QjF(a k)(h:a<2 ^ 128):dT a k<2 ^ 128:=TB (eO _ _) h
def IU(a k):dA a k<2 ^ 128:=qM _ (by decide)
def QjG(a b)(ha:a<2 ^ 128)(hb:b<18446744073709551616):Q4 prog 330 [num a,u64 b] (Qn (.tup [num (if b=0 then 0 else a / b),u64 (if b=0 then 0 else a % b),Qb (if b=0 then 1 else 0)])):=by
 refine ZA 0 Qi 200 func330 rfl ntmps330 results330 rfl λbase w hb=>?_;simp only[go_sem,-Nat.reducePow];by_cases ZG:b=0
 ·subst ZG;simp only[go_sem,-Nat.reducePow,K6];try rfl
 have hbz:=tO ZG;simp only[go_sem,-Nat.reducePow,hbz];have i1:dA a 0=a:=by show a*2 ^ 0 % 2 ^ 128=a;rw[Nat.pow_zero,Nat.mul_one];exact Cu ha
 have i2:dT a 0=0:=Nat.div_eq_of_lt ha;refine BB (G:=Nat) [1,2,4,7] (λk=>True) (λk γ=>[(8,u64 (dT a k % b)),(13,Qb k)]) (λk γ=>[⟨.one,0,2,1,λ_=>[u64 (dA a k / 18446744073709551616),u64 (dA a k % 18446744073709551616)]⟩,⟨.one,0,2,1,λ_=>[u64 0,u64 0]⟩,⟨.one,0,2,1,λ_=>[u64 (dT a k / b / 18446744073709551616),u64 (dT a k / b % 18446744073709551616)]⟩]) (128) (0) rfl (Qp.to 3 (by (simp only[go_sem,-Nat.reducePow,i1,i2,Nat.zero_div,Nat.zero_mod])<;>simp)) trivial ?_;intro k γ hk _;replace hk:k<=128:=hk;refine Qe hb ?_;simp only[go_sem,-Nat.reducePow];have QT:=JX (show k<4611686018427387904 by omega);first|refine YU hk (λQj=>?_) (λQj=>?_)|refine qu hk (λQj=>?_) (λQj=>?_)
 ·replace Qj:k<128:=Qj;have Qc:decide ((k:Int)<128)=true:=by simp;omega
  have KL:0<b:=by omega
  have t1:dT a (k+1)=2*dT a k+dA a k / 2 ^ 127:=Qyn a k Qj;have t2:dA a k*2 % 2 ^ 128=dA a (k+1):=Qyo a k;have t3:=Qyp (dT a k) b (dA a k / 2 ^ 127) KL (by have:=IU a k;omega);have t4:=qM (dT a k) KL;have t5:=IU a k;have t6:=QjF a (k+1) ha;rw[<- t1]at t3;have t7:dT a (k+1) / b<2 ^ 128:=TB (eO _ _) t6;have t8:dT a k / b<2 ^ 128:=TB (eO _ _) (QjF a k ha);by_cases XP:b<=2*(dT a k % b)+dA a k / 2 ^ 127
  ·obtain⟨q1,q2⟩:=t3.1 XP;have e1:IntKind.u64.wrap ((((2*(dT a k % b)+dA a k / 2 ^ 127) % 18446744073709551616:Nat):Int) - (b:Int))=((dT a (k+1) % b:Nat):Int):=by
    rw[ug _ b (by omega),q2];congr 1;omega
   have e2:dT a k / b*2 % 2 ^ 128=dT a k / b*2:=by omega
   have e3:((dT a k / b*2+1) % 2 ^ 128)=dT a (k+1) / b:=by omega
   have e4:dT a k / b*2 % 2 ^ 128 / 18446744073709551616=dT a (k+1) / b / 18446744073709551616:=by omega
   by_cases ho:dT a k % b / 9223372036854775808=0
   ·have Qai:decide (b<=(2*(dT a k % b)+dA a k / 2 ^ 127) % 18446744073709551616)=true:=by simp;omega
    have an:((((dT a k % b / 9223372036854775808:Nat)):Int) != 0)=false:=mD ho;simp only[go_sem,-Nat.reducePow,Qc,Qaf _ _ (IU a k),RC _ (IU a k),RC _ t8,Qag,Qad,an,Qai,e1,t2,mC,e3,e4];repeat (refine And.intro (by first|assumption|omega) ?_)
    refine⟨_,Qp.to 3 (by (simp only[go_sem,-Nat.reducePow,QT,e1,t2,mC,e3,e4])<;>simp),VG.mk (γ) (trivial)⟩
   ·have an:((((dT a k % b / 9223372036854775808:Nat)):Int) != 0)=true:=bnT ho;simp only[go_sem,-Nat.reducePow,Qc,Qaf _ _ (IU a k),RC _ (IU a k),RC _ t8,Qag,Qad,an,e1,t2,mC,e3,e4];repeat (refine And.intro (by first|assumption|omega) ?_)
    refine⟨_,Qp.to 3 (by (simp only[go_sem,-Nat.reducePow,QT,e1,t2,mC,e3,e4])<;>simp),VG.mk (γ) (trivial)⟩
  ·obtain⟨q1,q2⟩:=t3.2 (by omega);have e1:(2*(dT a k % b)+dA a k / 2 ^ 127) % 18446744073709551616=dT a (k+1) % b:=by omega
   have e3:dT a k / b*2 % 2 ^ 128=dT a (k+1) / b:=by omega
   have ho:dT a k % b / 9223372036854775808=0:=by omega
   have Qai:decide (b<=dT a (k+1) % b)=false:=by simp;omega
   have an:=mD ho;simp only[go_sem,-Nat.reducePow,Qc,Qaf _ _ (IU a k),RC _ (IU a k),RC _ t8,Qag,Qad,an,e1,Qai,t2,e3];repeat (refine And.intro (by first|assumption|omega) ?_)
   refine⟨_,Qp.to 3 (by (simp only[go_sem,-Nat.reducePow,QT,e1,t2,e3])<;>simp),VG.mk (γ) (trivial)⟩
 ·have Qc:decide ((k:Int)<128)=false:=by rw[Qj];rfl
  have e1:dT a k=a:=by rw[Qj];show a / 2 ^ 0=a;rw[Nat.pow_zero,Nat.div_one]
  simp only[go_sem,-Nat.reducePow,Qc,e1];refine Qe hb ?_;simp only[go_sem,-Nat.reducePow];rw[Qd ZG,Qd ZG,Qd ZG]
def d0(n:Nat):Nat:=n % 4294967296
def d1(n:Nat):Nat:=n / 4294967296 % 4294967296
def d2(n:Nat):Nat:=n / 18446744073709551616 % 4294967296
def d3(n:Nat):Nat:=n / 79228162514264337593543950336 % 4294967296
@[go_sem] def dg(n:Nat):D:=.agg [u64 (d0 n),u64 (d1 n),u64 (d2 n),u64 (d3 n)]
theorem mE:((1:Nat):Int)=1:=rfl
def cdiv(n d:Nat):Nat:=(n+d - 1) / d
def Qyr(n d)(hd:0<d):cdiv n d=if n % d=0 then n / d else n / d+1:=by
 unfold cdiv;have h1:=eN n d;have h2:=qM n hd;split
 ·rename_i h;have:(n+d - 1) / d=n / d/\(n+d - 1) % d=d - 1:=(eP hd).2 ⟨by omega,by omega⟩;exact this.1
 ·have:(n+d - 1) / d=n / d+1/\(n+d - 1) % d=n % d - 1:=(eP hd).2 ⟨by rw[Nat.mul_add];omega,by omega⟩;exact this.1
@[go_sem] def QK5(v e:Int):D:=.agg [.raw (.int .u64 v),.raw (.int .i64 e)]
def Qys(n d)(hn:n<2 ^ 128)(hd:0<d)(h:¬ n % d=0):n / d+1<2 ^ 128:=by
 have h2:2<=d:=by
  rcases Bb d 2 with h3|h3
  ·have:d=1:=by omega
   subst this;omega
  ·exact h3
 have:=Nat.div_le_div_left (c:=2) (b:=d) (a:=n) h2 (by decide);omega
theorem QjH:((65536:Nat):Int)=65536:=rfl
def aq(n:Nat):Nat:=if n<18446744073709551616 then n else 0
def RD(n:Nat):Int:=if n<18446744073709551616 then 0 else 20
def QjI(n)(hn:n<2 ^ 128):Q4 prog 331 [num n] (Qn (.tup [u64 (aq n),Qb (RD n)])):=by
 refine ZA 0 Qi 200 func331 rfl ntmps331 results331 rfl λbase w hb=>?_;simp only[go_sem,-Nat.reducePow];by_cases h:n<18446744073709551616
 ·have e1:((((n / 18446744073709551616:Nat)):Int) != 0)=false:=mD (by omega);have e2:aq n=n:=Qf h;have e3:RD n=0:=Qf h;simp only[go_sem,-Nat.reducePow,e1,e2,e3];rw[Cu h]
 ·have e1:((((n / 18446744073709551616:Nat)):Int) != 0)=true:=bnT (by omega);have e2:aq n=0:=Qd h;have e3:RD n=20:=Qd h;simp only[go_sem,-Nat.reducePow,e1,e2,e3]
def Qyt(n d)(hn:n<2 ^ 128)(hd:d<18446744073709551616)(IQ:0<d):Q4 prog 319 [num n,u64 d] (Qn (.tup [u64 (aq (cdiv n d)),Qb (RD (cdiv n d))])):=by
 have hc:=Qyr n d IQ;have hdz:d≠0:=by omega
 have hle:=eO n d;refine ZA 0 Qi 200 func319 rfl ntmps319 results319 rfl λbase w hb=>?_;simp only[go_sem,-Nat.reducePow];refine ZW hb Qii rfl ?_ (QjG n d hn hd) (Qn.flat rfl) rfl λd h hR=>?_
 ·simp only[go_sem,-Nat.reducePow,hdz,jP]
 obtain⟨rfl,rfl⟩:=hR;refine Qe hb ?_;simp only[go_sem,-Nat.reducePow,hdz,jP];by_cases h:n % d=0
 ·rw[Qf h]at hc;have e1:=mD h;simp only[go_sem,-Nat.reducePow,e1];refine ZW hb Qij rfl ?_ (QjI (n / d) (by omega)) (Qn.flat rfl) rfl λd h hR=>?_
  ·simp only[go_sem,-Nat.reducePow,hc]
  obtain⟨rfl,rfl⟩:=hR;refine Qe hb ?_;simp only[go_sem,-Nat.reducePow,hc]
 ·rw[Qd h]at hc;have Bi:=Qys n d hn IQ h;have e1:=bnT h;simp only[go_sem,-Nat.reducePow,e1];apply QH hb [0,1001,1002,3,4,5,1006];simp only[go_sem,-Nat.reducePow];refine Vj hb Qh9 rfl ?_ (QjE 1 (by decide)) (Qn.flat rfl) rfl λd h hR=>?_
  ·simp only[go_sem,-Nat.reducePow,mE]
  obtain⟨rfl,rfl⟩:=hR;refine Zr hb ?_;simp only[go_sem,-Nat.reducePow,mE];refine Vj hb UF rfl ?_ (ak (n / d) 1 (by omega) (by decide)) (Qn.flat rfl) rfl λd h hR=>?_
  ·simp only[go_sem,-Nat.reducePow,mE]
  obtain⟨rfl,rfl⟩:=hR;refine Zr hb ?_;simp only[go_sem,-Nat.reducePow,mE];have e2:(n / d+1) % 2 ^ 128=cdiv n d:=by omega
  simp only[go_sem,-Nat.reducePow,e2];refine ZW hb Qij rfl ?_ (QjI (cdiv n d) (by omega)) (Qn.flat rfl) rfl λd h hR=>?_
  ·simp only[go_sem,-Nat.reducePow]
  obtain⟨rfl,rfl⟩:=hR;refine Qe hb ?_;simp only[go_sem,-Nat.reducePow]
def VY(a d b:Nat):Int:=if 4294967295<a\/4294967295<b\/1048576<d then 0 else if a=0/\b=0/\d=0 then 1 else if d=0/\a=b then 2 else if d=0 then 0 else if b<a then 3 else if a=0/\0<b then 4 else 0
@[go_sem] def W0(a d b:Nat):D:=.agg [u64 a,u64 d,u64 b]
def ar(a d b):Q4 prog 142 [W0 a d b] (Qn (Qb (VY a d b))):=by
 refine ZA 0 Qi 200 func142 rfl ntmps142 results142 rfl λbase w hb=>?_;simp only[go_sem,-Nat.reducePow]
 repeat' (first|((first|refine zE (λh=>?_) (λh=>?_)|refine zF (λh=>?_) (λh=>?_)|refine zG (λh=>?_) (λh=>?_)|refine XS (λh=>?_) (λh=>?_)|refine zH (λh=>?_) (λh=>?_)|refine zI (λh=>?_) (λh=>?_)|refine zJ (λh=>?_) (λh=>?_)|refine zD (λh=>?_) (λh=>?_))<;>(try simp only[go_sem,-Nat.reducePow]))|(refine And.intro (by omega) ?_;try simp only[go_sem,-Nat.reducePow]))
 all_goals (congr 2;(try simp only[Z9,Me,Cr,Hy,vG,jO,bne_iff_ne,bne_eq_false_iff_eq,XM,TG,ne_eq]at *);(try unfold VY);(repeat' split)<;>omega)
def Qyu(a d b):VY a d b=0\/VY a d b=1\/VY a d b=2\/VY a d b=3\/VY a d b=4:=by unfold VY;(repeat' split)<;>simp
def Qak{a d b}(h:VY a d b≠0):a<=4294967295/\b<=4294967295/\d<=1048576:=by unfold VY at h;split at h<;>omega
def Qal(a d b):Q4 prog 141 [W0 a d b] (Qn (QJ (VY a d b != 0))):=by
 refine ZA 0 Qi 200 func141 rfl ntmps141 results141 rfl λbase w hb=>?_;simp only[go_sem,-Nat.reducePow];refine ZW hb Gn rfl ?_ (ar a d b) (Qn.flat rfl) rfl λd h hR=>?_
 ·simp only[go_sem,-Nat.reducePow]
 obtain⟨rfl,rfl⟩:=hR;refine Qe hb ?_;simp only[go_sem,-Nat.reducePow]
def yH(a d b t:Nat):Nat:=if VY a d b=0 then 0 else a*min t d+b*(t - min t d)
def Qyv(a d b t)(ht:t<18446744073709551616):yH a d b t<2 ^ 97:=by
 unfold yH;split
 ·decide
 ·rename_i h;obtain⟨h1,h2,h3⟩:=Qak h;have e1:a*min t d<=4294967295*1048576:=vF h1 (by omega);have e2:b*(t - min t d)<=4294967295*18446744073709551615:=vF h2 (by omega);exact TB (Nat.add_le_add e1 e2) (by decide)
def IV(a b:Nat):(min (a:Int) (b:Int))=((min a b:Nat):Int):=by omega
def Qyw(a d b t)(ht:t<18446744073709551616):Q4 prog 289 [W0 a d b,u64 t] (Qn (num (yH a d b t))):=by
 refine ZA 0 Qi 200 func289 rfl ntmps289 results289 rfl λbase w hb=>?_;simp only[go_sem,-Nat.reducePow];refine ZW hb PY rfl ?_ (Qal a d b) (Qn.flat rfl) rfl λd h hR=>?_
 ·simp only[go_sem,-Nat.reducePow]
 obtain⟨rfl,rfl⟩:=hR;refine Qe hb ?_;simp only[go_sem,-Nat.reducePow];by_cases h:VY a d b=0
 ·have e1:yH a d b t=0:=Qf h;have e2:(VY a d b != 0)=false:=by simp[h]
  simp only[go_sem,-Nat.reducePow,e1,e2]
 ·have e1:yH a d b t=a*min t d+b*(t - min t d):=Qd h;have e2:(VY a d b != 0)=true:=by simp[h]
  obtain⟨h1,h2,h3⟩:=Qak h;have e3:=lV t (min t d) (by omega) ht;have b1:a*min t d<=4294967295*1048576:=vF h1 (by omega);have b2:b*(t - min t d)<=4294967295*18446744073709551615:=vF h2 (by omega);simp only[go_sem,-Nat.reducePow,e1,e2,IV,e3];apply QH hb [0,1,2,4,5,6,7,8,1003,1009,1010,11,12,13,1014,1015,16];simp only[go_sem,-Nat.reducePow,IV,e3];refine Vj hb Db rfl ?_ (Dv a (min t d) (by omega) (by omega)) (Qn.flat rfl) rfl λd h hR=>?_
  ·simp only[go_sem,-Nat.reducePow,IV,e3]
  obtain⟨rfl,rfl⟩:=hR;refine Zr hb ?_;simp only[go_sem,-Nat.reducePow,IV,e3];refine Vj hb Db rfl ?_ (Dv b (t - min t d) (by omega) (by omega)) (Qn.flat rfl) rfl λd h hR=>?_
  ·simp only[go_sem,-Nat.reducePow,IV,e3]
  obtain⟨rfl,rfl⟩:=hR;refine Zr hb ?_;simp only[go_sem,-Nat.reducePow,IV,e3];refine Vj hb UF rfl ?_ (ak (a*min t d) (b*(t - min t d)) (by omega) (by omega)) (Qn.flat rfl) rfl λd h hR=>?_
  ·simp only[go_sem,-Nat.reducePow,IV,e3]
  obtain⟨rfl,rfl⟩:=hR;refine Zr hb ?_;simp only[go_sem,-Nat.reducePow,IV,e3];rw[Cu (by omega)]
structure Ln where
 x:Nat
 y:Nat
 m:Nat
deriving DecidableEq
instance:Inhabited Ln:=⟨⟨0,0,0⟩⟩
structure Ln.Ok (l:Ln):Prop where
 x:l.x<18446744073709551616
 y:l.y<2 ^ 128
 m:l.m<18446744073709551616
@[go_sem] def Ln.cells(l:Ln):List D:=[u64 l.x,u64 (l.y / 18446744073709551616),u64 (l.y % 18446744073709551616),u64 l.m]
def wo(l:Ln)(x:Nat):Nat:=if x<=l.x then l.y else (l.y+l.m*(x - l.x)) % 2 ^ 128
def QjK{a b}(ha:a<18446744073709551616)(hb:b<18446744073709551616):a*b<2 ^ 128:=by
 have:a*b<=18446744073709551615*18446744073709551615:=vF (by omega) (by omega);exact TB this (by decide)
def QjL{l:Ln}(h:l.Ok)(x):wo l x<2 ^ 128:=by
 unfold wo;split
 ·exact h.y
 ·exact qM _ (by decide)
def QjM(l:Ln)(h:l.Ok)(x)(hx:x<18446744073709551616):Q4 prog 311 [.agg l.cells,u64 x] (Qn (num (wo l x))):=by
 unfold wo;refine ZA 0 Qi 200 func311 rfl ntmps311 results311 rfl λbase w hb=>?_;simp only[go_sem];by_cases h1:x<=l.x
 ·have d1:=Q5 h1;simp only[go_sem,d1,Qf h1]
 ·have d1:=QN h1;have e1:=lV x l.x (by omega) hx;simp only[go_sem,d1,Qd h1];apply QH hb [0,1,2,3,4,5,6,7,1008,1009,10,11,12,1013,1014,15];simp only[go_sem,e1];refine Vj hb Db rfl ?_ (Dv l.m (x - l.x) h.m (by omega)) (Qn.flat rfl) rfl λd h hR=>?_
  ·simp only[go_sem,e1]
  obtain⟨rfl,rfl⟩:=hR;refine Zr hb ?_;simp only[go_sem,e1];refine VX hb UF (ak l.y (l.m*(x - l.x)) h.y (QjK h.m (by omega))) (Qn.flat rfl) λd h hR=>?_;obtain⟨rfl,rfl⟩:=hR;exact Ro hb
def Dw(l:Ln)(w:Nat):Nat:=
 if w<=l.y then 0
 else if l.m=0\/18446744073709551616<=cdiv (w - l.y) l.m\/never<=l.x\/never - l.x<=cdiv (w - l.y) l.m then never
 else l.x+cdiv (w - l.y) l.m
def QjN(l)(w):Dw l w<=never:=by
 unfold Dw;split<;>try split
 ·exact Z7 _
 ·exact QB _
 ·omega
def Qyx(n)(hn:n<2 ^ 128):Q4 prog 319 [num n,u64 0] (Qn (.tup [u64 0,Qb 1])):=by
 refine ZA 0 Qi 200 func319 rfl ntmps319 results319 rfl λbase w hb=>?_;simp only[go_sem];refine ZW hb Qii rfl ?_ (QjG n 0 hn (by decide)) (Qn.flat rfl) rfl λd h hR=>?_
 ·simp only[go_sem,K6]
 obtain⟨rfl,rfl⟩:=hR;refine Qe hb ?_;simp only[go_sem,K6]
def QjO{a b:Nat}:((if a<b then (-1:Int) else if a=b then 0 else 1)<=0)↔a<=b:=by
 split
 ·omega
 ·split<;>omega
def Qyy{a b:Nat}:((if a<b then (-1:Int) else if a=b then 0 else 1)<0)↔a<b:=by
 split
 ·omega
 ·split<;>omega
def QjP{a b}(ha:a<2 ^ 128)(h:b<=a):(a+2 ^ 128 - b) % 2 ^ 128=a - b:=by
 rw[show a+2 ^ 128 - b=a - b+2 ^ 128 by omega,Nat.add_mod_right,Cu (by omega)]
def mF(l:Ln)(h:l.Ok)(v)(hv:v<2 ^ 128):Q4 prog 302 [.agg l.cells,num v] (Qn (u64 (Dw l v))):=by
 unfold Dw;refine ZA 0 Qi 200 func302 rfl ntmps302 results302 rfl λbase w hb=>?_;simp only[go_sem];refine Wu hb tC (Qab v l.y hv h.y) (Qn.flat rfl) λd h hR=>?_;obtain⟨rfl,rfl⟩:=hR;apply Zi hb;by_cases h1:v<=l.y
 ·have d1:=Q5 (QjO.2 h1);simp only[go_sem,d1,Qf h1]
 ·have d1:=QN (λh2=>h1 (QjO.1 h2));rw[Qd h1];simp only[go_sem,d1];refine ZW hb Qwe rfl ?_ (Qyl v l.y hv h.y) (Qn.flat rfl) rfl λd h hR=>?_
  ·simp only[go_sem,QjP hv (show l.y<=v by omega)]
  obtain⟨rfl,rfl⟩:=hR;refine Qe hb ?_;simp only[go_sem,QjP hv (show l.y<=v by omega)];by_cases h2:l.m=0
  ·rw[Qf (.inl h2)];refine ZW hb Qig rfl ?_ (Qyx (v - l.y) (by omega)) (Qn.flat rfl) rfl λd h hR=>?_
   ·simp only[go_sem,h2]
   obtain⟨rfl,rfl⟩:=hR;refine Qe hb ?_;simp only[go_sem,h2];rfl
  ·refine Wu hb Qig (Qyt (v - l.y) l.m (by omega) h.m (by omega)) (Qn.flat rfl) λd h hR=>?_;obtain⟨rfl,rfl⟩:=hR;apply Zi hb;by_cases h3:cdiv (v - l.y) l.m<18446744073709551616
   ·have e1:RD (cdiv (v - l.y) l.m)=0:=Qf h3;have e2:aq (cdiv (v - l.y) l.m)=cdiv (v - l.y) l.m:=Qf h3;by_cases h4:never<=l.x
    ·have d4:decide ((9223372036854775808:Int)<=(l.x:Int))=true:=Q5 (by unfold never at h4;omega);rw[Qf (.inr (.inr (.inl h4)))];simp only[go_sem,e1,e2,d4];rfl
    ·have d4:decide ((9223372036854775808:Int)<=(l.x:Int))=false:=QN (by unfold never at h4;omega);have e5:IntKind.u64.wrap ((9223372036854775808:Int) - (l.x:Int))=((never - l.x:Nat):Int):=by
      have:=lV 9223372036854775808 l.x (by unfold never at h4;omega) (by decide);exact this
     by_cases h5:never - l.x<=cdiv (v - l.y) l.m
     ·have d5:=Q5 h5;rw[Qf (.inr (.inr (.inr h5)))];simp only[go_sem,e1,e2,d4,e5,d5];rfl
     ·have d5:=QN h5;have e6:=QiM l.x (cdiv (v - l.y) l.m) (by unfold never at h5;omega);rw[Qd (by rintro (h6|h6|h6|h6);exact h2 h6;omega;exact h4 h6;exact h5 h6)];simp only[go_sem,e1,e2,d4,e5,d5,e6]
   ·have e1:RD (cdiv (v - l.y) l.m)=20:=Qd h3;rw[Qf (.inr (.inl (by omega)))];simp only[go_sem,e1];rfl
def GM(a b:Ln):Ln:=if wo b (max a.x b.x)<wo a (max a.x b.x) then b else a
def QjQ{a b:Ln}(ha:a.Ok)(hb:b.Ok):(GM a b).Ok:=by unfold GM;split<;>assumption
def IW(a b:Nat):(max (a:Int) (b:Int))=((max a b:Nat):Int):=by omega
def QjR(a b:Ln)(ha:a.Ok)(Jb:b.Ok):Q4 prog 292 [.agg a.cells,.agg b.cells] (Qn (.agg (GM a b).cells)):=by
 have hx:max a.x b.x<18446744073709551616:=by have:=ha.x;have:=Jb.x;omega
 unfold GM;obtain⟨k,hk⟩:∃k,k=(if wo b (max a.x b.x)<wo a (max a.x b.x) then (-1:Int) else if wo b (max a.x b.x)=wo a (max a.x b.x) then 0 else 1):=⟨_,rfl⟩;have Eu:k<0↔wo b (max a.x b.x)<wo a (max a.x b.x):=by rw[hk];exact Qyy
 refine ZA 0 Qi 200 func292 rfl ntmps292 results292 rfl λbase w hb=>?_;simp only[go_sem];simp only[go_sem,IW];apply QH hb [0,1,3,4,1002,1005,1006,7];simp only[go_sem,IW];refine Vj hb Qid rfl ?_ (QjM b Jb (max a.x b.x) hx) (Qn.flat rfl) rfl λd h hR=>?_
 ·simp only[go_sem,IW]
 obtain⟨rfl,rfl⟩:=hR;refine Zr hb ?_;simp only[go_sem,IW];refine Vj hb Qid rfl ?_ (QjM a ha (max a.x b.x) hx) (Qn.flat rfl) rfl λd h hR=>?_
 ·simp only[go_sem,IW]
 obtain⟨rfl,rfl⟩:=hR;refine Zr hb ?_;simp only[go_sem,IW];refine Vj hb tC rfl ?_ (hk▸Qab (wo b (max a.x b.x)) (wo a (max a.x b.x)) (QjL Jb _) (QjL ha _)) (Qn.flat rfl) rfl λd h hR=>?_
 ·simp only[go_sem,IW]
 obtain⟨rfl,rfl⟩:=hR;refine Zr hb ?_;simp only[go_sem,IW];by_cases h1:wo b (max a.x b.x)<wo a (max a.x b.x)
 ·have d1:=Q5 (Eu.2 h1);simp only[go_sem,d1,Qf h1]
 ·have d1:=QN (λh2=>h1 (Eu.1 h2));rw[Qd h1];simp only[go_sem,d1]
structure Rn where
 f:Ln
 t:Ln
 b:Bool
deriving DecidableEq
instance:Inhabited Rn:=⟨⟨default,default,false⟩⟩
structure Rn.Ok (r:Rn):Prop where
 f:r.f.Ok
 t:r.t.Ok
@[go_sem] def Rn.cells(r:Rn):List D:=[u64 r.f.x,u64 (r.f.y / 18446744073709551616),u64 (r.f.y % 18446744073709551616),u64 r.f.m,u64 r.t.x,u64 (r.t.y / 18446744073709551616),u64 (r.t.y % 18446744073709551616),u64 r.t.m,QJ r.b]
def Qyz(n:Nat)(h:n<18446744073709551616):IntKind.u64.wrap (n:Int)=(n:Int):=by rw[IntKind.wrap_u64];omega
@[go_sem] def cfg(t l:Int):D:=.agg [.raw (.int .i64 t),.raw (.int .i64 l)]
def QyA(n t:Nat)(hn:n<2 ^ 128)(ht:t<=65536)(vR:n*t<2 ^ 128):Q4 prog 286 [num n,Qb t] (Qn (num (n*t))):=by
 obtain⟨hi,lo,Zm,rfl⟩:∃hi lo,lo<18446744073709551616/\n=hi*18446744073709551616+lo:=⟨n / 18446744073709551616,n % 18446744073709551616,qM _ (by decide),by omega⟩;have hh:hi<18446744073709551616:=by omega
 have e1:(hi*18446744073709551616+lo) / 18446744073709551616=hi:=by omega
 have e2:(hi*18446744073709551616+lo) % 18446744073709551616=lo:=by omega
 obtain⟨A,hA⟩:∃A,A=lo*t:=⟨_,rfl⟩;obtain⟨B,hB⟩:∃B,B=hi*t:=⟨_,rfl⟩;have e3:(hi*18446744073709551616+lo)*t=B*18446744073709551616+A:=by rw[hA,hB,VL,TC,OV 18446744073709551616 t,<- TC]
 rw[e3]at vR;rw[e3];have hm:=Dv lo t Zm (by omega);rw[<- hA]at hm;have w1:=Qyz t (by omega);have w2:=Qw5 hi t (by rw[<- hB];omega);rw[<- hB]at w2;have w3:=QiM (A / 18446744073709551616) B (by omega);have r1:(B*18446744073709551616+A) / 18446744073709551616=A / 18446744073709551616+B:=by rw[Nat.add_comm,Nat.add_mul_div_right _ _ (by decide)]
 have r2:(B*18446744073709551616+A) % 18446744073709551616=A % 18446744073709551616:=by rw[Nat.add_comm,Nat.add_mul_mod_self_right]
 refine ZA 0 Qi 200 func286 rfl ntmps286 results286 rfl λbase w hb=>?_;simp only[go_sem];simp only[e1,e2,w1,go_sem];refine ZW hb Db rfl ?_ hm (Qn.flat rfl) rfl λd h hR=>?_
 ·simp only[go_sem,w1,w2,w3]
 obtain⟨rfl,rfl⟩:=hR;refine Qe hb ?_;simp only[go_sem,w1,w2,w3];simp only[e1,e2,w1,w2,w3,go_sem,r1,r2]
def QjS(n t k:Nat)(hn:n<2 ^ 111)(ht:t<=65536)(hk:k<18446744073709551616):Q4 prog 241 [num n,Qb t,u64 k] (Qn (QJ (decide (65536*k<n*t)))):=by
 have h1:n*t<=n*65536:=Nat.mul_le_mul_left n ht;have hc:=Qab (n*t) (65536*k) (by omega) (by omega);have e:decide ((if n*t<65536*k then (-1:Int) else if n*t=65536*k then 0 else 1) > 0)=decide (65536*k<n*t):=by
  rw[kx];simp only[XM];(repeat' split)<;>omega
 have hm:=Dv 65536 k (by decide) hk;refine ZA 0 Qi 200 func241 rfl ntmps241 results241 rfl λbase w hb=>?_;simp only[go_sem];refine Wu hb Qv6 (QyA n t (by omega) ht (by omega)) (Qn.flat rfl) λd h hR=>?_;obtain⟨rfl,rfl⟩:=hR;apply Zi hb;refine ZW hb Db rfl ?_ hm (Qn.flat rfl) rfl λd h hR=>?_
 ·simp only[go_sem,QjH]
 obtain⟨rfl,rfl⟩:=hR;refine Qe hb ?_;simp only[go_sem,QjH];refine ZW hb tC rfl ?_ hc (Qn.flat rfl) rfl λd h hR=>?_
 ·simp only[go_sem,e]
 obtain⟨rfl,rfl⟩:=hR;refine Qe hb ?_;simp only[go_sem,e]
@[go_sem] def kls(l:List Qw):D:=.imm 14 l.length (Qw.rows l)
def QyB(h:List Ob):QK prog 39 h [] (λd h'=>d=.ptr (h.length+1) 0 0 0/\h'=h++[QS .i64 0 [],⟨.one,0,1,1,λ_=>[.mref h.length 0]⟩]):=by
 refine Q6 Qi 200 func39 rfl ntmps39 results39 rfl λbase w pl hb=>?_;simp only[go_sem,Qa]
structure q5 {α:Type} [Inhabited α] (enc:α->List D) (L:List α) (off:Nat) (row:Nat->List D):Prop where
 at_:∀i,i<L.length->row (off+i)=enc (L.getD i default)
 all:∀i,i<off+L.length->∃a,row i=enc a
def au{α:Type}[Inhabited α](sz:Nat)(enc:α->List D)(L:List α)(d:D)(h:List Ob):Prop:=∃g off row,d=.ref 0 g off L.length/\h=[⟨.arr,g,sz,off+L.length,row⟩]/\q5 enc L off row
def q5.nil{α:Type}[Inhabited α]{enc:α->List D}{row:Nat->List D}:q5 enc [] 0 row:=⟨λi hi=>absurd hi (Vw i),λi hi=>absurd hi (Vw i)⟩
def q5.app{α:Type}[Inhabited α]{enc}{L:List α}{off}{row}(h:q5 enc L off row)(x:α){r2}(h2:r2 0=enc x):q5 enc (L++[x]) 0 (J1 L.length off row r2):=by
 have key:∀i,i<L.length+1->J1 L.length off row r2 i=enc ((L++[x]).getD i default):=λi hi=>by
  by_cases XU:i<L.length
  ·rw[Ad XU,h.at_ i XU];simp[XU,JD XU]
  ·have:i=L.length:=by omega
   subst this;rw[vL (QB _),Ee,h2];simp
 exact⟨λi hi=>by simp at hi;rw[JV];exact key i hi,λi hi=>by simp at hi;exact⟨_,key i hi⟩⟩
def q5.upto{α:Type}[Inhabited α]{enc}{L:List α}{off}{row}(h:q5 enc L off row){k}(hu:∀a,Bu k (enc a)=true):∀i,i<off+L.length->Bu k (row i)=true:=λi hi=>by
 obtain⟨a,ha⟩:=h.all i hi;rw[ha];exact hu a
end Go.Fg.X
namespace Go.Fg.X
open Go.Proofs Go.Fg
end Go.Fg.X
namespace Go.Fg.X
open Go.Proofs Go.Fg
end Go.Fg.X
namespace Go.Fg.X
open Go.Proofs Go.Fg
end Go.Fg.X
namespace Go.Fg.X
open Go.Proofs Go.Fg
open Go.Proofs.Tryz
structure Nc where
 a:Nat
 d:Nat
 b:Nat
instance:Inhabited Nc:=⟨⟨0,0,0⟩⟩
@[go_sem] def Nc.cells(c:Nc):List D:=[u64 c.a,u64 c.d,u64 c.b]
def Nc.rows(l:List Nc):Nat->List D:=λi=>(l.getD i default).cells
@[go_sem] theorem Nc.yn(l:List Nc)(i):Nc.rows l i=(l.getD i default).cells:=rfl
@[go_sem] def YD(l:List Nc):D:=.imm 3 l.length (Nc.rows l)
@[go_sem] def EZ(c:Nc):D:=.agg c.cells
def Nc.of(c:Nc):Int:=VY c.a c.d c.b
def Nc.Lt(c:Nc):Prop:=c.a<18446744073709551616/\c.d<18446744073709551616/\c.b<18446744073709551616
def QjT(F:List Ob)(f nf:Nat)(QI:List D)(g:Nc->Nat):Prop:=∀(h:List Ob) (c:Nc),c.Lt->Vt F h->QV prog f h (JT nf QI [EZ c]) (λd=>d=num (g c))
def AA(g:Nc->Nat)(s:Nat)(c:Nc):Nat:=if c.of=0 then s else s+g c
def E0(g:Nc->Nat)(l:List Nc):Nat:=l.foldl (AA g) 0
def mG{g}{M}(hg:∀c:Nc,c.Lt->g c<=M):∀{l:List Nc} {s:Nat},(∀c∈l,c.Lt)->l.foldl (AA g) s<=s+l.length*M
 | [],s,_=>by simp
 | c::l,s,h=>by
  have h1:=hg c (h c (by simp));have h2:=mG hg (l:=l) (s:=AA g s c) λx hx=>h x (by simp[hx]);have h3:AA g s c<=s+M:=by unfold AA;split<;>omega
  simp only[Ba,Vh,VL,Nat.one_mul];omega
def NH(n:Nat):Ob:=⟨.one,0,2,1,λ_=>[u64 (n / 18446744073709551616),u64 (n % 18446744073709551616)]⟩
structure OvI (l:List Nc) (so:D) (g:Nc->Nat) (F:List Ob) (i:Nat) (s:St):Prop where
 ex:∃G:List Ob,s=⟨[(1,so),(4,.ptr F.length 0 0 0),(5,.ptr (F.length+1) 0 0 0),(8,YD l),(9,Qb l.length),(10,Qb i)],F++(NH 0::NH ((l.take i).foldl (AA g) 0)::G)⟩
def QjU(h:List Ob)(l:List Nc)(hl:l.length<1048576)(hc:∀c∈l,c.Lt)(so:D)(f nf:Nat)(QI:List D)(hf:Qo prog f)(V8:KM so=some (f,nf,QI))(g:Nc->Nat)(hgM:∀c:Nc,c.Lt->g c<=2 ^ 97)
  (hg:QjT (h.map Ob.ro) f nf QI g):QV prog 287 h [YD l,so] (λd=>d=num (E0 g l)):=by
 refine Zq Qi 200 func287 rfl ntmps287 results287 rfl λbase w pl F hF Q3 hb=>?_;simp only[go_sem,Qa];refine Jg (OvI l so g F) l.length (s0:=⟨[(1,so),(4,.ptr F.length 0 0 0),(5,.ptr (F.length+1) 0 0 0),(8,YD l),(9,Qb l.length),(10,Qb 0)],F++[NH 0,NH 0]⟩) QQ ⟨[],rfl⟩ ?_;rintro i s hi ⟨G,rfl⟩;have QT:=JX (show i<4611686018427387904 by omega);obtain⟨S,hS⟩:∃S,S=(l.take i).foldl (AA g) 0:=⟨_,rfl⟩;have ub:S<=2 ^ 117:=by
  have h1:=mG hgM (l:=l.take i) (s:=0) λx hx=>hc x (List.mem_of_mem_take hx);have h2:(l.take i).length<=1048576:=by simp;omega
  have h3:=qN (2 ^ 97) h2;rw[hS];omega
 rw[<- hS];apply QC hb;first|refine YU hi (λQj=>?_) (λQj=>?_)|refine qu hi (λQj=>?_) (λQj=>?_)
 ·obtain⟨c,Ww⟩:∃c,c=l.getD i default:=⟨_,rfl⟩;have ZP:c.Lt:=hc c (by rw[Ww,Ze,QW Qj];exact qK Qj);have ZF:(l.take (i+1)).foldl (AA g) 0=AA g S c:=by
   rw[Ed,QW Qj,Option.toList_some,kz,hS,Ww,Ze,QW Qj];rfl
  simp only[go_sem,Qa,Qj,<- Ww];refine Ax hb PY (Qal c.a c.d c.b) (Qn.flat rfl) λd h hR=>?_;obtain⟨rfl,rfl⟩:=hR;apply QC hb;by_cases h0:c.of=0
  ·have TW:VY c.a c.d c.b=0:=h0;have JL:AA g S c=S:=by rw[AA,Qf h0]
   simp only[go_sem,Qa,Wg TW,bne];refine⟨Qj,_,Qp.frame (fr':=[(1,so),(4,.ptr F.length 0 0 0),(5,.ptr (F.length+1) 0 0 0),(8,YD l),(9,Qb l.length),(10,Qb (i+1:Nat))]) (by simp only[go_sem,QT]),⟨_,by rw[ZF,JL]⟩⟩
  ·have TW:VY c.a c.d c.b≠0:=h0;have JL:AA g S c=S+g c:=by rw[AA,Qd h0]
   have hgc:=hgM c ZP;simp only[go_sem,Qa,J5 TW,bne];have QjW:=ak S (g c) (by omega) (by omega);rw[Cu (by omega:S+g c<2 ^ 128)]at QjW;apply QH hb [0,1,2,1003,1004,5,6,7,1008];simp only[go_sem,Qa,NH];refine Xj hb hf V8 ?_ (hg _ c ZP (by rw[<- hF];exact⟨_,rfl⟩)) rfl λd2 hR=>?_
   ·simp only[go_sem];exact ER _
   subst hR;apply XF hb;refine Rp hb UF QjW (Qn.flat rfl) λd h hR=>?_;obtain⟨rfl,rfl⟩:=hR;apply XF hb;refine⟨Qj,_,Qp.frame (fr':=[(1,so),(4,.ptr F.length 0 0 0),(5,.ptr (F.length+1) 0 0 0),(8,YD l),(9,Qb l.length),(10,Qb (i+1:Nat))]) (by simp only[go_sem,QT]),⟨G++[⟨.one,0,3,1,λ_=>c.cells⟩],?_⟩⟩;rw[ZF,JL];rfl
 ·subst Qj;rw[YO]at hS;have e:E0 g l=S:=hS.symm;rw[e];refine Qe hb ?_;simp only[go_sem,Qa,NH];exact⟨_,rfl⟩
def QyD(h)(c:Nc)(hc:c.Lt):QV prog 290 h [EZ c] (λd=>d=num c.b):=by
 refine Zq Qi 200 func290 rfl ntmps290 results290 rfl λbase w pl F hF Q3 hb=>?_;simp only[go_sem,Qa];refine Ax hb Qh9 (QjE c.b hc.2.2) (Qn.flat rfl) λd h hR=>?_;obtain⟨rfl,rfl⟩:=hR;apply QC hb;exact⟨_,rfl⟩
def QyE(l:List Nc)(hl:l.length<1048576)(hc:∀c∈l,c.Lt):Q4 prog 243 [YD l] (Qn (num (E0 (λc=>c.b) l))):=by
 refine ZA 0 Qi 200 func243 rfl ntmps243 results243 rfl λbase w hb=>?_;simp only[go_sem];refine Z8 hb Qh8 rfl ?_ (QjU _ l hl hc (.raw (.func (.func 290) ⟨[]⟩ ⟨[]⟩)) 290 0 [] Qv9 rfl (λc=>c.b) (λc h=>by have:=h.2.2;omega) (λh' c hc _=>QyD h' c hc)) rfl λd2 hR=>?_
 ·simp only[go_sem]
 subst hR;exact qY hb
def QyF(h:List Ob)(b1 t)(ht:t<18446744073709551616)(c:Nc)(h1:(h.map Ob.ro)[b1]? = some ⟨.Wn,0,1,1,λ_=>[u64 t]⟩):QV prog 288 h [EZ c,.ptr b1 0 0 0] (λd=>d=num (yH c.a c.d c.b t)):=by
 refine Zq Qi 200 func288 rfl ntmps288 results288 rfl λbase w pl F hF Q3 hb=>?_;rw[<- hF]at h1;have QO:=Qc h1;simp only[go_sem,Qa,h1,QO];refine ZW hb Qv8 rfl ?_ (Qyw c.a c.d c.b t ht) (Qn.flat rfl) rfl λd h hR=>?_
 ·simp only[go_sem,Qa,h1,QO]
 obtain⟨rfl,rfl⟩:=hR;refine Qe hb ?_;simp only[go_sem,Qa,h1,QO];exact⟨_,rfl⟩
def QyG(l:List Nc)(t)(ht:t<18446744073709551616)(hl:l.length<1048576)(hc:∀c∈l,c.Lt):Q4 prog 242 [YD l,u64 t] (Qn (num (E0 (λc=>yH c.a c.d c.b t) l))):=by
 have hM:∀c:Nc,c.Lt->yH c.a c.d c.b t<=2 ^ 97:=λc _=>by have:=Qyv c.a c.d c.b t ht;omega
 refine ZA 0 Qi 200 func242 rfl ntmps242 results242 rfl λbase w hb=>?_;simp only[go_sem];have hT:QjT (([⟨.one,0,1,1,λ_=>[u64 t]⟩,NH 0]:List Ob).map Ob.ro) 288 0 [.ptr 0 0 0 0] (λc=>yH c.a c.d c.b t):=λh' c hc hx=>by
  obtain⟨g,rfl⟩:=hx;exact QyF _ 0 t ht c rfl
 refine Z8 hb Qh8 rfl ?_ (QjU _ l hl hc (.clo 288 0 [.ptr 0 0 0 0]) 288 0 [.ptr 0 0 0 0] Qv7 rfl (λc=>yH c.a c.d c.b t) hM hT) rfl λd2 hR=>?_
 ·simp only[go_sem]
 subst hR;exact qY hb
@[go_sem] theorem Ln.QK8(l:Ln):l.cells=[u64 l.x,u64 (l.y / 18446744073709551616),u64 (l.y % 18446744073709551616),u64 l.m]:=rfl
def yI(c:Nc)(x y:Nat):Rn:=
 if c.of=2\/c.of=4 then ⟨⟨0,0,0⟩,⟨x,y,c.b⟩,false⟩
 else if c.of=3 then ⟨⟨x,y,c.a⟩,⟨x,(y+(c.a - c.b)*c.d) % 2 ^ 128,c.b⟩,true⟩
 else ⟨⟨0,0,0⟩,⟨x,y,0⟩,false⟩
def Wx(c:Nc)(x y:Nat):Rn:=
 if c.of=4 then ⟨⟨0,0,0⟩,⟨(x+c.d) % 18446744073709551616,y,c.b⟩,false⟩ else yI c x y
def Ln.wu:(⟨0,0,0⟩:Ln).Ok:=⟨by decide,by decide,by decide⟩
def mH{c:Nc}(hc:c.Lt){x y:Nat}(hx:x<18446744073709551616)(hy:y<2 ^ 128):(yI c x y).Ok:=by
 unfold yI;split
 ·exact⟨Ln.wu,hx,hy,hc.2.2⟩
 ·split
  ·exact⟨⟨hx,hy,hc.1⟩,hx,qM _ (by decide),hc.2.2⟩
  ·exact⟨Ln.wu,hx,hy,(by decide:(0:Nat)<18446744073709551616)⟩
def NI{c:Nc}(hc:c.Lt){x y:Nat}(hx:x<18446744073709551616)(hy:y<2 ^ 128):(Wx c x y).Ok:=by
 unfold Wx;split
 ·exact⟨Ln.wu,qM _ (by decide),hy,hc.2.2⟩
 ·exact mH hc hx hy
def Qam{c:Nc}(e:c.of=2\/c.of=4)(x y):yI c x y=⟨⟨0,0,0⟩,⟨x,y,c.b⟩,false⟩:=Qf e
def QyH{c:Nc}(e:c.of=3)(x y):yI c x y=⟨⟨x,y,c.a⟩,⟨x,(y+(c.a - c.b)*c.d) % 2 ^ 128,c.b⟩,true⟩:=by unfold yI;rw[Qd (by omega),Qf e]
def QjX{c:Nc}(e:c.of=0\/c.of=1)(x y):yI c x y=⟨⟨0,0,0⟩,⟨x,y,0⟩,false⟩:=by unfold yI;rw[Qd (by omega),Qd (by omega)]
def QjY(c:Nc)(hc:c.Lt)(x y:Nat)(hx:x<18446744073709551616)(hy:y<2 ^ 128):Q4 prog 249 [EZ c,u64 x,num y] (Qn (.agg (yI c x y).cells)):=by
 refine ZA 0 Qi 200 func249 rfl ntmps249 results249 rfl λbase w hb=>?_;simp only[go_sem];refine Wu hb Gn (ar c.a c.d c.b) (Qn.flat rfl) λd h hR=>?_;obtain⟨rfl,rfl⟩:=hR;apply Zi hb;rcases Qyu c.a c.d c.b with e|e|e|e|e
 ·rw[QjX (.inl e)];simp only[go_sem,e]
 ·rw[QjX (.inr e)];simp only[go_sem,e]
 ·rw[Qam (.inl e)];simp only[go_sem,e]
 ·have Jb:c.b<c.a/\c.a<=4294967295:=by
   unfold VY at e
   repeat' (split at e)
   all_goals first|omega|contradiction
  have e1:=lV c.a c.b (by omega) (by omega);rw[QyH e];simp only[go_sem,e,e1];apply QH hb [0,1,2,3,4,5,6,7,1008,1009,10,11,12,1013,1014,15];simp only[go_sem,e1];refine Vj hb Db rfl ?_ (Dv (c.a - c.b) c.d (by omega) hc.2.1) (Qn.flat rfl) rfl λd h hR=>?_
  ·simp only[go_sem,e1]
  obtain⟨rfl,rfl⟩:=hR;refine Zr hb ?_;simp only[go_sem,e1];refine Vj hb UF rfl ?_ (ak y ((c.a - c.b)*c.d) hy (QjK (by omega) hc.2.1)) (Qn.flat rfl) rfl λd h hR=>?_
  ·simp only[go_sem,e1]
  obtain⟨rfl,rfl⟩:=hR;refine Zr hb ?_;simp only[go_sem,e1]
 ·rw[Qam (.inr e)];simp only[go_sem,e]
def Qan(c:Nc)(hc:c.Lt)(x y:Nat)(hx:x<18446744073709551616)(hy:y<2 ^ 128):Q4 prog 248 [EZ c,u64 x,num y] (Qn (.agg (Wx c x y).cells)):=by
 refine ZA 0 Qi 200 func248 rfl ntmps248 results248 rfl λbase w hb=>?_;simp only[go_sem];refine Wu hb Qh1 (QjY c hc x y hx hy) (Qn.flat rfl) λd h hR=>?_;obtain⟨rfl,rfl⟩:=hR;apply Zi hb;refine Wu hb Gn (ar c.a c.d c.b) (Qn.flat rfl) λd h hR=>?_;obtain⟨rfl,rfl⟩:=hR;apply Zi hb;by_cases e:c.of=4
 ·have e0:VY c.a c.d c.b=4:=e;rw[Qam (.inr e),show Wx c x y=⟨⟨0,0,0⟩,⟨(x+c.d) % 18446744073709551616,y,c.b⟩,false⟩ from Qf e];simp only[go_sem,e0,Nt]
 ·have e0:(VY c.a c.d c.b==4)=false:=by simpa[Nc.of] using e
  rw[show Wx c x y=yI c x y from Qd e];simp only[go_sem,e0]
def jw(a b:Rn):Rn:=⟨if a.b then GM a.f b.f else ⟨0,0,0⟩,GM a.t b.t,a.b⟩
def Qao{a b:Rn}(ha:a.Ok)(hb:b.Ok):(jw a b).Ok:=by
 refine⟨?_,QjQ ha.t hb.t⟩;unfold jw;dsimp only;split
 ·exact QjQ ha.f hb.f
 ·exact Ln.wu
def mI(a b:Rn)(ha:a.Ok)(Jb:b.Ok):Q4 prog 247 [.agg a.cells,.agg b.cells] (Qn (.agg (jw a b).cells)):=by
 refine ZA 0 Qi 200 func247 rfl ntmps247 results247 rfl λbase w hb=>?_;simp only[go_sem];apply QH hb [0,1,2,3,5,6,1004,7,1008,1009];simp only[go_sem];refine VX hb Qia (QjR a.t b.t ha.t Jb.t) (Qn.flat rfl) λd h hR=>?_;obtain⟨rfl,rfl⟩:=hR;apply WW hb;cases h:a.b with
 | true=>
  rw[show jw a b=⟨GM a.f b.f,GM a.t b.t,true⟩ from by unfold jw;rw[h];rfl];simp only[go_sem,h];refine Wu hb Qia (QjR a.f b.f ha.f Jb.f) (Qn.flat rfl) λd h hR=>?_;obtain⟨rfl,rfl⟩:=hR;exact qY hb
 | false=>
  rw[show jw a b=⟨⟨0,0,0⟩,GM a.t b.t,false⟩ from by unfold jw;rw[h];rfl];simp only[go_sem,h]
def j5(r:Rn)(w:Nat):Nat:=if r.b then max (Dw r.f w) (Dw r.t w) else Dw r.t w
def aw(r)(w):j5 r w<=never:=by
 have:=QjN r.f w;have:=QjN r.t w;unfold j5;split<;>omega
def QyI(r:Rn):Q4 prog 301 [.agg r.cells] (Qn (.agg ((if r.b then r.f else r.t).cells++r.t.cells))):=by
 refine ZA 0 Qi 200 func301 rfl ntmps301 results301 rfl λbase w hb=>?_;simp only[go_sem];cases h:r.b with
 | true=>
  simp only[go_sem,h]
 | false=>
  simp only[go_sem,h]
def BS(a:Nat):max (0:Int) (a:Int)=(a:Int):=by omega
def mJ(r:Rn)(hr:r.Ok)(v)(hv:v<2 ^ 128):Q4 prog 259 [.agg r.cells,num v] (Qn (u64 (j5 r v))):=by
 have m1:∀a b:Nat,max (a:Int) (b:Int)=((max a b:Nat):Int):=λa b=>by omega
 refine ZA 0 Qi 200 func259 rfl ntmps259 results259 rfl λbase w hb=>?_;simp only[go_sem];refine Wu hb Qwc (QyI r) (Qn.flat rfl) λd h hR=>?_;obtain⟨rfl,rfl⟩:=hR;apply Zi hb;cases h:r.b with
 | true=>
  rw[show j5 r v=max (Dw r.f v) (Dw r.t v) from by unfold j5;rw[h];rfl];simp only[go_sem,h];refine xu 2 ?_;apply Zi hb;refine ZW hb lu rfl ?_ (mF r.f hr.f v hv) (Qn.flat rfl) rfl λd h hR=>?_
  ·simp only[go_sem,BS]
  obtain⟨rfl,rfl⟩:=hR;refine Qe hb ?_;simp only[go_sem,BS];refine Qe hb ?_;simp only[go_sem,BS];refine Qe hb ?_;simp only[go_sem,BS];refine ZW hb lu rfl ?_ (mF r.t hr.t v hv) (Qn.flat rfl) rfl λd h hR=>?_
  ·simp only[go_sem,BS,m1]
  obtain⟨rfl,rfl⟩:=hR;refine Qe hb ?_;simp only[go_sem,BS,m1];refine Qe hb ?_;simp only[go_sem,m1];refine Qe hb ?_;simp only[go_sem,m1]
 | false=>
  rw[show j5 r v=max (Dw r.t v) (Dw r.t v) from by unfold j5;rw[h];simp];simp only[go_sem,h];refine xu 2 ?_;apply Zi hb;refine ZW hb lu rfl ?_ (mF r.t hr.t v hv) (Qn.flat rfl) rfl λd h hR=>?_
  ·simp only[go_sem,BS]
  obtain⟨rfl,rfl⟩:=hR;refine Qe hb ?_;simp only[go_sem,BS];refine Qe hb ?_;simp only[go_sem,BS];refine Qe hb ?_;simp only[go_sem,BS];refine ZW hb lu rfl ?_ (mF r.t hr.t v hv) (Qn.flat rfl) rfl λd h hR=>?_
  ·simp only[go_sem,BS,m1]
  obtain⟨rfl,rfl⟩:=hR;refine Qe hb ?_;simp only[go_sem,BS,m1];refine Qe hb ?_;simp only[go_sem,m1];refine Qe hb ?_;simp only[go_sem,m1]
def WY(n:Nat):Nat:=n % 18446744073709551616
def NJ(n):WY n<18446744073709551616:=qM _ (by decide)
def QjZ(a b:Nat):IntKind.u64.wrap ((a:Int)+(b:Int))=((WY (a+b):Nat):Int):=Nt a b
structure Du where
 has:Bool
 dl:Rn
 rd:Rn
 J9:Nat
 YY:Nat
 dead:Nat
deriving DecidableEq
instance:Inhabited Du:=⟨⟨false,default,default,0,0,0⟩⟩
structure Du.Ok (d:Du):Prop where
 dl:d.dl.Ok
 rd:d.rd.Ok
 J9:d.J9<18446744073709551616
 YY:d.YY<=never
 dead:d.dead<=never
@[go_sem] def Du.cells(d:Du):List D:=[QJ d.has,u64 d.dl.f.x,u64 (d.dl.f.y / 18446744073709551616),u64 (d.dl.f.y % 18446744073709551616),u64 d.dl.f.m,u64 d.dl.t.x,u64 (d.dl.t.y / 18446744073709551616),u64 (d.dl.t.y % 18446744073709551616),u64 d.dl.t.m,QJ d.dl.b,
 u64 d.rd.f.x,u64 (d.rd.f.y / 18446744073709551616),u64 (d.rd.f.y % 18446744073709551616),u64 d.rd.f.m,u64 d.rd.t.x,u64 (d.rd.t.y / 18446744073709551616),u64 (d.rd.t.y % 18446744073709551616),u64 d.rd.t.m,QJ d.rd.b,u64 d.J9,u64 d.YY,u64 d.dead]
def Dx(l:Du)(head:Int):Du:=
 if 0<head then ⟨l.has,l.dl,l.rd,l.J9,j5 l.rd (l.J9*65536),j5 l.dl (WY (l.J9+head.toNat)*65536)⟩ else ⟨l.has,l.dl,l.rd,l.J9,never,never⟩
def Qap{l:Du}(h1:l.dl.Ok)(h2:l.rd.Ok)(h3:l.J9<18446744073709551616)(head:Int):(Dx l head).Ok:=by
 unfold Dx;split
 ·exact⟨h1,h2,h3,aw _ _,aw _ _⟩
 ·exact⟨h1,h2,h3,QB _,QB _⟩
def mK(n)(hn:n<18446744073709551616):Q4 prog 246 [u64 n] (Qn (num (n*65536))):=by
 refine ZA 0 Qi 200 func246 rfl ntmps246 results246 rfl λbase w hb=>?_;simp only[go_sem];refine Wu hb Db (Dv n 65536 hn (by decide)) (Qn.flat rfl) λd h hR=>?_;obtain⟨rfl,rfl⟩:=hR;exact qY hb
def NK{n:Int}(h1:0<=n)(h2:n<18446744073709551616):IntKind.u64.wrap n=((n.toNat:Nat):Int):=by rw[IntKind.wrap_u64];omega
def Qaq(l:Du)(h1:l.dl.Ok)(h2:l.rd.Ok)(h3:l.J9<18446744073709551616)(head:Int)(hh:head<9223372036854775808):Q4 prog 250 [.agg l.cells,Qb head] (Qn (.agg (Dx l head).cells)):=by
 have b1:∀n:Nat,n<18446744073709551616->n*65536<2 ^ 128:=λn hn=>by omega
 by_cases h:0<head
 ·have d1:=Q5 h;have e1:=NK (n:=head) (by omega) (by omega);rw[show Dx l head=⟨l.has,l.dl,l.rd,l.J9,j5 l.rd (l.J9*65536),j5 l.dl (WY (l.J9+head.toNat)*65536)⟩ from Qf h];refine ZA 0 Qi 200 func250 rfl ntmps250 results250 rfl λbase w hb=>?_;simp only[go_sem];simp only[go_sem,d1];apply QH hb [0,1,2,3,1004,1005,6,1007];simp only[go_sem];refine VX hb lg (mK l.J9 h3) (Qn.flat rfl) λd h hR=>?_;obtain⟨rfl,rfl⟩:=hR;apply WW hb;refine VX hb lj (mJ l.rd h2 (l.J9*65536) (b1 _ h3)) (Qn.flat rfl) λd h hR=>?_;obtain⟨rfl,rfl⟩:=hR;apply WW hb;apply QH hb [0,1,2,3,4,5,6,1007,1008,9,1010];simp only[go_sem,e1,QjZ];refine VX hb lg (mK (WY (l.J9+head.toNat)) (NJ _)) (Qn.flat rfl) λd h hR=>?_;obtain⟨rfl,rfl⟩:=hR;apply WW hb;refine VX hb lj (mJ l.dl h1 (WY (l.J9+head.toNat)*65536) (b1 _ (NJ _))) (Qn.flat rfl) λd h hR=>?_;obtain⟨rfl,rfl⟩:=hR;exact Ro hb
 ·have d1:=QN h;rw[show Dx l head=⟨l.has,l.dl,l.rd,l.J9,never,never⟩ from Qd h];refine ZA 0 Qi 200 func250 rfl ntmps250 results250 rfl λbase w hb=>?_;simp only[go_sem];simp only[go_sem,d1];rfl
def mL(l:Du)(JY head:Int):Du:=Dx { l with J9:=WY (l.J9+JY.toNat) } head
def QyJ(l:Du)(h1:l.dl.Ok)(h2:l.rd.Ok)(h3:l.J9<18446744073709551616)(JY head:Int)(XZ:0<=JY)(hs:JY<9223372036854775808)(hh:head<9223372036854775808):Q4 prog 260 [.agg l.cells,Qb JY,Qb head] (Qn (.agg (mL l JY head).cells)):=by
 have e0:max JY 0=JY:=by omega
 have e1:=NK (n:=JY) XZ (by omega);refine ZA 0 Qi 200 func260 rfl ntmps260 results260 rfl λbase w hb=>?_;simp only[go_sem];simp only[go_sem,e0,e1,QjZ];refine Wu hb tz (Qaq { l with J9:=WY (l.J9+JY.toNat) } h1 h2 (NJ _) head hh) (Qn.flat rfl) λd h hR=>?_;obtain⟨rfl,rfl⟩:=hR;apply Zi hb;rfl
def QyK(l:Du)(h1:l.dl.Ok)(h2:l.rd.Ok)(h3:l.J9<18446744073709551616)(head:Int)(hh:head<9223372036854775808):Q4 prog 262 [.agg l.cells,Qb head] (Qn (.agg (Dx l head).cells)):=by
 refine ZA 0 Qi 200 func262 rfl ntmps262 results262 rfl λbase w hb=>?_;simp only[go_sem];refine Wu hb tz (Qaq l h1 h2 h3 head hh) (Qn.flat rfl) λd h hR=>?_;obtain⟨rfl,rfl⟩:=hR;exact qY hb
structure Qu where
 l:List Pk
 ci:Nat
 co:Nat
 cd:Nat
 bi:Nat
 bo:Nat
 bd:Nat
instance:Inhabited Qu:=⟨⟨[],0,0,0,0,0,0⟩⟩
def Wa:List Pk->Nat
 | []=>0
 | p::l=>p.len.toNat+Wa l
def QyL(l m):Wa (l++m)=Wa l+Wa m:=by
 induction l with
 | nil=>simp[Wa]
 | cons p l ih=>simp only[qJ,Wa,ih];omega
def IX(p:Pk):Prop:=1<=p.len/\p.len<=16384
def Qar{l:List Pk}(h:∀p∈l,IX p):Wa l<=16384*l.length:=by
 induction l with
 | nil=>simp[Wa]
 | cons p l ih=>
  have h1:=h p (by simp);have h2:=ih λq hq=>h q (by simp[hq]);unfold IX at h1;simp only[Wa,Vh];omega
@[go_sem] def Qu.ay(q:Qu):List D:=[u64 q.ci,u64 q.co,u64 q.cd,u64 q.bi,u64 q.bo,u64 q.bd]
def wv(Z5 room:Int)(q:Qu)(p:Pk):Bool:=decide (room<Wa q.l+p.len) || decide ((q.l.length:Int)=Z5)
def Yj(Z5 room:Int)(q:Qu)(p:Pk):Qu:=
 if wv Z5 room q p then { q with cd:=WY (q.cd+1),bd:=WY (q.bd+p.len.toNat) }
 else { q with l:=q.l++[p],ci:=WY (q.ci+1),bi:=WY (q.bi+p.len.toNat) }
def XG(q:Qu):Qu:={ q with l:=q.l.tail,co:=WY (q.co+1),bo:=WY (q.bo+(q.l.headD default).len.toNat) }
def BT(q:Qu):Int:=match q.l with|[]=>0|p::_=>p.len
@[go_sem] def RE(r:Nat)(room:Int)(q:Qu):Ob:=⟨.one,0,9,1,λ_=>[.ptr r 0 0 0,Qb room,Qb (Wa q.l:Nat),u64 q.ci,u64 q.co,u64 q.cd,u64 q.bi,u64 q.bo,u64 q.bd]⟩
structure Qas (S:Nat->Prop) (h:List Ob) (p r Z5:Nat) (room:Int) (q:Qu):Prop where
 o:h[p]? = some (RE r room q)
 ring:wm (λl=>S l/\l≠p) h r Z5 q.l
 rp:r≠p
 sp:S p
 lens:∀x∈q.l,IX x
 r0:0<=room
 r1:room<=1048576
def xB(S:Nat->Prop)(h:List Ob)(p Z5:Nat)(room:Int)(q:Qu):Prop:=∃r,Qas S h p r Z5 room q
def wm.step{S S'}{h h':List Ob}{r room}{L}(e:∀l,l<h.length->S l->S' l/\h'[l]? = h[l]?):wm S h r room L->wm S' h' r room L:=λ⟨a,f,row,T⟩=>
 ⟨a,f,row,((e _ (Qc T.o) T.sr).2).trans T.o,((e _ (Qc T.ao) T.sa).2).trans T.ao,T.ra,T.fl,T.len,T.yG,T.rows,T.lens,(e _ (Qc T.o) T.sr).1,(e _ (Qc T.ao) T.sa).1⟩
def wm.Qat{S}{h}{r room}{L:List Pk}:wm S h r room L->L.length<=room/\room<=64:=λ⟨a,f,row,T⟩=>⟨T.len,T.yG⟩
def xB.step{S S'}{h h':List Ob}{p Z5}{room}{q}(e:∀l,l<h.length->S l->S' l/\h'[l]? = h[l]?):xB S h p Z5 room q->xB S' h' p Z5 room q:=λ⟨r,Q⟩=>
 ⟨r,((e _ (Qc Q.o) Q.sp).2).trans Q.o,Q.ring.step λl hl ⟨h1,h2⟩=>⟨⟨(e l hl h1).1,h2⟩,(e l hl h1).2⟩,Q.rp,(e _ (Qc Q.o) Q.sp).1,Q.lens,Q.r0,Q.r1⟩
structure QyM (h:List Ob) (p r Z5:Nat) (room:Int) (q:Qu):Prop where
 o:(h.map Ob.ro)[p]? = some (RE r room q).ro
 ring:Rz h r Z5 q.l
def IY(h:List Ob)(p Z5:Nat)(room:Int)(q:Qu):Prop:=∃r,QyM h p r Z5 room q
def xB.toR{S}{h}{p Z5}{room}{q}:xB S h p Z5 room q->IY h p Z5 room q:=λ⟨r,Q⟩=>⟨r,Z3 Q.o,Q.ring.toR⟩
def IY.more{h h':List Ob}{p Z5}{room}{q}(e:∀(l:Nat) (o:Ob),(h.map Ob.ro)[l]? = some o->(h'.map Ob.ro)[l]? = some o):IY h p Z5 room q->IY h' p Z5 room q:=λ⟨r,Q⟩=>⟨r,e _ _ Q.o,Q.ring.more e⟩
section
variable {h:List Ob}{p Z5:Nat}{room:Int}{q:Qu}(Q:IY h p Z5 room q)
include Q
theorem IZ:QV prog 118 h [.ptr p 0 0 0] (λd=>d=Qb q.l.length):=by
 obtain⟨r,ho,hr⟩:=Q;refine Zq Qi 200 func118 rfl ntmps118 results118 rfl λbase w pl F hF Q3 hb=>?_;rw[<- hF]at ho;have Qg:=Qc ho;simp only[go_sem,Qa,ho,Qg];obtain⟨a,f,row,T⟩:=hr;refine ZN hb Qvq (Qyc (T.more (Kh hF))) λd hR=>?_;subst hR;refine Qe hb ?_;simp only[go_sem,Qa,ho,Qg];all_goals first|exact⟨_,rfl,rfl⟩|exact⟨_,rfl⟩|rfl|exact⟨[],(QU _).symm⟩|exact⟨[],(QU _).symm,rfl⟩
theorem QyO:QV prog 139 h [.ptr p 0 0 0] (λd=>d=.agg q.ay):=by
 obtain⟨r,ho,hr⟩:=Q;refine Zq Qi 200 func139 rfl ntmps139 results139 rfl λbase w pl F hF Q3 hb=>?_;rw[<- hF]at ho;have Qg:=Qc ho;simp only[go_sem,Qa,ho,Qg];all_goals first|exact⟨_,rfl,rfl⟩|exact⟨_,rfl⟩|rfl|exact⟨[],(QU _).symm⟩|exact⟨[],(QU _).symm,rfl⟩
theorem Qj0:QV prog 261 h [.ptr p 0 0 0] (λd=>d=Qb (BT q)):=by
 have Q0:=Q;obtain⟨r,ho,hr⟩:=Q;obtain⟨a,f,row,T⟩:=hr;unfold BT;cases hl:q.l with
 | nil=>
  refine Zq Qi 200 func261 rfl ntmps261 results261 rfl λbase w pl F hF Q3 hb=>?_;rw[<- hF]at ho;have Qg:=Qc ho;simp only[go_sem,Qa,ho,Qg];refine Z8 hb Gm rfl ?_ (IZ (Q0.more (Kh hF))) rfl λd hR=>?_
  ·simp only[go_sem,Qa,ho,Qg,hl]
  subst hR;refine Qe hb ?_;simp only[go_sem,Qa,ho,Qg,hl];all_goals first|exact⟨_,rfl,rfl⟩|exact⟨_,rfl⟩|rfl|exact⟨[],(QU _).symm⟩|exact⟨[],(QU _).symm,rfl⟩
 | cons x l=>
  have d0:(((l.length+1:Nat):Int)==0)=false:=by simp;omega
  refine Zq Qi 200 func261 rfl ntmps261 results261 rfl λbase w pl F hF Q3 hb=>?_;rw[<- hF]at ho;have Qg:=Qc ho;simp only[go_sem,Qa,ho,Qg];refine Z8 hb Gm rfl ?_ (IZ (Q0.more (Kh hF))) rfl λd hR=>?_
  ·simp only[go_sem,Qa,ho,Qg,hl,d0]
  subst hR;refine Qe hb ?_;simp only[go_sem,Qa,ho,Qg,hl,d0];refine Z8 hb tf rfl ?_ (u9 (T.more (Kh hF)) 0 (by rw[hl];simp)) rfl λd hR=>?_
  ·simp only[go_sem,Qa,ho,Qg,hl]
  subst hR;refine Qe hb ?_;simp only[go_sem,Qa,ho,Qg,hl];all_goals first|exact⟨_,rfl,rfl⟩|exact⟨_,rfl⟩|rfl|exact⟨[],(QU _).symm⟩|exact⟨[],(QU _).symm,rfl⟩
end
def QyP(h:List Ob)(n:Nat)(room:Int)(h1:1<=n)(h2:n<=64)(h3:1<=room)(h4:room<=1048576):QK prog 160 h [Qb n,Qb room] (λd h'=>d=.tup [.ptr (h.length+2) 0 0 0,Qb 0]/\xB (λl=>h.length<=l) h' (h.length+2) n room ⟨[],0,0,0,0,0,0⟩/\∃g,h'=h++g/\g.length=3):=by
 have d1:decide (room<1)=false:=QN (by omega);have d2:decide (1048576<room)=false:=QN (by omega);refine Q6 Qi 200 func160 rfl ntmps160 results160 rfl λbase w pl hb=>?_;simp only[go_sem,Qa];refine VH hb Qvy rfl ?_ (Qyg h n h1 h2) rfl λd h hR=>?_
 ·simp only[go_sem,Qa,d1,d2]
 obtain⟨rfl,R,g,rfl,hg⟩:=hR;refine Qe hb ?_;simp only[go_sem,Qa,d1,d2];have hl:(h++g).length=h.length+2:=by rw[Zj,hg]
 refine⟨by rw[hg],⟨h.length+1,?_,?_,by omega,by show h.length<=_;omega,by simp,by omega,by omega⟩,g++[RE (h.length+1) room ⟨[],0,0,0,0,0,0⟩],by rfl,by simp[hg]⟩
 ·rw[show h.length+2=(h++g).length by omega];rw[<- WC,Kf (QB _),Ee];rfl
 ·rw[<- WC];refine R.step λl ZB Jx=>⟨⟨Jx,by omega⟩,JD ZB⟩
def NL(a b:Nat):IntKind.u64.wrap ((a:Int)+(b:Int))=((WY (a+b):Nat):Int):=Nt a b
def NM(a:Nat):IntKind.u64.wrap ((a:Int)+1)=((WY (a+1):Nat):Int):=Nt a 1
def Qas.fin{S}{h H:List Ob}{p r Z5}{room}{q q':Qu}(Q:Qas S h p r Z5 room q)(hp:H[p]? = some (RE r room q'))(hl:∀l,l<h.length->l≠p->H[l]? = h[l]?)(hn:h.length<=H.length)(e:q'.l=q.l):xB S H p Z5 room q'/\Step S h H:=
 ⟨⟨r,hp,by rw[e];exact Q.ring.step λl h1 h2=>⟨h2,hl l h1 h2.2⟩,Q.rp,Q.sp,by rw[e];exact Q.lens,Q.r0,Q.r1⟩,⟨λl h1 h2=>hl l h1 λe2=>h2 (e2▸Q.sp),hn⟩⟩
def QyQ{S}{h}{p Z5}{room}{q}(Q:xB S h p Z5 room q)(x)(hx:IX x):
  QK prog 163 h [.ptr p 0 0 0,.agg x.cells] (λd h'=>d=Qb (if wv Z5 room q x then 30 else 0)/\xB S h' p Z5 room (Yj Z5 room q x)/\Step S h h'):=by
 obtain⟨r,Q⟩:=Q;have ho:=Q.o;have hR:=Q.ring;have Kc:=hx.1;have Xg:=hx.2;have hle:=hR.Qat
 have jv:=Qar Q.lens;have Xx:=Q.r0;have Vx:=Q.r1;have d1:decide (x.len<1)=false:=QN (by omega);have d2:decide (16384<x.len)=false:=QN (by omega);have e1:IntKind.i64.wrap (room - (Wa q.l:Nat))=room - (Wa q.l:Nat):=wrap64 (by omega) (by omega);have e2:IntKind.u64.wrap x.len=((x.len.toNat:Nat):Int):=NK (by omega) (by omega);by_cases KL:room<Wa q.l+x.len
 ·have d3:decide (room - (Wa q.l:Nat)<x.len)=true:=Q5 (by omega);have hf:wv Z5 room q x=true:=by unfold wv;rw[Q5 KL];rfl
  unfold Yj;rw[hf];refine Q6 Qi 200 func163 rfl ntmps163 results163 rfl λbase w pl hb=>?_;have Qg:=Qc ho;simp only[go_sem,Qa,ho,Qg,d1,d2];apply QH hb [0,1,2,3,4,5,6,7,8,9,10,11,12,13,14,15,16,17,1018,19,20,21];simp only[go_sem,Qa,ho,Qg,e1,d3,NM];apply QH hb [0,1,2,3,4,5,6,7,8,9,10,11,1012];simp only[go_sem,Qa,ho,Qg,e2,Qs Qg,NL];refine Q.fin (q':={ q with cd:=WY (q.cd+1),bd:=WY (q.bd+x.len.toNat) }) ?_ ?_ ?_ rfl
  ·rw[Qx (by simpa using Qg),Qs Qg];rfl
  ·intro l h1 h2;rw[Qx (by simpa using h1),Qk (Q8 h2)]
  ·simp
 ·have d3:decide (room - (Wa q.l:Nat)<x.len)=false:=QN (by omega);refine Q6 Qi 200 func163 rfl ntmps163 results163 rfl λbase w pl hb=>?_;have Qg:=Qc ho;simp only[go_sem,Qa,ho,Qg,d1,d2];apply Va [18] hb [0,1,2,3,4,5,6,7,8,9,10,11,12,13,14,15,16,17,1018,19,20,21] [];simp only[go_sem,Qa,ho,Qg,e1,d3];have mM:=hR.step (S':=λl=>S l/\l≠p/\l<h.length) (h':=h++[⟨.one,0,6,1,λ_=>x.cells⟩]) λl h1 h2=>⟨⟨h2.1,h2.2,h1⟩,Qx h1⟩;refine xH1 hb Qvz (Qyd mM x) λd h6 wE=>?_;obtain⟨rfl,R6,s6⟩:=wE;have Dy:h.length<h6.length:=by have:=s6.len;simp only[Zj,jf]at this;omega
  have wx:h6[p]? = some (RE r room q):=(s6.keep p (by simp;omega) (λh=>h.2.1 rfl)).trans ((Qx Qg).trans ho);have zO:=Qc wx;have AB:=(s6.keep h.length (by simp) (λh=>by have:=h.2.2;omega)).trans (Kx rfl);have keep:∀l,l<h.length->¬ S l->h6[l]? = h[l]? := λl h1 h2=>(s6.keep l (by simp;omega) (λh=>h2 h.1)).trans (Qx h1);have RF:p≠h.length:=by omega
  refine Zr hb ?_;by_cases hlen:q.l.length=Z5
  ·have hf:wv Z5 room q x=true:=by unfold wv;rw[Q5 (show (q.l.length:Int)=(Z5:Int) by omega)];simp
   rw[Qf hlen]at R6;simp only[go_sem,Qa,Qf hlen,wx,zO,AB,NM];apply QH hb [0,1,2,3,4,5,6,7,8,9,10,11,1012];simp only[go_sem,Qa,wx,zO,e2,Qs zO,NL,AB,Dy,Qk RF];unfold Yj;rw[hf];refine⟨by rfl,⟨r,?_,R6.step λl h1 h2=>⟨⟨h2.1,h2.2.1⟩,?_⟩,Q.rp,Q.sp,Q.lens,Q.r0,Q.r1⟩,⟨λl h1 h2=>?_,?_⟩⟩
   ·rw[Qs zO];rfl
   ·rw[Qk (Q8 h2.2.1)]
   ·rw[Qk (λ(e:p=l)=>h2 (e▸Q.sp))];exact keep l h1 h2
   ·simp;omega
  ·have hf:wv Z5 room q x=false:=by unfold wv;rw[QN KL,QN (show ¬ (q.l.length:Int)=(Z5:Int) by omega)];rfl
   have e4:IntKind.i64.wrap (((Wa q.l:Nat):Int)+x.len)=((Wa (q.l++[x]):Nat):Int):=by
    rw[QyL];simp only[Wa];rw[wrap64 (by omega) (by omega)];omega
   rw[Qd hlen]at R6;simp only[go_sem,Qa,Qd hlen,wx,zO,AB,NM];apply QH hb [0,1,2,3,4,5,6,7,8,1009];simp only[go_sem,Qa,wx,zO,e2,Qs zO,NL,NM,AB,Dy,Qk RF,e4];apply QH hb [0,1,2,3,4,5,6,7,8,9,10,11,1012];simp only[go_sem,Qa,wx,zO,e2,Qs zO,NL,NM,AB,Dy,Qk RF,e4];unfold Yj;rw[hf];refine⟨by rfl,⟨r,?_,R6.step λl h1 h2=>⟨⟨h2.1,h2.2.1⟩,?_⟩,Q.rp,Q.sp,?_,Q.r0,Q.r1⟩,⟨λl h1 h2=>?_,?_⟩⟩
   ·rw[Qs zO];rfl
   ·rw[Qk (Q8 h2.2.1)]
   ·intro y hy;rcases Q9.1 hy with hy|hy
    ·exact Q.lens y hy
    ·rw[zn.1 hy];exact hx
   ·rw[Qk (λ(e:p=l)=>h2 (e▸Q.sp))];exact keep l h1 h2
   ·simp;omega
def QyR{S}{h}{p Z5}{room}{q:Qu}{x}{L}(Q:xB S h p Z5 room q)(hq:q.l=x::L):
  QK prog 200 h [.ptr p 0 0 0] (λd h'=>d=.tup [.agg x.cells,Qb 0]/\xB S h' p Z5 room (XG q)/\Step S h h'):=by
 obtain⟨r,Q⟩:=Q;have ho:=Q.o;have hR:=Q.ring;have hx:=Q.lens x (by rw[hq];simp);have Kc:=hx.1;have Xg:=hx.2;have hle:=hR.Qat
 have jv:=Qar Q.lens;have e2:IntKind.u64.wrap x.len=((x.len.toNat:Nat):Int):=NK (by omega) (by omega);have e4:IntKind.i64.wrap (((Wa q.l:Nat):Int) - x.len)=((Wa L:Nat):Int):=by
  have e5:Wa q.l=x.len.toNat+Wa L:=by rw[hq];rfl
  rw[wrap64 (by omega) (by omega)];omega
 refine Q6 Qi 200 func200 rfl ntmps200 results200 rfl λbase w pl hb=>?_;have Qg:=Qc ho;simp only[go_sem,Qa,ho,Qg];have mM:=hR.step (S':=λl=>S l/\l≠p/\l<h.length) (h':=h++[⟨.one,0,6,1,λ_=>(default:Pk).cells⟩]) λl h1 h2=>⟨⟨h2.1,h2.2,h1⟩,Qx h1⟩;rw[hq]at mM;refine qZ hb QvW (Qye mM) λd h6 wE=>?_;obtain⟨rfl,R6,s6⟩:=wE;have Dy:h.length<h6.length:=by have:=s6.len;simp only[Zj,jf]at this;omega
 have wx:h6[p]? = some (RE r room q):=(s6.keep p (by simp;omega) (λh=>h.2.1 rfl)).trans ((Qx Qg).trans ho);have zO:=Qc wx;have AB:=(s6.keep h.length (by simp) (λh=>by have:=h.2.2;omega)).trans (Kx rfl);have keep:∀l,l<h.length->¬ S l->h6[l]? = h[l]? := λl h1 h2=>(s6.keep l (by simp;omega) (λh=>h2 h.1)).trans (Qx h1);have RF:p≠h.length:=by omega
 refine Qe hb ?_;simp only[go_sem,Qa,wx,zO,AB];apply QH hb [0,1,2,3,4,5,6,7,8,1009];simp only[go_sem,Qa,wx,zO,e2,Qs zO,NL,NM,AB,Dy,Qk RF,e4];apply QH hb [0,1,2,3,4,5,6,7,8,9,10,11,1012];simp only[go_sem,Qa,wx,zO,e2,Qs,NL,NM,AB,Dy,Qk RF,e4];have key:∀(A B C:Ob) (l:Nat),l<h.length->(((h6.set p A).set h.length B)++[C])[l]? = (h6.set p A)[l]? := λA B C l h1=>by
  rw[Qx (by simp;omega),Qk (by omega)]
 have eq:(XG q).l=L:=by simp[XG,hq]
 refine⟨⟨r,?_,?_,Q.rp,Q.sp,?_,Q.r0,Q.r1⟩,⟨λl h1 h2=>?_,?_⟩⟩
 ·rw[key _ _ _ _ Qg,Qs zO,XG,hq];rfl
 ·rw[eq];refine R6.step λl h1 h2=>⟨⟨h2.1,h2.2.1⟩,?_⟩;rw[key _ _ _ _ h2.2.2,Qk (Q8 h2.2.1)]
 ·intro y hy;rw[eq]at hy;exact Q.lens y (by rw[hq];simp[hy])
 ·rw[key _ _ _ _ h1,Qk (λ(e:p=l)=>h2 (e▸Q.sp))];exact keep l h1 h2
 ·simp;omega
def BU(l:Du)(yJ new:Rn):Rn:=if l.has then jw yJ new else new
def mN{l}{yJ new:Rn}(h1:yJ.Ok)(h2:new.Ok):(BU l yJ new).Ok:=by unfold BU;split;exact Qao h1 h2;exact h2
def kY(l:Du)(c:Nc)(now:Nat)(head:Int):Du:=
 Dx ⟨true,BU l l.dl (Wx c now (l.J9*65536)),BU l l.rd (yI c now (l.J9*65536)),l.J9,l.YY,l.dead⟩ head
section
variable {h:List Ob}{b1 b2 b3:Nat}(l:Du)(h3:l.J9<18446744073709551616)(c:Nc)(hc:c.Lt)(now:Nat)(hn:now<18446744073709551616)
 (o1:(h.map Ob.ro)[b1]? = some ⟨.Wn,0,3,1,λ_=>c.cells⟩) (o2:(h.map Ob.ro)[b2]? = some ⟨.Wn,0,1,1,λ_=>[u64 now]⟩) (o3:(h.map Ob.ro)[b3]? = some ⟨.Wn,0,22,1,λ_=>l.cells⟩)
include h3 hc hn o1 o2 o3
theorem QyS(yJ:Rn)(hw:yJ.Ok):QV prog 245 h [.agg yJ.cells,.raw (.func (.func 248) #[] #[]),.ptr b1 0 0 0,.ptr b2 0 0 0,.ptr b3 0 0 0] (λd=>d=.agg (BU l yJ (Wx c now (l.J9*65536))).cells):=by
 have hs:=NI hc hn (y:=l.J9*65536) (by omega);refine Zq Qi 200 func245 rfl ntmps245 results245 rfl λbase w pl F hF Q3 hb=>?_;rw[<- hF]at o1 o2 o3;have kZ:=Qc o1;have k9:=Qc o2;have vg:=Qc o3;simp only[go_sem,Qa,o1,kZ,o2,k9,o3,vg];apply QH hb [0,1,2,3,4,1005,1006,1007,1008];simp only[go_sem,Qa,o1,kZ,o2,k9,o3,vg];refine Vj hb lg rfl ?_ (mK l.J9 h3) (Qn.flat rfl) rfl λd h hR=>?_
 ·simp only[go_sem,Qa,o1,kZ,o2,k9,o3,vg]
 obtain⟨rfl,rfl⟩:=hR;refine Zr hb ?_;simp only[go_sem,Qa,o1,kZ,o2,k9,o3,vg];refine Vj hb tx rfl ?_ (Qan c hc now (l.J9*65536) hn (by omega)) (Qn.flat rfl) rfl λd h hR=>?_
 ·simp only[go_sem,Qa,o1,kZ,o2,k9,o3,vg]
 obtain⟨rfl,rfl⟩:=hR;refine Zr hb ?_;simp only[go_sem,Qa,o1,kZ,o2,k9,o3,vg];unfold BU;cases hh:l.has with
 | true=>
  simp only[go_sem,Qa,hh];refine ZW hb lh rfl ?_ (mI yJ _ hw hs) (Qn.flat rfl) rfl λd h hR=>?_
  ·simp only[go_sem,Qa,o1,kZ,o2,k9,o3,vg]
  obtain⟨rfl,rfl⟩:=hR;refine Qe hb ?_;simp only[go_sem,Qa,o1,kZ,o2,k9,o3,vg];all_goals first|exact⟨_,rfl,rfl⟩|exact⟨_,rfl⟩|rfl|exact⟨[],(QU _).symm⟩|exact⟨[],(QU _).symm,rfl⟩
 | false=>
  simp only[go_sem,Qa,hh];all_goals first|exact⟨_,rfl,rfl⟩|exact⟨_,rfl⟩|rfl|exact⟨[],(QU _).symm⟩|exact⟨[],(QU _).symm,rfl⟩
theorem QyT(yJ:Rn)(hw:yJ.Ok):QV prog 245 h [.agg yJ.cells,.raw (.func (.func 249) #[] #[]),.ptr b1 0 0 0,.ptr b2 0 0 0,.ptr b3 0 0 0] (λd=>d=.agg (BU l yJ (yI c now (l.J9*65536))).cells):=by
 have hs:=mH hc hn (y:=l.J9*65536) (by omega);refine Zq Qi 200 func245 rfl ntmps245 results245 rfl λbase w pl F hF Q3 hb=>?_;rw[<- hF]at o1 o2 o3;have kZ:=Qc o1;have k9:=Qc o2;have vg:=Qc o3;simp only[go_sem,Qa,o1,kZ,o2,k9,o3,vg];apply QH hb [0,1,2,3,4,1005,1006,1007,1008];simp only[go_sem,Qa,o1,kZ,o2,k9,o3,vg];refine Vj hb lg rfl ?_ (mK l.J9 h3) (Qn.flat rfl) rfl λd h hR=>?_
 ·simp only[go_sem,Qa,o1,kZ,o2,k9,o3,vg]
 obtain⟨rfl,rfl⟩:=hR;refine Zr hb ?_;simp only[go_sem,Qa,o1,kZ,o2,k9,o3,vg];refine Vj hb Qh1 rfl ?_ (QjY c hc now (l.J9*65536) hn (by omega)) (Qn.flat rfl) rfl λd h hR=>?_
 ·simp only[go_sem,Qa,o1,kZ,o2,k9,o3,vg]
 obtain⟨rfl,rfl⟩:=hR;refine Zr hb ?_;simp only[go_sem,Qa,o1,kZ,o2,k9,o3,vg];unfold BU;cases hh:l.has with
 | true=>
  simp only[go_sem,Qa,hh];refine ZW hb lh rfl ?_ (mI yJ _ hw hs) (Qn.flat rfl) rfl λd h hR=>?_
  ·simp only[go_sem,Qa,o1,kZ,o2,k9,o3,vg]
  obtain⟨rfl,rfl⟩:=hR;refine Qe hb ?_;simp only[go_sem,Qa,o1,kZ,o2,k9,o3,vg];all_goals first|exact⟨_,rfl,rfl⟩|exact⟨_,rfl⟩|rfl|exact⟨[],(QU _).symm⟩|exact⟨[],(QU _).symm,rfl⟩
 | false=>
  simp only[go_sem,Qa,hh];all_goals first|exact⟨_,rfl,rfl⟩|exact⟨_,rfl⟩|rfl|exact⟨[],(QU _).symm⟩|exact⟨[],(QU _).symm,rfl⟩
end
def QyU(l:Du)(hl:l.Ok)(c:Nc)(hc:c.Lt)(now)(hn:now<18446744073709551616)(head:Int)(hh:head<9223372036854775808):Q4 prog 193 [.agg l.cells,EZ c,u64 now,Qb head] (Qn (.agg (kY l c now head).cells)):=by
 have h3:=hl.J9;have hs:=NI hc hn (y:=l.J9*65536) (by omega);have hr:=mH hc hn (y:=l.J9*65536) (by omega);refine ZA 0 Qi 200 func193 rfl ntmps193 results193 rfl λbase w hb=>?_;simp only[go_sem];apply QH hb [0,1,2,4,5,6,1003,8,1007,1009,10,1011];simp only[go_sem];refine Yh hb Qh0 (QyS (b1:=1) (b2:=2) (b3:=0) l h3 c hc now hn rfl rfl rfl l.dl hl.dl) λd hR=>?_;subst hR;apply XF hb;refine Yh hb Qh0 (QyT (b1:=1) (b2:=2) (b3:=0) l h3 c hc now hn rfl rfl rfl l.rd hl.rd) λd hR=>?_;subst hR;apply XF hb;refine Wu hb tz (Qaq ⟨true,BU l l.dl (Wx c now (l.J9*65536)),BU l l.rd (yI c now (l.J9*65536)),l.J9,l.YY,l.dead⟩ (mN hl.dl hs) (mN hl.rd hr) h3 head hh) (Qn.flat rfl) λd h hR=>?_;obtain⟨rfl,rfl⟩:=hR;apply Zi hb;rfl
def Qav{l:Du}(hl:l.Ok){c:Nc}(hc:c.Lt){now}(hn:now<18446744073709551616)(head:Int):(kY l c now head).Ok:=by
 have h3:=hl.J9;exact Qap (l:=⟨true,BU l l.dl (Wx c now (l.J9*65536)),BU l l.rd (yI c now (l.J9*65536)),l.J9,l.YY,l.dead⟩) (mN hl.dl (NI hc hn (y:=l.J9*65536) (by omega))) (mN hl.rd (mH hc hn (y:=l.J9*65536) (by omega))) h3 head
structure Sh where
 has:Bool
 run:Rn
 time:Nat
deriving DecidableEq
instance:Inhabited Sh:=⟨⟨false,default,0⟩⟩
structure Sh.Ok (x:Sh):Prop where
 run:x.run.Ok
 time:x.time<18446744073709551616
@[go_sem] def Sh.cells(x:Sh):List D:=[QJ x.has,u64 x.run.f.x,u64 (x.run.f.y / 18446744073709551616),u64 (x.run.f.y % 18446744073709551616),u64 x.run.f.m,u64 x.run.t.x,u64 (x.run.t.y / 18446744073709551616),u64 (x.run.t.y % 18446744073709551616),u64 x.run.t.m,QJ x.run.b,u64 x.time]
def GN(r:Rn)(total:Nat):Nat:=if r.b then max (max (j5 r (total*65536)) r.t.x) r.f.x else max (j5 r (total*65536)) r.t.x
def Qj1{r:Rn}(h:r.Ok)(total):GN r total<18446744073709551616:=by
 have h1:=aw r (total*65536);have h2:=h.t.x;have h3:=h.f.x;unfold never at h1;unfold GN;split<;>omega
def RG(a b:Nat):max (a:Int) (b:Int)=((max a b:Nat):Int):=by omega
def az(a:Nat):max (0:Int) (a:Int)=(a:Int):=by omega
def QyV{h:List Ob}{b g}{row}(o:(h.map Ob.ro)[b]? = some ⟨.Be,g,1,2,row⟩)(x y)(e0:row 0=[u64 x])(e1:row 1=[u64 y]):QV prog 299 h [.ref b g 0 2] (λd=>d=u64 (max x y)):=by
 refine Zq Qi 200 func299 rfl ntmps299 results299 rfl λbase w pl F hF Q3 hb=>?_;rw[<- hF]at o;have E6:=Qc o;simp only[go_sem,Qa,o,E6];refine xu 2 ?_;refine Qe hb ?_;simp only[go_sem,Qa,o,E6,e0,e1];refine Qe hb ?_;simp only[go_sem,Qa,o,E6,e0,e1,az,RG];refine Qe hb ?_;simp only[go_sem,Qa,o,E6,e0,e1,az,RG];apply QC hb;all_goals first|exact⟨_,rfl,rfl⟩|exact⟨_,rfl⟩|rfl|exact⟨[],(QU _).symm⟩|exact⟨[],(QU _).symm,rfl⟩
def QyW{h:List Ob}{b g}{row}(o:(h.map Ob.ro)[b]? = some ⟨.Be,g,1,3,row⟩)(x y z)(e0:row 0=[u64 x])(e1:row 1=[u64 y])(e2:row 2=[u64 z]):QV prog 299 h [.ref b g 0 3] (λd=>d=u64 (max (max x y) z)):=by
 refine Zq Qi 200 func299 rfl ntmps299 results299 rfl λbase w pl F hF Q3 hb=>?_;rw[<- hF]at o;have E6:=Qc o;simp only[go_sem,Qa,o,E6];refine xu 3 ?_;refine Qe hb ?_;simp only[go_sem,Qa,o,E6,e0,e1,e2];refine Qe hb ?_;simp only[go_sem,Qa,o,E6,e0,e1,e2,az,RG];refine Qe hb ?_;simp only[go_sem,Qa,o,E6,e0,e1,e2,az,RG];refine Qe hb ?_;simp only[go_sem,Qa,o,E6,e0,e1,e2,az,RG];apply QC hb;all_goals first|exact⟨_,rfl,rfl⟩|exact⟨_,rfl⟩|rfl|exact⟨[],(QU _).symm⟩|exact⟨[],(QU _).symm,rfl⟩
def Qaw(r:Rn)(hr:r.Ok)(total)(ht:total<18446744073709551616):Q4 prog 254 [.agg r.cells,u64 total] (Qn (u64 (GN r total))):=by
 unfold GN;refine ZA 0 Qi 200 func254 rfl ntmps254 results254 rfl λbase w hb=>?_;simp only[go_sem];apply QH hb [0,1,1002,1003,4];simp only[go_sem];refine VX hb Db (Dv total 65536 ht (by decide)) (Qn.flat rfl) λd h hR=>?_;obtain⟨rfl,rfl⟩:=hR;apply WW hb;refine VX hb lj (mJ r hr (total*65536) (by omega)) (Qn.flat rfl) λd h hR=>?_;obtain⟨rfl,rfl⟩:=hR;apply WW hb;cases h:r.b with
 | true=>
  simp only[go_sem,h];refine ZN hb Qic (QyW (b:=1) (g:=0) (by exact rfl) (j5 r (total*65536)) r.t.x r.f.x (by exact rfl) (by exact rfl) (by exact rfl)) λd hR=>?_;subst hR;exact V9 hb
 | false=>
  simp only[go_sem,h];refine ZN hb Qic (QyV (b:=1) (g:=0) (by exact rfl) (j5 r (total*65536)) r.t.x (by exact rfl) (by exact rfl)) λd hR=>?_;subst hR;exact V9 hb
def NN(x:Sh)(c:Nc)(low total:Nat):Sh:=
 ⟨true,if x.has then jw x.run (Wx c low (total*65536)) else Wx c low (total*65536),GN (if x.has then jw x.run (Wx c low (total*65536)) else Wx c low (total*65536)) total⟩
def La(x:Sh)(total:Nat):Sh:=if x.has then ⟨true,x.run,GN x.run total⟩ else x
end Go.Fg.X
