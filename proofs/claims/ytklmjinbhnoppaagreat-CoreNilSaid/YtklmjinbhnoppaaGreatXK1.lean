/- Contracts and laws on the way to the statement. No conditions. -/
import Derived.Test.YtklmjinbhnoppaaGreatFgGrow
import Derived.Laws.BytesString
import Derived.LoopN
set_option maxRecDepth 100000
set_option maxHeartbeats 16000000
set_option linter.unusedVariables false
set_option linter.unusedSimpArgs false
set_option linter.unusedSectionVars false
namespace Go.Fg
open Go.RowKit (Below)
section
variable {P:Program} {L:Zd} {base nt:Nat} {s:St} {o:Oper}
end
section
variable {P:Program} {L:Zd} {base nt:Nat} {w0:Start} {Q:Exit→St→Prop}
end
section
variable {Z:Nat→Prop}
theorem Qv.nP {h:List Ob} {pl:List Pl} {w:World} {l:Nat} {o:Ob} {p:Pl} (ho:h[l]? = some o) (hp:pl[l]? = some p) (hk:o.kd.ty=0) {d:D} {v:Value} (r:Qv Z h pl w d v):Qv Z (h.set l o.gone) (pl.set l none) w d v:=by
 have QZ:∀ (l':Nat),l'≠l→(pl.set l none)[l']? = pl[l']? := fun l' YQ=>by rw[List.getElem?_set_ne (Ne.symm YQ)]
 have EX:∀ b,KX pl b→KX (pl.set l none) b:=fun b hb l' q e=>by
  by_cases e1:l'=l
  ·subst e1;rw[List.getElem?_set_self (Kz hp)] at e;cases e
  ·rw[QZ l' e1] at e;exact hb l' q e
 have VW:∀ b,free Z pl b→free Z (pl.set l none) b:=fun b hb=>⟨hb.1,EX b hb.2⟩
 have zl:(h.set l o.gone)[l]? = some o.gone:=List.getElem?_set_self (Jr ho)
 have nQ:(pl.set l none)[l]? = some none:=List.getElem?_set_self (Kz hp)
 induction r with
 | cl d v hc=>exact .cl _ _ (hc.mono fun b hb _=>⟨VW b hb,rfl⟩)
 | ref l' g off len o' p' a cap Zb Zm Zj hg hs=>
  by_cases e:l'=l
  ·subst e
   rw[ho] at Zb;cases Zb
   exact .ref _ g off len o.gone none a cap zl nQ rfl (by simp [Ob.gone];omega) (fun h1=>by simp [Ob.gone] at h1;omega)
  ·exact .ref _ g off len o' p' a cap (by rw[List.getElem?_set_ne (Ne.symm e)];exact Zb) (by rw[QZ l' e];exact Zm) Zj hg hs
 | ptr l' g i j o' p' a Zb Zm Zj hg hs=>
  by_cases e:l'=l
  ·subst e
   rw[ho] at Zb;cases Zb
   exact .ptr _ g i j o.gone none a zl nQ rfl (by simp [Ob.gone];omega) (fun h1=>by simp [Ob.gone] at h1;omega)
  ·exact .ptr _ g i j o' p' a (by rw[List.getElem?_set_ne (Ne.symm e)];exact Zb) (by rw[QZ l' e];exact Zm) Zj hg hs
 | mref l' g o' p' b Zb Zm Zj hg hs=>
  by_cases e:l'=l
  ·subst e
   rw[ho] at Zb;cases Zb
   exact absurd hk Zj.1
  ·exact .mref _ g o' p' b (by rw[List.getElem?_set_ne (Ne.symm e)];exact Zb) (by rw[QZ l' e];exact Zm) Zj hg hs
 | clo f nf cs vs hl hr ih=>exact .clo f nf cs vs hl ih
 | agg cs vs hl hr ih=>exact .agg cs vs hl ih
 | tup cs vs hl hr ih=>exact .tup cs vs hl ih
end
def Qka (F h:List Ob):Prop:=∀ (l:Nat) (o:Ob),F[l]? = some o→∃ o',h[l]? = some o'∧o'.gen=o.gen
theorem Ql.nR {w0:Start} (hF:w0.pl.length=w0.F.length) {fr:List (Nat × D)} {h:List Ob} (Qkb:Qka w0.F h) (t l:Nat) (hl:w0.F.length≤l) {o:Ob} {off len:Nat} (ht:get fr t=.ref l o.gen off len) (ho:h[l]? = some o) (hn:off+len≤o.n) (hk:o.kd.ty=0) (ZY:∀ i,i<o.n→(o.row i).all D.ky=true) :
  Ql w0 ⟨fr,h⟩ ⟨put fr t (.imm o.sz len (rowFrom off o.row)),h.set l o.gone⟩:=by
 intro Z z base nt pl a w r b
 have hlen:pl.length=h.length:=r.o.len
 have nS:l<pl.length:=by have h1:=Jr ho;omega
 have hp:pl[l]? = some pl[l]:=List.getElem?_eq_getElem nS
 generalize UB:pl[l]=p at hp
 have Qkc:∀ bb q:Nat,p=some (bb,q)→w0.w.heap.size≤bb:=fun bb q e=>by
  subst e
  rcases Nat.lt_or_ge bb w0.w.heap.size with Qd | vX
  ·exfalso
   have VO:¬ KX w0.pl bb:=fun ha=>(b.2.1.JI bb ha Qd).1 l q hp
   obtain ⟨l0,h1⟩:=Classical.not_forall.1 VO
   obtain ⟨q0,h2⟩:=Classical.not_forall.1 h1
   have h3:=Classical.not_not.1 h2
   have CU:l0<w0.F.length:=by rw[← hF];exact Kz h3
   obtain ⟨o1,p1,k1,k2,k3,k4,k5⟩:=b.2.1.obj l0 _ _ (List.getElem?_eq_getElem CU) h3
   obtain ⟨o2,k6,k7⟩:=Qkb l0 _ (List.getElem?_eq_getElem CU)
   rw[k6] at k1;cases k1
   obtain ⟨_,k8⟩:=k5 k7
   subst k8
   have:=r.o.inj l0 l bb q0 q k2 hp
   omega
  ·exact vX
 have KY:∀ bb q,p=some (bb,q)→Z bb∧(∀ l' q',pl[l']? = some (some (bb,q'))→l'=l)∧Ej Z h pl w o bb q:=fun bb q e=>by
  have h1:=Qkc bb q e
  subst e
  exact ⟨b.2.2.own l bb q hp h1,fun l' q' e'=>r.o.inj _ _ _ _ _ e' hp,(r.o.at_ l o bb q ho hp).2.cells hk⟩
 have QZ:∀ (l':Nat),l'≠l→(pl.set l none)[l']? = pl[l']? := fun l' YQ=>by rw[List.getElem?_set_ne (Ne.symm YQ)]
 have zl:(pl.set l none)[l]? = some none:=List.getElem?_set_self nS
 have CV:∀ l' bb q:Nat,(pl.set l none)[l']? = some (some (bb,q))→l'≠l∧pl[l']? = some (some (bb,q)):=fun l' bb q e=>by
  by_cases e1:l'=l
  ·subst e1;rw[zl] at e;cases e
  ·exact ⟨e1,by rw[← QZ l' e1];exact e⟩
 have hh:∀ (l':Nat) (o':Ob),l'≠l→h[l']? = some o'→∃ u:Ob,(h.set l o.gone)[l']? = some u∧u.gen=o'.gen∧u.sz=o'.sz∧u.kd.ty=o'.kd.ty:=fun l' o' QD e=>
  ⟨o',by rw[List.getElem?_set_ne (Ne.symm QD)];exact e,rfl,rfl,rfl⟩
 have K:kz w0.F.length h pl (h.set l o.gone) (pl.set l none):=⟨fun b' Jp l' q e=>Jp l' q (CV _ _ _ e).2,fun l' o' p' YQ Zb Zm=>by
  have QD:l'≠l:=by omega
  exact ⟨o',by rw[List.getElem?_set_ne (Ne.symm QD)];exact Zb,by rw[QZ l' QD];exact Zm,rfl,rfl,rfl⟩⟩
 refine ⟨pl.set l none,⟨r.nt,r.defers,fun u=>?_,⟨by simp [hlen],fun l1 l2 bb q q' e1 e2=>r.o.inj l1 l2 bb q q' (CV _ _ _ e1).2 (CV _ _ _ e2).2,fun l1 o1 h1 e1=>?_,fun l1 o1 bb q h1 e1=>?_⟩⟩,b.keep K⟩
 ·show Qv Z _ _ w (get (put fr t _) u) _
  rw[y0]
  by_cases e:u=t
  ·subst e
   rw[if_pos rfl]
   have h1:=(r.fr u).fz ho hp hk KY ZY hh
   rw[ht] at h1
   have h2:Nat.ble (off+len) o.n=true:=by rw[Nat.ble_eq];exact hn
   simpa only [D.fz,Nat.beq_refl,h2,Bool.and_self,cond_true] using h1
  ·rw[if_neg e];exact (r.fr u).nP ho hp hk
 ·by_cases e2:l1=l
  ·subst e2
   rw[List.getElem?_set_self (by omega)] at h1
   cases h1;rfl
  ·rw[List.getElem?_set_ne (Ne.symm e2)] at h1
   rw[QZ l1 e2] at e1
   exact r.o.JU l1 o1 h1 e1
 ·obtain ⟨QD,e2⟩:=CV _ _ _ e1
  rw[List.getElem?_set_ne (Ne.symm QD)] at h1
  obtain ⟨g1,x⟩:=r.o.at_ l1 o1 bb q h1 e2
  exact ⟨g1,x.to rfl rfl rfl rfl (fun i _=>rfl) fun i j v hi hj hr=>hr.nP ho hp hk⟩
mutual
theorem Qkd {k l g n sz:Nat} {row:Nat→List D} (hk:k≤l):∀ {d:D},d.upto k=true→d.fz l g n sz row=d
 | .raw _,_=>rfl
 | .nil,_=>rfl
 | .undef,_=>rfl
 | .imm _ _ _,_=>rfl
 | .ip _,_=>rfl
 | .ref l' _ _ _,h=>by
  simp only[D.upto,Nat.blt_eq] at h
  have:Nat.beq l' l=false:=by rw[← Bool.not_eq_true,Nat.beq_eq];omega
  simp only[D.fz,this,cond_false]
 | .ptr l' _ _ _,h=>by
  simp only[D.upto,Nat.blt_eq] at h
  have:Nat.beq l' l=false:=by rw[← Bool.not_eq_true,Nat.beq_eq];omega
  simp only[D.fz,this,cond_false]
 | .mref l' _,h=>by
  simp only[D.upto,Nat.blt_eq] at h
  have:Nat.beq l' l=false:=by rw[← Bool.not_eq_true,Nat.beq_eq];omega
  simp only[D.fz,this,cond_false]
 | .clo _ _ cs,h=>by simp only[D.upto] at h;simp only[D.fz,LJ hk h]
 | .agg cs,h=>by simp only[D.upto] at h;simp only[D.fz,LJ hk h]
 | .tup cs,h=>by simp only[D.upto] at h;simp only[D.fz,LJ hk h]
theorem LJ {k l g n sz:Nat} {row:Nat→List D} (hk:k≤l):∀ {cs:List D},qB k cs=true→XW l g n sz row cs=cs
 | [],_=>rfl
 | d::r,h=>by
  simp only[qB,Bool.and_eq_true] at h
  simp only[XW,Qkd hk h.1,LJ hk h.2]
end
section
variable {P:Program} {base nt:Nat} {w0:Start}
end
section
variable {P:Program} {base nt:Nat} {w0:Start} {Q:Exit→St→Prop}
end
section
variable {P:Program} {base nt:Nat} {w0:Start} {Q:Exit→St→Prop}
end
end Go.Fg
namespace Go.Fg
section
variable {P:Program} {base nt:Nat} {w0:Start} {Q:Exit→St→Prop} {k:List Item} {s:St}
def CW (P:Program) (base nt:Nat) (w0:Start) (Q:Exit→St→Prop) (k:List Item) (c:Code):Nat→Exit→St→Prop
 | 0,.normal,_=>False
 | n+1,.normal,s=>Qs P base nt w0 (CW P base nt w0 Q k c n) [.code c] .normal s
 | _,e,s=>Qs P base nt w0 Q k e s
@[go_sem] theorem Qtd {c:Code} {n:Nat}:CW P base nt w0 Q k c (n+1) .normal s=Qs P base nt w0 (CW P base nt w0 Q k c n) [.code c] .normal s:=Jx rfl
@[go_sem] theorem Qte {c:Code} {n j:Nat}:CW P base nt w0 Q k c n (.exit j) s=Qs P base nt w0 Q k (.exit j) s:=Jx (by cases n <;> rfl)
@[go_sem] theorem Qtf {c:Code} {n:Nat}:CW P base nt w0 Q k c n .ret s=Qs P base nt w0 Q k .ret s:=Jx (by cases n <;> rfl)
theorem wL (n:Nat) {c:Code} (h:Qs P base nt w0 (CW P base nt w0 Q k c n) [.code c] .normal s):Qs P base nt w0 Q (.code (.loop c)::k) .normal s:=by
 simp only[Qs]
 intro Z z pl a w r b
 refine wp_loop_rounds (n+1) ?_
 induction n generalizing s pl a w with
 | zero=>
  simp only[Qs] at h
  rw[rounds_succ]
  refine Code.wp_mono (fun e a w q=>?_) (h Z z pl a w r b)
  obtain ⟨s',Qg,h1,h2,h3⟩:=q
  cases e with
  | normal=>exact h1.elim
  | _=>exact ⟨s',Qg,h1,h2,h3⟩
 | succ n ih=>
  simp only[Qs] at h
  rw[rounds_succ]
  refine Code.wp_mono (fun e a w q=>?_) (h Z z pl a w r b)
  obtain ⟨s',Qg,h1,h2,h3⟩:=q
  cases e with
  | normal=>exact ih h1 Qg a w h2 h3
  | _=>exact ⟨s',Qg,h1,h2,h3⟩
end
end Go.Fg
namespace Go.Fg.X
open Go.Proofs Go.Fg
theorem PO (a:Nat) (i:Int) (b:Nat) (j:Int):Q7 Tryz.prog 207 [.agg [u64 a,Qb i],.agg [u64 b,Qb j]] (Qm (Qb (WG a i b j))):=by
 refine Zk 0 Qe 200 Tryz.func207 rfl Tryz.ntmps207 Tryz.results207 rfl fun base w hb=>?_
 simp only[go_sem,simprocAttr]
 repeat' (first | ((first | refine Fc (fun h=>?_) (fun h=>?_) | refine Fe (fun h=>?_) (fun h=>?_) | refine Ff (fun h=>?_) (fun h=>?_) | refine jy (fun h=>?_) (fun h=>?_) | refine Fh (fun h=>?_) (fun h=>?_) | refine Fi (fun h=>?_) (fun h=>?_) | refine Fj (fun h=>?_) (fun h=>?_) | refine E7 (fun h=>?_) (fun h=>?_)) <;> (try simp only[go_sem,simprocAttr,Go.undef])) | (refine And.intro (by first | assumption | omega) ?_;try simp only[go_sem,simprocAttr,Go.undef]) | fail)
 all_goals (congr 2;(try simp only[Bool.and_eq_true,Bool.and_eq_false_iff,Bool.or_eq_true,Bool.or_eq_false_iff,beq_iff_eq,beq_eq_false_iff_ne,bne_iff_ne,bne_eq_false_iff_eq,decide_eq_true_eq,decide_eq_false_iff_not,ne_eq] at *);(try unfold WG Z7);(repeat' split) <;> omega)
theorem CX (x y:It):Q7 Tryz.prog 166 [.agg x.cells,.agg y.cells] (Qm (.agg (Xr x y).cells)):=by
 have c1:=PO y.va y.vi x.va x.vi
 have c2:=PO y.ka y.ki x.ka x.ki
 simp only[Xr]
 generalize WG y.va y.vi x.va x.vi=p at *
 generalize WG y.ka y.ki x.ka x.ki=q at *
 refine Zk 0 Qe 200 Tryz.func166 rfl Tryz.ntmps166 Tryz.results166 rfl fun base w hb=>?_
 simp only[go_sem,simprocAttr]
 refine QM hb O8 rfl ?_ c1 (Qm.flat rfl) rfl fun d h hR=>?_
 ·simp only[go_sem,simprocAttr]
 obtain ⟨rfl,rfl⟩:=hR
 refine Qc hb ?_
 simp only[go_sem,simprocAttr]
 repeat' (first | ((first | refine Fc (fun h=>?_) (fun h=>?_) | refine Fe (fun h=>?_) (fun h=>?_) | refine Ff (fun h=>?_) (fun h=>?_) | refine jy (fun h=>?_) (fun h=>?_) | refine Fh (fun h=>?_) (fun h=>?_) | refine Fi (fun h=>?_) (fun h=>?_) | refine Fj (fun h=>?_) (fun h=>?_) | refine E7 (fun h=>?_) (fun h=>?_)) <;> (try simp only[go_sem,simprocAttr,Go.undef])) | (refine And.intro (by first | assumption | omega) ?_;try simp only[go_sem,simprocAttr,Go.undef]) | (refine bc hb [] O8 rfl ?_ (c2) rfl ?_;(· simp only[go_sem,simprocAttr,Go.undef]);intro d h hR;obtain ⟨rfl,rfl⟩:=hR;(simp only[go_sem,simprocAttr,Go.undef]);refine Qc hb ?_;simp only[go_sem,simprocAttr,Go.undef]) | fail)
 all_goals (try simp only[beq_iff_eq,beq_eq_false_iff_ne,ne_eq] at *);(first | rw[if_pos (by omega)] | rw[if_neg (by omega)])
section
variable {h:List Ob} {t:Tr} (i:W2 h t)
include i
theorem X2:QQ Tryz.prog 264 h [t.ptr] (fun d=>d=Qb t.high):=by
 cases t with
 | nil=>
  refine Zh Qe 200 Tryz.func264 rfl Tryz.ntmps264 Tryz.results264 rfl fun base w pl F hF QR hb=>?_
  simp only[go_sem,simprocAttr,Qa]
  exact ⟨[],by simp [Tr.high]⟩
 | node loc it l r=>
  have h2:=i.1
  refine Zh Qe 200 Tryz.func264 rfl Tryz.ntmps264 Tryz.results264 rfl fun base w pl F hF QR hb=>?_
  rw[← hF] at h2
  have Ji:=Qd h2
  simp only[go_sem,simprocAttr,Qa,h2,Ji]
  exact ⟨[],by simp⟩
theorem wN:QQ Tryz.prog 206 h [t.ptr] (fun d=>d=Qb t.size):=by
 cases t with
 | nil=>
  refine Zh Qe 200 Tryz.func206 rfl Tryz.ntmps206 Tryz.results206 rfl fun base w pl F hF QR hb=>?_
  simp only[go_sem,simprocAttr,Qa]
  exact ⟨[],by simp [Tr.size]⟩
 | node loc it l r=>
  have h2:=i.1
  refine Zh Qe 200 Tryz.func206 rfl Tryz.ntmps206 Tryz.results206 rfl fun base w pl F hF QR hb=>?_
  rw[← hF] at h2
  have Ji:=Qd h2
  simp only[go_sem,simprocAttr,Qa,h2,Ji]
  exact ⟨[],by simp⟩
theorem PQ (n:Nat):QQ Tryz.prog 208 h [t.ptr,u64 n] (fun d=>d=QN (t.hasB n)):=by
 cases t with
 | nil=>
  refine Zh Qe 200 Tryz.func208 rfl Tryz.ntmps208 Tryz.results208 rfl fun base w pl F hF QR hb=>?_
  simp only[go_sem,simprocAttr,Qa]
  exact ⟨[],by simp [Tr.hasB]⟩
 | node loc it l r=>
  have h2:=i.1
  refine Zh Qe 200 Tryz.func208 rfl Tryz.ntmps208 Tryz.results208 rfl fun base w pl F hF QR hb=>?_
  rw[← hF] at h2
  have Ji:=Qd h2
  simp only[go_sem,simprocAttr,Qa,h2,Ji]
  exact ⟨[],by simp [Tr.hasB]⟩
end
structure Raw (h:List Ob) (loc:Nat) (it:It) (l r:Tr) (le:It) (hi n:Int):Prop where
 o:h[loc]? = some (wH it l.ptr r.ptr le hi n)
 il:JB h l
 ir:JB h r
theorem JB.set {h:List Ob} {t:Tr} (i:JB h t) {k:Nat} (o:Ob) (hn:k ∉ t.Qz):JB (h.set k o) t:=i.frame fun l hl=>Qt fun e=>hn (e▸hl)
theorem k9 {h:List Ob} {loc:Nat} {it:It} {l r:Tr} {le:It} {hi n:Int} (i:Raw h loc it l r le hi n) (hs:l.size<1000000) (Jf:r.size<1000000) (nl:loc ∉ l.Qz) (nr:loc ∉ r.Qz) :
  QG Tryz.prog 215 h [.ptr loc 0 0 0] (fun d h'=>h'=h.set loc (wH it l.ptr r.ptr (Tr.node loc it l r).least ((Tr.node loc it l r).high:Nat) ((Tr.node loc it l r).size:Nat))):=by
 have h1:=i.o
 have il:=i.il
 have ir:=i.ir
 have w1:=l.CQ
 have w2:=r.CQ
 have e1:max (l.high:Int) (r.high:Int)=((max l.high r.high:Nat):Int):=by omega
 have e2:IntKind.i64.wrap (1+((max l.high r.high:Nat):Int))=((1+max l.high r.high:Nat):Int):=by rw[wrap64 (by omega) (by omega)];omega
 have e3:IntKind.i64.wrap (1+(l.size:Int))=((1+l.size:Nat):Int):=by rw[wrap64 (by omega) (by omega)];omega
 have e4:IntKind.i64.wrap (((1+l.size:Nat):Int)+(r.size:Int))=((1+l.size+r.size:Nat):Int):=by rw[wrap64 (by omega) (by omega)];omega
 rcases l with _ | ⟨a,b,c,d⟩ <;> rcases r with _ | ⟨a',b',c',d'⟩
 ·simp only[Tr.yr,Tr.kZ] at h1
  refine QW Qe 200 Tryz.func215 rfl Tryz.ntmps215 Tryz.results215 rfl fun base w pl hb=>?_
  have Qx:=Qd h1
  simp only[go_sem,simprocAttr,Qa,h1,Qx]
  refine QA Qe hb 200 mixed [(0,true),(1,true),(2,true),(3,true),(4,true),(5,true),(7,true),(8,true),(9,true),(10,true),(11,true),(6,false),(12,false),(13,true),(14,true),(15,true),(16,true),(17,false)] (by kernel_rfl) (by kernel_rfl) ?_
  simp only[go_sem,simprocAttr,Qa,h1,Qx]
  refine Ju hb XX rfl ?_ (X2 il.toR) rfl fun d hR=>?_
  ·simp only[go_sem,simprocAttr,Qa,h1,Qx]
  subst hR
  refine QF hb ?_
  simp only[go_sem,simprocAttr,Qa,h1,Qx]
  refine Ju hb XX rfl ?_ (X2 ir.toR) rfl fun d hR=>?_
  ·simp only[go_sem,simprocAttr,Qa,h1,Qx,e1,e2]
  subst hR
  refine QF hb ?_
  simp only[go_sem,simprocAttr,Qa,h1,Qx,e1,e2]
  refine QA Qe hb 200 mixed [(0,true),(1,true),(2,true),(3,true),(4,true),(5,true),(8,true),(9,true),(10,true),(11,true),(12,true),(6,false),(7,true),(13,false),(14,true),(15,true),(16,true),(17,false)] (by kernel_rfl) (by kernel_rfl) ?_
  simp only[go_sem,simprocAttr,Qa,h1,Qx,Qw Qx]
  refine Ju hb wx rfl ?_ (wN (il.set _ nl).toR) rfl fun d hR=>?_
  ·simp only[go_sem,simprocAttr,Qa,h1,Qx,Qw Qx,e3]
  subst hR
  refine QF hb ?_
  simp only[go_sem,simprocAttr,Qa,h1,Qx,Qw Qx,e3]
  refine Ju hb wx rfl ?_ (wN (ir.set _ nr).toR) rfl fun d hR=>?_
  ·simp only[go_sem,simprocAttr,Qa,h1,Qx,Qw Qx,e4]
  subst hR
  refine QF hb ?_
  simp only[go_sem,simprocAttr,Qa,h1,Qx,Qw Qx,e4]
  refine wL 2 ?_
  refine Qc hb ?_
  simp only[go_sem,simprocAttr,Qa,h1,Qx,Qw Qx]
  refine Qc hb ?_
  simp only[go_sem,simprocAttr,Qa,h1,Qx,Qw Qx]
  refine Qc hb ?_
  simp only[go_sem,simprocAttr,Qa,h1,Qx,Qw Qx]
  rfl
 ·simp only[Tr.yr,Tr.kZ] at h1
  have Jp:=ir.1
  have Va:loc≠a':=by rintro rfl;exact nr (by simp [Tr.Qz])
  refine QW Qe 200 Tryz.func215 rfl Tryz.ntmps215 Tryz.results215 rfl fun base w pl hb=>?_
  have Qx:=Qd h1
  simp only[go_sem,simprocAttr,Qa,h1,Qx]
  refine QA Qe hb 200 mixed [(0,true),(1,true),(2,true),(3,true),(4,true),(5,true),(7,true),(8,true),(9,true),(10,true),(11,true),(6,false),(12,false),(13,true),(14,true),(15,true),(16,true),(17,false)] (by kernel_rfl) (by kernel_rfl) ?_
  simp only[go_sem,simprocAttr,Qa,h1,Qx]
  refine Ju hb XX rfl ?_ (X2 il.toR) rfl fun d hR=>?_
  ·simp only[go_sem,simprocAttr,Qa,h1,Qx]
  subst hR
  refine QF hb ?_
  simp only[go_sem,simprocAttr,Qa,h1,Qx]
  refine Ju hb XX rfl ?_ (X2 ir.toR) rfl fun d hR=>?_
  ·simp only[go_sem,simprocAttr,Qa,h1,Qx,e1,e2]
  subst hR
  refine QF hb ?_
  simp only[go_sem,simprocAttr,Qa,h1,Qx,e1,e2]
  refine QA Qe hb 200 mixed [(0,true),(1,true),(2,true),(3,true),(4,true),(5,true),(8,true),(9,true),(10,true),(11,true),(12,true),(6,false),(7,true),(13,false),(14,true),(15,true),(16,true),(17,false)] (by kernel_rfl) (by kernel_rfl) ?_
  simp only[go_sem,simprocAttr,Qa,h1,Qx,Qw Qx]
  refine Ju hb wx rfl ?_ (wN (il.set _ nl).toR) rfl fun d hR=>?_
  ·simp only[go_sem,simprocAttr,Qa,h1,Qx,Qw Qx,e3]
  subst hR
  refine QF hb ?_
  simp only[go_sem,simprocAttr,Qa,h1,Qx,Qw Qx,e3]
  refine Ju hb wx rfl ?_ (wN (ir.set _ nr).toR) rfl fun d hR=>?_
  ·simp only[go_sem,simprocAttr,Qa,h1,Qx,Qw Qx,e4]
  subst hR
  refine QF hb ?_
  simp only[go_sem,simprocAttr,Qa,h1,Qx,Qw Qx,e4]
  refine wL 2 ?_
  refine Qc hb ?_
  simp only[go_sem,simprocAttr,Qa,h1,Qx,Qw Qx,Jp,Qt Va]
  refine Qc hb ?_
  simp only[go_sem,simprocAttr,Qa,h1,Qx,Qw Qx,Jp,Qt Va]
  refine QA Qe hb 200 mixed [(0,true),(1,true),(2,true),(3,true),(4,true),(5,true),(6,true),(7,true),(8,true),(9,false),(10,true),(11,true),(12,false)] (by kernel_rfl) (by kernel_rfl) ?_
  simp only[go_sem,simprocAttr,Qa,h1,Qx,Qw Qx,Jp,Qt Va]
  refine Zo hb CA rfl ?_ (CX it (Tr.node a' b' c' d').least) (Qm.flat rfl) rfl fun d h hR=>?_
  ·simp only[go_sem,simprocAttr,Qa,h1,Qx,Qw Qx,Jp,Qt Va]
  obtain ⟨rfl,rfl⟩:=hR
  refine QF hb ?_
  simp only[go_sem,simprocAttr,Qa,h1,Qx,Qw Qx,Jp,Qt Va]
  refine Qc hb ?_
  simp only[go_sem,simprocAttr,Qa,h1,Qx,Qw Qx,Jp,Qt Va]
  rfl
 ·simp only[Tr.yr,Tr.kZ] at h1
  have ha:=il.1
  have VO:loc≠a:=by rintro rfl;exact nl (by simp [Tr.Qz])
  refine QW Qe 200 Tryz.func215 rfl Tryz.ntmps215 Tryz.results215 rfl fun base w pl hb=>?_
  have Qx:=Qd h1
  simp only[go_sem,simprocAttr,Qa,h1,Qx]
  refine QA Qe hb 200 mixed [(0,true),(1,true),(2,true),(3,true),(4,true),(5,true),(7,true),(8,true),(9,true),(10,true),(11,true),(6,false),(12,false),(13,true),(14,true),(15,true),(16,true),(17,false)] (by kernel_rfl) (by kernel_rfl) ?_
  simp only[go_sem,simprocAttr,Qa,h1,Qx]
  refine Ju hb XX rfl ?_ (X2 il.toR) rfl fun d hR=>?_
  ·simp only[go_sem,simprocAttr,Qa,h1,Qx]
  subst hR
  refine QF hb ?_
  simp only[go_sem,simprocAttr,Qa,h1,Qx]
  refine Ju hb XX rfl ?_ (X2 ir.toR) rfl fun d hR=>?_
  ·simp only[go_sem,simprocAttr,Qa,h1,Qx,e1,e2]
  subst hR
  refine QF hb ?_
  simp only[go_sem,simprocAttr,Qa,h1,Qx,e1,e2]
  refine QA Qe hb 200 mixed [(0,true),(1,true),(2,true),(3,true),(4,true),(5,true),(8,true),(9,true),(10,true),(11,true),(12,true),(6,false),(7,true),(13,false),(14,true),(15,true),(16,true),(17,false)] (by kernel_rfl) (by kernel_rfl) ?_
  simp only[go_sem,simprocAttr,Qa,h1,Qx,Qw Qx]
  refine Ju hb wx rfl ?_ (wN (il.set _ nl).toR) rfl fun d hR=>?_
  ·simp only[go_sem,simprocAttr,Qa,h1,Qx,Qw Qx,e3]
  subst hR
  refine QF hb ?_
  simp only[go_sem,simprocAttr,Qa,h1,Qx,Qw Qx,e3]
  refine Ju hb wx rfl ?_ (wN (ir.set _ nr).toR) rfl fun d hR=>?_
  ·simp only[go_sem,simprocAttr,Qa,h1,Qx,Qw Qx,e4]
  subst hR
  refine QF hb ?_
  simp only[go_sem,simprocAttr,Qa,h1,Qx,Qw Qx,e4]
  refine wL 2 ?_
  refine Qc hb ?_
  simp only[go_sem,simprocAttr,Qa,h1,Qx,Qw Qx,ha,Qt VO]
  refine QA Qe hb 200 mixed [(0,true),(1,true),(2,true),(3,true),(4,true),(5,true),(6,true),(7,true),(8,true),(9,false),(10,true),(11,true),(12,false)] (by kernel_rfl) (by kernel_rfl) ?_
  simp only[go_sem,simprocAttr,Qa,h1,Qx,Qw Qx,ha,Qt VO]
  refine Zo hb CA rfl ?_ (CX it (Tr.node a b c d).least) (Qm.flat rfl) rfl fun d h hR=>?_
  ·simp only[go_sem,simprocAttr,Qa,h1,Qx,Qw Qx,ha,Qt VO]
  obtain ⟨rfl,rfl⟩:=hR
  refine QF hb ?_
  simp only[go_sem,simprocAttr,Qa,h1,Qx,Qw Qx,ha,Qt VO]
  refine Qc hb ?_
  simp only[go_sem,simprocAttr,Qa,h1,Qx,Qw Qx,ha,Qt VO]
  refine Qc hb ?_
  simp only[go_sem,simprocAttr,Qa,h1,Qx,Qw Qx,ha,Qt VO]
  rfl
 ·simp only[Tr.yr,Tr.kZ] at h1
  have ha:=il.1
  have VO:loc≠a:=by rintro rfl;exact nl (by simp [Tr.Qz])
  have Jp:=ir.1
  have Va:loc≠a':=by rintro rfl;exact nr (by simp [Tr.Qz])
  refine QW Qe 200 Tryz.func215 rfl Tryz.ntmps215 Tryz.results215 rfl fun base w pl hb=>?_
  have Qx:=Qd h1
  simp only[go_sem,simprocAttr,Qa,h1,Qx]
  refine QA Qe hb 200 mixed [(0,true),(1,true),(2,true),(3,true),(4,true),(5,true),(7,true),(8,true),(9,true),(10,true),(11,true),(6,false),(12,false),(13,true),(14,true),(15,true),(16,true),(17,false)] (by kernel_rfl) (by kernel_rfl) ?_
  simp only[go_sem,simprocAttr,Qa,h1,Qx]
  refine Ju hb XX rfl ?_ (X2 il.toR) rfl fun d hR=>?_
  ·simp only[go_sem,simprocAttr,Qa,h1,Qx]
  subst hR
  refine QF hb ?_
  simp only[go_sem,simprocAttr,Qa,h1,Qx]
  refine Ju hb XX rfl ?_ (X2 ir.toR) rfl fun d hR=>?_
  ·simp only[go_sem,simprocAttr,Qa,h1,Qx,e1,e2]
  subst hR
  refine QF hb ?_
  simp only[go_sem,simprocAttr,Qa,h1,Qx,e1,e2]
  refine QA Qe hb 200 mixed [(0,true),(1,true),(2,true),(3,true),(4,true),(5,true),(8,true),(9,true),(10,true),(11,true),(12,true),(6,false),(7,true),(13,false),(14,true),(15,true),(16,true),(17,false)] (by kernel_rfl) (by kernel_rfl) ?_
  simp only[go_sem,simprocAttr,Qa,h1,Qx,Qw Qx]
  refine Ju hb wx rfl ?_ (wN (il.set _ nl).toR) rfl fun d hR=>?_
  ·simp only[go_sem,simprocAttr,Qa,h1,Qx,Qw Qx,e3]
  subst hR
  refine QF hb ?_
  simp only[go_sem,simprocAttr,Qa,h1,Qx,Qw Qx,e3]
  refine Ju hb wx rfl ?_ (wN (ir.set _ nr).toR) rfl fun d hR=>?_
  ·simp only[go_sem,simprocAttr,Qa,h1,Qx,Qw Qx,e4]
  subst hR
  refine QF hb ?_
  simp only[go_sem,simprocAttr,Qa,h1,Qx,Qw Qx,e4]
  refine wL 2 ?_
  refine Qc hb ?_
  simp only[go_sem,simprocAttr,Qa,h1,Qx,Qw Qx,ha,Qt VO,Jp,Qt Va]
  refine QA Qe hb 200 mixed [(0,true),(1,true),(2,true),(3,true),(4,true),(5,true),(6,true),(7,true),(8,true),(9,false),(10,true),(11,true),(12,false)] (by kernel_rfl) (by kernel_rfl) ?_
  simp only[go_sem,simprocAttr,Qa,h1,Qx,Qw Qx,ha,Qt VO,Jp,Qt Va]
  refine Zo hb CA rfl ?_ (CX it (Tr.node a b c d).least) (Qm.flat rfl) rfl fun d h hR=>?_
  ·simp only[go_sem,simprocAttr,Qa,h1,Qx,Qw Qx,ha,Qt VO,Jp,Qt Va]
  obtain ⟨rfl,rfl⟩:=hR
  refine QF hb ?_
  simp only[go_sem,simprocAttr,Qa,h1,Qx,Qw Qx,ha,Qt VO,Jp,Qt Va]
  refine Qc hb ?_
  simp only[go_sem,simprocAttr,Qa,h1,Qx,Qw Qx,ha,Qt VO,Jp,Qt Va]
  refine QA Qe hb 200 mixed [(0,true),(1,true),(2,true),(3,true),(4,true),(5,true),(6,true),(7,true),(8,true),(9,false),(10,true),(11,true),(12,false)] (by kernel_rfl) (by kernel_rfl) ?_
  simp only[go_sem,simprocAttr,Qa,h1,Qx,Qw Qx,ha,Qt VO,Jp,Qt Va]
  refine Zo hb CA rfl ?_ (CX (Xr it (Tr.node a b c d).least) (Tr.node a' b' c' d').least) (Qm.flat rfl) rfl fun d h hR=>?_
  ·simp only[go_sem,simprocAttr,Qa,h1,Qx,Qw Qx,ha,Qt VO,Jp,Qt Va]
  obtain ⟨rfl,rfl⟩:=hR
  refine QF hb ?_
  simp only[go_sem,simprocAttr,Qa,h1,Qx,Qw Qx,ha,Qt VO,Jp,Qt Va]
  refine Qc hb ?_
  simp only[go_sem,simprocAttr,Qa,h1,Qx,Qw Qx,ha,Qt VO,Jp,Qt Va]
  rfl
theorem PR {h:List Ob} {lx ly:Nat} {ix iy:It} {a b c:Tr} {e e':It} {p p' q q':Int} (hx:h[lx]? = some (wH ix (.ptr ly 0 0 0) c.ptr e p p')) (hy:h[ly]? = some (wH iy a.ptr b.ptr e' q q'))
  (ia:JB h a) (ib:JB h b) (ic:JB h c) (nd:(lx::ly::(a.Qz++b.Qz++c.Qz)).Nodup) (hs:a.size+b.size+c.size<900000) :
  QG Tryz.prog 287 h [.ptr lx 0 0 0,Qb 0] (fun d h'=>d=.ptr ly 0 0 0∧JB h' (.node ly iy a (.node lx ix b c))∧h'.length=h.length∧∀ l,l≠lx→l≠ly→h'[l]? = h[l]?):=by
 have qc:=nd
 simp only[List.nodup_cons,List.mem_cons,List.mem_append,not_or] at qc
 obtain ⟨⟨QD,⟨na,nb⟩,nc⟩,⟨⟨ma,mb⟩,mc⟩,_⟩:=qc
 have V5:ly≠lx:=Ne.symm QD
 rcases b with _ | ⟨b1,b2,b3,b4⟩
 ·simp only[Tr.yr,Tr.kZ] at hx hy
  refine QW Qe 200 Tryz.func287 rfl Tryz.ntmps287 Tryz.results287 rfl fun base w pl hb=>?_
  have KJ:=Qd hx
  have V6:=Qd hy
  simp only[go_sem,simprocAttr,Qa,hx,KJ,hy,V6]
  refine QA Qe hb 200 mixed [(0,true),(1,true),(2,true),(3,true),(4,true),(5,true),(6,true),(7,true),(8,true),(9,true),(10,true),(11,true),(12,false)] (by kernel_rfl) (by kernel_rfl) ?_
  simp only[go_sem,simprocAttr,Qa,hx,KJ,hy,V6,Qt QD,Qw KJ]
  refine Q5 hb kR rfl ?_ (k9 (loc:=lx) (l:=Tr.nil) (r:=c) (it:=ix) (hi:=p) (n:=p') (le:=e) ⟨?_,?_,?_⟩ ?_ ?_ nb nc) rfl fun d h' hR=>?_
  ·simp only[go_sem,simprocAttr]
  ·rw[Qt V5,Qw KJ];rfl
  ·exact (ib.set _ nb).set _ mb
  ·exact (ic.set _ nc).set _ mc
  ·omega
  ·omega
  subst hR
  refine Qc hb ?_
  simp only[go_sem,simprocAttr,Qa]
  refine Q5 hb kR rfl ?_ (k9 (loc:=ly) (l:=a) (r:=(.node lx ix Tr.nil c)) (it:=iy) (hi:=q) (n:=q') (le:=e') ⟨?_,?_,?_⟩ ?_ ?_ ?_ ?_) rfl fun d h' hR=>?_
  ·simp only[go_sem,simprocAttr]
  ·rw[Qt QD,Qw (by simpa using V6)];rfl
  ·exact ((ia.set _ na).set _ ma).set _ na
  ·exact ⟨Qw (by simpa using KJ),((ib.set _ nb).set _ mb).set _ nb,((ic.set _ nc).set _ mc).set _ nc⟩
  ·simp only[Tr.size] at *;omega
  ·simp only[Tr.size] at *;omega
  ·exact ma
  ·intro hm;rcases List.mem_cons.1 hm with hm | hm;exact V5 hm;rcases List.mem_append.1 hm with hm | hm;exact mb hm;exact mc hm
  subst hR
  refine Qc hb ?_
  simp only[go_sem,simprocAttr,Qa]
  exact ⟨⟨Qw (by simpa using V6),(((ia.set _ na).set _ ma).set _ na).set _ ma,⟨by rw[Qt V5,Qw (by simpa using KJ)];rfl,(((ib.set _ nb).set _ mb).set _ nb).set _ mb,(((ic.set _ nc).set _ mc).set _ nc).set _ mc⟩⟩,fun l k1 k2=>by rw[Qt (Ne.symm k2),Qt (Ne.symm k1),Qt (Ne.symm k2),Qt (Ne.symm k1)]⟩
 ·simp only[Tr.yr,Tr.kZ] at hx hy
  refine QW Qe 200 Tryz.func287 rfl Tryz.ntmps287 Tryz.results287 rfl fun base w pl hb=>?_
  have KJ:=Qd hx
  have V6:=Qd hy
  simp only[go_sem,simprocAttr,Qa,hx,KJ,hy,V6]
  refine QA Qe hb 200 mixed [(0,true),(1,true),(2,true),(3,true),(4,true),(5,true),(6,true),(7,true),(8,true),(9,true),(10,true),(11,true),(12,false)] (by kernel_rfl) (by kernel_rfl) ?_
  simp only[go_sem,simprocAttr,Qa,hx,KJ,hy,V6,Qt QD,Qw KJ]
  refine Q5 hb kR rfl ?_ (k9 (loc:=lx) (l:=(Tr.node b1 b2 b3 b4)) (r:=c) (it:=ix) (hi:=p) (n:=p') (le:=e) ⟨?_,?_,?_⟩ ?_ ?_ nb nc) rfl fun d h' hR=>?_
  ·simp only[go_sem,simprocAttr]
  ·rw[Qt V5,Qw KJ];rfl
  ·exact (ib.set _ nb).set _ mb
  ·exact (ic.set _ nc).set _ mc
  ·omega
  ·omega
  subst hR
  refine Qc hb ?_
  simp only[go_sem,simprocAttr,Qa]
  refine Q5 hb kR rfl ?_ (k9 (loc:=ly) (l:=a) (r:=(.node lx ix (Tr.node b1 b2 b3 b4) c)) (it:=iy) (hi:=q) (n:=q') (le:=e') ⟨?_,?_,?_⟩ ?_ ?_ ?_ ?_) rfl fun d h' hR=>?_
  ·simp only[go_sem,simprocAttr]
  ·rw[Qt QD,Qw (by simpa using V6)];rfl
  ·exact ((ia.set _ na).set _ ma).set _ na
  ·exact ⟨Qw (by simpa using KJ),((ib.set _ nb).set _ mb).set _ nb,((ic.set _ nc).set _ mc).set _ nc⟩
  ·simp only[Tr.size] at *;omega
  ·simp only[Tr.size] at *;omega
  ·exact ma
  ·intro hm;rcases List.mem_cons.1 hm with hm | hm;exact V5 hm;rcases List.mem_append.1 hm with hm | hm;exact mb hm;exact mc hm
  subst hR
  refine Qc hb ?_
  simp only[go_sem,simprocAttr,Qa]
  exact ⟨⟨Qw (by simpa using V6),(((ia.set _ na).set _ ma).set _ na).set _ ma,⟨by rw[Qt V5,Qw (by simpa using KJ)];rfl,(((ib.set _ nb).set _ mb).set _ nb).set _ mb,(((ic.set _ nc).set _ mc).set _ nc).set _ mc⟩⟩,fun l k1 k2=>by rw[Qt (Ne.symm k2),Qt (Ne.symm k1),Qt (Ne.symm k2),Qt (Ne.symm k1)]⟩
theorem PS {h:List Ob} {lx ly:Nat} {ix iy:It} {a b c:Tr} {e e':It} {p p' q q':Int} (hx:h[lx]? = some (wH ix a.ptr (.ptr ly 0 0 0) e p p')) (hy:h[ly]? = some (wH iy b.ptr c.ptr e' q q'))
  (ia:JB h a) (ib:JB h b) (ic:JB h c) (nd:(lx::ly::(a.Qz++b.Qz++c.Qz)).Nodup) (hs:a.size+b.size+c.size<900000) :
  QG Tryz.prog 287 h [.ptr lx 0 0 0,Qb 1] (fun d h'=>d=.ptr ly 0 0 0∧JB h' (.node ly iy (.node lx ix a b) c)∧h'.length=h.length∧∀ l,l≠lx→l≠ly→h'[l]? = h[l]?):=by
 have qc:=nd
 simp only[List.nodup_cons,List.mem_cons,List.mem_append,not_or] at qc
 obtain ⟨⟨QD,⟨na,nb⟩,nc⟩,⟨⟨ma,mb⟩,mc⟩,_⟩:=qc
 have V5:ly≠lx:=Ne.symm QD
 rcases b with _ | ⟨b1,b2,b3,b4⟩
 ·simp only[Tr.yr,Tr.kZ] at hx hy
  refine QW Qe 200 Tryz.func287 rfl Tryz.ntmps287 Tryz.results287 rfl fun base w pl hb=>?_
  have KJ:=Qd hx
  have V6:=Qd hy
  simp only[go_sem,simprocAttr,Qa,hx,KJ,hy,V6]
  refine QA Qe hb 200 mixed [(0,true),(1,true),(2,true),(3,true),(4,true),(5,true),(6,true),(7,true),(8,true),(9,true),(10,true),(11,true),(12,false)] (by kernel_rfl) (by kernel_rfl) ?_
  simp only[go_sem,simprocAttr,Qa,hx,KJ,hy,V6,Qt QD,Qw KJ]
  refine Q5 hb kR rfl ?_ (k9 (loc:=lx) (l:=a) (r:=Tr.nil) (it:=ix) (hi:=p) (n:=p') (le:=e) ⟨?_,?_,?_⟩ ?_ ?_ na nb) rfl fun d h' hR=>?_
  ·simp only[go_sem,simprocAttr]
  ·rw[Qt V5,Qw KJ];rfl
  ·exact (ia.set _ na).set _ ma
  ·exact (ib.set _ nb).set _ mb
  ·omega
  ·omega
  subst hR
  refine Qc hb ?_
  simp only[go_sem,simprocAttr,Qa]
  refine Q5 hb kR rfl ?_ (k9 (loc:=ly) (l:=(.node lx ix a Tr.nil)) (r:=c) (it:=iy) (hi:=q) (n:=q') (le:=e') ⟨?_,?_,?_⟩ ?_ ?_ ?_ ?_) rfl fun d h' hR=>?_
  ·simp only[go_sem,simprocAttr]
  ·rw[Qt QD,Qw (by simpa using V6)];rfl
  ·exact ⟨Qw (by simpa using KJ),((ia.set _ na).set _ ma).set _ na,((ib.set _ nb).set _ mb).set _ nb⟩
  ·exact ((ic.set _ nc).set _ mc).set _ nc
  ·simp only[Tr.size] at *;omega
  ·simp only[Tr.size] at *;omega
  ·intro hm;rcases List.mem_cons.1 hm with hm | hm;exact V5 hm;rcases List.mem_append.1 hm with hm | hm;exact ma hm;exact mb hm
  ·exact mc
  subst hR
  refine Qc hb ?_
  simp only[go_sem,simprocAttr,Qa]
  exact ⟨⟨Qw (by simpa using V6),⟨by rw[Qt V5,Qw (by simpa using KJ)];rfl,(((ia.set _ na).set _ ma).set _ na).set _ ma,(((ib.set _ nb).set _ mb).set _ nb).set _ mb⟩,(((ic.set _ nc).set _ mc).set _ nc).set _ mc⟩,fun l k1 k2=>by rw[Qt (Ne.symm k2),Qt (Ne.symm k1),Qt (Ne.symm k2),Qt (Ne.symm k1)]⟩
 ·simp only[Tr.yr,Tr.kZ] at hx hy
  refine QW Qe 200 Tryz.func287 rfl Tryz.ntmps287 Tryz.results287 rfl fun base w pl hb=>?_
  have KJ:=Qd hx
  have V6:=Qd hy
  simp only[go_sem,simprocAttr,Qa,hx,KJ,hy,V6]
  refine QA Qe hb 200 mixed [(0,true),(1,true),(2,true),(3,true),(4,true),(5,true),(6,true),(7,true),(8,true),(9,true),(10,true),(11,true),(12,false)] (by kernel_rfl) (by kernel_rfl) ?_
  simp only[go_sem,simprocAttr,Qa,hx,KJ,hy,V6,Qt QD,Qw KJ]
  refine Q5 hb kR rfl ?_ (k9 (loc:=lx) (l:=a) (r:=(Tr.node b1 b2 b3 b4)) (it:=ix) (hi:=p) (n:=p') (le:=e) ⟨?_,?_,?_⟩ ?_ ?_ na nb) rfl fun d h' hR=>?_
  ·simp only[go_sem,simprocAttr]
  ·rw[Qt V5,Qw KJ];rfl
  ·exact (ia.set _ na).set _ ma
  ·exact (ib.set _ nb).set _ mb
  ·omega
  ·omega
  subst hR
  refine Qc hb ?_
  simp only[go_sem,simprocAttr,Qa]
  refine Q5 hb kR rfl ?_ (k9 (loc:=ly) (l:=(.node lx ix a (Tr.node b1 b2 b3 b4))) (r:=c) (it:=iy) (hi:=q) (n:=q') (le:=e') ⟨?_,?_,?_⟩ ?_ ?_ ?_ ?_) rfl fun d h' hR=>?_
  ·simp only[go_sem,simprocAttr]
  ·rw[Qt QD,Qw (by simpa using V6)];rfl
  ·exact ⟨Qw (by simpa using KJ),((ia.set _ na).set _ ma).set _ na,((ib.set _ nb).set _ mb).set _ nb⟩
  ·exact ((ic.set _ nc).set _ mc).set _ nc
  ·simp only[Tr.size] at *;omega
  ·simp only[Tr.size] at *;omega
  ·intro hm;rcases List.mem_cons.1 hm with hm | hm;exact V5 hm;rcases List.mem_append.1 hm with hm | hm;exact ma hm;exact mb hm
  ·exact mc
  subst hR
  refine Qc hb ?_
  simp only[go_sem,simprocAttr,Qa]
  exact ⟨⟨Qw (by simpa using V6),⟨by rw[Qt V5,Qw (by simpa using KJ)];rfl,(((ia.set _ na).set _ ma).set _ na).set _ ma,(((ib.set _ nb).set _ mb).set _ nb).set _ mb⟩,(((ic.set _ nc).set _ mc).set _ nc).set _ mc⟩,fun l k1 k2=>by rw[Qt (Ne.symm k2),Qt (Ne.symm k1),Qt (Ne.symm k2),Qt (Ne.symm k1)]⟩
end Go.Fg.X
namespace Go.Fg
section
variable {P:Program} {base nt:Nat} {w0:Start}
theorem Wf (QI:base≤w0.w.heap.size) {K:St→Prop} {dst:Option Nat} {ty:TypeId} {after:Array Edge} {gd:Option (Nat × Bool)} {r:List (Bool × Oper × G)} {s:St} {x:Operand} {args:Array Operand} {ZX:Array TypeId} {f:FuncId} {nf:Nat} {QB:List D} (hf:Qo P f)
  (hx:J6 (Qp s.fr x)=some (f,nf,QB)) {cs:List D} (he:WZ (Z6 nf QB (args.toList.map (Qp s.fr))) cs) {R:D→List Ob→Prop} (hF:QG P f s.h cs R)
  (ht:Zi nt dst=true) (hk:∀ d h,R d h→AX P base nt w0 K r ⟨Q8 s.fr dst d,h⟩) :
  AX P base nt w0 K ((false, ⟨dst, .call ⟨.value x, args, ZX⟩, ty, "!", after, gd⟩, none) :: r) s := by
 simp only[AX,KP,WC]
 intro Z z pl a w rr b
 exact Oper.wp_mono (fun a' w' ⟨d,h,Qg,hR,r',b',T,v,e⟩=>⟨fun hc=>absurd hc (by simp [v8]),_,_,Qg,v,hk d h hR,r',b',T,e⟩) (bn QI hf rfl hx (hF.args he) ht pl a w rr b _)
end
end Go.Fg
namespace Go.Fg.X
open Go.Proofs Go.Fg
theorem PT {h:List Ob} {loc:Nat} {it:It} {l r:Tr} {le:It} {hi n:Int} (i:Raw h loc it l r le hi n) (nd:(loc::(l.Qz++r.Qz)).Nodup) (hs:l.size+r.size<800000) :
  QG Tryz.prog 263 h [.ptr loc 0 0 0] (fun d h'=>∃ t',d=t'.ptr∧Xs h (.node loc it l r) (l.list++it::r.list) h' t'):=by
 have qc:=nd
 simp only[List.nodup_cons,List.mem_append,not_or] at qc
 obtain ⟨⟨nl,nr⟩,nd3⟩:=qc
 have hl:=l.CQ
 have hr:=r.CQ
 have el:IntKind.i64.wrap ((l.high:Int)+1)=((l.high+1:Nat):Int):=by rw[wrap64 (by omega) (by omega)];omega
 have er:IntKind.i64.wrap ((r.high:Int)+1)=((r.high+1:Nat):Int):=by rw[wrap64 (by omega) (by omega)];omega
 have h1:=i.o
 refine QW Qe 200 Tryz.func263 rfl Tryz.ntmps263 Tryz.results263 rfl fun base w pl hb=>?_
 have Qx:=Qd h1
 simp only[go_sem,simprocAttr,Qa,h1,Qx]
 refine Q5 hb kR rfl ?_ (k9 (loc:=loc) i (by omega) (by omega) nl nr) rfl fun d h2 hR=>?_
 ·simp only[go_sem,simprocAttr]
 have hlen:h2.length=h.length:=by rw[hR];simp
 have t2:JB h2 (.node loc it l r):=by
  rw[hR]
  exact ⟨Qw Qx,i.il.set _ nl,i.ir.set _ nr⟩
 have k2:∀ k,k≠loc→h2[k]? = h[k]? := fun k hk=>by rw[hR,Qt (Ne.symm hk)]
 clear hR
 have u2:Xs h (.node loc it l r) (Tr.node loc it l r).list h2 (.node loc it l r):=⟨t2,rfl,nd,fun _ h=>.inl h,fun k _ hn=>k2 k fun e=>hn (by rw[e];simp [Tr.Qz]),by omega⟩
 have h3:=t2.1
 have ZD:=Qd h3
 refine Qc hb ?_
 simp only[go_sem,simprocAttr,Qa,h3,ZD]
 refine wL 2 ?_
 refine Qc hb ?_
 simp only[go_sem,simprocAttr,Qa,h3,ZD]
 refine QA Qe hb 200 mixed [(0,true),(2,true),(3,true),(4,true),(5,true),(6,true),(7,true),(8,true),(1,false),(9,false),(10,true),(11,true)] (by kernel_rfl) (by kernel_rfl) ?_
 simp only[go_sem,simprocAttr,Qa,h3,ZD]
 refine Ju hb XX rfl ?_ (X2 t2.2.1.toR) rfl fun d hR=>?_
 ·simp only[go_sem,simprocAttr,Qa,h3,ZD]
 subst hR
 refine QF hb ?_
 simp only[go_sem,simprocAttr,Qa,h3,ZD]
 refine Ju hb XX rfl ?_ (X2 t2.2.2.toR) rfl fun d hR=>?_
 ·simp only[go_sem,simprocAttr,Qa,h3,ZD,er]
 subst hR
 refine QF hb ?_
 simp only[go_sem,simprocAttr,Qa,h3,ZD,er]
 by_cases c0:l.high≤r.high+1
 ·have d0:=decide_eq_true c0
  simp only[go_sem,simprocAttr,Qa,d0]
  refine Qc hb ?_
  simp only[go_sem,simprocAttr,Qa,h3,ZD]
  refine QA Qe hb 200 mixed [(0,true),(2,true),(3,true),(4,true),(5,true),(6,true),(7,true),(8,true),(1,false),(9,false),(10,true),(11,true)] (by kernel_rfl) (by kernel_rfl) ?_
  simp only[go_sem,simprocAttr,Qa,h3,ZD]
  refine Ju hb XX rfl ?_ (X2 t2.2.2.toR) rfl fun d hR=>?_
  ·simp only[go_sem,simprocAttr,Qa,h3,ZD]
  subst hR
  refine QF hb ?_
  simp only[go_sem,simprocAttr,Qa,h3,ZD]
  refine Ju hb XX rfl ?_ (X2 t2.2.1.toR) rfl fun d hR=>?_
  ·simp only[go_sem,simprocAttr,Qa,h3,ZD,el]
  subst hR
  refine QF hb ?_
  simp only[go_sem,simprocAttr,Qa,h3,ZD,el]
  by_cases c1:r.high≤l.high+1
  ·have d1:=decide_eq_true c1
   simp only[go_sem,simprocAttr,Qa,d1]
   refine Qc hb ?_
   simp only[go_sem,simprocAttr,Qa,h3,ZD]
   refine Qc hb ?_
   simp only[go_sem,simprocAttr]
   exact ⟨.node loc it l r,rfl,u2⟩
  ·have d1:=decide_eq_false c1
   simp only[go_sem,simprocAttr,Qa,d1]
   cases r with
   | nil=>exact absurd (Nat.zero_le _) c1
   | node ly iy b a=>
    have Zz:=hs
    simp only[Tr.size] at Zz
    have h4:=t2.2.2.1
    have qM:=Qd h4
    have QD:loc≠ly:=by rintro rfl;simp [Tr.Qz,List.nodup_cons,List.nodup_append,List.mem_cons,List.mem_append] at nd
    refine QA Qe hb 200 mixed [(0,true),(1,true),(2,true),(3,true),(4,true),(5,true),(6,true),(8,true),(9,true),(10,true),(11,true),(12,true),(13,true),(7,false),(14,false),(15,true)] (by kernel_rfl) (by kernel_rfl) ?_
    simp only[go_sem,simprocAttr,Qa,h3,ZD,h4,qM]
    refine Ju hb XX rfl ?_ (X2 t2.2.2.2.1.toR) rfl fun d hR=>?_
    ·simp only[go_sem,simprocAttr,Qa,h3,ZD,h4,qM]
    subst hR
    refine QF hb ?_
    simp only[go_sem,simprocAttr,Qa,h3,ZD,h4,qM]
    refine Ju hb XX rfl ?_ (X2 t2.2.2.2.2.toR) rfl fun d hR=>?_
    ·simp only[go_sem,simprocAttr,Qa,h3,ZD,h4,qM]
    subst hR
    refine QF hb ?_
    simp only[go_sem,simprocAttr,Qa,h3,ZD,h4,qM]
    by_cases c2:a.high<b.high
    ·have d2:=decide_eq_true c2
     simp only[go_sem,simprocAttr,Qa,d2]
     cases b with
     | nil=>exact absurd c2 (Nat.not_lt_zero _)
     | node lb ib b1 b2=>
      simp only[Tr.kZ] at h4
      simp only[Tr.size] at Zz
      have h5:=t2.2.2.2.1.1
      have Qkf:=Qd h5
      have V3:loc≠lb:=by rintro rfl;simp [Tr.Qz,List.nodup_cons,List.nodup_append,List.mem_cons,List.mem_append] at nd
      have yx:ly≠lb:=by rintro rfl;simp [Tr.Qz,List.nodup_cons,List.nodup_append,List.mem_cons,List.mem_append] at nd
      refine VY [5] Qe hb 200 mixed [(0,true),(1,true),(2,true),(3,true),(4,true),(6,true),(7,true),(5,false),(8,true),(9,false)] [] (by kernel_rfl) (by kernel_rfl) ?_
      simp only[go_sem,simprocAttr,Qa,h3,ZD]
      refine Wf hb CE rfl ?_ (PR (lx:=ly) (ly:=lb) (a:=b1) (b:=b2) (c:=a) h4 h5 t2.2.2.2.1.2.1 t2.2.2.2.1.2.2 t2.2.2.2.2 (by simp only[Tr.Qz,List.nodup_cons,List.nodup_append,List.mem_cons,List.mem_append] at nd ⊢;grind) (by omega)) rfl fun d h6 hR=>?_
      ·simp only[go_sem,simprocAttr]
      obtain ⟨rfl,t4,l4,k4⟩:=hR
      have h7:h6[loc]? = _:=(k4 loc QD V3).trans h3
      have qd:=Qd h7
      refine QF hb ?_
      simp only[go_sem,simprocAttr,Qa,h7,qd]
      have tr:JB h6 l:=t2.2.1.frame fun k hk=>k4 k (by rintro rfl;simp only[Tr.Qz,List.nodup_cons,List.nodup_append,List.mem_cons,List.mem_append] at nd;grind) (by rintro rfl;simp only[Tr.Qz,List.nodup_cons,List.nodup_append,List.mem_cons,List.mem_append] at nd;grind)
      refine Qc hb ?_
      simp only[go_sem,simprocAttr]
      refine Q5 hb CE rfl ?_ (PS (lx:=loc) (ly:=lb) (a:=l) (b:=b1) (c:=.node ly iy b2 a) (Qw qd) ((Qt V3).trans t4.1) (tr.set _ nl) (t4.2.1.set _ (by simp only[Tr.Qz,List.nodup_cons,List.nodup_append,List.mem_cons,List.mem_append] at nd ⊢;grind)) (t4.2.2.set _ (by simp only[Tr.Qz,List.nodup_cons,List.nodup_append,List.mem_cons,List.mem_append] at nd ⊢;grind)) (by simp only[Tr.Qz,List.nodup_cons,List.nodup_append,List.mem_cons,List.mem_append] at nd ⊢;grind) (by simp only[Tr.size];omega)) rfl fun d h8 hR=>?_
      ·simp only[go_sem,simprocAttr]
      obtain ⟨rfl,t8,l8,k8⟩:=hR
      refine Qc hb ?_
      simp only[go_sem,simprocAttr]
      refine ⟨(.node lb ib (.node loc it l b1) (.node ly iy b2 a)),rfl,u2.trans ⟨t8,by simp [Tr.list],by simp only[Tr.Qz,List.nodup_cons,List.nodup_append,List.mem_cons,List.mem_append] at nd ⊢;grind,fun k hk=>.inl (by simp only[Tr.Qz,List.mem_cons,List.mem_append] at hk ⊢;grind),fun k _ hk=>?_,by rw[l8,List.length_set,l4];exact Nat.le_refl _⟩⟩
      simp only[Tr.Qz,List.mem_cons,List.mem_append,not_or] at hk
      rw[k8 k (by grind) (by grind),Qt (by grind),k4 k (by grind) (by grind)]
    ·have d2:=decide_eq_false c2
     simp only[go_sem,simprocAttr,Qa,d2]
     refine Qc hb ?_
     simp only[go_sem,simprocAttr]
     refine Q5 hb CE rfl ?_ (PS (lx:=loc) (ly:=ly) (a:=l) (b:=b) (c:=a) h3 h4 t2.2.1 t2.2.2.2.1 t2.2.2.2.2 (by simp only[Tr.Qz,List.nodup_cons,List.nodup_append,List.mem_cons,List.mem_append] at nd ⊢;grind) (by omega)) rfl fun d h8 hR=>?_
     ·simp only[go_sem,simprocAttr]
     obtain ⟨rfl,t8,l8,k8⟩:=hR
     refine Qc hb ?_
     simp only[go_sem,simprocAttr]
     refine ⟨(.node ly iy (.node loc it l b) a),rfl,u2.trans ⟨t8,by simp [Tr.list],by simp only[Tr.Qz,List.nodup_cons,List.nodup_append,List.mem_cons,List.mem_append] at nd ⊢;grind,fun k hk=>.inl (by simp only[Tr.Qz,List.mem_cons,List.mem_append] at hk ⊢;grind),fun k _ hk=>?_,by rw[l8];exact Nat.le_refl _⟩⟩
     simp only[Tr.Qz,List.mem_cons,List.mem_append,not_or] at hk
     exact k8 k (by grind) (by grind)
 ·have d0:=decide_eq_false c0
  simp only[go_sem,simprocAttr,Qa,d0]
  cases l with
  | nil=>exact absurd (Nat.zero_le _) c0
  | node ly iy a b=>
   have Zz:=hs
   simp only[Tr.size] at Zz
   have h4:=t2.2.1.1
   have qM:=Qd h4
   have QD:loc≠ly:=by rintro rfl;simp [Tr.Qz,List.nodup_cons,List.nodup_append,List.mem_cons,List.mem_append] at nd
   refine QA Qe hb 200 mixed [(0,true),(1,true),(2,true),(3,true),(4,true),(5,true),(6,true),(8,true),(9,true),(10,true),(11,true),(12,true),(13,true),(7,false),(14,false),(15,true)] (by kernel_rfl) (by kernel_rfl) ?_
   simp only[go_sem,simprocAttr,Qa,h3,ZD,h4,qM]
   refine Ju hb XX rfl ?_ (X2 t2.2.1.2.2.toR) rfl fun d hR=>?_
   ·simp only[go_sem,simprocAttr,Qa,h3,ZD,h4,qM]
   subst hR
   refine QF hb ?_
   simp only[go_sem,simprocAttr,Qa,h3,ZD,h4,qM]
   refine Ju hb XX rfl ?_ (X2 t2.2.1.2.1.toR) rfl fun d hR=>?_
   ·simp only[go_sem,simprocAttr,Qa,h3,ZD,h4,qM]
   subst hR
   refine QF hb ?_
   simp only[go_sem,simprocAttr,Qa,h3,ZD,h4,qM]
   by_cases c2:a.high<b.high
   ·have d2:=decide_eq_true c2
    simp only[go_sem,simprocAttr,Qa,d2]
    cases b with
    | nil=>exact absurd c2 (Nat.not_lt_zero _)
    | node lb ib b1 b2=>
     simp only[Tr.kZ] at h4
     simp only[Tr.size] at Zz
     have h5:=t2.2.1.2.2.1
     have Qkf:=Qd h5
     have V3:loc≠lb:=by rintro rfl;simp [Tr.Qz,List.nodup_cons,List.nodup_append,List.mem_cons,List.mem_append] at nd
     have yx:ly≠lb:=by rintro rfl;simp [Tr.Qz,List.nodup_cons,List.nodup_append,List.mem_cons,List.mem_append] at nd
     refine VY [5] Qe hb 200 mixed [(0,true),(1,true),(2,true),(3,true),(4,true),(6,true),(7,true),(5,false),(8,true),(9,false)] [] (by kernel_rfl) (by kernel_rfl) ?_
     simp only[go_sem,simprocAttr,Qa,h3,ZD]
     refine Wf hb CE rfl ?_ (PS (lx:=ly) (ly:=lb) (a:=a) (b:=b1) (c:=b2) h4 h5 t2.2.1.2.1 t2.2.1.2.2.2.1 t2.2.1.2.2.2.2 (by simp only[Tr.Qz,List.nodup_cons,List.nodup_append,List.mem_cons,List.mem_append] at nd ⊢;grind) (by omega)) rfl fun d h6 hR=>?_
     ·simp only[go_sem,simprocAttr]
     obtain ⟨rfl,t4,l4,k4⟩:=hR
     have h7:h6[loc]? = _:=(k4 loc QD V3).trans h3
     have qd:=Qd h7
     refine QF hb ?_
     simp only[go_sem,simprocAttr,Qa,h7,qd]
     have tr:JB h6 r:=t2.2.2.frame fun k hk=>k4 k (by rintro rfl;simp only[Tr.Qz,List.nodup_cons,List.nodup_append,List.mem_cons,List.mem_append] at nd;grind) (by rintro rfl;simp only[Tr.Qz,List.nodup_cons,List.nodup_append,List.mem_cons,List.mem_append] at nd;grind)
     refine Qc hb ?_
     simp only[go_sem,simprocAttr]
     refine Q5 hb CE rfl ?_ (PR (lx:=loc) (ly:=lb) (a:=.node ly iy a b1) (b:=b2) (c:=r) (Qw qd) ((Qt V3).trans t4.1) (t4.2.1.set _ (by simp only[Tr.Qz,List.nodup_cons,List.nodup_append,List.mem_cons,List.mem_append] at nd ⊢;grind)) (t4.2.2.set _ (by simp only[Tr.Qz,List.nodup_cons,List.nodup_append,List.mem_cons,List.mem_append] at nd ⊢;grind)) (tr.set _ nr) (by simp only[Tr.Qz,List.nodup_cons,List.nodup_append,List.mem_cons,List.mem_append] at nd ⊢;grind) (by simp only[Tr.size];omega)) rfl fun d h8 hR=>?_
     ·simp only[go_sem,simprocAttr]
     obtain ⟨rfl,t8,l8,k8⟩:=hR
     refine Qc hb ?_
     simp only[go_sem,simprocAttr]
     refine ⟨(.node lb ib (.node ly iy a b1) (.node loc it b2 r)),rfl,u2.trans ⟨t8,by simp [Tr.list],by simp only[Tr.Qz,List.nodup_cons,List.nodup_append,List.mem_cons,List.mem_append] at nd ⊢;grind,fun k hk=>.inl (by simp only[Tr.Qz,List.mem_cons,List.mem_append] at hk ⊢;grind),fun k _ hk=>?_,by rw[l8,List.length_set,l4];exact Nat.le_refl _⟩⟩
     simp only[Tr.Qz,List.mem_cons,List.mem_append,not_or] at hk
     rw[k8 k (by grind) (by grind),Qt (by grind),k4 k (by grind) (by grind)]
   ·have d2:=decide_eq_false c2
    simp only[go_sem,simprocAttr,Qa,d2]
    refine Qc hb ?_
    simp only[go_sem,simprocAttr]
    refine Q5 hb CE rfl ?_ (PR (lx:=loc) (ly:=ly) (a:=a) (b:=b) (c:=r) h3 h4 t2.2.1.2.1 t2.2.1.2.2 t2.2.2 (by simp only[Tr.Qz,List.nodup_cons,List.nodup_append,List.mem_cons,List.mem_append] at nd ⊢;grind) (by omega)) rfl fun d h8 hR=>?_
    ·simp only[go_sem,simprocAttr]
    obtain ⟨rfl,t8,l8,k8⟩:=hR
    refine Qc hb ?_
    simp only[go_sem,simprocAttr]
    refine ⟨(.node ly iy a (.node loc it b r)),rfl,u2.trans ⟨t8,by simp [Tr.list],by simp only[Tr.Qz,List.nodup_cons,List.nodup_append,List.mem_cons,List.mem_append] at nd ⊢;grind,fun k hk=>.inl (by simp only[Tr.Qz,List.mem_cons,List.mem_append] at hk ⊢;grind),fun k _ hk=>?_,by rw[l8];exact Nat.le_refl _⟩⟩
    simp only[Tr.Qz,List.mem_cons,List.mem_append,not_or] at hk
    exact k8 k (by grind) (by grind)
theorem FT (d:D):Vb d d=True:=by cases d <;> simp [Vb]
theorem PU:∀ l:List D,WZ l l
 | []=>trivial
 | d::r=>⟨(FT d).mpr trivial,PU r⟩
theorem nT {h:List Ob} {loc:Nat} {it:It} {l r:Tr} (i:W2 h (.node loc it l r)) (a:Nat) (k:Int):QQ Tryz.prog 262 h [.ptr loc 0 0 0,.agg [u64 a,Qb k]] (fun d=>d=Qb (if Z7 it.ka it.ki a k then 1 else 0)):=by
 have h2:=i.1
 have c1:=PO a k it.ka it.ki
 have e1:(0<WG a k it.ka it.ki)↔Z7 it.ka it.ki a k:=QjW
 generalize WG a k it.ka it.ki=p at *
 refine Zh Qe 200 Tryz.func262 rfl Tryz.ntmps262 Tryz.results262 rfl fun base w pl F hF QR hb=>?_
 rw[← hF] at h2
 have Ji:=Qd h2
 simp only[go_sem,simprocAttr,Qa,h2,Ji]
 refine QA Qe hb 200 mixed [(0,true),(1,true),(2,true),(3,true),(4,true),(5,true),(6,false),(7,true)] (by kernel_rfl) (by kernel_rfl) ?_
 simp only[go_sem,simprocAttr,Qa,h2,Ji]
 refine Zo hb O8 rfl ?_ c1 (Qm.flat rfl) rfl fun d h hR=>?_
 ·simp only[go_sem,simprocAttr]
 obtain ⟨rfl,rfl⟩:=hR
 refine QF hb ?_
 simp only[go_sem,simprocAttr]
 by_cases hp:0<p
 ·have d1:=decide_eq_true hp
  simp only[go_sem,simprocAttr,Qa,d1]
  rw[if_pos (e1.1 hp)]
  exact ⟨_,rfl,rfl⟩
 ·have d1:=decide_eq_false hp
  simp only[go_sem,simprocAttr,Qa,d1]
  rw[if_neg (fun h=>hp (e1.2 h))]
  exact ⟨_,rfl,rfl⟩
structure PV (dv:D) (f nf:Nat) (QB:List D) (B:List (Nat × Ob)) (a:Nat) (k:Int) (fL:Tr→List It) (N:Nat) (Nl:Prop):Prop where
 nU:Qo Tryz.prog f
 nV:J6 dv=some (f,nf,QB)
 len:∀ s,(fL s).length≤s.size+1
 run:∀ (h:List Ob) (s:Tr),JB h s→s.Qz.Nodup→s.size≤N→JF s.list→(s=.nil→Nl)→(∀ loc it l r,s=.node loc it l r→it.ka=a∧it.ki=k)→(∀ p∈B,h[p.1]? = some p.2∧p.1 ∉ s.Qz) →
  QG Tryz.prog f h (Z6 nf QB [s.ptr]) (fun d h'=>∃ s',d=s'.ptr∧Xs h s (fL s) h' s')
theorem PW {a:Nat} {k:Int} {fL:Tr→List It} (hf:∀ s,(fL s).length≤s.size+1):∀ t:Tr,(t.jP a k fL).length≤t.size+1
 | .nil=>hf _
 | .node loc it l r=>by
  have h1:=PW (a:=a) (k:=k) hf l
  have h2:=PW (a:=a) (k:=k) hf r
  have h3:=hf (.node loc it l r)
  have h4:=Tr.jM l
  have h5:=Tr.jM r
  rw[Tr.jP]
  split
  ·exact h3
  ·split
   ·simp only[List.length_append,List.length_cons,Tr.size] at *;omega
   ·simp only[List.length_append,List.length_cons,Tr.size] at *;omega
theorem JB.app {h:List Ob} {t:Tr} (i:JB h t) (g:List Ob):JB (h++g) t:=i.frame fun l hl=>QU (i.lt l hl)
theorem Xs.under {h g h':List Ob} {t t':Tr} {L:List It} (u:Xs (h++g) t L h' t'):Xs h t L h' t':=
 ⟨u.is,u.list,u.nd,fun l hl=>by
  rcases u.mem l hl with h1 | h1
  ·exact .inl h1
  ·exact .inr (by simp only[List.length_append] at h1;omega),fun l hl hn=>by rw[u.keep l (by simp only[List.length_append];omega) hn,QU hl],by have:=u.len;simp only[List.length_append] at this;omega⟩
theorem FU {dv:D} {f nf:Nat} {QB:List D} {B:List (Nat × Ob)} {a:Nat} {k:Int} {fL:Tr→List It} {N:Nat} {Nl:Prop} (O:PV dv f nf QB B a k fL N Nl) (hN:N<700000) :
  ∀ (t:Tr) (h:List Ob),JB h t→t.Qz.Nodup→t.size≤N→JF t.list→(t.find a k=.nil→Nl)→(∀ p∈B,h[p.1]? = some p.2∧p.1 ∉ t.Qz) →
   QG Tryz.prog 213 h [t.ptr,.agg [u64 a,Qb k],dv] (fun d h'=>∃ t',d=t'.ptr∧Xs h t (t.jP a k fL) h' t')
 | .nil,h,i,nd,hs,JP,LK,hB=>by
  have hd:=O.run
  have hO:=O.nU
  have hc:=O.nV
  refine QW Qe 200 Tryz.func213 rfl Tryz.ntmps213 Tryz.results213 rfl fun base w pl hb=>?_
  simp only[go_sem,simprocAttr,Qa]
  refine QA Qe hb 200 mixed [(0,true),(1,true),(2,true),(3,true),(4,true),(5,true),(6,true),(7,true),(8,true),(9,true),(10,true)] (by kernel_rfl) (by kernel_rfl) ?_
  simp only[go_sem,simprocAttr,Qa]
  refine Q5 hb hO hc (PU _) (hd _ .nil trivial (by simp [Tr.Qz]) (Nat.zero_le _) JP (fun _=>LK rfl) (fun _ _ _ _ e=>by cases e) fun p hp=>⟨(QU (Qd (hB p hp).1)).trans (hB p hp).1,(hB p hp).2⟩) rfl fun d h2 hR=>?_
  obtain ⟨s',rfl,u⟩:=hR
  refine Qc hb ?_
  simp only[go_sem,simprocAttr]
  exact ⟨s',rfl,u.under⟩
 | .node loc it l r,h,i,nd,hs,JP,LK,hB=>by
  have hd:=O.run
  have hO:=O.nU
  have hc:=O.nV
  have h1:=i.1
  have qc:=nd
  simp only[Tr.Qz,List.nodup_cons,List.mem_append,not_or] at qc
  obtain ⟨⟨nl,nr⟩,nd3⟩:=qc
  have hlen:=PW (a:=a) (k:=k) O.len
  obtain ⟨sl,sr,_,_⟩:=wJ.1 (show JF (l.list++it::r.list) from JP)
  refine QW Qe 200 Tryz.func213 rfl Tryz.ntmps213 Tryz.results213 rfl fun base w pl hb=>?_
  have Qx:=Qd h1
  simp only[go_sem,simprocAttr,Qa,h1,Qx]
  refine QA Qe hb 200 mixed [(0,true),(1,true),(2,true),(3,true),(4,true),(5,true),(6,true),(7,true),(8,true),(9,true),(10,true)] (by kernel_rfl) (by kernel_rfl) ?_
  simp only[go_sem,simprocAttr,Qa,h1,Qx]
  by_cases e1:it.ka=a∧it.ki=k
  ·have d1:((it.ka:Int) == (a:Int) && it.ki == k)=true:=by simp [e1.1,e1.2]
   simp only[go_sem,simprocAttr,Qa,d1,Tr.jP,if_pos e1]
   refine Q5 hb hO hc (PU _) (hd _ (.node loc it l r) (i.app _) nd hs JP (fun e=>by cases e) (fun _ _ _ _ e=>by cases e;exact e1) fun p hp=>⟨(QU (Qd (hB p hp).1)).trans (hB p hp).1,(hB p hp).2⟩) rfl fun d h2 hR=>?_
   obtain ⟨s',rfl,u⟩:=hR
   refine Qc hb ?_
   simp only[go_sem,simprocAttr]
   exact ⟨s',rfl,u.under⟩
  have d1:((it.ka:Int) == (a:Int) && it.ki == k)=false:=by
   rw[Bool.eq_false_iff];intro hh;simp only[Bool.and_eq_true,beq_iff_eq] at hh;exact e1 ⟨by omega,hh.2⟩
  simp only[go_sem,simprocAttr,Qa,d1,Tr.jP,if_neg e1]
  refine QL hb mM rfl ?_ (nT (i.app _).toR a k) rfl fun d hR=>?_
  ·simp only[go_sem,simprocAttr,Qa,h1,Qx]
  subst hR
  refine Qc hb ?_
  simp only[go_sem,simprocAttr,Qa,h1,Qx]
  by_cases e2:Z7 it.ka it.ki a k
  ·simp only[if_pos e2]
   refine VY [10] Qe hb 200 mixed [(0,true),(1,true),(2,true),(3,true),(4,true),(5,true),(6,true),(7,true),(8,true),(9,true),(11,true),(12,true),(10,false),(13,true),(14,false)] [] (by kernel_rfl) (by kernel_rfl) ?_
   simp only[go_sem,simprocAttr,Qa,h1,Qx]
   refine Wf hb Fv rfl ?_ (FU O hN r _ (i.2.2.app _) (by simp only[Tr.Qz,List.nodup_cons,List.nodup_append,List.mem_cons,List.mem_append] at nd ⊢;grind) (by simp only[Tr.size] at hs;omega) sr (fun e=>LK (by rw[Tr.find,if_neg e1,if_pos e2];exact e)) fun p hp=>⟨(QU (Qd (hB p hp).1)).trans (hB p hp).1,fun hm=>(hB p hp).2 (by simp only[Tr.Qz,List.mem_cons,List.mem_append];grind)⟩) rfl fun d h6 hR=>?_
   ·simp only[go_sem,simprocAttr,FT]
   obtain ⟨t',rfl,u⟩:=hR
   have u:=u.under
   have h7:h6[loc]? = _:=(u.keep loc Qx (by simp only[Tr.Qz,List.nodup_cons,List.nodup_append,List.mem_cons,List.mem_append] at nd ⊢;grind)).trans h1
   have qd:=Qd h7
   have ul:=u.list
   have Zz:=Tr.jM t'
   rw[ul] at Zz
   have Jd:=hlen r
   have nt:loc ∉ t'.Qz:=fun hm=>by
    rcases u.mem loc hm with h9 | h9
    ·simp only[Tr.Qz,List.nodup_cons,List.nodup_append,List.mem_cons,List.mem_append] at nd;grind
    ·omega
   have no:∀ k∈l.Qz,k ∉ t'.Qz:=fun k hk hm=>by
    have FV:=i.2.1.lt k hk
    rcases u.mem k hm with h9 | h9
    ·simp only[Tr.Qz,List.nodup_cons,List.nodup_append,List.mem_cons,List.mem_append] at nd;grind
    ·omega
   have to:JB h6 l:=i.2.1.frame fun k hk=>u.keep k (i.2.1.lt k hk) (by simp only[Tr.Qz,List.nodup_cons,List.nodup_append,List.mem_cons,List.mem_append] at nd ⊢;grind)
   refine QF hb ?_
   simp only[go_sem,simprocAttr,Qa,h7,qd]
   refine Qc hb ?_
   simp only[go_sem,simprocAttr]
   refine Q5 hb Pc rfl ?_ (PT (loc:=loc) (l:=l) (r:=t') ⟨Qw qd,to.set _ nl,u.is.set _ nt⟩ (by
    have a1:=u.nd
    simp only[Tr.Qz,List.nodup_cons,List.nodup_append,List.mem_cons,List.mem_append] at nd ⊢
    grind) (by simp only[Tr.size] at hs;omega)) rfl fun d h8 hR=>?_
   ·simp only[go_sem,simprocAttr]
   obtain ⟨t'',rfl,v⟩:=hR
   refine Qc hb ?_
   simp only[go_sem,simprocAttr]
   have vl:=v.list
   refine ⟨t'',rfl,v.is,by rw[vl,ul],v.nd,fun k hk=>?_,fun k hk hn=>?_,by have q1:=v.len;have q2:=u.len;simp only[List.length_set] at q1;omega⟩
   ·rcases v.mem k hk with h9 | h9
    ·have a2:=u.mem k
     simp only[Tr.Qz,List.mem_cons,List.mem_append] at h9 ⊢
     grind
    ·have:=u.len;simp only[List.length_set] at h9;exact .inr (by omega)
   ·have a2:=u.mem k
    have a3:=u.len
    rw[v.keep k (by simp only[List.length_set];omega) (fun h9=>by
     simp only[Tr.Qz,List.mem_cons,List.mem_append] at h9 hn
     rcases h9 with h9 | h9 | h9
     ·exact hn (.inl h9)
     ·exact hn (.inr (.inl h9))
     ·rcases a2 h9 with Yk | Yk
      ·exact hn (.inr (.inr Yk))
      ·omega),Qt (fun h9=>hn (by rw[h9];simp [Tr.Qz])),u.keep k hk (fun h9=>hn (by simp only[Tr.Qz,List.mem_cons,List.mem_append];grind))]
  ·simp only[if_neg e2]
   refine VY [10] Qe hb 200 mixed [(0,true),(1,true),(2,true),(3,true),(4,true),(5,true),(6,true),(7,true),(8,true),(9,true),(11,true),(12,true),(10,false),(13,true),(14,false)] [] (by kernel_rfl) (by kernel_rfl) ?_
   simp only[go_sem,simprocAttr,Qa,h1,Qx]
   refine Wf hb Fv rfl ?_ (FU O hN l _ (i.2.1.app _) (by simp only[Tr.Qz,List.nodup_cons,List.nodup_append,List.mem_cons,List.mem_append] at nd ⊢;grind) (by simp only[Tr.size] at hs;omega) sl (fun e=>LK (by rw[Tr.find,if_neg e1,if_neg e2];exact e)) fun p hp=>⟨(QU (Qd (hB p hp).1)).trans (hB p hp).1,fun hm=>(hB p hp).2 (by simp only[Tr.Qz,List.mem_cons,List.mem_append];grind)⟩) rfl fun d h6 hR=>?_
   ·simp only[go_sem,simprocAttr,FT]
   obtain ⟨t',rfl,u⟩:=hR
   have u:=u.under
   have h7:h6[loc]? = _:=(u.keep loc Qx (by simp only[Tr.Qz,List.nodup_cons,List.nodup_append,List.mem_cons,List.mem_append] at nd ⊢;grind)).trans h1
   have qd:=Qd h7
   have ul:=u.list
   have Zz:=Tr.jM t'
   rw[ul] at Zz
   have Jd:=hlen l
   have nt:loc ∉ t'.Qz:=fun hm=>by
    rcases u.mem loc hm with h9 | h9
    ·simp only[Tr.Qz,List.nodup_cons,List.nodup_append,List.mem_cons,List.mem_append] at nd;grind
    ·omega
   have no:∀ k∈r.Qz,k ∉ t'.Qz:=fun k hk hm=>by
    have FV:=i.2.2.lt k hk
    rcases u.mem k hm with h9 | h9
    ·simp only[Tr.Qz,List.nodup_cons,List.nodup_append,List.mem_cons,List.mem_append] at nd;grind
    ·omega
   have to:JB h6 r:=i.2.2.frame fun k hk=>u.keep k (i.2.2.lt k hk) (by simp only[Tr.Qz,List.nodup_cons,List.nodup_append,List.mem_cons,List.mem_append] at nd ⊢;grind)
   refine QF hb ?_
   simp only[go_sem,simprocAttr,Qa,h7,qd]
   refine Qc hb ?_
   simp only[go_sem,simprocAttr]
   refine Q5 hb Pc rfl ?_ (PT (loc:=loc) (l:=t') (r:=r) ⟨Qw qd,u.is.set _ nt,to.set _ nr⟩ (by
    have a1:=u.nd
    simp only[Tr.Qz,List.nodup_cons,List.nodup_append,List.mem_cons,List.mem_append] at nd ⊢
    grind) (by simp only[Tr.size] at hs;omega)) rfl fun d h8 hR=>?_
   ·simp only[go_sem,simprocAttr]
   obtain ⟨t'',rfl,v⟩:=hR
   refine Qc hb ?_
   simp only[go_sem,simprocAttr]
   have vl:=v.list
   refine ⟨t'',rfl,v.is,by rw[vl,ul],v.nd,fun k hk=>?_,fun k hk hn=>?_,by have q1:=v.len;have q2:=u.len;simp only[List.length_set] at q1;omega⟩
   ·rcases v.mem k hk with h9 | h9
    ·have a2:=u.mem k
     simp only[Tr.Qz,List.mem_cons,List.mem_append] at h9 ⊢
     grind
    ·have:=u.len;simp only[List.length_set] at h9;exact .inr (by omega)
   ·have a2:=u.mem k
    have a3:=u.len
    rw[v.keep k (by simp only[List.length_set];omega) (fun h9=>by
     simp only[Tr.Qz,List.mem_cons,List.mem_append] at h9 hn
     rcases h9 with h9 | h9 | h9
     ·exact hn (.inl h9)
     ·rcases a2 h9 with Yk | Yk
      ·exact hn (.inr (.inl Yk))
      ·omega
     ·exact hn (.inr (.inr h9))),Qt (fun h9=>hn (by rw[h9];simp [Tr.Qz])),u.keep k hk (fun h9=>hn (by simp only[Tr.Qz,List.mem_cons,List.mem_append];grind))]
def qf (t:Tr):Ob:=⟨.one,0,1,1,fun _=>[t.ptr]⟩
attribute [go_sem] qf
theorem nW {h:List Ob} {tl:Nat} {t:Tr} (ht:(h.map Ob.ro)[tl]? = some (qf t).ro) (i:W2 h t) (a:Nat) (k:Int) :
  QQ Tryz.prog 212 h [.ptr tl 0 0 0,.agg [u64 a,Qb k]] (fun d=>d=(t.find a k).ptr):=by
 refine Zh Qe 200 Tryz.func212 rfl Tryz.ntmps212 Tryz.results212 rfl fun base w pl F hF QR hb=>?_
 rw[← hF] at ht
 have QV:=Qd ht
 simp only[go_sem,simprocAttr,Qa,ht,QV]
 refine ZB (fun j st=>∃ s:Tr,s.size+j≤t.size∧W2 h s∧s.find a k=t.find a k∧st=⟨[(3,.ptr F.length 0 0 0),(5,s.ptr)],F++[⟨.one,0,2,1,fun _=>[u64 a,Qb k]⟩]⟩) t.size (s0:=⟨[(3,.ptr F.length 0 0 0),(5,t.ptr)],F++[⟨.one,0,2,1,fun _=>[u64 a,Qb k]⟩]⟩) ?_ ⟨t,by omega,i,rfl,rfl⟩ ?_
 ·exact Ql.frame (by simp only[go_sem,simprocAttr])
 rintro j _ hj ⟨s,hs,is,hf,rfl⟩
 cases s with
 | nil=>
  refine Qc hb ?_
  simp only[go_sem,simprocAttr,Qa]
  refine QA Qe hb 200 mixed [(0,true),(1,true),(2,true),(3,true),(4,true),(5,true),(6,true),(7,true),(8,true),(9,true),(10,true)] (by kernel_rfl) (by kernel_rfl) ?_
  simp only[go_sem,simprocAttr,Qa,Go.undef]
  refine Qc hb ?_
  simp only[go_sem,simprocAttr]
  exact ⟨_,rfl,by rw[← hf];rfl⟩
 | node loc it l r=>
  have h3:=is.1
  rw[← hF] at h3
  have ZD:=Qd h3
  refine Qc hb ?_
  simp only[go_sem,simprocAttr,Qa]
  refine QA Qe hb 200 mixed [(0,true),(1,true),(2,true),(3,true),(4,true),(5,true),(6,true),(7,true),(8,true),(9,true),(10,true)] (by kernel_rfl) (by kernel_rfl) ?_
  simp only[go_sem,simprocAttr,Qa,h3,ZD]
  rw[Tr.find] at hf
  by_cases e1:it.ka=a∧it.ki=k
  ·have d1:((it.ka:Int) == (a:Int) && it.ki == k)=true:=by simp [e1.1,e1.2]
   rw[if_pos e1] at hf
   simp only[go_sem,simprocAttr,Qa,d1,bne]
   refine Qc hb ?_
   simp only[go_sem,simprocAttr,ZD]
   exact ⟨_,rfl,by rw[← hf];rfl⟩
  ·have d1:((it.ka:Int) == (a:Int) && it.ki == k)=false:=by
    rw[Bool.eq_false_iff];intro hh;simp only[Bool.and_eq_true,beq_iff_eq] at hh;exact e1 ⟨by omega,hh.2⟩
   rw[if_neg e1] at hf
   simp only[go_sem,simprocAttr,Qa,d1,bne]
   refine QA Qe hb 200 mixed [(0,true),(1,true),(2,true),(4,true),(5,true),(3,false),(6,true),(7,true),(8,true)] (by kernel_rfl) (by kernel_rfl) ?_
   simp only[go_sem,simprocAttr,Qa,h3,ZD]
   refine Ju hb mM rfl ?_ (nT (is.more (yu hF)) a k) rfl fun d hR=>?_
   ·simp only[go_sem,simprocAttr,Qa,h3,ZD]
   subst hR
   refine QF hb ?_
   simp only[go_sem,simprocAttr,Qa,h3,ZD]
   have Zz:l.size+j+1≤t.size∧r.size+j+1≤t.size:=by simp only[Tr.size] at hs;omega
   by_cases e2:Z7 it.ka it.ki a k
   ·rw[if_pos e2] at hf
    simp only[go_sem,simprocAttr,Qa,if_pos e2,h3,ZD]
    refine ⟨by omega,_,Ql.frame (by simp only[go_sem,simprocAttr]),r,by omega,is.2.2,hf,rfl⟩
   ·rw[if_neg e2] at hf
    simp only[go_sem,simprocAttr,Qa,if_neg e2,h3,ZD]
    refine ⟨by omega,_,Ql.frame (by simp only[go_sem,simprocAttr]),l,by omega,is.2.1,hf,rfl⟩
theorem Qkg {h:List Ob} {lk lv:Nat} {x:It} (hk:h[lk]? = some ⟨.one,0,2,1,fun _=>[u64 x.ka,Qb x.ki]⟩) (hv:h[lv]? = some ⟨.one,0,2,1,fun _=>[u64 x.va,Qb x.vi]⟩) (s:Tr) :
  QG Tryz.prog 214 h [s.ptr,.ptr lk 0 0 0,.ptr lv 0 0 0] (fun d h'=>∃ s',d=s'.ptr∧Xs h s [x] h' s'):=by
 refine QW Qe 200 Tryz.func214 rfl Tryz.ntmps214 Tryz.results214 rfl fun base w pl hb=>?_
 have Qkh:=Qd hk
 have Qki:=Qd hv
 simp only[go_sem,simprocAttr,Qa,hk,Qkh,hv,Qki]
 refine Q5 hb kR rfl ?_ (k9 (loc:=h.length) (it:=x) (l:=.nil) (r:=.nil) (le:=⟨0,0,0,0⟩) (hi:=0) (n:=0) ⟨Kq rfl,trivial,trivial⟩ (by simp [Tr.size]) (by simp [Tr.size]) (by simp [Tr.Qz]) (by simp [Tr.Qz])) rfl fun d h2 hR=>?_
 ·simp only[go_sem,simprocAttr]
 refine Qc hb ?_
 simp only[go_sem,simprocAttr]
 refine ⟨.node h.length x .nil .nil,rfl,⟨?_,trivial,trivial⟩,rfl,by simp [Tr.Qz],fun l hl=>.inr (by simp [Tr.Qz] at hl;omega),fun l hl _=>?_,by rw[hR];simp⟩
 ·rw[hR,Qw (by simp)]
 ·rw[hR,Qt (by omega),QU hl]
structure zJ (h:List Ob) (tl:Nat) (t:Tr) (L:List It):Prop where
 o:h[tl]? = some (qf t)
 is:JB h t
 list:t.list=L
 nd:t.Qz.Nodup
 out:tl ∉ t.Qz
 sorted:JF L
structure FW (h:List Ob) (tl:Nat) (t:Tr) (L:List It) (h':List Ob) (t':Tr):Prop where
 is:zJ h' tl t' L
 mem:∀ l∈t'.Qz,l∈t.Qz∨h.length≤l
 keep:∀ l,l<h.length→l≠tl→l ∉ t.Qz→h'[l]? = h[l]?
 len:h.length≤h'.length
theorem zJ.app {h:List Ob} {tl:Nat} {t:Tr} {L:List It} (a:zJ h tl t L) (g:List Ob):zJ (h++g) tl t L:=⟨(QU (Qd a.o)).trans a.o,a.is.app g,a.list,a.nd,a.out,a.sorted⟩
theorem zJ.to {h g h2:List Ob} {tl:Nat} {t t':Tr} {L L':List It} (a:zJ h tl t L) (u:Xs (h++g) t L' h2 t') (hs:JF L'):FW h tl t L' (h2.set tl (qf t')) t':=by
 have v:=u.under
 have hl:=Qd a.o
 have h1:h2[tl]? = some (qf t):=(v.keep tl hl a.out).trans a.o
 have nt:tl ∉ t'.Qz:=fun hm=>by
  rcases v.mem tl hm with h3 | h3
  ·exact a.out h3
  ·omega
 exact ⟨⟨Qw (Qd h1),v.is.set _ nt,v.list,v.nd,nt,hs⟩,v.mem,fun l h3 h4 h5=>by rw[Qt (Ne.symm h4)];exact v.keep l h3 h5,by rw[List.length_set];exact v.len⟩
theorem FX {h:List Ob} {tl:Nat} {t:Tr} {L:List It} (A:zJ h tl t L) (x:It) (hf:VN x.ka x.ki L=none) (hs:L.length<600000) :
  QG Tryz.prog 174 h [.ptr tl 0 0 0,.agg [u64 x.ka,Qb x.ki],.agg [u64 x.va,Qb x.vi]] (fun d h'=>d=Qb 0∧∃ t',FW h tl t (Vt x L) h' t'):=by
 have h1:=A.o
 have hl:t.size=L.length:=by rw[← Tr.jM,A.list]
 have PX:(t.find x.ka x.ki)=.nil:=by
  have h2:=Tr.FN (a:=x.ka) (i:=x.ki) t (by rw[A.list];exact A.sorted)
  rw[A.list,hf] at h2
  cases hc:t.find x.ka x.ki with
  | nil=>rfl
  | node a b c d=>rw[hc] at h2;cases h2
 have cf:=fun g=>nW (h:=h++g) (Zv (A.app g).o) (A.is.app g).toR x.ka x.ki
 rw[PX] at cf
 refine QW Qe 200 Tryz.func174 rfl Tryz.ntmps174 Tryz.results174 rfl fun base w pl hb=>?_
 have Qx:=Qd h1
 simp only[go_sem,simprocAttr,Qa,h1,Qx]
 refine QL hb mE rfl ?_ (cf _) rfl fun d hR=>?_
 ·simp only[go_sem,simprocAttr,Qa,h1,Qx]
 subst hR
 refine Qc hb ?_
 simp only[go_sem,simprocAttr,Qa,h1,Qx]
 refine VY [7] Qe hb 200 mixed [(0,true),(1,true),(2,true),(3,true),(4,true),(5,true),(6,true),(7,false),(8,true),(9,true),(10,false)] [] (by kernel_rfl) (by kernel_rfl) ?_
 simp only[go_sem,simprocAttr,Qa,h1,Qx]
 have O:PV (.clo 214 0 [.ptr h.length 0 0 0,.ptr (h.length+1) 0 0 0]) 214 0 [.ptr h.length 0 0 0,.ptr (h.length+1) 0 0 0] [(h.length,⟨.one,0,2,1,fun _=>[u64 x.ka,Qb x.ki]⟩),(h.length+1,⟨.one,0,2,1,fun _=>[u64 x.va,Qb x.vi]⟩)] x.ka x.ki (fun _=>[x]) 600000 True:=
  ⟨QiB,rfl,fun s=>by simp,fun h' s i2 qc Jf _ _ _ hB=>by
   have b1:=(hB (h.length,_) (List.mem_cons_self ..)).1
   have b2:=(hB (h.length+1,_) (List.mem_cons_of_mem _ (List.mem_cons_self ..))).1
   exact Qkg (x:=x) b1 b2 s⟩
 refine Wf hb Fv rfl ?_ (FU O (by decide) t _ (A.is.app _) A.nd (by omega) (by rw[A.list];exact A.sorted) (fun _=>trivial) ?_) rfl fun d h6 hR=>?_
 ·simp only[go_sem,simprocAttr]
 ·intro p hp
  have hm:∀ q,h.length≤q→q ∉ t.Qz:=fun q hq hm=>by have:=A.is.lt q hm;omega
  simp only[List.mem_cons,List.not_mem_nil,or_false] at hp
  rcases hp with rfl | rfl
  ·exact ⟨Kq rfl,hm _ (Nat.le_refl _)⟩
  ·exact ⟨Ve rfl,hm _ (by show h.length≤h.length+1;omega)⟩
 obtain ⟨t',rfl,u⟩:=hR
 rw[PG rfl t (by rw[A.list];exact A.sorted) (by rw[A.list];exact hf),A.list] at u
 have h2:=(u.under.keep tl Qx A.out).trans A.o
 have Ji:=Qd h2
 refine QF hb ?_
 simp only[go_sem,simprocAttr,Qa,h2,Ji]
 exact ⟨t',A.to u (PF A.sorted hf)⟩
theorem Tr.Qkj:∀ t:Tr,t≠.nil→∃ rest,t.list=t.wK::rest:=fun t h=>by
 have h1:=Tr.PH t h
 cases hl:t.list with
 | nil=>rw[hl] at h1;cases h1
 | cons a b=>rw[hl] at h1;simp only[List.head?_cons,Option.some.injEq] at h1;exact ⟨b,by rw[h1]⟩
theorem Qkk {x:It} {L:List It}:VN x.ka x.ki (x::L)=some x:=by
 unfold VN
 rw[List.find?_cons,qb.2 ⟨rfl,rfl⟩]
theorem Qkl {x:It} {L:List It} (hs:JF (x::L)):KU x.ka x.ki (x::L)=L:=by
 have h:=nK x.ka x.ki [] L x hs
 rw[if_pos ⟨rfl,rfl⟩] at h
 exact h
def nX (N:Nat):Prop:=∀ (h:List Ob) (s:Tr),JB h s→s.Qz.Nodup→s.size≤N→JF s.list→s≠.nil →
 QG Tryz.prog 216 h [s.ptr] (fun d h'=>∃ s',d=s'.ptr∧Xs h s s.A0 h' s')
theorem nY {N:Nat} (W:nX N) (a:Nat) (k:Int):PV (.raw (.func (.func 216) #[] #[])) 216 0 [] [] a k Tr.A0 N False:=
 ⟨QiC,rfl,fun s=>by
  cases s with
  | nil=>simp [Tr.A0]
  | node loc it l r=>simp only[Tr.A0,List.length_append,Tr.jM,Tr.size];omega,fun h s i nd hs JP hn _ _=>W h s i nd hs JP fun e=>hn e⟩
theorem nZ:∀ N,N<600000→nX N
 | 0,_,_,.nil,_,_,_,_,hn=>absurd rfl hn
 | 0,_,_,.node _ _ _ _,_,_,hs,_,_=>by simp only[Tr.size] at hs;omega
 | _+1,_,_,.nil,_,_,_,_,hn=>absurd rfl hn
 | N+1,hN,h,.node loc it l .nil,i,nd,hs,JP,_=>by
  have h1:=i.1
  refine QW Qe 200 Tryz.func216 rfl Tryz.ntmps216 Tryz.results216 rfl fun base w pl hb=>?_
  have Qx:=Qd h1
  simp only[go_sem,simprocAttr,Qa,h1,Qx]
  refine ⟨l,rfl,?_⟩
  have u:=Xs.refl i.2.1 (t:=l) (by simp only[Tr.Qz,List.nodup_cons,List.nodup_append] at nd;exact nd.2.1)
  simp only[Tr.A0,Tr.list,List.append_nil]
  exact ⟨u.is,rfl,u.nd,fun x hx=>.inl (by simp [Tr.Qz,hx]),fun _ _ _=>rfl,Nat.le_refl _⟩
 | N+1,hN,h,.node loc it l (.node lr ir rl rr),i,nd,hs,JP,_=>by
  have h1:=i.1
  refine QW Qe 200 Tryz.func216 rfl Tryz.ntmps216 Tryz.results216 rfl fun base w pl hb=>?_
  have Qx:=Qd h1
  simp only[go_sem,simprocAttr,Qa,h1,Qx]
  have qc:=nd
  simp only[Tr.Qz,List.nodup_cons,List.nodup_append,List.mem_cons,List.mem_append,not_or] at qc
  generalize hr:Tr.node lr ir rl rr=r at *
  have n4:r≠.nil:=by rw[← hr];simp
  have hrp:D.ptr lr 0 0 0=r.ptr:=by rw[← hr];rfl
  rw[hrp]
  refine ZB (fun j st=>∃ s:Tr,s.size+j≤r.size∧s≠.nil∧JB h s∧s.wK=r.wK∧(∀ x∈s.Qz,x∈r.Qz)∧st=⟨[(0,.ptr loc 0 0 0),(3,s.ptr)],h⟩) r.size (s0:=⟨[(0,.ptr loc 0 0 0),(3,r.ptr)],h⟩) (Ql.frame (by simp only[go_sem,simprocAttr])) ⟨r,by omega,n4,i.2.2,rfl,fun _ hx=>hx,rfl⟩ ?_
  rintro j _ hj ⟨s,Xt,js,is,hf,KV,rfl⟩
  rcases s with _ | ⟨ls,im,sl,sr⟩
  ·exact absurd rfl js
  have h3:=is.1
  have ZD:=Qd h3
  rcases sl with _ | ⟨a1,a2,a3,a4⟩
  ·have WI:ls∈r.Qz:=KV ls (by simp [Tr.Qz])
   have QD:loc≠ls:=by rintro rfl;simp only[Tr.Qz,List.nodup_cons,List.nodup_append,List.mem_cons,List.mem_append] at nd;grind
   have nl:loc ∉ l.Qz:=by simp only[Tr.Qz,List.nodup_cons,List.nodup_append,List.mem_cons,List.mem_append] at nd;grind
   have nr:loc ∉ r.Qz:=by simp only[Tr.Qz,List.nodup_cons,List.nodup_append,List.mem_cons,List.mem_append] at nd;grind
   have ZI:=Qt (h:=h) (o:=wH im l.ptr r.ptr (Tr.node loc it l r).least ((Tr.node loc it l r).high:Nat) ((Tr.node loc it l r).size:Nat)) QD
   obtain ⟨s1,s2,s3,s4⟩:=wJ.1 (show JF (l.list++it::r.list) from JP)
   obtain ⟨rest,Z5⟩:=Tr.Qkj r n4
   have him:r.wK=im:=by rw[← hf];rfl
   rw[him] at Z5
   have PX:r.find im.ka im.ki=.nil→False:=fun e=>by
    have h5:=Tr.FN (a:=im.ka) (i:=im.ki) r s2
    rw[e,Z5,Qkk] at h5
    cases h5
   have ndr:r.Qz.Nodup:=by simp only[Tr.Qz,List.nodup_cons,List.nodup_append,List.mem_cons,List.mem_append] at nd;grind
   refine Qc hb ?_
   simp only[go_sem,simprocAttr,Qa,h3,ZD]
   refine Qc hb ?_
   simp only[go_sem,simprocAttr,Qa,h1,Qx,h3,ZD]
   refine VY [11] Qe hb 200 mixed [(0,true),(1,true),(2,true),(3,true),(4,true),(5,true),(6,true),(7,true),(8,true),(9,true),(10,true),(12,true),(13,true),(11,false),(14,true),(15,false)] [] (by kernel_rfl) (by kernel_rfl) ?_
   simp only[go_sem,simprocAttr,Qa,h1,Qx,Qw Qx,Qt QD,h3]
   refine Wf hb Fv rfl ?_ (FU (nY (nZ N (by omega)) im.ka im.ki) (by omega) r _ (i.2.2.set _ nr) ndr (by simp only[Tr.size] at hs;omega) s2 PX (fun p hp=>by cases hp)) rfl fun d h6 hR=>?_
   ·simp only[go_sem,simprocAttr,FT]
   obtain ⟨t',rfl,u⟩:=hR
   rw[LG r s2,Z5,Qkl (by rw[← Z5];exact s2)] at u
   have h7:=(u.keep loc (by simpa using Qx) nr).trans (Qw Qx)
   have qd:=Qd h7
   have nt:loc ∉ t'.Qz:=fun hm=>by
    rcases u.mem loc hm with h9 | h9
    ·exact nr h9
    ·simp only[List.length_set] at h9;omega
   have no:∀ k∈l.Qz,k ∉ t'.Qz:=fun k hk hm=>by
    have FV:=i.2.1.lt k hk
    rcases u.mem k hm with h9 | h9
    ·simp only[Tr.Qz,List.nodup_cons,List.nodup_append,List.mem_cons,List.mem_append] at nd;grind
    ·simp only[List.length_set] at h9;omega
   have to:JB h6 l:=(i.2.1.set _ nl).frame fun k hk=>u.keep k (by simpa using i.2.1.lt k hk) (by simp only[Tr.Qz,List.nodup_cons,List.nodup_append,List.mem_cons,List.mem_append] at nd ⊢;grind)
   refine QF hb ?_
   simp only[go_sem,simprocAttr,Qa,h7,qd]
   refine Qc hb ?_
   simp only[go_sem,simprocAttr]
   have ul:=u.list
   have Zz:=Tr.jM t'
   rw[ul] at Zz
   have zC:=Tr.jM r
   rw[Z5,List.length_cons] at zC
   refine Q5 hb Pc rfl ?_ (PT (loc:=loc) (l:=l) (r:=t') (it:=im) ⟨Qw qd,to.set _ nl,u.is.set _ nt⟩ (by
    have a1:=u.nd
    simp only[Tr.Qz,List.nodup_cons,List.nodup_append,List.mem_cons,List.mem_append] at nd ⊢
    grind) (by simp only[Tr.size] at hs;omega)) rfl fun d h8 hR=>?_
   ·simp only[go_sem,simprocAttr]
   obtain ⟨t'',rfl,v⟩:=hR
   refine Qc hb ?_
   simp only[go_sem,simprocAttr]
   have vl:=v.list
   refine ⟨t'',rfl,v.is,by rw[vl,ul,Tr.A0,Z5],v.nd,fun k hk=>?_,fun k hk hn=>?_,by have q1:=v.len;have q2:=u.len;simp only[List.length_set] at q1 q2;omega⟩
   ·have q2:=u.len
    rcases v.mem k hk with h9 | h9
    ·have a2:=u.mem k
     simp only[Tr.Qz,List.mem_cons,List.mem_append,List.length_set] at h9 a2 ⊢
     grind
    ·simp only[List.length_set] at h9 q2;exact .inr (by omega)
   ·have a2:=u.mem k
    have a3:=u.len
    simp only[List.length_set] at a2 a3
    rw[v.keep k (by simp only[List.length_set];omega) (fun h9=>by
     simp only[Tr.Qz,List.mem_cons,List.mem_append] at h9 hn
     rcases h9 with h9 | h9 | h9
     ·exact hn (.inl h9)
     ·exact hn (.inr (.inl h9))
     ·rcases a2 h9 with Yk | Yk
      ·exact hn (.inr (.inr Yk))
      ·omega),Qt (fun h9=>hn (by rw[h9];simp [Tr.Qz])),u.keep k (by simpa using hk) (fun h9=>hn (by simp only[Tr.Qz,List.mem_cons,List.mem_append];grind)),Qt (fun h9=>hn (by rw[h9];simp [Tr.Qz]))]
  ·refine Qc hb ?_
   simp only[go_sem,simprocAttr,Qa,h3,ZD]
   refine ⟨by simp only[Tr.size] at Xt;omega,_,Ql.frame (by simp only[go_sem,simprocAttr]),.node a1 a2 a3 a4,by simp only[Tr.size] at Xt ⊢;omega,by simp,is.2.1,by rw[← hf];rfl,fun x hx=>KV x (by rw[Tr.Qz];simp [hx]),rfl⟩
@[go_sem] def PY (o:Option It):D:=.tup [.agg (o.getD default).cells,QN o.isSome]
theorem PZ {h:List Ob} {tl:Nat} {t:Tr} {L:List It} (A:zJ h tl t L) (a:Nat) (k:Int) (hf:VN a k L≠none) (hs:L.length<500000) :
  QG Tryz.prog 175 h [.ptr tl 0 0 0,.agg [u64 a,Qb k]] (fun d h'=>d=Qb 0∧∃ t',FW h tl t (KU a k L) h' t'):=by
 have h1:=A.o
 have hl:t.size=L.length:=by rw[← Tr.jM,A.list]
 have h2:=Tr.FN (a:=a) (i:=k) t (by rw[A.list];exact A.sorted)
 rw[A.list] at h2
 have cf:=fun g=>nW (h:=h++g) (Zv (A.app g).o) (A.is.app g).toR a k
 cases hc:t.find a k with
 | nil=>rw[hc] at h2;exact absurd h2.symm hf
 | node b1 b2 b3 b4=>
  rw[hc] at cf
  refine QW Qe 200 Tryz.func175 rfl Tryz.ntmps175 Tryz.results175 rfl fun base w pl hb=>?_
  have Qx:=Qd h1
  simp only[go_sem,simprocAttr,Qa,h1,Qx]
  refine QL hb mE rfl ?_ (cf _) rfl fun d hR=>?_
  ·simp only[go_sem,simprocAttr,Qa,h1,Qx]
  subst hR
  refine Qc hb ?_
  simp only[go_sem,simprocAttr,Qa,h1,Qx]
  refine VY [6] Qe hb 200 mixed [(0,true),(1,true),(2,true),(3,true),(4,true),(5,true),(6,false),(7,true),(8,true),(9,false)] [] (by kernel_rfl) (by kernel_rfl) ?_
  simp only[go_sem,simprocAttr,Qa,h1,Qx]
  refine Wf hb Fv rfl ?_ (FU (nY (nZ 500000 (by decide)) a k) (by decide) t _ (A.is.app _) A.nd (by omega) (by rw[A.list];exact A.sorted) (fun e=>by rw[hc] at e;cases e) (fun p hp=>by cases hp)) rfl fun d h6 hR=>?_
  ·simp only[go_sem,simprocAttr,FT]
  obtain ⟨t',rfl,u⟩:=hR
  rw[LG t (by rw[A.list];exact A.sorted),A.list] at u
  have h2:=(u.under.keep tl Qx A.out).trans A.o
  have Ji:=Qd h2
  refine QF hb ?_
  simp only[go_sem,simprocAttr,Qa,h2,Ji]
  exact ⟨t',A.to u (Qj0 A.sorted)⟩
section
variable {h:List Ob} {tl:Nat} {t:Tr} (ht:(h.map Ob.ro)[tl]? = some (qf t).ro) (i:W2 h t)
include ht i
theorem n8:QQ Tryz.prog 164 h [.ptr tl 0 0 0] (fun d=>d=Qb t.size):=by
 refine Zh Qe 200 Tryz.func164 rfl Tryz.ntmps164 Tryz.results164 rfl fun base w pl F hF QR hb=>?_
 rw[← hF] at ht
 have QV:=Qd ht
 simp only[go_sem,simprocAttr,Qa,ht,QV]
 refine QL hb wx rfl ?_ (wN (i.more fun l o e=>by have:=yu (g:=[]) hF l o e;rwa [List.append_nil] at this)) rfl fun d hR=>?_
 ·simp only[go_sem,simprocAttr,Qa,ht,QV]
 subst hR
 refine Qc hb ?_
 simp only[go_sem,simprocAttr,Qa,ht,QV]
 exact ⟨[],by simp⟩
theorem n9:QQ Tryz.prog 102 h [.ptr tl 0 0 0] (fun d=>d=PY t.list.head?):=by
 have i2:∀ {F:List Ob},F=h.map Ob.ro→∀ g,W2 (F++g) t:=fun hF g=>i.more (yu hF)
 have XY:∀ {F:List Ob},F=h.map Ob.ro→∀ g,((F++g).map Ob.ro)[tl]? = some (qf t).ro:=fun hF g=>yu hF _ _ ht
 by_cases hn:t=.nil
 ·subst hn
  refine Zh Qe 200 Tryz.func102 rfl Tryz.ntmps102 Tryz.results102 rfl fun base w pl F hF QR hb=>?_
  rw[← hF] at ht
  have QV:=Qd ht
  simp only[go_sem,simprocAttr,Qa,ht,QV]
  refine QL hb mr rfl ?_ (n8 (XY hF _) (i2 hF _)) rfl fun d hR=>?_
  ·simp only[go_sem,simprocAttr,Qa,ht,QV,Tr.size]
  subst hR
  refine Qc hb ?_
  simp only[go_sem,simprocAttr,Qa,ht,QV,Tr.size]
  exact ⟨_,rfl,rfl⟩
 ·rw[Tr.PH t hn]
  have Zz:t.size≠0:=by cases t with
   | nil=>exact absurd rfl hn
   | node a b c d=>simp only[Tr.size];omega
  have d0:((t.size:Int) == 0)=false:=by simpa using Zz
  refine Zh Qe 200 Tryz.func102 rfl Tryz.ntmps102 Tryz.results102 rfl fun base w pl F hF QR hb=>?_
  rw[← hF] at ht
  have QV:=Qd ht
  simp only[go_sem,simprocAttr,Qa,ht,QV]
  refine QL hb mr rfl ?_ (n8 (XY hF _) (i2 hF _)) rfl fun d hR=>?_
  ·simp only[go_sem,simprocAttr,Qa,ht,QV,d0]
  subst hR
  refine Qc hb ?_
  simp only[go_sem,simprocAttr,Qa,ht,QV,d0]
  refine ZB (fun j st=>∃ s:Tr,s.size+j≤t.size∧s≠.nil∧W2 h s∧s.wK=t.wK∧st=⟨[(2,.ptr F.length 0 0 0),(4,s.ptr)],F++[⟨.one,0,4,1,fun _=>[u64 0,Qb 0,u64 0,Qb 0]⟩]⟩) t.size (s0:=⟨[(2,.ptr F.length 0 0 0),(4,t.ptr)],F++[⟨.one,0,4,1,fun _=>[u64 0,Qb 0,u64 0,Qb 0]⟩]⟩) (Ql.frame (by simp only[go_sem,simprocAttr])) ⟨t,by omega,hn,i,rfl,rfl⟩ ?_
  rintro j _ hj ⟨s,Xt,js,is,hf,rfl⟩
  rcases s with _ | ⟨ls,im,sl,sr⟩
  ·exact absurd rfl js
  have h3:=is.1
  rw[← hF] at h3
  have ZD:=Qd h3
  rcases sl with _ | ⟨a1,a2,a3,a4⟩
  ·refine Qc hb ?_
   simp only[go_sem,simprocAttr,Qa,h3,ZD]
   refine Qc hb ?_
   simp only[go_sem,simprocAttr,Qa,h3,ZD]
   rw[← hf]
   exact ⟨_,rfl,rfl⟩
  ·refine Qc hb ?_
   simp only[go_sem,simprocAttr,Qa,h3,ZD]
   refine ⟨by simp only[Tr.size] at Xt;omega,_,Ql.frame (by simp only[go_sem,simprocAttr]),.node a1 a2 a3 a4,by simp only[Tr.size] at Xt ⊢;omega,by simp,is.2.1,by rw[← hf];rfl,rfl⟩
omit ht i in
theorem Qkp {n loc:Nat} {it:It} {l r:Tr} (h:(Tr.node loc it l r).hasB n=true) (hl:l.hasB n=false) (hi:¬ it.va≤n):r.hasB n=true:=by
 rw[Tr.FO] at h ⊢
 obtain ⟨x,hx,hv⟩:=h
 simp only[Tr.list,List.mem_append,List.mem_cons] at hx
 rcases hx with hx | rfl | hx
 ·have:=(Tr.FO n l).2 ⟨x,hx,hv⟩
  rw[hl] at this;cases this
 ·exact absurd hv hi
 ·exact ⟨x,hx,hv⟩
theorem Qkq (n:Nat):QQ Tryz.prog 167 h [.ptr tl 0 0 0,u64 n] (fun d=>d=PY (t.list.find? fun x=>decide (x.va≤n))):=by
 have i2:∀ {F:List Ob},F=h.map Ob.ro→∀ g,W2 (F++g) t:=fun hF g=>i.more (yu hF)
 rw[← Tr.LH]
 cases hB:t.hasB n with
 | false=>
  have JL:t.first n=none:=by
   rw[Tr.LH,List.find?_eq_none]
   intro x hx hv
   have:=(Tr.FO n t).2 ⟨x,hx,by simpa using hv⟩
   rw[hB] at this;cases this
  rw[JL]
  refine Zh Qe 200 Tryz.func167 rfl Tryz.ntmps167 Tryz.results167 rfl fun base w pl F hF QR hb=>?_
  rw[← hF] at ht
  have QV:=Qd ht
  simp only[go_sem,simprocAttr,Qa,ht,QV]
  refine QL hb Pa rfl ?_ (PQ (i2 hF _) n) rfl fun d hR=>?_
  ·simp only[go_sem,simprocAttr,Qa,ht,QV,hB]
  subst hR
  refine Qc hb ?_
  simp only[go_sem,simprocAttr,Qa,ht,QV,hB]
  exact ⟨_,rfl,rfl⟩
 | true=>
  refine Zh Qe 200 Tryz.func167 rfl Tryz.ntmps167 Tryz.results167 rfl fun base w pl F hF QR hb=>?_
  rw[← hF] at ht
  have QV:=Qd ht
  simp only[go_sem,simprocAttr,Qa,ht,QV]
  refine QL hb Pa rfl ?_ (PQ (i2 hF _) n) rfl fun d hR=>?_
  ·simp only[go_sem,simprocAttr,Qa,ht,QV,hB]
  subst hR
  refine Qc hb ?_
  simp only[go_sem,simprocAttr,Qa,ht,QV,hB]
  have hn:t≠.nil:=by rintro rfl;simp [Tr.hasB] at hB
  refine ZB (fun j st=>∃ s:Tr,s.size+j≤t.size∧s≠.nil∧W2 h s∧s.hasB n=true∧s.first n=t.first n∧st=⟨[(1,u64 n),(4,.ptr F.length 0 0 0),(6,s.ptr)],F++[⟨.one,0,4,1,fun _=>[u64 0,Qb 0,u64 0,Qb 0]⟩]⟩) t.size (s0:=⟨[(1,u64 n),(4,.ptr F.length 0 0 0),(6,t.ptr)],F++[⟨.one,0,4,1,fun _=>[u64 0,Qb 0,u64 0,Qb 0]⟩]⟩) (Ql.frame (by simp only[go_sem,simprocAttr])) ⟨t,by omega,hn,i,hB,rfl,rfl⟩ ?_
  rintro j _ hj ⟨s,Xt,js,is,hsB,hf,rfl⟩
  rcases s with _ | ⟨ls,im,sl,sr⟩
  ·exact absurd rfl js
  have h3:=is.1
  rw[← hF] at h3
  have ZD:=Qd h3
  rw[Tr.first] at hf
  refine Qc hb ?_
  simp only[go_sem,simprocAttr,Qa,h3,ZD]
  refine QL hb Pa rfl ?_ (PQ (is.2.1.more (yu hF)) n) rfl fun d hR=>?_
  ·simp only[go_sem,simprocAttr,Qa,h3,ZD]
  subst hR
  refine Qc hb ?_
  simp only[go_sem,simprocAttr,Qa,h3,ZD]
  cases hL:sl.hasB n with
  | true=>
   rw[hL,if_pos rfl] at hf
   simp only[go_sem,simprocAttr,Qa,hL,h3,ZD]
   refine ⟨by simp only[Tr.size] at Xt;omega,_,Ql.frame (by simp only[go_sem,simprocAttr]),sl,by simp only[Tr.size] at Xt;omega,by rintro rfl;simp [Tr.hasB] at hL,is.2.1,hL,hf,rfl⟩
  | false=>
   rw[hL,if_neg (by decide)] at hf
   simp only[go_sem,simprocAttr,Qa,hL,h3,ZD]
   by_cases hv:im.va≤n
   ·have d1:=decide_eq_true hv
    rw[if_pos hv] at hf
    simp only[go_sem,simprocAttr,Qa,d1,h3,ZD]
    rw[← hf]
    exact ⟨_,rfl,rfl⟩
   ·have d1:=decide_eq_false hv
    rw[if_neg hv] at hf
    simp only[go_sem,simprocAttr,Qa,d1,h3,ZD]
    have hR:=Qkp hsB hL hv
    refine ⟨by simp only[Tr.size] at Xt;omega,_,Ql.frame (by simp only[go_sem,simprocAttr]),sr,by simp only[Tr.size] at Xt;omega,by rintro rfl;simp [Tr.hasB] at hR,is.2.2,hR,hf,rfl⟩
end
@[go_sem] def P0 (o:Option It):Ob:=⟨.one,0,4,1,fun _=>(o.getD default).cells⟩
@[go_sem] def P1 (o:Option It):Ob:=⟨.one,0,1,1,fun _=>[QN o.isSome]⟩
theorem Qks (x:It):Xr x x=x:=by rw[nE,if_neg (FM x)]
theorem oa {h:List Ob} {lm lo:Nat} {o:Option It} (hm:h[lm]? = some (P1 o)) (ho:h[lo]? = some (P0 o)) (QD:lm≠lo) (x:It) :
  QG Tryz.prog 165 h [.agg x.cells,.ptr lm 0 0 0,.ptr lo 0 0 0] (fun _ h'=>∃ g,h'=(h.set lm (P1 (WH o x))).set lo (P0 (WH o x))++g):=by
 have V5:=Ne.symm QD
 cases o with
 | none=>
  have cb:=CX x x
  rw[Qks] at cb
  refine QW Qe 200 Tryz.func165 rfl Tryz.ntmps165 Tryz.results165 rfl fun base w pl hb=>?_
  have QP:=Qd hm
  have Qf:=Qd ho
  simp only[go_sem,simprocAttr,Qa,hm,QP,ho,Qf,Qt QD,Qt V5,Option.isSome_none,Option.isSome_some,Option.getD_some,Option.getD_none,WH,Qw QP,Qw Qf]
  refine QM hb CA rfl ?_ cb (Qm.flat rfl) rfl fun d h hR=>?_
  ·simp only[go_sem,simprocAttr,Qa,hm,QP,ho,Qf,Qt QD,Qt V5,Option.isSome_none,Option.isSome_some,Option.getD_some,Option.getD_none,WH,Qw QP,Qw Qf]
  obtain ⟨rfl,rfl⟩:=hR
  refine Qc hb ?_
  simp only[go_sem,simprocAttr,Qa,hm,QP,ho,Qf,Qt QD,Qt V5,Option.isSome_none,Option.isSome_some,Option.getD_some,Option.getD_none,WH,Qw QP,Qw Qf]
  rw[List.set_comm _ _ V5,List.set_set]
  exact ⟨_,rfl⟩
 | some y=>
  have cb:=CX y x
  refine QW Qe 200 Tryz.func165 rfl Tryz.ntmps165 Tryz.results165 rfl fun base w pl hb=>?_
  have QP:=Qd hm
  have Qf:=Qd ho
  simp only[go_sem,simprocAttr,Qa,hm,QP,ho,Qf,Qt QD,Qt V5,Option.isSome_none,Option.isSome_some,Option.getD_some,Option.getD_none,WH,Qw QP,Qw Qf]
  refine QM hb CA rfl ?_ cb (Qm.flat rfl) rfl fun d h hR=>?_
  ·simp only[go_sem,simprocAttr,Qa,hm,QP,ho,Qf,Qt QD,Qt V5,Option.isSome_none,Option.isSome_some,Option.getD_some,Option.getD_none,WH,Qw QP,Qw Qf]
  obtain ⟨rfl,rfl⟩:=hR
  refine Qc hb ?_
  simp only[go_sem,simprocAttr,Qa,hm,QP,ho,Qf,Qt QD,Qt V5,Option.isSome_none,Option.isSome_some,Option.getD_some,Option.getD_none,WH,Qw QP,Qw Qf]
  exact ⟨_,rfl⟩
theorem Tr.Qkt (n loc:Nat) (it:It) (l r:Tr) (o:Option It):(Tr.node loc it l r).W3 n o=if n<it.ka then l.W3 n o else r.W3 n (match l with
  | .nil=>WH o it
  | .node a b c d=>WH (WH o it) (Tr.node a b c d).least):=by cases l <;> rfl
def zK (F g:List Ob) (n:Nat) (s:Tr) (o:Option It):St:=
 ⟨[(1,u64 n),(4,.ptr F.length 0 0 0),(6,.ptr (F.length+1) 0 0 0),(7,.ptr (F.length+2) 0 0 0),(8,.clo 165 0 [.ptr (F.length+2) 0 0 0,.ptr (F.length+1) 0 0 0]),(9,s.ptr)],
  F++(⟨.one,0,4,1,fun _=>[u64 0,Qb 0,u64 0,Qb 0]⟩::P0 o::P1 o::g)⟩
section
variable {h:List Ob} {tl:Nat} {t:Tr} (ht:(h.map Ob.ro)[tl]? = some (qf t).ro) (i:W2 h t)
include ht i
theorem oc (n:Nat):QQ Tryz.prog 104 h [.ptr tl 0 0 0,u64 n] (fun d=>d=PY (t.W3 n none)):=by
 refine Zh Qe 200 Tryz.func104 rfl Tryz.ntmps104 Tryz.results104 rfl fun base w pl F hF QR hb=>?_
 rw[← hF] at ht
 have QV:=Qd ht
 simp only[go_sem,simprocAttr,Qa,ht,QV]
 refine ZB (fun j st=>∃ (s:Tr) (o:Option It) (g:List Ob),s.size+j≤t.size∧W2 h s∧s.W3 n o=t.W3 n none∧st=zK F g n s o) t.size (s0:=zK F [] n t none) ?_ ⟨t,none,[],by omega,i,rfl,rfl⟩ ?_
 ·simp only[zK]
  exact Ql.frame (by simp only[go_sem,simprocAttr])
 rintro j _ hj ⟨s,o,g,Xt,is,hf,rfl⟩
 rcases s with _ | ⟨ls,im,sl,sr⟩
 ·simp only[zK]
  refine Qc hb ?_
  simp only[go_sem,simprocAttr,Qa]
  refine Qc hb ?_
  simp only[go_sem,simprocAttr,Qa]
  refine Qcd Qe hb 200 mixed [(0,true)] [1,2,3] (by kernel_rfl) (by kernel_rfl) ?_
  simp only[go_sem,simprocAttr,Qa]
  have Yx:o=t.W3 n none:=hf
  subst Yx
  refine ⟨⟨_,rfl,rfl⟩,⟨_,rfl,rfl⟩⟩
 have h3:=is.1
 rw[← hF] at h3
 have ZD:=Qd h3
 rw[Tr.Qkt] at hf
 by_cases hv:n<im.ka
 ·have d1:=decide_eq_true hv
  rw[if_pos hv] at hf
  simp only[zK]
  refine Qc hb ?_
  simp only[go_sem,simprocAttr,Qa,h3,ZD,d1]
  refine ⟨by simp only[Tr.size] at Xt;omega,zK F g n sl o,?_,sl,o,g,by simp only[Tr.size] at Xt;omega,is.2.1,hf,rfl⟩
  simp only[zK]
  exact Ql.frame (by simp only[go_sem,simprocAttr])
 ·have d1:=decide_eq_false hv
  rw[if_neg hv] at hf
  simp only[zK]
  refine Qc hb ?_
  simp only[go_sem,simprocAttr,Qa,h3,ZD,d1]
  refine Q5 hb mu rfl ?_ (oa (lm:=F.length+2) (lo:=F.length+1) (o:=o) (Ve rfl) (Ve rfl) (by omega) im) rfl fun d h6 hR=>?_
  ·simp only[go_sem,simprocAttr]
  obtain ⟨g2,rfl⟩:=hR
  simp only[go_sem,simprocAttr,Qa]
  cases sl with
  | nil=>
   refine Qc hb ?_
   simp only[go_sem,simprocAttr,Qa,h3,ZD]
   refine ⟨by simp only[Tr.size] at Xt;omega,zK F (g++g2) n sr (WH o im),?_,sr,_,_,by simp only[Tr.size] at Xt;omega,is.2.2,hf,rfl⟩
   simp only[zK]
   exact Ql.frame (by simp only[go_sem,simprocAttr])
  | node a b c e=>
   have h4:=is.2.1.1
   rw[← hF] at h4
   have qM:=Qd h4
   refine Qc hb ?_
   simp only[go_sem,simprocAttr,Qa,h3,ZD,h4,qM]
   refine Q5 hb mu rfl ?_ (oa (lm:=F.length+2) (lo:=F.length+1) (o:=WH o im) (Ve rfl) (Ve rfl) (by omega) (Tr.node a b c e).least) rfl fun d h6 hR=>?_
   ·simp only[go_sem,simprocAttr]
   obtain ⟨g3,rfl⟩:=hR
   simp only[go_sem,simprocAttr,Qa]
   refine Qc hb ?_
   simp only[go_sem,simprocAttr,Qa,h3,ZD]
   refine ⟨by simp only[Tr.size] at Xt;omega,zK F (g++(g2++g3)) n sr (WH (WH o im) (Tr.node a b c e).least),?_,sr,_,_,by simp only[Tr.size] at Xt;omega,is.2.2,hf,rfl⟩
   simp only[zK]
   exact Ql.frame (by simp only[go_sem,simprocAttr])
end
def K4 (e:QK):Int × D:=(e.k,e.v)
structure Vu (es:List QK) (P:List (Int × D)):Prop where
 perm:(es.map K4).Perm P
 nd:(P.map Prod.fst).Nodup
theorem Vu.jH {es:List QK} {P:List (Int × D)} (M:Vu es P):K8 es:=by
 have h1:es.map (·.k)=(es.map K4).map Prod.fst:=by simp [K4,Function.comp_def]
 unfold K8
 rw[h1,(M.perm.map Prod.fst).nodup_iff]
 exact M.nd
theorem P2:∀ {es:List QK},K8 es→∀ {k:Int} {v:D},JE es k=some v↔(k,v)∈es.map K4
 | [],_,k,v=>by simp [JE]
 | e::es,hn,k,v=>by
  have V3:K8 es:=by unfold K8 at hn ⊢;simp only[List.map_cons,List.nodup_cons] at hn;exact hn.2
  simp only[JE]
  by_cases h:e.k=k
  ·rw[if_pos h]
   constructor
   ·rintro ⟨rfl⟩;simp [K4,h]
   ·intro hm
    simp only[List.map_cons,List.mem_cons] at hm
    rcases hm with hm | hm
    ·simp only[K4,Prod.mk.injEq] at hm;rw[hm.2]
    ·exfalso
     obtain ⟨e',KZ,hh⟩:=List.mem_map.1 hm
     simp only[K4,Prod.mk.injEq] at hh
     unfold K8 at hn
     simp only[List.map_cons,List.nodup_cons,List.mem_map,not_exists,not_and] at hn
     exact hn.1 e' KZ (by rw[hh.1,h])
  ·rw[if_neg h,P2 V3]
   simp only[List.map_cons,List.mem_cons]
   constructor
   ·exact fun h=>.inr h
   ·rintro (hm | hm)
    ·simp only[K4,Prod.mk.injEq] at hm;exact absurd hm.1.symm h
    ·exact hm
def look (P:List (Int × D)) (k:Int):Option D:=(P.find? fun p=>p.1 == k).map Prod.snd
theorem LL:∀ {P:List (Int × D)},(P.map Prod.fst).Nodup→∀ {k:Int} {v:D},look P k=some v↔(k,v)∈P
 | [],_,k,v=>by simp [look]
 | p::P,hn,k,v=>by
  simp only[List.map_cons,List.nodup_cons] at hn
  have ih:=LL hn.2 (k:=k) (v:=v)
  unfold look at ih ⊢
  rw[List.find?_cons]
  by_cases h:p.1=k
  ·rw[beq_iff_eq.2 h]
   simp only[Option.map_some,Option.some.injEq,List.mem_cons]
   constructor
   ·rintro rfl;exact .inl (by rw[← h])
   ·rintro (hm | hm)
    ·rw[← hm]
    ·exact absurd (List.mem_map.2 ⟨_,hm,rfl⟩) (by rw[← h];exact hn.1)
  ·have hb:(p.1 == k)=false:=by simpa using h
   rw[hb,ih,List.mem_cons]
   constructor
   ·exact fun h=>.inr h
   ·rintro (hm | hm)
    ·exact absurd (by rw[← hm]) h
    ·exact hm
theorem Vu.look {es:List QK} {P:List (Int × D)} (M:Vu es P) (k:Int):JE es k=look P k:=by
 cases hf:X.look P k with
 | some v=>
  rw[P2 M.jH,M.perm.mem_iff]
  exact (LL M.nd).1 hf
 | none=>
  cases ha:JE es k with
  | none=>rfl
  | some v=>
   rw[P2 M.jH,M.perm.mem_iff] at ha
   rw[(LL M.nd).2 ha] at hf;cases hf
theorem Vu.len {es:List QK} {P:List (Int × D)} (M:Vu es P):es.length=P.length:=by
 have:=M.perm.length_eq
 rwa [List.length_map] at this
def jQ (P:List (Int × D)) (k:Int):List (Int × D):=P.filter fun p=>p.1 != k
def wO (P:List (Int × D)) (k:Int) (v:D):List (Int × D):=(k,v)::jQ P k
theorem od {P:List (Int × D)} (k:Int) (h:(P.map Prod.fst).Nodup):((jQ P k).map Prod.fst).Nodup:=by
 unfold jQ
 exact List.Nodup.sublist (List.Sublist.map _ List.filter_sublist) h
theorem oe {P:List (Int × D)} (k:Int) (v:D) (h:(P.map Prod.fst).Nodup):((wO P k v).map Prod.fst).Nodup:=by
 rw[wO,List.map_cons,List.nodup_cons]
 refine ⟨fun hm=>?_,od k h⟩
 obtain ⟨p,hp,e⟩:=List.mem_map.1 hm
 simp only[jQ,List.mem_filter,bne_iff_ne,ne_eq] at hp
 exact hp.2 e
theorem og:∀ {es:List QK} (k:Int) (v:D),K8 es→(∃ u,JE es k=some u)→((zq es k v).map K4).Perm ((k,v)::(es.map K4).filter fun p=>p.1 != k)
 | [],k,v,_,h=>by obtain ⟨u,hu⟩:=h;cases hu
 | e::es,k,v,hn,h=>by
  have V3:K8 es∧∀ e'∈es,e'.k≠e.k:=by
   unfold K8 at hn ⊢
   simp only[List.map_cons,List.nodup_cons,List.mem_map,not_exists,not_and] at hn
   exact ⟨hn.2,hn.1⟩
  simp only[zq]
  by_cases he:e.k=k
  ·rw[if_pos he,List.map_cons,List.map_cons]
   have h1:(K4 e).1=k:=he
   rw[List.filter_cons,show ((K4 e).1 != k)=false by rw[h1];simp]
   simp only[Bool.false_eq_true,if_false]
   rw[List.filter_eq_self.2]
   ·exact List.Perm.refl _
   ·intro p hp
    obtain ⟨e',KZ,rfl⟩:=List.mem_map.1 hp
    have:=V3.2 e' KZ
    simpa [K4,← he] using this
  ·rw[if_neg he,List.map_cons,List.map_cons,List.filter_cons]
   have h1:((K4 e).1 != k)=true:=by simpa [K4] using he
   rw[h1,if_pos rfl]
   have h2:∃ u,JE es k=some u:=by
    obtain ⟨u,hu⟩:=h
    simp only[JE,if_neg he] at hu
    exact ⟨u,hu⟩
   exact (List.Perm.cons _ (og k v V3.1 h2)).trans (List.Perm.swap _ _ _)
theorem Vu.set {es:List QK} {P:List (Int × D)} (M:Vu es P) (q:IntKind) (c:Nat) (k:Int) (v:D):∃ c' es',J5 q c es k v=QE q c' es'∧Vu es' (wO P k v):=by
 unfold J5
 cases ha:JE es k with
 | some u=>
  refine ⟨c,zq es k v,rfl,?_,oe k v M.nd⟩
  exact (og k v M.jH ⟨u,ha⟩).trans (List.Perm.cons _ (M.perm.filter _))
 | none=>
  refine ⟨c+1,es++[⟨k,v,c⟩],rfl,?_,oe k v M.nd⟩
  rw[List.map_append,wO]
  have hd:jQ P k=P:=by
   unfold jQ
   rw[List.filter_eq_self]
   intro p hp
   rw[bne_iff_ne]
   intro e
   have:=(LL M.nd (k:=k) (v:=p.2)).2 (by rw[← e];exact hp)
   rw[← M.look,ha] at this;cases this
  rw[hd]
  exact (List.perm_append_comm.trans (List.Perm.cons _ M.perm))
theorem oh:∀ {es:List QK} (k:Int),K8 es→((ZM es k).map K4)=((es.map K4).filter fun p=>p.1 != k)
 | [],_,_=>rfl
 | e::es,k,hn=>by
  have V3:K8 es∧∀ e'∈es,e'.k≠e.k:=by
   unfold K8 at hn ⊢
   simp only[List.map_cons,List.nodup_cons,List.mem_map,not_exists,not_and] at hn
   exact ⟨hn.2,hn.1⟩
  simp only[ZM]
  by_cases he:e.k=k
  ·rw[if_pos he,List.map_cons,List.filter_cons,show ((K4 e).1 != k)=false by simpa [K4] using he]
   simp only[Bool.false_eq_true,if_false]
   rw[List.filter_eq_self.2]
   intro p hp
   obtain ⟨e',KZ,rfl⟩:=List.mem_map.1 hp
   have:=V3.2 e' KZ
   simpa [K4,← he] using this
  ·rw[if_neg he,List.map_cons,List.map_cons,List.filter_cons,show ((K4 e).1 != k)=true by simpa [K4] using he,if_pos rfl,oh k V3.1]
theorem Vu.del {es:List QK} {P:List (Int × D)} (M:Vu es P) (k:Int):Vu (ZM es k) (jQ P k):=by
 refine ⟨?_,od k M.nd⟩
 rw[oh k M.jH]
 exact M.perm.filter _
theorem Vu.nil:Vu [] []:=⟨by simp,by simp⟩
theorem Vu.to {es:List QK} {P Q:List (Int × D)} (M:Vu es P) (h:P.Perm Q):Vu es Q:=⟨M.perm.trans h,((h.map Prod.fst).nodup_iff).1 M.nd⟩
structure Step (S:Nat→Prop) (h h':List Ob):Prop where
 keep:∀ l,l<h.length→¬ S l→h'[l]? = h[l]?
 len:h.length≤h'.length
def more (S:Nat→Prop) (h:List Ob):Nat→Prop:=fun l=>S l∨h.length≤l
theorem Step.trans {S:Nat→Prop} {h h' Xf:List Ob} (a:Step S h h') (b:Step (more S h) h' Xf):Step S h Xf:=
 ⟨fun l hl hn=>by rw[b.keep l (Nat.lt_of_lt_of_le hl a.len) (fun h1=>h1.elim hn (by omega)),a.keep l hl hn],Nat.le_trans a.len b.len⟩
theorem Step.refl (S:Nat→Prop) (h:List Ob):Step S h h:=⟨fun _ _ _=>rfl,Nat.le_refl _⟩
theorem Step.app (S:Nat→Prop) (h g:List Ob):Step S h (h++g):=⟨fun l hl _=>QU hl,by simp⟩
structure Jv (es:List QK) (f:Int→Option D):Prop where
 nd:K8 es
 at_:∀ k,JE es k=f k
section
variable {es:List QK} {f:Int→Option D}
theorem Jv.p (M:Jv es f):Vu es (es.map K4):=⟨List.Perm.refl _,by
 have h1:(es.map K4).map Prod.fst=es.map (·.k):=by simp [K4,Function.comp_def]
 rw[h1];exact M.nd⟩
theorem Jv.to {g:Int→Option D} (M:Jv es f) (h:∀ k,f k=g k):Jv es g:=⟨M.nd,fun k=>(M.at_ k).trans (h k)⟩
theorem oo (P:List (Int × D)) (k j:Int):look (jQ P k) j=if j=k then none else look P j:=by
 unfold look jQ
 rw[List.find?_filter]
 by_cases h:j=k
 ·subst h
  rw[if_pos rfl,Option.map_eq_none_iff,List.find?_eq_none]
  intro p _ hp
  simp at hp
 ·rw[if_neg h]
  congr 2
  funext p
  by_cases h2:p.1=j
  ·simp [h2,h]
  ·simp [h2]
theorem Qku (P:List (Int × D)) (k:Int) (v:D) (j:Int):look (wO P k v) j=if j=k then some v else look P j:=by
 have h0:=oo P k j
 unfold look at h0 ⊢
 unfold wO
 rw[List.find?_cons]
 by_cases h:j=k
 ·subst h;simp
 ·have hb:((k,v).1 == j)=false:=by simpa using Ne.symm h
  rw[hb,if_neg h]
  rw[if_neg h] at h0
  exact h0
theorem Jv.set (M:Jv es f) (q:IntKind) (c:Nat) (k:Int) (v:D):∃ c' es',J5 q c es k v=QE q c' es'∧Jv es' (fun j=>if j=k then some v else f j):=by
 obtain ⟨c',es',h1,h2⟩:=M.p.set q c k v
 refine ⟨c',es',h1,h2.jH,fun j=>?_⟩
 rw[h2.look,Qku]
 split
 ·rfl
 ·rw[← M.p.look,M.at_]
theorem Jv.del (M:Jv es f) (k:Int):Jv (ZM es k) (fun j=>if j=k then none else f j):=by
 have h2:=M.p.del k
 refine ⟨h2.jH,fun j=>?_⟩
 rw[h2.look,oo]
 split
 ·rfl
 ·rw[← M.p.look,M.at_]
theorem Jv.nil:Jv [] (fun _=>none):=⟨by simp [K8],fun _=>rfl⟩
theorem Jv.oq (M:Jv es f):es.length=0↔∀ k,f k=none:=by
 constructor
 ·intro h k
  rw[List.length_eq_zero_iff] at h
  rw[← M.at_,h];rfl
 ·intro h
  cases es with
  | nil=>rfl
  | cons e es=>
   have h1:=M.at_ e.k
   rw[h,JE,if_pos rfl] at h1
   cases h1
end
def A3 (b:Bool):Int:=if b then 1 else 0
def Yy (T:List Qi) (k:Int):Option D:=match Qr T k with
 | some c=>if 1<QH c.ls then some (.agg [Qb c.parent,Qb (A3 c.leaf)]) else none
 | none=>none
def zL (T:List Qi) (A:List Int) (k:Int):Option D:=if k∈A then some (Qb ((Qr T k).getD default).parent) else none
def vg (kl:Int→Option Nat) (k:Int):Option D:=(kl k).map fun l=>.mref l 0
def qN (f:Int→Bool) (i:Int):Option D:=if f i then some (Qb 1) else none
@[go_sem] def LM (b1 b2 b3:Nat):Ob:=⟨.one,0,3,1,fun _=>[.mref b1 0,.mref b2 0,.mref b3 0]⟩
structure W5 (S:Nat→Prop) (h:List Ob) (p b1 b2 b3 c1 c2 c3:Nat) (Jc Jg Jj:List QK) (kl:Int→Option Nat) (T:List Qi) (A:List Int) (Kd:Int→Int→Bool):Prop where
 o:h[p]? = some (LM b1 b2 b3)
 m1:h[b1]? = some (QE .i64 c1 Jc)
 f1:Jv Jc (Yy T)
 m2:h[b2]? = some (QE .i64 c2 Jg)
 f2:Jv Jg (zL T A)
 m3:h[b3]? = some (QE .i64 c3 Jj)
 f3:Jv Jj (vg kl)
 ks:∀ k l,kl k=some l→∃ c es,h[l]? = some (QE .i64 c es)∧Jv es (qN (Kd k))
 kn:∀ k i,kl k=none→Kd k i=false
 ki:∀ k k' l,kl k=some l→kl k'=some l→k=k'
 FY:b1≠b2
 FZ:b1≠b3
 CY:b2≠b3
 LN:p≠b1
 F0:p≠b2
 wP:p≠b3
 nk:∀ k l,kl k=some l→l≠p∧l≠b1∧l≠b2∧l≠b3
 sp:S p
 s1:S b1
 s2:S b2
 s3:S b3
 sk:∀ k l,kl k=some l→S l
def W6 (S:Nat→Prop) (h:List Ob) (p:Nat) (T:List Qi) (A:List Int):Prop:=∃ b1 b2 b3 c1 c2 c3 Jc Jg Jj kl,W5 S h p b1 b2 b3 c1 c2 c3 Jc Jg Jj kl T A (WE T A)
theorem W5.step {S S':Nat→Prop} {h h':List Ob} {p b1 b2 b3 c1 c2 c3:Nat} {Jc Jg Jj:List QK} {kl:Int→Option Nat} {T:List Qi} {A:List Int} {Kd:Int→Int→Bool}
  (e:∀ l,l<h.length→S l→S' l∧h'[l]? = h[l]?) (T0:W5 S h p b1 b2 b3 c1 c2 c3 Jc Jg Jj kl T A Kd):W5 S' h' p b1 b2 b3 c1 c2 c3 Jc Jg Jj kl T A Kd:=by
 have k:∀ l o,S l→h[l]? = some o→S' l∧h'[l]? = some o:=fun l o h1 h2=>⟨(e l (Qd h2) h1).1,(e l (Qd h2) h1).2.trans h2⟩
 refine ⟨(k _ _ T0.sp T0.o).2,(k _ _ T0.s1 T0.m1).2,T0.f1,(k _ _ T0.s2 T0.m2).2,T0.f2,(k _ _ T0.s3 T0.m3).2,T0.f3,fun q l hl=>?_,T0.kn,T0.ki,T0.FY,T0.FZ,T0.CY,T0.LN,T0.F0,T0.wP,T0.nk,(k _ _ T0.sp T0.o).1,(k _ _ T0.s1 T0.m1).1,(k _ _ T0.s2 T0.m2).1,(k _ _ T0.s3 T0.m3).1,fun q l hl=>?_⟩
 ·obtain ⟨c,es,h1,h2⟩:=T0.ks q l hl
  exact ⟨c,es,(k _ _ (T0.sk q l hl) h1).2,h2⟩
 ·obtain ⟨c,es,h1,h2⟩:=T0.ks q l hl
  exact (k _ _ (T0.sk q l hl) h1).1
theorem W6.step {S S':Nat→Prop} {h h':List Ob} {p:Nat} {T:List Qi} {A:List Int} (e:∀ l,l<h.length→S l→S' l∧h'[l]? = h[l]?):W6 S h p T A→W6 S' h' p T A:=
 fun ⟨b1,b2,b3,c1,c2,c3,Jc,Jg,Jj,kl,O⟩=>⟨b1,b2,b3,c1,c2,c3,Jc,Jg,Jj,kl,O.step e⟩
structure Qkv (h:List Ob) (p b1 b2 b3 c1 c2 c3:Nat) (Jc Jg Jj:List QK) (kl:Int→Option Nat) (T:List Qi) (A:List Int) (Kd:Int→Int→Bool):Prop where
 o:(h.map Ob.ro)[p]? = some (LM b1 b2 b3).ro
 m1:(h.map Ob.ro)[b1]? = some (QE .i64 c1 Jc).ro
 f1:Jv Jc (Yy T)
 m2:(h.map Ob.ro)[b2]? = some (QE .i64 c2 Jg).ro
 f2:Jv Jg (zL T A)
 m3:(h.map Ob.ro)[b3]? = some (QE .i64 c3 Jj).ro
 f3:Jv Jj (vg kl)
 ks:∀ k l,kl k=some l→∃ c es,(h.map Ob.ro)[l]? = some (QE .i64 c es).ro∧Jv es (qN (Kd k))
 kn:∀ k i,kl k=none→Kd k i=false
def A4 (h:List Ob) (p:Nat) (T:List Qi) (A:List Int):Prop:=∃ b1 b2 b3 c1 c2 c3 Jc Jg Jj kl,Qkv h p b1 b2 b3 c1 c2 c3 Jc Jg Jj kl T A (WE T A)
theorem W6.toR {S:Nat→Prop} {h:List Ob} {p:Nat} {T:List Qi} {A:List Int}:W6 S h p T A→A4 h p T A:=
 fun ⟨b1,b2,b3,c1,c2,c3,Jc,Jg,Jj,kl,O⟩=>⟨b1,b2,b3,c1,c2,c3,Jc,Jg,Jj,kl,Zv O.o,Zv O.m1,O.f1,Zv O.m2,O.f2,Zv O.m3,O.f3,fun k l hl=>by
  obtain ⟨c,es,h1,h2⟩:=O.ks k l hl
  exact ⟨c,es,Zv h1,h2⟩,O.kn⟩
theorem A4.more {h h':List Ob} {p:Nat} {T:List Qi} {A:List Int} (e:∀ (l:Nat) (o:Ob),(h.map Ob.ro)[l]? = some o→(h'.map Ob.ro)[l]? = some o):A4 h p T A→A4 h' p T A:=
 fun ⟨b1,b2,b3,c1,c2,c3,Jc,Jg,Jj,kl,O⟩=>⟨b1,b2,b3,c1,c2,c3,Jc,Jg,Jj,kl,e _ _ O.o,e _ _ O.m1,O.f1,e _ _ O.m2,O.f2,e _ _ O.m3,O.f3,fun k l hl=>by
  obtain ⟨c,es,h1,h2⟩:=O.ks k l hl
  exact ⟨c,es,e _ _ h1,h2⟩,O.kn⟩
theorem Qkw {T:List Qi} (I:JA T) {A:List Int} (hA:qK T A) (id:Int) (h0:id≠0):(id∈A∨∃ i,WE T A id i=true)↔Zu T A id=true:=by
 constructor
 ·rintro (h | ⟨i,hi⟩)
  ·obtain ⟨c,h1,h2,h3⟩:=hA id h
   exact VM.2 ⟨id,h,Vr I h1⟩
  ·obtain ⟨c,h1,h2,h3⟩:=Y8.1 hi
   obtain ⟨d,hd,_⟩:=I.Xn c (qJ I h1) (by rw[h2];exact h0)
   rw[h2] at hd
   exact AV I h3 (by rw[JQ I h1,h2];exact List.mem_cons_of_mem _ (Vr I hd))
 ·intro h
  obtain ⟨a,ha,hi⟩:=VM.1 h
  by_cases QD:a=id
  ·subst QD;exact .inl ha
  ·obtain ⟨i,c,h1,h2,h3⟩:=LC I hi QD
   exact .inr ⟨i,Y8.2 ⟨c,h2,h3,VM.2 ⟨a,ha,h1⟩⟩⟩
end Go.Fg.X
namespace Go.Fg.X
open Go.Proofs Go.Fg
open Go.RowKit (Below)
theorem P3 {P:Program} {f:FuncId} {h:List Ob} {args:List D} {R:D→List Ob→Prop} (d2:D) (hu:∀ k,d2.upto k=true)
  (hd:∀ d g,R d g→Ja 6 d d2∨∃ lo gn sz n row,h.length≤lo∧(h++g)[lo]? = some ⟨.arr,gn,sz,n,row⟩∧(∀ i,i<n→(row i).all D.ky=true)∧Ja 6 (D.fz lo gn n sz row d) d2) (H:Kp P f h args R):QQ P f h args (fun d=>d=d2):=by
 intro Z base w pl vs h1 h2 h3 hl hc
 have Fp:QT Z w.heap.size (h.map Ob.ro) pl w:=by
  refine ⟨h3.len,h3.inj,h3.JU,fun l o b q ho hp=>⟨fun hr=>?_,(h3.at_ l o b q ho hp).2⟩⟩
  obtain ⟨o',_,rfl⟩:=yg ho
  rw[HV,Kd.toRo_ro] at hr;cases hr
 refine (H Z w.heap.size w pl vs (Nat.le_refl _) h2 Fp hl hc).mono fun e w' he=>?_
 obtain ⟨v,d,_,Qg,rfl,⟨g,rfl,hR⟩,hO,hV,hT,hB⟩:=he
 have hE:∀ b,b<w.heap.size→w'.heap[b]? = w.heap[b]? := fun b hb=>hB.block b hb
 have QZ:∀ (l:Nat),l<h.length→Qg[l]? = pl[l]? := fun l hl=>by
  have Jd:l<pl.length:=by rw[h3.len];simpa using hl
  obtain ⟨o',p',m1,m2,_,_,m3⟩:=hT.obj l _ _ (Zv (List.getElem?_eq_getElem hl)) (List.getElem?_eq_getElem Jd)
  rw[List.getElem?_append_left (by simpa using hl),Zv (List.getElem?_eq_getElem hl)] at m1
  cases m1
  obtain ⟨_,rfl⟩:=m3 rfl
  rw[m2,List.getElem?_eq_getElem Jd]
 have e1:(h.map Ob.ro++g).take h.length=h.map Ob.ro:=List.take_left' (by simp)
 have LO:Qv Z (h.map Ob.ro) pl w' d2 v→_:=fun hx=>(⟨v,d2,h.map Ob.ro,pl,rfl,⟨[],(List.append_nil _).symm,hu _,rfl⟩,h3.ext hE,hx,Go.Fg.Tr.ext h3 hE,hB.mono h1⟩:∃ v' d h' Qg,Ending.returned v=.returned v'∧(∃ g,h'=h.map Ob.ro++g∧d.upto h.length=true∧d=d2)∧QT Z base h' Qg w'∧Qv Z h' Qg w' d v'∧Go.Fg.Tr (h.map Ob.ro) pl w h' Qg w'∧Below base w w')
 refine LO ?_
 rcases hd _ _ hR with hle | ⟨lo,gn,sz,n,row,ot,Zp,ZY,hle⟩
 ·have r:=(kN 6 hle hV).take (hu h.length)
  have e2:Qg.take h.length=pl:=by
   apply List.ext_getElem?
   intro i
   rw[List.getElem?_take]
   by_cases hi:i<h.length
   ·rw[if_pos hi,QZ i hi]
   ·rw[if_neg hi,List.getElem?_eq_none (by rw[h3.len];simp;omega)]
  rw[e1,e2] at r
  exact r
 have qO:(h.map Ob.ro++g)[lo]? = some ⟨.arr,gn,sz,n,row⟩:=by
  rw[List.getElem?_append_right (by omega)] at Zp
  rw[List.getElem?_append_right (by simpa using ot)];simpa using Zp
 have Qd:lo<Qg.length:=by rw[hO.len];exact (List.getElem?_eq_some_iff.1 qO).1
 obtain ⟨p,hp⟩:∃ p,Qg[lo]? = some p:=⟨_,List.getElem?_eq_getElem Qd⟩
 have LP:=hV.fz (l:=lo) (o:=⟨.arr,gn,sz,n,row⟩) (p:=p) qO hp rfl (fun b q e=>by
  subst e
  refine ⟨h2 b ?_,fun l' q' e'=>hO.inj _ _ _ _ _ e' hp,(hO.at_ lo _ b q qO hp).2.cells rfl⟩
  exact (hO.at_ lo _ b q qO hp).1 rfl) ZY (h':=(h.map Ob.ro++g).set lo (Ob.gone ⟨.arr,gn,sz,n,row⟩)) (fun l' o' QD e=>by
  exact ⟨o',by rw[List.getElem?_set_ne (Ne.symm QD)];exact e,rfl,rfl,rfl⟩)
 have r:=(kN 6 hle LP).take (hu h.length)
 have e3:((h.map Ob.ro++g).set lo (Ob.gone ⟨.arr,gn,sz,n,row⟩)).take h.length=h.map Ob.ro:=by
  rw[List.set_append_right _ _ (by simpa using ot)]
  exact List.take_left' (by simp)
 have e2:(Qg.set lo none).take h.length=pl:=by
  apply List.ext_getElem?
  intro i
  rw[List.getElem?_take]
  by_cases hi:i<h.length
  ·rw[if_pos hi,List.getElem?_set_ne (by omega),QZ i hi]
  ·rw[if_neg hi,List.getElem?_eq_none (by rw[h3.len];simp;omega)]
 rw[e3,e2] at r
 exact r
end Go.Fg.X
namespace Go.Fg.X
open Go.Proofs Go.Fg
section
variable (h:List Ob) (t m c:Nat) {es:List QK} {L:List Qi} (T:JK es L) (hlen:L.length<1000000)
 (ht:(h.map Ob.ro)[t]? = some ⟨.Ku,0,1,1,fun _=>[.mref m 0]⟩) (hm:(h.map Ob.ro)[m]? = some (QE .i64 c es).ro)
include T ht hm hlen
theorem Qkx:Kp Tryz.prog 139 h [.ptr t 0 0 0] (fun d g=>Z3 h.length (h++g) d ((L.filter (·.leaf)).map (·.iD))):=by
 refine V1 Qe 200 Tryz.func139 rfl Tryz.ntmps139 Tryz.results139 rfl fun base w pl F hF QR hb=>?_
 rw[← hF] at ht hm
 have QV:=Qd ht
 have QP:=Qd hm
 simp only[go_sem,simprocAttr,Qa,ht,QV,hm,QP]
 have hT:FD (F.map Ob.ro) 193 0 [] (fun x=>x.leaf):=fun h' x qx=>by
  refine Zh Qe 200 Tryz.func193 rfl Tryz.ntmps193 Tryz.results193 rfl fun base w pl F hF QR hb=>?_
  simp only[go_sem,simprocAttr,Qa]
  exact ⟨_,rfl⟩
 refine yh hb Lc rfl ?_ (Lw _ t m c T hlen (Zv ht) (AQ hm) (.raw (.func (.func 193) ⟨[]⟩ ⟨[]⟩)) 193 0 [] Qiy rfl _ hT) rfl fun d g hs=>?_
 ·simp only[go_sem,simprocAttr]
 refine Qc hb ?_
 simp only[go_sem,simprocAttr,Qa]
 exact Z3.done QR ⟨_,rfl⟩ hs
end
theorem yy {h g:List Ob} (l:Nat) (o:Ob) (e:(h.map Ob.ro)[l]? = some o):((h++g).map Ob.ro)[l]? = some o:=by
 rw[List.map_append,List.getElem?_append_left (Jr e)];exact e
theorem Z3.closed {P:Program} {f:FuncId} {h:List Ob} {args:List D} {L:List Int} (H:Kp P f h args (fun d g=>Z3 h.length (h++g) d L)):QQ P f h args (fun d=>d=ints L):=by
 refine P3 (ints L) (fun _=>rfl) ?_ H
 rintro d g (⟨rfl,h3⟩ | ⟨lo,gn,off,row,rfl,⟨Zp,rfl⟩,ho,hr⟩)
 ·subst h3
  exact .inl rfl
 ·refine .inr ⟨lo,gn,1,_,row,Zp,ho,fun i hi=>?_,?_⟩
  ·have:=hr i (by omega)
   rw[Nat.zero_add] at this
   rw[this];rfl
  ·have e1:D.fz lo gn (0+L.length) 1 row (.ref lo gn 0 L.length)=.imm 1 L.length (rowFrom 0 row):=by simp [D.fz,E6]
   rw[e1]
   simp only[ints]
   rw[Fo]
   refine ⟨rfl,rfl,fun i hi=>?_⟩
   rw[Fk,hr i hi,Qi7]
   exact yd (yf _) _
theorem Qky (h:List Ob) (x:Qi):QQ Tryz.prog 62 h [Vf x] (fun d=>d=QN true):=by
 refine Zh Qe 200 Tryz.func62 rfl Tryz.ntmps62 Tryz.results62 rfl fun base w pl F hF QR hb=>?_
 simp only[go_sem,simprocAttr,Qa]
 all_goals first | exact ⟨_,rfl,rfl⟩ | exact ⟨_,rfl⟩ | rfl | exact ⟨[],(List.append_nil _).symm⟩ | exact ⟨[],(List.append_nil _).symm,rfl⟩
section
variable (h:List Ob) (t m c:Nat) {es:List QK} {L:List Qi} (T:JK es L) (hlen:L.length<1000000)
 (ht:(h.map Ob.ro)[t]? = some ⟨.Ku,0,1,1,fun _=>[.mref m 0]⟩) (hm:(h.map Ob.ro)[m]? = some (QE .i64 c es).ro)
include T ht hm hlen
theorem Qkz:Kp Tryz.prog 21 h [.ptr t 0 0 0] (fun d g=>Z3 h.length (h++g) d ((L.filter (fun _=>true)).map (·.iD))):=by
 refine V1 Qe 200 Tryz.func21 rfl Tryz.ntmps21 Tryz.results21 rfl fun base w pl F hF QR hb=>?_
 rw[← hF] at ht hm
 have QV:=Qd ht
 have QP:=Qd hm
 simp only[go_sem,simprocAttr,Qa,ht,QV,hm,QP]
 have hT:FD (F.map Ob.ro) 62 0 [] (fun x=>true):=fun h' x qx=>Qky h' x
 refine yh hb Lc rfl ?_ (Lw _ t m c T hlen (Zv ht) (AQ hm) (.raw (.func (.func 62) ⟨[]⟩ ⟨[]⟩)) 62 0 [] QhZ rfl _ hT) rfl fun d g hs=>?_
 ·simp only[go_sem,simprocAttr]
 refine Qc hb ?_
 simp only[go_sem,simprocAttr,Qa]
 exact Z3.done QR ⟨_,rfl⟩ hs
end
def Kf (S:Nat→Prop) (h:List Ob) (t:Nat) (T:List Qi):Prop:=∃ m c es,h[t]? = some ⟨.one,0,1,1,fun _=>[.mref m 0]⟩∧h[m]? = some (QE .i64 c es)∧JK es T∧S t∧S m
def KW (h:List Ob) (t:Nat) (T:List Qi):Prop:=∃ m c es,(h.map Ob.ro)[t]? = some ⟨.Ku,0,1,1,fun _=>[.mref m 0]⟩∧(h.map Ob.ro)[m]? = some (QE .i64 c es).ro∧JK es T
theorem Kf.toR {S:Nat→Prop} {h:List Ob} {t:Nat} {T:List Qi}:Kf S h t T→KW h t T:=fun ⟨m,c,es,h1,h2,h3,_,_⟩=>⟨m,c,es,Zv h1,Zv h2,h3⟩
theorem Kf.step {S S':Nat→Prop} {h h':List Ob} {t:Nat} {T:List Qi} (e:∀ l,l<h.length→S l→S' l∧h'[l]? = h[l]?):Kf S h t T→Kf S' h' t T:=fun ⟨m,c,es,h1,h2,h3,h4,h5⟩=>
 ⟨m,c,es,((e _ (Qd h1) h4).2).trans h1,((e _ (Qd h2) h5).2).trans h2,h3,(e _ (Qd h1) h4).1,(e _ (Qd h2) h5).1⟩
theorem KW.more {h h':List Ob} {t:Nat} {T:List Qi} (e:∀ (l:Nat) (o:Ob),(h.map Ob.ro)[l]? = some o→(h'.map Ob.ro)[l]? = some o):KW h t T→KW h' t T:=fun ⟨m,c,es,h1,h2,h3⟩=>⟨m,c,es,e _ _ h1,e _ _ h2,h3⟩
section
variable {h:List Ob} {t:Nat} {T:List Qi} (R:KW h t T) (hlen:T.length<1000000)
include R hlen
theorem P4:QQ Tryz.prog 21 h [.ptr t 0 0 0] (fun d=>d=ints (T.map (·.iD))):=by
 obtain ⟨m,c,es,ht,hm,hT⟩:=R
 have:=Z3.closed (Qkz h t m c hT hlen ht hm)
 rwa [List.filter_eq_self.2 (fun _ _=>rfl)] at this
theorem QkA (id:Int):QQ Tryz.prog 23 h [.ptr t 0 0 0,Qb id] (fun d=>d=ints (KI T id)):=by
 obtain ⟨m,c,es,ht,hm,hT⟩:=R
 exact Z3.closed (Pu h t m c hT hlen ht hm id)
omit hlen in
theorem P5 (I:TreeInv T) (id:Int):QQ Tryz.prog 37 h [.ptr t 0 0 0,Qb id] (fun d=>d=ints (ZG T 16 id)):=by
 obtain ⟨m,c,es,ht,hm,hT⟩:=R
 exact Z3.closed (m9 h t m c hT ht hm id 16 (by decide) (I.ends id))
omit hlen in
theorem CZ (id:Int):QQ Tryz.prog 56 h [.ptr t 0 0 0,Qb id] (fun d=>d=.tup [Vf ((Qr T id).getD default),Qb (if (Qr T id).isSome then 0 else 6)]):=by
 obtain ⟨m,c,es,ht,hm,hT⟩:=R
 exact m8 h t m c hT ht hm id
end
theorem LQ {f:Int→Bool} {es:List QK} (M:Jv es (qN f)):0<es.length↔∃ i,f i=true:=by
 constructor
 ·intro h
  refine Classical.byContradiction fun h2=>?_
  have:=M.oq.2 fun k=>by
   unfold qN
   rw[if_neg (fun h3=>h2 ⟨k,h3⟩)]
  omega
 ·rintro ⟨i,hi⟩
  refine Nat.pos_of_ne_zero fun h=>?_
  have:=M.oq.1 h i
  unfold qN at this
  rw[if_pos hi] at this
  cases this
theorem Da {h:List Ob} {p:Nat} {T:List Qi} {A:List Int} (O:A4 h p T A) (I:JA T) (hA:qK T A) (id:Int) (h0:id≠0):QQ Tryz.prog 63 h [.ptr p 0 0 0,Qb id] (fun d=>d=QN (Zu T A id)):=by
 obtain ⟨b1,b2,b3,c1,c2,c3,Jc,Jg,Jj,kl,O⟩:=O
 obtain ⟨ho,m1,f1,m2,f2,m3,f3,ks,kn⟩:=O
 have hi:=Qkw I hA id h0
 have k2:=f2.at_ id
 have k3:=f3.at_ id
 by_cases QX:id∈A
 ·have e:Zu T A id=true:=hi.1 (.inl QX)
  rw[zL,if_pos QX] at k2
  rw[e]
  refine Zh Qe 200 Tryz.func63 rfl Tryz.ntmps63 Tryz.results63 rfl fun base w pl F hF QR hb=>?_
  rw[← hF] at ho m2
  have Qf:=Qd ho
  have yz:=Qd m2
  simp only[go_sem,simprocAttr,Qa,ho,Qf,m2,yz,k2,Go.undef]
  all_goals first | exact ⟨_,rfl,rfl⟩ | exact ⟨_,rfl⟩ | rfl | exact ⟨[],(List.append_nil _).symm⟩ | exact ⟨[],(List.append_nil _).symm,rfl⟩
 ·rw[zL,if_neg QX] at k2
  cases hk:kl id with
  | none=>
   have e:Zu T A id=false:=by
    rw[Bool.eq_false_iff];intro h
    rcases hi.2 h with h | ⟨i,h⟩
    ·exact QX h
    ·rw[kn id i hk] at h;cases h
   rw[vg,hk,Option.map_none] at k3
   rw[e]
   refine Zh Qe 200 Tryz.func63 rfl Tryz.ntmps63 Tryz.results63 rfl fun base w pl F hF QR hb=>?_
   rw[← hF] at ho m2 m3
   have Qf:=Qd ho
   have yz:=Qd m2
   have Wg:=Qd m3
   simp only[go_sem,simprocAttr,Qa,ho,Qf,m2,yz,m3,Wg,k2,k3,Go.undef]
   all_goals first | exact ⟨_,rfl,rfl⟩ | exact ⟨_,rfl⟩ | rfl | exact ⟨[],(List.append_nil _).symm⟩ | exact ⟨[],(List.append_nil _).symm,rfl⟩
  | some l=>
   obtain ⟨c,es,ml,fl⟩:=ks id l hk
   rw[vg,hk,Option.map_some] at k3
   have hl:=LQ fl
   have Wa:0<es.length↔Zu T A id=true:=hl.trans ⟨fun h=>hi.1 (.inr h),fun h=>(hi.2 h).elim (fun h=>absurd h QX) fun h=>h⟩
   have d0:decide (0<es.length)=Zu T A id:=by
    cases hq:Zu T A id with
    | true=>exact decide_eq_true (Wa.2 hq)
    | false=>exact decide_eq_false fun h=>by rw[Wa.1 h] at hq;cases hq
   have d1:decide ((0:Int)<(es.length:Int))=Zu T A id:=by rw[← d0];congr 1;rw[eq_iff_iff];omega
   refine Zh Qe 200 Tryz.func63 rfl Tryz.ntmps63 Tryz.results63 rfl fun base w pl F hF QR hb=>?_
   rw[← hF] at ho m2 m3 ml
   have Qf:=Qd ho
   have yz:=Qd m2
   have Wg:=Qd m3
   have qg:=Qd ml
   simp only[go_sem,simprocAttr,Qa,ho,Qf,m2,yz,m3,Wg,ml,qg,k2,k3,Go.undef,d1]
   all_goals first | exact ⟨_,rfl,rfl⟩ | exact ⟨_,rfl⟩ | rfl | exact ⟨[],(List.append_nil _).symm⟩ | exact ⟨[],(List.append_nil _).symm,rfl⟩
theorem Step.F1 {S:Nat→Prop} {h H:List Ob} (s:Step S h H) {l:Nat} (hl:more S h l) (o:Ob):Step S h (H.set l o):=
 ⟨fun j h1 h2=>by
  have QD:l≠j:=by
   rintro rfl
   rcases hl with h3 | h3
   ·exact h2 h3
   ·omega
  rw[Qt QD];exact s.keep j h1 h2,by rw[List.length_set];exact s.len⟩
theorem Step.P6 {S:Nat→Prop} {h H:List Ob} (s:Step S h H) (g:List Ob):Step S h (H++g):=
 ⟨fun j h1 h2=>by rw[QU (Nat.lt_of_lt_of_le h1 s.len)];exact s.keep j h1 h2,by have:=s.len;simp;omega⟩
structure Db (S:Nat→Prop) (h:List Ob) (p:Nat) (T:List Qi) (A:List Int) (leaf:Int) (n:Nat) (s:St):Prop where
 ex:∃ id dn c lo g row H S' b1 b2 b3 c1 c2 c3 Jc Jg Jj kl,up T leaf=dn++up T id∧Qr T id=some c∧(up T id).length≤n∧(∀ i∈dn++[id],Zu T A i=false) ∧
  W5 S' H p b1 b2 b3 c1 c2 c3 Jc Jg Jj kl T (leaf::A) (Xq T A dn)∧(∀ l,S' l→more S h l∧l<H.length)∧¬ S' lo∧h.length≤lo∧Step S h H ∧
  H[lo]? = some ⟨.arr,g,1,dn.length+1,row⟩∧(∀ i,i<dn.length+1→row i=[Qb ((dn++[id]).getD i 0)]) ∧
  s=⟨[(0,.ptr p 0 0 0),(6,.ref lo g 0 (dn.length+1)),(7,Qb id)],H⟩
section
variable {S:Nat→Prop} {h:List Ob} {p b1 b2 b3 c1 c2 c3:Nat} {Jc Jg Jj:List QK} {kl:Int→Option Nat} {T:List Qi} {A:List Int} {Kd:Int→Int→Bool} (O:W5 S h p b1 b2 b3 c1 c2 c3 Jc Jg Jj kl T A Kd)
include O
theorem W5.ou {c2':Nat} {Dc:List QK} {A':List Int} (M2:Jv Dc (zL T A')):W5 S (h.set b2 (QE .i64 c2' Dc)) p b1 b2 b3 c1 c2' c3 Jc Dc Jj kl T A' Kd:=by
 refine ⟨(Qt (Ne.symm O.F0)).trans O.o,(Qt (Ne.symm O.FY)).trans O.m1,O.f1,Qw (Qd O.m2),M2,(Qt O.CY).trans O.m3,O.f3,fun k l hl=>?_,O.kn,O.ki,O.FY,O.FZ,O.CY,O.LN,O.F0,O.wP,O.nk,O.sp,O.s1,O.s2,O.s3,O.sk⟩
 obtain ⟨c,es,h1,h2⟩:=O.ks k l hl
 exact ⟨c,es,(Qt (Ne.symm (O.nk k l hl).2.2.1)).trans h1,h2⟩
theorem W5.ov {k:Int} {l c':Nat} {es':List QK} {Kd':Int→Int→Bool} (hk:kl k=some l) (M:Jv es' (qN (Kd' k))) (he:∀ j,j≠k→∀ i,Kd' j i=Kd j i):W5 S (h.set l (QE .i64 c' es')) p b1 b2 b3 c1 c2 c3 Jc Jg Jj kl T A Kd':=by
 obtain ⟨n0,n1,n2,n3⟩:=O.nk k l hk
 have hl:l<h.length:=by
  obtain ⟨c,es,h1,h2⟩:=O.ks k l hk
  exact Qd h1
 refine ⟨(Qt n0).trans O.o,(Qt n1).trans O.m1,O.f1,(Qt n2).trans O.m2,O.f2,(Qt n3).trans O.m3,O.f3,fun j m hj=>?_,fun j i hj=>?_,O.ki,O.FY,O.FZ,O.CY,O.LN,O.F0,O.wP,O.nk,O.sp,O.s1,O.s2,O.s3,O.sk⟩
 ·by_cases Kl:j=k
  ·subst Kl
   rw[hk] at hj;cases hj
   exact ⟨c',es',Qw hl,M⟩
  ·obtain ⟨c,es,h1,h2⟩:=O.ks j m hj
   have QD:l≠m:=fun e=>Kl (O.ki j k m hj (by rw[← e];exact hk))
   exact ⟨c,es,(Qt QD).trans h1,h2.to fun i=>by unfold qN;rw[he j Kl i]⟩
 ·have Kl:j≠k:=by rintro rfl;rw[hk] at hj;cases hj
  rw[he j Kl i];exact O.kn j i hj
theorem W5.QkB {k:Int} {n c c3':Nat} {es es3':List QK} {Kd':Int→Int→Bool} (hn:h[n]? = some (QE .i64 c es)) (M:Jv es (qN (Kd' k))) (h0:n≠p) (h1:n≠b1) (h2:n≠b2) (h3:n≠b3) (h4:∀ j l,kl j=some l→l≠n) (sn:S n)
  (M3:Jv es3' (fun j=>if j=k then some (.mref n 0) else vg kl j)) (he:∀ j,j≠k→∀ i,Kd' j i=Kd j i):W5 S (h.set b3 (QE .i64 c3' es3')) p b1 b2 b3 c1 c2 c3' Jc Jg es3' (fun j=>if j=k then some n else kl j) T A Kd':=by
 refine ⟨(Qt (Ne.symm O.wP)).trans O.o,(Qt (Ne.symm O.FZ)).trans O.m1,O.f1,(Qt (Ne.symm O.CY)).trans O.m2,O.f2,Qw (Qd O.m3),M3.to fun j=>?_,fun j m hj=>?_,fun j i hj=>?_,fun j j' m hj Kj=>?_,O.FY,O.FZ,O.CY,O.LN,O.F0,O.wP,fun j m hj=>?_,O.sp,O.s1,O.s2,O.s3,fun j m hj=>?_⟩
 ·by_cases Kl:j=k <;> simp [vg,Kl]
 ·by_cases Kl:j=k
  ·subst Kl
   rw[if_pos rfl] at hj;cases hj
   exact ⟨c,es,(Qt (Ne.symm h3)).trans hn,M⟩
  ·rw[if_neg Kl] at hj
   obtain ⟨c,es,g1,g2⟩:=O.ks j m hj
   exact ⟨c,es,(Qt (Ne.symm (O.nk j m hj).2.2.2)).trans g1,g2.to fun i=>by unfold qN;rw[he j Kl i]⟩
 ·by_cases Kl:j=k
  ·subst Kl;rw[if_pos rfl] at hj;cases hj
  ·rw[if_neg Kl] at hj
   rw[he j Kl i];exact O.kn j i hj
 ·by_cases Kl:j=k
  ·by_cases F2:j'=k
   ·rw[Kl,F2]
   ·rw[if_pos Kl] at hj;rw[if_neg F2] at Kj;cases hj
    exact absurd rfl (h4 _ _ Kj)
  ·by_cases F2:j'=k
   ·rw[if_neg Kl] at hj;rw[if_pos F2] at Kj;cases Kj
    exact absurd rfl (h4 _ _ hj)
   ·rw[if_neg Kl] at hj;rw[if_neg F2] at Kj
    exact O.ki j j' m hj Kj
 ·by_cases Kl:j=k
  ·rw[if_pos Kl] at hj;cases hj;exact ⟨h0,h1,h2,h3⟩
  ·rw[if_neg Kl] at hj;exact O.nk j m hj
 ·by_cases Kl:j=k
  ·rw[if_pos Kl] at hj;cases hj;exact sn
  ·rw[if_neg Kl] at hj;exact O.sk j m hj
theorem W5.app (g:List Ob):W5 S (h++g) p b1 b2 b3 c1 c2 c3 Jc Jg Jj kl T A Kd:=O.step fun l hl h1=>⟨h1,QU hl⟩
end
theorem Db.of {S:Nat→Prop} {h:List Ob} {p:Nat} {T:List Qi} {A:List Int} {leaf:Int} {n:Nat} {id:Int} {dn:List Int} {c:Qi} {lo g k:Nat} (row:Nat→List D) {H:List Ob} (S':Nat→Prop) {b1 b2 b3 c1 c2 c3:Nat} {Jc Jg Jj:List QK} {kl:Int→Option Nat}
  (hu:up T leaf=dn++up T id) (hc:Qr T id=some c) (hn:(up T id).length≤n) (ha:∀ i∈dn++[id],Zu T A i=false) (O:W5 S' H p b1 b2 b3 c1 c2 c3 Jc Jg Jj kl T (leaf::A) (Xq T A dn)) (hS:∀ l,S' l→more S h l∧l<H.length) (h1:¬ S' lo) (h2:h.length≤lo) (hs:Step S h H)
  (hk:k=dn.length+1) (h3:H[lo]? = some ⟨.arr,g,1,k,row⟩) (h4:∀ i,i<dn.length+1→row i=[Qb ((dn++[id]).getD i 0)]):Db S h p T A leaf n ⟨[(0,.ptr p 0 0 0),(6,.ref lo g 0 k),(7,Qb id)],H⟩:=by
 subst hk
 exact ⟨⟨id,dn,c,lo,g,row,H,S',b1,b2,b3,c1,c2,c3,Jc,Jg,Jj,kl,hu,hc,hn,ha,O,hS,h1,h2,hs,h3,h4,rfl⟩⟩
theorem QkC (T:List Qi) (A:List Int) (leaf:Int) (k:Int):(if k=leaf then some (Qb ((Qr T leaf).getD default).parent) else zL T A k)=zL T (leaf::A) k:=by
 unfold zL
 by_cases h:k=leaf
 ·subst h;simp
 ·simp [h]
theorem ox {S:Nat→Prop} {h:List Ob} {p:Nat} {T:List Qi} {A:List Int} (O:W6 S h p T A) (I:JA T) (hA:qK T A) (leaf:Int) (c:Qi) (hc:Qr T leaf=some c) (X3:c.leaf=true) (WI:1<QH c.ls) (JL:Zu T A leaf=false) :
  QG Tryz.prog 58 h [.ptr p 0 0 0,Qb leaf] (fun d h'=>∃ d1,d=.tup [d1,Qb 0]∧Z3 h.length h' d1 (Vs T A leaf)∧W6 (more S h) h' p T (leaf::A)∧Step S h h'):=by
 have O0:=O
 have hR:=O.toR
 obtain ⟨b1,b2,b3,c1,c2,c3,Jc,Jg,Jj,kl,O⟩:=O
 have ho:=O.o
 have m1:=O.m1
 have m2:=O.m2
 have m3:=O.m3
 have k1:=O.f1.at_ leaf
 rw[Yy,hc] at k1
 simp only[if_pos WI,X3,A3,if_true] at k1
 have P7:leaf≠0:=fun e=>by rw[e,AT I] at hc;cases hc
 have A5:=Da hR I hA leaf P7
 rw[JL] at A5
 obtain ⟨c2',Dc,e2,M2⟩:=O.f2.set .i64 c2 leaf (Qb c.parent)
 simp only[go_sem,simprocAttr] at e2
 refine QW Qe 200 Tryz.func58 rfl Tryz.ntmps58 Tryz.results58 rfl fun base w pl hb=>?_
 have Qf:=Qd ho
 have Yz:=Qd m1
 simp only[go_sem,simprocAttr,Qa,ho,Qf,m1,Yz,k1]
 refine QL hb Ft rfl ?_ A5 rfl fun d hR=>?_
 ·simp only[go_sem,simprocAttr,Qa,ho,Qf]
 subst hR
 refine Qc hb ?_
 simp only[go_sem,simprocAttr,Qa,ho,Qf]
 refine QA Qe hb 200 mixed [(0,true),(1,true),(2,true),(3,true),(4,true),(5,true),(6,true),(7,true),(8,true),(9,true),(10,true),(11,true),(12,false)] (by kernel_rfl) (by kernel_rfl) ?_
 simp only[go_sem,simprocAttr,Qa,ho,Qf,m1,Qd m1,m2,Qd m2,k1]
 simp only[e2]
 have F3:Db S h p T A leaf (up T leaf).length ⟨[(0,.ptr p 0 0 0),(6,.ref h.length 0 0 1),(7,Qb leaf)],h.set b2 (QE .i64 c2' Dc)++[⟨.arr,0,1,1,fun _=>[Qb leaf]⟩]⟩:=by
  have O2:=((O.step (S':=fun l=>S l∧l<h.length) fun l h1 h2=>⟨⟨h2,h1⟩,rfl⟩).ou (c2':=c2') (M2.to fun k=>by
   have hp:(Qr T leaf).getD default=c:=by rw[hc];rfl
   have:=QkC T A leaf k
   rw[hp] at this;exact this)).app [⟨.arr,0,1,1,fun _=>[Qb leaf]⟩]
  refine ⟨leaf,[],c,h.length,0,fun _=>[Qb leaf],_,fun l=>S l∧l<h.length,b1,b2,b3,c1,c2',c3,Jc,Dc,Jj,kl,rfl,hc,Nat.le_refl _,fun i hi=>?_,?_,fun l h1=>⟨.inl h1.1,by have:=h1.2;simp;omega⟩,fun h1=>by have:=h1.2;omega,Nat.le_refl _,⟨fun l h1 h2=>?_,by simp⟩,?_,fun i hi=>?_,rfl⟩
  ·simp only[List.nil_append,List.mem_singleton] at hi;rw[hi];exact JL
  ·rw[show Xq T A []=WE T A from funext fun p=>funext fun i=>QjN T A p i]
   exact O2
  ·rw[QU (by simpa using h1),Qt (fun (e:b2=l)=>h2 (e▸O.s2))]
  ·rw[Kq (by simp)];rfl
  ·obtain rfl:i=0:=by simp at hi;omega
   rfl
 refine B8 (Db S h p T A leaf) (up T leaf).length (Ql.frame (by simp only[go_sem,simprocAttr])) F3 ?_
 clear F3 O m1 m2 m3 ho k1 e2 M2 A5 O0 hR
 rintro n s ⟨id,dn,cc,lo,g,row,H,S',b1,b2,b3,c1,c2,c3,Jc,Jg,Jj,kl,hu,J8,hn,yA,O,hS,Zp,qO,ZH,Xu,ZN,rfl⟩
 have ho:=O.o
 have m1:=O.m1
 have m3:=O.m3
 have Qf:=Qd ho
 have Yz:=Qd m1
 have Wg:=Qd m3
 have yB:=Qd Xu
 obtain ⟨d0,yC,ZT⟩:=nA I hc WI id (by rw[hu];exact List.mem_append_right _ (Vr I J8))
 rw[J8] at yC;cases yC
 have k1:=O.f1.at_ id
 rw[Yy,J8] at k1
 simp only[if_pos ZT] at k1
 have k3:=O.f3.at_ cc.parent
 have Zt:=QjL I hA hu J8 yA
 have LR:=QjM I (A:=A) (dn:=dn) J8
 have P8:b3≠lo:=fun e=>Zp (e▸O.s3)
 have Qtg:p≠lo:=fun e=>Zp (e▸O.sp)
 have Qth:b1≠lo:=fun e=>Zp (e▸O.s1)
 have fin:∀ (H2:List Ob) (S2:Nat→Prop) c3' es3' oy,W5 S2 H2 p b1 b2 b3 c1 c2 c3' Jc Jg es3' oy T (leaf::A) (Xq T A (dn++[id]))→(∀ l,S2 l→more S h l)→Step S h H2→H2[lo]? = some ⟨.arr,g,1,dn.length+1,row⟩→(cc.parent=0∨Zu T A cc.parent=true) →
   Z3 h.length H2 (.ref lo g 0 (dn.length+1)) (Vs T A leaf)∧W6 (more S h) H2 p T (leaf::A)∧Step S h H2:=fun H2 S2 c3' es3' oy O2 A7 yD QkD he=>by
  obtain ⟨e1,e2⟩:=QjO I hA hu J8 yA he
  rw[← e1]
  refine ⟨.inr ⟨lo,g,0,row,by simp,⟨qO,rfl⟩,by simpa using QkD,fun i hi=>?_⟩,?_,yD⟩
  ·rw[Nat.zero_add];exact ZN i (by simpa using hi)
  ·rw[show Xq T A (dn++[id])=WE T (leaf::A) from funext fun p=>funext fun i=>e2 p i] at O2
   exact ⟨_,_,_,_,_,_,_,_,_,_,O2.step fun l h1 h2=>⟨A7 l h2,rfl⟩⟩
 by_cases Dd:∃ i,Xq T A dn cc.parent i=true
 ·
  cases hk:kl cc.parent with
  | none=>obtain ⟨i,hi⟩:=Dd;rw[O.kn _ i hk] at hi;cases hi
  | some l=>
   obtain ⟨c,es,ml,fl⟩:=O.ks _ l hk
   have qg:=Qd ml
   rw[vg,hk,Option.map_some] at k3
   have jn:0<es.length:=(LQ fl).2 Dd
   have d1:((es.length:Int) == 0)=false:=Vq (by omega)
   have d2:decide ((0:Int)<(es.length:Int))=true:=decide_eq_true (by omega)
   have P9:=(O.nk _ l hk).2.2.2
   have Ra:l≠lo:=fun e=>Zp (e▸O.sk _ l hk)
   obtain ⟨c',es',ea,M'⟩:=fl.set .i64 c id (Qb 1)
   simp only[go_sem,simprocAttr] at ea
   have he:cc.parent=0∨Zu T A cc.parent=true:=by
    by_cases h0:cc.parent=0
    ·exact .inl h0
    ·obtain ⟨d,hd,wG⟩:=I.Xn cc (qJ I J8) h0
     exact .inr ((nz I hA hd wG).2 (Zt.1 Dd))
   have O2:=O.ov (c':=c') (es':=es') (Kd':=Xq T A (dn++[id])) hk (M'.to fun j=>by
    unfold qN;rw[LR]
    by_cases hj:j=id
    ·simp [hj]
    ·simp [hj]) (fun j hj i=>by rw[LR,if_neg (fun h=>hj h.1)])
   refine Qc hb ?_
   simp only[go_sem,simprocAttr,Qa,ho,Qf,m1,Yz,m3,Wg,k1,k3,ml,qg,d1,d2,Go.undef]
   simp only[ea]
   exact ⟨_,rfl,fin _ _ _ _ _ O2 (fun l h=>(hS l h).1) (ZH.F1 (hS l (O.sk _ l hk)).1 _) ((Qt Ra).trans Xu) he⟩
 ·
  have hz:∀ i,Xq T A dn cc.parent i=false:=fun i=>by
   rw[Bool.eq_false_iff];exact fun h=>Dd ⟨i,h⟩
  have hB:(kl cc.parent=none∧True∧True∧True)∨∃ l c es,kl cc.parent=some l∧H[l]? = some (QE .i64 c es)∧l<H.length∧es.length=0:=by
   cases hk:kl cc.parent with
   | none=>exact .inl ⟨rfl,trivial,trivial,trivial⟩
   | some l=>
    obtain ⟨c,es,ml,fl⟩:=O.ks _ l hk
    refine .inr ⟨l,c,es,rfl,ml,Qd ml,?_⟩
    have:=(LQ fl).1
    by_cases h0:0<es.length
    ·exact absurd (this h0) Dd
    ·omega
  obtain ⟨c3',es3',e3,M3⟩:=O.f3.set .i64 c3 cc.parent (.mref H.length 0)
  obtain ⟨De,Df,e0,M0⟩:=Jv.nil.set .i64 0 id (Qb 1)
  simp only[go_sem,simprocAttr] at e3 e0
  have F4:=M3.at_ cc.parent
  rw[if_pos rfl] at F4
  have F5:∀ l,S' l→l≠H.length:=fun l hl e=>by have:=(hS l hl).2;omega
  have Qti:=ZH.len
  have O2:=((O.app [QE .i64 De Df]).step (S':=fun l=>S' l∨l=H.length) fun l _ h2=>⟨.inl h2,rfl⟩).QkB (k:=cc.parent) (n:=H.length) (c3':=c3') (es3':=es3') (Kd':=Xq T A (dn++[id])) (Kq rfl) (M0.to fun j=>by
    unfold qN;rw[LR,hz]
    by_cases hj:j=id
    ·simp [hj]
    ·simp [hj]) (fun e=>F5 p O.sp e.symm) (fun e=>F5 b1 O.s1 e.symm) (fun e=>F5 b2 O.s2 e.symm) (fun e=>F5 b3 O.s3 e.symm) (fun j l hj=>F5 l (O.sk j l hj)) (.inr rfl) M3 (fun j hj i=>by rw[LR,if_neg (fun h=>hj h.1)])
  rw[wu Wg] at O2
  have yD:=(ZH.F1 (hS b3 O.s3).1 (QE .i64 c3' es3')).P6 [QE .i64 De Df]
  have A9:((H.set b3 (QE .i64 c3' es3'))++[QE .i64 De Df])[lo]? = some ⟨.arr,g,1,dn.length+1,row⟩:=by
   rw[QU (by simpa using yB),Qt P8];exact Xu
  have A7:∀ l,(S' l∨l=H.length)→more S h l:=fun l hl=>hl.elim (fun h=>(hS l h).1) fun e=>.inr (by omega)
  have wG:dn.length≤16:=by
   have e:=congrArg List.length hu
   have:=kY (L:=T) (n:=16) (id:=leaf)
   rw[List.length_append] at e
   unfold up at e;omega
  have kF:cc.parent≠0→Db S h p T A leaf (up T cc.parent).length ⟨[(0,.ptr p 0 0 0),(6,.ref lo (g+1) 0 (dn.length+1+1)),(7,Qb cc.parent)],
    (H.set b3 (QE .i64 c3' es3')).set lo ⟨.arr,g+1,1,dn.length+1+1,JJ (dn.length+1) 0 row fun _=>[Qb cc.parent]⟩++[QE .i64 De Df,⟨.arr,0,1,1,fun _=>[Qb cc.parent]⟩]⟩:=fun h0=>by
   obtain ⟨d,hd,oz⟩:=I.Xn cc (qJ I J8) h0
   have e1:(dn++[id]).length+1=dn.length+1+1:=by simp
   have VO:Zu T A cc.parent=false:=by
    rw[Bool.eq_false_iff]
    exact fun hq=>Dd (Zt.2 ((nz I hA hd oz).1 hq))
   have hl4:lo<(H.set b3 (QE .i64 c3' es3')).length:=by simpa using yB
   have e2:(H.set b3 (QE .i64 c3' es3')).set lo ⟨.arr,g+1,1,dn.length+1+1,JJ (dn.length+1) 0 row fun _=>[Qb cc.parent]⟩++[QE .i64 De Df,⟨.arr,0,1,1,fun _=>[Qb cc.parent]⟩] =
     (H.set b3 (QE .i64 c3' es3')++[QE .i64 De Df]).set lo ⟨.arr,g+1,1,dn.length+1+1,JJ (dn.length+1) 0 row fun _=>[Qb cc.parent]⟩++[⟨.arr,0,1,1,fun _=>[Qb cc.parent]⟩]:=by
    rw[wu hl4];simp
   rw[e2]
   have oA:∀ l,(S' l∨l=H.length)→l≠lo:=fun l hl e=>by
    subst e
    rcases hl with hl | hl
    ·exact Zp hl
    ·omega
   refine Db.of (JJ (dn.length+1) 0 row fun _=>[Qb cc.parent]) (fun l=>S' l∨l=H.length) (dn:=dn++[id]) ?_ hd (Nat.le_refl _) (fun i hi=>?_) (O2.step (fun l h1 h2=>⟨h2,?_⟩)) (fun l hl=>⟨A7 l hl,?_⟩) (fun h1=>oA lo h1 rfl) qO ((yD.F1 (.inr qO) _).P6 _) e1.symm ?_ ?_
   ·rw[hu,JQ I J8];simp
   ·rcases List.mem_append.1 hi with hi | hi
    ·exact yA i hi
    ·rw[List.mem_singleton.1 hi];exact VO
   ·rw[QU (by simpa using h1),Qt (Ne.symm (oA l h2))]
   ·rcases hl with hl | hl
    ·have:=(hS l hl).2;simp;omega
    ·simp;omega
   ·rw[QU (by simp;omega),Qw (by simp;omega)]
   ·intro i hi
    have:=AP (dn:=dn++[id]) (off:=0) (row:=row) (v:=cc.parent) (fun i hi=>by rw[Nat.zero_add];exact ZN i (by simpa using hi)) i (by simpa using hi)
    rw[Nat.zero_add] at this
    simpa using this
  rcases hB with ⟨hk,ml,qg,EY⟩ | ⟨l,c,es,hk,ml,qg,EY⟩
  ·rw[vg,hk,Option.map_none] at k3
   refine Qc hb ?_
   simp only[go_sem,simprocAttr,Qa,ho,Qf,m1,Yz,m3,Wg,k1,k3,ml,qg,EY,Go.undef]
   simp only[e3]
   by_cases h0:cc.parent=0
   ·have d0:(cc.parent == 0)=true:=by simpa using h0
    simp only[go_sem,simprocAttr,Qa,ho,Qf,Qt (Ne.symm O.wP),Qw Wg,Wg,F4,e0,d0]
    exact ⟨_,rfl,fin _ _ _ _ _ O2 A7 yD A9 (.inl h0)⟩
   ·have d0:(cc.parent == 0)=false:=by simpa using h0
    simp only[go_sem,simprocAttr,Qa,ho,Qf,Qt (Ne.symm O.wP),Qw Wg,Wg,F4,e0,d0,A9,Xu,Qt P8,yB]
    refine ⟨by omega,(up T cc.parent).length,⟨[(0,.ptr p 0 0 0),(6,.ref lo (g+1) 0 (dn.length+1+1)),(7,Qb cc.parent)],_⟩,?_,Ql.frame (by simp only[go_sem,simprocAttr]),kF h0⟩
    have:=congrArg List.length (JQ I J8)
    simp only[List.length_cons] at this
    omega
  ·rw[vg,hk,Option.map_some] at k3
   refine Qc hb ?_
   simp only[go_sem,simprocAttr,Qa,ho,Qf,m1,Yz,m3,Wg,k1,k3,ml,qg,EY,Go.undef]
   simp only[e3]
   by_cases h0:cc.parent=0
   ·have d0:(cc.parent == 0)=true:=by simpa using h0
    simp only[go_sem,simprocAttr,Qa,ho,Qf,Qt (Ne.symm O.wP),Qw Wg,Wg,F4,e0,d0]
    exact ⟨_,rfl,fin _ _ _ _ _ O2 A7 yD A9 (.inl h0)⟩
   ·have d0:(cc.parent == 0)=false:=by simpa using h0
    simp only[go_sem,simprocAttr,Qa,ho,Qf,Qt (Ne.symm O.wP),Qw Wg,Wg,F4,e0,d0,A9,Xu,Qt P8,yB]
    refine ⟨by omega,(up T cc.parent).length,⟨[(0,.ptr p 0 0 0),(6,.ref lo (g+1) 0 (dn.length+1+1)),(7,Qb cc.parent)],_⟩,?_,Ql.frame (by simp only[go_sem,simprocAttr]),kF h0⟩
    have:=congrArg List.length (JQ I J8)
    simp only[List.length_cons] at this
    omega
structure Dg (S:Nat→Prop) (h:List Ob) (p:Nat) (T:List Qi) (A:List Int) (leaf:Int) (n:Nat) (s:St):Prop where
 ex:∃ id dn c lo g row H S' b1 b2 b3 c1 c2 c3 Jc Jg Jj kl,up T leaf=dn++up T id∧Qr T id=some c∧(up T id).length≤n∧(∀ i∈dn++[id],Zu T (Z2 A leaf) i=false) ∧
  W5 S' H p b1 b2 b3 c1 c2 c3 Jc Jg Jj kl T (Z2 A leaf) (X0 T A dn)∧(∀ l,S' l→more S h l∧l<H.length)∧¬ S' lo∧h.length≤lo∧Step S h H ∧
  H[lo]? = some ⟨.arr,g,1,dn.length+1,row⟩∧(∀ i,i<dn.length+1→row i=[Qb ((dn++[id]).getD i 0)]) ∧
  s=⟨[(0,.ptr p 0 0 0),(6,.ref lo g 0 (dn.length+1)),(7,Qb id)],H⟩
theorem Dg.of {S:Nat→Prop} {h:List Ob} {p:Nat} {T:List Qi} {A:List Int} {leaf:Int} {n:Nat} {id:Int} {dn:List Int} {c:Qi} {lo g k:Nat} (row:Nat→List D) {H:List Ob} (S':Nat→Prop) {b1 b2 b3 c1 c2 c3:Nat} {Jc Jg Jj:List QK} {kl:Int→Option Nat}
  (hu:up T leaf=dn++up T id) (hc:Qr T id=some c) (hn:(up T id).length≤n) (ha:∀ i∈dn++[id],Zu T (Z2 A leaf) i=false) (O:W5 S' H p b1 b2 b3 c1 c2 c3 Jc Jg Jj kl T (Z2 A leaf) (X0 T A dn)) (hS:∀ l,S' l→more S h l∧l<H.length) (h1:¬ S' lo) (h2:h.length≤lo) (hs:Step S h H)
  (hk:k=dn.length+1) (h3:H[lo]? = some ⟨.arr,g,1,k,row⟩) (h4:∀ i,i<dn.length+1→row i=[Qb ((dn++[id]).getD i 0)]):Dg S h p T A leaf n ⟨[(0,.ptr p 0 0 0),(6,.ref lo g 0 k),(7,Qb id)],H⟩:=by
 subst hk
 exact ⟨⟨id,dn,c,lo,g,row,H,S',b1,b2,b3,c1,c2,c3,Jc,Jg,Jj,kl,hu,hc,hn,ha,O,hS,h1,h2,hs,h3,h4,rfl⟩⟩
theorem QkF (T:List Qi) (A:List Int) (leaf:Int) (k:Int):(if k=leaf then none else zL T A k)=zL T (Z2 A leaf) k:=by
 unfold zL Z2
 by_cases h:k=leaf
 ·subst h;simp
 ·simp [h,List.mem_filter]
theorem QkG {S:Nat→Prop} {h:List Ob} {p:Nat} {T:List Qi} {A:List Int} (O:W6 S h p T A) (I:JA T) (hA:qK T A) (leaf:Int) (c:Qi) (hc:Qr T leaf=some c) (X3:c.leaf=true) (WI:1<QH c.ls) (VI:leaf∈A) (JL:Zu T (Z2 A leaf) leaf=false) :
  QG Tryz.prog 118 h [.ptr p 0 0 0,Qb leaf] (fun d h'=>∃ d1,d=.tup [d1,Qb 0]∧Z3 h.length h' d1 (Vs T (Z2 A leaf) leaf)∧W6 (more S h) h' p T (Z2 A leaf)∧Step S h h'):=by
 have O0:=O
 have hR:=O.toR
 obtain ⟨b1,b2,b3,c1,c2,c3,Jc,Jg,Jj,kl,O⟩:=O
 have ho:=O.o
 have m1:=O.m1
 have m2:=O.m2
 have m3:=O.m3
 have yz:=Qd m2
 have k1:=O.f1.at_ leaf
 rw[Yy,hc] at k1
 simp only[if_pos WI,X3,A3,if_true] at k1
 have P7:leaf≠0:=fun e=>by rw[e,AT I] at hc;cases hc
 have A5:=Da hR I hA leaf P7
 rw[(AW VI leaf).2 (.inl (Vr I hc))] at A5
 have M2:=O.f2.del leaf
 refine QW Qe 200 Tryz.func118 rfl Tryz.ntmps118 Tryz.results118 rfl fun base w pl hb=>?_
 have Qf:=Qd ho
 have Yz:=Qd m1
 simp only[go_sem,simprocAttr,Qa,ho,Qf,m1,Yz,k1,Go.undef]
 refine QL hb Ft rfl ?_ A5 rfl fun d hR=>?_
 ·simp only[go_sem,simprocAttr,Qa,ho,Qf,m2,yz,Go.undef]
 subst hR
 refine Qc hb ?_
 simp only[go_sem,simprocAttr,Qa,ho,Qf,m2,yz,Go.undef]
 have F3:Dg S h p T A leaf (up T leaf).length ⟨[(0,.ptr p 0 0 0),(6,.ref h.length 0 0 1),(7,Qb leaf)],h.set b2 (QE .i64 c2 (ZM Jg leaf))++[⟨.arr,0,1,1,fun _=>[Qb leaf]⟩]⟩:=by
  have O2:=((O.step (S':=fun l=>S l∧l<h.length) fun l h1 h2=>⟨⟨h2,h1⟩,rfl⟩).ou (c2':=c2) (A':=Z2 A leaf) (M2.to fun k=>QkF T A leaf k)).app [⟨.arr,0,1,1,fun _=>[Qb leaf]⟩]
  rw[← show X0 T A []=WE T A from funext fun p=>funext fun i=>by simp [X0]] at O2
  refine Dg.of (fun _=>[Qb leaf]) (fun l=>S l∧l<h.length) (dn:=[]) rfl hc (Nat.le_refl _) (fun i hi=>?_) O2 (fun l h1=>⟨.inl h1.1,by have:=h1.2;simp;omega⟩) (fun h1=>by have:=h1.2;omega) (Nat.le_refl _) ⟨fun l h1 h2=>?_,by simp⟩ rfl ?_ (fun i hi=>?_)
  ·simp only[List.nil_append,List.mem_singleton] at hi;rw[hi];exact JL
  ·rw[QU (by simpa using h1),Qt (fun (e:b2=l)=>h2 (e▸O.s2))]
  ·rw[Kq (by simp)];rfl
  ·obtain rfl:i=0:=by simp at hi;omega
   rfl
 refine B8 (Dg S h p T A leaf) (up T leaf).length (Ql.frame (by simp only[go_sem,simprocAttr])) F3 ?_
 clear F3 O m1 m2 m3 ho k1 M2 A5 O0 hR
 rintro n s ⟨id,dn,cc,lo,g,row,H,S',b1,b2,b3,c1,c2,c3,Jc,Jg,Jj,kl,hu,J8,hn,yA,O,hS,Zp,qO,ZH,Xu,ZN,rfl⟩
 have ho:=O.o
 have m1:=O.m1
 have m3:=O.m3
 have Qf:=Qd ho
 have Yz:=Qd m1
 have Wg:=Qd m3
 have yB:=Qd Xu
 obtain ⟨d0,yC,ZT⟩:=nA I hc WI id (by rw[hu];exact List.mem_append_right _ (Vr I J8))
 rw[J8] at yC;cases yC
 have k1:=O.f1.at_ id
 rw[Yy,J8] at k1
 simp only[if_pos ZT] at k1
 have k3:=O.f3.at_ cc.parent
 have QkH:Zu T A id=true:=(AW VI id).2 (.inl (by rw[hu];exact List.mem_append_right _ (Vr I J8)))
 have QkI:id ∉ dn:=fun hm=>by
  have nd:=FJ I leaf
  rw[hu,List.nodup_append] at nd
  exact nd.2.2 id hm id (Vr I J8) rfl
 have oB:X0 T A dn cc.parent id=true:=CO.2 ⟨Y8.2 ⟨cc,J8,rfl,QkH⟩,QkI⟩
 have hKn:∀ j,j≠cc.parent→∀ i,X0 T A (dn++[id]) j i=X0 T A dn j i:=fun j hj i=>by
  rw[Bool.eq_iff_iff,CO,CO]
  constructor
  ·exact fun ⟨h1,h2⟩=>⟨h1,fun h3=>h2 (List.mem_append_left _ h3)⟩
  ·rintro ⟨h1,h2⟩
   refine ⟨h1,fun h3=>?_⟩
   rcases List.mem_append.1 h3 with h3 | h3
   ·exact h2 h3
   ·rw[List.mem_singleton.1 h3] at h1
    obtain ⟨e,h4,h5,_⟩:=Y8.1 h1
    rw[J8] at h4;cases h4
    exact hj h5.symm
 cases hk:kl cc.parent with
 | none=>rw[O.kn _ id hk] at oB;cases oB
 | some l=>
  obtain ⟨c,es,ml,fl⟩:=O.ks _ l hk
  have qg:=Qd ml
  rw[vg,hk,Option.map_some] at k3
  obtain ⟨n0,n1,n2,n3⟩:=O.nk _ l hk
  have Ra:l≠lo:=fun e=>Zp (e▸O.sk _ l hk)
  have M':Jv (ZM es id) (qN (X0 T A (dn++[id]) cc.parent)):=(fl.del id).to fun j=>by
   unfold qN X0
   by_cases hj:j=id
   ·simp [hj]
   ·simp [hj]
  have hlen:=LQ M'
  have O2:=O.ov (c':=c) (es':=ZM es id) (Kd':=X0 T A (dn++[id])) hk M' hKn
  have yD:=ZH.F1 (hS l (O.sk _ l hk)).1 (QE .i64 c (ZM es id))
  have A9:(H.set l (QE .i64 c (ZM es id)))[lo]? = some ⟨.arr,g,1,dn.length+1,row⟩:=(Qt Ra).trans Xu
  have fin:(cc.parent=0∨Zu T (Z2 A leaf) cc.parent=true) →
    Z3 h.length (H.set l (QE .i64 c (ZM es id))) (.ref lo g 0 (dn.length+1)) (Vs T (Z2 A leaf) leaf)∧W6 (more S h) (H.set l (QE .i64 c (ZM es id))) p T (Z2 A leaf)∧Step S h (H.set l (QE .i64 c (ZM es id))):=fun he=>by
   obtain ⟨e1,e2⟩:=QjP I VI hu J8 yA he
   rw[← e1]
   refine ⟨.inr ⟨lo,g,0,row,by simp,⟨qO,rfl⟩,by simpa using A9,fun i hi=>?_⟩,?_,yD⟩
   ·rw[Nat.zero_add];exact ZN i (by simpa using hi)
   ·rw[show X0 T A (dn++[id])=WE T (Z2 A leaf) from funext fun p=>funext fun i=>e2 p i] at O2
    exact ⟨_,_,_,_,_,_,_,_,_,_,O2.step fun l h1 h2=>⟨(hS l h2).1,rfl⟩⟩
  by_cases LS:∃ i,X0 T A (dn++[id]) cc.parent i=true
  ·have jn:=hlen.2 LS
   have d2:decide ((0:Int)<((ZM es id).length:Int))=true:=decide_eq_true (by omega)
   have he:cc.parent=0∨Zu T (Z2 A leaf) cc.parent=true:=by
    by_cases h0:cc.parent=0
    ·exact .inl h0
    ·exact .inr ((nB I hA VI hu J8 yA h0).1 LS)
   refine Qc hb ?_
   simp only[go_sem,simprocAttr,Qa,ho,Qf,m1,Yz,m3,Wg,k1,k3,ml,qg,d2,Go.undef,Qt n0,Qt n3,Qw qg]
   exact ⟨_,rfl,fin he⟩
  ·have hz:¬ 0<(ZM es id).length:=fun h=>LS (hlen.1 h)
   have d2:decide ((0:Int)<((ZM es id).length:Int))=false:=decide_eq_false (by omega)
   by_cases h0:cc.parent=0
   ·have d0:(cc.parent == 0)=true:=by simpa using h0
    refine Qc hb ?_
    simp only[go_sem,simprocAttr,Qa,ho,Qf,m1,Yz,m3,Wg,k1,k3,ml,qg,d2,d0,Go.undef,Qt n0,Qt n3,Qw qg]
    exact ⟨_,rfl,fin (.inl h0)⟩
   ·have d0:(cc.parent == 0)=false:=by simpa using h0
    have wG:dn.length≤16:=by
     have e:=congrArg List.length hu
     have:=kY (L:=T) (n:=16) (id:=leaf)
     rw[List.length_append] at e
     unfold up at e;omega
    obtain ⟨d,hd,oz⟩:=I.Xn cc (qJ I J8) h0
    have VO:Zu T (Z2 A leaf) cc.parent=false:=by
     rw[Bool.eq_false_iff]
     exact fun hq=>LS ((nB I hA VI hu J8 yA h0).2 hq)
    have e1:(dn++[id]).length+1=dn.length+1+1:=by simp
    refine Qc hb ?_
    simp only[go_sem,simprocAttr,Qa,ho,Qf,m1,Yz,m3,Wg,k1,k3,ml,qg,d2,d0,Go.undef,Qt n0,Qt n3,Qw qg,A9,Xu,yB]
    refine ⟨by omega,(up T cc.parent).length,⟨[(0,.ptr p 0 0 0),(6,.ref lo (g+1) 0 (dn.length+1+1)),(7,Qb cc.parent)],_⟩,?_,Ql.frame (by simp only[go_sem,simprocAttr]),?_⟩
    ·have:=congrArg List.length (JQ I J8)
     simp only[List.length_cons] at this
     omega
    ·refine Dg.of (JJ (dn.length+1) 0 row fun _=>[Qb cc.parent]) S' (dn:=dn++[id]) ?_ hd (Nat.le_refl _) (fun i hi=>?_) (O2.step (fun j h1 h2=>⟨h2,?_⟩)) (fun j hj=>⟨(hS j hj).1,?_⟩) Zp qO ((yD.F1 (.inr qO) _).P6 _) e1.symm ?_ ?_
     ·rw[hu,JQ I J8];simp
     ·rcases List.mem_append.1 hi with hi | hi
      ·exact yA i hi
      ·rw[List.mem_singleton.1 hi];exact VO
     ·rw[QU (by simpa using h1),Qt (fun (e:lo=j)=>Zp (e▸h2))]
     ·have:=(hS j hj).2;simp;omega
     ·rw[QU (by simpa using yB),Qw (by simpa using yB)];rfl
     ·intro i hi
      have:=AP (dn:=dn++[id]) (off:=0) (row:=row) (v:=cc.parent) (fun i hi=>by rw[Nat.zero_add];exact ZN i (by simpa using hi)) i (by simpa using hi)
      rw[Nat.zero_add] at this
      simpa using this
theorem QkK {T:List Qi} (hr:KH T) {k:Nat} (hk:k<T.length) (j:Int):Qr (T.take (k+1)) j=if j=(T.getD k default).iD then some (T.getD k default) else Qr (T.take k) j:=by
 rw[getD_take T default k hk]
 unfold Qr
 rw[List.find?_append]
 have KV:T.getD k default∈T:=yl T default k hk
 by_cases h:j=(T.getD k default).iD
 ·rw[if_pos h]
  have:List.find? (fun c=>c.iD == j) (T.take k)=none:=by
   rw[List.find?_eq_none]
   intro x hx hxj
   have hp:=hr
   rw[← List.take_append_drop k T] at hp
   have h2:=(List.pairwise_append.1 hp).2.2 x hx (T.getD k default) (by
    rw[List.drop_eq_getElem_cons hk,List.getD_eq_getElem?_getD,List.getElem?_eq_getElem hk];exact List.mem_cons_self ..)
   simp at hxj
   omega
  rw[this];simp [h]
 ·rw[if_neg h]
  have:((T.getD k default).iD == j)=false:=by simpa using Ne.symm h
  simp only[List.find?_cons,this,List.find?_nil,Option.or_none]
theorem oC {h:List Ob} {t:Nat} {T:List Qi} (R:KW h t T) (I:JA T):QG Tryz.prog 47 h [.ptr t 0 0 0] (fun d h'=>d=.ptr (h.length+3) 0 0 0∧W6 (fun l=>h.length≤l) h' (h.length+3) T []∧∃ g,h'=h++g):=by
 have hlen:=I.len
 have R2:∀ g,KW (h++g) t T:=fun g=>R.more yy
 refine QW Qe 200 Tryz.func47 rfl Tryz.ntmps47 Tryz.results47 rfl fun base w pl hb=>?_
 simp only[go_sem,simprocAttr,Qa,Qa]
 refine QL hb OR rfl ?_ (P4 (R2 _) (by omega)) rfl fun d hR=>?_
 ·simp only[go_sem,simprocAttr,Qa]
 subst hR
 refine Qc hb ?_
 simp only[go_sem,simprocAttr,Qa]
 refine ZB (fun k st=>∃ c es g,Jv es (Yy (T.take k))∧st=⟨[(0,.ptr t 0 0 0),(3,.ptr (h.length+3) 0 0 0),(15,ints (T.map (·.iD))),(16,Qb T.length),(17,Qb k)],h++(QE .i64 c es::QE .i64 0 []::QE .i64 0 []::LM h.length (h.length+1) (h.length+2)::g)⟩) T.length (s0:=⟨[(0,.ptr t 0 0 0),(3,.ptr (h.length+3) 0 0 0),(15,ints (T.map (·.iD))),(16,Qb T.length),(17,Qb 0)],h++(QE .i64 0 []::QE .i64 0 []::QE .i64 0 []::LM h.length (h.length+1) (h.length+2)::[])⟩) (Ql.frame (by simp only[go_sem,simprocAttr,List.length_map])) ⟨0,[],[],Jv.nil.to fun k=>by simp [Yy,Qr],rfl⟩ ?_
 rintro k _ hk ⟨c,es,g,M,rfl⟩
 by_cases Qq:k<T.length
 ·have dk:=decide_eq_true Qq
  have hg:(T.map (·.iD)).getD k 0=(T.getD k default).iD:=getD_map _ _ _ _ _ Qq
  have KV:T.getD k default∈T:=yl T default k Qq
  have hf:Qr T (T.getD k default).iD=some (T.getD k default):=(KQ I.rising).2 ⟨KV,rfl⟩
  have oD:=QkK I.rising Qq
  obtain ⟨x,hx⟩:∃ x,x=T.getD k default:=⟨_,rfl⟩
  rw[← hx] at hg KV hf oD
  have VV:=fun g=>CZ (R2 g) x.iD
  rw[hf] at VV
  simp only[Option.getD_some,Option.isSome_some,if_true] at VV
  have QZ:∀ j,Yy (T.take (k+1)) j=if j=x.iD then (if 1<QH x.ls then some (.agg [Qb x.parent,Qb (A3 x.leaf)]) else none) else Yy (T.take k) j:=fun j=>by
   unfold Yy
   rw[oD]
   by_cases hj:j=x.iD
   ·simp [hj]
   ·simp [hj]
  have Of:Yy (T.take k) x.iD=none:=by
   unfold Yy
   have:Qr (T.take k) x.iD=none:=by
    rw[yo]
    intro y hy e
    have hp:=I.rising
    rw[← List.take_append_drop k T] at hp
    have h2:=(List.pairwise_append.1 hp).2.2 y hy x (by
     rw[List.drop_eq_getElem_cons Qq,hx,List.getD_eq_getElem?_getD,List.getElem?_eq_getElem Qq];exact List.mem_cons_self ..)
    omega
   rw[this]
  refine Qc hb ?_
  simp only[go_sem,simprocAttr,Qa,dk,Qq,hg,List.length_map]
  refine QL hb Yr rfl ?_ (VV _) rfl fun d hR=>?_
  ·simp only[go_sem,simprocAttr,Qa]
  subst hR
  refine Qc hb ?_
  simp only[go_sem,simprocAttr,Qa]
  refine QM hb Ys rfl ?_ (Yu x) (Qm.flat rfl) rfl fun d h hR=>?_
  ·simp only[go_sem,simprocAttr,Qa]
  obtain ⟨rfl,rfl⟩:=hR
  refine Qc hb ?_
  simp only[go_sem,simprocAttr,Qa]
  by_cases hs:1<QH x.ls
  ·have ds:=decide_eq_true hs
   simp only[if_pos hs] at QZ
   obtain ⟨c',es',e1,M'⟩:=M.set .i64 c x.iD (.agg [Qb x.parent,Qb (A3 x.leaf)])
   simp only[go_sem,simprocAttr] at e1
   have M2:=M'.to fun j=>(QZ j).symm
   have Zl:=KG (show k<4611686018427387904 by omega)
   cases hl:x.leaf with
   | true=>
    rw[hl] at e1
    simp only[A3,if_true] at e1
    simp only[go_sem,simprocAttr,Qa,ds,hl]
    refine QA Qe hb 200 mixed [(0,true),(1,true),(2,true),(3,true),(4,true),(5,true),(6,false)] (by kernel_rfl) (by kernel_rfl) ?_
    simp only[go_sem,simprocAttr,Qa,hl]
    simp only[e1]
    exact ⟨Qq,_,Ql.frame (by simp only[go_sem,simprocAttr,Zl]),c',es',_,M2,rfl⟩
   | false=>
    rw[hl] at e1
    simp only[A3] at e1
    simp only[go_sem,simprocAttr,Qa,ds,hl]
    refine QA Qe hb 200 mixed [(0,true),(1,true),(2,true),(3,true),(4,true),(5,true),(6,false)] (by kernel_rfl) (by kernel_rfl) ?_
    simp only[go_sem,simprocAttr,Qa,hl]
    simp only[Bool.false_eq_true,if_false] at e1
    simp only[e1]
    exact ⟨Qq,_,Ql.frame (by simp only[go_sem,simprocAttr,Zl]),c',es',_,M2,rfl⟩
  ·have ds:=decide_eq_false hs
   simp only[if_neg hs] at QZ
   have Zl:=KG (show k<4611686018427387904 by omega)
   simp only[go_sem,simprocAttr,Qa,ds]
   refine ⟨Qq,_,Ql.frame (by simp only[go_sem,simprocAttr,Zl]),c,es,_,M.to fun j=>?_,rfl⟩
   rw[QZ]
   by_cases hj:j=x.iD
   ·rw[if_pos hj,hj,Of]
   ·rw[if_neg hj]
 ·have Z1:k=T.length:=by omega
  have dk:=decide_eq_false Qq
  rw[Z1,List.take_length] at M
  refine Qc hb ?_
  simp only[go_sem,simprocAttr,Qa,dk]
  refine Qc hb ?_
  simp only[go_sem,simprocAttr,Qa]
  refine ⟨⟨h.length,h.length+1,h.length+2,c,0,0,es,[],[],fun _=>none,Ve rfl,Kq rfl,M,Ve rfl,Jv.nil.to (fun j=>by simp [zL]),Ve rfl,Jv.nil.to (fun j=>rfl),(fun _ _ e=>nomatch e),(fun k i _=>by simp [WE,Zu]),(fun _ _ _ e=>nomatch e),by omega,by omega,by omega,by omega,by omega,by omega,(fun _ _ e=>nomatch e),by show h.length≤_;omega,Nat.le_refl _,by show h.length≤_;omega,by show h.length≤_;omega,(fun _ _ e=>nomatch e)⟩,_,rfl⟩
@[go_sem] def wQ (a m:Nat):Ob:=⟨.one,0,2,1,fun _=>[.ptr a 0 0 0,.mref m 0]⟩
def vh (x:It):Int × D:=(x.ki,.agg x.cells)
structure Ba (S:Nat→Prop) (h:List Ob) (p a m:Nat) (t:Tr) (c:Nat) (es:List QK) (L:List It):Prop where
 o:h[p]? = some (wQ a m)
 av:zJ h a t L
 mo:h[m]? = some (QE .i64 c es)
 mp:Vu es (L.map vh)
 vi:∀ x∈L,x.vi=x.ki
 pa:p≠a
 pm:p≠m
 am:a≠m
 pt:p ∉ t.Qz
 mt:m ∉ t.Qz
 sp:S p
 sa:S a
 sm:S m
 st:∀ l∈t.Qz,S l
def Kr (S:Nat→Prop) (h:List Ob) (p:Nat) (L:List It):Prop:=∃ a m t c es,Ba S h p a m t c es L
theorem Rb {L:List It} (id:Int):look (L.map vh) id=(L.find? fun x=>x.ki == id).map fun x=>.agg x.cells:=by
 unfold look
 rw[List.find?_map,Option.map_map]
 rfl
def JC (id:Int) (L:List It):List It:=L.filter fun x=>x.ki != id
def Vv (id:Int) (vt fit:Nat) (L:List It):List It:=Vt ⟨vt,id,fit,id⟩ (JC id L)
theorem Ba.ids {S:Nat→Prop} {h:List Ob} {p a m:Nat} {t:Tr} {c:Nat} {es:List QK} {L:List It} (T:Ba S h p a m t c es L):(L.map It.ki).Nodup:=by
 have:=T.mp.nd
 rwa [List.map_map] at this
theorem Rc {L:List It} (hn:(L.map It.ki).Nodup) {x:It} (hx:x∈L):KU x.ka x.ki L=JC x.ki L:=by
 unfold KU JC
 apply List.filter_congr
 intro y hy
 by_cases h:y.ki=x.ki
 ·have Yg:y=x:=by
   have:∀ {l:List It},(l.map It.ki).Nodup→∀ {u v:It},u∈l→v∈l→u.ki=v.ki→u=v:=by
    intro l
    induction l with
    | nil=>intro _ u v hu;cases hu
    | cons a l ih=>
     intro hn u v hu hv e
     simp only[List.map_cons,List.nodup_cons,List.mem_map,not_exists,not_and] at hn
     rcases List.mem_cons.1 hu with h1 | h1 <;> rcases List.mem_cons.1 hv with h2 | h2
     ·rw[h1,h2]
     ·exact absurd (by rw[← e,h1]) (hn.1 v h2)
     ·exact absurd (by rw[e,h2]) (hn.1 u h1)
     ·exact ih hn.2 h1 h2 e
   exact this hn hy hx h
  subst Yg
  simp [jO]
 ·have hb:(y.ki == x.ki)=false:=by simpa using h
  simp [jO,hb,bne]
theorem Re {L:List It} {id:Int} (h:(L.find? fun x=>x.ki == id)=none):JC id L=L:=by
 unfold JC
 rw[List.filter_eq_self]
 intro x hx
 have:=List.find?_eq_none.1 h x hx
 simpa using this
theorem Rf (L:List It) (a:Nat) (id:Int):VN a id (JC id L)=none:=by
 unfold VN JC
 rw[List.find?_eq_none]
 intro x hx hk
 simp only[List.mem_filter,bne_iff_ne,ne_eq] at hx
 exact hx.2 (qb.1 hk).2
theorem oE (y:It):∀ L:List It,(Vt y L).Perm (y::L)
 | []=>List.Perm.refl _
 | z::L=>by
  simp only[Vt]
  split
  ·exact (List.Perm.cons _ (oE y L)).trans (List.Perm.swap _ _ _)
  ·exact List.Perm.refl _
theorem Rg (id:Int) (L:List It):jQ (L.map vh) id=(JC id L).map vh:=by
 unfold jQ JC
 rw[List.filter_map]
 rfl
theorem zJ.set {h:List Ob} {tl:Nat} {t:Tr} {L:List It} (A:zJ h tl t L) {m:Nat} (o:Ob) (h1:m≠tl) (h2:m ∉ t.Qz):zJ (h.set m o) tl t L:=⟨(Qt h1).trans A.o,A.is.set o h2,A.list,A.nd,A.out,A.sorted⟩
theorem QkM {id:Int} {vt fit:Nat} {L:List It}:(wO (L.map vh) id (.agg (It.mk vt id fit id).cells)).Perm ((Vv id vt fit L).map vh):=by
 unfold wO Vv
 rw[Rg]
 exact ((oE ⟨vt,id,fit,id⟩ (JC id L)).map vh).symm
theorem Rh (id:Int) (L:List It):(JC id L).length≤L.length:=List.length_filter_le _ _
theorem Ba.fin {S:Nat→Prop} {h H H2 h8:List Ob} {p a m c c':Nat} {t t' t'':Tr} {es es':List QK} {L L2:List It} (T:Ba S h p a m t c es L) (s0:Step S h H)
  (hp:H[p]? = some (wQ a m)) (hm:m<H.length) (hH:H2=H.set m (QE .i64 c' es')) (mt:m ∉ t'.Qz) (pt:p ∉ t'.Qz) (st:∀ l∈t'.Qz,more S h l) (vV:Vu es' (L2.map vh)) (hvi:∀ x∈L2,x.vi=x.ki)
  (A:FW H2 a t' L2 h8 t''):Kr (more S h) h8 p L2∧Step S h h8:=by
 have e2:H2.length=H.length:=by rw[hH,List.length_set]
 have hl:=s0.len
 have Lz:H2[p]? = some (wQ a m):=by rw[hH,Qt (Ne.symm T.pm)];exact hp
 have Kv:H2[m]? = some (QE .i64 c' es'):=by rw[hH,Qw hm]
 have ZU:∀ l,H2.length≤l→h.length≤l:=fun l h1=>by omega
 have QZ:=Qd T.o
 have jm:=Qd T.mo
 refine ⟨⟨a,m,t'',c',es',?_,A.is,?_,vV,hvi,T.pa,T.pm,T.am,?_,?_,.inl T.sp,.inl T.sa,.inl T.sm,?_⟩,⟨fun l h1 h2=>?_,by have:=A.len;omega⟩⟩
 ·rw[A.keep p (by omega) T.pa pt];exact Lz
 ·rw[A.keep m (by omega) (Ne.symm T.am) mt];exact Kv
 ·intro h1
  rcases A.mem p h1 with h2 | h2
  ·exact pt h2
  ·omega
 ·intro h1
  rcases A.mem m h1 with h2 | h2
  ·exact mt h2
  ·omega
 ·intro l h1
  rcases A.mem l h1 with h2 | h2
  ·exact st l h2
  ·exact .inr (ZU l h2)
 ·have na:l≠a:=by rintro rfl;exact h2 T.sa
  have nm:l≠m:=by rintro rfl;exact h2 T.sm
  have nt:l ∉ t'.Qz:=fun h3=>by
   rcases st l h3 with h4 | h4
   ·exact h2 h4
   ·omega
  rw[A.keep l (by omega) na nt,hH,Qt (Ne.symm nm)]
  exact s0.keep l h1 h2
theorem Ba.done {S:Nat→Prop} {h H H2 h8:List Ob} {p a m c c':Nat} {t t' t'':Tr} {es es':List QK} {L:List It} {id:Int} {vt fit:Nat} (T:Ba S h p a m t c es L) (s0:Step S h H)
  (hp:H[p]? = some (wQ a m)) (hm:m<H.length) (hH:H2=H.set m (QE .i64 c' es')) (mt:m ∉ t'.Qz) (pt:p ∉ t'.Qz) (st:∀ l∈t'.Qz,more S h l) (vV:Vu es' (wO (L.map vh) id (.agg (It.mk vt id fit id).cells)))
  (A:FW H2 a t' (Vv id vt fit L) h8 t''):Kr (more S h) h8 p (Vv id vt fit L)∧Step S h h8:=
 T.fin s0 hp hm hH mt pt st (vV.to QkM) (fun x hx=>by
  rcases yw.1 hx with rfl | hx
  ·rfl
  ·exact T.vi x (List.mem_filter.1 hx).1) A
theorem QkO {S:Nat→Prop} {h:List Ob} {p:Nat} {L:List It} (T:Kr S h p L) (id:Int) (vt fit:Nat) (hs:L.length<400000) :
  QG Tryz.prog 120 h [.ptr p 0 0 0,Qb id,u64 vt,u64 fit] (fun d h'=>Kr (more S h) h' p (Vv id vt fit L)∧Step S h h'):=by
 obtain ⟨a,m,t,c,es,T⟩:=T
 have ho:=T.o
 have Vg:=T.mo
 have ha:=T.av.o
 have hk:=T.mp.look id
 rw[Rb] at hk
 cases hf:L.find? fun x=>x.ki == id with
 | none=>
  rw[hf,Option.map_none] at hk
  have zM:=Re hf
  obtain ⟨c',es',e1,M'⟩:=T.mp.set .i64 c id (.agg (It.mk vt id fit id).cells)
  have e2:J5 .i64 c es id (.agg [.raw (.int .u64 vt),.raw (.int .i64 id),.raw (.int .u64 fit),.raw (.int .i64 id)])=QE .i64 c' es':=e1
  refine QW Qe 200 Tryz.func120 rfl Tryz.ntmps120 Tryz.results120 rfl fun base w pl hb=>?_
  have Qf:=Qd ho
  have Vh:=Qd Vg
  simp only[go_sem,simprocAttr,Qa,ho,Qf,Vg,Vh,hk]
  refine QA Qe hb 200 mixed [(0,true),(1,true),(2,true),(3,true),(4,true),(5,true),(6,false)] (by kernel_rfl) (by kernel_rfl) ?_
  simp only[go_sem,simprocAttr,Qa,ho,Qf,Vg,Vh]
  simp only[e2]
  refine VY [8] Qe hb 200 mixed [(0,true),(1,true),(2,true),(3,true),(4,true),(5,true),(6,true),(7,true),(8,false),(9,true)] [] (by kernel_rfl) (by kernel_rfl) ?_
  simp only[go_sem,simprocAttr,Qa,ho,Qf,Vg,Vh,Qt (Ne.symm T.pm)]
  refine Wf hb O5 rfl ?_ (FX (tl:=a) (t:=t) (L:=JC id L) (by rw[zM];exact (T.av.set _ (Ne.symm T.am) T.mt).app _) ⟨vt,id,fit,id⟩ (Rf L vt id) (by have:=Rh id L;omega)) rfl fun d h8 hR=>?_
  ·simp only[go_sem,simprocAttr]
  obtain ⟨rfl,t'',A8⟩:=hR
  refine QF hb ?_
  simp only[go_sem,simprocAttr,Qa]
  exact T.done (H:=h++_) (Step.app S h _) (QU Qf |>.trans ho) (by simp;omega) (wu Vh).symm T.mt T.pt (fun l hl=>.inl (T.st l hl)) M' A8
 | some x=>
  rw[hf,Option.map_some] at hk
  obtain ⟨c',es',e1,M'⟩:=T.mp.set .i64 c id (.agg (It.mk vt id fit id).cells)
  have e2:J5 .i64 c es id (.agg [.raw (.int .u64 vt),.raw (.int .i64 id),.raw (.int .u64 fit),.raw (.int .i64 id)])=QE .i64 c' es':=e1
  refine QW Qe 200 Tryz.func120 rfl Tryz.ntmps120 Tryz.results120 rfl fun base w pl hb=>?_
  have Qf:=Qd ho
  have Vh:=Qd Vg
  simp only[go_sem,simprocAttr,Qa,ho,Qf,Vg,Vh,hk]
  refine VY [6] Qe hb 200 mixed [(0,true),(1,true),(2,true),(3,true),(4,true),(5,true),(6,false)] [] (by kernel_rfl) (by kernel_rfl) ?_
  simp only[go_sem,simprocAttr,Qa,ho,Qf]
  have KV:x∈L:=List.mem_of_find?_eq_some hf
  have QX:x.ki=id:=by have:=List.find?_some hf;simpa using this
  have F6:KU x.ka id L=JC id L:=by rw[← QX];exact Rc T.ids KV
  have QD:VN x.ka id L≠none:=fun e=>by
   unfold VN at e
   have:=List.find?_eq_none.1 e x KV
   exact this (qb.2 ⟨rfl,QX⟩)
  have Ri:∀ l∈t.Qz,l<h.length:=T.av.is.lt
  have ZJ:=Qd ha
  refine Wf hb O6 rfl ?_ (PZ (tl:=a) (t:=t) (L:=L) (T.av.app _) x.ka id QD (by omega)) rfl fun d h6 hR=>?_
  ·simp only[go_sem,simprocAttr,QX]
  obtain ⟨rfl,t',A6⟩:=hR
  rw[F6] at A6
  have Qtj:h.length+2≤h6.length:=by have:=A6.len;simpa using this
  have k6:∀ l,l<h.length→l≠a→l ∉ t.Qz→h6[l]? = h[l]? := fun l h1 h2 h3=>(A6.keep l (by simp;omega) h2 h3).trans (QU h1)
  have LU:h6[p]? = _:=(k6 p Qf T.pa T.pt).trans ho
  have Rj:h6[m]? = _:=(k6 m Vh (Ne.symm T.am) T.mt).trans Vg
  have yE:=(A6.keep h.length (by simp) (by omega) (fun h1=>by have:=Ri _ h1;omega)).trans (Kq rfl)
  have oF:=Qd LU
  have Rl:=Qd Rj
  have Dh:=Qd yE
  have oG:m ∉ t'.Qz:=fun h1=>by
   rcases A6.mem m h1 with h2 | h2
   ·exact T.mt h2
   ·simp only[List.length_append] at h2;omega
  have pt6:p ∉ t'.Qz:=fun h1=>by
   rcases A6.mem p h1 with h2 | h2
   ·exact T.pt h2
   ·simp only[List.length_append] at h2;omega
  have F7:m≠h.length:=by omega
  refine QF hb ?_
  simp only[go_sem,simprocAttr,Qa]
  refine QA Qe hb 200 mixed [(0,true),(1,true),(2,true),(3,true),(4,true),(5,true),(6,false)] (by kernel_rfl) (by kernel_rfl) ?_
  simp only[go_sem,simprocAttr,Qa,LU,oF,Rj,Rl,yE,Dh]
  simp only[e2]
  refine VY [8] Qe hb 200 mixed [(0,true),(1,true),(2,true),(3,true),(4,true),(5,true),(6,true),(7,true),(8,false),(9,true)] [] (by kernel_rfl) (by kernel_rfl) ?_
  simp only[go_sem,simprocAttr,Qa,LU,oF,Rj,Rl,yE,Dh,Qt (Ne.symm T.pm),Qt F7]
  refine Wf hb O5 rfl ?_ (FX (tl:=a) (t:=t') (L:=JC id L) (A6.is.set _ (Ne.symm T.am) oG) ⟨vt,id,fit,id⟩ (Rf L vt id) (by have:=Rh id L;omega)) rfl fun d h8 hR=>?_
  ·simp only[go_sem,simprocAttr]
  obtain ⟨rfl,t'',A8⟩:=hR
  refine QF hb ?_
  simp only[go_sem,simprocAttr,Qa]
  refine T.done (H:=h6) ⟨fun l h1 h2=>k6 l h1 (by rintro rfl;exact h2 T.sa) (fun h3=>h2 (T.st l h3)),by omega⟩ LU Rl rfl oG pt6 (fun l hl=>?_) M' A8
  rcases A6.mem l hl with h1 | h1
  ·exact .inl (T.st l h1)
  ·simp only[List.length_append] at h1;exact .inr (by omega)
theorem JM {h F:List Ob} (hF:F=h.map Ob.ro) (l:Nat) (o:Ob) (e:(h.map Ob.ro)[l]? = some o):(F.map Ob.ro)[l]? = some o:=by
 have:=yu (g:=[]) hF l o e
 rwa [List.append_nil] at this
structure QkQ (h:List Ob) (p a m:Nat) (t:Tr) (c:Nat) (es:List QK) (L:List It):Prop where
 o:(h.map Ob.ro)[p]? = some (wQ a m).ro
 ao:(h.map Ob.ro)[a]? = some (qf t).ro
 is:W2 h t
 list:t.list=L
 sorted:JF L
 mo:(h.map Ob.ro)[m]? = some (QE .i64 c es).ro
 mp:Vu es (L.map vh)
def wR (h:List Ob) (p:Nat) (L:List It):Prop:=∃ a m t c es,QkQ h p a m t c es L
theorem Kr.toR {S:Nat→Prop} {h:List Ob} {p:Nat} {L:List It}:Kr S h p L→wR h p L:=fun ⟨a,m,t,c,es,T⟩=>
 ⟨a,m,t,c,es,Zv T.o,Zv T.av.o,T.av.is.toR,T.av.list,T.av.sorted,Zv T.mo,T.mp⟩
theorem wR.more {h h':List Ob} {p:Nat} {L:List It} (e:∀ (l:Nat) (o:Ob),(h.map Ob.ro)[l]? = some o→(h'.map Ob.ro)[l]? = some o):wR h p L→wR h' p L:=fun ⟨a,m,t,c,es,T⟩=>
 ⟨a,m,t,c,es,e _ _ T.o,e _ _ T.ao,T.is.more e,T.list,T.sorted,e _ _ T.mo,T.mp⟩
theorem Kr.frame {S:Nat→Prop} {h h':List Ob} {p:Nat} {L:List It} (e:∀ l,S l→l<h.length→h'[l]? = h[l]?):Kr S h p L→Kr S h' p L:=fun ⟨a,m,t,c,es,T⟩=>
 have k:∀ l o,S l→h[l]? = some o→h'[l]? = some o:=fun l o h1 h2=>(e l h1 (Qd h2)).trans h2
 ⟨a,m,t,c,es,k _ _ T.sp T.o,⟨k _ _ T.sa T.av.o,T.av.is.frame fun l hl=>e l (T.st l hl) (T.av.is.lt l hl),T.av.list,T.av.nd,T.av.out,T.av.sorted⟩,k _ _ T.sm T.mo,T.mp,T.vi,T.pa,T.pm,T.am,T.pt,T.mt,T.sp,T.sa,T.sm,T.st⟩
theorem Kr.mono {S S':Nat→Prop} {h:List Ob} {p:Nat} {L:List It} (e:∀ l,S l→S' l):Kr S h p L→Kr S' h p L:=fun ⟨a,m,t,c,es,T⟩=>
 ⟨a,m,t,c,es,T.o,T.av,T.mo,T.mp,T.vi,T.pa,T.pm,T.am,T.pt,T.mt,e _ T.sp,e _ T.sa,e _ T.sm,fun l hl=>e l (T.st l hl)⟩
section
variable {h:List Ob} {p:Nat} {L:List It} (T:wR h p L)
include T
theorem QkR (now:Nat):QQ Tryz.prog 106 h [.ptr p 0 0 0,u64 now] (fun d=>d=.tup [Qb ((L.find? fun x=>decide (x.va≤min now 9223372036854775807)).getD default).ki,QN (L.find? fun x=>decide (x.va≤min now 9223372036854775807)).isSome]):=by
 obtain ⟨a,m,t,c,es,T⟩:=T
 obtain ⟨ho,ha,is,hl,hs,hm,mp⟩:=T
 have e1:min (now:Int) 9223372036854775807=((min now 9223372036854775807:Nat):Int):=by omega
 have qv:=ha
 refine Zh Qe 200 Tryz.func106 rfl Tryz.ntmps106 Tryz.results106 rfl fun base w pl F hF QR hb=>?_
 rw[← hF] at ho ha
 have Qf:=Qd ho
 have ZJ:=Qd ha
 simp only[go_sem,simprocAttr,Qa,ho,Qf,ha,ZJ,e1]
 refine QL hb Qir rfl ?_ (Qkq (JM hF _ _ qv) (is.more (JM hF)) (min now 9223372036854775807)) rfl fun d hR=>?_
 ·simp only[go_sem,simprocAttr,Qa,ho,Qf]
 subst hR
 refine Qc hb ?_
 simp only[go_sem,simprocAttr,Qa,ho,Qf]
 subst hl
 exact ⟨_,rfl,rfl⟩
theorem QkS:QQ Tryz.prog 125 h [.ptr p 0 0 0] (fun d=>d=.tup [u64 (L.head?.getD default).ka,QN L.head?.isSome]):=by
 obtain ⟨a,m,t,c,es,T⟩:=T
 obtain ⟨ho,ha,is,hl,hs,hm,mp⟩:=T
 have qv:=ha
 refine Zh Qe 200 Tryz.func125 rfl Tryz.ntmps125 Tryz.results125 rfl fun base w pl F hF QR hb=>?_
 rw[← hF] at ho ha
 have Qf:=Qd ho
 have ZJ:=Qd ha
 simp only[go_sem,simprocAttr,Qa,ho,Qf,ha,ZJ]
 refine QL hb l6 rfl ?_ (n9 (JM hF _ _ qv) (is.more (JM hF))) rfl fun d hR=>?_
 ·simp only[go_sem,simprocAttr,Qa,ho,Qf]
 subst hR
 refine Qc hb ?_
 simp only[go_sem,simprocAttr,Qa,ho,Qf]
 subst hl
 exact ⟨_,rfl,rfl⟩
theorem Rm:QQ Tryz.prog 103 h [.ptr p 0 0 0] (fun d=>d=Qb L.length):=by
 obtain ⟨a,m,t,c,es,T⟩:=T
 obtain ⟨ho,ha,is,hl,hs,hm,mp⟩:=T
 have e1:es.length=L.length:=by rw[mp.len,List.length_map]
 refine Zh Qe 200 Tryz.func103 rfl Tryz.ntmps103 Tryz.results103 rfl fun base w pl F hF QR hb=>?_
 rw[← hF] at ho ha hm
 have Qf:=Qd ho
 have ZJ:=Qd ha
 have QP:=Qd hm
 simp only[go_sem,simprocAttr,Qa,ho,Qf,ha,ZJ,hm,QP,e1]
 exact ⟨[],by simp⟩
def Bb (L:List It):Nat:=L.foldl (fun o x=>min o x.va) never
omit T in
theorem oH:∀ (L:List It) (o:Nat),L.foldl (fun o x=>min o x.va) o≤o∧(∀ x∈L,L.foldl (fun o x=>min o x.va) o≤x.va)∧(L.foldl (fun o x=>min o x.va) o=o∨∃ x∈L,L.foldl (fun o x=>min o x.va) o=x.va)
 | [],o=>⟨Nat.le_refl _,by simp,.inl rfl⟩
 | y::L,o=>by
  obtain ⟨h1,h2,h3⟩:=oH L (min o y.va)
  simp only[List.foldl_cons]
  refine ⟨by omega,fun x hx=>?_,?_⟩
  ·rcases List.mem_cons.1 hx with rfl | hx
   ·omega
   ·exact h2 x hx
  ·rcases h3 with h3 | ⟨x,hx,h3⟩
   ·rw[h3]
    by_cases hle:o≤y.va
    ·exact .inl (Nat.min_eq_left hle)
    ·exact .inr ⟨y,by simp,Nat.min_eq_right (by omega)⟩
   ·exact .inr ⟨x,by simp [hx],h3⟩
omit T in
theorem QkT {x:It} {L:List It} (h:J2 x L):Bb L=min x.va never:=by
 obtain ⟨h1,h2,h3⟩:=oH L never
 unfold Bb
 have h4:=h2 x h.mem
 rcases h3 with h3 | ⟨y,hy,h3⟩
 ·omega
 ·have:=h.va hy
  omega
theorem oI (hk:∀ x∈L,x.ka≤18446744073709551615):QQ Tryz.prog 33 h [.ptr p 0 0 0] (fun d=>d=u64 (Bb L)):=by
 have T0:=T
 obtain ⟨a,m,t,c,es,T⟩:=T
 obtain ⟨ho,ha,is,hl,hs,hm,mp⟩:=T
 have qv:=ha
 by_cases hn:L=[]
 ·have d0:((L.length:Int) == 0)=true:=by simp [hn]
  refine Zh Qe 200 Tryz.func33 rfl Tryz.ntmps33 Tryz.results33 rfl fun base w pl F hF QR hb=>?_
  rw[← hF] at ho ha
  have Qf:=Qd ho
  have ZJ:=Qd ha
  simp only[go_sem,simprocAttr,Qa,ho,Qf,ha,ZJ]
  refine QL hb OY rfl ?_ (Rm (T0.more (JM hF))) rfl fun d hR=>?_
  ·simp only[go_sem,simprocAttr,Qa,ho,Qf,d0]
  subst hR
  refine Qc hb ?_
  simp only[go_sem,simprocAttr,Qa,ho,Qf,d0]
  subst hn
  exact ⟨[],by simp [Bb,never]⟩
 ·have d0:((L.length:Int) == 0)=false:=by simp [hn]
  refine Zh Qe 200 Tryz.func33 rfl Tryz.ntmps33 Tryz.results33 rfl fun base w pl F hF QR hb=>?_
  rw[← hF] at ho ha
  have Qf:=Qd ho
  have ZJ:=Qd ha
  simp only[go_sem,simprocAttr,Qa,ho,Qf,ha,ZJ]
  refine QL hb OY rfl ?_ (Rm (T0.more (JM hF))) rfl fun d hR=>?_
  ·simp only[go_sem,simprocAttr,Qa,ho,Qf,d0]
  subst hR
  refine Qc hb ?_
  simp only[go_sem,simprocAttr,Qa,ho,Qf,d0]
  refine Qc hb ?_
  simp only[go_sem,simprocAttr,Qa,ho,Qf]
  refine QL hb l7 rfl ?_ (oc (JM hF _ _ qv) (is.more (JM hF)) 18446744073709551615) rfl fun d hR=>?_
  ·simp only[go_sem,simprocAttr,Qa,ho,Qf]
  subst hR
  refine Qc hb ?_
  simp only[go_sem,simprocAttr,Qa,ho,Qf]
  have ZZ:=Tr.FP 18446744073709551615 t none [] (by rw[hl];exact hs) rfl
  rw[hl,List.nil_append,List.filter_eq_self.2 (fun x hx=>by simpa using hk x hx)] at ZZ
  refine ⟨_,rfl,?_⟩
  cases oJ:t.W3 18446744073709551615 none with
  | none=>rw[oJ] at ZZ;exact absurd ZZ hn
  | some x=>
   rw[oJ] at ZZ
   rw[QkT ZZ]
   simp only[Option.getD_some,never]
   congr 2
   omega
end
def LV (id:Int) (L:List It):Bool:=(L.find? fun x=>x.ki == id).isSome
theorem QkU {S:Nat→Prop} {h:List Ob} {p:Nat} {L:List It} (T:Kr S h p L) (id:Int) (hs:L.length<400000) :
  QG Tryz.prog 119 h [.ptr p 0 0 0,Qb id] (fun d h'=>d=Qb (if LV id L then 0 else 6)∧Kr (more S h) h' p (JC id L)∧Step S h h'):=by
 have T0:=T
 obtain ⟨a,m,t,c,es,T⟩:=T
 have ho:=T.o
 have Vg:=T.mo
 have ha:=T.av.o
 have hk:=T.mp.look id
 rw[Rb] at hk
 unfold LV
 cases hf:L.find? fun x=>x.ki == id with
 | none=>
  rw[hf,Option.map_none] at hk
  refine QW Qe 200 Tryz.func119 rfl Tryz.ntmps119 Tryz.results119 rfl fun base w pl hb=>?_
  have Qf:=Qd ho
  have Vh:=Qd Vg
  simp only[go_sem,simprocAttr,Qa,ho,Qf,Vg,Vh,hk]
  rw[Re hf]
  exact ⟨rfl,(T0.frame fun l h1 h2=>QU h2).mono fun l hl=>.inl hl,Step.app S h _⟩
 | some x=>
  rw[hf,Option.map_some] at hk
  have KV:x∈L:=List.mem_of_find?_eq_some hf
  have QX:x.ki=id:=by have:=List.find?_some hf;simpa using this
  have F6:KU x.ka id L=JC id L:=by rw[← QX];exact Rc T.ids KV
  have QD:VN x.ka id L≠none:=fun e=>by
   unfold VN at e
   have:=List.find?_eq_none.1 e x KV
   exact this (qb.2 ⟨rfl,QX⟩)
  have Ri:∀ l∈t.Qz,l<h.length:=T.av.is.lt
  have ZJ:=Qd ha
  have M':=T.mp.del id
  rw[Rg] at M'
  refine QW Qe 200 Tryz.func119 rfl Tryz.ntmps119 Tryz.results119 rfl fun base w pl hb=>?_
  have Qf:=Qd ho
  have Vh:=Qd Vg
  simp only[go_sem,simprocAttr,Qa,ho,Qf,Vg,Vh,hk]
  refine VY [6] Qe hb 200 mixed [(0,true),(1,true),(2,true),(3,true),(4,true),(5,true),(6,false),(7,true)] [] (by kernel_rfl) (by kernel_rfl) ?_
  simp only[go_sem,simprocAttr,Qa,ho,Qf,Vg,Vh,Qt (Ne.symm T.pm)]
  refine Wf hb O6 rfl ?_ (PZ (tl:=a) (t:=t) (L:=L) ((T.av.set _ (Ne.symm T.am) T.mt).app _) x.ka id QD (by omega)) rfl fun d h6 hR=>?_
  ·simp only[go_sem,simprocAttr,QX]
  obtain ⟨rfl,t',A6⟩:=hR
  rw[F6] at A6
  refine QF hb ?_
  simp only[go_sem,simprocAttr,Qa]
  exact ⟨rfl,T.fin (H:=h++_) (Step.app S h _) ((QU Qf).trans ho) (by simp;omega) (wu Vh).symm T.mt T.pt (fun l hl=>.inl (T.st l hl)) M' (fun y hy=>T.vi y (List.mem_filter.1 hy).1) A6⟩
theorem oK (h:List Ob):QG Tryz.prog 121 h [] (fun d h'=>d=.ptr h.length 0 0 0∧h'=h++[qf .nil]):=by
 refine QW Qe 200 Tryz.func121 rfl Tryz.ntmps121 Tryz.results121 rfl fun base w pl hb=>?_
 simp only[go_sem,simprocAttr,Qa]
theorem oL {S:Nat→Prop} {h:List Ob} {p:Nat} {L:List It} (T:Kr S h p L) (id:Int) (hs:L.length<400000) :
  QG Tryz.prog 116 h [.ptr p 0 0 0,Qb id] (fun d h'=>d=Qb (if LV id L then 0 else 6)∧Kr (more S h) h' p (JC id L)∧Step S h h'):=by
 have T0:=T
 obtain ⟨a,m,t,c,es,T⟩:=T
 have ho:=T.o
 have Vg:=T.mo
 have ha:=T.av.o
 have hk:=T.mp.look id
 rw[Rb] at hk
 unfold LV
 cases hf:L.find? fun x=>x.ki == id with
 | none=>
  rw[hf,Option.map_none] at hk
  refine QW Qe 200 Tryz.func116 rfl Tryz.ntmps116 Tryz.results116 rfl fun base w pl hb=>?_
  have Qf:=Qd ho
  have Vh:=Qd Vg
  simp only[go_sem,simprocAttr,Qa,ho,Qf,Vg,Vh,hk]
  rw[Re hf]
  exact ⟨rfl,(T0.frame fun l h1 h2=>QU h2).mono fun l hl=>.inl hl,Step.app S h _⟩
 | some x=>
  rw[hf,Option.map_some] at hk
  have KV:x∈L:=List.mem_of_find?_eq_some hf
  have QX:x.ki=id:=by have:=List.find?_some hf;simpa using this
  have F6:KU x.ka id L=JC id L:=by rw[← QX];exact Rc T.ids KV
  have QD:VN x.ka id L≠none:=fun e=>by
   unfold VN at e
   have:=List.find?_eq_none.1 e x KV
   exact this (qb.2 ⟨rfl,QX⟩)
  have Ri:∀ l∈t.Qz,l<h.length:=T.av.is.lt
  have ZJ:=Qd ha
  have M':=T.mp.del id
  rw[Rg] at M'
  refine QW Qe 200 Tryz.func116 rfl Tryz.ntmps116 Tryz.results116 rfl fun base w pl hb=>?_
  have Qf:=Qd ho
  have Vh:=Qd Vg
  simp only[go_sem,simprocAttr,Qa,ho,Qf,Vg,Vh,hk]
  refine VY [6] Qe hb 200 mixed [(0,true),(1,true),(2,true),(3,true),(4,true),(5,true),(6,false),(7,true)] [] (by kernel_rfl) (by kernel_rfl) ?_
  simp only[go_sem,simprocAttr,Qa,ho,Qf,Vg,Vh,Qt (Ne.symm T.pm)]
  refine Wf hb O6 rfl ?_ (PZ (tl:=a) (t:=t) (L:=L) ((T.av.set _ (Ne.symm T.am) T.mt).app _) x.ka id QD (by omega)) rfl fun d h6 hR=>?_
  ·simp only[go_sem,simprocAttr,QX]
  obtain ⟨rfl,t',A6⟩:=hR
  rw[F6] at A6
  refine QF hb ?_
  simp only[go_sem,simprocAttr,Qa]
  exact ⟨rfl,T.fin (H:=h++_) (Step.app S h _) ((QU Qf).trans ho) (by simp;omega) (wu Vh).symm T.mt T.pt (fun l hl=>.inl (T.st l hl)) M' (fun y hy=>T.vi y (List.mem_filter.1 hy).1) A6⟩
section
variable {h:List Ob} {p:Nat} {L:List It} (T:wR h p L)
include T
theorem oM:QQ Tryz.prog 101 h [.ptr p 0 0 0] (fun d=>d=Qb L.length):=by
 obtain ⟨a,m,t,c,es,T⟩:=T
 obtain ⟨ho,ha,is,hl,hs,hm,mp⟩:=T
 have e1:es.length=L.length:=by rw[mp.len,List.length_map]
 refine Zh Qe 200 Tryz.func101 rfl Tryz.ntmps101 Tryz.results101 rfl fun base w pl F hF QR hb=>?_
 rw[← hF] at ho ha hm
 have Qf:=Qd ho
 have ZJ:=Qd ha
 have QP:=Qd hm
 simp only[go_sem,simprocAttr,Qa,ho,Qf,ha,ZJ,hm,QP,e1]
 exact ⟨[],by simp⟩
theorem QkV (now:Nat):QQ Tryz.prog 105 h [.ptr p 0 0 0,u64 now] (fun d=>∃ o,qL o (L.filter fun x=>decide (x.ka≤min now 9223372036854775807))∧d=.tup [Qb (o.getD default).ki,QN o.isSome]):=by
 obtain ⟨a,m,t,c,es,T⟩:=T
 obtain ⟨ho,ha,is,hl,hs,hm,mp⟩:=T
 have e1:min (now:Int) 9223372036854775807=((min now 9223372036854775807:Nat):Int):=by omega
 have qv:=ha
 have ZZ:=Tr.FP (min now 9223372036854775807) t none [] (by rw[hl];exact hs) rfl
 rw[hl,List.nil_append] at ZZ
 refine QQ.mono (R:=fun d=>d=.tup [Qb ((t.W3 (min now 9223372036854775807) none).getD default).ki,QN (t.W3 (min now 9223372036854775807) none).isSome]) ?_ (fun d hd=>⟨_,ZZ,hd⟩)
 refine Zh Qe 200 Tryz.func105 rfl Tryz.ntmps105 Tryz.results105 rfl fun base w pl F hF QR hb=>?_
 rw[← hF] at ho ha
 have Qf:=Qd ho
 have ZJ:=Qd ha
 simp only[go_sem,simprocAttr,Qa,ho,Qf,ha,ZJ,e1]
 refine QL hb l7 rfl ?_ (oc (JM hF _ _ qv) (is.more (JM hF)) (min now 9223372036854775807)) rfl fun d hR=>?_
 ·simp only[go_sem,simprocAttr,Qa,ho,Qf]
 subst hR
 refine Qc hb ?_
 simp only[go_sem,simprocAttr,Qa,ho,Qf]
 exact ⟨_,rfl⟩
theorem QkW:QQ Tryz.prog 32 h [.ptr p 0 0 0] (fun d=>d=u64 (match L.head? with | some x=>min x.ka never | none=>never)):=by
 have T0:=T
 obtain ⟨a,m,t,c,es,T⟩:=T
 obtain ⟨ho,ha,is,hl,hs,hm,mp⟩:=T
 have qv:=ha
 cases hL:L with
 | nil=>
  have d0:((L.length:Int) == 0)=true:=by simp [hL]
  refine Zh Qe 200 Tryz.func32 rfl Tryz.ntmps32 Tryz.results32 rfl fun base w pl F hF QR hb=>?_
  rw[← hF] at ho ha
  have Qf:=Qd ho
  have ZJ:=Qd ha
  simp only[go_sem,simprocAttr,Qa,ho,Qf,ha,ZJ]
  refine QL hb l5 rfl ?_ (oM (T0.more (JM hF))) rfl fun d hR=>?_
  ·simp only[go_sem,simprocAttr,Qa,ho,Qf,d0]
  subst hR
  refine Qc hb ?_
  simp only[go_sem,simprocAttr,Qa,ho,Qf,d0]
  exact ⟨[],by simp [never]⟩
 | cons x M=>
  have d0:((L.length:Int) == 0)=false:=by simp [hL];omega
  refine Zh Qe 200 Tryz.func32 rfl Tryz.ntmps32 Tryz.results32 rfl fun base w pl F hF QR hb=>?_
  rw[← hF] at ho ha
  have Qf:=Qd ho
  have ZJ:=Qd ha
  simp only[go_sem,simprocAttr,Qa,ho,Qf,ha,ZJ]
  refine QL hb l5 rfl ?_ (oM (T0.more (JM hF))) rfl fun d hR=>?_
  ·simp only[go_sem,simprocAttr,Qa,ho,Qf,d0]
  subst hR
  refine Qc hb ?_
  simp only[go_sem,simprocAttr,Qa,ho,Qf,d0]
  refine Qc hb ?_
  simp only[go_sem,simprocAttr,Qa,ho,Qf]
  refine QL hb l6 rfl ?_ (n9 (JM hF _ _ qv) (is.more (JM hF))) rfl fun d hR=>?_
  ·simp only[go_sem,simprocAttr,Qa,ho,Qf]
  subst hR
  refine Qc hb ?_
  simp only[go_sem,simprocAttr,Qa,ho,Qf]
  refine ⟨_,rfl,?_⟩
  rw[hl,hL]
  congr 2
  show min (x.ka:Int) 9223372036854775808=((min x.ka never:Nat):Int)
  simp only[never]
  omega
end
theorem oN {S:Nat→Prop} {h:List Ob} {p:Nat} {L:List It} (T:Kr S h p L) (id:Int) (vt fit:Nat) (hs:L.length<400000) :
  QG Tryz.prog 115 h [.ptr p 0 0 0,Qb id,u64 vt,u64 fit] (fun d h'=>Kr (more S h) h' p (Vv id vt fit L)∧Step S h h'):=by
 have T0:=T
 obtain ⟨a,m,t,c,es,T⟩:=T
 have ho:=T.o
 refine QW Qe 200 Tryz.func115 rfl Tryz.ntmps115 Tryz.results115 rfl fun base w pl hb=>?_
 have Qf:=Qd ho
 simp only[go_sem,simprocAttr,Qa,ho,Qf]
 refine Q5 hb mh rfl ?_ (oL T0 id hs) rfl fun d h2 hR=>?_
 ·simp only[go_sem,simprocAttr]
 obtain ⟨rfl,T2,s2⟩:=hR
 obtain ⟨a,m,t,c,es,T⟩:=T2
 have ho:=T.o
 have Vg:=T.mo
 have ha:=T.av.o
 have Qf:=Qd ho
 have Vh:=Qd Vg
 have zM:JC id (JC id L)=JC id L:=by unfold JC;rw[List.filter_filter];simp
 obtain ⟨c',es',e1,M'⟩:=T.mp.set .i64 c id (.agg (It.mk vt id fit id).cells)
 have e2:J5 .i64 c es id (.agg [.raw (.int .u64 vt),.raw (.int .i64 id),.raw (.int .u64 fit),.raw (.int .i64 id)])=QE .i64 c' es':=e1
 refine Qc hb ?_
 simp only[go_sem,simprocAttr,Qa,ho,Qf,Vg,Vh]
 refine QA Qe hb 200 mixed [(0,true),(1,true),(2,true),(3,true),(4,true),(5,true),(6,false)] (by kernel_rfl) (by kernel_rfl) ?_
 simp only[go_sem,simprocAttr,Qa,ho,Qf,Vg,Vh]
 simp only[e2]
 refine VY [8] Qe hb 200 mixed [(0,true),(1,true),(2,true),(3,true),(4,true),(5,true),(6,true),(7,true),(8,false),(9,true)] [] (by kernel_rfl) (by kernel_rfl) ?_
 simp only[go_sem,simprocAttr,Qa,ho,Qf,Vg,Vh,Qt (Ne.symm T.pm)]
 refine Wf hb O5 rfl ?_ (FX (tl:=a) (t:=t) (L:=JC id L) ((T.av.set _ (Ne.symm T.am) T.mt).app _) ⟨vt,id,fit,id⟩ (Rf L vt id) (by have:=Rh id L;omega)) rfl fun d h8 hR=>?_
 ·simp only[go_sem,simprocAttr]
 obtain ⟨rfl,t'',A8⟩:=hR
 refine QF hb ?_
 simp only[go_sem,simprocAttr,Qa]
 have WW:Vv id vt fit (JC id L)=Vv id vt fit L:=by unfold Vv;rw[zM]
 have hD:=T.done (H:=h2++_) (h8:=h8) (t'':=t'') (Step.app _ h2 _) ((QU Qf).trans ho) (by simp;omega) (wu Vh).symm T.mt T.pt (fun l hl=>.inl (T.st l hl)) M' (by rw[WW];exact A8)
 rw[WW] at hD
 have Jd:=s2.len
 exact ⟨hD.1.mono fun l hl=>hl.elim (fun h3=>h3) fun h3=>.inr (by omega),s2.trans hD.2⟩
end Go.Fg.X
namespace Go.Fg
open Go.RowKit (Below)
section
variable {P:Program} {L:Zd} {base nt:Nat} {s:St} {o:Oper}
theorem QkX {t e:TypeId} {y:Ty} {k:IntKind} (ht:P.underlying t=some (.slice e)) (hy:KA P e y) (hz:y.zero.length=y.size) (hs:0<y.size) (w:World) (n:Nat)
  (XL:n≤4294967296) (Xh:y.bytes≤1024) :
  (Instr.makeSlice t (.int k n) (.int k n)).run P w=.ok (.slice (some ⟨w.heap.size,0,none⟩) n n) (w.alloc (.cells (flat n y.size fun _ j=>QJ y.zero j).toArray e)):=by
 obtain ⟨z,qu,Xi⟩:=hy.zeroValue
 obtain ⟨i,hi,zk,Wa⟩:=hy.typeInfo w
 have ZE:∀ w,(typeInfo e).run P w=.ok i w:=fun w=>by
  have h4:=hy.info
  cases hx:P.info? e with
  | none=>rw[hx] at h4;cases h4
  | some k=>
   simp [typeInfo,hx] at hi ⊢
   exact hi
 have hw:IntKind.i64.wrap (n:Int)=n:=by rw[IntKind.wrap_i64];omega
 have PL:¬ (281474976710656<(i.bytes:Int)*(n:Int)):=by
  have hmul:y.bytes*n≤1024*4294967296:=Nat.mul_le_mul Xh XL
  rw[← Int.natCast_mul,Wa]
  omega
 have FR:¬ ((n:Int)<0):=by omega
 have vR:z.cells.size=y.size:=by rw[← hz,← qu];simp
 have X1:(flat n y.size fun _ j=>QJ y.zero j).toArray=(Array.range (n*y.size)).map (z.cells[· % z.cells.size]!):=by
  apply Array.ext
  ·simp [Wx]
  ·intro j h1 h2
   simp only[List.size_toArray,Wx] at h1
   obtain ⟨d1,d2,d3⟩:=div_lt h1
   have PM:y.zero=z.cells.toList:=qu.symm
   have hj:j % y.size<z.cells.size:=by rw[vR];exact d2
   simp [flat,QJ,PM,List.getD_eq_getElem?_getD,vR,hj]
   rw[getElem!_pos z.cells _ hj,Array.getElem?_eq_getElem hj];rfl
 rw[X1]
 by_cases hn:n=0
 ·subst hn
  have LW:IntKind.i64.wrap 0=0:=rfl
  simp [Instr.makeSlice,run_underlying ht,hy.sizeOf,ZE,Xi,asInt,asIntOf,newRow,Sem.run,LW]
  congr 2
  apply Array.ext <;> simp
 ·have xW:¬ (n*y.size=0):=Nat.mul_ne_zero hn (by omega)
  simp [Instr.makeSlice,run_underlying ht,hy.sizeOf,ZE,Xi,asInt,asIntOf,hw,hn,FR,xW,PL,newRow,Sem.run]
theorem QkY (hL:Zr P L) {t e:TypeId} {x0 x:Operand} {n:Nat} {a b:Nat} {zt:List Value} {y:Ty} {k:IntKind} (ho:o.op=.makeSlice t x x) (hx:Qp s.fr x=.raw (.int k n))
  (ht:ty L t=some ⟨.slice e,a,b,zt⟩) (KB:ty L e=some y) (hz:y.zero.length=y.size) (hs:0<y.size) (XL:n≤4294967296) (Xh:y.bytes≤1024) :
  XK P base nt o s (s.h++[⟨.arr,0,y.size,n,fun _=>y.zero.map ZQ⟩]) (.ref s.h.length 0 0 n):=by
 intro Z pl ac w r Js
 have vQ:=r.eval x
 rw[hx] at vQ
 have hv:=ZC vQ
 have hy:=hL _ _ KB
 have QZ:pl.length=s.h.length:=r.o.len
 have QS:=QkX (k:=k) (ze (hL _ _ ht) rfl) hy hz hs w n XL Xh
 have e1:∀ b,b<w.heap.size→(w.alloc (.cells (flat n y.size fun _ j=>QJ y.zero j).toArray e)).heap[b]? = w.heap[b]? := fun b hb=>YP w _ b hb
 have ZU:(w.alloc (.cells (flat n y.size fun _ j=>QJ y.zero j).toArray e)).heap[w.heap.size]? = some (.cells (flat n y.size fun _ j=>QJ y.zero j).toArray e (0,0)):=heap_alloc_new w _
 have T:Tr s.h pl w (s.h++[⟨.arr,0,y.size,n,fun _=>y.zero.map ZQ⟩]) (pl++[some (w.heap.size,0)]) (w.alloc (.cells (flat n y.size fun _ j=>QJ y.zero j).toArray e)):=Tr.push r.o e1 _ _ (by intro b q h;simp at h;omega)
 refine ⟨.slice (some ⟨w.heap.size,0,none⟩) n n,_,_,.inl ?_,T,QT.push r.o e1 _ rfl (Nat.le_refl _) Js ZU (by simp [Wx]) (fun i hi=>by simp [hz]) (fun i j hi hj=>⟨QJ y.zero j,?_,?_⟩),.ref _ _ _ _ ⟨.arr,0,y.size,n,fun _=>y.zero.map ZQ⟩ (some (w.heap.size,0)) _ _ (by simp) (by rw[← QZ];simp) rfl (Nat.le_refl _) (fun _=>.inr ⟨w.heap.size,0,_,_,rfl,by simp,ZU,?_,Nat.le_refl _⟩),vO Js _,fun _=>e1⟩
 ·simp only[execOp,ho,hv,QS,Sem.run_bind,Result.andThen_ok,Sem.run_pure]
 ·have hg:=xL (vs:=fun _ j=>QJ y.zero j) hi hj
  rw[Nat.zero_add]
  simpa using hg
 ·have W4:j<y.zero.length:=by rw[hz];exact hj
  have:nth (y.zero.map ZQ) j=ZQ (QJ y.zero j):=by simp [nth,QJ,List.getD_eq_getElem?_getD,W4]
  show Qv Z _ _ _ (nth (y.zero.map ZQ) j) _
  rw[this]
  exact .cl _ _ (kj _ _ _)
 ·simp [Wx]
end
section
variable {P:Program} {L:Zd} {base nt:Nat} {w0:Start} {Q:Exit→St→Prop}
theorem QkZ (hL:Zr P L) (hb:base≤w0.w.heap.size) {k:List Item} {dst:Option Nat} {A1:TypeId} {pos:String} {after:Array Edge} {gd:Option (Nat × Bool)} {r:List (Oper × G)} {s:St} {t e:TypeId} {x:Operand} {n:Nat} {a b:Nat} {zt:List Value} {y:Ty} {ki:IntKind}
  (hx:Qp s.fr x=.raw (.int ki n)) (ht:ty L t=some ⟨.slice e,a,b,zt⟩) (KB:ty L e=some y) (hz:y.zero.length=y.size) (hs:0<y.size) (XL:n≤4294967296) (Xh:y.bytes≤1024) (hd:Zi nt dst=true)
  (h1:Qs P base nt w0 Q (.ops r::k) .normal ⟨Q8 s.fr dst (.ref s.h.length 0 0 n),s.h++[⟨.arr,0,y.size,n,fun _=>y.zero.map ZQ⟩]⟩) :
  Qs P base nt w0 Q (.ops ((⟨dst,.makeSlice t x x,A1,pos,after,gd⟩,none)::r)::k) .normal s:=by
 simp only[Qs] at h1 ⊢
 exact Ie hb (QkY (x0:=x) hL rfl hx ht KB hz hs XL Xh) hd h1
end
end Go.Fg
namespace Go.Fg.X
open Go.Proofs Go.Fg
@[go_sem] def F8 (a room first n:Nat):Ob:=⟨.one,0,3,1,fun _=>[.ref a 0 0 room,Qb first,Qb n]⟩
structure Qk0 (S:Nat→Prop) (h:List Ob) (r a room first:Nat) (row:Nat→List D) (L:List Pk):Prop where
 o:h[r]? = some (F8 a room first L.length)
 ao:h[a]? = some ⟨.arr,0,6,room,row⟩
 ra:r≠a
 fl:first<room
 len:L.length≤room
 qP:room≤64
 rows:∀ i,i<L.length→row ((first+i) % room)=(L.getD i default).cells
 lens:∀ i,i<room→(row i).length=6
 sr:S r
 sa:S a
def X4 (S:Nat→Prop) (h:List Ob) (r room:Nat) (L:List Pk):Prop:=∃ a first row,Qk0 S h r a room first row L
structure Bc (h:List Ob) (r a room first:Nat) (row:Nat→List D) (L:List Pk):Prop where
 o:(h.map Ob.ro)[r]? = some (F8 a room first L.length).ro
 ao:(h.map Ob.ro)[a]? = some (⟨.arr,0,6,room,row⟩:Ob).ro
 fl:first<room
 len:L.length≤room
 qP:room≤64
 rows:∀ i,i<L.length→row ((first+i) % room)=(L.getD i default).cells
def F9 (h:List Ob) (r room:Nat) (L:List Pk):Prop:=∃ a first row,Bc h r a room first row L
theorem X4.toR {S:Nat→Prop} {h:List Ob} {r room:Nat} {L:List Pk}:X4 S h r room L→F9 h r room L:=fun ⟨a,f,row,T⟩=>⟨a,f,row,Zv T.o,Zv T.ao,T.fl,T.len,T.qP,T.rows⟩
theorem Bc.more {h h':List Ob} {r a room first:Nat} {row:Nat→List D} {L:List Pk} (e:∀ (l:Nat) (o:Ob),(h.map Ob.ro)[l]? = some o→(h'.map Ob.ro)[l]? = some o) (T:Bc h r a room first row L):Bc h' r a room first row L:=⟨e _ _ T.o,e _ _ T.ao,T.fl,T.len,T.qP,T.rows⟩
theorem F9.more {h h':List Ob} {r room:Nat} {L:List Pk} (e:∀ (l:Nat) (o:Ob),(h.map Ob.ro)[l]? = some o→(h'.map Ob.ro)[l]? = some o):F9 h r room L→F9 h' r room L:=fun ⟨a,f,row,T⟩=>⟨a,f,row,e _ _ T.o,e _ _ T.ao,T.fl,T.len,T.qP,T.rows⟩
theorem X4.frame {S:Nat→Prop} {h h':List Ob} {r room:Nat} {L:List Pk} (e:∀ l,S l→l<h.length→h'[l]? = h[l]?):X4 S h r room L→X4 S h' r room L:=fun ⟨a,f,row,T⟩=>
 ⟨a,f,row,(e _ T.sr (Qd T.o)).trans T.o,(e _ T.sa (Qd T.ao)).trans T.ao,T.ra,T.fl,T.len,T.qP,T.rows,T.lens,T.sr,T.sa⟩
theorem oO {h:List Ob} {r a room first n:Nat} {row:Nat→List D} (ho:(h.map Ob.ro)[r]? = some (F8 a room first n).ro) (ha:(h.map Ob.ro)[a]? = some (⟨.arr,0,6,room,row⟩:Ob).ro) (X1:first<room) (zM:room≤64) (i:Nat) (hi:i≤64) :
  QQ Tryz.prog 168 h [.ptr r 0 0 0,Qb i] (fun d=>d=Qb ((first+i) % room:Nat)):=by
 have e1:IntKind.i64.wrap ((first:Int)+i)=((first+i:Nat):Int):=by rw[wrap64 (by omega) (by omega)];omega
 refine Zh Qe 200 Tryz.func168 rfl Tryz.ntmps168 Tryz.results168 rfl fun base w pl F hF QR hb=>?_
 rw[← hF] at ho ha
 have Qf:=Qd ho
 have ZJ:=Qd ha
 simp only[go_sem,simprocAttr,Qa,ho,Qf,ha,ZJ]
 refine QA Qe hb 200 mixed [(0,true),(1,true),(2,true),(3,true),(4,true),(5,true),(6,true),(7,true),(8,true),(9,true),(10,true),(11,true),(12,true)] (by kernel_rfl) (by kernel_rfl) ?_
 simp only[go_sem,simprocAttr,Qa,ho,Qf,ha,ZJ,e1]
 refine ⟨by omega,[],by simp,?_⟩
 congr 2
section
variable {h:List Ob} {r a room first:Nat} {row:Nat→List D} {L:List Pk} (T:Bc h r a room first row L)
include T
theorem oP (i:Nat) (hi:i≤64):QQ Tryz.prog 168 h [.ptr r 0 0 0,Qb i] (fun d=>d=Qb ((first+i) % room:Nat)):=oO T.o T.ao T.fl T.qP i hi
theorem oQ:QQ Tryz.prog 176 h [.ptr r 0 0 0] (fun d=>d=Qb (room - L.length:Nat)):=by
 obtain ⟨ho,ha,X1,Cn,zM,Ro⟩:=T
 have e1:IntKind.i64.wrap ((room:Int) - L.length)=((room - L.length:Nat):Int):=by rw[wrap64 (by omega) (by omega)];omega
 refine Zh Qe 200 Tryz.func176 rfl Tryz.ntmps176 Tryz.results176 rfl fun base w pl F hF QR hb=>?_
 rw[← hF] at ho ha
 have Qf:=Qd ho
 have ZJ:=Qd ha
 simp only[go_sem,simprocAttr,Qa,ho,Qf,ha,ZJ]
 refine QA Qe hb 200 mixed [(0,true),(1,true),(2,true),(3,true),(4,true),(5,true),(6,true),(7,true),(8,true),(9,true),(10,true)] (by kernel_rfl) (by kernel_rfl) ?_
 simp only[go_sem,simprocAttr,Qa,ho,Qf,ha,ZJ,e1]
 exact ⟨[],by simp⟩
theorem Qk1:QQ Tryz.prog 117 h [.ptr r 0 0 0] (fun d=>d=Qb L.length):=by
 obtain ⟨ho,ha,X1,Cn,zM,Ro⟩:=T
 refine Zh Qe 200 Tryz.func117 rfl Tryz.ntmps117 Tryz.results117 rfl fun base w pl F hF QR hb=>?_
 rw[← hF] at ho ha
 have Qf:=Qd ho
 have ZJ:=Qd ha
 simp only[go_sem,simprocAttr,Qa,ho,Qf,ha,ZJ]
 exact ⟨[],by simp⟩
theorem oR (i:Nat) (hi:i<L.length):QQ Tryz.prog 142 h [.ptr r 0 0 0,Qb i] (fun d=>d=.tup [.agg (L.getD i default).cells,Qb 0]):=by
 have T0:=T
 obtain ⟨ho,ha,X1,Cn,zM,Ro⟩:=T
 have d1:decide ((i:Int)<0)=false:=decide_eq_false (by omega)
 have d2:decide (L.length≤i)=false:=decide_eq_false (by omega)
 refine Zh Qe 200 Tryz.func142 rfl Tryz.ntmps142 Tryz.results142 rfl fun base w pl F hF QR hb=>?_
 rw[← hF] at ho ha
 have Qf:=Qd ho
 have ZJ:=Qd ha
 simp only[go_sem,simprocAttr,Qa,ho,Qf,ha,ZJ,d1,d2]
 refine QA Qe hb 200 mixed [(0,true),(1,true),(2,true),(3,true),(4,true),(5,true),(6,false),(7,true),(8,true),(9,false),(10,true)] (by kernel_rfl) (by kernel_rfl) ?_
 simp only[go_sem,simprocAttr,Qa,ho,Qf,ha,ZJ]
 refine Ju hb O1 rfl ?_ (oP (T0.more (yu hF)) i (by omega)) rfl fun d hR=>?_
 ·simp only[go_sem,simprocAttr,Qa,ho,Qf,ha,ZJ]
 subst hR
 refine QF hb ?_
 simp only[go_sem,simprocAttr,Qa,ho,Qf,ha,ZJ]
 have hm:(first+i) % room<room:=Nat.mod_lt _ (by omega)
 have ZN:=Ro i hi
 refine ⟨hm,hm,?_⟩
 simp only[go_sem,simprocAttr,Qa,ho,Qf,ha,ZJ,ZN]
 exact ⟨_,rfl⟩
end
theorem Rp {f i n:Nat} (h1:f<n) (h2:i≤n):(f+i) % n=if f+i<n then f+i else f+i - n:=by
 split
 ·exact Nat.mod_eq_of_lt ‹_›
 ·rw[Nat.mod_eq_sub_mod (by omega),Nat.mod_eq_of_lt (by omega)]
theorem Qk2 {S:Nat→Prop} {h:List Ob} {r room:Nat} {L:List Pk} (T:X4 S h r room L) (x:Pk) :
  QG Tryz.prog 123 h [.ptr r 0 0 0,.agg x.cells] (fun d h'=>d=Qb (if L.length=room then 5 else 0)∧X4 S h' r room (if L.length=room then L else L++[x])∧Step S h h'):=by
 have T0:=T
 obtain ⟨a,first,row,T⟩:=T
 have ho:=T.o
 have ha:=T.ao
 have Tr:=fun g=>(show Bc (h++g) r a room first row L from ⟨Zv ((QU (Qd T.o)).trans T.o),Zv ((QU (Qd T.ao)).trans T.ao),T.fl,T.len,T.qP,T.rows⟩)
 by_cases hf:L.length=room
 ·have d0:(((room - L.length:Nat):Int) == 0)=true:=by simp;omega
  refine QW Qe 200 Tryz.func123 rfl Tryz.ntmps123 Tryz.results123 rfl fun base w pl hb=>?_
  have Qf:=Qd ho
  have ZJ:=Qd ha
  simp only[go_sem,simprocAttr,Qa,ho,Qf,ha,ZJ]
  refine QL hb mw rfl ?_ (oQ (Tr _)) rfl fun d hR=>?_
  ·simp only[go_sem,simprocAttr,Qa,ho,Qf,ha,ZJ,d0]
  subst hR
  refine Qc hb ?_
  simp only[go_sem,simprocAttr,Qa,ho,Qf,ha,ZJ,d0]
  rw[if_pos hf,if_pos hf]
  exact ⟨rfl,T0.frame fun l h1 h2=>QU h2,Step.app S h _⟩
 ·have hlen:=T.len
  have d0:(((room - L.length:Nat):Int) == 0)=false:=by simp;omega
  refine QW Qe 200 Tryz.func123 rfl Tryz.ntmps123 Tryz.results123 rfl fun base w pl hb=>?_
  have Qf:=Qd ho
  have ZJ:=Qd ha
  simp only[go_sem,simprocAttr,Qa,ho,Qf,ha,ZJ]
  refine QL hb mw rfl ?_ (oQ (Tr _)) rfl fun d hR=>?_
  ·simp only[go_sem,simprocAttr,Qa,ho,Qf,ha,ZJ,d0]
  subst hR
  refine Qc hb ?_
  simp only[go_sem,simprocAttr,Qa,ho,Qf,ha,ZJ,d0]
  refine QA Qe hb 200 mixed [(0,true),(1,true),(2,true),(3,true),(4,true),(5,true),(6,true),(7,true),(8,true),(10,true),(9,false),(11,true),(12,false)] (by kernel_rfl) (by kernel_rfl) ?_
  simp only[go_sem,simprocAttr,Qa,ho,Qf,ha,ZJ]
  refine Ju hb O1 rfl ?_ (oP (Tr _) L.length (by have:=T.qP;omega)) rfl fun d hR=>?_
  ·simp only[go_sem,simprocAttr,Qa,ho,Qf,ha,ZJ]
  subst hR
  refine QF hb ?_
  simp only[go_sem,simprocAttr,Qa,ho,Qf,ha,ZJ]
  have hm:(first+L.length) % room<room:=Nat.mod_lt _ (by have:=T.fl;omega)
  have Di:(row ((first+L.length) % room)).drop 6=[]:=List.drop_eq_nil_of_le (by rw[T.lens _ hm];exact Nat.le_refl _)
  refine ⟨hm,hm,?_⟩
  simp only[go_sem,simprocAttr,Qa,ho,Qf,ha,ZJ,Di,Qt (Ne.symm T.ra)]
  rw[if_neg hf,if_neg hf]
  have Bd:=Qd ho
  have Be:=Qd ha
  have X1:=T.fl
  have zM:=T.qP
  have e1:IntKind.i64.wrap ((L.length:Int)+1)=((L.length+1:Nat):Int):=by rw[wrap64 (by omega) (by omega)];omega
  refine ⟨rfl,⟨a,first,fun k=>bif k == (first+L.length) % room then x.cells else row k,?_,?_,T.ra,T.fl,by simp;omega,zM,?_,?_,T.sr,T.sa⟩,?_,?_⟩
  ·rw[QU (by simp;exact Bd),List.getElem?_set_self (by simp;exact Bd),e1]
   simp [F8,Qb]
  ·rw[QU (by simp;exact Be),List.getElem?_set_ne T.ra,List.getElem?_set_self Be];rfl
  ·intro i hi
   simp only[List.length_append,List.length_singleton] at hi
   by_cases h1:i=L.length
   ·subst h1;simp
   ·have ZE:i<L.length:=by omega
    have QD:((first+i) % room == (first+L.length) % room)=false:=by
     rw[Rp X1 (by omega),Rp X1 (by omega)];simp only[beq_eq_false_iff_ne];split <;> split <;> omega
    rw[QD];simp only[cond_false,T.rows i ZE,List.getD,List.getElem?_append_left ZE]
  ·intro i hi
   show (bif _ then _ else _:List D).length=6
   by_cases h1:(i == (first+L.length) % room)=true
   ·rw[h1];rfl
   ·rw[Bool.eq_false_iff.2 h1];exact T.lens i hi
  ·intro l hl hn
   have n1:a≠l:=fun e=>hn (e▸T.sa)
   have n2:r≠l:=fun e=>hn (e▸T.sr)
   rw[QU (by simp;exact hl),List.getElem?_set_ne n2,List.getElem?_set_ne n1]
  ·simp
theorem Qk3 {S:Nat→Prop} {h:List Ob} {r room:Nat} {x:Pk} {L:List Pk} (T:X4 S h r room (x::L)) :
  QG Tryz.prog 107 h [.ptr r 0 0 0] (fun d h'=>d=.tup [.agg x.cells,Qb 0]∧X4 S h' r room L∧Step S h h'):=by
 have T0:=T
 obtain ⟨a,first,row,T⟩:=T
 have ho:=T.o
 have ha:=T.ao
 have Tr:=fun g=>(show Bc (h++g) r a room first row (x::L) from ⟨Zv ((QU (Qd T.o)).trans T.o),Zv ((QU (Qd T.ao)).trans T.ao),T.fl,T.len,T.qP,T.rows⟩)
 have zM:=T.qP
 have X1:=T.fl
 have Cn:=T.len
 simp only[List.length_cons] at Cn
 refine QW Qe 200 Tryz.func107 rfl Tryz.ntmps107 Tryz.results107 rfl fun base w pl hb=>?_
 have Qf:=Qd ho
 have ZJ:=Qd ha
 simp only[go_sem,simprocAttr,Qa,ho,Qf,ha,ZJ]
 refine QL hb mq rfl ?_ (oR (Tr _) 0 (by simp)) rfl fun d hR=>?_
 ·simp only[go_sem,simprocAttr,Qa,Qa,ho,Qf,ha,ZJ]
 subst hR
 refine Qc hb ?_
 simp only[go_sem,simprocAttr,Qa,Qa,ho,Qf,ha,ZJ]
 refine QA Qe hb 200 mixed [(0,true),(1,true),(2,true),(3,true),(4,true),(5,true),(6,true),(7,true),(8,true),(9,true),(10,false)] (by kernel_rfl) (by kernel_rfl) ?_
 simp only[go_sem,simprocAttr,Qa,ho,Qf,ha,ZJ]
 refine ⟨X1,X1,?_⟩
 have Bd:=Qd ho
 have Be:=Qd ha
 have Di:(row first).drop 6=[]:=List.drop_eq_nil_of_le (by rw[T.lens _ X1];exact Nat.le_refl _)
 have Hj:∀ A B,((h.set a A).set r B)[r]? = some B:=fun A B=>List.getElem?_set_self (by simp;exact Bd)
 have e2:IntKind.i64.wrap (((L.length+1:Nat):Int) - 1)=(L.length:Int):=by rw[wrap64 (by omega) (by omega)];omega
 have wS:=fun A g=>(show ((h.set a A++g).map Ob.ro)[r]? = some (F8 a room first (L.length+1)).ro from Zv ((QU (by simp;exact Bd)).trans ((List.getElem?_set_ne (Ne.symm T.ra)).trans ho)))
 have haN:=fun KK g=>(show ((h.set a ⟨.arr,0,6,room,KK⟩++g).map Ob.ro)[a]? = some (⟨.arr,0,6,room,KK⟩:Ob).ro from Zv ((QU (by simp;exact Be)).trans (List.getElem?_set_self Be)))
 refine QL hb O1 rfl ?_ (oO (wS _ _) (haN _ _) X1 zM 1 (by omega)) rfl fun d hR=>?_
 ·simp only[go_sem,simprocAttr,Qa,Qa,ho,Qf,ha,ZJ,Qt (Ne.symm T.ra),Di,Hj,e2]
 subst hR
 refine Qc hb ?_
 simp only[go_sem,simprocAttr,Qa,Qa,ho,Qf,ha,ZJ,Qt (Ne.symm T.ra),Di,Hj,e2]
 refine ⟨⟨a,(first+1) % room,fun k=>bif k == first then (default:Pk).cells else row k,?_,?_,T.ra,Nat.mod_lt _ (by omega),by omega,zM,?_,?_,T.sr,T.sa⟩,?_,?_⟩
 ·rw[QU (by simp;exact Bd),List.getElem?_set_self (by simp;exact Bd)];rfl
 ·rw[QU (by simp;exact Be),List.getElem?_set_ne T.ra,List.getElem?_set_self Be];rfl
 ·intro i hi
  have e3:((first+1) % room+i) % room=(first+(i+1)) % room:=by rw[Nat.mod_add_mod];congr 1;omega
  have h1:i+1<room:=by omega
  have QD:((first+(i+1)) % room == first)=false:=by
   rw[Rp X1 (by omega)];simp only[beq_eq_false_iff_ne];split <;> omega
  rw[e3]
  simp only[QD,cond_false,T.rows (i+1) (by simp;omega)]
  simp
 ·intro i hi
  show (bif _ then _ else _:List D).length=6
  by_cases h1:(i == first)=true
  ·rw[h1];rfl
  ·rw[Bool.eq_false_iff.2 h1];exact T.lens i hi
 ·intro l hl hn
  have n1:a≠l:=fun e=>hn (e▸T.sa)
  have n2:r≠l:=fun e=>hn (e▸T.sr)
  rw[QU (by simp;exact hl),List.getElem?_set_ne n2,List.getElem?_set_ne n1]
 ·simp
theorem Qk5 (h:List Ob) (n:Nat) (h1:1≤n) (h2:n≤64):QG Tryz.prog 194 h [Qb n] (fun d h'=>d=.tup [.ptr (h.length+1) 0 0 0,Qb 0]∧X4 (fun l=>h.length≤l) h' (h.length+1) n []∧∃ g,h'=h++g∧g.length=2):=by
 have d1:decide ((n:Int)<1)=false:=decide_eq_false (by omega)
 have d2:decide ((64:Int)<n)=false:=decide_eq_false (by omega)
 refine QW Qe 200 Tryz.func194 rfl Tryz.ntmps194 Tryz.results194 rfl fun base w pl hb=>?_
 simp only[go_sem,simprocAttr,Qa,d1,d2]
 refine QkZ kP hb rfl rfl rfl rfl (by decide) (by omega) (by decide) rfl ?_
 refine Qc hb ?_
 simp only[go_sem,simprocAttr]
 simp only[List.length_append,List.length_singleton,List.append_assoc,List.cons_append,List.nil_append]
 refine ⟨trivial,⟨h.length,0,fun _=>(default:Pk).cells,Ve rfl,Kq rfl,by omega,by omega,by simp,h2,by simp,fun _ _=>rfl,by show h.length≤_;omega,Nat.le_refl _⟩,_,rfl,rfl⟩
@[go_sem] def num (n:Nat):D:=.agg [u64 (n / 18446744073709551616),u64 (n % 18446744073709551616)]
theorem Qk6 (a b ah al bh bl:Nat) (ha:a=ah*4294967296+al) (hb:b=bh*4294967296+bl) (h1:ah<4294967296) (h2:al<4294967296) (h3:bh<4294967296) (h4:bl<4294967296) :
  ∃ P Q R S:Nat,P=ah*bh∧Q=ah*bl∧R=al*bh∧S=al*bl∧a*b=P*18446744073709551616+(Q+R)*4294967296+S∧P≤18446744065119617025∧Q≤18446744065119617025∧R≤18446744065119617025∧S≤18446744065119617025:=by
 refine ⟨_,_,_,_,rfl,rfl,rfl,rfl,?_,?_,?_,?_,?_⟩
 ·subst ha hb
  have e:(ah*4294967296+al)*(bh*4294967296+bl)=ah*bh*(4294967296*4294967296)+(ah*bl+al*bh)*4294967296+al*bl:=by
   simp only[Nat.add_mul,Nat.mul_add,Nat.mul_comm,Nat.mul_left_comm,Nat.mul_assoc]
   omega
  rw[e]
 all_goals (refine Nat.le_trans (Nat.mul_le_mul (Nat.le_sub_one_of_lt ‹_›) (Nat.le_sub_one_of_lt ‹_›)) (by decide))
theorem jR (a b:Nat) (ha:a<18446744073709551616) (hb:b<18446744073709551616):Q7 Tryz.prog 110 [u64 a,u64 b] (Qm (num (a*b))):=by
 refine Zk 0 Qe 200 Tryz.func110 rfl Tryz.ntmps110 Tryz.results110 rfl fun base w hb=>?_
 simp only[go_sem,Nat.reduceAdd,Nat.reduceSub,Nat.reduceMul,Nat.reduceBEq,Nat.reduceLT,Nat.reduceLeDiff,Nat.reduceEqDiff,Int.reduceToNat,Int.reduceLE,Int.reduceLT,Int.reduceAdd,Int.reduceSub,Int.reduceNeg,Int.reduceBEq,Int.reduceBNe,Nat.reduceBNe,Nat.reduceDiv,Nat.reduceMod]
 have e32:(2:Nat) ^ min 32 64=4294967296:=rfl
 have i32:(2:Int) ^ min 32 64=((4294967296:Nat):Int):=rfl
 obtain ⟨P,Q,R,S,hP,hQ,hR,hS,JW,bP,bQ,bR,bS⟩:=Qk6 a b (a / 4294967296) (a % 4294967296) (b / 4294967296) (b % 4294967296) (by omega) (by omega) (by omega) (by omega) (by omega) (by omega)
 have s32:∀ x:Nat,((x:Int)).fdiv ((4294967296:Nat):Int)=((x / 4294967296:Nat):Int):=fun x=>by have:=AZ x 32;rwa [show (2:Int) ^ 32=((4294967296:Nat):Int) from rfl,show (2:Nat) ^ 32=4294967296 from rfl] at this
 simp (disch:=omega) only [s32,QjR,i32,FL,AY,← hP,← hQ,← hR,← hS,JW]
 have k2:∀ X:Nat,X*4294967296 % 18446744073709551616=X % 4294967296*4294967296:=fun X=>by omega
 rw[k2,QjS _ _ (by omega) (by omega)]
 have e1:((P % 18446744073709551616+((Q % 18446744073709551616+S % 18446744073709551616 / 4294967296) % 18446744073709551616) / 4294967296) % 18446744073709551616+((R % 18446744073709551616+((Q % 18446744073709551616+S % 18446744073709551616 / 4294967296) % 18446744073709551616) % 4294967296) % 18446744073709551616) / 4294967296) % 18446744073709551616=(P*18446744073709551616+(Q+R)*4294967296+S) / 18446744073709551616:=by omega
 have e2:((R % 18446744073709551616+((Q % 18446744073709551616+S % 18446744073709551616 / 4294967296) % 18446744073709551616) % 4294967296) % 18446744073709551616) % 4294967296*4294967296+S % 18446744073709551616 % 4294967296=(P*18446744073709551616+(Q+R)*4294967296+S) % 18446744073709551616:=by omega
 rw[e1,e2]
theorem Rq (a b:Nat) (ha:a<2 ^ 128) (hb:b<2 ^ 128):Q7 Tryz.prog 209 [num a,num b] (Qm (Qb (if a<b then -1 else if a=b then 0 else 1))):=by
 refine Zk 0 Qe 200 Tryz.func209 rfl Tryz.ntmps209 Tryz.results209 rfl fun base w hb=>?_
 simp only[go_sem,Nat.reduceAdd,Nat.reduceSub,Nat.reduceMul,Nat.reduceBEq,Nat.reduceLT,Nat.reduceLeDiff,Nat.reduceEqDiff,Int.reduceToNat,Int.reduceLE,Int.reduceLT,Int.reduceAdd,Int.reduceSub,Int.reduceNeg,Int.reduceBEq,Int.reduceBNe,Nat.reduceBNe,Nat.reduceDiv,Nat.reduceMod]
 refine jy (fun h1=>?_) (fun h1=>?_)
 ·simp only[go_sem,Nat.reduceAdd,Nat.reduceSub,Nat.reduceMul,Nat.reduceBEq,Nat.reduceLT,Nat.reduceLeDiff,Nat.reduceEqDiff,Int.reduceToNat,Int.reduceLE,Int.reduceLT,Int.reduceAdd,Int.reduceSub,Int.reduceNeg,Int.reduceBEq,Int.reduceBNe,Nat.reduceBNe,Nat.reduceDiv,Nat.reduceMod,h1]
  have:=of_decide_eq_true h1
  rw[if_pos (by omega)]
 simp only[go_sem,Nat.reduceAdd,Nat.reduceSub,Nat.reduceMul,Nat.reduceBEq,Nat.reduceLT,Nat.reduceLeDiff,Nat.reduceEqDiff,Int.reduceToNat,Int.reduceLE,Int.reduceLT,Int.reduceAdd,Int.reduceSub,Int.reduceNeg,Int.reduceBEq,Int.reduceBNe,Nat.reduceBNe,Nat.reduceDiv,Nat.reduceMod,h1]
 have Zw:=of_decide_eq_false h1
 refine jy (fun h2=>?_) (fun h2=>?_)
 ·have Wv:a / 18446744073709551616=b / 18446744073709551616:=by have:=eq_of_beq h2;omega
  simp only[go_sem,Nat.reduceAdd,Nat.reduceSub,Nat.reduceMul,Nat.reduceBEq,Nat.reduceLT,Nat.reduceLeDiff,Nat.reduceEqDiff,Int.reduceToNat,Int.reduceLE,Int.reduceLT,Int.reduceAdd,Int.reduceSub,Int.reduceNeg,Int.reduceBEq,Int.reduceBNe,Nat.reduceBNe,Nat.reduceDiv,Nat.reduceMod,h2]
  refine jy (fun h3=>?_) (fun h3=>?_)
  ·have:=of_decide_eq_true h3
   simp only[go_sem,Nat.reduceAdd,Nat.reduceSub,Nat.reduceMul,Nat.reduceBEq,Nat.reduceLT,Nat.reduceLeDiff,Nat.reduceEqDiff,Int.reduceToNat,Int.reduceLE,Int.reduceLT,Int.reduceAdd,Int.reduceSub,Int.reduceNeg,Int.reduceBEq,Int.reduceBNe,Nat.reduceBNe,Nat.reduceDiv,Nat.reduceMod,h3]
   rw[if_pos (by omega)]
  ·have Pr:=of_decide_eq_false h3
   simp only[go_sem,Nat.reduceAdd,Nat.reduceSub,Nat.reduceMul,Nat.reduceBEq,Nat.reduceLT,Nat.reduceLeDiff,Nat.reduceEqDiff,Int.reduceToNat,Int.reduceLE,Int.reduceLT,Int.reduceAdd,Int.reduceSub,Int.reduceNeg,Int.reduceBEq,Int.reduceBNe,Nat.reduceBNe,Nat.reduceDiv,Nat.reduceMod,h3]
   refine jy (fun h4=>?_) (fun h4=>?_)
   ·simp only[go_sem,Nat.reduceAdd,Nat.reduceSub,Nat.reduceMul,Nat.reduceBEq,Nat.reduceLT,Nat.reduceLeDiff,Nat.reduceEqDiff,Int.reduceToNat,Int.reduceLE,Int.reduceLT,Int.reduceAdd,Int.reduceSub,Int.reduceNeg,Int.reduceBEq,Int.reduceBNe,Nat.reduceBNe,Nat.reduceDiv,Nat.reduceMod,h4]
    simp only[Bool.and_eq_true,beq_iff_eq] at h4
    rw[if_neg (by omega),if_pos (by omega)]
   ·simp only[go_sem,Nat.reduceAdd,Nat.reduceSub,Nat.reduceMul,Nat.reduceBEq,Nat.reduceLT,Nat.reduceLeDiff,Nat.reduceEqDiff,Int.reduceToNat,Int.reduceLE,Int.reduceLT,Int.reduceAdd,Int.reduceSub,Int.reduceNeg,Int.reduceBEq,Int.reduceBNe,Nat.reduceBNe,Nat.reduceDiv,Nat.reduceMod,h4]
    simp only[Bool.and_eq_false_iff,beq_eq_false_iff_ne] at h4
    rw[if_neg (by omega),if_neg (by omega)]
 ·have Wv:=ne_of_beq_false h2
  simp only[go_sem,Nat.reduceAdd,Nat.reduceSub,Nat.reduceMul,Nat.reduceBEq,Nat.reduceLT,Nat.reduceLeDiff,Nat.reduceEqDiff,Int.reduceToNat,Int.reduceLE,Int.reduceLT,Int.reduceAdd,Int.reduceSub,Int.reduceNeg,Int.reduceBEq,Int.reduceBNe,Nat.reduceBNe,Nat.reduceDiv,Nat.reduceMod,h2,Bool.false_and]
  rw[if_neg (by omega),if_neg (by omega)]
theorem Qk8 (a b c u:Nat) (ha:a<18446744073709551616) (hb:b<18446744073709551616) (hc:c<2) (hl:u=(a+18446744073709551616 - b+18446744073709551616 - c) % 18446744073709551616) :
  (bits BinOp.or IntKind.u64 (bits BinOp.and IntKind.u64 (bits BinOp.xor IntKind.u64 (if IntKind.u64.signed=true then -1 else IntKind.u64.max) (a:Int)) (b:Int)) (bits BinOp.and IntKind.u64 (bits BinOp.xor IntKind.u64 (if IntKind.u64.signed=true then -1 else IntKind.u64.max) (bits BinOp.xor IntKind.u64 (a:Int) (b:Int))) (u:Int))).fdiv (2 ^ min 63 64)=((if a<b+c then 1 else 0:Nat):Int):=by
 have em:(if IntKind.u64.signed=true then -1 else IntKind.u64.max)=((18446744073709551615:Nat):Int):=by decide
 have hx:a ^^^ b<2 ^ 64:=Nat.xor_lt_two_pow (by omega) (by omega)
 have xQ:18446744073709551615 ^^^ a<2 ^ 64:=Nat.xor_lt_two_pow (by omega) (by omega)
 have KD:18446744073709551615 ^^^ (a ^^^ b)<2 ^ 64:=Nat.xor_lt_two_pow (by omega) (by omega)
 have wT:(18446744073709551615 ^^^ a) &&& b<2 ^ 64:=Nat.and_lt_two_pow _ (by omega)
 have hx4:(18446744073709551615 ^^^ (a ^^^ b)) &&& u<2 ^ 64:=Nat.and_lt_two_pow _ (by omega)
 rw[em,u64_xor_nat a b ha hb,u64_xor_nat _ a (by decide) ha,u64_xor_nat _ _ (by decide) (by omega),u64_and_nat _ b (by omega) hb,u64_and_nat _ u (by omega) (by omega),u64_or_nat _ _ (by omega) (by omega),AZ]
 rw[show (2:Nat) ^ min 63 64=9223372036854775808 from rfl,PC _ _ (by omega) (by omega),LF _ _ (by omega) (by omega),LF _ _ (by omega) (by omega),PD _ _ (by omega) (by omega),PD _ _ (by omega) (by omega),PD _ _ (by omega) (by omega)]
 rw[QjT a b c _ _ _ u _ ha hb hc hl rfl rfl rfl rfl]
theorem oS (a b:Nat) (c:Nat) (ha:a<18446744073709551616) (hb:b<18446744073709551616) (hc:c<2):Q7 Tryz.prog 258 [u64 a,u64 b,u64 c] (Qm (.tup [u64 ((a+18446744073709551616 - b+18446744073709551616 - c) % 18446744073709551616),u64 (if a<b+c then 1 else 0)])):=by
 refine Zk 0 Qe 200 Tryz.func258 rfl Tryz.ntmps258 Tryz.results258 rfl fun base w hb=>?_
 simp only[go_sem,Nat.reduceAdd,Nat.reduceSub,Nat.reduceMul,Nat.reduceBEq,Nat.reduceLT,Nat.reduceLeDiff,Nat.reduceEqDiff,Int.reduceToNat,Int.reduceLE,Int.reduceLT,Int.reduceAdd,Int.reduceSub,Int.reduceNeg,Int.reduceBEq,Int.reduceBNe,Nat.reduceBNe,Nat.reduceDiv,Nat.reduceMod]
 have h2:IntKind.u64.wrap (IntKind.u64.wrap ((a:Int) - (b:Int)) - (c:Int))=(((a+18446744073709551616 - b+18446744073709551616 - c) % 18446744073709551616:Nat):Int):=by
  rw[PB a b (by omega),PB _ c (by omega)];omega
 rw[h2,Qk8 a b c _ ha ‹_› hc rfl]
theorem Qla (a b:Nat) (ha:a<2 ^ 128) (hb:b<2 ^ 128):Q7 Tryz.prog 210 [num a,num b] (Qm (.tup [num ((a+2 ^ 128 - b) % 2 ^ 128),QN (decide (a<b))])):=by
 refine Zk 0 Qe 200 Tryz.func210 rfl Tryz.ntmps210 Tryz.results210 rfl fun base w hb=>?_
 simp only[go_sem,Nat.reduceAdd,Nat.reduceSub,Nat.reduceMul,Nat.reduceBEq,Nat.reduceLT,Nat.reduceLeDiff,Nat.reduceEqDiff,Int.reduceToNat,Int.reduceLE,Int.reduceLT,Int.reduceAdd,Int.reduceSub,Int.reduceNeg,Int.reduceBEq,Int.reduceBNe,Nat.reduceBNe,Nat.reduceDiv,Nat.reduceMod]
 refine QM hb mI rfl ?_ (oS (a % 18446744073709551616) (b % 18446744073709551616) 0 (by omega) (by omega) (by omega)) (Qm.flat rfl) rfl fun d h hR=>?_
 ·simp only[go_sem,Nat.reduceAdd,Nat.reduceSub,Nat.reduceMul,Nat.reduceBEq,Nat.reduceLT,Nat.reduceLeDiff,Nat.reduceEqDiff,Int.reduceToNat,Int.reduceLE,Int.reduceLT,Int.reduceAdd,Int.reduceSub,Int.reduceNeg,Int.reduceBEq,Int.reduceBNe,Nat.reduceBNe,Nat.reduceDiv,Nat.reduceMod]
 obtain ⟨rfl,rfl⟩:=hR
 refine Qc hb ?_
 simp only[go_sem,Nat.reduceAdd,Nat.reduceSub,Nat.reduceMul,Nat.reduceBEq,Nat.reduceLT,Nat.reduceLeDiff,Nat.reduceEqDiff,Int.reduceToNat,Int.reduceLE,Int.reduceLT,Int.reduceAdd,Int.reduceSub,Int.reduceNeg,Int.reduceBEq,Int.reduceBNe,Nat.reduceBNe,Nat.reduceDiv,Nat.reduceMod]
 refine QM hb mI rfl ?_ (oS (a / 18446744073709551616) (b / 18446744073709551616) (if a % 18446744073709551616<b % 18446744073709551616+0 then 1 else 0) (by omega) (by omega) (by split <;> omega)) (Qm.flat rfl) rfl fun d h hR=>?_
 ·simp only[go_sem,Nat.reduceAdd,Nat.reduceSub,Nat.reduceMul,Nat.reduceBEq,Nat.reduceLT,Nat.reduceLeDiff,Nat.reduceEqDiff,Int.reduceToNat,Int.reduceLE,Int.reduceLT,Int.reduceAdd,Int.reduceSub,Int.reduceNeg,Int.reduceBEq,Int.reduceBNe,Nat.reduceBNe,Nat.reduceDiv,Nat.reduceMod]
 obtain ⟨rfl,rfl⟩:=hR
 refine Qc hb ?_
 simp only[go_sem,Nat.reduceAdd,Nat.reduceSub,Nat.reduceMul,Nat.reduceBEq,Nat.reduceLT,Nat.reduceLeDiff,Nat.reduceEqDiff,Int.reduceToNat,Int.reduceLE,Int.reduceLT,Int.reduceAdd,Int.reduceSub,Int.reduceNeg,Int.reduceBEq,Int.reduceBNe,Nat.reduceBNe,Nat.reduceDiv,Nat.reduceMod]
 have e1:∀ x:Nat,(((if x=1 then (1:Nat) else 0:Nat):Int) != 0)=decide (x=1):=fun x=>by by_cases h:x=1 <;> simp [h]
 have e2:(((if a / 18446744073709551616<b / 18446744073709551616+if a % 18446744073709551616<b % 18446744073709551616 then 1 else 0 then 1 else 0:Nat):Int) != 0)=decide (a<b):=by
  by_cases h1:a % 18446744073709551616<b % 18446744073709551616
  ·rw[if_pos h1]
   by_cases h2:a / 18446744073709551616<b / 18446744073709551616+1
   ·rw[if_pos h2];simp;omega
   ·rw[if_neg h2];simp;omega
  ·rw[if_neg h1]
   by_cases h2:a / 18446744073709551616<b / 18446744073709551616+0
   ·rw[if_pos h2];simp;omega
   ·rw[if_neg h2];simp;omega
 have e3:(a / 18446744073709551616+18446744073709551616 - b / 18446744073709551616+18446744073709551616 - if a % 18446744073709551616<b % 18446744073709551616 then 1 else 0) % 18446744073709551616=(a+2 ^ 128 - b) % 2 ^ 128 / 18446744073709551616:=by
  split <;> omega
 have e4:(a % 18446744073709551616+18446744073709551616 - b % 18446744073709551616+18446744073709551616 - 0) % 18446744073709551616=(a+2 ^ 128 - b) % 2 ^ 128 % 18446744073709551616:=by omega
 rw[e2,e3,e4]
theorem Qlb (a b c u:Nat) (ha:a<18446744073709551616) (hb:b<18446744073709551616) (hc:c<2) (hl:u=(a+b+c) % 18446744073709551616) :
  (bits BinOp.or IntKind.u64 (bits BinOp.and IntKind.u64 (a:Int) (b:Int)) (bits BinOp.andNot IntKind.u64 (bits BinOp.or IntKind.u64 (a:Int) (b:Int)) (u:Int))).fdiv (2 ^ min 63 64)=((if 18446744073709551616≤a+b+c then 1 else 0:Nat):Int):=by
 have hx:a ||| b<2 ^ 64:=Nat.or_lt_two_pow (by omega) (by omega)
 have wT:a &&& b<2 ^ 64:=Nat.and_lt_two_pow _ (by omega)
 have hx4:(a ||| b) &&& (18446744073709551615 - u)<2 ^ 64:=Nat.and_lt_two_pow _ (by omega)
 rw[u64_and_nat a b ha hb,u64_or_nat a b ha hb,u64_andNot_nat _ u (by omega) (by omega),u64_or_nat _ _ (by omega) (by omega),AZ]
 rw[show (2:Nat) ^ min 63 64=9223372036854775808 from rfl,PC _ _ (by omega) (by omega),LF _ _ (by omega) (by omega),LF _ _ (by omega) (by omega),PC _ _ (by omega) (by omega)]
 rw[show (18446744073709551615 - u) / 9223372036854775808=1 - u / 9223372036854775808 by omega]
 rw[QjU a b c _ _ _ u _ ha hb hc hl rfl rfl rfl rfl]
theorem oT (a b:Nat) (c:Nat) (ha:a<18446744073709551616) (hb:b<18446744073709551616) (hc:c<2):Q7 Tryz.prog 266 [u64 a,u64 b,u64 c] (Qm (.tup [u64 ((a+b+c) % 18446744073709551616),u64 (if 18446744073709551616≤a+b+c then 1 else 0)])):=by
 refine Zk 0 Qe 200 Tryz.func266 rfl Tryz.ntmps266 Tryz.results266 rfl fun base w hb=>?_
 simp only[go_sem,Nat.reduceAdd,Nat.reduceSub,Nat.reduceMul,Nat.reduceBEq,Nat.reduceLT,Nat.reduceLeDiff,Nat.reduceEqDiff,Int.reduceToNat,Int.reduceLE,Int.reduceLT,Int.reduceAdd,Int.reduceSub,Int.reduceNeg,Int.reduceBEq,Int.reduceBNe,Nat.reduceBNe,Nat.reduceDiv,Nat.reduceMod]
 have h2:IntKind.u64.wrap (IntKind.u64.wrap ((a:Int)+(b:Int))+(c:Int))=(((a+b+c) % 18446744073709551616:Nat):Int):=by
  rw[AY,AY];omega
 rw[h2,Qlb a b c _ ha ‹_› hc rfl]
theorem Ga (a b:Nat) (ha:a<2 ^ 128) (hb:b<2 ^ 128):Q7 Tryz.prog 218 [num a,num b] (Qm (.tup [num ((a+b) % 2 ^ 128),QN (decide (2 ^ 128≤a+b))])):=by
 refine Zk 0 Qe 200 Tryz.func218 rfl Tryz.ntmps218 Tryz.results218 rfl fun base w hb=>?_
 simp only[go_sem,Nat.reduceAdd,Nat.reduceSub,Nat.reduceMul,Nat.reduceBEq,Nat.reduceLT,Nat.reduceLeDiff,Nat.reduceEqDiff,Int.reduceToNat,Int.reduceLE,Int.reduceLT,Int.reduceAdd,Int.reduceSub,Int.reduceNeg,Int.reduceBEq,Int.reduceBNe,Nat.reduceBNe,Nat.reduceDiv,Nat.reduceMod]
 refine QM hb mO rfl ?_ (oT (a % 18446744073709551616) (b % 18446744073709551616) 0 (by omega) (by omega) (by omega)) (Qm.flat rfl) rfl fun d h hR=>?_
 ·simp only[go_sem,Nat.reduceAdd,Nat.reduceSub,Nat.reduceMul,Nat.reduceBEq,Nat.reduceLT,Nat.reduceLeDiff,Nat.reduceEqDiff,Int.reduceToNat,Int.reduceLE,Int.reduceLT,Int.reduceAdd,Int.reduceSub,Int.reduceNeg,Int.reduceBEq,Int.reduceBNe,Nat.reduceBNe,Nat.reduceDiv,Nat.reduceMod]
 obtain ⟨rfl,rfl⟩:=hR
 refine Qc hb ?_
 simp only[go_sem,Nat.reduceAdd,Nat.reduceSub,Nat.reduceMul,Nat.reduceBEq,Nat.reduceLT,Nat.reduceLeDiff,Nat.reduceEqDiff,Int.reduceToNat,Int.reduceLE,Int.reduceLT,Int.reduceAdd,Int.reduceSub,Int.reduceNeg,Int.reduceBEq,Int.reduceBNe,Nat.reduceBNe,Nat.reduceDiv,Nat.reduceMod]
 refine QM hb mO rfl ?_ (oT (a / 18446744073709551616) (b / 18446744073709551616) (if 18446744073709551616≤a % 18446744073709551616+b % 18446744073709551616+0 then 1 else 0) (by omega) (by omega) (by split <;> omega)) (Qm.flat rfl) rfl fun d h hR=>?_
 ·simp only[go_sem,Nat.reduceAdd,Nat.reduceSub,Nat.reduceMul,Nat.reduceBEq,Nat.reduceLT,Nat.reduceLeDiff,Nat.reduceEqDiff,Int.reduceToNat,Int.reduceLE,Int.reduceLT,Int.reduceAdd,Int.reduceSub,Int.reduceNeg,Int.reduceBEq,Int.reduceBNe,Nat.reduceBNe,Nat.reduceDiv,Nat.reduceMod]
 obtain ⟨rfl,rfl⟩:=hR
 refine Qc hb ?_
 simp only[go_sem,Nat.reduceAdd,Nat.reduceSub,Nat.reduceMul,Nat.reduceBEq,Nat.reduceLT,Nat.reduceLeDiff,Nat.reduceEqDiff,Int.reduceToNat,Int.reduceLE,Int.reduceLT,Int.reduceAdd,Int.reduceSub,Int.reduceNeg,Int.reduceBEq,Int.reduceBNe,Nat.reduceBNe,Nat.reduceDiv,Nat.reduceMod]
 have e2:(((if 18446744073709551616≤a / 18446744073709551616+b / 18446744073709551616+(if 18446744073709551616≤a % 18446744073709551616+b % 18446744073709551616 then 1 else 0) then 1 else 0:Nat):Int) != 0)=decide (2 ^ 128≤a+b):=by
  by_cases h1:18446744073709551616≤a % 18446744073709551616+b % 18446744073709551616
  ·rw[if_pos h1]
   by_cases h2:18446744073709551616≤a / 18446744073709551616+b / 18446744073709551616+1
   ·rw[if_pos h2];simp;omega
   ·rw[if_neg h2];simp;omega
  ·rw[if_neg h1]
   by_cases h2:18446744073709551616≤a / 18446744073709551616+b / 18446744073709551616+0
   ·rw[if_pos h2];simp;omega
   ·rw[if_neg h2];simp;omega
 have e3:(a / 18446744073709551616+b / 18446744073709551616+if 18446744073709551616≤a % 18446744073709551616+b % 18446744073709551616 then 1 else 0) % 18446744073709551616=(a+b) % 2 ^ 128 / 18446744073709551616:=by
  split <;> omega
 have e4:(a % 18446744073709551616+b % 18446744073709551616) % 18446744073709551616=(a+b) % 2 ^ 128 % 18446744073709551616:=by omega
 rw[e2,e3,e4]
theorem oU (a:Nat) (ha:a<18446744073709551616):Q7 Tryz.prog 260 [u64 a] (Qm (num a)):=by
 refine Zk 0 Qe 200 Tryz.func260 rfl Tryz.ntmps260 Tryz.results260 rfl fun base w hb=>?_
 simp only[go_sem,Nat.reduceAdd,Nat.reduceSub,Nat.reduceMul,Nat.reduceBEq,Nat.reduceLT,Nat.reduceLeDiff,Nat.reduceEqDiff,Int.reduceToNat,Int.reduceLE,Int.reduceLT,Int.reduceAdd,Int.reduceSub,Int.reduceNeg,Int.reduceBEq,Int.reduceBNe,Nat.reduceBNe,Nat.reduceDiv,Nat.reduceMod]
 have e1:a / 18446744073709551616=0:=by omega
 have e2:a % 18446744073709551616=a:=by omega
 rw[e1,e2];rfl
theorem Rr (x y:Nat) (hx:x<9223372036854775808) (hy:y<2):bits .or .u64 ((x*2:Nat):Int) (y:Int)=((x*2+y:Nat):Int):=by
 rw[u64_or_nat _ _ (by omega) (by omega),nat_join 1 _ _ (by omega) (by omega)]
theorem Rs (x:Nat):(x:Int).fdiv (2 ^ min 63 64)=((x / 9223372036854775808:Nat):Int):=by
 have:=AZ x 63
 rwa [show (2:Int) ^ 63=2 ^ min 63 64 from rfl,show (2:Nat) ^ 63=9223372036854775808 from rfl] at this
theorem Rt (x:Nat):IntKind.u64.wrap ((x:Int)*2 ^ min 1 64)=((x % 9223372036854775808*2:Nat):Int):=by
 rw[show (2:Int) ^ min 1 64=((2:Nat):Int) from rfl,FL];omega
theorem Ru (r A:Nat) (hA:A<2 ^ 128):bits .or .u64 (IntKind.u64.wrap ((r:Int)*2 ^ min 1 64)) ((A / 18446744073709551616 / 9223372036854775808:Nat):Int)=(((2*r+A / 2 ^ 127) % 18446744073709551616:Nat):Int):=by
 rw[Rt,Rr _ _ (by omega) (by omega)];congr 1;omega
theorem Dj (A:Nat) (hA:A<2 ^ 128):bits .or .u64 (IntKind.u64.wrap (((A / 18446744073709551616:Nat):Int)*2 ^ min 1 64)) ((A % 18446744073709551616 / 9223372036854775808:Nat):Int)=(((A*2 % 2 ^ 128) / 18446744073709551616:Nat):Int):=by
 rw[Rt,Rr _ _ (by omega) (by omega)];congr 1;omega
theorem Rv (A:Nat):IntKind.u64.wrap (((A % 18446744073709551616:Nat):Int)*2 ^ min 1 64)=(((A*2 % 2 ^ 128) % 18446744073709551616:Nat):Int):=by
 rw[Rt];congr 1;omega
theorem LX (x:Nat):bits .or .u64 (((x*2 % 2 ^ 128) % 18446744073709551616:Nat):Int) 1=((((x*2+1) % 2 ^ 128) % 18446744073709551616:Nat):Int):=by
 have:=Rr ((x*2 % 2 ^ 128) % 18446744073709551616 / 2) 1 (by omega) (by omega)
 rw[show (x*2 % 2 ^ 128) % 18446744073709551616 / 2*2=(x*2 % 2 ^ 128) % 18446744073709551616 by omega] at this
 rw[show ((1:Nat):Int)=1 from rfl] at this
 rw[this];congr 1;omega
theorem Rw {n:Nat} (h:n≠0):((n:Int) != 0)=true:=by simp [h]
theorem LY {n:Nat} (h:n=0):((n:Int) != 0)=false:=by simp [h]
theorem Qlc (a k:Nat) (hk:k<128):a / 2 ^ (128 - (k+1))=2*(a / 2 ^ (128 - k))+(a*2 ^ k % 2 ^ 128) / 2 ^ 127:=by
 obtain ⟨m,hm⟩:∃ m,m=127 - k:=⟨_,rfl⟩
 have e1:128 - (k+1)=m:=by omega
 have e2:128 - k=m+1:=by omega
 have e3:(2:Nat) ^ 128=2 ^ (m+1)*2 ^ k:=by rw[← Nat.pow_add];congr 1;omega
 have e4:(2:Nat) ^ 127=2 ^ m*2 ^ k:=by rw[← Nat.pow_add];congr 1;omega
 rw[e1,e2,e3,e4,Nat.mul_mod_mul_right,Nat.mul_div_mul_right _ _ (Nat.two_pow_pos k),Nat.pow_succ]
 have hM:=Nat.two_pow_pos m
 generalize 2 ^ m=M at *
 have h1:=Nat.div_add_mod a (M*2)
 have h2:a=M*(2*(a / (M*2)))+a % (M*2):=by rw[← Nat.mul_assoc];omega
 conv=>lhs;rw[h2]
 rw[Nat.mul_add_div hM]
theorem Qld (a k:Nat):a*2 ^ k % 2 ^ 128*2 % 2 ^ 128=a*2 ^ (k+1) % 2 ^ 128:=by
 have:a*2 ^ (k+1)=a*2 ^ k*2:=by rw[Nat.pow_succ,Nat.mul_assoc]
 rw[this];omega
theorem Qle (t b β:Nat) (hb:0<b) (hβ:β<2) :
  (b≤2*(t % b)+β→(2*t+β) / b=2*(t / b)+1∧(2*t+β) % b=2*(t % b)+β - b)∧(2*(t % b)+β<b→(2*t+β) / b=2*(t / b)∧(2*t+β) % b=2*(t % b)+β):=by
 have h1:=Nat.div_add_mod t b
 have h2:=Nat.mod_lt t hb
 constructor
 ·intro h
  refine (Nat.div_mod_unique hb).2 ⟨?_,by omega⟩
  rw[Nat.mul_add,Nat.mul_left_comm]
  omega
 ·intro h
  refine (Nat.div_mod_unique hb).2 ⟨?_,by omega⟩
  rw[Nat.mul_left_comm]
  omega
def dA (a k:Nat):Nat:=a*2 ^ k % 2 ^ 128
def dT (a k:Nat):Nat:=a / 2 ^ (128 - k)
theorem oV (a k:Nat) (h:a<2 ^ 128):dT a k<2 ^ 128:=Nat.lt_of_le_of_lt (Nat.div_le_self _ _) h
theorem yF (a k:Nat):dA a k<2 ^ 128:=Nat.mod_lt _ (by decide)
theorem oW (a b:Nat) (ha:a<2 ^ 128) (hb:b<18446744073709551616):Q7 Tryz.prog 259 [num a,u64 b] (Qm (.tup [num (if b=0 then 0 else a / b),u64 (if b=0 then 0 else a % b),Qb (if b=0 then 1 else 0)])):=by
 refine Zk 0 Qe 200 Tryz.func259 rfl Tryz.ntmps259 Tryz.results259 rfl fun base w hb=>?_
 simp only[go_sem,Nat.reduceAdd,Nat.reduceSub,Nat.reduceMul,Nat.reduceBEq,Nat.reduceLT,Nat.reduceLeDiff,Nat.reduceEqDiff,Int.reduceToNat,Int.reduceLE,Int.reduceLT,Int.reduceAdd,Int.reduceSub,Int.reduceNeg,Int.reduceBEq,Int.reduceBNe,Nat.reduceBNe,Nat.reduceDiv,Nat.reduceMod]
 by_cases Q9:b=0
 ·subst Q9
  simp only[go_sem,Nat.reduceAdd,Nat.reduceSub,Nat.reduceMul,Nat.reduceBEq,Nat.reduceLT,Nat.reduceLeDiff,Nat.reduceEqDiff,Int.reduceToNat,Int.reduceLE,Int.reduceLT,Int.reduceAdd,Int.reduceSub,Int.reduceNeg,Int.reduceBEq,Int.reduceBNe,Nat.reduceBNe,Nat.reduceDiv,Nat.reduceMod,if_true]
  try rfl
 have hbz:=bnz Q9
 simp only[go_sem,Nat.reduceAdd,Nat.reduceSub,Nat.reduceMul,Nat.reduceBEq,Nat.reduceLT,Nat.reduceLeDiff,Nat.reduceEqDiff,Int.reduceToNat,Int.reduceLE,Int.reduceLT,Int.reduceAdd,Int.reduceSub,Int.reduceNeg,Int.reduceBEq,Int.reduceBNe,Nat.reduceBNe,Nat.reduceDiv,Nat.reduceMod,hbz]
 have i1:dA a 0=a:=by show a*2 ^ 0 % 2 ^ 128=a;rw[Nat.pow_zero,Nat.mul_one];exact Nat.mod_eq_of_lt ha
 have i2:dT a 0=0:=Nat.div_eq_of_lt ha
 refine Qcj (G:=Nat) [1,2,4,7] (fun k=>True) (fun k γ=>[(8,u64 (dT a k % b)),(13,Qb k)]) (fun k γ=>[⟨.one,0,2,1,fun _=>[u64 (dA a k / 18446744073709551616),u64 (dA a k % 18446744073709551616)]⟩,⟨.one,0,2,1,fun _=>[u64 0,u64 0]⟩,⟨.one,0,2,1,fun _=>[u64 (dT a k / b / 18446744073709551616),u64 (dT a k / b % 18446744073709551616)]⟩]) (128) (0) rfl (Ql.to 3 (by (simp only[go_sem,Nat.reduceAdd,Nat.reduceSub,Nat.reduceMul,Nat.reduceBEq,Nat.reduceLT,Nat.reduceLeDiff,Nat.reduceEqDiff,Int.reduceToNat,Int.reduceLE,Int.reduceLT,Int.reduceAdd,Int.reduceSub,Int.reduceNeg,Int.reduceBEq,Int.reduceBNe,Nat.reduceBNe,Nat.reduceDiv,Nat.reduceMod,i1,i2,Nat.zero_div,Nat.zero_mod]) <;> simp)) trivial ?_
 intro k γ hk _
 replace hk:k≤128:=hk
 refine Qc hb ?_
 simp only[go_sem,Nat.reduceAdd,Nat.reduceSub,Nat.reduceMul,Nat.reduceBEq,Nat.reduceLT,Nat.reduceLeDiff,Nat.reduceEqDiff,Int.reduceToNat,Int.reduceLE,Int.reduceLT,Int.reduceAdd,Int.reduceSub,Int.reduceNeg,Int.reduceBEq,Int.reduceBNe,Nat.reduceBNe,Nat.reduceDiv,Nat.reduceMod]
 have Zl:=KG (show k<4611686018427387904 by omega)
 first | refine kI hk (fun Qq=>?_) (fun Qq=>?_) | refine kJ hk (fun Qq=>?_) (fun Qq=>?_)
 ·replace Qq:k<128:=Qq
  have Qd:decide ((k:Int)<128)=true:=by simp;omega
  have Je:0<b:=by omega
  have t1:dT a (k+1)=2*dT a k+dA a k / 2 ^ 127:=Qlc a k Qq
  have t2:dA a k*2 % 2 ^ 128=dA a (k+1):=Qld a k
  have t3:=Qle (dT a k) b (dA a k / 2 ^ 127) Je (by have:=yF a k;omega)
  have t4:=Nat.mod_lt (dT a k) Je
  have t5:=yF a k
  have t6:=oV a (k+1) ha
  rw[← t1] at t3
  have t7:dT a (k+1) / b<2 ^ 128:=Nat.lt_of_le_of_lt (Nat.div_le_self _ _) t6
  have t8:dT a k / b<2 ^ 128:=Nat.lt_of_le_of_lt (Nat.div_le_self _ _) (oV a k ha)
  by_cases vX:b≤2*(dT a k % b)+dA a k / 2 ^ 127
  ·obtain ⟨q1,q2⟩:=t3.1 vX
   have e1:IntKind.u64.wrap ((((2*(dT a k % b)+dA a k / 2 ^ 127) % 18446744073709551616:Nat):Int) - (b:Int))=((dT a (k+1) % b:Nat):Int):=by
    rw[PB _ b (by omega),q2];congr 1;omega
   have e2:dT a k / b*2 % 2 ^ 128=dT a k / b*2:=by omega
   have e3:((dT a k / b*2+1) % 2 ^ 128)=dT a (k+1) / b:=by omega
   have e4:dT a k / b*2 % 2 ^ 128 / 18446744073709551616=dT a (k+1) / b / 18446744073709551616:=by omega
   by_cases ho:dT a k % b / 9223372036854775808=0
   ·have Rx:decide (b≤(2*(dT a k % b)+dA a k / 2 ^ 127) % 18446744073709551616)=true:=by simp;omega
    have Gb:((((dT a k % b / 9223372036854775808:Nat)):Int) != 0)=false:=LY ho
    simp only[go_sem,Nat.reduceAdd,Nat.reduceSub,Nat.reduceMul,Nat.reduceBEq,Nat.reduceLT,Nat.reduceLeDiff,Nat.reduceEqDiff,Int.reduceToNat,Int.reduceLE,Int.reduceLT,Int.reduceAdd,Int.reduceSub,Int.reduceNeg,Int.reduceBEq,Int.reduceBNe,Nat.reduceBNe,Nat.reduceDiv,Nat.reduceMod,Qd,Ru _ _ (yF a k),Dj _ (yF a k),Dj _ t8,Rv,Rs,Gb,Rx,e1,t2,LX,e3,e4]
    repeat (refine And.intro (by first | assumption | omega) ?_)
    refine ⟨_,Ql.to 3 (by (simp only[go_sem,Nat.reduceAdd,Nat.reduceSub,Nat.reduceMul,Nat.reduceBEq,Nat.reduceLT,Nat.reduceLeDiff,Nat.reduceEqDiff,Int.reduceToNat,Int.reduceLE,Int.reduceLT,Int.reduceAdd,Int.reduceSub,Int.reduceNeg,Int.reduceBEq,Int.reduceBNe,Nat.reduceBNe,Nat.reduceDiv,Nat.reduceMod,Zl,e1,t2,LX,e3,e4]) <;> simp),AM.mk (γ) (trivial)⟩
   ·have Gb:((((dT a k % b / 9223372036854775808:Nat)):Int) != 0)=true:=Rw ho
    simp only[go_sem,Nat.reduceAdd,Nat.reduceSub,Nat.reduceMul,Nat.reduceBEq,Nat.reduceLT,Nat.reduceLeDiff,Nat.reduceEqDiff,Int.reduceToNat,Int.reduceLE,Int.reduceLT,Int.reduceAdd,Int.reduceSub,Int.reduceNeg,Int.reduceBEq,Int.reduceBNe,Nat.reduceBNe,Nat.reduceDiv,Nat.reduceMod,Qd,Ru _ _ (yF a k),Dj _ (yF a k),Dj _ t8,Rv,Rs,Gb,e1,t2,LX,e3,e4]
    repeat (refine And.intro (by first | assumption | omega) ?_)
    refine ⟨_,Ql.to 3 (by (simp only[go_sem,Nat.reduceAdd,Nat.reduceSub,Nat.reduceMul,Nat.reduceBEq,Nat.reduceLT,Nat.reduceLeDiff,Nat.reduceEqDiff,Int.reduceToNat,Int.reduceLE,Int.reduceLT,Int.reduceAdd,Int.reduceSub,Int.reduceNeg,Int.reduceBEq,Int.reduceBNe,Nat.reduceBNe,Nat.reduceDiv,Nat.reduceMod,Zl,e1,t2,LX,e3,e4]) <;> simp),AM.mk (γ) (trivial)⟩
  ·obtain ⟨q1,q2⟩:=t3.2 (by omega)
   have e1:(2*(dT a k % b)+dA a k / 2 ^ 127) % 18446744073709551616=dT a (k+1) % b:=by omega
   have e3:dT a k / b*2 % 2 ^ 128=dT a (k+1) / b:=by omega
   have ho:dT a k % b / 9223372036854775808=0:=by omega
   have Rx:decide (b≤dT a (k+1) % b)=false:=by simp;omega
   have Gb:=LY ho
   simp only[go_sem,Nat.reduceAdd,Nat.reduceSub,Nat.reduceMul,Nat.reduceBEq,Nat.reduceLT,Nat.reduceLeDiff,Nat.reduceEqDiff,Int.reduceToNat,Int.reduceLE,Int.reduceLT,Int.reduceAdd,Int.reduceSub,Int.reduceNeg,Int.reduceBEq,Int.reduceBNe,Nat.reduceBNe,Nat.reduceDiv,Nat.reduceMod,Qd,Ru _ _ (yF a k),Dj _ (yF a k),Dj _ t8,Rv,Rs,Gb,e1,Rx,t2,e3]
   repeat (refine And.intro (by first | assumption | omega) ?_)
   refine ⟨_,Ql.to 3 (by (simp only[go_sem,Nat.reduceAdd,Nat.reduceSub,Nat.reduceMul,Nat.reduceBEq,Nat.reduceLT,Nat.reduceLeDiff,Nat.reduceEqDiff,Int.reduceToNat,Int.reduceLE,Int.reduceLT,Int.reduceAdd,Int.reduceSub,Int.reduceNeg,Int.reduceBEq,Int.reduceBNe,Nat.reduceBNe,Nat.reduceDiv,Nat.reduceMod,Zl,e1,t2,e3]) <;> simp),AM.mk (γ) (trivial)⟩
 ·have Qd:decide ((k:Int)<128)=false:=by rw[Qq];rfl
  have e1:dT a k=a:=by rw[Qq];show a / 2 ^ 0=a;rw[Nat.pow_zero,Nat.div_one]
  simp only[go_sem,Nat.reduceAdd,Nat.reduceSub,Nat.reduceMul,Nat.reduceBEq,Nat.reduceLT,Nat.reduceLeDiff,Nat.reduceEqDiff,Int.reduceToNat,Int.reduceLE,Int.reduceLT,Int.reduceAdd,Int.reduceSub,Int.reduceNeg,Int.reduceBEq,Int.reduceBNe,Nat.reduceBNe,Nat.reduceDiv,Nat.reduceMod,Qd,e1]
  refine Qc hb ?_
  simp only[go_sem,Nat.reduceAdd,Nat.reduceSub,Nat.reduceMul,Nat.reduceBEq,Nat.reduceLT,Nat.reduceLeDiff,Nat.reduceEqDiff,Int.reduceToNat,Int.reduceLE,Int.reduceLT,Int.reduceAdd,Int.reduceSub,Int.reduceNeg,Int.reduceBEq,Int.reduceBNe,Nat.reduceBNe,Nat.reduceDiv,Nat.reduceMod]
  rw[if_neg Q9,if_neg Q9,if_neg Q9]
def d0 (n:Nat):Nat:=n % 4294967296
def d1 (n:Nat):Nat:=n / 4294967296 % 4294967296
def d2 (n:Nat):Nat:=n / 18446744073709551616 % 4294967296
def d3 (n:Nat):Nat:=n / 79228162514264337593543950336 % 4294967296
@[go_sem] def dg (n:Nat):D:=.agg [u64 (d0 n),u64 (d1 n),u64 (d2 n),u64 (d3 n)]
theorem LZ:((1:Nat):Int)=1:=rfl
end Go.Fg.X
namespace Go.Fg.X
open Go.Proofs Go.Fg
end Go.Fg.X
namespace Go.Fg.X
open Go.Proofs Go.Fg
end Go.Fg.X
namespace Go.Fg.X
open Go.Proofs Go.Fg
end Go.Fg.X
namespace Go.Fg.X
open Go.Proofs Go.Fg
def cdiv (n d:Nat):Nat:=(n+d - 1) / d
theorem Qlg (n d:Nat) (hd:0<d):cdiv n d=if n % d=0 then n / d else n / d+1:=by
 unfold cdiv
 have h1:=Nat.div_add_mod n d
 have h2:=Nat.mod_lt n hd
 split
 ·rename_i h
  have:(n+d - 1) / d=n / d∧(n+d - 1) % d=d - 1:=(Nat.div_mod_unique hd).2 ⟨by omega,by omega⟩
  exact this.1
 ·have:(n+d - 1) / d=n / d+1∧(n+d - 1) % d=n % d - 1:=(Nat.div_mod_unique hd).2 ⟨by rw[Nat.mul_add];omega,by omega⟩
  exact this.1
@[go_sem] def Qtl (v e:Int):D:=.agg [.raw (.int .u64 v),.raw (.int .i64 e)]
theorem Qlh (n d:Nat) (hn:n<2 ^ 128) (hd:0<d) (h:¬ n % d=0):n / d+1<2 ^ 128:=by
 have h2:2≤d:=by
  rcases Nat.lt_or_ge d 2 with h3 | h3
  ·have:d=1:=by omega
   subst this;omega
  ·exact h3
 have:=Nat.div_le_div_left (c:=2) (b:=d) (a:=n) h2 (by decide)
 omega
theorem oX:((65536:Nat):Int)=65536:=rfl
def Gc (n:Nat):Nat:=if n<18446744073709551616 then n else 0
def Dl (n:Nat):Int:=if n<18446744073709551616 then 0 else 20
theorem oY (n:Nat) (hn:n<2 ^ 128):Q7 Tryz.prog 261 [num n] (Qm (.tup [u64 (Gc n),Qb (Dl n)])):=by
 refine Zk 0 Qe 200 Tryz.func261 rfl Tryz.ntmps261 Tryz.results261 rfl fun base w hb=>?_
 simp only[go_sem,Nat.reduceAdd,Nat.reduceSub,Nat.reduceMul,Nat.reduceBEq,Nat.reduceLT,Nat.reduceLeDiff,Nat.reduceEqDiff,Int.reduceToNat,Int.reduceLE,Int.reduceLT,Int.reduceAdd,Int.reduceSub,Int.reduceNeg,Int.reduceBEq,Int.reduceBNe,Nat.reduceBNe,Nat.reduceDiv,Nat.reduceMod]
 by_cases h:n<18446744073709551616
 ·have e1:((((n / 18446744073709551616:Nat)):Int) != 0)=false:=LY (by omega)
  have e2:Gc n=n:=if_pos h
  have e3:Dl n=0:=if_pos h
  simp only[go_sem,Nat.reduceAdd,Nat.reduceSub,Nat.reduceMul,Nat.reduceBEq,Nat.reduceLT,Nat.reduceLeDiff,Nat.reduceEqDiff,Int.reduceToNat,Int.reduceLE,Int.reduceLT,Int.reduceAdd,Int.reduceSub,Int.reduceNeg,Int.reduceBEq,Int.reduceBNe,Nat.reduceBNe,Nat.reduceDiv,Nat.reduceMod,e1,e2,e3]
  rw[Nat.mod_eq_of_lt h]
 ·have e1:((((n / 18446744073709551616:Nat)):Int) != 0)=true:=Rw (by omega)
  have e2:Gc n=0:=if_neg h
  have e3:Dl n=20:=if_neg h
  simp only[go_sem,Nat.reduceAdd,Nat.reduceSub,Nat.reduceMul,Nat.reduceBEq,Nat.reduceLT,Nat.reduceLeDiff,Nat.reduceEqDiff,Int.reduceToNat,Int.reduceLE,Int.reduceLT,Int.reduceAdd,Int.reduceSub,Int.reduceNeg,Int.reduceBEq,Int.reduceBNe,Nat.reduceBNe,Nat.reduceDiv,Nat.reduceMod,e1,e2,e3]
theorem Qli (n d:Nat) (hn:n<2 ^ 128) (hd:d<18446744073709551616) (yC:0<d):Q7 Tryz.prog 211 [num n,u64 d] (Qm (.tup [u64 (Gc (cdiv n d)),Qb (Dl (cdiv n d))])):=by
 have hc:=Qlg n d yC
 have oZ:d≠0:=by omega
 have hle:=Nat.div_le_self n d
 refine Zk 0 Qe 200 Tryz.func211 rfl Tryz.ntmps211 Tryz.results211 rfl fun base w hb=>?_
 simp only[go_sem,Nat.reduceAdd,Nat.reduceSub,Nat.reduceMul,Nat.reduceBEq,Nat.reduceLT,Nat.reduceLeDiff,Nat.reduceEqDiff,Int.reduceToNat,Int.reduceLE,Int.reduceLT,Int.reduceAdd,Int.reduceSub,Int.reduceNeg,Int.reduceBEq,Int.reduceBNe,Nat.reduceBNe,Nat.reduceDiv,Nat.reduceMod]
 refine QM hb mJ rfl ?_ (oW n d hn hd) (Qm.flat rfl) rfl fun d h hR=>?_
 ·simp only[go_sem,Nat.reduceAdd,Nat.reduceSub,Nat.reduceMul,Nat.reduceBEq,Nat.reduceLT,Nat.reduceLeDiff,Nat.reduceEqDiff,Int.reduceToNat,Int.reduceLE,Int.reduceLT,Int.reduceAdd,Int.reduceSub,Int.reduceNeg,Int.reduceBEq,Int.reduceBNe,Nat.reduceBNe,Nat.reduceDiv,Nat.reduceMod,oZ,if_false]
 obtain ⟨rfl,rfl⟩:=hR
 refine Qc hb ?_
 simp only[go_sem,Nat.reduceAdd,Nat.reduceSub,Nat.reduceMul,Nat.reduceBEq,Nat.reduceLT,Nat.reduceLeDiff,Nat.reduceEqDiff,Int.reduceToNat,Int.reduceLE,Int.reduceLT,Int.reduceAdd,Int.reduceSub,Int.reduceNeg,Int.reduceBEq,Int.reduceBNe,Nat.reduceBNe,Nat.reduceDiv,Nat.reduceMod,oZ,if_false]
 by_cases h:n % d=0
 ·rw[if_pos h] at hc
  have e1:=LY h
  simp only[go_sem,Nat.reduceAdd,Nat.reduceSub,Nat.reduceMul,Nat.reduceBEq,Nat.reduceLT,Nat.reduceLeDiff,Nat.reduceEqDiff,Int.reduceToNat,Int.reduceLE,Int.reduceLT,Int.reduceAdd,Int.reduceSub,Int.reduceNeg,Int.reduceBEq,Int.reduceBNe,Nat.reduceBNe,Nat.reduceDiv,Nat.reduceMod,e1]
  refine QM hb mL rfl ?_ (oY (n / d) (by omega)) (Qm.flat rfl) rfl fun d h hR=>?_
  ·simp only[go_sem,Nat.reduceAdd,Nat.reduceSub,Nat.reduceMul,Nat.reduceBEq,Nat.reduceLT,Nat.reduceLeDiff,Nat.reduceEqDiff,Int.reduceToNat,Int.reduceLE,Int.reduceLT,Int.reduceAdd,Int.reduceSub,Int.reduceNeg,Int.reduceBEq,Int.reduceBNe,Nat.reduceBNe,Nat.reduceDiv,Nat.reduceMod,hc]
  obtain ⟨rfl,rfl⟩:=hR
  refine Qc hb ?_
  simp only[go_sem,Nat.reduceAdd,Nat.reduceSub,Nat.reduceMul,Nat.reduceBEq,Nat.reduceLT,Nat.reduceLeDiff,Nat.reduceEqDiff,Int.reduceToNat,Int.reduceLE,Int.reduceLT,Int.reduceAdd,Int.reduceSub,Int.reduceNeg,Int.reduceBEq,Int.reduceBNe,Nat.reduceBNe,Nat.reduceDiv,Nat.reduceMod,hc]
 ·rw[if_neg h] at hc
  have xE:=Qlh n d hn yC h
  have e1:=Rw h
  simp only[go_sem,Nat.reduceAdd,Nat.reduceSub,Nat.reduceMul,Nat.reduceBEq,Nat.reduceLT,Nat.reduceLeDiff,Nat.reduceEqDiff,Int.reduceToNat,Int.reduceLE,Int.reduceLT,Int.reduceAdd,Int.reduceSub,Int.reduceNeg,Int.reduceBEq,Int.reduceBNe,Nat.reduceBNe,Nat.reduceDiv,Nat.reduceMod,e1]
  refine QA Qe hb 200 mixed [(0,true),(1,false),(2,false),(3,true),(4,true),(5,true),(6,false)] (by kernel_rfl) (by kernel_rfl) ?_
  simp only[go_sem,Nat.reduceAdd,Nat.reduceSub,Nat.reduceMul,Nat.reduceBEq,Nat.reduceLT,Nat.reduceLeDiff,Nat.reduceEqDiff,Int.reduceToNat,Int.reduceLE,Int.reduceLT,Int.reduceAdd,Int.reduceSub,Int.reduceNeg,Int.reduceBEq,Int.reduceBNe,Nat.reduceBNe,Nat.reduceDiv,Nat.reduceMod]
  refine Zo hb mK rfl ?_ (oU 1 (by decide)) (Qm.flat rfl) rfl fun d h hR=>?_
  ·simp only[go_sem,Nat.reduceAdd,Nat.reduceSub,Nat.reduceMul,Nat.reduceBEq,Nat.reduceLT,Nat.reduceLeDiff,Nat.reduceEqDiff,Int.reduceToNat,Int.reduceLE,Int.reduceLT,Int.reduceAdd,Int.reduceSub,Int.reduceNeg,Int.reduceBEq,Int.reduceBNe,Nat.reduceBNe,Nat.reduceDiv,Nat.reduceMod,LZ]
  obtain ⟨rfl,rfl⟩:=hR
  refine QF hb ?_
  simp only[go_sem,Nat.reduceAdd,Nat.reduceSub,Nat.reduceMul,Nat.reduceBEq,Nat.reduceLT,Nat.reduceLeDiff,Nat.reduceEqDiff,Int.reduceToNat,Int.reduceLE,Int.reduceLT,Int.reduceAdd,Int.reduceSub,Int.reduceNeg,Int.reduceBEq,Int.reduceBNe,Nat.reduceBNe,Nat.reduceDiv,Nat.reduceMod,LZ]
  refine Zo hb Fw rfl ?_ (Ga (n / d) 1 (by omega) (by decide)) (Qm.flat rfl) rfl fun d h hR=>?_
  ·simp only[go_sem,Nat.reduceAdd,Nat.reduceSub,Nat.reduceMul,Nat.reduceBEq,Nat.reduceLT,Nat.reduceLeDiff,Nat.reduceEqDiff,Int.reduceToNat,Int.reduceLE,Int.reduceLT,Int.reduceAdd,Int.reduceSub,Int.reduceNeg,Int.reduceBEq,Int.reduceBNe,Nat.reduceBNe,Nat.reduceDiv,Nat.reduceMod,LZ]
  obtain ⟨rfl,rfl⟩:=hR
  refine QF hb ?_
  simp only[go_sem,Nat.reduceAdd,Nat.reduceSub,Nat.reduceMul,Nat.reduceBEq,Nat.reduceLT,Nat.reduceLeDiff,Nat.reduceEqDiff,Int.reduceToNat,Int.reduceLE,Int.reduceLT,Int.reduceAdd,Int.reduceSub,Int.reduceNeg,Int.reduceBEq,Int.reduceBNe,Nat.reduceBNe,Nat.reduceDiv,Nat.reduceMod,LZ]
  have e2:(n / d+1) % 2 ^ 128=cdiv n d:=by omega
  simp only[go_sem,Nat.reduceAdd,Nat.reduceSub,Nat.reduceMul,Nat.reduceBEq,Nat.reduceLT,Nat.reduceLeDiff,Nat.reduceEqDiff,Int.reduceToNat,Int.reduceLE,Int.reduceLT,Int.reduceAdd,Int.reduceSub,Int.reduceNeg,Int.reduceBEq,Int.reduceBNe,Nat.reduceBNe,Nat.reduceDiv,Nat.reduceMod,e2]
  refine QM hb mL rfl ?_ (oY (cdiv n d) (by omega)) (Qm.flat rfl) rfl fun d h hR=>?_
  ·simp only[go_sem,Nat.reduceAdd,Nat.reduceSub,Nat.reduceMul,Nat.reduceBEq,Nat.reduceLT,Nat.reduceLeDiff,Nat.reduceEqDiff,Int.reduceToNat,Int.reduceLE,Int.reduceLT,Int.reduceAdd,Int.reduceSub,Int.reduceNeg,Int.reduceBEq,Int.reduceBNe,Nat.reduceBNe,Nat.reduceDiv,Nat.reduceMod]
  obtain ⟨rfl,rfl⟩:=hR
  refine Qc hb ?_
  simp only[go_sem,Nat.reduceAdd,Nat.reduceSub,Nat.reduceMul,Nat.reduceBEq,Nat.reduceLT,Nat.reduceLeDiff,Nat.reduceEqDiff,Int.reduceToNat,Int.reduceLE,Int.reduceLT,Int.reduceAdd,Int.reduceSub,Int.reduceNeg,Int.reduceBEq,Int.reduceBNe,Nat.reduceBNe,Nat.reduceDiv,Nat.reduceMod]
def JR (a d b:Nat):Int:=if 4294967295<a∨4294967295<b∨1048576<d then 0 else if a=0∧b=0∧d=0 then 1 else if d=0∧a=b then 2 else if d=0 then 0 else if b<a then 3 else if a=0∧0<b then 4 else 0
@[go_sem] def Ry (a d b:Nat):D:=.agg [u64 a,u64 d,u64 b]
theorem Gd (a d b:Nat):Q7 Tryz.prog 182 [Ry a d b] (Qm (Qb (JR a d b))):=by
 refine Zk 0 Qe 200 Tryz.func182 rfl Tryz.ntmps182 Tryz.results182 rfl fun base w hb=>?_
 simp only[go_sem,Nat.reduceAdd,Nat.reduceSub,Nat.reduceMul,Nat.reduceBEq,Nat.reduceLT,Nat.reduceLeDiff,Nat.reduceEqDiff,Int.reduceToNat,Int.reduceLE,Int.reduceLT,Int.reduceAdd,Int.reduceSub,Int.reduceNeg,Int.reduceBEq,Int.reduceBNe,Nat.reduceBNe,Nat.reduceDiv,Nat.reduceMod]
 repeat' (first | ((first | refine Fc (fun h=>?_) (fun h=>?_) | refine Fe (fun h=>?_) (fun h=>?_) | refine Ff (fun h=>?_) (fun h=>?_) | refine jy (fun h=>?_) (fun h=>?_) | refine Fh (fun h=>?_) (fun h=>?_) | refine Fi (fun h=>?_) (fun h=>?_) | refine Fj (fun h=>?_) (fun h=>?_) | refine E7 (fun h=>?_) (fun h=>?_)) <;> (try simp only[go_sem,Nat.reduceAdd,Nat.reduceSub,Nat.reduceMul,Nat.reduceBEq,Nat.reduceLT,Nat.reduceLeDiff,Nat.reduceEqDiff,Int.reduceToNat,Int.reduceLE,Int.reduceLT,Int.reduceAdd,Int.reduceSub,Int.reduceNeg,Int.reduceBEq,Int.reduceBNe,Nat.reduceBNe,Nat.reduceDiv,Nat.reduceMod])) | (refine And.intro (by omega) ?_;try simp only[go_sem,Nat.reduceAdd,Nat.reduceSub,Nat.reduceMul,Nat.reduceBEq,Nat.reduceLT,Nat.reduceLeDiff,Nat.reduceEqDiff,Int.reduceToNat,Int.reduceLE,Int.reduceLT,Int.reduceAdd,Int.reduceSub,Int.reduceNeg,Int.reduceBEq,Int.reduceBNe,Nat.reduceBNe,Nat.reduceDiv,Nat.reduceMod]))
 all_goals (congr 2;(try simp only[Bool.and_eq_true,Bool.and_eq_false_iff,Bool.or_eq_true,Bool.or_eq_false_iff,beq_iff_eq,beq_eq_false_iff_ne,bne_iff_ne,bne_eq_false_iff_eq,decide_eq_true_eq,decide_eq_false_iff_not,ne_eq] at *);(try unfold JR);(repeat' split) <;> omega)
theorem Qlj (a d b:Nat):JR a d b=0∨JR a d b=1∨JR a d b=2∨JR a d b=3∨JR a d b=4:=by unfold JR;(repeat' split) <;> simp
theorem Rz {a d b:Nat} (h:JR a d b≠0):a≤4294967295∧b≤4294967295∧d≤1048576:=by unfold JR at h;split at h <;> omega
theorem RC (a d b:Nat):Q7 Tryz.prog 225 [Ry a d b] (Qm (QN (JR a d b != 0))):=by
 refine Zk 0 Qe 200 Tryz.func225 rfl Tryz.ntmps225 Tryz.results225 rfl fun base w hb=>?_
 simp only[go_sem,Nat.reduceAdd,Nat.reduceSub,Nat.reduceMul,Nat.reduceBEq,Nat.reduceLT,Nat.reduceLeDiff,Nat.reduceEqDiff,Int.reduceToNat,Int.reduceLE,Int.reduceLT,Int.reduceAdd,Int.reduceSub,Int.reduceNeg,Int.reduceBEq,Int.reduceBNe,Nat.reduceBNe,Nat.reduceDiv,Nat.reduceMod]
 refine QM hb wv rfl ?_ (Gd a d b) (Qm.flat rfl) rfl fun d h hR=>?_
 ·simp only[go_sem,Nat.reduceAdd,Nat.reduceSub,Nat.reduceMul,Nat.reduceBEq,Nat.reduceLT,Nat.reduceLeDiff,Nat.reduceEqDiff,Int.reduceToNat,Int.reduceLE,Int.reduceLT,Int.reduceAdd,Int.reduceSub,Int.reduceNeg,Int.reduceBEq,Int.reduceBNe,Nat.reduceBNe,Nat.reduceDiv,Nat.reduceMod]
 obtain ⟨rfl,rfl⟩:=hR
 refine Qc hb ?_
 simp only[go_sem,Nat.reduceAdd,Nat.reduceSub,Nat.reduceMul,Nat.reduceBEq,Nat.reduceLT,Nat.reduceLeDiff,Nat.reduceEqDiff,Int.reduceToNat,Int.reduceLE,Int.reduceLT,Int.reduceAdd,Int.reduceSub,Int.reduceNeg,Int.reduceBEq,Int.reduceBNe,Nat.reduceBNe,Nat.reduceDiv,Nat.reduceMod]
def qh (a d b t:Nat):Nat:=if JR a d b=0 then 0 else a*min t d+b*(t - min t d)
theorem Qlk (a d b t:Nat) (ht:t<18446744073709551616):qh a d b t<2 ^ 97:=by
 unfold qh
 split
 ·decide
 ·rename_i h
  obtain ⟨h1,h2,h3⟩:=Rz h
  have e1:a*min t d≤4294967295*1048576:=Nat.mul_le_mul h1 (by omega)
  have e2:b*(t - min t d)≤4294967295*18446744073709551615:=Nat.mul_le_mul h2 (by omega)
  exact Nat.lt_of_le_of_lt (Nat.add_le_add e1 e2) (by decide)
theorem yG (a b:Nat):(min (a:Int) (b:Int))=((min a b:Nat):Int):=by omega
theorem Qll (a d b t:Nat) (ht:t<18446744073709551616):Q7 Tryz.prog 275 [Ry a d b,u64 t] (Qm (num (qh a d b t))):=by
 refine Zk 0 Qe 200 Tryz.func275 rfl Tryz.ntmps275 Tryz.results275 rfl fun base w hb=>?_
 simp only[go_sem,Nat.reduceAdd,Nat.reduceSub,Nat.reduceMul,Nat.reduceBEq,Nat.reduceLT,Nat.reduceLeDiff,Nat.reduceEqDiff,Int.reduceToNat,Int.reduceLE,Int.reduceLT,Int.reduceAdd,Int.reduceSub,Int.reduceNeg,Int.reduceBEq,Int.reduceBNe,Nat.reduceBNe,Nat.reduceDiv,Nat.reduceMod]
 refine QM hb CD rfl ?_ (RC a d b) (Qm.flat rfl) rfl fun d h hR=>?_
 ·simp only[go_sem,Nat.reduceAdd,Nat.reduceSub,Nat.reduceMul,Nat.reduceBEq,Nat.reduceLT,Nat.reduceLeDiff,Nat.reduceEqDiff,Int.reduceToNat,Int.reduceLE,Int.reduceLT,Int.reduceAdd,Int.reduceSub,Int.reduceNeg,Int.reduceBEq,Int.reduceBNe,Nat.reduceBNe,Nat.reduceDiv,Nat.reduceMod]
 obtain ⟨rfl,rfl⟩:=hR
 refine Qc hb ?_
 simp only[go_sem,Nat.reduceAdd,Nat.reduceSub,Nat.reduceMul,Nat.reduceBEq,Nat.reduceLT,Nat.reduceLeDiff,Nat.reduceEqDiff,Int.reduceToNat,Int.reduceLE,Int.reduceLT,Int.reduceAdd,Int.reduceSub,Int.reduceNeg,Int.reduceBEq,Int.reduceBNe,Nat.reduceBNe,Nat.reduceDiv,Nat.reduceMod]
 by_cases h:JR a d b=0
 ·have e1:qh a d b t=0:=if_pos h
  have e2:(JR a d b != 0)=false:=by simp [h]
  simp only[go_sem,Nat.reduceAdd,Nat.reduceSub,Nat.reduceMul,Nat.reduceBEq,Nat.reduceLT,Nat.reduceLeDiff,Nat.reduceEqDiff,Int.reduceToNat,Int.reduceLE,Int.reduceLT,Int.reduceAdd,Int.reduceSub,Int.reduceNeg,Int.reduceBEq,Int.reduceBNe,Nat.reduceBNe,Nat.reduceDiv,Nat.reduceMod,e1,e2]
 ·have e1:qh a d b t=a*min t d+b*(t - min t d):=if_neg h
  have e2:(JR a d b != 0)=true:=by simp [h]
  obtain ⟨h1,h2,h3⟩:=Rz h
  have e3:=LD t (min t d) (by omega) ht
  have b1:a*min t d≤4294967295*1048576:=Nat.mul_le_mul h1 (by omega)
  have b2:b*(t - min t d)≤4294967295*18446744073709551615:=Nat.mul_le_mul h2 (by omega)
  simp only[go_sem,Nat.reduceAdd,Nat.reduceSub,Nat.reduceMul,Nat.reduceBEq,Nat.reduceLT,Nat.reduceLeDiff,Nat.reduceEqDiff,Int.reduceToNat,Int.reduceLE,Int.reduceLT,Int.reduceAdd,Int.reduceSub,Int.reduceNeg,Int.reduceBEq,Int.reduceBNe,Nat.reduceBNe,Nat.reduceDiv,Nat.reduceMod,e1,e2,yG,e3]
  refine QA Qe hb 200 mixed [(0,true),(1,true),(2,true),(4,true),(5,true),(6,true),(7,true),(8,true),(3,false),(9,false),(10,false),(11,true),(12,true),(13,true),(14,false),(15,false),(16,true)] (by kernel_rfl) (by kernel_rfl) ?_
  simp only[go_sem,Nat.reduceAdd,Nat.reduceSub,Nat.reduceMul,Nat.reduceBEq,Nat.reduceLT,Nat.reduceLeDiff,Nat.reduceEqDiff,Int.reduceToNat,Int.reduceLE,Int.reduceLT,Int.reduceAdd,Int.reduceSub,Int.reduceNeg,Int.reduceBEq,Int.reduceBNe,Nat.reduceBNe,Nat.reduceDiv,Nat.reduceMod,yG,e3]
  refine Zo hb jE rfl ?_ (jR a (min t d) (by omega) (by omega)) (Qm.flat rfl) rfl fun d h hR=>?_
  ·simp only[go_sem,Nat.reduceAdd,Nat.reduceSub,Nat.reduceMul,Nat.reduceBEq,Nat.reduceLT,Nat.reduceLeDiff,Nat.reduceEqDiff,Int.reduceToNat,Int.reduceLE,Int.reduceLT,Int.reduceAdd,Int.reduceSub,Int.reduceNeg,Int.reduceBEq,Int.reduceBNe,Nat.reduceBNe,Nat.reduceDiv,Nat.reduceMod,yG,e3]
  obtain ⟨rfl,rfl⟩:=hR
  refine QF hb ?_
  simp only[go_sem,Nat.reduceAdd,Nat.reduceSub,Nat.reduceMul,Nat.reduceBEq,Nat.reduceLT,Nat.reduceLeDiff,Nat.reduceEqDiff,Int.reduceToNat,Int.reduceLE,Int.reduceLT,Int.reduceAdd,Int.reduceSub,Int.reduceNeg,Int.reduceBEq,Int.reduceBNe,Nat.reduceBNe,Nat.reduceDiv,Nat.reduceMod,yG,e3]
  refine Zo hb jE rfl ?_ (jR b (t - min t d) (by omega) (by omega)) (Qm.flat rfl) rfl fun d h hR=>?_
  ·simp only[go_sem,Nat.reduceAdd,Nat.reduceSub,Nat.reduceMul,Nat.reduceBEq,Nat.reduceLT,Nat.reduceLeDiff,Nat.reduceEqDiff,Int.reduceToNat,Int.reduceLE,Int.reduceLT,Int.reduceAdd,Int.reduceSub,Int.reduceNeg,Int.reduceBEq,Int.reduceBNe,Nat.reduceBNe,Nat.reduceDiv,Nat.reduceMod,yG,e3]
  obtain ⟨rfl,rfl⟩:=hR
  refine QF hb ?_
  simp only[go_sem,Nat.reduceAdd,Nat.reduceSub,Nat.reduceMul,Nat.reduceBEq,Nat.reduceLT,Nat.reduceLeDiff,Nat.reduceEqDiff,Int.reduceToNat,Int.reduceLE,Int.reduceLT,Int.reduceAdd,Int.reduceSub,Int.reduceNeg,Int.reduceBEq,Int.reduceBNe,Nat.reduceBNe,Nat.reduceDiv,Nat.reduceMod,yG,e3]
  refine Zo hb Fw rfl ?_ (Ga (a*min t d) (b*(t - min t d)) (by omega) (by omega)) (Qm.flat rfl) rfl fun d h hR=>?_
  ·simp only[go_sem,Nat.reduceAdd,Nat.reduceSub,Nat.reduceMul,Nat.reduceBEq,Nat.reduceLT,Nat.reduceLeDiff,Nat.reduceEqDiff,Int.reduceToNat,Int.reduceLE,Int.reduceLT,Int.reduceAdd,Int.reduceSub,Int.reduceNeg,Int.reduceBEq,Int.reduceBNe,Nat.reduceBNe,Nat.reduceDiv,Nat.reduceMod,yG,e3]
  obtain ⟨rfl,rfl⟩:=hR
  refine QF hb ?_
  simp only[go_sem,Nat.reduceAdd,Nat.reduceSub,Nat.reduceMul,Nat.reduceBEq,Nat.reduceLT,Nat.reduceLeDiff,Nat.reduceEqDiff,Int.reduceToNat,Int.reduceLE,Int.reduceLT,Int.reduceAdd,Int.reduceSub,Int.reduceNeg,Int.reduceBEq,Int.reduceBNe,Nat.reduceBNe,Nat.reduceDiv,Nat.reduceMod,yG,e3]
  rw[Nat.mod_eq_of_lt (by omega)]
end Go.Fg.X
