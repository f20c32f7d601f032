/- Contracts and laws on the way to the statement. No conditions. -/
import Derived.Test.YtklmjinbhnoppaaGreatFgExec
import Derived.OrdersHeld
set_option maxRecDepth 100000
set_option maxHeartbeats 16000000
set_option linter.unusedVariables false
set_option linter.unusedSimpArgs false
set_option linter.unusedSectionVars false
namespace Go.Fg
open Go.RowKit (Below)
variable {Z:Nat→Prop}
mutual
def D.shift (k:Nat):D→D
 | .ref l g off len=>.ref (k+l) g off len
 | .ptr l g i j=>.ptr (k+l) g i j
 | .mref l g=>.mref (k+l) g
 | .clo f nf cs=>.clo f nf (qz k cs)
 | .agg cs=>.agg (qz k cs)
 | .tup cs=>.tup (qz k cs)
 | d=>d
def qz (k:Nat):List D→List D
 | []=>[]
 | c::cs=>c.shift k::qz k cs
end
def Ob.shift (k:Nat) (o:Ob):Ob:={ o with row:=fun i=>qz k (o.row i) }
theorem YS (k:Nat):∀ cs:List D,(qz k cs).length=cs.length
 | []=>rfl
 | _::cs=>by simp [qz,YS k cs]
theorem xY (k:Nat):∀ (cs:List D) (i:Nat),i<cs.length→nth (qz k cs) i=(nth cs i).shift k
 | [],i,h=>by simp at h
 | c::cs,0,_=>by simp [qz,nth]
 | c::cs,i+1,h=>by
  have:=xY k cs i (by simpa using h)
  simpa [qz,nth] using this
theorem Qv.join {Zc:Nat→Prop} {h h':List Ob} {pl Qg:List Pl} {w:World} (hl:pl.length=h.length) (hf:∀ b,free Zc Qg b→free Z (pl++Qg) b) {d:D} {v:Value} (r:Qv Zc h' Qg w d v) :
  Qv Z (h++h'.map (Ob.shift h.length)) (pl++Qg) w (d.shift h.length) v:=by
 have QY:∀ (l:Nat) (o:Ob),h'[l]? = some o→(h++h'.map (Ob.shift h.length))[h.length+l]? = some (o.shift h.length):=fun l o e=>by
  rw[List.getElem?_append_right (by omega)];simp [e]
 have QZ:∀ (l:Nat) (p:Pl),Qg[l]? = some p→(pl++Qg)[h.length+l]? = some p:=fun l p e=>by
  rw[List.getElem?_append_right (by omega),hl];simp [e]
 have ZY:∀ (d:D) (v:Value),Cl (free Zc Qg) w d v→Qv Z (h++h'.map (Ob.shift h.length)) (pl++Qg) w (d.shift h.length) v:=by
  intro d v hc
  have zo:=hc.mono (N':=free Z (pl++Qg)) (w':=w) (fun b hb _=>⟨hf b hb,rfl⟩)
  clear hc
  induction zo with
  | raw v=>exact .cl _ _ (.raw v)
  | undef v=>exact .cl _ _ (.undef v)
  | nil a=>exact .cl _ _ (.nil a)
  | imm sz n row a cap b o vs ha hl hs hc hr ih=>exact .cl _ _ (.imm sz n row a cap b o vs ha hl hs hc hr)
  | ip cells b o vs hc hr ih=>exact .cl _ _ (.ip cells b o vs hc hr)
  | clo f nf cs vs hl hr ih=>exact .clo f nf _ vs (by rw[YS];exact hl) (fun i hi=>by rw[YS] at hi;rw[xY _ _ _ hi];exact ih i hi)
  | agg cs vs hl hr ih=>exact .agg _ vs (by rw[YS];exact hl) (fun i hi=>by rw[YS] at hi;rw[xY _ _ _ hi];exact ih i hi)
  | tup cs vs hl hr ih=>exact .tup _ vs (by rw[YS];exact hl) (fun i hi=>by rw[YS] at hi;rw[xY _ _ _ hi];exact ih i hi)
 induction r with
 | cl d v hc=>exact ZY d v hc
 | ref l g off len o p a cap ho hp hk hg hs=>exact .ref _ g off len _ p a cap (QY l o ho) (QZ l p hp) hk hg hs
 | ptr l g i j o p a ho hp hk hg hs=>exact .ptr _ g i j _ p a (QY l o ho) (QZ l p hp) hk hg hs
 | mref l g o p b ho hp hk hg hs=>exact .mref _ g _ p b (QY l o ho) (QZ l p hp) hk hg hs
 | clo f nf cs vs hl hr ih=>exact .clo f nf _ vs (by rw[YS];exact hl) (fun i hi=>by rw[YS] at hi;rw[xY _ _ _ hi];exact ih i hi)
 | agg cs vs hl hr ih=>exact .agg _ vs (by rw[YS];exact hl) (fun i hi=>by rw[YS] at hi;rw[xY _ _ _ hi];exact ih i hi)
 | tup cs vs hl hr ih=>exact .tup _ vs (by rw[YS];exact hl) (fun i hi=>by rw[YS] at hi;rw[xY _ _ _ hi];exact ih i hi)
theorem Tr.join {base:Nat} {h h':List Ob} {pl Qg:List Pl} {w w':World} (R:QT Z base h pl w) (hb:Below w.heap.size w w') (ZU:∀ (l b q:Nat),Qg[l]? = some (some (b,q))→w.heap.size≤b) :
  Tr h pl w (h++h') (pl++Qg) w' where
 JI:=fun b VW Qd=>by
  refine ⟨fun l q e=>?_,hb.block b Qd⟩
  by_cases hl:l<pl.length
  ·rw[List.getElem?_append_left hl] at e;exact VW l q e
  ·rw[List.getElem?_append_right (by omega)] at e
   have:=ZU _ _ _ e;omega
 obj:=fun l o p ho hp=>⟨o,p,by rw[List.getElem?_append_left (Jr ho)];exact ho,by rw[List.getElem?_append_left (Kz hp)];exact hp,Nat.le_refl _,rfl,fun _=>⟨rfl,rfl⟩⟩
 shape:=fun l o o' b q ho Zb hg hp c el xE=>⟨c,by rw[hb.block b (R.lt hp).1];exact xE,rfl⟩
theorem QT.join {Zc:Nat→Prop} {base:Nat} {h h':List Ob} {pl Qg:List Pl} {w w':World} (R:QT Z base h pl w) (QI:base≤w.heap.size) (hb:Below w.heap.size w w') (R':QT Zc w.heap.size h' Qg w')
  (hf:∀ b,free Zc Qg b→free Z (pl++Qg) b) (ZU:∀ (l b q:Nat),Qg[l]? = some (some (b,q))→w.heap.size≤b):QT Z base (h++h'.map (Ob.shift h.length)) (pl++Qg) w':=by
 have T:=Tr.join (h':=h'.map (Ob.shift h.length)) R hb ZU
 refine ⟨by simp [R.len,R'.len],?_,?_,?_⟩
 ·intro l l' b q q' e1 e2
  by_cases h1:l<pl.length <;> by_cases h2:l'<pl.length
  ·rw[List.getElem?_append_left h1] at e1;rw[List.getElem?_append_left h2] at e2;exact R.inj _ _ _ _ _ e1 e2
  ·rw[List.getElem?_append_left h1] at e1;rw[List.getElem?_append_right (by omega)] at e2
   have:=(R.lt e1).1;have:=ZU _ _ _ e2;omega
  ·rw[List.getElem?_append_right (by omega)] at e1;rw[List.getElem?_append_left h2] at e2
   have:=(R.lt e2).1;have:=ZU _ _ _ e1;omega
  ·rw[List.getElem?_append_right (by omega)] at e1 e2
   have:=R'.inj _ _ _ _ _ e1 e2;omega
 ·intro l o ho hp
  by_cases h1:l<h.length
  ·rw[List.getElem?_append_left h1] at ho
   rw[List.getElem?_append_left (by rw[R.len];exact h1)] at hp
   exact R.JU l o ho hp
  ·rw[List.getElem?_append_right (by omega)] at ho
   rw[List.getElem?_append_right (by rw[R.len];omega),R.len] at hp
   simp only[List.getElem?_map,Option.map_eq_some_iff] at ho
   obtain ⟨o',Zb,rfl⟩:=ho
   exact R'.JU _ o' Zb hp
 ·intro l o b q ho hp
  by_cases h1:l<h.length
  ·rw[List.getElem?_append_left h1] at ho
   rw[List.getElem?_append_left (by rw[R.len];exact h1)] at hp
   obtain ⟨g1,x⟩:=R.at_ l o b q ho hp
   exact ⟨g1,x.to rfl rfl rfl (hb.block b (R.lt hp).1) (fun _ _=>rfl) fun i j v _ _ hr=>hr.tr T⟩
  ·rw[List.getElem?_append_right (by omega)] at ho
   rw[List.getElem?_append_right (by rw[R.len];omega),R.len] at hp
   simp only[List.getElem?_map,Option.map_eq_some_iff] at ho
   obtain ⟨o',Zb,rfl⟩:=ho
   obtain ⟨g1,x⟩:=R'.at_ _ o' b q Zb hp
   refine ⟨fun _=>by have:=ZU _ _ _ hp;omega,x.to rfl rfl rfl rfl (fun i _=>YS _ _) fun i j v hi hj hr=>?_⟩
   show Qv Z _ _ _ (nth (qz _ (o'.row i)) j) v
   rw[xY _ _ _ hj]
   exact hr.join R.len hf
def QG (P:Program) (f:FuncId) (F:List Ob) (args:List D) (R:D→List Ob→Prop):Prop:=
 ∀ (Z:Nat→Prop) (base:Nat) (w:World) (pl:List Pl) (vs:List Value),base≤w.heap.size→(∀ b,w.heap.size≤b→Z b)→QT Z base F pl w →
  vs.length=args.length→(∀ i,i<args.length→Qv Z F pl w (nth args i) (QJ vs i)) →
  Calls P f vs.toArray w fun e w'=>∃ v d h Qg,e=.returned v∧R d h∧QT Z base h Qg w'∧Qv Z h Qg w' d v∧Tr F pl w h Qg w'∧Below base w w'
theorem QG.mono {P:Program} {f:FuncId} {F:List Ob} {args:List D} {R R':D→List Ob→Prop} (h:QG P f F args R) (hr:∀ d h,R d h→R' d h):QG P f F args R':=fun Z base w pl vs h1 h2 h3 h4 h5=>
 (h Z base w pl vs h1 h2 h3 h4 h5).mono fun _ _ ⟨v,d,hh,Qg,k1,k2,k3⟩=>⟨v,d,hh,Qg,k1,hr _ _ k2,k3⟩
def Q7 (P:Program) (f:FuncId) (args:List D) (R:D→List Ob→Prop):Prop:=QG P f [] args R
theorem Q7.mono {P:Program} {f:FuncId} {args:List D} {R R':D→List Ob→Prop} (h:Q7 P f args R) (hr:∀ d h,R d h→R' d h):Q7 P f args R':=QG.mono h hr
def qA:List D→Nat→List (Nat × D)
 | [],_=>[]
 | d::r,i=>(i,d)::qA r (i+1)
theorem UT:∀ (args:List D) (i t:Nat),get (qA args i) t=if i≤t then nth args (t - i) else .undef
 | [],i,t=>by simp [qA,get,nth]
 | d::r,i,t=>by
  simp only[qA,get]
  by_cases h:i=t
  ·subst h;simp [nth]
  ·have:Nat.beq i t=false:=by rw[← Bool.not_eq_true,Nat.beq_eq];exact h
   rw[this]
   simp only[cond_false]
   rw[UT r (i+1) t]
   by_cases h2:i+1≤t
   ·rw[if_pos h2,if_pos (by omega)]
    obtain ⟨m,rfl⟩:∃ m,t=i+(m+1):=⟨t - i - 1,by omega⟩
    rw[show i+(m+1) - (i+1)=m by omega,show i+(m+1) - i=m+1 by omega]
    simp [nth]
   ·rw[if_neg h2,if_neg (by omega)]
def vZ (L:Zd) (s:St):List ResultVar→Option (Prop × List D)
 | []=>some (True,[])
 | .tmp t::r=>match vZ L s r with
  | some (p,ds)=>some (p,get s.fr t::ds)
  | none=>none
 | .cell a ty::r=>match Ab L s.h ty (get s.fr a),vZ L s r with
  | some (q,d),some (p,ds)=>some (q∧p,d::ds)
  | _,_=>none
def one:List D→D
 | [d]=>d
 | ds=>.tup ds
def xZ (L:Zd) (rs:List ResultVar) (R:D→List Ob→Prop):Exit→St→Prop
 | .normal,s | .ret,s=>match vZ L s rs with
  | some (p,ds)=>p∧R (one ds) s.h
  | none=>False
 | _,_=>False
def B4 (tmps:Array Value):ResultVar→Sem Value
 | .tmp t=>pure (tmps.getD t Go.undef)
 | .cell x t=>do loadVar t (← asAddr (tmps.getD x Go.undef))
theorem Om (fn:Func) (tmps:Array Value):results fn tmps=(do let vs ← fn.results.mapM (B4 tmps);pure (if h:vs.size=1 then vs[0] else .tuple vs)):=by
 unfold results
 congr 2
theorem On {P:Program} {L:Zd} (hL:Zr P L) {base nt:Nat} {s:St} {pl:List Pl} {a:Act} {w:World} (r:Rel Z base nt s pl a w):∀ (rs:List ResultVar) (p:Prop) (ds:List D),vZ L s rs=some (p,ds)→p →
  ∃ vs:List Value,vs.length=ds.length∧(∀ i,i<ds.length→Qv Z s.h pl w (nth ds i) (QJ vs i)) ∧
   (rs.mapM (B4 a.tmps)).run P w=.ok vs w
 | [],p,ds,h,_=>by simp [vZ] at h;obtain ⟨_,rfl⟩:=h;exact ⟨[],rfl,fun i hi=>by simp at hi,by simp⟩
 | .tmp t::rs,p,ds,h,hp=>by
  simp only[vZ] at h
  split at h
  ·rename_i q ds' hr
   simp only[Option.some.injEq,Prod.mk.injEq] at h
   obtain ⟨rfl,rfl⟩:=h
   obtain ⟨vs,h1,h2,h3⟩:=On hL r rs _ _ hr hp
   refine ⟨a.tmps.getD t Go.undef::vs,by simp [h1],fun i hi=>?_,by simp [List.mapM_cons,B4,h3]⟩
   cases i with
   | zero=>exact r.fr t
   | succ i=>have:=h2 i (by simpa using hi);simpa [nth,QJ] using this
  ·cases h
 | .cell x t::rs,p,ds,h,hp=>by
  simp only[vZ] at h
  split at h
  ·rename_i q d p' ds' hl hr
   simp only[Option.some.injEq,Prod.mk.injEq] at h
   obtain ⟨rfl,rfl⟩:=h
   obtain ⟨vs,h1,h2,h3⟩:=On hL r rs _ _ hr hp.2
   have ho := Uh (P := P) (base := base) (nt := nt) (s := s) (o := ⟨none, .load t (.tmp x), 0, "", #[], none⟩) hL (t := t) (x := .tmp x) rfl hl hp.1
   obtain ⟨v,hv,QS⟩:=ho Z pl a w r
   have QS:=QS w (fun _ _=>rfl)
   refine ⟨v::vs,by simp [h1],fun i hi=>?_,?_⟩
   ·cases i with
    | zero=>exact hv
    | succ i=>have:=h2 i (by simpa using hi);simpa [nth,QJ] using this
   ·have hx:=r.fr x
    have If:(B4 a.tmps (.cell x t)).run P w=.ok v w:=by
     simp only[execOp,Act.eval,Instr.loadAt,Sem.run_bind] at QS
     simp only[B4]
     have NQ:∃ ad,a.tmps.getD x Go.undef=.pointer (some ad):=by
      unfold Ab at hl
      split at hl
      ·cases hl
      ·split at hl
       ·rename_i hg;rw[hg] at hx;obtain ⟨_,_,ad,hv,_⟩:=vM hx;exact ⟨_,hv⟩
       ·rename_i hg;rw[hg] at hx;obtain ⟨_,_,_,hv,_⟩:=Aa hx;exact ⟨_,hv⟩
       ·cases hl
     obtain ⟨ad,Yj⟩:=NQ
     rw[Yj] at QS ⊢
     simp only[Instr.sureAddr,asAddr,Sem.run_bind,Sem.run_pure,Result.andThen_ok] at QS ⊢
     generalize (loadVar t ad).run P w=r1 at *
     cases r1 with
     | ok u w1=>simp only[Result.andThen_ok] at QS;cases QS;rfl
     | halt x w1=>simp only[Result.andThen_halt] at QS;cases QS
    simp [List.mapM_cons,If,h3]
  ·cases h
theorem Qbm {P:Program} {L:Zd} (hL:Zr P L) {f:FuncId} {fn:Func} {c:Code} (hf:P.funcs[f]? = some fn) (hb:fn.body=some c) {F:List Ob} {args:List D} {R:D→List Ob→Prop} (hn:args.length≤fn.ntmps)
  (h:∀ (base:Nat) (w:World) (pl:List Pl),base≤w.heap.size→pl.length=F.length→A P base fn.ntmps ⟨w,F,pl⟩ c (xZ L fn.results.toList R) ⟨qA args 0,F⟩):QG P f F args R:=by
 intro Z base w pl vs QI hZ hO hl hc
 refine calls_of_wp hf hb ?_
 have HJ:Rel Z base fn.ntmps ⟨qA args 0,F⟩ pl { tmps:=vs.toArray++Array.replicate (fn.ntmps - vs.toArray.size) Go.undef,defers:=[] } w:=by
  refine ⟨by simp;omega,rfl,fun t=>?_,hO⟩
  rw[UT]
  simp only[Nat.zero_le,if_true,Nat.sub_zero]
  by_cases ht:t<args.length
  ·have:=hc t ht
   have e:(vs.toArray++Array.replicate (fn.ntmps - vs.toArray.size) Go.undef).getD t Go.undef=QJ vs t:=by
    rw[Array.getD_eq_getD_getElem?,Array.getElem?_append_left (by simp;omega)]
    simp [QJ,List.getD_eq_getElem?_getD]
   rw[e]
   exact this
  ·have:nth args t=.undef:=by simp [nth,List.getD_eq_getElem?_getD,List.getElem?_eq_none (Nat.le_of_not_lt ht)]
   rw[this]
   exact .cl _ _ (.undef _)
 refine wp_mono (h base w pl QI hO.len _ trivial pl _ w HJ ⟨Below.refl _ _,Tr.refl _ _ _,Aq.start (w0:=⟨w,F,pl⟩) hO hZ⟩) fun e a' w' hh=>?_
 obtain ⟨s',Qg,hq,r',kv,hT,_⟩:=hh
 have fin:(match vZ L s' fn.results.toList with | some (p,ds)=>p∧R (one ds) s'.h | none=>False)→a'.defers=[]∧∃ v,(results fn a'.tmps).run P w'=.ok v w' ∧
   ∃ v1 d h Qg,Ending.returned v=.returned v1∧R d h∧QT Z base h Qg w'∧Qv Z h Qg w' d v1∧Tr F pl w h Qg w'∧Below base w w':=by
  intro hm
  split at hm
  ·rename_i p ds Qbn
   obtain ⟨KC,h1,h2,h3⟩:=On hL r' _ _ _ Qbn hm.1
   have QS:(fn.results.mapM (B4 a'.tmps)).run P w'=.ok KC.toArray w':=by
    rw[Array.mapM_eq_mapM_toList]
    simp only[Sem.run_map,h3,Result.andThen_ok]
   refine ⟨r'.defers,?_⟩
   have Zz:KC.toArray.size=KC.length:=by simp
   match ds,KC,h1,h2,QS,hm with
   | [d],[v],_,h2,QS,hm=>
    refine ⟨v,?_,v,d,s'.h,Qg,rfl,hm.2,r'.o,h2 0 (by simp),hT,kv⟩
    rw[Om];simp only[Sem.run_bind]
    rw[QS];simp
   | [],[],_,h2,QS,hm=>
    refine ⟨.tuple #[],?_,_,_,s'.h,Qg,rfl,hm.2,r'.o,.tup [] [] rfl (fun i hi=>by simp at hi),hT,kv⟩
    rw[Om];simp only[Sem.run_bind]
    rw[QS];simp
   | d::d2::ds,v::v2::vs,h1,h2,QS,hm=>
    refine ⟨.tuple (v::v2::vs).toArray,?_,_,_,s'.h,Qg,rfl,hm.2,r'.o,.tup _ _ h1 h2,hT,kv⟩
    rw[Om];simp only[Sem.run_bind]
    rw[QS];simp
   | [],_::_,h1,_,_,_=>simp at h1
   | [_],[],h1,_,_,_=>simp at h1
   | [_],_::_::_,h1,_,_,_=>simp at h1
   | _::_::_,[],h1,_,_,_=>simp at h1
   | _::_::_,[_],h1,_,_,_=>simp at h1
  ·exact hm.elim
 cases e with
 | normal=>exact fin hq
 | ret=>exact fin hq
 | exit id=>exact hq.elim
 | goto l=>exact hq.elim
 | panic ch=>exact hq.elim
 | outgrown=>exact hq.elim
end Go.Fg
namespace Go.Fg
open Go.RowKit (Below)
variable {Z:Nat→Prop}
def D.ky:D→Bool
 | .raw _ | .nil | .imm _ _ _ | .ip _=>true
 | _=>false
theorem B5 {h:List Ob} {pl:List Pl} {w:World} {d:D} {v:Value} (r:Qv Z h pl w d v) (hd:d.ky=true):Cl (free Z pl) w d v:=by
 cases r with
 | cl _ _ hc=>exact hc
 | _=>cases hd
def zy (f:D→Option (Prop × D)):List D→Option (Prop × List D)
 | []=>some (True,[])
 | d::r=>match f d,zy f r with
  | some (p,c),some (q,cs)=>some (p∧q,c::cs)
  | _,_=>none
def VF (h:List Ob):Nat→D→Option (Prop × D)
 | 0,.raw v=>some (True,.raw v)
 | 0,_=>none
 | n+1,d=>match d with
  | .raw v=>some (True,.raw v)
  | .nil=>some (True,.nil)
  | .imm z n r=>some (True,.imm z n r)
  | .ip c=>some (True,.ip c)
  | .ref l g off len=>match h[l]? with
   | some o=>some (g=o.gen∧off+len≤o.n∧∀ i,i<len→(o.row (off+i)).all D.ky=true,.imm o.sz len fun i=>o.row (off+i))
   | none=>none
  | .ptr l g i j=>match h[l]? with
   | some o=>match zy (VF h n) ((o.row i).drop j) with
    | some (p,cs)=>some (g=o.gen∧i<o.n∧j≤o.sz∧p,.ip cs)
    | none=>none
   | none=>none
  | .agg cs=>match zy (VF h n) cs with
   | some (p,Zs)=>some (p,.agg Zs)
   | none=>none
  | .clo f nf cs=>match zy (VF h n) cs with
   | some (p,Zs)=>some (p,.clo f nf Zs)
   | none=>none
  | _=>none
theorem EK {f:D→Option (Prop × D)} {C:D→Value→Prop} {r:D→Value→Prop} (hf:∀ d v p c,r d v→f d=some (p,c)→p→C c v):∀ (cs:List D) (vs:List Value) (p:Prop) (Zs:List D),vs.length=cs.length→(∀ i,i<cs.length→r (nth cs i) (QJ vs i)) →
  zy f cs=some (p,Zs)→p→Zs.length=cs.length∧∀ i,i<cs.length→C (nth Zs i) (QJ vs i)
 | [],vs,p,Zs,hl,hr,h,hp=>by simp [zy] at h;obtain ⟨_,rfl⟩:=h;exact ⟨rfl,fun i hi=>by simp at hi⟩
 | d::cs,[],p,Zs,hl,hr,h,hp=>by simp at hl
 | d::cs,v::vs,p,Zs,hl,hr,h,hp=>by
  simp only[zy] at h
  split at h
  ·rename_i p1 c q cs1 h1 h2
   simp only[Option.some.injEq,Prod.mk.injEq] at h
   obtain ⟨rfl,rfl⟩:=h
   obtain ⟨k1,k2⟩:=EK hf cs vs q cs1 (by simpa using hl) (fun i hi=>by have:=hr (i+1) (by simpa using hi);simpa [nth,QJ] using this) h2 hp.2
   refine ⟨by simp [k1],fun i hi=>?_⟩
   cases i with
   | zero=>exact hf d v p1 c (hr 0 (by simp)) h1 hp.1
   | succ i=>have:=k2 i (by simpa using hi);simpa [nth,QJ] using this
  ·cases h
theorem Ig {N:Nat→Prop} {base:Nat} {h:List Ob} {pl:List Pl} {w:World} (R:QT Z base h pl w) (Ih:∀ b,free Z pl b→N b) (EL:∀ l b q:Nat,pl[l]? = some (some (b,q))→N b):∀ (n:Nat) (d:D) (v:Value) (p:Prop) (c:D),Qv Z h pl w d v→VF h n d=some (p,c)→p→Cl N w c v
 | 0,d,v,p,c,r,e,hp=>by
  cases d <;> simp only[VF,reduceCtorEq,Option.some.injEq,Prod.mk.injEq] at e
  obtain ⟨_,rfl⟩:=e
  rw[ZC r];exact .raw _
 | n+1,d,v,p,c,r,e,hp=>by
  have top:∀ {d:D} {v:Value},Cl (free Z pl) w d v→Cl N w d v:=fun h=>h.mono fun b hb _=>⟨Ih b hb,rfl⟩
  cases d with
  | raw u=>simp only[VF,Option.some.injEq,Prod.mk.injEq] at e;obtain ⟨_,rfl⟩:=e;exact top (B5 r rfl)
  | nil=>simp only[VF,Option.some.injEq,Prod.mk.injEq] at e;obtain ⟨_,rfl⟩:=e;exact top (B5 r rfl)
  | imm z k row=>simp only[VF,Option.some.injEq,Prod.mk.injEq] at e;obtain ⟨_,rfl⟩:=e;exact top (B5 r rfl)
  | ip cs=>simp only[VF,Option.some.injEq,Prod.mk.injEq] at e;obtain ⟨_,rfl⟩:=e;exact top (B5 r rfl)
  | undef=>simp [VF] at e
  | tup cs=>simp [VF] at e
  | ref l g off len=>
   simp only[VF] at e
   split at e
   ·rename_i o ho
    simp only[Option.some.injEq,Prod.mk.injEq] at e
    obtain ⟨rfl,rfl⟩:=e
    obtain ⟨hg,hn,K9⟩:=hp
    obtain ⟨a,cap,vs,S⟩:=NS R r (p:=g=o.gen∧off+len≤o.n) (n:=len) (sz:=o.sz) (rows:=fun k=>o.row (off+k)) (by simp [Ew,ho]) ⟨hg,hn⟩
    have ko:∀ i j,i<len→j<o.sz→(nth (o.row (off+i)) j).ky=true:=fun i j hi hj=>by
     have h1:=K9 i hi
     rw[List.all_eq_true] at h1
     have h2:j<(o.row (off+i)).length:=by rw[S.len i hi];exact hj
     refine h1 _ ?_
     simp only[nth,List.getD_eq_getElem?_getD,List.getElem?_eq_getElem h2,Option.getD_some]
     exact List.getElem_mem h2
    obtain ⟨o',p',ad,Yl,hv,Zb,Zm,Zj,XH,KY⟩:=xF r
    rw[ho] at Zb;cases Zb
    have Oo:=S.v
    rw[hv] at Oo
    simp only[Value.slice.injEq,true_and] at Oo
    obtain ⟨rfl,rfl⟩:=Oo
    rw[hv]
    rcases KY hg with ⟨h1,h2⟩ | ⟨b,q,c,el,Kb,Yj,hb,hc,hl⟩
    ·subst h1
     exact .imm _ _ _ _ _ 0 0 (fun _ _=>Go.undef) (fun h=>by omega) (by omega) (fun i hi=>by omega) (fun i j hi=>by omega) (fun i j hi=>by omega)
    ·refine .imm _ _ _ _ _ b (q+off*o.sz) vs (fun _=>Yj) hl S.len (fun i j hi hj=>⟨EL l b q (by rw[Zm,Kb]),?_⟩) (fun i j hi hj=>?_)
     ·obtain ⟨b1,q1,hh,BW⟩:=S.cell i j hi hj
      rw[Yj] at hh
      simp only[Option.some.injEq,Addr.mk.injEq,and_true] at hh
      obtain ⟨rfl,rfl⟩:=hh
      exact BW
     ·exact top (B5 (S.rel i j hi hj) (ko i j hi hj))
   ·cases e
  | mref l g=>simp [VF] at e
  | ptr l g i j=>
   simp only[VF] at e
   split at e
   ·rename_i o ho
    split at e
    ·rename_i q cs ZO
     simp only[Option.some.injEq,Prod.mk.injEq] at e
     obtain ⟨rfl,rfl⟩:=e
     obtain ⟨hg,hi,hj,hq⟩:=hp
     obtain ⟨o',p',ad,hv,Zb,Zm,Zj,XH,KY⟩:=vM r
     rw[ho] at Zb;cases Zb
     obtain ⟨b,q0,rfl,rfl⟩:=KY hg
     obtain ⟨QI,xx⟩:=R.at_ l o b q0 ho Zm
     obtain ⟨c,el,hb,Ad,Z5,ZN⟩:=xx.cells Zj
     have hlen:((o.row i).drop j).length=o.sz - j:=by rw[List.length_drop,Z5 i hi]
     let vs:List Value:=(List.range (o.sz - j)).map fun k=>(c[q0+(i*o.sz+(j+k))]?).getD Go.undef
     have UU:∀ k,k<o.sz - j→QJ vs k=(c[q0+(i*o.sz+(j+k))]?).getD Go.undef:=fun k hk=>by simp [vs,QJ,List.getD_eq_getElem?_getD,hk]
     obtain ⟨k1,k2⟩:=EK (r:=fun d v=>Qv Z h pl w d v) (C:=fun d v=>Cl N w d v) (fun d v p c hr he hp=>Ig R Ih EL n d v p c hr he hp) _ vs q cs (by simp [vs,hlen]) (fun k hk=>by
      rw[hlen] at hk
      obtain ⟨u,hu,hr⟩:=ZN i (j+k) hi (by omega)
      rw[xI,UU k hk,hu];exact hr) ZO hq
     rw[hv]
     rw[hlen] at k1 k2
     refine .ip _ b _ (fun k=>QJ vs k) (fun k hk=>⟨EL l b q0 Zm,?_⟩) (fun k hk=>k2 k (by omega))
     rw[k1] at hk
     obtain ⟨u,hu,hr⟩:=ZN i (j+k) hi (by omega)
     rw[cell_of_row w b _ c el (0,0) hb,UU k hk,hu,Option.getD_some,show q0+(i*o.sz+j)+k=q0+(i*o.sz+(j+k)) by omega,hu]
    ·cases e
   ·cases e
  | agg cs=>
   simp only[VF] at e
   split at e
   ·rename_i q Zs ZO
    simp only[Option.some.injEq,Prod.mk.injEq] at e
    obtain ⟨rfl,rfl⟩:=e
    obtain ⟨vs,rfl,hl,hr⟩:=BP r
    obtain ⟨k1,k2⟩:=EK (r:=fun d v=>Qv Z h pl w d v) (C:=fun d v=>Cl N w d v) (fun d v p c hr he hp=>Ig R Ih EL n d v p c hr he hp) cs vs _ Zs hl hr ZO hp
    exact .agg _ _ (by omega) (fun i hi=>k2 i (by omega))
   ·cases e
  | clo f nf cs=>
   simp only[VF] at e
   split at e
   ·rename_i q Zs ZO
    simp only[Option.some.injEq,Prod.mk.injEq] at e
    obtain ⟨rfl,rfl⟩:=e
    obtain ⟨vs,rfl,hl,hr⟩:=NH r
    obtain ⟨k1,k2⟩:=EK (r:=fun d v=>Qv Z h pl w d v) (C:=fun d v=>Cl N w d v) (fun d v p c hr he hp=>Ig R Ih EL n d v p c hr he hp) cs vs _ Zs hl hr ZO hp
    exact .clo _ _ _ _ (by omega) (fun i hi=>k2 i (by omega))
   ·cases e
theorem Qbp {base:Nat} {h:List Ob} {pl:List Pl} {w:World} (R:QT Z base h pl w) (n:Nat) (d:D) (v:Value) (p:Prop) (c:D) (r:Qv Z h pl w d v) (e:VF h n d=some (p,c)) (hp:p):Cl (fun _=>True) w c v:=
 Ig R (fun _ _=>trivial) (fun _ _ _ _=>trivial) n d v p c r e hp
mutual
def D.flat:D→Bool
 | .raw _ | .nil | .ref _ _ _ _ | .ptr _ _ _ _ | .mref _ _=>true
 | .agg cs=>ju cs
 | .tup cs=>ju cs
 | .clo _ _ cs=>ju cs
 | _=>false
def ju:List D→Bool
 | []=>true
 | d::r=>d.flat && ju r
end
theorem x4:∀ {cs:List D},ju cs=true→∀ i,i<cs.length→(nth cs i).flat=true
 | [],_,i,h=>by simp at h
 | d::r,hf,i,h=>by
  simp only[ju,Bool.and_eq_true] at hf
  cases i with
  | zero=>exact hf.1
  | succ i=>have:=x4 hf.2 i (by simpa using h);simpa [nth] using this
theorem Qv.Ii {Z':Nat→Prop} {h:List Ob} {pl:List Pl} {w:World} {d:D} {v:Value} (r:Qv Z h pl w d v) (hf:d.flat=true):Qv Z' h pl w d v:=by
 induction r with
 | cl d v hc=>
  have:∀ {d:D} {v:Value},Cl (free Z pl) w d v→d.flat=true→Qv Z' h pl w d v:=by
   intro d v hc
   induction hc with
   | raw v=>exact fun _=>.cl _ _ (.raw v)
   | undef v=>intro hf;simp [D.flat] at hf
   | nil a=>exact fun _=>.cl _ _ (.nil a)
   | imm=>intro hf;simp [D.flat] at hf
   | ip=>intro hf;simp [D.flat] at hf
   | clo f nf cs vs hl hr ih=>exact fun hf=>.clo f nf cs vs hl fun i hi=>ih i hi (x4 (by simpa [D.flat] using hf) i hi)
   | agg cs vs hl hr ih=>exact fun hf=>.agg cs vs hl fun i hi=>ih i hi (x4 (by simpa [D.flat] using hf) i hi)
   | tup cs vs hl hr ih=>exact fun hf=>.tup cs vs hl fun i hi=>ih i hi (x4 (by simpa [D.flat] using hf) i hi)
  exact this hc hf
 | ref l g off len o p a cap ho hp hk hg hs=>exact .ref l g off len o p a cap ho hp hk hg hs
 | ptr l g i j o p a ho hp hk hg hs=>exact .ptr l g i j o p a ho hp hk hg hs
 | mref l g o p b ho hp hk hg hs=>exact .mref l g o p b ho hp hk hg hs
 | clo f nf cs vs hl hr ih=>exact .clo f nf cs vs hl fun i hi=>ih i hi (x4 (by simpa [D.flat] using hf) i hi)
 | agg cs vs hl hr ih=>exact .agg cs vs hl fun i hi=>ih i hi (x4 (by simpa [D.flat] using hf) i hi)
 | tup cs vs hl hr ih=>exact .tup cs vs hl fun i hi=>ih i hi (x4 (by simpa [D.flat] using hf) i hi)
def Ob.flat (o:Ob):Prop:=∀ i,i<o.n→ju (o.row i)=true
theorem QT.Ii {Z':Nat→Prop} {base:Nat} {h:List Ob} {pl:List Pl} {w:World} (R:QT Z base h pl w) (hf:∀ o∈h,o.flat):QT Z' base h pl w where
 len:=R.len
 inj:=R.inj
 JU:=R.JU
 at_:=fun l o b q ho hp=>by
  obtain ⟨h1,x⟩:=R.at_ l o b q ho hp
  exact ⟨h1,x.to rfl rfl rfl rfl (fun _ _=>rfl) fun i j v hi hj hr=>hr.Ii (x4 (hf o (List.mem_of_getElem? ho) i hi) j hj)⟩
def Qo (P:Program) (f:FuncId):Prop:=∀ (args:Array Value) (w:World),(callFunc f args).run P w=.ok (.enter f args) w
def J6:D→Option (FuncId × Nat × List D)
 | .raw (.func (.func f) ⟨[]⟩ ⟨[]⟩)=>some (f,0,[])
 | .clo f nf cs=>some (f,nf,cs)
 | _=>none
section
variable {P:Program} {base nt:Nat} {w0:Start} {Q:Exit→St→Prop}
theorem EM {h:List Ob} {pl:List Pl} {w:World} {d:D} {v:Value} {f:FuncId} {nf:Nat} {QB:List D} (r:Qv Z h pl w d v) (e:J6 d=some (f,nf,QB)) :
  ∃ vs:List Value,v=.func (.func f) (vs.take nf).toArray (vs.drop nf).toArray∧vs.length=QB.length∧∀ i,i<QB.length→Qv Z h pl w (nth QB i) (QJ vs i):=by
 unfold J6 at e
 split at e
 ·simp only[Option.some.injEq,Prod.mk.injEq] at e
  obtain ⟨rfl,rfl,rfl⟩:=e
  exact ⟨[],ZC r,rfl,fun i hi=>by simp at hi⟩
 ·simp only[Option.some.injEq,Prod.mk.injEq] at e
  obtain ⟨rfl,rfl,rfl⟩:=e
  exact NH r
 ·cases e
def Z6 {α:Type} (nf:Nat) (QB args:List α):List α:=QB.take nf++(args++QB.drop nf)
theorem EN {r:D→Value→Prop} {nf:Nat} {QB args:List D} {vs us:List Value} (h1:vs.length=QB.length) (h2:∀ i,i<QB.length→r (nth QB i) (QJ vs i)) (k1:us.length=args.length) (k2:∀ i,i<args.length→r (nth args i) (QJ us i)) :
  (Z6 nf vs us).length=(Z6 nf QB args).length∧∀ i,i<(Z6 nf QB args).length→r (nth (Z6 nf QB args) i) (QJ (Z6 nf vs us) i):=by
 refine ⟨by simp [Z6,h1,k1],fun i hi=>?_⟩
 have hl:(vs.take nf).length=(QB.take nf).length:=by simp [h1]
 simp only[Z6,nth,QJ,List.getD_eq_getElem?_getD]
 by_cases c1:i<(QB.take nf).length
 ·rw[List.getElem?_append_left (l₁:=QB.take nf) c1,List.getElem?_append_left (l₁:=vs.take nf) (by omega)]
  have c2:i<nf∧i<QB.length:=by simp at c1;omega
  rw[List.getElem?_take,List.getElem?_take,if_pos c2.1,if_pos c2.1]
  exact h2 i c2.2
 ·rw[List.getElem?_append_right (l₁:=QB.take nf) (by omega),List.getElem?_append_right (l₁:=vs.take nf) (by omega),hl]
  by_cases c2:i - (QB.take nf).length<args.length
  ·rw[List.getElem?_append_left (l₁:=args) c2,List.getElem?_append_left (l₁:=us) (by omega)]
   exact k2 _ c2
  ·rw[List.getElem?_append_right (l₁:=args) (by omega),List.getElem?_append_right (l₁:=us) (by omega),k1]
   rw[List.getElem?_drop,List.getElem?_drop]
   refine h2 _ ?_
   simp only[Z6,List.length_append,List.length_take,List.length_drop] at hi c1 c2 ⊢;omega
theorem EO {o:Oper} {a:Act} {x:Operand} {args:Array Operand} {ZX:Array TypeId} {f:FuncId} {nf:Nat} {vs:List Value} (hf:Qo P f) (ho:o.op=.call ⟨.value x,args,ZX⟩) (hx:a.eval x=.func (.func f) (vs.take nf).toArray (vs.drop nf).toArray) (w:World) :
  (execOp a.eval o).run P w=.ok (.enter f (Z6 nf vs (args.toList.map a.eval)).toArray) w:=by
 have e:(Z6 nf vs (args.toList.map a.eval)).toArray=(vs.take nf).toArray++args.map a.eval++(vs.drop nf).toArray:=by apply Array.ext';simp [Z6]
 rw[e]
 simp [execOp,ho,resolve,hx,Deferred.ofValue,invoke,hf _ w]
theorem UW (QI:base≤w0.w.heap.size) {o:Oper} {s:St} {x:Operand} {args:Array Operand} {ZX:Array TypeId} {f:FuncId} {nf:Nat} {QB:List D} (hf:Qo P f) (ho:o.op=.call ⟨.value x,args,ZX⟩)
  (hx:J6 (Qp s.fr x)=some (f,nf,QB)) {n:Nat} {p:Prop} {cs:List D} (ZO:zy (VF s.h n) (Z6 nf QB (args.toList.map (Qp s.fr)))=some (p,cs)) (hp:p) {R:D→List Ob→Prop} (hF:Q7 P f cs R)
  (Ar:∀ d h,R d h→d.flat=true∧∀ o∈h,o.flat) (ht:Zi nt o.dst=true) (pl:List Pl) (a:Act) (w:World) (r:Rel Z base nt s pl a w) (b:Jw Z base w0 s.h pl w) (Q':Exit→Act→World→Prop) :
  o.wp P a w (fun a' w'=>Ext w w'∧∃ d h Qg,R d h∧Rel Z base nt ⟨Q8 s.fr o.dst (d.shift s.h.length),s.h++h.map (Ob.shift s.h.length)⟩ Qg a' w'∧Jw Z base w0 (s.h++h.map (Ob.shift s.h.length)) Qg w'∧Tr s.h pl w (s.h++h.map (Ob.shift s.h.length)) Qg w'∧∃ v,a'=a.put o.dst v) Q':=by
 obtain ⟨vs,hv,Yp,v7⟩:=EM (r.eval x) hx
 have WB:base≤w.heap.size:=Nat.le_trans QI b.1.size
 obtain ⟨q1,q2⟩:=EN (r:=fun d v=>Qv Z s.h pl w d v) (nf:=nf) Yp v7 (us:=args.toList.map a.eval) (args:=args.toList.map (Qp s.fr)) (by simp) (fun i hi=>by
  have ZE:i<args.toList.length:=by simpa using hi
  simp only[nth,QJ,List.getD_eq_getElem?_getD,List.getElem?_map]
  rw[List.getElem?_eq_getElem ZE]
  exact r.eval _)
 obtain ⟨k1,k2⟩:=EK (r:=fun d v=>Qv Z s.h pl w d v) (C:=fun d v=>Cl (fun _=>True) w d v) (fun d v p c hr he hp=>Qbp r.o n d v p c hr he hp) _ (Z6 nf vs (args.toList.map a.eval)) p cs q1 q2 ZO hp
 have hc:=hF (fun _=>True) w.heap.size w [] (Z6 nf vs (args.toList.map a.eval)) (Nat.le_refl _) (fun _ _=>trivial) ⟨rfl,fun l l' b q q' e=>by simp at e,fun l o e=>by simp at e,fun l o b q e=>by simp at e⟩ (by omega) (fun i hi=>.cl _ _ ((k2 i (by omega)).mono fun b _ _=>⟨⟨trivial,fun l q e=>by simp at e⟩,rfl⟩))
 unfold Oper.wp
 rw[EO hf ho hv w]
 simp only[Oper.upon_enter]
 refine hc.mono fun e w' he=>?_
 obtain ⟨v,d,h',Qg,rfl,hR,hO,hV,Oq,hB⟩:=he
 obtain ⟨f1,f2⟩:=Ar d h' hR
 have hO':=hO.Ii (Z':=fun _=>False) f2
 have hV':=hV.Ii (Z':=fun _=>False) f1
 have VW:∀ b,free (fun _=>False) Qg b→free Z (pl++Qg) b:=fun b hb=>hb.1.elim
 have ZU:∀ (l b q:Nat),Qg[l]? = some (some (b,q))→w.heap.size≤b:=fun l b q e=>by
  rcases Nat.lt_or_ge b w.heap.size with Qd | vX
  ·exact absurd e ((Oq.JI b (fun l q e=>by simp at e) Qd).1 l q)
  ·exact vX
 have T:=Tr.join (h':=h'.map (Ob.shift s.h.length)) r.o hB ZU
 have As:=QT.join r.o WB hB hO' VW ZU
 refine ⟨fun i hi=>hB.block i hi,d,h',pl++Qg,hR,?_,b.step T (hB.mono WB),T,v,rfl⟩
 cases hd:o.dst with
 | none=>exact r.zd T As v
 | some t=>rw[hd] at ht;exact r.to T As (Yo ht) (hV'.join r.o.len VW)
theorem Qbs (QI:base≤w0.w.heap.size) {o:Oper} {rest:List (Oper × G)} {s:St} {x:Operand} {args:Array Operand} {ZX:Array TypeId} {f:FuncId} {nf:Nat} {QB:List D} (hf:Qo P f) (ho:o.op=.call ⟨.value x,args,ZX⟩)
  (hx:J6 (Qp s.fr x)=some (f,nf,QB)) {n:Nat} {p:Prop} {cs:List D} (ZO:zy (VF s.h n) (Z6 nf QB (args.toList.map (Qp s.fr)))=some (p,cs)) (hp:p) {R:D→List Ob→Prop} (hF:Q7 P f cs R)
  (Ar:∀ d h,R d h→d.flat=true∧∀ o∈h,o.flat) (ht:Zi nt o.dst=true) (hk:∀ d h,R d h→AG P base nt w0 rest Q ⟨Q8 s.fr o.dst (d.shift s.h.length),s.h++h.map (Ob.shift s.h.length)⟩):AG P base nt w0 ((o,none)::rest) Q s:=by
 intro Z z pl a w r b
 simp only[Wb,K0,if_true]
 exact Oper.wp_mono (fun a' w' ⟨_,d,h,Qg,hR,r',b',_⟩=>hk d h hR Z z Qg a' w' r' b') (UW QI hf ho hx ZO hp hF Ar ht pl a w r b _)
def kz (m:Nat) (h:List Ob) (pl:List Pl) (h':List Ob) (Qg:List Pl):Prop:=
 (∀ b,KX pl b→KX Qg b)∧∀ (l:Nat) (o:Ob) (p:Pl),l<m→h[l]? = some o→pl[l]? = some p→∃ o',h'[l]? = some o'∧Qg[l]? = some p∧o'.gen=o.gen∧o'.sz=o.sz∧o'.kd.ty=o.kd.ty
theorem kz.refl (m:Nat) (h:List Ob) (pl:List Pl):kz m h pl h pl:=⟨fun _ h=>h,fun _ o p _ ho hp=>⟨o,ho,hp,rfl,rfl,rfl⟩⟩
theorem kz.trans {m:Nat} {h h' Xf:List Ob} {pl Qg y5:List Pl} (a:kz m h pl h' Qg) (b:kz m h' Qg Xf y5):kz m h pl Xf y5:=
 ⟨fun x hx=>b.1 x (a.1 x hx),fun l o p hl ho hp=>by
  obtain ⟨o1,h1,h2,h3,h4,h5⟩:=a.2 l o p hl ho hp
  obtain ⟨o2,k1,k2,k3,k4,k5⟩:=b.2 l o1 p hl h1 h2
  exact ⟨o2,k1,k2,by rw[k3,h3],by rw[k4,h4],by rw[k5,h5]⟩⟩
theorem Tr.keep {F h h':List Ob} {UX pl Qg:List Pl} {w0 w:World} {m:Nat} (T:Tr F UX w0 h pl w) (hm:F.length≤m) (K:kz m h pl h' Qg):Tr F UX w0 h' Qg w where
 JI:=fun b hb Qd=>⟨K.1 b (T.JI b hb Qd).1,(T.JI b hb Qd).2⟩
 obj:=fun l o p ho hp=>by
  obtain ⟨o1,p1,h1,h2,h3,h4,h5⟩:=T.obj l o p ho hp
  obtain ⟨o2,k1,k2,k3,k4,k5⟩:=K.2 l o1 p1 (Nat.lt_of_lt_of_le (Jr ho) hm) h1 h2
  exact ⟨o2,p1,k1,k2,by omega,by rw[k5,h4],fun e=>by obtain ⟨x,y⟩:=h5 (by omega);exact ⟨by rw[k4,x],y⟩⟩
 shape:=fun l o Hl b q ho BO hg hp c el hb=>by
  obtain ⟨o1,p1,h1,h2,h3,h4,h5⟩:=T.obj l o _ ho hp
  obtain ⟨o2,k1,k2,k3,k4,k5⟩:=K.2 l o1 p1 (Nat.lt_of_lt_of_le (Jr ho) hm) h1 h2
  rw[BO] at k1;cases k1
  exact T.shape l o o1 b q ho h1 (by omega) hp c el hb
def Wk (m:Nat) (s s':St):Prop:=∀ (Z:Nat→Prop) (base nt:Nat) pl a w,Rel Z base nt s pl a w→∃ Qg,Rel Z base nt s' Qg a w∧kz m s.h pl s'.h Qg
theorem Wk.refl {m:Nat} (s:St):Wk m s s:=fun _ _ _ pl _ _ r=>⟨pl,r,.refl _ _ _⟩
theorem Wk.trans {m:Nat} {s s' Au:St} (h:Wk m s s') (k:Wk m s' Au):Wk m s Au:=fun Z b n pl a w r=>
 let ⟨Qg,r',K⟩:=h Z b n pl a w r
 let ⟨y5,r'',K'⟩:=k Z b n Qg a w r'
 ⟨y5,r'',K.trans K'⟩
theorem Jw.keep {h h':List Ob} {pl Qg:List Pl} {w:World} (b:Jw Z base w0 h pl w) (K:kz w0.F.length h pl h' Qg):Jw Z base w0 h' Qg w:=⟨b.1,b.2.1.keep (Nat.le_refl _) K,b.2.2.new,fun l b' q e h0=>by
 by_cases ha:KX pl b'
 ·exact absurd e (K.1 b' ha l q)
 ·obtain ⟨l1,h1⟩:=Classical.not_forall.1 ha
  obtain ⟨q1,h2⟩:=Classical.not_forall.1 h1
  exact b.2.2.own l1 b' q1 (Classical.not_not.1 h2) h0⟩
def Ql (w0:Start) (s s':St):Prop:=∀ (Z:Nat→Prop),EG w0 Z→∀ (base nt:Nat) pl a w,Rel Z base nt s pl a w→Jw Z base w0 s.h pl w→∃ Qg,Rel Z base nt s' Qg a w∧Jw Z base w0 s'.h Qg w
theorem Wk.up {s s':St} (h:Wk w0.F.length s s'):Ql w0 s s':=fun Z _ base nt pl a w r b=>let ⟨Qg,r',K⟩:=h Z base nt pl a w r;⟨Qg,r',b.keep K⟩
theorem Ql.refl (s:St):Ql w0 s s:=fun _ _ _ _ pl _ _ r b=>⟨pl,r,b⟩
theorem Ql.trans {s s' Au:St} (h:Ql w0 s s') (k:Ql w0 s' Au):Ql w0 s Au:=fun Z z bs n pl a w r b=>
 let ⟨Qg,r',b'⟩:=h Z z bs n pl a w r b
 k Z z bs n Qg a w r' b'
theorem A.Ij {c:Code} {s s':St} (h:Ql w0 s s') (k:A P base nt w0 c Q s'):A P base nt w0 c Q s:=fun Z z pl a w r b=>let ⟨Qg,r',b'⟩:=h Z z base nt pl a w r b;k Z z Qg a w r' b'
theorem AG.Ij {l:List (Oper × G)} {s s':St} (h:Ql w0 s s') (k:AG P base nt w0 l Q s'):AG P base nt w0 l Q s:=fun Z z pl a w r b=>let ⟨Qg,r',b'⟩:=h Z z base nt pl a w r b;k Z z Qg a w r' b'
theorem x5 {c:Code} {k:List Item} {s s':St} (h:Ql w0 s s') (hk:Qs P base nt w0 Q (.code c::k) .normal s'):Qs P base nt w0 Q (.code c::k) .normal s:=by
 simp only[Qs] at hk ⊢;exact hk.Ij h
def Av (fr:List (Nat × D)):List (Nat × D)→Prop
 | []=>True
 | (t,d)::r=>get fr t=d∧Av fr r
theorem UY {fr:List (Nat × D)}:∀ {r:List (Nat × D)},Av fr r→∀ t d,(t,d)∈r→get fr t=d
 | [],_,_,_,h=>by cases h
 | (u,e)::r,h,t,d,hm=>by
  rcases List.mem_cons.1 hm with h1 | h1
  ·cases h1;exact h.1
  ·exact UY h.2 t d h1
theorem UZ (fr:List (Nat × D)) (u:Nat):get fr u=.undef∨(u,get fr u)∈fr:=by
 induction fr with
 | nil=>exact .inl rfl
 | cons x r ih=>
  obtain ⟨t,d⟩:=x
  simp only[get]
  by_cases h:t=u
  ·subst h;simp
  ·have:Nat.beq t u=false:=by rw[← Bool.not_eq_true,Nat.beq_eq];exact h
   rw[this]
   rcases ih with ih | ih
   ·exact .inl (by simpa using ih)
   ·exact .inr (by simp [ih])
theorem Wk.frame {m:Nat} {fr fr':List (Nat × D)} {h:List Ob} (hf:Av fr fr'):Wk m ⟨fr,h⟩ ⟨fr',h⟩:=fun Z base nt pl a w r=>
 ⟨pl,⟨r.nt,r.defers,fun t=>by
  rcases UZ fr' t with h1 | h1
  ·show Qv Z h pl w (get fr' t) _
   rw[h1];exact .cl _ _ (.undef _)
  ·have:=UY hf _ _ h1
   show Qv Z h pl w (get fr' t) _
   rw[← this];exact r.fr t,r.o⟩,.refl _ _ _⟩
def Kd.EP (k k':Kd):Prop:=k.ty=k'.ty∧k.ro=k'.ro
def B6 (o o':Ob):Prop:=o'.gen=o.gen∧o'.sz=o.sz∧o'.n=o.n∧o'.kd.EP o.kd∧∀ i,i<o.n→o'.row i=o.row i
def jv:List Ob→List Ob→Prop
 | [],[]=>True
 | o::r,o'::r'=>B6 o o'∧jv r r'
 | _,_=>False
theorem Il:∀ {h h':List Ob},jv h h'→h'.length=h.length∧∀ (l:Nat) (o':Ob),h'[l]? = some o'→∃ o,h[l]? = some o∧B6 o o'
 | [],[],_=>⟨rfl,fun l o' e=>by simp at e⟩
 | [],_::_,h=>h.elim
 | _::_,[],h=>h.elim
 | o::r,o'::r',h=>by
  obtain ⟨h1,h2⟩:=Il h.2
  refine ⟨by simp [h1],fun l u e=>?_⟩
  cases l with
  | zero=>simp at e;subst e;exact ⟨o,rfl,h.1⟩
  | succ l=>simp at e;obtain ⟨v,h3,h4⟩:=h2 l u e;exact ⟨v,by simpa using h3,h4⟩
theorem Qv.x6 {h h':List Ob} {pl:List Pl} {w:World} (hl:jv h h') {d:D} {v:Value} (r:Qv Z h pl w d v):Qv Z h' pl w d v:=by
 obtain ⟨h1,h2⟩:=Il hl
 have key:∀ (l:Nat) (o:Ob),h[l]? = some o→∃ o',h'[l]? = some o'∧B6 o o':=fun l o e=>by
  have:l<h'.length:=by rw[h1];exact Jr e
  obtain ⟨o2,h3,h4⟩:=h2 l _ (List.getElem?_eq_getElem this)
  rw[e] at h3;cases h3
  exact ⟨_,List.getElem?_eq_getElem this,h4⟩
 induction r with
 | cl d v hc=>exact .cl d v hc
 | ref l g off len o p a cap ho hp hk hg hs=>
  obtain ⟨o',h3,h4⟩:=key l o ho
  exact .ref l g off len o' p a cap h3 hp (by rw[h4.2.2.2.1.1];exact hk) (by rw[h4.1];exact hg) (fun e=>by rw[h4.2.1];exact hs (by rw[e,h4.1]))
 | ptr l g i j o p a ho hp hk hg hs=>
  obtain ⟨o',h3,h4⟩:=key l o ho
  exact .ptr l g i j o' p a h3 hp (by rw[h4.2.2.2.1.1];exact hk) (by rw[h4.1];exact hg) (fun e=>by rw[h4.2.1];exact hs (by rw[e,h4.1]))
 | mref l g o p b ho hp hk hg hs=>
  obtain ⟨o',h3,h4⟩:=key l o ho
  exact .mref l g o' p b h3 hp (by rw[h4.2.2.2.1.1];exact hk) (by rw[h4.1];exact hg) (fun e=>hs (by rw[e,h4.1]))
 | clo f nf cs vs hl hr ih=>exact .clo f nf cs vs hl ih
 | agg cs vs hl hr ih=>exact .agg cs vs hl ih
 | tup cs vs hl hr ih=>exact .tup cs vs hl ih
theorem Wk.x6 {m:Nat} {fr:List (Nat × D)} {h h':List Ob} (hl:jv h h'):Wk m ⟨fr,h⟩ ⟨fr,h'⟩:=fun Z base nt pl a w r=>by
 obtain ⟨h1,h2⟩:=Il hl
 refine ⟨pl,⟨r.nt,r.defers,fun t=>(r.fr t).x6 hl,⟨by rw[h1];exact r.o.len,r.o.inj,fun l o' ho hp=>?_,fun l o' b q ho hp=>?_⟩⟩,fun _ h=>h,fun l o p _ ho hp=>?_⟩
 ·obtain ⟨o,h3,h4⟩:=h2 l o' ho
  rw[h4.2.2.1];exact r.o.JU l o h3 hp
 ·obtain ⟨o,h3,h4,h5,h6,h8,h7⟩:=h2 l o' ho
  obtain ⟨g1,x⟩:=r.o.at_ l o b q h3 hp
  exact ⟨fun hr=>g1 (by rw[← h8.2,hr]),x.to h8.1 h5 h6 rfl (fun i hi=>by rw[h7 i hi]) fun i j v hi _ hr=>by rw[h7 i hi];exact hr.x6 hl⟩
 ·have Qd:l<h'.length:=by rw[h1];exact Jr ho
  obtain ⟨o2,h3,h4⟩:=h2 l _ (List.getElem?_eq_getElem Qd)
  have ho:h[l]? = some o:=ho
  rw[ho] at h3;cases h3
  exact ⟨_,List.getElem?_eq_getElem Qd,hp,h4.1,h4.2.1,h4.2.2.2.1.1⟩
mutual
def D.upto (k:Nat):D→Bool
 | .ref l _ _ _=>Nat.blt l k
 | .ptr l _ _ _=>Nat.blt l k
 | .mref l _=>Nat.blt l k
 | .clo _ _ cs=>qB k cs
 | .agg cs=>qB k cs
 | .tup cs=>qB k cs
 | _=>true
def qB (k:Nat):List D→Bool
 | []=>true
 | d::r=>d.upto k && qB k r
end
theorem B7 {k:Nat}:∀ {cs:List D},qB k cs=true→∀ i,i<cs.length→(nth cs i).upto k=true
 | [],_,i,h=>by simp at h
 | d::r,hf,i,h=>by
  simp only[qB,Bool.and_eq_true] at hf
  cases i with
  | zero=>exact hf.1
  | succ i=>have:=B7 hf.2 i (by simpa using h);simpa [nth] using this
theorem Qv.take {h:List Ob} {pl:List Pl} {w:World} {k:Nat} {d:D} {v:Value} (r:Qv Z h pl w d v) (hk:d.upto k=true):Qv Z (h.take k) (pl.take k) w d v:=by
 have VW:∀ b,free Z pl b→free Z (pl.take k) b:=fun b hb=>⟨hb.1,fun l q e=>by
  rw[List.getElem?_take] at e
  split at e
  ·exact hb.2 l q e
  ·cases e⟩
 induction r with
 | cl d v hc=>exact .cl d v (hc.mono fun b hb _=>⟨VW b hb,rfl⟩)
 | ref l g off len o p a cap ho hp hm hg hs=>
  have:l<k:=by simpa [D.upto,Nat.blt_eq] using hk
  exact .ref l g off len o p a cap (by rw[List.getElem?_take,if_pos this];exact ho) (by rw[List.getElem?_take,if_pos this];exact hp) hm hg hs
 | ptr l g i j o p a ho hp hm hg hs=>
  have:l<k:=by simpa [D.upto,Nat.blt_eq] using hk
  exact .ptr l g i j o p a (by rw[List.getElem?_take,if_pos this];exact ho) (by rw[List.getElem?_take,if_pos this];exact hp) hm hg hs
 | mref l g o p b ho hp hm hg hs=>
  have:l<k:=by simpa [D.upto,Nat.blt_eq] using hk
  exact .mref l g o p b (by rw[List.getElem?_take,if_pos this];exact ho) (by rw[List.getElem?_take,if_pos this];exact hp) hm hg hs
 | clo f nf cs vs hl hr ih=>exact .clo f nf cs vs hl fun i hi=>ih i hi (B7 (by simpa [D.upto] using hk) i hi)
 | agg cs vs hl hr ih=>exact .agg cs vs hl fun i hi=>ih i hi (B7 (by simpa [D.upto] using hk) i hi)
 | tup cs vs hl hr ih=>exact .tup cs vs hl fun i hi=>ih i hi (B7 (by simpa [D.upto] using hk) i hi)
def Aw (k:Nat):List (Nat × D)→Bool
 | []=>true
 | (_,d)::r=>d.upto k && Aw k r
theorem U0 {k:Nat}:∀ {fr:List (Nat × D)},Aw k fr=true→∀ t,(get fr t).upto k=true
 | [],_,t=>rfl
 | (u,d)::r,h,t=>by
  simp only[Aw,Bool.and_eq_true] at h
  simp only[get]
  cases Nat.beq u t
  ·exact U0 h.2 t
  ·exact h.1
def kB (k:Nat):List Ob→Prop
 | []=>True
 | o::r=>(∀ i,i<o.n→qB k (o.row i)=true)∧kB k r
theorem Ot {k:Nat}:∀ {h:List Ob},kB k h→∀ (l:Nat) (o:Ob),h[l]? = some o→∀ i,i<o.n→qB k (o.row i)=true
 | [],_,l,o,e=>by simp at e
 | o::r,h,l,u,e=>by
  cases l with
  | zero=>simp at e;subst e;exact h.1
  | succ l=>simp at e;exact Ot h.2 l u e
theorem Wk.drop {m:Nat} (k:Nat) (hm:m≤k) {fr:List (Nat × D)} {h:List Ob} (h1:Aw k fr=true) (h2:kB k (h.take k)):Wk m ⟨fr,h⟩ ⟨fr,h.take k⟩:=fun Z base nt pl a w r=>by
 have QZ:∀ (l:Nat) (p:Pl),(pl.take k)[l]? = some p→pl[l]? = some p:=fun l p e=>by
  rw[List.getElem?_take] at e;split at e
  ·exact e
  ·cases e
 have hh:∀ (l:Nat) (o:Ob),(h.take k)[l]? = some o→h[l]? = some o:=fun l o e=>by
  rw[List.getElem?_take] at e;split at e
  ·exact e
  ·cases e
 refine ⟨pl.take k,⟨r.nt,r.defers,fun t=>(r.fr t).take (U0 h1 t),⟨by simp [r.o.len],fun l l' b q q' e1 e2=>r.o.inj l l' b q q' (QZ _ _ e1) (QZ _ _ e2),fun l o ho hp=>r.o.JU l o (hh _ _ ho) (QZ _ _ hp),fun l o b q ho hp=>?_⟩⟩,
  fun b hb l q e=>hb l q (QZ _ _ e),fun l o p hl ho hp=>⟨o,by show (h.take k)[l]? = _;rw[List.getElem?_take,if_pos (by omega)];exact ho,by rw[List.getElem?_take,if_pos (by omega)];exact hp,rfl,rfl,rfl⟩⟩
 obtain ⟨g1,x⟩:=r.o.at_ l o b q (hh _ _ ho) (QZ _ _ hp)
 exact ⟨g1,x.to rfl rfl rfl rfl (fun _ _=>rfl) fun i j v hi hj hr=>hr.take (B7 (Ot h2 l o ho i hi) j hj)⟩
theorem Wk.xD {m:Nat} {fr:List (Nat × D)} {h:List Ob} (t sz:Nat) (row:Nat→List D) (ht:get fr t=.nil):Wk m ⟨fr,h⟩ ⟨put fr t (.ref h.length 0 0 0),h++[⟨.arr,0,sz,0,row⟩]⟩:=fun Z base nt pl a w r=>by
 have T:Tr h pl w (h++[⟨.arr,0,sz,0,row⟩]) (pl++[none]) w:=Tr.push r.o (fun _ _=>rfl) _ _ (by intro b q e;cases e)
 refine ⟨pl++[none],⟨r.nt,r.defers,fun u=>?_,r.o.xD _ rfl⟩,fun b hb=>Ek hb (fun q e=>by cases e),fun l o p _ ho hp=>⟨o,jd ho,jd hp,rfl,rfl,rfl⟩⟩
 show Qv Z _ _ w (get (put fr t (.ref h.length 0 0 0)) u) _
 rw[y0]
 by_cases hu:u=t
 ·subst hu
  rw[if_pos rfl]
  have:=r.fr u
  have this:Qv Z h pl w (get fr u) (a.tmps.getD u Go.undef):=this
  rw[ht] at this
  obtain ⟨ad,hv⟩:=y8 this
  rw[hv]
  have QZ:pl.length=h.length:=r.o.len
  exact .ref _ _ _ _ ⟨.arr,0,sz,0,row⟩ none ad 0 (by simp) (by rw[← QZ];simp) rfl (Nat.le_refl _) (fun _=>.inl ⟨rfl,rfl⟩)
 ·rw[if_neg hu];exact (r.fr u).tr T
def Im (P:Program) (base nt:Nat) (w0:Start) (Q:Exit→St→Prop) (k:List Item) (I:Nat→St→Prop) (m:Nat):Exit→St→Prop
 | .normal,s=>∃ m' s',m'<m∧Ql w0 s s'∧I m' s'
 | e,s=>Qs P base nt w0 Q k e s
theorem Qbu {p:Nat→Prop}:∀ n,p n→∃ m,p m∧∀ k,p k→m≤k:=by
 intro n
 induction n using Nat.strongRecOn with
 | _ n ih=>
  intro hn
  by_cases h:∃ k,k<n∧p k
  ·obtain ⟨k,hk,hp⟩:=h;exact ih k hk hp
  ·exact ⟨n,hn,fun k hk=>Nat.le_of_not_lt fun Qd=>h ⟨k,Qd,hk⟩⟩
theorem Ip {p:Nat→Prop} (h:∃ n,p n):∃ m,p m∧∀ k,p k→m≤k:=let ⟨n,hn⟩:=h;Qbu n hn
open Classical in
theorem B8 {c:Code} {k:List Item} {s s0:St} (I:Nat→St→Prop) (m0:Nat) (hw:Ql w0 s s0) (h0:I m0 s0) (round:∀ m s,I m s→Qs P base nt w0 (Im P base nt w0 Q k I m) [.code c] .normal s):Qs P base nt w0 Q (.code (.loop c)::k) .normal s:=by
 simp only[Qs]
 refine A.Ij hw ?_
 intro Z z pl a w r b
 let J:Nat→Act→World→Prop:=fun m a w=>∃ s pl,I m s∧Rel Z base nt s pl a w∧Jw Z base w0 s.h pl w
 let μ:Act→World→Nat:=fun a w=>if h:∃ m,J m a w then Classical.choose (Ip h) else 0
 refine wp_loop (fun a w=>∃ m,J m a w) μ ⟨m0,s0,pl,h0,r,b⟩ fun a w hJ=>?_
 have hm:=(Classical.choose_spec (Ip hJ)).1
 have hμ:μ a w=Classical.choose (Ip hJ):=by simp only[μ];rw[dif_pos hJ]
 obtain ⟨s1,pl1,hI,r1,b1⟩:=hm
 have:=round _ s1 hI
 simp only[Qs] at this
 refine wp_mono (this Z z pl1 a w r1 b1) fun e a' w' hh=>?_
 obtain ⟨s2,B9,hq,r2,b2⟩:=hh
 cases e with
 | normal=>
  obtain ⟨m',s3,Qd,hwk,hI3⟩:=hq
  obtain ⟨pl3,r3,b3⟩:=hwk Z z base nt B9 a' w' r2 b2
  have Iq:J m' a' w':=⟨s3,pl3,hI3,r3,b3⟩
  refine ⟨⟨m',Iq⟩,?_⟩
  rw[hμ]
  have:μ a' w'≤m':=by simp only[μ];rw[dif_pos ⟨m',Iq⟩];exact (Classical.choose_spec (Ip (p:=fun m=>J m a' w') ⟨m',Iq⟩)).2 m' Iq
  omega
 | exit id=>exact ⟨s2,B9,hq,r2,b2⟩
 | goto l=>exact ⟨s2,B9,hq,r2,b2⟩
 | ret=>exact ⟨s2,B9,hq,r2,b2⟩
 | panic ch=>exact ⟨s2,B9,hq,r2,b2⟩
 | outgrown=>exact ⟨s2,B9,hq,r2,b2⟩
end
end Go.Fg
namespace Go.Fg
theorem Qbz {P:Program} {base nt:Nat} {w0:Start} {Q:Exit→St→Prop} {c:Code} {s:St} (h:Qs P base nt w0 Q [.code c] .normal s):A P base nt w0 c Q s:=by
 simp only[Qs] at h
 exact h.mono fun e s' he=>by cases e <;> exact he
theorem U1 {P:Program} {X:Cx} (hX:WA P X) {f:FuncId} {fn:Func} {c:Code} (n:Nat) (hf:P.funcs[f]? = some fn) (hb:fn.body=some c) {F:List Ob} {args:List D} {R:D→List Ob→Prop} {nt:Nat} (YT:fn.ntmps=nt) (hn:args.length≤nt)
  (h:∀ (base:Nat) (w:World) (pl:List Pl),base≤w.heap.size→pl.length=F.length→(exec X nt n [.code c] ⟨qA args 0,F⟩).holds P base nt ⟨w,F,pl⟩ (xZ X.L fn.results.toList R)):QG P f F args R:=
 Qbm hX.L hf hb (by rw[YT];exact hn) fun base w pl QI hlen=>Qbz (by rw[YT];exact XP hX QI n _ _ (h base w pl QI hlen))
end Go.Fg
namespace Go.Fg
open Go.RowKit (Below)
variable {Z:Nat→Prop}
inductive jw (ops:Array Oper) (Q3:Array Bool) (i:Nat):Nat→Prop
 | ER (j:Nat) (oj:Oper) (e:Edge) (hj:ops[j]? = some oj) (he:e∈oj.after) (hb:Region.binds .any e=true) (h:e.on=i):jw ops Q3 i j
 | step (j:Nat) (oj:Oper) (e:Edge) (hj:ops[j]? = some oj) (he:e∈oj.after) (hb:Region.binds .any e=true) (hu:Q3.getD e.on true=false) (h:jw ops Q3 i e.on):jw ops Q3 i j
theorem both {Q3:Array Bool} {i:Nat} (h:Q3.getD i true=false):Q3.getD i false=false:=by
 rcases Nat.lt_or_ge i Q3.size with h' | h'
 ·simp [h'] at h ⊢;exact h
 ·simp [Array.getElem?_eq_none h'] at h
theorem jw.U2 {ops:Array Oper} {Q3:Array Bool} {i j:Nat} (h:jw ops Q3 i j) (hi:Q3.getD i true=false):j ∉ Region.ready .any ops Q3:=by
 intro hr
 obtain ⟨_,oj',Jh,K9⟩:=mem_ready.1 hr
 cases h with
 | ER _ oj e hj he hb h=>
  rw[hj] at Jh;cases Jh
  have:=K9 e he hb
  rw[h,both hi] at this;cases this
 | step _ oj e hj he hb hu h=>
  rw[hj] at Jh;cases Jh
  have:=K9 e he hb
  rw[both hu] at this;cases this
theorem jw.set {ops:Array Oper} {Q3:Array Bool} {i j k:Nat} (h:jw ops Q3 i j) (hi:Q3.getD i true=false) (hk:k∈Region.ready .any ops Q3):jw ops (Q3.setIfInBounds k true) i j:=by
 induction h with
 | ER j oj e hj he hb h=>exact .ER j oj e hj he hb h
 | step j oj e hj he hb hu h ih=>
  refine .step j oj e hj he hb ?_ ih
  have:k≠e.on:=fun hek=>by subst hek;exact h.U2 hi hk
  rw[getD_set_ne true this];exact hu
def zz (P:Program) (ops:Array Oper) (N:Act→World→Prop) (cm:Nat→World→World→Prop):Nat→Array Bool→Act→World→Prop
 | 0,Q3,a,w=>Region.ready .any ops Q3=[]∧N a w
 | n+1,Q3,a,w=>(Region.ready .any ops Q3=[]→N a w) ∧
  ∀ i∈Region.ready .any ops Q3,wpOp P ops (fun _ _ _=>False) i (fun a' w'=>cm i w w'∧zz P ops N cm n (Q3.setIfInBounds i true) a' w') a w
theorem QbB {P:Program} {o:Oper} {a:Act} {w:World} {K:Act→World→Prop} {Q:Exit→Act→World→Prop} (h:o.wp P a w K (fun _ _ _=>False)):o.wp P a w K Q:=by
 unfold Oper.wp at *
 generalize (execOp a.eval o).run P w=r at *
 cases r with
 | ok n w'=>
  cases n <;> simp only[Oper.upon] at h ⊢ <;> first | exact h | skip
  ·exact Calls.mono h fun e y6 he=>by cases e <;> first | exact he | exact he.elim | exact (let ⟨_,_,h⟩:=he;h.elim)
 | halt x w'=>cases x <;> simp only[Oper.upon] at h ⊢ <;> exact h.elim
theorem Ir {P:Program} {ops:Array Oper} {N:Act→World→Prop} {cm:Nat→World→World→Prop} {Q:Exit→Act→World→Prop} (hQ:∀ a w,N a w→Q .normal a w):∀ (n:Nat) (Q3:Array Bool) (a:Act) (w:World),zz P ops N cm n Q3 a w→wpAny P .any ops Q n Q3 a w
 | 0,_,_,_,h=>⟨h.1,hQ _ _ h.2⟩
 | n+1,Q3,a,w,h=>⟨fun e=>hQ _ _ (h.1 e),fun i hi=>by
  have:=h.2 i hi
  unfold wpOp at this ⊢
  split
  ·rename_i ho;simp only[ho] at this;exact Ir hQ n _ _ _ this.2
  ·rename_i o ho
   simp only[ho] at this
   split
   ·rename_i hw
    simp only[hw,if_true] at this
    rcases this with h1 | ⟨_,_,_,h2⟩
    ·exact .inl (QbB (Oper.wp_mono (fun a' w' h'=>Ir hQ n _ _ _ h'.2) h1))
    ·exact h2.elim
   ·rename_i hw
    simp only[hw] at this
    exact Ir hQ n _ _ _ this.2⟩
def still (L:Zd) (o:Oper):Bool:=match o.op with
 | .extract ..=>true
 | .move _=>true
 | .nilCheck _=>true
 | .fieldAddr t _ f=>match BQ L t f with
  | some (_,y)=>!Nat.beq y.size 0
  | none=>false
 | _=>false
theorem QbC {P:Program} {L:Zd} (hL:Zr P L) {o:Oper} (hs:still L o=true) {ρ:Operand→Value} {w:World} {v:Value} (h:(execOp ρ o).run P w=.ok (.value v) w) (w':World):(execOp ρ o).run P w'=.ok (.value v) w':=by
 unfold still at hs
 split at hs
 ·rename_i x i ho
  simp only[execOp,ho,Instr.extract] at h ⊢
  split at h <;> first | skip | (simp at h)
  all_goals (first | (split at h <;> first | (simp at h) | skip) | skip)
  all_goals (first | (simp at h ⊢;exact h) | simp_all)
 ·rename_i x ho
  simp only[execOp,ho] at h ⊢
  simp at h ⊢
  exact h
 ·rename_i x ho
  exact ((JD.nilCheck ho ρ) w _ w h).2 w'
 ·rename_i t x f ho
  split at hs
  ·rename_i off y hf
   obtain ⟨g,fd,hg,xJ,_,hy⟩:=NK hL hf
   have NL:y.size≠0:=fun e=>by rw[e] at hs;cases hs
   cases hx:ρ x with
   | pointer a=>
    cases a with
    | some a=>
     have e:∀ w:World,(execOp ρ o).run P w=.ok (.value (.pointer (some (a.add fd.offset)))) w:=fun w=>by
      simp [execOp,ho,hx,Instr.fieldAt,run_underlying hg,xJ,Instr.sureAddr,fieldPlace,hy.sizeOf,NL]
     rw[e w] at h
     rw[e w']
     simp at h ⊢
     exact h
    | none=>simp [execOp,ho,hx,Instr.fieldAt,run_underlying hg,xJ,Instr.sureAddr,stuck] at h
   | _=>simp [execOp,ho,hx,Instr.fieldAt,run_underlying hg,xJ,Instr.sureAddr,stuck] at h
  ·cases hs
 ·cases hs
theorem QbD {P:Program} {ops:Array Oper} {N:Act→World→Prop} {cm:Nat→World→World→Prop} {i:Nat} {oi:Oper} {v:Value} {S:World→Prop} (U3:∀ w,cm i w w) (hi:ops[i]? = some oi) (Ca:∀ (j:Nat) (o:Oper) cs b,ops[j]? = some o→o.op≠.select cs b) :
  ∀ (fuel:Nat) (Q3:Array Bool) (a:Act) (w1:World),S w1 →
   (∀ j oj,ops[j]? = some oj→j≠i→Q3.getD j true=false→jw ops Q3 i j∨((∀ w w',cm j w w'→S w→S w')∧oi.apart ops oj=true)) →
   i∈Region.ready .any ops Q3→YieldsIf P ops S oi v a →
   zz P ops N cm fuel (Q3.setIfInBounds i true) (a.put oi.dst v) w1→zz P ops N cm (fuel+1) Q3 a w1:=by
 intro fuel
 induction fuel with
 | zero=>
  intro Q3 a w1 Ax _ hr hy H
  refine ⟨fun h=>(by rw[h] at hr;cases hr),fun j hj=>?_⟩
  by_cases qC:j=i
  ·subst qC;exact hy.wpOp hi Ax ⟨U3 _,H⟩
  ·have:=ready_mono hj qC
   rw[H.1] at this
   cases this
 | succ fuel ih=>
  intro Q3 a w1 Ax Cb hr hy H
  have ES:=(mem_ready.1 hr).1
  refine ⟨fun h=>(by rw[h] at hr;cases hr),fun j hj=>?_⟩
  by_cases qC:j=i
  ·subst qC;exact hy.wpOp hi Ax ⟨U3 _,H⟩
  ·have h1:=H.2 j (ready_mono hj qC)
   obtain ⟨Is,oj,Jh,K9⟩:=mem_ready.1 hj
   obtain ⟨hcm,Cc⟩:=(Cb j oj Jh qC Is).resolve_left fun hd=>hd.U2 ES hj
   have h2:=wpOp_putIf Jh Cc (fun cs b=>Ca i oi cs b hi) (fun cs b=>Ca j oj cs b Jh) (fun _ _ _ h=>h) hy h1
   refine wpOp_mono (fun a' w' h3=>?_) h2
   refine ⟨h3.2.1,ih (Q3.setIfInBounds j true) a' w' (hcm _ _ h3.2.1 Ax) (fun k ok hk Eu U4=>?_) (ready_mono hr (Ne.symm qC)) h3.1 ?_⟩
   ·have hku:Q3.getD k true=false:=by
     by_cases Kl:j=k
     ·subst Kl;exact Is
     ·rw[getD_set_ne true Kl] at U4;exact U4
    exact (Cb k ok hk Eu hku).imp (fun hd=>hd.set ES hj) id
   ·rw[Array.setIfInBounds_comm _ _ qC]
    exact h3.2.2
def Jt (i:Nat):List Nat→Bool
 | []=>false
 | j::r=>Nat.beq i j || Jt i r
theorem YU {i:Nat}:∀ {l:List Nat},Jt i l=true↔i∈l
 | []=>by simp [Jt]
 | j::r=>by simp [Jt,YU (l:=r)]
def Iu (i:Nat):List Edge→Bool
 | []=>false
 | e::r=>(Region.binds .any e && Nat.beq e.on i) || Iu i r
def XQ (done:List Nat):List Edge→Bool
 | []=>false
 | e::r=>(Region.binds .any e && !Jt e.on done) || XQ done r
def Cd (ops:Array Oper) (done:List Nat) (i:Nat):Nat→List Edge→Bool
 | 0,_=>false
 | _+1,[]=>false
 | n+1,e::r=>(Region.binds .any e && (Nat.beq e.on i || (!Jt e.on done && match ops[e.on]? with
   | some o=>Cd ops done i n o.after.toList
   | none=>false))) || Cd ops done i n r
def kC (o:Oper):Bool:=match o.op with
 | .load ..=>true
 | _=>false
def kD (o:Oper):Bool:=match o.op with
 | .insert ..=>true
 | _=>false
def ET (nc:List Nat) (L:Zd) (ops:Array Oper) (done:List Nat) (i:Nat) (oi:Oper):List (Nat × Bool × Option Oper)→Bool
 | []=>true
 | (j,_,some oj)::r=>(Iu i oj.after.toList || (((calm oj && !Jt j nc) || still L oi || (kC oi && kD oj)) && oi.apart ops oj) || Cd ops done i (4*ops.size) oj.after.toList) && ET nc L ops done i oi r
 | (_,_,none)::_=>false
def Iv (l:List Nat):Nat→Bool
 | 0=>true
 | n+1=>Jt n l && Iv l n
theorem U5 {l:List Nat}:∀ {n:Nat},Iv l n=true→∀ j,j<n→j∈l
 | 0,_,j,h=>by omega
 | n+1,h,j,hj=>by
  simp only[Iv,Bool.and_eq_true,YU] at h
  by_cases e:j=n
  ·subst e;exact h.1
  ·exact U5 h.2 j (by omega)
theorem U6 {i:Nat}:∀ {l:List Edge},Iu i l=true→∃ e∈l,Region.binds .any e=true∧e.on=i
 | [],h=>by cases h
 | e::r,h=>by
  simp only[Iu,Bool.or_eq_true,Bool.and_eq_true,Nat.beq_eq] at h
  rcases h with h | h
  ·exact ⟨e,by simp,h.1,h.2⟩
  ·obtain ⟨e',h1,h2⟩:=U6 h;exact ⟨e',by simp [h1],h2⟩
theorem U7 {done:List Nat}:∀ {l:List Edge},XQ done l=true→∃ e∈l,Region.binds .any e=true∧e.on ∉ done
 | [],h=>by cases h
 | e::r,h=>by
  simp only[XQ,Bool.or_eq_true,Bool.and_eq_true,Bool.not_eq_true'] at h
  rcases h with h | h
  ·exact ⟨e,by simp,h.1,fun hm=>by rw[YU.2 hm] at h;cases h.2⟩
  ·obtain ⟨e',h1,h2⟩:=U7 h;exact ⟨e',by simp [h1],h2⟩
theorem Iw {done:List Nat}:∀ {l:List Edge},XQ done l=false→∀ e∈l,Region.binds .any e=true→e.on∈done
 | [],_,e,h,_=>by cases h
 | e::r,h,e',h',hb=>by
  simp only[XQ,Bool.or_eq_false_iff,Bool.and_eq_false_iff] at h
  rcases List.mem_cons.1 h' with h1 | h1
  ·subst h1
   rcases h.1 with h2 | h2
   ·rw[hb] at h2;cases h2
   ·exact YU.1 (by simpa using h2)
  ·exact Iw h.2 e' h1 hb
structure Marks (ops:Array Oper) (Q3:Array Bool) (done:List Nat):Prop where
 size:Q3.size=ops.size
 get:∀ j,j<ops.size→(Q3.getD j true=false↔j ∉ done)
 get':∀ j,Q3.getD j false=true↔j∈done∧j<ops.size
 lt:∀ j,j∈done→j<ops.size
theorem Marks.set {ops:Array Oper} {Q3:Array Bool} {done:List Nat} (M:Marks ops Q3 done) {i:Nat} (hi:i<ops.size):Marks ops (Q3.setIfInBounds i true) (i::done) where
 size:=by simp [M.size]
 get:=fun j hj=>by
  by_cases e:i=j
  ·subst e;simp [M.size,hi]
  ·rw[getD_set_ne true e,M.get j hj];simp [Ne.symm e]
 get':=fun j=>by
  by_cases e:i=j
  ·subst e;simp [M.size,hi]
  ·rw[getD_set_ne false e,M.get' j];simp [Ne.symm e]
 lt:=fun j hj=>by
  rcases List.mem_cons.1 hj with e | e
  ·subst e;exact hi
  ·exact M.lt j e
def WC (o:Oper):Bool:=match o.op with
 | .alloc _=>true
 | .makeMap _ none=>true
 | _=>false
def x7 (P:Program) (o:Oper) (ob:Ob) (mk:Nat→D):Prop:=∃ (obj:Obj) (val:Nat→Value),
 (∀ (ρ:Operand→Value) (w:World),(execOp ρ o).run P w=.ok (.value (val w.heap.size)) (w.alloc obj)) ∧
 (∀ (Z:Nat→Prop) (h:List Ob) (pl:List Pl) (w:World) (b:Nat),w.heap[b]? = some obj→Jq Z h pl w ob b 0) ∧
 (∀ (Z:Nat→Prop) (h:List Ob) (pl:List Pl) (w:World) (l b:Nat),h[l]? = some ob→pl[l]? = some (some (b,0))→Qv Z h pl w (mk l) (val b))
theorem U8 {P:Program} {L:Zd} (hL:Zr P L) {o:Oper} {t:TypeId} (ho:o.op=.alloc t) {y:Ty} (hy:ty L t=some y) :
  x7 P o ⟨.one,0,(y.zero.map ZQ).length,1,fun _=>y.zero.map ZQ⟩ (fun l=>.ptr l 0 0 0):=by
 obtain ⟨z,hz,QS⟩:=(hL _ _ hy).zeroValue
 refine ⟨.cells z.cells t,fun b=>.pointer (some ⟨b,0,none⟩),fun ρ w=>?_,fun Z h pl w b hb=>?_,fun Z h pl w l b h1 h2=>?_⟩
 ·simp [execOp,ho,Instr.alloc,newVar,newRow,QS]
 ·refine .BN rfl ⟨z.cells,t,hb,by simp [← hz],fun _ _=>rfl,fun i j hi hj=>?_⟩
  have NR:i=0:=by simp at hi;omega
  subst NR
  have Kj:j<z.cells.size:=by rw[← hz] at hj;simpa using hj
  refine ⟨QJ z.cells.toList j,?_,.cl _ _ ?_⟩
  ·simp only[Nat.zero_mul,Nat.zero_add,QJ,List.getD_eq_getElem?_getD]
   rw[Array.getElem?_toList,Array.getElem?_eq_getElem Kj];rfl
  ·rw[← hz]
   simp only[nth,QJ,List.getD_eq_getElem?_getD,List.getElem?_map,Array.getElem?_toList,Array.getElem?_eq_getElem Kj,Option.map_some,Option.getD_some]
   exact kj _ _ _
 ·exact .ptr _ _ _ _ _ (some (b,0)) _ h1 h2 rfl (Nat.le_refl _) (fun _=>⟨_,_,rfl,by simp⟩)
theorem U9 {P:Program} {o:Oper} {t:TypeId} (ho:o.op=.makeMap t none) (q:IntKind):x7 P o (QE q 0 []) (fun l=>.mref l 0):=by
 refine ⟨.map #[] 0,fun b=>.map (some b),fun ρ w=>?_,fun Z h pl w b hb=>?_,fun Z h pl w l b h1 h2=>?_⟩
 ·simp [execOp,ho,Instr.makeMap]
 ·exact Oc (kd:=.map) hb ⟨rfl,fun i e a h=>by simp at h,fun i j a a' _ h=>by simp at h⟩ rfl
 ·exact .mref _ _ (QE q 0 []) (some (b,0)) b h1 h2 ⟨by simp [QE,Kc,Kd.ty],rfl⟩ (Nat.le_refl _) (fun _=>rfl)
section
variable (P:Program) (base nt:Nat) (w0:Start)
def v8 (o : Oper) : Bool := calm o && !(o.pos == "!")
def VX (b : Bool) (o : Oper) : Oper := ⟨o.dst, o.op, o.type, bif b then "!" else "", #[], none⟩
theorem af {P:Program} {b:Bool} {o:Oper} {a:Act} {w:World} {K:Act→World→Prop} {Q:Exit→Act→World→Prop}:(VX b o).wp P a w K Q=o.wp P a w K Q:=rfl
theorem QbG (b:Bool) (o:Oper):v8 (VX b o)=(calm o && !b):=by cases b <;> simp [v8,VX,calm]
def XR (o:Oper) (w w':World):Prop:=match o.op with
 | .insert ..=>Xg w w'
 | _=>v8 o=true→Ext w w'
theorem XR.ext {o:Oper} {w w':World} (h:Ext w w'):XR o w w':=by
 unfold XR
 split
 ·exact .ext h
 ·exact fun _=>h
theorem XR.calm {o:Oper} {w w':World} (h:XR o w w') (hc:v8 o=true):Ext w w':=by
 unfold XR at h
 split at h
 ·rename_i ho;simp [v8,Go.Fg.calm,ho] at hc
 ·exact h hc
theorem XR.ins {o:Oper} {w w':World} (h:XR o w w') (hc:kD o=true):Xg w w':=by
 unfold kD at hc
 split at hc
 ·rename_i ho;unfold XR at h;rw[ho] at h;exact h
 ·cases hc
theorem XR.mk {o:Oper} {w w':World} (h:v8 o=true→Ext w w') (hi:kD o=false):XR o w w':=by
 unfold XR
 split
 ·rename_i ho;simp [kD,ho] at hi
 ·exact h
def YV (nc:List Nat) (ops:Array Oper) (i:Nat) (w w':World):Prop:=match ops[i]? with
 | some o=>XR (VX (Jt i nc) o) w w'
 | none=>True
theorem Ay {nc:List Nat} {ops:Array Oper} {i:Nat} {o:Oper} {w w':World} (ho:ops[i]? = some o):YV nc ops i w w'=XR (VX (Jt i nc) o) w w':=by simp only[YV,ho]
def AE (o:Oper) (F:St→Prop) (s:St):Prop:=∀ (Z:Nat→Prop),EG w0 Z→∀ pl a w,Rel Z base nt s pl a w→Jw Z base w0 s.h pl w →
 o.wp P a w (fun a' w'=>XR o w w'∧∃ d h' Qg v,F ⟨Q8 s.fr o.dst d,h'⟩∧Rel Z base nt ⟨Q8 s.fr o.dst d,h'⟩ Qg a' w'∧Jw Z base w0 h' Qg w'∧Tr s.h pl w h' Qg w'∧a'=a.put o.dst v) (fun _ _ _=>False)
def KP (pu:Bool) (o:Oper) (F:St→Prop) (s:St):Prop:=match pu with
 | true=>∃ d,Ki P base nt o s d∧(kC o=true→Ho P base nt o s d)∧Zi nt o.dst=true∧F ⟨Q8 s.fr o.dst d,s.h⟩
 | false=>match WC o with
  | true=>∃ ob mk,x7 P o ob mk∧Zi nt o.dst=true∧F ⟨Q8 s.fr o.dst (mk s.h.length),s.h++[ob]⟩
  | false=>AE P base nt w0 o F s
def AX (K:St→Prop):List (Bool × Oper × G)→St→Prop
 | [],s=>K s
 | (pu,o,g)::r,s=>match g with
  | none=>KP P base nt w0 pu o (AX K r) s
  | some (none,_)=>Zi nt o.dst=true∧AX K r ⟨Q8 s.fr o.dst (.raw Go.undef),s.h⟩
  | some (some t,b)=>match get s.fr t with
   | .raw (.bool x)=>(x=b→KP P base nt w0 pu o (AX K r) ⟨put s.fr t (.raw (.bool b)),s.h⟩) ∧
     (x=(!b)→Zi nt o.dst=true∧AX K r ⟨Q8 (put s.fr t (.raw (.bool (!b)))) o.dst (.raw Go.undef),s.h⟩)
   | .raw (.tuple _)=>Zi nt o.dst=true∧AX K r ⟨Q8 s.fr o.dst (.raw Go.undef),s.h⟩
   | _=>False
end
def J7 (nc:List Nat) (ops:Array Oper) (l:List (Nat × Bool)):List (Bool × Oper × G):=l.map fun ip=>match ops[ip.1]? with
 | some o=>(ip.2,VX (Jt ip.1 nc) o,guardOf ops o)
 | none => (ip.2, ⟨none, .move (.tmp 0), 0, "", #[], none⟩, none)
section
variable {nc:List Nat} {P:Program} {base nt:Nat} {w0:Start}
theorem QbH {o:Oper} {ob:Ob} {mk:Nat→D} {F:St→Prop} {s:St} (h:x7 P o ob mk) (ht:Zi nt o.dst=true) (QI:base≤w0.w.heap.size) (hF:F ⟨Q8 s.fr o.dst (mk s.h.length),s.h++[ob]⟩):AE P base nt w0 o F s:=by
 intro Z z pl a w r b
 obtain ⟨obj,val,h1,h2,h3⟩:=h
 have e:∀ k,k<w.heap.size→(w.alloc obj).heap[k]? = w.heap[k]? := fun k hk=>YP w obj k hk
 have ZU:(w.alloc obj).heap[w.heap.size]? = some obj:=heap_alloc_new w obj
 have WB:base≤w.heap.size:=Nat.le_trans QI b.1.size
 have T:Tr s.h pl w (s.h++[ob]) (pl++[some (w.heap.size,0)]) (w.alloc obj):=Tr.push r.o e _ _ (by intro k q hh;simp at hh;omega)
 have R':=QT.El r.o e ob (Nat.le_refl _) WB (h2 Z (s.h++[ob]) (pl++[some (w.heap.size,0)]) _ _ ZU)
 have hv:Qv Z (s.h++[ob]) (pl++[some (w.heap.size,0)]) (w.alloc obj) (mk s.h.length) (val w.heap.size):=h3 Z _ _ _ _ _ (by simp) (by rw[← r.o.len];simp)
 unfold Oper.wp
 rw[h1 a.eval w]
 simp only[Oper.upon_value]
 refine ⟨XR.ext fun k hk=>e k hk,_,_,_,_,hF,?_,b.step T (vO WB obj),T,rfl⟩
 cases hd:o.dst with
 | none=>exact r.zd T R' _
 | some t=>rw[hd] at ht;exact r.to T R' (Yo ht) hv
theorem KP.ae (QI:base≤w0.w.heap.size) {o:Oper} {F:St→Prop} {s:St} (h:KP P base nt w0 false o F s):AE P base nt w0 o F s:=by
 simp only[KP] at h
 split at h
 ·obtain ⟨ob,mk,h1,h2,h3⟩:=h;exact QbH h1 h2 QI h3
 ·exact h
theorem Qv.Ce {Z Z':Nat→Prop} {h h':List Ob} {pl Qg:List Pl} {w w':World} (hf:∀ b,free Z pl b→b<w.heap.size→free Z' Qg b∧w'.heap[b]? = w.heap[b]?)
  (kE:∀ (l:Nat) (o:Ob) (p:Pl),h[l]? = some o→pl[l]? = some p→h'[l]? = some o∧Qg[l]? = some p) (hb:∀ (l b q:Nat),pl[l]? = some (some (b,q))→w'.heap[b]? = w.heap[b]?) {d:D} {v:Value} (r:Qv Z h pl w d v):Qv Z' h' Qg w' d v:=by
 induction r with
 | cl d v hc=>exact .cl d v (hc.mono hf)
 | ref l g off len o p a cap ho hp hk hg hs=>
  refine .ref l g off len o p a cap (kE l o p ho hp).1 (kE l o p ho hp).2 hk hg fun jc=>?_
  rcases hs jc with h1 | ⟨b,q,c,el,Kb,ha,Jp,hc,hl⟩
  ·exact .inl h1
  ·exact .inr ⟨b,q,c,el,Kb,ha,by rw[hb l b q (by rw[hp,Kb])];exact Jp,hc,hl⟩
 | ptr l g i j o p a ho hp hk hg hs=>exact .ptr l g i j o p a (kE l o p ho hp).1 (kE l o p ho hp).2 hk hg hs
 | mref l g o p b ho hp hk hg hs=>exact .mref l g o p b (kE l o p ho hp).1 (kE l o p ho hp).2 hk hg hs
 | clo f nf cs vs hl hr ih=>exact .clo f nf cs vs hl ih
 | agg cs vs hl hr ih=>exact .agg cs vs hl ih
 | tup cs vs hl hr ih=>exact .tup cs vs hl ih
theorem QT.Ce {Z Z':Nat→Prop} {h:List Ob} {pl:List Pl} {w w':World} (R:QT Z base h pl w) (hf:∀ b,free Z pl b→b<w.heap.size→free Z' pl b∧w'.heap[b]? = w.heap[b]?) (e:∀ b,b<w.heap.size→w'.heap[b]? = w.heap[b]?):QT Z' base h pl w' where
 len:=R.len
 inj:=R.inj
 JU:=R.JU
 at_:=fun l o b q ho hp=>by
  obtain ⟨h1,x⟩:=R.at_ l o b q ho hp
  exact ⟨h1,x.to rfl rfl rfl (e b (R.lt hp).1) (fun _ _=>rfl) fun i j v _ _ hr=>hr.Ce hf (fun _ _ _ a b=>⟨a,b⟩) (fun l b q hp=>e b (R.lt hp).1)⟩
theorem QT.Ou {Z Z':Nat→Prop} {h:List Ob} {pl:List Pl} {w:World} (R:QT Z base h pl w) {b:Nat} (hf:∀ c,free Z pl c→free Z' (pl++[some (b,0)]) c) (ha:KX pl b) (QI:base≤b) {ob:Ob}
  (hx:Jq Z' (h++[ob]) (pl++[some (b,0)]) w ob b 0):QT Z' base (h++[ob]) (pl++[some (b,0)]) w:=by
 refine ⟨by simp [R.len],?_,?_,?_⟩
 ·intro l l' b' q q' e1 e2
  rcases VB e1 with h1 | ⟨h1,Zw⟩ <;> rcases VB e2 with h2 | ⟨h2,Wv⟩
  ·exact R.inj l l' b' q q' h1 h2
  ·simp at Wv;obtain ⟨rfl,rfl⟩:=Wv;exact absurd h1 (ha l q)
  ·simp at Zw;obtain ⟨rfl,rfl⟩:=Zw;exact absurd h2 (ha l' q')
  ·omega
 ·intro l o ho e1
  rcases VB e1 with h1 | ⟨h1,Zw⟩
  ·rcases VB ho with h2 | ⟨h2,Wv⟩
   ·exact R.JU l o h2 h1
   ·have:=Kz h1;have:=R.len;omega
  ·simp at Zw
 ·intro l o b' q ho QZ
  rcases VB QZ with h1 | ⟨h1,Zw⟩
  ·rcases VB ho with h2 | ⟨h2,Wv⟩
   ·obtain ⟨g1,x⟩:=R.at_ l o b' q h2 h1
    exact ⟨g1,x.to rfl rfl rfl rfl (fun _ _=>rfl) fun i j v _ _ hr=>hr.Ce (fun c hc _=>⟨hf c hc,rfl⟩) (fun _ _ _ a b=>⟨jd a,jd b⟩) (fun _ _ _ _=>rfl)⟩
   ·have:=Kz h1;have:=R.len;omega
  ·rcases VB ho with h2 | ⟨h2,Wv⟩
   ·have:=Jr h2;have:=R.len;omega
   ·subst Wv
    simp at Zw
    obtain ⟨rfl,rfl⟩:=Zw
    exact ⟨fun _=>QI,hx⟩
def Km (ops:Array Oper) (i:Nat):Bool:=match ops[i]? with
 | some o=>WC o && o.guard.isNone && o.after.toList.isEmpty
 | none=>false
def Cg (ops:Array Oper) (done:List Nat) (i:Nat):List Edge→Bool
 | []=>false
 | e::r=>(Region.binds .any e && !Jt e.on done && (!Km ops e.on || Nat.beq e.on i)) || Cg ops done i r
def EU (ops:Array Oper) (done:List Nat) (i:Nat):List (Nat × Bool × Option Oper)→Bool
 | []=>true
 | (j,_,some oj)::r=>(Km ops j || Cg ops done i oj.after.toList) && EU ops done i r
 | (_,_,none)::_=>false
def Az (ops:Array Oper) (R:List Nat):List (Nat × Bool × Option Oper):=R.map fun i=>(i,false,ops[i]?)
def wa (nc:List Nat) (L:Zd) (ops:Array Oper) (R:List Nat):List (Nat × Bool × Option Oper)→List Nat→Bool
 | [],_=>true
 | (i,p,some o)::r,done=>!Jt i done && !XQ done o.after.toList && (match p with
  | true=>!Km ops i && ET nc L ops done i o (r++Az ops R)
  | false=>EU ops done i (r++Az ops R)) && wa nc L ops R r (i::done)
 | (_,_,none)::_,_=>false
theorem ag {ops:Array Oper} {done:List Nat} {i:Nat}:∀ {l:List Edge},Cg ops done i l=true→∃ e∈l,Region.binds .any e=true∧e.on ∉ done∧(Km ops e.on=false∨e.on=i)
 | [],h=>by cases h
 | e::r,h=>by
  simp only[Cg,Bool.or_eq_true,Bool.and_eq_true,Bool.not_eq_true',Nat.beq_eq] at h
  rcases h with h | h
  ·exact ⟨e,by simp,h.1.1,(fun hm=>by rw[YU.2 hm] at h;exact absurd h.1.2 (by simp)),h.2⟩
  ·obtain ⟨e',h1,h2⟩:=ag h;exact ⟨e',by simp [h1],h2⟩
theorem ai {ops:Array Oper} {done:List Nat} {i:Nat}:∀ {r:List (Nat × Bool × Option Oper)},(∀ x∈r,x.2.2=ops[x.1]?)→EU ops done i r=true→∀ x∈r,∀ oj,ops[x.1]? = some oj→Km ops x.1=true∨Cg ops done i oj.after.toList=true
 | [],_,_,x,hx,_,_=>by cases hx
 | (j,p,none)::r,_,h,_,_,_,_=>by cases h
 | (j,p,some o)::r,hr,h,x,hx,oj,Jh=>by
  simp only[EU,Bool.and_eq_true,Bool.or_eq_true] at h
  rcases List.mem_cons.1 hx with h1 | h1
  ·subst h1
   have e:some o=ops[j]? := hr (j,p,some o) (by simp)
   have Jh:ops[j]? = some oj:=Jh
   rw[Jh] at e;cases e
   exact h.1
  ·exact ai (fun y hy=>hr y (by simp [hy])) h.2 x h1 oj Jh
abbrev En:=Nat × Bool × Option Nat
def K3 (l:List En):List Nat:=l.map (·.1)
def VG (l:List En):List (Nat × Bool):=l.map fun x=>(x.1,x.2.1)
def early:List En→List Nat
 | []=>[]
 | (i,_,some _)::r=>i::early r
 | (_,_,none)::r=>early r
def blocks:List En→List Nat
 | []=>[]
 | (_,_,some b)::r=>b::blocks r
 | (_,_,none)::r=>blocks r
def VH:List En→Nat
 | []=>0
 | (_,_,some _)::r=>VH r
 | (_,_,none)::r=>VH r+1
theorem AA {j:Nat}:∀ {l:List En},j∈early l↔∃ p b,(j,p,some b)∈l
 | []=>by simp [early]
 | (i,p,some b)::r=>by
  simp only[early,List.mem_cons,AA (l:=r),Prod.mk.injEq,Option.some.injEq]
  constructor
  ·rintro (rfl | ⟨p',b',h⟩)
   ·exact ⟨p,b,.inl ⟨rfl,rfl,rfl⟩⟩
   ·exact ⟨p',b',.inr h⟩
  ·rintro ⟨p',b',⟨rfl,_⟩ | h⟩
   ·exact .inl rfl
   ·exact .inr ⟨p',b',h⟩
 | (i,p,none)::r=>by
  simp only[early,List.mem_cons,AA (l:=r),Prod.mk.injEq,reduceCtorEq,and_false,false_or]
theorem wc {c:Nat}:∀ {l:List En},c∈blocks l↔∃ j p,(j,p,some c)∈l
 | []=>by simp [blocks]
 | (i,p,some b)::r=>by
  simp only[blocks,List.mem_cons,wc (l:=r),Prod.mk.injEq,Option.some.injEq]
  constructor
  ·rintro (rfl | ⟨p',b',h⟩)
   ·exact ⟨i,p,.inl ⟨rfl,rfl,rfl⟩⟩
   ·exact ⟨p',b',.inr h⟩
  ·rintro ⟨p',b',⟨_,_,rfl⟩ | h⟩
   ·exact .inl rfl
   ·exact .inr ⟨p',b',h⟩
 | (i,p,none)::r=>by
  simp only[blocks,List.mem_cons,wc (l:=r),Prod.mk.injEq,reduceCtorEq,and_false,false_or]
theorem Ov {j:Nat} {p:Bool} {b:Nat} {l2:List En}:∀ l1:List En,VH (l1++(j,p,none)::l2)=VH (l1++(j,p,some b)::l2)+1
 | []=>rfl
 | (_,_,some _)::r=>Ov r
 | (_,_,none)::r=>by
  simp only[List.cons_append,VH]
  rw[Ov (b:=b) r]
theorem Ow {j:Nat} {p:Bool} {b:Nat} {l2:List En}:∀ l1:List En,b ∉ blocks (l1++(j,p,none)::l2)→(blocks (l1++(j,p,none)::l2)).Nodup→(blocks (l1++(j,p,some b)::l2)).Nodup
 | [],h,k=>by simp only[List.nil_append,blocks] at h k ⊢;exact List.nodup_cons.2 ⟨h,k⟩
 | (i,q,some c)::r,h,k=>by
  simp only[List.cons_append,blocks,List.mem_cons,not_or] at h k ⊢
  obtain ⟨k1,k2⟩:=List.nodup_cons.1 k
  refine List.nodup_cons.2 ⟨fun hm=>?_,Ow r h.2 k2⟩
  obtain ⟨j',p',hj⟩:=wc.1 hm
  rcases List.mem_append.1 hj with h1 | h1
  ·exact k1 (wc.2 ⟨j',p',List.mem_append.2 (.inl h1)⟩)
  ·rcases List.mem_cons.1 h1 with h2 | h2
   ·cases h2;exact h.1 rfl
   ·exact k1 (wc.2 ⟨j',p',List.mem_append.2 (.inr (List.mem_cons.2 (.inr h2)))⟩)
 | (i,q,none)::r,h,k=>by
  simp only[List.cons_append,blocks] at h k ⊢
  exact Ow r h k
structure Ix (P:Program) (ops:Array Oper) (nt:Nat) (w0:Start) (pl:List Pl) (a:Act) (w:World) (i b:Nat):Prop where
 run:∃ (o:Oper) (d:Nat) (w1:World) (ρ:Operand→Value) (v:Value) (obj:Obj),ops[i]? = some o∧o.dst=some d∧(execOp ρ o).run P w1=.ok (.value v) (w1.alloc obj)∧b=w1.heap.size∧w.heap[b]? = some obj∧(d<nt→a.tmps.getD d Go.undef=v)
 KX:KX pl b
 low:w0.w.heap.size≤b
theorem aj {a:Act} {t:Option Nat} {d:Nat} {v:Value} (h:t≠some d):(a.put t v).tmps.getD d Go.undef=a.tmps.getD d Go.undef:=by
 cases t with
 | none=>rfl
 | some t=>
  have:t≠d:=fun e=>h (by rw[e])
  simp [Act.put,Array.getD_eq_getD_getElem?,Array.getElem?_setIfInBounds_ne this]
theorem Ix.step {P:Program} {ops:Array Oper} {nt:Nat} {w0:Start} {h h':List Ob} {pl Qg:List Pl} {a:Act} {w w':World} {i b:Nat} (p:Ix P ops nt w0 pl a w i b) (T:Tr h pl w h' Qg w') {t:Option Nat} (v:Value)
  (hd:∀ o d,ops[i]? = some o→o.dst=some d→t≠some d):Ix P ops nt w0 Qg (a.put t v) w' i b:=by
 obtain ⟨o,d,w1,ρ,u,obj,h1,h2,h3,h4,h5,h6⟩:=p.run
 obtain ⟨k1,k2⟩:=T.JI b p.KX (qt h5)
 exact ⟨⟨o,d,w1,ρ,u,obj,h1,h2,h3,h4,by rw[k2];exact h5,fun hn=>by rw[aj (hd o d h1 h2)];exact h6 hn⟩,k1,p.low⟩
theorem Iy {fr:List (Nat × D)} {t:Option Nat} {u:Nat} {d:D} (h:t≠some u):get (Q8 fr t d) u=get fr u:=by
 cases t with
 | none=>rfl
 | some t=>rw[Q8,y0,if_neg (fun e=>h (by rw[e]))]
structure qE (nc:List Nat) (P:Program) (L:Zd) (ops:Array Oper) (R:List Nat) (base nt:Nat) (w0:Start) (Z0 Z:Nat→Prop) (l:List En) (done:List Nat) (Q3:Array Bool) (s:St) (pl:List Pl) (a:Act) (w:World):Prop where
 sched:wa nc L ops R ((VG l).map fun ip=>(ip.1,ip.2,ops[ip.1]?)) done=true
 cover:∀ j,j<ops.size→j ∉ done→j∈K3 l∨j∈R
 Ch:∀ j∈R,j ∉ done∧j ∉ K3 l∧Km ops j=false
 marks:Marks ops Q3 (early l++done)
 late:∀ i p b,(i,p,some b)∈l→Km ops i=true
 lp:∀ i p q,(i,p,q)∈l→Km ops i=true→p=false
 z:∀ b,Z b↔Z0 b∧b ∉ blocks l
 z0:∀ i p b,(i,p,some b)∈l→Z0 b
 Iz:(blocks l).Nodup
 EV:∀ i p q,(i,p,q)∈l→Km ops i=true→∀ o d,ops[i]? = some o→o.dst=some d→get s.fr d=.undef
 rel:Rel Z base nt s pl a w
 since:Jw Z base w0 s.h pl w
 AB:∀ i p b,(i,p,some b)∈l→Ix P ops nt w0 pl a w i b
theorem IA {L:Zd} {ops:Array Oper} {R:List Nat}:∀ {l:List En} {done:List Nat},wa nc L ops R ((VG l).map fun ip=>(ip.1,ip.2,ops[ip.1]?)) done=true→∀ j,j∈K3 l→j ∉ done
 | [],_,_,j,hj=>by simp [K3] at hj
 | (i,p,q)::r,done,h,j,hj=>by
  simp only[VG,List.map_cons] at h
  cases ho:ops[i]? with
  | none=>rw[ho] at h;cases h
  | some o=>
   rw[ho] at h
   simp only[wa,Bool.and_eq_true,Bool.not_eq_true'] at h
   simp only[K3,List.map_cons,List.mem_cons] at hj
   rcases hj with rfl | hj
   ·exact fun hm=>by rw[YU.2 hm] at h;exact absurd h.1.1.1 (by simp)
   ·exact fun hm=>IA (l:=r) h.2 j hj (List.mem_cons.2 (.inr hm))
theorem Marks.same {ops:Array Oper} {Q3:Array Bool} {d d':List Nat} (M:Marks ops Q3 d) (h:∀ j,j∈d↔j∈d'):Marks ops Q3 d' where
 size:=M.size
 get:=fun j hj=>by rw[M.get j hj,h]
 get':=fun j=>by rw[M.get',h]
 lt:=fun j hj=>M.lt j ((h j).2 hj)
theorem IB {ops:Array Oper} {i:Nat} {o:Oper} (ho:ops[i]? = some o) (h:Km ops i=true):WC o=true∧o.guard=none∧∀ e,e ∉ o.after:=by
 simp only[Km,ho,Bool.and_eq_true,Option.isNone_iff_eq_none,List.isEmpty_iff] at h
 exact ⟨h.1.1,h.1.2,fun e he=>by have:e∈o.after.toList:=(by simpa using he);rw [h.2] at this; cases this⟩
theorem Ox {ops:Array Oper} {Q3:Array Bool} {done ea:List Nat} (M:Marks ops Q3 (ea++done)) (wg:∀ j∈ea,Km ops j=true) {i:Nat}:∀ {n:Nat} {j:Nat} {oj:Oper} {l:List Edge},ops[j]? = some oj→(∀ e∈l,e∈oj.after)→Cd ops done i n l=true→jw ops Q3 i j
 | 0,_,_,_,_,_,h=>by cases h
 | n+1,_,_,[],_,_,h=>by cases h
 | n+1,j,oj,e::r,hj,hl,h=>by
  simp only[Cd,Bool.or_eq_true,Bool.and_eq_true,Nat.beq_eq,Bool.not_eq_true'] at h
  rcases h with ⟨hb,h1 | ⟨h1,h2⟩⟩ | h
  ·exact .ER j oj e hj (hl e (by simp)) hb h1
  ·split at h2
   ·rename_i o ho
    have Qd:=(Array.getElem?_eq_some_iff.1 ho).1
    refine .step j oj e hj (hl e (by simp)) hb ((M.get e.on Qd).2 fun hm=>?_) (Ox M wg ho (fun e he=>by simpa using he) h2)
    rcases List.mem_append.1 hm with h3 | h3
    ·have h4:=(IB ho (wg _ h3)).2.2
     have:o.after.toList=[]:=List.eq_nil_iff_forall_not_mem.2 fun e he=>h4 e (by simpa using he)
     rw[this] at h2
     cases n <;> simp [Cd] at h2
    ·rw[YU.2 h3] at h1;cases h1
   ·cases h2
  ·exact Ox M wg hj (fun e he=>hl e (by simp [he])) h
theorem ak {L:Zd} {ops:Array Oper} {done ea:List Nat} {i:Nat} {oi:Oper} {Q3:Array Bool} (M:Marks ops Q3 (ea++done)) (wg:∀ j∈ea,Km ops j=true):∀ {r:List (Nat × Bool × Option Oper)},(∀ x∈r,x.2.2=ops[x.1]?)→ET nc L ops done i oi r=true→∀ x∈r,∀ oj,ops[x.1]? = some oj→jw ops Q3 i x.1∨((((calm oj=true∧Jt x.1 nc=false)∨still L oi=true)∨(kC oi=true∧kD oj=true))∧oi.apart ops oj=true)
 | [],_,_,x,hx,_,_=>by cases hx
 | (j,p,none)::r,_,h,_,_,_,_=>by cases h
 | (j,p,some o)::r,hr,h,x,hx,oj,Jh=>by
  simp only[ET,Bool.and_eq_true,Bool.or_eq_true] at h
  rcases List.mem_cons.1 hx with h1 | h1
  ·subst h1
   have e:some o=ops[j]? := hr (j,p,some o) (by simp)
   have Jh:ops[j]? = some oj:=Jh
   rw[Jh] at e
   cases e
   rcases h.1 with (h2 | h2) | h2
   ·obtain ⟨e,he,hb,wh⟩:=U6 h2
    exact .inl (.ER j _ e Jh (by simpa using he) hb wh)
   ·simp only[Bool.not_eq_true'] at h2;exact .inr h2
   ·exact .inl (Ox M wg Jh (fun e he=>by simpa using he) h2)
  ·exact ak M wg (fun y hy=>hr y (by simp [hy])) h.2 x h1 oj Jh
def EW (ops:Array Oper):Prop:=∀ (i j:Nat) (oi oj:Oper) (d:Nat),i≠j→Km ops i=true→ops[i]? = some oi→ops[j]? = some oj→oi.dst=some d→oj.dst≠some d
theorem qE.head {L:Zd} {ops:Array Oper} {R:List Nat} {Z0 Z:Nat→Prop} {i:Nat} {p:Bool} {q:Option Nat} {r:List En} {done:List Nat} {Q3:Array Bool} {s:St} {pl:List Pl} {a:Act} {w:World} (I:qE nc P L ops R base nt w0 Z0 Z ((i,p,q)::r) done Q3 s pl a w) :
  ∃ o,ops[i]? = some o∧i ∉ done∧(∀ e∈o.after,Region.binds .any e=true→e.on∈done) ∧
   (p=true→Km ops i=false∧ET nc L ops done i o ((VG r).map (fun ip=>(ip.1,ip.2,ops[ip.1]?))++Az ops R)=true)∧(p=false→EU ops done i ((VG r).map (fun ip=>(ip.1,ip.2,ops[ip.1]?))++Az ops R)=true) ∧
   wa nc L ops R ((VG r).map fun ip=>(ip.1,ip.2,ops[ip.1]?)) (i::done)=true:=by
 have h:=I.sched
 simp only[VG,List.map_cons] at h
 cases ho:ops[i]? with
 | none=>rw[ho] at h;cases h
 | some o=>
  rw[ho] at h
  simp only[wa,Bool.and_eq_true,Bool.not_eq_true'] at h
  refine ⟨o,rfl,fun hm=>by rw[YU.2 hm] at h;exact absurd h.1.1.1 (by simp),fun e he hb=>Iw h.1.1.2 e (by simpa using he) hb,fun hp=>?_,fun hp=>?_,h.2⟩
  ·subst hp;have:=h.1.2;simp only[Bool.and_eq_true,Bool.not_eq_true'] at this;exact this
  ·subst hp;exact h.1.2
theorem Oy {i:Nat} {p:Bool} {q:Option Nat} {l:List En} (h:(i,p,q)∈l):i∈K3 l:=List.mem_map.2 ⟨_,h,rfl⟩
theorem qE.next {L:Zd} {ops:Array Oper} {R:List Nat} (hD:EW ops) {Z0 Z:Nat→Prop} {i:Nat} {p:Bool} {r:List En} {done:List Nat} {Q3:Array Bool} {s s':St} {pl Qg:List Pl} {a:Act} {w w':World} (I:qE nc P L ops R base nt w0 Z0 Z ((i,p,none)::r) done Q3 s pl a w)
  {o:Oper} (ho:ops[i]? = some o) (v:Value) (T:Tr s.h pl w s'.h Qg w') (hr:Rel Z base nt s' Qg (a.put o.dst v) w') (hs:Jw Z base w0 s'.h Qg w') (hu:∀ d,o.dst≠some d→get s.fr d=.undef→get s'.fr d=.undef) :
  qE nc P L ops R base nt w0 Z0 Z r (i::done) (Q3.setIfInBounds i true) s' Qg (a.put o.dst v) w':=by
 obtain ⟨o',Zb,h1,h2,h3,h4,h5⟩:=I.head
 rw[ho] at Zb;cases Zb
 have Qd:=(Array.getElem?_eq_some_iff.1 ho).1
 have QD:∀ j p q,(j,p,q)∈r→j≠i:=fun j p q hj e=>IA h5 j (Oy hj) (by rw[e];simp)
 have IC:∀ j p q,(j,p,q)∈r→Km ops j=true→∀ oj d,ops[j]? = some oj→oj.dst=some d→o.dst≠some d:=fun j p q hj hl oj d Jh hd=>hD j i oj o d (QD j p q hj) hl Jh ho hd
 refine ⟨h5,fun j hj hd=>?_,fun j hj=>?_,(I.marks.set Qd).same fun j=>?_,fun j p b hj=>I.late j p b (List.mem_cons_of_mem _ hj),fun j p q hj=>I.lp j p q (List.mem_cons_of_mem _ hj),I.z,fun j p b hj=>I.z0 j p b (List.mem_cons_of_mem _ hj),I.Iz,fun j p q hj hl oj d Jh hd=>?_,hr,hs,fun j p b hj=>?_⟩
 ·simp only[List.mem_cons,not_or] at hd
  have:=I.cover j hj hd.2
  simp only[K3,List.map_cons,List.mem_cons] at this
  rcases this with (h | h) | h
  ·exact absurd h hd.1
  ·exact .inl h
  ·exact .inr h
 ·obtain ⟨k1,k2,k3⟩:=I.Ch j hj
  simp only[K3,List.map_cons,List.mem_cons,not_or] at k2
  exact ⟨fun h=>by
   rcases List.mem_cons.1 h with h | h
   ·exact k2.1 h
   ·exact k1 h,k2.2,k3⟩
 ·simp only[early,List.mem_cons,List.mem_append]
  constructor
  ·rintro (h | h | h)
   ·exact .inr (.inl h)
   ·exact .inl h
   ·exact .inr (.inr h)
  ·rintro (h | h | h)
   ·exact .inr (.inl h)
   ·exact .inl h
   ·exact .inr (.inr h)
 ·exact hu d (IC j p q hj hl oj d Jh hd) (I.EV j p q (List.mem_cons_of_mem _ hj) hl oj d Jh hd)
 ·exact (I.AB j p b (List.mem_cons_of_mem _ hj)).step T v fun oj d Jh hd=>IC j p _ hj (I.late j p b (List.mem_cons_of_mem _ hj)) oj d Jh hd
theorem Tr.snoc {h h':List Ob} {pl Qg:List Pl} {w w':World} (T:Tr h pl w h' Qg w') {b q:Nat} (hb:w.heap.size≤b) (ob:Ob):Tr h pl w (h'++[ob]) (Qg++[some (b,q)]) w' where
 JI:=fun c hc Qd=>⟨Ek (T.JI c hc Qd).1 fun q e=>by simp at e;omega,(T.JI c hc Qd).2⟩
 obj:=fun l o p ho hp=>by
  obtain ⟨o',p',h1,h2,h3⟩:=T.obj l o p ho hp
  exact ⟨o',p',jd h1,jd h2,h3⟩
 shape:=fun l o o' b q ho Zb hg hp c el hc=>by
  obtain ⟨o1,p1,h1,h2,h3⟩:=T.obj l o _ ho hp
  rw[jd h1] at Zb;cases Zb
  exact T.shape l o _ b q ho h1 hg hp c el hc
theorem qE.Ou {L:Zd} {ops:Array Oper} {R:List Nat} (hD:EW ops) (QI:base≤w0.w.heap.size) {Z0 Z:Nat→Prop} {i b:Nat} {p:Bool} {r:List En} {done:List Nat} {Q3:Array Bool} {s:St} {pl:List Pl} {a:Act} {w:World} (I:qE nc P L ops R base nt w0 Z0 Z ((i,p,some b)::r) done Q3 s pl a w)
  {o:Oper} (ho:ops[i]? = some o) {ob:Ob} {mk:Nat→D} (hL:x7 P o ob mk) (ht:Zi nt o.dst=true) :
  ∃ Z',qE nc P L ops R base nt w0 Z0 Z' r (i::done) Q3 ⟨Q8 s.fr o.dst (mk s.h.length),s.h++[ob]⟩ (pl++[some (b,0)]) a w:=by
 obtain ⟨o',Zb,h1,h2,h3,h4,h5⟩:=I.head
 rw[ho] at Zb;cases Zb
 have QD:∀ j p q,(j,p,q)∈r→j≠i:=fun j p q hj e=>IA h5 j (Oy hj) (by rw[e];simp)
 have Ci:=I.late i p b (List.mem_cons_self ..)
 have IC:∀ j p q,(j,p,q)∈r→Km ops j=true→∀ oj d,ops[j]? = some oj→oj.dst=some d→o.dst≠some d:=fun j p q hj hl oj d Jh hd=>hD j i oj o d (QD j p q hj) hl Jh ho hd
 obtain ⟨o1,d,w1,ρ,v,obj,g1,g2,g3,g4,g5,g6⟩:=(I.AB i p b (List.mem_cons_self ..)).run
 rw[ho] at g1;cases g1
 have EX:=(I.AB i p b (List.mem_cons_self ..)).KX
 have Cj:=(I.AB i p b (List.mem_cons_self ..)).low
 obtain ⟨an,val,k1,k2,k3⟩:=hL
 have ke:=k1 ρ w1
 rw[g3] at ke
 simp only[Result.ok.injEq,Next.value.injEq] at ke
 obtain ⟨rfl,ke2⟩:=ke
 have kE:obj=an:=by
  have e1:=heap_alloc_new w1 obj
  have e2:=heap_alloc_new w1 an
  rw[ke2,e2] at e1
  exact (Option.some.inj e1).symm
 subst kE
 have hdn:d<nt:=by rw[g2] at ht;exact Yo ht
 have hz:∀ c,Z c↔Z0 c∧c≠b∧c ∉ blocks r:=fun c=>by rw[I.z c];simp only[blocks,List.mem_cons,not_or]
 have Va:b ∉ blocks r:=by have:=I.Iz;simp only[blocks] at this;exact (List.nodup_cons.1 this).1
 have QbK:Z0 b:=I.z0 i p b (List.mem_cons_self ..)
 have VW:∀ c,free Z pl c→free (fun c=>Z0 c∧c ∉ blocks r) (pl++[some (b,0)]) c:=fun c hc=>⟨⟨((hz c).1 hc.1).1,((hz c).1 hc.1).2.2⟩,Ek hc.2 fun q e=>by simp at e;exact ((hz c).1 hc.1).2.1 e.1.symm⟩
 have hlen:pl.length=s.h.length:=I.rel.o.len
 have hx:=k2 (fun c=>Z0 c∧c ∉ blocks r) (s.h++[ob]) (pl++[some (b,0)]) w b g5
 have hO:=I.rel.o.Ou VW EX (Nat.le_trans QI Cj) hx
 have hv:=k3 (fun c=>Z0 c∧c ∉ blocks r) (s.h++[ob]) (pl++[some (b,0)]) w s.h.length b (by simp) (by rw[← hlen];simp)
 have YW:∀ {d v},Qv Z s.h pl w d v→Qv (fun c=>Z0 c∧c ∉ blocks r) (s.h++[ob]) (pl++[some (b,0)]) w d v:=fun hr=>hr.Ce (fun c hc _=>⟨VW c hc,rfl⟩) (fun _ _ _ a b=>⟨jd a,jd b⟩) (fun _ _ _ _=>rfl)
 refine ⟨fun c=>Z0 c∧c ∉ blocks r,h5,fun j hj hd=>?_,fun j hj=>?_,I.marks.same fun j=>?_,fun j p b hj=>I.late j p b (List.mem_cons_of_mem _ hj),fun j p q hj=>I.lp j p q (List.mem_cons_of_mem _ hj),fun c=>Iff.rfl,fun j p b hj=>I.z0 j p b (List.mem_cons_of_mem _ hj),?_,fun j p q hj hl oj d Jh hd=>?_,⟨I.rel.nt,I.rel.defers,fun t=>?_,hO⟩,⟨I.since.1,?_,⟨fun c hc=>?_,fun l c q e h0=>?_⟩⟩,fun j p b' hj=>?_⟩
 ·simp only[List.mem_cons,not_or] at hd
  have:=I.cover j hj hd.2
  simp only[K3,List.map_cons,List.mem_cons] at this
  rcases this with (h | h) | h
  ·exact absurd h hd.1
  ·exact .inl h
  ·exact .inr h
 ·obtain ⟨k1,k2,k3⟩:=I.Ch j hj
  simp only[K3,List.map_cons,List.mem_cons,not_or] at k2
  exact ⟨fun h=>by
   rcases List.mem_cons.1 h with h | h
   ·exact k2.1 h
   ·exact k1 h,k2.2,k3⟩
 ·simp only[early,List.mem_cons,List.mem_append]
  constructor
  ·rintro ((h | h) | h)
   ·exact .inr (.inl h)
   ·exact .inl h
   ·exact .inr (.inr h)
  ·rintro (h | h | h)
   ·exact .inl (.inr h)
   ·exact .inl (.inl h)
   ·exact .inr h
 ·have:=I.Iz;simp only[blocks] at this;exact (List.nodup_cons.1 this).2
 ·rw[Iy (IC j p q hj hl oj d Jh hd)]
  exact I.EV j p q (List.mem_cons_of_mem _ hj) hl oj d Jh hd
 ·rw[g2,Q8,y0]
  by_cases e:t=d
  ·rw[if_pos e,e,g6 hdn,← g4];exact hv
  ·rw[if_neg e];exact YW (I.rel.fr t)
 ·exact I.since.2.1.snoc Cj ob
 ·exact (I.z c).1 (I.since.2.2.new c hc) |> fun h=>⟨h.1,fun hm=>h.2 (by simp only[blocks,List.mem_cons];exact .inr hm)⟩
 ·rcases VB e with h1 | ⟨h1,Zw⟩
  ·exact (I.z c).1 (I.since.2.2.own l c q h1 h0) |> fun h=>⟨h.1,fun hm=>h.2 (by simp only[blocks,List.mem_cons];exact .inr hm)⟩
  ·simp at Zw;obtain ⟨rfl,rfl⟩:=Zw;exact ⟨QbK,Va⟩
 ·have P':=I.AB j p b' (List.mem_cons_of_mem _ hj)
  exact ⟨P'.run,Ek P'.KX fun q e=>by
   simp at e
   exact Va (by rw[e.1];exact wc.2 ⟨j,p,hj⟩),P'.low⟩
theorem AD {j b:Nat} {p:Bool} {l1 l2:List En} {x:En} (h:x∈l1++(j,p,some b)::l2):x∈l1++(j,p,none)::l2∨x=(j,p,some b):=by
 rcases List.mem_append.1 h with h | h
 ·exact .inl (List.mem_append.2 (.inl h))
 ·rcases List.mem_cons.1 h with h | h
  ·exact .inr h
  ·exact .inl (List.mem_append.2 (.inr (List.mem_cons_of_mem _ h)))
theorem aq {j b:Nat} {p:Bool} {l1 l2:List En} {i c:Nat} {q:Bool} (h:(i,q,some c)∈l1++(j,p,none)::l2):(i,q,some c)∈l1++(j,p,some b)::l2:=by
 rcases List.mem_append.1 h with h | h
 ·exact List.mem_append.2 (.inl h)
 ·rcases List.mem_cons.1 h with h | h
  ·cases h
  ·exact List.mem_append.2 (.inr (List.mem_cons_of_mem _ h))
theorem qE.exec {L:Zd} {ops:Array Oper} {R:List Nat} (hD:EW ops) (QI:base≤w0.w.heap.size) {Z0 Z:Nat→Prop} {j:Nat} {p:Bool} {l1 l2:List En} {done:List Nat} {Q3:Array Bool} {s:St} {pl:List Pl} {a:Act} {w:World} (I:qE nc P L ops R base nt w0 Z0 Z (l1++(j,p,none)::l2) done Q3 s pl a w)
  {o:Oper} (ho:ops[j]? = some o) (hl:Km ops j=true) {d:Nat} (hd:o.dst=some d) {v:Value} {obj:Obj} (QS:(execOp a.eval o).run P w=.ok (.value v) (w.alloc obj)) (huq:∀ i p' q,(i,p',q)∈l1++(j,p,none)::l2→q≠none→i≠j) :
  ∃ Z',qE nc P L ops R base nt w0 Z0 Z' (l1++(j,p,some w.heap.size)::l2) done (Q3.setIfInBounds j true) s pl (a.put o.dst v) (w.alloc obj):=by
 have Qd:=(Array.getElem?_eq_some_iff.1 ho).1
 have hm:(j,p,none)∈l1++(j,p,none)::l2:=List.mem_append.2 (.inr (List.mem_cons_self ..))
 have e:∀ k,k<w.heap.size→(w.alloc obj).heap[k]? = w.heap[k]? := fun k hk=>YP w obj k hk
 have ZU:(w.alloc obj).heap[w.heap.size]? = some obj:=heap_alloc_new w obj
 have Zz:w.heap.size<(w.alloc obj).heap.size:=qt ZU
 have WB:base≤w.heap.size:=Nat.le_trans QI I.since.1.size
 have kv:∀ c,c∈blocks (l1++(j,p,none)::l2)→c<w.heap.size:=fun c hc=>by
  obtain ⟨i,q,hq⟩:=wc.1 hc
  obtain ⟨_,_,_,_,_,_,_,_,_,_,h5,_⟩:=(I.AB i q c hq).run
  exact qt h5
 have Va:w.heap.size ∉ blocks (l1++(j,p,none)::l2):=fun h=>by have:=kv _ h;omega
 have EY:Z0 w.heap.size:=((I.z _).1 (I.since.2.2.new _ (Nat.le_refl _))).1
 have Js:∀ c,c∈blocks (l1++(j,p,some w.heap.size)::l2)↔c∈blocks (l1++(j,p,none)::l2)∨c=w.heap.size:=fun c=>by
  rw[wc,wc]
  constructor
  ·rintro ⟨i,q,h⟩
   rcases AD h with h | h
   ·exact .inl ⟨i,q,h⟩
   ·cases h;exact .inr rfl
  ·rintro (⟨i,q,h⟩ | rfl)
   ·exact ⟨i,q,aq h⟩
   ·exact ⟨j,p,List.mem_append.2 (.inr (List.mem_cons_self ..))⟩
 have hZ:∀ c,(Z0 c∧c ∉ blocks (l1++(j,p,some w.heap.size)::l2))↔Z c∧c≠w.heap.size:=fun c=>by
  rw[I.z c,Js c,not_or,and_assoc]
 have VW:∀ c,free Z pl c→c<w.heap.size→free (fun c=>Z0 c∧c ∉ blocks (l1++(j,p,some w.heap.size)::l2)) pl c∧(w.alloc obj).heap[c]? = w.heap[c]? := fun c hc Qd=>⟨⟨(hZ c).2 ⟨hc.1,by omega⟩,hc.2⟩,e c Qd⟩
 have YW:∀ {d v},Qv Z s.h pl w d v→Qv (fun c=>Z0 c∧c ∉ blocks (l1++(j,p,some w.heap.size)::l2)) s.h pl (w.alloc obj) d v:=fun hr=>hr.Ce VW (fun _ _ _ a b=>⟨a,b⟩) (fun l b q hp=>e b (I.rel.o.lt hp).1)
 have T:Tr s.h pl w s.h pl (w.alloc obj):=Tr.ext I.rel.o e
 refine ⟨fun c=>Z0 c∧c ∉ blocks (l1++(j,p,some w.heap.size)::l2),?_,?_,?_,(I.marks.set Qd).same fun i=>?_,fun i q b h=>?_,fun i q u h hl=>?_,fun c=>Iff.rfl,fun i q b h=>?_,Ow _ Va I.Iz,fun i q u h Ci oi di ID IE=>?_,⟨by rw[hd];simp [Act.put,I.rel.nt],by rw[hd];exact I.rel.defers,fun t=>?_,I.rel.o.Ce VW e⟩,⟨I.since.1.trans (vO WB obj),I.since.2.1.trans T,⟨fun c hc=>(hZ c).2 ⟨I.since.2.2.new c (by omega),by omega⟩,fun l c q e1 h0=>(hZ c).2 ⟨I.since.2.2.own l c q e1 h0,by have:=(I.rel.o.lt e1).1;omega⟩⟩⟩,fun i q b h=>?_⟩
 ·have:=I.sched;simpa [VG] using this
 ·have:=I.cover;simpa [K3] using this
 ·have:=I.Ch;simpa [K3] using this
 ·simp only[List.mem_cons,List.mem_append,AA]
  constructor
  ·rintro (rfl | ⟨q,b,h⟩ | h)
   ·exact .inl ⟨p,_,.inr (.inl rfl)⟩
   ·exact .inl ⟨q,b,by have:=aq (b:=w.heap.size) (List.mem_append.2 (h.imp id List.mem_cons.2));simpa using this⟩
   ·exact .inr h
  ·rintro (⟨q,b,h⟩ | h)
   ·rcases AD (List.mem_append.2 (h.imp id List.mem_cons.2)) with h | h
    ·exact .inr (.inl ⟨q,b,by simpa using h⟩)
    ·cases h;exact .inl rfl
   ·exact .inr (.inr h)
 ·rcases AD h with h | h
  ·exact I.late i q b h
  ·cases h;exact hl
 ·rcases AD h with h | h
  ·exact I.lp i q u h hl
  ·cases h;exact I.lp j p none hm hl
 ·rcases AD h with h | h
  ·exact I.z0 i q b h
  ·cases h;exact EY
 ·rcases AD h with h | h
  ·exact I.EV i q u h Ci oi di ID IE
  ·cases h;exact I.EV j p none hm Ci oi di ID IE
 ·by_cases ht:t=d
  ·have:=I.EV j p none hm hl o d ho hd
   rw[ht,this];exact .cl _ _ (.undef _)
  ·rw[aj (by rw[hd];exact fun h=>ht (Option.some.inj h).symm)]
   exact YW (I.rel.fr t)
 ·rcases AD h with h | h
  ·refine (I.AB i q b h).step T v fun oi di ID IE=>?_
   exact hD i j oi o di (huq i q (some b) h (by simp)) (I.late i q b h) ID ho IE
  ·cases h
   refine ⟨⟨o,d,w,a.eval,v,obj,ho,hd,QS,rfl,ZU,fun hn=>?_⟩,fun l q e1=>?_,I.since.1.size⟩
   ·have:d<a.tmps.size:=by rw[I.rel.nt];exact hn
    simp [Act.put,hd,Array.getD_eq_getD_getElem?,this]
   ·have:=(I.rel.o.lt e1).1;omega
def wi (nc:List Nat) (P:Program) (base nt:Nat) (w0:Start) (ops:Array Oper) (K:St→Prop):Nat→List Nat→List Nat→St→Prop
 | 0,_,_,s=>K s
 | n+1,R,done,s=>∀ i∈R,∀ o,ops[i]? = some o→XQ done o.after.toList=false→AX P base nt w0 (wi nc P base nt w0 ops K n (R.erase i) (i::done)) [(false,VX (Jt i nc) o,guardOf ops o)] s
def zA (ops:Array Oper):List Nat→List Nat→Bool
 | [],_=>true
 | i::r,done=>(match ops[i]? with
  | some o=>!XQ done o.after.toList
  | none=>false) && zA ops r (i::done)
theorem Oz {done Cm:List Nat} (h:∀ j∈done,j∈Cm):∀ {l:List Edge},XQ done l=false→XQ Cm l=false
 | [],_=>rfl
 | e::r,hh=>by
  simp only[XQ,Bool.or_eq_false_iff,Bool.and_eq_false_iff,Bool.not_eq_false'] at hh ⊢
  exact ⟨hh.1.imp id fun k=>YU.2 (h _ (YU.1 k)),Oz h hh.2⟩
theorem ar {ops:Array Oper}:∀ {R done Cm:List Nat},(∀ j∈done,j∈Cm)→zA ops R done=true→zA ops R Cm=true
 | [],_,_,_,_=>rfl
 | i::r,done,Cm,h,hh=>by
  simp only[zA,Bool.and_eq_true] at hh ⊢
  refine ⟨?_,ar (fun j hj=>by
   rcases List.mem_cons.1 hj with rfl | hj
   ·exact List.mem_cons_self ..
   ·exact List.mem_cons_of_mem _ (h j hj)) hh.2⟩
  have h1:=hh.1
  cases ho:ops[i]? with
  | none=>rw[ho] at h1;cases h1
  | some o=>
   rw[ho] at h1
   simp only[Bool.not_eq_true'] at h1 ⊢
   exact Oz h h1
theorem au {ops:Array Oper} {j:Nat}:∀ {R done:List Nat},zA ops R done=true→zA ops (R.erase j) (j::done)=true
 | [],_,_=>rfl
 | i::r,done,h=>by
  simp only[zA,Bool.and_eq_true] at h
  by_cases JN:i=j
  ·subst JN;rw[List.erase_cons_head];exact h.2
  ·rw[List.erase_cons_tail (by simpa using JN)]
   simp only[zA,Bool.and_eq_true]
   refine ⟨?_,ar (fun k hk=>?_) (au (j:=j) h.2)⟩
   ·have h1:=h.1
    cases ho:ops[i]? with
    | none=>rw[ho] at h1;cases h1
    | some o=>
     rw[ho] at h1
     simp only[Bool.not_eq_true'] at h1 ⊢
     exact Oz (fun k hk=>List.mem_cons_of_mem _ hk) h1
   ·simp only[List.mem_cons] at hk ⊢
    rcases hk with h1 | h1 | h1
    ·exact .inr (.inl h1)
    ·exact .inl h1
    ·exact .inr (.inr h1)
theorem QbM {ops:Array Oper} (QI:base≤w0.w.heap.size) {F:St→Prop} {Z:Nat→Prop} {i:Nat} {o:Oper} (ho:ops[i]? = some o) {s:St} {pl:List Pl} {a:Act} {w:World} (r:Rel Z base nt s pl a w) (b:Jw Z base w0 s.h pl w)
  (h:AX P base nt w0 F [(false,VX (Jt i nc) o,guardOf ops o)] s):wpOp P ops (fun _ _ _=>False) i (fun a' w'=>YV nc ops i w w'∧∃ s' Qg,F s'∧Rel Z base nt s' Qg a' w'∧Jw Z base w0 s'.h Qg w') a w:=by
 have skip:∀ (s1:St),s1.h=s.h→Rel Z base nt s1 pl a w→K0 (guardOf ops o) a.tmps=false→Zi nt (VX (Jt i nc) o).dst=true→F ⟨Q8 s1.fr (VX (Jt i nc) o).dst (.raw Go.undef),s1.h⟩→_:=fun s1 hh r1 hw ht hk=>by
  have hy:YieldsIf P ops (fun _:World=>True) o Go.undef a:=.inr ⟨by rw[B3];exact hw,rfl⟩
  have Wd:Rel Z base nt ⟨Q8 s1.fr o.dst (.raw Go.undef),s1.h⟩ pl (a.put o.dst Go.undef) w:=r1.skip ht
  exact hy.wpOp (P:=P) (Q:=fun _ _ _=>False) (K:=fun a' w'=>YV nc ops i w w'∧∃ s' Qg,F s'∧Rel Z base nt s' Qg a' w'∧Jw Z base w0 s'.h Qg w') ho trivial ⟨by rw[Ay ho];exact .ext (Ext.refl _),_,pl,hk,Wd,by rw[show (⟨Q8 s1.fr o.dst (.raw Go.undef),s1.h⟩:St).h=s.h from hh];exact b⟩
 have go:∀ (s1:St),s1.h=s.h→Rel Z base nt s1 pl a w→K0 (guardOf ops o) a.tmps=true→KP P base nt w0 false (VX (Jt i nc) o) F s1→wpOp P ops (fun _ _ _=>False) i (fun a' w'=>YV nc ops i w w'∧∃ s' Qg,F s'∧Rel Z base nt s' Qg a' w'∧Jw Z base w0 s'.h Qg w') a w:=fun s1 hh r1 hw hk=>by
  unfold wpOp
  simp only[ho,B3,hw,if_true]
  refine .inl ?_
  have:=hk.ae QI Z trivial pl a w r1 (by rw[hh];exact b)
  rw[af] at this
  refine Oper.wp_mono (fun a' w' hq=>?_) this
  obtain ⟨he,d,h',Qg,v,hF,r',b',T,rfl⟩:=hq
  exact ⟨by rw[Ay ho];exact he,_,Qg,hF,r',b'⟩
 simp only[AX] at h
 split at h
 ·rename_i hg;exact go s rfl r (by rw[hg];rfl) h
 ·rename_i x hg;exact skip s rfl r (by rw[hg];rfl) h.1 h.2
 ·rename_i t x hg
  split at h
  ·rename_i y hy
   have hr:=r.fr t
   rw[hy] at hr
   have hv:=ZC hr
   have hb:=Oj hv
   by_cases Yg:y=x
   ·refine go ⟨put s.fr t (.raw (.bool x)),s.h⟩ rfl (r.tell (t:=t) (d:=.raw (.bool x)) (by rw[hv,Yg];exact .cl _ _ (.raw _))) ?_ (h.1 Yg)
    rw[hg];simp [K0,hb,Yg]
   ·have xX:y=(!x):=by cases x <;> cases y <;> simp_all
    have:=h.2 xX
    refine skip ⟨put s.fr t (.raw (.bool !x)),s.h⟩ rfl (r.tell (t:=t) (d:=.raw (.bool (!x))) (by rw[hv,xX];exact .cl _ _ (.raw _))) ?_ this.1 this.2
    rw[hg];simp [K0,hb,Yg]
  ·rename_i vs hy
   have hr:=r.fr t
   rw[hy] at hr
   refine skip s rfl r ?_ h.1 h.2
   rw[hg]
   simp [K0,Ol (ZC hr)]
  ·exact h.elim
theorem OA {ops:Array Oper} {K:St→Prop} (QI:base≤w0.w.heap.size) {Z:Nat→Prop}:∀ (n:Nat) (R done:List Nat) (Q3:Array Bool) (s:St) (pl:List Pl) (a:Act) (w:World),R.length=n→Marks ops Q3 done→(∀ j,j<ops.size→j ∉ done→j∈R)→(∀ j∈R,j ∉ done)→R.Nodup→zA ops R done=true →
  Rel Z base nt s pl a w→Jw Z base w0 s.h pl w→wi nc P base nt w0 ops K n R done s→zz P ops (fun a w=>∃ s pl,K s∧Rel Z base nt s pl a w∧Jw Z base w0 s.h pl w) (YV nc ops) n Q3 a w
 | 0,R,done,Q3,s,pl,a,w,hl,M,hc,hn,hd,ht,r,b,h=>by
  have:R=[]:=List.length_eq_zero_iff.1 hl
  subst this
  refine ⟨List.eq_nil_iff_forall_not_mem.2 fun j hj=>?_,s,pl,h,r,b⟩
  obtain ⟨h1,o,ho,_⟩:=mem_ready.1 hj
  have Qd:=(Array.getElem?_eq_some_iff.1 ho).1
  have:=hc j Qd ((M.get j Qd).1 h1)
  cases this
 | n+1,R,done,Q3,s,pl,a,w,hl,M,hc,hn,hd,ht,r,b,h=>by
  have ready:∀ j o,ops[j]? = some o→j ∉ done→XQ done o.after.toList=false→j∈Region.ready .any ops Q3:=fun j o ho hj hh=>by
   have Qd:=(Array.getElem?_eq_some_iff.1 ho).1
   exact mem_ready.2 ⟨(M.get j Qd).2 hj,o,ho,fun e he hb=>(M.get' e.on).2 ⟨Iw hh e (by simpa using he) hb,M.lt _ (Iw hh e (by simpa using he) hb)⟩⟩
  refine ⟨fun e=>?_,fun j hj=>?_⟩
  ·cases R with
   | nil=>cases hl
   | cons i rr=>
    simp only[zA,Bool.and_eq_true] at ht
    have h1:=ht.1
    split at h1
    ·rename_i o ho
     have:=ready i o ho (hn i (List.mem_cons_self ..)) (by simpa using h1)
     rw[e] at this;cases this
    ·cases h1
  ·obtain ⟨h1,o,ho,K9⟩:=mem_ready.1 hj
   have Qd:=(Array.getElem?_eq_some_iff.1 ho).1
   have hjd:=(M.get j Qd).1 h1
   have IF:=hc j Qd hjd
   have hh:XQ done o.after.toList=false:=by
    cases hb:XQ done o.after.toList
    ·rfl
    ·obtain ⟨e,he,hbi,wh⟩:=U7 hb
     exact absurd ((M.get' e.on).1 (K9 e (by simpa using he) hbi)).1 wh
   refine wpOp_mono (fun a' w' h3=>?_) (QbM QI ho r b (h j IF o ho hh))
   obtain ⟨h4,s',Qg,hF,r',b'⟩:=h3
   refine ⟨h4,OA QI n (R.erase j) (j::done) (Q3.setIfInBounds j true) s' Qg a' w' (by rw[List.length_erase_of_mem IF,hl];rfl) (M.set Qd) (fun k hk Z9=>?_) (fun k hk Z9=>?_) (hd.erase _) (au ht) r' b' hF⟩
   ·simp only[List.mem_cons,not_or] at Z9
    exact (List.mem_erase_of_ne Z9.1).2 (hc k hk Z9.2)
   ·have hkR:=List.mem_of_mem_erase hk
    rcases List.mem_cons.1 Z9 with rfl | h5
    ·exact (hd.not_mem_erase) hk
    ·exact hn k hkR h5
theorem QbQ {L:Zd} (QbR:Zr P L) {ops:Array Oper} {R D0:List Nat} {K:St→Prop} (Ca:Region.noSelect ops=true) (QI:base≤w0.w.heap.size) (hD:EW ops) (hL:∀ j o,ops[j]? = some o→Km ops j=true→(∃ ob mk,x7 P o ob mk)∧∃ d,o.dst=some d) {Z0:Nat→Prop} (aw:R.Nodup) (ay:zA ops R D0=true) :
  ∀ (m:Nat) (l:List En) (done:List Nat) (Q3:Array Bool) (s:St) (pl:List Pl) (a:Act) (w:World) (Z:Nat→Prop),l.length+VH l≤m→qE nc P L ops R base nt w0 Z0 Z l done Q3 s pl a w→(∀ j,j∈D0↔j∈K3 l∨j∈done)→AX P base nt w0 (wi nc P base nt w0 ops K R.length R D0) (J7 nc ops (VG l)) s →
   zz P ops (fun a w=>∃ s pl,K s∧Rel Z0 base nt s pl a w∧Jw Z0 base w0 s.h pl w) (YV nc ops) (R.length+VH l) Q3 a w:=by
 intro m
 induction m with
 | zero=>
  intro l done Q3 s pl a w Z hm I EZ h
  cases l with
  | cons x r=>simp at hm
  | nil=>
   have hZ:Z=Z0:=funext fun b=>propext (by rw[I.z b];simp [blocks])
   subst hZ
   have AF:∀ j,j∈D0↔j∈done:=fun j=>by rw[EZ j];simp [K3]
   refine OA QI R.length R D0 Q3 s pl a w rfl (I.marks.same fun j=>by rw[AF j];simp [early]) (fun j hj hd=>?_) (fun j hj=>by rw[AF j];exact (I.Ch j hj).1) aw ay I.rel I.since h
   have:=I.cover j hj (fun h=>hd ((AF j).2 h))
   simpa [K3] using this
 | succ m ih=>
  intro l done Q3 s pl a w Z hm I EZ h
  cases l with
  | nil=>
   have hZ:Z=Z0:=funext fun b=>propext (by rw[I.z b];simp [blocks])
   subst hZ
   have AF:∀ j,j∈D0↔j∈done:=fun j=>by rw[EZ j];simp [K3]
   refine OA QI R.length R D0 Q3 s pl a w rfl (I.marks.same fun j=>by rw[AF j];simp [early]) (fun j hj hd=>?_) (fun j hj=>by rw[AF j];exact (I.Ch j hj).1) aw ay I.rel I.since h
   have:=I.cover j hj (fun h=>hd ((AF j).2 h))
   simpa [K3] using this
  | cons x r=>
   obtain ⟨i,p,q⟩:=x
   obtain ⟨o,ho,ZI,az,QbS,QbT,XM⟩:=I.head
   have Qd:=(Array.getElem?_eq_some_iff.1 ho).1
   have kF:J7 nc ops (VG ((i,p,q)::r))=(p,VX (Jt i nc) o,guardOf ops o)::J7 nc ops (VG r):=by simp [J7,VG,ho]
   rw[kF] at h
   have wg:∀ j∈early ((i,p,q)::r),Km ops j=true:=fun j hj=>by obtain ⟨p',b,hb⟩:=AA.1 hj;exact I.late j p' b hb
   have QD:∀ j p q,(j,p,q)∈r→j≠i:=fun j p q hj e=>IA XM j (Oy hj) (by rw[e];simp)
   have IG:∀ j,j∈D0↔j∈K3 r∨j∈i::done:=fun j=>by
    rw[EZ j]
    simp only[K3,List.map_cons,List.mem_cons]
    constructor
    ·rintro ((h | h) | h)
     ·exact .inr (.inl h)
     ·exact .inl h
     ·exact .inr (.inr h)
    ·rintro (h | h | h)
     ·exact .inl (.inr h)
     ·exact .inl (.inl h)
     ·exact .inr h
   cases q with
   | some b=>
    have Ci:=I.late i p b (List.mem_cons_self ..)
    obtain ⟨g1,g2,_⟩:=IB ho Ci
    have hp:=I.lp i p _ (List.mem_cons_self ..) Ci
    subst hp
    have hg:guardOf ops o=none:=by simp [guardOf,g2]
    rw[hg] at h
    simp only[AX,KP] at h
    rw[show WC (VX (Jt i nc) o)=true from g1] at h
    obtain ⟨ob,mk,h1,h2,h3⟩:=h
    obtain ⟨Z',I'⟩:=I.Ou hD QI ho (show x7 P o ob mk from h1) h2
    have:=ih r (i::done) Q3 _ _ a w Z' (by simp only[List.length_cons,VH] at hm;omega) I' IG h3
    exact this
   | none=>
    have OB:i ∉ early ((i,p,none)::r)++done:=fun hm=>by
     rcases List.mem_append.1 hm with h1 | h1
     ·obtain ⟨p',b,hb⟩:=AA.1 h1
      rcases List.mem_cons.1 hb with h2 | h2
      ·cases h2
      ·exact QD _ _ _ h2 rfl
     ·exact ZI h1
    have OC:i∈Region.ready .any ops Q3:=mem_ready.2 ⟨(I.marks.get i Qd).2 OB,o,ho,fun e he hb=>(I.marks.get' e.on).2 ⟨List.mem_append.2 (.inr (az e he hb)),I.marks.lt _ (List.mem_append.2 (.inr (az e he hb)))⟩⟩
    have BT:r.length+VH r≤m:=by simp only[List.length_cons,VH] at hm;omega
    have first:p=true→∀ (s1:St) (v:Value),s1.h=s.h→YieldsIf P ops (fun w'=>(still L o=true∨Ext w w')∨(kC o=true∧Xg w w')) o v a →
      Rel Z base nt s1 pl (a.put o.dst v) w→(∀ d,o.dst≠some d→get s.fr d=.undef→get s1.fr d=.undef)→AX P base nt w0 (wi nc P base nt w0 ops K R.length R D0) (J7 nc ops (VG r)) s1→zz P ops (fun a w=>∃ s pl,K s∧Rel Z0 base nt s pl a w∧Jw Z0 base w0 s.h pl w) (YV nc ops) (R.length+VH r+1) Q3 a w:=by
     intro hp s1 v hh hy hr hu hk
     have I':=I.next hD ho v (s':=s1) (by rw[hh];exact Tr.refl _ _ _) hr (by rw[hh];exact I.since) hu
     have II:=ih r (i::done) (Q3.setIfInBounds i true) s1 pl (a.put o.dst v) w Z BT I' IG hk
     refine QbD (fun w=>by rw[Ay ho];exact .ext (Ext.refl _)) ho (Region.noSelect_spec Ca) _ Q3 a w (.inl (.inr (Ext.refl _))) (fun j oj hj qC hu'=>?_) OC hy II
     have E0:=(Array.getElem?_eq_some_iff.1 hj).1
     have E3:=(I.marks.get j E0).1 hu'
     have E4:=I.cover j E0 fun hd=>E3 (List.mem_append.2 (.inr hd))
     simp only[K3,List.map_cons,List.mem_cons] at E4
     have VI:∃ y∈(VG r).map (fun ip=>(ip.1,ip.2,ops[ip.1]?))++Az ops R,y.1=j∧y.2.2=ops[j]? := by
      rcases E4 with (h | h) | h
      ·exact absurd h qC
      ·obtain ⟨y,WY,Ym⟩:=List.mem_map.1 h
       exact ⟨(y.1,y.2.1,ops[y.1]?),List.mem_append.2 (.inl (List.mem_map.2 ⟨(y.1,y.2.1),List.mem_map.2 ⟨y,WY,rfl⟩,rfl⟩)),Ym,by rw[Ym]⟩
      ·exact ⟨(j,false,ops[j]?),List.mem_append.2 (.inr (List.mem_map.2 ⟨j,h,rfl⟩)),rfl,rfl⟩
     obtain ⟨y,WY,Ym,hy3⟩:=VI
     have:=ak I.marks wg (r:=(VG r).map (fun ip=>(ip.1,ip.2,ops[ip.1]?))++Az ops R) (fun x hx=>by
      rcases List.mem_append.1 hx with hx | hx
      ·obtain ⟨z,_,rfl⟩:=List.mem_map.1 hx;rfl
      ·obtain ⟨z,_,rfl⟩:=List.mem_map.1 hx;rfl) (QbS hp).2 y WY oj (by rw[Ym];exact hj)
     rw[Ym] at this
     refine this.imp id fun h=>⟨fun w1 w2 hc hs=>?_,h.2⟩
     rw[Ay hj] at hc
     rcases h.1 with (h1 | h1) | h1
     ·have he:=hc.calm (by rw[QbG];simp [h1.1,h1.2])
      rcases hs with (hs | hs) | hs
      ·exact .inl (.inl hs)
      ·exact .inl (.inr (hs.trans he))
      ·exact .inr ⟨hs.1,hs.2.trans (.ext he)⟩
     ·exact .inl (.inl h1)
     ·have he:=hc.ins (by simpa [kD,VX] using h1.2)
      rcases hs with (hs | hs) | hs
      ·exact .inl (.inl hs)
      ·exact .inr ⟨h1.1,(Xg.ext hs).trans he⟩
      ·exact .inr ⟨hs.1,hs.2.trans he⟩
    have alone:p=false→wpOp P ops (fun _ _ _=>False) i (fun a' w'=>YV nc ops i w w'∧zz P ops (fun a w=>∃ s pl,K s∧Rel Z0 base nt s pl a w∧Jw Z0 base w0 s.h pl w) (YV nc ops) (R.length+VH r) (Q3.setIfInBounds i true) a' w') a w →
      zz P ops (fun a w=>∃ s pl,K s∧Rel Z0 base nt s pl a w∧Jw Z0 base w0 s.h pl w) (YV nc ops) (R.length+VH r+1) Q3 a w:=by
     intro hp hi
     refine ⟨fun e=>(by rw[e] at OC;cases OC),fun j hj=>?_⟩
     by_cases qC:j=i
     ·subst qC;exact hi
     ·obtain ⟨Is,oj,Jh,K9⟩:=mem_ready.1 hj
      have E0:=(Array.getElem?_eq_some_iff.1 Jh).1
      have E3:=(I.marks.get j E0).1 Is
      have E4:=I.cover j E0 fun hd=>E3 (List.mem_append.2 (.inr hd))
      simp only[K3,List.map_cons,List.mem_cons] at E4
      have aA:=fun x hx=>ai (r:=(VG r).map (fun ip=>(ip.1,ip.2,ops[ip.1]?))++Az ops R) (fun x hx=>by
       rcases List.mem_append.1 hx with hx | hx
       ·obtain ⟨z,_,rfl⟩:=List.mem_map.1 hx;rfl
       ·obtain ⟨z,_,rfl⟩:=List.mem_map.1 hx;rfl) (QbT hp) x hx
      have held:Cg ops done i oj.after.toList=true→False:=fun h1=>by
       obtain ⟨e,he,hb,wh,Cn⟩:=ag h1
       have h2:=((I.marks.get' e.on).1 (K9 e (by simpa using he) hb)).1
       rcases List.mem_append.1 h2 with h3 | h3
       ·rcases Cn with h4 | h4
        ·rw[wg _ h3] at h4;cases h4
        ·exact OB (List.mem_append.2 (.inl (by rw[← h4];exact h3)))
       ·exact wh h3
      have IF:j ∉ R:=fun h=>by
       rcases aA (j,false,ops[j]?) (List.mem_append.2 (.inr (List.mem_map.2 ⟨j,h,rfl⟩))) oj Jh with h1 | h1
       ·have h9:Km ops j=true:=h1
        rw[(I.Ch j h).2.2] at h9;cases h9
       ·exact held h1
      obtain ⟨y,WY,Ym⟩:=List.mem_map.1 ((E4.resolve_right IF).resolve_left qC)
      obtain ⟨j',pj,qj⟩:=y
      obtain rfl:j'=j:=Ym
      have hqj:qj=none:=by
       cases qj with
       | none=>rfl
       | some b=>exact absurd (List.mem_append.2 (.inl (AA.2 ⟨pj,b,List.mem_cons_of_mem _ WY⟩))) E3
      subst hqj
      have OD:Km ops j'=true:=by
       rcases aA (j',pj,ops[j']?) (List.mem_append.2 (.inl (List.mem_map.2 ⟨(j',pj),List.mem_map.2 ⟨_,WY,rfl⟩,rfl⟩))) oj Jh with h1 | h1
       ·exact h1
       ·exact (held h1).elim
      obtain ⟨g1,g2,_⟩:=IB Jh OD
      obtain ⟨⟨ob,mk,obj,val,k1,_⟩,d,hd⟩:=hL j' oj Jh OD
      obtain ⟨r1,r2,hr⟩:=List.append_of_mem WY
      have hl:(i,p,none)::r=((i,p,none)::r1)++(j',pj,none)::r2:=by rw[hr];rfl
      have I0:=I
      rw[hl] at I0
      obtain ⟨Z',I'⟩:=I0.exec hD QI Jh OD hd (k1 a.eval w) (fun i' p' q' hm hq e=>by
       subst e
       rw[← hl] at hm
       cases q' with
       | none=>exact hq rfl
       | some b=>exact E3 (List.mem_append.2 (.inl (AA.2 ⟨p',b,hm⟩))))
      have hc:VH r=VH (((i,p,none)::r1)++(j',pj,some w.heap.size)::r2):=by
       have:=Ov (j:=j') (p:=pj) (b:=w.heap.size) (l2:=r2) ((i,p,none)::r1)
       rw[← hl] at this
       simp only[VH] at this
       omega
      have OE:VG (((i,p,none)::r1)++(j',pj,some w.heap.size)::r2)=VG ((i,p,none)::r):=by rw[hl];simp [VG]
      have II:=ih _ done (Q3.setIfInBounds j' true) s pl (a.put oj.dst (val w.heap.size)) (w.alloc obj) Z' (by
       have h1:(((i,p,none)::r1)++(j',pj,some w.heap.size)::r2).length=r.length+1:=by rw[hr];simp
       have h2:r.length+1+(VH r+1)≤m+1:=hm
       rw[h1,← hc];omega) I' (fun k=>by rw[EZ k];rw[hl];simp [K3]) (by rw[OE,kF];exact h)
      rw[← hc] at II
      unfold wpOp
      simp only[Jh]
      have hw:Region.wanted oj (yielded ops a.tmps)=true:=by simp [Region.wanted,g2]
      rw[if_pos hw]
      refine .inl ?_
      unfold Oper.wp
      rw[k1 a.eval w]
      simp only[Oper.upon_value]
      exact ⟨by rw[Ay Jh];exact .ext fun k hk=>YP w obj k hk,II⟩
    have skip:∀ (s1:St),s1.h=s.h→Rel Z base nt s1 pl a w→(∀ d,get s.fr d=.undef→get s1.fr d=.undef)→K0 (guardOf ops o) a.tmps=false→Zi nt (VX (Jt i nc) o).dst=true→AX P base nt w0 (wi nc P base nt w0 ops K R.length R D0) (J7 nc ops (VG r)) ⟨Q8 s1.fr (VX (Jt i nc) o).dst (.raw Go.undef),s1.h⟩ →
      zz P ops (fun a w=>∃ s pl,K s∧Rel Z0 base nt s pl a w∧Jw Z0 base w0 s.h pl w) (YV nc ops) (R.length+VH r+1) Q3 a w:=by
     intro s1 hh r1 hu hw ht hk
     have hy:YieldsIf P ops (fun w'=>(still L o=true∨Ext w w')∨(kC o=true∧Xg w w')) o Go.undef a:=.inr ⟨by rw[B3];exact hw,rfl⟩
     have Wd:Rel Z base nt ⟨Q8 s1.fr o.dst (.raw Go.undef),s1.h⟩ pl (a.put o.dst Go.undef) w:=r1.skip ht
     have qF:∀ d,o.dst≠some d→get s.fr d=.undef→get (Q8 s1.fr o.dst (.raw Go.undef)) d=.undef:=fun d hd h=>by rw[Iy hd];exact hu d h
     cases p with
     | true=>exact first rfl ⟨Q8 s1.fr o.dst (.raw Go.undef),s1.h⟩ Go.undef hh hy Wd qF hk
     | false=>
      refine alone rfl (hy.wpOp ho (.inl (.inr (Ext.refl _))) ⟨by rw[Ay ho];exact .ext (Ext.refl _),?_⟩)
      have I':=I.next hD ho Go.undef (s':=⟨Q8 s1.fr o.dst (.raw Go.undef),s1.h⟩) (by rw[show (⟨Q8 s1.fr o.dst (.raw Go.undef),s1.h⟩:St).h=s.h from hh];exact Tr.refl _ _ _) Wd (by rw[show (⟨Q8 s1.fr o.dst (.raw Go.undef),s1.h⟩:St).h=s.h from hh];exact I.since) qF
      exact ih r (i::done) _ _ pl _ w Z BT I' IG hk
    have go:∀ (s1:St),s1.h=s.h→Rel Z base nt s1 pl a w→(∀ d,get s.fr d=.undef→get s1.fr d=.undef)→K0 (guardOf ops o) a.tmps=true→KP P base nt w0 p (VX (Jt i nc) o) (AX P base nt w0 (wi nc P base nt w0 ops K R.length R D0) (J7 nc ops (VG r))) s1 →
      zz P ops (fun a w=>∃ s pl,K s∧Rel Z0 base nt s pl a w∧Jw Z0 base w0 s.h pl w) (YV nc ops) (R.length+VH r+1) Q3 a w:=by
     intro s1 hh r1 hu hw hk
     cases p with
     | true=>
      obtain ⟨d,HK,hpc,ht,hk⟩:=hk
      have K9:∃ v,Qv Z s1.h pl w d v∧(∀ w':World,(∀ b,b<w.heap.size→w'.heap[b]? = w.heap[b]?)→(execOp a.eval o).run P w'=.ok (.value v) w')∧(kC o=true→∀ w':World,Xg w w'→(execOp a.eval o).run P w'=.ok (.value v) w'):=by
       cases E5:kC o
       ·obtain ⟨v,hv,QS⟩:=HK Z pl a w r1
        exact ⟨v,hv,QS,fun h=>by cases h⟩
       ·obtain ⟨v,hv,QS⟩:=hpc (by simpa [kC,VX] using E5) Z pl a w r1
        exact ⟨v,hv,fun w' he=>QS w' (.ext he),fun _=>QS⟩
      obtain ⟨v,hv,QS,QbX⟩:=K9
      have hy:YieldsIf P ops (fun w'=>(still L o=true∨Ext w w')∨(kC o=true∧Xg w w')) o v a:=.inl ⟨by rw[B3];exact hw,fun w' he=>he.elim (fun he=>he.elim (fun hs=>QbC QbR hs (QS w fun _ _=>rfl) w') (fun he=>QS w' he)) (fun he=>QbX he.1 w' he.2)⟩
      have r2:Rel Z base nt ⟨Q8 s1.fr o.dst d,s1.h⟩ pl (a.put o.dst v) w:=by
       cases hd:o.dst with
       | none=>exact r1
       | some t=>have ht:Zi nt o.dst=true:=ht;rw[hd] at ht;exact r1.to (Tr.ext r1.o fun _ _=>rfl) r1.o (Yo ht) hv
      exact first rfl ⟨Q8 s1.fr o.dst d,s1.h⟩ v hh hy r2 (fun d' hd h=>by rw[Iy hd];exact hu d' h) hk
     | false=>
      refine alone rfl ?_
      unfold wpOp
      simp only[ho,B3,hw,if_true]
      refine .inl ?_
      have:=hk.ae QI Z trivial pl a w r1 (by rw[hh];exact I.since)
      rw[af] at this
      refine Oper.wp_mono (fun a' w' hq=>?_) this
      obtain ⟨he,d,h',Qg,v,hF,r',b',T,rfl⟩:=hq
      refine ⟨by rw[Ay ho];exact he,?_⟩
      have I':=I.next hD ho v (s':=⟨Q8 s1.fr o.dst d,h'⟩) (by rw[hh] at T;exact T) r' b' (fun d' hd h=>by rw[Iy hd];exact hu d' h)
      exact ih r (i::done) _ _ Qg _ w' Z BT I' IG hF
    show zz P ops _ (YV nc ops) (R.length+VH r+1) Q3 a w
    simp only[AX] at h
    split at h
    ·rename_i hg;exact go s rfl I.rel (fun _ h=>h) (by rw[hg];rfl) h
    ·rename_i x hg;exact skip s rfl I.rel (fun _ h=>h) (by rw[hg];rfl) h.1 h.2
    ·rename_i t x hg
     split at h
     ·rename_i y hy
      have hr:=I.rel.fr t
      rw[hy] at hr
      have hv:=ZC hr
      have hb:=Oj hv
      have ES:∀ (e:D) d,get s.fr d=.undef→get (put s.fr t e) d=.undef:=fun e d h=>by
       rw[y0,if_neg (fun e=>by rw[e,hy] at h;cases h)];exact h
      by_cases Yg:y=x
      ·refine go ⟨put s.fr t (.raw (.bool x)),s.h⟩ rfl (I.rel.tell (t:=t) (d:=.raw (.bool x)) (by rw[hv,Yg];exact .cl _ _ (.raw _))) (ES _) ?_ (h.1 Yg)
       rw[hg];simp [K0,hb,Yg]
      ·have xX:y=(!x):=by cases x <;> cases y <;> simp_all
       have:=h.2 xX
       refine skip ⟨put s.fr t (.raw (.bool !x)),s.h⟩ rfl (I.rel.tell (t:=t) (d:=.raw (.bool (!x))) (by rw[hv,xX];exact .cl _ _ (.raw _))) (ES _) ?_ this.1 this.2
       rw[hg];simp [K0,hb,Yg]
     ·rename_i vs hy
      have hr:=I.rel.fr t
      rw[hy] at hr
      refine skip s rfl I.rel (fun _ h=>h) ?_ h.1 h.2
      rw[hg]
      simp [K0,Ol (ZC hr)]
     ·exact h.elim
def aB:Option Nat→Option Nat→Bool
 | some a,some b=>!Nat.beq a b
 | _,_=>true
def aC (ops:Array Oper):Bool:=(List.range ops.size).all fun i=>!Km ops i || (List.range ops.size).all fun j=>Nat.beq i j || aB ((ops[i]?).bind (·.dst)) ((ops[j]?).bind (·.dst))
def aD:D→Bool
 | .undef=>true
 | _=>false
def wj (ops:Array Oper) (fr:List (Nat × D)):Bool:=(List.range ops.size).all fun i=>!Km ops i || (match (ops[i]?).bind (·.dst) with | some d=>aD (get fr d) | none=>true)
def aE (L:Zd) (ops:Array Oper):Bool:=ops.toList.all fun o=>match o.op with
 | .alloc t=>(ty L t).isSome && o.dst.isSome
 | .makeMap _ none=>o.dst.isSome
 | _=>true
def IJ (ops:Array Oper) (l:List (Nat × Bool)):List Nat→Bool
 | []=>true
 | i::r=>!Jt i r && !Jt i (l.map (·.1)) && !Km ops i && IJ ops l r
theorem IK {ops:Array Oper} {l:List (Nat × Bool)}:∀ {R:List Nat},IJ ops l R=true→R.Nodup∧∀ i∈R,i ∉ l.map (·.1)∧Km ops i=false
 | [],_=>⟨List.nodup_nil,by simp⟩
 | i::r,h=>by
  simp only[IJ,Bool.and_eq_true,Bool.not_eq_true'] at h
  obtain ⟨⟨⟨h1,h2⟩,h3⟩,h4⟩:=h
  obtain ⟨k1,k2⟩:=IK h4
  refine ⟨List.nodup_cons.2 ⟨fun hm=>(by rw[YU.2 hm] at h1;cases h1),k1⟩,fun j hj=>?_⟩
  rcases List.mem_cons.1 hj with rfl | hj
  ·exact ⟨fun hm=>(by rw[YU.2 hm] at h2;cases h2),h3⟩
  ·exact k2 j hj
def wk (nc:List Nat) (L:Zd) (ops:Array Oper) (l:List (Nat × Bool)) (R:List Nat):Bool:=Region.noSelect ops && Nat.beq (R.length+l.length) ops.size && Iv (l.map (·.1)++R) ops.size && wa nc L ops R (l.map fun ip=>(ip.1,ip.2,ops[ip.1]?)) [] && aC ops && aE L ops && IJ ops l R && zA ops R (l.map (·.1))
def OF (L:Zd) (ops:Array Oper) (l:List (Nat × Bool)):Bool:=wk [] L ops l []
theorem QbY {ops:Array Oper} (h:aC ops=true):EW ops:=by
 intro i j oi oj d JN hl hi hj hd hd'
 have h1:=List.all_eq_true.1 h i (List.mem_range.2 (Array.getElem?_eq_some_iff.1 hi).1)
 rw[hl,Bool.not_true,Bool.false_or] at h1
 have h2:=List.all_eq_true.1 h1 j (List.mem_range.2 (Array.getElem?_eq_some_iff.1 hj).1)
 simp only[hi,hj,Option.bind_some,hd,hd',aB,Nat.beq_refl,Bool.not_true,Bool.or_false,Nat.beq_eq] at h2
 exact JN h2
theorem Qb0 {ops:Array Oper} {fr:List (Nat × D)} (h:wj ops fr=true):∀ i o d,Km ops i=true→ops[i]? = some o→o.dst=some d→get fr d=.undef:=by
 intro i o d hl hi hd
 have h1:=List.all_eq_true.1 h i (List.mem_range.2 (Array.getElem?_eq_some_iff.1 hi).1)
 rw[hl] at h1
 simp only[Bool.not_true,Bool.false_or,hi,Option.bind_some,hd] at h1
 unfold aD at h1
 split at h1
 ·assumption
 ·cases h1
theorem Qb1 {P:Program} {L:Zd} (hL:Zr P L) {ops:Array Oper} (h:aE L ops=true):∀ j o,ops[j]? = some o→Km ops j=true→(∃ ob mk,x7 P o ob mk)∧∃ d,o.dst=some d:=by
 intro j o hj hl
 have h1:=(IB hj hl).1
 have hm:o∈ops.toList:=by have:=Array.mem_of_getElem? hj;simpa using this
 have h2:=List.all_eq_true.1 h o hm
 unfold WC at h1
 cases ho:o.op <;> rw[ho] at h1 h2 <;> first | cases h1 | skip
 ·rename_i t
  simp only[Bool.and_eq_true] at h2
  obtain ⟨y,hy⟩:=Option.isSome_iff_exists.1 h2.1
  exact ⟨⟨_,_,U8 hL ho hy⟩,Option.isSome_iff_exists.1 h2.2⟩
 ·rename_i t rz
  cases rz with
  | some x=>cases h1
  | none=>exact ⟨⟨_,_,U9 ho .i64⟩,Option.isSome_iff_exists.1 h2⟩
theorem aF {L:Zd} {ops:Array Oper} {R:List Nat}:∀ {l:List (Nat × Bool)} {done:List Nat},wa nc L ops R (l.map fun ip=>(ip.1,ip.2,ops[ip.1]?)) done=true→∀ i p,(i,p)∈l→Km ops i=true→p=false
 | [],_,_,_,_,h,_=>by cases h
 | (j,q)::r,done,h,i,p,hm,hl=>by
  simp only[List.map_cons] at h
  cases ho:ops[j]? with
  | none=>rw[ho] at h;cases h
  | some o=>
   rw[ho] at h
   simp only[wa,Bool.and_eq_true,Bool.not_eq_true'] at h
   rcases List.mem_cons.1 hm with h1 | h1
   ·cases h1
    cases q with
    | false=>rfl
    | true=>have:=h.1.2;simp only[Bool.and_eq_true,Bool.not_eq_true',hl] at this;cases this.1
   ·exact aF h.2 i p h1 hl
def jx (l:List (Nat × Bool)):List En:=l.map fun x=>(x.1,x.2,none)
theorem OG:∀ l:List (Nat × Bool),VG (jx l)=l
 | []=>rfl
 | x::r=>congrArg (x::·) (OG r)
theorem aG:∀ l,early (jx l)=[]
 | []=>rfl
 | (_,_)::r=>aG r
theorem OH:∀ l,blocks (jx l)=[]
 | []=>rfl
 | (_,_)::r=>OH r
theorem aH:∀ l,VH (jx l)=l.length
 | []=>rfl
 | (_,_)::r=>by show VH (jx r)+1=_;rw[aH r];rfl
theorem IL {l:List (Nat × Bool)} {i:Nat} {p:Bool} {q:Option Nat} (h:(i,p,q)∈jx l):(i,p)∈l∧q=none:=by
 obtain ⟨x,hx,e⟩:=List.mem_map.1 h
 cases e;exact ⟨hx,rfl⟩
theorem aI {L:Zd} (hL:Zr P L) (QI:base≤w0.w.heap.size) {id:Nat} {ops:Array Oper} {Q:Exit→St→Prop} {s:St} (hm:P.follows .mixedOrders=true) (l:List (Nat × Bool)) (R:List Nat) (hB:wk nc L ops l R=true) (hU:wj ops s.fr=true) (h:AX P base nt w0 (wi nc P base nt w0 ops (fun s=>Q .normal s) R.length R (l.map (·.1))) (J7 nc ops l) s):A P base nt w0 (.region id ops true) Q s:=by
 intro Z z pl a w r b
 simp only[wk,Bool.and_eq_true] at hB
 obtain ⟨⟨⟨⟨⟨⟨⟨b1,b2⟩,b3⟩,b4⟩,b5⟩,b6⟩,b7⟩,b8⟩:=hB
 obtain ⟨c1,c2⟩:=IK b7
 have hlen:=Nat.eq_of_beq_eq_true b2
 have M:Marks ops (Array.replicate ops.size false) []:=⟨by simp,fun j hj=>by simp [hj],fun j=>by
  rcases Nat.lt_or_ge j ops.size with h' | h'
  ·simp [h']
  ·simp [h'],fun j hj=>by cases hj⟩
 have b':Jw Z base w0 s.h pl { w with drawn:=w.drawn+1 }:=⟨⟨b.1.os,b.1.tape,b.1.output,b.1.size,b.1.block⟩,⟨b.2.1.JI,b.2.1.obj,b.2.1.shape⟩,⟨b.2.2.new,b.2.2.own⟩⟩
 have I:qE nc P L ops R base nt w0 Z Z (jx l) [] (Array.replicate ops.size false) s pl a { w with drawn:=w.drawn+1 }:=by
  refine ⟨by rw[OG];exact b4,fun j hj _=>?_,fun j hj=>⟨by simp,by have:=(c2 j hj).1;simpa [K3,jx] using this,(c2 j hj).2⟩,by rw[aG];exact M,fun i p b h=>?_,fun i p q h hl=>aF b4 i p (IL h).1 hl,fun b=>by rw[OH];simp,fun i p b h=>?_,by rw[OH];exact List.nodup_nil,fun i p q h hl o d ho hd=>Qb0 hU i o d hl ho hd,r.ext fun _ _=>rfl,b',fun i p b h=>?_⟩
  ·have:=U5 b3 j hj
   simpa [K3,jx] using this
  ·cases (IL h).2
  ·cases (IL h).2
  ·cases (IL h).2
 have:=QbQ hL b1 QI (QbY b5) (Qb1 hL b6) c1 b8 _ (jx l) [] _ s pl a _ Z (Nat.le_refl _) I (fun j=>by simp [K3,jx]) (by rw[OG];exact h)
 rw[aH,hlen] at this
 exact wp_region_any hm (Ir (fun a w hn=>hn) _ _ _ _ this)
theorem Qb2 {L:Zd} (hL:Zr P L) (QI:base≤w0.w.heap.size) {id:Nat} {ops:Array Oper} {Q:Exit→St→Prop} {s:St} (hm:P.follows .mixedOrders=true) (l:List (Nat × Bool)) (hB:OF L ops l=true) (hU:wj ops s.fr=true) (h:AX P base nt w0 (fun s=>Q .normal s) (J7 [] ops l) s):A P base nt w0 (.region id ops true) Q s:=
 aI hL QI hm l [] hB hU h
theorem Qb3 {L:Zd} (hL:Zr P L) (QI:base≤w0.w.heap.size) {id:Nat} {ops:Array Oper} {Q:Exit→St→Prop} {k:List Item} {s:St} (hm:P.follows .mixedOrders=true) (l:List (Nat × Bool)) (hB:OF L ops l=true) (hU:wj ops s.fr=true) (h:AX P base nt w0 (fun s=>Qs P base nt w0 Q k .normal s) (J7 [] ops l) s):Qs P base nt w0 Q (.code (.region id ops true)::k) .normal s:=by
 simp only[Qs]
 exact Qb2 hL QI hm l hB hU h
theorem aJ {L:Zd} (hL:Zr P L) (QI:base≤w0.w.heap.size) {id:Nat} {ops:Array Oper} {Q:Exit→St→Prop} {k:List Item} {s:St} (hm:P.follows .mixedOrders=true) (l:List (Nat × Bool)) (R:List Nat) (hB:wk nc L ops l R=true) (hU:wj ops s.fr=true) (h:AX P base nt w0 (wi nc P base nt w0 ops (fun s=>Qs P base nt w0 Q k .normal s) R.length R (l.map (·.1))) (J7 nc ops l) s):Qs P base nt w0 Q (.code (.region id ops true)::k) .normal s:=by
 simp only[Qs]
 exact aI hL QI hm l R hB hU h
end
section
variable (P:Program) (base:Nat) (w0:Start) (X:Cx) (nt:Nat)
def AH (pu:Bool) (o:Oper) (F:St→Prop) (stop:Prop) (s:St):Prop:=match qy X s o.op with
 | some (p,d)=>p∧Zi nt o.dst=true∧F ⟨Q8 s.fr o.dst d,s.h⟩
 | none=>match pu with
  | true=>False
  | false=>match zx X s o.op with
   | some (p,h,d)=>p∧Zi nt o.dst=true∧F ⟨Q8 s.fr o.dst d,h⟩
   | none=>stop
def zB (K:St→Prop):List (Bool × Oper × G)→St→Prop
 | [],s=>K s
 | (pu,o,g)::r,s=>match g with
  | none=>AH X nt pu o (zB K r) (AX P base nt w0 K ((pu,o,none)::r) s) s
  | some (none,_)=>Zi nt o.dst=true∧zB K r ⟨Q8 s.fr o.dst (.raw Go.undef),s.h⟩
  | some (some t,b)=>match get s.fr t with
   | .raw (.bool x)=>(vY b x=true→AH X nt pu o (zB K r) (AX P base nt w0 K ((pu,o,none)::r) ⟨put s.fr t (.raw (.bool b)),s.h⟩) ⟨put s.fr t (.raw (.bool b)),s.h⟩) ∧
     (vY b x=false→Zi nt o.dst=true∧zB K r ⟨Q8 (put s.fr t (.raw (.bool (!b)))) o.dst (.raw Go.undef),s.h⟩)
   | .raw (.tuple _)=>Zi nt o.dst=true∧zB K r ⟨Q8 s.fr o.dst (.raw Go.undef),s.h⟩
   | _=>False
end
section
variable {nc:List Nat} {P:Program} {base nt:Nat} {w0:Start}
theorem Qb4 {X:Cx} (hX:WA P X) (QI:base≤w0.w.heap.size) {pu:Bool} {o:Oper} {F F':St→Prop} {stop:Prop} {s:St} (hF:∀ s,F s→F' s) (Qb5:stop→KP P base nt w0 pu o F' s) (h:AH X nt pu o F stop s):KP P base nt w0 pu o F' s:=by
 unfold AH at h
 split at h
 ·rename_i p d hp
  have ok:=UP (P:=P) (base:=base) (nt:=nt) hX hp h.1
  have hk:=hF _ h.2.2
  cases pu with
  | true=>
   refine ⟨d,ok,fun E5=>?_,h.2.1,hk⟩
   unfold kC at E5
   split at E5
   ·rename_i t x ho
    simp only[qy,ho] at hp
    exact Ug hX.L ho hp h.1
   ·cases E5
  | false=>
   have hl:WC o=false:=by
    cases hl:WC o with
    | false=>rfl
    | true=>
     unfold WC at hl
     cases ho:o.op <;> rw[ho] at hl <;> first | cases hl | skip
     all_goals
      rw[ho] at hp
      simp [qy] at hp
   simp only[KP,hl]
   intro Z z pl a w r b
   obtain ⟨v,hv,QS⟩:=ok Z pl a w r
   unfold Oper.wp
   rw[QS w fun _ _=>rfl]
   simp only[Oper.upon_value]
   refine ⟨.ext (Ext.refl _),_,_,pl,v,hk,?_,b,Tr.refl _ _ _,rfl⟩
   cases hd:o.dst with
   | none=>exact r
   | some t=>have ht:=h.2.1;rw[hd] at ht;exact r.to (Tr.ext r.o fun _ _=>rfl) r.o (Yo ht) hv
 ·split at h
  ·exact h.elim
  ·split at h
   ·rename_i p h' d hp
    have ok:=UQ (P:=P) (base:=base) (nt:=nt) hX hp h.1
    have hk:=hF _ h.2.2
    have ht:=h.2.1
    cases hl:WC o with
    | true=>
     unfold WC at hl
     cases ho:o.op <;> rw[ho] at hl <;> first | cases hl | skip
     ·rename_i t
      simp only[ho,zx] at hp
      split at hp
      ·rename_i y hy
       simp only[Option.some.injEq,Prod.mk.injEq] at hp
       obtain ⟨_,rfl,rfl⟩:=hp
       have hl:WC o=true:=by simp [WC,ho]
       simp only[KP,hl]
       exact ⟨_,_,U8 hX.L ho hy,ht,hk⟩
      ·cases hp
     ·rename_i t rz
      cases rz with
      | some x=>cases hl
      | none=>
       simp only[ho,zx] at hp
       have hq:∃ q,h'=s.h++[QE q 0 []]∧d=.mref s.h.length 0:=by
        unfold B0 at hp
        split at hp
        ·split at hp
         all_goals
          simp only[Option.some.injEq,Prod.mk.injEq] at hp
          obtain ⟨_,rfl,rfl⟩:=hp
          exact ⟨_,rfl,rfl⟩
        ·cases hp
       obtain ⟨q,rfl,rfl⟩:=hq
       have hl:WC o=true:=by simp [WC,ho]
       simp only[KP,hl]
       exact ⟨_,_,U9 ho q,ht,hk⟩
    | false=>
    simp only[KP,hl]
    intro Z z pl a w r b
    have aK:kD o=false:=by
     cases hi:kD o with
     | false=>rfl
     | true=>
      unfold kD at hi
      split at hi
      ·rename_i ho;simp [zx,ho] at hp
      ·cases hi
    obtain ⟨v,w',Qg,QS,hT,hO,hv,hb,Ax⟩:=ok Z pl a w r (Nat.le_trans QI b.1.size)
    have fin:∀ u,u=v→Rel Z base nt ⟨Q8 s.fr o.dst d,h'⟩ Qg (a.put o.dst u) w':=by
     rintro u rfl
     cases hd:o.dst with
     | none=>exact r.zd hT hO u
     | some t=>rw[hd] at ht;exact r.to hT hO (Yo ht) hv
    unfold Oper.wp
    rcases QS with QS | ⟨QS,hu⟩
    ·rw[QS]
     simp only[Oper.upon_value]
     exact ⟨.mk (fun hc=>Ax (by simp only[v8,Bool.and_eq_true] at hc;exact hc.1)) aK,_,_,Qg,_,hk,fin v rfl,b.step hT hb,hT,rfl⟩
    ·rw[QS]
     simp only[Oper.upon_skip]
     exact ⟨.mk (fun hc=>Ax (by simp only[v8,Bool.and_eq_true] at hc;exact hc.1)) aK,_,_,Qg,_,hk,fin _ hu.symm,b.step hT hb,hT,rfl⟩
   ·exact Qb5 h
theorem wm {X:Cx} (hX:WA P X) (QI:base≤w0.w.heap.size) {K:St→Prop}:∀ (l:List (Bool × Oper × G)) (s:St),zB P base w0 X nt K l s→AX P base nt w0 K l s
 | [],s,h=>h
 | (pu,o,g)::r,s,h=>by
  have st:∀ s,AH X nt pu o (zB P base w0 X nt K r) (AX P base nt w0 K ((pu,o,none)::r) s) s→KP P base nt w0 pu o (AX P base nt w0 K r) s:=fun s hh=>
   Qb4 hX QI (fun s=>wm hX QI r s) (fun h=>h) hh
  simp only[zB] at h
  simp only[AX]
  split at h
  ·exact st s h
  ·exact ⟨h.1,wm hX QI r _ h.2⟩
  ·rename_i t b
   split at h
   ·rename_i x hx
    simp only[UR,beq_iff_eq,beq_eq_false_iff_ne,ne_eq] at h
    refine ⟨fun e=>st _ (h.1 e),fun e=>?_⟩
    have:=h.2 (by rw[e];cases b <;> simp)
    exact ⟨this.1,wm hX QI r _ this.2⟩
   ·exact ⟨h.1,wm hX QI r _ h.2⟩
   ·exact h.elim
def Vb (d':D):D→Prop
 | .imm z n r=>match d' with
  | .imm z' n' r'=>z'=z∧n'=n∧∀ i,i<n→r' i=r i
  | _=>False
 | .raw v=>d'=.raw v
 | .nil=>d'=.nil
 | .undef=>d'=.undef
 | .ip c=>d'=.ip c
 | .ref l g o n=>d'=.ref l g o n
 | .ptr l g i j=>d'=.ptr l g i j
 | .mref l g=>d'=.mref l g
 | .clo f n c=>d'=.clo f n c
 | .agg c=>d'=.agg c
 | .tup c=>d'=.tup c
def WZ:List D→List D→Prop
 | [],[]=>True
 | d'::r',d::r=>Vb d' d∧WZ r' r
 | _,_=>False
theorem Qb6 {N:Nat→Prop} {w:World} {d' d:D} {v:Value} (h:Vb d' d) (c:Cl N w d' v):Cl N w d v:=by
 cases d <;> simp only[Vb] at h
 case imm z n r=>
  split at h
  ·obtain ⟨rfl,rfl,h⟩:=h
   cases c with
   | imm _ _ _ a cap b o vs ha hl hs hc hr=>
    exact .imm _ _ _ a cap b o vs ha hl (fun i hi=>by rw[← h i hi];exact hs i hi) hc (fun i j hi hj=>by rw[← h i hi];exact hr i j hi hj)
  ·exact h.elim
 all_goals subst h;exact c
theorem aL:∀ {Zs cs:List D},WZ Zs cs→Zs.length=cs.length∧∀ i,i<cs.length→Vb (nth Zs i) (nth cs i)
 | [],[],_=>⟨rfl,fun i hi=>by simp at hi⟩
 | [],_::_,h=>h.elim
 | _::_,[],h=>h.elim
 | d'::r',d::r,h=>by
  obtain ⟨h1,h2⟩:=aL h.2
  refine ⟨by simp [h1],fun i hi=>?_⟩
  cases i with
  | zero=>exact h.1
  | succ i=>have:=h2 i (by simpa using hi);simpa [nth] using this
theorem Qb7 {Z:Nat→Prop} {h:List Ob} {pl:List Pl} {w:World} {d' d:D} {v:Value} (e:Vb d' d) (r:Qv Z h pl w d' v):Qv Z h pl w d v:=by
 cases d <;> simp only[Vb] at e
 case imm z n r0=>
  split at e
  ·cases r with
   | cl _ _ hc=>exact .cl _ _ (Qb6 (d:=.imm z n r0) (by simpa only [Vb] using e) hc)
  ·exact e.elim
 all_goals subst e;exact r
theorem QG.args {P:Program} {f:FuncId} {F:List Ob} {Zs cs:List D} {R:D→List Ob→Prop} (h:QG P f F cs R) (e:WZ Zs cs):QG P f F Zs R:=fun Z base w pl vs h1 h2 h3 hl hc=>by
 obtain ⟨e1,e2⟩:=aL e
 exact h Z base w pl vs h1 h2 h3 (by omega) fun i hi=>Qb7 (e2 i hi) (hc i (by omega))
theorem Q7.args {P:Program} {f:FuncId} {Zs cs:List D} {R:D→List Ob→Prop} (h:Q7 P f cs R) (e:WZ Zs cs):Q7 P f Zs R:=QG.args h e
theorem Zo (QI:base≤w0.w.heap.size) {K:St→Prop} {dst:Option Nat} {ty:TypeId} {pos:String} {after:Array Edge} {gd:Option (Nat × Bool)} {r:List (Bool × Oper × G)} {s:St} {x:Operand} {args:Array Operand} {ZX:Array TypeId} {f:FuncId} {nf:Nat} {QB:List D} (hf:Qo P f)
  (hx:J6 (Qp s.fr x)=some (f,nf,QB)) {cs:List D} (ZO:match zy (VF s.h 4) (Z6 nf QB (args.toList.map (Qp s.fr))) with | some (p,Zs)=>p∧WZ Zs cs | none=>False) {R:D→List Ob→Prop} (hF:Q7 P f cs R)
  (Ar:∀ d h,R d h→d.flat=true∧∀ o∈h,o.flat) (ht:Zi nt dst=true) (hk:∀ d h,R d h→AX P base nt w0 K r ⟨Q8 s.fr dst (d.shift s.h.length),s.h++h.map (Ob.shift s.h.length)⟩) :
  AX P base nt w0 K ((false,⟨dst,.call ⟨.value x,args,ZX⟩,ty,pos,after,gd⟩,none)::r) s:=by
 simp only[AX,KP,WC]
 intro Z z pl a w rr b
 split at ZO
 ·rename_i p Zs hc
  obtain ⟨hp,he⟩:=ZO
  have hF:=hF.args he
  refine Oper.wp_mono (fun a' w' ⟨he,d,h,Qg,hR,r',b',T,v,e⟩=>⟨fun _=>he,_,_,Qg,v,hk d h hR,r',b',T,e⟩) (UW QI hf rfl hx hc hp hF Ar ht pl a w rr b _)
 ·exact ZO.elim
theorem QM (QI:base≤w0.w.heap.size) {Q:Exit→St→Prop} {k:List Item} {dst:Option Nat} {ty:TypeId} {pos:String} {after:Array Edge} {gd:Option (Nat × Bool)} {r:List (Oper × G)} {s:St} {x:Operand} {args:Array Operand} {ZX:Array TypeId} {f:FuncId} {nf:Nat} {QB:List D} (hf:Qo P f)
  (hx:J6 (Qp s.fr x)=some (f,nf,QB)) {cs:List D} (ZO:match zy (VF s.h 4) (Z6 nf QB (args.toList.map (Qp s.fr))) with | some (p,Zs)=>p∧WZ Zs cs | none=>False) {R:D→List Ob→Prop} (hF:Q7 P f cs R)
  (Ar:∀ d h,R d h→d.flat=true∧∀ o∈h,o.flat) (ht:Zi nt dst=true) (hk:∀ d h,R d h→Qs P base nt w0 Q (.ops r::k) .normal ⟨Q8 s.fr dst (d.shift s.h.length),s.h++h.map (Ob.shift s.h.length)⟩) :
  Qs P base nt w0 Q (.ops ((⟨dst,.call ⟨.value x,args,ZX⟩,ty,pos,after,gd⟩,none)::r)::k) .normal s:=by
 simp only[Qs] at hk ⊢
 split at ZO
 ·rename_i p Zs hc
  obtain ⟨hp,he⟩:=ZO
  have hF:=hF.args he
  exact Qbs QI hf rfl hx hc hp hF Ar ht hk
 ·exact ZO.elim
end
section
variable {nc:List Nat} {P:Program} {base nt:Nat} {w0:Start}
theorem KP.mono {pu:Bool} {o:Oper} {F F':St→Prop} (hF:∀ s,F s→F' s) {s:St} (h:KP P base nt w0 pu o F s):KP P base nt w0 pu o F' s:=by
 cases pu with
 | true=>obtain ⟨d,h1,h2,h3,h4⟩:=h;exact ⟨d,h1,h2,h3,hF _ h4⟩
 | false=>
  simp only[KP] at h ⊢
  split at h
  ·obtain ⟨ob,mk,h1,h2,h3⟩:=h;exact ⟨ob,mk,h1,h2,hF _ h3⟩
  intro Z z pl a w r b
  exact Oper.wp_mono (fun a' w' ⟨he,d,h',Qg,v,h1,h2⟩=>⟨he,d,h',Qg,v,hF _ h1,h2⟩) (h Z z pl a w r b)
theorem AX.mono {K K':St→Prop} (hK:∀ s,K s→K' s):∀ (l:List (Bool × Oper × G)) (s:St),AX P base nt w0 K l s→AX P base nt w0 K' l s
 | [],s,h=>hK s h
 | (pu,o,g)::r,s,h=>by
  simp only[AX] at h ⊢
  split at h
  ·exact KP.mono (AX.mono hK r) h
  ·exact ⟨h.1,AX.mono hK r _ h.2⟩
  ·split at h
   ·exact ⟨fun e=>KP.mono (AX.mono hK r) (h.1 e),fun e=>⟨(h.2 e).1,AX.mono hK r _ (h.2 e).2⟩⟩
   ·exact ⟨h.1,AX.mono hK r _ h.2⟩
   ·exact h.elim
end
end Go.Fg
namespace Go.Fg
theorem Jx {α:Sort _} {a b:α} (h:a=b):a=b:=h
@[go_sem] theorem Qrm (a b:Nat):Nat.beq a b=(a == b):=by
 rw[Bool.eq_iff_iff];simp [Nat.beq_eq]
@[go_sem] theorem Qb8 (a b:Nat):Nat.blt a b=decide (a<b):=by
 rw[Bool.eq_iff_iff];simp [Nat.blt_eq]
@[go_sem] theorem E6 (a b:Nat):Nat.ble a b=decide (a≤b):=by
 rw[Bool.eq_iff_iff];simp [Nat.ble_eq]
def hx (P:Program) (base:Nat) (w0:Start) (Q:Exit→St→Prop) (X:Cx) (nt n:Nat) (k:List Item) (s:St):Prop:=(exec X nt n k s).holds P base nt w0 Q
def hz (P:Program) (base:Nat) (w0:Start) (Q:Exit→St→Prop) (X:Cx) (nt n:Nat) (k:List Item) (s:St):Prop:=hx P base w0 Q X nt n k s
def Kn (b:Bool) (A B:Prop):Prop:=(b=true→A)∧(b=false→B)
def KE (b:Bool) (A:Prop):Prop:=b=true∧A
section
variable {P:Program} {base:Nat} {w0:Start} {Q:Exit→St→Prop} {X:Cx} {nt n:Nat} {k:List Item} {s:St}
@[go_sem ↓] theorem Qrn {B:Prop}:Kn true (hz P base w0 Q X nt n k s) B=hx P base w0 Q X nt n k s:=by simp [Kn,hz]
@[go_sem ↓] theorem Qro {A:Prop}:Kn false A (hz P base w0 Q X nt n k s)=hx P base w0 Q X nt n k s:=by simp [Kn,hz]
theorem jy {b:Bool} {k':List Item} {s':St} (h1:b=true→hx P base w0 Q X nt n k s) (h2:b=false→hx P base w0 Q X nt n k' s'):Kn b (hz P base w0 Q X nt n k s) (hz P base w0 Q X nt n k' s'):=⟨h1,h2⟩
@[go_sem] theorem Qrp:hx P base w0 Q X nt (n+1) [] s=Q .normal s:=Jx rfl
@[go_sem] theorem Qrq {id:Nat}:hx P base w0 Q X nt (n+1) (.inBlock id::k) s=hx P base w0 Q X nt n k s:=Jx rfl
@[go_sem] theorem Qrr:hx P base w0 Q X nt (n+1) (.code .skip::k) s=hx P base w0 Q X nt n k s:=Jx rfl
@[go_sem] theorem Qrs {l:Nat}:hx P base w0 Q X nt (n+1) (.code (.label l)::k) s=hx P base w0 Q X nt n k s:=Jx rfl
@[go_sem] theorem Qrt {a b:Code}:hx P base w0 Q X nt (n+1) (.code (.seq a b)::k) s=hx P base w0 Q X nt n (.code a::.code b::k) s:=Jx rfl
@[go_sem] theorem Qru {id:Nat} {c:Code}:hx P base w0 Q X nt (n+1) (.code (.block id c)::k) s=hx P base w0 Q X nt n (.code c::.inBlock id::k) s:=Jx rfl
@[go_sem] theorem Qrv:hx P base w0 Q X nt (n+1) (.inScope::k) s=hx P base w0 Q X nt n k s:=Jx rfl
@[go_sem] theorem Qrw {c:Code}:hx P base w0 Q X nt (n+1) (.code (.scope c)::k) s=hx P base w0 Q X nt n (.code c::.inScope::k) s:=Jx rfl
@[go_sem] theorem Qrx {c:Operand} {a b:Code}:hx P base w0 Q X nt (n+1) (.code (.cond c a b)::k) s=(match Qp s.fr c with
  | .raw (.bool x)=>Kn x (hz P base w0 Q X nt n (.code a::k) s) (hz P base w0 Q X nt n (.code b::k) s)
  | _=>False):=by
 simp only[hx,exec]
 generalize Qp s.fr c=d
 cases d with
 | raw v=>cases v <;> rfl
 | _=>rfl
@[go_sem] theorem Qry {id:Nat}:hx P base w0 Q X nt (n+1) (.code (.exit id)::k) s=(match Xm id k with
  | some k'=>hx P base w0 Q X nt n k' s
  | none=>Q (.exit id) s):=by
 simp only[hx,exec]
 generalize Xm id k=r
 cases r <;> rfl
@[go_sem] theorem Qrz:hx P base w0 Q X nt (n+1) (.code .ret::k) s=Q .ret s:=Jx rfl
@[go_sem] theorem QrA {id:Nat} {ops:Array Oper}:hx P base w0 Q X nt (n+1) (.code (.region id ops false)::k) s=hx P base w0 Q X nt n (.ops (jt ops)::k) s:=Jx rfl
@[go_sem] theorem QrB {id:Nat} {ops:Array Oper}:hx P base w0 Q X nt (n+1) (.code (.region id ops true)::k) s=Qs P base nt w0 Q (.code (.region id ops true)::k) .normal s:=Jx rfl
@[go_sem] theorem QrC {c:Code}:hx P base w0 Q X nt (n+1) (.code (.loop c)::k) s=Qs P base nt w0 Q (.code (.loop c)::k) .normal s:=Jx rfl
@[go_sem] theorem QrD:hx P base w0 Q X nt (n+1) (.ops []::k) s=hx P base w0 Q X nt n k s:=Jx rfl
@[go_sem ↓] theorem QrE {A:Prop}:KE true A=A:=by simp [KE]
@[go_sem] theorem QrF {o:Oper} {r:List (Oper × G)}:hx P base w0 Q X nt (n+1) (.ops ((o,none)::r)::k) s=(match qy X s o.op with
  | some (p,d)=>p∧(match Zi nt o.dst with | true=>hx P base w0 Q X nt n (.ops r::k) ⟨Q8 s.fr o.dst d,s.h⟩ | false=>False)
  | none=>match zx X s o.op with
   | some (p,h,d)=>p∧(match Zi nt o.dst with | true=>hx P base w0 Q X nt n (.ops r::k) ⟨Q8 s.fr o.dst d,h⟩ | false=>False)
   | none=>Qs P base nt w0 Q (.ops ((o,none)::r)::k) .normal s):=by
 simp only[hx,exec]
 generalize qy X s o.op=r1
 generalize zx X s o.op=r2
 cases r1 with
 | some pd=>cases Zi nt o.dst <;> simp [Tree.holds]
 | none=>cases r2 with
  | some phd=>cases Zi nt o.dst <;> simp [Tree.holds]
  | none=>rfl
theorem aM {o:Oper} {t:Nat} {b:Bool} {r:List (Oper × G)} (ht:Zi nt o.dst=true):hx P base w0 Q X nt (n+1) (.ops ((o,some (some t,b))::r)::k) s=(match get s.fr t with
  | .raw (.bool x)=>Kn (vY b x) (hz P base w0 Q X nt n (.ops ((o,none)::r)::k) ⟨put s.fr t (.raw (.bool b)),s.h⟩) (hz P base w0 Q X nt n (.ops r::k) ⟨Q8 (put s.fr t (.raw (.bool (!b)))) o.dst (.raw Go.undef),s.h⟩)
  | .raw (.tuple _)=>hx P base w0 Q X nt n (.ops r::k) ⟨Q8 s.fr o.dst (.raw Go.undef),s.h⟩
  | _=>False):=by
 simp only[hx,exec]
 generalize get s.fr t=d
 cases d with
 | raw v=>
  cases v with
  | bool x=>simp [Kn,hz,hx,ht,Tree.holds]
  | tuple vs=>simp [ht]
  | _=>rfl
 | _=>rfl
@[go_sem] theorem QrG {o:Oper} {t:Nat} {r:List (Oper × G)} (ht:Zi nt o.dst=true):hx P base w0 Q X nt (n+1) (.ops ((o,some (some t,true))::r)::k) s=(match get s.fr t with
  | .raw (.bool x)=>Kn x (hz P base w0 Q X nt n (.ops ((o,none)::r)::k) ⟨put s.fr t (.raw (.bool true)),s.h⟩) (hz P base w0 Q X nt n (.ops r::k) ⟨Q8 (put s.fr t (.raw (.bool false))) o.dst (.raw Go.undef),s.h⟩)
  | .raw (.tuple _)=>hx P base w0 Q X nt n (.ops r::k) ⟨Q8 s.fr o.dst (.raw Go.undef),s.h⟩
  | _=>False):=aM ht
@[go_sem] theorem QrH {o:Oper} {t:Nat} {r:List (Oper × G)} (ht:Zi nt o.dst=true):hx P base w0 Q X nt (n+1) (.ops ((o,some (some t,false))::r)::k) s=(match get s.fr t with
  | .raw (.bool x)=>Kn x (hz P base w0 Q X nt n (.ops r::k) ⟨Q8 (put s.fr t (.raw (.bool true))) o.dst (.raw Go.undef),s.h⟩) (hz P base w0 Q X nt n (.ops ((o,none)::r)::k) ⟨put s.fr t (.raw (.bool false)),s.h⟩)
  | .raw (.tuple _)=>hx P base w0 Q X nt n (.ops r::k) ⟨Q8 s.fr o.dst (.raw Go.undef),s.h⟩
  | _=>False):=by
 rw[aM ht]
 generalize get s.fr t=d
 cases d with
 | raw v=>
  cases v with
  | bool x=>cases x <;> simp [Kn,vY]
  | _=>rfl
 | _=>rfl
end
section
variable {P:Program} {base nt:Nat} {w0:Start} {Q:Exit→St→Prop} {k:List Item} {s:St} {I:Nat→St→Prop} {m:Nat}
@[go_sem] theorem QrI {e:Exit}:Qs P base nt w0 Q [] e s=Q e s:=Jx rfl
@[go_sem] theorem QrJ {x:Item}:Qs P base nt w0 Q (x::k) .ret s=Qs P base nt w0 Q k .ret s:=by cases x <;> rfl
@[go_sem] theorem QrK {c:Code} {j:Nat}:Qs P base nt w0 Q (.code c::k) (.exit j) s=Qs P base nt w0 Q k (.exit j) s:=Jx rfl
@[go_sem] theorem QrL {l:List (Oper × G)} {j:Nat}:Qs P base nt w0 Q (.ops l::k) (.exit j) s=Qs P base nt w0 Q k (.exit j) s:=Jx rfl
@[go_sem] theorem QrM {id:Nat}:Qs P base nt w0 Q (.inBlock id::k) (.exit id) s=Qs P base nt w0 Q k .normal s:=by simp [Qs]
@[go_sem] theorem QrN {id j:Nat} (h:(j == id)=false):Qs P base nt w0 Q (.inBlock id::k) (.exit j) s=Qs P base nt w0 Q k (.exit j) s:=by
 have:¬ j=id:=by simpa using h
 simp [Qs,this]
@[go_sem] theorem QrO {id:Nat}:Qs P base nt w0 Q (.inBlock id::k) .normal s=Qs P base nt w0 Q k .normal s:=Jx rfl
@[go_sem] theorem QrP {j:Nat}:Qs P base nt w0 Q (.inScope::k) (.exit j) s=Qs P base nt w0 Q k (.exit j) s:=Jx rfl
@[go_sem] theorem QrQ:Qs P base nt w0 Q (.inScope::k) .normal s=Qs P base nt w0 Q k .normal s:=Jx rfl
@[go_sem] theorem QrR:Im P base nt w0 Q k I m .normal s=∃ m' s',m'<m∧Ql w0 s s'∧I m' s':=Jx rfl
@[go_sem] theorem QrS {j:Nat}:Im P base nt w0 Q k I m (.exit j) s=Qs P base nt w0 Q k (.exit j) s:=Jx rfl
@[go_sem] theorem QrT:Im P base nt w0 Q k I m .ret s=Qs P base nt w0 Q k .ret s:=Jx rfl
end
attribute [go_sem] jt guardOf strip Qp get put Q8 Zi VC ZQ qy zx Xm vY
 Hu Hp Hq Hr Hs xG xH Ht NI IntKind.same Ab mk TK.agg BQ Hv Hw BR Hx Hy Hz HA
 zg jf setRow Et Ew kp HL BX qw jl HM XN HO HQ Al BZ cat YR WX nth D.there JJ NW
 Z6 zy VF J6 vZ one xZ D.shift qz Ob.shift qA D.ky D.flat ju D.upto qB Av Aw kB jv B6 Kd.yZ Kd.ty Kd.ro Kd.EP Kd.toRo
attribute [go_sem] List.map_cons List.map_nil List.getElem?_toArray List.getElem?_cons_zero List.getElem?_cons_succ List.getElem?_nil Option.bind_some Option.bind_none Option.map_some Option.map_none List.length_cons List.length_nil List.cons_append List.nil_append List.append_nil
 List.all_cons List.all_nil List.take_zero List.take_succ_cons List.take_nil List.drop_zero List.drop_succ_cons List.drop_nil List.set_cons_zero List.set_cons_succ List.getD_cons_zero List.getD_cons_succ List.replicate_zero List.replicate_succ List.flatten_cons List.flatten_nil
 cond_true cond_false Bool.not_true Bool.not_false Bool.and_true Bool.true_and Bool.and_false Bool.false_and Bool.or_true Bool.true_or Bool.or_false Bool.false_or beq_self_eq_true decide_true decide_false true_and and_true false_and and_false
 implies_true forall_const reduceCtorEq List.toList_toArray Int.toNat_natCast Int.natCast_nonneg Int.ofNat_lt Int.ofNat_le Int.ofNat_inj Nat.zero_add Nat.add_zero Nat.le_refl Nat.zero_le Option.some.injEq Prod.mk.injEq
theorem Co {P:Program} {base nt:Nat} {w0:Start} {Q:Exit→St→Prop} {X:Cx} (hX:WA P X) (hb:base≤w0.w.heap.size) (n:Nat) {k:List Item} {s:St} (h:hx P base w0 Q X nt n k s):Qs P base nt w0 Q k .normal s:=XP hX hb n k s h
theorem Qca {P:Program} {X:Cx} (hX:WA P X) {f:FuncId} {fn:Func} {c:Code} (n:Nat) (hf:P.funcs[f]? = some fn) (hb:fn.body=some c) {args:List D} {R:D→List Ob→Prop} {nt:Nat} {rs:Array ResultVar} (YT:fn.ntmps=nt) (zC:fn.results=rs) (hn:Nat.ble args.length nt=true)
  (h:∀ (base:Nat) (w:World),base≤w.heap.size→hx P base ⟨w,[],[]⟩ (xZ X.L rs.toList R) X nt n [.code c] ⟨qA args 0,[]⟩):Q7 P f args R:=
 U1 hX n hf hb YT (Nat.le_of_ble_eq_true hn) (by
  subst zC
  intro base w pl hb hl
  cases pl with
  | nil=>exact h base w hb
  | cons _ _=>simp at hl)
theorem QW {P:Program} {X:Cx} (hX:WA P X) {f:FuncId} {fn:Func} {c:Code} (n:Nat) (hf:P.funcs[f]? = some fn) (hb:fn.body=some c) {F:List Ob} {args:List D} {R:D→List Ob→Prop} {nt:Nat} {rs:Array ResultVar} (YT:fn.ntmps=nt) (zC:fn.results=rs) (hn:Nat.ble args.length nt=true)
  (h:∀ (base:Nat) (w:World) (pl:List Pl),base≤w.heap.size→hx P base ⟨w,F,pl⟩ (xZ X.L rs.toList R) X nt n [.code c] ⟨qA args 0,F⟩):QG P f F args R:=
 U1 hX n hf hb YT (Nat.le_of_ble_eq_true hn) (by subst zC;exact fun base w pl hb _=>h base w pl hb)
theorem QT.take {Z:Nat→Prop} {base:Nat} {h:List Ob} {pl:List Pl} {w:World} (R:QT Z base h pl w) (k:Nat) (h2:kB k (h.take k)):QT Z base (h.take k) (pl.take k) w:=by
 have QZ:∀ (l:Nat) (p:Pl),(pl.take k)[l]? = some p→pl[l]? = some p:=fun l p e=>by
  rw[List.getElem?_take] at e;split at e
  ·exact e
  ·cases e
 have hh:∀ (l:Nat) (o:Ob),(h.take k)[l]? = some o→h[l]? = some o:=fun l o e=>by
  rw[List.getElem?_take] at e;split at e
  ·exact e
  ·cases e
 refine ⟨by simp [R.len],fun l l' b q q' e1 e2=>R.inj l l' b q q' (QZ _ _ e1) (QZ _ _ e2),fun l o ho hp=>R.JU l o (hh _ _ ho) (QZ _ _ hp),fun l o b q ho hp=>?_⟩
 obtain ⟨g1,x⟩:=R.at_ l o b q (hh _ _ ho) (QZ _ _ hp)
 exact ⟨g1,x.to rfl rfl rfl rfl (fun _ _=>rfl) fun i j v hi hj hr=>hr.take (B7 (Ot h2 l o ho i hi) j hj)⟩
def Kept (k:Nat) (R:D→List Ob→Prop) (d:D) (h:List Ob):Prop:=d.upto k=true∧kB k (h.take k)∧R d (h.take k)
theorem Qcb {pl:List Pl} {k b:Nat} (h:KX pl b):KX (pl.take k) b:=fun l q e=>by
 rw[List.getElem?_take] at e;split at e
 ·exact h l q e
 ·cases e
theorem QG.take {P:Program} {f:FuncId} {F:List Ob} {args:List D} {R:D→List Ob→Prop} (k:Nat) (hk:F.length≤k) (h:QG P f F args (Kept k R)):QG P f F args R:=fun Z base w pl vs h1 h2 h3 hl hc=>
 (h Z base w pl vs h1 h2 h3 hl hc).mono fun _ _ ⟨v,d,hh,Qg,k1,⟨a1,a2,a3⟩,k3,k4,k5,k6⟩=>⟨v,d,hh.take k,Qg.take k,k1,a3,k3.take k a2,k4.take a1,
  k5.keep hk ⟨fun _ hb=>Qcb hb,fun l o p hl ho hp=>⟨o,by rw[List.getElem?_take,if_pos hl];exact ho,by rw[List.getElem?_take,if_pos hl];exact hp,rfl,rfl,rfl⟩⟩,k6⟩
theorem Zk (k:Nat) {P:Program} {X:Cx} (hX:WA P X) {f:FuncId} {fn:Func} {c:Code} (n:Nat) (hf:P.funcs[f]? = some fn) (hb:fn.body=some c) {args:List D} {R:D→List Ob→Prop} {nt:Nat} {rs:Array ResultVar} (YT:fn.ntmps=nt) (zC:fn.results=rs) (hn:Nat.ble args.length nt=true)
  (h:∀ (base:Nat) (w:World),base≤w.heap.size→hx P base ⟨w,[],[]⟩ (xZ X.L rs.toList (Kept k R)) X nt n [.code c] ⟨qA args 0,[]⟩):Q7 P f args R:=
 QG.take k (Nat.zero_le _) (Qca hX n hf hb YT zC hn h)
attribute [go_sem] Kept
theorem aN {k:Nat}:∀ {h h':List Ob},jv h h'→kB k h'→kB k h
 | [],[],_,_=>trivial
 | [],_::_,h,_=>h.elim
 | _::_,[],h,_=>h.elim
 | _::_,_::_,h,h2=>⟨fun i hi=>by rw[← h.1.2.2.2.2 i hi];exact h2.1 i (by rw[h.1.2.2.1];exact hi),aN h.2 h2.2⟩
theorem Wk.to {m:Nat} (k:Nat) {fr fr':List (Nat × D)} {h h':List Ob} (hw:Av fr fr'∧Aw k fr'=true∧kB k h'∧jv (h.take k) h') (hm:m≤k:=by exact Nat.le_of_ble_eq_true rfl):Wk m ⟨fr,h⟩ ⟨fr',h'⟩:=
 Wk.trans (Wk.frame hw.1) (Wk.trans (Wk.drop k hm hw.2.1 (aN hw.2.2.2 hw.2.2.1)) (Wk.x6 hw.2.2.2))
theorem Ql.to {w0:Start} (k:Nat) {fr fr':List (Nat × D)} {h h':List Ob} (hw:Av fr fr'∧Aw k fr'=true∧kB k h'∧jv (h.take k) h') (hm:w0.F.length≤k:=by exact Nat.le_of_ble_eq_true rfl):Ql w0 ⟨fr,h⟩ ⟨fr',h'⟩:=(Wk.to k hw hm).up
theorem Ql.frame {w0:Start} {fr fr':List (Nat × D)} {h:List Ob} (hf:Av fr fr'):Ql w0 ⟨fr,h⟩ ⟨fr',h⟩:=(Wk.frame hf).up
theorem Ql.xD {w0:Start} {fr:List (Nat × D)} {h:List Ob} (t sz:Nat) (row:Nat→List D) (ht:get fr t=.nil):Ql w0 ⟨fr,h⟩ ⟨put fr t (.ref h.length 0 0 0),h++[⟨.arr,0,sz,0,row⟩]⟩:=(Wk.xD t sz row ht).up
def aO {α:Type} [Inhabited α] (sz:Nat) (enc:α→List D) (l:List α) (d:D) (h:List Ob):Prop:=∃ g,d=.ref 0 g 0 l.length∧h=[⟨.arr,g,sz,l.length,fun i=>enc (l.getD i default)⟩]
theorem aO.flat {α:Type} [Inhabited α] {sz:Nat} {enc:α→List D} {l:List α} (he:∀ x,ju (enc x)=true):∀ d h,aO sz enc l d h→d.flat=true∧∀ o∈h,o.flat:=by
 rintro d h ⟨g,rfl,rfl⟩
 exact ⟨rfl,fun o ho=>by simp at ho;subst ho;exact fun i _=>he _⟩
def IM (P:Program) (base:Nat) (w0:Start) (Q:Exit→St→Prop) (X:Cx) (nt n:Nat) (k:List Item) (s:St):Prop:=hx P base w0 Q X nt n k s
def JO (P:Program) (base:Nat) (w0:Start) (X:Cx) (nt:Nat) (K:St→Prop) (l:List (Bool × Oper × G)) (s:St):Prop:=zB P base w0 X nt K l s
def WD (P:Program) (base:Nat) (w0:Start) (X:Cx) (nt:Nat) (K:St→Prop) (l:List (Bool × Oper × G)) (s:St):Prop:=JO P base w0 X nt K l s
section
variable {nc:List Nat} {P:Program} {base:Nat} {w0:Start} {Q:Exit→St→Prop} {X:Cx} {nt n:Nat} {k:List Item} {s:St} {l:List (Bool × Oper × G)} {K:St→Prop}
@[go_sem ↓] theorem QrU {B:Prop}:Kn true (WD P base w0 X nt K l s) B=JO P base w0 X nt K l s:=by simp [Kn,WD]
@[go_sem ↓] theorem QrV {A:Prop}:Kn false A (WD P base w0 X nt K l s)=JO P base w0 X nt K l s:=by simp [Kn,WD]
theorem E7 {b:Bool} {l':List (Bool × Oper × G)} {s':St} (h1:b=true→JO P base w0 X nt K l s) (h2:b=false→JO P base w0 X nt K l' s'):Kn b (WD P base w0 X nt K l s) (WD P base w0 X nt K l' s'):=⟨h1,h2⟩
@[go_sem] theorem QrW:JO P base w0 X nt K [] s=K s:=Jx rfl
@[go_sem] theorem QrX:IM P base w0 Q X nt n k s=hx P base w0 Q X nt n k s:=Jx rfl
@[go_sem] theorem QrY {o:Oper} {r:List (Bool × Oper × G)}:JO P base w0 X nt K ((true,o,none)::r) s=(match qy X s o.op with
  | some (p,d)=>p∧(match Zi nt o.dst with | true=>JO P base w0 X nt K r ⟨Q8 s.fr o.dst d,s.h⟩ | false=>False)
  | none=>False):=by
 simp only[JO,zB,AH]
 generalize qy X s o.op=r1
 cases r1 with
 | some pd=>cases Zi nt o.dst <;> simp
 | none=>rfl
@[go_sem] theorem QrZ {o:Oper} {r:List (Bool × Oper × G)}:JO P base w0 X nt K ((false,o,none)::r) s=(match qy X s o.op with
  | some (p,d)=>p∧(match Zi nt o.dst with | true=>JO P base w0 X nt K r ⟨Q8 s.fr o.dst d,s.h⟩ | false=>False)
  | none=>match zx X s o.op with
   | some (p,h,d)=>p∧(match Zi nt o.dst with | true=>JO P base w0 X nt K r ⟨Q8 s.fr o.dst d,h⟩ | false=>False)
   | none=>AX P base nt w0 K ((false,o,none)::r) s):=by
 simp only[JO,zB,AH]
 generalize qy X s o.op=r1
 generalize zx X s o.op=r2
 cases r1 with
 | some pd=>cases Zi nt o.dst <;> simp
 | none=>cases r2 with
  | some phd=>cases Zi nt o.dst <;> simp
  | none=>rfl
theorem aP {pu:Bool} {o:Oper} {t:Nat} {b:Bool} {r:List (Bool × Oper × G)} (ht:Zi nt o.dst=true):JO P base w0 X nt K ((pu,o,some (some t,b))::r) s=(match get s.fr t with
  | .raw (.bool x)=>Kn (vY b x) (WD P base w0 X nt K ((pu,o,none)::r) ⟨put s.fr t (.raw (.bool b)),s.h⟩) (WD P base w0 X nt K r ⟨Q8 (put s.fr t (.raw (.bool (!b)))) o.dst (.raw Go.undef),s.h⟩)
  | .raw (.tuple _)=>JO P base w0 X nt K r ⟨Q8 s.fr o.dst (.raw Go.undef),s.h⟩
  | _=>False):=by
 simp only[JO,WD,zB]
 generalize get s.fr t=d
 cases d with
 | raw v=>
  cases v with
  | bool x=>simp [Kn,ht]
  | tuple vs=>simp [ht]
  | _=>rfl
 | _=>rfl
@[go_sem] theorem Qr0 {pu:Bool} {o:Oper} {t:Nat} {r:List (Bool × Oper × G)} (ht:Zi nt o.dst=true):JO P base w0 X nt K ((pu,o,some (some t,true))::r) s=(match get s.fr t with
  | .raw (.bool x)=>Kn x (WD P base w0 X nt K ((pu,o,none)::r) ⟨put s.fr t (.raw (.bool true)),s.h⟩) (WD P base w0 X nt K r ⟨Q8 (put s.fr t (.raw (.bool false))) o.dst (.raw Go.undef),s.h⟩)
  | .raw (.tuple _)=>JO P base w0 X nt K r ⟨Q8 s.fr o.dst (.raw Go.undef),s.h⟩
  | _=>False):=aP ht
@[go_sem] theorem Qr1 {pu:Bool} {o:Oper} {t:Nat} {r:List (Bool × Oper × G)} (ht:Zi nt o.dst=true):JO P base w0 X nt K ((pu,o,some (some t,false))::r) s=(match get s.fr t with
  | .raw (.bool x)=>Kn x (WD P base w0 X nt K r ⟨Q8 (put s.fr t (.raw (.bool true))) o.dst (.raw Go.undef),s.h⟩) (WD P base w0 X nt K ((pu,o,none)::r) ⟨put s.fr t (.raw (.bool false)),s.h⟩)
  | .raw (.tuple _)=>JO P base w0 X nt K r ⟨Q8 s.fr o.dst (.raw Go.undef),s.h⟩
  | _=>False):=by
 rw[aP ht]
 generalize get s.fr t=d
 cases d with
 | raw v=>
  cases v with
  | bool x=>cases x <;> simp [Kn,vY]
  | _=>rfl
 | _=>rfl
theorem QA {id:Nat} {ops:Array Oper} (hX:WA P X) (hb:base≤w0.w.heap.size) (n:Nat) (hm:P.follows .mixedOrders=true) (l:List (Nat × Bool)) (hB:OF X.L ops l=true) (hU:wj ops s.fr=true) (h:JO P base w0 X nt (IM P base w0 Q X nt n k) (J7 [] ops l) s):Qs P base nt w0 Q (.code (.region id ops true)::k) .normal s:=
 Qb3 hX.L hb hm l hB hU (AX.mono (fun s hs=>Co hX hb n hs) _ _ (wm hX hb _ _ h))
theorem Qcc (hX:WA P X) (hb:base≤w0.w.heap.size) (h:JO P base w0 X nt K l s):AX P base nt w0 K l s:=wm hX hb _ _ h
abbrev kG:=Nat × Oper × G × List Nat
def AI:List Edge→List Nat
 | []=>[]
 | e::r=>bif Region.binds .any e then e.on::AI r else AI r
def XS (nc:List Nat) (ops:Array Oper):List Nat→List kG
 | []=>[]
 | i::r=>match ops[i]? with
  | some o=>(i,VX (Jt i nc) o,guardOf ops o,AI o.after.toList)::XS nc ops r
  | none=>XS nc ops r
def kH (i:Nat):List kG→List kG
 | []=>[]
 | e::r=>bif Nat.beq e.1 i then kH i r else e::kH i r
def Cq (done:List Nat):List Nat→Bool
 | []=>true
 | i::r=>Jt i done && Cq done r
def E8 (F:kG→Prop):List kG→Prop
 | []=>True
 | e::r=>F e∧E8 F r
def x8 (P:Program) (base:Nat) (w0:Start) (X:Cx) (nt:Nat) (K:St→Prop):Nat→List kG→List Nat→St→Prop
 | 0,_,_,s=>K s
 | m+1,es,done,s=>E8 (fun e=>match Cq done e.2.2.2 with
  | true=>JO P base w0 X nt (x8 P base w0 X nt K m (kH e.1 es) (e.1::done)) [(false,e.2.1,e.2.2.1)] s
  | false=>True) es
theorem OI {done:List Nat}:∀ {l:List Edge},XQ done l=false→Cq done (AI l)=true
 | [],_=>rfl
 | e::r,h=>by
  simp only[XQ,Bool.or_eq_false_iff,Bool.and_eq_false_iff,Bool.not_eq_false'] at h
  simp only[AI]
  cases hb:Region.binds .any e
  ·exact OI h.2
  ·simp only[cond_true,Cq,Bool.and_eq_true]
   refine ⟨h.1.resolve_left (by rw[hb];simp),OI h.2⟩
theorem aQ {F:kG→Prop}:∀ {l:List kG},E8 F l→∀ e∈l,F e
 | [],_,e,he=>by cases he
 | x::r,h,e,he=>by
  rcases List.mem_cons.1 he with rfl | he
  ·exact h.1
  ·exact aQ h.2 e he
theorem OJ {ops:Array Oper} {i:Nat} {o:Oper} (ho:ops[i]? = some o):∀ {R:List Nat},i∈R→(i,VX (Jt i nc) o,guardOf ops o,AI o.after.toList)∈XS nc ops R
 | [],h=>by cases h
 | j::r,h=>by
  simp only[XS]
  rcases List.mem_cons.1 h with rfl | h
  ·rw[ho];exact List.mem_cons_self ..
  ·split
   ·exact List.mem_cons_of_mem _ (OJ ho h)
   ·exact OJ ho h
theorem IN {ops:Array Oper} {i:Nat}:∀ {R:List Nat},i ∉ R→kH i (XS nc ops R)=XS nc ops R
 | [],_=>rfl
 | j::r,h=>by
  simp only[List.mem_cons,not_or] at h
  simp only[XS]
  split
  ·simp only[kH]
   have:Nat.beq j i=false:=by rw[← Bool.not_eq_true,Nat.beq_eq];exact fun e=>h.1 e.symm
   rw[this,cond_false,IN h.2]
  ·exact IN h.2
theorem OK {ops:Array Oper} {i:Nat}:∀ {R:List Nat},R.Nodup→kH i (XS nc ops R)=XS nc ops (R.erase i)
 | [],_=>rfl
 | j::r,h=>by
  obtain ⟨h1,h2⟩:=List.nodup_cons.1 h
  by_cases JN:j=i
  ·subst JN
   rw[List.erase_cons_head]
   simp only[XS]
   split
   ·simp only[kH,Nat.beq_refl,cond_true];exact IN h1
   ·exact IN h1
  ·rw[List.erase_cons_tail (by simpa using JN)]
   have hb:Nat.beq j i=false:=by rw[← Bool.not_eq_true,Nat.beq_eq];exact JN
   simp only[XS]
   cases ho:ops[j]? with
   | some o=>simp only[kH,hb,cond_false,OK h2]
   | none=>simp only[OK h2]
theorem OL (hX:WA P X) (hb:base≤w0.w.heap.size) {ops:Array Oper} {K':St→Prop} (hK:∀ s,K s→K' s):∀ (m:Nat) (R done:List Nat) (s:St),R.Nodup→x8 P base w0 X nt K m (XS nc ops R) done s→wi nc P base nt w0 ops K' m R done s
 | 0,_,_,s,_,h=>hK s h
 | m+1,R,done,s,hd,h=>by
  intro i hi o ho hh
  have h1:=aQ h _ (OJ ho hi)
  simp only[OI hh] at h1
  refine AX.mono (fun s hs=>OL hX hb hK m (R.erase i) (i::done) s (hd.erase _) ?_) _ _ (wm hX hb _ _ h1)
  rw[← OK hd];exact hs
theorem VY (nc:List Nat) {id:Nat} {ops:Array Oper} (hX:WA P X) (hb:base≤w0.w.heap.size) (n:Nat) (hm:P.follows .mixedOrders=true) (l:List (Nat × Bool)) (R:List Nat) (hB:wk nc X.L ops l R=true) (hU:wj ops s.fr=true)
  (h:JO P base w0 X nt (x8 P base w0 X nt (IM P base w0 Q X nt n k) R.length (XS nc ops R) (l.map (·.1))) (J7 nc ops l) s):Qs P base nt w0 Q (.code (.region id ops true)::k) .normal s:=by
 have hR:R.Nodup:=by
  simp only[wk,Bool.and_eq_true] at hB
  exact (IK hB.1.2).1
 exact aJ hX.L hb hm l R hB hU (AX.mono (fun s hs=>OL hX hb (fun s hs=>Co hX hb n hs) _ _ _ s hR hs) _ _ (wm hX hb _ _ h))
theorem Qcd {id:Nat} {ops:Array Oper} (hX:WA P X) (hb:base≤w0.w.heap.size) (n:Nat) (hm:P.follows .mixedOrders=true) (l:List (Nat × Bool)) (R:List Nat) (hB:wk [] X.L ops l R=true) (hU:wj ops s.fr=true)
  (h:JO P base w0 X nt (x8 P base w0 X nt (IM P base w0 Q X nt n k) R.length (XS [] ops R) (l.map (·.1))) (J7 [] ops l) s):Qs P base nt w0 Q (.code (.region id ops true)::k) .normal s:=VY [] hX hb n hm l R hB hU h
@[go_sem] theorem Qr2 {i:Nat}:Region.binds .any ⟨i,.data⟩=true:=rfl
@[go_sem] theorem Qr3 {i:Nat}:Region.binds .any ⟨i,.chain⟩=true:=rfl
@[go_sem] theorem Qr4 {i:Nat}:Region.binds .any ⟨i,.guard⟩=true:=rfl
@[go_sem] theorem Qr5 {i:Nat}:Region.binds .any ⟨i,.phase⟩=true:=rfl
@[go_sem] theorem Qr6 {i:Nat} {d:Departure}:Region.binds .any ⟨i,.textOnly d⟩=false:=rfl
@[go_sem] theorem Qr7 {i:Nat} {d:Departure}:Region.binds .any ⟨i,.gcOnly d⟩=false:=rfl
@[go_sem] theorem Qr8 {es:List kG} {d:List Nat}:x8 P base w0 X nt K 0 es d s=K s:=Jx rfl
@[go_sem] theorem Qr9 {m:Nat} {es:List kG} {d:List Nat}:x8 P base w0 X nt K (m+1) es d s=E8 (fun e=>match Cq d e.2.2.2 with
  | true=>JO P base w0 X nt (x8 P base w0 X nt K m (kH e.1 es) (e.1::d)) [(false,e.2.1,e.2.2.1)] s
  | false=>True) es:=Jx rfl
end
def E9 (P:Program) (base nt:Nat) (w0:Start) (Q:Exit→St→Prop) (k:List Item) (S:Nat→St→Prop) (N i:Nat):Exit→St→Prop
 | .normal,s=>i<N∧∃ s',Ql w0 s s'∧S (i+1) s'
 | e,s=>Qs P base nt w0 Q k e s
section
variable {P:Program} {base nt:Nat} {w0:Start} {Q:Exit→St→Prop} {k:List Item} {s:St}
@[go_sem] theorem Qsa {S:Nat→St→Prop} {N i:Nat}:E9 P base nt w0 Q k S N i .normal s=(i<N∧∃ s',Ql w0 s s'∧S (i+1) s'):=Jx rfl
@[go_sem] theorem Qsb {S:Nat→St→Prop} {N i j:Nat}:E9 P base nt w0 Q k S N i (.exit j) s=Qs P base nt w0 Q k (.exit j) s:=Jx rfl
@[go_sem] theorem Qsc {S:Nat→St→Prop} {N i:Nat}:E9 P base nt w0 Q k S N i .ret s=Qs P base nt w0 Q k .ret s:=Jx rfl
theorem ZB {c:Code} (S:Nat→St→Prop) (N:Nat) {s0:St} (hw:Ql w0 s s0) (h0:S 0 s0) (round:∀ i s,i≤N→S i s→Qs P base nt w0 (E9 P base nt w0 Q k S N i) [.code c] .normal s):Qs P base nt w0 Q (.code (.loop c)::k) .normal s:=by
 refine B8 (fun m s=>∃ i,i+m=N∧S i s) N hw ⟨0,by omega,h0⟩ ?_
 rintro m s ⟨i,hi,hs⟩
 have:=round i s (by omega) hs
 simp only[Qs] at this ⊢
 refine this.mono fun e s' he=>?_
 cases e with
 | normal=>obtain ⟨h1,Au,h2,h3⟩:=he;exact ⟨m - 1,Au,by omega,h2,i+1,by omega,h3⟩
 | _=>exact he
end
theorem IP {P:Program} {base nt:Nat} {w0:Start} {Q:Exit→St→Prop} {l:List (Oper × G)} {k:List Item} {s s':St} (h:Ql w0 s s') (hk:Qs P base nt w0 Q (.ops l::k) .normal s'):Qs P base nt w0 Q (.ops l::k) .normal s:=by
 simp only[Qs] at hk ⊢;exact hk.Ij h
attribute [go_sem] VX XS AI kH Cq Jt E8 J7 WZ false_implies imp_self ne_eq not_false_eq_true not_true_eq_false Nat.one_ne_zero
@[go_sem] theorem Qsd (v:Value):D.JV (.raw v)=zg v:=rfl
@[go_sem] theorem Qse  : D.JV (.nil)=true:=rfl
@[go_sem] theorem Qsf  : D.JV (.undef)=false:=rfl
@[go_sem] theorem Qsg (z n:Nat) (r:Nat→List D):D.JV (.imm z n r)=true:=rfl
@[go_sem] theorem Qsh (c:List D):D.JV (.ip c)=true:=rfl
@[go_sem] theorem Qsi (l g o n:Nat):D.JV (.ref l g o n)=true:=rfl
@[go_sem] theorem Qsj (l g i j:Nat):D.JV (.ptr l g i j)=true:=rfl
@[go_sem] theorem Qsk (l g:Nat):D.JV (.mref l g)=true:=rfl
@[go_sem] theorem Qsl (f:FuncId) (n:Nat) (c:List D):D.JV (.clo f n c)=true:=rfl
@[go_sem] theorem Qsm (c:List D):D.JV (.agg c)=false:=rfl
@[go_sem] theorem Qsn (c:List D):D.JV (.tup c)=false:=rfl
@[go_sem] theorem Qso (v:Value):VD (.raw v)=bif D.JV (.raw v) then some [.raw v] else none:=rfl
@[go_sem] theorem Qsp  : VD (.nil)=bif D.JV (.nil) then some [.nil] else none:=rfl
@[go_sem] theorem Qsq  : VD (.undef)=bif D.JV (.undef) then some [.undef] else none:=rfl
@[go_sem] theorem Qsr (z n:Nat) (r:Nat→List D):VD (.imm z n r)=bif D.JV (.imm z n r) then some [.imm z n r] else none:=rfl
@[go_sem] theorem Qss (c:List D):VD (.ip c)=bif D.JV (.ip c) then some [.ip c] else none:=rfl
@[go_sem] theorem Qst (l g o n:Nat):VD (.ref l g o n)=bif D.JV (.ref l g o n) then some [.ref l g o n] else none:=rfl
@[go_sem] theorem Qsu (l g i j:Nat):VD (.ptr l g i j)=bif D.JV (.ptr l g i j) then some [.ptr l g i j] else none:=rfl
@[go_sem] theorem Qsv (l g:Nat):VD (.mref l g)=bif D.JV (.mref l g) then some [.mref l g] else none:=rfl
@[go_sem] theorem Qsw (f:FuncId) (n:Nat) (c:List D):VD (.clo f n c)=bif D.JV (.clo f n c) then some [.clo f n c] else none:=rfl
@[go_sem] theorem Qsx (c:List D):VD (.agg c)=bif c.all D.JV then some c else none:=rfl
@[go_sem] theorem Qsy (c:List D):VD (.tup c)=bif D.JV (.tup c) then some [.tup c] else none:=rfl
@[go_sem] theorem Qsz (d':D) (v:Value):Vb d' (.raw v)=(d'=.raw v):=rfl
@[go_sem] theorem QsA (d':D)  : Vb d' (.nil)=(d'=.nil):=rfl
@[go_sem] theorem QsB (d':D)  : Vb d' (.undef)=(d'=.undef):=rfl
@[go_sem] theorem QsC (z' n' z n:Nat) (r' r:Nat→List D):Vb (.imm z' n' r') (.imm z n r)=(z'=z∧n'=n∧∀ i,i<n→r' i=r i):=rfl
@[go_sem] theorem QsD (d':D) (c:List D):Vb d' (.ip c)=(d'=.ip c):=rfl
@[go_sem] theorem QsE (d':D) (l g o n:Nat):Vb d' (.ref l g o n)=(d'=.ref l g o n):=rfl
@[go_sem] theorem QsF (d':D) (l g i j:Nat):Vb d' (.ptr l g i j)=(d'=.ptr l g i j):=rfl
@[go_sem] theorem QsG (d':D) (l g:Nat):Vb d' (.mref l g)=(d'=.mref l g):=rfl
@[go_sem] theorem QsH (d':D) (f:FuncId) (n:Nat) (c:List D):Vb d' (.clo f n c)=(d'=.clo f n c):=rfl
@[go_sem] theorem QsI (d':D) (c:List D):Vb d' (.agg c)=(d'=.agg c):=rfl
@[go_sem] theorem QsJ (d':D) (c:List D):Vb d' (.tup c)=(d'=.tup c):=rfl
end Go.Fg
namespace Go.Fg
open Go.RowKit (Below)
def pos (l:Nat):List Nat→Nat
 | []=>0
 | k::r=>bif Nat.beq k l then 0 else pos l r+1
mutual
def D.Vc (Qk:List Nat):D→D
 | .ref l g off len=>.ref (pos l Qk) g off len
 | .ptr l g i j=>.ptr (pos l Qk) g i j
 | .mref l g=>.mref (pos l Qk) g
 | .clo f nf cs=>.clo f nf (Yq Qk cs)
 | .agg cs=>.agg (Yq Qk cs)
 | .tup cs=>.tup (Yq Qk cs)
 | d=>d
def Yq (Qk:List Nat):List D→List D
 | []=>[]
 | c::cs=>c.Vc Qk::Yq Qk cs
end
mutual
def D.jz (Qk:List Nat):D→Bool
 | .ref l _ _ _=>Jt l Qk
 | .ptr l _ _ _=>Jt l Qk
 | .mref l _=>Jt l Qk
 | .clo _ _ cs=>jA Qk cs
 | .agg cs=>jA Qk cs
 | .tup cs=>jA Qk cs
 | _=>true
def jA (Qk:List Nat):List D→Bool
 | []=>true
 | c::cs=>c.jz Qk && jA Qk cs
end
theorem AJ {l:Nat}:∀ {Qk:List Nat},Jt l Qk=true→Qk[pos l Qk]? = some l
 | [],h=>by cases h
 | k::r,h=>by
  simp only[pos]
  by_cases e:k=l
  ·subst e;simp
  ·have h1:Nat.beq k l=false:=by rw[← Bool.not_eq_true,Nat.beq_eq];exact e
   have h2:Nat.beq l k=false:=by rw[← Bool.not_eq_true,Nat.beq_eq];exact fun x=>e x.symm
   simp only[Jt,h2,Bool.false_or] at h
   simp [h1,AJ h]
theorem XT (Qk:List Nat):∀ cs:List D,(Yq Qk cs).length=cs.length
 | []=>rfl
 | _::cs=>by simp [Yq,XT Qk cs]
theorem wo (Qk:List Nat):∀ (cs:List D) (i:Nat),i<cs.length→nth (Yq Qk cs) i=(nth cs i).Vc Qk
 | [],i,h=>by simp at h
 | c::cs,0,_=>by simp [Yq,nth]
 | c::cs,i+1,h=>by
  have:=wo Qk cs i (by simpa using h)
  simpa [Yq,nth] using this
theorem Cr {Qk:List Nat}:∀ {cs:List D},jA Qk cs=true→∀ i,i<cs.length→(nth cs i).jz Qk=true
 | [],_,i,h=>by simp at h
 | d::r,hf,i,h=>by
  simp only[jA,Bool.and_eq_true] at hf
  cases i with
  | zero=>exact hf.1
  | succ i=>have:=Cr hf.2 i (by simpa using h);simpa [nth] using this
def Ob.Vc (Qk:List Nat) (o:Ob):Ob:=⟨o.kd,o.gen,o.sz,o.n,fun i=>Yq Qk (o.row i)⟩
def VZ (h:List Ob):List Nat→List Ob
 | []=>[]
 | i::r=>match h[i]? with
  | some o=>o::VZ h r
  | none=>[]
def XU (pl:List Pl):List Nat→List Pl
 | []=>[]
 | i::r=>match pl[i]? with
  | some o=>o::XU pl r
  | none=>[]
def Ko (n:Nat):List Nat→Bool
 | []=>true
 | i::r=>Nat.blt i n && Ko n r
def jB:List Nat→Bool
 | []=>true
 | i::r=>!Jt i r && jB r
theorem aR {n:Nat}:∀ {l:List Nat},Ko n l=true→∀ i∈l,i<n
 | [],_,i,h=>by cases h
 | k::r,h,i,hi=>by
  simp only[Ko,Bool.and_eq_true,Nat.blt_eq] at h
  rcases List.mem_cons.1 hi with e | e
  ·subst e;exact h.1
  ·exact aR h.2 i e
theorem aS:∀ {l:List Nat},jB l=true→∀ (i j x:Nat),l[i]? = some x→l[j]? = some x→i=j
 | [],_,i,j,x,h,_=>by simp at h
 | k::r,h,i,j,x,h1,h2=>by
  simp only[jB,Bool.and_eq_true,Bool.not_eq_true'] at h
  have hk:k ∉ r:=fun hm=>by rw[YU.2 hm] at h;cases h.1
  cases i with
  | zero=>
   simp at h1;subst h1
   cases j with
   | zero=>rfl
   | succ j=>simp at h2;exact absurd (List.mem_of_getElem? h2) hk
  | succ i=>
   simp at h1
   cases j with
   | zero=>simp at h2;subst h2;exact absurd (List.mem_of_getElem? h1) hk
   | succ j=>simp at h2;rw[aS h.2 i j x h1 h2]
theorem AK {h:List Ob}:∀ {Qk:List Nat},Ko h.length Qk=true→∀ (i l:Nat),Qk[i]? = some l→(VZ h Qk)[i]? = h[l]?
 | [],_,i,l,e=>by simp at e
 | k::r,hb,i,l,e=>by
  simp only[Ko,Bool.and_eq_true,Nat.blt_eq] at hb
  simp only[VZ,List.getElem?_eq_getElem hb.1]
  cases i with
  | zero=>simp at e;subst e;simp [List.getElem?_eq_getElem hb.1]
  | succ i=>simp at e;simpa using AK hb.2 i l e
theorem jC {h:List Pl}:∀ {Qk:List Nat},Ko h.length Qk=true→∀ (i l:Nat),Qk[i]? = some l→(XU h Qk)[i]? = h[l]?
 | [],_,i,l,e=>by simp at e
 | k::r,hb,i,l,e=>by
  simp only[Ko,Bool.and_eq_true,Nat.blt_eq] at hb
  simp only[XU,List.getElem?_eq_getElem hb.1]
  cases i with
  | zero=>simp at e;subst e;simp [List.getElem?_eq_getElem hb.1]
  | succ i=>simp at e;simpa using jC hb.2 i l e
theorem IQ {h:List Ob}:∀ {Qk:List Nat},Ko h.length Qk=true→(VZ h Qk).length=Qk.length
 | [],_=>rfl
 | k::r,hb=>by
  simp only[Ko,Bool.and_eq_true,Nat.blt_eq] at hb
  simp [VZ,List.getElem?_eq_getElem hb.1,IQ hb.2]
theorem Cs {h:List Pl}:∀ {Qk:List Nat},Ko h.length Qk=true→(XU h Qk).length=Qk.length
 | [],_=>rfl
 | k::r,hb=>by
  simp only[Ko,Bool.and_eq_true,Nat.blt_eq] at hb
  simp [XU,List.getElem?_eq_getElem hb.1,Cs hb.2]
theorem Qv.Qk {Z Z':Nat→Prop} {h:List Ob} {pl:List Pl} {w:World} {Qk:List Nat} (hz:∀ b,free Z pl b→Z' b) (hl:pl.length=h.length) (hb:Ko h.length Qk=true) {d:D} {v:Value} (r:Qv Z h pl w d v) (hk:d.jz Qk=true) :
  Qv Z' ((VZ h Qk).map (Ob.Vc Qk)) (XU pl Qk) w (d.Vc Qk) v:=by
 have V0:Ko pl.length Qk=true:=by rw[hl];exact hb
 have VW:∀ b,free Z pl b→free Z' (XU pl Qk) b:=fun b hf=>⟨hz b hf,fun l q e=>by
  have Qd:l<Qk.length:=by rw[← Cs V0];exact Kz e
  rw[jC V0 l (Qk[l]) (List.getElem?_eq_getElem Qd)] at e
  exact hf.2 _ q e⟩
 have ZY:∀ (d:D) (v:Value),Cl (free Z pl) w d v→Qv Z' ((VZ h Qk).map (Ob.Vc Qk)) (XU pl Qk) w (d.Vc Qk) v:=by
  intro d v hc
  have zo:=hc.mono (N':=free Z' (XU pl Qk)) (w':=w) (fun b hb _=>⟨VW b hb,rfl⟩)
  clear hc
  induction zo with
  | raw v=>exact .cl _ _ (.raw v)
  | undef v=>exact .cl _ _ (.undef v)
  | nil a=>exact .cl _ _ (.nil a)
  | imm sz n row a cap b o vs ha hl hs hc hr ih=>exact .cl _ _ (.imm sz n row a cap b o vs ha hl hs hc hr)
  | ip cells b o vs hc hr ih=>exact .cl _ _ (.ip cells b o vs hc hr)
  | clo f nf cs vs hl hr ih=>exact .clo f nf _ vs (by rw[XT];exact hl) (fun i hi=>by rw[XT] at hi;rw[wo _ _ _ hi];exact ih i hi)
  | agg cs vs hl hr ih=>exact .agg _ vs (by rw[XT];exact hl) (fun i hi=>by rw[XT] at hi;rw[wo _ _ _ hi];exact ih i hi)
  | tup cs vs hl hr ih=>exact .tup _ vs (by rw[XT];exact hl) (fun i hi=>by rw[XT] at hi;rw[wo _ _ _ hi];exact ih i hi)
 induction r with
 | cl d v hc=>exact ZY d v hc
 | ref l g off len o p a cap ho hp zw hg hs=>
  have hm:Jt l Qk=true:=by simpa [D.jz] using hk
  exact .ref _ g off len (o.Vc Qk) p a cap (by rw[List.getElem?_map,AK hb _ l (AJ hm),ho];rfl) (by rw[jC V0 _ l (AJ hm),hp]) zw hg hs
 | ptr l g i j o p a ho hp zw hg hs=>
  have hm:Jt l Qk=true:=by simpa [D.jz] using hk
  exact .ptr _ g i j (o.Vc Qk) p a (by rw[List.getElem?_map,AK hb _ l (AJ hm),ho];rfl) (by rw[jC V0 _ l (AJ hm),hp]) zw hg hs
 | mref l g o p b ho hp zw hg hs=>
  have hm:Jt l Qk=true:=by simpa [D.jz] using hk
  exact .mref _ g (o.Vc Qk) p b (by rw[List.getElem?_map,AK hb _ l (AJ hm),ho];rfl) (by rw[jC V0 _ l (AJ hm),hp]) zw hg hs
 | clo f nf cs vs hl hr ih=>exact .clo f nf _ vs (by rw[XT];exact hl) fun i hi=>by rw[XT] at hi;rw[wo _ _ _ hi];exact ih i hi (Cr (by simpa [D.jz] using hk) i hi)
 | agg cs vs hl hr ih=>exact .agg _ vs (by rw[XT];exact hl) fun i hi=>by rw[XT] at hi;rw[wo _ _ _ hi];exact ih i hi (Cr (by simpa [D.jz] using hk) i hi)
 | tup cs vs hl hr ih=>exact .tup _ vs (by rw[XT];exact hl) fun i hi=>by rw[XT] at hi;rw[wo _ _ _ hi];exact ih i hi (Cr (by simpa [D.jz] using hk) i hi)
def AL (Qk:List Nat):List Ob→Prop
 | []=>True
 | o::r=>(∀ i,i<o.n→jA Qk (o.row i)=true)∧AL Qk r
theorem aT {Qk:List Nat}:∀ {h:List Ob},AL Qk h→∀ (l:Nat) (o:Ob),h[l]? = some o→∀ i,i<o.n→jA Qk (o.row i)=true
 | [],_,l,o,e=>by simp at e
 | o::r,h,l,u,e=>by
  cases l with
  | zero=>simp at e;subst e;exact h.1
  | succ l=>simp at e;exact aT h.2 l u e
theorem QT.Qk {Z Z':Nat→Prop} {base:Nat} {h:List Ob} {pl:List Pl} {w:World} {Qk:List Nat} (R:QT Z base h pl w) (hz:∀ b,free Z pl b→Z' b) (hb:Ko h.length Qk=true) (hd:jB Qk=true) (h2:AL Qk (VZ h Qk)) :
  QT Z' base ((VZ h Qk).map (Ob.Vc Qk)) (XU pl Qk) w:=by
 have V0:Ko pl.length Qk=true:=by rw[R.len];exact hb
 have QZ:∀ (i:Nat) (p:Pl),(XU pl Qk)[i]? = some p→∃ l,Qk[i]? = some l∧pl[l]? = some p:=fun i p e=>by
  have Qd:i<Qk.length:=by rw[← Cs V0];exact Kz e
  exact ⟨Qk[i],List.getElem?_eq_getElem Qd,by rw[← jC V0 i _ (List.getElem?_eq_getElem Qd)];exact e⟩
 have QY:∀ (i:Nat) (o:Ob),((VZ h Qk).map (Ob.Vc Qk))[i]? = some o→∃ l u,Qk[i]? = some l∧h[l]? = some u∧o=u.Vc Qk∧(VZ h Qk)[i]? = some u:=fun i o e=>by
  rw[List.getElem?_map,Option.map_eq_some_iff] at e
  obtain ⟨u,hu,rfl⟩:=e
  have Qd:i<Qk.length:=by rw[← IQ hb];exact Jr hu
  exact ⟨Qk[i],u,List.getElem?_eq_getElem Qd,by rw[← AK hb i _ (List.getElem?_eq_getElem Qd)];exact hu,rfl,hu⟩
 refine ⟨by rw[Cs V0,List.length_map,IQ hb],fun i i' b q q' e1 e2=>?_,fun i o ho hp=>?_,fun i o b q ho hp=>?_⟩
 ·obtain ⟨l,s1,p1⟩:=QZ _ _ e1
  obtain ⟨l',s2,p2⟩:=QZ _ _ e2
  have:=R.inj l l' b q q' p1 p2
  subst this
  exact aS hd i i' l s1 s2
 ·obtain ⟨l,u,s1,hu,rfl,_⟩:=QY _ _ ho
  obtain ⟨l',s2,p2⟩:=QZ _ _ hp
  rw[s1] at s2;cases s2
  exact R.JU l u hu p2
 ·obtain ⟨l,u,s1,hu,rfl,qF⟩:=QY _ _ ho
  obtain ⟨l',s2,p2⟩:=QZ _ _ hp
  rw[s1] at s2;cases s2
  obtain ⟨g1,x⟩:=R.at_ l u b q hu p2
  refine ⟨g1,x.to rfl rfl rfl rfl (fun k _=>XT _ _) fun k j v hk hj hr=>?_⟩
  show Qv _ _ _ _ (nth (Yq Qk (u.row k)) j) v
  rw[wo _ _ _ hj]
  exact hr.Qk hz R.len hb (Cr (aT h2 i u qF k hk) j hj)
theorem aU {pl:List Pl} {Qk:List Nat} (hb:Ko pl.length Qk=true) {b:Nat} (h:KX pl b):KX (XU pl Qk) b:=fun l q e=>by
 have Qd:l<Qk.length:=by rw[← Cs hb];exact Kz e
 rw[jC hb l (Qk[l]) (List.getElem?_eq_getElem Qd)] at e
 exact h _ q e
def aV (Qk:List Nat) (R:D→List Ob→Prop) (d:D) (h:List Ob):Prop:=d.jz Qk=true∧Ko h.length Qk=true∧AL Qk (VZ h Qk)∧R (d.Vc Qk) ((VZ h Qk).map (Ob.Vc Qk))
def Fa:Nat→Nat→List Nat→Bool
 | 0,_,_=>true
 | _+1,_,[]=>false
 | m+1,i,k::r=>Nat.beq k i && Fa m (i+1) r
theorem aW:∀ {m i:Nat} {Qk:List Nat},Fa m i Qk=true→∀ l,l<m→Qk[l]? = some (i+l)
 | 0,_,_,_,l,hl=>by omega
 | m+1,i,[],h,_,_=>by cases h
 | m+1,i,k::r,h,l,hl=>by
  simp only[Fa,Bool.and_eq_true] at h
  obtain rfl:=Nat.eq_of_beq_eq_true h.1
  cases l with
  | zero=>simp
  | succ l=>rw[List.getElem?_cons_succ,aW h.2 l (by omega)];congr 1;omega
theorem QG.Qk {P:Program} {f:FuncId} {F:List Ob} {args:List D} {R:D→List Ob→Prop} (Qk:List Nat) (hd:jB Qk=true) (hs:Fa F.length 0 Qk=true) (h:QG P f F args (aV Qk R)):QG P f F args R:=fun Z base w pl vs h1 h2 h3 hl hc=>
 (h Z base w pl vs h1 h2 h3 hl hc).mono fun _ _ ⟨v,d,hh,Qg,k1,⟨a1,a2,a3,a4⟩,k3,k4,k5,k6⟩=>⟨v,d.Vc Qk,_,XU Qg Qk,k1,a4,k3.Qk (fun _ h=>h.1) a2 hd a3,k4.Qk (fun _ h=>h.1) k3.len a2 a1,
  k5.keep (Nat.le_refl _) ⟨fun _ hb=>aU (by rw[k3.len];exact a2) hb,fun l o p hl ho hp=>by
   have e:=aW hs l hl
   rw[Nat.zero_add] at e
   exact ⟨o.Vc Qk,by rw[List.getElem?_map,AK a2 l l e,ho];rfl,by rw[jC (by rw[k3.len];exact a2) l l e,hp],rfl,rfl,rfl⟩⟩,k6⟩
attribute [go_sem] aV pos D.Vc Yq D.jz jA Ob.Vc VZ Ko AL Jt
mutual
def D.idx (φ:Nat→Nat):D→D
 | .ref l g off len=>.ref (φ l) g off len
 | .ptr l g i j=>.ptr (φ l) g i j
 | .mref l g=>.mref (φ l) g
 | .clo f nf cs=>.clo f nf (zD φ cs)
 | .agg cs=>.agg (zD φ cs)
 | .tup cs=>.tup (zD φ cs)
 | d=>d
def zD (φ:Nat→Nat):List D→List D
 | []=>[]
 | c::cs=>c.idx φ::zD φ cs
end
theorem YX (φ:Nat→Nat):∀ cs:List D,(zD φ cs).length=cs.length
 | []=>rfl
 | _::cs=>by simp [zD,YX φ cs]
theorem x9 (φ:Nat→Nat):∀ (cs:List D) (i:Nat),i<cs.length→nth (zD φ cs) i=(nth cs i).idx φ
 | [],i,h=>by simp at h
 | c::cs,0,_=>by simp [zD,nth]
 | c::cs,i+1,h=>by
  have:=x9 φ cs i (by simpa using h)
  simpa [zD,nth] using this
def Ob.idx (φ:Nat→Nat) (o:Ob):Ob:=⟨o.kd,o.gen,o.sz,o.n,fun i=>zD φ (o.row i)⟩
theorem Qv.idx {Z Z':Nat→Prop} {h h':List Ob} {pl Qg:List Pl} {w:World} (φ:Nat→Nat) (hf:∀ b,free Z pl b→free Z' Qg b)
  (QY:∀ (l:Nat) (o:Ob) (p:Pl),h[l]? = some o→pl[l]? = some p→∃ o',h'[φ l]? = some o'∧Qg[φ l]? = some p∧o'.gen=o.gen∧o'.sz=o.sz∧o'.kd.ty=o.kd.ty) {d:D} {v:Value} (r:Qv Z h pl w d v):Qv Z' h' Qg w (d.idx φ) v:=by
 have ZY:∀ (d:D) (v:Value),Cl (free Z pl) w d v→Qv Z' h' Qg w (d.idx φ) v:=by
  intro d v hc
  have zo:=hc.mono (N':=free Z' Qg) (w':=w) (fun b hb _=>⟨hf b hb,rfl⟩)
  clear hc
  induction zo with
  | raw v=>exact .cl _ _ (.raw v)
  | undef v=>exact .cl _ _ (.undef v)
  | nil a=>exact .cl _ _ (.nil a)
  | imm sz n row a cap b o vs ha hl hs hc hr ih=>exact .cl _ _ (.imm sz n row a cap b o vs ha hl hs hc hr)
  | ip cells b o vs hc hr ih=>exact .cl _ _ (.ip cells b o vs hc hr)
  | clo f nf cs vs hl hr ih=>exact .clo f nf _ vs (by rw[YX];exact hl) (fun i hi=>by rw[YX] at hi;rw[x9 _ _ _ hi];exact ih i hi)
  | agg cs vs hl hr ih=>exact .agg _ vs (by rw[YX];exact hl) (fun i hi=>by rw[YX] at hi;rw[x9 _ _ _ hi];exact ih i hi)
  | tup cs vs hl hr ih=>exact .tup _ vs (by rw[YX];exact hl) (fun i hi=>by rw[YX] at hi;rw[x9 _ _ _ hi];exact ih i hi)
 induction r with
 | cl d v hc=>exact ZY d v hc
 | ref l g off len o p a cap ho hp hk hg hs=>
  obtain ⟨o',h1,h2,h3,h4,h5⟩:=QY l o p ho hp
  exact .ref _ g off len o' p a cap h1 h2 (by rw[h5];exact hk) (by rw[h3];exact hg) (by rw[h3,h4];exact hs)
 | ptr l g i j o p a ho hp hk hg hs=>
  obtain ⟨o',h1,h2,h3,h4,h5⟩:=QY l o p ho hp
  exact .ptr _ g i j o' p a h1 h2 (by rw[h5];exact hk) (by rw[h3];exact hg) (by rw[h3,h4];exact hs)
 | mref l g o p b ho hp hk hg hs=>
  obtain ⟨o',h1,h2,h3,h4,h5⟩:=QY l o p ho hp
  exact .mref _ g o' p b h1 h2 (by rw[h5];exact hk) (by rw[h3];exact hg) (by rw[h3];exact hs)
 | clo f nf cs vs hl hr ih=>exact .clo f nf _ vs (by rw[YX];exact hl) (fun i hi=>by rw[YX] at hi;rw[x9 _ _ _ hi];exact ih i hi)
 | agg cs vs hl hr ih=>exact .agg _ vs (by rw[YX];exact hl) (fun i hi=>by rw[YX] at hi;rw[x9 _ _ _ hi];exact ih i hi)
 | tup cs vs hl hr ih=>exact .tup _ vs (by rw[YX];exact hl) (fun i hi=>by rw[YX] at hi;rw[x9 _ _ _ hi];exact ih i hi)
def KF (n:Nat):List Nat→Nat→Nat
 | [],i=>n+i
 | k::_,0=>k
 | _::r,i+1=>KF n r i
def Vd {α:Type} (h:List α):List Nat→List α→List α
 | [],xs=>h++xs
 | k::r,x::xs=>Vd (h.set k x) r xs
 | _::_,[]=>h
theorem IS {n:Nat}:∀ {Qk:List Nat} {i l:Nat},Qk[i]? = some l→KF n Qk i=l
 | [],i,l,h=>by simp at h
 | k::r,0,l,h=>by simp at h;simp [KF,h]
 | k::r,i+1,l,h=>by simp at h;simp [KF,IS h]
theorem aX {n:Nat}:∀ {Qk:List Nat} {i:Nat},KF n Qk (Qk.length+i)=n+i
 | [],i=>by simp [KF]
 | k::r,i=>by
  rw[show (k::r).length+i=(r.length+i)+1 by simp;omega]
  simp only[KF];exact aX
theorem OM {α:Type}:∀ {Qk:List Nat} {h xs:List α},Ko h.length Qk=true→jB Qk=true→Qk.length≤xs.length→∀ (i:Nat),i<xs.length→(Vd h Qk xs)[KF h.length Qk i]? = xs[i]?
 | [],h,xs,_,_,_,i,hi=>by
  simp only[Vd,KF]
  rw[List.getElem?_append_right (by omega)];congr 1;omega
 | k::r,h,[],_,_,hl,i,hi=>by simp at hi
 | k::r,h,x::xs,hb,hd,hl,i,hi=>by
  simp only[Ko,Bool.and_eq_true,Nat.blt_eq] at hb
  simp only[jB,Bool.and_eq_true,Bool.not_eq_true'] at hd
  simp only[Vd]
  have hlen:(h.set k x).length=h.length:=by simp
  cases i with
  | zero=>
   have hk:k ∉ r:=fun hm=>by rw[YU.2 hm] at hd;cases hd.1
   have key:∀ (r:List Nat) (h' xs:List α),k ∉ r→k<h'.length→(Vd h' r xs)[k]? = h'[k]? := by
    intro r
    induction r with
    | nil=>intro h' xs _ Qd;simp only[Vd];rw[List.getElem?_append_left Qd]
    | cons j r ih=>
     intro h' xs hm Qd
     cases xs with
     | nil=>rfl
     | cons y ys=>
      simp only[Vd]
      rw[ih (h'.set j y) ys (fun hh=>hm (List.mem_cons_of_mem _ hh)) (by simpa using Qd),List.getElem?_set_ne (fun e=>hm (by rw[e];exact List.mem_cons_self))]
   simp only[KF]
   rw[key r (h.set k x) xs hk (by simpa using hb.1)]
   simp [hb.1]
  | succ i=>
   simp only[KF]
   rw[← hlen]
   exact OM (by rw[hlen];exact hb.2) hd.2 (by simpa using hl) i (by simpa using hi)
theorem Ct {α:Type}:∀ {Qk:List Nat} {h xs:List α} {l:Nat},l<h.length→l ∉ Qk→(Vd h Qk xs)[l]? = h[l]?
 | [],h,xs,l,hl,_=>by simp only[Vd];rw[List.getElem?_append_left hl]
 | k::r,h,[],l,hl,_=>rfl
 | k::r,h,x::xs,l,hl,hm=>by
  simp only[Vd]
  rw[Ct (by simpa using hl) (fun hh=>hm (List.mem_cons_of_mem _ hh)),List.getElem?_set_ne (fun e=>hm (by rw[e];exact List.mem_cons_self))]
theorem IT {α:Type}:∀ {Qk:List Nat} {h xs:List α},Qk.length≤xs.length→(Vd h Qk xs).length=h.length+(xs.length - Qk.length)
 | [],h,xs,_=>by simp [Vd]
 | k::r,h,[],hl=>by simp at hl
 | k::r,h,x::xs,hl=>by
  simp only[Vd]
  rw[IT (by simpa using hl)];simp
theorem Qce {α:Type} {Qk:List Nat} {h xs:List α} (hb:Ko h.length Qk=true) (hl:Qk.length≤xs.length) {l:Nat} (h1:l<h.length+(xs.length - Qk.length)) :
  (∃ i,i<xs.length∧l=KF h.length Qk i)∨(l<h.length∧l ∉ Qk):=by
 by_cases Qd:l<h.length
 ·by_cases hm:l∈Qk
  ·obtain ⟨i,hi,e⟩:=List.getElem_of_mem hm
   exact .inl ⟨i,by omega,(IS (by rw[List.getElem?_eq_getElem hi,e])).symm⟩
  ·exact .inr ⟨Qd,hm⟩
 ·refine .inl ⟨Qk.length+(l - h.length),by omega,?_⟩
  rw[aX];omega
section
variable {P:Program} {base nt:Nat} {w0:Start} {Q:Exit→St→Prop}
def XV (h:List Ob) (Qk:List Nat) (h':List Ob):List Ob:=Vd h Qk (h'.map (Ob.idx (KF h.length Qk)))
theorem Qcf {Z:Nat→Prop} {s:St} {pl:List Pl} {w w':World} {Qk:List Nat} (R:QT Z base s.h pl w) (QI:base≤w.heap.size) (hz:∀ b,w.heap.size≤b→Z b) (hb:Ko s.h.length Qk=true) (hd:jB Qk=true)
  {h':List Ob} {Qg:List Pl} {d:D} {v:Value} {F:List Ob} (hF:F.length=Qk.length) (aY:∀ (i:Nat) (o u:Ob),F[i]? = some o→(∃ l,Qk[i]? = some l∧s.h[l]? = some u)→o.gen=u.gen∧o.sz=u.sz∧o.kd.ty=u.kd.ty)
  (O':QT (fun b=>Z b∧∀ l q,pl[l]? = some (some (b,q))→l∈Qk) base h' Qg w') (V':Qv (fun b=>Z b∧∀ l q,pl[l]? = some (some (b,q))→l∈Qk) h' Qg w' d v)
  (T:Tr F (XU pl Qk) w h' Qg w') (B:Below base w w') :
  Tr s.h pl w (XV s.h Qk h') (Vd pl Qk Qg) w'∧QT Z base (XV s.h Qk h') (Vd pl Qk Qg) w'∧Qv Z (XV s.h Qk h') (Vd pl Qk Qg) w' (d.idx (KF s.h.length Qk)) v:=by
 have V0:Ko pl.length Qk=true:=by rw[R.len];exact hb
 have ON:Qg.length=h'.length:=O'.len
 have Cu:∀ (i l:Nat),Qk[i]? = some l→∃ u p o' p',s.h[l]? = some u∧pl[l]? = some p∧h'[i]? = some o'∧Qg[i]? = some p'∧u.gen≤o'.gen∧o'.kd.ty=u.kd.ty∧(o'.gen=u.gen→o'.sz=u.sz∧p'=p):=by
  intro i l e
  have hi:i<Qk.length:=(List.getElem?_eq_some_iff.1 e).1
  have hl:l<s.h.length:=aR hb l (List.mem_of_getElem? e)
  have e1:F[i]? = some (F[i]'(by omega)):=List.getElem?_eq_getElem _
  have e2:s.h[l]? = some s.h[l]:=List.getElem?_eq_getElem hl
  have Jd:l<pl.length:=by rw[R.len];exact hl
  have e3:pl[l]? = some pl[l]:=List.getElem?_eq_getElem Jd
  obtain ⟨k1,k2,k3⟩:=aY i _ _ e1 ⟨l,e,e2⟩
  obtain ⟨o',p',t1,t2,t3,t4,t5⟩:=T.obj i _ pl[l] e1 (by rw[jC V0 i l e,e3])
  exact ⟨_,_,o',p',e2,e3,t1,t2,by omega,by rw[t4,k3],fun x=>by obtain ⟨y,z⟩:=t5 (by omega);exact ⟨by rw[y,k2],z⟩⟩
 have jD:Qk.length≤h'.length:=by
  rcases Nat.eq_zero_or_pos Qk.length with h0 | h0
  ·omega
  ·obtain ⟨_,_,o',_,_,_,h3,_⟩:=Cu (Qk.length - 1) _ (List.getElem?_eq_getElem (by omega))
   have:=Jr h3;omega
 have IU:Qk.length≤Qg.length:=by omega
 have hN:s.h.length=pl.length:=R.len.symm
 have IV:∀ i,i<Qg.length→(Vd pl Qk Qg)[KF s.h.length Qk i]? = Qg[i]? := fun i hi=>by rw[hN];exact OM V0 hd IU i hi
 have Fb:∀ i,i<h'.length→(XV s.h Qk h')[KF s.h.length Qk i]? = (h'[i]?).map (Ob.idx (KF s.h.length Qk)):=fun i hi=>by
  unfold XV
  rw[OM hb hd (by simpa using jD) i (by simpa using hi),List.getElem?_map]
 have other:∀ (l b q:Nat),l ∉ Qk→pl[l]? = some (some (b,q))→KX Qg b∧w'.heap[b]? = w.heap[b]? := fun l b q hm e=>by
  refine T.JI b (fun i q' e'=>?_) (R.lt e).1
  have hi:i<Qk.length:=by rw[← Cs V0];exact Kz e'
  have e2:Qk[i]? = some Qk[i]:=List.getElem?_eq_getElem hi
  rw[jC V0 i _ e2] at e'
  have:=R.inj _ _ _ _ _ e e'
  exact hm (by rw[this];exact List.getElem_mem hi)
 have Cw:∀ (l:Nat) (p:Pl),(Vd pl Qk Qg)[l]? = some p→(∃ i,i<Qg.length∧l=KF s.h.length Qk i∧Qg[i]? = some p)∨(l<pl.length∧l ∉ Qk∧pl[l]? = some p):=fun l p e=>by
  have Qd:=Kz e
  rw[IT IU] at Qd
  rcases Qce V0 IU Qd with ⟨i,hi,rfl⟩ | ⟨h1,h2⟩
  ·rw[hN] at IV ⊢
   exact .inl ⟨i,hi,rfl,by rw[← IV i hi];exact e⟩
  ·exact .inr ⟨h1,h2,by rw[Ct h1 h2] at e;exact e⟩
 have Cb:∀ b,free (fun b=>Z b∧∀ l q,pl[l]? = some (some (b,q))→l∈Qk) Qg b→free Z (Vd pl Qk Qg) b:=fun b hf=>⟨hf.1.1,fun l q e=>by
  rcases Cw l _ e with ⟨i,_,_,e2⟩ | ⟨_,h2,e2⟩
  ·exact hf.2 i q e2
  ·exact h2 (hf.1.2 l q e2)⟩
 have QY:∀ (l:Nat) (o:Ob) (p:Pl),h'[l]? = some o→Qg[l]? = some p→∃ o',(XV s.h Qk h')[KF s.h.length Qk l]? = some o'∧(Vd pl Qk Qg)[KF s.h.length Qk l]? = some p∧o'.gen=o.gen∧o'.sz=o.sz∧o'.kd.ty=o.kd.ty:=fun l o p ho hp=>
  ⟨o.idx (KF s.h.length Qk),by rw[Fb l (Jr ho),ho];rfl,by rw[IV l (Kz hp),hp],rfl,rfl,rfl⟩
 have T2:Tr s.h pl w (XV s.h Qk h') (Vd pl Qk Qg) w':=by
  refine ⟨fun b aZ Qd=>?_,fun l o p ho hp=>?_,fun l o o' b q ho Zb hg hp c el hc=>?_⟩
  ·obtain ⟨h1,h2⟩:=T.JI b (aU V0 aZ) Qd
   refine ⟨fun l q e=>?_,h2⟩
   rcases Cw l _ e with ⟨i,_,_,e2⟩ | ⟨_,_,e2⟩
   ·exact h1 i q e2
   ·exact aZ l q e2
  ·by_cases hm:l∈Qk
   ·obtain ⟨i,hi,e⟩:=List.getElem_of_mem hm
    have e2:Qk[i]? = some l:=by rw[List.getElem?_eq_getElem hi,e]
    obtain ⟨u,p1,o',p',k1,k2,k3,k4,k5,k6,k7⟩:=Cu i l e2
    rw[ho] at k1;cases k1
    rw[hp] at k2;cases k2
    have ya:KF s.h.length Qk i=l:=IS e2
    refine ⟨o'.idx (KF s.h.length Qk),p',by rw[← ya,Fb i (Jr k3),k3];rfl,by rw[← ya,IV i (Kz k4),k4],k5,k6,k7⟩
   ·exact ⟨o,p,by unfold XV;rw[Ct (Jr ho) hm];exact ho,by rw[Ct (Kz hp) hm];exact hp,Nat.le_refl _,rfl,fun _=>⟨rfl,rfl⟩⟩
  ·by_cases hm:l∈Qk
   ·obtain ⟨i,hi,e⟩:=List.getElem_of_mem hm
    have e2:Qk[i]? = some l:=by rw[List.getElem?_eq_getElem hi,e]
    obtain ⟨u,p1,o1,p',k1,k2,k3,k4,k5,k6,k7⟩:=Cu i l e2
    rw[ho] at k1;cases k1
    have ya:KF s.h.length Qk i=l:=IS e2
    rw[← ya,Fb i (Jr k3),k3] at Zb
    cases Zb
    have e1:F[i]? = some (F[i]'(by omega)):=List.getElem?_eq_getElem _
    obtain ⟨f1,f2,f3⟩:=aY i _ _ e1 ⟨l,e2,ho⟩
    have hg:o1.gen=o.gen:=hg
    exact T.shape i _ o1 b q e1 k3 (by omega) (by rw[jC V0 i l e2,hp]) c el hc
   ·exact ⟨c,by rw[(other l b q hm hp).2];exact hc,rfl⟩
 refine ⟨T2,⟨?_,fun l l' b q q' e1 e2=>?_,fun l o ho hp=>?_,fun l o b q ho hp=>?_⟩,V'.idx _ Cb QY⟩
 ·unfold XV
  rw[IT IU,IT (by simpa using jD)];simp [R.len,ON]
 ·rcases Cw l _ e1 with ⟨i,hi,rfl,e3⟩ | ⟨h1,h2,e3⟩ <;> rcases Cw l' _ e2 with ⟨j,hj,rfl,e4⟩ | ⟨h3,h4,e4⟩
  ·rw[O'.inj i j b q q' e3 e4]
  ·exact absurd e3 ((other l' b q' h4 e4).1 i q)
  ·exact absurd e4 ((other l b q h2 e3).1 j q')
  ·exact R.inj l l' b q q' e3 e4
 ·rcases Cw l _ hp with ⟨i,hi,rfl,e3⟩ | ⟨h1,h2,e3⟩
  ·have ZE:i<h'.length:=by omega
   rw[Fb i ZE,List.getElem?_eq_getElem ZE] at ho
   cases ho
   exact O'.JU i h'[i] (List.getElem?_eq_getElem ZE) e3
  ·unfold XV at ho
   rw[Ct (by omega) h2] at ho
   exact R.JU l o ho e3
 ·rcases Cw l _ hp with ⟨i,hi,rfl,e3⟩ | ⟨h1,h2,e3⟩
  ·have ZE:i<h'.length:=by omega
   rw[Fb i ZE,List.getElem?_eq_getElem ZE] at ho
   cases ho
   obtain ⟨g1,x⟩:=O'.at_ i _ b q (List.getElem?_eq_getElem ZE) e3
   refine ⟨g1,x.to rfl rfl rfl rfl (fun k _=>YX _ _) fun k j v hk hj hr=>?_⟩
   show Qv _ _ _ _ (nth (zD _ (h'[i].row k)) j) v
   rw[x9 _ _ _ hj]
   exact hr.idx _ Cb QY
  ·unfold XV at ho
   rw[Ct (by omega) h2] at ho
   obtain ⟨g1,x⟩:=R.at_ l o b q ho e3
   exact ⟨g1,x.to rfl rfl rfl (other l b q h2 e3).2 (fun _ _=>rfl) fun i j v _ _ hr=>hr.tr T2⟩
theorem Qcg (QI:base≤w0.w.heap.size) {o:Oper} {s:St} {x:Operand} {args:Array Operand} {ZX:Array TypeId} {f:FuncId} {nf:Nat} {QB:List D} (hf:Qo P f) (ho:o.op=.call ⟨.value x,args,ZX⟩)
  (hx:J6 (Qp s.fr x)=some (f,nf,QB)) (Qk:List Nat) (hb:Ko s.h.length Qk=true) (hd:jB Qk=true) (OO:AL Qk (VZ s.h Qk)) (IW:jA Qk (Z6 nf QB (args.toList.map (Qp s.fr)))=true)
  {R:D→List Ob→Prop} (hF:QG P f ((VZ s.h Qk).map (Ob.Vc Qk)) (Yq Qk (Z6 nf QB (args.toList.map (Qp s.fr)))) R)
  (ht:Zi nt o.dst=true) {Z:Nat→Prop} (z:EG w0 Z) (pl:List Pl) (a:Act) (w:World) (r:Rel Z base nt s pl a w) (b:Jw Z base w0 s.h pl w) (Q':Exit→Act→World→Prop) :
  o.wp P a w (fun a' w'=>(Qk=[]→Ext w w')∧∃ d h Qg,R d h∧Rel Z base nt ⟨Q8 s.fr o.dst (d.idx (KF s.h.length Qk)),XV s.h Qk h⟩ Qg a' w'∧Jw Z base w0 (XV s.h Qk h) Qg w'∧Tr s.h pl w (XV s.h Qk h) Qg w'∧∃ v,a'=a.put o.dst v) Q':=by
 obtain ⟨vs,hv,Yp,v7⟩:=EM (r.eval x) hx
 have WB:base≤w.heap.size:=Nat.le_trans QI b.1.size
 have ba:∀ b,w.heap.size≤b→Z b:=b.2.2.new
 have V0:Ko pl.length Qk=true:=by rw[r.o.len];exact hb
 have qu:∀ b,free Z pl b→(Z b∧∀ l q,pl[l]? = some (some (b,q))→l∈Qk):=fun k hk=>⟨hk.1,fun l q e=>absurd e (hk.2 l q)⟩
 obtain ⟨q1,K9⟩:=EN (r:=fun d v=>Qv Z s.h pl w d v) (nf:=nf) Yp v7 (us:=args.toList.map a.eval) (args:=args.toList.map (Qp s.fr)) (by simp) (fun i hi=>by
  have ZE:i<args.toList.length:=by simpa using hi
  simp only[nth,QJ,List.getD_eq_getElem?_getD,List.getElem?_map]
  rw[List.getElem?_eq_getElem ZE]
  exact r.eval _)
 have hc:=hF (fun b=>Z b∧∀ l q,pl[l]? = some (some (b,q))→l∈Qk) base w (XU pl Qk) (Z6 nf vs (args.toList.map a.eval)) WB
  (fun k hk=>⟨ba k hk,fun l q e=>by have:=(r.o.lt e).1;omega⟩) (r.o.Qk qu hb hd OO) (by rw[XT];exact q1) (fun i hi=>by
   rw[XT] at hi
   rw[wo _ _ _ hi]
   exact (K9 i hi).Qk qu r.o.len hb (Cr IW i hi))
 unfold Oper.wp
 rw[EO hf ho hv w]
 simp only[Oper.upon_enter]
 refine hc.mono fun e w' he=>?_
 obtain ⟨v,d,h',Qg,rfl,hR,hO,hV,hT,hB⟩:=he
 obtain ⟨j1,j2,j3⟩:=Qcf r.o WB ba hb hd (F:=(VZ s.h Qk).map (Ob.Vc Qk)) (by rw[List.length_map,IQ hb]) (fun i o u e ⟨l,e1,e2⟩=>by
  rw[List.getElem?_map,AK hb i l e1,e2] at e
  cases e
  exact ⟨rfl,rfl,rfl⟩) hO hV hT hB
 refine ⟨fun e=>by subst e;exact fun k hk=>(hT.JI k (fun l q e=>by simp [XU] at e) hk).2,d,h',Vd pl Qk Qg,hR,?_,b.step j1 hB,j1,v,rfl⟩
 cases hd:o.dst with
 | none=>exact r.zd j1 j2 v
 | some t=>rw[hd] at ht;exact r.to j1 j2 (Yo ht) j3
theorem bc (QI:base≤w0.w.heap.size) (Qk:List Nat) {k:List Item} {dst:Option Nat} {ty:TypeId} {pos:String} {after:Array Edge} {gd:Option (Nat × Bool)} {r:List (Oper × G)} {s:St} {x:Operand} {args:Array Operand} {ZX:Array TypeId} {f:FuncId} {nf:Nat} {QB:List D} (hf:Qo P f)
  (hx:J6 (Qp s.fr x)=some (f,nf,QB)) {F:List Ob} {cs:List D} (KE:Ko s.h.length Qk=true∧jB Qk=true∧AL Qk (VZ s.h Qk)∧jA Qk (Z6 nf QB (args.toList.map (Qp s.fr)))=true∧WZ (Yq Qk (Z6 nf QB (args.toList.map (Qp s.fr)))) cs∧jv ((VZ s.h Qk).map (Ob.Vc Qk)) F)
  {R:D→List Ob→Prop} (hF:QG P f F cs R) (ht:Zi nt dst=true) (hk:∀ d h,R d h→Qs P base nt w0 Q (.ops r::k) .normal ⟨Q8 s.fr dst (d.idx (KF s.h.length Qk)),XV s.h Qk h⟩) :
  Qs P base nt w0 Q (.ops ((⟨dst,.call ⟨.value x,args,ZX⟩,ty,pos,after,gd⟩,none)::r)::k) .normal s:=by
 simp only[Qs] at hk ⊢
 obtain ⟨hb,hd,OO,IW,he,hle⟩:=KE
 intro Z z pl a w r b
 simp only[Wb,K0,if_true]
 have hF2:=hF.args he
 have hF3:QG P f ((VZ s.h Qk).map (Ob.Vc Qk)) (Yq Qk (Z6 nf QB (args.toList.map (Qp s.fr)))) R:=by
  intro Z base w pl vs h1 h2 h3 hl hc
  have hw:=Wk.x6 (m:=F.length) (fr:=[]) hle
  obtain ⟨Qg,r',K⟩:=hw Z base 0 pl { tmps:=#[],defers:=[] } w ⟨rfl,rfl,fun t=>.cl _ _ (.undef _),h3⟩
  obtain ⟨e1,e2⟩:=Il hle
  refine (hF2 Z base w pl vs h1 h2 ?_ hl (fun i hi=>(hc i hi).x6 hle)).mono fun e w' ⟨v,d,h,Qg,k1,k2,k3,k4,k5,k6⟩=>⟨v,d,h,Qg,k1,k2,k3,k4,?_,k6⟩
  ·refine ⟨by rw[e1];exact h3.len,h3.inj,fun l o' ho hp=>?_,fun l o' b q ho hp=>?_⟩
   ·obtain ⟨o,g3,g4⟩:=e2 l o' ho
    rw[g4.2.2.1];exact h3.JU l o g3 hp
   ·obtain ⟨o,g3,g4,g5,g6,g8,g7⟩:=e2 l o' ho
    obtain ⟨g1,x⟩:=h3.at_ l o b q g3 hp
    exact ⟨fun hr=>g1 (by rw[← g8.2,hr]),x.to g8.1 g5 g6 rfl (fun i hi=>by rw[g7 i hi]) fun i j v hi _ hr=>by rw[g7 i hi];exact hr.x6 hle⟩
  ·have key:∀ (l:Nat) (o:Ob),((VZ s.h Qk).map (Ob.Vc Qk))[l]? = some o→∃ o',F[l]? = some o'∧B6 o o':=fun l o e=>by
    have:l<F.length:=by rw[e1];exact Jr e
    obtain ⟨o2,g3,g4⟩:=e2 l _ (List.getElem?_eq_getElem this)
    rw[e] at g3;cases g3
    exact ⟨_,List.getElem?_eq_getElem this,g4⟩
   refine ⟨k5.JI,fun l o p ho hp=>?_,fun l o Hl b q ho BO hg hp c el hc=>?_⟩
   ·obtain ⟨o1,g1,g2,g3,g4,g5,g6⟩:=key l o ho
    obtain ⟨o',p',t1,t2,t3,t4,t5⟩:=k5.obj l o1 p g1 hp
    exact ⟨o',p',t1,t2,by omega,by rw[t4,g5.1],fun x=>by obtain ⟨y1,y2⟩:=t5 (by omega);exact ⟨by rw[y1,g3],y2⟩⟩
   ·obtain ⟨o1,g1,g2,g3,g4,g5,g6⟩:=key l o ho
    exact k5.shape l o1 Hl b q g1 BO (by omega) hp c el hc
 exact Oper.wp_mono (fun a' w' ⟨_,d,h,Qg,hR,r',b',_⟩=>hk d h hR Z z Qg a' w' r' b') (Qcg QI hf rfl hx Qk hb hd OO IW hF3 ht z pl a w r b _)
end
attribute [go_sem] D.idx zD Ob.idx KF Vd XV jB Fa
end Go.Fg
namespace Go.Fg
def IX (fr:List (Nat × D)):List Nat→List (Nat × D)
 | []=>[]
 | t::r=>(t,get fr t)::IX fr r
attribute [go_sem] IX
def AM {G:Type} (R:Nat→Prop) (V:Nat→G→List (Nat × D)) (H:Nat→G→List Ob) (rest:List (Nat × D)) (i:Nat) (s:St):Prop:=R i∧∃ γ,s=⟨V i γ++rest,H i γ⟩
theorem AM.mk {G:Type} {R:Nat→Prop} {V:Nat→G→List (Nat × D)} {H:Nat→G→List Ob} {rest:List (Nat × D)} {i:Nat} (γ:G) (h:R i):AM R V H rest i ⟨V i γ++rest,H i γ⟩:=⟨h,γ,rfl⟩
section
variable {P:Program} {base nt:Nat} {w0:Start} {Q:Exit→St→Prop} {k:List Item}
theorem Qcj {G:Type} (keep:List Nat) (R:Nat→Prop) (V:Nat→G→List (Nat × D)) (H:Nat→G→List Ob) (N:Nat) (γ0:G) {c:Code} {fr:List (Nat × D)} {h:List Ob} {rest:List (Nat × D)} (hr:IX fr keep=rest)
  (hw:Ql w0 ⟨fr,h⟩ ⟨V 0 γ0++rest,H 0 γ0⟩) (hR:R 0)
  (round:∀ i γ,i≤N→R i→Qs P base nt w0 (E9 P base nt w0 Q k (AM R V H rest) N i) [.code c] .normal ⟨V i γ++rest,H i γ⟩):Qs P base nt w0 Q (.code (.loop c)::k) .normal ⟨fr,h⟩:=
 ZB (AM R V H rest) N hw ⟨hR,γ0,rfl⟩ fun i s hi ⟨hRi,γ,e⟩=>by subst e;exact round i γ hi hRi
end
section
variable {P:Program} {base:Nat} {w0:Start} {Q:Exit→St→Prop} {X:Cx} {nt n:Nat} {k k':List Item} {s s':St}
theorem kI {i N:Nat} (hi:i≤N) (h1:i<N→hx P base w0 Q X nt n k s) (h2:i=N→hx P base w0 Q X nt n k' s'):Kn (decide (i<N)) (hz P base w0 Q X nt n k s) (hz P base w0 Q X nt n k' s'):=
 ⟨fun h=>h1 (by simpa using h),fun h=>h2 (by simp at h;omega)⟩
theorem kJ {i N:Nat} (hi:i≤N) (h1:i<N→hx P base w0 Q X nt n k s) (h2:i=N→hx P base w0 Q X nt n k' s'):Kn (decide ((i:Int)<(N:Int))) (hz P base w0 Q X nt n k s) (hz P base w0 Q X nt n k' s'):=
 ⟨fun h=>h1 (by simpa using h),fun h=>h2 (by simp at h;omega)⟩
theorem Fc {p:Prop} [Decidable p] (h1:p→hx P base w0 Q X nt n k s) (h2:¬ p→hx P base w0 Q X nt n k' s'):Kn (decide p) (hz P base w0 Q X nt n k s) (hz P base w0 Q X nt n k' s'):=
 ⟨fun h=>h1 (of_decide_eq_true h),fun h=>h2 (of_decide_eq_false h)⟩
theorem Fe {α:Type} [BEq α] [LawfulBEq α] {a b:α} (h1:a=b→hx P base w0 Q X nt n k s) (h2:a≠b→hx P base w0 Q X nt n k' s'):Kn (a == b) (hz P base w0 Q X nt n k s) (hz P base w0 Q X nt n k' s'):=
 ⟨fun h=>h1 (by simpa using h),fun h=>h2 (by simpa using h)⟩
theorem Ff {α:Type} [BEq α] [LawfulBEq α] {a b:α} (h1:a≠b→hx P base w0 Q X nt n k s) (h2:a=b→hx P base w0 Q X nt n k' s'):Kn (a != b) (hz P base w0 Q X nt n k s) (hz P base w0 Q X nt n k' s'):=
 ⟨fun h=>h1 (by simpa using h),fun h=>h2 (by simpa using h)⟩
theorem Fh {K K':St→Prop} {l l':List (Bool × Oper × G)} {p:Prop} [Decidable p] (h1:p→JO P base w0 X nt K l s) (h2:¬ p→JO P base w0 X nt K' l' s'):Kn (decide p) (WD P base w0 X nt K l s) (WD P base w0 X nt K' l' s'):=
 ⟨fun h=>h1 (of_decide_eq_true h),fun h=>h2 (of_decide_eq_false h)⟩
theorem Fi {K K':St→Prop} {l l':List (Bool × Oper × G)} {α:Type} [BEq α] [LawfulBEq α] {a b:α} (h1:a=b→JO P base w0 X nt K l s) (h2:a≠b→JO P base w0 X nt K' l' s'):Kn (a == b) (WD P base w0 X nt K l s) (WD P base w0 X nt K' l' s'):=
 ⟨fun h=>h1 (by simpa using h),fun h=>h2 (by simpa using h)⟩
theorem Fj {K K':St→Prop} {l l':List (Bool × Oper × G)} {α:Type} [BEq α] [LawfulBEq α] {a b:α} (h1:a≠b→JO P base w0 X nt K l s) (h2:a=b→JO P base w0 X nt K' l' s'):Kn (a != b) (WD P base w0 X nt K l s) (WD P base w0 X nt K' l' s'):=
 ⟨fun h=>h1 (by simpa using h),fun h=>h2 (by simpa using h)⟩
end
end Go.Fg
namespace Go.Fg
open Go.RowKit (Below)
def rowFrom (off:Nat) (row:Nat→List D):Nat→List D:=fun i=>row (off+i)
theorem Qcl (row:Nat→List D):rowFrom 0 row=row:=by funext i;simp [rowFrom]
theorem Fk (off:Nat) (row:Nat→List D) (i:Nat):rowFrom off row i=row (off+i):=rfl
mutual
def D.fz (l g0 n sz:Nat) (row:Nat→List D):D→D
 | .ref l' g off len=>bif Nat.beq l' l then (bif Nat.beq g g0 && Nat.ble (off+len) n then .imm sz len (rowFrom off row) else .undef) else .ref l' g off len
 | .ptr l' g i j=>bif Nat.beq l' l then (bif Nat.beq g g0 && Nat.blt i n && Nat.ble j sz then .ip ((row i).drop j) else .undef) else .ptr l' g i j
 | .mref l' g=>bif Nat.beq l' l then .undef else .mref l' g
 | .clo f nf cs=>.clo f nf (XW l g0 n sz row cs)
 | .agg cs=>.agg (XW l g0 n sz row cs)
 | .tup cs=>.tup (XW l g0 n sz row cs)
 | d=>d
def XW (l g0 n sz:Nat) (row:Nat→List D):List D→List D
 | []=>[]
 | c::cs=>c.fz l g0 n sz row::XW l g0 n sz row cs
end
theorem qG (l g0 n sz:Nat) (row:Nat→List D):∀ cs:List D,(XW l g0 n sz row cs).length=cs.length
 | []=>rfl
 | _::cs=>by simp [XW,qG l g0 n sz row cs]
theorem AN (l g0 n sz:Nat) (row:Nat→List D):∀ (cs:List D) (i:Nat),i<cs.length→nth (XW l g0 n sz row cs) i=(nth cs i).fz l g0 n sz row
 | [],i,h=>by simp at h
 | c::cs,0,_=>by simp [XW,nth]
 | c::cs,i+1,h=>by
  have:=AN l g0 n sz row cs i (by simpa using h)
  simpa [XW,nth] using this
theorem Qcm (l g0 n sz:Nat) (row:Nat→List D) (c:Bool) (a b:List D):XW l g0 n sz row (bif c then a else b)=bif c then XW l g0 n sz row a else XW l g0 n sz row b:=by cases c <;> rfl
def bf (l g0 n sz:Nat) (row:Nat→List D):List (Nat × D)→List (Nat × D)
 | []=>[]
 | (t,d)::r=>(t,d.fz l g0 n sz row)::bf l g0 n sz row r
def Ob.fz (l g0 n sz:Nat) (row:Nat→List D) (o:Ob):Ob:=⟨o.kd,o.gen,o.sz,o.n,fun i=>XW l g0 n sz row (o.row i)⟩
def bg (l g0 n sz:Nat) (row:Nat→List D):List Ob→List Ob
 | []=>[]
 | o::r=>o.fz l g0 n sz row::bg l g0 n sz row r
def Ob.gone (o:Ob):Ob:=⟨.arr,o.gen+1,o.sz,0,fun _=>[]⟩
section
variable {Z:Nat→Prop}
theorem Qcn {N:Nat→Prop} {w:World} (l g0 n sz:Nat) (row:Nat→List D) {d:D} {v:Value} (c:Cl N w d v):Cl N w (d.fz l g0 n sz row) v:=by
 induction c with
 | raw v=>exact .raw v
 | undef v=>exact .undef v
 | nil a=>exact .nil a
 | imm s m r a cap b o vs ha hl hs hc hr ih=>exact .imm s m r a cap b o vs ha hl hs hc hr
 | ip cells b o vs hc hr ih=>exact .ip cells b o vs hc hr
 | clo f nf cs vs hl hr ih=>exact .clo f nf _ vs (by rw[qG];exact hl) (fun i hi=>by rw[qG] at hi;rw[AN _ _ _ _ _ _ _ hi];exact ih i hi)
 | agg cs vs hl hr ih=>exact .agg _ vs (by rw[qG];exact hl) (fun i hi=>by rw[qG] at hi;rw[AN _ _ _ _ _ _ _ hi];exact ih i hi)
 | tup cs vs hl hr ih=>exact .tup _ vs (by rw[qG];exact hl) (fun i hi=>by rw[qG] at hi;rw[AN _ _ _ _ _ _ _ hi];exact ih i hi)
theorem Qv.fz {h:List Ob} {pl:List Pl} {w:World} {l:Nat} {o:Ob} {p:Pl} (ho:h[l]? = some o) (hp:pl[l]? = some p) (hk:o.kd.ty=0) (hb:∀ b q,p=some (b,q)→Z b∧(∀ l' q',pl[l']? = some (some (b,q'))→l'=l)∧Ej Z h pl w o b q)
  (ZY:∀ i,i<o.n→(o.row i).all D.ky=true) {h':List Ob} (hh:∀ (l':Nat) (o':Ob),l'≠l→h[l']? = some o'→∃ u,h'[l']? = some u∧u.gen=o'.gen∧u.sz=o'.sz∧u.kd.ty=o'.kd.ty) {d:D} {v:Value} (r:Qv Z h pl w d v) :
  Qv Z h' (pl.set l none) w (d.fz l o.gen o.n o.sz o.row) v:=by
 have QZ:∀ (l':Nat),l'≠l→(pl.set l none)[l']? = pl[l']? := fun l' YQ=>by rw[List.getElem?_set_ne (Ne.symm YQ)]
 have EX:∀ b,KX pl b→KX (pl.set l none) b:=fun b hb l' q e=>by
  by_cases e1:l'=l
  ·subst e1;rw[List.getElem?_set_self (Kz hp)] at e;cases e
  ·rw[QZ l' e1] at e;exact hb l' q e
 have VW:∀ b,free Z pl b→free Z (pl.set l none) b:=fun b hb=>⟨hb.1,EX b hb.2⟩
 have yc:∀ b q,p=some (b,q)→free Z (pl.set l none) b:=fun b q e=>⟨(hb b q e).1,fun l' q' e'=>by
  by_cases e1:l'=l
  ·subst e1;rw[List.getElem?_set_self (Kz hp)] at e';cases e'
  ·rw[QZ l' e1] at e';exact e1 ((hb b q e).2.1 l' q' e')⟩
 have ko:∀ b q,p=some (b,q)→∃ c el,w.heap[b]? = some (.cells c el (0,0))∧(∀ i,i<o.n→(o.row i).length=o.sz)∧∃ vs:Nat→Nat→Value,∀ i j,i<o.n→j<o.sz→w.cell? ⟨b,q+(i*o.sz+j),none⟩=some (vs i j)∧Cl (free Z (pl.set l none)) w (nth (o.row i) j) (vs i j):=fun b q e=>by
  obtain ⟨c,el,h1,_,h3,h4⟩:=(hb b q e).2.2
  refine ⟨c,el,h1,h3,fun i j=>(c[q+(i*o.sz+j)]?).getD Go.undef,fun i j hi hj=>?_⟩
  obtain ⟨u,hu,hr⟩:=h4 i j hi hj
  refine ⟨by rw[cell_of_row w b _ c el (0,0) h1,hu];simp [hu],?_⟩
  simp only[hu,Option.getD_some]
  have h5:=ZY i hi
  rw[List.all_eq_true] at h5
  have h6:j<(o.row i).length:=by rw[h3 i hi];exact hj
  have h7:(nth (o.row i) j).ky=true:=h5 _ (by simp only[nth,List.getD_eq_getElem?_getD,List.getElem?_eq_getElem h6,Option.getD_some];exact List.getElem_mem h6)
  exact (B5 hr h7).mono fun x hx _=>⟨VW x hx,rfl⟩
 induction r with
 | cl d v hc=>exact .cl _ _ (Qcn l o.gen o.n o.sz o.row (hc.mono fun b hb _=>⟨VW b hb,rfl⟩))
 | ref l' g off len o' p' a cap Zb Zm Zj hg hs=>
  by_cases e:l'=l
  ·subst e
   rw[ho] at Zb;cases Zb
   rw[hp] at Zm;cases Zm
   simp only[D.fz,Nat.beq_refl,cond_true]
   cases hc:(Nat.beq g o.gen && Nat.ble (off+len) o.n)
   ·exact .cl _ _ (.undef _)
   ·simp only[cond_true,Bool.and_eq_true,Nat.beq_eq,Nat.ble_eq] at hc ⊢
    rcases hs hc.1 with ⟨h1,h2⟩ | ⟨b,q,c,el,Kb,ha,ya,ZO,km⟩
    ·subst h1;subst h2
     exact .cl _ _ (.imm _ _ _ _ _ 0 0 (fun _ _=>Go.undef) (fun h=>by omega) (by omega) (fun i hi=>by omega) (fun i j hi=>by omega) (fun i j hi=>by omega))
    ·obtain ⟨c',HG,k1,k2,vs,k3⟩:=ko b q Kb
     refine .cl _ _ (.imm _ _ _ _ _ b (q+off*o.sz) (fun i j=>vs (off+i) j) (fun _=>ha) km (fun i hi=>k2 _ (by omega)) (fun i j hi hj=>⟨yc b q Kb,?_⟩) (fun i j hi hj=>(k3 (off+i) j (by omega) hj).2))
     rw[← (k3 (off+i) j (by omega) hj).1,Nat.add_mul,show q+off*o.sz+(i*o.sz+j)=q+(off*o.sz+i*o.sz+j) by omega]
  ·have QD:Nat.beq l' l=false:=by rw[← Bool.not_eq_true,Nat.beq_eq];exact e
   simp only[D.fz,QD,cond_false]
   obtain ⟨u,u1,u2,u3,u4⟩:=hh l' o' e Zb
   exact .ref l' g off len u p' a cap u1 (by rw[QZ l' e];exact Zm) (by rw[u4];exact Zj) (by rw[u2];exact hg) (by rw[u2,u3];exact hs)
 | ptr l' g i j o' p' a Zb Zm Zj hg hs=>
  by_cases e:l'=l
  ·subst e
   rw[ho] at Zb;cases Zb
   rw[hp] at Zm;cases Zm
   simp only[D.fz,Nat.beq_refl,cond_true]
   cases hc:(Nat.beq g o.gen && Nat.blt i o.n && Nat.ble j o.sz)
   ·exact .cl _ _ (.undef _)
   ·simp only[cond_true,Bool.and_eq_true,Nat.beq_eq,Nat.ble_eq,Nat.blt_eq] at hc ⊢
    obtain ⟨b,q,Kb,ha⟩:=hs hc.1.1
    obtain ⟨c',HG,k1,k2,vs,k3⟩:=ko b q Kb
    subst ha
    have hlen:((o.row i).drop j).length=o.sz - j:=by rw[List.length_drop,k2 i hc.1.2]
    refine .cl _ _ (.ip _ b _ (fun k=>vs i (j+k)) (fun k hk=>⟨yc b q Kb,?_⟩) (fun k hk=>?_))
    ·rw[← (k3 i (j+k) hc.1.2 (by omega)).1];congr 1;simp
    ·rw[xI];exact (k3 i (j+k) hc.1.2 (by omega)).2
  ·have QD:Nat.beq l' l=false:=by rw[← Bool.not_eq_true,Nat.beq_eq];exact e
   simp only[D.fz,QD,cond_false]
   obtain ⟨u,u1,u2,u3,u4⟩:=hh l' o' e Zb
   exact .ptr l' g i j u p' a u1 (by rw[QZ l' e];exact Zm) (by rw[u4];exact Zj) (by rw[u2];exact hg) (by rw[u2,u3];exact hs)
 | mref l' g o' p' b Zb Zm Zj hg hs=>
  by_cases e:l'=l
  ·subst e
   rw[ho] at Zb;cases Zb
   exact absurd hk Zj.1
  ·have QD:Nat.beq l' l=false:=by rw[← Bool.not_eq_true,Nat.beq_eq];exact e
   simp only[D.fz,QD,cond_false]
   obtain ⟨u,u1,u2,u3,u4⟩:=hh l' o' e Zb
   exact .mref l' g u p' b u1 (by rw[QZ l' e];exact Zm) (by rw[u4];exact Zj) (by rw[u2];exact hg) (by rw[u2];exact hs)
 | clo f nf cs vs hl hr ih=>exact .clo f nf _ vs (by rw[qG];exact hl) (fun i hi=>by rw[qG] at hi;rw[AN _ _ _ _ _ _ _ hi];exact ih i hi)
 | agg cs vs hl hr ih=>exact .agg _ vs (by rw[qG];exact hl) (fun i hi=>by rw[qG] at hi;rw[AN _ _ _ _ _ _ _ hi];exact ih i hi)
 | tup cs vs hl hr ih=>exact .tup _ vs (by rw[qG];exact hl) (fun i hi=>by rw[qG] at hi;rw[AN _ _ _ _ _ _ _ hi];exact ih i hi)
end
attribute [go_sem] Qcl Fk D.fz XW Qcm bf Ob.fz bg Ob.gone
end Go.Fg
namespace Go.Fg
def W0 (f:D→D→Prop):List D→List D→Prop
 | [],[]=>True
 | a::r,b::s=>f a b∧W0 f r s
 | _,_=>False
def Ja:Nat→D→D→Prop
 | 0,d,d'=>d'=d
 | k+1,d,d'=>match d' with
  | .raw v=>d=.raw v
  | .undef=>True
  | .nil=>d=.nil
  | .imm z n r=>match d with
   | .imm z' n' r'=>z=z'∧n=n'∧∀ i,i<n→W0 (Ja k) (r' i) (r i)
   | .nil=>n=0
   | _=>False
  | .ip cs=>match d with
   | .ip Zs=>W0 (Ja k) Zs cs
   | _=>False
  | .ref l g o n=>d=.ref l g o n
  | .ptr l g i j=>d=.ptr l g i j
  | .mref l g=>d=.mref l g
  | .clo f nf cs=>match d with
   | .clo f' IY Zs=>f=f'∧nf=IY∧W0 (Ja k) Zs cs
   | _=>False
  | .agg cs=>match d with
   | .agg Zs=>W0 (Ja k) Zs cs
   | _=>False
  | .tup cs=>match d with
   | .tup Zs=>W0 (Ja k) Zs cs
   | _=>False
theorem yd {f:D→D→Prop} (h:∀ d,f d d):∀ l,W0 f l l
 | []=>trivial
 | a::r=>⟨h a,yd h r⟩
theorem yf:∀ (k:Nat) (d:D),Ja k d d
 | 0,_=>rfl
 | k+1,d=>by cases d <;> simp [Ja] <;> first | exact yd (yf k) _ | exact fun _ _=>yd (yf k) _
theorem Qco (k:Nat) (l:List D):W0 (Ja k) l l=True:=eq_true (yd (yf k) l)
theorem zE {f:D→D→Prop}:∀ {l m:List D},W0 f l m→m.length=l.length∧∀ i,i<l.length→f (nth l i) (nth m i)
 | [],[],_=>⟨rfl,fun i hi=>by simp at hi⟩
 | [],_::_,h=>h.elim
 | _::_,[],h=>h.elim
 | a::r,b::s,h=>by
  obtain ⟨h1,h2⟩:=zE h.2
  refine ⟨by simp [h1],fun i hi=>?_⟩
  cases i with
  | zero=>exact h.1
  | succ i=>have:=h2 i (by simpa using hi);simpa [nth] using this
theorem Cy:∀ (k:Nat) {N:Nat→Prop} {w:World} {d d':D} {v:Value},Ja k d d'→Cl N w d v→Cl N w d' v
 | 0,_,_,d,d',v,h,c=>by have h:d'=d:=h;subst h;exact c
 | k+1,N,w,d,d',v,h,c=>by
  cases d' <;> simp only[Ja] at h
  case raw=>subst h;exact c
  case undef=>exact .undef _
  case nil=>subst h;exact c
  case imm z n r=>
   split at h
   ·obtain ⟨rfl,rfl,h⟩:=h
    cases c with
    | imm _ _ _ a cap b o vs ha hl hs hc hr=>
     exact .imm _ _ _ a cap b o vs ha hl (fun i hi=>by rw[(zE (h i hi)).1];exact hs i hi) hc (fun i j hi hj=>Cy k ((zE (h i hi)).2 j (by rw[hs i hi];exact hj)) (hr i j hi hj))
   ·subst h
    cases c with
    | nil a=>exact .imm _ _ _ _ _ 0 0 (fun _ _=>Go.undef) (fun h=>by omega) (by omega) (fun i hi=>by omega) (fun i j hi=>by omega) (fun i j hi=>by omega)
   ·exact h.elim
  case ip cs=>
   split at h
   ·obtain ⟨h1,h2⟩:=zE h
    cases c with
    | ip _ b o vs hc hr=>exact .ip _ b o vs (fun j hj=>hc j (by omega)) (fun j hj=>Cy k (h2 j (by omega)) (hr j (by omega)))
   ·exact h.elim
  case ref=>subst h;exact c
  case ptr=>subst h;exact c
  case mref=>subst h;exact c
  case clo f nf cs=>
   split at h
   ·obtain ⟨rfl,rfl,h⟩:=h
    obtain ⟨h1,h2⟩:=zE h
    cases c with
    | clo _ _ _ vs hl hr=>exact .clo _ _ _ vs (by omega) (fun j hj=>Cy k (h2 j (by omega)) (hr j (by omega)))
   ·exact h.elim
  case agg cs=>
   split at h
   ·obtain ⟨h1,h2⟩:=zE h
    cases c with
    | agg _ vs hl hr=>exact .agg _ vs (by omega) (fun j hj=>Cy k (h2 j (by omega)) (hr j (by omega)))
   ·exact h.elim
  case tup cs=>
   split at h
   ·obtain ⟨h1,h2⟩:=zE h
    cases c with
    | tup _ vs hl hr=>exact .tup _ vs (by omega) (fun j hj=>Cy k (h2 j (by omega)) (hr j (by omega)))
   ·exact h.elim
theorem kN:∀ (k:Nat) {Z:Nat→Prop} {h:List Ob} {pl:List Pl} {w:World} {d d':D} {v:Value},Ja k d d'→Qv Z h pl w d v→Qv Z h pl w d' v
 | 0,_,_,_,_,d,d',v,e,c=>by have e:d'=d:=e;subst e;exact c
 | k+1,Z,h,pl,w,d,d',v,e,c=>by
  cases c with
  | cl _ _ hc=>exact .cl _ _ (Cy (k+1) e hc)
  | ref l g off len o p a cap ho hp hk hg hs=>
   cases d' <;> simp only[Ja,reduceCtorEq] at e
   ·exact .cl _ _ (.undef _)
   ·cases e;exact .ref l g off len o p a cap ho hp hk hg hs
  | ptr l g i j o p a ho hp hk hg hs=>
   cases d' <;> simp only[Ja,reduceCtorEq] at e
   ·exact .cl _ _ (.undef _)
   ·cases e;exact .ptr l g i j o p a ho hp hk hg hs
  | mref l g o p b ho hp hk hg hs=>
   cases d' <;> simp only[Ja,reduceCtorEq] at e
   ·exact .cl _ _ (.undef _)
   ·cases e;exact .mref l g o p b ho hp hk hg hs
  | clo f nf cs vs hl hr=>
   cases d' <;> simp only[Ja,reduceCtorEq] at e
   ·exact .cl _ _ (.undef _)
   ·obtain ⟨rfl,rfl,e⟩:=e
    obtain ⟨h1,h2⟩:=zE e
    exact .clo _ _ _ vs (by omega) (fun j hj=>kN k (h2 j (by omega)) (hr j (by omega)))
  | agg cs vs hl hr=>
   cases d' <;> simp only[Ja,reduceCtorEq] at e
   ·exact .cl _ _ (.undef _)
   ·obtain ⟨h1,h2⟩:=zE e
    exact .agg _ vs (by omega) (fun j hj=>kN k (h2 j (by omega)) (hr j (by omega)))
  | tup cs vs hl hr=>
   cases d' <;> simp only[Ja,reduceCtorEq] at e
   ·exact .cl _ _ (.undef _)
   ·obtain ⟨h1,h2⟩:=zE e
    exact .tup _ vs (by omega) (fun j hj=>kN k (h2 j (by omega)) (hr j (by omega)))
def Told (R:D→List Ob→Prop) (d:D) (h:List Ob):Prop:=∃ d',Ja 6 d d'∧R d' h
theorem QG.tell {P:Program} {f:FuncId} {F:List Ob} {args:List D} {R:D→List Ob→Prop} (h:QG P f F args (Told R)):QG P f F args R:=fun Z base w pl vs h1 h2 h3 hl hc=>
 (h Z base w pl vs h1 h2 h3 hl hc).mono fun _ _ ⟨v,d,hh,Qg,k1,⟨d',e1,e2⟩,k3,k4,k5⟩=>⟨v,d',hh,Qg,k1,e2,k3,kN 6 e1 k4,k5⟩
theorem Q7.tell {P:Program} {f:FuncId} {args:List D} {R:D→List Ob→Prop} (h:Q7 P f args (Told R)):Q7 P f args R:=QG.tell h
def Fl (fr:List (Nat × D)):List (Nat × D)→Prop
 | []=>True
 | (t,d)::r=>Ja 6 (get fr t) d∧Fl fr r
theorem bj {fr:List (Nat × D)}:∀ {r:List (Nat × D)},Fl fr r→∀ t d,(t,d)∈r→Ja 6 (get fr t) d
 | [],_,_,_,h=>by cases h
 | (u,e)::r,h,t,d,hm=>by
  rcases List.mem_cons.1 hm with h1 | h1
  ·cases h1;exact h.1
  ·exact bj h.2 t d h1
def IZ (o o':Ob):Prop:=o'.gen=o.gen∧o'.sz=o.sz∧o'.n=o.n∧o'.kd.EP o.kd∧∀ i,i<o.n→W0 (Ja 6) (o.row i) (o'.row i)
def Fm:List Ob→List Ob→Prop
 | [],[]=>True
 | o::r,o'::r'=>IZ o o'∧Fm r r'
 | _,_=>False
theorem bk:∀ {h h':List Ob},Fm h h'→h'.length=h.length∧∀ (l:Nat) (o':Ob),h'[l]? = some o'→∃ o,h[l]? = some o∧IZ o o'
 | [],[],_=>⟨rfl,fun l o' e=>by simp at e⟩
 | [],_::_,h=>h.elim
 | _::_,[],h=>h.elim
 | o::r,o'::r',h=>by
  obtain ⟨h1,h2⟩:=bk h.2
  refine ⟨by simp [h1],fun l u e=>?_⟩
  cases l with
  | zero=>simp at e;subst e;exact ⟨o,rfl,h.1⟩
  | succ l=>simp at e;obtain ⟨v,h3,h4⟩:=h2 l u e;exact ⟨v,by simpa using h3,h4⟩
theorem Wk.tell {m:Nat} {fr fr':List (Nat × D)} {h h':List Ob} (hf:Fl fr fr') (hl:Fm h h'):Wk m ⟨fr,h⟩ ⟨fr',h'⟩:=fun Z base nt pl a w r=>by
 obtain ⟨h1,h2⟩:=bk hl
 have key:∀ (l:Nat) (o:Ob),h[l]? = some o→∃ o',h'[l]? = some o'∧IZ o o':=fun l o e=>by
  have:l<h'.length:=by rw[h1];exact Jr e
  obtain ⟨o2,h3,h4⟩:=h2 l _ (List.getElem?_eq_getElem this)
  rw[e] at h3;cases h3
  exact ⟨_,List.getElem?_eq_getElem this,h4⟩
 have rel:∀ {d:D} {v:Value},Qv Z h pl w d v→Qv Z h' pl w d v:=fun r=>by
  induction r with
  | cl d v hc=>exact .cl d v hc
  | ref l g off len o p a cap ho hp hk hg hs=>
   obtain ⟨o',h3,h4⟩:=key l o ho
   exact .ref l g off len o' p a cap h3 hp (by rw[h4.2.2.2.1.1];exact hk) (by rw[h4.1];exact hg) (fun e=>by rw[h4.2.1];exact hs (by rw[e,h4.1]))
  | ptr l g i j o p a ho hp hk hg hs=>
   obtain ⟨o',h3,h4⟩:=key l o ho
   exact .ptr l g i j o' p a h3 hp (by rw[h4.2.2.2.1.1];exact hk) (by rw[h4.1];exact hg) (fun e=>by rw[h4.2.1];exact hs (by rw[e,h4.1]))
  | mref l g o p b ho hp hk hg hs=>
   obtain ⟨o',h3,h4⟩:=key l o ho
   exact .mref l g o' p b h3 hp (by rw[h4.2.2.2.1.1];exact hk) (by rw[h4.1];exact hg) (fun e=>hs (by rw[e,h4.1]))
  | clo f nf cs vs hl hr ih=>exact .clo f nf cs vs hl ih
  | agg cs vs hl hr ih=>exact .agg cs vs hl ih
  | tup cs vs hl hr ih=>exact .tup cs vs hl ih
 refine ⟨pl,⟨r.nt,r.defers,fun t=>?_,⟨by rw[h1];exact r.o.len,r.o.inj,fun l o' ho hp=>?_,fun l o' b q ho hp=>?_⟩⟩,fun _ h=>h,fun l o p _ ho hp=>?_⟩
 ·rcases UZ fr' t with h1 | h1
  ·show Qv Z h' pl w (get fr' t) _
   rw[h1];exact .cl _ _ (.undef _)
  ·exact kN 6 (bj hf _ _ h1) (rel (r.fr t))
 ·obtain ⟨o,h3,h4⟩:=h2 l o' ho
  rw[h4.2.2.1];exact r.o.JU l o h3 hp
 ·obtain ⟨o,h3,h4,h5,h6,h8,h7⟩:=h2 l o' ho
  obtain ⟨g1,x⟩:=r.o.at_ l o b q h3 hp
  exact ⟨fun hr=>g1 (by rw[← h8.2,hr]),x.to h8.1 h5 h6 rfl (fun i hi=>(zE (h7 i hi)).1) fun i j v hi hj hr=>kN 6 ((zE (h7 i hi)).2 j hj) (rel hr)⟩
 ·obtain ⟨o',h3,h4⟩:=key l o ho
  exact ⟨o',h3,hp,h4.1,h4.2.1,h4.2.2.2.1.1⟩
theorem Ql.tell {w0:Start} {fr fr':List (Nat × D)} {h h':List Ob} (hf:Fl fr fr'∧Fm h h'):Ql w0 ⟨fr,h⟩ ⟨fr',h'⟩:=(Wk.tell hf.1 hf.2).up
section
variable {k:Nat} {d:D}
theorem Qcp:Ja k d d=True:=eq_true (yf k d)
theorem Qcq {v:Value}:Ja (k+1) d (.raw v)=(d=.raw v):=rfl
theorem Qcr:Ja (k+1) d .undef=True:=rfl
theorem Qcs:Ja (k+1) d .nil=(d=.nil):=rfl
theorem Fo {z n z' n':Nat} {r r':Nat→List D}:Ja (k+1) (.imm z' n' r') (.imm z n r)=(z=z'∧n=n'∧∀ i,i<n→W0 (Ja k) (r' i) (r i)):=rfl
theorem Qct {z n:Nat} {r:Nat→List D}:Ja (k+1) .nil (.imm z n r)=(n=0):=rfl
theorem Qcu {l g o n:Nat}:Ja (k+1) d (.ref l g o n)=(d=.ref l g o n):=rfl
theorem Qcv {l g i j:Nat}:Ja (k+1) d (.ptr l g i j)=(d=.ptr l g i j):=rfl
theorem Qcw {l g:Nat}:Ja (k+1) d (.mref l g)=(d=.mref l g):=rfl
theorem Qcx {cs Zs:List D}:Ja (k+1) (.ip Zs) (.ip cs)=W0 (Ja k) Zs cs:=rfl
theorem Qcy {f f':FuncId} {nf IY:Nat} {cs Zs:List D}:Ja (k+1) (.clo f' IY Zs) (.clo f nf cs)=(f=f'∧nf=IY∧W0 (Ja k) Zs cs):=rfl
theorem Qcz {cs Zs:List D}:Ja (k+1) (.agg Zs) (.agg cs)=W0 (Ja k) Zs cs:=rfl
theorem QcA {cs Zs:List D}:Ja (k+1) (.tup Zs) (.tup cs)=W0 (Ja k) Zs cs:=rfl
theorem QcB {f:D→D→Prop}:W0 f [] []=True:=rfl
theorem QcC {f:D→D→Prop} {a b:D} {r s:List D}:W0 f (a::r) (b::s)=(f a b∧W0 f r s):=rfl
end
attribute [go_sem] Qcp Qcq Qcr Qcs Fo Qct Qcu Qcv Qcw Qcx Qcy Qcz QcA QcB QcC Qco Fl IZ Fm
end Go.Fg
namespace Go.Fg
open Go.RowKit (Below)
variable {Z:Nat→Prop}
theorem Qv.kO {h h':List Ob} {pl:List Pl} {w:World} (key:∀ (l:Nat) (o:Ob),h[l]? = some o→∃ o',h'[l]? = some o'∧o'.gen=o.gen∧o'.sz=o.sz∧o'.kd.ty=o.kd.ty) {d:D} {v:Value} (r:Qv Z h pl w d v):Qv Z h' pl w d v:=by
 induction r with
 | cl d v hc=>exact .cl d v hc
 | ref l g off len o p a cap ho hp hk hg hs=>
  obtain ⟨o',h3,h4,h5,h6⟩:=key l o ho
  exact .ref l g off len o' p a cap h3 hp (by rw[h6];exact hk) (by rw[h4];exact hg) (fun e=>by rw[h5];exact hs (by rw[e,h4]))
 | ptr l g i j o p a ho hp hk hg hs=>
  obtain ⟨o',h3,h4,h5,h6⟩:=key l o ho
  exact .ptr l g i j o' p a h3 hp (by rw[h6];exact hk) (by rw[h4];exact hg) (fun e=>by rw[h5];exact hs (by rw[e,h4]))
 | mref l g o p b ho hp hk hg hs=>
  obtain ⟨o',h3,h4,h5,h6⟩:=key l o ho
  exact .mref l g o' p b h3 hp (by rw[h6];exact hk) (by rw[h4];exact hg) (fun e=>hs (by rw[e,h4]))
 | clo f nf cs vs hl hr ih=>exact .clo f nf cs vs hl ih
 | agg cs vs hl hr ih=>exact .agg cs vs hl ih
 | tup cs vs hl hr ih=>exact .tup cs vs hl ih
theorem Zv {h:List Ob} {l:Nat} {o:Ob} (e:h[l]? = some o):(h.map Ob.ro)[l]? = some o.ro:=by rw[List.getElem?_map,e];rfl
theorem yg {h:List Ob} {l:Nat} {o:Ob} (e:(h.map Ob.ro)[l]? = some o):∃ o',h[l]? = some o'∧o=o'.ro:=by
 rw[List.getElem?_map,Option.map_eq_some_iff] at e
 obtain ⟨o',h1,h2⟩:=e
 exact ⟨o',h1,h2.symm⟩
@[go_sem] theorem QsK (k:Kd) (g z n:Nat) (r:Nat→List D):Ob.ro ⟨k,g,z,n,r⟩=⟨k.toRo,g,z,n,r⟩:=rfl
theorem ro_ro (o:Ob):o.ro.ro=o.ro:=by
 obtain ⟨k,g,z,n,r⟩:=o
 cases k <;> rfl
def Kp (P:Program) (f:FuncId) (h:List Ob) (args:List D) (R:D→List Ob→Prop):Prop:=
 QG P f (h.map Ob.ro) args fun d h'=>∃ g,h'=h.map Ob.ro++g∧R d g
theorem Kp.mono {P:Program} {f:FuncId} {h:List Ob} {args:List D} {R R':D→List Ob→Prop} (hh:Kp P f h args R) (hr:∀ d g,R d g→R' d g):Kp P f h args R':=QG.mono hh fun _ _ ⟨g,h1,h2⟩=>⟨g,h1,hr _ _ h2⟩
section
variable {P:Program} {base nt:Nat} {w0:Start} {Q:Exit→St→Prop}
theorem bn (QI:base≤w0.w.heap.size) {o:Oper} {s:St} {x:Operand} {args:Array Operand} {ZX:Array TypeId} {f:FuncId} {nf:Nat} {QB:List D} (hf:Qo P f) (ho:o.op=.call ⟨.value x,args,ZX⟩)
  (hx:J6 (Qp s.fr x)=some (f,nf,QB)) {R:D→List Ob→Prop} (hF:QG P f s.h (Z6 nf QB (args.toList.map (Qp s.fr))) R)
  (ht:Zi nt o.dst=true) (pl:List Pl) (a:Act) (w:World) (r:Rel Z base nt s pl a w) (b:Jw Z base w0 s.h pl w) (Q':Exit→Act→World→Prop) :
  o.wp P a w (fun a' w'=>∃ d h Qg,R d h∧Rel Z base nt ⟨Q8 s.fr o.dst d,h⟩ Qg a' w'∧Jw Z base w0 h Qg w'∧Tr s.h pl w h Qg w'∧∃ v,a'=a.put o.dst v) Q':=by
 obtain ⟨vs,hv,Yp,v7⟩:=EM (r.eval x) hx
 have WB:base≤w.heap.size:=Nat.le_trans QI b.1.size
 obtain ⟨q1,K9⟩:=EN (r:=fun d v=>Qv Z s.h pl w d v) (nf:=nf) Yp v7 (us:=args.toList.map a.eval) (args:=args.toList.map (Qp s.fr)) (by simp) (fun i hi=>by
  have ZE:i<args.toList.length:=by simpa using hi
  simp only[nth,QJ,List.getD_eq_getElem?_getD,List.getElem?_map]
  rw[List.getElem?_eq_getElem ZE]
  exact r.eval _)
 have hc:=hF Z base w pl (Z6 nf vs (args.toList.map a.eval)) WB b.2.2.new r.o q1 K9
 unfold Oper.wp
 rw[EO hf ho hv w]
 simp only[Oper.upon_enter]
 refine hc.mono fun e w' he=>?_
 obtain ⟨v,d,h',Qg,rfl,hR,hO,hV,hT,hB⟩:=he
 refine ⟨d,h',Qg,hR,?_,b.step hT hB,hT,v,rfl⟩
 cases hd:o.dst with
 | none=>exact r.zd hT hO v
 | some t=>rw[hd] at ht;exact r.to hT hO (Yo ht) hV
theorem Q5 (QI:base≤w0.w.heap.size) {k:List Item} {dst:Option Nat} {ty:TypeId} {pos:String} {after:Array Edge} {gd:Option (Nat × Bool)} {r:List (Oper × G)} {s:St} {x:Operand} {args:Array Operand} {ZX:Array TypeId} {f:FuncId} {nf:Nat} {QB:List D} (hf:Qo P f)
  (hx:J6 (Qp s.fr x)=some (f,nf,QB)) {cs:List D} (he:WZ (Z6 nf QB (args.toList.map (Qp s.fr))) cs)
  {R:D→List Ob→Prop} (hF:QG P f s.h cs R) (ht:Zi nt dst=true) (hk:∀ d h,R d h→Qs P base nt w0 Q (.ops r::k) .normal ⟨Q8 s.fr dst d,h⟩) :
  Qs P base nt w0 Q (.ops ((⟨dst,.call ⟨.value x,args,ZX⟩,ty,pos,after,gd⟩,none)::r)::k) .normal s:=by
 simp only[Qs] at hk ⊢
 intro Z z pl a w rr b
 simp only[Wb,K0,if_true]
 exact Oper.wp_mono (fun a' w' ⟨d,h,Qg,hR,r',b',_⟩=>hk d h hR Z z Qg a' w' r' b') (bn QI hf rfl hx (hF.args he) ht pl a w rr b _)
theorem bp (QI:base≤w0.w.heap.size) {o:Oper} {s:St} {x:Operand} {args:Array Operand} {ZX:Array TypeId} {f:FuncId} {nf:Nat} {QB:List D} (hf:Qo P f) (ho:o.op=.call ⟨.value x,args,ZX⟩)
  (hx:J6 (Qp s.fr x)=some (f,nf,QB)) {R:D→List Ob→Prop} (hF:Kp P f s.h (Z6 nf QB (args.toList.map (Qp s.fr))) R)
  (ht:Zi nt o.dst=true) (pl:List Pl) (a:Act) (w:World) (r:Rel Z base nt s pl a w) (b:Jw Z base w0 s.h pl w) (Q':Exit→Act→World→Prop) :
  o.wp P a w (fun a' w'=>Ext w w'∧∃ d g Qg,R d g∧Rel Z base nt ⟨Q8 s.fr o.dst d,s.h++g⟩ Qg a' w'∧Jw Z base w0 (s.h++g) Qg w'∧Tr s.h pl w (s.h++g) Qg w'∧∃ v,a'=a.put o.dst v) Q':=by
 obtain ⟨vs,hv,Yp,v7⟩:=EM (r.eval x) hx
 have WB:base≤w.heap.size:=Nat.le_trans QI b.1.size
 obtain ⟨q1,K9⟩:=EN (r:=fun d v=>Qv Z s.h pl w d v) (nf:=nf) Yp v7 (us:=args.toList.map a.eval) (args:=args.toList.map (Qp s.fr)) (by simp) (fun i hi=>by
  have ZE:i<args.toList.length:=by simpa using hi
  simp only[nth,QJ,List.getD_eq_getElem?_getD,List.getElem?_map]
  rw[List.getElem?_eq_getElem ZE]
  exact r.eval _)
 have k1:∀ (l:Nat) (o:Ob),s.h[l]? = some o→∃ o',(s.h.map Ob.ro)[l]? = some o'∧o'.gen=o.gen∧o'.sz=o.sz∧o'.kd.ty=o.kd.ty:=fun l o e=>⟨o.ro,Zv e,rfl,rfl,Kd.toRo_ty _⟩
 have Fp:QT Z w.heap.size (s.h.map Ob.ro) pl w:=by
  refine ⟨by simp [r.o.len],r.o.inj,fun l o ho hp=>?_,fun l o b q ho hp=>?_⟩
  ·obtain ⟨o',h1,rfl⟩:=yg ho
   exact r.o.JU l o' h1 hp
  ·obtain ⟨o',h1,rfl⟩:=yg ho
   obtain ⟨_,x⟩:=r.o.at_ l o' b q h1 hp
   exact ⟨fun hr=>(by rw[HV,Kd.toRo_ro] at hr;cases hr),x.to (Kd.toRo_ty _) rfl rfl rfl (fun _ _=>rfl) fun i j v _ _ hr=>hr.kO k1⟩
 have hc:=hF Z w.heap.size w pl (Z6 nf vs (args.toList.map a.eval)) (Nat.le_refl _) b.2.2.new Fp q1 (fun i hi=>(K9 i hi).kO k1)
 unfold Oper.wp
 rw[EO hf ho hv w]
 simp only[Oper.upon_enter]
 refine hc.mono fun e w' he=>?_
 obtain ⟨v,d,_,Qg,rfl,⟨g,rfl,hR⟩,hO,hV,hT,hB⟩:=he
 have QZ:∀ (l:Nat) (p:Pl),l<s.h.length→Qg[l]? = some p→pl[l]? = some p:=fun l p hl e=>by
  have Jd:l<pl.length:=by rw[r.o.len];exact hl
  obtain ⟨o',p',e1,e2,_,_,e3⟩:=hT.obj l _ _ (Zv (List.getElem?_eq_getElem hl)) (List.getElem?_eq_getElem Jd)
  rw[List.getElem?_append_left (by simpa using hl),Zv (List.getElem?_eq_getElem hl)] at e1
  cases e1
  obtain ⟨_,e4⟩:=e3 rfl
  rw[e] at e2;cases e2
  rw[e4];exact List.getElem?_eq_getElem Jd
 have ON:∀ (l:Nat) (p:Pl),l<s.h.length→pl[l]? = some p→Qg[l]? = some p:=fun l p hl e=>by
  have Jd:l<Qg.length:=by have:=hO.len;simp at this;omega
  have h1:=QZ l _ hl (List.getElem?_eq_getElem Jd)
  rw[e] at h1;cases h1
  exact List.getElem?_eq_getElem Jd
 have T:Tr s.h pl w (s.h++g) Qg w':=by
  refine ⟨hT.JI,fun l o p ho hp=>⟨o,p,by rw[List.getElem?_append_left (Jr ho)];exact ho,ON l p (Jr ho) hp,Nat.le_refl _,rfl,fun _=>⟨rfl,rfl⟩⟩,fun l o o' b q ho Zb hg hp c el hc=>⟨c,?_,rfl⟩⟩
  rw[hB.block b (r.o.lt hp).1];exact hc
 have k2:∀ (l:Nat) (o:Ob),(s.h.map Ob.ro++g)[l]? = some o→∃ o',(s.h++g)[l]? = some o'∧o'.gen=o.gen∧o'.sz=o.sz∧o'.kd.ty=o.kd.ty:=fun l o e=>by
  by_cases hl:l<s.h.length
  ·rw[List.getElem?_append_left (by simpa using hl)] at e
   obtain ⟨o',h1,rfl⟩:=yg e
   exact ⟨o',by rw[List.getElem?_append_left hl];exact h1,rfl,rfl,(Kd.toRo_ty _).symm⟩
  ·rw[List.getElem?_append_right (by simpa using hl)] at e
   exact ⟨o,by rw[List.getElem?_append_right (by omega)];simpa using e,rfl,rfl,rfl⟩
 have As:QT Z base (s.h++g) Qg w':=by
  refine ⟨by have:=hO.len;simpa using this,hO.inj,fun l o ho hp=>?_,fun l o b q ho hp=>?_⟩
  ·by_cases hl:l<s.h.length
   ·rw[List.getElem?_append_left hl] at ho
    exact r.o.JU l o ho (QZ l _ hl hp)
   ·refine hO.JU l o ?_ hp
    rw[List.getElem?_append_right (by omega)] at ho
    rw[List.getElem?_append_right (by simpa using hl)];simpa using ho
  ·by_cases hl:l<s.h.length
   ·rw[List.getElem?_append_left hl] at ho
    have YY:=QZ l _ hl hp
    obtain ⟨g1,x⟩:=r.o.at_ l o b q ho YY
    exact ⟨g1,x.to rfl rfl rfl (hB.block b (r.o.lt YY).1) (fun _ _=>rfl) fun i j v _ _ hr=>hr.tr T⟩
   ·have e2:(s.h.map Ob.ro++g)[l]? = some o:=by
     rw[List.getElem?_append_right (by omega)] at ho
     rw[List.getElem?_append_right (by simpa using hl)];simpa using ho
    obtain ⟨g1,x⟩:=hO.at_ l o b q e2 hp
    exact ⟨fun hr=>Nat.le_trans WB (g1 hr),x.to rfl rfl rfl rfl (fun _ _=>rfl) fun i j v _ _ hr=>hr.kO k2⟩
 refine ⟨fun b hb=>hB.block b hb,d,g,Qg,hR,?_,b.step T (hB.mono WB),T,v,rfl⟩
 cases hd:o.dst with
 | none=>exact r.zd T As v
 | some t=>rw[hd] at ht;exact r.to T As (Yo ht) (hV.kO k2)
theorem Kp.args {f:FuncId} {h:List Ob} {Zs cs:List D} {R:D→List Ob→Prop} (hh:Kp P f h cs R) (e:WZ Zs cs):Kp P f h Zs R:=QG.args hh e
theorem yh (QI:base≤w0.w.heap.size) {k:List Item} {dst:Option Nat} {ty:TypeId} {pos:String} {after:Array Edge} {gd:Option (Nat × Bool)} {r:List (Oper × G)} {s:St} {x:Operand} {args:Array Operand} {ZX:Array TypeId} {f:FuncId} {nf:Nat} {QB:List D} (hf:Qo P f)
  (hx:J6 (Qp s.fr x)=some (f,nf,QB)) {cs:List D} (he:WZ (Z6 nf QB (args.toList.map (Qp s.fr))) cs)
  {R:D→List Ob→Prop} (hF:Kp P f s.h cs R) (ht:Zi nt dst=true) (hk:∀ d g,R d g→Qs P base nt w0 Q (.ops r::k) .normal ⟨Q8 s.fr dst d,s.h++g⟩) :
  Qs P base nt w0 Q (.ops ((⟨dst,.call ⟨.value x,args,ZX⟩,ty,pos,after,gd⟩,none)::r)::k) .normal s:=by
 simp only[Qs] at hk ⊢
 intro Z z pl a w rr b
 simp only[Wb,K0,if_true]
 exact Oper.wp_mono (fun a' w' ⟨_,d,h,Qg,hR,r',b',_⟩=>hk d h hR Z z Qg a' w' r' b') (bp QI hf rfl hx (hF.args he) ht pl a w rr b _)
theorem Fq (QI:base≤w0.w.heap.size) {K:St→Prop} {dst:Option Nat} {ty:TypeId} {pos:String} {after:Array Edge} {gd:Option (Nat × Bool)} {r:List (Bool × Oper × G)} {s:St} {x:Operand} {args:Array Operand} {ZX:Array TypeId} {f:FuncId} {nf:Nat} {QB:List D} (hf:Qo P f)
  (hx:J6 (Qp s.fr x)=some (f,nf,QB)) {cs:List D} (he:WZ (Z6 nf QB (args.toList.map (Qp s.fr))) cs) {R:D→List Ob→Prop} (hF:Kp P f s.h cs R)
  (ht:Zi nt dst=true) (hk:∀ d g,R d g→AX P base nt w0 K r ⟨Q8 s.fr dst d,s.h++g⟩) :
  AX P base nt w0 K ((false,⟨dst,.call ⟨.value x,args,ZX⟩,ty,pos,after,gd⟩,none)::r) s:=by
 simp only[AX,KP,WC]
 intro Z z pl a w rr b
 exact Oper.wp_mono (fun a' w' ⟨hE,d,g,Qg,hR,r',b',T,v,e⟩=>⟨fun _=>hE,_,_,Qg,v,hk d g hR,r',b',T,e⟩) (bp QI hf rfl hx (hF.args he) ht pl a w rr b _)
theorem QcD (QI:base≤w0.w.heap.size) {k:List Item} {dst:Option Nat} {ty:TypeId} {pos:String} {after:Array Edge} {gd:Option (Nat × Bool)} {r:List (Oper × G)} {s:St} {x:Operand} {li l c:Nat} {es:List QK} {seen:List Nat} {q:IntKind}
  (hx:Qp s.fr x=.mref li 0) (Wz:s.h[li]? = some (Vp l c c seen)) {kd:Kd} (Z9:kd.ty=1) (QY:s.h[l]? = some (Kc kd q c es)) (ht:Zi nt dst=true)
  (h0:(∀ e∈es,e.b∈seen)→Qs P base nt w0 Q (.ops r::k) .normal ⟨Q8 s.fr dst (.tup [.raw (.bool false)]),s.h⟩)
  (h1:∀ e∈es,e.b ∉ seen→Qs P base nt w0 Q (.ops r::k) .normal ⟨Q8 s.fr dst (.tup [.raw (.bool true),.raw (.int q e.k),e.v]),s.h.set li (Vp l c c (seen++[e.b]))⟩) :
  Qs P base nt w0 Q (.ops ((⟨dst,.next x false,ty,pos,after,gd⟩,none)::r)::k) .normal s:=by
 simp only[Qs] at h0 h1 ⊢
 intro Z z pl a w rr b
 have WB:base≤w.heap.size:=Nat.le_trans QI b.1.size
 simp only[Wb,K0,if_true]
 unfold Oper.wp
 rcases Qba (o:=⟨dst,.next x false,ty,pos,after,gd⟩) rfl rr WB hx Wz Z9 QY with ⟨g1,g2⟩ | ⟨e,he,g1,v,w',g2,T,O,V,B⟩
 ·rw[g2]
  simp only[Oper.upon_value]
  refine h0 g1 Z z pl _ w ?_ b
  have hv:Qv Z s.h pl w (.tup [.raw (.bool false)]) (.tuple #[.bool false]):=.tup _ [.bool false] rfl fun i hi=>match i,hi with
   | 0,_=>.cl _ _ (.raw _)
  cases dst with
  | none=>exact rr.zd (Tr.refl _ _ _) rr.o _
  | some t=>exact rr.to (Tr.refl _ _ _) rr.o (Yo ht) hv
 ·rw[g2]
  simp only[Oper.upon_value]
  refine h1 e he g1 Z z pl _ w' ?_ (b.step T B)
  cases dst with
  | none=>exact rr.zd T O _
  | some t=>exact rr.to T O (Yo ht) V
end
def QQ (P:Program) (f:FuncId) (h:List Ob) (args:List D) (R:D→Prop):Prop:=Kp P f h args fun d _=>d.upto h.length=true∧R d
theorem QQ.mono {P:Program} {f:FuncId} {h:List Ob} {args:List D} {R R':D→Prop} (hh:QQ P f h args R) (hr:∀ d,R d→R' d):QQ P f h args R':=Kp.mono hh fun _ _ h=>⟨h.1,hr _ h.2⟩
theorem QQ.args {P:Program} {f:FuncId} {h:List Ob} {Zs cs:List D} {R:D→Prop} (hh:QQ P f h cs R) (e:WZ Zs cs):QQ P f h Zs R:=Kp.args hh e
section
variable {P:Program} {base nt:Nat} {w0:Start} {Q:Exit→St→Prop}
theorem br (QI:base≤w0.w.heap.size) {o:Oper} {s:St} {x:Operand} {args:Array Operand} {ZX:Array TypeId} {f:FuncId} {nf:Nat} {QB:List D} (hf:Qo P f) (ho:o.op=.call ⟨.value x,args,ZX⟩)
  (hx:J6 (Qp s.fr x)=some (f,nf,QB)) {R:D→Prop} (hF:QQ P f s.h (Z6 nf QB (args.toList.map (Qp s.fr))) R)
  (ht:Zi nt o.dst=true) (pl:List Pl) (a:Act) (w:World) (r:Rel Z base nt s pl a w) (b:Jw Z base w0 s.h pl w) (Q':Exit→Act→World→Prop) :
  o.wp P a w (fun a' w'=>Ext w w'∧∃ d,R d∧Rel Z base nt ⟨Q8 s.fr o.dst d,s.h⟩ pl a' w'∧Jw Z base w0 s.h pl w'∧Tr s.h pl w s.h pl w'∧∃ v,a'=a.put o.dst v) Q':=by
 obtain ⟨vs,hv,Yp,v7⟩:=EM (r.eval x) hx
 have WB:base≤w.heap.size:=Nat.le_trans QI b.1.size
 obtain ⟨q1,K9⟩:=EN (r:=fun d v=>Qv Z s.h pl w d v) (nf:=nf) Yp v7 (us:=args.toList.map a.eval) (args:=args.toList.map (Qp s.fr)) (by simp) (fun i hi=>by
  have ZE:i<args.toList.length:=by simpa using hi
  simp only[nth,QJ,List.getD_eq_getElem?_getD,List.getElem?_map]
  rw[List.getElem?_eq_getElem ZE]
  exact r.eval _)
 have k1:∀ (l:Nat) (o:Ob),s.h[l]? = some o→∃ o',(s.h.map Ob.ro)[l]? = some o'∧o'.gen=o.gen∧o'.sz=o.sz∧o'.kd.ty=o.kd.ty:=fun l o e=>⟨o.ro,Zv e,rfl,rfl,Kd.toRo_ty _⟩
 have k3:∀ (g:List Ob) (l:Nat) (o:Ob),(s.h.map Ob.ro++g)[l]? = some o→∃ o',(s.h++g)[l]? = some o'∧o'.gen=o.gen∧o'.sz=o.sz∧o'.kd.ty=o.kd.ty:=fun g l o e=>by
  by_cases hl:l<s.h.length
  ·rw[List.getElem?_append_left (by simpa using hl)] at e
   obtain ⟨o',h1,rfl⟩:=yg e
   exact ⟨o',by rw[List.getElem?_append_left hl];exact h1,rfl,rfl,(Kd.toRo_ty _).symm⟩
  ·rw[List.getElem?_append_right (by simpa using hl)] at e
   exact ⟨o,by rw[List.getElem?_append_right (by omega)];simpa using e,rfl,rfl,rfl⟩
 have Fp:QT Z w.heap.size (s.h.map Ob.ro) pl w:=by
  refine ⟨by simp [r.o.len],r.o.inj,fun l o ho hp=>?_,fun l o b q ho hp=>?_⟩
  ·obtain ⟨o',h1,rfl⟩:=yg ho
   exact r.o.JU l o' h1 hp
  ·obtain ⟨o',h1,rfl⟩:=yg ho
   obtain ⟨_,x⟩:=r.o.at_ l o' b q h1 hp
   exact ⟨fun hr=>(by rw[HV,Kd.toRo_ro] at hr;cases hr),x.to (Kd.toRo_ty _) rfl rfl rfl (fun _ _=>rfl) fun i j v _ _ hr=>hr.kO k1⟩
 have hc:=hF Z w.heap.size w pl (Z6 nf vs (args.toList.map a.eval)) (Nat.le_refl _) b.2.2.new Fp q1 (fun i hi=>(K9 i hi).kO k1)
 unfold Oper.wp
 rw[EO hf ho hv w]
 simp only[Oper.upon_enter]
 refine hc.mono fun e w' he=>?_
 obtain ⟨v,d,_,Qg,rfl,⟨g,rfl,hu,hR⟩,hO,hV,hT,hB⟩:=he
 have hE:Ext w w':=fun b hb=>hB.block b hb
 have T0:Tr s.h pl w s.h pl w':=Tr.ext r.o hE
 have yi:Qv Z s.h pl w' d v:=by
  have h1:=hV.take hu
  have e1:(s.h.map Ob.ro++g).take s.h.length=s.h.map Ob.ro:=List.take_left' (by simp)
  have e2:Qg.take s.h.length=pl:=by
   apply List.ext_getElem?
   intro i
   rw[List.getElem?_take]
   by_cases hi:i<s.h.length
   ·rw[if_pos hi]
    have Wa:i<pl.length:=by rw[r.o.len];exact hi
    obtain ⟨o',p',m1,m2,_,_,m3⟩:=hT.obj i _ _ (Zv (List.getElem?_eq_getElem hi)) (List.getElem?_eq_getElem Wa)
    rw[List.getElem?_append_left (by simpa using hi),Zv (List.getElem?_eq_getElem hi)] at m1
    cases m1
    obtain ⟨_,rfl⟩:=m3 rfl
    rw[m2,List.getElem?_eq_getElem Wa]
   ·rw[if_neg hi,List.getElem?_eq_none (by rw[r.o.len];omega)]
  rw[e1,e2] at h1
  exact h1.kO fun l o e=>by
   obtain ⟨o',h1,rfl⟩:=yg e
   exact ⟨o',h1,rfl,rfl,(Kd.toRo_ty _).symm⟩
 refine ⟨hE,d,hR,?_,b.step T0 (hB.mono WB),T0,v,rfl⟩
 have r':=r.ext hE
 cases hd:o.dst with
 | none=>exact r'.zd (Tr.refl _ _ _) r'.o v
 | some t=>rw[hd] at ht;exact r'.to (Tr.refl _ _ _) r'.o (Yo ht) yi
theorem QL (QI:base≤w0.w.heap.size) {k:List Item} {dst:Option Nat} {ty:TypeId} {pos:String} {after:Array Edge} {gd:Option (Nat × Bool)} {r:List (Oper × G)} {s:St} {x:Operand} {args:Array Operand} {ZX:Array TypeId} {f:FuncId} {nf:Nat} {QB:List D} (hf:Qo P f)
  (hx:J6 (Qp s.fr x)=some (f,nf,QB)) {cs:List D} (he:WZ (Z6 nf QB (args.toList.map (Qp s.fr))) cs)
  {R:D→Prop} (hF:QQ P f s.h cs R) (ht:Zi nt dst=true) (hk:∀ d,R d→Qs P base nt w0 Q (.ops r::k) .normal ⟨Q8 s.fr dst d,s.h⟩) :
  Qs P base nt w0 Q (.ops ((⟨dst,.call ⟨.value x,args,ZX⟩,ty,pos,after,gd⟩,none)::r)::k) .normal s:=by
 simp only[Qs] at hk ⊢
 intro Z z pl a w rr b
 simp only[Wb,K0,if_true]
 exact Oper.wp_mono (fun a' w' ⟨_,d,hR,r',b',_⟩=>hk d hR Z z pl a' w' r' b') (br QI hf rfl hx (hF.args he) ht pl a w rr b _)
theorem Ju (QI:base≤w0.w.heap.size) {K:St→Prop} {dst:Option Nat} {ty:TypeId} {pos:String} {after:Array Edge} {gd:Option (Nat × Bool)} {r:List (Bool × Oper × G)} {s:St} {x:Operand} {args:Array Operand} {ZX:Array TypeId} {f:FuncId} {nf:Nat} {QB:List D} (hf:Qo P f)
  (hx:J6 (Qp s.fr x)=some (f,nf,QB)) {cs:List D} (he:WZ (Z6 nf QB (args.toList.map (Qp s.fr))) cs) {R:D→Prop} (hF:QQ P f s.h cs R)
  (ht:Zi nt dst=true) (hk:∀ d,R d→AX P base nt w0 K r ⟨Q8 s.fr dst d,s.h⟩) :
  AX P base nt w0 K ((false,⟨dst,.call ⟨.value x,args,ZX⟩,ty,pos,after,gd⟩,none)::r) s:=by
 simp only[AX,KP,WC]
 intro Z z pl a w rr b
 exact Oper.wp_mono (fun a' w' ⟨hE,d,hR,r',b',T,v,e⟩=>⟨fun _=>hE,_,_,pl,v,hk d hR,r',b',T,e⟩) (br QI hf rfl hx (hF.args he) ht pl a w rr b _)
end
theorem Qd {h:List Ob} {l:Nat} {o:Ob} (e:h[l]? = some o):l<h.length:=Jr e
theorem QU {h t:List Ob} {l:Nat} (hl:l<h.length):(h++t)[l]? = h[l]? := List.getElem?_append_left hl
theorem Kq {h t:List Ob} {n:Nat} (hn:h.length=n):(h++t)[n]? = t[0]? := by rw[← hn,List.getElem?_append_right (Nat.le_refl _),Nat.sub_self]
theorem Ve {h t:List Ob} {n k:Nat} (hn:h.length=n):(h++t)[n+k]? = t[k]? := by rw[← hn,List.getElem?_append_right (by omega),Nat.add_sub_cancel_left]
theorem wu {h t:List Ob} {l:Nat} {o:Ob} (hl:l<h.length):(h++t).set l o=h.set l o++t:=List.set_append_left _ _ hl
theorem OP {h t:List Ob} {n:Nat} {o:Ob} (hn:h.length=n):(h++t).set n o=h++t.set 0 o:=by rw[← hn,List.set_append_right _ _ (Nat.le_refl _),Nat.sub_self]
theorem QcE {h t:List Ob} {n k:Nat} {o:Ob} (hn:h.length=n):(h++t).set (n+k) o=h++t.set k o:=by rw[← hn,List.set_append_right _ _ (by omega),Nat.add_sub_cancel_left]
theorem Qw {h:List Ob} {l:Nat} {o:Ob} (hl:l<h.length):(h.set l o)[l]? = some o:=List.getElem?_set_self hl
theorem Qt {h:List Ob} {l m:Nat} {o:Ob} (hn:l≠m):(h.set l o)[m]? = h[m]? := List.getElem?_set_ne hn
theorem Zh {P:Program} {X:Cx} (hX:WA P X) {f:FuncId} {fn:Func} {c:Code} (n:Nat) (hf:P.funcs[f]? = some fn) (hb:fn.body=some c) {h:List Ob} {args:List D} {R:D→Prop} {nt:Nat} {rs:Array ResultVar} (YT:fn.ntmps=nt) (zC:fn.results=rs) (hn:Nat.ble args.length nt=true)
  (hh:∀ (base:Nat) (w:World) (pl:List Pl) (F:List Ob),F=h.map Ob.ro→F.length=h.length→base≤w.heap.size→hx P base ⟨w,F,pl⟩ (xZ X.L rs.toList fun d h'=>∃ g,h'=F++g∧d.upto F.length=true∧R d) X nt n [.code c] ⟨qA args 0,F⟩):QQ P f h args R:=
 (QW hX n hf hb YT zC hn fun base w pl hb=>hh base w pl _ rfl (by simp) hb).mono fun d h' ⟨g,h1,h2,h3⟩=>⟨g,h1,by simpa using h2,h3⟩
theorem V1 {P:Program} {X:Cx} (hX:WA P X) {f:FuncId} {fn:Func} {c:Code} (n:Nat) (hf:P.funcs[f]? = some fn) (hb:fn.body=some c) {h:List Ob} {args:List D} {R:D→List Ob→Prop} {nt:Nat} {rs:Array ResultVar} (YT:fn.ntmps=nt) (zC:fn.results=rs) (hn:Nat.ble args.length nt=true)
  (hh:∀ (base:Nat) (w:World) (pl:List Pl) (F:List Ob),F=h.map Ob.ro→F.length=h.length→base≤w.heap.size→hx P base ⟨w,F,pl⟩ (xZ X.L rs.toList fun d h'=>∃ g,h'=F++g∧R d g) X nt n [.code c] ⟨qA args 0,F⟩):Kp P f h args R:=
 QW hX n hf hb YT zC hn fun base w pl hb=>hh base w pl _ rfl (by simp) hb
attribute [go_sem] H0 H9 B0 xU Ib Ic Oa UG N9 UF UH UI UJ QaV QaW QaX QaY HV QaZ Qa0 ro_ro vN
theorem Qa:(∀ {h t:List Ob} {l:Nat},l<h.length→(h++t)[l]? = h[l]?)∧(∀ {h t:List Ob} {n:Nat},h.length=n→(h++t)[n]? = t[0]?)∧(∀ {h t:List Ob} {n k:Nat},h.length=n→(h++t)[n+k]? = t[k]?)∧(∀ {h t:List Ob} {l:Nat} {o:Ob},l<h.length→(h++t).set l o=h.set l o++t)∧(∀ {h t:List Ob} {n:Nat} {o:Ob},h.length=n→(h++t).set n o=h++t.set 0 o)∧(∀ {h t:List Ob} {n k:Nat} {o:Ob},h.length=n→(h++t).set (n+k) o=h++t.set k o)∧(∀ {α:Type} {a b:List α},(a++b).length=a.length+b.length)∧(∀ {α:Type} {i:Nat} {a:α} {l:List α},(l.set i a).length=l.length)∧(∀ {α:Type} (a b c:List α),a++b++c=a++(b++c))∧(∀ {α:Type} {a b:α} (l:List α) {i:Nat},(l.set i a).set i b=l.set i b):=
 ⟨QU,Kq,Ve,wu,OP,QcE,List.length_append,List.length_set,List.append_assoc,fun _=>List.set_set _⟩
end Go.Fg
