/- Contracts and laws on the way to the statement. No conditions. -/
import Derived.Test.YtklmjinbhnoppaaGreatFgExec
import Derived.OrdersHeld
set_option maxRecDepth 100000
set_option maxHeartbeats 16000000
set_option linter.unusedVariables false
set_option linter.unusedSimpArgs false
set_option linter.unusedSectionVars false
namespace Go.Fg
open Go.RowKit (Below)
variable {Z:Nat→Prop}
mutual
def D.shift (k:Nat):D→D
 | .ref l g off len=>.ref (k+l) g off len
 | .ptr l g i j=>.ptr (k+l) g i j
 | .mref l g=>.mref (k+l) g
 | .clo f nf cs=>.clo f nf (zj k cs)
 | .agg cs=>.agg (zj k cs)
 | .tup cs=>.tup (zj k cs)
 | d=>d
def zj (k:Nat):List D→List D
 | []=>[]
 | c::cs=>c.shift k::zj k cs
end
def Ob.shift (k:Nat) (o:Ob):Ob:={ o with row:=fun i=>zj k (o.row i) }
theorem qw (k:Nat):∀cs:List D,(zj k cs).length=cs.length
 | []=>rfl
 | _::cs=>by simp [zj,qw k cs]
theorem yX (k:Nat):∀(cs:List D) (i:Nat),i<cs.length→nth (zj k cs) i=(nth cs i).shift k
 | [],i,h=>by simp at h
 | c::cs,0,_=>by simp [zj,nth]
 | c::cs,i+1,h=>by
  have:=yX k cs i (by simpa using h)
  simpa [zj,nth] using this
theorem Qv.join {Zc:Nat→Prop} {h h':List Ob} {pl Qi:List Pl} {w:World} (hl:pl.length=h.length) (hf:∀b,free Zc Qi b→free Z (pl++Qi) b) {d:D} {v:Value} (r:Qv Zc h' Qi w d v) :
  Qv Z (h++h'.map (Ob.shift h.length)) (pl++Qi) w (d.shift h.length) v:=by
 have Q1:∀(l:Nat) (o:Ob),h'[l]? = some o→(h++h'.map (Ob.shift h.length))[h.length+l]? = some (o.shift h.length):=fun l o e=>by
  rw[List.getElem?_append_right (by omega)];simp [e]
 have Q4:∀(l:Nat) (p:Pl),Qi[l]? = some p→(pl++Qi)[h.length+l]? = some p:=fun l p e=>by
  rw[List.getElem?_append_right (by omega),hl];simp [e]
 have ZP:∀(d:D) (v:Value),Cl (free Zc Qi) w d v→Qv Z (h++h'.map (Ob.shift h.length)) (pl++Qi) w (d.shift h.length) v:=by
  intro d v hc
  have qv:=hc.mono (N':=free Z (pl++Qi)) (w':=w) (fun b hb _=>⟨hf b hb,rfl⟩)
  clear hc
  induction qv with
  | raw v=>exact .cl _ _ (.raw v)
  | undef v=>exact .cl _ _ (.undef v)
  | nil a=>exact .cl _ _ (.nil a)
  | imm sz n row a cap b o vs ha hl hs hc hr ih=>exact .cl _ _ (.imm sz n row a cap b o vs ha hl hs hc hr)
  | ip cells b o vs hc hr ih=>exact .cl _ _ (.ip cells b o vs hc hr)
  | clo f nf cs vs hl hr ih=>exact .clo f nf _ vs (by rw[qw];exact hl) (fun i hi=>by rw[qw]at hi;rw[yX _ _ _ hi];exact ih i hi)
  | agg cs vs hl hr ih=>exact .agg _ vs (by rw[qw];exact hl) (fun i hi=>by rw[qw]at hi;rw[yX _ _ _ hi];exact ih i hi)
  | tup cs vs hl hr ih=>exact .tup _ vs (by rw[qw];exact hl) (fun i hi=>by rw[qw]at hi;rw[yX _ _ _ hi];exact ih i hi)
 induction r with
 | cl d v hc=>exact ZP d v hc
 | ref l g off len o p a cap ho hp hk hg hs=>exact .ref _ g off len _ p a cap (Q1 l o ho) (Q4 l p hp) hk hg hs
 | ptr l g i j o p a ho hp hk hg hs=>exact .ptr _ g i j _ p a (Q1 l o ho) (Q4 l p hp) hk hg hs
 | mref l g o p b ho hp hk hg hs=>exact .mref _ g _ p b (Q1 l o ho) (Q4 l p hp) hk hg hs
 | clo f nf cs vs hl hr ih=>exact .clo f nf _ vs (by rw[qw];exact hl) (fun i hi=>by rw[qw]at hi;rw[yX _ _ _ hi];exact ih i hi)
 | agg cs vs hl hr ih=>exact .agg _ vs (by rw[qw];exact hl) (fun i hi=>by rw[qw]at hi;rw[yX _ _ _ hi];exact ih i hi)
 | tup cs vs hl hr ih=>exact .tup _ vs (by rw[qw];exact hl) (fun i hi=>by rw[qw]at hi;rw[yX _ _ _ hi];exact ih i hi)
theorem Tr.join {base:Nat} {h h':List Ob} {pl Qi:List Pl} {w w':World} (R:QW Z base h pl w) (hb:Below w.heap.size w w') (ZX:∀(l b q:Nat),Qi[l]? = some (some (b,q))→w.heap.size≤b) :
  Tr h pl w (h++h') (pl++Qi) w' where
 JP:=fun b Wh Qd=>by
  refine⟨fun l q e=>?_,hb.block b Qd⟩
  by_cases hl:l<pl.length
  ·rw[List.getElem?_append_left hl]at e;exact Wh l q e
  ·rw[List.getElem?_append_right (by omega)]at e
   have:=ZX _ _ _ e;omega
 obj:=fun l o p ho hp=>⟨o,p,by rw[List.getElem?_append_left (Jv ho)];exact ho,by rw[List.getElem?_append_left (KN hp)];exact hp,Nat.le_refl _,rfl,fun _=>⟨rfl,rfl⟩⟩
 shape:=fun l o o' b q ho Zg hg hp c el yC=>⟨c,by rw[hb.block b (R.lt hp).1];exact yC,rfl⟩
theorem QW.join {Zc:Nat→Prop} {base:Nat} {h h':List Ob} {pl Qi:List Pl} {w w':World} (R:QW Z base h pl w) (QJ:base≤w.heap.size) (hb:Below w.heap.size w w') (R':QW Zc w.heap.size h' Qi w')
  (hf:∀b,free Zc Qi b→free Z (pl++Qi) b) (ZX:∀(l b q:Nat),Qi[l]? = some (some (b,q))→w.heap.size≤b):QW Z base (h++h'.map (Ob.shift h.length)) (pl++Qi) w':=by
 have T:=Tr.join (h':=h'.map (Ob.shift h.length)) R hb ZX
 refine⟨by simp [R.len,R'.len],?_,?_,?_⟩
 ·intro l l' b q q' e1 e2
  by_cases h1:l<pl.length<;>by_cases h2:l'<pl.length
  ·rw[List.getElem?_append_left h1]at e1;rw[List.getElem?_append_left h2]at e2;exact R.inj _ _ _ _ _ e1 e2
  ·rw[List.getElem?_append_left h1]at e1;rw[List.getElem?_append_right (by omega)]at e2
   have:=(R.lt e1).1;have:=ZX _ _ _ e2;omega
  ·rw[List.getElem?_append_right (by omega)]at e1;rw[List.getElem?_append_left h2]at e2
   have:=(R.lt e2).1;have:=ZX _ _ _ e1;omega
  ·rw[List.getElem?_append_right (by omega)]at e1 e2
   have:=R'.inj _ _ _ _ _ e1 e2;omega
 ·intro l o ho hp
  by_cases h1:l<h.length
  ·rw[List.getElem?_append_left h1]at ho
   rw[List.getElem?_append_left (by rw[R.len];exact h1)]at hp
   exact R.J2 l o ho hp
  ·rw[List.getElem?_append_right (by omega)]at ho
   rw[List.getElem?_append_right (by rw[R.len];omega),R.len]at hp
   simp only[List.getElem?_map,Option.map_eq_some_iff]at ho
   obtain⟨o',Zg,rfl⟩:=ho
   exact R'.J2 _ o' Zg hp
 ·intro l o b q ho hp
  by_cases h1:l<h.length
  ·rw[List.getElem?_append_left h1]at ho
   rw[List.getElem?_append_left (by rw[R.len];exact h1)]at hp
   obtain⟨g1,x⟩:=R.at_ l o b q ho hp
   exact⟨g1,x.to rfl rfl rfl (hb.block b (R.lt hp).1) (fun _ _=>rfl) fun i j v _ _ hr=>hr.tr T⟩
  ·rw[List.getElem?_append_right (by omega)]at ho
   rw[List.getElem?_append_right (by rw[R.len];omega),R.len]at hp
   simp only[List.getElem?_map,Option.map_eq_some_iff]at ho
   obtain⟨o',Zg,rfl⟩:=ho
   obtain⟨g1,x⟩:=R'.at_ _ o' b q Zg hp
   refine⟨fun _=>by have:=ZX _ _ _ hp;omega,x.to rfl rfl rfl rfl (fun i _=>qw _ _) fun i j v hi hj hr=>?_⟩
   show Qv Z _ _ _ (nth (zj _ (o'.row i)) j) v
   rw[yX _ _ _ hj]
   exact hr.join R.len hf
def QH (P:Program) (f:FuncId) (F:List Ob) (args:List D) (R:D→List Ob→Prop):Prop:=
 ∀(Z:Nat→Prop) (base:Nat) (w:World) (pl:List Pl) (vs:List Value),base≤w.heap.size→(∀b,w.heap.size≤b→Z b)→QW Z base F pl w →
  vs.length=args.length→(∀i,i<args.length→Qv Z F pl w (nth args i) (QL vs i)) →
  Calls P f vs.toArray w fun e w'=>∃v d h Qi,e=.returned v∧R d h∧QW Z base h Qi w'∧Qv Z h Qi w' d v∧Tr F pl w h Qi w'∧Below base w w'
theorem QH.mono {P:Program} {f:FuncId} {F:List Ob} {args:List D} {R R':D→List Ob→Prop} (h:QH P f F args R) (hr:∀d h,R d h→R' d h):QH P f F args R':=fun Z base w pl vs h1 h2 h3 h4 h5=>
 (h Z base w pl vs h1 h2 h3 h4 h5).mono fun _ _ ⟨v,d,hh,Qi,k1,k2,k3⟩=>⟨v,d,hh,Qi,k1,hr _ _ k2,k3⟩
def Q8 (P:Program) (f:FuncId) (args:List D) (R:D→List Ob→Prop):Prop:=QH P f [] args R
theorem Q8.mono {P:Program} {f:FuncId} {args:List D} {R R':D→List Ob→Prop} (h:Q8 P f args R) (hr:∀d h,R d h→R' d h):Q8 P f args R':=QH.mono h hr
def zk:List D→Nat→List (Nat × D)
 | [],_=>[]
 | d::r,i=>(i,d)::zk r (i+1)
theorem cR:∀(args:List D) (i t:Nat),get (zk args i) t=if i≤t then nth args (t - i) else .undef
 | [],i,t=>by simp [zk,get,nth]
 | d::r,i,t=>by
  simp only[zk,get]
  by_cases h:i=t
  ·subst h;simp [nth]
  ·have:Nat.beq i t=false:=by rw[← Bool.not_eq_true,Nat.beq_eq];exact h
   rw[this]
   simp only[cond_false]
   rw[cR r (i+1) t]
   by_cases h2:i+1≤t
   ·rw[if_pos h2,if_pos (by omega)]
    obtain⟨m,rfl⟩:∃m,t=i+(m+1):=⟨t - i - 1,by omega⟩
    rw[show i+(m+1) - (i+1)=m by omega,show i+(m+1) - i=m+1 by omega]
    simp [nth]
   ·rw[if_neg h2,if_neg (by omega)]
def xp (L:Zh) (s:St):List ResultVar→Option (Prop × List D)
 | []=>some (True,[])
 | .tmp t::r=>match xp L s r with
  | some (p,ds)=>some (p,get s.fr t::ds)
  | none=>none
 | .cell a ty::r=>match Bd L s.h ty (get s.fr a),xp L s r with
  | some (q,d),some (p,ds)=>some (q∧p,d::ds)
  | _,_=>none
def one:List D→D
 | [d]=>d
 | ds=>.tup ds
def yY (L:Zh) (rs:List ResultVar) (R:D→List Ob→Prop):Exit→St→Prop
 | .normal,s | .ret,s=>match xp L s rs with
  | some (p,ds)=>p∧R (one ds) s.h
  | none=>False
 | _,_=>False
def Dp (tmps:Array Value):ResultVar→Sem Value
 | .tmp t=>pure (tmps.getD t Go.undef)
 | .cell x t=>do loadVar t (← asAddr (tmps.getD x Go.undef))
theorem PW (fn:Func) (tmps:Array Value):results fn tmps=(do let vs ← fn.results.mapM (Dp tmps);pure (if h:vs.size=1 then vs[0] else .tuple vs)):=by
 unfold results
 congr 2
theorem PX {P:Program} {L:Zh} (hL:Zw P L) {base nt:Nat} {s:St} {pl:List Pl} {a:Act} {w:World} (r:Rel Z base nt s pl a w):∀(rs:List ResultVar) (p:Prop) (ds:List D),xp L s rs=some (p,ds)→p →
  ∃vs:List Value,vs.length=ds.length∧(∀i,i<ds.length→Qv Z s.h pl w (nth ds i) (QL vs i)) ∧
   (rs.mapM (Dp a.tmps)).run P w=.ok vs w
 | [],p,ds,h,_=>by simp [xp]at h;obtain⟨_,rfl⟩:=h;exact⟨[],rfl,fun i hi=>by simp at hi,by simp⟩
 | .tmp t::rs,p,ds,h,hp=>by
  simp only[xp]at h
  split at h
  ·rename_i q ds' hr
   simp only[Option.some.injEq,Prod.mk.injEq]at h
   obtain⟨rfl,rfl⟩:=h
   obtain⟨vs,h1,h2,h3⟩:=PX hL r rs _ _ hr hp
   refine⟨a.tmps.getD t Go.undef::vs,by simp [h1],fun i hi=>?_,by simp [List.mapM_cons,Dp,h3]⟩
   cases i with
   | zero=>exact r.fr t
   | succ i=>have:=h2 i (by simpa using hi);simpa [nth,QL] using this
  ·cases h
 | .cell x t::rs,p,ds,h,hp=>by
  simp only[xp]at h
  split at h
  ·rename_i q d p' ds' hl hr
   simp only[Option.some.injEq,Prod.mk.injEq]at h
   obtain⟨rfl,rfl⟩:=h
   obtain⟨vs,h1,h2,h3⟩:=PX hL r rs _ _ hr hp.2
   have ho := bG (P := P) (base := base) (nt := nt) (s := s) (o := ⟨none, .load t (.tmp x), 0, "", #[], none⟩) hL (t := t) (x := .tmp x) rfl hl hp.1
   obtain⟨v,hv,QV⟩:=ho Z pl a w r
   have QV:=QV w (fun _ _=>rfl)
   refine⟨v::vs,by simp [h1],fun i hi=>?_,?_⟩
   ·cases i with
    | zero=>exact hv
    | succ i=>have:=h2 i (by simpa using hi);simpa [nth,QL] using this
   ·have hx:=r.fr x
    have LV:(Dp a.tmps (.cell x t)).run P w=.ok v w:=by
     simp only[execOp,Act.eval,Instr.loadAt,Sem.run_bind]at QV
     simp only[Dp]
     have Pr:∃ad,a.tmps.getD x Go.undef=.pointer (some ad):=by
      unfold Bd at hl
      split at hl
      ·cases hl
      ·split at hl
       ·rename_i hg;rw[hg]at hx;obtain⟨_,_,ad,hv,_⟩:=wX hx;exact⟨_,hv⟩
       ·rename_i hg;rw[hg]at hx;obtain⟨_,_,_,hv,_⟩:=Bc hx;exact⟨_,hv⟩
       ·cases hl
     obtain⟨ad,YI⟩:=Pr
     rw[YI]at QV ⊢
     simp only[Instr.sureAddr,asAddr,Sem.run_bind,Sem.run_pure,Result.andThen_ok]at QV ⊢
     generalize (loadVar t ad).run P w=r1 at *
     cases r1 with
     | ok u w1=>simp only[Result.andThen_ok]at QV;cases QV;rfl
     | halt x w1=>simp only[Result.andThen_halt]at QV;cases QV
    simp [List.mapM_cons,LV,h3]
  ·cases h
theorem Qdd {P:Program} {L:Zh} (hL:Zw P L) {f:FuncId} {fn:Func} {c:Code} (hf:P.funcs[f]? = some fn) (hb:fn.body=some c) {F:List Ob} {args:List D} {R:D→List Ob→Prop} (hn:args.length≤fn.ntmps)
  (h:∀(base:Nat) (w:World) (pl:List Pl),base≤w.heap.size→pl.length=F.length→A P base fn.ntmps ⟨w,F,pl⟩ c (yY L fn.results.toList R) ⟨zk args 0,F⟩):QH P f F args R:=by
 intro Z base w pl vs QJ hZ hO hl hc
 refine calls_of_wp hf hb ?_
 have Lw:Rel Z base fn.ntmps ⟨zk args 0,F⟩ pl { tmps:=vs.toArray++Array.replicate (fn.ntmps - vs.toArray.size) Go.undef,defers:=[] } w:=by
  refine⟨by simp;omega,rfl,fun t=>?_,hO⟩
  rw[cR]
  simp only[Nat.zero_le,if_true,Nat.sub_zero]
  by_cases ht:t<args.length
  ·have:=hc t ht
   have e:(vs.toArray++Array.replicate (fn.ntmps - vs.toArray.size) Go.undef).getD t Go.undef=QL vs t:=by
    rw[Array.getD_eq_getD_getElem?,Array.getElem?_append_left (by simp;omega)]
    simp [QL,List.getD_eq_getElem?_getD]
   rw[e]
   exact this
  ·have:nth args t=.undef:=by simp [nth,List.getD_eq_getElem?_getD,List.getElem?_eq_none (Nat.le_of_not_lt ht)]
   rw[this]
   exact .cl _ _ (.undef _)
 refine wp_mono (h base w pl QJ hO.len _ trivial pl _ w Lw ⟨Below.refl _ _,Tr.refl _ _ _,Bq.start (w0:=⟨w,F,pl⟩) hO hZ⟩) fun e a' w' hh=>?_
 obtain⟨s',Qi,hq,r',vI,hT,_⟩:=hh
 have fin:(match xp L s' fn.results.toList with|some (p,ds)=>p∧R (one ds) s'.h|none=>False)→a'.defers=[]∧∃v,(results fn a'.tmps).run P w'=.ok v w' ∧
   ∃v1 d h Qi,Ending.returned v=.returned v1∧R d h∧QW Z base h Qi w'∧Qv Z h Qi w' d v1∧Tr F pl w h Qi w'∧Below base w w':=by
  intro hm
  split at hm
  ·rename_i p ds Qde
   obtain⟨KR,h1,h2,h3⟩:=PX hL r' _ _ _ Qde hm.1
   have QV:(fn.results.mapM (Dp a'.tmps)).run P w'=.ok KR.toArray w':=by
    rw[Array.mapM_eq_mapM_toList]
    simp only[Sem.run_map,h3,Result.andThen_ok]
   refine⟨r'.defers,?_⟩
   have ZC:KR.toArray.size=KR.length:=by simp
   match ds,KR,h1,h2,QV,hm with
   | [d],[v],_,h2,QV,hm=>
    refine⟨v,?_,v,d,s'.h,Qi,rfl,hm.2,r'.o,h2 0 (by simp),hT,vI⟩
    rw[PW];simp only[Sem.run_bind]
    rw[QV];simp
   | [],[],_,h2,QV,hm=>
    refine⟨.tuple #[],?_,_,_,s'.h,Qi,rfl,hm.2,r'.o,.tup [] [] rfl (fun i hi=>by simp at hi),hT,vI⟩
    rw[PW];simp only[Sem.run_bind]
    rw[QV];simp
   | d::d2::ds,v::v2::vs,h1,h2,QV,hm=>
    refine⟨.tuple (v::v2::vs).toArray,?_,_,_,s'.h,Qi,rfl,hm.2,r'.o,.tup _ _ h1 h2,hT,vI⟩
    rw[PW];simp only[Sem.run_bind]
    rw[QV];simp
   | [],_::_,h1,_,_,_=>simp at h1
   | [_],[],h1,_,_,_=>simp at h1
   | [_],_::_::_,h1,_,_,_=>simp at h1
   | _::_::_,[],h1,_,_,_=>simp at h1
   | _::_::_,[_],h1,_,_,_=>simp at h1
  ·exact hm.elim
 cases e with
 | normal=>exact fin hq
 | ret=>exact fin hq
 | exit id=>exact hq.elim
 | goto l=>exact hq.elim
 | panic ch=>exact hq.elim
 | outgrown=>exact hq.elim
end Go.Fg
namespace Go.Fg
open Go.RowKit (Below)
variable {Z:Nat→Prop}
def D.ko:D→Bool
 | .raw _ | .nil | .imm _ _ _ | .ip _=>true
 | _=>false
theorem Dq {h:List Ob} {pl:List Pl} {w:World} {d:D} {v:Value} (r:Qv Z h pl w d v) (hd:d.ko=true):Cl (free Z pl) w d v:=by
 cases r with
 | cl _ _ hc=>exact hc
 | _=>cases hd
def jh (f:D→Option (Prop × D)):List D→Option (Prop × List D)
 | []=>some (True,[])
 | d::r=>match f d,jh f r with
  | some (p,c),some (q,cs)=>some (p∧q,c::cs)
  | _,_=>none
def VY (h:List Ob):Nat→D→Option (Prop × D)
 | 0,.raw v=>some (True,.raw v)
 | 0,_=>none
 | n+1,d=>match d with
  | .raw v=>some (True,.raw v)
  | .nil=>some (True,.nil)
  | .imm z n r=>some (True,.imm z n r)
  | .ip c=>some (True,.ip c)
  | .ref l g off len=>match h[l]? with
   | some o=>some (g=o.gen∧off+len≤o.n∧∀i,i<len→(o.row (off+i)).all D.ko=true,.imm o.sz len fun i=>o.row (off+i))
   | none=>none
  | .ptr l g i j=>match h[l]? with
   | some o=>match jh (VY h n) ((o.row i).drop j) with
    | some (p,cs)=>some (g=o.gen∧i<o.n∧j≤o.sz∧p,.ip cs)
    | none=>none
   | none=>none
  | .agg cs=>match jh (VY h n) cs with
   | some (p,Zx)=>some (p,.agg Zx)
   | none=>none
  | .clo f nf cs=>match jh (VY h n) cs with
   | some (p,Zx)=>some (p,.clo f nf Zx)
   | none=>none
  | _=>none
theorem FW {f:D→Option (Prop × D)} {C:D→Value→Prop} {r:D→Value→Prop} (hf:∀d v p c,r d v→f d=some (p,c)→p→C c v):∀(cs:List D) (vs:List Value) (p:Prop) (Zx:List D),vs.length=cs.length→(∀i,i<cs.length→r (nth cs i) (QL vs i)) →
  jh f cs=some (p,Zx)→p→Zx.length=cs.length∧∀i,i<cs.length→C (nth Zx i) (QL vs i)
 | [],vs,p,Zx,hl,hr,h,hp=>by simp [jh]at h;obtain⟨_,rfl⟩:=h;exact⟨rfl,fun i hi=>by simp at hi⟩
 | d::cs,[],p,Zx,hl,hr,h,hp=>by simp at hl
 | d::cs,v::vs,p,Zx,hl,hr,h,hp=>by
  simp only[jh]at h
  split at h
  ·rename_i p1 c q cs1 h1 h2
   simp only[Option.some.injEq,Prod.mk.injEq]at h
   obtain⟨rfl,rfl⟩:=h
   obtain⟨k1,k2⟩:=FW hf cs vs q cs1 (by simpa using hl) (fun i hi=>by have:=hr (i+1) (by simpa using hi);simpa [nth,QL] using this) h2 hp.2
   refine⟨by simp [k1],fun i hi=>?_⟩
   cases i with
   | zero=>exact hf d v p1 c (hr 0 (by simp)) h1 hp.1
   | succ i=>have:=k2 i (by simpa using hi);simpa [nth,QL] using this
  ·cases h
theorem LW {N:Nat→Prop} {base:Nat} {h:List Ob} {pl:List Pl} {w:World} (R:QW Z base h pl w) (LX:∀b,free Z pl b→N b) (FX:∀l b q:Nat,pl[l]? = some (some (b,q))→N b):∀(n:Nat) (d:D) (v:Value) (p:Prop) (c:D),Qv Z h pl w d v→VY h n d=some (p,c)→p→Cl N w c v
 | 0,d,v,p,c,r,e,hp=>by
  cases d<;>simp only[VY,reduceCtorEq,Option.some.injEq,Prod.mk.injEq]at e
  obtain⟨_,rfl⟩:=e
  rw[ZD r];exact .raw _
 | n+1,d,v,p,c,r,e,hp=>by
  have top:∀{d:D} {v:Value},Cl (free Z pl) w d v→Cl N w d v:=fun h=>h.mono fun b hb _=>⟨LX b hb,rfl⟩
  cases d with
  | raw u=>simp only[VY,Option.some.injEq,Prod.mk.injEq]at e;obtain⟨_,rfl⟩:=e;exact top (Dq r rfl)
  | nil=>simp only[VY,Option.some.injEq,Prod.mk.injEq]at e;obtain⟨_,rfl⟩:=e;exact top (Dq r rfl)
  | imm z k row=>simp only[VY,Option.some.injEq,Prod.mk.injEq]at e;obtain⟨_,rfl⟩:=e;exact top (Dq r rfl)
  | ip cs=>simp only[VY,Option.some.injEq,Prod.mk.injEq]at e;obtain⟨_,rfl⟩:=e;exact top (Dq r rfl)
  | undef=>simp [VY]at e
  | tup cs=>simp [VY]at e
  | ref l g off len=>
   simp only[VY]at e
   split at e
   ·rename_i o ho
    simp only[Option.some.injEq,Prod.mk.injEq]at e
    obtain⟨rfl,rfl⟩:=e
    obtain⟨hg,hn,Vr⟩:=hp
    obtain⟨a,cap,vs,S⟩:=Pt R r (p:=g=o.gen∧off+len≤o.n) (n:=len) (sz:=o.sz) (rows:=fun k=>o.row (off+k)) (by simp [FH,ho]) ⟨hg,hn⟩
    have vE:∀i j,i<len→j<o.sz→(nth (o.row (off+i)) j).ko=true:=fun i j hi hj=>by
     have h1:=Vr i hi
     rw[List.all_eq_true]at h1
     have h2:j<(o.row (off+i)).length:=by rw[S.len i hi];exact hj
     refine h1 _ ?_
     simp only[nth,List.getD_eq_getElem?_getD,List.getElem?_eq_getElem h2,Option.getD_some]
     exact List.getElem_mem h2
    obtain⟨o',p',ad,YK,hv,Zg,Zs,Zq,X5,KG⟩:=yE r
    rw[ho]at Zg;cases Zg
    have PY:=S.v
    rw[hv]at PY
    simp only[Value.slice.injEq,true_and]at PY
    obtain⟨rfl,rfl⟩:=PY
    rw[hv]
    rcases KG hg with ⟨h1,h2⟩|⟨b,q,c,el,Kl,YI,hb,hc,hl⟩
    ·subst h1
     exact .imm _ _ _ _ _ 0 0 (fun _ _=>Go.undef) (fun h=>by omega) (by omega) (fun i hi=>by omega) (fun i j hi=>by omega) (fun i j hi=>by omega)
    ·refine .imm _ _ _ _ _ b (q+off*o.sz) vs (fun _=>YI) hl S.len (fun i j hi hj=>⟨FX l b q (by rw[Zs,Kl]),?_⟩) (fun i j hi hj=>?_)
     ·obtain⟨b1,q1,hh,j6⟩:=S.cell i j hi hj
      rw[YI]at hh
      simp only[Option.some.injEq,Addr.mk.injEq,and_true]at hh
      obtain⟨rfl,rfl⟩:=hh
      exact j6
     ·exact top (Dq (S.rel i j hi hj) (vE i j hi hj))
   ·cases e
  | mref l g=>simp [VY]at e
  | ptr l g i j=>
   simp only[VY]at e
   split at e
   ·rename_i o ho
    split at e
    ·rename_i q cs ZS
     simp only[Option.some.injEq,Prod.mk.injEq]at e
     obtain⟨rfl,rfl⟩:=e
     obtain⟨hg,hi,hj,hq⟩:=hp
     obtain⟨o',p',ad,hv,Zg,Zs,Zq,X5,KG⟩:=wX r
     rw[ho]at Zg;cases Zg
     obtain⟨b,q0,rfl,rfl⟩:=KG hg
     obtain⟨QJ,xx⟩:=R.at_ l o b q0 ho Zs
     obtain⟨c,el,hb,Bf,Z6,ZR⟩:=xx.cells Zq
     have hlen:((o.row i).drop j).length=o.sz - j:=by rw[List.length_drop,Z6 i hi]
     let vs:List Value:=(List.range (o.sz - j)).map fun k=>(c[q0+(i*o.sz+(j+k))]?).getD Go.undef
     have cS:∀k,k<o.sz - j→QL vs k=(c[q0+(i*o.sz+(j+k))]?).getD Go.undef:=fun k hk=>by simp [vs,QL,List.getD_eq_getElem?_getD,hk]
     obtain⟨k1,k2⟩:=FW (r:=fun d v=>Qv Z h pl w d v) (C:=fun d v=>Cl N w d v) (fun d v p c hr he hp=>LW R LX FX n d v p c hr he hp) _ vs q cs (by simp [vs,hlen]) (fun k hk=>by
      rw[hlen]at hk
      obtain⟨u,hu,hr⟩:=ZR i (j+k) hi (by omega)
      rw[yH,cS k hk,hu];exact hr) ZS hq
     rw[hv]
     rw[hlen]at k1 k2
     refine .ip _ b _ (fun k=>QL vs k) (fun k hk=>⟨FX l b q0 Zs,?_⟩) (fun k hk=>k2 k (by omega))
     rw[k1]at hk
     obtain⟨u,hu,hr⟩:=ZR i (j+k) hi (by omega)
     rw[cell_of_row w b _ c el (0,0) hb,cS k hk,hu,Option.getD_some,show q0+(i*o.sz+j)+k=q0+(i*o.sz+(j+k)) by omega,hu]
    ·cases e
   ·cases e
  | agg cs=>
   simp only[VY]at e
   split at e
   ·rename_i q Zx ZS
    simp only[Option.some.injEq,Prod.mk.injEq]at e
    obtain⟨rfl,rfl⟩:=e
    obtain⟨vs,rfl,hl,hr⟩:=Da r
    obtain⟨k1,k2⟩:=FW (r:=fun d v=>Qv Z h pl w d v) (C:=fun d v=>Cl N w d v) (fun d v p c hr he hp=>LW R LX FX n d v p c hr he hp) cs vs _ Zx hl hr ZS hp
    exact .agg _ _ (by omega) (fun i hi=>k2 i (by omega))
   ·cases e
  | clo f nf cs=>
   simp only[VY]at e
   split at e
   ·rename_i q Zx ZS
    simp only[Option.some.injEq,Prod.mk.injEq]at e
    obtain⟨rfl,rfl⟩:=e
    obtain⟨vs,rfl,hl,hr⟩:=Pf r
    obtain⟨k1,k2⟩:=FW (r:=fun d v=>Qv Z h pl w d v) (C:=fun d v=>Cl N w d v) (fun d v p c hr he hp=>LW R LX FX n d v p c hr he hp) cs vs _ Zx hl hr ZS hp
    exact .clo _ _ _ _ (by omega) (fun i hi=>k2 i (by omega))
   ·cases e
theorem Qdg {base:Nat} {h:List Ob} {pl:List Pl} {w:World} (R:QW Z base h pl w) (n:Nat) (d:D) (v:Value) (p:Prop) (c:D) (r:Qv Z h pl w d v) (e:VY h n d=some (p,c)) (hp:p):Cl (fun _=>True) w c v:=
 LW R (fun _ _=>trivial) (fun _ _ _ _=>trivial) n d v p c r e hp
mutual
def D.flat:D→Bool
 | .raw _ | .nil | .ref _ _ _ _ | .ptr _ _ _ _ | .mref _ _=>true
 | .agg cs=>kp cs
 | .tup cs=>kp cs
 | .clo _ _ cs=>kp cs
 | _=>false
def kp:List D→Bool
 | []=>true
 | d::r=>d.flat&&kp r
end
theorem yZ:∀{cs:List D},kp cs=true→∀i,i<cs.length→(nth cs i).flat=true
 | [],_,i,h=>by simp at h
 | d::r,hf,i,h=>by
  simp only[kp,Bool.and_eq_true]at hf
  cases i with
  | zero=>exact hf.1
  | succ i=>have:=yZ hf.2 i (by simpa using h);simpa [nth] using this
theorem Qv.LY {Z':Nat→Prop} {h:List Ob} {pl:List Pl} {w:World} {d:D} {v:Value} (r:Qv Z h pl w d v) (hf:d.flat=true):Qv Z' h pl w d v:=by
 induction r with
 | cl d v hc=>
  have:∀{d:D} {v:Value},Cl (free Z pl) w d v→d.flat=true→Qv Z' h pl w d v:=by
   intro d v hc
   induction hc with
   | raw v=>exact fun _=>.cl _ _ (.raw v)
   | undef v=>intro hf;simp [D.flat]at hf
   | nil a=>exact fun _=>.cl _ _ (.nil a)
   | imm=>intro hf;simp [D.flat]at hf
   | ip=>intro hf;simp [D.flat]at hf
   | clo f nf cs vs hl hr ih=>exact fun hf=>.clo f nf cs vs hl fun i hi=>ih i hi (yZ (by simpa [D.flat] using hf) i hi)
   | agg cs vs hl hr ih=>exact fun hf=>.agg cs vs hl fun i hi=>ih i hi (yZ (by simpa [D.flat] using hf) i hi)
   | tup cs vs hl hr ih=>exact fun hf=>.tup cs vs hl fun i hi=>ih i hi (yZ (by simpa [D.flat] using hf) i hi)
  exact this hc hf
 | ref l g off len o p a cap ho hp hk hg hs=>exact .ref l g off len o p a cap ho hp hk hg hs
 | ptr l g i j o p a ho hp hk hg hs=>exact .ptr l g i j o p a ho hp hk hg hs
 | mref l g o p b ho hp hk hg hs=>exact .mref l g o p b ho hp hk hg hs
 | clo f nf cs vs hl hr ih=>exact .clo f nf cs vs hl fun i hi=>ih i hi (yZ (by simpa [D.flat] using hf) i hi)
 | agg cs vs hl hr ih=>exact .agg cs vs hl fun i hi=>ih i hi (yZ (by simpa [D.flat] using hf) i hi)
 | tup cs vs hl hr ih=>exact .tup cs vs hl fun i hi=>ih i hi (yZ (by simpa [D.flat] using hf) i hi)
def Ob.flat (o:Ob):Prop:=∀i,i<o.n→kp (o.row i)=true
theorem QW.LY {Z':Nat→Prop} {base:Nat} {h:List Ob} {pl:List Pl} {w:World} (R:QW Z base h pl w) (hf:∀o∈h,o.flat):QW Z' base h pl w where
 len:=R.len
 inj:=R.inj
 J2:=R.J2
 at_:=fun l o b q ho hp=>by
  obtain⟨h1,x⟩:=R.at_ l o b q ho hp
  exact⟨h1,x.to rfl rfl rfl rfl (fun _ _=>rfl) fun i j v hi hj hr=>hr.LY (yZ (hf o (List.mem_of_getElem? ho) i hi) j hj)⟩
def Qp (P:Program) (f:FuncId):Prop:=∀(args:Array Value) (w:World),(callFunc f args).run P w=.ok (.enter f args) w
def Kb:D→Option (FuncId × Nat × List D)
 | .raw (.func (.func f) ⟨[]⟩ ⟨[]⟩)=>some (f,0,[])
 | .clo f nf cs=>some (f,nf,cs)
 | _=>none
section
variable {P:Program} {base nt:Nat} {w0:Start} {Q:Exit→St→Prop}
theorem FY {h:List Ob} {pl:List Pl} {w:World} {d:D} {v:Value} {f:FuncId} {nf:Nat} {QC:List D} (r:Qv Z h pl w d v) (e:Kb d=some (f,nf,QC)) :
  ∃vs:List Value,v=.func (.func f) (vs.take nf).toArray (vs.drop nf).toArray∧vs.length=QC.length∧∀i,i<QC.length→Qv Z h pl w (nth QC i) (QL vs i):=by
 unfold Kb at e
 split at e
 ·simp only[Option.some.injEq,Prod.mk.injEq]at e
  obtain⟨rfl,rfl,rfl⟩:=e
  exact⟨[],ZD r,rfl,fun i hi=>by simp at hi⟩
 ·simp only[Option.some.injEq,Prod.mk.injEq]at e
  obtain⟨rfl,rfl,rfl⟩:=e
  exact Pf r
 ·cases e
def Z8 {α:Type} (nf:Nat) (QC args:List α):List α:=QC.take nf++(args++QC.drop nf)
theorem FZ {r:D→Value→Prop} {nf:Nat} {QC args:List D} {vs us:List Value} (h1:vs.length=QC.length) (h2:∀i,i<QC.length→r (nth QC i) (QL vs i)) (k1:us.length=args.length) (k2:∀i,i<args.length→r (nth args i) (QL us i)) :
  (Z8 nf vs us).length=(Z8 nf QC args).length∧∀i,i<(Z8 nf QC args).length→r (nth (Z8 nf QC args) i) (QL (Z8 nf vs us) i):=by
 refine⟨by simp [Z8,h1,k1],fun i hi=>?_⟩
 have hl:(vs.take nf).length=(QC.take nf).length:=by simp [h1]
 simp only[Z8,nth,QL,List.getD_eq_getElem?_getD]
 by_cases c1:i<(QC.take nf).length
 ·rw[List.getElem?_append_left (l₁:=QC.take nf) c1,List.getElem?_append_left (l₁:=vs.take nf) (by omega)]
  have c2:i<nf∧i<QC.length:=by simp at c1;omega
  rw[List.getElem?_take,List.getElem?_take,if_pos c2.1,if_pos c2.1]
  exact h2 i c2.2
 ·rw[List.getElem?_append_right (l₁:=QC.take nf) (by omega),List.getElem?_append_right (l₁:=vs.take nf) (by omega),hl]
  by_cases c2:i - (QC.take nf).length<args.length
  ·rw[List.getElem?_append_left (l₁:=args) c2,List.getElem?_append_left (l₁:=us) (by omega)]
   exact k2 _ c2
  ·rw[List.getElem?_append_right (l₁:=args) (by omega),List.getElem?_append_right (l₁:=us) (by omega),k1]
   rw[List.getElem?_drop,List.getElem?_drop]
   refine h2 _ ?_
   simp only[Z8,List.length_append,List.length_take,List.length_drop]at hi c1 c2 ⊢;omega
theorem F0 {o:Oper} {a:Act} {x:Operand} {args:Array Operand} {ZY:Array TypeId} {f:FuncId} {nf:Nat} {vs:List Value} (hf:Qp P f) (ho:o.op=.call ⟨.value x,args,ZY⟩) (hx:a.eval x=.func (.func f) (vs.take nf).toArray (vs.drop nf).toArray) (w:World) :
  (execOp a.eval o).run P w=.ok (.enter f (Z8 nf vs (args.toList.map a.eval)).toArray) w:=by
 have e:(Z8 nf vs (args.toList.map a.eval)).toArray=(vs.take nf).toArray++args.map a.eval++(vs.drop nf).toArray:=by apply Array.ext';simp [Z8]
 rw[e]
 simp [execOp,ho,resolve,hx,Deferred.ofValue,invoke,hf _ w]
theorem cT (QJ:base≤w0.w.heap.size) {o:Oper} {s:St} {x:Operand} {args:Array Operand} {ZY:Array TypeId} {f:FuncId} {nf:Nat} {QC:List D} (hf:Qp P f) (ho:o.op=.call ⟨.value x,args,ZY⟩)
  (hx:Kb (Qq s.fr x)=some (f,nf,QC)) {n:Nat} {p:Prop} {cs:List D} (ZS:jh (VY s.h n) (Z8 nf QC (args.toList.map (Qq s.fr)))=some (p,cs)) (hp:p) {R:D→List Ob→Prop} (hF:Q8 P f cs R)
  (Br:∀d h,R d h→d.flat=true∧∀o∈h,o.flat) (ht:Zo nt o.dst=true) (pl:List Pl) (a:Act) (w:World) (r:Rel Z base nt s pl a w) (b:JB Z base w0 s.h pl w) (Q':Exit→Act→World→Prop) :
  o.wp P a w (fun a' w'=>Ext w w'∧∃d h Qi,R d h∧Rel Z base nt ⟨Ze s.fr o.dst (d.shift s.h.length),s.h++h.map (Ob.shift s.h.length)⟩ Qi a' w'∧JB Z base w0 (s.h++h.map (Ob.shift s.h.length)) Qi w'∧Tr s.h pl w (s.h++h.map (Ob.shift s.h.length)) Qi w'∧∃v,a'=a.put o.dst v) Q':=by
 obtain⟨vs,hv,YO,xr⟩:=FY (r.eval x) hx
 have W3:base≤w.heap.size:=Nat.le_trans QJ b.1.size
 obtain⟨q1,q2⟩:=FZ (r:=fun d v=>Qv Z s.h pl w d v) (nf:=nf) YO xr (us:=args.toList.map a.eval) (args:=args.toList.map (Qq s.fr)) (by simp) (fun i hi=>by
  have ZH:i<args.toList.length:=by simpa using hi
  simp only[nth,QL,List.getD_eq_getElem?_getD,List.getElem?_map]
  rw[List.getElem?_eq_getElem ZH]
  exact r.eval _)
 obtain⟨k1,k2⟩:=FW (r:=fun d v=>Qv Z s.h pl w d v) (C:=fun d v=>Cl (fun _=>True) w d v) (fun d v p c hr he hp=>Qdg r.o n d v p c hr he hp) _ (Z8 nf vs (args.toList.map a.eval)) p cs q1 q2 ZS hp
 have hc:=hF (fun _=>True) w.heap.size w [] (Z8 nf vs (args.toList.map a.eval)) (Nat.le_refl _) (fun _ _=>trivial) ⟨rfl,fun l l' b q q' e=>by simp at e,fun l o e=>by simp at e,fun l o b q e=>by simp at e⟩ (by omega) (fun i hi=>.cl _ _ ((k2 i (by omega)).mono fun b _ _=>⟨⟨trivial,fun l q e=>by simp at e⟩,rfl⟩))
 unfold Oper.wp
 rw[F0 hf ho hv w]
 simp only[Oper.upon_enter]
 refine hc.mono fun e w' he=>?_
 obtain⟨v,d,h',Qi,rfl,hR,hO,hV,PZ,hB⟩:=he
 obtain⟨f1,f2⟩:=Br d h' hR
 have hO':=hO.LY (Z':=fun _=>False) f2
 have hV':=hV.LY (Z':=fun _=>False) f1
 have Wh:∀b,free (fun _=>False) Qi b→free Z (pl++Qi) b:=fun b hb=>hb.1.elim
 have ZX:∀(l b q:Nat),Qi[l]? = some (some (b,q))→w.heap.size≤b:=fun l b q e=>by
  rcases Nat.lt_or_ge b w.heap.size with Qd|xn
  ·exact absurd e ((PZ.JP b (fun l q e=>by simp at e) Qd).1 l q)
  ·exact xn
 have T:=Tr.join (h':=h'.map (Ob.shift s.h.length)) r.o hB ZX
 have Bs:=QW.join r.o W3 hB hO' Wh ZX
 refine⟨fun i hi=>hB.block i hi,d,h',pl++Qi,hR,?_,b.step T (hB.mono W3),T,v,rfl⟩
 cases hd:o.dst with
 | none=>exact r.zY T Bs v
 | some t=>rw[hd]at ht;exact r.to T Bs (YN ht) (hV'.join r.o.len Wh)
theorem Qdj (QJ:base≤w0.w.heap.size) {o:Oper} {rest:List (Oper × G)} {s:St} {x:Operand} {args:Array Operand} {ZY:Array TypeId} {f:FuncId} {nf:Nat} {QC:List D} (hf:Qp P f) (ho:o.op=.call ⟨.value x,args,ZY⟩)
  (hx:Kb (Qq s.fr x)=some (f,nf,QC)) {n:Nat} {p:Prop} {cs:List D} (ZS:jh (VY s.h n) (Z8 nf QC (args.toList.map (Qq s.fr)))=some (p,cs)) (hp:p) {R:D→List Ob→Prop} (hF:Q8 P f cs R)
  (Br:∀d h,R d h→d.flat=true∧∀o∈h,o.flat) (ht:Zo nt o.dst=true) (hk:∀d h,R d h→AG P base nt w0 rest Q ⟨Ze s.fr o.dst (d.shift s.h.length),s.h++h.map (Ob.shift s.h.length)⟩):AG P base nt w0 ((o,none)::rest) Q s:=by
 intro Z z pl a w r b
 simp only[WA,Vj,if_true]
 exact Oper.wp_mono (fun a' w' ⟨_,d,h,Qi,hR,r',b',_⟩=>hk d h hR Z z Qi a' w' r' b') (cT QJ hf ho hx ZS hp hF Br ht pl a w r b _)
def vL (m:Nat) (h:List Ob) (pl:List Pl) (h':List Ob) (Qi:List Pl):Prop:=
 (∀b,Vh pl b→Vh Qi b)∧∀(l:Nat) (o:Ob) (p:Pl),l<m→h[l]? = some o→pl[l]? = some p→∃o',h'[l]? = some o'∧Qi[l]? = some p∧o'.gen=o.gen∧o'.sz=o.sz∧o'.kd.ty=o.kd.ty
theorem vL.refl (m:Nat) (h:List Ob) (pl:List Pl):vL m h pl h pl:=⟨fun _ h=>h,fun _ o p _ ho hp=>⟨o,ho,hp,rfl,rfl,rfl⟩⟩
theorem vL.trans {m:Nat} {h h' XE:List Ob} {pl Qi A7:List Pl} (a:vL m h pl h' Qi) (b:vL m h' Qi XE A7):vL m h pl XE A7:=
 ⟨fun x hx=>b.1 x (a.1 x hx),fun l o p hl ho hp=>by
  obtain⟨o1,h1,h2,h3,h4,h5⟩:=a.2 l o p hl ho hp
  obtain⟨o2,k1,k2,k3,k4,k5⟩:=b.2 l o1 p hl h1 h2
  exact⟨o2,k1,k2,by rw[k3,h3],by rw[k4,h4],by rw[k5,h5]⟩⟩
theorem Tr.keep {F h h':List Ob} {cU pl Qi:List Pl} {w0 w:World} {m:Nat} (T:Tr F cU w0 h pl w) (hm:F.length≤m) (K:vL m h pl h' Qi):Tr F cU w0 h' Qi w where
 JP:=fun b hb Qd=>⟨K.1 b (T.JP b hb Qd).1,(T.JP b hb Qd).2⟩
 obj:=fun l o p ho hp=>by
  obtain⟨o1,p1,h1,h2,h3,h4,h5⟩:=T.obj l o p ho hp
  obtain⟨o2,k1,k2,k3,k4,k5⟩:=K.2 l o1 p1 (Nat.lt_of_lt_of_le (Jv ho) hm) h1 h2
  exact⟨o2,p1,k1,k2,by omega,by rw[k5,h4],fun e=>by obtain⟨x,y⟩:=h5 (by omega);exact⟨by rw[k4,x],y⟩⟩
 shape:=fun l o IU b q ho CZ hg hp c el hb=>by
  obtain⟨o1,p1,h1,h2,h3,h4,h5⟩:=T.obj l o _ ho hp
  obtain⟨o2,k1,k2,k3,k4,k5⟩:=K.2 l o1 p1 (Nat.lt_of_lt_of_le (Jv ho) hm) h1 h2
  rw[CZ]at k1;cases k1
  exact T.shape l o o1 b q ho h1 (by omega) hp c el hb
def Wk (m:Nat) (s s':St):Prop:=∀(Z:Nat→Prop) (base nt:Nat) pl a w,Rel Z base nt s pl a w→∃Qi,Rel Z base nt s' Qi a w∧vL m s.h pl s'.h Qi
theorem Wk.refl {m:Nat} (s:St):Wk m s s:=fun _ _ _ pl _ _ r=>⟨pl,r,.refl _ _ _⟩
theorem Wk.trans {m:Nat} {s s' Bt:St} (h:Wk m s s') (k:Wk m s' Bt):Wk m s Bt:=fun Z b n pl a w r=>
 let ⟨Qi,r',K⟩:=h Z b n pl a w r
 let ⟨A7,r'',K'⟩:=k Z b n Qi a w r'
 ⟨A7,r'',K.trans K'⟩
theorem JB.keep {h h':List Ob} {pl Qi:List Pl} {w:World} (b:JB Z base w0 h pl w) (K:vL w0.F.length h pl h' Qi):JB Z base w0 h' Qi w:=⟨b.1,b.2.1.keep (Nat.le_refl _) K,b.2.2.new,fun l b' q e h0=>by
 by_cases ha:Vh pl b'
 ·exact absurd e (K.1 b' ha l q)
 ·obtain⟨l1,h1⟩:=Classical.not_forall.1 ha
  obtain⟨q1,h2⟩:=Classical.not_forall.1 h1
  exact b.2.2.own l1 b' q1 (Classical.not_not.1 h2) h0⟩
def Qk (w0:Start) (s s':St):Prop:=∀(Z:Nat→Prop),FR w0 Z→∀(base nt:Nat) pl a w,Rel Z base nt s pl a w→JB Z base w0 s.h pl w→∃Qi,Rel Z base nt s' Qi a w∧JB Z base w0 s'.h Qi w
theorem Wk.up {s s':St} (h:Wk w0.F.length s s'):Qk w0 s s':=fun Z _ base nt pl a w r b=>let ⟨Qi,r',K⟩:=h Z base nt pl a w r;⟨Qi,r',b.keep K⟩
theorem Qk.refl (s:St):Qk w0 s s:=fun _ _ _ _ pl _ _ r b=>⟨pl,r,b⟩
theorem Qk.trans {s s' Bt:St} (h:Qk w0 s s') (k:Qk w0 s' Bt):Qk w0 s Bt:=fun Z z bs n pl a w r b=>
 let ⟨Qi,r',b'⟩:=h Z z bs n pl a w r b
 k Z z bs n Qi a w r' b'
theorem A.LZ {c:Code} {s s':St} (h:Qk w0 s s') (k:A P base nt w0 c Q s'):A P base nt w0 c Q s:=fun Z z pl a w r b=>let ⟨Qi,r',b'⟩:=h Z z base nt pl a w r b;k Z z Qi a w r' b'
theorem AG.LZ {l:List (Oper × G)} {s s':St} (h:Qk w0 s s') (k:AG P base nt w0 l Q s'):AG P base nt w0 l Q s:=fun Z z pl a w r b=>let ⟨Qi,r',b'⟩:=h Z z base nt pl a w r b;k Z z Qi a w r' b'
theorem xu {c:Code} {k:List Item} {s s':St} (h:Qk w0 s s') (hk:Qs P base nt w0 Q (.code c::k) .normal s'):Qs P base nt w0 Q (.code c::k) .normal s:=by
 simp only[Qs]at hk ⊢;exact hk.LZ h
def Bu (fr:List (Nat × D)):List (Nat × D)→Prop
 | []=>True
 | (t,d)::r=>get fr t=d∧Bu fr r
theorem cV {fr:List (Nat × D)}:∀{r:List (Nat × D)},Bu fr r→∀t d,(t,d)∈r→get fr t=d
 | [],_,_,_,h=>by cases h
 | (u,e)::r,h,t,d,hm=>by
  rcases List.mem_cons.1 hm with h1|h1
  ·cases h1;exact h.1
  ·exact cV h.2 t d h1
theorem cW (fr:List (Nat × D)) (u:Nat):get fr u=.undef∨(u,get fr u)∈fr:=by
 induction fr with
 | nil=>exact .inl rfl
 | cons x r ih=>
  obtain⟨t,d⟩:=x
  simp only[get]
  by_cases h:t=u
  ·subst h;simp
  ·have:Nat.beq t u=false:=by rw[← Bool.not_eq_true,Nat.beq_eq];exact h
   rw[this]
   rcases ih with ih|ih
   ·exact .inl (by simpa using ih)
   ·exact .inr (by simp [ih])
theorem Wk.frame {m:Nat} {fr fr':List (Nat × D)} {h:List Ob} (hf:Bu fr fr'):Wk m ⟨fr,h⟩ ⟨fr',h⟩:=fun Z base nt pl a w r=>
 ⟨pl,⟨r.nt,r.defers,fun t=>by
  rcases cW fr' t with h1|h1
  ·show Qv Z h pl w (get fr' t) _
   rw[h1];exact .cl _ _ (.undef _)
  ·have:=cV hf _ _ h1
   show Qv Z h pl w (get fr' t) _
   rw[← this];exact r.fr t,r.o⟩,.refl _ _ _⟩
def Kd.F1 (k k':Kd):Prop:=k.ty=k'.ty∧k.ro=k'.ro
def Dr (o o':Ob):Prop:=o'.gen=o.gen∧o'.sz=o.sz∧o'.n=o.n∧o'.kd.F1 o.kd∧∀i,i<o.n→o'.row i=o.row i
def kr:List Ob→List Ob→Prop
 | [],[]=>True
 | o::r,o'::r'=>Dr o o'∧kr r r'
 | _,_=>False
theorem L0:∀{h h':List Ob},kr h h'→h'.length=h.length∧∀(l:Nat) (o':Ob),h'[l]? = some o'→∃o,h[l]? = some o∧Dr o o'
 | [],[],_=>⟨rfl,fun l o' e=>by simp at e⟩
 | [],_::_,h=>h.elim
 | _::_,[],h=>h.elim
 | o::r,o'::r',h=>by
  obtain⟨h1,h2⟩:=L0 h.2
  refine⟨by simp [h1],fun l u e=>?_⟩
  cases l with
  | zero=>simp at e;subst e;exact⟨o,rfl,h.1⟩
  | succ l=>simp at e;obtain⟨v,h3,h4⟩:=h2 l u e;exact⟨v,by simpa using h3,h4⟩
theorem Qv.y0 {h h':List Ob} {pl:List Pl} {w:World} (hl:kr h h') {d:D} {v:Value} (r:Qv Z h pl w d v):Qv Z h' pl w d v:=by
 obtain⟨h1,h2⟩:=L0 hl
 have key:∀(l:Nat) (o:Ob),h[l]? = some o→∃o',h'[l]? = some o'∧Dr o o':=fun l o e=>by
  have:l<h'.length:=by rw[h1];exact Jv e
  obtain⟨o2,h3,h4⟩:=h2 l _ (List.getElem?_eq_getElem this)
  rw[e]at h3;cases h3
  exact⟨_,List.getElem?_eq_getElem this,h4⟩
 induction r with
 | cl d v hc=>exact .cl d v hc
 | ref l g off len o p a cap ho hp hk hg hs=>
  obtain⟨o',h3,h4⟩:=key l o ho
  exact .ref l g off len o' p a cap h3 hp (by rw[h4.2.2.2.1.1];exact hk) (by rw[h4.1];exact hg) (fun e=>by rw[h4.2.1];exact hs (by rw[e,h4.1]))
 | ptr l g i j o p a ho hp hk hg hs=>
  obtain⟨o',h3,h4⟩:=key l o ho
  exact .ptr l g i j o' p a h3 hp (by rw[h4.2.2.2.1.1];exact hk) (by rw[h4.1];exact hg) (fun e=>by rw[h4.2.1];exact hs (by rw[e,h4.1]))
 | mref l g o p b ho hp hk hg hs=>
  obtain⟨o',h3,h4⟩:=key l o ho
  exact .mref l g o' p b h3 hp (by rw[h4.2.2.2.1.1];exact hk) (by rw[h4.1];exact hg) (fun e=>hs (by rw[e,h4.1]))
 | clo f nf cs vs hl hr ih=>exact .clo f nf cs vs hl ih
 | agg cs vs hl hr ih=>exact .agg cs vs hl ih
 | tup cs vs hl hr ih=>exact .tup cs vs hl ih
theorem Wk.y0 {m:Nat} {fr:List (Nat × D)} {h h':List Ob} (hl:kr h h'):Wk m ⟨fr,h⟩ ⟨fr,h'⟩:=fun Z base nt pl a w r=>by
 obtain⟨h1,h2⟩:=L0 hl
 refine⟨pl,⟨r.nt,r.defers,fun t=>(r.fr t).y0 hl,⟨by rw[h1];exact r.o.len,r.o.inj,fun l o' ho hp=>?_,fun l o' b q ho hp=>?_⟩⟩,fun _ h=>h,fun l o p _ ho hp=>?_⟩
 ·obtain⟨o,h3,h4⟩:=h2 l o' ho
  rw[h4.2.2.1];exact r.o.J2 l o h3 hp
 ·obtain⟨o,h3,h4,h5,h6,h8,h7⟩:=h2 l o' ho
  obtain⟨g1,x⟩:=r.o.at_ l o b q h3 hp
  exact⟨fun hr=>g1 (by rw[← h8.2,hr]),x.to h8.1 h5 h6 rfl (fun i hi=>by rw[h7 i hi]) fun i j v hi _ hr=>by rw[h7 i hi];exact hr.y0 hl⟩
 ·have Qd:l<h'.length:=by rw[h1];exact Jv ho
  obtain⟨o2,h3,h4⟩:=h2 l _ (List.getElem?_eq_getElem Qd)
  have ho:h[l]? = some o:=ho
  rw[ho]at h3;cases h3
  exact⟨_,List.getElem?_eq_getElem Qd,hp,h4.1,h4.2.1,h4.2.2.2.1.1⟩
mutual
def D.upto (k:Nat):D→Bool
 | .ref l _ _ _=>Nat.blt l k
 | .ptr l _ _ _=>Nat.blt l k
 | .mref l _=>Nat.blt l k
 | .clo _ _ cs=>zl k cs
 | .agg cs=>zl k cs
 | .tup cs=>zl k cs
 | _=>true
def zl (k:Nat):List D→Bool
 | []=>true
 | d::r=>d.upto k&&zl k r
end
theorem Ds {k:Nat}:∀{cs:List D},zl k cs=true→∀i,i<cs.length→(nth cs i).upto k=true
 | [],_,i,h=>by simp at h
 | d::r,hf,i,h=>by
  simp only[zl,Bool.and_eq_true]at hf
  cases i with
  | zero=>exact hf.1
  | succ i=>have:=Ds hf.2 i (by simpa using h);simpa [nth] using this
theorem Qv.take {h:List Ob} {pl:List Pl} {w:World} {k:Nat} {d:D} {v:Value} (r:Qv Z h pl w d v) (hk:d.upto k=true):Qv Z (h.take k) (pl.take k) w d v:=by
 have Wh:∀b,free Z pl b→free Z (pl.take k) b:=fun b hb=>⟨hb.1,fun l q e=>by
  rw[List.getElem?_take]at e
  split at e
  ·exact hb.2 l q e
  ·cases e⟩
 induction r with
 | cl d v hc=>exact .cl d v (hc.mono fun b hb _=>⟨Wh b hb,rfl⟩)
 | ref l g off len o p a cap ho hp hm hg hs=>
  have:l<k:=by simpa [D.upto,Nat.blt_eq] using hk
  exact .ref l g off len o p a cap (by rw[List.getElem?_take,if_pos this];exact ho) (by rw[List.getElem?_take,if_pos this];exact hp) hm hg hs
 | ptr l g i j o p a ho hp hm hg hs=>
  have:l<k:=by simpa [D.upto,Nat.blt_eq] using hk
  exact .ptr l g i j o p a (by rw[List.getElem?_take,if_pos this];exact ho) (by rw[List.getElem?_take,if_pos this];exact hp) hm hg hs
 | mref l g o p b ho hp hm hg hs=>
  have:l<k:=by simpa [D.upto,Nat.blt_eq] using hk
  exact .mref l g o p b (by rw[List.getElem?_take,if_pos this];exact ho) (by rw[List.getElem?_take,if_pos this];exact hp) hm hg hs
 | clo f nf cs vs hl hr ih=>exact .clo f nf cs vs hl fun i hi=>ih i hi (Ds (by simpa [D.upto] using hk) i hi)
 | agg cs vs hl hr ih=>exact .agg cs vs hl fun i hi=>ih i hi (Ds (by simpa [D.upto] using hk) i hi)
 | tup cs vs hl hr ih=>exact .tup cs vs hl fun i hi=>ih i hi (Ds (by simpa [D.upto] using hk) i hi)
def Bv (k:Nat):List (Nat × D)→Bool
 | []=>true
 | (_,d)::r=>d.upto k&&Bv k r
theorem cX {k:Nat}:∀{fr:List (Nat × D)},Bv k fr=true→∀t,(get fr t).upto k=true
 | [],_,t=>rfl
 | (u,d)::r,h,t=>by
  simp only[Bv,Bool.and_eq_true]at h
  simp only[get]
  cases Nat.beq u t
  ·exact cX h.2 t
  ·exact h.1
def vM (k:Nat):List Ob→Prop
 | []=>True
 | o::r=>(∀i,i<o.n→zl k (o.row i)=true)∧vM k r
theorem P0 {k:Nat}:∀{h:List Ob},vM k h→∀(l:Nat) (o:Ob),h[l]? = some o→∀i,i<o.n→zl k (o.row i)=true
 | [],_,l,o,e=>by simp at e
 | o::r,h,l,u,e=>by
  cases l with
  | zero=>simp at e;subst e;exact h.1
  | succ l=>simp at e;exact P0 h.2 l u e
theorem Wk.drop {m:Nat} (k:Nat) (hm:m≤k) {fr:List (Nat × D)} {h:List Ob} (h1:Bv k fr=true) (h2:vM k (h.take k)):Wk m ⟨fr,h⟩ ⟨fr,h.take k⟩:=fun Z base nt pl a w r=>by
 have Q4:∀(l:Nat) (p:Pl),(pl.take k)[l]? = some p→pl[l]? = some p:=fun l p e=>by
  rw[List.getElem?_take]at e;split at e
  ·exact e
  ·cases e
 have hh:∀(l:Nat) (o:Ob),(h.take k)[l]? = some o→h[l]? = some o:=fun l o e=>by
  rw[List.getElem?_take]at e;split at e
  ·exact e
  ·cases e
 refine⟨pl.take k,⟨r.nt,r.defers,fun t=>(r.fr t).take (cX h1 t),⟨by simp [r.o.len],fun l l' b q q' e1 e2=>r.o.inj l l' b q q' (Q4 _ _ e1) (Q4 _ _ e2),fun l o ho hp=>r.o.J2 l o (hh _ _ ho) (Q4 _ _ hp),fun l o b q ho hp=>?_⟩⟩,
  fun b hb l q e=>hb l q (Q4 _ _ e),fun l o p hl ho hp=>⟨o,by show (h.take k)[l]? = _;rw[List.getElem?_take,if_pos (by omega)];exact ho,by rw[List.getElem?_take,if_pos (by omega)];exact hp,rfl,rfl,rfl⟩⟩
 obtain⟨g1,x⟩:=r.o.at_ l o b q (hh _ _ ho) (Q4 _ _ hp)
 exact⟨g1,x.to rfl rfl rfl rfl (fun _ _=>rfl) fun i j v hi hj hr=>hr.take (Ds (P0 h2 l o ho i hi) j hj)⟩
theorem Wk.wV {m:Nat} {fr:List (Nat × D)} {h:List Ob} (t sz:Nat) (row:Nat→List D) (ht:get fr t=.nil):Wk m ⟨fr,h⟩ ⟨put fr t (.ref h.length 0 0 0),h++[⟨.arr,0,sz,0,row⟩]⟩:=fun Z base nt pl a w r=>by
 have T:Tr h pl w (h++[⟨.arr,0,sz,0,row⟩]) (pl++[none]) w:=Tr.push r.o (fun _ _=>rfl) _ _ (by intro b q e;cases e)
 refine⟨pl++[none],⟨r.nt,r.defers,fun u=>?_,r.o.wV _ rfl⟩,fun b hb=>Fy hb (fun q e=>by cases e),fun l o p _ ho hp=>⟨o,jW ho,jW hp,rfl,rfl,rfl⟩⟩
 show Qv Z _ _ w (get (put fr t (.ref h.length 0 0 0)) u) _
 rw[yB]
 by_cases hu:u=t
 ·subst hu
  rw[if_pos rfl]
  have:=r.fr u
  have this:Qv Z h pl w (get fr u) (a.tmps.getD u Go.undef):=this
  rw[ht]at this
  obtain⟨ad,hv⟩:=yD this
  rw[hv]
  have Q4:pl.length=h.length:=r.o.len
  exact .ref _ _ _ _ ⟨.arr,0,sz,0,row⟩ none ad 0 (by simp) (by rw[← Q4];simp) rfl (Nat.le_refl _) (fun _=>.inl ⟨rfl,rfl⟩)
 ·rw[if_neg hu];exact(r.fr u).tr T
def L6 (P:Program) (base nt:Nat) (w0:Start) (Q:Exit→St→Prop) (k:List Item) (I:Nat→St→Prop) (m:Nat):Exit→St→Prop
 | .normal,s=>∃m' s',m'<m∧Qk w0 s s'∧I m' s'
 | e,s=>Qs P base nt w0 Q k e s
theorem Qdl {p:Nat→Prop}:∀n,p n→∃m,p m∧∀k,p k→m≤k:=by
 intro n
 induction n using Nat.strongRecOn with
 | _ n ih=>
  intro hn
  by_cases h:∃k,k<n∧p k
  ·obtain⟨k,hk,hp⟩:=h;exact ih k hk hp
  ·exact⟨n,hn,fun k hk=>Nat.le_of_not_lt fun Qd=>h ⟨k,Qd,hk⟩⟩
theorem L7 {p:Nat→Prop} (h:∃n,p n):∃m,p m∧∀k,p k→m≤k:=let ⟨n,hn⟩:=h;Qdl n hn
open Classical in
theorem Dt {c:Code} {k:List Item} {s s0:St} (I:Nat→St→Prop) (m0:Nat) (hw:Qk w0 s s0) (h0:I m0 s0) (round:∀m s,I m s→Qs P base nt w0 (L6 P base nt w0 Q k I m) [.code c] .normal s):Qs P base nt w0 Q (.code (.loop c)::k) .normal s:=by
 simp only[Qs]
 refine A.LZ hw ?_
 intro Z z pl a w r b
 let J:Nat→Act→World→Prop:=fun m a w=>∃s pl,I m s∧Rel Z base nt s pl a w∧JB Z base w0 s.h pl w
 let μ:Act→World→Nat:=fun a w=>if h:∃m,J m a w then Classical.choose (L7 h) else 0
 refine wp_loop (fun a w=>∃m,J m a w) μ ⟨m0,s0,pl,h0,r,b⟩ fun a w hJ=>?_
 have hm:=(Classical.choose_spec (L7 hJ)).1
 have hμ:μ a w=Classical.choose (L7 hJ):=by simp only[μ];rw[dif_pos hJ]
 obtain⟨s1,pl1,hI,r1,b1⟩:=hm
 have:=round _ s1 hI
 simp only[Qs]at this
 refine wp_mono (this Z z pl1 a w r1 b1) fun e a' w' hh=>?_
 obtain⟨s2,Dv,hq,r2,b2⟩:=hh
 cases e with
 | normal=>
  obtain⟨m',s3,Qd,hwk,hI3⟩:=hq
  obtain⟨pl3,r3,b3⟩:=hwk Z z base nt Dv a' w' r2 b2
  have Ma:J m' a' w':=⟨s3,pl3,hI3,r3,b3⟩
  refine⟨⟨m',Ma⟩,?_⟩
  rw[hμ]
  have:μ a' w'≤m':=by simp only[μ];rw[dif_pos ⟨m',Ma⟩];exact(Classical.choose_spec (L7 (p:=fun m=>J m a' w') ⟨m',Ma⟩)).2 m' Ma
  omega
 | exit id=>exact⟨s2,Dv,hq,r2,b2⟩
 | goto l=>exact⟨s2,Dv,hq,r2,b2⟩
 | ret=>exact⟨s2,Dv,hq,r2,b2⟩
 | panic ch=>exact⟨s2,Dv,hq,r2,b2⟩
 | outgrown=>exact⟨s2,Dv,hq,r2,b2⟩
end
end Go.Fg
namespace Go.Fg
theorem Qdq {P:Program} {base nt:Nat} {w0:Start} {Q:Exit→St→Prop} {c:Code} {s:St} (h:Qs P base nt w0 Q [.code c] .normal s):A P base nt w0 c Q s:=by
 simp only[Qs]at h
 exact h.mono fun e s' he=>by cases e<;>exact he
theorem cY {P:Program} {X:Cx} (hX:W0 P X) {f:FuncId} {fn:Func} {c:Code} (n:Nat) (hf:P.funcs[f]? = some fn) (hb:fn.body=some c) {F:List Ob} {args:List D} {R:D→List Ob→Prop} {nt:Nat} (qx:fn.ntmps=nt) (hn:args.length≤nt)
  (h:∀(base:Nat) (w:World) (pl:List Pl),base≤w.heap.size→pl.length=F.length→(exec X nt n [.code c] ⟨zk args 0,F⟩).holds P base nt ⟨w,F,pl⟩ (yY X.L fn.results.toList R)):QH P f F args R:=
 Qdd hX.L hf hb (by rw[qx];exact hn) fun base w pl QJ hlen=>Qdq (by rw[qx];exact Yc hX QJ n _ _ (h base w pl QJ hlen))
end Go.Fg
namespace Go.Fg
open Go.RowKit (Below)
variable {Z:Nat→Prop}
inductive ku (ops:Array Oper) (Q6:Array Bool) (i:Nat):Nat→Prop
 | F2 (j:Nat) (oj:Oper) (e:Edge) (hj:ops[j]? = some oj) (he:e∈oj.after) (hb:Region.binds .any e=true) (h:e.on=i):ku ops Q6 i j
 | step (j:Nat) (oj:Oper) (e:Edge) (hj:ops[j]? = some oj) (he:e∈oj.after) (hb:Region.binds .any e=true) (hu:Q6.getD e.on true=false) (h:ku ops Q6 i e.on):ku ops Q6 i j
theorem both {Q6:Array Bool} {i:Nat} (h:Q6.getD i true=false):Q6.getD i false=false:=by
 rcases Nat.lt_or_ge i Q6.size with h'|h'
 ·simp [h']at h ⊢;exact h
 ·simp [Array.getElem?_eq_none h']at h
theorem ku.cZ {ops:Array Oper} {Q6:Array Bool} {i j:Nat} (h:ku ops Q6 i j) (hi:Q6.getD i true=false):j ∉ Region.ready .any ops Q6:=by
 intro hr
 obtain⟨_,oj',Jm,Vr⟩:=mem_ready.1 hr
 cases h with
 | F2 _ oj e hj he hb h=>
  rw[hj]at Jm;cases Jm
  have:=Vr e he hb
  rw[h,both hi]at this;cases this
 | step _ oj e hj he hb hu h=>
  rw[hj]at Jm;cases Jm
  have:=Vr e he hb
  rw[both hu]at this;cases this
theorem ku.set {ops:Array Oper} {Q6:Array Bool} {i j k:Nat} (h:ku ops Q6 i j) (hi:Q6.getD i true=false) (hk:k∈Region.ready .any ops Q6):ku ops (Q6.setIfInBounds k true) i j:=by
 induction h with
 | F2 j oj e hj he hb h=>exact .F2 j oj e hj he hb h
 | step j oj e hj he hb hu h ih=>
  refine .step j oj e hj he hb ?_ ih
  have:k≠e.on:=fun hek=>by subst hek;exact h.cZ hi hk
  rw[getD_set_ne true this];exact hu
def ji (P:Program) (ops:Array Oper) (N:Act→World→Prop) (cm:Nat→World→World→Prop):Nat→Array Bool→Act→World→Prop
 | 0,Q6,a,w=>Region.ready .any ops Q6=[]∧N a w
 | n+1,Q6,a,w=>(Region.ready .any ops Q6=[]→N a w) ∧
  ∀i∈Region.ready .any ops Q6,wpOp P ops (fun _ _ _=>False) i (fun a' w'=>cm i w w'∧ji P ops N cm n (Q6.setIfInBounds i true) a' w') a w
theorem Qds {P:Program} {o:Oper} {a:Act} {w:World} {K:Act→World→Prop} {Q:Exit→Act→World→Prop} (h:o.wp P a w K (fun _ _ _=>False)):o.wp P a w K Q:=by
 unfold Oper.wp at *
 generalize (execOp a.eval o).run P w=r at *
 cases r with
 | ok n w'=>
  cases n<;>simp only[Oper.upon]at h ⊢<;>first|exact h|skip
  ·exact Calls.mono h fun e A9 he=>by cases e<;>first|exact he|exact he.elim|exact(let ⟨_,_,h⟩:=he;h.elim)
 | halt x w'=>cases x<;>simp only[Oper.upon]at h ⊢<;>exact h.elim
theorem Mb {P:Program} {ops:Array Oper} {N:Act→World→Prop} {cm:Nat→World→World→Prop} {Q:Exit→Act→World→Prop} (hQ:∀a w,N a w→Q .normal a w):∀(n:Nat) (Q6:Array Bool) (a:Act) (w:World),ji P ops N cm n Q6 a w→wpAny P .any ops Q n Q6 a w
 | 0,_,_,_,h=>⟨h.1,hQ _ _ h.2⟩
 | n+1,Q6,a,w,h=>⟨fun e=>hQ _ _ (h.1 e),fun i hi=>by
  have:=h.2 i hi
  unfold wpOp at this ⊢
  split
  ·rename_i ho;simp only[ho]at this;exact Mb hQ n _ _ _ this.2
  ·rename_i o ho
   simp only[ho]at this
   split
   ·rename_i hw
    simp only[hw,if_true]at this
    rcases this with h1|⟨_,_,_,h2⟩
    ·exact .inl (Qds (Oper.wp_mono (fun a' w' h'=>Mb hQ n _ _ _ h'.2) h1))
    ·exact h2.elim
   ·rename_i hw
    simp only[hw]at this
    exact Mb hQ n _ _ _ this.2⟩
def still (L:Zh) (o:Oper):Bool:=match o.op with
 | .extract ..=>true
 | .move _=>true
 | .nilCheck _=>true
 | .fieldAddr t _ f=>match Db L t f with
  | some (_,y)=>!Nat.beq y.size 0
  | none=>false
 | _=>false
theorem Qdt {P:Program} {L:Zh} (hL:Zw P L) {o:Oper} (hs:still L o=true) {ρ:Operand→Value} {w:World} {v:Value} (h:(execOp ρ o).run P w=.ok (.value v) w) (w':World):(execOp ρ o).run P w'=.ok (.value v) w':=by
 unfold still at hs
 split at hs
 ·rename_i x i ho
  simp only[execOp,ho,Instr.extract]at h ⊢
  split at h<;>first|skip|(simp at h)
  all_goals (first|(split at h<;>first|(simp at h)|skip)|skip)
  all_goals (first|(simp at h ⊢;exact h)|simp_all)
 ·rename_i x ho
  simp only[execOp,ho]at h ⊢
  simp at h ⊢
  exact h
 ·rename_i x ho
  exact((JI.nilCheck ho ρ) w _ w h).2 w'
 ·rename_i t x f ho
  split at hs
  ·rename_i off y hf
   obtain⟨g,fd,hg,yI,_,hy⟩:=Pj hL hf
   have Pm:y.size≠0:=fun e=>by rw[e]at hs;cases hs
   cases hx:ρ x with
   | pointer a=>
    cases a with
    | some a=>
     have e:∀w:World,(execOp ρ o).run P w=.ok (.value (.pointer (some (a.add fd.offset)))) w:=fun w=>by
      simp [execOp,ho,hx,Instr.fieldAt,run_underlying hg,yI,Instr.sureAddr,fieldPlace,hy.sizeOf,Pm]
     rw[e w]at h
     rw[e w']
     simp at h ⊢
     exact h
    | none=>simp [execOp,ho,hx,Instr.fieldAt,run_underlying hg,yI,Instr.sureAddr,stuck]at h
   | _=>simp [execOp,ho,hx,Instr.fieldAt,run_underlying hg,yI,Instr.sureAddr,stuck]at h
  ·cases hs
 ·cases hs
theorem Qdu {P:Program} {ops:Array Oper} {N:Act→World→Prop} {cm:Nat→World→World→Prop} {i:Nat} {oi:Oper} {v:Value} {S:World→Prop} (db:∀w,cm i w w) (hi:ops[i]? = some oi) (Dw:∀(j:Nat) (o:Oper) cs b,ops[j]? = some o→o.op≠.select cs b) :
  ∀(fuel:Nat) (Q6:Array Bool) (a:Act) (w1:World),S w1 →
   (∀j oj,ops[j]? = some oj→j≠i→Q6.getD j true=false→ku ops Q6 i j∨((∀w w',cm j w w'→S w→S w')∧oi.apart ops oj=true)) →
   i∈Region.ready .any ops Q6→YieldsIf P ops S oi v a →
   ji P ops N cm fuel (Q6.setIfInBounds i true) (a.put oi.dst v) w1→ji P ops N cm (fuel+1) Q6 a w1:=by
 intro fuel
 induction fuel with
 | zero=>
  intro Q6 a w1 Bw _ hr hy H
  refine⟨fun h=>(by rw[h]at hr;cases hr),fun j hj=>?_⟩
  by_cases zn:j=i
  ·subst zn;exact hy.wpOp hi Bw ⟨db _,H⟩
  ·have:=ready_mono hj zn
   rw[H.1]at this
   cases this
 | succ fuel ih=>
  intro Q6 a w1 Bw Dx hr hy H
  have F3:=(mem_ready.1 hr).1
  refine⟨fun h=>(by rw[h]at hr;cases hr),fun j hj=>?_⟩
  by_cases zn:j=i
  ·subst zn;exact hy.wpOp hi Bw ⟨db _,H⟩
  ·have h1:=H.2 j (ready_mono hj zn)
   obtain⟨Mc,oj,Jm,Vr⟩:=mem_ready.1 hj
   obtain⟨hcm,Xn⟩:=(Dx j oj Jm zn Mc).resolve_left fun hd=>hd.cZ F3 hj
   have h2:=wpOp_putIf Jm Xn (fun cs b=>Dw i oi cs b hi) (fun cs b=>Dw j oj cs b Jm) (fun _ _ _ h=>h) hy h1
   refine wpOp_mono (fun a' w' h3=>?_) h2
   refine⟨h3.2.1,ih (Q6.setIfInBounds j true) a' w' (hcm _ _ h3.2.1 Bw) (fun k ok hk FG dc=>?_) (ready_mono hr (Ne.symm zn)) h3.1 ?_⟩
   ·have hku:Q6.getD k true=false:=by
     by_cases Kv:j=k
     ·subst Kv;exact Mc
     ·rw[getD_set_ne true Kv]at dc;exact dc
    exact(Dx k ok hk FG hku).imp (fun hd=>hd.set F3 hj) id
   ·rw[Array.setIfInBounds_comm _ _ zn]
    exact h3.2.2
def Jy (i:Nat):List Nat→Bool
 | []=>false
 | j::r=>Nat.beq i j || Jy i r
theorem qy {i:Nat}:∀{l:List Nat},Jy i l=true↔i∈l
 | []=>by simp [Jy]
 | j::r=>by simp [Jy,qy (l:=r)]
def Md (i:Nat):List Edge→Bool
 | []=>false
 | e::r=>(Region.binds .any e&&Nat.beq e.on i) || Md i r
def Yd (done:List Nat):List Edge→Bool
 | []=>false
 | e::r=>(Region.binds .any e&&!Jy e.on done) || Yd done r
def Dy (ops:Array Oper) (done:List Nat) (i:Nat):Nat→List Edge→Bool
 | 0,_=>false
 | _+1,[]=>false
 | n+1,e::r=>(Region.binds .any e&&(Nat.beq e.on i || (!Jy e.on done&&match ops[e.on]? with
   | some o=>Dy ops done i n o.after.toList
   | none=>false))) || Dy ops done i n r
def vN (o:Oper):Bool:=match o.op with
 | .load ..=>true
 | _=>false
def vO (o:Oper):Bool:=match o.op with
 | .insert ..=>true
 | _=>false
def F4 (nc:List Nat) (L:Zh) (ops:Array Oper) (done:List Nat) (i:Nat) (oi:Oper):List (Nat × Bool × Option Oper)→Bool
 | []=>true
 | (j,_,some oj)::r=>(Md i oj.after.toList || (((calm oj&&!Jy j nc) || still L oi || (vN oi&&vO oj))&&oi.apart ops oj) || Dy ops done i (4*ops.size) oj.after.toList)&&F4 nc L ops done i oi r
 | (_,_,none)::_=>false
def Me (l:List Nat):Nat→Bool
 | 0=>true
 | n+1=>Jy n l&&Me l n
theorem de {l:List Nat}:∀{n:Nat},Me l n=true→∀j,j<n→j∈l
 | 0,_,j,h=>by omega
 | n+1,h,j,hj=>by
  simp only[Me,Bool.and_eq_true,qy]at h
  by_cases e:j=n
  ·subst e;exact h.1
  ·exact de h.2 j (by omega)
theorem df {i:Nat}:∀{l:List Edge},Md i l=true→∃e∈l,Region.binds .any e=true∧e.on=i
 | [],h=>by cases h
 | e::r,h=>by
  simp only[Md,Bool.or_eq_true,Bool.and_eq_true,Nat.beq_eq]at h
  rcases h with h|h
  ·exact⟨e,by simp,h.1,h.2⟩
  ·obtain⟨e',h1,h2⟩:=df h;exact⟨e',by simp [h1],h2⟩
theorem dh {done:List Nat}:∀{l:List Edge},Yd done l=true→∃e∈l,Region.binds .any e=true∧e.on ∉ done
 | [],h=>by cases h
 | e::r,h=>by
  simp only[Yd,Bool.or_eq_true,Bool.and_eq_true,Bool.not_eq_true']at h
  rcases h with h|h
  ·exact⟨e,by simp,h.1,fun hm=>by rw[qy.2 hm]at h;cases h.2⟩
  ·obtain⟨e',h1,h2⟩:=dh h;exact⟨e',by simp [h1],h2⟩
theorem Mf {done:List Nat}:∀{l:List Edge},Yd done l=false→∀e∈l,Region.binds .any e=true→e.on∈done
 | [],_,e,h,_=>by cases h
 | e::r,h,e',h',hb=>by
  simp only[Yd,Bool.or_eq_false_iff,Bool.and_eq_false_iff]at h
  rcases List.mem_cons.1 h' with h1|h1
  ·subst h1
   rcases h.1 with h2|h2
   ·rw[hb]at h2;cases h2
   ·exact qy.1 (by simpa using h2)
  ·exact Mf h.2 e' h1 hb
structure Marks (ops:Array Oper) (Q6:Array Bool) (done:List Nat):Prop where
 size:Q6.size=ops.size
 get:∀j,j<ops.size→(Q6.getD j true=false↔j ∉ done)
 get':∀j,Q6.getD j false=true↔j∈done∧j<ops.size
 lt:∀j,j∈done→j<ops.size
theorem Marks.set {ops:Array Oper} {Q6:Array Bool} {done:List Nat} (M:Marks ops Q6 done) {i:Nat} (hi:i<ops.size):Marks ops (Q6.setIfInBounds i true) (i::done) where
 size:=by simp [M.size]
 get:=fun j hj=>by
  by_cases e:i=j
  ·subst e;simp [M.size,hi]
  ·rw[getD_set_ne true e,M.get j hj];simp [Ne.symm e]
 get':=fun j=>by
  by_cases e:i=j
  ·subst e;simp [M.size,hi]
  ·rw[getD_set_ne false e,M.get' j];simp [Ne.symm e]
 lt:=fun j hj=>by
  rcases List.mem_cons.1 hj with e|e
  ·subst e;exact hi
  ·exact M.lt j e
def W4 (o:Oper):Bool:=match o.op with
 | .alloc _=>true
 | .makeMap _ none=>true
 | _=>false
def y5 (P:Program) (o:Oper) (ob:Ob) (mk:Nat→D):Prop:=∃(obj:Obj) (val:Nat→Value),
 (∀(ρ:Operand→Value) (w:World),(execOp ρ o).run P w=.ok (.value (val w.heap.size)) (w.alloc obj)) ∧
 (∀(Z:Nat→Prop) (h:List Ob) (pl:List Pl) (w:World) (b:Nat),w.heap[b]? = some obj→Ju Z h pl w ob b 0) ∧
 (∀(Z:Nat→Prop) (h:List Ob) (pl:List Pl) (w:World) (l b:Nat),h[l]? = some ob→pl[l]? = some (some (b,0))→Qv Z h pl w (mk l) (val b))
theorem dt {P:Program} {L:Zh} (hL:Zw P L) {o:Oper} {t:TypeId} (ho:o.op=.alloc t) {y:Ty} (hy:ty L t=some y) :
  y5 P o ⟨.one,0,(y.zero.map ZT).length,1,fun _=>y.zero.map ZT⟩ (fun l=>.ptr l 0 0 0):=by
 obtain⟨z,hz,QV⟩:=(hL _ _ hy).zeroValue
 refine⟨.cells z.cells t,fun b=>.pointer (some ⟨b,0,none⟩),fun ρ w=>?_,fun Z h pl w b hb=>?_,fun Z h pl w l b h1 h2=>?_⟩
 ·simp [execOp,ho,Instr.alloc,newVar,newRow,QV]
 ·refine .CY rfl ⟨z.cells,t,hb,by simp [← hz],fun _ _=>rfl,fun i j hi hj=>?_⟩
  have Ps:i=0:=by simp at hi;omega
  subst Ps
  have Ku:j<z.cells.size:=by rw[← hz]at hj;simpa using hj
  refine⟨QL z.cells.toList j,?_,.cl _ _ ?_⟩
  ·simp only[Nat.zero_mul,Nat.zero_add,QL,List.getD_eq_getElem?_getD]
   rw[Array.getElem?_toList,Array.getElem?_eq_getElem Ku];rfl
  ·rw[← hz]
   simp only[nth,QL,List.getD_eq_getElem?_getD,List.getElem?_map,Array.getElem?_toList,Array.getElem?_eq_getElem Ku,Option.map_some,Option.getD_some]
   exact vC _ _ _
 ·exact .ptr _ _ _ _ _ (some (b,0)) _ h1 h2 rfl (Nat.le_refl _) (fun _=>⟨_,_,rfl,by simp⟩)
theorem dw {P:Program} {o:Oper} {t:TypeId} (ho:o.op=.makeMap t none) (q:IntKind):y5 P o (QG q 0 []) (fun l=>.mref l 0):=by
 refine⟨.map #[] 0,fun b=>.map (some b),fun ρ w=>?_,fun Z h pl w b hb=>?_,fun Z h pl w l b h1 h2=>?_⟩
 ·simp [execOp,ho,Instr.makeMap]
 ·exact PM (kd:=.map) hb ⟨rfl,fun i e a h=>by simp at h,fun i j a a' _ h=>by simp at h⟩ rfl
 ·exact .mref _ _ (QG q 0 []) (some (b,0)) b h1 h2 ⟨by simp [QG,Km,Kd.ty],rfl⟩ (Nat.le_refl _) (fun _=>rfl)
section
variable (P:Program) (base nt:Nat) (w0:Start)
def xv (o : Oper) : Bool := calm o && !(o.pos == "!")
def Wi (b : Bool) (o : Oper) : Oper := ⟨o.dst, o.op, o.type, bif b then "!" else "", #[], none⟩
theorem dB {P:Program} {b:Bool} {o:Oper} {a:Act} {w:World} {K:Act→World→Prop} {Q:Exit→Act→World→Prop}:(Wi b o).wp P a w K Q=o.wp P a w K Q:=rfl
theorem Qdx (b:Bool) (o:Oper):xv (Wi b o)=(calm o&&!b):=by cases b<;>simp [xv,Wi,calm]
def Ye (o:Oper) (w w':World):Prop:=match o.op with
 | .insert ..=>XF w w'
 | _=>xv o=true→Ext w w'
theorem Ye.ext {o:Oper} {w w':World} (h:Ext w w'):Ye o w w':=by
 unfold Ye
 split
 ·exact .ext h
 ·exact fun _=>h
theorem Ye.calm {o:Oper} {w w':World} (h:Ye o w w') (hc:xv o=true):Ext w w':=by
 unfold Ye at h
 split at h
 ·rename_i ho;simp [xv,Go.Fg.calm,ho]at hc
 ·exact h hc
theorem Ye.ins {o:Oper} {w w':World} (h:Ye o w w') (hc:vO o=true):XF w w':=by
 unfold vO at hc
 split at hc
 ·rename_i ho;unfold Ye at h;rw[ho]at h;exact h
 ·cases hc
theorem Ye.mk {o:Oper} {w w':World} (h:xv o=true→Ext w w') (hi:vO o=false):Ye o w w':=by
 unfold Ye
 split
 ·rename_i ho;simp [vO,ho]at hi
 ·exact h
def qz (nc:List Nat) (ops:Array Oper) (i:Nat) (w w':World):Prop:=match ops[i]? with
 | some o=>Ye (Wi (Jy i nc) o) w w'
 | none=>True
theorem Bx {nc:List Nat} {ops:Array Oper} {i:Nat} {o:Oper} {w w':World} (ho:ops[i]? = some o):qz nc ops i w w'=Ye (Wi (Jy i nc) o) w w':=by simp only[qz,ho]
def AE (o:Oper) (F:St→Prop) (s:St):Prop:=∀(Z:Nat→Prop),FR w0 Z→∀pl a w,Rel Z base nt s pl a w→JB Z base w0 s.h pl w →
 o.wp P a w (fun a' w'=>Ye o w w'∧∃d h' Qi v,F ⟨Ze s.fr o.dst d,h'⟩∧Rel Z base nt ⟨Ze s.fr o.dst d,h'⟩ Qi a' w'∧JB Z base w0 h' Qi w'∧Tr s.h pl w h' Qi w'∧a'=a.put o.dst v) (fun _ _ _=>False)
def K8 (pu:Bool) (o:Oper) (F:St→Prop) (s:St):Prop:=match pu with
 | true=>∃d,Kt P base nt o s d∧(vN o=true→IX P base nt o s d)∧Zo nt o.dst=true∧F ⟨Ze s.fr o.dst d,s.h⟩
 | false=>match W4 o with
  | true=>∃ob mk,y5 P o ob mk∧Zo nt o.dst=true∧F ⟨Ze s.fr o.dst (mk s.h.length),s.h++[ob]⟩
  | false=>AE P base nt w0 o F s
def AX (K:St→Prop):List (Bool × Oper × G)→St→Prop
 | [],s=>K s
 | (pu,o,g)::r,s=>match g with
  | none=>K8 P base nt w0 pu o (AX K r) s
  | some (none,_)=>Zo nt o.dst=true∧AX K r ⟨Ze s.fr o.dst (.raw Go.undef),s.h⟩
  | some (some t,b)=>match get s.fr t with
   | .raw (.bool x)=>(x=b→K8 P base nt w0 pu o (AX K r) ⟨put s.fr t (.raw (.bool b)),s.h⟩) ∧
     (x=(!b)→Zo nt o.dst=true∧AX K r ⟨Ze (put s.fr t (.raw (.bool (!b)))) o.dst (.raw Go.undef),s.h⟩)
   | .raw (.tuple _)=>Zo nt o.dst=true∧AX K r ⟨Ze s.fr o.dst (.raw Go.undef),s.h⟩
   | _=>False
end
def JW (nc:List Nat) (ops:Array Oper) (l:List (Nat × Bool)):List (Bool × Oper × G):=l.map fun ip=>match ops[ip.1]? with
 | some o=>(ip.2,Wi (Jy ip.1 nc) o,guardOf ops o)
 | none => (ip.2, ⟨none, .move (.tmp 0), 0, "", #[], none⟩, none)
section
variable {nc:List Nat} {P:Program} {base nt:Nat} {w0:Start}
theorem Qdy {o:Oper} {ob:Ob} {mk:Nat→D} {F:St→Prop} {s:St} (h:y5 P o ob mk) (ht:Zo nt o.dst=true) (QJ:base≤w0.w.heap.size) (hF:F ⟨Ze s.fr o.dst (mk s.h.length),s.h++[ob]⟩):AE P base nt w0 o F s:=by
 intro Z z pl a w r b
 obtain⟨obj,val,h1,h2,h3⟩:=h
 have e:∀k,k<w.heap.size→(w.alloc obj).heap[k]? = w.heap[k]? := fun k hk=>qs w obj k hk
 have ZX:(w.alloc obj).heap[w.heap.size]? = some obj:=heap_alloc_new w obj
 have W3:base≤w.heap.size:=Nat.le_trans QJ b.1.size
 have T:Tr s.h pl w (s.h++[ob]) (pl++[some (w.heap.size,0)]) (w.alloc obj):=Tr.push r.o e _ _ (by intro k q hh;simp at hh;omega)
 have R':=QW.Fz r.o e ob (Nat.le_refl _) W3 (h2 Z (s.h++[ob]) (pl++[some (w.heap.size,0)]) _ _ ZX)
 have hv:Qv Z (s.h++[ob]) (pl++[some (w.heap.size,0)]) (w.alloc obj) (mk s.h.length) (val w.heap.size):=h3 Z _ _ _ _ _ (by simp) (by rw[← r.o.len];simp)
 unfold Oper.wp
 rw[h1 a.eval w]
 simp only[Oper.upon_value]
 refine⟨Ye.ext fun k hk=>e k hk,_,_,_,_,hF,?_,b.step T (wZ W3 obj),T,rfl⟩
 cases hd:o.dst with
 | none=>exact r.zY T R' _
 | some t=>rw[hd]at ht;exact r.to T R' (YN ht) hv
theorem K8.ae (QJ:base≤w0.w.heap.size) {o:Oper} {F:St→Prop} {s:St} (h:K8 P base nt w0 false o F s):AE P base nt w0 o F s:=by
 simp only[K8]at h
 split at h
 ·obtain⟨ob,mk,h1,h2,h3⟩:=h;exact Qdy h1 h2 QJ h3
 ·exact h
theorem Qv.Dz {Z Z':Nat→Prop} {h h':List Ob} {pl Qi:List Pl} {w w':World} (hf:∀b,free Z pl b→b<w.heap.size→free Z' Qi b∧w'.heap[b]? = w.heap[b]?)
  (vP:∀(l:Nat) (o:Ob) (p:Pl),h[l]? = some o→pl[l]? = some p→h'[l]? = some o∧Qi[l]? = some p) (hb:∀(l b q:Nat),pl[l]? = some (some (b,q))→w'.heap[b]? = w.heap[b]?) {d:D} {v:Value} (r:Qv Z h pl w d v):Qv Z' h' Qi w' d v:=by
 induction r with
 | cl d v hc=>exact .cl d v (hc.mono hf)
 | ref l g off len o p a cap ho hp hk hg hs=>
  refine .ref l g off len o p a cap (vP l o p ho hp).1 (vP l o p ho hp).2 hk hg fun jV=>?_
  rcases hs jV with h1|⟨b,q,c,el,Kl,ha,Jt,hc,hl⟩
  ·exact .inl h1
  ·exact .inr ⟨b,q,c,el,Kl,ha,by rw[hb l b q (by rw[hp,Kl])];exact Jt,hc,hl⟩
 | ptr l g i j o p a ho hp hk hg hs=>exact .ptr l g i j o p a (vP l o p ho hp).1 (vP l o p ho hp).2 hk hg hs
 | mref l g o p b ho hp hk hg hs=>exact .mref l g o p b (vP l o p ho hp).1 (vP l o p ho hp).2 hk hg hs
 | clo f nf cs vs hl hr ih=>exact .clo f nf cs vs hl ih
 | agg cs vs hl hr ih=>exact .agg cs vs hl ih
 | tup cs vs hl hr ih=>exact .tup cs vs hl ih
theorem QW.Dz {Z Z':Nat→Prop} {h:List Ob} {pl:List Pl} {w w':World} (R:QW Z base h pl w) (hf:∀b,free Z pl b→b<w.heap.size→free Z' pl b∧w'.heap[b]? = w.heap[b]?) (e:∀b,b<w.heap.size→w'.heap[b]? = w.heap[b]?):QW Z' base h pl w' where
 len:=R.len
 inj:=R.inj
 J2:=R.J2
 at_:=fun l o b q ho hp=>by
  obtain⟨h1,x⟩:=R.at_ l o b q ho hp
  exact⟨h1,x.to rfl rfl rfl (e b (R.lt hp).1) (fun _ _=>rfl) fun i j v _ _ hr=>hr.Dz hf (fun _ _ _ a b=>⟨a,b⟩) (fun l b q hp=>e b (R.lt hp).1)⟩
theorem QW.P1 {Z Z':Nat→Prop} {h:List Ob} {pl:List Pl} {w:World} (R:QW Z base h pl w) {b:Nat} (hf:∀c,free Z pl c→free Z' (pl++[some (b,0)]) c) (ha:Vh pl b) (QJ:base≤b) {ob:Ob}
  (hx:Ju Z' (h++[ob]) (pl++[some (b,0)]) w ob b 0):QW Z' base (h++[ob]) (pl++[some (b,0)]) w:=by
 refine⟨by simp [R.len],?_,?_,?_⟩
 ·intro l l' b' q q' e1 e2
  rcases VT e1 with h1|⟨h1,ZB⟩<;>rcases VT e2 with h2|⟨h2,WV⟩
  ·exact R.inj l l' b' q q' h1 h2
  ·simp at WV;obtain⟨rfl,rfl⟩:=WV;exact absurd h1 (ha l q)
  ·simp at ZB;obtain⟨rfl,rfl⟩:=ZB;exact absurd h2 (ha l' q')
  ·omega
 ·intro l o ho e1
  rcases VT e1 with h1|⟨h1,ZB⟩
  ·rcases VT ho with h2|⟨h2,WV⟩
   ·exact R.J2 l o h2 h1
   ·have:=KN h1;have:=R.len;omega
  ·simp at ZB
 ·intro l o b' q ho Q4
  rcases VT Q4 with h1|⟨h1,ZB⟩
  ·rcases VT ho with h2|⟨h2,WV⟩
   ·obtain⟨g1,x⟩:=R.at_ l o b' q h2 h1
    exact⟨g1,x.to rfl rfl rfl rfl (fun _ _=>rfl) fun i j v _ _ hr=>hr.Dz (fun c hc _=>⟨hf c hc,rfl⟩) (fun _ _ _ a b=>⟨jW a,jW b⟩) (fun _ _ _ _=>rfl)⟩
   ·have:=KN h1;have:=R.len;omega
  ·rcases VT ho with h2|⟨h2,WV⟩
   ·have:=Jv h2;have:=R.len;omega
   ·subst WV
    simp at ZB
    obtain⟨rfl,rfl⟩:=ZB
    exact⟨fun _=>QJ,hx⟩
def Kw (ops:Array Oper) (i:Nat):Bool:=match ops[i]? with
 | some o=>W4 o&&o.guard.isNone&&o.after.toList.isEmpty
 | none=>false
def DB (ops:Array Oper) (done:List Nat) (i:Nat):List Edge→Bool
 | []=>false
 | e::r=>(Region.binds .any e&&!Jy e.on done&&(!Kw ops e.on || Nat.beq e.on i)) || DB ops done i r
def F5 (ops:Array Oper) (done:List Nat) (i:Nat):List (Nat × Bool × Option Oper)→Bool
 | []=>true
 | (j,_,some oj)::r=>(Kw ops j || DB ops done i oj.after.toList)&&F5 ops done i r
 | (_,_,none)::_=>false
def By (ops:Array Oper) (R:List Nat):List (Nat × Bool × Option Oper):=R.map fun i=>(i,false,ops[i]?)
def xw (nc:List Nat) (L:Zh) (ops:Array Oper) (R:List Nat):List (Nat × Bool × Option Oper)→List Nat→Bool
 | [],_=>true
 | (i,p,some o)::r,done=>!Jy i done&&!Yd done o.after.toList&&(match p with
  | true=>!Kw ops i&&F4 nc L ops done i o (r++By ops R)
  | false=>F5 ops done i (r++By ops R))&&xw nc L ops R r (i::done)
 | (_,_,none)::_,_=>false
theorem dC {ops:Array Oper} {done:List Nat} {i:Nat}:∀{l:List Edge},DB ops done i l=true→∃e∈l,Region.binds .any e=true∧e.on ∉ done∧(Kw ops e.on=false∨e.on=i)
 | [],h=>by cases h
 | e::r,h=>by
  simp only[DB,Bool.or_eq_true,Bool.and_eq_true,Bool.not_eq_true',Nat.beq_eq]at h
  rcases h with h|h
  ·exact⟨e,by simp,h.1.1,(fun hm=>by rw[qy.2 hm]at h;exact absurd h.1.2 (by simp)),h.2⟩
  ·obtain⟨e',h1,h2⟩:=dC h;exact⟨e',by simp [h1],h2⟩
theorem dD {ops:Array Oper} {done:List Nat} {i:Nat}:∀{r:List (Nat × Bool × Option Oper)},(∀x∈r,x.2.2=ops[x.1]?)→F5 ops done i r=true→∀x∈r,∀oj,ops[x.1]? = some oj→Kw ops x.1=true∨DB ops done i oj.after.toList=true
 | [],_,_,x,hx,_,_=>by cases hx
 | (j,p,none)::r,_,h,_,_,_,_=>by cases h
 | (j,p,some o)::r,hr,h,x,hx,oj,Jm=>by
  simp only[F5,Bool.and_eq_true,Bool.or_eq_true]at h
  rcases List.mem_cons.1 hx with h1|h1
  ·subst h1
   have e:some o=ops[j]? := hr (j,p,some o) (by simp)
   have Jm:ops[j]? = some oj:=Jm
   rw[Jm]at e;cases e
   exact h.1
  ·exact dD (fun y hy=>hr y (by simp [hy])) h.2 x h1 oj Jm
abbrev En:=Nat × Bool × Option Nat
def Vk (l:List En):List Nat:=l.map (·.1)
def VZ (l:List En):List (Nat × Bool):=l.map fun x=>(x.1,x.2.1)
def early:List En→List Nat
 | []=>[]
 | (i,_,some _)::r=>i::early r
 | (_,_,none)::r=>early r
def blocks:List En→List Nat
 | []=>[]
 | (_,_,some b)::r=>b::blocks r
 | (_,_,none)::r=>blocks r
def V0:List En→Nat
 | []=>0
 | (_,_,some _)::r=>V0 r
 | (_,_,none)::r=>V0 r+1
theorem Bz {j:Nat}:∀{l:List En},j∈early l↔∃p b,(j,p,some b)∈l
 | []=>by simp [early]
 | (i,p,some b)::r=>by
  simp only[early,List.mem_cons,Bz (l:=r),Prod.mk.injEq,Option.some.injEq]
  constructor
  ·rintro (rfl|⟨p',b',h⟩)
   ·exact⟨p,b,.inl ⟨rfl,rfl,rfl⟩⟩
   ·exact⟨p',b',.inr h⟩
  ·rintro⟨p',b',⟨rfl,_⟩|h⟩
   ·exact .inl rfl
   ·exact .inr ⟨p',b',h⟩
 | (i,p,none)::r=>by
  simp only[early,List.mem_cons,Bz (l:=r),Prod.mk.injEq,reduceCtorEq,and_false,false_or]
theorem xy {c:Nat}:∀{l:List En},c∈blocks l↔∃j p,(j,p,some c)∈l
 | []=>by simp [blocks]
 | (i,p,some b)::r=>by
  simp only[blocks,List.mem_cons,xy (l:=r),Prod.mk.injEq,Option.some.injEq]
  constructor
  ·rintro (rfl|⟨p',b',h⟩)
   ·exact⟨i,p,.inl ⟨rfl,rfl,rfl⟩⟩
   ·exact⟨p',b',.inr h⟩
  ·rintro⟨p',b',⟨_,_,rfl⟩|h⟩
   ·exact .inl rfl
   ·exact .inr ⟨p',b',h⟩
 | (i,p,none)::r=>by
  simp only[blocks,List.mem_cons,xy (l:=r),Prod.mk.injEq,reduceCtorEq,and_false,false_or]
theorem P2 {j:Nat} {p:Bool} {b:Nat} {l2:List En}:∀l1:List En,V0 (l1++(j,p,none)::l2)=V0 (l1++(j,p,some b)::l2)+1
 | []=>rfl
 | (_,_,some _)::r=>P2 r
 | (_,_,none)::r=>by
  simp only[List.cons_append,V0]
  rw[P2 (b:=b) r]
theorem P3 {j:Nat} {p:Bool} {b:Nat} {l2:List En}:∀l1:List En,b ∉ blocks (l1++(j,p,none)::l2)→(blocks (l1++(j,p,none)::l2)).Nodup→(blocks (l1++(j,p,some b)::l2)).Nodup
 | [],h,k=>by simp only[List.nil_append,blocks]at h k ⊢;exact List.nodup_cons.2 ⟨h,k⟩
 | (i,q,some c)::r,h,k=>by
  simp only[List.cons_append,blocks,List.mem_cons,not_or]at h k ⊢
  obtain⟨k1,k2⟩:=List.nodup_cons.1 k
  refine List.nodup_cons.2 ⟨fun hm=>?_,P3 r h.2 k2⟩
  obtain⟨j',p',hj⟩:=xy.1 hm
  rcases List.mem_append.1 hj with h1|h1
  ·exact k1 (xy.2 ⟨j',p',List.mem_append.2 (.inl h1)⟩)
  ·rcases List.mem_cons.1 h1 with h2|h2
   ·cases h2;exact h.1 rfl
   ·exact k1 (xy.2 ⟨j',p',List.mem_append.2 (.inr (List.mem_cons.2 (.inr h2)))⟩)
 | (i,q,none)::r,h,k=>by
  simp only[List.cons_append,blocks]at h k ⊢
  exact P3 r h k
structure Mg (P:Program) (ops:Array Oper) (nt:Nat) (w0:Start) (pl:List Pl) (a:Act) (w:World) (i b:Nat):Prop where
 run:∃(o:Oper) (d:Nat) (w1:World) (ρ:Operand→Value) (v:Value) (obj:Obj),ops[i]? = some o∧o.dst=some d∧(execOp ρ o).run P w1=.ok (.value v) (w1.alloc obj)∧b=w1.heap.size∧w.heap[b]? = some obj∧(d<nt→a.tmps.getD d Go.undef=v)
 Vh:Vh pl b
 low:w0.w.heap.size≤b
theorem dF {a:Act} {t:Option Nat} {d:Nat} {v:Value} (h:t≠some d):(a.put t v).tmps.getD d Go.undef=a.tmps.getD d Go.undef:=by
 cases t with
 | none=>rfl
 | some t=>
  have:t≠d:=fun e=>h (by rw[e])
  simp [Act.put,Array.getD_eq_getD_getElem?,Array.getElem?_setIfInBounds_ne this]
theorem Mg.step {P:Program} {ops:Array Oper} {nt:Nat} {w0:Start} {h h':List Ob} {pl Qi:List Pl} {a:Act} {w w':World} {i b:Nat} (p:Mg P ops nt w0 pl a w i b) (T:Tr h pl w h' Qi w') {t:Option Nat} (v:Value)
  (hd:∀o d,ops[i]? = some o→o.dst=some d→t≠some d):Mg P ops nt w0 Qi (a.put t v) w' i b:=by
 obtain⟨o,d,w1,ρ,u,obj,h1,h2,h3,h4,h5,h6⟩:=p.run
 obtain⟨k1,k2⟩:=T.JP b p.Vh (q9 h5)
 exact⟨⟨o,d,w1,ρ,u,obj,h1,h2,h3,h4,by rw[k2];exact h5,fun hn=>by rw[dF (hd o d h1 h2)];exact h6 hn⟩,k1,p.low⟩
theorem Mh {fr:List (Nat × D)} {t:Option Nat} {u:Nat} {d:D} (h:t≠some u):get (Ze fr t d) u=get fr u:=by
 cases t with
 | none=>rfl
 | some t=>rw[Ze,yB,if_neg (fun e=>h (by rw[e]))]
structure zo (nc:List Nat) (P:Program) (L:Zh) (ops:Array Oper) (R:List Nat) (base nt:Nat) (w0:Start) (Z0 Z:Nat→Prop) (l:List En) (done:List Nat) (Q6:Array Bool) (s:St) (pl:List Pl) (a:Act) (w:World):Prop where
 sched:xw nc L ops R ((VZ l).map fun ip=>(ip.1,ip.2,ops[ip.1]?)) done=true
 cover:∀j,j<ops.size→j ∉ done→j∈Vk l∨j∈R
 DC:∀j∈R,j ∉ done∧j ∉ Vk l∧Kw ops j=false
 marks:Marks ops Q6 (early l++done)
 late:∀i p b,(i,p,some b)∈l→Kw ops i=true
 lp:∀i p q,(i,p,q)∈l→Kw ops i=true→p=false
 z:∀b,Z b↔Z0 b∧b ∉ blocks l
 z0:∀i p b,(i,p,some b)∈l→Z0 b
 Mi:(blocks l).Nodup
 F6:∀i p q,(i,p,q)∈l→Kw ops i=true→∀o d,ops[i]? = some o→o.dst=some d→get s.fr d=.undef
 rel:Rel Z base nt s pl a w
 since:JB Z base w0 s.h pl w
 BA:∀i p b,(i,p,some b)∈l→Mg P ops nt w0 pl a w i b
theorem Mj {L:Zh} {ops:Array Oper} {R:List Nat}:∀{l:List En} {done:List Nat},xw nc L ops R ((VZ l).map fun ip=>(ip.1,ip.2,ops[ip.1]?)) done=true→∀j,j∈Vk l→j ∉ done
 | [],_,_,j,hj=>by simp [Vk]at hj
 | (i,p,q)::r,done,h,j,hj=>by
  simp only[VZ,List.map_cons]at h
  cases ho:ops[i]? with
  | none=>rw[ho]at h;cases h
  | some o=>
   rw[ho]at h
   simp only[xw,Bool.and_eq_true,Bool.not_eq_true']at h
   simp only[Vk,List.map_cons,List.mem_cons]at hj
   rcases hj with rfl|hj
   ·exact fun hm=>by rw[qy.2 hm]at h;exact absurd h.1.1.1 (by simp)
   ·exact fun hm=>Mj (l:=r) h.2 j hj (List.mem_cons.2 (.inr hm))
theorem Marks.same {ops:Array Oper} {Q6:Array Bool} {d d':List Nat} (M:Marks ops Q6 d) (h:∀j,j∈d↔j∈d'):Marks ops Q6 d' where
 size:=M.size
 get:=fun j hj=>by rw[M.get j hj,h]
 get':=fun j=>by rw[M.get',h]
 lt:=fun j hj=>M.lt j ((h j).2 hj)
theorem Ml {ops:Array Oper} {i:Nat} {o:Oper} (ho:ops[i]? = some o) (h:Kw ops i=true):W4 o=true∧o.guard=none∧∀e,e ∉ o.after:=by
 simp only[Kw,ho,Bool.and_eq_true,Option.isNone_iff_eq_none,List.isEmpty_iff]at h
 exact⟨h.1.1,h.1.2,fun e he=>by have:e∈o.after.toList:=(by simpa using he);rw [h.2] at this; cases this⟩
theorem P4 {ops:Array Oper} {Q6:Array Bool} {done ea:List Nat} (M:Marks ops Q6 (ea++done)) (xz:∀j∈ea,Kw ops j=true) {i:Nat}:∀{n:Nat} {j:Nat} {oj:Oper} {l:List Edge},ops[j]? = some oj→(∀e∈l,e∈oj.after)→Dy ops done i n l=true→ku ops Q6 i j
 | 0,_,_,_,_,_,h=>by cases h
 | n+1,_,_,[],_,_,h=>by cases h
 | n+1,j,oj,e::r,hj,hl,h=>by
  simp only[Dy,Bool.or_eq_true,Bool.and_eq_true,Nat.beq_eq,Bool.not_eq_true']at h
  rcases h with ⟨hb,h1|⟨h1,h2⟩⟩|h
  ·exact .F2 j oj e hj (hl e (by simp)) hb h1
  ·split at h2
   ·rename_i o ho
    have Qd:=(Array.getElem?_eq_some_iff.1 ho).1
    refine .step j oj e hj (hl e (by simp)) hb ((M.get e.on Qd).2 fun hm=>?_) (P4 M xz ho (fun e he=>by simpa using he) h2)
    rcases List.mem_append.1 hm with h3|h3
    ·have h4:=(Ml ho (xz _ h3)).2.2
     have:o.after.toList=[]:=List.eq_nil_iff_forall_not_mem.2 fun e he=>h4 e (by simpa using he)
     rw[this]at h2
     cases n<;>simp [Dy]at h2
    ·rw[qy.2 h3]at h1;cases h1
   ·cases h2
  ·exact P4 M xz hj (fun e he=>hl e (by simp [he])) h
theorem dG {L:Zh} {ops:Array Oper} {done ea:List Nat} {i:Nat} {oi:Oper} {Q6:Array Bool} (M:Marks ops Q6 (ea++done)) (xz:∀j∈ea,Kw ops j=true):∀{r:List (Nat × Bool × Option Oper)},(∀x∈r,x.2.2=ops[x.1]?)→F4 nc L ops done i oi r=true→∀x∈r,∀oj,ops[x.1]? = some oj→ku ops Q6 i x.1∨((((calm oj=true∧Jy x.1 nc=false)∨still L oi=true)∨(vN oi=true∧vO oj=true))∧oi.apart ops oj=true)
 | [],_,_,x,hx,_,_=>by cases hx
 | (j,p,none)::r,_,h,_,_,_,_=>by cases h
 | (j,p,some o)::r,hr,h,x,hx,oj,Jm=>by
  simp only[F4,Bool.and_eq_true,Bool.or_eq_true]at h
  rcases List.mem_cons.1 hx with h1|h1
  ·subst h1
   have e:some o=ops[j]? := hr (j,p,some o) (by simp)
   have Jm:ops[j]? = some oj:=Jm
   rw[Jm]at e
   cases e
   rcases h.1 with (h2|h2)|h2
   ·obtain⟨e,he,hb,zq⟩:=df h2
    exact .inl (.F2 j _ e Jm (by simpa using he) hb zq)
   ·simp only[Bool.not_eq_true']at h2;exact .inr h2
   ·exact .inl (P4 M xz Jm (fun e he=>by simpa using he) h2)
  ·exact dG M xz (fun y hy=>hr y (by simp [hy])) h.2 x h1 oj Jm
def F7 (ops:Array Oper):Prop:=∀(i j:Nat) (oi oj:Oper) (d:Nat),i≠j→Kw ops i=true→ops[i]? = some oi→ops[j]? = some oj→oi.dst=some d→oj.dst≠some d
theorem zo.head {L:Zh} {ops:Array Oper} {R:List Nat} {Z0 Z:Nat→Prop} {i:Nat} {p:Bool} {q:Option Nat} {r:List En} {done:List Nat} {Q6:Array Bool} {s:St} {pl:List Pl} {a:Act} {w:World} (I:zo nc P L ops R base nt w0 Z0 Z ((i,p,q)::r) done Q6 s pl a w) :
  ∃o,ops[i]? = some o∧i ∉ done∧(∀e∈o.after,Region.binds .any e=true→e.on∈done) ∧
   (p=true→Kw ops i=false∧F4 nc L ops done i o ((VZ r).map (fun ip=>(ip.1,ip.2,ops[ip.1]?))++By ops R)=true)∧(p=false→F5 ops done i ((VZ r).map (fun ip=>(ip.1,ip.2,ops[ip.1]?))++By ops R)=true) ∧
   xw nc L ops R ((VZ r).map fun ip=>(ip.1,ip.2,ops[ip.1]?)) (i::done)=true:=by
 have h:=I.sched
 simp only[VZ,List.map_cons]at h
 cases ho:ops[i]? with
 | none=>rw[ho]at h;cases h
 | some o=>
  rw[ho]at h
  simp only[xw,Bool.and_eq_true,Bool.not_eq_true']at h
  refine⟨o,rfl,fun hm=>by rw[qy.2 hm]at h;exact absurd h.1.1.1 (by simp),fun e he hb=>Mf h.1.1.2 e (by simpa using he) hb,fun hp=>?_,fun hp=>?_,h.2⟩
  ·subst hp;have:=h.1.2;simp only[Bool.and_eq_true,Bool.not_eq_true']at this;exact this
  ·subst hp;exact h.1.2
theorem P5 {i:Nat} {p:Bool} {q:Option Nat} {l:List En} (h:(i,p,q)∈l):i∈Vk l:=List.mem_map.2 ⟨_,h,rfl⟩
theorem zo.next {L:Zh} {ops:Array Oper} {R:List Nat} (hD:F7 ops) {Z0 Z:Nat→Prop} {i:Nat} {p:Bool} {r:List En} {done:List Nat} {Q6:Array Bool} {s s':St} {pl Qi:List Pl} {a:Act} {w w':World} (I:zo nc P L ops R base nt w0 Z0 Z ((i,p,none)::r) done Q6 s pl a w)
  {o:Oper} (ho:ops[i]? = some o) (v:Value) (T:Tr s.h pl w s'.h Qi w') (hr:Rel Z base nt s' Qi (a.put o.dst v) w') (hs:JB Z base w0 s'.h Qi w') (hu:∀d,o.dst≠some d→get s.fr d=.undef→get s'.fr d=.undef) :
  zo nc P L ops R base nt w0 Z0 Z r (i::done) (Q6.setIfInBounds i true) s' Qi (a.put o.dst v) w':=by
 obtain⟨o',Zg,h1,h2,h3,h4,h5⟩:=I.head
 rw[ho]at Zg;cases Zg
 have Qd:=(Array.getElem?_eq_some_iff.1 ho).1
 have QD:∀j p q,(j,p,q)∈r→j≠i:=fun j p q hj e=>Mj h5 j (P5 hj) (by rw[e];simp)
 have Mm:∀j p q,(j,p,q)∈r→Kw ops j=true→∀oj d,ops[j]? = some oj→oj.dst=some d→o.dst≠some d:=fun j p q hj hl oj d Jm hd=>hD j i oj o d (QD j p q hj) hl Jm ho hd
 refine⟨h5,fun j hj hd=>?_,fun j hj=>?_,(I.marks.set Qd).same fun j=>?_,fun j p b hj=>I.late j p b (List.mem_cons_of_mem _ hj),fun j p q hj=>I.lp j p q (List.mem_cons_of_mem _ hj),I.z,fun j p b hj=>I.z0 j p b (List.mem_cons_of_mem _ hj),I.Mi,fun j p q hj hl oj d Jm hd=>?_,hr,hs,fun j p b hj=>?_⟩
 ·simp only[List.mem_cons,not_or]at hd
  have:=I.cover j hj hd.2
  simp only[Vk,List.map_cons,List.mem_cons]at this
  rcases this with (h|h)|h
  ·exact absurd h hd.1
  ·exact .inl h
  ·exact .inr h
 ·obtain⟨k1,k2,k3⟩:=I.DC j hj
  simp only[Vk,List.map_cons,List.mem_cons,not_or]at k2
  exact⟨fun h=>by
   rcases List.mem_cons.1 h with h|h
   ·exact k2.1 h
   ·exact k1 h,k2.2,k3⟩
 ·simp only[early,List.mem_cons,List.mem_append]
  constructor
  ·rintro (h|h|h)
   ·exact .inr (.inl h)
   ·exact .inl h
   ·exact .inr (.inr h)
  ·rintro (h|h|h)
   ·exact .inr (.inl h)
   ·exact .inl h
   ·exact .inr (.inr h)
 ·exact hu d (Mm j p q hj hl oj d Jm hd) (I.F6 j p q (List.mem_cons_of_mem _ hj) hl oj d Jm hd)
 ·exact(I.BA j p b (List.mem_cons_of_mem _ hj)).step T v fun oj d Jm hd=>Mm j p _ hj (I.late j p b (List.mem_cons_of_mem _ hj)) oj d Jm hd
theorem Tr.snoc {h h':List Ob} {pl Qi:List Pl} {w w':World} (T:Tr h pl w h' Qi w') {b q:Nat} (hb:w.heap.size≤b) (ob:Ob):Tr h pl w (h'++[ob]) (Qi++[some (b,q)]) w' where
 JP:=fun c hc Qd=>⟨Fy (T.JP c hc Qd).1 fun q e=>by simp at e;omega,(T.JP c hc Qd).2⟩
 obj:=fun l o p ho hp=>by
  obtain⟨o',p',h1,h2,h3⟩:=T.obj l o p ho hp
  exact⟨o',p',jW h1,jW h2,h3⟩
 shape:=fun l o o' b q ho Zg hg hp c el hc=>by
  obtain⟨o1,p1,h1,h2,h3⟩:=T.obj l o _ ho hp
  rw[jW h1]at Zg;cases Zg
  exact T.shape l o _ b q ho h1 hg hp c el hc
theorem zo.P1 {L:Zh} {ops:Array Oper} {R:List Nat} (hD:F7 ops) (QJ:base≤w0.w.heap.size) {Z0 Z:Nat→Prop} {i b:Nat} {p:Bool} {r:List En} {done:List Nat} {Q6:Array Bool} {s:St} {pl:List Pl} {a:Act} {w:World} (I:zo nc P L ops R base nt w0 Z0 Z ((i,p,some b)::r) done Q6 s pl a w)
  {o:Oper} (ho:ops[i]? = some o) {ob:Ob} {mk:Nat→D} (hL:y5 P o ob mk) (ht:Zo nt o.dst=true) :
  ∃Z',zo nc P L ops R base nt w0 Z0 Z' r (i::done) Q6 ⟨Ze s.fr o.dst (mk s.h.length),s.h++[ob]⟩ (pl++[some (b,0)]) a w:=by
 obtain⟨o',Zg,h1,h2,h3,h4,h5⟩:=I.head
 rw[ho]at Zg;cases Zg
 have QD:∀j p q,(j,p,q)∈r→j≠i:=fun j p q hj e=>Mj h5 j (P5 hj) (by rw[e];simp)
 have DD:=I.late i p b (List.mem_cons_self ..)
 have Mm:∀j p q,(j,p,q)∈r→Kw ops j=true→∀oj d,ops[j]? = some oj→oj.dst=some d→o.dst≠some d:=fun j p q hj hl oj d Jm hd=>hD j i oj o d (QD j p q hj) hl Jm ho hd
 obtain⟨o1,d,w1,ρ,v,obj,g1,g2,g3,g4,g5,g6⟩:=(I.BA i p b (List.mem_cons_self ..)).run
 rw[ho]at g1;cases g1
 have F8:=(I.BA i p b (List.mem_cons_self ..)).Vh
 have DE:=(I.BA i p b (List.mem_cons_self ..)).low
 obtain⟨dH,val,k1,k2,k3⟩:=hL
 have ke:=k1 ρ w1
 rw[g3]at ke
 simp only[Result.ok.injEq,Next.value.injEq]at ke
 obtain⟨rfl,ke2⟩:=ke
 have vP:obj=dH:=by
  have e1:=heap_alloc_new w1 obj
  have e2:=heap_alloc_new w1 dH
  rw[ke2,e2]at e1
  exact(Option.some.inj e1).symm
 subst vP
 have hdn:d<nt:=by rw[g2]at ht;exact YN ht
 have hz:∀c,Z c↔Z0 c∧c≠b∧c ∉ blocks r:=fun c=>by rw[I.z c];simp only[blocks,List.mem_cons,not_or]
 have Vs:b ∉ blocks r:=by have:=I.Mi;simp only[blocks]at this;exact(List.nodup_cons.1 this).1
 have QdB:Z0 b:=I.z0 i p b (List.mem_cons_self ..)
 have Wh:∀c,free Z pl c→free (fun c=>Z0 c∧c ∉ blocks r) (pl++[some (b,0)]) c:=fun c hc=>⟨⟨((hz c).1 hc.1).1,((hz c).1 hc.1).2.2⟩,Fy hc.2 fun q e=>by simp at e;exact((hz c).1 hc.1).2.1 e.1.symm⟩
 have hlen:pl.length=s.h.length:=I.rel.o.len
 have hx:=k2 (fun c=>Z0 c∧c ∉ blocks r) (s.h++[ob]) (pl++[some (b,0)]) w b g5
 have hO:=I.rel.o.P1 Wh F8 (Nat.le_trans QJ DE) hx
 have hv:=k3 (fun c=>Z0 c∧c ∉ blocks r) (s.h++[ob]) (pl++[some (b,0)]) w s.h.length b (by simp) (by rw[← hlen];simp)
 have qA:∀{d v},Qv Z s.h pl w d v→Qv (fun c=>Z0 c∧c ∉ blocks r) (s.h++[ob]) (pl++[some (b,0)]) w d v:=fun hr=>hr.Dz (fun c hc _=>⟨Wh c hc,rfl⟩) (fun _ _ _ a b=>⟨jW a,jW b⟩) (fun _ _ _ _=>rfl)
 refine⟨fun c=>Z0 c∧c ∉ blocks r,h5,fun j hj hd=>?_,fun j hj=>?_,I.marks.same fun j=>?_,fun j p b hj=>I.late j p b (List.mem_cons_of_mem _ hj),fun j p q hj=>I.lp j p q (List.mem_cons_of_mem _ hj),fun c=>Iff.rfl,fun j p b hj=>I.z0 j p b (List.mem_cons_of_mem _ hj),?_,fun j p q hj hl oj d Jm hd=>?_,⟨I.rel.nt,I.rel.defers,fun t=>?_,hO⟩,⟨I.since.1,?_,⟨fun c hc=>?_,fun l c q e h0=>?_⟩⟩,fun j p b' hj=>?_⟩
 ·simp only[List.mem_cons,not_or]at hd
  have:=I.cover j hj hd.2
  simp only[Vk,List.map_cons,List.mem_cons]at this
  rcases this with (h|h)|h
  ·exact absurd h hd.1
  ·exact .inl h
  ·exact .inr h
 ·obtain⟨k1,k2,k3⟩:=I.DC j hj
  simp only[Vk,List.map_cons,List.mem_cons,not_or]at k2
  exact⟨fun h=>by
   rcases List.mem_cons.1 h with h|h
   ·exact k2.1 h
   ·exact k1 h,k2.2,k3⟩
 ·simp only[early,List.mem_cons,List.mem_append]
  constructor
  ·rintro ((h|h)|h)
   ·exact .inr (.inl h)
   ·exact .inl h
   ·exact .inr (.inr h)
  ·rintro (h|h|h)
   ·exact .inl (.inr h)
   ·exact .inl (.inl h)
   ·exact .inr h
 ·have:=I.Mi;simp only[blocks]at this;exact(List.nodup_cons.1 this).2
 ·rw[Mh (Mm j p q hj hl oj d Jm hd)]
  exact I.F6 j p q (List.mem_cons_of_mem _ hj) hl oj d Jm hd
 ·rw[g2,Ze,yB]
  by_cases e:t=d
  ·rw[if_pos e,e,g6 hdn,← g4];exact hv
  ·rw[if_neg e];exact qA (I.rel.fr t)
 ·exact I.since.2.1.snoc DE ob
 ·exact(I.z c).1 (I.since.2.2.new c hc) |> fun h=>⟨h.1,fun hm=>h.2 (by simp only[blocks,List.mem_cons];exact .inr hm)⟩
 ·rcases VT e with h1|⟨h1,ZB⟩
  ·exact(I.z c).1 (I.since.2.2.own l c q h1 h0) |> fun h=>⟨h.1,fun hm=>h.2 (by simp only[blocks,List.mem_cons];exact .inr hm)⟩
  ·simp at ZB;obtain⟨rfl,rfl⟩:=ZB;exact⟨QdB,Vs⟩
 ·have P':=I.BA j p b' (List.mem_cons_of_mem _ hj)
  exact⟨P'.run,Fy P'.Vh fun q e=>by
   simp at e
   exact Vs (by rw[e.1];exact xy.2 ⟨j,p,hj⟩),P'.low⟩
theorem BB {j b:Nat} {p:Bool} {l1 l2:List En} {x:En} (h:x∈l1++(j,p,some b)::l2):x∈l1++(j,p,none)::l2∨x=(j,p,some b):=by
 rcases List.mem_append.1 h with h|h
 ·exact .inl (List.mem_append.2 (.inl h))
 ·rcases List.mem_cons.1 h with h|h
  ·exact .inr h
  ·exact .inl (List.mem_append.2 (.inr (List.mem_cons_of_mem _ h)))
theorem dI {j b:Nat} {p:Bool} {l1 l2:List En} {i c:Nat} {q:Bool} (h:(i,q,some c)∈l1++(j,p,none)::l2):(i,q,some c)∈l1++(j,p,some b)::l2:=by
 rcases List.mem_append.1 h with h|h
 ·exact List.mem_append.2 (.inl h)
 ·rcases List.mem_cons.1 h with h|h
  ·cases h
  ·exact List.mem_append.2 (.inr (List.mem_cons_of_mem _ h))
theorem zo.exec {L:Zh} {ops:Array Oper} {R:List Nat} (hD:F7 ops) (QJ:base≤w0.w.heap.size) {Z0 Z:Nat→Prop} {j:Nat} {p:Bool} {l1 l2:List En} {done:List Nat} {Q6:Array Bool} {s:St} {pl:List Pl} {a:Act} {w:World} (I:zo nc P L ops R base nt w0 Z0 Z (l1++(j,p,none)::l2) done Q6 s pl a w)
  {o:Oper} (ho:ops[j]? = some o) (hl:Kw ops j=true) {d:Nat} (hd:o.dst=some d) {v:Value} {obj:Obj} (QV:(execOp a.eval o).run P w=.ok (.value v) (w.alloc obj)) (huq:∀i p' q,(i,p',q)∈l1++(j,p,none)::l2→q≠none→i≠j) :
  ∃Z',zo nc P L ops R base nt w0 Z0 Z' (l1++(j,p,some w.heap.size)::l2) done (Q6.setIfInBounds j true) s pl (a.put o.dst v) (w.alloc obj):=by
 have Qd:=(Array.getElem?_eq_some_iff.1 ho).1
 have hm:(j,p,none)∈l1++(j,p,none)::l2:=List.mem_append.2 (.inr (List.mem_cons_self ..))
 have e:∀k,k<w.heap.size→(w.alloc obj).heap[k]? = w.heap[k]? := fun k hk=>qs w obj k hk
 have ZX:(w.alloc obj).heap[w.heap.size]? = some obj:=heap_alloc_new w obj
 have ZC:w.heap.size<(w.alloc obj).heap.size:=q9 ZX
 have W3:base≤w.heap.size:=Nat.le_trans QJ I.since.1.size
 have vI:∀c,c∈blocks (l1++(j,p,none)::l2)→c<w.heap.size:=fun c hc=>by
  obtain⟨i,q,hq⟩:=xy.1 hc
  obtain⟨_,_,_,_,_,_,_,_,_,_,h5,_⟩:=(I.BA i q c hq).run
  exact q9 h5
 have Vs:w.heap.size ∉ blocks (l1++(j,p,none)::l2):=fun h=>by have:=vI _ h;omega
 have F9:Z0 w.heap.size:=((I.z _).1 (I.since.2.2.new _ (Nat.le_refl _))).1
 have Jw:∀c,c∈blocks (l1++(j,p,some w.heap.size)::l2)↔c∈blocks (l1++(j,p,none)::l2)∨c=w.heap.size:=fun c=>by
  rw[xy,xy]
  constructor
  ·rintro⟨i,q,h⟩
   rcases BB h with h|h
   ·exact .inl ⟨i,q,h⟩
   ·cases h;exact .inr rfl
  ·rintro (⟨i,q,h⟩|rfl)
   ·exact⟨i,q,dI h⟩
   ·exact⟨j,p,List.mem_append.2 (.inr (List.mem_cons_self ..))⟩
 have hZ:∀c,(Z0 c∧c ∉ blocks (l1++(j,p,some w.heap.size)::l2))↔Z c∧c≠w.heap.size:=fun c=>by
  rw[I.z c,Jw c,not_or,and_assoc]
 have Wh:∀c,free Z pl c→c<w.heap.size→free (fun c=>Z0 c∧c ∉ blocks (l1++(j,p,some w.heap.size)::l2)) pl c∧(w.alloc obj).heap[c]? = w.heap[c]? := fun c hc Qd=>⟨⟨(hZ c).2 ⟨hc.1,by omega⟩,hc.2⟩,e c Qd⟩
 have qA:∀{d v},Qv Z s.h pl w d v→Qv (fun c=>Z0 c∧c ∉ blocks (l1++(j,p,some w.heap.size)::l2)) s.h pl (w.alloc obj) d v:=fun hr=>hr.Dz Wh (fun _ _ _ a b=>⟨a,b⟩) (fun l b q hp=>e b (I.rel.o.lt hp).1)
 have T:Tr s.h pl w s.h pl (w.alloc obj):=Tr.ext I.rel.o e
 refine⟨fun c=>Z0 c∧c ∉ blocks (l1++(j,p,some w.heap.size)::l2),?_,?_,?_,(I.marks.set Qd).same fun i=>?_,fun i q b h=>?_,fun i q u h hl=>?_,fun c=>Iff.rfl,fun i q b h=>?_,P3 _ Vs I.Mi,fun i q u h DD oi di Mn Mp=>?_,⟨by rw[hd];simp [Act.put,I.rel.nt],by rw[hd];exact I.rel.defers,fun t=>?_,I.rel.o.Dz Wh e⟩,⟨I.since.1.trans (wZ W3 obj),I.since.2.1.trans T,⟨fun c hc=>(hZ c).2 ⟨I.since.2.2.new c (by omega),by omega⟩,fun l c q e1 h0=>(hZ c).2 ⟨I.since.2.2.own l c q e1 h0,by have:=(I.rel.o.lt e1).1;omega⟩⟩⟩,fun i q b h=>?_⟩
 ·have:=I.sched;simpa [VZ] using this
 ·have:=I.cover;simpa [Vk] using this
 ·have:=I.DC;simpa [Vk] using this
 ·simp only[List.mem_cons,List.mem_append,Bz]
  constructor
  ·rintro (rfl|⟨q,b,h⟩|h)
   ·exact .inl ⟨p,_,.inr (.inl rfl)⟩
   ·exact .inl ⟨q,b,by have:=dI (b:=w.heap.size) (List.mem_append.2 (h.imp id List.mem_cons.2));simpa using this⟩
   ·exact .inr h
  ·rintro (⟨q,b,h⟩|h)
   ·rcases BB (List.mem_append.2 (h.imp id List.mem_cons.2)) with h|h
    ·exact .inr (.inl ⟨q,b,by simpa using h⟩)
    ·cases h;exact .inl rfl
   ·exact .inr (.inr h)
 ·rcases BB h with h|h
  ·exact I.late i q b h
  ·cases h;exact hl
 ·rcases BB h with h|h
  ·exact I.lp i q u h hl
  ·cases h;exact I.lp j p none hm hl
 ·rcases BB h with h|h
  ·exact I.z0 i q b h
  ·cases h;exact F9
 ·rcases BB h with h|h
  ·exact I.F6 i q u h DD oi di Mn Mp
  ·cases h;exact I.F6 j p none hm DD oi di Mn Mp
 ·by_cases ht:t=d
  ·have:=I.F6 j p none hm hl o d ho hd
   rw[ht,this];exact .cl _ _ (.undef _)
  ·rw[dF (by rw[hd];exact fun h=>ht (Option.some.inj h).symm)]
   exact qA (I.rel.fr t)
 ·rcases BB h with h|h
  ·refine(I.BA i q b h).step T v fun oi di Mn Mp=>?_
   exact hD i j oi o di (huq i q (some b) h (by simp)) (I.late i q b h) Mn ho Mp
  ·cases h
   refine⟨⟨o,d,w,a.eval,v,obj,ho,hd,QV,rfl,ZX,fun hn=>?_⟩,fun l q e1=>?_,I.since.1.size⟩
   ·have:d<a.tmps.size:=by rw[I.rel.nt];exact hn
    simp [Act.put,hd,Array.getD_eq_getD_getElem?,this]
   ·have:=(I.rel.o.lt e1).1;omega
def xA (nc:List Nat) (P:Program) (base nt:Nat) (w0:Start) (ops:Array Oper) (K:St→Prop):Nat→List Nat→List Nat→St→Prop
 | 0,_,_,s=>K s
 | n+1,R,done,s=>∀i∈R,∀o,ops[i]? = some o→Yd done o.after.toList=false→AX P base nt w0 (xA nc P base nt w0 ops K n (R.erase i) (i::done)) [(false,Wi (Jy i nc) o,guardOf ops o)] s
def jj (ops:Array Oper):List Nat→List Nat→Bool
 | [],_=>true
 | i::r,done=>(match ops[i]? with
  | some o=>!Yd done o.after.toList
  | none=>false)&&jj ops r (i::done)
theorem P6 {done DF:List Nat} (h:∀j∈done,j∈DF):∀{l:List Edge},Yd done l=false→Yd DF l=false
 | [],_=>rfl
 | e::r,hh=>by
  simp only[Yd,Bool.or_eq_false_iff,Bool.and_eq_false_iff,Bool.not_eq_false']at hh ⊢
  exact⟨hh.1.imp id fun k=>qy.2 (h _ (qy.1 k)),P6 h hh.2⟩
theorem dJ {ops:Array Oper}:∀{R done DF:List Nat},(∀j∈done,j∈DF)→jj ops R done=true→jj ops R DF=true
 | [],_,_,_,_=>rfl
 | i::r,done,DF,h,hh=>by
  simp only[jj,Bool.and_eq_true]at hh ⊢
  refine⟨?_,dJ (fun j hj=>by
   rcases List.mem_cons.1 hj with rfl|hj
   ·exact List.mem_cons_self ..
   ·exact List.mem_cons_of_mem _ (h j hj)) hh.2⟩
  have h1:=hh.1
  cases ho:ops[i]? with
  | none=>rw[ho]at h1;cases h1
  | some o=>
   rw[ho]at h1
   simp only[Bool.not_eq_true']at h1 ⊢
   exact P6 h h1
theorem dK {ops:Array Oper} {j:Nat}:∀{R done:List Nat},jj ops R done=true→jj ops (R.erase j) (j::done)=true
 | [],_,_=>rfl
 | i::r,done,h=>by
  simp only[jj,Bool.and_eq_true]at h
  by_cases JV:i=j
  ·subst JV;rw[List.erase_cons_head];exact h.2
  ·rw[List.erase_cons_tail (by simpa using JV)]
   simp only[jj,Bool.and_eq_true]
   refine⟨?_,dJ (fun k hk=>?_) (dK (j:=j) h.2)⟩
   ·have h1:=h.1
    cases ho:ops[i]? with
    | none=>rw[ho]at h1;cases h1
    | some o=>
     rw[ho]at h1
     simp only[Bool.not_eq_true']at h1 ⊢
     exact P6 (fun k hk=>List.mem_cons_of_mem _ hk) h1
   ·simp only[List.mem_cons]at hk ⊢
    rcases hk with h1|h1|h1
    ·exact .inr (.inl h1)
    ·exact .inl h1
    ·exact .inr (.inr h1)
theorem QdD {ops:Array Oper} (QJ:base≤w0.w.heap.size) {F:St→Prop} {Z:Nat→Prop} {i:Nat} {o:Oper} (ho:ops[i]? = some o) {s:St} {pl:List Pl} {a:Act} {w:World} (r:Rel Z base nt s pl a w) (b:JB Z base w0 s.h pl w)
  (h:AX P base nt w0 F [(false,Wi (Jy i nc) o,guardOf ops o)] s):wpOp P ops (fun _ _ _=>False) i (fun a' w'=>qz nc ops i w w'∧∃s' Qi,F s'∧Rel Z base nt s' Qi a' w'∧JB Z base w0 s'.h Qi w') a w:=by
 have skip:∀(s1:St),s1.h=s.h→Rel Z base nt s1 pl a w→Vj (guardOf ops o) a.tmps=false→Zo nt (Wi (Jy i nc) o).dst=true→F ⟨Ze s1.fr (Wi (Jy i nc) o).dst (.raw Go.undef),s1.h⟩→_:=fun s1 hh r1 hw ht hk=>by
  have hy:YieldsIf P ops (fun _:World=>True) o Go.undef a:=.inr ⟨by rw[Dn];exact hw,rfl⟩
  have V1:Rel Z base nt ⟨Ze s1.fr o.dst (.raw Go.undef),s1.h⟩ pl (a.put o.dst Go.undef) w:=r1.skip ht
  exact hy.wpOp (P:=P) (Q:=fun _ _ _=>False) (K:=fun a' w'=>qz nc ops i w w'∧∃s' Qi,F s'∧Rel Z base nt s' Qi a' w'∧JB Z base w0 s'.h Qi w') ho trivial ⟨by rw[Bx ho];exact .ext (Ext.refl _),_,pl,hk,V1,by rw[show (⟨Ze s1.fr o.dst (.raw Go.undef),s1.h⟩:St).h=s.h from hh];exact b⟩
 have go:∀(s1:St),s1.h=s.h→Rel Z base nt s1 pl a w→Vj (guardOf ops o) a.tmps=true→K8 P base nt w0 false (Wi (Jy i nc) o) F s1→wpOp P ops (fun _ _ _=>False) i (fun a' w'=>qz nc ops i w w'∧∃s' Qi,F s'∧Rel Z base nt s' Qi a' w'∧JB Z base w0 s'.h Qi w') a w:=fun s1 hh r1 hw hk=>by
  unfold wpOp
  simp only[ho,Dn,hw,if_true]
  refine .inl ?_
  have:=hk.ae QJ Z trivial pl a w r1 (by rw[hh];exact b)
  rw[dB]at this
  refine Oper.wp_mono (fun a' w' hq=>?_) this
  obtain⟨he,d,h',Qi,v,hF,r',b',T,rfl⟩:=hq
  exact⟨by rw[Bx ho];exact he,_,Qi,hF,r',b'⟩
 simp only[AX]at h
 split at h
 ·rename_i hg;exact go s rfl r (by rw[hg];rfl) h
 ·rename_i x hg;exact skip s rfl r (by rw[hg];rfl) h.1 h.2
 ·rename_i t x hg
  split at h
  ·rename_i y hy
   have hr:=r.fr t
   rw[hy]at hr
   have hv:=ZD hr
   have hb:=PU hv
   by_cases YF:y=x
   ·refine go ⟨put s.fr t (.raw (.bool x)),s.h⟩ rfl (r.tell (t:=t) (d:=.raw (.bool x)) (by rw[hv,YF];exact .cl _ _ (.raw _))) ?_ (h.1 YF)
    rw[hg];simp [Vj,hb,YF]
   ·have yW:y=(!x):=by cases x<;>cases y<;>simp_all
    have:=h.2 yW
    refine skip ⟨put s.fr t (.raw (.bool !x)),s.h⟩ rfl (r.tell (t:=t) (d:=.raw (.bool (!x))) (by rw[hv,yW];exact .cl _ _ (.raw _))) ?_ this.1 this.2
    rw[hg];simp [Vj,hb,YF]
  ·rename_i vs hy
   have hr:=r.fr t
   rw[hy]at hr
   refine skip s rfl r ?_ h.1 h.2
   rw[hg]
   simp [Vj,PV (ZD hr)]
  ·exact h.elim
theorem P7 {ops:Array Oper} {K:St→Prop} (QJ:base≤w0.w.heap.size) {Z:Nat→Prop}:∀(n:Nat) (R done:List Nat) (Q6:Array Bool) (s:St) (pl:List Pl) (a:Act) (w:World),R.length=n→Marks ops Q6 done→(∀j,j<ops.size→j ∉ done→j∈R)→(∀j∈R,j ∉ done)→R.Nodup→jj ops R done=true →
  Rel Z base nt s pl a w→JB Z base w0 s.h pl w→xA nc P base nt w0 ops K n R done s→ji P ops (fun a w=>∃s pl,K s∧Rel Z base nt s pl a w∧JB Z base w0 s.h pl w) (qz nc ops) n Q6 a w
 | 0,R,done,Q6,s,pl,a,w,hl,M,hc,hn,hd,ht,r,b,h=>by
  have:R=[]:=List.length_eq_zero_iff.1 hl
  subst this
  refine⟨List.eq_nil_iff_forall_not_mem.2 fun j hj=>?_,s,pl,h,r,b⟩
  obtain⟨h1,o,ho,_⟩:=mem_ready.1 hj
  have Qd:=(Array.getElem?_eq_some_iff.1 ho).1
  have:=hc j Qd ((M.get j Qd).1 h1)
  cases this
 | n+1,R,done,Q6,s,pl,a,w,hl,M,hc,hn,hd,ht,r,b,h=>by
  have ready:∀j o,ops[j]? = some o→j ∉ done→Yd done o.after.toList=false→j∈Region.ready .any ops Q6:=fun j o ho hj hh=>by
   have Qd:=(Array.getElem?_eq_some_iff.1 ho).1
   exact mem_ready.2 ⟨(M.get j Qd).2 hj,o,ho,fun e he hb=>(M.get' e.on).2 ⟨Mf hh e (by simpa using he) hb,M.lt _ (Mf hh e (by simpa using he) hb)⟩⟩
  refine⟨fun e=>?_,fun j hj=>?_⟩
  ·cases R with
   | nil=>cases hl
   | cons i rr=>
    simp only[jj,Bool.and_eq_true]at ht
    have h1:=ht.1
    split at h1
    ·rename_i o ho
     have:=ready i o ho (hn i (List.mem_cons_self ..)) (by simpa using h1)
     rw[e]at this;cases this
    ·cases h1
  ·obtain⟨h1,o,ho,Vr⟩:=mem_ready.1 hj
   have Qd:=(Array.getElem?_eq_some_iff.1 ho).1
   have hjd:=(M.get j Qd).1 h1
   have Mq:=hc j Qd hjd
   have hh:Yd done o.after.toList=false:=by
    cases hb:Yd done o.after.toList
    ·rfl
    ·obtain⟨e,he,hbi,zq⟩:=dh hb
     exact absurd ((M.get' e.on).1 (Vr e (by simpa using he) hbi)).1 zq
   refine wpOp_mono (fun a' w' h3=>?_) (QdD QJ ho r b (h j Mq o ho hh))
   obtain⟨h4,s',Qi,hF,r',b'⟩:=h3
   refine⟨h4,P7 QJ n (R.erase j) (j::done) (Q6.setIfInBounds j true) s' Qi a' w' (by rw[List.length_erase_of_mem Mq,hl];rfl) (M.set Qd) (fun k hk Ja=>?_) (fun k hk Ja=>?_) (hd.erase _) (dK ht) r' b' hF⟩
   ·simp only[List.mem_cons,not_or]at Ja
    exact(List.mem_erase_of_ne Ja.1).2 (hc k hk Ja.2)
   ·have hkR:=List.mem_of_mem_erase hk
    rcases List.mem_cons.1 Ja with rfl|h5
    ·exact(hd.not_mem_erase) hk
    ·exact hn k hkR h5
theorem QdH {L:Zh} (QdI:Zw P L) {ops:Array Oper} {R D0:List Nat} {K:St→Prop} (Dw:Region.noSelect ops=true) (QJ:base≤w0.w.heap.size) (hD:F7 ops) (hL:∀j o,ops[j]? = some o→Kw ops j=true→(∃ob mk,y5 P o ob mk)∧∃d,o.dst=some d) {Z0:Nat→Prop} (dL:R.Nodup) (Ga:jj ops R D0=true) :
  ∀(m:Nat) (l:List En) (done:List Nat) (Q6:Array Bool) (s:St) (pl:List Pl) (a:Act) (w:World) (Z:Nat→Prop),l.length+V0 l≤m→zo nc P L ops R base nt w0 Z0 Z l done Q6 s pl a w→(∀j,j∈D0↔j∈Vk l∨j∈done)→AX P base nt w0 (xA nc P base nt w0 ops K R.length R D0) (JW nc ops (VZ l)) s →
   ji P ops (fun a w=>∃s pl,K s∧Rel Z0 base nt s pl a w∧JB Z0 base w0 s.h pl w) (qz nc ops) (R.length+V0 l) Q6 a w:=by
 intro m
 induction m with
 | zero=>
  intro l done Q6 s pl a w Z hm I Gb h
  cases l with
  | cons x r=>simp at hm
  | nil=>
   have hZ:Z=Z0:=funext fun b=>propext (by rw[I.z b];simp [blocks])
   subst hZ
   have xB:∀j,j∈D0↔j∈done:=fun j=>by rw[Gb j];simp [Vk]
   refine P7 QJ R.length R D0 Q6 s pl a w rfl (I.marks.same fun j=>by rw[xB j];simp [early]) (fun j hj hd=>?_) (fun j hj=>by rw[xB j];exact(I.DC j hj).1) dL Ga I.rel I.since h
   have:=I.cover j hj (fun h=>hd ((xB j).2 h))
   simpa [Vk] using this
 | succ m ih=>
  intro l done Q6 s pl a w Z hm I Gb h
  cases l with
  | nil=>
   have hZ:Z=Z0:=funext fun b=>propext (by rw[I.z b];simp [blocks])
   subst hZ
   have xB:∀j,j∈D0↔j∈done:=fun j=>by rw[Gb j];simp [Vk]
   refine P7 QJ R.length R D0 Q6 s pl a w rfl (I.marks.same fun j=>by rw[xB j];simp [early]) (fun j hj hd=>?_) (fun j hj=>by rw[xB j];exact(I.DC j hj).1) dL Ga I.rel I.since h
   have:=I.cover j hj (fun h=>hd ((xB j).2 h))
   simpa [Vk] using this
  | cons x r=>
   obtain⟨i,p,q⟩:=x
   obtain⟨o,ho,Zy,dM,QdJ,QdK,X9⟩:=I.head
   have Qd:=(Array.getElem?_eq_some_iff.1 ho).1
   have vQ:JW nc ops (VZ ((i,p,q)::r))=(p,Wi (Jy i nc) o,guardOf ops o)::JW nc ops (VZ r):=by simp [JW,VZ,ho]
   rw[vQ]at h
   have xz:∀j∈early ((i,p,q)::r),Kw ops j=true:=fun j hj=>by obtain⟨p',b,hb⟩:=Bz.1 hj;exact I.late j p' b hb
   have QD:∀j p q,(j,p,q)∈r→j≠i:=fun j p q hj e=>Mj X9 j (P5 hj) (by rw[e];simp)
   have BC:∀j,j∈D0↔j∈Vk r∨j∈i::done:=fun j=>by
    rw[Gb j]
    simp only[Vk,List.map_cons,List.mem_cons]
    constructor
    ·rintro ((h|h)|h)
     ·exact .inr (.inl h)
     ·exact .inl h
     ·exact .inr (.inr h)
    ·rintro (h|h|h)
     ·exact .inl (.inr h)
     ·exact .inl (.inl h)
     ·exact .inr h
   cases q with
   | some b=>
    have DD:=I.late i p b (List.mem_cons_self ..)
    obtain⟨g1,g2,_⟩:=Ml ho DD
    have hp:=I.lp i p _ (List.mem_cons_self ..) DD
    subst hp
    have hg:guardOf ops o=none:=by simp [guardOf,g2]
    rw[hg]at h
    simp only[AX,K8]at h
    rw[show W4 (Wi (Jy i nc) o)=true from g1]at h
    obtain⟨ob,mk,h1,h2,h3⟩:=h
    obtain⟨Z',I'⟩:=I.P1 hD QJ ho (show y5 P o ob mk from h1) h2
    have:=ih r (i::done) Q6 _ _ a w Z' (by simp only[List.length_cons,V0]at hm;omega) I' BC h3
    exact this
   | none=>
    have P8:i ∉ early ((i,p,none)::r)++done:=fun hm=>by
     rcases List.mem_append.1 hm with h1|h1
     ·obtain⟨p',b,hb⟩:=Bz.1 h1
      rcases List.mem_cons.1 hb with h2|h2
      ·cases h2
      ·exact QD _ _ _ h2 rfl
     ·exact Zy h1
    have P9:i∈Region.ready .any ops Q6:=mem_ready.2 ⟨(I.marks.get i Qd).2 P8,o,ho,fun e he hb=>(I.marks.get' e.on).2 ⟨List.mem_append.2 (.inr (dM e he hb)),I.marks.lt _ (List.mem_append.2 (.inr (dM e he hb)))⟩⟩
    have De:r.length+V0 r≤m:=by simp only[List.length_cons,V0]at hm;omega
    have first:p=true→∀(s1:St) (v:Value),s1.h=s.h→YieldsIf P ops (fun w'=>(still L o=true∨Ext w w')∨(vN o=true∧XF w w')) o v a →
      Rel Z base nt s1 pl (a.put o.dst v) w→(∀d,o.dst≠some d→get s.fr d=.undef→get s1.fr d=.undef)→AX P base nt w0 (xA nc P base nt w0 ops K R.length R D0) (JW nc ops (VZ r)) s1→ji P ops (fun a w=>∃s pl,K s∧Rel Z0 base nt s pl a w∧JB Z0 base w0 s.h pl w) (qz nc ops) (R.length+V0 r+1) Q6 a w:=by
     intro hp s1 v hh hy hr hu hk
     have I':=I.next hD ho v (s':=s1) (by rw[hh];exact Tr.refl _ _ _) hr (by rw[hh];exact I.since) hu
     have Mr:=ih r (i::done) (Q6.setIfInBounds i true) s1 pl (a.put o.dst v) w Z De I' BC hk
     refine Qdu (fun w=>by rw[Bx ho];exact .ext (Ext.refl _)) ho (Region.noSelect_spec Dw) _ Q6 a w (.inl (.inr (Ext.refl _))) (fun j oj hj zn hu'=>?_) P9 hy Mr
     have Gc:=(Array.getElem?_eq_some_iff.1 hj).1
     have Gd:=(I.marks.get j Gc).1 hu'
     have Ge:=I.cover j Gc fun hd=>Gd (List.mem_append.2 (.inr hd))
     simp only[Vk,List.map_cons,List.mem_cons]at Ge
     have V3:∃y∈(VZ r).map (fun ip=>(ip.1,ip.2,ops[ip.1]?))++By ops R,y.1=j∧y.2.2=ops[j]? := by
      rcases Ge with (h|h)|h
      ·exact absurd h zn
      ·obtain⟨y,Xm,YL⟩:=List.mem_map.1 h
       exact⟨(y.1,y.2.1,ops[y.1]?),List.mem_append.2 (.inl (List.mem_map.2 ⟨(y.1,y.2.1),List.mem_map.2 ⟨y,Xm,rfl⟩,rfl⟩)),YL,by rw[YL]⟩
      ·exact⟨(j,false,ops[j]?),List.mem_append.2 (.inr (List.mem_map.2 ⟨j,h,rfl⟩)),rfl,rfl⟩
     obtain⟨y,Xm,YL,hy3⟩:=V3
     have:=dG I.marks xz (r:=(VZ r).map (fun ip=>(ip.1,ip.2,ops[ip.1]?))++By ops R) (fun x hx=>by
      rcases List.mem_append.1 hx with hx|hx
      ·obtain⟨z,_,rfl⟩:=List.mem_map.1 hx;rfl
      ·obtain⟨z,_,rfl⟩:=List.mem_map.1 hx;rfl) (QdJ hp).2 y Xm oj (by rw[YL];exact hj)
     rw[YL]at this
     refine this.imp id fun h=>⟨fun w1 w2 hc hs=>?_,h.2⟩
     rw[Bx hj]at hc
     rcases h.1 with (h1|h1)|h1
     ·have he:=hc.calm (by rw[Qdx];simp [h1.1,h1.2])
      rcases hs with (hs|hs)|hs
      ·exact .inl (.inl hs)
      ·exact .inl (.inr (hs.trans he))
      ·exact .inr ⟨hs.1,hs.2.trans (.ext he)⟩
     ·exact .inl (.inl h1)
     ·have he:=hc.ins (by simpa [vO,Wi] using h1.2)
      rcases hs with (hs|hs)|hs
      ·exact .inl (.inl hs)
      ·exact .inr ⟨h1.1,(XF.ext hs).trans he⟩
      ·exact .inr ⟨hs.1,hs.2.trans he⟩
    have alone:p=false→wpOp P ops (fun _ _ _=>False) i (fun a' w'=>qz nc ops i w w'∧ji P ops (fun a w=>∃s pl,K s∧Rel Z0 base nt s pl a w∧JB Z0 base w0 s.h pl w) (qz nc ops) (R.length+V0 r) (Q6.setIfInBounds i true) a' w') a w →
      ji P ops (fun a w=>∃s pl,K s∧Rel Z0 base nt s pl a w∧JB Z0 base w0 s.h pl w) (qz nc ops) (R.length+V0 r+1) Q6 a w:=by
     intro hp hi
     refine⟨fun e=>(by rw[e]at P9;cases P9),fun j hj=>?_⟩
     by_cases zn:j=i
     ·subst zn;exact hi
     ·obtain⟨Mc,oj,Jm,Vr⟩:=mem_ready.1 hj
      have Gc:=(Array.getElem?_eq_some_iff.1 Jm).1
      have Gd:=(I.marks.get j Gc).1 Mc
      have Ge:=I.cover j Gc fun hd=>Gd (List.mem_append.2 (.inr hd))
      simp only[Vk,List.map_cons,List.mem_cons]at Ge
      have dN:=fun x hx=>dD (r:=(VZ r).map (fun ip=>(ip.1,ip.2,ops[ip.1]?))++By ops R) (fun x hx=>by
       rcases List.mem_append.1 hx with hx|hx
       ·obtain⟨z,_,rfl⟩:=List.mem_map.1 hx;rfl
       ·obtain⟨z,_,rfl⟩:=List.mem_map.1 hx;rfl) (QdK hp) x hx
      have held:DB ops done i oj.after.toList=true→False:=fun h1=>by
       obtain⟨e,he,hb,zq,DG⟩:=dC h1
       have h2:=((I.marks.get' e.on).1 (Vr e (by simpa using he) hb)).1
       rcases List.mem_append.1 h2 with h3|h3
       ·rcases DG with h4|h4
        ·rw[xz _ h3]at h4;cases h4
        ·exact P8 (List.mem_append.2 (.inl (by rw[← h4];exact h3)))
       ·exact zq h3
      have Mq:j ∉ R:=fun h=>by
       rcases dN (j,false,ops[j]?) (List.mem_append.2 (.inr (List.mem_map.2 ⟨j,h,rfl⟩))) oj Jm with h1|h1
       ·have h9:Kw ops j=true:=h1
        rw[(I.DC j h).2.2]at h9;cases h9
       ·exact held h1
      obtain⟨y,Xm,YL⟩:=List.mem_map.1 ((Ge.resolve_right Mq).resolve_left zn)
      obtain⟨j',pj,qj⟩:=y
      obtain rfl:j'=j:=YL
      have hqj:qj=none:=by
       cases qj with
       | none=>rfl
       | some b=>exact absurd (List.mem_append.2 (.inl (Bz.2 ⟨pj,b,List.mem_cons_of_mem _ Xm⟩))) Gd
      subst hqj
      have Ra:Kw ops j'=true:=by
       rcases dN (j',pj,ops[j']?) (List.mem_append.2 (.inl (List.mem_map.2 ⟨(j',pj),List.mem_map.2 ⟨_,Xm,rfl⟩,rfl⟩))) oj Jm with h1|h1
       ·exact h1
       ·exact(held h1).elim
      obtain⟨g1,g2,_⟩:=Ml Jm Ra
      obtain⟨⟨ob,mk,obj,val,k1,_⟩,d,hd⟩:=hL j' oj Jm Ra
      obtain⟨r1,r2,hr⟩:=List.append_of_mem Xm
      have hl:(i,p,none)::r=((i,p,none)::r1)++(j',pj,none)::r2:=by rw[hr];rfl
      have I0:=I
      rw[hl]at I0
      obtain⟨Z',I'⟩:=I0.exec hD QJ Jm Ra hd (k1 a.eval w) (fun i' p' q' hm hq e=>by
       subst e
       rw[← hl]at hm
       cases q' with
       | none=>exact hq rfl
       | some b=>exact Gd (List.mem_append.2 (.inl (Bz.2 ⟨p',b,hm⟩))))
      have hc:V0 r=V0 (((i,p,none)::r1)++(j',pj,some w.heap.size)::r2):=by
       have:=P2 (j:=j') (p:=pj) (b:=w.heap.size) (l2:=r2) ((i,p,none)::r1)
       rw[← hl]at this
       simp only[V0]at this
       omega
      have Rb:VZ (((i,p,none)::r1)++(j',pj,some w.heap.size)::r2)=VZ ((i,p,none)::r):=by rw[hl];simp [VZ]
      have Mr:=ih _ done (Q6.setIfInBounds j' true) s pl (a.put oj.dst (val w.heap.size)) (w.alloc obj) Z' (by
       have h1:(((i,p,none)::r1)++(j',pj,some w.heap.size)::r2).length=r.length+1:=by rw[hr];simp
       have h2:r.length+1+(V0 r+1)≤m+1:=hm
       rw[h1,← hc];omega) I' (fun k=>by rw[Gb k];rw[hl];simp [Vk]) (by rw[Rb,vQ];exact h)
      rw[← hc]at Mr
      unfold wpOp
      simp only[Jm]
      have hw:Region.wanted oj (yielded ops a.tmps)=true:=by simp [Region.wanted,g2]
      rw[if_pos hw]
      refine .inl ?_
      unfold Oper.wp
      rw[k1 a.eval w]
      simp only[Oper.upon_value]
      exact⟨by rw[Bx Jm];exact .ext fun k hk=>qs w obj k hk,Mr⟩
    have skip:∀(s1:St),s1.h=s.h→Rel Z base nt s1 pl a w→(∀d,get s.fr d=.undef→get s1.fr d=.undef)→Vj (guardOf ops o) a.tmps=false→Zo nt (Wi (Jy i nc) o).dst=true→AX P base nt w0 (xA nc P base nt w0 ops K R.length R D0) (JW nc ops (VZ r)) ⟨Ze s1.fr (Wi (Jy i nc) o).dst (.raw Go.undef),s1.h⟩ →
      ji P ops (fun a w=>∃s pl,K s∧Rel Z0 base nt s pl a w∧JB Z0 base w0 s.h pl w) (qz nc ops) (R.length+V0 r+1) Q6 a w:=by
     intro s1 hh r1 hu hw ht hk
     have hy:YieldsIf P ops (fun w'=>(still L o=true∨Ext w w')∨(vN o=true∧XF w w')) o Go.undef a:=.inr ⟨by rw[Dn];exact hw,rfl⟩
     have V1:Rel Z base nt ⟨Ze s1.fr o.dst (.raw Go.undef),s1.h⟩ pl (a.put o.dst Go.undef) w:=r1.skip ht
     have zw:∀d,o.dst≠some d→get s.fr d=.undef→get (Ze s1.fr o.dst (.raw Go.undef)) d=.undef:=fun d hd h=>by rw[Mh hd];exact hu d h
     cases p with
     | true=>exact first rfl ⟨Ze s1.fr o.dst (.raw Go.undef),s1.h⟩ Go.undef hh hy V1 zw hk
     | false=>
      refine alone rfl (hy.wpOp ho (.inl (.inr (Ext.refl _))) ⟨by rw[Bx ho];exact .ext (Ext.refl _),?_⟩)
      have I':=I.next hD ho Go.undef (s':=⟨Ze s1.fr o.dst (.raw Go.undef),s1.h⟩) (by rw[show (⟨Ze s1.fr o.dst (.raw Go.undef),s1.h⟩:St).h=s.h from hh];exact Tr.refl _ _ _) V1 (by rw[show (⟨Ze s1.fr o.dst (.raw Go.undef),s1.h⟩:St).h=s.h from hh];exact I.since) zw
      exact ih r (i::done) _ _ pl _ w Z De I' BC hk
    have go:∀(s1:St),s1.h=s.h→Rel Z base nt s1 pl a w→(∀d,get s.fr d=.undef→get s1.fr d=.undef)→Vj (guardOf ops o) a.tmps=true→K8 P base nt w0 p (Wi (Jy i nc) o) (AX P base nt w0 (xA nc P base nt w0 ops K R.length R D0) (JW nc ops (VZ r))) s1 →
      ji P ops (fun a w=>∃s pl,K s∧Rel Z0 base nt s pl a w∧JB Z0 base w0 s.h pl w) (qz nc ops) (R.length+V0 r+1) Q6 a w:=by
     intro s1 hh r1 hu hw hk
     cases p with
     | true=>
      obtain⟨d,Lx,hpc,ht,hk⟩:=hk
      have Vr:∃v,Qv Z s1.h pl w d v∧(∀w':World,(∀b,b<w.heap.size→w'.heap[b]? = w.heap[b]?)→(execOp a.eval o).run P w'=.ok (.value v) w')∧(vN o=true→∀w':World,XF w w'→(execOp a.eval o).run P w'=.ok (.value v) w'):=by
       cases Gf:vN o
       ·obtain⟨v,hv,QV⟩:=Lx Z pl a w r1
        exact⟨v,hv,QV,fun h=>by cases h⟩
       ·obtain⟨v,hv,QV⟩:=hpc (by simpa [vN,Wi] using Gf) Z pl a w r1
        exact⟨v,hv,fun w' he=>QV w' (.ext he),fun _=>QV⟩
      obtain⟨v,hv,QV,QdO⟩:=Vr
      have hy:YieldsIf P ops (fun w'=>(still L o=true∨Ext w w')∨(vN o=true∧XF w w')) o v a:=.inl ⟨by rw[Dn];exact hw,fun w' he=>he.elim (fun he=>he.elim (fun hs=>Qdt QdI hs (QV w fun _ _=>rfl) w') (fun he=>QV w' he)) (fun he=>QdO he.1 w' he.2)⟩
      have r2:Rel Z base nt ⟨Ze s1.fr o.dst d,s1.h⟩ pl (a.put o.dst v) w:=by
       cases hd:o.dst with
       | none=>exact r1
       | some t=>have ht:Zo nt o.dst=true:=ht;rw[hd]at ht;exact r1.to (Tr.ext r1.o fun _ _=>rfl) r1.o (YN ht) hv
      exact first rfl ⟨Ze s1.fr o.dst d,s1.h⟩ v hh hy r2 (fun d' hd h=>by rw[Mh hd];exact hu d' h) hk
     | false=>
      refine alone rfl ?_
      unfold wpOp
      simp only[ho,Dn,hw,if_true]
      refine .inl ?_
      have:=hk.ae QJ Z trivial pl a w r1 (by rw[hh];exact I.since)
      rw[dB]at this
      refine Oper.wp_mono (fun a' w' hq=>?_) this
      obtain⟨he,d,h',Qi,v,hF,r',b',T,rfl⟩:=hq
      refine⟨by rw[Bx ho];exact he,?_⟩
      have I':=I.next hD ho v (s':=⟨Ze s1.fr o.dst d,h'⟩) (by rw[hh]at T;exact T) r' b' (fun d' hd h=>by rw[Mh hd];exact hu d' h)
      exact ih r (i::done) _ _ Qi _ w' Z De I' BC hF
    show ji P ops _ (qz nc ops) (R.length+V0 r+1) Q6 a w
    simp only[AX]at h
    split at h
    ·rename_i hg;exact go s rfl I.rel (fun _ h=>h) (by rw[hg];rfl) h
    ·rename_i x hg;exact skip s rfl I.rel (fun _ h=>h) (by rw[hg];rfl) h.1 h.2
    ·rename_i t x hg
     split at h
     ·rename_i y hy
      have hr:=I.rel.fr t
      rw[hy]at hr
      have hv:=ZD hr
      have hb:=PU hv
      have F3:∀(e:D) d,get s.fr d=.undef→get (put s.fr t e) d=.undef:=fun e d h=>by
       rw[yB,if_neg (fun e=>by rw[e,hy]at h;cases h)];exact h
      by_cases YF:y=x
      ·refine go ⟨put s.fr t (.raw (.bool x)),s.h⟩ rfl (I.rel.tell (t:=t) (d:=.raw (.bool x)) (by rw[hv,YF];exact .cl _ _ (.raw _))) (F3 _) ?_ (h.1 YF)
       rw[hg];simp [Vj,hb,YF]
      ·have yW:y=(!x):=by cases x<;>cases y<;>simp_all
       have:=h.2 yW
       refine skip ⟨put s.fr t (.raw (.bool !x)),s.h⟩ rfl (I.rel.tell (t:=t) (d:=.raw (.bool (!x))) (by rw[hv,yW];exact .cl _ _ (.raw _))) (F3 _) ?_ this.1 this.2
       rw[hg];simp [Vj,hb,YF]
     ·rename_i vs hy
      have hr:=I.rel.fr t
      rw[hy]at hr
      refine skip s rfl I.rel (fun _ h=>h) ?_ h.1 h.2
      rw[hg]
      simp [Vj,PV (ZD hr)]
     ·exact h.elim
def dO:Option Nat→Option Nat→Bool
 | some a,some b=>!Nat.beq a b
 | _,_=>true
def dP (ops:Array Oper):Bool:=(List.range ops.size).all fun i=>!Kw ops i || (List.range ops.size).all fun j=>Nat.beq i j || dO ((ops[i]?).bind (·.dst)) ((ops[j]?).bind (·.dst))
def dQ:D→Bool
 | .undef=>true
 | _=>false
def xC (ops:Array Oper) (fr:List (Nat × D)):Bool:=(List.range ops.size).all fun i=>!Kw ops i || (match (ops[i]?).bind (·.dst) with|some d=>dQ (get fr d)|none=>true)
def dR (L:Zh) (ops:Array Oper):Bool:=ops.toList.all fun o=>match o.op with
 | .alloc t=>(ty L t).isSome&&o.dst.isSome
 | .makeMap _ none=>o.dst.isSome
 | _=>true
def Ms (ops:Array Oper) (l:List (Nat × Bool)):List Nat→Bool
 | []=>true
 | i::r=>!Jy i r&&!Jy i (l.map (·.1))&&!Kw ops i&&Ms ops l r
theorem Mt {ops:Array Oper} {l:List (Nat × Bool)}:∀{R:List Nat},Ms ops l R=true→R.Nodup∧∀i∈R,i ∉ l.map (·.1)∧Kw ops i=false
 | [],_=>⟨List.nodup_nil,by simp⟩
 | i::r,h=>by
  simp only[Ms,Bool.and_eq_true,Bool.not_eq_true']at h
  obtain⟨⟨⟨h1,h2⟩,h3⟩,h4⟩:=h
  obtain⟨k1,k2⟩:=Mt h4
  refine⟨List.nodup_cons.2 ⟨fun hm=>(by rw[qy.2 hm]at h1;cases h1),k1⟩,fun j hj=>?_⟩
  rcases List.mem_cons.1 hj with rfl|hj
  ·exact⟨fun hm=>(by rw[qy.2 hm]at h2;cases h2),h3⟩
  ·exact k2 j hj
def xD (nc:List Nat) (L:Zh) (ops:Array Oper) (l:List (Nat × Bool)) (R:List Nat):Bool:=Region.noSelect ops&&Nat.beq (R.length+l.length) ops.size&&Me (l.map (·.1)++R) ops.size&&xw nc L ops R (l.map fun ip=>(ip.1,ip.2,ops[ip.1]?)) []&&dP ops&&dR L ops&&Ms ops l R&&jj ops R (l.map (·.1))
def Rc (L:Zh) (ops:Array Oper) (l:List (Nat × Bool)):Bool:=xD [] L ops l []
theorem QdP {ops:Array Oper} (h:dP ops=true):F7 ops:=by
 intro i j oi oj d JV hl hi hj hd hd'
 have h1:=List.all_eq_true.1 h i (List.mem_range.2 (Array.getElem?_eq_some_iff.1 hi).1)
 rw[hl,Bool.not_true,Bool.false_or]at h1
 have h2:=List.all_eq_true.1 h1 j (List.mem_range.2 (Array.getElem?_eq_some_iff.1 hj).1)
 simp only[hi,hj,Option.bind_some,hd,hd',dO,Nat.beq_refl,Bool.not_true,Bool.or_false,Nat.beq_eq]at h2
 exact JV h2
theorem QdR {ops:Array Oper} {fr:List (Nat × D)} (h:xC ops fr=true):∀i o d,Kw ops i=true→ops[i]? = some o→o.dst=some d→get fr d=.undef:=by
 intro i o d hl hi hd
 have h1:=List.all_eq_true.1 h i (List.mem_range.2 (Array.getElem?_eq_some_iff.1 hi).1)
 rw[hl]at h1
 simp only[Bool.not_true,Bool.false_or,hi,Option.bind_some,hd]at h1
 unfold dQ at h1
 split at h1
 ·assumption
 ·cases h1
theorem QdS {P:Program} {L:Zh} (hL:Zw P L) {ops:Array Oper} (h:dR L ops=true):∀j o,ops[j]? = some o→Kw ops j=true→(∃ob mk,y5 P o ob mk)∧∃d,o.dst=some d:=by
 intro j o hj hl
 have h1:=(Ml hj hl).1
 have hm:o∈ops.toList:=by have:=Array.mem_of_getElem? hj;simpa using this
 have h2:=List.all_eq_true.1 h o hm
 unfold W4 at h1
 cases ho:o.op<;>rw[ho]at h1 h2<;>first|cases h1|skip
 ·rename_i t
  simp only[Bool.and_eq_true]at h2
  obtain⟨y,hy⟩:=Option.isSome_iff_exists.1 h2.1
  exact⟨⟨_,_,dt hL ho hy⟩,Option.isSome_iff_exists.1 h2.2⟩
 ·rename_i t rz
  cases rz with
  | some x=>cases h1
  | none=>exact⟨⟨_,_,dw ho .i64⟩,Option.isSome_iff_exists.1 h2⟩
theorem dS {L:Zh} {ops:Array Oper} {R:List Nat}:∀{l:List (Nat × Bool)} {done:List Nat},xw nc L ops R (l.map fun ip=>(ip.1,ip.2,ops[ip.1]?)) done=true→∀i p,(i,p)∈l→Kw ops i=true→p=false
 | [],_,_,_,_,h,_=>by cases h
 | (j,q)::r,done,h,i,p,hm,hl=>by
  simp only[List.map_cons]at h
  cases ho:ops[j]? with
  | none=>rw[ho]at h;cases h
  | some o=>
   rw[ho]at h
   simp only[xw,Bool.and_eq_true,Bool.not_eq_true']at h
   rcases List.mem_cons.1 hm with h1|h1
   ·cases h1
    cases q with
    | false=>rfl
    | true=>have:=h.1.2;simp only[Bool.and_eq_true,Bool.not_eq_true',hl]at this;cases this.1
   ·exact dS h.2 i p h1 hl
def kv (l:List (Nat × Bool)):List En:=l.map fun x=>(x.1,x.2,none)
theorem Re:∀l:List (Nat × Bool),VZ (kv l)=l
 | []=>rfl
 | x::r=>congrArg (x::·) (Re r)
theorem dU:∀l,early (kv l)=[]
 | []=>rfl
 | (_,_)::r=>dU r
theorem Rg:∀l,blocks (kv l)=[]
 | []=>rfl
 | (_,_)::r=>Rg r
theorem dV:∀l,V0 (kv l)=l.length
 | []=>rfl
 | (_,_)::r=>by show V0 (kv r)+1=_;rw[dV r];rfl
theorem Mu {l:List (Nat × Bool)} {i:Nat} {p:Bool} {q:Option Nat} (h:(i,p,q)∈kv l):(i,p)∈l∧q=none:=by
 obtain⟨x,hx,e⟩:=List.mem_map.1 h
 cases e;exact⟨hx,rfl⟩
theorem dW {L:Zh} (hL:Zw P L) (QJ:base≤w0.w.heap.size) {id:Nat} {ops:Array Oper} {Q:Exit→St→Prop} {s:St} (hm:P.follows .mixedOrders=true) (l:List (Nat × Bool)) (R:List Nat) (hB:xD nc L ops l R=true) (hU:xC ops s.fr=true) (h:AX P base nt w0 (xA nc P base nt w0 ops (fun s=>Q .normal s) R.length R (l.map (·.1))) (JW nc ops l) s):A P base nt w0 (.region id ops true) Q s:=by
 intro Z z pl a w r b
 simp only[xD,Bool.and_eq_true]at hB
 obtain⟨⟨⟨⟨⟨⟨⟨b1,b2⟩,b3⟩,b4⟩,b5⟩,b6⟩,b7⟩,b8⟩:=hB
 obtain⟨c1,c2⟩:=Mt b7
 have hlen:=Nat.eq_of_beq_eq_true b2
 have M:Marks ops (Array.replicate ops.size false) []:=⟨by simp,fun j hj=>by simp [hj],fun j=>by
  rcases Nat.lt_or_ge j ops.size with h'|h'
  ·simp [h']
  ·simp [h'],fun j hj=>by cases hj⟩
 have b':JB Z base w0 s.h pl { w with drawn:=w.drawn+1 }:=⟨⟨b.1.os,b.1.tape,b.1.output,b.1.size,b.1.block⟩,⟨b.2.1.JP,b.2.1.obj,b.2.1.shape⟩,⟨b.2.2.new,b.2.2.own⟩⟩
 have I:zo nc P L ops R base nt w0 Z Z (kv l) [] (Array.replicate ops.size false) s pl a { w with drawn:=w.drawn+1 }:=by
  refine⟨by rw[Re];exact b4,fun j hj _=>?_,fun j hj=>⟨by simp,by have:=(c2 j hj).1;simpa [Vk,kv] using this,(c2 j hj).2⟩,by rw[dU];exact M,fun i p b h=>?_,fun i p q h hl=>dS b4 i p (Mu h).1 hl,fun b=>by rw[Rg];simp,fun i p b h=>?_,by rw[Rg];exact List.nodup_nil,fun i p q h hl o d ho hd=>QdR hU i o d hl ho hd,r.ext fun _ _=>rfl,b',fun i p b h=>?_⟩
  ·have:=de b3 j hj
   simpa [Vk,kv] using this
  ·cases (Mu h).2
  ·cases (Mu h).2
  ·cases (Mu h).2
 have:=QdH hL b1 QJ (QdP b5) (QdS hL b6) c1 b8 _ (kv l) [] _ s pl a _ Z (Nat.le_refl _) I (fun j=>by simp [Vk,kv]) (by rw[Re];exact h)
 rw[dV,hlen]at this
 exact wp_region_any hm (Mb (fun a w hn=>hn) _ _ _ _ this)
theorem QdT {L:Zh} (hL:Zw P L) (QJ:base≤w0.w.heap.size) {id:Nat} {ops:Array Oper} {Q:Exit→St→Prop} {s:St} (hm:P.follows .mixedOrders=true) (l:List (Nat × Bool)) (hB:Rc L ops l=true) (hU:xC ops s.fr=true) (h:AX P base nt w0 (fun s=>Q .normal s) (JW [] ops l) s):A P base nt w0 (.region id ops true) Q s:=
 dW hL QJ hm l [] hB hU h
theorem QdU {L:Zh} (hL:Zw P L) (QJ:base≤w0.w.heap.size) {id:Nat} {ops:Array Oper} {Q:Exit→St→Prop} {k:List Item} {s:St} (hm:P.follows .mixedOrders=true) (l:List (Nat × Bool)) (hB:Rc L ops l=true) (hU:xC ops s.fr=true) (h:AX P base nt w0 (fun s=>Qs P base nt w0 Q k .normal s) (JW [] ops l) s):Qs P base nt w0 Q (.code (.region id ops true)::k) .normal s:=by
 simp only[Qs]
 exact QdT hL QJ hm l hB hU h
theorem dX {L:Zh} (hL:Zw P L) (QJ:base≤w0.w.heap.size) {id:Nat} {ops:Array Oper} {Q:Exit→St→Prop} {k:List Item} {s:St} (hm:P.follows .mixedOrders=true) (l:List (Nat × Bool)) (R:List Nat) (hB:xD nc L ops l R=true) (hU:xC ops s.fr=true) (h:AX P base nt w0 (xA nc P base nt w0 ops (fun s=>Qs P base nt w0 Q k .normal s) R.length R (l.map (·.1))) (JW nc ops l) s):Qs P base nt w0 Q (.code (.region id ops true)::k) .normal s:=by
 simp only[Qs]
 exact dW hL QJ hm l R hB hU h
end
section
variable (P:Program) (base:Nat) (w0:Start) (X:Cx) (nt:Nat)
def BD (pu:Bool) (o:Oper) (F:St→Prop) (stop:Prop) (s:St):Prop:=match zg X s o.op with
 | some (p,d)=>p∧Zo nt o.dst=true∧F ⟨Ze s.fr o.dst d,s.h⟩
 | none=>match pu with
  | true=>False
  | false=>match jg X s o.op with
   | some (p,h,d)=>p∧Zo nt o.dst=true∧F ⟨Ze s.fr o.dst d,h⟩
   | none=>stop
def jk (K:St→Prop):List (Bool × Oper × G)→St→Prop
 | [],s=>K s
 | (pu,o,g)::r,s=>match g with
  | none=>BD X nt pu o (jk K r) (AX P base nt w0 K ((pu,o,none)::r) s) s
  | some (none,_)=>Zo nt o.dst=true∧jk K r ⟨Ze s.fr o.dst (.raw Go.undef),s.h⟩
  | some (some t,b)=>match get s.fr t with
   | .raw (.bool x)=>(xo b x=true→BD X nt pu o (jk K r) (AX P base nt w0 K ((pu,o,none)::r) ⟨put s.fr t (.raw (.bool b)),s.h⟩) ⟨put s.fr t (.raw (.bool b)),s.h⟩) ∧
     (xo b x=false→Zo nt o.dst=true∧jk K r ⟨Ze (put s.fr t (.raw (.bool (!b)))) o.dst (.raw Go.undef),s.h⟩)
   | .raw (.tuple _)=>Zo nt o.dst=true∧jk K r ⟨Ze s.fr o.dst (.raw Go.undef),s.h⟩
   | _=>False
end
section
variable {nc:List Nat} {P:Program} {base nt:Nat} {w0:Start}
theorem QdV {X:Cx} (hX:W0 P X) (QJ:base≤w0.w.heap.size) {pu:Bool} {o:Oper} {F F':St→Prop} {stop:Prop} {s:St} (hF:∀s,F s→F' s) (QdW:stop→K8 P base nt w0 pu o F' s) (h:BD X nt pu o F stop s):K8 P base nt w0 pu o F' s:=by
 unfold BD at h
 split at h
 ·rename_i p d hp
  have ok:=cM (P:=P) (base:=base) (nt:=nt) hX hp h.1
  have hk:=hF _ h.2.2
  cases pu with
  | true=>
   refine⟨d,ok,fun Gf=>?_,h.2.1,hk⟩
   unfold vN at Gf
   split at Gf
   ·rename_i t x ho
    simp only[zg,ho]at hp
    exact bF hX.L ho hp h.1
   ·cases Gf
  | false=>
   have hl:W4 o=false:=by
    cases hl:W4 o with
    | false=>rfl
    | true=>
     unfold W4 at hl
     cases ho:o.op<;>rw[ho]at hl<;>first|cases hl|skip
     all_goals
      rw[ho]at hp
      simp [zg]at hp
   simp only[K8,hl]
   intro Z z pl a w r b
   obtain⟨v,hv,QV⟩:=ok Z pl a w r
   unfold Oper.wp
   rw[QV w fun _ _=>rfl]
   simp only[Oper.upon_value]
   refine⟨.ext (Ext.refl _),_,_,pl,v,hk,?_,b,Tr.refl _ _ _,rfl⟩
   cases hd:o.dst with
   | none=>exact r
   | some t=>have ht:=h.2.1;rw[hd]at ht;exact r.to (Tr.ext r.o fun _ _=>rfl) r.o (YN ht) hv
 ·split at h
  ·exact h.elim
  ·split at h
   ·rename_i p h' d hp
    have ok:=cO (P:=P) (base:=base) (nt:=nt) hX hp h.1
    have hk:=hF _ h.2.2
    have ht:=h.2.1
    cases hl:W4 o with
    | true=>
     unfold W4 at hl
     cases ho:o.op<;>rw[ho]at hl<;>first|cases hl|skip
     ·rename_i t
      simp only[ho,jg]at hp
      split at hp
      ·rename_i y hy
       simp only[Option.some.injEq,Prod.mk.injEq]at hp
       obtain⟨_,rfl,rfl⟩:=hp
       have hl:W4 o=true:=by simp [W4,ho]
       simp only[K8,hl]
       exact⟨_,_,dt hX.L ho hy,ht,hk⟩
      ·cases hp
     ·rename_i t rz
      cases rz with
      | some x=>cases hl
      | none=>
       simp only[ho,jg]at hp
       have hq:∃q,h'=s.h++[QG q 0 []]∧d=.mref s.h.length 0:=by
        unfold Dj at hp
        split at hp
        ·split at hp
         all_goals
          simp only[Option.some.injEq,Prod.mk.injEq]at hp
          obtain⟨_,rfl,rfl⟩:=hp
          exact⟨_,rfl,rfl⟩
        ·cases hp
       obtain⟨q,rfl,rfl⟩:=hq
       have hl:W4 o=true:=by simp [W4,ho]
       simp only[K8,hl]
       exact⟨_,_,dw ho q,ht,hk⟩
    | false=>
    simp only[K8,hl]
    intro Z z pl a w r b
    have dY:vO o=false:=by
     cases hi:vO o with
     | false=>rfl
     | true=>
      unfold vO at hi
      split at hi
      ·rename_i ho;simp [jg,ho]at hp
      ·cases hi
    obtain⟨v,w',Qi,QV,hT,hO,hv,hb,Bw⟩:=ok Z pl a w r (Nat.le_trans QJ b.1.size)
    have fin:∀u,u=v→Rel Z base nt ⟨Ze s.fr o.dst d,h'⟩ Qi (a.put o.dst u) w':=by
     rintro u rfl
     cases hd:o.dst with
     | none=>exact r.zY hT hO u
     | some t=>rw[hd]at ht;exact r.to hT hO (YN ht) hv
    unfold Oper.wp
    rcases QV with QV|⟨QV,hu⟩
    ·rw[QV]
     simp only[Oper.upon_value]
     exact⟨.mk (fun hc=>Bw (by simp only[xv,Bool.and_eq_true]at hc;exact hc.1)) dY,_,_,Qi,_,hk,fin v rfl,b.step hT hb,hT,rfl⟩
    ·rw[QV]
     simp only[Oper.upon_skip]
     exact⟨.mk (fun hc=>Bw (by simp only[xv,Bool.and_eq_true]at hc;exact hc.1)) dY,_,_,Qi,_,hk,fin _ hu.symm,b.step hT hb,hT,rfl⟩
   ·exact QdW h
theorem xE {X:Cx} (hX:W0 P X) (QJ:base≤w0.w.heap.size) {K:St→Prop}:∀(l:List (Bool × Oper × G)) (s:St),jk P base w0 X nt K l s→AX P base nt w0 K l s
 | [],s,h=>h
 | (pu,o,g)::r,s,h=>by
  have st:∀s,BD X nt pu o (jk P base w0 X nt K r) (AX P base nt w0 K ((pu,o,none)::r) s) s→K8 P base nt w0 pu o (AX P base nt w0 K r) s:=fun s hh=>
   QdV hX QJ (fun s=>xE hX QJ r s) (fun h=>h) hh
  simp only[jk]at h
  simp only[AX]
  split at h
  ·exact st s h
  ·exact⟨h.1,xE hX QJ r _ h.2⟩
  ·rename_i t b
   split at h
   ·rename_i x hx
    simp only[cP,beq_iff_eq,beq_eq_false_iff_ne,ne_eq]at h
    refine⟨fun e=>st _ (h.1 e),fun e=>?_⟩
    have:=h.2 (by rw[e];cases b<;>simp)
    exact⟨this.1,xE hX QJ r _ this.2⟩
   ·exact⟨h.1,xE hX QJ r _ h.2⟩
   ·exact h.elim
def Vt (d':D):D→Prop
 | .imm z n r=>match d' with
  | .imm z' n' r'=>z'=z∧n'=n∧∀i,i<n→r' i=r i
  | _=>False
 | .raw v=>d'=.raw v
 | .nil=>d'=.nil
 | .undef=>d'=.undef
 | .ip c=>d'=.ip c
 | .ref l g o n=>d'=.ref l g o n
 | .ptr l g i j=>d'=.ptr l g i j
 | .mref l g=>d'=.mref l g
 | .clo f n c=>d'=.clo f n c
 | .agg c=>d'=.agg c
 | .tup c=>d'=.tup c
def Xo:List D→List D→Prop
 | [],[]=>True
 | d'::r',d::r=>Vt d' d∧Xo r' r
 | _,_=>False
theorem QdX {N:Nat→Prop} {w:World} {d' d:D} {v:Value} (h:Vt d' d) (c:Cl N w d' v):Cl N w d v:=by
 cases d<;>simp only[Vt]at h
 case imm z n r=>
  split at h
  ·obtain⟨rfl,rfl,h⟩:=h
   cases c with
   | imm _ _ _ a cap b o vs ha hl hs hc hr=>
    exact .imm _ _ _ a cap b o vs ha hl (fun i hi=>by rw[← h i hi];exact hs i hi) hc (fun i j hi hj=>by rw[← h i hi];exact hr i j hi hj)
  ·exact h.elim
 all_goals subst h;exact c
theorem dZ:∀{Zx cs:List D},Xo Zx cs→Zx.length=cs.length∧∀i,i<cs.length→Vt (nth Zx i) (nth cs i)
 | [],[],_=>⟨rfl,fun i hi=>by simp at hi⟩
 | [],_::_,h=>h.elim
 | _::_,[],h=>h.elim
 | d'::r',d::r,h=>by
  obtain⟨h1,h2⟩:=dZ h.2
  refine⟨by simp [h1],fun i hi=>?_⟩
  cases i with
  | zero=>exact h.1
  | succ i=>have:=h2 i (by simpa using hi);simpa [nth] using this
theorem QdY {Z:Nat→Prop} {h:List Ob} {pl:List Pl} {w:World} {d' d:D} {v:Value} (e:Vt d' d) (r:Qv Z h pl w d' v):Qv Z h pl w d v:=by
 cases d<;>simp only[Vt]at e
 case imm z n r0=>
  split at e
  ·cases r with
   | cl _ _ hc=>exact .cl _ _ (QdX (d:=.imm z n r0) (by simpa only [Vt] using e) hc)
  ·exact e.elim
 all_goals subst e;exact r
theorem QH.args {P:Program} {f:FuncId} {F:List Ob} {Zx cs:List D} {R:D→List Ob→Prop} (h:QH P f F cs R) (e:Xo Zx cs):QH P f F Zx R:=fun Z base w pl vs h1 h2 h3 hl hc=>by
 obtain⟨e1,e2⟩:=dZ e
 exact h Z base w pl vs h1 h2 h3 (by omega) fun i hi=>QdY (e2 i hi) (hc i (by omega))
theorem Q8.args {P:Program} {f:FuncId} {Zx cs:List D} {R:D→List Ob→Prop} (h:Q8 P f cs R) (e:Xo Zx cs):Q8 P f Zx R:=QH.args h e
theorem Zt (QJ:base≤w0.w.heap.size) {K:St→Prop} {dst:Option Nat} {ty:TypeId} {pos:String} {after:Array Edge} {gd:Option (Nat × Bool)} {r:List (Bool × Oper × G)} {s:St} {x:Operand} {args:Array Operand} {ZY:Array TypeId} {f:FuncId} {nf:Nat} {QC:List D} (hf:Qp P f)
  (hx:Kb (Qq s.fr x)=some (f,nf,QC)) {cs:List D} (ZS:match jh (VY s.h 4) (Z8 nf QC (args.toList.map (Qq s.fr))) with|some (p,Zx)=>p∧Xo Zx cs|none=>False) {R:D→List Ob→Prop} (hF:Q8 P f cs R)
  (Br:∀d h,R d h→d.flat=true∧∀o∈h,o.flat) (ht:Zo nt dst=true) (hk:∀d h,R d h→AX P base nt w0 K r ⟨Ze s.fr dst (d.shift s.h.length),s.h++h.map (Ob.shift s.h.length)⟩) :
  AX P base nt w0 K ((false,⟨dst,.call ⟨.value x,args,ZY⟩,ty,pos,after,gd⟩,none)::r) s:=by
 simp only[AX,K8,W4]
 intro Z z pl a w rr b
 split at ZS
 ·rename_i p Zx hc
  obtain⟨hp,he⟩:=ZS
  have hF:=hF.args he
  refine Oper.wp_mono (fun a' w' ⟨he,d,h,Qi,hR,r',b',T,v,e⟩=>⟨fun _=>he,_,_,Qi,v,hk d h hR,r',b',T,e⟩) (cT QJ hf rfl hx hc hp hF Br ht pl a w rr b _)
 ·exact ZS.elim
theorem QE (QJ:base≤w0.w.heap.size) {Q:Exit→St→Prop} {k:List Item} {dst:Option Nat} {ty:TypeId} {pos:String} {after:Array Edge} {gd:Option (Nat × Bool)} {r:List (Oper × G)} {s:St} {x:Operand} {args:Array Operand} {ZY:Array TypeId} {f:FuncId} {nf:Nat} {QC:List D} (hf:Qp P f)
  (hx:Kb (Qq s.fr x)=some (f,nf,QC)) {cs:List D} (ZS:match jh (VY s.h 4) (Z8 nf QC (args.toList.map (Qq s.fr))) with|some (p,Zx)=>p∧Xo Zx cs|none=>False) {R:D→List Ob→Prop} (hF:Q8 P f cs R)
  (Br:∀d h,R d h→d.flat=true∧∀o∈h,o.flat) (ht:Zo nt dst=true) (hk:∀d h,R d h→Qs P base nt w0 Q (.ops r::k) .normal ⟨Ze s.fr dst (d.shift s.h.length),s.h++h.map (Ob.shift s.h.length)⟩) :
  Qs P base nt w0 Q (.ops ((⟨dst,.call ⟨.value x,args,ZY⟩,ty,pos,after,gd⟩,none)::r)::k) .normal s:=by
 simp only[Qs]at hk ⊢
 split at ZS
 ·rename_i p Zx hc
  obtain⟨hp,he⟩:=ZS
  have hF:=hF.args he
  exact Qdj QJ hf rfl hx hc hp hF Br ht hk
 ·exact ZS.elim
end
section
variable {nc:List Nat} {P:Program} {base nt:Nat} {w0:Start}
theorem K8.mono {pu:Bool} {o:Oper} {F F':St→Prop} (hF:∀s,F s→F' s) {s:St} (h:K8 P base nt w0 pu o F s):K8 P base nt w0 pu o F' s:=by
 cases pu with
 | true=>obtain⟨d,h1,h2,h3,h4⟩:=h;exact⟨d,h1,h2,h3,hF _ h4⟩
 | false=>
  simp only[K8]at h ⊢
  split at h
  ·obtain⟨ob,mk,h1,h2,h3⟩:=h;exact⟨ob,mk,h1,h2,hF _ h3⟩
  intro Z z pl a w r b
  exact Oper.wp_mono (fun a' w' ⟨he,d,h',Qi,v,h1,h2⟩=>⟨he,d,h',Qi,v,hF _ h1,h2⟩) (h Z z pl a w r b)
theorem AX.mono {K K':St→Prop} (hK:∀s,K s→K' s):∀(l:List (Bool × Oper × G)) (s:St),AX P base nt w0 K l s→AX P base nt w0 K' l s
 | [],s,h=>hK s h
 | (pu,o,g)::r,s,h=>by
  simp only[AX]at h ⊢
  split at h
  ·exact K8.mono (AX.mono hK r) h
  ·exact⟨h.1,AX.mono hK r _ h.2⟩
  ·split at h
   ·exact⟨fun e=>K8.mono (AX.mono hK r) (h.1 e),fun e=>⟨(h.2 e).1,AX.mono hK r _ (h.2 e).2⟩⟩
   ·exact⟨h.1,AX.mono hK r _ h.2⟩
   ·exact h.elim
end
end Go.Fg
namespace Go.Fg
theorem JC {α:Sort _} {a b:α} (h:a=b):a=b:=h
@[go_sem] theorem Qsk (a b:Nat):Nat.beq a b=(a==b):=by
 rw[Bool.eq_iff_iff];simp [Nat.beq_eq]
@[go_sem] theorem QdZ (a b:Nat):Nat.blt a b=decide (a<b):=by
 rw[Bool.eq_iff_iff];simp [Nat.blt_eq]
@[go_sem] theorem Gg (a b:Nat):Nat.ble a b=decide (a≤b):=by
 rw[Bool.eq_iff_iff];simp [Nat.ble_eq]
def hx (P:Program) (base:Nat) (w0:Start) (Q:Exit→St→Prop) (X:Cx) (nt n:Nat) (k:List Item) (s:St):Prop:=(exec X nt n k s).holds P base nt w0 Q
def hz (P:Program) (base:Nat) (w0:Start) (Q:Exit→St→Prop) (X:Cx) (nt n:Nat) (k:List Item) (s:St):Prop:=hx P base w0 Q X nt n k s
def Kx (b:Bool) (A B:Prop):Prop:=(b=true→A)∧(b=false→B)
def KU (b:Bool) (A:Prop):Prop:=b=true∧A
section
variable {P:Program} {base:Nat} {w0:Start} {Q:Exit→St→Prop} {X:Cx} {nt n:Nat} {k:List Item} {s:St}
@[go_sem ↓] theorem Qsl {B:Prop}:Kx true (hz P base w0 Q X nt n k s) B=hx P base w0 Q X nt n k s:=by simp [Kx,hz]
@[go_sem ↓] theorem Qsm {A:Prop}:Kx false A (hz P base w0 Q X nt n k s)=hx P base w0 Q X nt n k s:=by simp [Kx,hz]
theorem kx {b:Bool} {k':List Item} {s':St} (h1:b=true→hx P base w0 Q X nt n k s) (h2:b=false→hx P base w0 Q X nt n k' s'):Kx b (hz P base w0 Q X nt n k s) (hz P base w0 Q X nt n k' s'):=⟨h1,h2⟩
@[go_sem] theorem Qsn:hx P base w0 Q X nt (n+1) [] s=Q .normal s:=JC rfl
@[go_sem] theorem Qso {id:Nat}:hx P base w0 Q X nt (n+1) (.inBlock id::k) s=hx P base w0 Q X nt n k s:=JC rfl
@[go_sem] theorem Qsp:hx P base w0 Q X nt (n+1) (.code .skip::k) s=hx P base w0 Q X nt n k s:=JC rfl
@[go_sem] theorem Qsq {l:Nat}:hx P base w0 Q X nt (n+1) (.code (.label l)::k) s=hx P base w0 Q X nt n k s:=JC rfl
@[go_sem] theorem Qsr {a b:Code}:hx P base w0 Q X nt (n+1) (.code (.seq a b)::k) s=hx P base w0 Q X nt n (.code a::.code b::k) s:=JC rfl
@[go_sem] theorem Qss {id:Nat} {c:Code}:hx P base w0 Q X nt (n+1) (.code (.block id c)::k) s=hx P base w0 Q X nt n (.code c::.inBlock id::k) s:=JC rfl
@[go_sem] theorem Qst:hx P base w0 Q X nt (n+1) (.inScope::k) s=hx P base w0 Q X nt n k s:=JC rfl
@[go_sem] theorem Qsu {c:Code}:hx P base w0 Q X nt (n+1) (.code (.scope c)::k) s=hx P base w0 Q X nt n (.code c::.inScope::k) s:=JC rfl
@[go_sem] theorem Qsv {c:Operand} {a b:Code}:hx P base w0 Q X nt (n+1) (.code (.cond c a b)::k) s=(match Qq s.fr c with
  | .raw (.bool x)=>Kx x (hz P base w0 Q X nt n (.code a::k) s) (hz P base w0 Q X nt n (.code b::k) s)
  | _=>False):=by
 simp only[hx,exec]
 generalize Qq s.fr c=d
 cases d with
 | raw v=>cases v<;>rfl
 | _=>rfl
@[go_sem] theorem Qsw {id:Nat}:hx P base w0 Q X nt (n+1) (.code (.exit id)::k) s=(match XM id k with
  | some k'=>hx P base w0 Q X nt n k' s
  | none=>Q (.exit id) s):=by
 simp only[hx,exec]
 generalize XM id k=r
 cases r<;>rfl
@[go_sem] theorem Qsx:hx P base w0 Q X nt (n+1) (.code .ret::k) s=Q .ret s:=JC rfl
@[go_sem] theorem Qsy {id:Nat} {ops:Array Oper}:hx P base w0 Q X nt (n+1) (.code (.region id ops false)::k) s=hx P base w0 Q X nt n (.ops (km ops)::k) s:=JC rfl
@[go_sem] theorem Qsz {id:Nat} {ops:Array Oper}:hx P base w0 Q X nt (n+1) (.code (.region id ops true)::k) s=Qs P base nt w0 Q (.code (.region id ops true)::k) .normal s:=JC rfl
@[go_sem] theorem QsA {c:Code}:hx P base w0 Q X nt (n+1) (.code (.loop c)::k) s=Qs P base nt w0 Q (.code (.loop c)::k) .normal s:=JC rfl
@[go_sem] theorem QsB:hx P base w0 Q X nt (n+1) (.ops []::k) s=hx P base w0 Q X nt n k s:=JC rfl
@[go_sem ↓] theorem QsC {A:Prop}:KU true A=A:=by simp [KU]
@[go_sem] theorem QsD {o:Oper} {r:List (Oper × G)}:hx P base w0 Q X nt (n+1) (.ops ((o,none)::r)::k) s=(match zg X s o.op with
  | some (p,d)=>p∧(match Zo nt o.dst with|true=>hx P base w0 Q X nt n (.ops r::k) ⟨Ze s.fr o.dst d,s.h⟩|false=>False)
  | none=>match jg X s o.op with
   | some (p,h,d)=>p∧(match Zo nt o.dst with|true=>hx P base w0 Q X nt n (.ops r::k) ⟨Ze s.fr o.dst d,h⟩|false=>False)
   | none=>Qs P base nt w0 Q (.ops ((o,none)::r)::k) .normal s):=by
 simp only[hx,exec]
 generalize zg X s o.op=r1
 generalize jg X s o.op=r2
 cases r1 with
 | some pd=>cases Zo nt o.dst<;>simp [Tree.holds]
 | none=>cases r2 with
  | some phd=>cases Zo nt o.dst<;>simp [Tree.holds]
  | none=>rfl
theorem eh {o:Oper} {t:Nat} {b:Bool} {r:List (Oper × G)} (ht:Zo nt o.dst=true):hx P base w0 Q X nt (n+1) (.ops ((o,some (some t,b))::r)::k) s=(match get s.fr t with
  | .raw (.bool x)=>Kx (xo b x) (hz P base w0 Q X nt n (.ops ((o,none)::r)::k) ⟨put s.fr t (.raw (.bool b)),s.h⟩) (hz P base w0 Q X nt n (.ops r::k) ⟨Ze (put s.fr t (.raw (.bool (!b)))) o.dst (.raw Go.undef),s.h⟩)
  | .raw (.tuple _)=>hx P base w0 Q X nt n (.ops r::k) ⟨Ze s.fr o.dst (.raw Go.undef),s.h⟩
  | _=>False):=by
 simp only[hx,exec]
 generalize get s.fr t=d
 cases d with
 | raw v=>
  cases v with
  | bool x=>simp [Kx,hz,hx,ht,Tree.holds]
  | tuple vs=>simp [ht]
  | _=>rfl
 | _=>rfl
@[go_sem] theorem QsE {o:Oper} {t:Nat} {r:List (Oper × G)} (ht:Zo nt o.dst=true):hx P base w0 Q X nt (n+1) (.ops ((o,some (some t,true))::r)::k) s=(match get s.fr t with
  | .raw (.bool x)=>Kx x (hz P base w0 Q X nt n (.ops ((o,none)::r)::k) ⟨put s.fr t (.raw (.bool true)),s.h⟩) (hz P base w0 Q X nt n (.ops r::k) ⟨Ze (put s.fr t (.raw (.bool false))) o.dst (.raw Go.undef),s.h⟩)
  | .raw (.tuple _)=>hx P base w0 Q X nt n (.ops r::k) ⟨Ze s.fr o.dst (.raw Go.undef),s.h⟩
  | _=>False):=eh ht
@[go_sem] theorem QsF {o:Oper} {t:Nat} {r:List (Oper × G)} (ht:Zo nt o.dst=true):hx P base w0 Q X nt (n+1) (.ops ((o,some (some t,false))::r)::k) s=(match get s.fr t with
  | .raw (.bool x)=>Kx x (hz P base w0 Q X nt n (.ops r::k) ⟨Ze (put s.fr t (.raw (.bool true))) o.dst (.raw Go.undef),s.h⟩) (hz P base w0 Q X nt n (.ops ((o,none)::r)::k) ⟨put s.fr t (.raw (.bool false)),s.h⟩)
  | .raw (.tuple _)=>hx P base w0 Q X nt n (.ops r::k) ⟨Ze s.fr o.dst (.raw Go.undef),s.h⟩
  | _=>False):=by
 rw[eh ht]
 generalize get s.fr t=d
 cases d with
 | raw v=>
  cases v with
  | bool x=>cases x<;>simp [Kx,xo]
  | _=>rfl
 | _=>rfl
end
section
variable {P:Program} {base nt:Nat} {w0:Start} {Q:Exit→St→Prop} {k:List Item} {s:St} {I:Nat→St→Prop} {m:Nat}
@[go_sem] theorem QsG {e:Exit}:Qs P base nt w0 Q [] e s=Q e s:=JC rfl
@[go_sem] theorem QsH {x:Item}:Qs P base nt w0 Q (x::k) .ret s=Qs P base nt w0 Q k .ret s:=by cases x<;>rfl
@[go_sem] theorem QsI {c:Code} {j:Nat}:Qs P base nt w0 Q (.code c::k) (.exit j) s=Qs P base nt w0 Q k (.exit j) s:=JC rfl
@[go_sem] theorem QsJ {l:List (Oper × G)} {j:Nat}:Qs P base nt w0 Q (.ops l::k) (.exit j) s=Qs P base nt w0 Q k (.exit j) s:=JC rfl
@[go_sem] theorem QsK {id:Nat}:Qs P base nt w0 Q (.inBlock id::k) (.exit id) s=Qs P base nt w0 Q k .normal s:=by simp [Qs]
@[go_sem] theorem QsL {id j:Nat} (h:(j==id)=false):Qs P base nt w0 Q (.inBlock id::k) (.exit j) s=Qs P base nt w0 Q k (.exit j) s:=by
 have:¬ j=id:=by simpa using h
 simp [Qs,this]
@[go_sem] theorem QsM {id:Nat}:Qs P base nt w0 Q (.inBlock id::k) .normal s=Qs P base nt w0 Q k .normal s:=JC rfl
@[go_sem] theorem QsN {j:Nat}:Qs P base nt w0 Q (.inScope::k) (.exit j) s=Qs P base nt w0 Q k (.exit j) s:=JC rfl
@[go_sem] theorem QsO:Qs P base nt w0 Q (.inScope::k) .normal s=Qs P base nt w0 Q k .normal s:=JC rfl
@[go_sem] theorem QsP:L6 P base nt w0 Q k I m .normal s=∃m' s',m'<m∧Qk w0 s s'∧I m' s':=JC rfl
@[go_sem] theorem QsQ {j:Nat}:L6 P base nt w0 Q k I m (.exit j) s=Qs P base nt w0 Q k (.exit j) s:=JC rfl
@[go_sem] theorem QsR:L6 P base nt w0 Q k I m .ret s=Qs P base nt w0 Q k .ret s:=JC rfl
end
attribute [go_sem] km guardOf strip Qq get put Ze Zo VU ZT zg jg XM xo
 Ld IY IZ La Lb yF yG Lc Pg IntKind.same Bd mk TK.agg Db Le Lf Dc Lg Lh Lj Lk
 z7 jY setRow FF FH vF Lz Dh ze j7 LA Ya LC LF xk Bl cat XI VW nth D.there Jx Px
 Z8 jh VY Kb xp one yY D.shift zj Ob.shift zk D.ko D.flat kp D.upto zl Bu Bv vM kr Dr Kd.A5 Kd.ty Kd.ro Kd.F1 Kd.toRo
attribute [go_sem] List.map_cons List.map_nil List.getElem?_toArray List.getElem?_cons_zero List.getElem?_cons_succ List.getElem?_nil Option.bind_some Option.bind_none Option.map_some Option.map_none List.length_cons List.length_nil List.cons_append List.nil_append List.append_nil
 List.all_cons List.all_nil List.take_zero List.take_succ_cons List.take_nil List.drop_zero List.drop_succ_cons List.drop_nil List.set_cons_zero List.set_cons_succ List.getD_cons_zero List.getD_cons_succ List.replicate_zero List.replicate_succ List.flatten_cons List.flatten_nil
 cond_true cond_false Bool.not_true Bool.not_false Bool.and_true Bool.true_and Bool.and_false Bool.false_and Bool.or_true Bool.true_or Bool.or_false Bool.false_or beq_self_eq_true decide_true decide_false true_and and_true false_and and_false
 implies_true forall_const reduceCtorEq List.toList_toArray Int.toNat_natCast Int.natCast_nonneg Int.ofNat_lt Int.ofNat_le Int.ofNat_inj Nat.zero_add Nat.add_zero Nat.le_refl Nat.zero_le Option.some.injEq Prod.mk.injEq
theorem BE {P:Program} {base nt:Nat} {w0:Start} {Q:Exit→St→Prop} {X:Cx} (hX:W0 P X) (hb:base≤w0.w.heap.size) (n:Nat) {k:List Item} {s:St} (h:hx P base w0 Q X nt n k s):Qs P base nt w0 Q k .normal s:=Yc hX hb n k s h
theorem Qd1 {P:Program} {X:Cx} (hX:W0 P X) {f:FuncId} {fn:Func} {c:Code} (n:Nat) (hf:P.funcs[f]? = some fn) (hb:fn.body=some c) {args:List D} {R:D→List Ob→Prop} {nt:Nat} {rs:Array ResultVar} (qx:fn.ntmps=nt) (jl:fn.results=rs) (hn:Nat.ble args.length nt=true)
  (h:∀(base:Nat) (w:World),base≤w.heap.size→hx P base ⟨w,[],[]⟩ (yY X.L rs.toList R) X nt n [.code c] ⟨zk args 0,[]⟩):Q8 P f args R:=
 cY hX n hf hb qx (Nat.le_of_ble_eq_true hn) (by
  subst jl
  intro base w pl hb hl
  cases pl with
  | nil=>exact h base w hb
  | cons _ _=>simp at hl)
theorem QX {P:Program} {X:Cx} (hX:W0 P X) {f:FuncId} {fn:Func} {c:Code} (n:Nat) (hf:P.funcs[f]? = some fn) (hb:fn.body=some c) {F:List Ob} {args:List D} {R:D→List Ob→Prop} {nt:Nat} {rs:Array ResultVar} (qx:fn.ntmps=nt) (jl:fn.results=rs) (hn:Nat.ble args.length nt=true)
  (h:∀(base:Nat) (w:World) (pl:List Pl),base≤w.heap.size→hx P base ⟨w,F,pl⟩ (yY X.L rs.toList R) X nt n [.code c] ⟨zk args 0,F⟩):QH P f F args R:=
 cY hX n hf hb qx (Nat.le_of_ble_eq_true hn) (by subst jl;exact fun base w pl hb _=>h base w pl hb)
theorem QW.take {Z:Nat→Prop} {base:Nat} {h:List Ob} {pl:List Pl} {w:World} (R:QW Z base h pl w) (k:Nat) (h2:vM k (h.take k)):QW Z base (h.take k) (pl.take k) w:=by
 have Q4:∀(l:Nat) (p:Pl),(pl.take k)[l]? = some p→pl[l]? = some p:=fun l p e=>by
  rw[List.getElem?_take]at e;split at e
  ·exact e
  ·cases e
 have hh:∀(l:Nat) (o:Ob),(h.take k)[l]? = some o→h[l]? = some o:=fun l o e=>by
  rw[List.getElem?_take]at e;split at e
  ·exact e
  ·cases e
 refine⟨by simp [R.len],fun l l' b q q' e1 e2=>R.inj l l' b q q' (Q4 _ _ e1) (Q4 _ _ e2),fun l o ho hp=>R.J2 l o (hh _ _ ho) (Q4 _ _ hp),fun l o b q ho hp=>?_⟩
 obtain⟨g1,x⟩:=R.at_ l o b q (hh _ _ ho) (Q4 _ _ hp)
 exact⟨g1,x.to rfl rfl rfl rfl (fun _ _=>rfl) fun i j v hi hj hr=>hr.take (Ds (P0 h2 l o ho i hi) j hj)⟩
def Kept (k:Nat) (R:D→List Ob→Prop) (d:D) (h:List Ob):Prop:=d.upto k=true∧vM k (h.take k)∧R d (h.take k)
theorem Qd2 {pl:List Pl} {k b:Nat} (h:Vh pl b):Vh (pl.take k) b:=fun l q e=>by
 rw[List.getElem?_take]at e;split at e
 ·exact h l q e
 ·cases e
theorem QH.take {P:Program} {f:FuncId} {F:List Ob} {args:List D} {R:D→List Ob→Prop} (k:Nat) (hk:F.length≤k) (h:QH P f F args (Kept k R)):QH P f F args R:=fun Z base w pl vs h1 h2 h3 hl hc=>
 (h Z base w pl vs h1 h2 h3 hl hc).mono fun _ _ ⟨v,d,hh,Qi,k1,⟨a1,a2,a3⟩,k3,k4,k5,k6⟩=>⟨v,d,hh.take k,Qi.take k,k1,a3,k3.take k a2,k4.take a1,
  k5.keep hk ⟨fun _ hb=>Qd2 hb,fun l o p hl ho hp=>⟨o,by rw[List.getElem?_take,if_pos hl];exact ho,by rw[List.getElem?_take,if_pos hl];exact hp,rfl,rfl,rfl⟩⟩,k6⟩
theorem Zb (k:Nat) {P:Program} {X:Cx} (hX:W0 P X) {f:FuncId} {fn:Func} {c:Code} (n:Nat) (hf:P.funcs[f]? = some fn) (hb:fn.body=some c) {args:List D} {R:D→List Ob→Prop} {nt:Nat} {rs:Array ResultVar} (qx:fn.ntmps=nt) (jl:fn.results=rs) (hn:Nat.ble args.length nt=true)
  (h:∀(base:Nat) (w:World),base≤w.heap.size→hx P base ⟨w,[],[]⟩ (yY X.L rs.toList (Kept k R)) X nt n [.code c] ⟨zk args 0,[]⟩):Q8 P f args R:=
 QH.take k (Nat.zero_le _) (Qd1 hX n hf hb qx jl hn h)
attribute [go_sem] Kept
theorem ei {k:Nat}:∀{h h':List Ob},kr h h'→vM k h'→vM k h
 | [],[],_,_=>trivial
 | [],_::_,h,_=>h.elim
 | _::_,[],h,_=>h.elim
 | _::_,_::_,h,h2=>⟨fun i hi=>by rw[← h.1.2.2.2.2 i hi];exact h2.1 i (by rw[h.1.2.2.1];exact hi),ei h.2 h2.2⟩
theorem Wk.to {m:Nat} (k:Nat) {fr fr':List (Nat × D)} {h h':List Ob} (hw:Bu fr fr'∧Bv k fr'=true∧vM k h'∧kr (h.take k) h') (hm:m≤k:=by exact Nat.le_of_ble_eq_true rfl):Wk m ⟨fr,h⟩ ⟨fr',h'⟩:=
 Wk.trans (Wk.frame hw.1) (Wk.trans (Wk.drop k hm hw.2.1 (ei hw.2.2.2 hw.2.2.1)) (Wk.y0 hw.2.2.2))
theorem Qk.to {w0:Start} (k:Nat) {fr fr':List (Nat × D)} {h h':List Ob} (hw:Bu fr fr'∧Bv k fr'=true∧vM k h'∧kr (h.take k) h') (hm:w0.F.length≤k:=by exact Nat.le_of_ble_eq_true rfl):Qk w0 ⟨fr,h⟩ ⟨fr',h'⟩:=(Wk.to k hw hm).up
theorem Qk.frame {w0:Start} {fr fr':List (Nat × D)} {h:List Ob} (hf:Bu fr fr'):Qk w0 ⟨fr,h⟩ ⟨fr',h⟩:=(Wk.frame hf).up
theorem Qk.wV {w0:Start} {fr:List (Nat × D)} {h:List Ob} (t sz:Nat) (row:Nat→List D) (ht:get fr t=.nil):Qk w0 ⟨fr,h⟩ ⟨put fr t (.ref h.length 0 0 0),h++[⟨.arr,0,sz,0,row⟩]⟩:=(Wk.wV t sz row ht).up
def eo {α:Type} [Inhabited α] (sz:Nat) (enc:α→List D) (l:List α) (d:D) (h:List Ob):Prop:=∃g,d=.ref 0 g 0 l.length∧h=[⟨.arr,g,sz,l.length,fun i=>enc (l.getD i default)⟩]
theorem eo.flat {α:Type} [Inhabited α] {sz:Nat} {enc:α→List D} {l:List α} (he:∀x,kp (enc x)=true):∀d h,eo sz enc l d h→d.flat=true∧∀o∈h,o.flat:=by
 rintro d h ⟨g,rfl,rfl⟩
 exact⟨rfl,fun o ho=>by simp at ho;subst ho;exact fun i _=>he _⟩
def Mv (P:Program) (base:Nat) (w0:Start) (Q:Exit→St→Prop) (X:Cx) (nt n:Nat) (k:List Item) (s:St):Prop:=hx P base w0 Q X nt n k s
def Jh (P:Program) (base:Nat) (w0:Start) (X:Cx) (nt:Nat) (K:St→Prop) (l:List (Bool × Oper × G)) (s:St):Prop:=jk P base w0 X nt K l s
def W5 (P:Program) (base:Nat) (w0:Start) (X:Cx) (nt:Nat) (K:St→Prop) (l:List (Bool × Oper × G)) (s:St):Prop:=Jh P base w0 X nt K l s
section
variable {nc:List Nat} {P:Program} {base:Nat} {w0:Start} {Q:Exit→St→Prop} {X:Cx} {nt n:Nat} {k:List Item} {s:St} {l:List (Bool × Oper × G)} {K:St→Prop}
@[go_sem ↓] theorem QsS {B:Prop}:Kx true (W5 P base w0 X nt K l s) B=Jh P base w0 X nt K l s:=by simp [Kx,W5]
@[go_sem ↓] theorem QsT {A:Prop}:Kx false A (W5 P base w0 X nt K l s)=Jh P base w0 X nt K l s:=by simp [Kx,W5]
theorem Gh {b:Bool} {l':List (Bool × Oper × G)} {s':St} (h1:b=true→Jh P base w0 X nt K l s) (h2:b=false→Jh P base w0 X nt K l' s'):Kx b (W5 P base w0 X nt K l s) (W5 P base w0 X nt K l' s'):=⟨h1,h2⟩
@[go_sem] theorem QsU:Jh P base w0 X nt K [] s=K s:=JC rfl
@[go_sem] theorem QsV:Mv P base w0 Q X nt n k s=hx P base w0 Q X nt n k s:=JC rfl
@[go_sem] theorem QsW {o:Oper} {r:List (Bool × Oper × G)}:Jh P base w0 X nt K ((true,o,none)::r) s=(match zg X s o.op with
  | some (p,d)=>p∧(match Zo nt o.dst with|true=>Jh P base w0 X nt K r ⟨Ze s.fr o.dst d,s.h⟩|false=>False)
  | none=>False):=by
 simp only[Jh,jk,BD]
 generalize zg X s o.op=r1
 cases r1 with
 | some pd=>cases Zo nt o.dst<;>simp
 | none=>rfl
@[go_sem] theorem QsX {o:Oper} {r:List (Bool × Oper × G)}:Jh P base w0 X nt K ((false,o,none)::r) s=(match zg X s o.op with
  | some (p,d)=>p∧(match Zo nt o.dst with|true=>Jh P base w0 X nt K r ⟨Ze s.fr o.dst d,s.h⟩|false=>False)
  | none=>match jg X s o.op with
   | some (p,h,d)=>p∧(match Zo nt o.dst with|true=>Jh P base w0 X nt K r ⟨Ze s.fr o.dst d,h⟩|false=>False)
   | none=>AX P base nt w0 K ((false,o,none)::r) s):=by
 simp only[Jh,jk,BD]
 generalize zg X s o.op=r1
 generalize jg X s o.op=r2
 cases r1 with
 | some pd=>cases Zo nt o.dst<;>simp
 | none=>cases r2 with
  | some phd=>cases Zo nt o.dst<;>simp
  | none=>rfl
theorem eu {pu:Bool} {o:Oper} {t:Nat} {b:Bool} {r:List (Bool × Oper × G)} (ht:Zo nt o.dst=true):Jh P base w0 X nt K ((pu,o,some (some t,b))::r) s=(match get s.fr t with
  | .raw (.bool x)=>Kx (xo b x) (W5 P base w0 X nt K ((pu,o,none)::r) ⟨put s.fr t (.raw (.bool b)),s.h⟩) (W5 P base w0 X nt K r ⟨Ze (put s.fr t (.raw (.bool (!b)))) o.dst (.raw Go.undef),s.h⟩)
  | .raw (.tuple _)=>Jh P base w0 X nt K r ⟨Ze s.fr o.dst (.raw Go.undef),s.h⟩
  | _=>False):=by
 simp only[Jh,W5,jk]
 generalize get s.fr t=d
 cases d with
 | raw v=>
  cases v with
  | bool x=>simp [Kx,ht]
  | tuple vs=>simp [ht]
  | _=>rfl
 | _=>rfl
@[go_sem] theorem QsY {pu:Bool} {o:Oper} {t:Nat} {r:List (Bool × Oper × G)} (ht:Zo nt o.dst=true):Jh P base w0 X nt K ((pu,o,some (some t,true))::r) s=(match get s.fr t with
  | .raw (.bool x)=>Kx x (W5 P base w0 X nt K ((pu,o,none)::r) ⟨put s.fr t (.raw (.bool true)),s.h⟩) (W5 P base w0 X nt K r ⟨Ze (put s.fr t (.raw (.bool false))) o.dst (.raw Go.undef),s.h⟩)
  | .raw (.tuple _)=>Jh P base w0 X nt K r ⟨Ze s.fr o.dst (.raw Go.undef),s.h⟩
  | _=>False):=eu ht
@[go_sem] theorem QsZ {pu:Bool} {o:Oper} {t:Nat} {r:List (Bool × Oper × G)} (ht:Zo nt o.dst=true):Jh P base w0 X nt K ((pu,o,some (some t,false))::r) s=(match get s.fr t with
  | .raw (.bool x)=>Kx x (W5 P base w0 X nt K r ⟨Ze (put s.fr t (.raw (.bool true))) o.dst (.raw Go.undef),s.h⟩) (W5 P base w0 X nt K ((pu,o,none)::r) ⟨put s.fr t (.raw (.bool false)),s.h⟩)
  | .raw (.tuple _)=>Jh P base w0 X nt K r ⟨Ze s.fr o.dst (.raw Go.undef),s.h⟩
  | _=>False):=by
 rw[eu ht]
 generalize get s.fr t=d
 cases d with
 | raw v=>
  cases v with
  | bool x=>cases x<;>simp [Kx,xo]
  | _=>rfl
 | _=>rfl
theorem QA {id:Nat} {ops:Array Oper} (hX:W0 P X) (hb:base≤w0.w.heap.size) (n:Nat) (hm:P.follows .mixedOrders=true) (l:List (Nat × Bool)) (hB:Rc X.L ops l=true) (hU:xC ops s.fr=true) (h:Jh P base w0 X nt (Mv P base w0 Q X nt n k) (JW [] ops l) s):Qs P base nt w0 Q (.code (.region id ops true)::k) .normal s:=
 QdU hX.L hb hm l hB hU (AX.mono (fun s hs=>BE hX hb n hs) _ _ (xE hX hb _ _ h))
theorem Qd3 (hX:W0 P X) (hb:base≤w0.w.heap.size) (h:Jh P base w0 X nt K l s):AX P base nt w0 K l s:=xE hX hb _ _ h
abbrev vR:=Nat × Oper × G × List Nat
def BF:List Edge→List Nat
 | []=>[]
 | e::r=>bif Region.binds .any e then e.on::BF r else BF r
def Yf (nc:List Nat) (ops:Array Oper):List Nat→List vR
 | []=>[]
 | i::r=>match ops[i]? with
  | some o=>(i,Wi (Jy i nc) o,guardOf ops o,BF o.after.toList)::Yf nc ops r
  | none=>Yf nc ops r
def vS (i:Nat):List vR→List vR
 | []=>[]
 | e::r=>bif Nat.beq e.1 i then vS i r else e::vS i r
def DH (done:List Nat):List Nat→Bool
 | []=>true
 | i::r=>Jy i done&&DH done r
def Gi (F:vR→Prop):List vR→Prop
 | []=>True
 | e::r=>F e∧Gi F r
def y6 (P:Program) (base:Nat) (w0:Start) (X:Cx) (nt:Nat) (K:St→Prop):Nat→List vR→List Nat→St→Prop
 | 0,_,_,s=>K s
 | m+1,es,done,s=>Gi (fun e=>match DH done e.2.2.2 with
  | true=>Jh P base w0 X nt (y6 P base w0 X nt K m (vS e.1 es) (e.1::done)) [(false,e.2.1,e.2.2.1)] s
  | false=>True) es
theorem Rh {done:List Nat}:∀{l:List Edge},Yd done l=false→DH done (BF l)=true
 | [],_=>rfl
 | e::r,h=>by
  simp only[Yd,Bool.or_eq_false_iff,Bool.and_eq_false_iff,Bool.not_eq_false']at h
  simp only[BF]
  cases hb:Region.binds .any e
  ·exact Rh h.2
  ·simp only[cond_true,DH,Bool.and_eq_true]
   refine⟨h.1.resolve_left (by rw[hb];simp),Rh h.2⟩
theorem ez {F:vR→Prop}:∀{l:List vR},Gi F l→∀e∈l,F e
 | [],_,e,he=>by cases he
 | x::r,h,e,he=>by
  rcases List.mem_cons.1 he with rfl|he
  ·exact h.1
  ·exact ez h.2 e he
theorem Ri {ops:Array Oper} {i:Nat} {o:Oper} (ho:ops[i]? = some o):∀{R:List Nat},i∈R→(i,Wi (Jy i nc) o,guardOf ops o,BF o.after.toList)∈Yf nc ops R
 | [],h=>by cases h
 | j::r,h=>by
  simp only[Yf]
  rcases List.mem_cons.1 h with rfl|h
  ·rw[ho];exact List.mem_cons_self ..
  ·split
   ·exact List.mem_cons_of_mem _ (Ri ho h)
   ·exact Ri ho h
theorem Mw {ops:Array Oper} {i:Nat}:∀{R:List Nat},i ∉ R→vS i (Yf nc ops R)=Yf nc ops R
 | [],_=>rfl
 | j::r,h=>by
  simp only[List.mem_cons,not_or]at h
  simp only[Yf]
  split
  ·simp only[vS]
   have:Nat.beq j i=false:=by rw[← Bool.not_eq_true,Nat.beq_eq];exact fun e=>h.1 e.symm
   rw[this,cond_false,Mw h.2]
  ·exact Mw h.2
theorem Rj {ops:Array Oper} {i:Nat}:∀{R:List Nat},R.Nodup→vS i (Yf nc ops R)=Yf nc ops (R.erase i)
 | [],_=>rfl
 | j::r,h=>by
  obtain⟨h1,h2⟩:=List.nodup_cons.1 h
  by_cases JV:j=i
  ·subst JV
   rw[List.erase_cons_head]
   simp only[Yf]
   split
   ·simp only[vS,Nat.beq_refl,cond_true];exact Mw h1
   ·exact Mw h1
  ·rw[List.erase_cons_tail (by simpa using JV)]
   have hb:Nat.beq j i=false:=by rw[← Bool.not_eq_true,Nat.beq_eq];exact JV
   simp only[Yf]
   cases ho:ops[j]? with
   | some o=>simp only[vS,hb,cond_false,Rj h2]
   | none=>simp only[Rj h2]
theorem Rl (hX:W0 P X) (hb:base≤w0.w.heap.size) {ops:Array Oper} {K':St→Prop} (hK:∀s,K s→K' s):∀(m:Nat) (R done:List Nat) (s:St),R.Nodup→y6 P base w0 X nt K m (Yf nc ops R) done s→xA nc P base nt w0 ops K' m R done s
 | 0,_,_,s,_,h=>hK s h
 | m+1,R,done,s,hd,h=>by
  intro i hi o ho hh
  have h1:=ez h _ (Ri ho hi)
  simp only[Rh hh]at h1
  refine AX.mono (fun s hs=>Rl hX hb hK m (R.erase i) (i::done) s (hd.erase _) ?_) _ _ (xE hX hb _ _ h1)
  rw[← Rj hd];exact hs
theorem Wj (nc:List Nat) {id:Nat} {ops:Array Oper} (hX:W0 P X) (hb:base≤w0.w.heap.size) (n:Nat) (hm:P.follows .mixedOrders=true) (l:List (Nat × Bool)) (R:List Nat) (hB:xD nc X.L ops l R=true) (hU:xC ops s.fr=true)
  (h:Jh P base w0 X nt (y6 P base w0 X nt (Mv P base w0 Q X nt n k) R.length (Yf nc ops R) (l.map (·.1))) (JW nc ops l) s):Qs P base nt w0 Q (.code (.region id ops true)::k) .normal s:=by
 have hR:R.Nodup:=by
  simp only[xD,Bool.and_eq_true]at hB
  exact(Mt hB.1.2).1
 exact dX hX.L hb hm l R hB hU (AX.mono (fun s hs=>Rl hX hb (fun s hs=>BE hX hb n hs) _ _ _ s hR hs) _ _ (xE hX hb _ _ h))
theorem Qd4 {id:Nat} {ops:Array Oper} (hX:W0 P X) (hb:base≤w0.w.heap.size) (n:Nat) (hm:P.follows .mixedOrders=true) (l:List (Nat × Bool)) (R:List Nat) (hB:xD [] X.L ops l R=true) (hU:xC ops s.fr=true)
  (h:Jh P base w0 X nt (y6 P base w0 X nt (Mv P base w0 Q X nt n k) R.length (Yf [] ops R) (l.map (·.1))) (JW [] ops l) s):Qs P base nt w0 Q (.code (.region id ops true)::k) .normal s:=Wj [] hX hb n hm l R hB hU h
@[go_sem] theorem Qs0 {i:Nat}:Region.binds .any ⟨i,.data⟩=true:=rfl
@[go_sem] theorem Qs1 {i:Nat}:Region.binds .any ⟨i,.chain⟩=true:=rfl
@[go_sem] theorem Qs2 {i:Nat}:Region.binds .any ⟨i,.guard⟩=true:=rfl
@[go_sem] theorem Qs3 {i:Nat}:Region.binds .any ⟨i,.phase⟩=true:=rfl
@[go_sem] theorem Qs4 {i:Nat} {d:Departure}:Region.binds .any ⟨i,.textOnly d⟩=false:=rfl
@[go_sem] theorem Qs5 {i:Nat} {d:Departure}:Region.binds .any ⟨i,.gcOnly d⟩=false:=rfl
@[go_sem] theorem Qs6 {es:List vR} {d:List Nat}:y6 P base w0 X nt K 0 es d s=K s:=JC rfl
@[go_sem] theorem Qs7 {m:Nat} {es:List vR} {d:List Nat}:y6 P base w0 X nt K (m+1) es d s=Gi (fun e=>match DH d e.2.2.2 with
  | true=>Jh P base w0 X nt (y6 P base w0 X nt K m (vS e.1 es) (e.1::d)) [(false,e.2.1,e.2.2.1)] s
  | false=>True) es:=JC rfl
end
def Gj (P:Program) (base nt:Nat) (w0:Start) (Q:Exit→St→Prop) (k:List Item) (S:Nat→St→Prop) (N i:Nat):Exit→St→Prop
 | .normal,s=>i<N∧∃s',Qk w0 s s'∧S (i+1) s'
 | e,s=>Qs P base nt w0 Q k e s
section
variable {P:Program} {base nt:Nat} {w0:Start} {Q:Exit→St→Prop} {k:List Item} {s:St}
@[go_sem] theorem Qs8 {S:Nat→St→Prop} {N i:Nat}:Gj P base nt w0 Q k S N i .normal s=(i<N∧∃s',Qk w0 s s'∧S (i+1) s'):=JC rfl
@[go_sem] theorem Qs9 {S:Nat→St→Prop} {N i j:Nat}:Gj P base nt w0 Q k S N i (.exit j) s=Qs P base nt w0 Q k (.exit j) s:=JC rfl
@[go_sem] theorem Qta {S:Nat→St→Prop} {N i:Nat}:Gj P base nt w0 Q k S N i .ret s=Qs P base nt w0 Q k .ret s:=JC rfl
theorem Zv {c:Code} (S:Nat→St→Prop) (N:Nat) {s0:St} (hw:Qk w0 s s0) (h0:S 0 s0) (round:∀i s,i≤N→S i s→Qs P base nt w0 (Gj P base nt w0 Q k S N i) [.code c] .normal s):Qs P base nt w0 Q (.code (.loop c)::k) .normal s:=by
 refine Dt (fun m s=>∃i,i+m=N∧S i s) N hw ⟨0,by omega,h0⟩ ?_
 rintro m s ⟨i,hi,hs⟩
 have:=round i s (by omega) hs
 simp only[Qs]at this ⊢
 refine this.mono fun e s' he=>?_
 cases e with
 | normal=>obtain⟨h1,Bt,h2,h3⟩:=he;exact⟨m - 1,Bt,by omega,h2,i+1,by omega,h3⟩
 | _=>exact he
end
theorem Mx {P:Program} {base nt:Nat} {w0:Start} {Q:Exit→St→Prop} {l:List (Oper × G)} {k:List Item} {s s':St} (h:Qk w0 s s') (hk:Qs P base nt w0 Q (.ops l::k) .normal s'):Qs P base nt w0 Q (.ops l::k) .normal s:=by
 simp only[Qs]at hk ⊢;exact hk.LZ h
attribute [go_sem] Wi Yf BF vS DH Jy Gi JW Xo false_implies imp_self ne_eq not_false_eq_true not_true_eq_false Nat.one_ne_zero
@[go_sem] theorem Qtb (v:Value):D.JU (.raw v)=z7 v:=rfl
@[go_sem] theorem Qtc  : D.JU (.nil)=true:=rfl
@[go_sem] theorem Qtd  : D.JU (.undef)=false:=rfl
@[go_sem] theorem Qte (z n:Nat) (r:Nat→List D):D.JU (.imm z n r)=true:=rfl
@[go_sem] theorem Qtf (c:List D):D.JU (.ip c)=true:=rfl
@[go_sem] theorem Qtg (l g o n:Nat):D.JU (.ref l g o n)=true:=rfl
@[go_sem] theorem Qth (l g i j:Nat):D.JU (.ptr l g i j)=true:=rfl
@[go_sem] theorem Qti (l g:Nat):D.JU (.mref l g)=true:=rfl
@[go_sem] theorem Qtj (f:FuncId) (n:Nat) (c:List D):D.JU (.clo f n c)=true:=rfl
@[go_sem] theorem Qtk (c:List D):D.JU (.agg c)=false:=rfl
@[go_sem] theorem Qtl (c:List D):D.JU (.tup c)=false:=rfl
@[go_sem] theorem Qtm (v:Value):VV (.raw v)=bif D.JU (.raw v) then some [.raw v] else none:=rfl
@[go_sem] theorem Qtn  : VV (.nil)=bif D.JU (.nil) then some [.nil] else none:=rfl
@[go_sem] theorem Qto  : VV (.undef)=bif D.JU (.undef) then some [.undef] else none:=rfl
@[go_sem] theorem Qtp (z n:Nat) (r:Nat→List D):VV (.imm z n r)=bif D.JU (.imm z n r) then some [.imm z n r] else none:=rfl
@[go_sem] theorem Qtq (c:List D):VV (.ip c)=bif D.JU (.ip c) then some [.ip c] else none:=rfl
@[go_sem] theorem Qtr (l g o n:Nat):VV (.ref l g o n)=bif D.JU (.ref l g o n) then some [.ref l g o n] else none:=rfl
@[go_sem] theorem Qts (l g i j:Nat):VV (.ptr l g i j)=bif D.JU (.ptr l g i j) then some [.ptr l g i j] else none:=rfl
@[go_sem] theorem Qtt (l g:Nat):VV (.mref l g)=bif D.JU (.mref l g) then some [.mref l g] else none:=rfl
@[go_sem] theorem Qtu (f:FuncId) (n:Nat) (c:List D):VV (.clo f n c)=bif D.JU (.clo f n c) then some [.clo f n c] else none:=rfl
@[go_sem] theorem Qtv (c:List D):VV (.agg c)=bif c.all D.JU then some c else none:=rfl
@[go_sem] theorem Qtw (c:List D):VV (.tup c)=bif D.JU (.tup c) then some [.tup c] else none:=rfl
@[go_sem] theorem Qtx (d':D) (v:Value):Vt d' (.raw v)=(d'=.raw v):=rfl
@[go_sem] theorem Qty (d':D)  : Vt d' (.nil)=(d'=.nil):=rfl
@[go_sem] theorem Qtz (d':D)  : Vt d' (.undef)=(d'=.undef):=rfl
@[go_sem] theorem QtA (z' n' z n:Nat) (r' r:Nat→List D):Vt (.imm z' n' r') (.imm z n r)=(z'=z∧n'=n∧∀i,i<n→r' i=r i):=rfl
@[go_sem] theorem QtB (d':D) (c:List D):Vt d' (.ip c)=(d'=.ip c):=rfl
@[go_sem] theorem QtC (d':D) (l g o n:Nat):Vt d' (.ref l g o n)=(d'=.ref l g o n):=rfl
@[go_sem] theorem QtD (d':D) (l g i j:Nat):Vt d' (.ptr l g i j)=(d'=.ptr l g i j):=rfl
@[go_sem] theorem QtE (d':D) (l g:Nat):Vt d' (.mref l g)=(d'=.mref l g):=rfl
@[go_sem] theorem QtF (d':D) (f:FuncId) (n:Nat) (c:List D):Vt d' (.clo f n c)=(d'=.clo f n c):=rfl
@[go_sem] theorem QtG (d':D) (c:List D):Vt d' (.agg c)=(d'=.agg c):=rfl
@[go_sem] theorem QtH (d':D) (c:List D):Vt d' (.tup c)=(d'=.tup c):=rfl
end Go.Fg
namespace Go.Fg
open Go.RowKit (Below)
def pos (l:Nat):List Nat→Nat
 | []=>0
 | k::r=>bif Nat.beq k l then 0 else pos l r+1
mutual
def D.Vu (Qm:List Nat):D→D
 | .ref l g off len=>.ref (pos l Qm) g off len
 | .ptr l g i j=>.ptr (pos l Qm) g i j
 | .mref l g=>.mref (pos l Qm) g
 | .clo f nf cs=>.clo f nf (YP Qm cs)
 | .agg cs=>.agg (YP Qm cs)
 | .tup cs=>.tup (YP Qm cs)
 | d=>d
def YP (Qm:List Nat):List D→List D
 | []=>[]
 | c::cs=>c.Vu Qm::YP Qm cs
end
mutual
def D.ky (Qm:List Nat):D→Bool
 | .ref l _ _ _=>Jy l Qm
 | .ptr l _ _ _=>Jy l Qm
 | .mref l _=>Jy l Qm
 | .clo _ _ cs=>kB Qm cs
 | .agg cs=>kB Qm cs
 | .tup cs=>kB Qm cs
 | _=>true
def kB (Qm:List Nat):List D→Bool
 | []=>true
 | c::cs=>c.ky Qm&&kB Qm cs
end
theorem BG {l:Nat}:∀{Qm:List Nat},Jy l Qm=true→Qm[pos l Qm]? = some l
 | [],h=>by cases h
 | k::r,h=>by
  simp only[pos]
  by_cases e:k=l
  ·subst e;simp
  ·have h1:Nat.beq k l=false:=by rw[← Bool.not_eq_true,Nat.beq_eq];exact e
   have h2:Nat.beq l k=false:=by rw[← Bool.not_eq_true,Nat.beq_eq];exact fun x=>e x.symm
   simp only[Jy,h2,Bool.false_or]at h
   simp [h1,BG h]
theorem Yg (Qm:List Nat):∀cs:List D,(YP Qm cs).length=cs.length
 | []=>rfl
 | _::cs=>by simp [YP,Yg Qm cs]
theorem xF (Qm:List Nat):∀(cs:List D) (i:Nat),i<cs.length→nth (YP Qm cs) i=(nth cs i).Vu Qm
 | [],i,h=>by simp at h
 | c::cs,0,_=>by simp [YP,nth]
 | c::cs,i+1,h=>by
  have:=xF Qm cs i (by simpa using h)
  simpa [YP,nth] using this
theorem DI {Qm:List Nat}:∀{cs:List D},kB Qm cs=true→∀i,i<cs.length→(nth cs i).ky Qm=true
 | [],_,i,h=>by simp at h
 | d::r,hf,i,h=>by
  simp only[kB,Bool.and_eq_true]at hf
  cases i with
  | zero=>exact hf.1
  | succ i=>have:=DI hf.2 i (by simpa using h);simpa [nth] using this
def Ob.Vu (Qm:List Nat) (o:Ob):Ob:=⟨o.kd,o.gen,o.sz,o.n,fun i=>YP Qm (o.row i)⟩
def Wl (h:List Ob):List Nat→List Ob
 | []=>[]
 | i::r=>match h[i]? with
  | some o=>o::Wl h r
  | none=>[]
def Yh (pl:List Pl):List Nat→List Pl
 | []=>[]
 | i::r=>match pl[i]? with
  | some o=>o::Yh pl r
  | none=>[]
def Ky (n:Nat):List Nat→Bool
 | []=>true
 | i::r=>Nat.blt i n&&Ky n r
def kC:List Nat→Bool
 | []=>true
 | i::r=>!Jy i r&&kC r
theorem eA {n:Nat}:∀{l:List Nat},Ky n l=true→∀i∈l,i<n
 | [],_,i,h=>by cases h
 | k::r,h,i,hi=>by
  simp only[Ky,Bool.and_eq_true,Nat.blt_eq]at h
  rcases List.mem_cons.1 hi with e|e
  ·subst e;exact h.1
  ·exact eA h.2 i e
theorem eB:∀{l:List Nat},kC l=true→∀(i j x:Nat),l[i]? = some x→l[j]? = some x→i=j
 | [],_,i,j,x,h,_=>by simp at h
 | k::r,h,i,j,x,h1,h2=>by
  simp only[kC,Bool.and_eq_true,Bool.not_eq_true']at h
  have hk:k ∉ r:=fun hm=>by rw[qy.2 hm]at h;cases h.1
  cases i with
  | zero=>
   simp at h1;subst h1
   cases j with
   | zero=>rfl
   | succ j=>simp at h2;exact absurd (List.mem_of_getElem? h2) hk
  | succ i=>
   simp at h1
   cases j with
   | zero=>simp at h2;subst h2;exact absurd (List.mem_of_getElem? h1) hk
   | succ j=>simp at h2;rw[eB h.2 i j x h1 h2]
theorem BH {h:List Ob}:∀{Qm:List Nat},Ky h.length Qm=true→∀(i l:Nat),Qm[i]? = some l→(Wl h Qm)[i]? = h[l]?
 | [],_,i,l,e=>by simp at e
 | k::r,hb,i,l,e=>by
  simp only[Ky,Bool.and_eq_true,Nat.blt_eq]at hb
  simp only[Wl,List.getElem?_eq_getElem hb.1]
  cases i with
  | zero=>simp at e;subst e;simp [List.getElem?_eq_getElem hb.1]
  | succ i=>simp at e;simpa using BH hb.2 i l e
theorem kD {h:List Pl}:∀{Qm:List Nat},Ky h.length Qm=true→∀(i l:Nat),Qm[i]? = some l→(Yh h Qm)[i]? = h[l]?
 | [],_,i,l,e=>by simp at e
 | k::r,hb,i,l,e=>by
  simp only[Ky,Bool.and_eq_true,Nat.blt_eq]at hb
  simp only[Yh,List.getElem?_eq_getElem hb.1]
  cases i with
  | zero=>simp at e;subst e;simp [List.getElem?_eq_getElem hb.1]
  | succ i=>simp at e;simpa using kD hb.2 i l e
theorem My {h:List Ob}:∀{Qm:List Nat},Ky h.length Qm=true→(Wl h Qm).length=Qm.length
 | [],_=>rfl
 | k::r,hb=>by
  simp only[Ky,Bool.and_eq_true,Nat.blt_eq]at hb
  simp [Wl,List.getElem?_eq_getElem hb.1,My hb.2]
theorem DJ {h:List Pl}:∀{Qm:List Nat},Ky h.length Qm=true→(Yh h Qm).length=Qm.length
 | [],_=>rfl
 | k::r,hb=>by
  simp only[Ky,Bool.and_eq_true,Nat.blt_eq]at hb
  simp [Yh,List.getElem?_eq_getElem hb.1,DJ hb.2]
theorem Qv.Qm {Z Z':Nat→Prop} {h:List Ob} {pl:List Pl} {w:World} {Qm:List Nat} (hz:∀b,free Z pl b→Z' b) (hl:pl.length=h.length) (hb:Ky h.length Qm=true) {d:D} {v:Value} (r:Qv Z h pl w d v) (hk:d.ky Qm=true) :
  Qv Z' ((Wl h Qm).map (Ob.Vu Qm)) (Yh pl Qm) w (d.Vu Qm) v:=by
 have Wm:Ky pl.length Qm=true:=by rw[hl];exact hb
 have Wh:∀b,free Z pl b→free Z' (Yh pl Qm) b:=fun b hf=>⟨hz b hf,fun l q e=>by
  have Qd:l<Qm.length:=by rw[← DJ Wm];exact KN e
  rw[kD Wm l (Qm[l]) (List.getElem?_eq_getElem Qd)]at e
  exact hf.2 _ q e⟩
 have ZP:∀(d:D) (v:Value),Cl (free Z pl) w d v→Qv Z' ((Wl h Qm).map (Ob.Vu Qm)) (Yh pl Qm) w (d.Vu Qm) v:=by
  intro d v hc
  have qv:=hc.mono (N':=free Z' (Yh pl Qm)) (w':=w) (fun b hb _=>⟨Wh b hb,rfl⟩)
  clear hc
  induction qv with
  | raw v=>exact .cl _ _ (.raw v)
  | undef v=>exact .cl _ _ (.undef v)
  | nil a=>exact .cl _ _ (.nil a)
  | imm sz n row a cap b o vs ha hl hs hc hr ih=>exact .cl _ _ (.imm sz n row a cap b o vs ha hl hs hc hr)
  | ip cells b o vs hc hr ih=>exact .cl _ _ (.ip cells b o vs hc hr)
  | clo f nf cs vs hl hr ih=>exact .clo f nf _ vs (by rw[Yg];exact hl) (fun i hi=>by rw[Yg]at hi;rw[xF _ _ _ hi];exact ih i hi)
  | agg cs vs hl hr ih=>exact .agg _ vs (by rw[Yg];exact hl) (fun i hi=>by rw[Yg]at hi;rw[xF _ _ _ hi];exact ih i hi)
  | tup cs vs hl hr ih=>exact .tup _ vs (by rw[Yg];exact hl) (fun i hi=>by rw[Yg]at hi;rw[xF _ _ _ hi];exact ih i hi)
 induction r with
 | cl d v hc=>exact ZP d v hc
 | ref l g off len o p a cap ho hp jf hg hs=>
  have hm:Jy l Qm=true:=by simpa [D.ky] using hk
  exact .ref _ g off len (o.Vu Qm) p a cap (by rw[List.getElem?_map,BH hb _ l (BG hm),ho];rfl) (by rw[kD Wm _ l (BG hm),hp]) jf hg hs
 | ptr l g i j o p a ho hp jf hg hs=>
  have hm:Jy l Qm=true:=by simpa [D.ky] using hk
  exact .ptr _ g i j (o.Vu Qm) p a (by rw[List.getElem?_map,BH hb _ l (BG hm),ho];rfl) (by rw[kD Wm _ l (BG hm),hp]) jf hg hs
 | mref l g o p b ho hp jf hg hs=>
  have hm:Jy l Qm=true:=by simpa [D.ky] using hk
  exact .mref _ g (o.Vu Qm) p b (by rw[List.getElem?_map,BH hb _ l (BG hm),ho];rfl) (by rw[kD Wm _ l (BG hm),hp]) jf hg hs
 | clo f nf cs vs hl hr ih=>exact .clo f nf _ vs (by rw[Yg];exact hl) fun i hi=>by rw[Yg]at hi;rw[xF _ _ _ hi];exact ih i hi (DI (by simpa [D.ky] using hk) i hi)
 | agg cs vs hl hr ih=>exact .agg _ vs (by rw[Yg];exact hl) fun i hi=>by rw[Yg]at hi;rw[xF _ _ _ hi];exact ih i hi (DI (by simpa [D.ky] using hk) i hi)
 | tup cs vs hl hr ih=>exact .tup _ vs (by rw[Yg];exact hl) fun i hi=>by rw[Yg]at hi;rw[xF _ _ _ hi];exact ih i hi (DI (by simpa [D.ky] using hk) i hi)
def BI (Qm:List Nat):List Ob→Prop
 | []=>True
 | o::r=>(∀i,i<o.n→kB Qm (o.row i)=true)∧BI Qm r
theorem eC {Qm:List Nat}:∀{h:List Ob},BI Qm h→∀(l:Nat) (o:Ob),h[l]? = some o→∀i,i<o.n→kB Qm (o.row i)=true
 | [],_,l,o,e=>by simp at e
 | o::r,h,l,u,e=>by
  cases l with
  | zero=>simp at e;subst e;exact h.1
  | succ l=>simp at e;exact eC h.2 l u e
theorem QW.Qm {Z Z':Nat→Prop} {base:Nat} {h:List Ob} {pl:List Pl} {w:World} {Qm:List Nat} (R:QW Z base h pl w) (hz:∀b,free Z pl b→Z' b) (hb:Ky h.length Qm=true) (hd:kC Qm=true) (h2:BI Qm (Wl h Qm)) :
  QW Z' base ((Wl h Qm).map (Ob.Vu Qm)) (Yh pl Qm) w:=by
 have Wm:Ky pl.length Qm=true:=by rw[R.len];exact hb
 have Q4:∀(i:Nat) (p:Pl),(Yh pl Qm)[i]? = some p→∃l,Qm[i]? = some l∧pl[l]? = some p:=fun i p e=>by
  have Qd:i<Qm.length:=by rw[← DJ Wm];exact KN e
  exact⟨Qm[i],List.getElem?_eq_getElem Qd,by rw[← kD Wm i _ (List.getElem?_eq_getElem Qd)];exact e⟩
 have Q1:∀(i:Nat) (o:Ob),((Wl h Qm).map (Ob.Vu Qm))[i]? = some o→∃l u,Qm[i]? = some l∧h[l]? = some u∧o=u.Vu Qm∧(Wl h Qm)[i]? = some u:=fun i o e=>by
  rw[List.getElem?_map,Option.map_eq_some_iff]at e
  obtain⟨u,hu,rfl⟩:=e
  have Qd:i<Qm.length:=by rw[← My hb];exact Jv hu
  exact⟨Qm[i],u,List.getElem?_eq_getElem Qd,by rw[← BH hb i _ (List.getElem?_eq_getElem Qd)];exact hu,rfl,hu⟩
 refine⟨by rw[DJ Wm,List.length_map,My hb],fun i i' b q q' e1 e2=>?_,fun i o ho hp=>?_,fun i o b q ho hp=>?_⟩
 ·obtain⟨l,s1,p1⟩:=Q4 _ _ e1
  obtain⟨l',s2,p2⟩:=Q4 _ _ e2
  have:=R.inj l l' b q q' p1 p2
  subst this
  exact eB hd i i' l s1 s2
 ·obtain⟨l,u,s1,hu,rfl,_⟩:=Q1 _ _ ho
  obtain⟨l',s2,p2⟩:=Q4 _ _ hp
  rw[s1]at s2;cases s2
  exact R.J2 l u hu p2
 ·obtain⟨l,u,s1,hu,rfl,zw⟩:=Q1 _ _ ho
  obtain⟨l',s2,p2⟩:=Q4 _ _ hp
  rw[s1]at s2;cases s2
  obtain⟨g1,x⟩:=R.at_ l u b q hu p2
  refine⟨g1,x.to rfl rfl rfl rfl (fun k _=>Yg _ _) fun k j v hk hj hr=>?_⟩
  show Qv _ _ _ _ (nth (YP Qm (u.row k)) j) v
  rw[xF _ _ _ hj]
  exact hr.Qm hz R.len hb (DI (eC h2 i u zw k hk) j hj)
theorem eD {pl:List Pl} {Qm:List Nat} (hb:Ky pl.length Qm=true) {b:Nat} (h:Vh pl b):Vh (Yh pl Qm) b:=fun l q e=>by
 have Qd:l<Qm.length:=by rw[← DJ hb];exact KN e
 rw[kD hb l (Qm[l]) (List.getElem?_eq_getElem Qd)]at e
 exact h _ q e
def eF (Qm:List Nat) (R:D→List Ob→Prop) (d:D) (h:List Ob):Prop:=d.ky Qm=true∧Ky h.length Qm=true∧BI Qm (Wl h Qm)∧R (d.Vu Qm) ((Wl h Qm).map (Ob.Vu Qm))
def Gk:Nat→Nat→List Nat→Bool
 | 0,_,_=>true
 | _+1,_,[]=>false
 | m+1,i,k::r=>Nat.beq k i&&Gk m (i+1) r
theorem eG:∀{m i:Nat} {Qm:List Nat},Gk m i Qm=true→∀l,l<m→Qm[l]? = some (i+l)
 | 0,_,_,_,l,hl=>by omega
 | m+1,i,[],h,_,_=>by cases h
 | m+1,i,k::r,h,l,hl=>by
  simp only[Gk,Bool.and_eq_true]at h
  obtain rfl:=Nat.eq_of_beq_eq_true h.1
  cases l with
  | zero=>simp
  | succ l=>rw[List.getElem?_cons_succ,eG h.2 l (by omega)];congr 1;omega
theorem QH.Qm {P:Program} {f:FuncId} {F:List Ob} {args:List D} {R:D→List Ob→Prop} (Qm:List Nat) (hd:kC Qm=true) (hs:Gk F.length 0 Qm=true) (h:QH P f F args (eF Qm R)):QH P f F args R:=fun Z base w pl vs h1 h2 h3 hl hc=>
 (h Z base w pl vs h1 h2 h3 hl hc).mono fun _ _ ⟨v,d,hh,Qi,k1,⟨a1,a2,a3,a4⟩,k3,k4,k5,k6⟩=>⟨v,d.Vu Qm,_,Yh Qi Qm,k1,a4,k3.Qm (fun _ h=>h.1) a2 hd a3,k4.Qm (fun _ h=>h.1) k3.len a2 a1,
  k5.keep (Nat.le_refl _) ⟨fun _ hb=>eD (by rw[k3.len];exact a2) hb,fun l o p hl ho hp=>by
   have e:=eG hs l hl
   rw[Nat.zero_add]at e
   exact⟨o.Vu Qm,by rw[List.getElem?_map,BH a2 l l e,ho];rfl,by rw[kD (by rw[k3.len];exact a2) l l e,hp],rfl,rfl,rfl⟩⟩,k6⟩
attribute [go_sem] eF pos D.Vu YP D.ky kB Ob.Vu Wl Ky BI Jy
mutual
def D.idx (φ:Nat→Nat):D→D
 | .ref l g off len=>.ref (φ l) g off len
 | .ptr l g i j=>.ptr (φ l) g i j
 | .mref l g=>.mref (φ l) g
 | .clo f nf cs=>.clo f nf (jm φ cs)
 | .agg cs=>.agg (jm φ cs)
 | .tup cs=>.tup (jm φ cs)
 | d=>d
def jm (φ:Nat→Nat):List D→List D
 | []=>[]
 | c::cs=>c.idx φ::jm φ cs
end
theorem qB (φ:Nat→Nat):∀cs:List D,(jm φ cs).length=cs.length
 | []=>rfl
 | _::cs=>by simp [jm,qB φ cs]
theorem y7 (φ:Nat→Nat):∀(cs:List D) (i:Nat),i<cs.length→nth (jm φ cs) i=(nth cs i).idx φ
 | [],i,h=>by simp at h
 | c::cs,0,_=>by simp [jm,nth]
 | c::cs,i+1,h=>by
  have:=y7 φ cs i (by simpa using h)
  simpa [jm,nth] using this
def Ob.idx (φ:Nat→Nat) (o:Ob):Ob:=⟨o.kd,o.gen,o.sz,o.n,fun i=>jm φ (o.row i)⟩
theorem Qv.idx {Z Z':Nat→Prop} {h h':List Ob} {pl Qi:List Pl} {w:World} (φ:Nat→Nat) (hf:∀b,free Z pl b→free Z' Qi b)
  (Q1:∀(l:Nat) (o:Ob) (p:Pl),h[l]? = some o→pl[l]? = some p→∃o',h'[φ l]? = some o'∧Qi[φ l]? = some p∧o'.gen=o.gen∧o'.sz=o.sz∧o'.kd.ty=o.kd.ty) {d:D} {v:Value} (r:Qv Z h pl w d v):Qv Z' h' Qi w (d.idx φ) v:=by
 have ZP:∀(d:D) (v:Value),Cl (free Z pl) w d v→Qv Z' h' Qi w (d.idx φ) v:=by
  intro d v hc
  have qv:=hc.mono (N':=free Z' Qi) (w':=w) (fun b hb _=>⟨hf b hb,rfl⟩)
  clear hc
  induction qv with
  | raw v=>exact .cl _ _ (.raw v)
  | undef v=>exact .cl _ _ (.undef v)
  | nil a=>exact .cl _ _ (.nil a)
  | imm sz n row a cap b o vs ha hl hs hc hr ih=>exact .cl _ _ (.imm sz n row a cap b o vs ha hl hs hc hr)
  | ip cells b o vs hc hr ih=>exact .cl _ _ (.ip cells b o vs hc hr)
  | clo f nf cs vs hl hr ih=>exact .clo f nf _ vs (by rw[qB];exact hl) (fun i hi=>by rw[qB]at hi;rw[y7 _ _ _ hi];exact ih i hi)
  | agg cs vs hl hr ih=>exact .agg _ vs (by rw[qB];exact hl) (fun i hi=>by rw[qB]at hi;rw[y7 _ _ _ hi];exact ih i hi)
  | tup cs vs hl hr ih=>exact .tup _ vs (by rw[qB];exact hl) (fun i hi=>by rw[qB]at hi;rw[y7 _ _ _ hi];exact ih i hi)
 induction r with
 | cl d v hc=>exact ZP d v hc
 | ref l g off len o p a cap ho hp hk hg hs=>
  obtain⟨o',h1,h2,h3,h4,h5⟩:=Q1 l o p ho hp
  exact .ref _ g off len o' p a cap h1 h2 (by rw[h5];exact hk) (by rw[h3];exact hg) (by rw[h3,h4];exact hs)
 | ptr l g i j o p a ho hp hk hg hs=>
  obtain⟨o',h1,h2,h3,h4,h5⟩:=Q1 l o p ho hp
  exact .ptr _ g i j o' p a h1 h2 (by rw[h5];exact hk) (by rw[h3];exact hg) (by rw[h3,h4];exact hs)
 | mref l g o p b ho hp hk hg hs=>
  obtain⟨o',h1,h2,h3,h4,h5⟩:=Q1 l o p ho hp
  exact .mref _ g o' p b h1 h2 (by rw[h5];exact hk) (by rw[h3];exact hg) (by rw[h3];exact hs)
 | clo f nf cs vs hl hr ih=>exact .clo f nf _ vs (by rw[qB];exact hl) (fun i hi=>by rw[qB]at hi;rw[y7 _ _ _ hi];exact ih i hi)
 | agg cs vs hl hr ih=>exact .agg _ vs (by rw[qB];exact hl) (fun i hi=>by rw[qB]at hi;rw[y7 _ _ _ hi];exact ih i hi)
 | tup cs vs hl hr ih=>exact .tup _ vs (by rw[qB];exact hl) (fun i hi=>by rw[qB]at hi;rw[y7 _ _ _ hi];exact ih i hi)
def KV (n:Nat):List Nat→Nat→Nat
 | [],i=>n+i
 | k::_,0=>k
 | _::r,i+1=>KV n r i
def Vv {α:Type} (h:List α):List Nat→List α→List α
 | [],xs=>h++xs
 | k::r,x::xs=>Vv (h.set k x) r xs
 | _::_,[]=>h
theorem Mz {n:Nat}:∀{Qm:List Nat} {i l:Nat},Qm[i]? = some l→KV n Qm i=l
 | [],i,l,h=>by simp at h
 | k::r,0,l,h=>by simp at h;simp [KV,h]
 | k::r,i+1,l,h=>by simp at h;simp [KV,Mz h]
theorem eI {n:Nat}:∀{Qm:List Nat} {i:Nat},KV n Qm (Qm.length+i)=n+i
 | [],i=>by simp [KV]
 | k::r,i=>by
  rw[show (k::r).length+i=(r.length+i)+1 by simp;omega]
  simp only[KV];exact eI
theorem Rm {α:Type}:∀{Qm:List Nat} {h xs:List α},Ky h.length Qm=true→kC Qm=true→Qm.length≤xs.length→∀(i:Nat),i<xs.length→(Vv h Qm xs)[KV h.length Qm i]? = xs[i]?
 | [],h,xs,_,_,_,i,hi=>by
  simp only[Vv,KV]
  rw[List.getElem?_append_right (by omega)];congr 1;omega
 | k::r,h,[],_,_,hl,i,hi=>by simp at hi
 | k::r,h,x::xs,hb,hd,hl,i,hi=>by
  simp only[Ky,Bool.and_eq_true,Nat.blt_eq]at hb
  simp only[kC,Bool.and_eq_true,Bool.not_eq_true']at hd
  simp only[Vv]
  have hlen:(h.set k x).length=h.length:=by simp
  cases i with
  | zero=>
   have hk:k ∉ r:=fun hm=>by rw[qy.2 hm]at hd;cases hd.1
   have key:∀(r:List Nat) (h' xs:List α),k ∉ r→k<h'.length→(Vv h' r xs)[k]? = h'[k]? := by
    intro r
    induction r with
    | nil=>intro h' xs _ Qd;simp only[Vv];rw[List.getElem?_append_left Qd]
    | cons j r ih=>
     intro h' xs hm Qd
     cases xs with
     | nil=>rfl
     | cons y ys=>
      simp only[Vv]
      rw[ih (h'.set j y) ys (fun hh=>hm (List.mem_cons_of_mem _ hh)) (by simpa using Qd),List.getElem?_set_ne (fun e=>hm (by rw[e];exact List.mem_cons_self))]
   simp only[KV]
   rw[key r (h.set k x) xs hk (by simpa using hb.1)]
   simp [hb.1]
  | succ i=>
   simp only[KV]
   rw[← hlen]
   exact Rm (by rw[hlen];exact hb.2) hd.2 (by simpa using hl) i (by simpa using hi)
theorem DK {α:Type}:∀{Qm:List Nat} {h xs:List α} {l:Nat},l<h.length→l ∉ Qm→(Vv h Qm xs)[l]? = h[l]?
 | [],h,xs,l,hl,_=>by simp only[Vv];rw[List.getElem?_append_left hl]
 | k::r,h,[],l,hl,_=>rfl
 | k::r,h,x::xs,l,hl,hm=>by
  simp only[Vv]
  rw[DK (by simpa using hl) (fun hh=>hm (List.mem_cons_of_mem _ hh)),List.getElem?_set_ne (fun e=>hm (by rw[e];exact List.mem_cons_self))]
theorem MA {α:Type}:∀{Qm:List Nat} {h xs:List α},Qm.length≤xs.length→(Vv h Qm xs).length=h.length+(xs.length - Qm.length)
 | [],h,xs,_=>by simp [Vv]
 | k::r,h,[],hl=>by simp at hl
 | k::r,h,x::xs,hl=>by
  simp only[Vv]
  rw[MA (by simpa using hl)];simp
theorem Qd5 {α:Type} {Qm:List Nat} {h xs:List α} (hb:Ky h.length Qm=true) (hl:Qm.length≤xs.length) {l:Nat} (h1:l<h.length+(xs.length - Qm.length)) :
  (∃i,i<xs.length∧l=KV h.length Qm i)∨(l<h.length∧l ∉ Qm):=by
 by_cases Qd:l<h.length
 ·by_cases hm:l∈Qm
  ·obtain⟨i,hi,e⟩:=List.getElem_of_mem hm
   exact .inl ⟨i,by omega,(Mz (by rw[List.getElem?_eq_getElem hi,e])).symm⟩
  ·exact .inr ⟨Qd,hm⟩
 ·refine .inl ⟨Qm.length+(l - h.length),by omega,?_⟩
  rw[eI];omega
section
variable {P:Program} {base nt:Nat} {w0:Start} {Q:Exit→St→Prop}
def Yi (h:List Ob) (Qm:List Nat) (h':List Ob):List Ob:=Vv h Qm (h'.map (Ob.idx (KV h.length Qm)))
theorem Qd6 {Z:Nat→Prop} {s:St} {pl:List Pl} {w w':World} {Qm:List Nat} (R:QW Z base s.h pl w) (QJ:base≤w.heap.size) (hz:∀b,w.heap.size≤b→Z b) (hb:Ky s.h.length Qm=true) (hd:kC Qm=true)
  {h':List Ob} {Qi:List Pl} {d:D} {v:Value} {F:List Ob} (hF:F.length=Qm.length) (eJ:∀(i:Nat) (o u:Ob),F[i]? = some o→(∃l,Qm[i]? = some l∧s.h[l]? = some u)→o.gen=u.gen∧o.sz=u.sz∧o.kd.ty=u.kd.ty)
  (O':QW (fun b=>Z b∧∀l q,pl[l]? = some (some (b,q))→l∈Qm) base h' Qi w') (V':Qv (fun b=>Z b∧∀l q,pl[l]? = some (some (b,q))→l∈Qm) h' Qi w' d v)
  (T:Tr F (Yh pl Qm) w h' Qi w') (B:Below base w w') :
  Tr s.h pl w (Yi s.h Qm h') (Vv pl Qm Qi) w'∧QW Z base (Yi s.h Qm h') (Vv pl Qm Qi) w'∧Qv Z (Yi s.h Qm h') (Vv pl Qm Qi) w' (d.idx (KV s.h.length Qm)) v:=by
 have Wm:Ky pl.length Qm=true:=by rw[R.len];exact hb
 have Ro:Qi.length=h'.length:=O'.len
 have DL:∀(i l:Nat),Qm[i]? = some l→∃u p o' p',s.h[l]? = some u∧pl[l]? = some p∧h'[i]? = some o'∧Qi[i]? = some p'∧u.gen≤o'.gen∧o'.kd.ty=u.kd.ty∧(o'.gen=u.gen→o'.sz=u.sz∧p'=p):=by
  intro i l e
  have hi:i<Qm.length:=(List.getElem?_eq_some_iff.1 e).1
  have hl:l<s.h.length:=eA hb l (List.mem_of_getElem? e)
  have e1:F[i]? = some (F[i]'(by omega)):=List.getElem?_eq_getElem _
  have e2:s.h[l]? = some s.h[l]:=List.getElem?_eq_getElem hl
  have Jf:l<pl.length:=by rw[R.len];exact hl
  have e3:pl[l]? = some pl[l]:=List.getElem?_eq_getElem Jf
  obtain⟨k1,k2,k3⟩:=eJ i _ _ e1 ⟨l,e,e2⟩
  obtain⟨o',p',t1,t2,t3,t4,t5⟩:=T.obj i _ pl[l] e1 (by rw[kD Wm i l e,e3])
  exact⟨_,_,o',p',e2,e3,t1,t2,by omega,by rw[t4,k3],fun x=>by obtain⟨y,z⟩:=t5 (by omega);exact⟨by rw[y,k2],z⟩⟩
 have kE:Qm.length≤h'.length:=by
  rcases Nat.eq_zero_or_pos Qm.length with h0|h0
  ·omega
  ·obtain⟨_,_,o',_,_,_,h3,_⟩:=DL (Qm.length - 1) _ (List.getElem?_eq_getElem (by omega))
   have:=Jv h3;omega
 have MB:Qm.length≤Qi.length:=by omega
 have hN:s.h.length=pl.length:=R.len.symm
 have MC:∀i,i<Qi.length→(Vv pl Qm Qi)[KV s.h.length Qm i]? = Qi[i]? := fun i hi=>by rw[hN];exact Rm Wm hd MB i hi
 have Gl:∀i,i<h'.length→(Yi s.h Qm h')[KV s.h.length Qm i]? = (h'[i]?).map (Ob.idx (KV s.h.length Qm)):=fun i hi=>by
  unfold Yi
  rw[Rm hb hd (by simpa using kE) i (by simpa using hi),List.getElem?_map]
 have other:∀(l b q:Nat),l ∉ Qm→pl[l]? = some (some (b,q))→Vh Qi b∧w'.heap[b]? = w.heap[b]? := fun l b q hm e=>by
  refine T.JP b (fun i q' e'=>?_) (R.lt e).1
  have hi:i<Qm.length:=by rw[← DJ Wm];exact KN e'
  have e2:Qm[i]? = some Qm[i]:=List.getElem?_eq_getElem hi
  rw[kD Wm i _ e2]at e'
  have:=R.inj _ _ _ _ _ e e'
  exact hm (by rw[this];exact List.getElem_mem hi)
 have DM:∀(l:Nat) (p:Pl),(Vv pl Qm Qi)[l]? = some p→(∃i,i<Qi.length∧l=KV s.h.length Qm i∧Qi[i]? = some p)∨(l<pl.length∧l ∉ Qm∧pl[l]? = some p):=fun l p e=>by
  have Qd:=KN e
  rw[MA MB]at Qd
  rcases Qd5 Wm MB Qd with ⟨i,hi,rfl⟩|⟨h1,h2⟩
  ·rw[hN]at MC ⊢
   exact .inl ⟨i,hi,rfl,by rw[← MC i hi];exact e⟩
  ·exact .inr ⟨h1,h2,by rw[DK h1 h2]at e;exact e⟩
 have Dx:∀b,free (fun b=>Z b∧∀l q,pl[l]? = some (some (b,q))→l∈Qm) Qi b→free Z (Vv pl Qm Qi) b:=fun b hf=>⟨hf.1.1,fun l q e=>by
  rcases DM l _ e with ⟨i,_,_,e2⟩|⟨_,h2,e2⟩
  ·exact hf.2 i q e2
  ·exact h2 (hf.1.2 l q e2)⟩
 have Q1:∀(l:Nat) (o:Ob) (p:Pl),h'[l]? = some o→Qi[l]? = some p→∃o',(Yi s.h Qm h')[KV s.h.length Qm l]? = some o'∧(Vv pl Qm Qi)[KV s.h.length Qm l]? = some p∧o'.gen=o.gen∧o'.sz=o.sz∧o'.kd.ty=o.kd.ty:=fun l o p ho hp=>
  ⟨o.idx (KV s.h.length Qm),by rw[Gl l (Jv ho),ho];rfl,by rw[MC l (KN hp),hp],rfl,rfl,rfl⟩
 have T2:Tr s.h pl w (Yi s.h Qm h') (Vv pl Qm Qi) w':=by
  refine⟨fun b eM Qd=>?_,fun l o p ho hp=>?_,fun l o o' b q ho Zg hg hp c el hc=>?_⟩
  ·obtain⟨h1,h2⟩:=T.JP b (eD Wm eM) Qd
   refine⟨fun l q e=>?_,h2⟩
   rcases DM l _ e with ⟨i,_,_,e2⟩|⟨_,_,e2⟩
   ·exact h1 i q e2
   ·exact eM l q e2
  ·by_cases hm:l∈Qm
   ·obtain⟨i,hi,e⟩:=List.getElem_of_mem hm
    have e2:Qm[i]? = some l:=by rw[List.getElem?_eq_getElem hi,e]
    obtain⟨u,p1,o',p',k1,k2,k3,k4,k5,k6,k7⟩:=DL i l e2
    rw[ho]at k1;cases k1
    rw[hp]at k2;cases k2
    have y8:KV s.h.length Qm i=l:=Mz e2
    refine⟨o'.idx (KV s.h.length Qm),p',by rw[← y8,Gl i (Jv k3),k3];rfl,by rw[← y8,MC i (KN k4),k4],k5,k6,k7⟩
   ·exact⟨o,p,by unfold Yi;rw[DK (Jv ho) hm];exact ho,by rw[DK (KN hp) hm];exact hp,Nat.le_refl _,rfl,fun _=>⟨rfl,rfl⟩⟩
  ·by_cases hm:l∈Qm
   ·obtain⟨i,hi,e⟩:=List.getElem_of_mem hm
    have e2:Qm[i]? = some l:=by rw[List.getElem?_eq_getElem hi,e]
    obtain⟨u,p1,o1,p',k1,k2,k3,k4,k5,k6,k7⟩:=DL i l e2
    rw[ho]at k1;cases k1
    have y8:KV s.h.length Qm i=l:=Mz e2
    rw[← y8,Gl i (Jv k3),k3]at Zg
    cases Zg
    have e1:F[i]? = some (F[i]'(by omega)):=List.getElem?_eq_getElem _
    obtain⟨f1,f2,f3⟩:=eJ i _ _ e1 ⟨l,e2,ho⟩
    have hg:o1.gen=o.gen:=hg
    exact T.shape i _ o1 b q e1 k3 (by omega) (by rw[kD Wm i l e2,hp]) c el hc
   ·exact⟨c,by rw[(other l b q hm hp).2];exact hc,rfl⟩
 refine⟨T2,⟨?_,fun l l' b q q' e1 e2=>?_,fun l o ho hp=>?_,fun l o b q ho hp=>?_⟩,V'.idx _ Dx Q1⟩
 ·unfold Yi
  rw[MA MB,MA (by simpa using kE)];simp [R.len,Ro]
 ·rcases DM l _ e1 with ⟨i,hi,rfl,e3⟩|⟨h1,h2,e3⟩<;>rcases DM l' _ e2 with ⟨j,hj,rfl,e4⟩|⟨h3,h4,e4⟩
  ·rw[O'.inj i j b q q' e3 e4]
  ·exact absurd e3 ((other l' b q' h4 e4).1 i q)
  ·exact absurd e4 ((other l b q h2 e3).1 j q')
  ·exact R.inj l l' b q q' e3 e4
 ·rcases DM l _ hp with ⟨i,hi,rfl,e3⟩|⟨h1,h2,e3⟩
  ·have ZH:i<h'.length:=by omega
   rw[Gl i ZH,List.getElem?_eq_getElem ZH]at ho
   cases ho
   exact O'.J2 i h'[i] (List.getElem?_eq_getElem ZH) e3
  ·unfold Yi at ho
   rw[DK (by omega) h2]at ho
   exact R.J2 l o ho e3
 ·rcases DM l _ hp with ⟨i,hi,rfl,e3⟩|⟨h1,h2,e3⟩
  ·have ZH:i<h'.length:=by omega
   rw[Gl i ZH,List.getElem?_eq_getElem ZH]at ho
   cases ho
   obtain⟨g1,x⟩:=O'.at_ i _ b q (List.getElem?_eq_getElem ZH) e3
   refine⟨g1,x.to rfl rfl rfl rfl (fun k _=>qB _ _) fun k j v hk hj hr=>?_⟩
   show Qv _ _ _ _ (nth (jm _ (h'[i].row k)) j) v
   rw[y7 _ _ _ hj]
   exact hr.idx _ Dx Q1
  ·unfold Yi at ho
   rw[DK (by omega) h2]at ho
   obtain⟨g1,x⟩:=R.at_ l o b q ho e3
   exact⟨g1,x.to rfl rfl rfl (other l b q h2 e3).2 (fun _ _=>rfl) fun i j v _ _ hr=>hr.tr T2⟩
theorem Qd7 (QJ:base≤w0.w.heap.size) {o:Oper} {s:St} {x:Operand} {args:Array Operand} {ZY:Array TypeId} {f:FuncId} {nf:Nat} {QC:List D} (hf:Qp P f) (ho:o.op=.call ⟨.value x,args,ZY⟩)
  (hx:Kb (Qq s.fr x)=some (f,nf,QC)) (Qm:List Nat) (hb:Ky s.h.length Qm=true) (hd:kC Qm=true) (Rp:BI Qm (Wl s.h Qm)) (DN:kB Qm (Z8 nf QC (args.toList.map (Qq s.fr)))=true)
  {R:D→List Ob→Prop} (hF:QH P f ((Wl s.h Qm).map (Ob.Vu Qm)) (YP Qm (Z8 nf QC (args.toList.map (Qq s.fr)))) R)
  (ht:Zo nt o.dst=true) {Z:Nat→Prop} (z:FR w0 Z) (pl:List Pl) (a:Act) (w:World) (r:Rel Z base nt s pl a w) (b:JB Z base w0 s.h pl w) (Q':Exit→Act→World→Prop) :
  o.wp P a w (fun a' w'=>(Qm=[]→Ext w w')∧∃d h Qi,R d h∧Rel Z base nt ⟨Ze s.fr o.dst (d.idx (KV s.h.length Qm)),Yi s.h Qm h⟩ Qi a' w'∧JB Z base w0 (Yi s.h Qm h) Qi w'∧Tr s.h pl w (Yi s.h Qm h) Qi w'∧∃v,a'=a.put o.dst v) Q':=by
 obtain⟨vs,hv,YO,xr⟩:=FY (r.eval x) hx
 have W3:base≤w.heap.size:=Nat.le_trans QJ b.1.size
 have eN:∀b,w.heap.size≤b→Z b:=b.2.2.new
 have Wm:Ky pl.length Qm=true:=by rw[r.o.len];exact hb
 have za:∀b,free Z pl b→(Z b∧∀l q,pl[l]? = some (some (b,q))→l∈Qm):=fun k hk=>⟨hk.1,fun l q e=>absurd e (hk.2 l q)⟩
 obtain⟨q1,Vr⟩:=FZ (r:=fun d v=>Qv Z s.h pl w d v) (nf:=nf) YO xr (us:=args.toList.map a.eval) (args:=args.toList.map (Qq s.fr)) (by simp) (fun i hi=>by
  have ZH:i<args.toList.length:=by simpa using hi
  simp only[nth,QL,List.getD_eq_getElem?_getD,List.getElem?_map]
  rw[List.getElem?_eq_getElem ZH]
  exact r.eval _)
 have hc:=hF (fun b=>Z b∧∀l q,pl[l]? = some (some (b,q))→l∈Qm) base w (Yh pl Qm) (Z8 nf vs (args.toList.map a.eval)) W3
  (fun k hk=>⟨eN k hk,fun l q e=>by have:=(r.o.lt e).1;omega⟩) (r.o.Qm za hb hd Rp) (by rw[Yg];exact q1) (fun i hi=>by
   rw[Yg]at hi
   rw[xF _ _ _ hi]
   exact(Vr i hi).Qm za r.o.len hb (DI DN i hi))
 unfold Oper.wp
 rw[F0 hf ho hv w]
 simp only[Oper.upon_enter]
 refine hc.mono fun e w' he=>?_
 obtain⟨v,d,h',Qi,rfl,hR,hO,hV,hT,hB⟩:=he
 obtain⟨j1,j2,j3⟩:=Qd6 r.o W3 eN hb hd (F:=(Wl s.h Qm).map (Ob.Vu Qm)) (by rw[List.length_map,My hb]) (fun i o u e ⟨l,e1,e2⟩=>by
  rw[List.getElem?_map,BH hb i l e1,e2]at e
  cases e
  exact⟨rfl,rfl,rfl⟩) hO hV hT hB
 refine⟨fun e=>by subst e;exact fun k hk=>(hT.JP k (fun l q e=>by simp [Yh]at e) hk).2,d,h',Vv pl Qm Qi,hR,?_,b.step j1 hB,j1,v,rfl⟩
 cases hd:o.dst with
 | none=>exact r.zY j1 j2 v
 | some t=>rw[hd]at ht;exact r.to j1 j2 (YN ht) j3
theorem eO (QJ:base≤w0.w.heap.size) (Qm:List Nat) {k:List Item} {dst:Option Nat} {ty:TypeId} {pos:String} {after:Array Edge} {gd:Option (Nat × Bool)} {r:List (Oper × G)} {s:St} {x:Operand} {args:Array Operand} {ZY:Array TypeId} {f:FuncId} {nf:Nat} {QC:List D} (hf:Qp P f)
  (hx:Kb (Qq s.fr x)=some (f,nf,QC)) {F:List Ob} {cs:List D} (KU:Ky s.h.length Qm=true∧kC Qm=true∧BI Qm (Wl s.h Qm)∧kB Qm (Z8 nf QC (args.toList.map (Qq s.fr)))=true∧Xo (YP Qm (Z8 nf QC (args.toList.map (Qq s.fr)))) cs∧kr ((Wl s.h Qm).map (Ob.Vu Qm)) F)
  {R:D→List Ob→Prop} (hF:QH P f F cs R) (ht:Zo nt dst=true) (hk:∀d h,R d h→Qs P base nt w0 Q (.ops r::k) .normal ⟨Ze s.fr dst (d.idx (KV s.h.length Qm)),Yi s.h Qm h⟩) :
  Qs P base nt w0 Q (.ops ((⟨dst,.call ⟨.value x,args,ZY⟩,ty,pos,after,gd⟩,none)::r)::k) .normal s:=by
 simp only[Qs]at hk ⊢
 obtain⟨hb,hd,Rp,DN,he,hle⟩:=KU
 intro Z z pl a w r b
 simp only[WA,Vj,if_true]
 have hF2:=hF.args he
 have hF3:QH P f ((Wl s.h Qm).map (Ob.Vu Qm)) (YP Qm (Z8 nf QC (args.toList.map (Qq s.fr)))) R:=by
  intro Z base w pl vs h1 h2 h3 hl hc
  have hw:=Wk.y0 (m:=F.length) (fr:=[]) hle
  obtain⟨Qi,r',K⟩:=hw Z base 0 pl { tmps:=#[],defers:=[] } w ⟨rfl,rfl,fun t=>.cl _ _ (.undef _),h3⟩
  obtain⟨e1,e2⟩:=L0 hle
  refine(hF2 Z base w pl vs h1 h2 ?_ hl (fun i hi=>(hc i hi).y0 hle)).mono fun e w' ⟨v,d,h,Qi,k1,k2,k3,k4,k5,k6⟩=>⟨v,d,h,Qi,k1,k2,k3,k4,?_,k6⟩
  ·refine⟨by rw[e1];exact h3.len,h3.inj,fun l o' ho hp=>?_,fun l o' b q ho hp=>?_⟩
   ·obtain⟨o,g3,g4⟩:=e2 l o' ho
    rw[g4.2.2.1];exact h3.J2 l o g3 hp
   ·obtain⟨o,g3,g4,g5,g6,g8,g7⟩:=e2 l o' ho
    obtain⟨g1,x⟩:=h3.at_ l o b q g3 hp
    exact⟨fun hr=>g1 (by rw[← g8.2,hr]),x.to g8.1 g5 g6 rfl (fun i hi=>by rw[g7 i hi]) fun i j v hi _ hr=>by rw[g7 i hi];exact hr.y0 hle⟩
  ·have key:∀(l:Nat) (o:Ob),((Wl s.h Qm).map (Ob.Vu Qm))[l]? = some o→∃o',F[l]? = some o'∧Dr o o':=fun l o e=>by
    have:l<F.length:=by rw[e1];exact Jv e
    obtain⟨o2,g3,g4⟩:=e2 l _ (List.getElem?_eq_getElem this)
    rw[e]at g3;cases g3
    exact⟨_,List.getElem?_eq_getElem this,g4⟩
   refine⟨k5.JP,fun l o p ho hp=>?_,fun l o IU b q ho CZ hg hp c el hc=>?_⟩
   ·obtain⟨o1,g1,g2,g3,g4,g5,g6⟩:=key l o ho
    obtain⟨o',p',t1,t2,t3,t4,t5⟩:=k5.obj l o1 p g1 hp
    exact⟨o',p',t1,t2,by omega,by rw[t4,g5.1],fun x=>by obtain⟨y1,y2⟩:=t5 (by omega);exact⟨by rw[y1,g3],y2⟩⟩
   ·obtain⟨o1,g1,g2,g3,g4,g5,g6⟩:=key l o ho
    exact k5.shape l o1 IU b q g1 CZ (by omega) hp c el hc
 exact Oper.wp_mono (fun a' w' ⟨_,d,h,Qi,hR,r',b',_⟩=>hk d h hR Z z Qi a' w' r' b') (Qd7 QJ hf rfl hx Qm hb hd Rp DN hF3 ht z pl a w r b _)
end
attribute [go_sem] D.idx jm Ob.idx KV Vv Yi kC Gk
end Go.Fg
namespace Go.Fg
def MD (fr:List (Nat × D)):List Nat→List (Nat × D)
 | []=>[]
 | t::r=>(t,get fr t)::MD fr r
attribute [go_sem] MD
def BJ {G:Type} (R:Nat→Prop) (V:Nat→G→List (Nat × D)) (H:Nat→G→List Ob) (rest:List (Nat × D)) (i:Nat) (s:St):Prop:=R i∧∃γ,s=⟨V i γ++rest,H i γ⟩
theorem BJ.mk {G:Type} {R:Nat→Prop} {V:Nat→G→List (Nat × D)} {H:Nat→G→List Ob} {rest:List (Nat × D)} {i:Nat} (γ:G) (h:R i):BJ R V H rest i ⟨V i γ++rest,H i γ⟩:=⟨h,γ,rfl⟩
section
variable {P:Program} {base nt:Nat} {w0:Start} {Q:Exit→St→Prop} {k:List Item}
theorem Qea {G:Type} (keep:List Nat) (R:Nat→Prop) (V:Nat→G→List (Nat × D)) (H:Nat→G→List Ob) (N:Nat) (γ0:G) {c:Code} {fr:List (Nat × D)} {h:List Ob} {rest:List (Nat × D)} (hr:MD fr keep=rest)
  (hw:Qk w0 ⟨fr,h⟩ ⟨V 0 γ0++rest,H 0 γ0⟩) (hR:R 0)
  (round:∀i γ,i≤N→R i→Qs P base nt w0 (Gj P base nt w0 Q k (BJ R V H rest) N i) [.code c] .normal ⟨V i γ++rest,H i γ⟩):Qs P base nt w0 Q (.code (.loop c)::k) .normal ⟨fr,h⟩:=
 Zv (BJ R V H rest) N hw ⟨hR,γ0,rfl⟩ fun i s hi ⟨hRi,γ,e⟩=>by subst e;exact round i γ hi hRi
end
section
variable {P:Program} {base:Nat} {w0:Start} {Q:Exit→St→Prop} {X:Cx} {nt n:Nat} {k k':List Item} {s s':St}
theorem vT {i N:Nat} (hi:i≤N) (h1:i<N→hx P base w0 Q X nt n k s) (h2:i=N→hx P base w0 Q X nt n k' s'):Kx (decide (i<N)) (hz P base w0 Q X nt n k s) (hz P base w0 Q X nt n k' s'):=
 ⟨fun h=>h1 (by simpa using h),fun h=>h2 (by simp at h;omega)⟩
theorem vU {i N:Nat} (hi:i≤N) (h1:i<N→hx P base w0 Q X nt n k s) (h2:i=N→hx P base w0 Q X nt n k' s'):Kx (decide ((i:Int)<(N:Int))) (hz P base w0 Q X nt n k s) (hz P base w0 Q X nt n k' s'):=
 ⟨fun h=>h1 (by simpa using h),fun h=>h2 (by simp at h;omega)⟩
theorem Gm {p:Prop} [Decidable p] (h1:p→hx P base w0 Q X nt n k s) (h2:¬ p→hx P base w0 Q X nt n k' s'):Kx (decide p) (hz P base w0 Q X nt n k s) (hz P base w0 Q X nt n k' s'):=
 ⟨fun h=>h1 (of_decide_eq_true h),fun h=>h2 (of_decide_eq_false h)⟩
theorem Gn {α:Type} [BEq α] [LawfulBEq α] {a b:α} (h1:a=b→hx P base w0 Q X nt n k s) (h2:a≠b→hx P base w0 Q X nt n k' s'):Kx (a==b) (hz P base w0 Q X nt n k s) (hz P base w0 Q X nt n k' s'):=
 ⟨fun h=>h1 (by simpa using h),fun h=>h2 (by simpa using h)⟩
theorem Gp {α:Type} [BEq α] [LawfulBEq α] {a b:α} (h1:a≠b→hx P base w0 Q X nt n k s) (h2:a=b→hx P base w0 Q X nt n k' s'):Kx (a != b) (hz P base w0 Q X nt n k s) (hz P base w0 Q X nt n k' s'):=
 ⟨fun h=>h1 (by simpa using h),fun h=>h2 (by simpa using h)⟩
theorem Gq {K K':St→Prop} {l l':List (Bool × Oper × G)} {p:Prop} [Decidable p] (h1:p→Jh P base w0 X nt K l s) (h2:¬ p→Jh P base w0 X nt K' l' s'):Kx (decide p) (W5 P base w0 X nt K l s) (W5 P base w0 X nt K' l' s'):=
 ⟨fun h=>h1 (of_decide_eq_true h),fun h=>h2 (of_decide_eq_false h)⟩
theorem Gr {K K':St→Prop} {l l':List (Bool × Oper × G)} {α:Type} [BEq α] [LawfulBEq α] {a b:α} (h1:a=b→Jh P base w0 X nt K l s) (h2:a≠b→Jh P base w0 X nt K' l' s'):Kx (a==b) (W5 P base w0 X nt K l s) (W5 P base w0 X nt K' l' s'):=
 ⟨fun h=>h1 (by simpa using h),fun h=>h2 (by simpa using h)⟩
theorem Gs {K K':St→Prop} {l l':List (Bool × Oper × G)} {α:Type} [BEq α] [LawfulBEq α] {a b:α} (h1:a≠b→Jh P base w0 X nt K l s) (h2:a=b→Jh P base w0 X nt K' l' s'):Kx (a != b) (W5 P base w0 X nt K l s) (W5 P base w0 X nt K' l' s'):=
 ⟨fun h=>h1 (by simpa using h),fun h=>h2 (by simpa using h)⟩
end
end Go.Fg
namespace Go.Fg
open Go.RowKit (Below)
def rowFrom (off:Nat) (row:Nat→List D):Nat→List D:=fun i=>row (off+i)
theorem Qec (row:Nat→List D):rowFrom 0 row=row:=by funext i;simp [rowFrom]
theorem DO (off:Nat) (row:Nat→List D) (i:Nat):rowFrom off row i=row (off+i):=rfl
mutual
def D.fz (l g0 n sz:Nat) (row:Nat→List D):D→D
 | .ref l' g off len=>bif Nat.beq l' l then (bif Nat.beq g g0&&Nat.ble (off+len) n then .imm sz len (rowFrom off row) else .undef) else .ref l' g off len
 | .ptr l' g i j=>bif Nat.beq l' l then (bif Nat.beq g g0&&Nat.blt i n&&Nat.ble j sz then .ip ((row i).drop j) else .undef) else .ptr l' g i j
 | .mref l' g=>bif Nat.beq l' l then .undef else .mref l' g
 | .clo f nf cs=>.clo f nf (Yj l g0 n sz row cs)
 | .agg cs=>.agg (Yj l g0 n sz row cs)
 | .tup cs=>.tup (Yj l g0 n sz row cs)
 | d=>d
def Yj (l g0 n sz:Nat) (row:Nat→List D):List D→List D
 | []=>[]
 | c::cs=>c.fz l g0 n sz row::Yj l g0 n sz row cs
end
theorem zx (l g0 n sz:Nat) (row:Nat→List D):∀cs:List D,(Yj l g0 n sz row cs).length=cs.length
 | []=>rfl
 | _::cs=>by simp [Yj,zx l g0 n sz row cs]
theorem BK (l g0 n sz:Nat) (row:Nat→List D):∀(cs:List D) (i:Nat),i<cs.length→nth (Yj l g0 n sz row cs) i=(nth cs i).fz l g0 n sz row
 | [],i,h=>by simp at h
 | c::cs,0,_=>by simp [Yj,nth]
 | c::cs,i+1,h=>by
  have:=BK l g0 n sz row cs i (by simpa using h)
  simpa [Yj,nth] using this
theorem Qed (l g0 n sz:Nat) (row:Nat→List D) (c:Bool) (a b:List D):Yj l g0 n sz row (bif c then a else b)=bif c then Yj l g0 n sz row a else Yj l g0 n sz row b:=by cases c<;>rfl
def eP (l g0 n sz:Nat) (row:Nat→List D):List (Nat × D)→List (Nat × D)
 | []=>[]
 | (t,d)::r=>(t,d.fz l g0 n sz row)::eP l g0 n sz row r
def Ob.fz (l g0 n sz:Nat) (row:Nat→List D) (o:Ob):Ob:=⟨o.kd,o.gen,o.sz,o.n,fun i=>Yj l g0 n sz row (o.row i)⟩
def eQ (l g0 n sz:Nat) (row:Nat→List D):List Ob→List Ob
 | []=>[]
 | o::r=>o.fz l g0 n sz row::eQ l g0 n sz row r
def Ob.gone (o:Ob):Ob:=⟨.arr,o.gen+1,o.sz,0,fun _=>[]⟩
section
variable {Z:Nat→Prop}
theorem Qee {N:Nat→Prop} {w:World} (l g0 n sz:Nat) (row:Nat→List D) {d:D} {v:Value} (c:Cl N w d v):Cl N w (d.fz l g0 n sz row) v:=by
 induction c with
 | raw v=>exact .raw v
 | undef v=>exact .undef v
 | nil a=>exact .nil a
 | imm s m r a cap b o vs ha hl hs hc hr ih=>exact .imm s m r a cap b o vs ha hl hs hc hr
 | ip cells b o vs hc hr ih=>exact .ip cells b o vs hc hr
 | clo f nf cs vs hl hr ih=>exact .clo f nf _ vs (by rw[zx];exact hl) (fun i hi=>by rw[zx]at hi;rw[BK _ _ _ _ _ _ _ hi];exact ih i hi)
 | agg cs vs hl hr ih=>exact .agg _ vs (by rw[zx];exact hl) (fun i hi=>by rw[zx]at hi;rw[BK _ _ _ _ _ _ _ hi];exact ih i hi)
 | tup cs vs hl hr ih=>exact .tup _ vs (by rw[zx];exact hl) (fun i hi=>by rw[zx]at hi;rw[BK _ _ _ _ _ _ _ hi];exact ih i hi)
theorem Qv.fz {h:List Ob} {pl:List Pl} {w:World} {l:Nat} {o:Ob} {p:Pl} (ho:h[l]? = some o) (hp:pl[l]? = some p) (hk:o.kd.ty=0) (hb:∀b q,p=some (b,q)→Z b∧(∀l' q',pl[l']? = some (some (b,q'))→l'=l)∧Fx Z h pl w o b q)
  (ZP:∀i,i<o.n→(o.row i).all D.ko=true) {h':List Ob} (hh:∀(l':Nat) (o':Ob),l'≠l→h[l']? = some o'→∃u,h'[l']? = some u∧u.gen=o'.gen∧u.sz=o'.sz∧u.kd.ty=o'.kd.ty) {d:D} {v:Value} (r:Qv Z h pl w d v) :
  Qv Z h' (pl.set l none) w (d.fz l o.gen o.n o.sz o.row) v:=by
 have Q4:∀(l':Nat),l'≠l→(pl.set l none)[l']? = pl[l']? := fun l' qu=>by rw[List.getElem?_set_ne (Ne.symm qu)]
 have F8:∀b,Vh pl b→Vh (pl.set l none) b:=fun b hb l' q e=>by
  by_cases e1:l'=l
  ·subst e1;rw[List.getElem?_set_self (KN hp)]at e;cases e
  ·rw[Q4 l' e1]at e;exact hb l' q e
 have Wh:∀b,free Z pl b→free Z (pl.set l none) b:=fun b hb=>⟨hb.1,F8 b hb.2⟩
 have y9:∀b q,p=some (b,q)→free Z (pl.set l none) b:=fun b q e=>⟨(hb b q e).1,fun l' q' e'=>by
  by_cases e1:l'=l
  ·subst e1;rw[List.getElem?_set_self (KN hp)]at e';cases e'
  ·rw[Q4 l' e1]at e';exact e1 ((hb b q e).2.1 l' q' e')⟩
 have vE:∀b q,p=some (b,q)→∃c el,w.heap[b]? = some (.cells c el (0,0))∧(∀i,i<o.n→(o.row i).length=o.sz)∧∃vs:Nat→Nat→Value,∀i j,i<o.n→j<o.sz→w.cell? ⟨b,q+(i*o.sz+j),none⟩=some (vs i j)∧Cl (free Z (pl.set l none)) w (nth (o.row i) j) (vs i j):=fun b q e=>by
  obtain⟨c,el,h1,_,h3,h4⟩:=(hb b q e).2.2
  refine⟨c,el,h1,h3,fun i j=>(c[q+(i*o.sz+j)]?).getD Go.undef,fun i j hi hj=>?_⟩
  obtain⟨u,hu,hr⟩:=h4 i j hi hj
  refine⟨by rw[cell_of_row w b _ c el (0,0) h1,hu];simp [hu],?_⟩
  simp only[hu,Option.getD_some]
  have h5:=ZP i hi
  rw[List.all_eq_true]at h5
  have h6:j<(o.row i).length:=by rw[h3 i hi];exact hj
  have h7:(nth (o.row i) j).ko=true:=h5 _ (by simp only[nth,List.getD_eq_getElem?_getD,List.getElem?_eq_getElem h6,Option.getD_some];exact List.getElem_mem h6)
  exact(Dq hr h7).mono fun x hx _=>⟨Wh x hx,rfl⟩
 induction r with
 | cl d v hc=>exact .cl _ _ (Qee l o.gen o.n o.sz o.row (hc.mono fun b hb _=>⟨Wh b hb,rfl⟩))
 | ref l' g off len o' p' a cap Zg Zs Zq hg hs=>
  by_cases e:l'=l
  ·subst e
   rw[ho]at Zg;cases Zg
   rw[hp]at Zs;cases Zs
   simp only[D.fz,Nat.beq_refl,cond_true]
   cases hc:(Nat.beq g o.gen&&Nat.ble (off+len) o.n)
   ·exact .cl _ _ (.undef _)
   ·simp only[cond_true,Bool.and_eq_true,Nat.beq_eq,Nat.ble_eq]at hc ⊢
    rcases hs hc.1 with ⟨h1,h2⟩|⟨b,q,c,el,Kl,ha,y8,ZS,vD⟩
    ·subst h1;subst h2
     exact .cl _ _ (.imm _ _ _ _ _ 0 0 (fun _ _=>Go.undef) (fun h=>by omega) (by omega) (fun i hi=>by omega) (fun i j hi=>by omega) (fun i j hi=>by omega))
    ·obtain⟨c',Lr,k1,k2,vs,k3⟩:=vE b q Kl
     refine .cl _ _ (.imm _ _ _ _ _ b (q+off*o.sz) (fun i j=>vs (off+i) j) (fun _=>ha) vD (fun i hi=>k2 _ (by omega)) (fun i j hi hj=>⟨y9 b q Kl,?_⟩) (fun i j hi hj=>(k3 (off+i) j (by omega) hj).2))
     rw[← (k3 (off+i) j (by omega) hj).1,Nat.add_mul,show q+off*o.sz+(i*o.sz+j)=q+(off*o.sz+i*o.sz+j) by omega]
  ·have QD:Nat.beq l' l=false:=by rw[← Bool.not_eq_true,Nat.beq_eq];exact e
   simp only[D.fz,QD,cond_false]
   obtain⟨u,u1,u2,u3,u4⟩:=hh l' o' e Zg
   exact .ref l' g off len u p' a cap u1 (by rw[Q4 l' e];exact Zs) (by rw[u4];exact Zq) (by rw[u2];exact hg) (by rw[u2,u3];exact hs)
 | ptr l' g i j o' p' a Zg Zs Zq hg hs=>
  by_cases e:l'=l
  ·subst e
   rw[ho]at Zg;cases Zg
   rw[hp]at Zs;cases Zs
   simp only[D.fz,Nat.beq_refl,cond_true]
   cases hc:(Nat.beq g o.gen&&Nat.blt i o.n&&Nat.ble j o.sz)
   ·exact .cl _ _ (.undef _)
   ·simp only[cond_true,Bool.and_eq_true,Nat.beq_eq,Nat.ble_eq,Nat.blt_eq]at hc ⊢
    obtain⟨b,q,Kl,ha⟩:=hs hc.1.1
    obtain⟨c',Lr,k1,k2,vs,k3⟩:=vE b q Kl
    subst ha
    have hlen:((o.row i).drop j).length=o.sz - j:=by rw[List.length_drop,k2 i hc.1.2]
    refine .cl _ _ (.ip _ b _ (fun k=>vs i (j+k)) (fun k hk=>⟨y9 b q Kl,?_⟩) (fun k hk=>?_))
    ·rw[← (k3 i (j+k) hc.1.2 (by omega)).1];congr 1;simp
    ·rw[yH];exact(k3 i (j+k) hc.1.2 (by omega)).2
  ·have QD:Nat.beq l' l=false:=by rw[← Bool.not_eq_true,Nat.beq_eq];exact e
   simp only[D.fz,QD,cond_false]
   obtain⟨u,u1,u2,u3,u4⟩:=hh l' o' e Zg
   exact .ptr l' g i j u p' a u1 (by rw[Q4 l' e];exact Zs) (by rw[u4];exact Zq) (by rw[u2];exact hg) (by rw[u2,u3];exact hs)
 | mref l' g o' p' b Zg Zs Zq hg hs=>
  by_cases e:l'=l
  ·subst e
   rw[ho]at Zg;cases Zg
   exact absurd hk Zq.1
  ·have QD:Nat.beq l' l=false:=by rw[← Bool.not_eq_true,Nat.beq_eq];exact e
   simp only[D.fz,QD,cond_false]
   obtain⟨u,u1,u2,u3,u4⟩:=hh l' o' e Zg
   exact .mref l' g u p' b u1 (by rw[Q4 l' e];exact Zs) (by rw[u4];exact Zq) (by rw[u2];exact hg) (by rw[u2];exact hs)
 | clo f nf cs vs hl hr ih=>exact .clo f nf _ vs (by rw[zx];exact hl) (fun i hi=>by rw[zx]at hi;rw[BK _ _ _ _ _ _ _ hi];exact ih i hi)
 | agg cs vs hl hr ih=>exact .agg _ vs (by rw[zx];exact hl) (fun i hi=>by rw[zx]at hi;rw[BK _ _ _ _ _ _ _ hi];exact ih i hi)
 | tup cs vs hl hr ih=>exact .tup _ vs (by rw[zx];exact hl) (fun i hi=>by rw[zx]at hi;rw[BK _ _ _ _ _ _ _ hi];exact ih i hi)
end
attribute [go_sem] Qec DO D.fz Yj Qed eP Ob.fz eQ Ob.gone
end Go.Fg
namespace Go.Fg
def Xp (f:D→D→Prop):List D→List D→Prop
 | [],[]=>True
 | a::r,b::s=>f a b∧Xp f r s
 | _,_=>False
def Jb:Nat→D→D→Prop
 | 0,d,d'=>d'=d
 | k+1,d,d'=>match d' with
  | .raw v=>d=.raw v
  | .undef=>True
  | .nil=>d=.nil
  | .imm z n r=>match d with
   | .imm z' n' r'=>z=z'∧n=n'∧∀i,i<n→Xp (Jb k) (r' i) (r i)
   | .nil=>n=0
   | _=>False
  | .ip cs=>match d with
   | .ip Zx=>Xp (Jb k) Zx cs
   | _=>False
  | .ref l g o n=>d=.ref l g o n
  | .ptr l g i j=>d=.ptr l g i j
  | .mref l g=>d=.mref l g
  | .clo f nf cs=>match d with
   | .clo f' ME Zx=>f=f'∧nf=ME∧Xp (Jb k) Zx cs
   | _=>False
  | .agg cs=>match d with
   | .agg Zx=>Xp (Jb k) Zx cs
   | _=>False
  | .tup cs=>match d with
   | .tup Zx=>Xp (Jb k) Zx cs
   | _=>False
theorem Aa {f:D→D→Prop} (h:∀d,f d d):∀l,Xp f l l
 | []=>trivial
 | a::r=>⟨h a,Aa h r⟩
theorem Ab:∀(k:Nat) (d:D),Jb k d d
 | 0,_=>rfl
 | k+1,d=>by cases d<;>simp [Jb]<;>first|exact Aa (Ab k) _|exact fun _ _=>Aa (Ab k) _
theorem Qef (k:Nat) (l:List D):Xp (Jb k) l l=True:=eq_true (Aa (Ab k) l)
theorem jn {f:D→D→Prop}:∀{l m:List D},Xp f l m→m.length=l.length∧∀i,i<l.length→f (nth l i) (nth m i)
 | [],[],_=>⟨rfl,fun i hi=>by simp at hi⟩
 | [],_::_,h=>h.elim
 | _::_,[],h=>h.elim
 | a::r,b::s,h=>by
  obtain⟨h1,h2⟩:=jn h.2
  refine⟨by simp [h1],fun i hi=>?_⟩
  cases i with
  | zero=>exact h.1
  | succ i=>have:=h2 i (by simpa using hi);simpa [nth] using this
theorem DP:∀(k:Nat) {N:Nat→Prop} {w:World} {d d':D} {v:Value},Jb k d d'→Cl N w d v→Cl N w d' v
 | 0,_,_,d,d',v,h,c=>by have h:d'=d:=h;subst h;exact c
 | k+1,N,w,d,d',v,h,c=>by
  cases d'<;>simp only[Jb]at h
  case raw=>subst h;exact c
  case undef=>exact .undef _
  case nil=>subst h;exact c
  case imm z n r=>
   split at h
   ·obtain⟨rfl,rfl,h⟩:=h
    cases c with
    | imm _ _ _ a cap b o vs ha hl hs hc hr=>
     exact .imm _ _ _ a cap b o vs ha hl (fun i hi=>by rw[(jn (h i hi)).1];exact hs i hi) hc (fun i j hi hj=>DP k ((jn (h i hi)).2 j (by rw[hs i hi];exact hj)) (hr i j hi hj))
   ·subst h
    cases c with
    | nil a=>exact .imm _ _ _ _ _ 0 0 (fun _ _=>Go.undef) (fun h=>by omega) (by omega) (fun i hi=>by omega) (fun i j hi=>by omega) (fun i j hi=>by omega)
   ·exact h.elim
  case ip cs=>
   split at h
   ·obtain⟨h1,h2⟩:=jn h
    cases c with
    | ip _ b o vs hc hr=>exact .ip _ b o vs (fun j hj=>hc j (by omega)) (fun j hj=>DP k (h2 j (by omega)) (hr j (by omega)))
   ·exact h.elim
  case ref=>subst h;exact c
  case ptr=>subst h;exact c
  case mref=>subst h;exact c
  case clo f nf cs=>
   split at h
   ·obtain⟨rfl,rfl,h⟩:=h
    obtain⟨h1,h2⟩:=jn h
    cases c with
    | clo _ _ _ vs hl hr=>exact .clo _ _ _ vs (by omega) (fun j hj=>DP k (h2 j (by omega)) (hr j (by omega)))
   ·exact h.elim
  case agg cs=>
   split at h
   ·obtain⟨h1,h2⟩:=jn h
    cases c with
    | agg _ vs hl hr=>exact .agg _ vs (by omega) (fun j hj=>DP k (h2 j (by omega)) (hr j (by omega)))
   ·exact h.elim
  case tup cs=>
   split at h
   ·obtain⟨h1,h2⟩:=jn h
    cases c with
    | tup _ vs hl hr=>exact .tup _ vs (by omega) (fun j hj=>DP k (h2 j (by omega)) (hr j (by omega)))
   ·exact h.elim
theorem vV:∀(k:Nat) {Z:Nat→Prop} {h:List Ob} {pl:List Pl} {w:World} {d d':D} {v:Value},Jb k d d'→Qv Z h pl w d v→Qv Z h pl w d' v
 | 0,_,_,_,_,d,d',v,e,c=>by have e:d'=d:=e;subst e;exact c
 | k+1,Z,h,pl,w,d,d',v,e,c=>by
  cases c with
  | cl _ _ hc=>exact .cl _ _ (DP (k+1) e hc)
  | ref l g off len o p a cap ho hp hk hg hs=>
   cases d'<;>simp only[Jb,reduceCtorEq]at e
   ·exact .cl _ _ (.undef _)
   ·cases e;exact .ref l g off len o p a cap ho hp hk hg hs
  | ptr l g i j o p a ho hp hk hg hs=>
   cases d'<;>simp only[Jb,reduceCtorEq]at e
   ·exact .cl _ _ (.undef _)
   ·cases e;exact .ptr l g i j o p a ho hp hk hg hs
  | mref l g o p b ho hp hk hg hs=>
   cases d'<;>simp only[Jb,reduceCtorEq]at e
   ·exact .cl _ _ (.undef _)
   ·cases e;exact .mref l g o p b ho hp hk hg hs
  | clo f nf cs vs hl hr=>
   cases d'<;>simp only[Jb,reduceCtorEq]at e
   ·exact .cl _ _ (.undef _)
   ·obtain⟨rfl,rfl,e⟩:=e
    obtain⟨h1,h2⟩:=jn e
    exact .clo _ _ _ vs (by omega) (fun j hj=>vV k (h2 j (by omega)) (hr j (by omega)))
  | agg cs vs hl hr=>
   cases d'<;>simp only[Jb,reduceCtorEq]at e
   ·exact .cl _ _ (.undef _)
   ·obtain⟨h1,h2⟩:=jn e
    exact .agg _ vs (by omega) (fun j hj=>vV k (h2 j (by omega)) (hr j (by omega)))
  | tup cs vs hl hr=>
   cases d'<;>simp only[Jb,reduceCtorEq]at e
   ·exact .cl _ _ (.undef _)
   ·obtain⟨h1,h2⟩:=jn e
    exact .tup _ vs (by omega) (fun j hj=>vV k (h2 j (by omega)) (hr j (by omega)))
def Told (R:D→List Ob→Prop) (d:D) (h:List Ob):Prop:=∃d',Jb 6 d d'∧R d' h
theorem QH.tell {P:Program} {f:FuncId} {F:List Ob} {args:List D} {R:D→List Ob→Prop} (h:QH P f F args (Told R)):QH P f F args R:=fun Z base w pl vs h1 h2 h3 hl hc=>
 (h Z base w pl vs h1 h2 h3 hl hc).mono fun _ _ ⟨v,d,hh,Qi,k1,⟨d',e1,e2⟩,k3,k4,k5⟩=>⟨v,d',hh,Qi,k1,e2,k3,vV 6 e1 k4,k5⟩
theorem Q8.tell {P:Program} {f:FuncId} {args:List D} {R:D→List Ob→Prop} (h:Q8 P f args (Told R)):Q8 P f args R:=QH.tell h
def Gt (fr:List (Nat × D)):List (Nat × D)→Prop
 | []=>True
 | (t,d)::r=>Jb 6 (get fr t) d∧Gt fr r
theorem eR {fr:List (Nat × D)}:∀{r:List (Nat × D)},Gt fr r→∀t d,(t,d)∈r→Jb 6 (get fr t) d
 | [],_,_,_,h=>by cases h
 | (u,e)::r,h,t,d,hm=>by
  rcases List.mem_cons.1 hm with h1|h1
  ·cases h1;exact h.1
  ·exact eR h.2 t d h1
def MF (o o':Ob):Prop:=o'.gen=o.gen∧o'.sz=o.sz∧o'.n=o.n∧o'.kd.F1 o.kd∧∀i,i<o.n→Xp (Jb 6) (o.row i) (o'.row i)
def Gu:List Ob→List Ob→Prop
 | [],[]=>True
 | o::r,o'::r'=>MF o o'∧Gu r r'
 | _,_=>False
theorem eS:∀{h h':List Ob},Gu h h'→h'.length=h.length∧∀(l:Nat) (o':Ob),h'[l]? = some o'→∃o,h[l]? = some o∧MF o o'
 | [],[],_=>⟨rfl,fun l o' e=>by simp at e⟩
 | [],_::_,h=>h.elim
 | _::_,[],h=>h.elim
 | o::r,o'::r',h=>by
  obtain⟨h1,h2⟩:=eS h.2
  refine⟨by simp [h1],fun l u e=>?_⟩
  cases l with
  | zero=>simp at e;subst e;exact⟨o,rfl,h.1⟩
  | succ l=>simp at e;obtain⟨v,h3,h4⟩:=h2 l u e;exact⟨v,by simpa using h3,h4⟩
theorem Wk.tell {m:Nat} {fr fr':List (Nat × D)} {h h':List Ob} (hf:Gt fr fr') (hl:Gu h h'):Wk m ⟨fr,h⟩ ⟨fr',h'⟩:=fun Z base nt pl a w r=>by
 obtain⟨h1,h2⟩:=eS hl
 have key:∀(l:Nat) (o:Ob),h[l]? = some o→∃o',h'[l]? = some o'∧MF o o':=fun l o e=>by
  have:l<h'.length:=by rw[h1];exact Jv e
  obtain⟨o2,h3,h4⟩:=h2 l _ (List.getElem?_eq_getElem this)
  rw[e]at h3;cases h3
  exact⟨_,List.getElem?_eq_getElem this,h4⟩
 have rel:∀{d:D} {v:Value},Qv Z h pl w d v→Qv Z h' pl w d v:=fun r=>by
  induction r with
  | cl d v hc=>exact .cl d v hc
  | ref l g off len o p a cap ho hp hk hg hs=>
   obtain⟨o',h3,h4⟩:=key l o ho
   exact .ref l g off len o' p a cap h3 hp (by rw[h4.2.2.2.1.1];exact hk) (by rw[h4.1];exact hg) (fun e=>by rw[h4.2.1];exact hs (by rw[e,h4.1]))
  | ptr l g i j o p a ho hp hk hg hs=>
   obtain⟨o',h3,h4⟩:=key l o ho
   exact .ptr l g i j o' p a h3 hp (by rw[h4.2.2.2.1.1];exact hk) (by rw[h4.1];exact hg) (fun e=>by rw[h4.2.1];exact hs (by rw[e,h4.1]))
  | mref l g o p b ho hp hk hg hs=>
   obtain⟨o',h3,h4⟩:=key l o ho
   exact .mref l g o' p b h3 hp (by rw[h4.2.2.2.1.1];exact hk) (by rw[h4.1];exact hg) (fun e=>hs (by rw[e,h4.1]))
  | clo f nf cs vs hl hr ih=>exact .clo f nf cs vs hl ih
  | agg cs vs hl hr ih=>exact .agg cs vs hl ih
  | tup cs vs hl hr ih=>exact .tup cs vs hl ih
 refine⟨pl,⟨r.nt,r.defers,fun t=>?_,⟨by rw[h1];exact r.o.len,r.o.inj,fun l o' ho hp=>?_,fun l o' b q ho hp=>?_⟩⟩,fun _ h=>h,fun l o p _ ho hp=>?_⟩
 ·rcases cW fr' t with h1|h1
  ·show Qv Z h' pl w (get fr' t) _
   rw[h1];exact .cl _ _ (.undef _)
  ·exact vV 6 (eR hf _ _ h1) (rel (r.fr t))
 ·obtain⟨o,h3,h4⟩:=h2 l o' ho
  rw[h4.2.2.1];exact r.o.J2 l o h3 hp
 ·obtain⟨o,h3,h4,h5,h6,h8,h7⟩:=h2 l o' ho
  obtain⟨g1,x⟩:=r.o.at_ l o b q h3 hp
  exact⟨fun hr=>g1 (by rw[← h8.2,hr]),x.to h8.1 h5 h6 rfl (fun i hi=>(jn (h7 i hi)).1) fun i j v hi hj hr=>vV 6 ((jn (h7 i hi)).2 j hj) (rel hr)⟩
 ·obtain⟨o',h3,h4⟩:=key l o ho
  exact⟨o',h3,hp,h4.1,h4.2.1,h4.2.2.2.1.1⟩
theorem Qk.tell {w0:Start} {fr fr':List (Nat × D)} {h h':List Ob} (hf:Gt fr fr'∧Gu h h'):Qk w0 ⟨fr,h⟩ ⟨fr',h'⟩:=(Wk.tell hf.1 hf.2).up
section
variable {k:Nat} {d:D}
theorem Qeg:Jb k d d=True:=eq_true (Ab k d)
theorem Qeh {v:Value}:Jb (k+1) d (.raw v)=(d=.raw v):=rfl
theorem Qei:Jb (k+1) d .undef=True:=rfl
theorem Qej:Jb (k+1) d .nil=(d=.nil):=rfl
theorem Gv {z n z' n':Nat} {r r':Nat→List D}:Jb (k+1) (.imm z' n' r') (.imm z n r)=(z=z'∧n=n'∧∀i,i<n→Xp (Jb k) (r' i) (r i)):=rfl
theorem Qek {z n:Nat} {r:Nat→List D}:Jb (k+1) .nil (.imm z n r)=(n=0):=rfl
theorem Qel {l g o n:Nat}:Jb (k+1) d (.ref l g o n)=(d=.ref l g o n):=rfl
theorem Qem {l g i j:Nat}:Jb (k+1) d (.ptr l g i j)=(d=.ptr l g i j):=rfl
theorem Qen {l g:Nat}:Jb (k+1) d (.mref l g)=(d=.mref l g):=rfl
theorem Qeo {cs Zx:List D}:Jb (k+1) (.ip Zx) (.ip cs)=Xp (Jb k) Zx cs:=rfl
theorem Qep {f f':FuncId} {nf ME:Nat} {cs Zx:List D}:Jb (k+1) (.clo f' ME Zx) (.clo f nf cs)=(f=f'∧nf=ME∧Xp (Jb k) Zx cs):=rfl
theorem Qeq {cs Zx:List D}:Jb (k+1) (.agg Zx) (.agg cs)=Xp (Jb k) Zx cs:=rfl
theorem Qer {cs Zx:List D}:Jb (k+1) (.tup Zx) (.tup cs)=Xp (Jb k) Zx cs:=rfl
theorem Qes {f:D→D→Prop}:Xp f [] []=True:=rfl
theorem Qet {f:D→D→Prop} {a b:D} {r s:List D}:Xp f (a::r) (b::s)=(f a b∧Xp f r s):=rfl
end
attribute [go_sem] Qeg Qeh Qei Qej Gv Qek Qel Qem Qen Qeo Qep Qeq Qer Qes Qet Qef Gt MF Gu
end Go.Fg
namespace Go.Fg
open Go.RowKit (Below)
variable {Z:Nat→Prop}
theorem Qv.vW {h h':List Ob} {pl:List Pl} {w:World} (key:∀(l:Nat) (o:Ob),h[l]? = some o→∃o',h'[l]? = some o'∧o'.gen=o.gen∧o'.sz=o.sz∧o'.kd.ty=o.kd.ty) {d:D} {v:Value} (r:Qv Z h pl w d v):Qv Z h' pl w d v:=by
 induction r with
 | cl d v hc=>exact .cl d v hc
 | ref l g off len o p a cap ho hp hk hg hs=>
  obtain⟨o',h3,h4,h5,h6⟩:=key l o ho
  exact .ref l g off len o' p a cap h3 hp (by rw[h6];exact hk) (by rw[h4];exact hg) (fun e=>by rw[h5];exact hs (by rw[e,h4]))
 | ptr l g i j o p a ho hp hk hg hs=>
  obtain⟨o',h3,h4,h5,h6⟩:=key l o ho
  exact .ptr l g i j o' p a h3 hp (by rw[h6];exact hk) (by rw[h4];exact hg) (fun e=>by rw[h5];exact hs (by rw[e,h4]))
 | mref l g o p b ho hp hk hg hs=>
  obtain⟨o',h3,h4,h5,h6⟩:=key l o ho
  exact .mref l g o' p b h3 hp (by rw[h6];exact hk) (by rw[h4];exact hg) (fun e=>hs (by rw[e,h4]))
 | clo f nf cs vs hl hr ih=>exact .clo f nf cs vs hl ih
 | agg cs vs hl hr ih=>exact .agg cs vs hl ih
 | tup cs vs hl hr ih=>exact .tup cs vs hl ih
theorem ZA {h:List Ob} {l:Nat} {o:Ob} (e:h[l]? = some o):(h.map Ob.ro)[l]? = some o.ro:=by rw[List.getElem?_map,e];rfl
theorem Ac {h:List Ob} {l:Nat} {o:Ob} (e:(h.map Ob.ro)[l]? = some o):∃o',h[l]? = some o'∧o=o'.ro:=by
 rw[List.getElem?_map,Option.map_eq_some_iff]at e
 obtain⟨o',h1,h2⟩:=e
 exact⟨o',h1,h2.symm⟩
@[go_sem] theorem QtI (k:Kd) (g z n:Nat) (r:Nat→List D):Ob.ro ⟨k,g,z,n,r⟩=⟨k.toRo,g,z,n,r⟩:=rfl
theorem ro_ro (o:Ob):o.ro.ro=o.ro:=by
 obtain⟨k,g,z,n,r⟩:=o
 cases k<;>rfl
def J8 (P:Program) (f:FuncId) (h:List Ob) (args:List D) (R:D→List Ob→Prop):Prop:=
 QH P f (h.map Ob.ro) args fun d h'=>∃g,h'=h.map Ob.ro++g∧R d g
theorem J8.mono {P:Program} {f:FuncId} {h:List Ob} {args:List D} {R R':D→List Ob→Prop} (hh:J8 P f h args R) (hr:∀d g,R d g→R' d g):J8 P f h args R':=QH.mono hh fun _ _ ⟨g,h1,h2⟩=>⟨g,h1,hr _ _ h2⟩
section
variable {P:Program} {base nt:Nat} {w0:Start} {Q:Exit→St→Prop}
theorem eT (QJ:base≤w0.w.heap.size) {o:Oper} {s:St} {x:Operand} {args:Array Operand} {ZY:Array TypeId} {f:FuncId} {nf:Nat} {QC:List D} (hf:Qp P f) (ho:o.op=.call ⟨.value x,args,ZY⟩)
  (hx:Kb (Qq s.fr x)=some (f,nf,QC)) {R:D→List Ob→Prop} (hF:QH P f s.h (Z8 nf QC (args.toList.map (Qq s.fr))) R)
  (ht:Zo nt o.dst=true) (pl:List Pl) (a:Act) (w:World) (r:Rel Z base nt s pl a w) (b:JB Z base w0 s.h pl w) (Q':Exit→Act→World→Prop) :
  o.wp P a w (fun a' w'=>∃d h Qi,R d h∧Rel Z base nt ⟨Ze s.fr o.dst d,h⟩ Qi a' w'∧JB Z base w0 h Qi w'∧Tr s.h pl w h Qi w'∧∃v,a'=a.put o.dst v) Q':=by
 obtain⟨vs,hv,YO,xr⟩:=FY (r.eval x) hx
 have W3:base≤w.heap.size:=Nat.le_trans QJ b.1.size
 obtain⟨q1,Vr⟩:=FZ (r:=fun d v=>Qv Z s.h pl w d v) (nf:=nf) YO xr (us:=args.toList.map a.eval) (args:=args.toList.map (Qq s.fr)) (by simp) (fun i hi=>by
  have ZH:i<args.toList.length:=by simpa using hi
  simp only[nth,QL,List.getD_eq_getElem?_getD,List.getElem?_map]
  rw[List.getElem?_eq_getElem ZH]
  exact r.eval _)
 have hc:=hF Z base w pl (Z8 nf vs (args.toList.map a.eval)) W3 b.2.2.new r.o q1 Vr
 unfold Oper.wp
 rw[F0 hf ho hv w]
 simp only[Oper.upon_enter]
 refine hc.mono fun e w' he=>?_
 obtain⟨v,d,h',Qi,rfl,hR,hO,hV,hT,hB⟩:=he
 refine⟨d,h',Qi,hR,?_,b.step hT hB,hT,v,rfl⟩
 cases hd:o.dst with
 | none=>exact r.zY hT hO v
 | some t=>rw[hd]at ht;exact r.to hT hO (YN ht) hV
theorem QT (QJ:base≤w0.w.heap.size) {k:List Item} {dst:Option Nat} {ty:TypeId} {pos:String} {after:Array Edge} {gd:Option (Nat × Bool)} {r:List (Oper × G)} {s:St} {x:Operand} {args:Array Operand} {ZY:Array TypeId} {f:FuncId} {nf:Nat} {QC:List D} (hf:Qp P f)
  (hx:Kb (Qq s.fr x)=some (f,nf,QC)) {cs:List D} (he:Xo (Z8 nf QC (args.toList.map (Qq s.fr))) cs)
  {R:D→List Ob→Prop} (hF:QH P f s.h cs R) (ht:Zo nt dst=true) (hk:∀d h,R d h→Qs P base nt w0 Q (.ops r::k) .normal ⟨Ze s.fr dst d,h⟩) :
  Qs P base nt w0 Q (.ops ((⟨dst,.call ⟨.value x,args,ZY⟩,ty,pos,after,gd⟩,none)::r)::k) .normal s:=by
 simp only[Qs]at hk ⊢
 intro Z z pl a w rr b
 simp only[WA,Vj,if_true]
 exact Oper.wp_mono (fun a' w' ⟨d,h,Qi,hR,r',b',_⟩=>hk d h hR Z z Qi a' w' r' b') (eT QJ hf rfl hx (hF.args he) ht pl a w rr b _)
theorem eU (QJ:base≤w0.w.heap.size) {o:Oper} {s:St} {x:Operand} {args:Array Operand} {ZY:Array TypeId} {f:FuncId} {nf:Nat} {QC:List D} (hf:Qp P f) (ho:o.op=.call ⟨.value x,args,ZY⟩)
  (hx:Kb (Qq s.fr x)=some (f,nf,QC)) {R:D→List Ob→Prop} (hF:J8 P f s.h (Z8 nf QC (args.toList.map (Qq s.fr))) R)
  (ht:Zo nt o.dst=true) (pl:List Pl) (a:Act) (w:World) (r:Rel Z base nt s pl a w) (b:JB Z base w0 s.h pl w) (Q':Exit→Act→World→Prop) :
  o.wp P a w (fun a' w'=>Ext w w'∧∃d g Qi,R d g∧Rel Z base nt ⟨Ze s.fr o.dst d,s.h++g⟩ Qi a' w'∧JB Z base w0 (s.h++g) Qi w'∧Tr s.h pl w (s.h++g) Qi w'∧∃v,a'=a.put o.dst v) Q':=by
 obtain⟨vs,hv,YO,xr⟩:=FY (r.eval x) hx
 have W3:base≤w.heap.size:=Nat.le_trans QJ b.1.size
 obtain⟨q1,Vr⟩:=FZ (r:=fun d v=>Qv Z s.h pl w d v) (nf:=nf) YO xr (us:=args.toList.map a.eval) (args:=args.toList.map (Qq s.fr)) (by simp) (fun i hi=>by
  have ZH:i<args.toList.length:=by simpa using hi
  simp only[nth,QL,List.getD_eq_getElem?_getD,List.getElem?_map]
  rw[List.getElem?_eq_getElem ZH]
  exact r.eval _)
 have k1:∀(l:Nat) (o:Ob),s.h[l]? = some o→∃o',(s.h.map Ob.ro)[l]? = some o'∧o'.gen=o.gen∧o'.sz=o.sz∧o'.kd.ty=o.kd.ty:=fun l o e=>⟨o.ro,ZA e,rfl,rfl,Kd.toRo_ty _⟩
 have Gw:QW Z w.heap.size (s.h.map Ob.ro) pl w:=by
  refine⟨by simp [r.o.len],r.o.inj,fun l o ho hp=>?_,fun l o b q ho hp=>?_⟩
  ·obtain⟨o',h1,rfl⟩:=Ac ho
   exact r.o.J2 l o' h1 hp
  ·obtain⟨o',h1,rfl⟩:=Ac ho
   obtain⟨_,x⟩:=r.o.at_ l o' b q h1 hp
   exact⟨fun hr=>(by rw[LJ,Kd.toRo_ro]at hr;cases hr),x.to (Kd.toRo_ty _) rfl rfl rfl (fun _ _=>rfl) fun i j v _ _ hr=>hr.vW k1⟩
 have hc:=hF Z w.heap.size w pl (Z8 nf vs (args.toList.map a.eval)) (Nat.le_refl _) b.2.2.new Gw q1 (fun i hi=>(Vr i hi).vW k1)
 unfold Oper.wp
 rw[F0 hf ho hv w]
 simp only[Oper.upon_enter]
 refine hc.mono fun e w' he=>?_
 obtain⟨v,d,_,Qi,rfl,⟨g,rfl,hR⟩,hO,hV,hT,hB⟩:=he
 have Q4:∀(l:Nat) (p:Pl),l<s.h.length→Qi[l]? = some p→pl[l]? = some p:=fun l p hl e=>by
  have Jf:l<pl.length:=by rw[r.o.len];exact hl
  obtain⟨o',p',e1,e2,_,_,e3⟩:=hT.obj l _ _ (ZA (List.getElem?_eq_getElem hl)) (List.getElem?_eq_getElem Jf)
  rw[List.getElem?_append_left (by simpa using hl),ZA (List.getElem?_eq_getElem hl)]at e1
  cases e1
  obtain⟨_,e4⟩:=e3 rfl
  rw[e]at e2;cases e2
  rw[e4];exact List.getElem?_eq_getElem Jf
 have Ro:∀(l:Nat) (p:Pl),l<s.h.length→pl[l]? = some p→Qi[l]? = some p:=fun l p hl e=>by
  have Jf:l<Qi.length:=by have:=hO.len;simp at this;omega
  have h1:=Q4 l _ hl (List.getElem?_eq_getElem Jf)
  rw[e]at h1;cases h1
  exact List.getElem?_eq_getElem Jf
 have T:Tr s.h pl w (s.h++g) Qi w':=by
  refine⟨hT.JP,fun l o p ho hp=>⟨o,p,by rw[List.getElem?_append_left (Jv ho)];exact ho,Ro l p (Jv ho) hp,Nat.le_refl _,rfl,fun _=>⟨rfl,rfl⟩⟩,fun l o o' b q ho Zg hg hp c el hc=>⟨c,?_,rfl⟩⟩
  rw[hB.block b (r.o.lt hp).1];exact hc
 have k2:∀(l:Nat) (o:Ob),(s.h.map Ob.ro++g)[l]? = some o→∃o',(s.h++g)[l]? = some o'∧o'.gen=o.gen∧o'.sz=o.sz∧o'.kd.ty=o.kd.ty:=fun l o e=>by
  by_cases hl:l<s.h.length
  ·rw[List.getElem?_append_left (by simpa using hl)]at e
   obtain⟨o',h1,rfl⟩:=Ac e
   exact⟨o',by rw[List.getElem?_append_left hl];exact h1,rfl,rfl,(Kd.toRo_ty _).symm⟩
  ·rw[List.getElem?_append_right (by simpa using hl)]at e
   exact⟨o,by rw[List.getElem?_append_right (by omega)];simpa using e,rfl,rfl,rfl⟩
 have Bs:QW Z base (s.h++g) Qi w':=by
  refine⟨by have:=hO.len;simpa using this,hO.inj,fun l o ho hp=>?_,fun l o b q ho hp=>?_⟩
  ·by_cases hl:l<s.h.length
   ·rw[List.getElem?_append_left hl]at ho
    exact r.o.J2 l o ho (Q4 l _ hl hp)
   ·refine hO.J2 l o ?_ hp
    rw[List.getElem?_append_right (by omega)]at ho
    rw[List.getElem?_append_right (by simpa using hl)];simpa using ho
  ·by_cases hl:l<s.h.length
   ·rw[List.getElem?_append_left hl]at ho
    have qC:=Q4 l _ hl hp
    obtain⟨g1,x⟩:=r.o.at_ l o b q ho qC
    exact⟨g1,x.to rfl rfl rfl (hB.block b (r.o.lt qC).1) (fun _ _=>rfl) fun i j v _ _ hr=>hr.tr T⟩
   ·have e2:(s.h.map Ob.ro++g)[l]? = some o:=by
     rw[List.getElem?_append_right (by omega)]at ho
     rw[List.getElem?_append_right (by simpa using hl)];simpa using ho
    obtain⟨g1,x⟩:=hO.at_ l o b q e2 hp
    exact⟨fun hr=>Nat.le_trans W3 (g1 hr),x.to rfl rfl rfl rfl (fun _ _=>rfl) fun i j v _ _ hr=>hr.vW k2⟩
 refine⟨fun b hb=>hB.block b hb,d,g,Qi,hR,?_,b.step T (hB.mono W3),T,v,rfl⟩
 cases hd:o.dst with
 | none=>exact r.zY T Bs v
 | some t=>rw[hd]at ht;exact r.to T Bs (YN ht) (hV.vW k2)
theorem J8.args {f:FuncId} {h:List Ob} {Zx cs:List D} {R:D→List Ob→Prop} (hh:J8 P f h cs R) (e:Xo Zx cs):J8 P f h Zx R:=QH.args hh e
theorem Ad (QJ:base≤w0.w.heap.size) {k:List Item} {dst:Option Nat} {ty:TypeId} {pos:String} {after:Array Edge} {gd:Option (Nat × Bool)} {r:List (Oper × G)} {s:St} {x:Operand} {args:Array Operand} {ZY:Array TypeId} {f:FuncId} {nf:Nat} {QC:List D} (hf:Qp P f)
  (hx:Kb (Qq s.fr x)=some (f,nf,QC)) {cs:List D} (he:Xo (Z8 nf QC (args.toList.map (Qq s.fr))) cs)
  {R:D→List Ob→Prop} (hF:J8 P f s.h cs R) (ht:Zo nt dst=true) (hk:∀d g,R d g→Qs P base nt w0 Q (.ops r::k) .normal ⟨Ze s.fr dst d,s.h++g⟩) :
  Qs P base nt w0 Q (.ops ((⟨dst,.call ⟨.value x,args,ZY⟩,ty,pos,after,gd⟩,none)::r)::k) .normal s:=by
 simp only[Qs]at hk ⊢
 intro Z z pl a w rr b
 simp only[WA,Vj,if_true]
 exact Oper.wp_mono (fun a' w' ⟨_,d,h,Qi,hR,r',b',_⟩=>hk d h hR Z z Qi a' w' r' b') (eU QJ hf rfl hx (hF.args he) ht pl a w rr b _)
theorem Gx (QJ:base≤w0.w.heap.size) {K:St→Prop} {dst:Option Nat} {ty:TypeId} {pos:String} {after:Array Edge} {gd:Option (Nat × Bool)} {r:List (Bool × Oper × G)} {s:St} {x:Operand} {args:Array Operand} {ZY:Array TypeId} {f:FuncId} {nf:Nat} {QC:List D} (hf:Qp P f)
  (hx:Kb (Qq s.fr x)=some (f,nf,QC)) {cs:List D} (he:Xo (Z8 nf QC (args.toList.map (Qq s.fr))) cs) {R:D→List Ob→Prop} (hF:J8 P f s.h cs R)
  (ht:Zo nt dst=true) (hk:∀d g,R d g→AX P base nt w0 K r ⟨Ze s.fr dst d,s.h++g⟩) :
  AX P base nt w0 K ((false,⟨dst,.call ⟨.value x,args,ZY⟩,ty,pos,after,gd⟩,none)::r) s:=by
 simp only[AX,K8,W4]
 intro Z z pl a w rr b
 exact Oper.wp_mono (fun a' w' ⟨hE,d,g,Qi,hR,r',b',T,v,e⟩=>⟨fun _=>hE,_,_,Qi,v,hk d g hR,r',b',T,e⟩) (eU QJ hf rfl hx (hF.args he) ht pl a w rr b _)
theorem Qeu (QJ:base≤w0.w.heap.size) {k:List Item} {dst:Option Nat} {ty:TypeId} {pos:String} {after:Array Edge} {gd:Option (Nat × Bool)} {r:List (Oper × G)} {s:St} {x:Operand} {li l c:Nat} {es:List QM} {seen:List Nat} {q:IntKind}
  (hx:Qq s.fr x=.mref li 0) (WZ:s.h[li]? = some (VF l c c seen)) {kd:Kd} (Ja:kd.ty=1) (Q1:s.h[l]? = some (Km kd q c es)) (ht:Zo nt dst=true)
  (h0:(∀e∈es,e.b∈seen)→Qs P base nt w0 Q (.ops r::k) .normal ⟨Ze s.fr dst (.tup [.raw (.bool false)]),s.h⟩)
  (h1:∀e∈es,e.b ∉ seen→Qs P base nt w0 Q (.ops r::k) .normal ⟨Ze s.fr dst (.tup [.raw (.bool true),.raw (.int q e.k),e.v]),s.h.set li (VF l c c (seen++[e.b]))⟩) :
  Qs P base nt w0 Q (.ops ((⟨dst,.next x false,ty,pos,after,gd⟩,none)::r)::k) .normal s:=by
 simp only[Qs]at h0 h1 ⊢
 intro Z z pl a w rr b
 have W3:base≤w.heap.size:=Nat.le_trans QJ b.1.size
 simp only[WA,Vj,if_true]
 unfold Oper.wp
 rcases Qc1 (o:=⟨dst,.next x false,ty,pos,after,gd⟩) rfl rr W3 hx WZ Ja Q1 with ⟨g1,g2⟩|⟨e,he,g1,v,w',g2,T,O,V,B⟩
 ·rw[g2]
  simp only[Oper.upon_value]
  refine h0 g1 Z z pl _ w ?_ b
  have hv:Qv Z s.h pl w (.tup [.raw (.bool false)]) (.tuple #[.bool false]):=.tup _ [.bool false] rfl fun i hi=>match i,hi with
   | 0,_=>.cl _ _ (.raw _)
  cases dst with
  | none=>exact rr.zY (Tr.refl _ _ _) rr.o _
  | some t=>exact rr.to (Tr.refl _ _ _) rr.o (YN ht) hv
 ·rw[g2]
  simp only[Oper.upon_value]
  refine h1 e he g1 Z z pl _ w' ?_ (b.step T B)
  cases dst with
  | none=>exact rr.zY T O _
  | some t=>exact rr.to T O (YN ht) V
end
def QP (P:Program) (f:FuncId) (h:List Ob) (args:List D) (R:D→Prop):Prop:=J8 P f h args fun d _=>d.upto h.length=true∧R d
theorem QP.mono {P:Program} {f:FuncId} {h:List Ob} {args:List D} {R R':D→Prop} (hh:QP P f h args R) (hr:∀d,R d→R' d):QP P f h args R':=J8.mono hh fun _ _ h=>⟨h.1,hr _ h.2⟩
theorem QP.args {P:Program} {f:FuncId} {h:List Ob} {Zx cs:List D} {R:D→Prop} (hh:QP P f h cs R) (e:Xo Zx cs):QP P f h Zx R:=J8.args hh e
section
variable {P:Program} {base nt:Nat} {w0:Start} {Q:Exit→St→Prop}
theorem eV (QJ:base≤w0.w.heap.size) {o:Oper} {s:St} {x:Operand} {args:Array Operand} {ZY:Array TypeId} {f:FuncId} {nf:Nat} {QC:List D} (hf:Qp P f) (ho:o.op=.call ⟨.value x,args,ZY⟩)
  (hx:Kb (Qq s.fr x)=some (f,nf,QC)) {R:D→Prop} (hF:QP P f s.h (Z8 nf QC (args.toList.map (Qq s.fr))) R)
  (ht:Zo nt o.dst=true) (pl:List Pl) (a:Act) (w:World) (r:Rel Z base nt s pl a w) (b:JB Z base w0 s.h pl w) (Q':Exit→Act→World→Prop) :
  o.wp P a w (fun a' w'=>Ext w w'∧∃d,R d∧Rel Z base nt ⟨Ze s.fr o.dst d,s.h⟩ pl a' w'∧JB Z base w0 s.h pl w'∧Tr s.h pl w s.h pl w'∧∃v,a'=a.put o.dst v) Q':=by
 obtain⟨vs,hv,YO,xr⟩:=FY (r.eval x) hx
 have W3:base≤w.heap.size:=Nat.le_trans QJ b.1.size
 obtain⟨q1,Vr⟩:=FZ (r:=fun d v=>Qv Z s.h pl w d v) (nf:=nf) YO xr (us:=args.toList.map a.eval) (args:=args.toList.map (Qq s.fr)) (by simp) (fun i hi=>by
  have ZH:i<args.toList.length:=by simpa using hi
  simp only[nth,QL,List.getD_eq_getElem?_getD,List.getElem?_map]
  rw[List.getElem?_eq_getElem ZH]
  exact r.eval _)
 have k1:∀(l:Nat) (o:Ob),s.h[l]? = some o→∃o',(s.h.map Ob.ro)[l]? = some o'∧o'.gen=o.gen∧o'.sz=o.sz∧o'.kd.ty=o.kd.ty:=fun l o e=>⟨o.ro,ZA e,rfl,rfl,Kd.toRo_ty _⟩
 have k3:∀(g:List Ob) (l:Nat) (o:Ob),(s.h.map Ob.ro++g)[l]? = some o→∃o',(s.h++g)[l]? = some o'∧o'.gen=o.gen∧o'.sz=o.sz∧o'.kd.ty=o.kd.ty:=fun g l o e=>by
  by_cases hl:l<s.h.length
  ·rw[List.getElem?_append_left (by simpa using hl)]at e
   obtain⟨o',h1,rfl⟩:=Ac e
   exact⟨o',by rw[List.getElem?_append_left hl];exact h1,rfl,rfl,(Kd.toRo_ty _).symm⟩
  ·rw[List.getElem?_append_right (by simpa using hl)]at e
   exact⟨o,by rw[List.getElem?_append_right (by omega)];simpa using e,rfl,rfl,rfl⟩
 have Gw:QW Z w.heap.size (s.h.map Ob.ro) pl w:=by
  refine⟨by simp [r.o.len],r.o.inj,fun l o ho hp=>?_,fun l o b q ho hp=>?_⟩
  ·obtain⟨o',h1,rfl⟩:=Ac ho
   exact r.o.J2 l o' h1 hp
  ·obtain⟨o',h1,rfl⟩:=Ac ho
   obtain⟨_,x⟩:=r.o.at_ l o' b q h1 hp
   exact⟨fun hr=>(by rw[LJ,Kd.toRo_ro]at hr;cases hr),x.to (Kd.toRo_ty _) rfl rfl rfl (fun _ _=>rfl) fun i j v _ _ hr=>hr.vW k1⟩
 have hc:=hF Z w.heap.size w pl (Z8 nf vs (args.toList.map a.eval)) (Nat.le_refl _) b.2.2.new Gw q1 (fun i hi=>(Vr i hi).vW k1)
 unfold Oper.wp
 rw[F0 hf ho hv w]
 simp only[Oper.upon_enter]
 refine hc.mono fun e w' he=>?_
 obtain⟨v,d,_,Qi,rfl,⟨g,rfl,hu,hR⟩,hO,hV,hT,hB⟩:=he
 have hE:Ext w w':=fun b hb=>hB.block b hb
 have T0:Tr s.h pl w s.h pl w':=Tr.ext r.o hE
 have Ae:Qv Z s.h pl w' d v:=by
  have h1:=hV.take hu
  have e1:(s.h.map Ob.ro++g).take s.h.length=s.h.map Ob.ro:=List.take_left' (by simp)
  have e2:Qi.take s.h.length=pl:=by
   apply List.ext_getElem?
   intro i
   rw[List.getElem?_take]
   by_cases hi:i<s.h.length
   ·rw[if_pos hi]
    have Wz:i<pl.length:=by rw[r.o.len];exact hi
    obtain⟨o',p',m1,m2,_,_,m3⟩:=hT.obj i _ _ (ZA (List.getElem?_eq_getElem hi)) (List.getElem?_eq_getElem Wz)
    rw[List.getElem?_append_left (by simpa using hi),ZA (List.getElem?_eq_getElem hi)]at m1
    cases m1
    obtain⟨_,rfl⟩:=m3 rfl
    rw[m2,List.getElem?_eq_getElem Wz]
   ·rw[if_neg hi,List.getElem?_eq_none (by rw[r.o.len];omega)]
  rw[e1,e2]at h1
  exact h1.vW fun l o e=>by
   obtain⟨o',h1,rfl⟩:=Ac e
   exact⟨o',h1,rfl,rfl,(Kd.toRo_ty _).symm⟩
 refine⟨hE,d,hR,?_,b.step T0 (hB.mono W3),T0,v,rfl⟩
 have r':=r.ext hE
 cases hd:o.dst with
 | none=>exact r'.zY (Tr.refl _ _ _) r'.o v
 | some t=>rw[hd]at ht;exact r'.to (Tr.refl _ _ _) r'.o (YN ht) Ae
theorem QK (QJ:base≤w0.w.heap.size) {k:List Item} {dst:Option Nat} {ty:TypeId} {pos:String} {after:Array Edge} {gd:Option (Nat × Bool)} {r:List (Oper × G)} {s:St} {x:Operand} {args:Array Operand} {ZY:Array TypeId} {f:FuncId} {nf:Nat} {QC:List D} (hf:Qp P f)
  (hx:Kb (Qq s.fr x)=some (f,nf,QC)) {cs:List D} (he:Xo (Z8 nf QC (args.toList.map (Qq s.fr))) cs)
  {R:D→Prop} (hF:QP P f s.h cs R) (ht:Zo nt dst=true) (hk:∀d,R d→Qs P base nt w0 Q (.ops r::k) .normal ⟨Ze s.fr dst d,s.h⟩) :
  Qs P base nt w0 Q (.ops ((⟨dst,.call ⟨.value x,args,ZY⟩,ty,pos,after,gd⟩,none)::r)::k) .normal s:=by
 simp only[Qs]at hk ⊢
 intro Z z pl a w rr b
 simp only[WA,Vj,if_true]
 exact Oper.wp_mono (fun a' w' ⟨_,d,hR,r',b',_⟩=>hk d hR Z z pl a' w' r' b') (eV QJ hf rfl hx (hF.args he) ht pl a w rr b _)
theorem Z3 (QJ:base≤w0.w.heap.size) {K:St→Prop} {dst:Option Nat} {ty:TypeId} {pos:String} {after:Array Edge} {gd:Option (Nat × Bool)} {r:List (Bool × Oper × G)} {s:St} {x:Operand} {args:Array Operand} {ZY:Array TypeId} {f:FuncId} {nf:Nat} {QC:List D} (hf:Qp P f)
  (hx:Kb (Qq s.fr x)=some (f,nf,QC)) {cs:List D} (he:Xo (Z8 nf QC (args.toList.map (Qq s.fr))) cs) {R:D→Prop} (hF:QP P f s.h cs R)
  (ht:Zo nt dst=true) (hk:∀d,R d→AX P base nt w0 K r ⟨Ze s.fr dst d,s.h⟩) :
  AX P base nt w0 K ((false,⟨dst,.call ⟨.value x,args,ZY⟩,ty,pos,after,gd⟩,none)::r) s:=by
 simp only[AX,K8,W4]
 intro Z z pl a w rr b
 exact Oper.wp_mono (fun a' w' ⟨hE,d,hR,r',b',T,v,e⟩=>⟨fun _=>hE,_,_,pl,v,hk d hR,r',b',T,e⟩) (eV QJ hf rfl hx (hF.args he) ht pl a w rr b _)
end
theorem Qd {h:List Ob} {l:Nat} {o:Ob} (e:h[l]? = some o):l<h.length:=Jv e
theorem QU {h t:List Ob} {l:Nat} (hl:l<h.length):(h++t)[l]? = h[l]? := List.getElem?_append_left hl
theorem Kc {h t:List Ob} {n:Nat} (hn:h.length=n):(h++t)[n]? = t[0]? := by rw[← hn,List.getElem?_append_right (Nat.le_refl _),Nat.sub_self]
theorem KW {h t:List Ob} {n k:Nat} (hn:h.length=n):(h++t)[n+k]? = t[k]? := by rw[← hn,List.getElem?_append_right (by omega),Nat.add_sub_cancel_left]
theorem xG {h t:List Ob} {l:Nat} {o:Ob} (hl:l<h.length):(h++t).set l o=h.set l o++t:=List.set_append_left _ _ hl
theorem MG {h t:List Ob} {n:Nat} {o:Ob} (hn:h.length=n):(h++t).set n o=h++t.set 0 o:=by rw[← hn,List.set_append_right _ _ (Nat.le_refl _),Nat.sub_self]
theorem Qev {h t:List Ob} {n k:Nat} {o:Ob} (hn:h.length=n):(h++t).set (n+k) o=h++t.set k o:=by rw[← hn,List.set_append_right _ _ (by omega),Nat.add_sub_cancel_left]
theorem Qw {h:List Ob} {l:Nat} {o:Ob} (hl:l<h.length):(h.set l o)[l]? = some o:=List.getElem?_set_self hl
theorem Qt {h:List Ob} {l m:Nat} {o:Ob} (hn:l≠m):(h.set l o)[m]? = h[m]? := List.getElem?_set_ne hn
theorem Zi {P:Program} {X:Cx} (hX:W0 P X) {f:FuncId} {fn:Func} {c:Code} (n:Nat) (hf:P.funcs[f]? = some fn) (hb:fn.body=some c) {h:List Ob} {args:List D} {R:D→Prop} {nt:Nat} {rs:Array ResultVar} (qx:fn.ntmps=nt) (jl:fn.results=rs) (hn:Nat.ble args.length nt=true)
  (hh:∀(base:Nat) (w:World) (pl:List Pl) (F:List Ob),F=h.map Ob.ro→F.length=h.length→base≤w.heap.size→hx P base ⟨w,F,pl⟩ (yY X.L rs.toList fun d h'=>∃g,h'=F++g∧d.upto F.length=true∧R d) X nt n [.code c] ⟨zk args 0,F⟩):QP P f h args R:=
 (QX hX n hf hb qx jl hn fun base w pl hb=>hh base w pl _ rfl (by simp) hb).mono fun d h' ⟨g,h1,h2,h3⟩=>⟨g,h1,by simpa using h2,h3⟩
theorem Yk {P:Program} {X:Cx} (hX:W0 P X) {f:FuncId} {fn:Func} {c:Code} (n:Nat) (hf:P.funcs[f]? = some fn) (hb:fn.body=some c) {h:List Ob} {args:List D} {R:D→List Ob→Prop} {nt:Nat} {rs:Array ResultVar} (qx:fn.ntmps=nt) (jl:fn.results=rs) (hn:Nat.ble args.length nt=true)
  (hh:∀(base:Nat) (w:World) (pl:List Pl) (F:List Ob),F=h.map Ob.ro→F.length=h.length→base≤w.heap.size→hx P base ⟨w,F,pl⟩ (yY X.L rs.toList fun d h'=>∃g,h'=F++g∧R d g) X nt n [.code c] ⟨zk args 0,F⟩):J8 P f h args R:=
 QX hX n hf hb qx jl hn fun base w pl hb=>hh base w pl _ rfl (by simp) hb
attribute [go_sem] LO LP Dj yT LR LS PL cC PK cB cD cE cF QcM QcN QcO QcP LJ QcQ QcR ro_ro wY
theorem Qa:(∀{h t:List Ob} {l:Nat},l<h.length→(h++t)[l]? = h[l]?)∧(∀{h t:List Ob} {n:Nat},h.length=n→(h++t)[n]? = t[0]?)∧(∀{h t:List Ob} {n k:Nat},h.length=n→(h++t)[n+k]? = t[k]?)∧(∀{h t:List Ob} {l:Nat} {o:Ob},l<h.length→(h++t).set l o=h.set l o++t)∧(∀{h t:List Ob} {n:Nat} {o:Ob},h.length=n→(h++t).set n o=h++t.set 0 o)∧(∀{h t:List Ob} {n k:Nat} {o:Ob},h.length=n→(h++t).set (n+k) o=h++t.set k o)∧(∀{α:Type} {a b:List α},(a++b).length=a.length+b.length)∧(∀{α:Type} {i:Nat} {a:α} {l:List α},(l.set i a).length=l.length)∧(∀{α:Type} (a b c:List α),a++b++c=a++(b++c))∧(∀{α:Type} {a b:α} (l:List α) {i:Nat},(l.set i a).set i b=l.set i b):=
 ⟨QU,Kc,KW,xG,MG,Qev,List.length_append,List.length_set,List.append_assoc,fun _=>List.set_set _⟩
end Go.Fg
