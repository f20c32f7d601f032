/- Contracts and laws on the way to the statement. No conditions. -/
import Derived.Test.YtjhngjdipealfaaGreatFgExec
import Derived.OrdersHeld
set_option maxRecDepth 100000
set_option maxHeartbeats 16000000
set_option linter.unusedVariables false
set_option linter.unusedSimpArgs false
set_option linter.unusedSectionVars false
set_option linter.defProp false
namespace Go.Fg
open Go.RowKit (Below)
variable {Z:Nat->Prop}
mutual
def D.shift(k:Nat):D->D
 | .ref l g off len=>.ref (k+l) g off len
 | .ptr l g i j=>.ptr (k+l) g i j
 | .mref l g=>.mref (k+l) g
 | .clo f nf cs=>.clo f nf (wh k cs)
 | .agg cs=>.agg (wh k cs)
 | .tup cs=>.tup (wh k cs)
 | d=>d
def wh(k:Nat):List D->List D
 | []=>[]
 | c::cs=>c.shift k::wh k cs
end
def Ob.shift(k:Nat)(o:Ob):Ob:={ o with row:=λi=>wh k (o.row i) }
def kV(k):∀cs:List D,(wh k cs).length=cs.length
 | []=>rfl
 | _::cs=>by simp[wh,kV k cs]
def EK(k):∀(cs:List D) (i:Nat),i<cs.length->nth (wh k cs) i=(nth cs i).shift k
 | [],i,h=>by simp at h
 | c::cs,0,_=>by simp[wh,nth]
 | c::cs,i+1,h=>by
  have:=EK k cs i (by simpa using h);simpa[wh,nth] using this
def QA.join{Zc}{h h':List Ob}{pl Qj:List Pl}{w}(hl:pl.length=h.length)(hf:∀b,free Zc Qj b->free Z (pl++Qj) b){d}{v}(r:QA Zc h' Qj w d v):
  QA Z (h++h'.map (Ob.shift h.length)) (pl++Qj) w (d.shift h.length) v:=by
 have Q9:∀(l:Nat) (o:Ob),h'[l]? = some o->(h++h'.map (Ob.shift h.length))[h.length+l]? = some (o.shift h.length):=λl o e=>by
  rw[JT (by omega)];simp[e]
 have Zf:∀(l:Nat) (p:Pl),Qj[l]? = some p->(pl++Qj)[h.length+l]? = some p:=λl p e=>by
  rw[JT (by omega),hl];simp[e]
 have Z6:∀(d:D) (v:Value),Cl (free Zc Qj) w d v->QA Z (h++h'.map (Ob.shift h.length)) (pl++Qj) w (d.shift h.length) v:=by
  intro d v hc;have xB:=hc.mono (N':=free Z (pl++Qj)) (w':=w) (λb hb _=>⟨hf b hb,rfl⟩);clear hc;induction xB with
  | raw v=>exact .cl _ _ (.raw v)
  | undef v=>exact .cl _ _ (.undef v)
  | nil a=>exact .cl _ _ (.nil a)
  | imm sz n row a cap b o vs ha hl hs hc hr ih=>exact .cl _ _ (.imm sz n row a cap b o vs ha hl hs hc hr)
  | ip cells b o vs hc hr ih=>exact .cl _ _ (.ip cells b o vs hc hr)
  | clo f nf cs vs hl hr ih=>exact .clo f nf _ vs (by rw[kV];exact hl) (λi hi=>by rw[kV]at hi;rw[EK _ _ _ hi];exact ih i hi)
  | agg cs vs hl hr ih=>exact .agg _ vs (by rw[kV];exact hl) (λi hi=>by rw[kV]at hi;rw[EK _ _ _ hi];exact ih i hi)
  | tup cs vs hl hr ih=>exact .tup _ vs (by rw[kV];exact hl) (λi hi=>by rw[kV]at hi;rw[EK _ _ _ hi];exact ih i hi)
 induction r with
 | cl d v hc=>exact Z6 d v hc
 | ref l g off len o p a cap ho hp hk hg hs=>exact .ref _ g off len _ p a cap (Q9 l o ho) (Zf l p hp) hk hg hs
 | ptr l g i j o p a ho hp hk hg hs=>exact .ptr _ g i j _ p a (Q9 l o ho) (Zf l p hp) hk hg hs
 | mref l g o p b ho hp hk hg hs=>exact .mref _ g _ p b (Q9 l o ho) (Zf l p hp) hk hg hs
 | clo f nf cs vs hl hr ih=>exact .clo f nf _ vs (by rw[kV];exact hl) (λi hi=>by rw[kV]at hi;rw[EK _ _ _ hi];exact ih i hi)
 | agg cs vs hl hr ih=>exact .agg _ vs (by rw[kV];exact hl) (λi hi=>by rw[kV]at hi;rw[EK _ _ _ hi];exact ih i hi)
 | tup cs vs hl hr ih=>exact .tup _ vs (by rw[kV];exact hl) (λi hi=>by rw[kV]at hi;rw[EK _ _ _ hi];exact ih i hi)
def Tr.join{base}{h h'}{pl Qj:List Pl}{w w':World}(R:Ze Z base h pl w)(hb:Below w.heap.size w w')(JH:∀(l b q:Nat),Qj[l]? = some (some (b,q))->w.heap.size<=b):
  Tr h pl w (h++h') (pl++Qj) w' where
 Kj:=λb X4 Qc=>by
  refine⟨λl q e=>?_,hb.block b Qc⟩;by_cases hl:l<pl.length
  ·rw[Jy hl]at e;exact X4 l q e
  ·rw[JT (by omega)]at e;have:=JH _ _ _ e;omega
 obj:=λl o p ho hp=>⟨o,p,by rw[Jy (Ku ho)];exact ho,by rw[Jy (VU hp)];exact hp,QD _,rfl,λ_=>⟨rfl,rfl⟩⟩
 shape:=λl o o' b q ho Zv hg hp c el xp=>⟨c,by rw[hb.block b (R.lt hp).1];exact xp,rfl⟩
def Ze.join{Zc}{base}{h h'}{pl Qj}{w w':World}(R:Ze Z base h pl w)(QX:base<=w.heap.size)(hb:Below w.heap.size w w')(R':Ze Zc w.heap.size h' Qj w')
  (hf:∀b,free Zc Qj b->free Z (pl++Qj) b) (JH:∀(l b q:Nat),Qj[l]? = some (some (b,q))->w.heap.size<=b):Ze Z base (h++h'.map (Ob.shift h.length)) (pl++Qj) w':=by
 have T:=Tr.join (h':=h'.map (Ob.shift h.length)) R hb JH;refine⟨by simp[R.len,R'.len],?_,?_,?_⟩
 ·intro l l' b q q' e1 e2;by_cases h1:l<pl.length<;>by_cases h2:l'<pl.length
  ·rw[Jy h1]at e1;rw[Jy h2]at e2;exact R.inj _ _ _ _ _ e1 e2
  ·rw[Jy h1]at e1;rw[JT (by omega)]at e2;have:=(R.lt e1).1;have:=JH _ _ _ e2;omega
  ·rw[JT (by omega)]at e1;rw[Jy h2]at e2;have:=(R.lt e2).1;have:=JH _ _ _ e1;omega
  ·rw[JT (by omega)]at e1 e2;have:=R'.inj _ _ _ _ _ e1 e2;omega
 ·intro l o ho hp;by_cases h1:l<h.length
  ·rw[Jy h1]at ho;rw[Jy (by rw[R.len];exact h1)]at hp;exact R.Vv l o ho hp
  ·rw[JT (by omega)]at ho;rw[JT (by rw[R.len];omega),R.len]at hp;simp only[Ky,XA]at ho;obtain⟨o',Zv,rfl⟩:=ho;exact R'.Vv _ o' Zv hp
 ·intro l o b q ho hp;by_cases h1:l<h.length
  ·rw[Jy h1]at ho;rw[Jy (by rw[R.len];exact h1)]at hp;obtain⟨g1,x⟩:=R.at_ l o b q ho hp;exact⟨g1,x.to rfl rfl rfl (hb.block b (R.lt hp).1) (λ_ _=>rfl) λi j v _ _ hr=>hr.tr T⟩
  ·rw[JT (by omega)]at ho;rw[JT (by rw[R.len];omega),R.len]at hp;simp only[Ky,XA]at ho;obtain⟨o',Zv,rfl⟩:=ho;obtain⟨g1,x⟩:=R'.at_ _ o' b q Zv hp;refine⟨λ_=>by have:=JH _ _ _ hp;omega,x.to rfl rfl rfl rfl (λi _=>kV _ _) λi j v hi hj hr=>?_⟩;show QA Z _ _ _ (nth (wh _ (o'.row i)) j) v;rw[EK _ _ _ hj];exact hr.join R.len hf
def MFn(P:Program)(f:FuncId)(F:List Ob)(args:List D)(R:D->List Ob->Prop):Prop:=
 ∀(Z:Nat->Prop) (base:Nat) (w:World) (pl:List Pl) (vs:List Value),base<=w.heap.size->(∀b,w.heap.size<=b->Z b)->Ze Z base F pl w ->
  vs.length=args.length->(∀i,i<args.length->QA Z F pl w (nth args i) (QW vs i)) ->
  Calls P f vs.toArray w λe w'=>∃v d h Qj,e=.returned v/\R d h/\Ze Z base h Qj w'/\QA Z h Qj w' d v/\Tr F pl w h Qj w'/\Below base w w'
def MFn.mono{P}{f}{F}{args}{R R'}(h:MFn P f F args R)(hr:∀d h,R d h->R' d h):MFn P f F args R':=λZ base w pl vs h1 h2 h3 h4 h5=>
 (h Z base w pl vs h1 h2 h3 h4 h5).mono λ_ _ ⟨v,d,hh,Qj,k1,k2,k3⟩=>⟨v,d,hh,Qj,k1,hr _ _ k2,k3⟩
def Zh(P:Program)(f:FuncId)(args:List D)(R:D->List Ob->Prop):Prop:=MFn P f [] args R
def Zh.mono{P}{f}{args}{R R'}(h:Zh P f args R)(hr:∀d h,R d h->R' d h):Zh P f args R':=MFn.mono h hr
def wi:List D->Nat->List (Nat × D)
 | [],_=>[]
 | d::r,i=>(i,d)::wi r (i+1)
def si:∀(args:List D) (i t:Nat),get (wi args i) t=if i<=t then nth args (t - i) else .undef
 | [],i,t=>by simp[wi,get,nth]
 | d::r,i,t=>by
  simp only[wi,get];by_cases h:i=t
  ·subst h;simp[nth]
  ·have:Nat.beq i t=false:=by rw[<- W3,Vz];exact h
   rw[this];simp only[qB];rw[si r (i+1) t];by_cases h2:i+1<=t
   ·rw[Qg h2,Qg (by omega)];obtain⟨m,rfl⟩:∃m,t=i+(m+1):=⟨t - i - 1,by omega⟩;rw[show i+(m+1) - (i+1)=m by omega,show i+(m+1) - i=m+1 by omega];simp[nth]
   ·rw[Qd h2,Qd (by omega)]
def Cz(L:Zm)(s:St):List ResultVar->Option (Prop × List D)
 | []=>some (True,[])
 | .tmp t::r=>match Cz L s r with
  | some (p,ds)=>some (p,get s.fr t::ds)
  | none=>none
 | .cell a ty::r=>match Gr L s.h ty (get s.fr a),Cz L s r with
  | some (q,d),some (p,ds)=>some (q/\p,d::ds)
  | _,_=>none
def one:List D->D
 | [d]=>d
 | ds=>.tup ds
def EL(L:Zm)(rs:List ResultVar)(R:D->List Ob->Prop):Exit->St->Prop
 | .normal,s | .ret,s=>match Cz L s rs with
  | some (p,ds)=>p/\R (one ds) s.h
  | none=>False
 | _,_=>False
def IW(tmps:Array Value):ResultVar->Sem Value
 | .tmp t=>pure (tmps.getD t Go.undef)
 | .cell x t=>do loadVar t (<- asAddr (tmps.getD x Go.undef))
def eX(fn:Func)(tmps):results fn tmps=(do let vs <- fn.results.mapM (IW tmps);pure (if h:vs.size=1 then vs[0] else .tuple vs)):=by
 unfold results;congr 2
def eY{P}{L}(hL:ZR P L){base nt}{s}{pl}{a}{w}(r:Rel Z base nt s pl a w):∀(rs:List ResultVar) (p:Prop) (ds:List D),Cz L s rs=some (p,ds)->p ->
  ∃vs:List Value,vs.length=ds.length/\(∀i,i<ds.length->QA Z s.h pl w (nth ds i) (QW vs i)) /\
   (rs.mapM (IW a.tmps)).run P w=.ok vs w
 | [],p,ds,h,_=>by simp[Cz]at h;obtain⟨_,rfl⟩:=h;exact⟨[],rfl,λi hi=>by simp at hi,by simp⟩
 | .tmp t::rs,p,ds,h,hp=>by
  simp only[Cz]at h;split at h
  ·rename_i q ds' hr;simp only[QV,Q4]at h;obtain⟨rfl,rfl⟩:=h;obtain⟨vs,h1,h2,h3⟩:=eY hL r rs _ _ hr hp;refine⟨a.tmps.getD t Go.undef::vs,by simp[h1],λi hi=>?_,by simp[List.mapM_cons,IW,h3]⟩;cases i with
   | zero=>exact r.fr t
   | succ i=>have:=h2 i (by simpa using hi);simpa[nth,QW] using this
  ·cases h
 | .cell x t::rs,p,ds,h,hp=>by
  simp only[Cz]at h;split at h
  ·rename_i q d p' ds' hl hr;simp only[QV,Q4]at h;obtain⟨rfl,rfl⟩:=h;obtain⟨vs,h1,h2,h3⟩:=eY hL r rs _ _ hr hp.2;have ho := pZ (P := P) (base := base) (nt := nt) (s := s) (o := ⟨none, .load t (.tmp x), 0, "", #[], none⟩) hL (t := t) (x := .tmp x) rfl hl hp.1;obtain⟨v,hv,Q5⟩:=ho Z pl a w r;have Q5:=Q5 w (λ_ _=>rfl);refine⟨v::vs,by simp[h1],λi hi=>?_,?_⟩
   ·cases i with
    | zero=>exact hv
    | succ i=>have:=h2 i (by simpa using hi);simpa[nth,QW] using this
   ·have hx:=r.fr x;have TB:(IW a.tmps (.cell x t)).run P w=.ok v w:=by
     simp only[execOp,Act.eval,Instr.loadAt,Sem.run_bind]at Q5;simp only[IW];have dV:∃ad,a.tmps.getD x Go.undef=.pointer (some ad):=by
      unfold Gr at hl;split at hl
      ·cases hl
      ·split at hl
       ·rename_i hg;rw[hg]at hx;obtain⟨_,_,ad,hv,_⟩:=Cn hx;exact⟨_,hv⟩
       ·rename_i hg;rw[hg]at hx;obtain⟨_,_,_,hv,_⟩:=Gq hx;exact⟨_,hv⟩
       ·cases hl
     obtain⟨ad,jS⟩:=dV;rw[jS]at Q5 ⊢;simp only[Instr.sureAddr,asAddr,Sem.run_bind,Sem.run_pure,Result.andThen_ok]at Q5 ⊢;generalize (loadVar t ad).run P w=r1 at *;cases r1 with
     | ok u w1=>simp only[Result.andThen_ok]at Q5;cases Q5;rfl
     | halt x w1=>simp only[Result.andThen_halt]at Q5;cases Q5
    simp[List.mapM_cons,TB,h3]
  ·cases h
def Qlq{P:Program}{L}(hL:ZR P L){f}{fn:Func}{c}(hf:P.funcs[f]? = some fn)(hb:fn.body=some c){F}{args:List D}{R}(hn:args.length<=fn.ntmps)
  (h:∀(base:Nat) (w:World) (pl:List Pl),base<=w.heap.size->pl.length=F.length->A P base fn.ntmps ⟨w,F,pl⟩ c (EL L fn.results.toList R) ⟨wi args 0,F⟩):MFn P f F args R:=by
 intro Z base w pl vs QX hZ hO hl hc;refine calls_of_wp hf hb ?_;have S3:Rel Z base fn.ntmps ⟨wi args 0,F⟩ pl { tmps:=vs.toArray++Array.replicate (fn.ntmps - vs.toArray.size) Go.undef,defers:=[] } w:=by
  refine⟨by simp;omega,rfl,λt=>?_,hO⟩;rw[si];simp only[JQ,K6,Ej];by_cases ht:t<args.length
  ·have:=hc t ht;have e:(vs.toArray++Array.replicate (fn.ntmps - vs.toArray.size) Go.undef).getD t Go.undef=QW vs t:=by
    rw[vP,Ip (by simp;omega)];simp[QW,Q8]
   rw[e];exact this
  ·have:nth args t=.undef:=by simp[nth,Q8,Ed (Nat.le_of_not_lt ht)]
   rw[this];exact .cl _ _ (.undef _)
 refine wp_mono (h base w pl QX hO.len _ trivial pl _ w S3 ⟨Below.refl _ _,Tr.refl _ _ _,GF.start (w0:=⟨w,F,pl⟩) hO hZ⟩) λe a' w' hh=>?_;obtain⟨s',Qj,hq,r',xF,hT,_⟩:=hh;have fin:(match Cz L s' fn.results.toList with|some (p,ds)=>p/\R (one ds) s'.h|none=>False)->a'.defers=[]/\∃v,(results fn a'.tmps).run P w'=.ok v w' /\
   ∃v1 d h Qj,Ending.returned v=.returned v1/\R d h/\Ze Z base h Qj w'/\QA Z h Qj w' d v1/\Tr F pl w h Qj w'/\Below base w w':=by
  intro hm;split at hm
  ·rename_i p ds yY;obtain⟨Wq,h1,h2,h3⟩:=eY hL r' _ _ _ yY hm.1;have Q5:(fn.results.mapM (IW a'.tmps)).run P w'=.ok Wq.toArray w':=by
    rw[Array.mapM_eq_mapM_toList];simp only[Sem.run_map,h3,Result.andThen_ok]
   refine⟨r'.defers,?_⟩;have Je:Wq.toArray.size=Wq.length:=by simp
   match ds,Wq,h1,h2,Q5,hm with
   | [d],[v],_,h2,Q5,hm=>
    refine⟨v,?_,v,d,s'.h,Qj,rfl,hm.2,r'.o,h2 0 (by simp),hT,xF⟩;rw[eX];simp only[Sem.run_bind];rw[Q5];simp
   | [],[],_,h2,Q5,hm=>
    refine⟨.tuple #[],?_,_,_,s'.h,Qj,rfl,hm.2,r'.o,.tup [] [] rfl (λi hi=>by simp at hi),hT,xF⟩;rw[eX];simp only[Sem.run_bind];rw[Q5];simp
   | d::d2::ds,v::v2::vs,h1,h2,Q5,hm=>
    refine⟨.tuple (v::v2::vs).toArray,?_,_,_,s'.h,Qj,rfl,hm.2,r'.o,.tup _ _ h1 h2,hT,xF⟩;rw[eX];simp only[Sem.run_bind];rw[Q5];simp
   | [],_::_,h1,_,_,_=>simp at h1
   | [_],[],h1,_,_,_=>simp at h1
   | [_],_::_::_,h1,_,_,_=>simp at h1
   | _::_::_,[],h1,_,_,_=>simp at h1
   | _::_::_,[_],h1,_,_,_=>simp at h1
  ·exact hm.elim
 cases e with
 | normal=>exact fin hq
 | ret=>exact fin hq
 | exit id=>exact hq.elim
 | goto l=>exact hq.elim
 | panic ch=>exact hq.elim
 | outgrown=>exact hq.elim
end Go.Fg
namespace Go.Fg
open Go.RowKit (Below)
variable {Z:Nat->Prop}
def D.Y6:D->Bool
 | .raw _ | .nil | .imm _ _ _ | .ip _=>true
 | _=>false
def GG{h}{pl}{w}{d:D}{v}(r:QA Z h pl w d v)(hd:d.Y6=true):Cl (free Z pl) w d v:=by
 cases r with
 | cl _ _ hc=>exact hc
 | _=>cases hd
def jh(f:D->Option (Prop × D)):List D->Option (Prop × List D)
 | []=>some (True,[])
 | d::r=>match f d,jh f r with
  | some (p,c),some (q,cs)=>some (p/\q,c::cs)
  | _,_=>none
def WH(h:List Ob):Nat->D->Option (Prop × D)
 | 0,.raw v=>some (True,.raw v)
 | 0,_=>none
 | n+1,d=>match d with
  | .raw v=>some (True,.raw v)
  | .nil=>some (True,.nil)
  | .imm z n r=>some (True,.imm z n r)
  | .ip c=>some (True,.ip c)
  | .ref l g off len=>match h[l]? with
   | some o=>some (g=o.gen/\off+len<=o.n/\∀i,i<len->(o.row (off+i)).all D.Y6=true,.imm o.sz len λi=>o.row (off+i))
   | none=>none
  | .ptr l g i j=>match h[l]? with
   | some o=>match jh (WH h n) ((o.row i).drop j) with
    | some (p,cs)=>some (g=o.gen/\i<o.n/\j<=o.sz/\p,.ip cs)
    | none=>none
   | none=>none
  | .agg cs=>match jh (WH h n) cs with
   | some (p,cs')=>some (p,.agg cs')
   | none=>none
  | .clo f nf cs=>match jh (WH h n) cs with
   | some (p,cs')=>some (p,.clo f nf cs')
   | none=>none
  | _=>none
def Oj{f:D->Option (Prop × D)}{C:D->Value->Prop}{r:D->Value->Prop}(hf:∀d v p c,r d v->f d=some (p,c)->p->C c v):∀(cs:List D) (vs:List Value) (p:Prop) (cs':List D),vs.length=cs.length->(∀i,i<cs.length->r (nth cs i) (QW vs i)) ->
  jh f cs=some (p,cs')->p->cs'.length=cs.length/\∀i,i<cs.length->C (nth cs' i) (QW vs i)
 | [],vs,p,cs',hl,hr,h,hp=>by simp[jh]at h;obtain⟨_,rfl⟩:=h;exact⟨rfl,λi hi=>by simp at hi⟩
 | d::cs,[],p,cs',hl,hr,h,hp=>by simp at hl
 | d::cs,v::vs,p,cs',hl,hr,h,hp=>by
  simp only[jh]at h;split at h
  ·rename_i p1 c q cs1 h1 h2;simp only[QV,Q4]at h;obtain⟨rfl,rfl⟩:=h;obtain⟨k1,k2⟩:=Oj hf cs vs q cs1 (by simpa using hl) (λi hi=>by have:=hr (i+1) (by simpa using hi);simpa[nth,QW] using this) h2 hp.2;refine⟨by simp[k1],λi hi=>?_⟩;cases i with
   | zero=>exact hf d v p1 c (hr 0 (by simp)) h1 hp.1
   | succ i=>have:=k2 i (by simpa using hi);simpa[nth,QW] using this
  ·cases h
def TC{N}{base}{h}{pl:List Pl}{w}(R:Ze Z base h pl w)(TD:∀b,free Z pl b->N b)(Ol:∀l b q:Nat,pl[l]? = some (some (b,q))->N b):∀(n:Nat) (d:D) (v:Value) (p:Prop) (c:D),QA Z h pl w d v->WH h n d=some (p,c)->p->Cl N w c v
 | 0,d,v,p,c,r,e,hp=>by
  cases d<;>simp only[WH,reduceCtorEq,QV,Q4]at e;obtain⟨_,rfl⟩:=e;rw[Z9 r];exact .raw _
 | n+1,d,v,p,c,r,e,hp=>by
  have top:∀{d:D} {v:Value},Cl (free Z pl) w d v->Cl N w d v:=λh=>h.mono λb hb _=>⟨TD b hb,rfl⟩;cases d with
  | raw u=>simp only[WH,QV,Q4]at e;obtain⟨_,rfl⟩:=e;exact top (GG r rfl)
  | nil=>simp only[WH,QV,Q4]at e;obtain⟨_,rfl⟩:=e;exact top (GG r rfl)
  | imm z k row=>simp only[WH,QV,Q4]at e;obtain⟨_,rfl⟩:=e;exact top (GG r rfl)
  | ip cs=>simp only[WH,QV,Q4]at e;obtain⟨_,rfl⟩:=e;exact top (GG r rfl)
  | undef=>simp[WH]at e
  | tup cs=>simp[WH]at e
  | ref l g off len=>
   simp only[WH]at e;split at e
   ·rename_i o ho;simp only[QV,Q4]at e;obtain⟨rfl,rfl⟩:=e;obtain⟨hg,hn,Vo⟩:=hp;obtain⟨a,cap,vs,S⟩:=dX R r (p:=g=o.gen/\off+len<=o.n) (n:=len) (sz:=o.sz) (rows:=λk=>o.row (off+k)) (by simp[N4,ho]) ⟨hg,hn⟩;have Bb:∀i j,i<len->j<o.sz->(nth (o.row (off+i)) j).Y6=true:=λi j hi hj=>by
     have h1:=Vo i hi;rw[jN]at h1;have h2:j<(o.row (off+i)).length:=by rw[S.len i hi];exact hj
     refine h1 _ ?_;simp only[nth,Q8,QP h2,KS];exact qz h2
    obtain⟨o',p',ad,jT,hv,Zv,ZN,ZD,zZ,Wo⟩:=Cm r;rw[ho]at Zv;cases Zv;have eZ:=S.v;rw[hv]at eZ;simp only[Value.slice.injEq,xl]at eZ;obtain⟨rfl,rfl⟩:=eZ;rw[hv];rcases Wo hg with ⟨h1,h2⟩|⟨b,q,c,el,VI,jS,hb,hc,hl⟩
    ·subst h1;exact .imm _ _ _ _ _ 0 0 (λ_ _=>Go.undef) (λh=>by omega) (by omega) (λi hi=>by omega) (λi j hi=>by omega) (λi j hi=>by omega)
    ·refine .imm _ _ _ _ _ b (q+off*o.sz) vs (λ_=>jS) hl S.len (λi j hi hj=>⟨Ol l b q (by rw[ZN,VI]),?_⟩) (λi j hi hj=>?_)
     ·obtain⟨b1,q1,hh,Ey⟩:=S.cell i j hi hj;rw[jS]at hh;simp only[QV,Addr.mk.injEq,and_true]at hh;obtain⟨rfl,rfl⟩:=hh;exact Ey
     ·exact top (GG (S.rel i j hi hj) (Bb i j hi hj))
   ·cases e
  | mref l g=>simp[WH]at e
  | ptr l g i j=>
   simp only[WH]at e;split at e
   ·rename_i o ho;split at e
    ·rename_i q cs Jp;simp only[QV,Q4]at e;obtain⟨rfl,rfl⟩:=e;obtain⟨hg,hi,hj,hq⟩:=hp;obtain⟨o',p',ad,hv,Zv,ZN,ZD,zZ,Wo⟩:=Cn r;rw[ho]at Zv;cases Zv;obtain⟨b,q0,rfl,rfl⟩:=Wo hg;obtain⟨QX,xx⟩:=R.at_ l o b q0 ho ZN;obtain⟨c,el,hb,Gt,JR,Zx⟩:=xx.cells ZD;have hlen:((o.row i).drop j).length=o.sz - j:=by rw[List.length_drop,JR i hi]
     let vs:List Value:=(List.range (o.sz - j)).map λk=>(c[q0+(i*o.sz+(j+k))]?).getD Go.undef;have sj:∀k,k<o.sz - j->QW vs k=(c[q0+(i*o.sz+(j+k))]?).getD Go.undef:=λk hk=>by simp[vs,QW,Q8,hk]
     obtain⟨k1,k2⟩:=Oj (r:=λd v=>QA Z h pl w d v) (C:=λd v=>Cl N w d v) (λd v p c hr he hp=>TC R TD Ol n d v p c hr he hp) _ vs q cs (by simp[vs,hlen]) (λk hk=>by
      rw[hlen]at hk;obtain⟨u,hu,hr⟩:=Zx i (j+k) hi (by omega);rw[Ep,sj k hk,hu];exact hr) Jp hq
     rw[hv];rw[hlen]at k1 k2;refine .ip _ b _ (λk=>QW vs k) (λk hk=>⟨Ol l b q0 ZN,?_⟩) (λk hk=>k2 k (by omega));rw[k1]at hk;obtain⟨u,hu,hr⟩:=Zx i (j+k) hi (by omega);rw[cell_of_row w b _ c el (0,0) hb,sj k hk,hu,KS,show q0+(i*o.sz+j)+k=q0+(i*o.sz+(j+k)) by omega,hu]
    ·cases e
   ·cases e
  | agg cs=>
   simp only[WH]at e;split at e
   ·rename_i q cs' Jp;simp only[QV,Q4]at e;obtain⟨rfl,rfl⟩:=e;obtain⟨vs,rfl,hl,hr⟩:=Gp r;obtain⟨k1,k2⟩:=Oj (r:=λd v=>QA Z h pl w d v) (C:=λd v=>Cl N w d v) (λd v p c hr he hp=>TC R TD Ol n d v p c hr he hp) cs vs _ cs' hl hr Jp hp;exact .agg _ _ (by omega) (λi hi=>k2 i (by omega))
   ·cases e
  | clo f nf cs=>
   simp only[WH]at e;split at e
   ·rename_i q cs' Jp;simp only[QV,Q4]at e;obtain⟨rfl,rfl⟩:=e;obtain⟨vs,rfl,hl,hr⟩:=dH r;obtain⟨k1,k2⟩:=Oj (r:=λd v=>QA Z h pl w d v) (C:=λd v=>Cl N w d v) (λd v p c hr he hp=>TC R TD Ol n d v p c hr he hp) cs vs _ cs' hl hr Jp hp;exact .clo _ _ _ _ (by omega) (λi hi=>k2 i (by omega))
   ·cases e
def Qls{base}{h}{pl}{w}(R:Ze Z base h pl w)(n)(d)(v)(p:Prop)(c)(r:QA Z h pl w d v)(e:WH h n d=some (p,c))(hp:p):Cl (λ_=>True) w c v:=
 TC R (λ_ _=>trivial) (λ_ _ _ _=>trivial) n d v p c r e hp
mutual
def D.flat:D->Bool
 | .raw _ | .nil | .ref _ _ _ _ | .ptr _ _ _ _ | .mref _ _=>true
 | .agg cs=>EM cs
 | .tup cs=>EM cs
 | .clo _ _ cs=>EM cs
 | _=>false
def EM:List D->Bool
 | []=>true
 | d::r=>d.flat&&EM r
end
def EN:∀{cs:List D},EM cs=true->∀i,i<cs.length->(nth cs i).flat=true
 | [],_,i,h=>by simp at h
 | d::r,hf,i,h=>by
  simp only[EM,ZJ]at hf;cases i with
  | zero=>exact hf.1
  | succ i=>have:=EN hf.2 i (by simpa using h);simpa[nth] using this
def QA.TE{Z'}{h}{pl}{w}{d:D}{v}(r:QA Z h pl w d v)(hf:d.flat=true):QA Z' h pl w d v:=by
 induction r with
 | cl d v hc=>
  have:∀{d:D} {v:Value},Cl (free Z pl) w d v->d.flat=true->QA Z' h pl w d v:=by
   intro d v hc;induction hc with
   | raw v=>exact λ_=>.cl _ _ (.raw v)
   | undef v=>intro hf;simp[D.flat]at hf
   | nil a=>exact λ_=>.cl _ _ (.nil a)
   | imm=>intro hf;simp[D.flat]at hf
   | ip=>intro hf;simp[D.flat]at hf
   | clo f nf cs vs hl hr ih=>exact λhf=>.clo f nf cs vs hl λi hi=>ih i hi (EN (by simpa[D.flat] using hf) i hi)
   | agg cs vs hl hr ih=>exact λhf=>.agg cs vs hl λi hi=>ih i hi (EN (by simpa[D.flat] using hf) i hi)
   | tup cs vs hl hr ih=>exact λhf=>.tup cs vs hl λi hi=>ih i hi (EN (by simpa[D.flat] using hf) i hi)
  exact this hc hf
 | ref l g off len o p a cap ho hp hk hg hs=>exact .ref l g off len o p a cap ho hp hk hg hs
 | ptr l g i j o p a ho hp hk hg hs=>exact .ptr l g i j o p a ho hp hk hg hs
 | mref l g o p b ho hp hk hg hs=>exact .mref l g o p b ho hp hk hg hs
 | clo f nf cs vs hl hr ih=>exact .clo f nf cs vs hl λi hi=>ih i hi (EN (by simpa[D.flat] using hf) i hi)
 | agg cs vs hl hr ih=>exact .agg cs vs hl λi hi=>ih i hi (EN (by simpa[D.flat] using hf) i hi)
 | tup cs vs hl hr ih=>exact .tup cs vs hl λi hi=>ih i hi (EN (by simpa[D.flat] using hf) i hi)
def Ob.flat(o:Ob):Prop:=∀i,i<o.n->EM (o.row i)=true
def Ze.TE{Z'}{base}{h}{pl}{w}(R:Ze Z base h pl w)(hf:∀o∈h,o.flat):Ze Z' base h pl w where
 len:=R.len
 inj:=R.inj
 Vv:=R.Vv
 at_:=λl o b q ho hp=>by
  obtain⟨h1,x⟩:=R.at_ l o b q ho hp;exact⟨h1,x.to rfl rfl rfl rfl (λ_ _=>rfl) λi j v hi hj hr=>hr.TE (EN (hf o (NH ho) i hi) j hj)⟩
def Qq(P:Program)(f:FuncId):Prop:=∀(args:Array Value) (w:World),(callFunc f args).run P w=.ok (.enter f args) w
def J4:D->Option (FuncId × Nat × List D)
 | .raw (.func (.func f) ⟨[]⟩ ⟨[]⟩)=>some (f,0,[])
 | .clo f nf cs=>some (f,nf,cs)
 | _=>none
section
variable {P:Program}{base nt:Nat}{w0:Start}{Q:Exit->St->Prop}
def Om{h}{pl}{w}{d}{v}{f}{nf}{Qz}(r:QA Z h pl w d v)(e:J4 d=some (f,nf,Qz)):
  ∃vs:List Value,v=.func (.func f) (vs.take nf).toArray (vs.drop nf).toArray/\vs.length=Qz.length/\∀i,i<Qz.length->QA Z h pl w (nth Qz i) (QW vs i):=by
 unfold J4 at e;split at e
 ·simp only[QV,Q4]at e;obtain⟨rfl,rfl,rfl⟩:=e;exact⟨[],Z9 r,rfl,λi hi=>by simp at hi⟩
 ·simp only[QV,Q4]at e;obtain⟨rfl,rfl,rfl⟩:=e;exact dH r
 ·cases e
def Jj{α:Type}(nf:Nat)(Qz args:List α):List α:=Qz.take nf++(args++Qz.drop nf)
def On{r:D->Value->Prop}{nf:Nat}{Qz args:List D}{vs us:List Value}(h1:vs.length=Qz.length)(h2:∀i,i<Qz.length->r (nth Qz i) (QW vs i))(k1:us.length=args.length)(k2:∀i,i<args.length->r (nth args i) (QW us i)):
  (Jj nf vs us).length=(Jj nf Qz args).length/\∀i,i<(Jj nf Qz args).length->r (nth (Jj nf Qz args) i) (QW (Jj nf vs us) i):=by
 refine⟨by simp[Jj,h1,k1],λi hi=>?_⟩;have hl:(vs.take nf).length=(Qz.take nf).length:=by simp[h1]
 simp only[Jj,nth,QW,Q8];by_cases c1:i<(Qz.take nf).length
 ·rw[Jy (l₁:=Qz.take nf) c1,Jy (l₁:=vs.take nf) (by omega)];have c2:i<nf/\i<Qz.length:=by simp at c1;omega
  rw[W5,W5,Qg c2.1,Qg c2.1];exact h2 i c2.2
 ·rw[JT (l₁:=Qz.take nf) (by omega),JT (l₁:=vs.take nf) (by omega),hl];by_cases c2:i - (Qz.take nf).length<args.length
  ·rw[Jy (l₁:=args) c2,Jy (l₁:=us) (by omega)];exact k2 _ c2
  ·rw[JT (l₁:=args) (by omega),JT (l₁:=us) (by omega),k1];rw[Gg,Gg];refine h2 _ ?_;simp only[Jj,ZX,List.length_take,List.length_drop]at hi c1 c2 ⊢;omega
def Oo{o:Oper}{a:Act}{x}{args}{ZO:Array TypeId}{f}{nf:Nat}{vs:List Value}(hf:Qq P f)(ho:o.op=.call ⟨.value x,args,ZO⟩)(hx:a.eval x=.func (.func f) (vs.take nf).toArray (vs.drop nf).toArray)(w):
  (execOp a.eval o).run P w=.ok (.enter f (Jj nf vs (args.toList.map a.eval)).toArray) w:=by
 have e:(Jj nf vs (args.toList.map a.eval)).toArray=(vs.take nf).toArray++args.map a.eval++(vs.drop nf).toArray:=by apply Array.ext';simp[Jj]
 rw[e];simp[execOp,ho,resolve,hx,Deferred.ofValue,invoke,hf _ w]
def ss(QX:base<=w0.w.heap.size){o:Oper}{s}{x}{args}{ZO:Array TypeId}{f}{nf}{Qz}(hf:Qq P f)(ho:o.op=.call ⟨.value x,args,ZO⟩)
  (hx:J4 (Qr s.fr x)=some (f,nf,Qz)) {n:Nat} {p:Prop} {cs:List D} (Jp:jh (WH s.h n) (Jj nf Qz (args.toList.map (Qr s.fr)))=some (p,cs)) (hp:p) {R:D->List Ob->Prop} (hF:Zh P f cs R)
  (GH:∀d h,R d h->d.flat=true/\∀o∈h,o.flat) (ht:Zr nt o.dst=true) (pl:List Pl) (a:Act) (w:World) (r:Rel Z base nt s pl a w) (b:Kv Z base w0 s.h pl w) (Q':Exit->Act->World->Prop) :
  o.wp P a w (λa' w'=>Ext w w'/\∃d h Qj,R d h/\Rel Z base nt ⟨Zj s.fr o.dst (d.shift s.h.length),s.h++h.map (Ob.shift s.h.length)⟩ Qj a' w'/\Kv Z base w0 (s.h++h.map (Ob.shift s.h.length)) Qj w'/\Tr s.h pl w (s.h++h.map (Ob.shift s.h.length)) Qj w'/\∃v,a'=a.put o.dst v) Q':=by
 obtain⟨vs,hv,jY,CA⟩:=Om (r.eval x) hx;have Y7:base<=w.heap.size:=Kz QX b.1.size;obtain⟨q1,q2⟩:=On (r:=λd v=>QA Z s.h pl w d v) (nf:=nf) jY CA (us:=args.toList.map a.eval) (args:=args.toList.map (Qr s.fr)) (by simp) (λi hi=>by
  have Jf:i<args.toList.length:=by simpa using hi
  simp only[nth,QW,Q8,Ky];rw[QP Jf];exact r.eval _)
 obtain⟨k1,k2⟩:=Oj (r:=λd v=>QA Z s.h pl w d v) (C:=λd v=>Cl (λ_=>True) w d v) (λd v p c hr he hp=>Qls r.o n d v p c hr he hp) _ (Jj nf vs (args.toList.map a.eval)) p cs q1 q2 Jp hp;have hc:=hF (λ_=>True) w.heap.size w [] (Jj nf vs (args.toList.map a.eval)) (QD _) (λ_ _=>trivial) ⟨rfl,λl l' b q q' e=>by simp at e,λl o e=>by simp at e,λl o b q e=>by simp at e⟩ (by omega) (λi hi=>.cl _ _ ((k2 i (by omega)).mono λb _ _=>⟨⟨trivial,λl q e=>by simp at e⟩,rfl⟩));unfold Oper.wp;rw[Oo hf ho hv w];simp only[Oper.upon_enter];refine hc.mono λe w' he=>?_;obtain⟨v,d,h',Qj,rfl,hR,hO,hV,hTT,hB⟩:=he;obtain⟨f1,f2⟩:=GH d h' hR;have hO':=hO.TE (Z':=λ_=>False) f2;have hV':=hV.TE (Z':=λ_=>False) f1;have X4:∀b,free (λ_=>False) Qj b->free Z (pl++Qj) b:=λb hb=>hb.1.elim;have JH:∀(l b q:Nat),Qj[l]? = some (some (b,q))->w.heap.size<=b:=λl b q e=>by
  rcases A3 b w.heap.size with Qc|wg
  ·exact absurd e ((hTT.Kj b (λl q e=>by simp at e) Qc).1 l q)
  ·exact wg
 have T:=Tr.join (h':=h'.map (Ob.shift s.h.length)) r.o hB JH;have GI:=Ze.join r.o Y7 hB hO' X4 JH;refine⟨λi hi=>hB.block i hi,d,h',pl++Qj,hR,?_,b.step T (hB.mono Y7),T,v,rfl⟩;cases hd:o.dst with
 | none=>exact r.xo T GI v
 | some t=>rw[hd]at ht;exact r.to T GI (jf ht) (hV'.join r.o.len X4)
def Qlw(QX:base<=w0.w.heap.size){o:Oper}{rest}{s}{x}{args}{ZO:Array TypeId}{f}{nf}{Qz}(hf:Qq P f)(ho:o.op=.call ⟨.value x,args,ZO⟩)
  (hx:J4 (Qr s.fr x)=some (f,nf,Qz)) {n:Nat} {p:Prop} {cs:List D} (Jp:jh (WH s.h n) (Jj nf Qz (args.toList.map (Qr s.fr)))=some (p,cs)) (hp:p) {R:D->List Ob->Prop} (hF:Zh P f cs R)
  (GH:∀d h,R d h->d.flat=true/\∀o∈h,o.flat) (ht:Zr nt o.dst=true) (hk:∀d h,R d h->AG P base nt w0 rest Q ⟨Zj s.fr o.dst (d.shift s.h.length),s.h++h.map (Ob.shift s.h.length)⟩):AG P base nt w0 ((o,none)::rest) Q s:=by
 intro Z z pl a w r b;simp only[X3,WG,K6];exact Oper.wp_mono (λa' w' ⟨_,d,h,Qj,hR,r',b',_⟩=>hk d h hR Z z Qj a' w' r' b') (ss QX hf ho hx Jp hp hF GH ht pl a w r b _)
def Bi(m:Nat)(h:List Ob)(pl:List Pl)(h':List Ob)(Qj:List Pl):Prop:=
 (∀b,WU pl b->WU Qj b)/\∀(l:Nat) (o:Ob) (p:Pl),l<m->h[l]? = some o->pl[l]? = some p->∃o',h'[l]? = some o'/\Qj[l]? = some p/\o'.gen=o.gen/\o'.sz=o.sz/\o'.kd.ty=o.kd.ty
def Bi.refl(m)(h)(pl):Bi m h pl h pl:=⟨λ_ h=>h,λ_ o p _ ho hp=>⟨o,ho,hp,rfl,rfl,rfl⟩⟩
def Bi.trans{m}{h h' XZ}{pl Qj Gm}(a:Bi m h pl h' Qj)(b:Bi m h' Qj XZ Gm):Bi m h pl XZ Gm:=
 ⟨λx hx=>b.1 x (a.1 x hx),λl o p hl ho hp=>by
  obtain⟨o1,h1,h2,h3,h4,h5⟩:=a.2 l o p hl ho hp;obtain⟨o2,k1,k2,k3,k4,k5⟩:=b.2 l o1 p hl h1 h2;exact⟨o2,k1,k2,by rw[k3,h3],by rw[k4,h4],by rw[k5,h5]⟩⟩
def Tr.keep{F h h':List Ob}{su pl Qj}{w0 w}{m}(T:Tr F su w0 h pl w)(hm:F.length<=m)(K:Bi m h pl h' Qj):Tr F su w0 h' Qj w where
 Kj:=λb hb Qc=>⟨K.1 b (T.Kj b hb Qc).1,(T.Kj b hb Qc).2⟩
 obj:=λl o p ho hp=>by
  obtain⟨o1,p1,h1,h2,h3,h4,h5⟩:=T.obj l o p ho hp;obtain⟨o2,k1,k2,k3,k4,k5⟩:=K.2 l o1 p1 (jO (Ku ho) hm) h1 h2;exact⟨o2,p1,k1,k2,by omega,by rw[k5,h4],λe=>by obtain⟨x,y⟩:=h5 (by omega);exact⟨by rw[k4,x],y⟩⟩
 shape:=λl o SD b q ho IF hg hp c el hb=>by
  obtain⟨o1,p1,h1,h2,h3,h4,h5⟩:=T.obj l o _ ho hp;obtain⟨o2,k1,k2,k3,k4,k5⟩:=K.2 l o1 p1 (jO (Ku ho) hm) h1 h2;rw[IF]at k1;cases k1;exact T.shape l o o1 b q ho h1 (by omega) hp c el hb
def Wk(m:Nat)(s s':St):Prop:=∀(Z:Nat->Prop) (base nt:Nat) pl a w,Rel Z base nt s pl a w->∃Qj,Rel Z base nt s' Qj a w/\Bi m s.h pl s'.h Qj
def Wk.refl{m}(s):Wk m s s:=λ_ _ _ pl _ _ r=>⟨pl,r,.refl _ _ _⟩
def Wk.trans{m}{s s' GJ}(h:Wk m s s')(k:Wk m s' GJ):Wk m s GJ:=λZ b n pl a w r=>
 let ⟨Qj,r',K⟩:=h Z b n pl a w r;let ⟨Gm,r'',K'⟩:=k Z b n Qj a w r'
 ⟨Gm,r'',K.trans K'⟩
def Kv.keep{h h'}{pl Qj}{w}(b:Kv Z base w0 h pl w)(K:Bi w0.F.length h pl h' Qj):Kv Z base w0 h' Qj w:=⟨b.1,b.2.1.keep (QD _) K,b.2.2.new,λl b' q e h0=>by
 by_cases ha:WU pl b'
 ·exact absurd e (K.1 b' ha l q)
 ·obtain⟨l1,h1⟩:=Ir.1 ha;obtain⟨q1,h2⟩:=Ir.1 h1;exact b.2.2.own l1 b' q1 (Classical.not_not.1 h2) h0⟩
def QI(w0:Start)(s s':St):Prop:=∀(Z:Nat->Prop),Of w0 Z->∀(base nt:Nat) pl a w,Rel Z base nt s pl a w->Kv Z base w0 s.h pl w->∃Qj,Rel Z base nt s' Qj a w/\Kv Z base w0 s'.h Qj w
def Wk.up{s s'}(h:Wk w0.F.length s s'):QI w0 s s':=λZ _ base nt pl a w r b=>let ⟨Qj,r',K⟩:=h Z base nt pl a w r;⟨Qj,r',b.keep K⟩
def QI.refl(s):QI w0 s s:=λ_ _ _ _ pl _ _ r b=>⟨pl,r,b⟩
def QI.trans{s s' GJ}(h:QI w0 s s')(k:QI w0 s' GJ):QI w0 s GJ:=λZ z bs n pl a w r b=>
 let ⟨Qj,r',b'⟩:=h Z z bs n pl a w r b
 k Z z bs n Qj a w r' b'
def A.XF{c}{s s'}(h:QI w0 s s')(k:A P base nt w0 c Q s'):A P base nt w0 c Q s:=λZ z pl a w r b=>let ⟨Qj,r',b'⟩:=h Z z base nt pl a w r b;k Z z Qj a w r' b'
def AG.XF{l}{s s'}(h:QI w0 s s')(k:AG P base nt w0 l Q s'):AG P base nt w0 l Q s:=λZ z pl a w r b=>let ⟨Qj,r',b'⟩:=h Z z base nt pl a w r b;k Z z Qj a w r' b'
def EO{c}{k}{s s'}(h:QI w0 s s')(hk:Qw P base nt w0 Q (.code c::k) .normal s'):Qw P base nt w0 Q (.code c::k) .normal s:=by
 simp only[Qw]at hk ⊢;exact hk.XF h
def EP(fr:List (Nat × D)):List (Nat × D)->Prop
 | []=>True
 | (t,d)::r=>get fr t=d/\EP fr r
def sv{fr}:∀{r:List (Nat × D)},EP fr r->∀t d,(t,d)∈r->get fr t=d
 | [],_,_,_,h=>by cases h
 | (u,e)::r,h,t,d,hm=>by
  rcases QF.1 hm with h1|h1
  ·cases h1;exact h.1
  ·exact sv h.2 t d h1
def Qly(fr)(u):get fr u=.undef\/(u,get fr u)∈fr:=by
 induction fr with
 | nil=>exact .inl rfl
 | cons x r ih=>
  obtain⟨t,d⟩:=x;simp only[get];by_cases h:t=u
  ·subst h;simp
  ·have:Nat.beq t u=false:=by rw[<- W3,Vz];exact h
   rw[this];rcases ih with ih|ih
   ·exact .inl (by simpa using ih)
   ·exact .inr (by simp[ih])
def Wk.frame{m}{fr fr'}{h}(hf:EP fr fr'):Wk m ⟨fr,h⟩ ⟨fr',h⟩:=λZ base nt pl a w r=>
 ⟨pl,⟨r.nt,r.defers,λt=>by
  rcases Qly fr' t with h1|h1
  ·show QA Z h pl w (get fr' t) _;rw[h1];exact .cl _ _ (.undef _)
  ·have:=sv hf _ _ h1;show QA Z h pl w (get fr' t) _;rw[<- this];exact r.fr t,r.o⟩,.refl _ _ _⟩
def Kd.Oq(k k':Kd):Prop:=k.ty=k'.ty/\k.ro=k'.ro
def IX(o o':Ob):Prop:=o'.gen=o.gen/\o'.sz=o.sz/\o'.n=o.n/\o'.kd.Oq o.kd/\∀i,i<o.n->o'.row i=o.row i
def yZ:List Ob->List Ob->Prop
 | [],[]=>True
 | o::r,o'::r'=>IX o o'/\yZ r r'
 | _,_=>False
def TF:∀{h h':List Ob},yZ h h'->h'.length=h.length/\∀(l:Nat) (o':Ob),h'[l]? = some o'->∃o,h[l]? = some o/\IX o o'
 | [],[],_=>⟨rfl,λl o' e=>by simp at e⟩
 | [],_::_,h=>h.elim
 | _::_,[],h=>h.elim
 | o::r,o'::r',h=>by
  obtain⟨h1,h2⟩:=TF h.2;refine⟨by simp[h1],λl u e=>?_⟩;cases l with
  | zero=>simp at e;subst e;exact⟨o,rfl,h.1⟩
  | succ l=>simp at e;obtain⟨v,h3,h4⟩:=h2 l u e;exact⟨v,by simpa using h3,h4⟩
def QA.ER{h h'}{pl}{w}(hl:yZ h h'){d}{v}(r:QA Z h pl w d v):QA Z h' pl w d v:=by
 obtain⟨h1,h2⟩:=TF hl;have key:∀(l:Nat) (o:Ob),h[l]? = some o->∃o',h'[l]? = some o'/\IX o o':=λl o e=>by
  have:l<h'.length:=by rw[h1];exact Ku e
  obtain⟨o2,h3,h4⟩:=h2 l _ (QP this);rw[e]at h3;cases h3;exact⟨_,QP this,h4⟩
 induction r with
 | cl d v hc=>exact .cl d v hc
 | ref l g off len o p a cap ho hp hk hg hs=>
  obtain⟨o',h3,h4⟩:=key l o ho;exact .ref l g off len o' p a cap h3 hp (by rw[h4.2.2.2.1.1];exact hk) (by rw[h4.1];exact hg) (λe=>by rw[h4.2.1];exact hs (by rw[e,h4.1]))
 | ptr l g i j o p a ho hp hk hg hs=>
  obtain⟨o',h3,h4⟩:=key l o ho;exact .ptr l g i j o' p a h3 hp (by rw[h4.2.2.2.1.1];exact hk) (by rw[h4.1];exact hg) (λe=>by rw[h4.2.1];exact hs (by rw[e,h4.1]))
 | mref l g o p b ho hp hk hg hs=>
  obtain⟨o',h3,h4⟩:=key l o ho;exact .mref l g o' p b h3 hp (by rw[h4.2.2.2.1.1];exact hk) (by rw[h4.1];exact hg) (λe=>hs (by rw[e,h4.1]))
 | clo f nf cs vs hl hr ih=>exact .clo f nf cs vs hl ih
 | agg cs vs hl hr ih=>exact .agg cs vs hl ih
 | tup cs vs hl hr ih=>exact .tup cs vs hl ih
def Wk.ER{m}{fr}{h h'}(hl:yZ h h'):Wk m ⟨fr,h⟩ ⟨fr,h'⟩:=λZ base nt pl a w r=>by
 obtain⟨h1,h2⟩:=TF hl;refine⟨pl,⟨r.nt,r.defers,λt=>(r.fr t).ER hl,⟨by rw[h1];exact r.o.len,r.o.inj,λl o' ho hp=>?_,λl o' b q ho hp=>?_⟩⟩,λ_ h=>h,λl o p _ ho hp=>?_⟩
 ·obtain⟨o,h3,h4⟩:=h2 l o' ho;rw[h4.2.2.1];exact r.o.Vv l o h3 hp
 ·obtain⟨o,h3,h4,h5,h6,h8,h7⟩:=h2 l o' ho;obtain⟨g1,x⟩:=r.o.at_ l o b q h3 hp;exact⟨λhr=>g1 (by rw[<- h8.2,hr]),x.to h8.1 h5 h6 rfl (λi hi=>by rw[h7 i hi]) λi j v hi _ hr=>by rw[h7 i hi];exact hr.ER hl⟩
 ·have Qc:l<h'.length:=by rw[h1];exact Ku ho
  obtain⟨o2,h3,h4⟩:=h2 l _ (QP Qc);have ho:h[l]? = some o:=ho;rw[ho]at h3;cases h3;exact⟨_,QP Qc,hp,h4.1,h4.2.1,h4.2.2.2.1.1⟩
mutual
def D.upto(k:Nat):D->Bool
 | .ref l _ _ _=>Nat.blt l k
 | .ptr l _ _ _=>Nat.blt l k
 | .mref l _=>Nat.blt l k
 | .clo _ _ cs=>y0 k cs
 | .agg cs=>y0 k cs
 | .tup cs=>y0 k cs
 | _=>true
def y0(k:Nat):List D->Bool
 | []=>true
 | d::r=>d.upto k&&y0 k r
end
def IY{k}:∀{cs:List D},y0 k cs=true->∀i,i<cs.length->(nth cs i).upto k=true
 | [],_,i,h=>by simp at h
 | d::r,hf,i,h=>by
  simp only[y0,ZJ]at hf;cases i with
  | zero=>exact hf.1
  | succ i=>have:=IY hf.2 i (by simpa using h);simpa[nth] using this
def QA.take{h:List Ob}{pl:List Pl}{w}{k}{d:D}{v}(r:QA Z h pl w d v)(hk:d.upto k=true):QA Z (h.take k) (pl.take k) w d v:=by
 have X4:∀b,free Z pl b->free Z (pl.take k) b:=λb hb=>⟨hb.1,λl q e=>by
  rw[W5]at e;split at e
  ·exact hb.2 l q e
  ·cases e⟩
 induction r with
 | cl d v hc=>exact .cl d v (hc.mono λb hb _=>⟨X4 b hb,rfl⟩)
 | ref l g off len o p a cap ho hp hm hg hs=>
  have:l<k:=by simpa[D.upto,kN] using hk
  exact .ref l g off len o p a cap (by rw[W5,Qg this];exact ho) (by rw[W5,Qg this];exact hp) hm hg hs
 | ptr l g i j o p a ho hp hm hg hs=>
  have:l<k:=by simpa[D.upto,kN] using hk
  exact .ptr l g i j o p a (by rw[W5,Qg this];exact ho) (by rw[W5,Qg this];exact hp) hm hg hs
 | mref l g o p b ho hp hm hg hs=>
  have:l<k:=by simpa[D.upto,kN] using hk
  exact .mref l g o p b (by rw[W5,Qg this];exact ho) (by rw[W5,Qg this];exact hp) hm hg hs
 | clo f nf cs vs hl hr ih=>exact .clo f nf cs vs hl λi hi=>ih i hi (IY (by simpa[D.upto] using hk) i hi)
 | agg cs vs hl hr ih=>exact .agg cs vs hl λi hi=>ih i hi (IY (by simpa[D.upto] using hk) i hi)
 | tup cs vs hl hr ih=>exact .tup cs vs hl λi hi=>ih i hi (IY (by simpa[D.upto] using hk) i hi)
def GK(k:Nat):List (Nat × D)->Bool
 | []=>true
 | (_,d)::r=>d.upto k&&GK k r
def sw{k}:∀{fr:List (Nat × D)},GK k fr=true->∀t,(get fr t).upto k=true
 | [],_,t=>rfl
 | (u,d)::r,h,t=>by
  simp only[GK,ZJ]at h;simp only[get];cases Nat.beq u t
  ·exact sw h.2 t
  ·exact h.1
def Bj(k:Nat):List Ob->Prop
 | []=>True
 | o::r=>(∀i,i<o.n->y0 k (o.row i)=true)/\Bj k r
def fa{k}:∀{h:List Ob},Bj k h->∀(l:Nat) (o:Ob),h[l]? = some o->∀i,i<o.n->y0 k (o.row i)=true
 | [],_,l,o,e=>by simp at e
 | o::r,h,l,u,e=>by
  cases l with
  | zero=>simp at e;subst e;exact h.1
  | succ l=>simp at e;exact fa h.2 l u e
def Wk.drop{m}(k)(hm:m<=k){fr}{h:List Ob}(h1:GK k fr=true)(h2:Bj k (h.take k)):Wk m ⟨fr,h⟩ ⟨fr,h.take k⟩:=λZ base nt pl a w r=>by
 have Zf:∀(l:Nat) (p:Pl),(pl.take k)[l]? = some p->pl[l]? = some p:=λl p e=>by
  rw[W5]at e;split at e
  ·exact e
  ·cases e
 have hh:∀(l:Nat) (o:Ob),(h.take k)[l]? = some o->h[l]? = some o:=λl o e=>by
  rw[W5]at e;split at e
  ·exact e
  ·cases e
 refine⟨pl.take k,⟨r.nt,r.defers,λt=>(r.fr t).take (sw h1 t),⟨by simp[r.o.len],λl l' b q q' e1 e2=>r.o.inj l l' b q q' (Zf _ _ e1) (Zf _ _ e2),λl o ho hp=>r.o.Vv l o (hh _ _ ho) (Zf _ _ hp),λl o b q ho hp=>?_⟩⟩,
  λb hb l q e=>hb l q (Zf _ _ e),λl o p hl ho hp=>⟨o,by show (h.take k)[l]? = _;rw[W5,Qg (by omega)];exact ho,by rw[W5,Qg (by omega)];exact hp,rfl,rfl,rfl⟩⟩
 obtain⟨g1,x⟩:=r.o.at_ l o b q (hh _ _ ho) (Zf _ _ hp);exact⟨g1,x.to rfl rfl rfl rfl (λ_ _=>rfl) λi j v hi hj hr=>hr.take (IY (fa h2 l o ho i hi) j hj)⟩
def Wk.Ch{m}{fr}{h:List Ob}(t sz)(row)(ht:get fr t=.nil):Wk m ⟨fr,h⟩ ⟨put fr t (.ref h.length 0 0 0),h++[⟨.arr,0,sz,0,row⟩]⟩:=λZ base nt pl a w r=>by
 have T:Tr h pl w (h++[⟨.arr,0,sz,0,row⟩]) (pl++[none]) w:=Tr.push r.o (λ_ _=>rfl) _ _ (by intro b q e;cases e);refine⟨pl++[none],⟨r.nt,r.defers,λu=>?_,r.o.Ch _ rfl⟩,λb hb=>NT hb (λq e=>by cases e),λl o p _ ho hp=>⟨o,yI ho,yI hp,rfl,rfl,rfl⟩⟩;show QA Z _ _ w (get (put fr t (.ref h.length 0 0 0)) u) _;rw[Ek];by_cases hu:u=t
 ·subst hu;rw[Qg rfl];have:=r.fr u;have this:QA Z h pl w (get fr u) (a.tmps.getD u Go.undef):=this;rw[ht]at this;obtain⟨ad,hv⟩:=Cj this;rw[hv];have Zf:pl.length=h.length:=r.o.len;exact .ref _ _ _ _ ⟨.arr,0,sz,0,row⟩ none ad 0 (by simp) (by rw[<- Zf];simp) rfl (QD _) (λ_=>.inl ⟨rfl,rfl⟩)
 ·rw[Qd hu];exact(r.fr u).tr T
def TG(P:Program)(base nt:Nat)(w0:Start)(Q:Exit->St->Prop)(k:List Item)(I:Nat->St->Prop)(m:Nat):Exit->St->Prop
 | .normal,s=>∃m' s',m'<m/\QI w0 s s'/\I m' s'
 | e,s=>Qw P base nt w0 Q k e s
def Qlz{p:Nat->Prop}:∀n,p n->∃m,p m/\∀k,p k->m<=k:=by
 intro n;induction n using Nat.strongRecOn with
 | _ n ih=>
  intro hn;by_cases h:∃k,k<n/\p k
  ·obtain⟨k,hk,hp⟩:=h;exact ih k hk hp
  ·exact⟨n,hn,λk hk=>Nat.le_of_not_lt λQc=>h ⟨k,Qc,hk⟩⟩
def TH{p:Nat->Prop}(h:∃n,p n):∃m,p m/\∀k,p k->m<=k:=let ⟨n,hn⟩:=h;Qlz n hn
open Classical in
def IZ{c}{k}{s s0}(I)(m0)(hw:QI w0 s s0)(h0:I m0 s0)(round:∀m s,I m s->Qw P base nt w0 (TG P base nt w0 Q k I m) [.code c] .normal s):Qw P base nt w0 Q (.code (.loop c)::k) .normal s:=by
 simp only[Qw];refine A.XF hw ?_;intro Z z pl a w r b;let J:Nat->Act->World->Prop:=λm a w=>∃s pl,I m s/\Rel Z base nt s pl a w/\Kv Z base w0 s.h pl w;let μ:Act->World->Nat:=λa w=>if h:∃m,J m a w then Classical.choose (TH h) else 0;refine wp_loop (λa w=>∃m,J m a w) μ ⟨m0,s0,pl,h0,r,b⟩ λa w hJ=>?_;have hm:=(Classical.choose_spec (TH hJ)).1;have hμ:μ a w=Classical.choose (TH hJ):=by simp only[μ];rw[dif_pos hJ]
 obtain⟨s1,pl1,hI,r1,b1⟩:=hm;have:=round _ s1 hI;simp only[Qw]at this;refine wp_mono (this Z z pl1 a w r1 b1) λe a' w' hh=>?_;obtain⟨s2,La,hq,r2,b2⟩:=hh;cases e with
 | normal=>
  obtain⟨m',s3,Qc,hwk,hI3⟩:=hq;obtain⟨pl3,r3,b3⟩:=hwk Z z base nt La a' w' r2 b2;have TI:J m' a' w':=⟨s3,pl3,hI3,r3,b3⟩;refine⟨⟨m',TI⟩,?_⟩;rw[hμ];have:μ a' w'<=m':=by simp only[μ];rw[dif_pos ⟨m',TI⟩];exact(Classical.choose_spec (TH (p:=λm=>J m a' w') ⟨m',TI⟩)).2 m' TI
  omega
 | exit id=>exact⟨s2,La,hq,r2,b2⟩
 | goto l=>exact⟨s2,La,hq,r2,b2⟩
 | ret=>exact⟨s2,La,hq,r2,b2⟩
 | panic ch=>exact⟨s2,La,hq,r2,b2⟩
 | outgrown=>exact⟨s2,La,hq,r2,b2⟩
end
end Go.Fg
namespace Go.Fg
def QlE{P}{base nt}{w0}{Q}{c}{s}(h:Qw P base nt w0 Q [.code c] .normal s):A P base nt w0 c Q s:=by
 simp only[Qw]at h;exact h.mono λe s' he=>by cases e<;>exact he
def sx{P:Program}{X}(hX:Y0 P X){f}{fn:Func}{c}(n)(hf:P.funcs[f]? = some fn)(hb:fn.body=some c){F}{args:List D}{R}{nt}(kW:fn.ntmps=nt)(hn:args.length<=nt)
  (h:∀(base:Nat) (w:World) (pl:List Pl),base<=w.heap.size->pl.length=F.length->(exec X nt n [.code c] ⟨wi args 0,F⟩).holds P base nt ⟨w,F,pl⟩ (EL X.L fn.results.toList R)):MFn P f F args R:=
 Qlq hX.L hf hb (by rw[kW];exact hn) λbase w pl QX hlen=>QlE (by rw[kW];exact jg hX QX n _ _ (h base w pl QX hlen))
end Go.Fg
namespace Go.Fg
open Go.RowKit (Below)
variable {Z:Nat->Prop}
inductive y5 (ops:Array Oper) (Zl:Array Bool) (i:Nat):Nat->Prop
 | Ot (j:Nat) (oj:Oper) (e:Edge) (hj:ops[j]? = some oj) (he:e∈oj.after) (hb:Region.binds .any e=true) (h:e.on=i):y5 ops Zl i j
 | step (j:Nat) (oj:Oper) (e:Edge) (hj:ops[j]? = some oj) (he:e∈oj.after) (hb:Region.binds .any e=true) (hu:Zl.getD e.on true=false) (h:y5 ops Zl i e.on):y5 ops Zl i j
def both{Zl:Array Bool}{i}(h:Zl.getD i true=false):Zl.getD i false=false:=by
 rcases A3 i Zl.size with h'|h'
 ·simp[h']at h ⊢;exact h
 ·simp[Array.getElem?_eq_none h']at h
def y5.sy{ops}{Zl:Array Bool}{i j}(h:y5 ops Zl i j)(hi:Zl.getD i true=false):j ∉ Region.ready .any ops Zl:=by
 intro hr;obtain⟨_,oj',Kc,Vo⟩:=mem_ready.1 hr;cases h with
 | Ot _ oj e hj he hb h=>
  rw[hj]at Kc;cases Kc;have:=Vo e he hb;rw[h,both hi]at this;cases this
 | step _ oj e hj he hb hu h=>
  rw[hj]at Kc;cases Kc;have:=Vo e he hb;rw[both hu]at this;cases this
def y5.set{ops}{Zl:Array Bool}{i j k}(h:y5 ops Zl i j)(hi:Zl.getD i true=false)(hk:k∈Region.ready .any ops Zl):y5 ops (Zl.setIfInBounds k true) i j:=by
 induction h with
 | Ot j oj e hj he hb h=>exact .Ot j oj e hj he hb h
 | step j oj e hj he hb hu h ih=>
  refine .step j oj e hj he hb ?_ ih;have:k≠e.on:=λhek=>by subst hek;exact h.sy hi hk
  rw[getD_set_ne true this];exact hu
def xI(P:Program)(ops:Array Oper)(N:Act->World->Prop)(cm:Nat->World->World->Prop):Nat->Array Bool->Act->World->Prop
 | 0,Zl,a,w=>Region.ready .any ops Zl=[]/\N a w
 | n+1,Zl,a,w=>(Region.ready .any ops Zl=[]->N a w) /\
  ∀i∈Region.ready .any ops Zl,wpOp P ops (λ_ _ _=>False) i (λa' w'=>cm i w w'/\xI P ops N cm n (Zl.setIfInBounds i true) a' w') a w
def QlG{P}{o:Oper}{a}{w}{K}{Q}(h:o.wp P a w K (λ_ _ _=>False)):o.wp P a w K Q:=by
 unfold Oper.wp at *;generalize (execOp a.eval o).run P w=r at *;cases r with
 | ok n w'=>
  cases n<;>simp only[Oper.upon]at h ⊢<;>first|exact h|skip
  ·exact Calls.mono h λe Gn he=>by cases e<;>first|exact he|exact he.elim|exact(let ⟨_,_,h⟩:=he;h.elim)
 | halt x w'=>cases x<;>simp only[Oper.upon]at h ⊢<;>exact h.elim
def TJ{P}{ops}{N}{cm}{Q}(hQ:∀a w,N a w->Q .normal a w):∀(n:Nat) (Zl:Array Bool) (a:Act) (w:World),xI P ops N cm n Zl a w->wpAny P .any ops Q n Zl a w
 | 0,_,_,_,h=>⟨h.1,hQ _ _ h.2⟩
 | n+1,Zl,a,w,h=>⟨λe=>hQ _ _ (h.1 e),λi hi=>by
  have:=h.2 i hi;unfold wpOp at this ⊢;split
  ·rename_i ho;simp only[ho]at this;exact TJ hQ n _ _ _ this.2
  ·rename_i o ho;simp only[ho]at this;split
   ·rename_i hw;simp only[hw,K6]at this;rcases this with h1|⟨_,_,_,h2⟩
    ·exact .inl (QlG (Oper.wp_mono (λa' w' h'=>TJ hQ n _ _ _ h'.2) h1))
    ·exact h2.elim
   ·rename_i hw;simp only[hw]at this;exact TJ hQ n _ _ _ this.2⟩
def still(L:Zm)(o:Oper):Bool:=match o.op with
 | .extract ..=>true
 | .move _=>true
 | .nilCheck _=>true
 | .fieldAddr t _ f=>match IG L t f with
  | some (_,y)=>!Nat.beq y.size 0
  | none=>false
 | _=>false
def QlH{P}{L}(hL:ZR P L){o:Oper}(hs:still L o=true){ρ}{w}{v}(h:(execOp ρ o).run P w=.ok (.value v) w)(w'):(execOp ρ o).run P w'=.ok (.value v) w':=by
 unfold still at hs;split at hs
 ·rename_i x i ho;simp only[execOp,ho,Instr.extract]at h ⊢;split at h<;>first|skip|(simp at h)
  all_goals (first|(split at h<;>first|(simp at h)|skip)|skip)
  all_goals (first|(simp at h ⊢;exact h)|simp_all)
 ·rename_i x ho;simp only[execOp,ho]at h ⊢;simp at h ⊢;exact h
 ·rename_i x ho;exact((KK.nilCheck ho ρ) w _ w h).2 w'
 ·rename_i t x f ho;split at hs
  ·rename_i off y hf;obtain⟨g,fd,hg,Er,_,hy⟩:=dN hL hf;have dO:y.size≠0:=λe=>by rw[e]at hs;cases hs
   cases hx:ρ x with
   | pointer a=>
    cases a with
    | some a=>
     have e:∀w:World,(execOp ρ o).run P w=.ok (.value (.pointer (some (a.add fd.offset)))) w:=λw=>by
      simp[execOp,ho,hx,Instr.fieldAt,run_underlying hg,Er,Instr.sureAddr,fieldPlace,hy.sizeOf,dO]
     rw[e w]at h;rw[e w'];simp at h ⊢;exact h
    | none=>simp[execOp,ho,hx,Instr.fieldAt,run_underlying hg,Er,Instr.sureAddr,stuck]at h
   | _=>simp[execOp,ho,hx,Instr.fieldAt,run_underlying hg,Er,Instr.sureAddr,stuck]at h
  ·cases hs
 ·cases hs
def QlI{P}{ops:Array Oper}{N}{cm}{i}{oi}{v}{S}(sA:∀w,cm i w w)(hi:ops[i]? = some oi)(Lb:∀(j:Nat) (o:Oper) cs b,ops[j]? = some o->o.op≠.select cs b):
  ∀(fuel:Nat) (Zl:Array Bool) (a:Act) (w1:World),S w1 ->
   (∀j oj,ops[j]? = some oj->j≠i->Zl.getD j true=false->y5 ops Zl i j\/((∀w w',cm j w w'->S w->S w')/\oi.apart ops oj=true)) ->
   i∈Region.ready .any ops Zl->YieldsIf P ops S oi v a ->
   xI P ops N cm fuel (Zl.setIfInBounds i true) (a.put oi.dst v) w1->xI P ops N cm (fuel+1) Zl a w1:=by
 intro fuel;induction fuel with
 | zero=>
  intro Zl a w1 GL _ hr hy H;refine⟨λh=>(by rw[h]at hr;cases hr),λj hj=>?_⟩;by_cases jZ:j=i
  ·subst jZ;exact hy.wpOp hi GL ⟨sA _,H⟩
  ·have:=ready_mono hj jZ;rw[H.1]at this;cases this
 | succ fuel ih=>
  intro Zl a w1 GL Lc hr hy H;have Bk:=(mem_ready.1 hr).1;refine⟨λh=>(by rw[h]at hr;cases hr),λj hj=>?_⟩;by_cases jZ:j=i
  ·subst jZ;exact hy.wpOp hi GL ⟨sA _,H⟩
  ·have h1:=H.2 j (ready_mono hj jZ);obtain⟨TL,oj,Kc,Vo⟩:=mem_ready.1 hj;obtain⟨hcm,Ld⟩:=(Lc j oj Kc jZ TL).resolve_left λhd=>hd.sy Bk hj;have h2:=wpOp_putIf Kc Ld (λcs b=>Lb i oi cs b hi) (λcs b=>Lb j oj cs b Kc) (λ_ _ _ h=>h) hy h1;refine wpOp_mono (λa' w' h3=>?_) h2;refine⟨h3.2.1,ih (Zl.setIfInBounds j true) a' w' (hcm _ _ h3.2.1 GL) (λk ok hk N3 sB=>?_) (ready_mono hr (Q3 jZ)) h3.1 ?_⟩
   ·have hku:Zl.getD k true=false:=by
     by_cases VB:j=k
     ·subst VB;exact TL
     ·rw[getD_set_ne true VB]at sB;exact sB
    exact(Lc k ok hk N3 hku).imp (λhd=>hd.set Bk hj) id
   ·rw[Array.setIfInBounds_comm _ _ jZ];exact h3.2.2
def Km(i:Nat):List Nat->Bool
 | []=>false
 | j::r=>Nat.beq i j || Km i r
def kX{i}:∀{l:List Nat},Km i l=true↔i∈l
 | []=>by simp[Km]
 | j::r=>by simp[Km,kX (l:=r)]
def TM(i:Nat):List Edge->Bool
 | []=>false
 | e::r=>(Region.binds .any e&&Nat.beq e.on i) || TM i r
def ji(done:List Nat):List Edge->Bool
 | []=>false
 | e::r=>(Region.binds .any e&&!Km e.on done) || ji done r
def Le(ops:Array Oper)(done:List Nat)(i:Nat):Nat->List Edge->Bool
 | 0,_=>false
 | _+1,[]=>false
 | n+1,e::r=>(Region.binds .any e&&(Nat.beq e.on i || (!Km e.on done&&match ops[e.on]? with
   | some o=>Le ops done i n o.after.toList
   | none=>false))) || Le ops done i n r
def Bl(o:Oper):Bool:=match o.op with
 | .load ..=>true
 | _=>false
def Bm(o:Oper):Bool:=match o.op with
 | .insert ..=>true
 | _=>false
def Ou(nc:List Nat)(L:Zm)(ops:Array Oper)(done:List Nat)(i:Nat)(oi:Oper):List (Nat × Bool × Option Oper)->Bool
 | []=>true
 | (j,_,some oj)::r=>(TM i oj.after.toList || (((calm oj&&!Km j nc) || still L oi || (Bl oi&&Bm oj))&&oi.apart ops oj) || Le ops done i (4*ops.size) oj.after.toList)&&Ou nc L ops done i oi r
 | (_,_,none)::_=>false
def TN(l:List Nat):Nat->Bool
 | 0=>true
 | n+1=>Km n l&&TN l n
def sC{l}:∀{n:Nat},TN l n=true->∀j,j<n->j∈l
 | 0,_,j,h=>by omega
 | n+1,h,j,hj=>by
  simp only[TN,ZJ,kX]at h;by_cases e:j=n
  ·subst e;exact h.1
  ·exact sC h.2 j (by omega)
def sD{i}:∀{l:List Edge},TM i l=true->∃e∈l,Region.binds .any e=true/\e.on=i
 | [],h=>by cases h
 | e::r,h=>by
  simp only[TM,yD,ZJ,Vz]at h;rcases h with h|h
  ·exact⟨e,by simp,h.1,h.2⟩
  ·obtain⟨e',h1,h2⟩:=sD h;exact⟨e',by simp[h1],h2⟩
def sF{done}:∀{l:List Edge},ji done l=true->∃e∈l,Region.binds .any e=true/\e.on ∉ done
 | [],h=>by cases h
 | e::r,h=>by
  simp only[ji,yD,ZJ,qy]at h;rcases h with h|h
  ·exact⟨e,by simp,h.1,λhm=>by rw[kX.2 hm]at h;cases h.2⟩
  ·obtain⟨e',h1,h2⟩:=sF h;exact⟨e',by simp[h1],h2⟩
def TO{done}:∀{l:List Edge},ji done l=false->∀e∈l,Region.binds .any e=true->e.on∈done
 | [],_,e,h,_=>by cases h
 | e::r,h,e',h',hb=>by
  simp only[ji,Ea,F9]at h;rcases QF.1 h' with h1|h1
  ·subst h1;rcases h.1 with h2|h2
   ·rw[hb]at h2;cases h2
   ·exact kX.1 (by simpa using h2)
  ·exact TO h.2 e' h1 hb
structure Marks (ops:Array Oper) (Zl:Array Bool) (done:List Nat):Prop where
 size:Zl.size=ops.size
 get:∀j,j<ops.size->(Zl.getD j true=false↔j ∉ done)
 get':∀j,Zl.getD j false=true↔j∈done/\j<ops.size
 lt:∀j,j∈done->j<ops.size
def Marks.set{ops:Array Oper}{Zl:Array Bool}{done}(M:Marks ops Zl done){i}(hi:i<ops.size):Marks ops (Zl.setIfInBounds i true) (i::done) where
 size:=by simp[M.size]
 get:=λj hj=>by
  by_cases e:i=j
  ·subst e;simp[M.size,hi]
  ·rw[getD_set_ne true e,M.get j hj];simp[Q3 e]
 get':=λj=>by
  by_cases e:i=j
  ·subst e;simp[M.size,hi]
  ·rw[getD_set_ne false e,M.get' j];simp[Q3 e]
 lt:=λj hj=>by
  rcases QF.1 hj with e|e
  ·subst e;exact hi
  ·exact M.lt j e
def Y8(o:Oper):Bool:=match o.op with
 | .alloc _=>true
 | .makeMap _ none=>true
 | _=>false
def ES(P:Program)(o:Oper)(ob:Ob)(mk:Nat->D):Prop:=∃(obj:Obj) (val:Nat->Value),
 (∀(ρ:Operand->Value) (w:World),(execOp ρ o).run P w=.ok (.value (val w.heap.size)) (w.alloc obj)) /\
 (∀(Z:Nat->Prop) (h:List Ob) (pl:List Pl) (w:World) (b:Nat),w.heap[b]? = some obj->J1 Z h pl w ob b 0) /\
 (∀(Z:Nat->Prop) (h:List Ob) (pl:List Pl) (w:World) (l b:Nat),h[l]? = some ob->pl[l]? = some (some (b,0))->QA Z h pl w (mk l) (val b))
def sG{P}{L}(hL:ZR P L){o:Oper}{t:TypeId}(ho:o.op=.alloc t){y}(hy:ty L t=some y):
  ES P o ⟨.one,0,(y.zero.map JM).length,1,λ_=>y.zero.map JM⟩ (λl=>.ptr l 0 0 0):=by
 obtain⟨z,hz,Q5⟩:=(hL _ _ hy).zeroValue;refine⟨.cells z.cells t,λb=>.pointer (some ⟨b,0,none⟩),fun ρ w=>?_,λZ h pl w b hb=>?_,λZ h pl w l b h1 h2=>?_⟩
 ·simp[execOp,ho,Instr.alloc,newVar,newRow,Q5]
 ·refine .IE rfl ⟨z.cells,t,hb,by simp[<- hz],λ_ _=>rfl,λi j hi hj=>?_⟩;have dW:i=0:=by simp at hi;omega
  subst dW;have VW:j<z.cells.size:=by rw[<- hz]at hj;simpa using hj
  refine⟨QW z.cells.toList j,?_,.cl _ _ ?_⟩
  ·simp only[Nat.zero_mul,JG,QW,Q8];rw[jM,qZ VW];rfl
  ·rw[<- hz];simp only[nth,QW,Q8,Ky,jM,qZ VW,Kt,KS];exact A7 _ _ _
 ·exact .ptr _ _ _ _ _ (some (b,0)) _ h1 h2 rfl (QD _) (λ_=>⟨_,_,rfl,by simp⟩)
def sH{P}{o:Oper}{t:TypeId}(ho:o.op=.makeMap t none)(q):ES P o (QM q 0 []) (λl=>.mref l 0):=by
 refine⟨.map #[] 0,λb=>.map (some b),fun ρ w=>?_,λZ h pl w b hb=>?_,λZ h pl w l b h1 h2=>?_⟩
 ·simp[execOp,ho,Instr.makeMap]
 ·exact eN (kd:=.map) hb ⟨rfl,λi e a h=>by simp at h,λi j a a' _ h=>by simp at h⟩ rfl
 ·exact .mref _ _ (QM q 0 []) (some (b,0)) b h1 h2 ⟨by simp[QM,VA,Kd.ty],rfl⟩ (QD _) (λ_=>rfl)
section
variable (P:Program)(base nt:Nat)(w0:Start)
def CC(o : Oper): Bool := calm o && !(o.pos == "!")
def X5(b : Bool)(o : Oper): Oper := ⟨o.dst, o.op, o.type, bif b then "!" else "", #[], none⟩
theorem sI{P}{b}{o:Oper}{a}{w}{K}{Q}:(X5 b o).wp P a w K Q=o.wp P a w K Q:=rfl
def QlL(b)(o):CC (X5 b o)=(calm o&&!b):=by cases b<;>simp[CC,X5,calm]
def jj(o:Oper)(w w':World):Prop:=match o.op with
 | .insert ..=>q5 w w'
 | _=>CC o=true->Ext w w'
def jj.ext{o}{w w'}(h:Ext w w'):jj o w w':=by
 unfold jj;split
 ·exact .ext h
 ·exact λ_=>h
def jj.calm{o}{w w'}(h:jj o w w')(hc:CC o=true):Ext w w':=by
 unfold jj at h;split at h
 ·rename_i ho;simp[CC,Go.Fg.calm,ho]at hc
 ·exact h hc
def jj.ins{o}{w w'}(h:jj o w w')(hc:Bm o=true):q5 w w':=by
 unfold Bm at hc;split at hc
 ·rename_i ho;unfold jj at h;rw[ho]at h;exact h
 ·cases hc
def jj.mk{o}{w w'}(h:CC o=true->Ext w w')(hi:Bm o=false):jj o w w':=by
 unfold jj;split
 ·rename_i ho;simp[Bm,ho]at hi
 ·exact h
def kY(nc:List Nat)(ops:Array Oper)(i:Nat)(w w':World):Prop:=match ops[i]? with
 | some o=>jj (X5 (Km i nc) o) w w'
 | none=>True
def GM{nc}{ops:Array Oper}{i}{o}{w w'}(ho:ops[i]? = some o):kY nc ops i w w'=jj (X5 (Km i nc) o) w w':=by simp only[kY,ho]
def AE(o:Oper)(F:St->Prop)(s:St):Prop:=∀(Z:Nat->Prop),Of w0 Z->∀pl a w,Rel Z base nt s pl a w->Kv Z base w0 s.h pl w ->
 o.wp P a w (λa' w'=>jj o w w'/\∃d h' Qj v,F ⟨Zj s.fr o.dst d,h'⟩/\Rel Z base nt ⟨Zj s.fr o.dst d,h'⟩ Qj a' w'/\Kv Z base w0 h' Qj w'/\Tr s.h pl w h' Qj w'/\a'=a.put o.dst v) (λ_ _ _=>False)
def WI(pu:Bool)(o:Oper)(F:St->Prop)(s:St):Prop:=match pu with
 | true=>∃d,VJ P base nt o s d/\(Bl o=true->SF P base nt o s d)/\Zr nt o.dst=true/\F ⟨Zj s.fr o.dst d,s.h⟩
 | false=>match Y8 o with
  | true=>∃ob mk,ES P o ob mk/\Zr nt o.dst=true/\F ⟨Zj s.fr o.dst (mk s.h.length),s.h++[ob]⟩
  | false=>AE P base nt w0 o F s
def AX(K:St->Prop):List (Bool × Oper × G)->St->Prop
 | [],s=>K s
 | (pu,o,g)::r,s=>match g with
  | none=>WI P base nt w0 pu o (AX K r) s
  | some (none,_)=>Zr nt o.dst=true/\AX K r ⟨Zj s.fr o.dst (.raw Go.undef),s.h⟩
  | some (some t,b)=>match get s.fr t with
   | .raw (.bool x)=>(x=b->WI P base nt w0 pu o (AX K r) ⟨put s.fr t (.raw (.bool b)),s.h⟩) /\
     (x=(!b)->Zr nt o.dst=true/\AX K r ⟨Zj (put s.fr t (.raw (.bool (!b)))) o.dst (.raw Go.undef),s.h⟩)
   | .raw (.tuple _)=>Zr nt o.dst=true/\AX K r ⟨Zj s.fr o.dst (.raw Go.undef),s.h⟩
   | _=>False
end
def KV(nc:List Nat)(ops:Array Oper)(l:List (Nat × Bool)):List (Bool × Oper × G):=l.map λip=>match ops[ip.1]? with
 | some o=>(ip.2,X5 (Km ip.1 nc) o,guardOf ops o)
 | none => (ip.2, ⟨none, .move (.tmp 0), 0, "", #[], none⟩, none)
section
variable {nc:List Nat}{P:Program}{base nt:Nat}{w0:Start}
def QlM{o:Oper}{ob}{mk}{F}{s:St}(h:ES P o ob mk)(ht:Zr nt o.dst=true)(QX:base<=w0.w.heap.size)(hF:F ⟨Zj s.fr o.dst (mk s.h.length),s.h++[ob]⟩):AE P base nt w0 o F s:=by
 intro Z z pl a w r b;obtain⟨obj,val,h1,h2,h3⟩:=h;have e:∀k,k<w.heap.size->(w.alloc obj).heap[k]? = w.heap[k]? := λk hk=>kR w obj k hk;have JH:(w.alloc obj).heap[w.heap.size]? = some obj:=heap_alloc_new w obj;have Y7:base<=w.heap.size:=Kz QX b.1.size;have T:Tr s.h pl w (s.h++[ob]) (pl++[some (w.heap.size,0)]) (w.alloc obj):=Tr.push r.o e _ _ (by intro k q hh;simp at hh;omega);have R':=Ze.NU r.o e ob (QD _) Y7 (h2 Z (s.h++[ob]) (pl++[some (w.heap.size,0)]) _ _ JH);have hv:QA Z (s.h++[ob]) (pl++[some (w.heap.size,0)]) (w.alloc obj) (mk s.h.length) (val w.heap.size):=h3 Z _ _ _ _ _ (by simp) (by rw[<- r.o.len];simp);unfold Oper.wp;rw[h1 a.eval w];simp only[Oper.upon_value];refine⟨jj.ext λk hk=>e k hk,_,_,_,_,hF,?_,b.step T (Co Y7 obj),T,rfl⟩;cases hd:o.dst with
 | none=>exact r.xo T R' _
 | some t=>rw[hd]at ht;exact r.to T R' (jf ht) hv
def WI.ae(QX:base<=w0.w.heap.size){o}{F}{s}(h:WI P base nt w0 false o F s):AE P base nt w0 o F s:=by
 simp only[WI]at h;split at h
 ·obtain⟨ob,mk,h1,h2,h3⟩:=h;exact QlM h1 h2 QX h3
 ·exact h
def QA.Lf{Z Z'}{h h'}{pl Qj}{w w':World}(hf:∀b,free Z pl b->b<w.heap.size->free Z' Qj b/\w'.heap[b]? = w.heap[b]?)
  (Bn:∀(l:Nat) (o:Ob) (p:Pl),h[l]? = some o->pl[l]? = some p->h'[l]? = some o/\Qj[l]? = some p) (hb:∀(l b q:Nat),pl[l]? = some (some (b,q))->w'.heap[b]? = w.heap[b]?) {d:D} {v:Value} (r:QA Z h pl w d v):QA Z' h' Qj w' d v:=by
 induction r with
 | cl d v hc=>exact .cl d v (hc.mono hf)
 | ref l g off len o p a cap ho hp hk hg hs=>
  refine .ref l g off len o p a cap (Bn l o p ho hp).1 (Bn l o p ho hp).2 hk hg λyH=>?_;rcases hs yH with h1|⟨b,q,c,el,VI,ha,Kl,hc,hl⟩
  ·exact .inl h1
  ·exact .inr ⟨b,q,c,el,VI,ha,by rw[hb l b q (by rw[hp,VI])];exact Kl,hc,hl⟩
 | ptr l g i j o p a ho hp hk hg hs=>exact .ptr l g i j o p a (Bn l o p ho hp).1 (Bn l o p ho hp).2 hk hg hs
 | mref l g o p b ho hp hk hg hs=>exact .mref l g o p b (Bn l o p ho hp).1 (Bn l o p ho hp).2 hk hg hs
 | clo f nf cs vs hl hr ih=>exact .clo f nf cs vs hl ih
 | agg cs vs hl hr ih=>exact .agg cs vs hl ih
 | tup cs vs hl hr ih=>exact .tup cs vs hl ih
def Ze.Lf{Z Z'}{h}{pl}{w w':World}(R:Ze Z base h pl w)(hf:∀b,free Z pl b->b<w.heap.size->free Z' pl b/\w'.heap[b]? = w.heap[b]?)(e:∀b,b<w.heap.size->w'.heap[b]? = w.heap[b]?):Ze Z' base h pl w' where
 len:=R.len
 inj:=R.inj
 Vv:=R.Vv
 at_:=λl o b q ho hp=>by
  obtain⟨h1,x⟩:=R.at_ l o b q ho hp;exact⟨h1,x.to rfl rfl rfl (e b (R.lt hp).1) (λ_ _=>rfl) λi j v _ _ hr=>hr.Lf hf (λ_ _ _ a b=>⟨a,b⟩) (λl b q hp=>e b (R.lt hp).1)⟩
def Ze.fb{Z Z'}{h}{pl}{w}(R:Ze Z base h pl w){b}(hf:∀c,free Z pl c->free Z' (pl++[some (b,0)]) c)(ha:WU pl b)(QX:base<=b){ob}
  (hx:J1 Z' (h++[ob]) (pl++[some (b,0)]) w ob b 0):Ze Z' base (h++[ob]) (pl++[some (b,0)]) w:=by
 refine⟨by simp[R.len],?_,?_,?_⟩
 ·intro l l' b' q q' e1 e2;rcases Xq e1 with h1|⟨h1,ZY⟩<;>rcases Xq e2 with h2|⟨h2,X0⟩
  ·exact R.inj l l' b' q q' h1 h2
  ·simp at X0;obtain⟨rfl,rfl⟩:=X0;exact absurd h1 (ha l q)
  ·simp at ZY;obtain⟨rfl,rfl⟩:=ZY;exact absurd h2 (ha l' q')
  ·omega
 ·intro l o ho e1;rcases Xq e1 with h1|⟨h1,ZY⟩
  ·rcases Xq ho with h2|⟨h2,X0⟩
   ·exact R.Vv l o h2 h1
   ·have:=VU h1;have:=R.len;omega
  ·simp at ZY
 ·intro l o b' q ho Zf;rcases Xq Zf with h1|⟨h1,ZY⟩
  ·rcases Xq ho with h2|⟨h2,X0⟩
   ·obtain⟨g1,x⟩:=R.at_ l o b' q h2 h1;exact⟨g1,x.to rfl rfl rfl rfl (λ_ _=>rfl) λi j v _ _ hr=>hr.Lf (λc hc _=>⟨hf c hc,rfl⟩) (λ_ _ _ a b=>⟨yI a,yI b⟩) (λ_ _ _ _=>rfl)⟩
   ·have:=VU h1;have:=R.len;omega
  ·rcases Xq ho with h2|⟨h2,X0⟩
   ·have:=Ku h2;have:=R.len;omega
   ·subst X0;simp at ZY;obtain⟨rfl,rfl⟩:=ZY;exact⟨λ_=>QX,hx⟩
def VY(ops:Array Oper)(i:Nat):Bool:=match ops[i]? with
 | some o=>Y8 o&&o.guard.isNone&&o.after.toList.isEmpty
 | none=>false
def Lg(ops:Array Oper)(done:List Nat)(i:Nat):List Edge->Bool
 | []=>false
 | e::r=>(Region.binds .any e&&!Km e.on done&&(!VY ops e.on || Nat.beq e.on i)) || Lg ops done i r
def Ov(ops:Array Oper)(done:List Nat)(i:Nat):List (Nat × Bool × Option Oper)->Bool
 | []=>true
 | (j,_,some oj)::r=>(VY ops j || Lg ops done i oj.after.toList)&&Ov ops done i r
 | (_,_,none)::_=>false
def GN(ops:Array Oper)(R:List Nat):List (Nat × Bool × Option Oper):=R.map λi=>(i,false,ops[i]?)
def CD(nc:List Nat)(L:Zm)(ops:Array Oper)(R:List Nat):List (Nat × Bool × Option Oper)->List Nat->Bool
 | [],_=>true
 | (i,p,some o)::r,done=>!Km i done&&!ji done o.after.toList&&(match p with
  | true=>!VY ops i&&Ou nc L ops done i o (r++GN ops R)
  | false=>Ov ops done i (r++GN ops R))&&CD nc L ops R r (i::done)
 | (_,_,none)::_,_=>false
def sJ{ops}{done}{i}:∀{l:List Edge},Lg ops done i l=true->∃e∈l,Region.binds .any e=true/\e.on ∉ done/\(VY ops e.on=false\/e.on=i)
 | [],h=>by cases h
 | e::r,h=>by
  simp only[Lg,yD,ZJ,qy,Vz]at h;rcases h with h|h
  ·exact⟨e,by simp,h.1.1,(λhm=>by rw[kX.2 hm]at h;exact absurd h.1.2 (by simp)),h.2⟩
  ·obtain⟨e',h1,h2⟩:=sJ h;exact⟨e',by simp[h1],h2⟩
def sK{ops:Array Oper}{done}{i}:∀{r:List (Nat × Bool × Option Oper)},(∀x∈r,x.2.2=ops[x.1]?)->Ov ops done i r=true->∀x∈r,∀oj,ops[x.1]? = some oj->VY ops x.1=true\/Lg ops done i oj.after.toList=true
 | [],_,_,x,hx,_,_=>by cases hx
 | (j,p,none)::r,_,h,_,_,_,_=>by cases h
 | (j,p,some o)::r,hr,h,x,hx,oj,Kc=>by
  simp only[Ov,ZJ,yD]at h;rcases QF.1 hx with h1|h1
  ·subst h1;have e:some o=ops[j]? := hr (j,p,some o) (by simp);have Kc:ops[j]? = some oj:=Kc;rw[Kc]at e;cases e;exact h.1
  ·exact sK (λy hy=>hr y (by simp[hy])) h.2 x h1 oj Kc
abbrev En:=Nat × Bool × Option Nat
def WW(l:List En):List Nat:=l.map (·.1)
def XG(l:List En):List (Nat × Bool):=l.map λx=>(x.1,x.2.1)
def early:List En->List Nat
 | []=>[]
 | (i,_,some _)::r=>i::early r
 | (_,_,none)::r=>early r
def blocks:List En->List Nat
 | []=>[]
 | (_,_,some b)::r=>b::blocks r
 | (_,_,none)::r=>blocks r
def XH:List En->Nat
 | []=>0
 | (_,_,some _)::r=>XH r
 | (_,_,none)::r=>XH r+1
def GO{j}:∀{l:List En},j∈early l↔∃p b,(j,p,some b)∈l
 | []=>by simp[early]
 | (i,p,some b)::r=>by
  simp only[early,QF,GO (l:=r),Q4,QV];constructor
  ·rintro (rfl|⟨p',b',h⟩)
   ·exact⟨p,b,.inl ⟨rfl,rfl,rfl⟩⟩
   ·exact⟨p',b',.inr h⟩
  ·rintro⟨p',b',⟨rfl,_⟩|h⟩
   ·exact .inl rfl
   ·exact .inr ⟨p',b',h⟩
 | (i,p,none)::r=>by
  simp only[early,QF,GO (l:=r),Q4,reduceCtorEq,and_false,false_or]
def CE{c}:∀{l:List En},c∈blocks l↔∃j p,(j,p,some c)∈l
 | []=>by simp[blocks]
 | (i,p,some b)::r=>by
  simp only[blocks,QF,CE (l:=r),Q4,QV];constructor
  ·rintro (rfl|⟨p',b',h⟩)
   ·exact⟨i,p,.inl ⟨rfl,rfl,rfl⟩⟩
   ·exact⟨p',b',.inr h⟩
  ·rintro⟨p',b',⟨_,_,rfl⟩|h⟩
   ·exact .inl rfl
   ·exact .inr ⟨p',b',h⟩
 | (i,p,none)::r=>by
  simp only[blocks,QF,CE (l:=r),Q4,reduceCtorEq,and_false,false_or]
def fc{j:Nat}{p:Bool}{b:Nat}{l2:List En}:∀l1:List En,XH (l1++(j,p,none)::l2)=XH (l1++(j,p,some b)::l2)+1
 | []=>rfl
 | (_,_,some _)::r=>fc r
 | (_,_,none)::r=>by
  simp only[XW,XH];rw[fc (b:=b) r]
def fe{j:Nat}{p:Bool}{b:Nat}{l2:List En}:∀l1:List En,b ∉ blocks (l1++(j,p,none)::l2)->(blocks (l1++(j,p,none)::l2)).Nodup->(blocks (l1++(j,p,some b)::l2)).Nodup
 | [],h,k=>by simp only[YT,blocks]at h k ⊢;exact ZK.2 ⟨h,k⟩
 | (i,q,some c)::r,h,k=>by
  simp only[XW,blocks,QF,Yr]at h k ⊢;obtain⟨k1,k2⟩:=ZK.1 k;refine ZK.2 ⟨λhm=>?_,fe r h.2 k2⟩;obtain⟨j',p',hj⟩:=CE.1 hm;rcases QT.1 hj with h1|h1
  ·exact k1 (CE.2 ⟨j',p',QT.2 (.inl h1)⟩)
  ·rcases QF.1 h1 with h2|h2
   ·cases h2;exact h.1 rfl
   ·exact k1 (CE.2 ⟨j',p',QT.2 (.inr (QF.2 (.inr h2)))⟩)
 | (i,q,none)::r,h,k=>by
  simp only[XW,blocks]at h k ⊢;exact fe r h k
structure TP (P:Program) (ops:Array Oper) (nt:Nat) (w0:Start) (pl:List Pl) (a:Act) (w:World) (i b:Nat):Prop where
 run:∃(o:Oper) (d:Nat) (w1:World) (ρ:Operand->Value) (v:Value) (obj:Obj),ops[i]? = some o/\o.dst=some d/\(execOp ρ o).run P w1=.ok (.value v) (w1.alloc obj)/\b=w1.heap.size/\w.heap[b]? = some obj/\(d<nt->a.tmps.getD d Go.undef=v)
 WU:WU pl b
 low:w0.w.heap.size<=b
def sL{a:Act}{t:Option Nat}{d:Nat}{v:Value}(h:t≠some d):(a.put t v).tmps.getD d Go.undef=a.tmps.getD d Go.undef:=by
 cases t with
 | none=>rfl
 | some t=>
  have:t≠d:=λe=>h (by rw[e]);simp[Act.put,vP,df this]
def TP.step{P:Program}{ops:Array Oper}{nt:Nat}{w0:Start}{h h':List Ob}{pl Qj:List Pl}{a:Act}{w w':World}{i b:Nat}(p:TP P ops nt w0 pl a w i b)(T:Tr h pl w h' Qj w'){t:Option Nat}(v:Value)
  (hd:∀o d,ops[i]? = some o->o.dst=some d->t≠some d):TP P ops nt w0 Qj (a.put t v) w' i b:=by
 obtain⟨o,d,w1,ρ,u,obj,h1,h2,h3,h4,h5,h6⟩:=p.run;obtain⟨k1,k2⟩:=T.Kj b p.WU (z6 h5);exact⟨⟨o,d,w1,ρ,u,obj,h1,h2,h3,h4,by rw[k2];exact h5,λhn=>by rw[sL (hd o d h1 h2)];exact h6 hn⟩,k1,p.low⟩
def TQ{fr}{t}{u}{d}(h:t≠some u):get (Zj fr t d) u=get fr u:=by
 cases t with
 | none=>rfl
 | some t=>rw[Zj,Ek,Qd (λe=>h (by rw[e]))]
structure wj (nc:List Nat) (P:Program) (L:Zm) (ops:Array Oper) (R:List Nat) (base nt:Nat) (w0:Start) (Z0 Z:Nat->Prop) (l:List En) (done:List Nat) (Zl:Array Bool) (s:St) (pl:List Pl) (a:Act) (w:World):Prop where
 sched:CD nc L ops R ((XG l).map λip=>(ip.1,ip.2,ops[ip.1]?)) done=true
 cover:∀j,j<ops.size->j ∉ done->j∈WW l\/j∈R
 Lh:∀j∈R,j ∉ done/\j ∉ WW l/\VY ops j=false
 marks:Marks ops Zl (early l++done)
 late:∀i p b,(i,p,some b)∈l->VY ops i=true
 lp:∀i p q,(i,p,q)∈l->VY ops i=true->p=false
 z:∀b,Z b↔Z0 b/\b ∉ blocks l
 z0:∀i p b,(i,p,some b)∈l->Z0 b
 TR:(blocks l).Nodup
 Ow:∀i p q,(i,p,q)∈l->VY ops i=true->∀o d,ops[i]? = some o->o.dst=some d->get s.fr d=.undef
 rel:Rel Z base nt s pl a w
 since:Kv Z base w0 s.h pl w
 GP:∀i p b,(i,p,some b)∈l->TP P ops nt w0 pl a w i b
def TS{L}{ops:Array Oper}{R}:∀{l:List En} {done:List Nat},CD nc L ops R ((XG l).map λip=>(ip.1,ip.2,ops[ip.1]?)) done=true->∀j,j∈WW l->j ∉ done
 | [],_,_,j,hj=>by simp[WW]at hj
 | (i,p,q)::r,done,h,j,hj=>by
  simp only[XG,Jz]at h;cases ho:ops[i]? with
  | none=>rw[ho]at h;cases h
  | some o=>
   rw[ho]at h;simp only[CD,ZJ,qy]at h;simp only[WW,Jz,QF]at hj;rcases hj with rfl|hj
   ·exact λhm=>by rw[kX.2 hm]at h;exact absurd h.1.1.1 (by simp)
   ·exact λhm=>TS (l:=r) h.2 j hj (QF.2 (.inr hm))
def Marks.same{ops}{Zl}{d d'}(M:Marks ops Zl d)(h:∀j,j∈d↔j∈d'):Marks ops Zl d' where
 size:=M.size
 get:=λj hj=>by rw[M.get j hj,h]
 get':=λj=>by rw[M.get',h]
 lt:=λj hj=>M.lt j ((h j).2 hj)
def TU{ops:Array Oper}{i}{o:Oper}(ho:ops[i]? = some o)(h:VY ops i=true):Y8 o=true/\o.guard=none/\∀e,e ∉ o.after:=by
 simp only[VY,ho,ZJ,Option.isNone_iff_eq_none,List.isEmpty_iff]at h;exact⟨h.1.1,h.1.2,λe he=>by have:e∈o.after.toList:=(by simpa using he);rw [h.2] at this; cases this⟩
def fg{ops:Array Oper}{Zl}{done ea}(M:Marks ops Zl (ea++done))(CG:∀j∈ea,VY ops j=true){i}:∀{n:Nat} {j:Nat} {oj:Oper} {l:List Edge},ops[j]? = some oj->(∀e∈l,e∈oj.after)->Le ops done i n l=true->y5 ops Zl i j
 | 0,_,_,_,_,_,h=>by cases h
 | n+1,_,_,[],_,_,h=>by cases h
 | n+1,j,oj,e::r,hj,hl,h=>by
  simp only[Le,yD,ZJ,Vz,qy]at h;rcases h with ⟨hb,h1|⟨h1,h2⟩⟩|h
  ·exact .Ot j oj e hj (hl e (by simp)) hb h1
  ·split at h2
   ·rename_i o ho;have Qc:=(VT.1 ho).1;refine .step j oj e hj (hl e (by simp)) hb ((M.get e.on Qc).2 λhm=>?_) (fg M CG ho (λe he=>by simpa using he) h2);rcases QT.1 hm with h3|h3
    ·have h4:=(TU ho (CG _ h3)).2.2;have:o.after.toList=[]:=dt.2 λe he=>h4 e (by simpa using he);rw[this]at h2;cases n<;>simp[Le]at h2
    ·rw[kX.2 h3]at h1;cases h1
   ·cases h2
  ·exact fg M CG hj (λe he=>hl e (by simp[he])) h
def sM{L}{ops:Array Oper}{done ea}{i}{oi:Oper}{Zl}(M:Marks ops Zl (ea++done))(CG:∀j∈ea,VY ops j=true):∀{r:List (Nat × Bool × Option Oper)},(∀x∈r,x.2.2=ops[x.1]?)->Ou nc L ops done i oi r=true->∀x∈r,∀oj,ops[x.1]? = some oj->y5 ops Zl i x.1\/((((calm oj=true/\Km x.1 nc=false)\/still L oi=true)\/(Bl oi=true/\Bm oj=true))/\oi.apart ops oj=true)
 | [],_,_,x,hx,_,_=>by cases hx
 | (j,p,none)::r,_,h,_,_,_,_=>by cases h
 | (j,p,some o)::r,hr,h,x,hx,oj,Kc=>by
  simp only[Ou,ZJ,yD]at h;rcases QF.1 hx with h1|h1
  ·subst h1;have e:some o=ops[j]? := hr (j,p,some o) (by simp);have Kc:ops[j]? = some oj:=Kc;rw[Kc]at e;cases e;rcases h.1 with (h2|h2)|h2
   ·obtain⟨e,he,hb,CH⟩:=sD h2;exact .inl (.Ot j _ e Kc (by simpa using he) hb CH)
   ·simp only[qy]at h2;exact .inr h2
   ·exact .inl (fg M CG Kc (λe he=>by simpa using he) h2)
  ·exact sM M CG (λy hy=>hr y (by simp[hy])) h.2 x h1 oj Kc
def Ox(ops:Array Oper):Prop:=∀(i j:Nat) (oi oj:Oper) (d:Nat),i≠j->VY ops i=true->ops[i]? = some oi->ops[j]? = some oj->oi.dst=some d->oj.dst≠some d
def wj.head{L}{ops}{R}{Z0 Z}{i}{p}{q}{r}{done}{Zl}{s}{pl}{a}{w}(I:wj nc P L ops R base nt w0 Z0 Z ((i,p,q)::r) done Zl s pl a w):
  ∃o,ops[i]? = some o/\i ∉ done/\(∀e∈o.after,Region.binds .any e=true->e.on∈done) /\
   (p=true->VY ops i=false/\Ou nc L ops done i o ((XG r).map (λip=>(ip.1,ip.2,ops[ip.1]?))++GN ops R)=true)/\(p=false->Ov ops done i ((XG r).map (λip=>(ip.1,ip.2,ops[ip.1]?))++GN ops R)=true) /\
   CD nc L ops R ((XG r).map λip=>(ip.1,ip.2,ops[ip.1]?)) (i::done)=true:=by
 have h:=I.sched;simp only[XG,Jz]at h;cases ho:ops[i]? with
 | none=>rw[ho]at h;cases h
 | some o=>
  rw[ho]at h;simp only[CD,ZJ,qy]at h;refine⟨o,rfl,λhm=>by rw[kX.2 hm]at h;exact absurd h.1.1.1 (by simp),λe he hb=>TO h.1.1.2 e (by simpa using he) hb,λhp=>?_,λhp=>?_,h.2⟩
  ·subst hp;have:=h.1.2;simp only[ZJ,qy]at this;exact this
  ·subst hp;exact h.1.2
def fh{i}{p}{q}{l}(h:(i,p,q)∈l):i∈WW l:=Jn.2 ⟨_,h,rfl⟩
def wj.next{L}{ops}{R}(hD:Ox ops){Z0 Z}{i}{p}{r}{done}{Zl}{s s'}{pl Qj}{a}{w w'}(I:wj nc P L ops R base nt w0 Z0 Z ((i,p,none)::r) done Zl s pl a w)
  {o:Oper} (ho:ops[i]? = some o) (v:Value) (T:Tr s.h pl w s'.h Qj w') (hr:Rel Z base nt s' Qj (a.put o.dst v) w') (hs:Kv Z base w0 s'.h Qj w') (hu:∀d,o.dst≠some d->get s.fr d=.undef->get s'.fr d=.undef) :
  wj nc P L ops R base nt w0 Z0 Z r (i::done) (Zl.setIfInBounds i true) s' Qj (a.put o.dst v) w':=by
 obtain⟨o',Zv,h1,h2,h3,h4,h5⟩:=I.head;rw[ho]at Zv;cases Zv;have Qc:=(VT.1 ho).1;have QB:∀j p q,(j,p,q)∈r->j≠i:=λj p q hj e=>TS h5 j (fh hj) (by rw[e];simp);have TV:∀j p q,(j,p,q)∈r->VY ops j=true->∀oj d,ops[j]? = some oj->oj.dst=some d->o.dst≠some d:=λj p q hj hl oj d Kc hd=>hD j i oj o d (QB j p q hj) hl Kc ho hd;refine⟨h5,λj hj hd=>?_,λj hj=>?_,(I.marks.set Qc).same λj=>?_,λj p b hj=>I.late j p b (Ks _ hj),λj p q hj=>I.lp j p q (Ks _ hj),I.z,λj p b hj=>I.z0 j p b (Ks _ hj),I.TR,λj p q hj hl oj d Kc hd=>?_,hr,hs,λj p b hj=>?_⟩
 ·simp only[QF,Yr]at hd;have:=I.cover j hj hd.2;simp only[WW,Jz,QF]at this;rcases this with (h|h)|h
  ·exact absurd h hd.1
  ·exact .inl h
  ·exact .inr h
 ·obtain⟨k1,k2,k3⟩:=I.Lh j hj;simp only[WW,Jz,QF,Yr]at k2;exact⟨λh=>by
   rcases QF.1 h with h|h
   ·exact k2.1 h
   ·exact k1 h,k2.2,k3⟩
 ·simp only[early,QF,QT];constructor
  ·rintro (h|h|h)
   ·exact .inr (.inl h)
   ·exact .inl h
   ·exact .inr (.inr h)
  ·rintro (h|h|h)
   ·exact .inr (.inl h)
   ·exact .inl h
   ·exact .inr (.inr h)
 ·exact hu d (TV j p q hj hl oj d Kc hd) (I.Ow j p q (Ks _ hj) hl oj d Kc hd)
 ·exact(I.GP j p b (Ks _ hj)).step T v λoj d Kc hd=>TV j p _ hj (I.late j p b (Ks _ hj)) oj d Kc hd
def Tr.snoc{h h'}{pl Qj}{w w':World}(T:Tr h pl w h' Qj w'){b q}(hb:w.heap.size<=b)(ob):Tr h pl w (h'++[ob]) (Qj++[some (b,q)]) w' where
 Kj:=λc hc Qc=>⟨NT (T.Kj c hc Qc).1 λq e=>by simp at e;omega,(T.Kj c hc Qc).2⟩
 obj:=λl o p ho hp=>by
  obtain⟨o',p',h1,h2,h3⟩:=T.obj l o p ho hp;exact⟨o',p',yI h1,yI h2,h3⟩
 shape:=λl o o' b q ho Zv hg hp c el hc=>by
  obtain⟨o1,p1,h1,h2,h3⟩:=T.obj l o _ ho hp;rw[yI h1]at Zv;cases Zv;exact T.shape l o _ b q ho h1 hg hp c el hc
def wj.fb{L}{ops}{R}(hD:Ox ops)(QX:base<=w0.w.heap.size){Z0 Z}{i b}{p}{r}{done}{Zl}{s}{pl}{a}{w}(I:wj nc P L ops R base nt w0 Z0 Z ((i,p,some b)::r) done Zl s pl a w)
  {o:Oper} (ho:ops[i]? = some o) {ob:Ob} {mk:Nat->D} (hL:ES P o ob mk) (ht:Zr nt o.dst=true) :
  ∃Z',wj nc P L ops R base nt w0 Z0 Z' r (i::done) Zl ⟨Zj s.fr o.dst (mk s.h.length),s.h++[ob]⟩ (pl++[some (b,0)]) a w:=by
 obtain⟨o',Zv,h1,h2,h3,h4,h5⟩:=I.head;rw[ho]at Zv;cases Zv;have QB:∀j p q,(j,p,q)∈r->j≠i:=λj p q hj e=>TS h5 j (fh hj) (by rw[e];simp);have Li:=I.late i p b (Va ..);have TV:∀j p q,(j,p,q)∈r->VY ops j=true->∀oj d,ops[j]? = some oj->oj.dst=some d->o.dst≠some d:=λj p q hj hl oj d Kc hd=>hD j i oj o d (QB j p q hj) hl Kc ho hd;obtain⟨o1,d,w1,ρ,v,obj,g1,g2,g3,g4,g5,g6⟩:=(I.GP i p b (Va ..)).run;rw[ho]at g1;cases g1;have Lj:=(I.GP i p b (Va ..)).WU;have Lk:=(I.GP i p b (Va ..)).low;obtain⟨sN,val,k1,k2,k3⟩:=hL;have ke:=k1 ρ w1;rw[g3]at ke;simp only[Result.ok.injEq,Next.value.injEq]at ke;obtain⟨rfl,ke2⟩:=ke;have Bn:obj=sN:=by
  have e1:=heap_alloc_new w1 obj;have e2:=heap_alloc_new w1 sN;rw[ke2,e2]at e1;exact(IC e1).symm
 subst Bn;have hdn:d<nt:=by rw[g2]at ht;exact jf ht
 have hz:∀c,Z c↔Z0 c/\c≠b/\c ∉ blocks r:=λc=>by rw[I.z c];simp only[blocks,QF,Yr]
 have W8:b ∉ blocks r:=by have:=I.TR;simp only[blocks]at this;exact(ZK.1 this).1
 have QlP:Z0 b:=I.z0 i p b (Va ..);have X4:∀c,free Z pl c->free (λc=>Z0 c/\c ∉ blocks r) (pl++[some (b,0)]) c:=λc hc=>⟨⟨((hz c).1 hc.1).1,((hz c).1 hc.1).2.2⟩,NT hc.2 λq e=>by simp at e;exact((hz c).1 hc.1).2.1 e.1.symm⟩;have hlen:pl.length=s.h.length:=I.rel.o.len;have hx:=k2 (λc=>Z0 c/\c ∉ blocks r) (s.h++[ob]) (pl++[some (b,0)]) w b g5;have hO:=I.rel.o.fb X4 Lj (Kz QX Lk) hx;have hv:=k3 (λc=>Z0 c/\c ∉ blocks r) (s.h++[ob]) (pl++[some (b,0)]) w s.h.length b (by simp) (by rw[<- hlen];simp);have kZ:∀{d v},QA Z s.h pl w d v->QA (λc=>Z0 c/\c ∉ blocks r) (s.h++[ob]) (pl++[some (b,0)]) w d v:=λhr=>hr.Lf (λc hc _=>⟨X4 c hc,rfl⟩) (λ_ _ _ a b=>⟨yI a,yI b⟩) (λ_ _ _ _=>rfl);refine⟨λc=>Z0 c/\c ∉ blocks r,h5,λj hj hd=>?_,λj hj=>?_,I.marks.same λj=>?_,λj p b hj=>I.late j p b (Ks _ hj),λj p q hj=>I.lp j p q (Ks _ hj),λc=>Iff.rfl,λj p b hj=>I.z0 j p b (Ks _ hj),?_,λj p q hj hl oj d Kc hd=>?_,⟨I.rel.nt,I.rel.defers,λt=>?_,hO⟩,⟨I.since.1,?_,⟨λc hc=>?_,λl c q e h0=>?_⟩⟩,λj p b' hj=>?_⟩
 ·simp only[QF,Yr]at hd;have:=I.cover j hj hd.2;simp only[WW,Jz,QF]at this;rcases this with (h|h)|h
  ·exact absurd h hd.1
  ·exact .inl h
  ·exact .inr h
 ·obtain⟨k1,k2,k3⟩:=I.Lh j hj;simp only[WW,Jz,QF,Yr]at k2;exact⟨λh=>by
   rcases QF.1 h with h|h
   ·exact k2.1 h
   ·exact k1 h,k2.2,k3⟩
 ·simp only[early,QF,QT];constructor
  ·rintro ((h|h)|h)
   ·exact .inr (.inl h)
   ·exact .inl h
   ·exact .inr (.inr h)
  ·rintro (h|h|h)
   ·exact .inl (.inr h)
   ·exact .inl (.inl h)
   ·exact .inr h
 ·have:=I.TR;simp only[blocks]at this;exact(ZK.1 this).2
 ·rw[TQ (TV j p q hj hl oj d Kc hd)];exact I.Ow j p q (Ks _ hj) hl oj d Kc hd
 ·rw[g2,Zj,Ek];by_cases e:t=d
  ·rw[Qg e,e,g6 hdn,<- g4];exact hv
  ·rw[Qd e];exact kZ (I.rel.fr t)
 ·exact I.since.2.1.snoc Lk ob
 ·exact(I.z c).1 (I.since.2.2.new c hc) |> λh=>⟨h.1,λhm=>h.2 (by simp only[blocks,QF];exact .inr hm)⟩
 ·rcases Xq e with h1|⟨h1,ZY⟩
  ·exact(I.z c).1 (I.since.2.2.own l c q h1 h0) |> λh=>⟨h.1,λhm=>h.2 (by simp only[blocks,QF];exact .inr hm)⟩
  ·simp at ZY;obtain⟨rfl,rfl⟩:=ZY;exact⟨QlP,W8⟩
 ·have P':=I.GP j p b' (Ks _ hj);exact⟨P'.run,NT P'.WU λq e=>by
   simp at e;exact W8 (by rw[e.1];exact CE.2 ⟨j,p,hj⟩),P'.low⟩
def GQ{j b:Nat}{p:Bool}{l1 l2:List En}{x:En}(h:x∈l1++(j,p,some b)::l2):x∈l1++(j,p,none)::l2\/x=(j,p,some b):=by
 rcases QT.1 h with h|h
 ·exact .inl (QT.2 (.inl h))
 ·rcases QF.1 h with h|h
  ·exact .inr h
  ·exact .inl (QT.2 (.inr (Ks _ h)))
def sO{j b:Nat}{p:Bool}{l1 l2:List En}{i c:Nat}{q:Bool}(h:(i,q,some c)∈l1++(j,p,none)::l2):(i,q,some c)∈l1++(j,p,some b)::l2:=by
 rcases QT.1 h with h|h
 ·exact QT.2 (.inl h)
 ·rcases QF.1 h with h|h
  ·cases h
  ·exact QT.2 (.inr (Ks _ h))
def wj.exec{L:Zm}{ops:Array Oper}{R:List Nat}(hD:Ox ops)(QX:base<=w0.w.heap.size){Z0 Z:Nat->Prop}{j:Nat}{p:Bool}{l1 l2:List En}{done:List Nat}{Zl:Array Bool}{s:St}{pl:List Pl}{a:Act}{w:World}(I:wj nc P L ops R base nt w0 Z0 Z (l1++(j,p,none)::l2) done Zl s pl a w)
  {o:Oper} (ho:ops[j]? = some o) (hl:VY ops j=true) {d:Nat} (hd:o.dst=some d) {v:Value} {obj:Obj} (Q5:(execOp a.eval o).run P w=.ok (.value v) (w.alloc obj)) (huq:∀i p' q,(i,p',q)∈l1++(j,p,none)::l2->q≠none->i≠j) :
  ∃Z',wj nc P L ops R base nt w0 Z0 Z' (l1++(j,p,some w.heap.size)::l2) done (Zl.setIfInBounds j true) s pl (a.put o.dst v) (w.alloc obj):=by
 have Qc:=(VT.1 ho).1;have hm:(j,p,none)∈l1++(j,p,none)::l2:=QT.2 (.inr (Va ..));have e:∀k,k<w.heap.size->(w.alloc obj).heap[k]? = w.heap[k]? := λk hk=>kR w obj k hk;have JH:(w.alloc obj).heap[w.heap.size]? = some obj:=heap_alloc_new w obj;have Je:w.heap.size<(w.alloc obj).heap.size:=z6 JH;have Y7:base<=w.heap.size:=Kz QX I.since.1.size;have xF:∀c,c∈blocks (l1++(j,p,none)::l2)->c<w.heap.size:=λc hc=>by
  obtain⟨i,q,hq⟩:=CE.1 hc;obtain⟨_,_,_,_,_,_,_,_,_,_,h5,_⟩:=(I.GP i q c hq).run;exact z6 h5
 have W8:w.heap.size ∉ blocks (l1++(j,p,none)::l2):=λh=>by have:=xF _ h;omega
 have Oy:Z0 w.heap.size:=((I.z _).1 (I.since.2.2.new _ (QD _))).1;have Kb:∀c,c∈blocks (l1++(j,p,some w.heap.size)::l2)↔c∈blocks (l1++(j,p,none)::l2)\/c=w.heap.size:=λc=>by
  rw[CE,CE];constructor
  ·rintro⟨i,q,h⟩;rcases GQ h with h|h
   ·exact .inl ⟨i,q,h⟩
   ·cases h;exact .inr rfl
  ·rintro (⟨i,q,h⟩|rfl)
   ·exact⟨i,q,sO h⟩
   ·exact⟨j,p,QT.2 (.inr (Va ..))⟩
 have hZ:∀c,(Z0 c/\c ∉ blocks (l1++(j,p,some w.heap.size)::l2))↔Z c/\c≠w.heap.size:=λc=>by
  rw[I.z c,Kb c,Yr,and_assoc]
 have X4:∀c,free Z pl c->c<w.heap.size->free (λc=>Z0 c/\c ∉ blocks (l1++(j,p,some w.heap.size)::l2)) pl c/\(w.alloc obj).heap[c]? = w.heap[c]? := λc hc Qc=>⟨⟨(hZ c).2 ⟨hc.1,by omega⟩,hc.2⟩,e c Qc⟩;have kZ:∀{d v},QA Z s.h pl w d v->QA (λc=>Z0 c/\c ∉ blocks (l1++(j,p,some w.heap.size)::l2)) s.h pl (w.alloc obj) d v:=λhr=>hr.Lf X4 (λ_ _ _ a b=>⟨a,b⟩) (λl b q hp=>e b (I.rel.o.lt hp).1);have T:Tr s.h pl w s.h pl (w.alloc obj):=Tr.ext I.rel.o e;refine⟨λc=>Z0 c/\c ∉ blocks (l1++(j,p,some w.heap.size)::l2),?_,?_,?_,(I.marks.set Qc).same λi=>?_,λi q b h=>?_,λi q u h hl=>?_,λc=>Iff.rfl,λi q b h=>?_,fe _ W8 I.TR,λi q u h Li oi di TW TX=>?_,⟨by rw[hd];simp[Act.put,I.rel.nt],by rw[hd];exact I.rel.defers,λt=>?_,I.rel.o.Lf X4 e⟩,⟨I.since.1.trans (Co Y7 obj),I.since.2.1.trans T,⟨λc hc=>(hZ c).2 ⟨I.since.2.2.new c (by omega),by omega⟩,λl c q e1 h0=>(hZ c).2 ⟨I.since.2.2.own l c q e1 h0,by have:=(I.rel.o.lt e1).1;omega⟩⟩⟩,λi q b h=>?_⟩
 ·have:=I.sched;simpa[XG] using this
 ·have:=I.cover;simpa[WW] using this
 ·have:=I.Lh;simpa[WW] using this
 ·simp only[QF,QT,GO];constructor
  ·rintro (rfl|⟨q,b,h⟩|h)
   ·exact .inl ⟨p,_,.inr (.inl rfl)⟩
   ·exact .inl ⟨q,b,by have:=sO (b:=w.heap.size) (QT.2 (h.imp id QF.2));simpa using this⟩
   ·exact .inr h
  ·rintro (⟨q,b,h⟩|h)
   ·rcases GQ (QT.2 (h.imp id QF.2)) with h|h
    ·exact .inr (.inl ⟨q,b,by simpa using h⟩)
    ·cases h;exact .inl rfl
   ·exact .inr (.inr h)
 ·rcases GQ h with h|h
  ·exact I.late i q b h
  ·cases h;exact hl
 ·rcases GQ h with h|h
  ·exact I.lp i q u h hl
  ·cases h;exact I.lp j p none hm hl
 ·rcases GQ h with h|h
  ·exact I.z0 i q b h
  ·cases h;exact Oy
 ·rcases GQ h with h|h
  ·exact I.Ow i q u h Li oi di TW TX
  ·cases h;exact I.Ow j p none hm Li oi di TW TX
 ·by_cases ht:t=d
  ·have:=I.Ow j p none hm hl o d ho hd;rw[ht,this];exact .cl _ _ (.undef _)
  ·rw[sL (by rw[hd];exact λh=>ht (IC h).symm)];exact kZ (I.rel.fr t)
 ·rcases GQ h with h|h
  ·refine(I.GP i q b h).step T v λoi di TW TX=>?_;exact hD i j oi o di (huq i q (some b) h (by simp)) (I.late i q b h) TW ho TX
  ·cases h;refine⟨⟨o,d,w,a.eval,v,obj,ho,hd,Q5,rfl,JH,λhn=>?_⟩,λl q e1=>?_,I.since.1.size⟩
   ·have:d<a.tmps.size:=by rw[I.rel.nt];exact hn
    simp[Act.put,hd,vP,this]
   ·have:=(I.rel.o.lt e1).1;omega
def CI(nc:List Nat)(P:Program)(base nt:Nat)(w0:Start)(ops:Array Oper)(K:St->Prop):Nat->List Nat->List Nat->St->Prop
 | 0,_,_,s=>K s
 | n+1,R,done,s=>∀i∈R,∀o,ops[i]? = some o->ji done o.after.toList=false->AX P base nt w0 (CI nc P base nt w0 ops K n (R.erase i) (i::done)) [(false,X5 (Km i nc) o,guardOf ops o)] s
def xJ(ops:Array Oper):List Nat->List Nat->Bool
 | [],_=>true
 | i::r,done=>(match ops[i]? with
  | some o=>!ji done o.after.toList
  | none=>false)&&xJ ops r (i::done)
def fi{done Ll}(h:∀j∈done,j∈Ll):∀{l:List Edge},ji done l=false->ji Ll l=false
 | [],_=>rfl
 | e::r,hh=>by
  simp only[ji,Ea,F9,Bool.not_eq_false']at hh ⊢;exact⟨hh.1.imp id λk=>kX.2 (h _ (kX.1 k)),fi h hh.2⟩
def sP{ops}:∀{R done Ll:List Nat},(∀j∈done,j∈Ll)->xJ ops R done=true->xJ ops R Ll=true
 | [],_,_,_,_=>rfl
 | i::r,done,Ll,h,hh=>by
  simp only[xJ,ZJ]at hh ⊢;refine⟨?_,sP (λj hj=>by
   rcases QF.1 hj with rfl|hj
   ·exact Va ..
   ·exact Ks _ (h j hj)) hh.2⟩
  have h1:=hh.1;cases ho:ops[i]? with
  | none=>rw[ho]at h1;cases h1
  | some o=>
   rw[ho]at h1;simp only[qy]at h1 ⊢;exact fi h h1
def sQ{ops}{j}:∀{R done:List Nat},xJ ops R done=true->xJ ops (R.erase j) (j::done)=true
 | [],_,_=>rfl
 | i::r,done,h=>by
  simp only[xJ,ZJ]at h;by_cases KA:i=j
  ·subst KA;rw[List.erase_cons_head];exact h.2
  ·rw[List.erase_cons_tail (by simpa using KA)];simp only[xJ,ZJ];refine⟨?_,sP (λk hk=>?_) (sQ (j:=j) h.2)⟩
   ·have h1:=h.1;cases ho:ops[i]? with
    | none=>rw[ho]at h1;cases h1
    | some o=>
     rw[ho]at h1;simp only[qy]at h1 ⊢;exact fi (λk hk=>Ks _ hk) h1
   ·simp only[QF]at hk ⊢;rcases hk with h1|h1|h1
    ·exact .inr (.inl h1)
    ·exact .inl h1
    ·exact .inr (.inr h1)
def QlR{ops:Array Oper}(QX:base<=w0.w.heap.size){F}{Z}{i}{o}(ho:ops[i]? = some o){s:St}{pl}{a}{w}(r:Rel Z base nt s pl a w)(b:Kv Z base w0 s.h pl w)
  (h:AX P base nt w0 F [(false,X5 (Km i nc) o,guardOf ops o)] s):wpOp P ops (λ_ _ _=>False) i (λa' w'=>kY nc ops i w w'/\∃s' Qj,F s'/\Rel Z base nt s' Qj a' w'/\Kv Z base w0 s'.h Qj w') a w:=by
 have skip:∀(s1:St),s1.h=s.h->Rel Z base nt s1 pl a w->WG (guardOf ops o) a.tmps=false->Zr nt (X5 (Km i nc) o).dst=true->F ⟨Zj s1.fr (X5 (Km i nc) o).dst (.raw Go.undef),s1.h⟩->_:=λs1 hh r1 hw ht hk=>by
  have hy:YieldsIf P ops (λ_:World=>True) o Go.undef a:=.inr ⟨by rw[IV];exact hw,rfl⟩;have Jr:Rel Z base nt ⟨Zj s1.fr o.dst (.raw Go.undef),s1.h⟩ pl (a.put o.dst Go.undef) w:=r1.skip ht;exact hy.wpOp (P:=P) (Q:=λ_ _ _=>False) (K:=λa' w'=>kY nc ops i w w'/\∃s' Qj,F s'/\Rel Z base nt s' Qj a' w'/\Kv Z base w0 s'.h Qj w') ho trivial ⟨by rw[GM ho];exact .ext (Ext.refl _),_,pl,hk,Jr,by rw[show (⟨Zj s1.fr o.dst (.raw Go.undef),s1.h⟩:St).h=s.h from hh];exact b⟩
 have go:∀(s1:St),s1.h=s.h->Rel Z base nt s1 pl a w->WG (guardOf ops o) a.tmps=true->WI P base nt w0 false (X5 (Km i nc) o) F s1->wpOp P ops (λ_ _ _=>False) i (λa' w'=>kY nc ops i w w'/\∃s' Qj,F s'/\Rel Z base nt s' Qj a' w'/\Kv Z base w0 s'.h Qj w') a w:=λs1 hh r1 hw hk=>by
  unfold wpOp;simp only[ho,IV,hw,K6];refine .inl ?_;have:=hk.ae QX Z trivial pl a w r1 (by rw[hh];exact b);rw[sI]at this;refine Oper.wp_mono (λa' w' hq=>?_) this;obtain⟨he,d,h',Qj,v,hF,r',b',T,rfl⟩:=hq;exact⟨by rw[GM ho];exact he,_,Qj,hF,r',b'⟩
 simp only[AX]at h;split at h
 ·rename_i hg;exact go s rfl r (by rw[hg];rfl) h
 ·rename_i x hg;exact skip s rfl r (by rw[hg];rfl) h.1 h.2
 ·rename_i t x hg;split at h
  ·rename_i y hy;have hr:=r.fr t;rw[hy]at hr;have hv:=Z9 hr;have hb:=eV hv;by_cases jR:y=x
   ·refine go ⟨put s.fr t (.raw (.bool x)),s.h⟩ rfl (r.tell (t:=t) (d:=.raw (.bool x)) (by rw[hv,jR];exact .cl _ _ (.raw _))) ?_ (h.1 jR);rw[hg];simp[WG,hb,jR]
   ·have EJ:y=(!x):=by cases x<;>cases y<;>simp_all
    have:=h.2 EJ;refine skip ⟨put s.fr t (.raw (.bool !x)),s.h⟩ rfl (r.tell (t:=t) (d:=.raw (.bool (!x))) (by rw[hv,EJ];exact .cl _ _ (.raw _))) ?_ this.1 this.2;rw[hg];simp[WG,hb,jR]
  ·rename_i vs hy;have hr:=r.fr t;rw[hy]at hr;refine skip s rfl r ?_ h.1 h.2;rw[hg];simp[WG,eW (Z9 hr)]
  ·exact h.elim
def fj{ops:Array Oper}{K}(QX:base<=w0.w.heap.size){Z}:∀(n:Nat) (R done:List Nat) (Zl:Array Bool) (s:St) (pl:List Pl) (a:Act) (w:World),R.length=n->Marks ops Zl done->(∀j,j<ops.size->j ∉ done->j∈R)->(∀j∈R,j ∉ done)->R.Nodup->xJ ops R done=true ->
  Rel Z base nt s pl a w->Kv Z base w0 s.h pl w->CI nc P base nt w0 ops K n R done s->xI P ops (λa w=>∃s pl,K s/\Rel Z base nt s pl a w/\Kv Z base w0 s.h pl w) (kY nc ops) n Zl a w
 | 0,R,done,Zl,s,pl,a,w,hl,M,hc,hn,hd,ht,r,b,h=>by
  have:R=[]:=NG.1 hl;subst this;refine⟨dt.2 λj hj=>?_,s,pl,h,r,b⟩;obtain⟨h1,o,ho,_⟩:=mem_ready.1 hj;have Qc:=(VT.1 ho).1;have:=hc j Qc ((M.get j Qc).1 h1);cases this
 | n+1,R,done,Zl,s,pl,a,w,hl,M,hc,hn,hd,ht,r,b,h=>by
  have ready:∀j o,ops[j]? = some o->j ∉ done->ji done o.after.toList=false->j∈Region.ready .any ops Zl:=λj o ho hj hh=>by
   have Qc:=(VT.1 ho).1;exact mem_ready.2 ⟨(M.get j Qc).2 hj,o,ho,λe he hb=>(M.get' e.on).2 ⟨TO hh e (by simpa using he) hb,M.lt _ (TO hh e (by simpa using he) hb)⟩⟩
  refine⟨λe=>?_,λj hj=>?_⟩
  ·cases R with
   | nil=>cases hl
   | cons i rr=>
    simp only[xJ,ZJ]at ht;have h1:=ht.1;split at h1
    ·rename_i o ho;have:=ready i o ho (hn i (Va ..)) (by simpa using h1);rw[e]at this;cases this
    ·cases h1
  ·obtain⟨h1,o,ho,Vo⟩:=mem_ready.1 hj;have Qc:=(VT.1 ho).1;have hjd:=(M.get j Qc).1 h1;have TY:=hc j Qc hjd;have hh:ji done o.after.toList=false:=by
    cases hb:ji done o.after.toList
    ·rfl
    ·obtain⟨e,he,hbi,CH⟩:=sF hb;exact absurd ((M.get' e.on).1 (Vo e (by simpa using he) hbi)).1 CH
   refine wpOp_mono (λa' w' h3=>?_) (QlR QX ho r b (h j TY o ho hh));obtain⟨h4,s',Qj,hF,r',b'⟩:=h3;refine⟨h4,fj QX n (R.erase j) (j::done) (Zl.setIfInBounds j true) s' Qj a' w' (by rw[List.length_erase_of_mem TY,hl];rfl) (M.set Qc) (λk hk Jo=>?_) (λk hk Jo=>?_) (hd.erase _) (sQ ht) r' b' hF⟩
   ·simp only[QF,Yr]at Jo;exact(List.mem_erase_of_ne Jo.1).2 (hc k hk Jo.2)
   ·have hkR:=List.mem_of_mem_erase hk;rcases QF.1 Jo with rfl|h5
    ·exact(hd.not_mem_erase) hk
    ·exact hn k hkR h5
def QlV{L}(QlW:ZR P L){ops:Array Oper}{R D0:List Nat}{K}(Lb:Region.noSelect ops=true)(QX:base<=w0.w.heap.size)(hD:Ox ops)(hL:∀j o,ops[j]? = some o->VY ops j=true->(∃ob mk,ES P o ob mk)/\∃d,o.dst=some d){Z0}(sS:R.Nodup)(sT:xJ ops R D0=true):
  ∀(m:Nat) (l:List En) (done:List Nat) (Zl:Array Bool) (s:St) (pl:List Pl) (a:Act) (w:World) (Z:Nat->Prop),l.length+XH l<=m->wj nc P L ops R base nt w0 Z0 Z l done Zl s pl a w->(∀j,j∈D0↔j∈WW l\/j∈done)->AX P base nt w0 (CI nc P base nt w0 ops K R.length R D0) (KV nc ops (XG l)) s ->
   xI P ops (λa w=>∃s pl,K s/\Rel Z0 base nt s pl a w/\Kv Z0 base w0 s.h pl w) (kY nc ops) (R.length+XH l) Zl a w:=by
 intro m;induction m with
 | zero=>
  intro l done Zl s pl a w Z hm I Oz h;cases l with
  | cons x r=>simp at hm
  | nil=>
   have hZ:Z=Z0:=funext λb=>propext (by rw[I.z b];simp[blocks]);subst hZ;have GR:∀j,j∈D0↔j∈done:=λj=>by rw[Oz j];simp[WW]
   refine fj QX R.length R D0 Zl s pl a w rfl (I.marks.same λj=>by rw[GR j];simp[early]) (λj hj hd=>?_) (λj hj=>by rw[GR j];exact(I.Lh j hj).1) sS sT I.rel I.since h;have:=I.cover j hj (λh=>hd ((GR j).2 h));simpa[WW] using this
 | succ m ih=>
  intro l done Zl s pl a w Z hm I Oz h;cases l with
  | nil=>
   have hZ:Z=Z0:=funext λb=>propext (by rw[I.z b];simp[blocks]);subst hZ;have GR:∀j,j∈D0↔j∈done:=λj=>by rw[Oz j];simp[WW]
   refine fj QX R.length R D0 Zl s pl a w rfl (I.marks.same λj=>by rw[GR j];simp[early]) (λj hj hd=>?_) (λj hj=>by rw[GR j];exact(I.Lh j hj).1) sS sT I.rel I.since h;have:=I.cover j hj (λh=>hd ((GR j).2 h));simpa[WW] using this
  | cons x r=>
   obtain⟨i,p,q⟩:=x;obtain⟨o,ho,Z2,sU,QlX,QlY,xz⟩:=I.head;have Qc:=(VT.1 ho).1;have k9:KV nc ops (XG ((i,p,q)::r))=(p,X5 (Km i nc) o,guardOf ops o)::KV nc ops (XG r):=by simp[KV,XG,ho]
   rw[k9]at h;have CG:∀j∈early ((i,p,q)::r),VY ops j=true:=λj hj=>by obtain⟨p',b,hb⟩:=GO.1 hj;exact I.late j p' b hb
   have QB:∀j p q,(j,p,q)∈r->j≠i:=λj p q hj e=>TS xz j (fh hj) (by rw[e];simp);have TZ:∀j,j∈D0↔j∈WW r\/j∈i::done:=λj=>by
    rw[Oz j];simp only[WW,Jz,QF];constructor
    ·rintro ((h|h)|h)
     ·exact .inr (.inl h)
     ·exact .inl h
     ·exact .inr (.inr h)
    ·rintro (h|h|h)
     ·exact .inl (.inr h)
     ·exact .inl (.inl h)
     ·exact .inr h
   cases q with
   | some b=>
    have Li:=I.late i p b (Va ..);obtain⟨g1,g2,_⟩:=TU ho Li;have hp:=I.lp i p _ (Va ..) Li;subst hp;have hg:guardOf ops o=none:=by simp[guardOf,g2]
    rw[hg]at h;simp only[AX,WI]at h;rw[show Y8 (X5 (Km i nc) o)=true from g1]at h;obtain⟨ob,mk,h1,h2,h3⟩:=h;obtain⟨Z',I'⟩:=I.fb hD QX ho (show ES P o ob mk from h1) h2;have:=ih r (i::done) Zl _ _ a w Z' (by simp only[Vu,XH]at hm;omega) I' TZ h3;exact this
   | none=>
    have fk:i ∉ early ((i,p,none)::r)++done:=λhm=>by
     rcases QT.1 hm with h1|h1
     ·obtain⟨p',b,hb⟩:=GO.1 h1;rcases QF.1 hb with h2|h2
      ·cases h2
      ·exact QB _ _ _ h2 rfl
     ·exact Z2 h1
    have fm:i∈Region.ready .any ops Zl:=mem_ready.2 ⟨(I.marks.get i Qc).2 fk,o,ho,λe he hb=>(I.marks.get' e.on).2 ⟨QT.2 (.inr (sU e he hb)),I.marks.lt _ (QT.2 (.inr (sU e he hb)))⟩⟩;have IL:r.length+XH r<=m:=by simp only[Vu,XH]at hm;omega
    have first:p=true->∀(s1:St) (v:Value),s1.h=s.h->YieldsIf P ops (λw'=>(still L o=true\/Ext w w')\/(Bl o=true/\q5 w w')) o v a ->
      Rel Z base nt s1 pl (a.put o.dst v) w->(∀d,o.dst≠some d->get s.fr d=.undef->get s1.fr d=.undef)->AX P base nt w0 (CI nc P base nt w0 ops K R.length R D0) (KV nc ops (XG r)) s1->xI P ops (λa w=>∃s pl,K s/\Rel Z0 base nt s pl a w/\Kv Z0 base w0 s.h pl w) (kY nc ops) (R.length+XH r+1) Zl a w:=by
     intro hp s1 v hh hy hr hu hk;have I':=I.next hD ho v (s':=s1) (by rw[hh];exact Tr.refl _ _ _) hr (by rw[hh];exact I.since) hu;have Ua:=ih r (i::done) (Zl.setIfInBounds i true) s1 pl (a.put o.dst v) w Z IL I' TZ hk;refine QlI (λw=>by rw[GM ho];exact .ext (Ext.refl _)) ho (Region.noSelect_spec Lb) _ Zl a w (.inl (.inr (Ext.refl _))) (λj oj hj jZ hu'=>?_) fm hy Ua;have OA:=(VT.1 hj).1;have OB:=(I.marks.get j OA).1 hu';have OC:=I.cover j OA λhd=>OB (QT.2 (.inr hd));simp only[WW,Jz,QF]at OC;have XI:∃y∈(XG r).map (λip=>(ip.1,ip.2,ops[ip.1]?))++GN ops R,y.1=j/\y.2.2=ops[j]? := by
      rcases OC with (h|h)|h
      ·exact absurd h jZ
      ·obtain⟨y,qE,jU⟩:=Jn.1 h;exact⟨(y.1,y.2.1,ops[y.1]?),QT.2 (.inl (Jn.2 ⟨(y.1,y.2.1),Jn.2 ⟨y,qE,rfl⟩,rfl⟩)),jU,by rw[jU]⟩
      ·exact⟨(j,false,ops[j]?),QT.2 (.inr (Jn.2 ⟨j,h,rfl⟩)),rfl,rfl⟩
     obtain⟨y,qE,jU,hy3⟩:=XI;have:=sM I.marks CG (r:=(XG r).map (λip=>(ip.1,ip.2,ops[ip.1]?))++GN ops R) (λx hx=>by
      rcases QT.1 hx with hx|hx
      ·obtain⟨z,_,rfl⟩:=Jn.1 hx;rfl
      ·obtain⟨z,_,rfl⟩:=Jn.1 hx;rfl) (QlX hp).2 y qE oj (by rw[jU];exact hj)
     rw[jU]at this;refine this.imp id λh=>⟨λw1 w2 hc hs=>?_,h.2⟩;rw[GM hj]at hc;rcases h.1 with (h1|h1)|h1
     ·have he:=hc.calm (by rw[QlL];simp[h1.1,h1.2]);rcases hs with (hs|hs)|hs
      ·exact .inl (.inl hs)
      ·exact .inl (.inr (hs.trans he))
      ·exact .inr ⟨hs.1,hs.2.trans (.ext he)⟩
     ·exact .inl (.inl h1)
     ·have he:=hc.ins (by simpa[Bm,X5] using h1.2);rcases hs with (hs|hs)|hs
      ·exact .inl (.inl hs)
      ·exact .inr ⟨h1.1,(q5.ext hs).trans he⟩
      ·exact .inr ⟨hs.1,hs.2.trans he⟩
    have alone:p=false->wpOp P ops (λ_ _ _=>False) i (λa' w'=>kY nc ops i w w'/\xI P ops (λa w=>∃s pl,K s/\Rel Z0 base nt s pl a w/\Kv Z0 base w0 s.h pl w) (kY nc ops) (R.length+XH r) (Zl.setIfInBounds i true) a' w') a w ->
      xI P ops (λa w=>∃s pl,K s/\Rel Z0 base nt s pl a w/\Kv Z0 base w0 s.h pl w) (kY nc ops) (R.length+XH r+1) Zl a w:=by
     intro hp hi;refine⟨λe=>(by rw[e]at fm;cases fm),λj hj=>?_⟩;by_cases jZ:j=i
     ·subst jZ;exact hi
     ·obtain⟨TL,oj,Kc,Vo⟩:=mem_ready.1 hj;have OA:=(VT.1 Kc).1;have OB:=(I.marks.get j OA).1 TL;have OC:=I.cover j OA λhd=>OB (QT.2 (.inr hd));simp only[WW,Jz,QF]at OC;have sV:=λx hx=>sK (r:=(XG r).map (λip=>(ip.1,ip.2,ops[ip.1]?))++GN ops R) (λx hx=>by
       rcases QT.1 hx with hx|hx
       ·obtain⟨z,_,rfl⟩:=Jn.1 hx;rfl
       ·obtain⟨z,_,rfl⟩:=Jn.1 hx;rfl) (QlY hp) x hx
      have held:Lg ops done i oj.after.toList=true->False:=λh1=>by
       obtain⟨e,he,hb,CH,CJ⟩:=sJ h1;have h2:=((I.marks.get' e.on).1 (Vo e (by simpa using he) hb)).1;rcases QT.1 h2 with h3|h3
       ·rcases CJ with h4|h4
        ·rw[CG _ h3]at h4;cases h4
        ·exact fk (QT.2 (.inl (by rw[<- h4];exact h3)))
       ·exact CH h3
      have TY:j ∉ R:=λh=>by
       rcases sV (j,false,ops[j]?) (QT.2 (.inr (Jn.2 ⟨j,h,rfl⟩))) oj Kc with h1|h1
       ·have h9:VY ops j=true:=h1;rw[(I.Lh j h).2.2]at h9;cases h9
       ·exact held h1
      obtain⟨y,qE,jU⟩:=Jn.1 ((OC.resolve_right TY).resolve_left jZ);obtain⟨j',pj,qj⟩:=y;obtain rfl:j'=j:=jU;have hqj:qj=none:=by
       cases qj with
       | none=>rfl
       | some b=>exact absurd (QT.2 (.inl (GO.2 ⟨pj,b,Ks _ qE⟩))) OB
      subst hqj;have fo:VY ops j'=true:=by
       rcases sV (j',pj,ops[j']?) (QT.2 (.inl (Jn.2 ⟨(j',pj),Jn.2 ⟨_,qE,rfl⟩,rfl⟩))) oj Kc with h1|h1
       ·exact h1
       ·exact(held h1).elim
      obtain⟨g1,g2,_⟩:=TU Kc fo;obtain⟨⟨ob,mk,obj,val,k1,_⟩,d,hd⟩:=hL j' oj Kc fo;obtain⟨r1,r2,hr⟩:=List.append_of_mem qE;have hl:(i,p,none)::r=((i,p,none)::r1)++(j',pj,none)::r2:=by rw[hr];rfl
      have I0:=I;rw[hl]at I0;obtain⟨Z',I'⟩:=I0.exec hD QX Kc fo hd (k1 a.eval w) (λi' p' q' hm hq e=>by
       subst e;rw[<- hl]at hm;cases q' with
       | none=>exact hq rfl
       | some b=>exact OB (QT.2 (.inl (GO.2 ⟨p',b,hm⟩))))
      have hc:XH r=XH (((i,p,none)::r1)++(j',pj,some w.heap.size)::r2):=by
       have:=fc (j:=j') (p:=pj) (b:=w.heap.size) (l2:=r2) ((i,p,none)::r1);rw[<- hl]at this;simp only[XH]at this;omega
      have fp:XG (((i,p,none)::r1)++(j',pj,some w.heap.size)::r2)=XG ((i,p,none)::r):=by rw[hl];simp[XG]
      have Ua:=ih _ done (Zl.setIfInBounds j' true) s pl (a.put oj.dst (val w.heap.size)) (w.alloc obj) Z' (by
       have h1:(((i,p,none)::r1)++(j',pj,some w.heap.size)::r2).length=r.length+1:=by rw[hr];simp
       have h2:r.length+1+(XH r+1)<=m+1:=hm;rw[h1,<- hc];omega) I' (λk=>by rw[Oz k];rw[hl];simp[WW]) (by rw[fp,k9];exact h)
      rw[<- hc]at Ua;unfold wpOp;simp only[Kc];have hw:Region.wanted oj (yielded ops a.tmps)=true:=by simp[Region.wanted,g2]
      rw[Qg hw];refine .inl ?_;unfold Oper.wp;rw[k1 a.eval w];simp only[Oper.upon_value];exact⟨by rw[GM Kc];exact .ext λk hk=>kR w obj k hk,Ua⟩
    have skip:∀(s1:St),s1.h=s.h->Rel Z base nt s1 pl a w->(∀d,get s.fr d=.undef->get s1.fr d=.undef)->WG (guardOf ops o) a.tmps=false->Zr nt (X5 (Km i nc) o).dst=true->AX P base nt w0 (CI nc P base nt w0 ops K R.length R D0) (KV nc ops (XG r)) ⟨Zj s1.fr (X5 (Km i nc) o).dst (.raw Go.undef),s1.h⟩ ->
      xI P ops (λa w=>∃s pl,K s/\Rel Z0 base nt s pl a w/\Kv Z0 base w0 s.h pl w) (kY nc ops) (R.length+XH r+1) Zl a w:=by
     intro s1 hh r1 hu hw ht hk;have hy:YieldsIf P ops (λw'=>(still L o=true\/Ext w w')\/(Bl o=true/\q5 w w')) o Go.undef a:=.inr ⟨by rw[IV];exact hw,rfl⟩;have Jr:Rel Z base nt ⟨Zj s1.fr o.dst (.raw Go.undef),s1.h⟩ pl (a.put o.dst Go.undef) w:=r1.skip ht;have wk:∀d,o.dst≠some d->get s.fr d=.undef->get (Zj s1.fr o.dst (.raw Go.undef)) d=.undef:=λd hd h=>by rw[TQ hd];exact hu d h
     cases p with
     | true=>exact first rfl ⟨Zj s1.fr o.dst (.raw Go.undef),s1.h⟩ Go.undef hh hy Jr wk hk
     | false=>
      refine alone rfl (hy.wpOp ho (.inl (.inr (Ext.refl _))) ⟨by rw[GM ho];exact .ext (Ext.refl _),?_⟩);have I':=I.next hD ho Go.undef (s':=⟨Zj s1.fr o.dst (.raw Go.undef),s1.h⟩) (by rw[show (⟨Zj s1.fr o.dst (.raw Go.undef),s1.h⟩:St).h=s.h from hh];exact Tr.refl _ _ _) Jr (by rw[show (⟨Zj s1.fr o.dst (.raw Go.undef),s1.h⟩:St).h=s.h from hh];exact I.since) wk;exact ih r (i::done) _ _ pl _ w Z IL I' TZ hk
    have go:∀(s1:St),s1.h=s.h->Rel Z base nt s1 pl a w->(∀d,get s.fr d=.undef->get s1.fr d=.undef)->WG (guardOf ops o) a.tmps=true->WI P base nt w0 p (X5 (Km i nc) o) (AX P base nt w0 (CI nc P base nt w0 ops K R.length R D0) (KV nc ops (XG r))) s1 ->
      xI P ops (λa w=>∃s pl,K s/\Rel Z0 base nt s pl a w/\Kv Z0 base w0 s.h pl w) (kY nc ops) (R.length+XH r+1) Zl a w:=by
     intro s1 hh r1 hu hw hk;cases p with
     | true=>
      obtain⟨d,S4,ze,ht,hk⟩:=hk;have Vo:∃v,QA Z s1.h pl w d v/\(∀w':World,(∀b,b<w.heap.size->w'.heap[b]? = w.heap[b]?)->(execOp a.eval o).run P w'=.ok (.value v) w')/\(Bl o=true->∀w':World,q5 w w'->(execOp a.eval o).run P w'=.ok (.value v) w'):=by
       cases OD:Bl o
       ·obtain⟨v,hv,Q5⟩:=S4 Z pl a w r1;exact⟨v,hv,Q5,λh=>by cases h⟩
       ·obtain⟨v,hv,Q5⟩:=ze (by simpa[Bl,X5] using OD) Z pl a w r1;exact⟨v,hv,λw' he=>Q5 w' (.ext he),λ_=>Q5⟩
      obtain⟨v,hv,Q5,Ql1⟩:=Vo;have hy:YieldsIf P ops (λw'=>(still L o=true\/Ext w w')\/(Bl o=true/\q5 w w')) o v a:=.inl ⟨by rw[IV];exact hw,λw' he=>he.elim (λhe=>he.elim (λhs=>QlH QlW hs (Q5 w λ_ _=>rfl) w') (λhe=>Q5 w' he)) (λhe=>Ql1 he.1 w' he.2)⟩;have r2:Rel Z base nt ⟨Zj s1.fr o.dst d,s1.h⟩ pl (a.put o.dst v) w:=by
       cases hd:o.dst with
       | none=>exact r1
       | some t=>have ht:Zr nt o.dst=true:=ht;rw[hd]at ht;exact r1.to (Tr.ext r1.o λ_ _=>rfl) r1.o (jf ht) hv
      exact first rfl ⟨Zj s1.fr o.dst d,s1.h⟩ v hh hy r2 (λd' hd h=>by rw[TQ hd];exact hu d' h) hk
     | false=>
      refine alone rfl ?_;unfold wpOp;simp only[ho,IV,hw,K6];refine .inl ?_;have:=hk.ae QX Z trivial pl a w r1 (by rw[hh];exact I.since);rw[sI]at this;refine Oper.wp_mono (λa' w' hq=>?_) this;obtain⟨he,d,h',Qj,v,hF,r',b',T,rfl⟩:=hq;refine⟨by rw[GM ho];exact he,?_⟩;have I':=I.next hD ho v (s':=⟨Zj s1.fr o.dst d,h'⟩) (by rw[hh]at T;exact T) r' b' (λd' hd h=>by rw[TQ hd];exact hu d' h);exact ih r (i::done) _ _ Qj _ w' Z IL I' TZ hF
    show xI P ops _ (kY nc ops) (R.length+XH r+1) Zl a w;simp only[AX]at h;split at h
    ·rename_i hg;exact go s rfl I.rel (λ_ h=>h) (by rw[hg];rfl) h
    ·rename_i x hg;exact skip s rfl I.rel (λ_ h=>h) (by rw[hg];rfl) h.1 h.2
    ·rename_i t x hg;split at h
     ·rename_i y hy;have hr:=I.rel.fr t;rw[hy]at hr;have hv:=Z9 hr;have hb:=eV hv;have Bk:∀(e:D) d,get s.fr d=.undef->get (put s.fr t e) d=.undef:=λe d h=>by
       rw[Ek,Qd (λe=>by rw[e,hy]at h;cases h)];exact h
      by_cases jR:y=x
      ·refine go ⟨put s.fr t (.raw (.bool x)),s.h⟩ rfl (I.rel.tell (t:=t) (d:=.raw (.bool x)) (by rw[hv,jR];exact .cl _ _ (.raw _))) (Bk _) ?_ (h.1 jR);rw[hg];simp[WG,hb,jR]
      ·have EJ:y=(!x):=by cases x<;>cases y<;>simp_all
       have:=h.2 EJ;refine skip ⟨put s.fr t (.raw (.bool !x)),s.h⟩ rfl (I.rel.tell (t:=t) (d:=.raw (.bool (!x))) (by rw[hv,EJ];exact .cl _ _ (.raw _))) (Bk _) ?_ this.1 this.2;rw[hg];simp[WG,hb,jR]
     ·rename_i vs hy;have hr:=I.rel.fr t;rw[hy]at hr;refine skip s rfl I.rel (λ_ h=>h) ?_ h.1 h.2;rw[hg];simp[WG,eW (Z9 hr)]
     ·exact h.elim
def sW:Option Nat->Option Nat->Bool
 | some a,some b=>!Nat.beq a b
 | _,_=>true
def sX(ops:Array Oper):Bool:=(List.range ops.size).all λi=>!VY ops i || (List.range ops.size).all λj=>Nat.beq i j || sW ((ops[i]?).bind (·.dst)) ((ops[j]?).bind (·.dst))
def sY:D->Bool
 | .undef=>true
 | _=>false
def y6(ops:Array Oper)(fr:List (Nat × D)):Bool:=(List.range ops.size).all λi=>!VY ops i || (match (ops[i]?).bind (·.dst) with|some d=>sY (get fr d)|none=>true)
def sZ(L:Zm)(ops:Array Oper):Bool:=ops.toList.all λo=>match o.op with
 | .alloc t=>(ty L t).isSome&&o.dst.isSome
 | .makeMap _ none=>o.dst.isSome
 | _=>true
def Ub(ops:Array Oper)(l:List (Nat × Bool)):List Nat->Bool
 | []=>true
 | i::r=>!Km i r&&!Km i (l.map (·.1))&&!VY ops i&&Ub ops l r
def Uc{ops}{l:List (Nat × Bool)}:∀{R:List Nat},Ub ops l R=true->R.Nodup/\∀i∈R,i ∉ l.map (·.1)/\VY ops i=false
 | [],_=>⟨List.nodup_nil,by simp⟩
 | i::r,h=>by
  simp only[Ub,ZJ,qy]at h;obtain⟨⟨⟨h1,h2⟩,h3⟩,h4⟩:=h;obtain⟨k1,k2⟩:=Uc h4;refine⟨ZK.2 ⟨λhm=>(by rw[kX.2 hm]at h1;cases h1),k1⟩,λj hj=>?_⟩;rcases QF.1 hj with rfl|hj
  ·exact⟨λhm=>(by rw[kX.2 hm]at h2;cases h2),h3⟩
  ·exact k2 j hj
def Bo(nc:List Nat)(L:Zm)(ops:Array Oper)(l:List (Nat × Bool))(R:List Nat):Bool:=Region.noSelect ops&&Nat.beq (R.length+l.length) ops.size&&TN (l.map (·.1)++R) ops.size&&CD nc L ops R (l.map λip=>(ip.1,ip.2,ops[ip.1]?)) []&&sX ops&&sZ L ops&&Ub ops l R&&xJ ops R (l.map (·.1))
def Ud(L:Zm)(ops:Array Oper)(l:List (Nat × Bool)):Bool:=Bo [] L ops l []
def Ql2{ops}(h:sX ops=true):Ox ops:=by
 intro i j oi oj d KA hl hi hj hd hd';have h1:=jN.1 h i (NI.2 (VT.1 hi).1);rw[hl,Ca,NA]at h1;have h2:=jN.1 h1 j (NI.2 (VT.1 hj).1);simp only[hi,hj,SB,hd,hd',sW,Iz,Ca,Bool.or_false,Vz]at h2;exact KA h2
def Ql4{ops:Array Oper}{fr}(h:y6 ops fr=true):∀i o d,VY ops i=true->ops[i]? = some o->o.dst=some d->get fr d=.undef:=by
 intro i o d hl hi hd;have h1:=jN.1 h i (NI.2 (VT.1 hi).1);rw[hl]at h1;simp only[Ca,NA,hi,SB,hd]at h1;unfold sY at h1;split at h1
 ·assumption
 ·cases h1
def Ql5{P}{L}(hL:ZR P L){ops:Array Oper}(h:sZ L ops=true):∀j o,ops[j]? = some o->VY ops j=true->(∃ob mk,ES P o ob mk)/\∃d,o.dst=some d:=by
 intro j o hj hl;have h1:=(TU hj hl).1;have hm:o∈ops.toList:=by have:=Array.mem_of_getElem? hj;simpa using this
 have h2:=jN.1 h o hm;unfold Y8 at h1;cases ho:o.op<;>rw[ho]at h1 h2<;>first|cases h1|skip
 ·rename_i t;simp only[ZJ]at h2;obtain⟨y,hy⟩:=Ce.1 h2.1;exact⟨⟨_,_,sG hL ho hy⟩,Ce.1 h2.2⟩
 ·rename_i t rz;cases rz with
  | some x=>cases h1
  | none=>exact⟨⟨_,_,sH ho .i64⟩,Ce.1 h2⟩
def ta{L}{ops:Array Oper}{R}:∀{l:List (Nat × Bool)} {done:List Nat},CD nc L ops R (l.map λip=>(ip.1,ip.2,ops[ip.1]?)) done=true->∀i p,(i,p)∈l->VY ops i=true->p=false
 | [],_,_,_,_,h,_=>by cases h
 | (j,q)::r,done,h,i,p,hm,hl=>by
  simp only[Jz]at h;cases ho:ops[j]? with
  | none=>rw[ho]at h;cases h
  | some o=>
   rw[ho]at h;simp only[CD,ZJ,qy]at h;rcases QF.1 hm with h1|h1
   ·cases h1;cases q with
    | false=>rfl
    | true=>have:=h.1.2;simp only[ZJ,qy,hl]at this;cases this.1
   ·exact ta h.2 i p h1 hl
def y7(l:List (Nat × Bool)):List En:=l.map λx=>(x.1,x.2,none)
def fq:∀l:List (Nat × Bool),XG (y7 l)=l
 | []=>rfl
 | x::r=>congrArg (x::·) (fq r)
def tc:∀l,early (y7 l)=[]
 | []=>rfl
 | (_,_)::r=>tc r
def ft:∀l,blocks (y7 l)=[]
 | []=>rfl
 | (_,_)::r=>ft r
def td:∀l,XH (y7 l)=l.length
 | []=>rfl
 | (_,_)::r=>by show XH (y7 r)+1=_;rw[td r];rfl
def Ue{l}{i}{p}{q}(h:(i,p,q)∈y7 l):(i,p)∈l/\q=none:=by
 obtain⟨x,hx,e⟩:=Jn.1 h;cases e;exact⟨hx,rfl⟩
def te{L}(hL:ZR P L)(QX:base<=w0.w.heap.size){id}{ops}{Q}{s:St}(hm:P.follows .mixedOrders=true)(l:List (Nat × Bool))(R:List Nat)(hB:Bo nc L ops l R=true)(hU:y6 ops s.fr=true)(h:AX P base nt w0 (CI nc P base nt w0 ops (λs=>Q .normal s) R.length R (l.map (·.1))) (KV nc ops l) s):A P base nt w0 (.region id ops true) Q s:=by
 intro Z z pl a w r b;simp only[Bo,ZJ]at hB;obtain⟨⟨⟨⟨⟨⟨⟨b1,b2⟩,b3⟩,b4⟩,b5⟩,b6⟩,b7⟩,b8⟩:=hB;obtain⟨c1,c2⟩:=Uc b7;have hlen:=NJ b2;have M:Marks ops (Array.replicate ops.size false) []:=⟨by simp,λj hj=>by simp[hj],λj=>by
  rcases A3 j ops.size with h'|h'
  ·simp[h']
  ·simp[h'],λj hj=>by cases hj⟩
 have b':Kv Z base w0 s.h pl { w with drawn:=w.drawn+1 }:=⟨⟨b.1.os,b.1.tape,b.1.output,b.1.size,b.1.block⟩,⟨b.2.1.Kj,b.2.1.obj,b.2.1.shape⟩,⟨b.2.2.new,b.2.2.own⟩⟩;have I:wj nc P L ops R base nt w0 Z Z (y7 l) [] (Array.replicate ops.size false) s pl a { w with drawn:=w.drawn+1 }:=by
  refine⟨by rw[fq];exact b4,λj hj _=>?_,λj hj=>⟨by simp,by have:=(c2 j hj).1;simpa[WW,y7] using this,(c2 j hj).2⟩,by rw[tc];exact M,λi p b h=>?_,λi p q h hl=>ta b4 i p (Ue h).1 hl,λb=>by rw[ft];simp,λi p b h=>?_,by rw[ft];exact List.nodup_nil,λi p q h hl o d ho hd=>Ql4 hU i o d hl ho hd,r.ext λ_ _=>rfl,b',λi p b h=>?_⟩
  ·have:=sC b3 j hj;simpa[WW,y7] using this
  ·cases (Ue h).2
  ·cases (Ue h).2
  ·cases (Ue h).2
 have:=QlV hL b1 QX (Ql2 b5) (Ql5 hL b6) c1 b8 _ (y7 l) [] _ s pl a _ Z (QD _) I (λj=>by simp[WW,y7]) (by rw[fq];exact h);rw[td,hlen]at this;exact wp_region_any hm (TJ (λa w hn=>hn) _ _ _ _ this)
def Ql6{L}(hL:ZR P L)(QX:base<=w0.w.heap.size){id}{ops}{Q}{s:St}(hm:P.follows .mixedOrders=true)(l)(hB:Ud L ops l=true)(hU:y6 ops s.fr=true)(h:AX P base nt w0 (λs=>Q .normal s) (KV [] ops l) s):A P base nt w0 (.region id ops true) Q s:=
 te hL QX hm l [] hB hU h
def Ql7{L}(hL:ZR P L)(QX:base<=w0.w.heap.size){id}{ops}{Q}{k}{s:St}(hm:P.follows .mixedOrders=true)(l)(hB:Ud L ops l=true)(hU:y6 ops s.fr=true)(h:AX P base nt w0 (λs=>Qw P base nt w0 Q k .normal s) (KV [] ops l) s):Qw P base nt w0 Q (.code (.region id ops true)::k) .normal s:=by
 simp only[Qw];exact Ql6 hL QX hm l hB hU h
def tf{L}(hL:ZR P L)(QX:base<=w0.w.heap.size){id}{ops}{Q}{k}{s:St}(hm:P.follows .mixedOrders=true)(l:List (Nat × Bool))(R:List Nat)(hB:Bo nc L ops l R=true)(hU:y6 ops s.fr=true)(h:AX P base nt w0 (CI nc P base nt w0 ops (λs=>Qw P base nt w0 Q k .normal s) R.length R (l.map (·.1))) (KV nc ops l) s):Qw P base nt w0 Q (.code (.region id ops true)::k) .normal s:=by
 simp only[Qw];exact te hL QX hm l R hB hU h
end
section
variable (P:Program)(base:Nat)(w0:Start)(X:Cx)(nt:Nat)
def GS(pu:Bool)(o:Oper)(F:St->Prop)(stop:Prop)(s:St):Prop:=match wc X s o.op with
 | some (p,d)=>p/\Zr nt o.dst=true/\F ⟨Zj s.fr o.dst d,s.h⟩
 | none=>match pu with
  | true=>False
  | false=>match xH X s o.op with
   | some (p,h,d)=>p/\Zr nt o.dst=true/\F ⟨Zj s.fr o.dst d,h⟩
   | none=>stop
def xK(K:St->Prop):List (Bool × Oper × G)->St->Prop
 | [],s=>K s
 | (pu,o,g)::r,s=>match g with
  | none=>GS X nt pu o (xK K r) (AX P base nt w0 K ((pu,o,none)::r) s) s
  | some (none,_)=>Zr nt o.dst=true/\xK K r ⟨Zj s.fr o.dst (.raw Go.undef),s.h⟩
  | some (some t,b)=>match get s.fr t with
   | .raw (.bool x)=>(Cy b x=true->GS X nt pu o (xK K r) (AX P base nt w0 K ((pu,o,none)::r) ⟨put s.fr t (.raw (.bool b)),s.h⟩) ⟨put s.fr t (.raw (.bool b)),s.h⟩) /\
     (Cy b x=false->Zr nt o.dst=true/\xK K r ⟨Zj (put s.fr t (.raw (.bool (!b)))) o.dst (.raw Go.undef),s.h⟩)
   | .raw (.tuple _)=>Zr nt o.dst=true/\xK K r ⟨Zj s.fr o.dst (.raw Go.undef),s.h⟩
   | _=>False
end
section
variable {nc:List Nat}{P:Program}{base nt:Nat}{w0:Start}
def Ql8{X}(hX:Y0 P X)(QX:base<=w0.w.heap.size){pu}{o}{F F'}{stop}{s}(hF:∀s,F s->F' s)(Ql9:stop->WI P base nt w0 pu o F' s)(h:GS X nt pu o F stop s):WI P base nt w0 pu o F' s:=by
 unfold GS at h;split at h
 ·rename_i p d hp;have ok:=r9 (P:=P) (base:=base) (nt:=nt) hX hp h.1;have hk:=hF _ h.2.2;cases pu with
  | true=>
   refine⟨d,ok,λOD=>?_,h.2.1,hk⟩;unfold Bl at OD;split at OD
   ·rename_i t x ho;simp only[wc,ho]at hp;exact pY hX.L ho hp h.1
   ·cases OD
  | false=>
   have hl:Y8 o=false:=by
    cases hl:Y8 o with
    | false=>rfl
    | true=>
     unfold Y8 at hl;cases ho:o.op<;>rw[ho]at hl<;>first|cases hl|skip
     all_goals
      rw[ho]at hp;simp[wc]at hp
   simp only[WI,hl];intro Z z pl a w r b;obtain⟨v,hv,Q5⟩:=ok Z pl a w r;unfold Oper.wp;rw[Q5 w λ_ _=>rfl];simp only[Oper.upon_value];refine⟨.ext (Ext.refl _),_,_,pl,v,hk,?_,b,Tr.refl _ _ _,rfl⟩;cases hd:o.dst with
   | none=>exact r
   | some t=>have ht:=h.2.1;rw[hd]at ht;exact r.to (Tr.ext r.o λ_ _=>rfl) r.o (jf ht) hv
 ·split at h
  ·exact h.elim
  ·split at h
   ·rename_i p h' d hp;have ok:=sb (P:=P) (base:=base) (nt:=nt) hX hp h.1;have hk:=hF _ h.2.2;have ht:=h.2.1;cases hl:Y8 o with
    | true=>
     unfold Y8 at hl;cases ho:o.op<;>rw[ho]at hl<;>first|cases hl|skip
     ·rename_i t;simp only[ho,xH]at hp;split at hp
      ·rename_i y hy;simp only[QV,Q4]at hp;obtain⟨_,rfl,rfl⟩:=hp;have hl:Y8 o=true:=by simp[Y8,ho]
       simp only[WI,hl];exact⟨_,_,sG hX.L ho hy,ht,hk⟩
      ·cases hp
     ·rename_i t rz;cases rz with
      | some x=>cases hl
      | none=>
       simp only[ho,xH]at hp;have hq:∃q,h'=s.h++[QM q 0 []]/\d=.mref s.h.length 0:=by
        unfold IS at hp;split at hp
        ·split at hp;all_goals
          simp only[QV,Q4]at hp;obtain⟨_,rfl,rfl⟩:=hp;exact⟨_,rfl,rfl⟩
        ·cases hp
       obtain⟨q,rfl,rfl⟩:=hq;have hl:Y8 o=true:=by simp[Y8,ho]
       simp only[WI,hl];exact⟨_,_,sH ho q,ht,hk⟩
    | false=>
    simp only[WI,hl];intro Z z pl a w r b;have th:Bm o=false:=by
     cases hi:Bm o with
     | false=>rfl
     | true=>
      unfold Bm at hi;split at hi
      ·rename_i ho;simp[xH,ho]at hp
      ·cases hi
    obtain⟨v,w',Qj,Q5,hT,hO,hv,hb,GL⟩:=ok Z pl a w r (Kz QX b.1.size);have fin:∀u,u=v->Rel Z base nt ⟨Zj s.fr o.dst d,h'⟩ Qj (a.put o.dst u) w':=by
     rintro u rfl;cases hd:o.dst with
     | none=>exact r.xo hT hO u
     | some t=>rw[hd]at ht;exact r.to hT hO (jf ht) hv
    unfold Oper.wp;rcases Q5 with Q5|⟨Q5,hu⟩
    ·rw[Q5];simp only[Oper.upon_value];exact⟨.mk (λhc=>GL (by simp only[CC,ZJ]at hc;exact hc.1)) th,_,_,Qj,_,hk,fin v rfl,b.step hT hb,hT,rfl⟩
    ·rw[Q5];simp only[Oper.upon_skip];exact⟨.mk (λhc=>GL (by simp only[CC,ZJ]at hc;exact hc.1)) th,_,_,Qj,_,hk,fin _ hu.symm,b.step hT hb,hT,rfl⟩
   ·exact Ql9 h
def CK{X}(hX:Y0 P X)(QX:base<=w0.w.heap.size){K}:∀(l:List (Bool × Oper × G)) (s:St),xK P base w0 X nt K l s->AX P base nt w0 K l s
 | [],s,h=>h
 | (pu,o,g)::r,s,h=>by
  have st:∀s,GS X nt pu o (xK P base w0 X nt K r) (AX P base nt w0 K ((pu,o,none)::r) s) s->WI P base nt w0 pu o (AX P base nt w0 K r) s:=λs hh=>
   Ql8 hX QX (λs=>CK hX QX r s) (λh=>h) hh
  simp only[xK]at h;simp only[AX];split at h
  ·exact st s h
  ·exact⟨h.1,CK hX QX r _ h.2⟩
  ·rename_i t b;split at h
   ·rename_i x hx;simp only[sf,zY,zX,ne_eq]at h;refine⟨λe=>st _ (h.1 e),λe=>?_⟩;have:=h.2 (by rw[e];cases b<;>simp);exact⟨this.1,CK hX QX r _ this.2⟩
   ·exact⟨h.1,CK hX QX r _ h.2⟩
   ·exact h.elim
def W9(d':D):D->Prop
 | .imm z n r=>match d' with
  | .imm z' n' r'=>z'=z/\n'=n/\∀i,i<n->r' i=r i
  | _=>False
 | .raw v=>d'=.raw v
 | .nil=>d'=.nil
 | .undef=>d'=.undef
 | .ip c=>d'=.ip c
 | .ref l g o n=>d'=.ref l g o n
 | .ptr l g i j=>d'=.ptr l g i j
 | .mref l g=>d'=.mref l g
 | .clo f n c=>d'=.clo f n c
 | .agg c=>d'=.agg c
 | .tup c=>d'=.tup c
def VL:List D->List D->Prop
 | [],[]=>True
 | d'::r',d::r=>W9 d' d/\VL r' r
 | _,_=>False
def Qma{N}{w}{d' d}{v}(h:W9 d' d)(c:Cl N w d' v):Cl N w d v:=by
 cases d<;>simp only[W9]at h;case imm z n r=>
  split at h
  ·obtain⟨rfl,rfl,h⟩:=h;cases c with
   | imm _ _ _ a cap b o vs ha hl hs hc hr=>
    exact .imm _ _ _ a cap b o vs ha hl (λi hi=>by rw[<- h i hi];exact hs i hi) hc (λi j hi hj=>by rw[<- h i hi];exact hr i j hi hj)
  ·exact h.elim
 all_goals subst h;exact c
def tj:∀{cs' cs:List D},VL cs' cs->cs'.length=cs.length/\∀i,i<cs.length->W9 (nth cs' i) (nth cs i)
 | [],[],_=>⟨rfl,λi hi=>by simp at hi⟩
 | [],_::_,h=>h.elim
 | _::_,[],h=>h.elim
 | d'::r',d::r,h=>by
  obtain⟨h1,h2⟩:=tj h.2;refine⟨by simp[h1],λi hi=>?_⟩;cases i with
  | zero=>exact h.1
  | succ i=>have:=h2 i (by simpa using hi);simpa[nth] using this
def Qmb{Z}{h}{pl}{w}{d' d}{v}(e:W9 d' d)(r:QA Z h pl w d' v):QA Z h pl w d v:=by
 cases d<;>simp only[W9]at e;case imm z n r0=>
  split at e
  ·cases r with
   | cl _ _ hc=>exact .cl _ _ (Qma (d:=.imm z n r0) (by simpa only[W9] using e) hc)
  ·exact e.elim
 all_goals subst e;exact r
def MFn.args{P}{f}{F}{cs' cs}{R}(h:MFn P f F cs R)(e:VL cs' cs):MFn P f F cs' R:=λZ base w pl vs h1 h2 h3 hl hc=>by
 obtain⟨e1,e2⟩:=tj e;exact h Z base w pl vs h1 h2 h3 (by omega) λi hi=>Qmb (e2 i hi) (hc i (by omega))
def Zh.args{P}{f}{cs' cs}{R}(h:Zh P f cs R)(e:VL cs' cs):Zh P f cs' R:=MFn.args h e
def KB(QX:base<=w0.w.heap.size){K}{dst}{ty:TypeId}{pos}{after}{gd}{r}{s}{x}{args}{ZO:Array TypeId}{f}{nf}{Qz}(hf:Qq P f)
  (hx:J4 (Qr s.fr x)=some (f,nf,Qz)) {cs:List D} (Jp:match jh (WH s.h 4) (Jj nf Qz (args.toList.map (Qr s.fr))) with|some (p,cs')=>p/\VL cs' cs|none=>False) {R:D->List Ob->Prop} (hF:Zh P f cs R)
  (GH:∀d h,R d h->d.flat=true/\∀o∈h,o.flat) (ht:Zr nt dst=true) (hk:∀d h,R d h->AX P base nt w0 K r ⟨Zj s.fr dst (d.shift s.h.length),s.h++h.map (Ob.shift s.h.length)⟩) :
  AX P base nt w0 K ((false,⟨dst,.call ⟨.value x,args,ZO⟩,ty,pos,after,gd⟩,none)::r) s:=by
 simp only[AX,WI,Y8];intro Z z pl a w rr b;split at Jp
 ·rename_i p cs' hc;obtain⟨hp,he⟩:=Jp;have hF:=hF.args he;refine Oper.wp_mono (λa' w' ⟨he,d,h,Qj,hR,r',b',T,v,e⟩=>⟨λ_=>he,_,_,Qj,v,hk d h hR,r',b',T,e⟩) (ss QX hf rfl hx hc hp hF GH ht pl a w rr b _)
 ·exact Jp.elim
def ZA(QX:base<=w0.w.heap.size){Q}{k}{dst}{ty:TypeId}{pos}{after}{gd}{r}{s}{x}{args}{ZO:Array TypeId}{f}{nf}{Qz}(hf:Qq P f)
  (hx:J4 (Qr s.fr x)=some (f,nf,Qz)) {cs:List D} (Jp:match jh (WH s.h 4) (Jj nf Qz (args.toList.map (Qr s.fr))) with|some (p,cs')=>p/\VL cs' cs|none=>False) {R:D->List Ob->Prop} (hF:Zh P f cs R)
  (GH:∀d h,R d h->d.flat=true/\∀o∈h,o.flat) (ht:Zr nt dst=true) (hk:∀d h,R d h->Qw P base nt w0 Q (.ops r::k) .normal ⟨Zj s.fr dst (d.shift s.h.length),s.h++h.map (Ob.shift s.h.length)⟩) :
  Qw P base nt w0 Q (.ops ((⟨dst,.call ⟨.value x,args,ZO⟩,ty,pos,after,gd⟩,none)::r)::k) .normal s:=by
 simp only[Qw]at hk ⊢;split at Jp
 ·rename_i p cs' hc;obtain⟨hp,he⟩:=Jp;have hF:=hF.args he;exact Qlw QX hf rfl hx hc hp hF GH ht hk
 ·exact Jp.elim
end
section
variable {nc:List Nat}{P:Program}{base nt:Nat}{w0:Start}
def WI.mono{pu}{o}{F F'}(hF:∀s,F s->F' s){s}(h:WI P base nt w0 pu o F s):WI P base nt w0 pu o F' s:=by
 cases pu with
 | true=>obtain⟨d,h1,h2,h3,h4⟩:=h;exact⟨d,h1,h2,h3,hF _ h4⟩
 | false=>
  simp only[WI]at h ⊢;split at h
  ·obtain⟨ob,mk,h1,h2,h3⟩:=h;exact⟨ob,mk,h1,h2,hF _ h3⟩
  intro Z z pl a w r b;exact Oper.wp_mono (λa' w' ⟨he,d,h',Qj,v,h1,h2⟩=>⟨he,d,h',Qj,v,hF _ h1,h2⟩) (h Z z pl a w r b)
def AX.mono{K K'}(hK:∀s,K s->K' s):∀(l:List (Bool × Oper × G)) (s:St),AX P base nt w0 K l s->AX P base nt w0 K' l s
 | [],s,h=>hK s h
 | (pu,o,g)::r,s,h=>by
  simp only[AX]at h ⊢;split at h
  ·exact WI.mono (AX.mono hK r) h
  ·exact⟨h.1,AX.mono hK r _ h.2⟩
  ·split at h
   ·exact⟨λe=>WI.mono (AX.mono hK r) (h.1 e),λe=>⟨(h.2 e).1,AX.mono hK r _ (h.2 e).2⟩⟩
   ·exact⟨h.1,AX.mono hK r _ h.2⟩
   ·exact h.elim
end
end Go.Fg
namespace Go.Fg
attribute [go_sem_proc] reduceIte reduceDIte dreduceIte dreduceDIte reduceCtorEq List.reduceReplicate Nat.reduceAdd Nat.reduceSub Nat.reduceMul Nat.reduceBEq Nat.reduceLT Nat.reduceGT Nat.reduceLeDiff Nat.reduceEqDiff Nat.reduceBneDiff Nat.reduceBeqDiff Nat.reduceSubDiff Nat.reduceBNe Nat.reduceDiv Nat.reduceMod Nat.reduceSucc Nat.reducePow Nat.reduceDvd Int.reduceToNat Int.reduceLE Int.reduceLT Int.reduceGT Int.reduceGE Int.reduceEq Int.reduceNe Int.reduceAdd Int.reduceSub Int.reduceMul Int.reduceNeg Int.reduceDiv Int.reduceMod Int.reducePow Int.reduceBEq Int.reduceBNe Int.reduceOfNat Int.reduceNegSucc Int.reduceNatCast Int.reduceNatCast' Int.reduceAbs Int.reduceDvd
def Kw{α:Sort _}{a b:α}(h:a=b):a=b:=h
@[go_sem] theorem QCf(a b:Nat):Nat.beq a b=(a==b):=by
 rw[kG];simp[Vz]
@[go_sem] theorem Qmc(a b):Nat.blt a b=decide (a<b):=by
 rw[kG];simp[kN]
@[go_sem] theorem GU(a b:Nat):Nat.ble a b=decide (a<=b):=by
 rw[kG];simp[Gi]
def hx(P:Program)(base:Nat)(w0:Start)(Q:Exit->St->Prop)(X:Cx)(nt n:Nat)(k:List Item)(s:St):Prop:=(exec X nt n k s).holds P base nt w0 Q
def hz(P:Program)(base:Nat)(w0:Start)(Q:Exit->St->Prop)(X:Cx)(nt n:Nat)(k:List Item)(s:St):Prop:=hx P base w0 Q X nt n k s
def VZ(b:Bool)(A B:Prop):Prop:=(b=true->A)/\(b=false->B)
def Js(b:Bool)(A:Prop):Prop:=b=true/\A
section
variable {P:Program}{base:Nat}{w0:Start}{Q:Exit->St->Prop}{X:Cx}{nt n:Nat}{k:List Item}{s:St}
@[go_sem ↓] theorem QCg{B}:VZ true (hz P base w0 Q X nt n k s) B=hx P base w0 Q X nt n k s:=by simp[VZ,hz]
@[go_sem ↓] theorem QCh{A}:VZ false A (hz P base w0 Q X nt n k s)=hx P base w0 Q X nt n k s:=by simp[VZ,hz]
def vg{b}{k'}{s'}(h1:b=true->hx P base w0 Q X nt n k s)(h2:b=false->hx P base w0 Q X nt n k' s'):VZ b (hz P base w0 Q X nt n k s) (hz P base w0 Q X nt n k' s'):=⟨h1,h2⟩
@[go_sem] theorem QCi:hx P base w0 Q X nt (n+1) [] s=Q .normal s:=Kw rfl
@[go_sem] theorem QCj{id}:hx P base w0 Q X nt (n+1) (.inBlock id::k) s=hx P base w0 Q X nt n k s:=Kw rfl
@[go_sem] theorem QCk:hx P base w0 Q X nt (n+1) (.code .skip::k) s=hx P base w0 Q X nt n k s:=Kw rfl
@[go_sem] theorem QCl{l}:hx P base w0 Q X nt (n+1) (.code (.label l)::k) s=hx P base w0 Q X nt n k s:=Kw rfl
@[go_sem] theorem QCm{a b}:hx P base w0 Q X nt (n+1) (.code (.seq a b)::k) s=hx P base w0 Q X nt n (.code a::.code b::k) s:=Kw rfl
@[go_sem] theorem QCn{id}{c}:hx P base w0 Q X nt (n+1) (.code (.block id c)::k) s=hx P base w0 Q X nt n (.code c::.inBlock id::k) s:=Kw rfl
@[go_sem] theorem QCo:hx P base w0 Q X nt (n+1) (.inScope::k) s=hx P base w0 Q X nt n k s:=Kw rfl
@[go_sem] theorem QCp{c}:hx P base w0 Q X nt (n+1) (.code (.scope c)::k) s=hx P base w0 Q X nt n (.code c::.inScope::k) s:=Kw rfl
@[go_sem] theorem QCq{c}{a b}:hx P base w0 Q X nt (n+1) (.code (.cond c a b)::k) s=(match Qr s.fr c with
  | .raw (.bool x)=>VZ x (hz P base w0 Q X nt n (.code a::k) s) (hz P base w0 Q X nt n (.code b::k) s)
  | _=>False):=by
 simp only[hx,exec];generalize Qr s.fr c=d;cases d with
 | raw v=>cases v<;>rfl
 | _=>rfl
@[go_sem] theorem QCr{id}:hx P base w0 Q X nt (n+1) (.code (.exit id)::k) s=(match zd id k with
  | some k'=>hx P base w0 Q X nt n k' s
  | none=>Q (.exit id) s):=by
 simp only[hx,exec];generalize zd id k=r;cases r<;>rfl
@[go_sem] theorem QCs:hx P base w0 Q X nt (n+1) (.code .ret::k) s=Q .ret s:=Kw rfl
@[go_sem] theorem QCt{id}{ops}:hx P base w0 Q X nt (n+1) (.code (.region id ops false)::k) s=hx P base w0 Q X nt n (.ops (yX ops)::k) s:=Kw rfl
@[go_sem] theorem QCu{id}{ops}:hx P base w0 Q X nt (n+1) (.code (.region id ops true)::k) s=Qw P base nt w0 Q (.code (.region id ops true)::k) .normal s:=Kw rfl
@[go_sem] theorem QCv{c}:hx P base w0 Q X nt (n+1) (.code (.loop c)::k) s=Qw P base nt w0 Q (.code (.loop c)::k) .normal s:=Kw rfl
@[go_sem] theorem QCw:hx P base w0 Q X nt (n+1) (.ops []::k) s=hx P base w0 Q X nt n k s:=Kw rfl
@[go_sem ↓] theorem QCx{A}:Js true A=A:=by simp[Js]
@[go_sem] theorem QCy{o:Oper}{r}:hx P base w0 Q X nt (n+1) (.ops ((o,none)::r)::k) s=(match wc X s o.op with
  | some (p,d)=>p/\(match Zr nt o.dst with|true=>hx P base w0 Q X nt n (.ops r::k) ⟨Zj s.fr o.dst d,s.h⟩|false=>False)
  | none=>match xH X s o.op with
   | some (p,h,d)=>p/\(match Zr nt o.dst with|true=>hx P base w0 Q X nt n (.ops r::k) ⟨Zj s.fr o.dst d,h⟩|false=>False)
   | none=>Qw P base nt w0 Q (.ops ((o,none)::r)::k) .normal s):=by
 simp only[hx,exec];generalize wc X s o.op=r1;generalize xH X s o.op=r2;cases r1 with
 | some pd=>cases Zr nt o.dst<;>simp[Tree.holds]
 | none=>cases r2 with
  | some phd=>cases Zr nt o.dst<;>simp[Tree.holds]
  | none=>rfl
def tm{o:Oper}{t}{b}{r}(ht:Zr nt o.dst=true):hx P base w0 Q X nt (n+1) (.ops ((o,some (some t,b))::r)::k) s=(match get s.fr t with
  | .raw (.bool x)=>VZ (Cy b x) (hz P base w0 Q X nt n (.ops ((o,none)::r)::k) ⟨put s.fr t (.raw (.bool b)),s.h⟩) (hz P base w0 Q X nt n (.ops r::k) ⟨Zj (put s.fr t (.raw (.bool (!b)))) o.dst (.raw Go.undef),s.h⟩)
  | .raw (.tuple _)=>hx P base w0 Q X nt n (.ops r::k) ⟨Zj s.fr o.dst (.raw Go.undef),s.h⟩
  | _=>False):=by
 simp only[hx,exec];generalize get s.fr t=d;cases d with
 | raw v=>
  cases v with
  | bool x=>simp[VZ,hz,hx,ht,Tree.holds]
  | tuple vs=>simp[ht]
  | _=>rfl
 | _=>rfl
@[go_sem] theorem QCz{o:Oper}{t}{r}(ht:Zr nt o.dst=true):hx P base w0 Q X nt (n+1) (.ops ((o,some (some t,true))::r)::k) s=(match get s.fr t with
  | .raw (.bool x)=>VZ x (hz P base w0 Q X nt n (.ops ((o,none)::r)::k) ⟨put s.fr t (.raw (.bool true)),s.h⟩) (hz P base w0 Q X nt n (.ops r::k) ⟨Zj (put s.fr t (.raw (.bool false))) o.dst (.raw Go.undef),s.h⟩)
  | .raw (.tuple _)=>hx P base w0 Q X nt n (.ops r::k) ⟨Zj s.fr o.dst (.raw Go.undef),s.h⟩
  | _=>False):=tm ht
@[go_sem] theorem QCA{o:Oper}{t}{r}(ht:Zr nt o.dst=true):hx P base w0 Q X nt (n+1) (.ops ((o,some (some t,false))::r)::k) s=(match get s.fr t with
  | .raw (.bool x)=>VZ x (hz P base w0 Q X nt n (.ops r::k) ⟨Zj (put s.fr t (.raw (.bool true))) o.dst (.raw Go.undef),s.h⟩) (hz P base w0 Q X nt n (.ops ((o,none)::r)::k) ⟨put s.fr t (.raw (.bool false)),s.h⟩)
  | .raw (.tuple _)=>hx P base w0 Q X nt n (.ops r::k) ⟨Zj s.fr o.dst (.raw Go.undef),s.h⟩
  | _=>False):=by
 rw[tm ht];generalize get s.fr t=d;cases d with
 | raw v=>
  cases v with
  | bool x=>cases x<;>simp[VZ,Cy]
  | _=>rfl
 | _=>rfl
end
section
variable {P:Program}{base nt:Nat}{w0:Start}{Q:Exit->St->Prop}{k:List Item}{s:St}{I:Nat->St->Prop}{m:Nat}
@[go_sem] theorem QCB{e}:Qw P base nt w0 Q [] e s=Q e s:=Kw rfl
@[go_sem] theorem QCC{x}:Qw P base nt w0 Q (x::k) .ret s=Qw P base nt w0 Q k .ret s:=by cases x<;>rfl
@[go_sem] theorem QCD{c}{j}:Qw P base nt w0 Q (.code c::k) (.exit j) s=Qw P base nt w0 Q k (.exit j) s:=Kw rfl
@[go_sem] theorem QCE{l}{j}:Qw P base nt w0 Q (.ops l::k) (.exit j) s=Qw P base nt w0 Q k (.exit j) s:=Kw rfl
@[go_sem] theorem QCF{id}:Qw P base nt w0 Q (.inBlock id::k) (.exit id) s=Qw P base nt w0 Q k .normal s:=by simp[Qw]
@[go_sem] theorem QCG{id j}(h:(j==id)=false):Qw P base nt w0 Q (.inBlock id::k) (.exit j) s=Qw P base nt w0 Q k (.exit j) s:=by
 have:¬ j=id:=by simpa using h
 simp[Qw,this]
@[go_sem] theorem QCH{id}:Qw P base nt w0 Q (.inBlock id::k) .normal s=Qw P base nt w0 Q k .normal s:=Kw rfl
@[go_sem] theorem QCI{j}:Qw P base nt w0 Q (.inScope::k) (.exit j) s=Qw P base nt w0 Q k (.exit j) s:=Kw rfl
@[go_sem] theorem QCJ:Qw P base nt w0 Q (.inScope::k) .normal s=Qw P base nt w0 Q k .normal s:=Kw rfl
@[go_sem] theorem QCK:TG P base nt w0 Q k I m .normal s=∃m' s',m'<m/\QI w0 s s'/\I m' s':=Kw rfl
@[go_sem] theorem QCL{j}:TG P base nt w0 Q k I m (.exit j) s=Qw P base nt w0 Q k (.exit j) s:=Kw rfl
@[go_sem] theorem QCM:TG P base nt w0 Q k I m .ret s=Qw P base nt w0 Q k .ret s:=Kw rfl
end
attribute [go_sem] yX guardOf strip Qr get put Zj Zr XB JM wc xH zd Cy
 SL SG SH SI SJ Em Eo SK dJ IntKind.same Gr mk TK.agg IG SM SN II SO SP SQ SR
 xu yK setRow NZ N4 Bc S5 IP vX yQ S6 ja S9 Tf Cu Gy cat jc YZ nth D.there J2 ei
 Jj jh WH J4 Cz one EL D.shift wh Ob.shift wi D.Y6 D.flat EM D.upto y0 EP GK Bj yZ IX Kd.Gl Kd.ty Kd.ro Kd.Oq Kd.toRo
attribute [go_sem] Jz List.map_nil List.getElem?_toArray List.getElem?_cons_zero List.getElem?_cons_succ List.getElem?_nil SB Option.bind_none Kt YU Vu List.length_nil XW YT Zd
 List.all_cons List.all_nil List.take_zero List.take_succ_cons List.take_nil List.drop_zero List.drop_succ_cons List.drop_nil List.set_cons_zero List.set_cons_succ List.getD_cons_zero List.getD_cons_succ List.replicate_zero Sp List.flatten_cons List.flatten_nil
 jQ qB Ca Gb Bool.and_true Iq Bool.and_false Ga Bool.or_true Bool.true_or Bool.or_false NA ID decide_true decide_false xl and_true false_and and_false
 implies_true forall_const reduceCtorEq List.toList_toArray Int.toNat_natCast Int.natCast_nonneg Int.ofNat_lt Int.ofNat_le Int.ofNat_inj JG Gh QD JQ QV Q4
def Bp{P}{base nt}{w0:Start}{Q}{X}(hX:Y0 P X)(hb:base<=w0.w.heap.size)(n){k}{s}(h:hx P base w0 Q X nt n k s):Qw P base nt w0 Q k .normal s:=jg hX hb n k s h
def Uf{P:Program}{X}(hX:Y0 P X){f}{fn:Func}{c}(n)(hf:P.funcs[f]? = some fn)(hb:fn.body=some c){args:List D}{R}{nt}{rs}(kW:fn.ntmps=nt)(zf:fn.results=rs)(hn:Nat.ble args.length nt=true)
  (h:∀(base:Nat) (w:World),base<=w.heap.size->hx P base ⟨w,[],[]⟩ (EL X.L rs.toList R) X nt n [.code c] ⟨wi args 0,[]⟩):Zh P f args R:=
 sx hX n hf hb kW (Sz hn) (by
  subst zf;intro base w pl hb hl;cases pl with
  | nil=>exact h base w hb
  | cons _ _=>simp at hl)
def QU{P:Program}{X}(hX:Y0 P X){f}{fn:Func}{c}(n)(hf:P.funcs[f]? = some fn)(hb:fn.body=some c){F}{args:List D}{R}{nt}{rs}(kW:fn.ntmps=nt)(zf:fn.results=rs)(hn:Nat.ble args.length nt=true)
  (h:∀(base:Nat) (w:World) (pl:List Pl),base<=w.heap.size->hx P base ⟨w,F,pl⟩ (EL X.L rs.toList R) X nt n [.code c] ⟨wi args 0,F⟩):MFn P f F args R:=
 sx hX n hf hb kW (Sz hn) (by subst zf;exact λbase w pl hb _=>h base w pl hb)
def Ze.take{Z}{base}{h:List Ob}{pl:List Pl}{w}(R:Ze Z base h pl w)(k)(h2:Bj k (h.take k)):Ze Z base (h.take k) (pl.take k) w:=by
 have Zf:∀(l:Nat) (p:Pl),(pl.take k)[l]? = some p->pl[l]? = some p:=λl p e=>by
  rw[W5]at e;split at e
  ·exact e
  ·cases e
 have hh:∀(l:Nat) (o:Ob),(h.take k)[l]? = some o->h[l]? = some o:=λl o e=>by
  rw[W5]at e;split at e
  ·exact e
  ·cases e
 refine⟨by simp[R.len],λl l' b q q' e1 e2=>R.inj l l' b q q' (Zf _ _ e1) (Zf _ _ e2),λl o ho hp=>R.Vv l o (hh _ _ ho) (Zf _ _ hp),λl o b q ho hp=>?_⟩;obtain⟨g1,x⟩:=R.at_ l o b q (hh _ _ ho) (Zf _ _ hp);exact⟨g1,x.to rfl rfl rfl rfl (λ_ _=>rfl) λi j v hi hj hr=>hr.take (IY (fa h2 l o ho i hi) j hj)⟩
def Kept(k:Nat)(R:D->List Ob->Prop)(d:D)(h:List Ob):Prop:=d.upto k=true/\Bj k (h.take k)/\R d (h.take k)
def Qme{pl:List Pl}{k b}(h:WU pl b):WU (pl.take k) b:=λl q e=>by
 rw[W5]at e;split at e
 ·exact h l q e
 ·cases e
def MFn.take{P}{f}{F:List Ob}{args}{R}(k)(hk:F.length<=k)(h:MFn P f F args (Kept k R)):MFn P f F args R:=λZ base w pl vs h1 h2 h3 hl hc=>
 (h Z base w pl vs h1 h2 h3 hl hc).mono λ_ _ ⟨v,d,hh,Qj,k1,⟨a1,a2,a3⟩,k3,k4,k5,k6⟩=>⟨v,d,hh.take k,Qj.take k,k1,a3,k3.take k a2,k4.take a1,
  k5.keep hk ⟨λ_ hb=>Qme hb,λl o p hl ho hp=>⟨o,by rw[W5,Qg hl];exact ho,by rw[W5,Qg hl];exact hp,rfl,rfl,rfl⟩⟩,k6⟩
def Zy(k){P:Program}{X}(hX:Y0 P X){f}{fn:Func}{c}(n)(hf:P.funcs[f]? = some fn)(hb:fn.body=some c){args:List D}{R}{nt}{rs}(kW:fn.ntmps=nt)(zf:fn.results=rs)(hn:Nat.ble args.length nt=true)
  (h:∀(base:Nat) (w:World),base<=w.heap.size->hx P base ⟨w,[],[]⟩ (EL X.L rs.toList (Kept k R)) X nt n [.code c] ⟨wi args 0,[]⟩):Zh P f args R:=
 MFn.take k (JQ _) (Uf hX n hf hb kW zf hn h)
attribute [go_sem] Kept
def tq{k}:∀{h h':List Ob},yZ h h'->Bj k h'->Bj k h
 | [],[],_,_=>trivial
 | [],_::_,h,_=>h.elim
 | _::_,[],h,_=>h.elim
 | _::_,_::_,h,h2=>⟨λi hi=>by rw[<- h.1.2.2.2.2 i hi];exact h2.1 i (by rw[h.1.2.2.1];exact hi),tq h.2 h2.2⟩
def Wk.to{m}(k){fr fr'}{h h':List Ob}(hw:EP fr fr'/\GK k fr'=true/\Bj k h'/\yZ (h.take k) h')(hm:m<=k:=by exact Sz rfl):Wk m ⟨fr,h⟩ ⟨fr',h'⟩:=
 Wk.trans (Wk.frame hw.1) (Wk.trans (Wk.drop k hm hw.2.1 (tq hw.2.2.2 hw.2.2.1)) (Wk.ER hw.2.2.2))
def QI.to{w0:Start}(k){fr fr'}{h h':List Ob}(hw:EP fr fr'/\GK k fr'=true/\Bj k h'/\yZ (h.take k) h')(hm:w0.F.length<=k:=by exact Sz rfl):QI w0 ⟨fr,h⟩ ⟨fr',h'⟩:=(Wk.to k hw hm).up
def QI.frame{w0}{fr fr'}{h}(hf:EP fr fr'):QI w0 ⟨fr,h⟩ ⟨fr',h⟩:=(Wk.frame hf).up
def QI.Ch{w0}{fr}{h:List Ob}(t sz)(row)(ht:get fr t=.nil):QI w0 ⟨fr,h⟩ ⟨put fr t (.ref h.length 0 0 0),h++[⟨.arr,0,sz,0,row⟩]⟩:=(Wk.Ch t sz row ht).up
def QCN{α:Type}[Inhabited α](sz:Nat)(enc:α->List D)(l:List α)(d:D)(h:List Ob):Prop:=∃g,d=.ref 0 g 0 l.length/\h=[⟨.arr,g,sz,l.length,λi=>enc (l.getD i default)⟩]
def Lm(P:Program)(base:Nat)(w0:Start)(Q:Exit->St->Prop)(X:Cx)(nt n:Nat)(k:List Item)(s:St):Prop:=hx P base w0 Q X nt n k s
def Kn(P:Program)(base:Nat)(w0:Start)(X:Cx)(nt:Nat)(K:St->Prop)(l:List (Bool × Oper × G))(s:St):Prop:=xK P base w0 X nt K l s
def qa(P:Program)(base:Nat)(w0:Start)(X:Cx)(nt:Nat)(K:St->Prop)(l:List (Bool × Oper × G))(s:St):Prop:=Kn P base w0 X nt K l s
section
variable {nc:List Nat}{P:Program}{base:Nat}{w0:Start}{Q:Exit->St->Prop}{X:Cx}{nt n:Nat}{k:List Item}{s:St}{l:List (Bool × Oper × G)}{K:St->Prop}
@[go_sem ↓] theorem QCO{B}:VZ true (qa P base w0 X nt K l s) B=Kn P base w0 X nt K l s:=by simp[VZ,qa]
@[go_sem ↓] theorem QCP{A}:VZ false A (qa P base w0 X nt K l s)=Kn P base w0 X nt K l s:=by simp[VZ,qa]
def ET{b}{l'}{s'}(h1:b=true->Kn P base w0 X nt K l s)(h2:b=false->Kn P base w0 X nt K l' s'):VZ b (qa P base w0 X nt K l s) (qa P base w0 X nt K l' s'):=⟨h1,h2⟩
@[go_sem] theorem QCQ:Kn P base w0 X nt K [] s=K s:=Kw rfl
@[go_sem] theorem QCR:Lm P base w0 Q X nt n k s=hx P base w0 Q X nt n k s:=Kw rfl
@[go_sem] theorem QCS{o:Oper}{r}:Kn P base w0 X nt K ((true,o,none)::r) s=(match wc X s o.op with
  | some (p,d)=>p/\(match Zr nt o.dst with|true=>Kn P base w0 X nt K r ⟨Zj s.fr o.dst d,s.h⟩|false=>False)
  | none=>False):=by
 simp only[Kn,xK,GS];generalize wc X s o.op=r1;cases r1 with
 | some pd=>cases Zr nt o.dst<;>simp
 | none=>rfl
@[go_sem] theorem QCT{o:Oper}{r}:Kn P base w0 X nt K ((false,o,none)::r) s=(match wc X s o.op with
  | some (p,d)=>p/\(match Zr nt o.dst with|true=>Kn P base w0 X nt K r ⟨Zj s.fr o.dst d,s.h⟩|false=>False)
  | none=>match xH X s o.op with
   | some (p,h,d)=>p/\(match Zr nt o.dst with|true=>Kn P base w0 X nt K r ⟨Zj s.fr o.dst d,h⟩|false=>False)
   | none=>AX P base nt w0 K ((false,o,none)::r) s):=by
 simp only[Kn,xK,GS];generalize wc X s o.op=r1;generalize xH X s o.op=r2;cases r1 with
 | some pd=>cases Zr nt o.dst<;>simp
 | none=>cases r2 with
  | some phd=>cases Zr nt o.dst<;>simp
  | none=>rfl
def tt{pu}{o:Oper}{t}{b}{r}(ht:Zr nt o.dst=true):Kn P base w0 X nt K ((pu,o,some (some t,b))::r) s=(match get s.fr t with
  | .raw (.bool x)=>VZ (Cy b x) (qa P base w0 X nt K ((pu,o,none)::r) ⟨put s.fr t (.raw (.bool b)),s.h⟩) (qa P base w0 X nt K r ⟨Zj (put s.fr t (.raw (.bool (!b)))) o.dst (.raw Go.undef),s.h⟩)
  | .raw (.tuple _)=>Kn P base w0 X nt K r ⟨Zj s.fr o.dst (.raw Go.undef),s.h⟩
  | _=>False):=by
 simp only[Kn,qa,xK];generalize get s.fr t=d;cases d with
 | raw v=>
  cases v with
  | bool x=>simp[VZ,ht]
  | tuple vs=>simp[ht]
  | _=>rfl
 | _=>rfl
@[go_sem] theorem QCU{pu}{o:Oper}{t}{r}(ht:Zr nt o.dst=true):Kn P base w0 X nt K ((pu,o,some (some t,true))::r) s=(match get s.fr t with
  | .raw (.bool x)=>VZ x (qa P base w0 X nt K ((pu,o,none)::r) ⟨put s.fr t (.raw (.bool true)),s.h⟩) (qa P base w0 X nt K r ⟨Zj (put s.fr t (.raw (.bool false))) o.dst (.raw Go.undef),s.h⟩)
  | .raw (.tuple _)=>Kn P base w0 X nt K r ⟨Zj s.fr o.dst (.raw Go.undef),s.h⟩
  | _=>False):=tt ht
@[go_sem] theorem QCV{pu}{o:Oper}{t}{r}(ht:Zr nt o.dst=true):Kn P base w0 X nt K ((pu,o,some (some t,false))::r) s=(match get s.fr t with
  | .raw (.bool x)=>VZ x (qa P base w0 X nt K r ⟨Zj (put s.fr t (.raw (.bool true))) o.dst (.raw Go.undef),s.h⟩) (qa P base w0 X nt K ((pu,o,none)::r) ⟨put s.fr t (.raw (.bool false)),s.h⟩)
  | .raw (.tuple _)=>Kn P base w0 X nt K r ⟨Zj s.fr o.dst (.raw Go.undef),s.h⟩
  | _=>False):=by
 rw[tt ht];generalize get s.fr t=d;cases d with
 | raw v=>
  cases v with
  | bool x=>cases x<;>simp[VZ,Cy]
  | _=>rfl
 | _=>rfl
def J8{id}{ops}(hX:Y0 P X)(hb:base<=w0.w.heap.size)(n)(hm:P.follows .mixedOrders=true)(l)(hB:Ud X.L ops l=true)(hU:y6 ops s.fr=true)(h:Kn P base w0 X nt (Lm P base w0 Q X nt n k) (KV [] ops l) s):Qw P base nt w0 Q (.code (.region id ops true)::k) .normal s:=
 Ql7 hX.L hb hm l hB hU (AX.mono (λs hs=>Bp hX hb n hs) _ _ (CK hX hb _ _ h))
def Qmf(hX:Y0 P X)(hb:base<=w0.w.heap.size)(h:Kn P base w0 X nt K l s):AX P base nt w0 K l s:=CK hX hb _ _ h
abbrev Bq:=Nat × Oper × G × List Nat
def GV:List Edge->List Nat
 | []=>[]
 | e::r=>bif Region.binds .any e then e.on::GV r else GV r
def zg(nc:List Nat)(ops:Array Oper):List Nat->List Bq
 | []=>[]
 | i::r=>match ops[i]? with
  | some o=>(i,X5 (Km i nc) o,guardOf ops o,GV o.after.toList)::zg nc ops r
  | none=>zg nc ops r
def Br(i:Nat):List Bq->List Bq
 | []=>[]
 | e::r=>bif Nat.beq e.1 i then Br i r else e::Br i r
def Lo(done:List Nat):List Nat->Bool
 | []=>true
 | i::r=>Km i done&&Lo done r
def OE(F:Bq->Prop):List Bq->Prop
 | []=>True
 | e::r=>F e/\OE F r
def CL(P:Program)(base:Nat)(w0:Start)(X:Cx)(nt:Nat)(K:St->Prop):Nat->List Bq->List Nat->St->Prop
 | 0,_,_,s=>K s
 | m+1,es,done,s=>OE (λe=>match Lo done e.2.2.2 with
  | true=>Kn P base w0 X nt (CL P base w0 X nt K m (Br e.1 es) (e.1::done)) [(false,e.2.1,e.2.2.1)] s
  | false=>True) es
def fu{done}:∀{l:List Edge},ji done l=false->Lo done (GV l)=true
 | [],_=>rfl
 | e::r,h=>by
  simp only[ji,Ea,F9,Bool.not_eq_false']at h;simp only[GV];cases hb:Region.binds .any e
  ·exact fu h.2
  ·simp only[jQ,Lo,ZJ];refine⟨h.1.resolve_left (by rw[hb];simp),fu h.2⟩
def tu{F}:∀{l:List Bq},OE F l->∀e∈l,F e
 | [],_,e,he=>by cases he
 | x::r,h,e,he=>by
  rcases QF.1 he with rfl|he
  ·exact h.1
  ·exact tu h.2 e he
def fv{ops:Array Oper}{i}{o:Oper}(ho:ops[i]? = some o):∀{R:List Nat},i∈R->(i,X5 (Km i nc) o,guardOf ops o,GV o.after.toList)∈zg nc ops R
 | [],h=>by cases h
 | j::r,h=>by
  simp only[zg];rcases QF.1 h with rfl|h
  ·rw[ho];exact Va ..
  ·split
   ·exact Ks _ (fv ho h)
   ·exact fv ho h
def Ug{ops}{i}:∀{R:List Nat},i ∉ R->Br i (zg nc ops R)=zg nc ops R
 | [],_=>rfl
 | j::r,h=>by
  simp only[QF,Yr]at h;simp only[zg];split
  ·simp only[Br];have:Nat.beq j i=false:=by rw[<- W3,Vz];exact λe=>h.1 e.symm
   rw[this,qB,Ug h.2]
  ·exact Ug h.2
def fw{ops}{i}:∀{R:List Nat},R.Nodup->Br i (zg nc ops R)=zg nc ops (R.erase i)
 | [],_=>rfl
 | j::r,h=>by
  obtain⟨h1,h2⟩:=ZK.1 h;by_cases KA:j=i
  ·subst KA;rw[List.erase_cons_head];simp only[zg];split
   ·simp only[Br,Iz,jQ];exact Ug h1
   ·exact Ug h1
  ·rw[List.erase_cons_tail (by simpa using KA)];have hb:Nat.beq j i=false:=by rw[<- W3,Vz];exact KA
   simp only[zg];cases ho:ops[j]? with
   | some o=>simp only[Br,hb,qB,fw h2]
   | none=>simp only[fw h2]
def fx(hX:Y0 P X)(hb:base<=w0.w.heap.size){ops}{K'}(hK:∀s,K s->K' s):∀(m:Nat) (R done:List Nat) (s:St),R.Nodup->CL P base w0 X nt K m (zg nc ops R) done s->CI nc P base nt w0 ops K' m R done s
 | 0,_,_,s,_,h=>hK s h
 | m+1,R,done,s,hd,h=>by
  intro i hi o ho hh;have h1:=tu h _ (fv ho hi);simp only[fu hh]at h1;refine AX.mono (λs hs=>fx hX hb hK m (R.erase i) (i::done) s (hd.erase _) ?_) _ _ (CK hX hb _ _ h1);rw[<- fw hd];exact hs
def tv(nc){id}{ops}(hX:Y0 P X)(hb:base<=w0.w.heap.size)(n)(hm:P.follows .mixedOrders=true)(l)(R)(hB:Bo nc X.L ops l R=true)(hU:y6 ops s.fr=true)
  (h:Kn P base w0 X nt (CL P base w0 X nt (Lm P base w0 Q X nt n k) R.length (zg nc ops R) (l.map (·.1))) (KV nc ops l) s):Qw P base nt w0 Q (.code (.region id ops true)::k) .normal s:=by
 have hR:R.Nodup:=by
  simp only[Bo,ZJ]at hB;exact(Uc hB.1.2).1
 exact tf hX.L hb hm l R hB hU (AX.mono (λs hs=>fx hX hb (λs hs=>Bp hX hb n hs) _ _ _ s hR hs) _ _ (CK hX hb _ _ h))
def QCW{id}{ops}(hX:Y0 P X)(hb:base<=w0.w.heap.size)(n)(hm:P.follows .mixedOrders=true)(l)(R)(hB:Bo [] X.L ops l R=true)(hU:y6 ops s.fr=true)
  (h:Kn P base w0 X nt (CL P base w0 X nt (Lm P base w0 Q X nt n k) R.length (zg [] ops R) (l.map (·.1))) (KV [] ops l) s):Qw P base nt w0 Q (.code (.region id ops true)::k) .normal s:=tv [] hX hb n hm l R hB hU h
@[go_sem] theorem QCX{i}:Region.binds .any ⟨i,.data⟩=true:=rfl
@[go_sem] theorem QCY{i}:Region.binds .any ⟨i,.chain⟩=true:=rfl
@[go_sem] theorem QCZ{i}:Region.binds .any ⟨i,.guard⟩=true:=rfl
@[go_sem] theorem QC0{i}:Region.binds .any ⟨i,.phase⟩=true:=rfl
@[go_sem] theorem QC1{i}{d}:Region.binds .any ⟨i,.textOnly d⟩=false:=rfl
@[go_sem] theorem QC2{i}{d}:Region.binds .any ⟨i,.gcOnly d⟩=false:=rfl
@[go_sem] theorem QC3{es}{d}:CL P base w0 X nt K 0 es d s=K s:=Kw rfl
@[go_sem] theorem QC4{m}{es}{d}:CL P base w0 X nt K (m+1) es d s=OE (λe=>match Lo d e.2.2.2 with
  | true=>Kn P base w0 X nt (CL P base w0 X nt K m (Br e.1 es) (e.1::d)) [(false,e.2.1,e.2.2.1)] s
  | false=>True) es:=Kw rfl
end
def OF(P:Program)(base nt:Nat)(w0:Start)(Q:Exit->St->Prop)(k:List Item)(S:Nat->St->Prop)(N i:Nat):Exit->St->Prop
 | .normal,s=>i<N/\∃s',QI w0 s s'/\S (i+1) s'
 | e,s=>Qw P base nt w0 Q k e s
section
variable {P:Program}{base nt:Nat}{w0:Start}{Q:Exit->St->Prop}{k:List Item}{s:St}
@[go_sem] theorem QC5{S}{N i}:OF P base nt w0 Q k S N i .normal s=(i<N/\∃s',QI w0 s s'/\S (i+1) s'):=Kw rfl
@[go_sem] theorem QC6{S}{N i j}:OF P base nt w0 Q k S N i (.exit j) s=Qw P base nt w0 Q k (.exit j) s:=Kw rfl
@[go_sem] theorem QC7{S}{N i}:OF P base nt w0 Q k S N i .ret s=Qw P base nt w0 Q k .ret s:=Kw rfl
def ZZ{c}(S)(N){s0}(hw:QI w0 s s0)(h0:S 0 s0)(round:∀i s,i<=N->S i s->Qw P base nt w0 (OF P base nt w0 Q k S N i) [.code c] .normal s):Qw P base nt w0 Q (.code (.loop c)::k) .normal s:=by
 refine IZ (λm s=>∃i,i+m=N/\S i s) N hw ⟨0,by omega,h0⟩ ?_;rintro m s ⟨i,hi,hs⟩;have:=round i s (by omega) hs;simp only[Qw]at this ⊢;refine this.mono λe s' he=>?_;cases e with
 | normal=>obtain⟨h1,GJ,h2,h3⟩:=he;exact⟨m - 1,GJ,by omega,h2,i+1,by omega,h3⟩
 | _=>exact he
end
def GW{P}{base nt}{w0}{Q}{l}{k}{s s'}(h:QI w0 s s')(hk:Qw P base nt w0 Q (.ops l::k) .normal s'):Qw P base nt w0 Q (.ops l::k) .normal s:=by
 simp only[Qw]at hk ⊢;exact hk.XF h
attribute [go_sem] X5 zg GV Br Lo Km OE KV VL false_implies imp_self ne_eq not_false_eq_true not_true_eq_false Nat.one_ne_zero
@[go_sem] theorem QC8(v):D.KJ (.raw v)=xu v:=rfl
@[go_sem] theorem QC9  : D.KJ (.nil)=true:=rfl
@[go_sem] theorem QDa  : D.KJ (.undef)=false:=rfl
@[go_sem] theorem QDb(z n)(r):D.KJ (.imm z n r)=true:=rfl
@[go_sem] theorem QDc(c):D.KJ (.ip c)=true:=rfl
@[go_sem] theorem QDd(l g o n):D.KJ (.ref l g o n)=true:=rfl
@[go_sem] theorem QDe(l g i j):D.KJ (.ptr l g i j)=true:=rfl
@[go_sem] theorem QDf(l g):D.KJ (.mref l g)=true:=rfl
@[go_sem] theorem QDg(f)(n)(c):D.KJ (.clo f n c)=true:=rfl
@[go_sem] theorem QDh(c):D.KJ (.agg c)=false:=rfl
@[go_sem] theorem QDi(c):D.KJ (.tup c)=false:=rfl
@[go_sem] theorem QDj(v):Xr (.raw v)=bif D.KJ (.raw v) then some [.raw v] else none:=rfl
@[go_sem] theorem QDk  : Xr (.nil)=bif D.KJ (.nil) then some [.nil] else none:=rfl
@[go_sem] theorem QDl  : Xr (.undef)=bif D.KJ (.undef) then some [.undef] else none:=rfl
@[go_sem] theorem QDm(z n)(r):Xr (.imm z n r)=bif D.KJ (.imm z n r) then some [.imm z n r] else none:=rfl
@[go_sem] theorem QDn(c):Xr (.ip c)=bif D.KJ (.ip c) then some [.ip c] else none:=rfl
@[go_sem] theorem QDo(l g o n):Xr (.ref l g o n)=bif D.KJ (.ref l g o n) then some [.ref l g o n] else none:=rfl
@[go_sem] theorem QDp(l g i j):Xr (.ptr l g i j)=bif D.KJ (.ptr l g i j) then some [.ptr l g i j] else none:=rfl
@[go_sem] theorem QDq(l g):Xr (.mref l g)=bif D.KJ (.mref l g) then some [.mref l g] else none:=rfl
@[go_sem] theorem QDr(f)(n)(c):Xr (.clo f n c)=bif D.KJ (.clo f n c) then some [.clo f n c] else none:=rfl
@[go_sem] theorem QDs(c:List D):Xr (.agg c)=bif c.all D.KJ then some c else none:=rfl
@[go_sem] theorem QDt(c):Xr (.tup c)=bif D.KJ (.tup c) then some [.tup c] else none:=rfl
@[go_sem] theorem QDu(d')(v):W9 d' (.raw v)=(d'=.raw v):=rfl
@[go_sem] theorem QDv(d')  : W9 d' (.nil)=(d'=.nil):=rfl
@[go_sem] theorem QDw(d')  : W9 d' (.undef)=(d'=.undef):=rfl
@[go_sem] theorem QDx(z' n' z n)(r' r):W9 (.imm z' n' r') (.imm z n r)=(z'=z/\n'=n/\∀i,i<n->r' i=r i):=rfl
@[go_sem] theorem QDy(d')(c):W9 d' (.ip c)=(d'=.ip c):=rfl
@[go_sem] theorem QDz(d')(l g o n):W9 d' (.ref l g o n)=(d'=.ref l g o n):=rfl
@[go_sem] theorem QDA(d')(l g i j):W9 d' (.ptr l g i j)=(d'=.ptr l g i j):=rfl
@[go_sem] theorem QDB(d')(l g):W9 d' (.mref l g)=(d'=.mref l g):=rfl
@[go_sem] theorem QDC(d')(f)(n)(c):W9 d' (.clo f n c)=(d'=.clo f n c):=rfl
@[go_sem] theorem QDD(d')(c):W9 d' (.agg c)=(d'=.agg c):=rfl
@[go_sem] theorem QDE(d')(c):W9 d' (.tup c)=(d'=.tup c):=rfl
end Go.Fg
namespace Go.Fg
open Go.RowKit (Below)
def pos(l:Nat):List Nat->Nat
 | []=>0
 | k::r=>bif Nat.beq k l then 0 else pos l r+1
mutual
def D.Xa(Qp:List Nat):D->D
 | .ref l g off len=>.ref (pos l Qp) g off len
 | .ptr l g i j=>.ptr (pos l Qp) g i j
 | .mref l g=>.mref (pos l Qp) g
 | .clo f nf cs=>.clo f nf (j0 Qp cs)
 | .agg cs=>.agg (j0 Qp cs)
 | .tup cs=>.tup (j0 Qp cs)
 | d=>d
def j0(Qp:List Nat):List D->List D
 | []=>[]
 | c::cs=>c.Xa Qp::j0 Qp cs
end
mutual
def D.y8(Qp:List Nat):D->Bool
 | .ref l _ _ _=>Km l Qp
 | .ptr l _ _ _=>Km l Qp
 | .mref l _=>Km l Qp
 | .clo _ _ cs=>y9 Qp cs
 | .agg cs=>y9 Qp cs
 | .tup cs=>y9 Qp cs
 | _=>true
def y9(Qp:List Nat):List D->Bool
 | []=>true
 | c::cs=>c.y8 Qp&&y9 Qp cs
end
def GX{l}:∀{Qp:List Nat},Km l Qp=true->Qp[pos l Qp]? = some l
 | [],h=>by cases h
 | k::r,h=>by
  simp only[pos];by_cases e:k=l
  ·subst e;simp
  ·have h1:Nat.beq k l=false:=by rw[<- W3,Vz];exact e
   have h2:Nat.beq l k=false:=by rw[<- W3,Vz];exact λx=>e x.symm
   simp only[Km,h2,NA]at h;simp[h1,GX h]
def jk(Qp):∀cs:List D,(j0 Qp cs).length=cs.length
 | []=>rfl
 | _::cs=>by simp[j0,jk Qp cs]
def CM(Qp):∀(cs:List D) (i:Nat),i<cs.length->nth (j0 Qp cs) i=(nth cs i).Xa Qp
 | [],i,h=>by simp at h
 | c::cs,0,_=>by simp[j0,nth]
 | c::cs,i+1,h=>by
  have:=CM Qp cs i (by simpa using h);simpa[j0,nth] using this
def Lp{Qp}:∀{cs:List D},y9 Qp cs=true->∀i,i<cs.length->(nth cs i).y8 Qp=true
 | [],_,i,h=>by simp at h
 | d::r,hf,i,h=>by
  simp only[y9,ZJ]at hf;cases i with
  | zero=>exact hf.1
  | succ i=>have:=Lp hf.2 i (by simpa using h);simpa[nth] using this
def Ob.Xa(Qp:List Nat)(o:Ob):Ob:=⟨o.kd,o.gen,o.sz,o.n,λi=>j0 Qp (o.row i)⟩
def X6(h:List Ob):List Nat->List Ob
 | []=>[]
 | i::r=>match h[i]? with
  | some o=>o::X6 h r
  | none=>[]
def jl(pl:List Pl):List Nat->List Pl
 | []=>[]
 | i::r=>match pl[i]? with
  | some o=>o::jl pl r
  | none=>[]
def V0(n:Nat):List Nat->Bool
 | []=>true
 | i::r=>Nat.blt i n&&V0 n r
def Aa:List Nat->Bool
 | []=>true
 | i::r=>!Km i r&&Aa r
def tx{n}:∀{l:List Nat},V0 n l=true->∀i∈l,i<n
 | [],_,i,h=>by cases h
 | k::r,h,i,hi=>by
  simp only[V0,ZJ,kN]at h;rcases QF.1 hi with e|e
  ·subst e;exact h.1
  ·exact tx h.2 i e
def tz:∀{l:List Nat},Aa l=true->∀(i j x:Nat),l[i]? = some x->l[j]? = some x->i=j
 | [],_,i,j,x,h,_=>by simp at h
 | k::r,h,i,j,x,h1,h2=>by
  simp only[Aa,ZJ,qy]at h;have hk:k ∉ r:=λhm=>by rw[kX.2 hm]at h;cases h.1
  cases i with
  | zero=>
   simp at h1;subst h1;cases j with
   | zero=>rfl
   | succ j=>simp at h2;exact absurd (NH h2) hk
  | succ i=>
   simp at h1;cases j with
   | zero=>simp at h2;subst h2;exact absurd (NH h1) hk
   | succ j=>simp at h2;rw[tz h.2 i j x h1 h2]
def GY{h:List Ob}:∀{Qp:List Nat},V0 h.length Qp=true->∀(i l:Nat),Qp[i]? = some l->(X6 h Qp)[i]? = h[l]?
 | [],_,i,l,e=>by simp at e
 | k::r,hb,i,l,e=>by
  simp only[V0,ZJ,kN]at hb;simp only[X6,QP hb.1];cases i with
  | zero=>simp at e;subst e;simp[QP hb.1]
  | succ i=>simp at e;simpa using GY hb.2 i l e
def Ab{h:List Pl}:∀{Qp:List Nat},V0 h.length Qp=true->∀(i l:Nat),Qp[i]? = some l->(jl h Qp)[i]? = h[l]?
 | [],_,i,l,e=>by simp at e
 | k::r,hb,i,l,e=>by
  simp only[V0,ZJ,kN]at hb;simp only[jl,QP hb.1];cases i with
  | zero=>simp at e;subst e;simp[QP hb.1]
  | succ i=>simp at e;simpa using Ab hb.2 i l e
def Uh{h:List Ob}:∀{Qp:List Nat},V0 h.length Qp=true->(X6 h Qp).length=Qp.length
 | [],_=>rfl
 | k::r,hb=>by
  simp only[V0,ZJ,kN]at hb;simp[X6,QP hb.1,Uh hb.2]
def Lq{h:List Pl}:∀{Qp:List Nat},V0 h.length Qp=true->(jl h Qp).length=Qp.length
 | [],_=>rfl
 | k::r,hb=>by
  simp only[V0,ZJ,kN]at hb;simp[jl,QP hb.1,Lq hb.2]
def QA.Qp{Z Z'}{h:List Ob}{pl:List Pl}{w}{Qp}(hz:∀b,free Z pl b->Z' b)(hl:pl.length=h.length)(hb:V0 h.length Qp=true){d:D}{v}(r:QA Z h pl w d v)(hk:d.y8 Qp=true):
  QA Z' ((X6 h Qp).map (Ob.Xa Qp)) (jl pl Qp) w (d.Xa Qp) v:=by
 have X7:V0 pl.length Qp=true:=by rw[hl];exact hb
 have X4:∀b,free Z pl b->free Z' (jl pl Qp) b:=λb hf=>⟨hz b hf,λl q e=>by
  have Qc:l<Qp.length:=by rw[<- Lq X7];exact VU e
  rw[Ab X7 l (Qp[l]) (QP Qc)]at e;exact hf.2 _ q e⟩
 have Z6:∀(d:D) (v:Value),Cl (free Z pl) w d v->QA Z' ((X6 h Qp).map (Ob.Xa Qp)) (jl pl Qp) w (d.Xa Qp) v:=by
  intro d v hc;have xB:=hc.mono (N':=free Z' (jl pl Qp)) (w':=w) (λb hb _=>⟨X4 b hb,rfl⟩);clear hc;induction xB with
  | raw v=>exact .cl _ _ (.raw v)
  | undef v=>exact .cl _ _ (.undef v)
  | nil a=>exact .cl _ _ (.nil a)
  | imm sz n row a cap b o vs ha hl hs hc hr ih=>exact .cl _ _ (.imm sz n row a cap b o vs ha hl hs hc hr)
  | ip cells b o vs hc hr ih=>exact .cl _ _ (.ip cells b o vs hc hr)
  | clo f nf cs vs hl hr ih=>exact .clo f nf _ vs (by rw[jk];exact hl) (λi hi=>by rw[jk]at hi;rw[CM _ _ _ hi];exact ih i hi)
  | agg cs vs hl hr ih=>exact .agg _ vs (by rw[jk];exact hl) (λi hi=>by rw[jk]at hi;rw[CM _ _ _ hi];exact ih i hi)
  | tup cs vs hl hr ih=>exact .tup _ vs (by rw[jk];exact hl) (λi hi=>by rw[jk]at hi;rw[CM _ _ _ hi];exact ih i hi)
 induction r with
 | cl d v hc=>exact Z6 d v hc
 | ref l g off len o p a cap ho hp v8 hg hs=>
  have hm:Km l Qp=true:=by simpa[D.y8] using hk
  exact .ref _ g off len (o.Xa Qp) p a cap (by rw[Ky,GY hb _ l (GX hm),ho];rfl) (by rw[Ab X7 _ l (GX hm),hp]) v8 hg hs
 | ptr l g i j o p a ho hp v8 hg hs=>
  have hm:Km l Qp=true:=by simpa[D.y8] using hk
  exact .ptr _ g i j (o.Xa Qp) p a (by rw[Ky,GY hb _ l (GX hm),ho];rfl) (by rw[Ab X7 _ l (GX hm),hp]) v8 hg hs
 | mref l g o p b ho hp v8 hg hs=>
  have hm:Km l Qp=true:=by simpa[D.y8] using hk
  exact .mref _ g (o.Xa Qp) p b (by rw[Ky,GY hb _ l (GX hm),ho];rfl) (by rw[Ab X7 _ l (GX hm),hp]) v8 hg hs
 | clo f nf cs vs hl hr ih=>exact .clo f nf _ vs (by rw[jk];exact hl) λi hi=>by rw[jk]at hi;rw[CM _ _ _ hi];exact ih i hi (Lp (by simpa[D.y8] using hk) i hi)
 | agg cs vs hl hr ih=>exact .agg _ vs (by rw[jk];exact hl) λi hi=>by rw[jk]at hi;rw[CM _ _ _ hi];exact ih i hi (Lp (by simpa[D.y8] using hk) i hi)
 | tup cs vs hl hr ih=>exact .tup _ vs (by rw[jk];exact hl) λi hi=>by rw[jk]at hi;rw[CM _ _ _ hi];exact ih i hi (Lp (by simpa[D.y8] using hk) i hi)
def GZ(Qp:List Nat):List Ob->Prop
 | []=>True
 | o::r=>(∀i,i<o.n->y9 Qp (o.row i)=true)/\GZ Qp r
def tA{Qp}:∀{h:List Ob},GZ Qp h->∀(l:Nat) (o:Ob),h[l]? = some o->∀i,i<o.n->y9 Qp (o.row i)=true
 | [],_,l,o,e=>by simp at e
 | o::r,h,l,u,e=>by
  cases l with
  | zero=>simp at e;subst e;exact h.1
  | succ l=>simp at e;exact tA h.2 l u e
def Ze.Qp{Z Z'}{base}{h:List Ob}{pl}{w}{Qp}(R:Ze Z base h pl w)(hz:∀b,free Z pl b->Z' b)(hb:V0 h.length Qp=true)(hd:Aa Qp=true)(h2:GZ Qp (X6 h Qp)):
  Ze Z' base ((X6 h Qp).map (Ob.Xa Qp)) (jl pl Qp) w:=by
 have X7:V0 pl.length Qp=true:=by rw[R.len];exact hb
 have Zf:∀(i:Nat) (p:Pl),(jl pl Qp)[i]? = some p->∃l,Qp[i]? = some l/\pl[l]? = some p:=λi p e=>by
  have Qc:i<Qp.length:=by rw[<- Lq X7];exact VU e
  exact⟨Qp[i],QP Qc,by rw[<- Ab X7 i _ (QP Qc)];exact e⟩
 have Q9:∀(i:Nat) (o:Ob),((X6 h Qp).map (Ob.Xa Qp))[i]? = some o->∃l u,Qp[i]? = some l/\h[l]? = some u/\o=u.Xa Qp/\(X6 h Qp)[i]? = some u:=λi o e=>by
  rw[Ky,XA]at e;obtain⟨u,hu,rfl⟩:=e;have Qc:i<Qp.length:=by rw[<- Uh hb];exact Ku hu
  exact⟨Qp[i],u,QP Qc,by rw[<- GY hb i _ (QP Qc)];exact hu,rfl,hu⟩
 refine⟨by rw[Lq X7,J6,Uh hb],λi i' b q q' e1 e2=>?_,λi o ho hp=>?_,λi o b q ho hp=>?_⟩
 ·obtain⟨l,s1,p1⟩:=Zf _ _ e1;obtain⟨l',s2,p2⟩:=Zf _ _ e2;have:=R.inj l l' b q q' p1 p2;subst this;exact tz hd i i' l s1 s2
 ·obtain⟨l,u,s1,hu,rfl,_⟩:=Q9 _ _ ho;obtain⟨l',s2,p2⟩:=Zf _ _ hp;rw[s1]at s2;cases s2;exact R.Vv l u hu p2
 ·obtain⟨l,u,s1,hu,rfl,wk⟩:=Q9 _ _ ho;obtain⟨l',s2,p2⟩:=Zf _ _ hp;rw[s1]at s2;cases s2;obtain⟨g1,x⟩:=R.at_ l u b q hu p2;refine⟨g1,x.to rfl rfl rfl rfl (λk _=>jk _ _) λk j v hk hj hr=>?_⟩;show QA _ _ _ _ (nth (j0 Qp (u.row k)) j) v;rw[CM _ _ _ hj];exact hr.Qp hz R.len hb (Lp (tA h2 i u wk k hk) j hj)
def tB{pl:List Pl}{Qp}(hb:V0 pl.length Qp=true){b}(h:WU pl b):WU (jl pl Qp) b:=λl q e=>by
 have Qc:l<Qp.length:=by rw[<- Lq hb];exact VU e
 rw[Ab hb l (Qp[l]) (QP Qc)]at e;exact h _ q e
def tC(Qp:List Nat)(R:D->List Ob->Prop)(d:D)(h:List Ob):Prop:=d.y8 Qp=true/\V0 h.length Qp=true/\GZ Qp (X6 h Qp)/\R (d.Xa Qp) ((X6 h Qp).map (Ob.Xa Qp))
def OG:Nat->Nat->List Nat->Bool
 | 0,_,_=>true
 | _+1,_,[]=>false
 | m+1,i,k::r=>Nat.beq k i&&OG m (i+1) r
def tD:∀{m i:Nat} {Qp:List Nat},OG m i Qp=true->∀l,l<m->Qp[l]? = some (i+l)
 | 0,_,_,_,l,hl=>by omega
 | m+1,i,[],h,_,_=>by cases h
 | m+1,i,k::r,h,l,hl=>by
  simp only[OG,ZJ]at h;obtain rfl:=NJ h.1;cases l with
  | zero=>simp
  | succ l=>rw[List.getElem?_cons_succ,tD h.2 l (by omega)];congr 1;omega
def MFn.Qp{P}{f}{F:List Ob}{args}{R}(Qp)(hd:Aa Qp=true)(hs:OG F.length 0 Qp=true)(h:MFn P f F args (tC Qp R)):MFn P f F args R:=λZ base w pl vs h1 h2 h3 hl hc=>
 (h Z base w pl vs h1 h2 h3 hl hc).mono λ_ _ ⟨v,d,hh,Qj,k1,⟨a1,a2,a3,a4⟩,k3,k4,k5,k6⟩=>⟨v,d.Xa Qp,_,jl Qj Qp,k1,a4,k3.Qp (λ_ h=>h.1) a2 hd a3,k4.Qp (λ_ h=>h.1) k3.len a2 a1,
  k5.keep (QD _) ⟨λ_ hb=>tB (by rw[k3.len];exact a2) hb,λl o p hl ho hp=>by
   have e:=tD hs l hl;rw[JG]at e;exact⟨o.Xa Qp,by rw[Ky,GY a2 l l e,ho];rfl,by rw[Ab (by rw[k3.len];exact a2) l l e,hp],rfl,rfl,rfl⟩⟩,k6⟩
attribute [go_sem] tC pos D.Xa j0 D.y8 y9 Ob.Xa X6 V0 GZ Km
mutual
def D.idx(φ:Nat->Nat):D->D
 | .ref l g off len=>.ref (φ l) g off len
 | .ptr l g i j=>.ptr (φ l) g i j
 | .mref l g=>.mref (φ l) g
 | .clo f nf cs=>.clo f nf (xL φ cs)
 | .agg cs=>.agg (xL φ cs)
 | .tup cs=>.tup (xL φ cs)
 | d=>d
def xL(φ:Nat->Nat):List D->List D
 | []=>[]
 | c::cs=>c.idx φ::xL φ cs
end
def vh(φ):∀cs:List D,(xL φ cs).length=cs.length
 | []=>rfl
 | _::cs=>by simp[xL,vh φ cs]
def EU(φ):∀(cs:List D) (i:Nat),i<cs.length->nth (xL φ cs) i=(nth cs i).idx φ
 | [],i,h=>by simp at h
 | c::cs,0,_=>by simp[xL,nth]
 | c::cs,i+1,h=>by
  have:=EU φ cs i (by simpa using h);simpa[xL,nth] using this
def Ob.idx(φ:Nat->Nat)(o:Ob):Ob:=⟨o.kd,o.gen,o.sz,o.n,λi=>xL φ (o.row i)⟩
def QA.idx{Z Z'}{h h'}{pl Qj}{w}(φ)(hf:∀b,free Z pl b->free Z' Qj b)
  (Q9:∀(l:Nat) (o:Ob) (p:Pl),h[l]? = some o->pl[l]? = some p->∃o',h'[φ l]? = some o'/\Qj[φ l]? = some p/\o'.gen=o.gen/\o'.sz=o.sz/\o'.kd.ty=o.kd.ty) {d:D} {v:Value} (r:QA Z h pl w d v):QA Z' h' Qj w (d.idx φ) v:=by
 have Z6:∀(d:D) (v:Value),Cl (free Z pl) w d v->QA Z' h' Qj w (d.idx φ) v:=by
  intro d v hc;have xB:=hc.mono (N':=free Z' Qj) (w':=w) (λb hb _=>⟨hf b hb,rfl⟩);clear hc;induction xB with
  | raw v=>exact .cl _ _ (.raw v)
  | undef v=>exact .cl _ _ (.undef v)
  | nil a=>exact .cl _ _ (.nil a)
  | imm sz n row a cap b o vs ha hl hs hc hr ih=>exact .cl _ _ (.imm sz n row a cap b o vs ha hl hs hc hr)
  | ip cells b o vs hc hr ih=>exact .cl _ _ (.ip cells b o vs hc hr)
  | clo f nf cs vs hl hr ih=>exact .clo f nf _ vs (by rw[vh];exact hl) (λi hi=>by rw[vh]at hi;rw[EU _ _ _ hi];exact ih i hi)
  | agg cs vs hl hr ih=>exact .agg _ vs (by rw[vh];exact hl) (λi hi=>by rw[vh]at hi;rw[EU _ _ _ hi];exact ih i hi)
  | tup cs vs hl hr ih=>exact .tup _ vs (by rw[vh];exact hl) (λi hi=>by rw[vh]at hi;rw[EU _ _ _ hi];exact ih i hi)
 induction r with
 | cl d v hc=>exact Z6 d v hc
 | ref l g off len o p a cap ho hp hk hg hs=>
  obtain⟨o',h1,h2,h3,h4,h5⟩:=Q9 l o p ho hp;exact .ref _ g off len o' p a cap h1 h2 (by rw[h5];exact hk) (by rw[h3];exact hg) (by rw[h3,h4];exact hs)
 | ptr l g i j o p a ho hp hk hg hs=>
  obtain⟨o',h1,h2,h3,h4,h5⟩:=Q9 l o p ho hp;exact .ptr _ g i j o' p a h1 h2 (by rw[h5];exact hk) (by rw[h3];exact hg) (by rw[h3,h4];exact hs)
 | mref l g o p b ho hp hk hg hs=>
  obtain⟨o',h1,h2,h3,h4,h5⟩:=Q9 l o p ho hp;exact .mref _ g o' p b h1 h2 (by rw[h5];exact hk) (by rw[h3];exact hg) (by rw[h3];exact hs)
 | clo f nf cs vs hl hr ih=>exact .clo f nf _ vs (by rw[vh];exact hl) (λi hi=>by rw[vh]at hi;rw[EU _ _ _ hi];exact ih i hi)
 | agg cs vs hl hr ih=>exact .agg _ vs (by rw[vh];exact hl) (λi hi=>by rw[vh]at hi;rw[EU _ _ _ hi];exact ih i hi)
 | tup cs vs hl hr ih=>exact .tup _ vs (by rw[vh];exact hl) (λi hi=>by rw[vh]at hi;rw[EU _ _ _ hi];exact ih i hi)
def Wu(n:Nat):List Nat->Nat->Nat
 | [],i=>n+i
 | k::_,0=>k
 | _::r,i+1=>Wu n r i
def Xb{α:Type}(h:List α):List Nat->List α->List α
 | [],xs=>h++xs
 | k::r,x::xs=>Xb (h.set k x) r xs
 | _::_,[]=>h
def Ui{n}:∀{Qp:List Nat} {i l:Nat},Qp[i]? = some l->Wu n Qp i=l
 | [],i,l,h=>by simp at h
 | k::r,0,l,h=>by simp at h;simp[Wu,h]
 | k::r,i+1,l,h=>by simp at h;simp[Wu,Ui h]
def tE{n}:∀{Qp:List Nat} {i:Nat},Wu n Qp (Qp.length+i)=n+i
 | [],i=>by simp[Wu]
 | k::r,i=>by
  rw[show (k::r).length+i=(r.length+i)+1 by simp;omega];simp only[Wu];exact tE
def fy{α:Type}:∀{Qp:List Nat} {h xs:List α},V0 h.length Qp=true->Aa Qp=true->Qp.length<=xs.length->∀(i:Nat),i<xs.length->(Xb h Qp xs)[Wu h.length Qp i]? = xs[i]?
 | [],h,xs,_,_,_,i,hi=>by
  simp only[Xb,Wu];rw[JT (by omega)];congr 1;omega
 | k::r,h,[],_,_,hl,i,hi=>by simp at hi
 | k::r,h,x::xs,hb,hd,hl,i,hi=>by
  simp only[V0,ZJ,kN]at hb;simp only[Aa,ZJ,qy]at hd;simp only[Xb];have hlen:(h.set k x).length=h.length:=by simp
  cases i with
  | zero=>
   have hk:k ∉ r:=λhm=>by rw[kX.2 hm]at hd;cases hd.1
   have key:∀(r:List Nat) (h' xs:List α),k ∉ r->k<h'.length->(Xb h' r xs)[k]? = h'[k]? := by
    intro r;induction r with
    | nil=>intro h' xs _ Qc;simp only[Xb];rw[Jy Qc]
    | cons j r ih=>
     intro h' xs hm Qc;cases xs with
     | nil=>rfl
     | cons y ys=>
      simp only[Xb];rw[ih (h'.set j y) ys (λhh=>hm (Ks _ hh)) (by simpa using Qc),JL (λe=>hm (by rw[e];exact Va))]
   simp only[Wu];rw[key r (h.set k x) xs hk (by simpa using hb.1)];simp[hb.1]
  | succ i=>
   simp only[Wu];rw[<- hlen];exact fy (by rw[hlen];exact hb.2) hd.2 (by simpa using hl) i (by simpa using hi)
def Lr{α:Type}:∀{Qp:List Nat} {h xs:List α} {l:Nat},l<h.length->l ∉ Qp->(Xb h Qp xs)[l]? = h[l]?
 | [],h,xs,l,hl,_=>by simp only[Xb];rw[Jy hl]
 | k::r,h,[],l,hl,_=>rfl
 | k::r,h,x::xs,l,hl,hm=>by
  simp only[Xb];rw[Lr (by simpa using hl) (λhh=>hm (Ks _ hh)),JL (λe=>hm (by rw[e];exact Va))]
def Uj{α:Type}:∀{Qp:List Nat} {h xs:List α},Qp.length<=xs.length->(Xb h Qp xs).length=h.length+(xs.length - Qp.length)
 | [],h,xs,_=>by simp[Xb]
 | k::r,h,[],hl=>by simp at hl
 | k::r,h,x::xs,hl=>by
  simp only[Xb];rw[Uj (by simpa using hl)];simp
def Qmg{α:Type}{Qp:List Nat}{h xs:List α}(hb:V0 h.length Qp=true)(hl:Qp.length<=xs.length){l}(h1:l<h.length+(xs.length - Qp.length)):
  (∃i,i<xs.length/\l=Wu h.length Qp i)\/(l<h.length/\l ∉ Qp):=by
 by_cases Qc:l<h.length
 ·by_cases hm:l∈Qp
  ·obtain⟨i,hi,e⟩:=yE hm;exact .inl ⟨i,by omega,(Ui (by rw[QP hi,e])).symm⟩
  ·exact .inr ⟨Qc,hm⟩
 ·refine .inl ⟨Qp.length+(l - h.length),by omega,?_⟩;rw[tE];omega
section
variable {P:Program}{base nt:Nat}{w0:Start}{Q:Exit->St->Prop}
def jm(h:List Ob)(Qp:List Nat)(h':List Ob):List Ob:=Xb h Qp (h'.map (Ob.idx (Wu h.length Qp)))
def Qmh{Z}{s:St}{pl}{w w':World}{Qp}(R:Ze Z base s.h pl w)(QX:base<=w.heap.size)(hz:∀b,w.heap.size<=b->Z b)(hb:V0 s.h.length Qp=true)(hd:Aa Qp=true)
  {h':List Ob} {Qj:List Pl} {d:D} {v:Value} {F:List Ob} (hF:F.length=Qp.length) (tF:∀(i:Nat) (o u:Ob),F[i]? = some o->(∃l,Qp[i]? = some l/\s.h[l]? = some u)->o.gen=u.gen/\o.sz=u.sz/\o.kd.ty=u.kd.ty)
  (O':Ze (λb=>Z b/\∀l q,pl[l]? = some (some (b,q))->l∈Qp) base h' Qj w') (V':QA (λb=>Z b/\∀l q,pl[l]? = some (some (b,q))->l∈Qp) h' Qj w' d v)
  (T:Tr F (jl pl Qp) w h' Qj w') (B:Below base w w') :
  Tr s.h pl w (jm s.h Qp h') (Xb pl Qp Qj) w'/\Ze Z base (jm s.h Qp h') (Xb pl Qp Qj) w'/\QA Z (jm s.h Qp h') (Xb pl Qp Qj) w' (d.idx (Wu s.h.length Qp)) v:=by
 have X7:V0 pl.length Qp=true:=by rw[R.len];exact hb
 have fA:Qj.length=h'.length:=O'.len;have Ls:∀(i l:Nat),Qp[i]? = some l->∃u p o' p',s.h[l]? = some u/\pl[l]? = some p/\h'[i]? = some o'/\Qj[i]? = some p'/\u.gen<=o'.gen/\o'.kd.ty=u.kd.ty/\(o'.gen=u.gen->o'.sz=u.sz/\p'=p):=by
  intro i l e;have hi:i<Qp.length:=(Wc.1 e).1;have hl:l<s.h.length:=tx hb l (NH e);have e1:F[i]? = some (F[i]'(by omega)):=QP _;have e2:s.h[l]? = some s.h[l]:=QP hl;have JA:l<pl.length:=by rw[R.len];exact hl
  have e3:pl[l]? = some pl[l]:=QP JA;obtain⟨k1,k2,k3⟩:=tF i _ _ e1 ⟨l,e,e2⟩;obtain⟨o',p',t1,t2,t3,t4,t5⟩:=T.obj i _ pl[l] e1 (by rw[Ab X7 i l e,e3]);exact⟨_,_,o',p',e2,e3,t1,t2,by omega,by rw[t4,k3],λx=>by obtain⟨y,z⟩:=t5 (by omega);exact⟨by rw[y,k2],z⟩⟩
 have Ac:Qp.length<=h'.length:=by
  rcases Nat.eq_zero_or_pos Qp.length with h0|h0
  ·omega
  ·obtain⟨_,_,o',_,_,_,h3,_⟩:=Ls (Qp.length - 1) _ (QP (by omega));have:=Ku h3;omega
 have Uk:Qp.length<=Qj.length:=by omega
 have hN:s.h.length=pl.length:=R.len.symm;have Ul:∀i,i<Qj.length->(Xb pl Qp Qj)[Wu s.h.length Qp i]? = Qj[i]? := λi hi=>by rw[hN];exact fy X7 hd Uk i hi
 have OH:∀i,i<h'.length->(jm s.h Qp h')[Wu s.h.length Qp i]? = (h'[i]?).map (Ob.idx (Wu s.h.length Qp)):=λi hi=>by
  unfold jm;rw[fy hb hd (by simpa using Ac) i (by simpa using hi),Ky]
 have other:∀(l b q:Nat),l ∉ Qp->pl[l]? = some (some (b,q))->WU Qj b/\w'.heap[b]? = w.heap[b]? := λl b q hm e=>by
  refine T.Kj b (λi q' e'=>?_) (R.lt e).1;have hi:i<Qp.length:=by rw[<- Lq X7];exact VU e'
  have e2:Qp[i]? = some Qp[i]:=QP hi;rw[Ab X7 i _ e2]at e';have:=R.inj _ _ _ _ _ e e';exact hm (by rw[this];exact qz hi)
 have Lu:∀(l:Nat) (p:Pl),(Xb pl Qp Qj)[l]? = some p->(∃i,i<Qj.length/\l=Wu s.h.length Qp i/\Qj[i]? = some p)\/(l<pl.length/\l ∉ Qp/\pl[l]? = some p):=λl p e=>by
  have Qc:=VU e;rw[Uj Uk]at Qc;rcases Qmg X7 Uk Qc with ⟨i,hi,rfl⟩|⟨h1,h2⟩
  ·rw[hN]at Ul ⊢;exact .inl ⟨i,hi,rfl,by rw[<- Ul i hi];exact e⟩
  ·exact .inr ⟨h1,h2,by rw[Lr h1 h2]at e;exact e⟩
 have Lc:∀b,free (λb=>Z b/\∀l q,pl[l]? = some (some (b,q))->l∈Qp) Qj b->free Z (Xb pl Qp Qj) b:=λb hf=>⟨hf.1.1,λl q e=>by
  rcases Lu l _ e with ⟨i,_,_,e2⟩|⟨_,h2,e2⟩
  ·exact hf.2 i q e2
  ·exact h2 (hf.1.2 l q e2)⟩
 have Q9:∀(l:Nat) (o:Ob) (p:Pl),h'[l]? = some o->Qj[l]? = some p->∃o',(jm s.h Qp h')[Wu s.h.length Qp l]? = some o'/\(Xb pl Qp Qj)[Wu s.h.length Qp l]? = some p/\o'.gen=o.gen/\o'.sz=o.sz/\o'.kd.ty=o.kd.ty:=λl o p ho hp=>
  ⟨o.idx (Wu s.h.length Qp),by rw[OH l (Ku ho),ho];rfl,by rw[Ul l (VU hp),hp],rfl,rfl,rfl⟩
 have T2:Tr s.h pl w (jm s.h Qp h') (Xb pl Qp Qj) w':=by
  refine⟨λb tG Qc=>?_,λl o p ho hp=>?_,λl o o' b q ho Zv hg hp c el hc=>?_⟩
  ·obtain⟨h1,h2⟩:=T.Kj b (tB X7 tG) Qc;refine⟨λl q e=>?_,h2⟩;rcases Lu l _ e with ⟨i,_,_,e2⟩|⟨_,_,e2⟩
   ·exact h1 i q e2
   ·exact tG l q e2
  ·by_cases hm:l∈Qp
   ·obtain⟨i,hi,e⟩:=yE hm;have e2:Qp[i]? = some l:=by rw[QP hi,e]
    obtain⟨u,p1,o',p',k1,k2,k3,k4,k5,k6,k7⟩:=Ls i l e2;rw[ho]at k1;cases k1;rw[hp]at k2;cases k2;have EV:Wu s.h.length Qp i=l:=Ui e2;refine⟨o'.idx (Wu s.h.length Qp),p',by rw[<- EV,OH i (Ku k3),k3];rfl,by rw[<- EV,Ul i (VU k4),k4],k5,k6,k7⟩
   ·exact⟨o,p,by unfold jm;rw[Lr (Ku ho) hm];exact ho,by rw[Lr (VU hp) hm];exact hp,QD _,rfl,λ_=>⟨rfl,rfl⟩⟩
  ·by_cases hm:l∈Qp
   ·obtain⟨i,hi,e⟩:=yE hm;have e2:Qp[i]? = some l:=by rw[QP hi,e]
    obtain⟨u,p1,o1,p',k1,k2,k3,k4,k5,k6,k7⟩:=Ls i l e2;rw[ho]at k1;cases k1;have EV:Wu s.h.length Qp i=l:=Ui e2;rw[<- EV,OH i (Ku k3),k3]at Zv;cases Zv;have e1:F[i]? = some (F[i]'(by omega)):=QP _;obtain⟨f1,f2,f3⟩:=tF i _ _ e1 ⟨l,e2,ho⟩;have hg:o1.gen=o.gen:=hg;exact T.shape i _ o1 b q e1 k3 (by omega) (by rw[Ab X7 i l e2,hp]) c el hc
   ·exact⟨c,by rw[(other l b q hm hp).2];exact hc,rfl⟩
 refine⟨T2,⟨?_,λl l' b q q' e1 e2=>?_,λl o ho hp=>?_,λl o b q ho hp=>?_⟩,V'.idx _ Lc Q9⟩
 ·unfold jm;rw[Uj Uk,Uj (by simpa using Ac)];simp[R.len,fA]
 ·rcases Lu l _ e1 with ⟨i,hi,rfl,e3⟩|⟨h1,h2,e3⟩<;>rcases Lu l' _ e2 with ⟨j,hj,rfl,e4⟩|⟨h3,h4,e4⟩
  ·rw[O'.inj i j b q q' e3 e4]
  ·exact absurd e3 ((other l' b q' h4 e4).1 i q)
  ·exact absurd e4 ((other l b q h2 e3).1 j q')
  ·exact R.inj l l' b q q' e3 e4
 ·rcases Lu l _ hp with ⟨i,hi,rfl,e3⟩|⟨h1,h2,e3⟩
  ·have Jf:i<h'.length:=by omega
   rw[OH i Jf,QP Jf]at ho;cases ho;exact O'.Vv i h'[i] (QP Jf) e3
  ·unfold jm at ho;rw[Lr (by omega) h2]at ho;exact R.Vv l o ho e3
 ·rcases Lu l _ hp with ⟨i,hi,rfl,e3⟩|⟨h1,h2,e3⟩
  ·have Jf:i<h'.length:=by omega
   rw[OH i Jf,QP Jf]at ho;cases ho;obtain⟨g1,x⟩:=O'.at_ i _ b q (QP Jf) e3;refine⟨g1,x.to rfl rfl rfl rfl (λk _=>vh _ _) λk j v hk hj hr=>?_⟩;show QA _ _ _ _ (nth (xL _ (h'[i].row k)) j) v;rw[EU _ _ _ hj];exact hr.idx _ Lc Q9
  ·unfold jm at ho;rw[Lr (by omega) h2]at ho;obtain⟨g1,x⟩:=R.at_ l o b q ho e3;exact⟨g1,x.to rfl rfl rfl (other l b q h2 e3).2 (λ_ _=>rfl) λi j v _ _ hr=>hr.tr T2⟩
def Qmi(QX:base<=w0.w.heap.size){o:Oper}{s}{x}{args}{ZO:Array TypeId}{f}{nf}{Qz}(hf:Qq P f)(ho:o.op=.call ⟨.value x,args,ZO⟩)
  (hx:J4 (Qr s.fr x)=some (f,nf,Qz)) (Qp:List Nat) (hb:V0 s.h.length Qp=true) (hd:Aa Qp=true) (fB:GZ Qp (X6 s.h Qp)) (Um:y9 Qp (Jj nf Qz (args.toList.map (Qr s.fr)))=true)
  {R:D->List Ob->Prop} (hF:MFn P f ((X6 s.h Qp).map (Ob.Xa Qp)) (j0 Qp (Jj nf Qz (args.toList.map (Qr s.fr)))) R)
  (ht:Zr nt o.dst=true) {Z:Nat->Prop} (z:Of w0 Z) (pl:List Pl) (a:Act) (w:World) (r:Rel Z base nt s pl a w) (b:Kv Z base w0 s.h pl w) (Q':Exit->Act->World->Prop) :
  o.wp P a w (λa' w'=>(Qp=[]->Ext w w')/\∃d h Qj,R d h/\Rel Z base nt ⟨Zj s.fr o.dst (d.idx (Wu s.h.length Qp)),jm s.h Qp h⟩ Qj a' w'/\Kv Z base w0 (jm s.h Qp h) Qj w'/\Tr s.h pl w (jm s.h Qp h) Qj w'/\∃v,a'=a.put o.dst v) Q':=by
 obtain⟨vs,hv,jY,CA⟩:=Om (r.eval x) hx;have Y7:base<=w.heap.size:=Kz QX b.1.size;have tH:∀b,w.heap.size<=b->Z b:=b.2.2.new;have X7:V0 pl.length Qp=true:=by rw[r.o.len];exact hb
 have vU:∀b,free Z pl b->(Z b/\∀l q,pl[l]? = some (some (b,q))->l∈Qp):=λk hk=>⟨hk.1,λl q e=>absurd e (hk.2 l q)⟩;obtain⟨q1,Vo⟩:=On (r:=λd v=>QA Z s.h pl w d v) (nf:=nf) jY CA (us:=args.toList.map a.eval) (args:=args.toList.map (Qr s.fr)) (by simp) (λi hi=>by
  have Jf:i<args.toList.length:=by simpa using hi
  simp only[nth,QW,Q8,Ky];rw[QP Jf];exact r.eval _)
 have hc:=hF (λb=>Z b/\∀l q,pl[l]? = some (some (b,q))->l∈Qp) base w (jl pl Qp) (Jj nf vs (args.toList.map a.eval)) Y7
  (λk hk=>⟨tH k hk,λl q e=>by have:=(r.o.lt e).1;omega⟩) (r.o.Qp vU hb hd fB) (by rw[jk];exact q1) (λi hi=>by
   rw[jk]at hi;rw[CM _ _ _ hi];exact(Vo i hi).Qp vU r.o.len hb (Lp Um i hi))
 unfold Oper.wp;rw[Oo hf ho hv w];simp only[Oper.upon_enter];refine hc.mono λe w' he=>?_;obtain⟨v,d,h',Qj,rfl,hR,hO,hV,hT,hB⟩:=he;obtain⟨j1,j2,j3⟩:=Qmh r.o Y7 tH hb hd (F:=(X6 s.h Qp).map (Ob.Xa Qp)) (by rw[J6,Uh hb]) (λi o u e ⟨l,e1,e2⟩=>by
  rw[Ky,GY hb i l e1,e2]at e;cases e;exact⟨rfl,rfl,rfl⟩) hO hV hT hB
 refine⟨λe=>by subst e;exact λk hk=>(hT.Kj k (λl q e=>by simp[jl]at e) hk).2,d,h',Xb pl Qp Qj,hR,?_,b.step j1 hB,j1,v,rfl⟩;cases hd:o.dst with
 | none=>exact r.xo j1 j2 v
 | some t=>rw[hd]at ht;exact r.to j1 j2 (jf ht) j3
def xM(QX:base<=w0.w.heap.size)(Qp){k}{dst}{ty:TypeId}{pos}{after}{gd}{r}{s}{x}{args}{ZO:Array TypeId}{f}{nf}{Qz}(hf:Qq P f)
  (hx:J4 (Qr s.fr x)=some (f,nf,Qz)) {F:List Ob} {cs:List D} (Js:V0 s.h.length Qp=true/\Aa Qp=true/\GZ Qp (X6 s.h Qp)/\y9 Qp (Jj nf Qz (args.toList.map (Qr s.fr)))=true/\VL (j0 Qp (Jj nf Qz (args.toList.map (Qr s.fr)))) cs/\yZ ((X6 s.h Qp).map (Ob.Xa Qp)) F)
  {R:D->List Ob->Prop} (hF:MFn P f F cs R) (ht:Zr nt dst=true) (hk:∀d h,R d h->Qw P base nt w0 Q (.ops r::k) .normal ⟨Zj s.fr dst (d.idx (Wu s.h.length Qp)),jm s.h Qp h⟩) :
  Qw P base nt w0 Q (.ops ((⟨dst,.call ⟨.value x,args,ZO⟩,ty,pos,after,gd⟩,none)::r)::k) .normal s:=by
 simp only[Qw]at hk ⊢;obtain⟨hb,hd,fB,Um,he,hle⟩:=Js;intro Z z pl a w r b;simp only[X3,WG,K6];have hF2:=hF.args he;have hF3:MFn P f ((X6 s.h Qp).map (Ob.Xa Qp)) (j0 Qp (Jj nf Qz (args.toList.map (Qr s.fr)))) R:=by
  intro Z base w pl vs h1 h2 h3 hl hc;have hw:=Wk.ER (m:=F.length) (fr:=[]) hle;obtain⟨Qj,r',K⟩:=hw Z base 0 pl { tmps:=#[],defers:=[] } w ⟨rfl,rfl,λt=>.cl _ _ (.undef _),h3⟩;obtain⟨e1,e2⟩:=TF hle;refine(hF2 Z base w pl vs h1 h2 ?_ hl (λi hi=>(hc i hi).ER hle)).mono λe w' ⟨v,d,h,Qj,k1,k2,k3,k4,k5,k6⟩=>⟨v,d,h,Qj,k1,k2,k3,k4,?_,k6⟩
  ·refine⟨by rw[e1];exact h3.len,h3.inj,λl o' ho hp=>?_,λl o' b q ho hp=>?_⟩
   ·obtain⟨o,g3,g4⟩:=e2 l o' ho;rw[g4.2.2.1];exact h3.Vv l o g3 hp
   ·obtain⟨o,g3,g4,g5,g6,g8,g7⟩:=e2 l o' ho;obtain⟨g1,x⟩:=h3.at_ l o b q g3 hp;exact⟨λhr=>g1 (by rw[<- g8.2,hr]),x.to g8.1 g5 g6 rfl (λi hi=>by rw[g7 i hi]) λi j v hi _ hr=>by rw[g7 i hi];exact hr.ER hle⟩
  ·have key:∀(l:Nat) (o:Ob),((X6 s.h Qp).map (Ob.Xa Qp))[l]? = some o->∃o',F[l]? = some o'/\IX o o':=λl o e=>by
    have:l<F.length:=by rw[e1];exact Ku e
    obtain⟨o2,g3,g4⟩:=e2 l _ (QP this);rw[e]at g3;cases g3;exact⟨_,QP this,g4⟩
   refine⟨k5.Kj,λl o p ho hp=>?_,λl o SD b q ho IF hg hp c el hc=>?_⟩
   ·obtain⟨o1,g1,g2,g3,g4,g5,g6⟩:=key l o ho;obtain⟨o',p',t1,t2,t3,t4,t5⟩:=k5.obj l o1 p g1 hp;exact⟨o',p',t1,t2,by omega,by rw[t4,g5.1],λx=>by obtain⟨y1,y2⟩:=t5 (by omega);exact⟨by rw[y1,g3],y2⟩⟩
   ·obtain⟨o1,g1,g2,g3,g4,g5,g6⟩:=key l o ho;exact k5.shape l o1 SD b q g1 IF (by omega) hp c el hc
 exact Oper.wp_mono (λa' w' ⟨_,d,h,Qj,hR,r',b',_⟩=>hk d h hR Z z Qj a' w' r' b') (Qmi QX hf rfl hx Qp hb hd fB Um hF3 ht z pl a w r b _)
end
attribute [go_sem] D.idx xL Ob.idx Wu Xb jm Aa OG
end Go.Fg
namespace Go.Fg
def Un(fr:List (Nat × D)):List Nat->List (Nat × D)
 | []=>[]
 | t::r=>(t,get fr t)::Un fr r
attribute [go_sem] Un
def EW{G:Type}(R:Nat->Prop)(V:Nat->G->List (Nat × D))(H:Nat->G->List Ob)(rest:List (Nat × D))(i:Nat)(s:St):Prop:=R i/\∃γ,s=⟨V i γ++rest,H i γ⟩
def EW.mk{G:Type}{R}{V}{H}{rest}{i}(γ:G)(h:R i):EW R V H rest i ⟨V i γ++rest,H i γ⟩:=⟨h,γ,rfl⟩
section
variable {P:Program}{base nt:Nat}{w0:Start}{Q:Exit->St->Prop}{k:List Item}
def tI{G:Type}(keep)(R)(V:Nat->G->List (Nat × D))(H:Nat->G->List Ob)(N)(γ0:G){c}{fr}{h}{rest}(hr:Un fr keep=rest)
  (hw:QI w0 ⟨fr,h⟩ ⟨V 0 γ0++rest,H 0 γ0⟩) (hR:R 0)
  (round:∀i γ,i<=N->R i->Qw P base nt w0 (OF P base nt w0 Q k (EW R V H rest) N i) [.code c] .normal ⟨V i γ++rest,H i γ⟩):Qw P base nt w0 Q (.code (.loop c)::k) .normal ⟨fr,h⟩:=
 ZZ (EW R V H rest) N hw ⟨hR,γ0,rfl⟩ λi s hi ⟨hRi,γ,e⟩=>by subst e;exact round i γ hi hRi
end
section
variable {P:Program}{base:Nat}{w0:Start}{Q:Exit->St->Prop}{X:Cx}{nt n:Nat}{k k':List Item}{s s':St}
def Ad{i N:Nat}(hi:i<=N)(h1:i<N->hx P base w0 Q X nt n k s)(h2:i=N->hx P base w0 Q X nt n k' s'):VZ (decide (i<N)) (hz P base w0 Q X nt n k s) (hz P base w0 Q X nt n k' s'):=
 ⟨λh=>h1 (by simpa using h),λh=>h2 (by simp at h;omega)⟩
def Ae{i N:Nat}(hi:i<=N)(h1:i<N->hx P base w0 Q X nt n k s)(h2:i=N->hx P base w0 Q X nt n k' s'):VZ (decide ((i:Int)<(N:Int))) (hz P base w0 Q X nt n k s) (hz P base w0 Q X nt n k' s'):=
 ⟨λh=>h1 (by simpa using h),λh=>h2 (by simp at h;omega)⟩
def EX{p}[Decidable p](h1:p->hx P base w0 Q X nt n k s)(h2:¬ p->hx P base w0 Q X nt n k' s'):VZ (decide p) (hz P base w0 Q X nt n k s) (hz P base w0 Q X nt n k' s'):=
 ⟨λh=>h1 (YV h),λh=>h2 (A4 h)⟩
def EY{α:Type}[BEq α][LawfulBEq α]{a b:α}(h1:a=b->hx P base w0 Q X nt n k s)(h2:a≠b->hx P base w0 Q X nt n k' s'):VZ (a==b) (hz P base w0 Q X nt n k s) (hz P base w0 Q X nt n k' s'):=
 ⟨λh=>h1 (by simpa using h),λh=>h2 (by simpa using h)⟩
def EZ{α:Type}[BEq α][LawfulBEq α]{a b:α}(h1:a≠b->hx P base w0 Q X nt n k s)(h2:a=b->hx P base w0 Q X nt n k' s'):VZ (a != b) (hz P base w0 Q X nt n k s) (hz P base w0 Q X nt n k' s'):=
 ⟨λh=>h1 (by simpa using h),λh=>h2 (by simpa using h)⟩
def E0{K K'}{l l'}{p}[Decidable p](h1:p->Kn P base w0 X nt K l s)(h2:¬ p->Kn P base w0 X nt K' l' s'):VZ (decide p) (qa P base w0 X nt K l s) (qa P base w0 X nt K' l' s'):=
 ⟨λh=>h1 (YV h),λh=>h2 (A4 h)⟩
def E6{K K':St->Prop}{l l':List (Bool × Oper × G)}{α:Type}[BEq α][LawfulBEq α]{a b:α}(h1:a=b->Kn P base w0 X nt K l s)(h2:a≠b->Kn P base w0 X nt K' l' s'):VZ (a==b) (qa P base w0 X nt K l s) (qa P base w0 X nt K' l' s'):=
 ⟨λh=>h1 (by simpa using h),λh=>h2 (by simpa using h)⟩
def E7{K K':St->Prop}{l l':List (Bool × Oper × G)}{α:Type}[BEq α][LawfulBEq α]{a b:α}(h1:a≠b->Kn P base w0 X nt K l s)(h2:a=b->Kn P base w0 X nt K' l' s'):VZ (a != b) (qa P base w0 X nt K l s) (qa P base w0 X nt K' l' s'):=
 ⟨λh=>h1 (by simpa using h),λh=>h2 (by simpa using h)⟩
end
end Go.Fg
namespace Go.Fg
open Go.RowKit (Below)
def rowFrom(off:Nat)(row:Nat->List D):Nat->List D:=λi=>row (off+i)
theorem Qmm(row):rowFrom 0 row=row:=by funext i;simp[rowFrom]
theorem G0(off)(row)(i):rowFrom off row i=row (off+i):=rfl
mutual
def D.fz(l g0 n sz:Nat)(row:Nat->List D):D->D
 | .ref l' g off len=>bif Nat.beq l' l then (bif Nat.beq g g0&&Nat.ble (off+len) n then .imm sz len (rowFrom off row) else .undef) else .ref l' g off len
 | .ptr l' g i j=>bif Nat.beq l' l then (bif Nat.beq g g0&&Nat.blt i n&&Nat.ble j sz then .ip ((row i).drop j) else .undef) else .ptr l' g i j
 | .mref l' g=>bif Nat.beq l' l then .undef else .mref l' g
 | .clo f nf cs=>.clo f nf (zj l g0 n sz row cs)
 | .agg cs=>.agg (zj l g0 n sz row cs)
 | .tup cs=>.tup (zj l g0 n sz row cs)
 | d=>d
def zj(l g0 n sz:Nat)(row:Nat->List D):List D->List D
 | []=>[]
 | c::cs=>c.fz l g0 n sz row::zj l g0 n sz row cs
end
def wm(l g0 n sz)(row):∀cs:List D,(zj l g0 n sz row cs).length=cs.length
 | []=>rfl
 | _::cs=>by simp[zj,wm l g0 n sz row cs]
def G1(l g0 n sz)(row):∀(cs:List D) (i:Nat),i<cs.length->nth (zj l g0 n sz row cs) i=(nth cs i).fz l g0 n sz row
 | [],i,h=>by simp at h
 | c::cs,0,_=>by simp[zj,nth]
 | c::cs,i+1,h=>by
  have:=G1 l g0 n sz row cs i (by simpa using h);simpa[zj,nth] using this
theorem Qmn(l g0 n sz)(row)(c)(a b):zj l g0 n sz row (bif c then a else b)=bif c then zj l g0 n sz row a else zj l g0 n sz row b:=by cases c<;>rfl
def tJ(l g0 n sz:Nat)(row:Nat->List D):List (Nat × D)->List (Nat × D)
 | []=>[]
 | (t,d)::r=>(t,d.fz l g0 n sz row)::tJ l g0 n sz row r
def Qgh(l g0 n sz)(row):∀(fr:List (Nat × D)) (t:Nat),get (tJ l g0 n sz row fr) t=(get fr t).fz l g0 n sz row
 | [],t=>rfl
 | (u,d)::r,t=>by
  simp only[tJ,get];cases Nat.beq u t
  ·exact Qgh l g0 n sz row r t
  ·rfl
def Ob.fz(l g0 n sz:Nat)(row:Nat->List D)(o:Ob):Ob:=⟨o.kd,o.gen,o.sz,o.n,λi=>zj l g0 n sz row (o.row i)⟩
def tK(l g0 n sz:Nat)(row:Nat->List D):List Ob->List Ob
 | []=>[]
 | o::r=>o.fz l g0 n sz row::tK l g0 n sz row r
def Qan(l g0 n sz)(row):∀h:List Ob,tK l g0 n sz row h=h.map (Ob.fz l g0 n sz row)
 | []=>rfl
 | o::r=>by simp[tK,Qan l g0 n sz row r]
def Ob.gone(o:Ob):Ob:=⟨.arr,o.gen+1,o.sz,0,λ_=>[]⟩
section
variable {Z:Nat->Prop}
def Qmo{N}{w}(l g0 n sz)(row){d:D}{v}(c:Cl N w d v):Cl N w (d.fz l g0 n sz row) v:=by
 induction c with
 | raw v=>exact .raw v
 | undef v=>exact .undef v
 | nil a=>exact .nil a
 | imm s m r a cap b o vs ha hl hs hc hr ih=>exact .imm s m r a cap b o vs ha hl hs hc hr
 | ip cells b o vs hc hr ih=>exact .ip cells b o vs hc hr
 | clo f nf cs vs hl hr ih=>exact .clo f nf _ vs (by rw[wm];exact hl) (λi hi=>by rw[wm]at hi;rw[G1 _ _ _ _ _ _ _ hi];exact ih i hi)
 | agg cs vs hl hr ih=>exact .agg _ vs (by rw[wm];exact hl) (λi hi=>by rw[wm]at hi;rw[G1 _ _ _ _ _ _ _ hi];exact ih i hi)
 | tup cs vs hl hr ih=>exact .tup _ vs (by rw[wm];exact hl) (λi hi=>by rw[wm]at hi;rw[G1 _ _ _ _ _ _ _ hi];exact ih i hi)
def QA.fz{h:List Ob}{pl:List Pl}{w:World}{l:Nat}{o:Ob}{p:Pl}(ho:h[l]? = some o)(hp:pl[l]? = some p)(hk:o.kd.ty=0)(hb:∀b q,p=some (b,q)->Z b/\(∀l' q',pl[l']? = some (some (b,q'))->l'=l)/\NS Z h pl w o b q)
  (Z6:∀i,i<o.n->(o.row i).all D.Y6=true) {h':List Ob} (hh:∀(l':Nat) (o':Ob),l'≠l->h[l']? = some o'->∃u,h'[l']? = some u/\u.gen=o'.gen/\u.sz=o'.sz/\u.kd.ty=o'.kd.ty) {d:D} {v:Value} (r:QA Z h pl w d v) :
  QA Z h' (pl.set l none) w (d.fz l o.gen o.n o.sz o.row) v:=by
 have Zf:∀(l':Nat),l'≠l->(pl.set l none)[l']? = pl[l']? := λl' Yt=>by rw[JL (Q3 Yt)]
 have Lj:∀b,WU pl b->WU (pl.set l none) b:=λb hb l' q e=>by
  by_cases e1:l'=l
  ·subst e1;rw[WE (VU hp)]at e;cases e
  ·rw[Zf l' e1]at e;exact hb l' q e
 have X4:∀b,free Z pl b->free Z (pl.set l none) b:=λb hb=>⟨hb.1,Lj b hb.2⟩;have CN:∀b q,p=some (b,q)->free Z (pl.set l none) b:=λb q e=>⟨(hb b q e).1,λl' q' e'=>by
  by_cases e1:l'=l
  ·subst e1;rw[WE (VU hp)]at e';cases e'
  ·rw[Zf l' e1]at e';exact e1 ((hb b q e).2.1 l' q' e')⟩
 have Bb:∀b q,p=some (b,q)->∃c el,w.heap[b]? = some (.cells c el (0,0))/\(∀i,i<o.n->(o.row i).length=o.sz)/\∃vs:Nat->Nat->Value,∀i j,i<o.n->j<o.sz->w.cell? ⟨b,q+(i*o.sz+j),none⟩=some (vs i j)/\Cl (free Z (pl.set l none)) w (nth (o.row i) j) (vs i j):=λb q e=>by
  obtain⟨c,el,h1,_,h3,h4⟩:=(hb b q e).2.2;refine⟨c,el,h1,h3,λi j=>(c[q+(i*o.sz+j)]?).getD Go.undef,λi j hi hj=>?_⟩;obtain⟨u,hu,hr⟩:=h4 i j hi hj;refine⟨by rw[cell_of_row w b _ c el (0,0) h1,hu];simp[hu],?_⟩;simp only[hu,KS];have h5:=Z6 i hi;rw[jN]at h5;have h6:j<(o.row i).length:=by rw[h3 i hi];exact hj
  have h7:(nth (o.row i) j).Y6=true:=h5 _ (by simp only[nth,Q8,QP h6,KS];exact qz h6);exact(GG hr h7).mono λx hx _=>⟨X4 x hx,rfl⟩
 induction r with
 | cl d v hc=>exact .cl _ _ (Qmo l o.gen o.n o.sz o.row (hc.mono λb hb _=>⟨X4 b hb,rfl⟩))
 | ref l' g off len o' p' a cap Zv ZN ZD hg hs=>
  by_cases e:l'=l
  ·subst e;rw[ho]at Zv;cases Zv;rw[hp]at ZN;cases ZN;simp only[D.fz,Iz,jQ];cases hc:(Nat.beq g o.gen&&Nat.ble (off+len) o.n)
   ·exact .cl _ _ (.undef _)
   ·simp only[jQ,ZJ,Vz,Gi]at hc ⊢;rcases hs hc.1 with ⟨h1,h2⟩|⟨b,q,c,el,VI,ha,EV,Jp,Ba⟩
    ·subst h1;subst h2;exact .cl _ _ (.imm _ _ _ _ _ 0 0 (λ_ _=>Go.undef) (λh=>by omega) (by omega) (λi hi=>by omega) (λi j hi=>by omega) (λi j hi=>by omega))
    ·obtain⟨c',SX,k1,k2,vs,k3⟩:=Bb b q VI;refine .cl _ _ (.imm _ _ _ _ _ b (q+off*o.sz) (λi j=>vs (off+i) j) (λ_=>ha) Ba (λi hi=>k2 _ (by omega)) (λi j hi hj=>⟨CN b q VI,?_⟩) (λi j hi hj=>(k3 (off+i) j (by omega) hj).2));rw[<- (k3 (off+i) j (by omega) hj).1,Vl,show q+off*o.sz+(i*o.sz+j)=q+(off*o.sz+i*o.sz+j) by omega]
  ·have QB:Nat.beq l' l=false:=by rw[<- W3,Vz];exact e
   simp only[D.fz,QB,qB];obtain⟨u,u1,u2,u3,u4⟩:=hh l' o' e Zv;exact .ref l' g off len u p' a cap u1 (by rw[Zf l' e];exact ZN) (by rw[u4];exact ZD) (by rw[u2];exact hg) (by rw[u2,u3];exact hs)
 | ptr l' g i j o' p' a Zv ZN ZD hg hs=>
  by_cases e:l'=l
  ·subst e;rw[ho]at Zv;cases Zv;rw[hp]at ZN;cases ZN;simp only[D.fz,Iz,jQ];cases hc:(Nat.beq g o.gen&&Nat.blt i o.n&&Nat.ble j o.sz)
   ·exact .cl _ _ (.undef _)
   ·simp only[jQ,ZJ,Vz,Gi,kN]at hc ⊢;obtain⟨b,q,VI,ha⟩:=hs hc.1.1;obtain⟨c',SX,k1,k2,vs,k3⟩:=Bb b q VI;subst ha;have hlen:((o.row i).drop j).length=o.sz - j:=by rw[List.length_drop,k2 i hc.1.2]
    refine .cl _ _ (.ip _ b _ (λk=>vs i (j+k)) (λk hk=>⟨CN b q VI,?_⟩) (λk hk=>?_))
    ·rw[<- (k3 i (j+k) hc.1.2 (by omega)).1];congr 1;simp
    ·rw[Ep];exact(k3 i (j+k) hc.1.2 (by omega)).2
  ·have QB:Nat.beq l' l=false:=by rw[<- W3,Vz];exact e
   simp only[D.fz,QB,qB];obtain⟨u,u1,u2,u3,u4⟩:=hh l' o' e Zv;exact .ptr l' g i j u p' a u1 (by rw[Zf l' e];exact ZN) (by rw[u4];exact ZD) (by rw[u2];exact hg) (by rw[u2,u3];exact hs)
 | mref l' g o' p' b Zv ZN ZD hg hs=>
  by_cases e:l'=l
  ·subst e;rw[ho]at Zv;cases Zv;exact absurd hk ZD.1
  ·have QB:Nat.beq l' l=false:=by rw[<- W3,Vz];exact e
   simp only[D.fz,QB,qB];obtain⟨u,u1,u2,u3,u4⟩:=hh l' o' e Zv;exact .mref l' g u p' b u1 (by rw[Zf l' e];exact ZN) (by rw[u4];exact ZD) (by rw[u2];exact hg) (by rw[u2];exact hs)
 | clo f nf cs vs hl hr ih=>exact .clo f nf _ vs (by rw[wm];exact hl) (λi hi=>by rw[wm]at hi;rw[G1 _ _ _ _ _ _ _ hi];exact ih i hi)
 | agg cs vs hl hr ih=>exact .agg _ vs (by rw[wm];exact hl) (λi hi=>by rw[wm]at hi;rw[G1 _ _ _ _ _ _ _ hi];exact ih i hi)
 | tup cs vs hl hr ih=>exact .tup _ vs (by rw[wm];exact hl) (λi hi=>by rw[wm]at hi;rw[G1 _ _ _ _ _ _ _ hi];exact ih i hi)
end
def QI.freeze{w0:Start}(hF:w0.pl=[])(l){fr}{h:List Ob}{o:Ob}(ho:h[l]? = some o)(hk:o.kd.ty=0)(Z6:∀i,i<o.n->(o.row i).all D.Y6=true):
  QI w0 ⟨fr,h⟩ ⟨tJ l o.gen o.n o.sz o.row fr,(tK l o.gen o.n o.sz o.row h).set l o.gone⟩:=by
 intro Z z base nt pl a w r b;have hlen:pl.length=h.length:=r.o.len;have hlp:l<pl.length:=by have h1:=Ku ho;omega
 have hp:pl[l]? = some pl[l]:=QP hlp;generalize rC:pl[l]=p at hp;have QnI:∀bb,WU w0.pl bb:=λbb i q e=>by rw[hF]at e;simp at e
 have QtM:∀l' bb q:Nat,pl[l']? = some (some (bb,q))->w0.w.heap.size<=bb:=λl' bb q e=>by
  rcases A3 bb w0.w.heap.size with Qc|wg
  ·exact absurd e ((b.2.1.Kj bb (QnI bb) Qc).1 l' q)
  ·exact wg
 have Wo:∀bb q,p=some (bb,q)->Z bb/\(∀l' q',pl[l']? = some (some (bb,q'))->l'=l)/\NS Z h pl w o bb q:=λbb q e=>by
  subst e;exact⟨b.2.2.own l bb q hp (QtM l bb q hp),λl' q' e'=>r.o.inj _ _ _ _ _ e' hp,(r.o.at_ l o bb q ho hp).2.cells hk⟩
 have hh:∀(l':Nat) (o':Ob),l'≠l->h[l']? = some o'->∃u,((tK l o.gen o.n o.sz o.row h).set l o.gone)[l']? = some u/\u.gen=o'.gen/\u.sz=o'.sz/\u.kd.ty=o'.kd.ty:=λl' o' QB e=>
  ⟨o'.fz l o.gen o.n o.sz o.row,by rw[JL (Q3 QB),Qan,Ky,e];rfl,rfl,rfl,rfl⟩
 have Zf:∀(l':Nat),l'≠l->(pl.set l none)[l']? = pl[l']? := λl' Yt=>by rw[JL (Q3 Yt)]
 have xy:(pl.set l none)[l]? = some none:=WE hlp;have LR:∀l' bb q:Nat,(pl.set l none)[l']? = some (some (bb,q))->l'≠l/\pl[l']? = some (some (bb,q)):=λl' bb q e=>by
  by_cases e1:l'=l
  ·subst e1;rw[xy]at e;cases e
  ·exact⟨e1,by rw[<- Zf l' e1];exact e⟩
 refine⟨pl.set l none,⟨r.nt,r.defers,λt=>?_,⟨?_,λl1 l2 bb q q' e1 e2=>?_,λl1 o1 h1 e1=>?_,λl1 o1 bb q h1 e1=>?_⟩⟩,b.1,⟨λbb hb Qc=>?_,λl1 o1 p1 h1 e1=>?_,λl1 o1 o2 bb q h1 h2 hg e1=>?_⟩,b.2.2.new,λl1 bb q e h0=>b.2.2.own l1 bb q (LR _ _ _ e).2 h0⟩
 ·show QA Z _ _ w (get (tJ l o.gen o.n o.sz o.row fr) t) _;rw[Qgh];exact(r.fr t).fz ho hp hk Wo Z6 hh
 ·simp[Qan,hlen]
 ·exact r.o.inj l1 l2 bb q q' (LR _ _ _ e1).2 (LR _ _ _ e2).2
 ·by_cases e2:l1=l
  ·subst e2;rw[WE (by rw[Qan];simp;omega)]at h1;cases h1;rfl
  ·rw[JL (Q3 e2),Qan,Ky]at h1;rw[Zf l1 e2]at e1;obtain⟨u,hu,rfl⟩:=XA.1 h1;exact r.o.Vv l1 u hu e1
 ·obtain⟨QB,e2⟩:=LR _ _ _ e1;rw[JL (Q3 QB),Qan,Ky]at h1;obtain⟨u,hu,rfl⟩:=XA.1 h1;obtain⟨g1,x⟩:=r.o.at_ l1 u bb q hu e2;refine⟨g1,x.to rfl rfl rfl rfl (λi _=>wm _ _ _ _ _ _) λi j v hi hj hr=>?_⟩;show QA Z _ _ w (nth (zj _ _ _ _ _ (u.row i)) j) v;rw[G1 _ _ _ _ _ _ _ hj];exact hr.fz ho hp hk Wo Z6 hh
 ·obtain⟨k1,k2⟩:=b.2.1.Kj bb hb Qc;exact⟨λl' q e=>k1 l' q (LR _ _ _ e).2,k2⟩
 ·rw[hF]at e1;simp at e1
 ·rw[hF]at e1;simp at e1
attribute [go_sem] Qmm G0 D.fz zj Qmn tJ Ob.fz tK Ob.gone
end Go.Fg
namespace Go.Fg
def qb(f:D->D->Prop):List D->List D->Prop
 | [],[]=>True
 | a::r,b::s=>f a b/\qb f r s
 | _,_=>False
def Jv:Nat->D->D->Prop
 | 0,d,d'=>d'=d
 | k+1,d,d'=>match d' with
  | .raw v=>d=.raw v
  | .undef=>True
  | .nil=>d=.nil
  | .imm z n r=>match d with
   | .imm z' n' r'=>z=z'/\n=n'/\∀i,i<n->qb (Jv k) (r' i) (r i)
   | .nil=>n=0
   | _=>False
  | .ip cs=>match d with
   | .ip cs'=>qb (Jv k) cs' cs
   | _=>False
  | .ref l g o n=>d=.ref l g o n
  | .ptr l g i j=>d=.ptr l g i j
  | .mref l g=>d=.mref l g
  | .clo f nf cs=>match d with
   | .clo f' Uo cs'=>f=f'/\nf=Uo/\qb (Jv k) cs' cs
   | _=>False
  | .agg cs=>match d with
   | .agg cs'=>qb (Jv k) cs' cs
   | _=>False
  | .tup cs=>match d with
   | .tup cs'=>qb (Jv k) cs' cs
   | _=>False
def Af{f}(h:∀d,f d d):∀l,qb f l l
 | []=>trivial
 | a::r=>⟨h a,Af h r⟩
def xN:∀(k:Nat) (d:D),Jv k d d
 | 0,_=>rfl
 | k+1,d=>by cases d<;>simp[Jv]<;>first|exact Af (xN k) _|exact λ_ _=>Af (xN k) _
theorem Qmp(k)(l):qb (Jv k) l l=True:=eq_true (Af (xN k) l)
def Ag{f}:∀{l m:List D},qb f l m->m.length=l.length/\∀i,i<l.length->f (nth l i) (nth m i)
 | [],[],_=>⟨rfl,λi hi=>by simp at hi⟩
 | [],_::_,h=>h.elim
 | _::_,[],h=>h.elim
 | a::r,b::s,h=>by
  obtain⟨h1,h2⟩:=Ag h.2;refine⟨by simp[h1],λi hi=>?_⟩;cases i with
  | zero=>exact h.1
  | succ i=>have:=h2 i (by simpa using hi);simpa[nth] using this
def Lw:∀(k:Nat) {N:Nat->Prop} {w:World} {d d':D} {v:Value},Jv k d d'->Cl N w d v->Cl N w d' v
 | 0,_,_,d,d',v,h,c=>by have h:d'=d:=h;subst h;exact c
 | k+1,N,w,d,d',v,h,c=>by
  cases d'<;>simp only[Jv]at h;case raw=>subst h;exact c
  case undef=>exact .undef _
  case nil=>subst h;exact c
  case imm z n r=>
   split at h
   ·obtain⟨rfl,rfl,h⟩:=h;cases c with
    | imm _ _ _ a cap b o vs ha hl hs hc hr=>
     exact .imm _ _ _ a cap b o vs ha hl (λi hi=>by rw[(Ag (h i hi)).1];exact hs i hi) hc (λi j hi hj=>Lw k ((Ag (h i hi)).2 j (by rw[hs i hi];exact hj)) (hr i j hi hj))
   ·subst h;cases c with
    | nil a=>exact .imm _ _ _ _ _ 0 0 (λ_ _=>Go.undef) (λh=>by omega) (by omega) (λi hi=>by omega) (λi j hi=>by omega) (λi j hi=>by omega)
   ·exact h.elim
  case ip cs=>
   split at h
   ·obtain⟨h1,h2⟩:=Ag h;cases c with
    | ip _ b o vs hc hr=>exact .ip _ b o vs (λj hj=>hc j (by omega)) (λj hj=>Lw k (h2 j (by omega)) (hr j (by omega)))
   ·exact h.elim
  case ref=>subst h;exact c
  case ptr=>subst h;exact c
  case mref=>subst h;exact c
  case clo f nf cs=>
   split at h
   ·obtain⟨rfl,rfl,h⟩:=h;obtain⟨h1,h2⟩:=Ag h;cases c with
    | clo _ _ _ vs hl hr=>exact .clo _ _ _ vs (by omega) (λj hj=>Lw k (h2 j (by omega)) (hr j (by omega)))
   ·exact h.elim
  case agg cs=>
   split at h
   ·obtain⟨h1,h2⟩:=Ag h;cases c with
    | agg _ vs hl hr=>exact .agg _ vs (by omega) (λj hj=>Lw k (h2 j (by omega)) (hr j (by omega)))
   ·exact h.elim
  case tup cs=>
   split at h
   ·obtain⟨h1,h2⟩:=Ag h;cases c with
    | tup _ vs hl hr=>exact .tup _ vs (by omega) (λj hj=>Lw k (h2 j (by omega)) (hr j (by omega)))
   ·exact h.elim
def Ah:∀(k:Nat) {Z:Nat->Prop} {h:List Ob} {pl:List Pl} {w:World} {d d':D} {v:Value},Jv k d d'->QA Z h pl w d v->QA Z h pl w d' v
 | 0,_,_,_,_,d,d',v,e,c=>by have e:d'=d:=e;subst e;exact c
 | k+1,Z,h,pl,w,d,d',v,e,c=>by
  cases c with
  | cl _ _ hc=>exact .cl _ _ (Lw (k+1) e hc)
  | ref l g off len o p a cap ho hp hk hg hs=>
   cases d'<;>simp only[Jv,reduceCtorEq]at e
   ·exact .cl _ _ (.undef _)
   ·cases e;exact .ref l g off len o p a cap ho hp hk hg hs
  | ptr l g i j o p a ho hp hk hg hs=>
   cases d'<;>simp only[Jv,reduceCtorEq]at e
   ·exact .cl _ _ (.undef _)
   ·cases e;exact .ptr l g i j o p a ho hp hk hg hs
  | mref l g o p b ho hp hk hg hs=>
   cases d'<;>simp only[Jv,reduceCtorEq]at e
   ·exact .cl _ _ (.undef _)
   ·cases e;exact .mref l g o p b ho hp hk hg hs
  | clo f nf cs vs hl hr=>
   cases d'<;>simp only[Jv,reduceCtorEq]at e
   ·exact .cl _ _ (.undef _)
   ·obtain⟨rfl,rfl,e⟩:=e;obtain⟨h1,h2⟩:=Ag e;exact .clo _ _ _ vs (by omega) (λj hj=>Ah k (h2 j (by omega)) (hr j (by omega)))
  | agg cs vs hl hr=>
   cases d'<;>simp only[Jv,reduceCtorEq]at e
   ·exact .cl _ _ (.undef _)
   ·obtain⟨h1,h2⟩:=Ag e;exact .agg _ vs (by omega) (λj hj=>Ah k (h2 j (by omega)) (hr j (by omega)))
  | tup cs vs hl hr=>
   cases d'<;>simp only[Jv,reduceCtorEq]at e
   ·exact .cl _ _ (.undef _)
   ·obtain⟨h1,h2⟩:=Ag e;exact .tup _ vs (by omega) (λj hj=>Ah k (h2 j (by omega)) (hr j (by omega)))
def Told(R:D->List Ob->Prop)(d:D)(h:List Ob):Prop:=∃d',Jv 6 d d'/\R d' h
def MFn.Qmq{P}{f}{F}{cs' cs}{R}(h:MFn P f F cs R)(e:qb (Jv 6) cs' cs):MFn P f F cs' R:=λZ base w pl vs h1 h2 h3 hl hc=>by
 obtain⟨e1,e2⟩:=Ag e;exact h Z base w pl vs h1 h2 h3 (by omega) λi hi=>Ah 6 (e2 i (by omega)) (hc i (by omega))
def tM(fr:List (Nat × D)):List (Nat × D)->Prop
 | []=>True
 | (t,d)::r=>Jv 6 (get fr t) d/\tM fr r
def tN(o o':Ob):Prop:=o'.gen=o.gen/\o'.sz=o.sz/\o'.n=o.n/\o'.kd.Oq o.kd/\∀i,i<o.n->qb (Jv 6) (o.row i) (o'.row i)
def tO:List Ob->List Ob->Prop
 | [],[]=>True
 | o::r,o'::r'=>tN o o'/\tO r r'
 | _,_=>False
section
variable {k:Nat}{d:D}
theorem Qmr:Jv k d d=True:=eq_true (xN k d)
theorem Qms{v}:Jv (k+1) d (.raw v)=(d=.raw v):=rfl
theorem Qmt:Jv (k+1) d .undef=True:=rfl
theorem Qmu:Jv (k+1) d .nil=(d=.nil):=rfl
theorem Up{z n z' n'}{r r'}:Jv (k+1) (.imm z' n' r') (.imm z n r)=(z=z'/\n=n'/\∀i,i<n->qb (Jv k) (r' i) (r i)):=rfl
theorem Qmv{z n}{r}:Jv (k+1) .nil (.imm z n r)=(n=0):=rfl
theorem Qmw{l g o n}:Jv (k+1) d (.ref l g o n)=(d=.ref l g o n):=rfl
theorem Qmx{l g i j}:Jv (k+1) d (.ptr l g i j)=(d=.ptr l g i j):=rfl
theorem Qmy{l g}:Jv (k+1) d (.mref l g)=(d=.mref l g):=rfl
theorem Qmz{cs cs'}:Jv (k+1) (.ip cs') (.ip cs)=qb (Jv k) cs' cs:=rfl
theorem QmA{f f'}{nf Uo}{cs cs'}:Jv (k+1) (.clo f' Uo cs') (.clo f nf cs)=(f=f'/\nf=Uo/\qb (Jv k) cs' cs):=rfl
theorem QmB{cs cs'}:Jv (k+1) (.agg cs') (.agg cs)=qb (Jv k) cs' cs:=rfl
theorem QmC{cs cs'}:Jv (k+1) (.tup cs') (.tup cs)=qb (Jv k) cs' cs:=rfl
theorem QmD{f}:qb f [] []=True:=rfl
theorem QmE{f}{a b}{r s}:qb f (a::r) (b::s)=(f a b/\qb f r s):=rfl
end
attribute [go_sem] Qmr Qms Qmt Qmu Up Qmv Qmw Qmx Qmy Qmz QmA QmB QmC QmD QmE Qmp tM tN tO
end Go.Fg
namespace Go.Fg
open Go.RowKit (Below)
variable {Z:Nat->Prop}
def QA.Bs{h h':List Ob}{pl}{w}(key:∀(l:Nat) (o:Ob),h[l]? = some o->∃o',h'[l]? = some o'/\o'.gen=o.gen/\o'.sz=o.sz/\o'.kd.ty=o.kd.ty){d}{v}(r:QA Z h pl w d v):QA Z h' pl w d v:=by
 induction r with
 | cl d v hc=>exact .cl d v hc
 | ref l g off len o p a cap ho hp hk hg hs=>
  obtain⟨o',h3,h4,h5,h6⟩:=key l o ho;exact .ref l g off len o' p a cap h3 hp (by rw[h6];exact hk) (by rw[h4];exact hg) (λe=>by rw[h5];exact hs (by rw[e,h4]))
 | ptr l g i j o p a ho hp hk hg hs=>
  obtain⟨o',h3,h4,h5,h6⟩:=key l o ho;exact .ptr l g i j o' p a h3 hp (by rw[h6];exact hk) (by rw[h4];exact hg) (λe=>by rw[h5];exact hs (by rw[e,h4]))
 | mref l g o p b ho hp hk hg hs=>
  obtain⟨o',h3,h4,h5,h6⟩:=key l o ho;exact .mref l g o' p b h3 hp (by rw[h6];exact hk) (by rw[h4];exact hg) (λe=>hs (by rw[e,h4]))
 | clo f nf cs vs hl hr ih=>exact .clo f nf cs vs hl ih
 | agg cs vs hl hr ih=>exact .agg cs vs hl ih
 | tup cs vs hl hr ih=>exact .tup cs vs hl ih
def ZM{h:List Ob}{l:Nat}{o:Ob}(e:h[l]? = some o):(h.map Ob.ro)[l]? = some o.ro:=by rw[Ky,e];rfl
def E8{h:List Ob}{l:Nat}{o:Ob}(e:(h.map Ob.ro)[l]? = some o):∃o',h[l]? = some o'/\o=o'.ro:=by
 rw[Ky,XA]at e;obtain⟨o',h1,h2⟩:=e;exact⟨o',h1,h2.symm⟩
@[go_sem] theorem QDF(k:Kd)(g z n)(r):Ob.ro ⟨k,g,z,n,r⟩=⟨k.toRo,g,z,n,r⟩:=rfl
theorem ro_ro(o:Ob):o.ro.ro=o.ro:=by
 obtain⟨k,g,z,n,r⟩:=o;cases k<;>rfl
def Wf(P:Program)(f:FuncId)(h:List Ob)(args:List D)(R:D->List Ob->Prop):Prop:=
 MFn P f (h.map Ob.ro) args λd h'=>∃g,h'=h.map Ob.ro++g/\R d g
def Wf.mono{P}{f}{h}{args}{R R'}(hh:Wf P f h args R)(hr:∀d g,R d g->R' d g):Wf P f h args R':=MFn.mono hh λ_ _ ⟨g,h1,h2⟩=>⟨g,h1,hr _ _ h2⟩
section
variable {P:Program}{base nt:Nat}{w0:Start}{Q:Exit->St->Prop}
def tP(QX:base<=w0.w.heap.size){o:Oper}{s}{x}{args}{ZO:Array TypeId}{f}{nf}{Qz}(hf:Qq P f)(ho:o.op=.call ⟨.value x,args,ZO⟩)
  (hx:J4 (Qr s.fr x)=some (f,nf,Qz)) {R:D->List Ob->Prop} (hF:MFn P f s.h (Jj nf Qz (args.toList.map (Qr s.fr))) R)
  (ht:Zr nt o.dst=true) (pl:List Pl) (a:Act) (w:World) (r:Rel Z base nt s pl a w) (b:Kv Z base w0 s.h pl w) (Q':Exit->Act->World->Prop) :
  o.wp P a w (λa' w'=>∃d h Qj,R d h/\Rel Z base nt ⟨Zj s.fr o.dst d,h⟩ Qj a' w'/\Kv Z base w0 h Qj w'/\Tr s.h pl w h Qj w'/\∃v,a'=a.put o.dst v) Q':=by
 obtain⟨vs,hv,jY,CA⟩:=Om (r.eval x) hx;have Y7:base<=w.heap.size:=Kz QX b.1.size;obtain⟨q1,Vo⟩:=On (r:=λd v=>QA Z s.h pl w d v) (nf:=nf) jY CA (us:=args.toList.map a.eval) (args:=args.toList.map (Qr s.fr)) (by simp) (λi hi=>by
  have Jf:i<args.toList.length:=by simpa using hi
  simp only[nth,QW,Q8,Ky];rw[QP Jf];exact r.eval _)
 have hc:=hF Z base w pl (Jj nf vs (args.toList.map a.eval)) Y7 b.2.2.new r.o q1 Vo;unfold Oper.wp;rw[Oo hf ho hv w];simp only[Oper.upon_enter];refine hc.mono λe w' he=>?_;obtain⟨v,d,h',Qj,rfl,hR,hO,hV,hT,hB⟩:=he;refine⟨d,h',Qj,hR,?_,b.step hT hB,hT,v,rfl⟩;cases hd:o.dst with
 | none=>exact r.xo hT hO v
 | some t=>rw[hd]at ht;exact r.to hT hO (jf ht) hV
def KW(QX:base<=w0.w.heap.size){k}{dst}{ty:TypeId}{pos}{after}{gd}{r}{s}{x}{args}{ZO:Array TypeId}{f}{nf}{Qz}(hf:Qq P f)
  (hx:J4 (Qr s.fr x)=some (f,nf,Qz)) {cs:List D} (he:VL (Jj nf Qz (args.toList.map (Qr s.fr))) cs)
  {R:D->List Ob->Prop} (hF:MFn P f s.h cs R) (ht:Zr nt dst=true) (hk:∀d h,R d h->Qw P base nt w0 Q (.ops r::k) .normal ⟨Zj s.fr dst d,h⟩) :
  Qw P base nt w0 Q (.ops ((⟨dst,.call ⟨.value x,args,ZO⟩,ty,pos,after,gd⟩,none)::r)::k) .normal s:=by
 simp only[Qw]at hk ⊢;intro Z z pl a w rr b;simp only[X3,WG,K6];exact Oper.wp_mono (λa' w' ⟨d,h,Qj,hR,r',b',_⟩=>hk d h hR Z z Qj a' w' r' b') (tP QX hf rfl hx (hF.args he) ht pl a w rr b _)
def tQ(QX:base<=w0.w.heap.size){o:Oper}{s}{x}{args}{ZO:Array TypeId}{f}{nf}{Qz}(hf:Qq P f)(ho:o.op=.call ⟨.value x,args,ZO⟩)
  (hx:J4 (Qr s.fr x)=some (f,nf,Qz)) {R:D->List Ob->Prop} (hF:Wf P f s.h (Jj nf Qz (args.toList.map (Qr s.fr))) R)
  (ht:Zr nt o.dst=true) (pl:List Pl) (a:Act) (w:World) (r:Rel Z base nt s pl a w) (b:Kv Z base w0 s.h pl w) (Q':Exit->Act->World->Prop) :
  o.wp P a w (λa' w'=>Ext w w'/\∃d g Qj,R d g/\Rel Z base nt ⟨Zj s.fr o.dst d,s.h++g⟩ Qj a' w'/\Kv Z base w0 (s.h++g) Qj w'/\Tr s.h pl w (s.h++g) Qj w'/\∃v,a'=a.put o.dst v) Q':=by
 obtain⟨vs,hv,jY,CA⟩:=Om (r.eval x) hx;have Y7:base<=w.heap.size:=Kz QX b.1.size;obtain⟨q1,Vo⟩:=On (r:=λd v=>QA Z s.h pl w d v) (nf:=nf) jY CA (us:=args.toList.map a.eval) (args:=args.toList.map (Qr s.fr)) (by simp) (λi hi=>by
  have Jf:i<args.toList.length:=by simpa using hi
  simp only[nth,QW,Q8,Ky];rw[QP Jf];exact r.eval _)
 have k1:∀(l:Nat) (o:Ob),s.h[l]? = some o->∃o',(s.h.map Ob.ro)[l]? = some o'/\o'.gen=o.gen/\o'.sz=o.sz/\o'.kd.ty=o.kd.ty:=λl o e=>⟨o.ro,ZM e,rfl,rfl,Kd.toRo_ty _⟩;have OI:Ze Z w.heap.size (s.h.map Ob.ro) pl w:=by
  refine⟨by simp[r.o.len],r.o.inj,λl o ho hp=>?_,λl o b q ho hp=>?_⟩
  ·obtain⟨o',h1,rfl⟩:=E8 ho;exact r.o.Vv l o' h1 hp
  ·obtain⟨o',h1,rfl⟩:=E8 ho;obtain⟨_,x⟩:=r.o.at_ l o' b q h1 hp;exact⟨λhr=>(by rw[Ti,Kd.toRo_ro]at hr;cases hr),x.to (Kd.toRo_ty _) rfl rfl rfl (λ_ _=>rfl) λi j v _ _ hr=>hr.Bs k1⟩
 have hc:=hF Z w.heap.size w pl (Jj nf vs (args.toList.map a.eval)) (QD _) b.2.2.new OI q1 (λi hi=>(Vo i hi).Bs k1);unfold Oper.wp;rw[Oo hf ho hv w];simp only[Oper.upon_enter];refine hc.mono λe w' he=>?_;obtain⟨v,d,_,Qj,rfl,⟨g,rfl,hR⟩,hO,hV,hT,hB⟩:=he;have Zf:∀(l:Nat) (p:Pl),l<s.h.length->Qj[l]? = some p->pl[l]? = some p:=λl p hl e=>by
  have JA:l<pl.length:=by rw[r.o.len];exact hl
  obtain⟨o',p',e1,e2,_,_,e3⟩:=hT.obj l _ _ (ZM (QP hl)) (QP JA);rw[Jy (by simpa using hl),ZM (QP hl)]at e1;cases e1;obtain⟨_,e4⟩:=e3 rfl;rw[e]at e2;cases e2;rw[e4];exact QP JA
 have fA:∀(l:Nat) (p:Pl),l<s.h.length->pl[l]? = some p->Qj[l]? = some p:=λl p hl e=>by
  have JA:l<Qj.length:=by have:=hO.len;simp at this;omega
  have h1:=Zf l _ hl (QP JA);rw[e]at h1;cases h1;exact QP JA
 have T:Tr s.h pl w (s.h++g) Qj w':=by
  refine⟨hT.Kj,λl o p ho hp=>⟨o,p,by rw[Jy (Ku ho)];exact ho,fA l p (Ku ho) hp,QD _,rfl,λ_=>⟨rfl,rfl⟩⟩,λl o o' b q ho Zv hg hp c el hc=>⟨c,?_,rfl⟩⟩;rw[hB.block b (r.o.lt hp).1];exact hc
 have k2:∀(l:Nat) (o:Ob),(s.h.map Ob.ro++g)[l]? = some o->∃o',(s.h++g)[l]? = some o'/\o'.gen=o.gen/\o'.sz=o.sz/\o'.kd.ty=o.kd.ty:=λl o e=>by
  by_cases hl:l<s.h.length
  ·rw[Jy (by simpa using hl)]at e;obtain⟨o',h1,rfl⟩:=E8 e;exact⟨o',by rw[Jy hl];exact h1,rfl,rfl,(Kd.toRo_ty _).symm⟩
  ·rw[JT (by simpa using hl)]at e;exact⟨o,by rw[JT (by omega)];simpa using e,rfl,rfl,rfl⟩
 have GI:Ze Z base (s.h++g) Qj w':=by
  refine⟨by have:=hO.len;simpa using this,hO.inj,λl o ho hp=>?_,λl o b q ho hp=>?_⟩
  ·by_cases hl:l<s.h.length
   ·rw[Jy hl]at ho;exact r.o.Vv l o ho (Zf l _ hl hp)
   ·refine hO.Vv l o ?_ hp;rw[JT (by omega)]at ho;rw[JT (by simpa using hl)];simpa using ho
  ·by_cases hl:l<s.h.length
   ·rw[Jy hl]at ho;have vj:=Zf l _ hl hp;obtain⟨g1,x⟩:=r.o.at_ l o b q ho vj;exact⟨g1,x.to rfl rfl rfl (hB.block b (r.o.lt vj).1) (λ_ _=>rfl) λi j v _ _ hr=>hr.tr T⟩
   ·have e2:(s.h.map Ob.ro++g)[l]? = some o:=by
     rw[JT (by omega)]at ho;rw[JT (by simpa using hl)];simpa using ho
    obtain⟨g1,x⟩:=hO.at_ l o b q e2 hp;exact⟨λhr=>Kz Y7 (g1 hr),x.to rfl rfl rfl rfl (λ_ _=>rfl) λi j v _ _ hr=>hr.Bs k2⟩
 refine⟨λb hb=>hB.block b hb,d,g,Qj,hR,?_,b.step T (hB.mono Y7),T,v,rfl⟩;cases hd:o.dst with
 | none=>exact r.xo T GI v
 | some t=>rw[hd]at ht;exact r.to T GI (jf ht) (hV.Bs k2)
def Wf.args{f}{h}{cs' cs}{R}(hh:Wf P f h cs R)(e:VL cs' cs):Wf P f h cs' R:=MFn.args hh e
def E9(QX:base<=w0.w.heap.size){k}{dst}{ty:TypeId}{pos}{after}{gd}{r}{s}{x}{args}{ZO:Array TypeId}{f}{nf}{Qz}(hf:Qq P f)
  (hx:J4 (Qr s.fr x)=some (f,nf,Qz)) {cs:List D} (he:VL (Jj nf Qz (args.toList.map (Qr s.fr))) cs)
  {R:D->List Ob->Prop} (hF:Wf P f s.h cs R) (ht:Zr nt dst=true) (hk:∀d g,R d g->Qw P base nt w0 Q (.ops r::k) .normal ⟨Zj s.fr dst d,s.h++g⟩) :
  Qw P base nt w0 Q (.ops ((⟨dst,.call ⟨.value x,args,ZO⟩,ty,pos,after,gd⟩,none)::r)::k) .normal s:=by
 simp only[Qw]at hk ⊢;intro Z z pl a w rr b;simp only[X3,WG,K6];exact Oper.wp_mono (λa' w' ⟨_,d,h,Qj,hR,r',b',_⟩=>hk d h hR Z z Qj a' w' r' b') (tQ QX hf rfl hx (hF.args he) ht pl a w rr b _)
def OJ(QX:base<=w0.w.heap.size){K}{dst}{ty:TypeId}{pos}{after}{gd}{r}{s}{x}{args}{ZO:Array TypeId}{f}{nf}{Qz}(hf:Qq P f)
  (hx:J4 (Qr s.fr x)=some (f,nf,Qz)) {cs:List D} (he:VL (Jj nf Qz (args.toList.map (Qr s.fr))) cs) {R:D->List Ob->Prop} (hF:Wf P f s.h cs R)
  (ht:Zr nt dst=true) (hk:∀d g,R d g->AX P base nt w0 K r ⟨Zj s.fr dst d,s.h++g⟩) :
  AX P base nt w0 K ((false,⟨dst,.call ⟨.value x,args,ZO⟩,ty,pos,after,gd⟩,none)::r) s:=by
 simp only[AX,WI,Y8];intro Z z pl a w rr b;exact Oper.wp_mono (λa' w' ⟨hE,d,g,Qj,hR,r',b',T,v,e⟩=>⟨λ_=>hE,_,_,Qj,v,hk d g hR,r',b',T,e⟩) (tQ QX hf rfl hx (hF.args he) ht pl a w rr b _)
def QmF(QX:base<=w0.w.heap.size){k}{dst}{ty:TypeId}{pos}{after}{gd}{r}{s}{x}{li l c}{es}{seen}{q}
  (hx:Qr s.fr x=.mref li 0) (WV:s.h[li]? = some (Xs l c c seen)) {kd:Kd} (Jo:kd.ty=1) (Q9:s.h[l]? = some (VA kd q c es)) (ht:Zr nt dst=true)
  (h0:(∀e∈es,e.b∈seen)->Qw P base nt w0 Q (.ops r::k) .normal ⟨Zj s.fr dst (.tup [.raw (.bool false)]),s.h⟩)
  (h1:∀e∈es,e.b ∉ seen->Qw P base nt w0 Q (.ops r::k) .normal ⟨Zj s.fr dst (.tup [.raw (.bool true),.raw (.int q e.k),e.v]),s.h.set li (Xs l c c (seen++[e.b]))⟩) :
  Qw P base nt w0 Q (.ops ((⟨dst,.next x false,ty,pos,after,gd⟩,none)::r)::k) .normal s:=by
 simp only[Qw]at h0 h1 ⊢;intro Z z pl a w rr b;have Y7:base<=w.heap.size:=Kz QX b.1.size;simp only[X3,WG,K6];unfold Oper.wp;rcases Qk4 (o:=⟨dst,.next x false,ty,pos,after,gd⟩) rfl rr Y7 hx WV Jo Q9 with ⟨g1,g2⟩|⟨e,he,g1,v,w',g2,T,O,V,B⟩
 ·rw[g2];simp only[Oper.upon_value];refine h0 g1 Z z pl _ w ?_ b;have hv:QA Z s.h pl w (.tup [.raw (.bool false)]) (.tuple #[.bool false]):=.tup _ [.bool false] rfl λi hi=>match i,hi with
   | 0,_=>.cl _ _ (.raw _)
  cases dst with
  | none=>exact rr.xo (Tr.refl _ _ _) rr.o _
  | some t=>exact rr.to (Tr.refl _ _ _) rr.o (jf ht) hv
 ·rw[g2];simp only[Oper.upon_value];refine h1 e he g1 Z z pl _ w' ?_ (b.step T B);cases dst with
  | none=>exact rr.xo T O _
  | some t=>exact rr.to T O (jf ht) V
end
def Zg(P:Program)(f:FuncId)(h:List Ob)(args:List D)(R:D->Prop):Prop:=Wf P f h args λd _=>d.upto h.length=true/\R d
def Zg.mono{P}{f}{h:List Ob}{args}{R R'}(hh:Zg P f h args R)(hr:∀d,R d->R' d):Zg P f h args R':=Wf.mono hh λ_ _ h=>⟨h.1,hr _ h.2⟩
def Zg.args{P}{f}{h}{cs' cs}{R}(hh:Zg P f h cs R)(e:VL cs' cs):Zg P f h cs' R:=Wf.args hh e
section
variable {P:Program}{base nt:Nat}{w0:Start}{Q:Exit->St->Prop}
def tR(QX:base<=w0.w.heap.size){o:Oper}{s}{x}{args}{ZO:Array TypeId}{f}{nf}{Qz}(hf:Qq P f)(ho:o.op=.call ⟨.value x,args,ZO⟩)
  (hx:J4 (Qr s.fr x)=some (f,nf,Qz)) {R:D->Prop} (hF:Zg P f s.h (Jj nf Qz (args.toList.map (Qr s.fr))) R)
  (ht:Zr nt o.dst=true) (pl:List Pl) (a:Act) (w:World) (r:Rel Z base nt s pl a w) (b:Kv Z base w0 s.h pl w) (Q':Exit->Act->World->Prop) :
  o.wp P a w (λa' w'=>Ext w w'/\∃d,R d/\Rel Z base nt ⟨Zj s.fr o.dst d,s.h⟩ pl a' w'/\Kv Z base w0 s.h pl w'/\Tr s.h pl w s.h pl w'/\∃v,a'=a.put o.dst v) Q':=by
 obtain⟨vs,hv,jY,CA⟩:=Om (r.eval x) hx;have Y7:base<=w.heap.size:=Kz QX b.1.size;obtain⟨q1,Vo⟩:=On (r:=λd v=>QA Z s.h pl w d v) (nf:=nf) jY CA (us:=args.toList.map a.eval) (args:=args.toList.map (Qr s.fr)) (by simp) (λi hi=>by
  have Jf:i<args.toList.length:=by simpa using hi
  simp only[nth,QW,Q8,Ky];rw[QP Jf];exact r.eval _)
 have k1:∀(l:Nat) (o:Ob),s.h[l]? = some o->∃o',(s.h.map Ob.ro)[l]? = some o'/\o'.gen=o.gen/\o'.sz=o.sz/\o'.kd.ty=o.kd.ty:=λl o e=>⟨o.ro,ZM e,rfl,rfl,Kd.toRo_ty _⟩;have k3:∀(g:List Ob) (l:Nat) (o:Ob),(s.h.map Ob.ro++g)[l]? = some o->∃o',(s.h++g)[l]? = some o'/\o'.gen=o.gen/\o'.sz=o.sz/\o'.kd.ty=o.kd.ty:=λg l o e=>by
  by_cases hl:l<s.h.length
  ·rw[Jy (by simpa using hl)]at e;obtain⟨o',h1,rfl⟩:=E8 e;exact⟨o',by rw[Jy hl];exact h1,rfl,rfl,(Kd.toRo_ty _).symm⟩
  ·rw[JT (by simpa using hl)]at e;exact⟨o,by rw[JT (by omega)];simpa using e,rfl,rfl,rfl⟩
 have OI:Ze Z w.heap.size (s.h.map Ob.ro) pl w:=by
  refine⟨by simp[r.o.len],r.o.inj,λl o ho hp=>?_,λl o b q ho hp=>?_⟩
  ·obtain⟨o',h1,rfl⟩:=E8 ho;exact r.o.Vv l o' h1 hp
  ·obtain⟨o',h1,rfl⟩:=E8 ho;obtain⟨_,x⟩:=r.o.at_ l o' b q h1 hp;exact⟨λhr=>(by rw[Ti,Kd.toRo_ro]at hr;cases hr),x.to (Kd.toRo_ty _) rfl rfl rfl (λ_ _=>rfl) λi j v _ _ hr=>hr.Bs k1⟩
 have hc:=hF Z w.heap.size w pl (Jj nf vs (args.toList.map a.eval)) (QD _) b.2.2.new OI q1 (λi hi=>(Vo i hi).Bs k1);unfold Oper.wp;rw[Oo hf ho hv w];simp only[Oper.upon_enter];refine hc.mono λe w' he=>?_;obtain⟨v,d,_,Qj,rfl,⟨g,rfl,hu,hR⟩,hO,hV,hT,hB⟩:=he;have hE:Ext w w':=λb hb=>hB.block b hb;have T0:Tr s.h pl w s.h pl w':=Tr.ext r.o hE;have Fa:QA Z s.h pl w' d v:=by
  have h1:=hV.take hu;have e1:(s.h.map Ob.ro++g).take s.h.length=s.h.map Ob.ro:=List.take_left' (by simp);have e2:Qj.take s.h.length=pl:=by
   apply xh;intro i;rw[W5];by_cases hi:i<s.h.length
   ·rw[Qg hi];have Ys:i<pl.length:=by rw[r.o.len];exact hi
    obtain⟨o',p',m1,m2,_,_,m3⟩:=hT.obj i _ _ (ZM (QP hi)) (QP Ys);rw[Jy (by simpa using hi),ZM (QP hi)]at m1;cases m1;obtain⟨_,rfl⟩:=m3 rfl;rw[m2,QP Ys]
   ·rw[Qd hi,Ed (by rw[r.o.len];omega)]
  rw[e1,e2]at h1;exact h1.Bs λl o e=>by
   obtain⟨o',h1,rfl⟩:=E8 e;exact⟨o',h1,rfl,rfl,(Kd.toRo_ty _).symm⟩
 refine⟨hE,d,hR,?_,b.step T0 (hB.mono Y7),T0,v,rfl⟩;have r':=r.ext hE;cases hd:o.dst with
 | none=>exact r'.xo (Tr.refl _ _ _) r'.o v
 | some t=>rw[hd]at ht;exact r'.to (Tr.refl _ _ _) r'.o (jf ht) Fa
def ZT(QX:base<=w0.w.heap.size){k}{dst}{ty:TypeId}{pos}{after}{gd}{r}{s}{x}{args}{ZO:Array TypeId}{f}{nf}{Qz}(hf:Qq P f)
  (hx:J4 (Qr s.fr x)=some (f,nf,Qz)) {cs:List D} (he:VL (Jj nf Qz (args.toList.map (Qr s.fr))) cs)
  {R:D->Prop} (hF:Zg P f s.h cs R) (ht:Zr nt dst=true) (hk:∀d,R d->Qw P base nt w0 Q (.ops r::k) .normal ⟨Zj s.fr dst d,s.h⟩) :
  Qw P base nt w0 Q (.ops ((⟨dst,.call ⟨.value x,args,ZO⟩,ty,pos,after,gd⟩,none)::r)::k) .normal s:=by
 simp only[Qw]at hk ⊢;intro Z z pl a w rr b;simp only[X3,WG,K6];exact Oper.wp_mono (λa' w' ⟨_,d,hR,r',b',_⟩=>hk d hR Z z pl a' w' r' b') (tR QX hf rfl hx (hF.args he) ht pl a w rr b _)
def Wv(QX:base<=w0.w.heap.size){K}{dst}{ty:TypeId}{pos}{after}{gd}{r}{s}{x}{args}{ZO:Array TypeId}{f}{nf}{Qz}(hf:Qq P f)
  (hx:J4 (Qr s.fr x)=some (f,nf,Qz)) {cs:List D} (he:VL (Jj nf Qz (args.toList.map (Qr s.fr))) cs) {R:D->Prop} (hF:Zg P f s.h cs R)
  (ht:Zr nt dst=true) (hk:∀d,R d->AX P base nt w0 K r ⟨Zj s.fr dst d,s.h⟩) :
  AX P base nt w0 K ((false,⟨dst,.call ⟨.value x,args,ZO⟩,ty,pos,after,gd⟩,none)::r) s:=by
 simp only[AX,WI,Y8];intro Z z pl a w rr b;exact Oper.wp_mono (λa' w' ⟨hE,d,hR,r',b',T,v,e⟩=>⟨λ_=>hE,_,_,pl,v,hk d hR,r',b',T,e⟩) (tR QX hf rfl hx (hF.args he) ht pl a w rr b _)
end
def Qc{h:List Ob}{l}{o}(e:h[l]? = some o):l<h.length:=Ku e
def QC{h t:List Ob}{l}(hl:l<h.length):(h++t)[l]? = h[l]? := Jy hl
def Ko{h t:List Ob}{n}(hn:h.length=n):(h++t)[n]? = t[0]? := by rw[<- hn,JT (QD _),Cd]
def KX{h t:List Ob}{n k}(hn:h.length=n):(h++t)[n+k]? = t[k]? := by rw[<- hn,JT (by omega),Su]
def Bt{h t:List Ob}{l}{o}(hl:l<h.length):(h++t).set l o=h.set l o++t:=Sq _ _ hl
def Uq{h t:List Ob}{n}{o}(hn:h.length=n):(h++t).set n o=h++t.set 0 o:=by rw[<- hn,Ix _ _ (QD _),Cd]
def QmG{h t:List Ob}{n k}{o}(hn:h.length=n):(h++t).set (n+k) o=h++t.set k o:=by rw[<- hn,Ix _ _ (by omega),Su]
def Qv{h:List Ob}{l}{o}(hl:l<h.length):(h.set l o)[l]? = some o:=WE hl
def Qi{h:List Ob}{l m}{o}(hn:l≠m):(h.set l o)[m]? = h[m]? := JL hn
def Zt{P:Program}{X}(hX:Y0 P X){f}{fn:Func}{c}(n)(hf:P.funcs[f]? = some fn)(hb:fn.body=some c){h}{args:List D}{R}{nt}{rs}(kW:fn.ntmps=nt)(zf:fn.results=rs)(hn:Nat.ble args.length nt=true)
  (hh:∀(base:Nat) (w:World) (pl:List Pl) (F:List Ob),F=h.map Ob.ro->F.length=h.length->base<=w.heap.size->hx P base ⟨w,F,pl⟩ (EL X.L rs.toList λd h'=>∃g,h'=F++g/\d.upto F.length=true/\R d) X nt n [.code c] ⟨wi args 0,F⟩):Zg P f h args R:=
 (QU hX n hf hb kW zf hn λbase w pl hb=>hh base w pl _ rfl (by simp) hb).mono λd h' ⟨g,h1,h2,h3⟩=>⟨g,h1,by simpa using h2,h3⟩
def Ai{P:Program}{X}(hX:Y0 P X){f}{fn:Func}{c}(n)(hf:P.funcs[f]? = some fn)(hb:fn.body=some c){h}{args:List D}{R}{nt}{rs}(kW:fn.ntmps=nt)(zf:fn.results=rs)(hn:Nat.ble args.length nt=true)
  (hh:∀(base:Nat) (w:World) (pl:List Pl) (F:List Ob),F=h.map Ob.ro->F.length=h.length->base<=w.heap.size->hx P base ⟨w,F,pl⟩ (EL X.L rs.toList λd h'=>∃g,h'=F++g/\R d g) X nt n [.code c] ⟨wi args 0,F⟩):Wf P f h args R:=
 QU hX n hf hb kW zf hn λbase w pl hb=>hh base w pl _ rfl (by simp) hb
attribute [go_sem] Tw Tz kU EH Tv rS rT rR Qk7 rU Qk8 Qk9 Tp Tq IS EB Tt Tu eL rG eK rF rH eM rI QkQ QkR QkS QkT Ti QkU QkV ro_ro A9
def Qa:(∀{h t:List Ob} {l:Nat},l<h.length->(h++t)[l]? = h[l]?)/\(∀{h t:List Ob} {n:Nat},h.length=n->(h++t)[n]? = t[0]?)/\(∀{h t:List Ob} {n k:Nat},h.length=n->(h++t)[n+k]? = t[k]?)/\(∀{h t:List Ob} {l:Nat} {o:Ob},l<h.length->(h++t).set l o=h.set l o++t)/\(∀{h t:List Ob} {n:Nat} {o:Ob},h.length=n->(h++t).set n o=h++t.set 0 o)/\(∀{h t:List Ob} {n k:Nat} {o:Ob},h.length=n->(h++t).set (n+k) o=h++t.set k o)/\(∀{α:Type} {a b:List α},(a++b).length=a.length+b.length)/\(∀{α:Type} {i:Nat} {a:α} {l:List α},(l.set i a).length=l.length)/\(∀{α:Type} (a b c:List α),a++b++c=a++(b++c))/\(∀{α:Type} {a b:α} (l:List α) {i:Nat},(l.set i a).set i b=l.set i b):=
 ⟨QC,Ko,KX,Bt,Uq,QmG,ZX,Ki,Wb,λ_=>Ji _⟩
end Go.Fg
