/- Contracts and laws on the way to the statement. No conditions. -/
import Derived.WalkKit
import Derived.WalkLawsBesides
import Derived.WalkSpells
import Derived.ChangeKeysEq
import Derived.Maps.RangeRun
import Derived.Scope
set_option maxRecDepth 100000
set_option maxHeartbeats 16000000
set_option linter.unusedVariables false
set_option linter.unusedSimpArgs false
set_option linter.unusedSectionVars false
set_option linter.defProp false
namespace Go.Fg
open Go.RowKit (Below)
def vP:=@Array.getD_eq_getD_getElem?
def Im:=@Array.getElem!_eq_getD
def Ip:=@Array.getElem?_append_left
def qZ:=@Array.getElem?_eq_getElem
def VT:=@Array.getElem?_eq_some_iff
def de:=@Array.getElem?_modify
def Sc:=@Array.getElem?_push
def xg:=@Array.getElem?_setIfInBounds
def df:=@Array.getElem?_setIfInBounds_ne
def jM:=@Array.getElem?_toList
def dh:=@Array.getElem_setIfInBounds
def F9:=@Bool.and_eq_false_iff
def ZJ:=@Bool.and_eq_true
def zT:=@Bool.eq_false_iff
def kG:=@Bool.eq_iff_iff
def Ga:=@Bool.false_and
def Yn:=@Bool.false_eq_true
def Qhn:=@Bool.false_ne_true
def NA:=@Bool.false_or
def W3:=@Bool.not_eq_true
def qy:=@Bool.not_eq_true'
def Gb:=@Bool.not_false
def Ca:=@Bool.not_true
def Ea:=@Bool.or_eq_false_iff
def yD:=@Bool.or_eq_true
def Iq:=@Bool.true_and
def vQ:=@Classical.byContradiction
def Ir:=@Classical.not_forall
def Sd:=@Function.comp_def
def Se:=@Int.natCast_mul
def Gc:=@Int.toNat_of_nonneg
def Is:=@List.Pairwise.filter
def Iu:=@List.Perm.refl
def jN:=@List.all_eq_true
def Eb:=@List.any_eq_true
def Wb:=@List.append_assoc
def Sf:=@List.append_inj
def Zd:=@List.append_nil
def kH:=@List.cons.inj
def Gd:=@List.cons.injEq
def XW:=@List.cons_append
def Iv:=@List.drop_eq_getElem_cons
def Sg:=@List.drop_eq_nil_of_le
def dt:=@List.eq_nil_iff_forall_not_mem
def xh:=@List.ext_getElem?
def NB:=@List.filter_append
def Si:=@List.filter_congr
def kI:=@List.filter_cons
def NC:=@List.filter_cons_of_neg
def ND:=@List.filter_cons_of_pos
def xi:=@List.filter_eq_self
def NF:=@List.filter_map
def kJ:=@List.find?_cons
def zU:=@List.find?_eq_none
def vR:=@List.find?_some
def Ge:=@List.findIdx?_eq_none_iff
def Ec:=@List.findIdx?_eq_some_iff_getElem
def Gf:=@List.foldl_append
def xj:=@List.foldl_cons
def Q8:=@List.getD_eq_getElem?_getD
def Jy:=@List.getElem?_append_left
def JT:=@List.getElem?_append_right
def Gg:=@List.getElem?_drop
def QP:=@List.getElem?_eq_getElem
def Ed:=@List.getElem?_eq_none
def Wc:=@List.getElem?_eq_some_iff
def Ky:=@List.getElem?_map
def Ee:=@List.getElem?_of_mem
def Sj:=@List.getElem?_range
def JL:=@List.getElem?_set_ne
def WE:=@List.getElem?_set_self
def W5:=@List.getElem?_take
def qz:=@List.getElem_mem
def yE:=@List.getElem_of_mem
def ZX:=@List.length_append
def Vu:=@List.length_cons
def NG:=@List.length_eq_zero_iff
def Yo:=@List.length_filter_le
def J6:=@List.length_map
def QkI:=@List.length_pos_iff
def Ki:=@List.length_set
def zV:=@List.length_singleton
def vS:=@List.map_append
def Sk:=@List.map_congr_left
def Jz:=@List.map_cons
def Ef:=@List.map_map
def QT:=@List.mem_append
def Sl:=@List.mem_append_left
def Iw:=@List.mem_append_right
def QF:=@List.mem_cons
def Ks:=@List.mem_cons_of_mem
def Va:=@List.mem_cons_self
def JE:=@List.mem_filter
def Jn:=@List.mem_map
def xk:=@List.mem_of_find?_eq_some
def NH:=@List.mem_of_getElem?
def NI:=@List.mem_range
def qA:=@List.mem_singleton
def YT:=@List.nil_append
def JF:=@List.nodup_append
def ZK:=@List.nodup_cons
def Sm:=@List.pairwise_append
def yF:=@List.pairwise_cons
def Sn:=@List.pairwise_map
def Sp:=@List.replicate_succ
def Sq:=@List.set_append_left
def Ix:=@List.set_append_right
def Ji:=@List.set_set
def Eg:=@List.size_toArray
def Sr:=@List.takeWhile_cons
def Ss:=@List.takeWhile_sublist
def Eh:=@List.take_add_one
def Ei:=@List.take_append_drop
def zW:=@List.take_length
def Vl:=@Nat.add_mul
def Iy:=@Nat.add_sub_cancel
def Su:=@Nat.add_sub_cancel_left
def Gh:=@Nat.add_zero
def Sv:=@Nat.and_lt_two_pow
def Vz:=@Nat.beq_eq
def Iz:=@Nat.beq_refl
def Gi:=@Nat.ble_eq
def kN:=@Nat.blt_eq
def Sw:=@Nat.div_add_mod
def Sx:=@Nat.div_le_self
def Sy:=@Nat.div_mod_unique
def NJ:=@Nat.eq_of_beq_eq_true
def Sz:=@Nat.le_of_ble_eq_true
def QD:=@Nat.le_refl
def Qi6:=@Nat.le_succ
def Kz:=@Nat.le_trans
def Gj:=@Nat.lt_irrefl
def NK:=@Nat.lt_of_le_of_lt
def jO:=@Nat.lt_of_lt_of_le
def A3:=@Nat.lt_or_ge
def Cb:=@Nat.lt_succ_iff_lt_or_eq
def Gk:=@Nat.lt_succ_self
def yG:=@Nat.mod_eq_of_lt
def XX:=@Nat.mod_lt
def NL:=@Nat.mul_assoc
def IA:=@Nat.mul_comm
def kO:=@Nat.mul_le_mul
def Yp:=@Nat.mul_le_mul_right
def XY:=@Nat.not_lt_zero
def Qam:=@Nat.one_mul
def Cc:=@Nat.shiftRight_eq_div_pow
def Cd:=@Nat.sub_self
def Ej:=@Nat.sub_zero
def SA:=@Nat.two_pow_pos
def NM:=@Nat.xor_lt_two_pow
def JG:=@Nat.zero_add
def JQ:=@Nat.zero_le
def NN:=@Nat.zero_lt_succ
def Q3:=@Ne.symm
def SB:=@Option.bind_some
def IB:=@Option.getD_none
def KS:=@Option.getD_some
def Ce:=@Option.isSome_iff_exists
def kP:=@Option.isSome_none
def jP:=@Option.isSome_some
def dw:=@Option.map_eq_none_iff
def XA:=@Option.map_eq_some_iff
def NO:=@Option.map_map
def YU:=@Option.map_none
def Kt:=@Option.map_some
def IC:=@Option.some.inj
def QV:=@Option.some.injEq
def Q4:=@Prod.mk.injEq
def zX:=@beq_eq_false_iff_ne
def zY:=@beq_iff_eq
def ID:=@beq_self_eq_true
def qB:=@cond_false
def jQ:=@cond_true
def QQ:=@decide_eq_false
def NP:=@decide_eq_false_iff_not
def Q7:=@decide_eq_true
def Yq:=@decide_eq_true_eq
def kQ:=@if_false
def Qd:=@if_neg
def Qg:=@if_pos
def K6:=@if_true
def Cg:=@not_exists
def Yr:=@not_or
def A4:=@of_decide_eq_false
def YV:=@of_decide_eq_true
def xl:=@true_and
inductive D where
 | raw (v:Value)
 | nil
 | undef
 | imm (sz n:Nat) (row:Nat->List D)
 | ip (cells:List D)
 | ref (l g off len:Nat)
 | ptr (l g i j:Nat)
 | mref (l g:Nat)
 | clo (f:FuncId) (first:Nat) (Qz:List D)
 | agg (cs:List D)
 | tup (cs:List D)
def nth(cs:List D)(i:Nat):D:=cs.getD i .undef
def QW(vs:List Value)(i:Nat):Value:=vs.getD i Go.undef
inductive Kd where
 | one
 | arr
 | map
 | iter
 | Wd
 | xm
 | NQ
 | pR
def Kd.Gl:Kd->Bool
 | .one=>true
 | .Wd=>true
 | _=>false
def Kd.ty:Kd->Nat
 | .one=>0
 | .arr=>0
 | .map=>1
 | .iter=>2
 | .Wd=>0
 | .xm=>0
 | .NQ=>1
 | .pR=>2
def Kd.ro:Kd->Bool
 | .one=>false
 | .arr=>false
 | .map=>false
 | .iter=>false
 | _=>true
def Kd.toRo:Kd->Kd
 | .one=>.Wd
 | .arr=>.xm
 | .map=>.NQ
 | .iter=>.pR
 | k=>k
def Kd.toRo_ty(k:Kd):k.toRo.ty=k.ty:=by cases k<;>rfl
def Kd.toRo_ro(k:Kd):k.toRo.ro=true:=by cases k<;>rfl
def NR:Nat->Nat->Value
 | 1,b=>.map (some b)
 | _,b=>.pointer (some ⟨b,0,none⟩)
def pS(t b:Nat)(v:Value):Prop:=t≠0/\v=NR t b
structure Ob where
 kd:Kd
 gen:Nat
 sz:Nat
 n:Nat
 row:Nat->List D
abbrev Pl:=Option (Nat × Nat)
def WU(pl:List Pl)(b:Nat):Prop:=∀l q:Nat,pl[l]?≠some (some (b,q))
def free(Z:Nat->Prop)(pl:List Pl)(b:Nat):Prop:=Z b/\WU pl b
variable {Z:Nat->Prop}
inductive Cl (N:Nat->Prop) (w:World):D->Value->Prop
 | raw (v:Value):Cl N w (.raw v) v
 | undef (v:Value):Cl N w .undef v
 | nil (a:Option Addr):Cl N w .nil (.slice a 0 0)
 | imm (sz n:Nat) (row:Nat->List D) (a:Option Addr) (cap b o:Nat) (vs:Nat->Nat->Value)
   (ha:0<n->a=some ⟨b,o,none⟩) (hl:n<=cap) (hs:∀i,i<n->(row i).length=sz)
   (hc:∀i j,i<n->j<sz->N b/\w.cell? ⟨b,o+(i*sz+j),none⟩=some (vs i j))
   (hr:∀i j,i<n->j<sz->Cl N w (nth (row i) j) (vs i j)):Cl N w (.imm sz n row) (.slice a n cap)
 | ip (cells:List D) (b o:Nat) (vs:Nat->Value)
   (hc:∀j,j<cells.length->N b/\w.cell? ⟨b,o+j,none⟩=some (vs j))
   (hr:∀j,j<cells.length->Cl N w (nth cells j) (vs j)):Cl N w (.ip cells) (.pointer (some ⟨b,o,none⟩))
 | clo (f:FuncId) (nf:Nat) (cs:List D) (vs:List Value) (hl:vs.length=cs.length) (hr:∀i,i<cs.length->Cl N w (nth cs i) (QW vs i)):Cl N w (.clo f nf cs) (.func (.func f) (vs.take nf).toArray (vs.drop nf).toArray)
 | agg (cs:List D) (vs:List Value) (hl:vs.length=cs.length) (hr:∀i,i<cs.length->Cl N w (nth cs i) (QW vs i)):Cl N w (.agg cs) (.agg vs.toArray)
 | tup (cs:List D) (vs:List Value) (hl:vs.length=cs.length) (hr:∀i,i<cs.length->Cl N w (nth cs i) (QW vs i)):Cl N w (.tup cs) (.tuple vs.toArray)
def Cl.mono{N N'}{w w'}{d}{v}(h:Cl N w d v)
  (hk:∀b,N b->b<w.heap.size->N' b/\w'.heap[b]? = w.heap[b]?):Cl N' w' d v:=by
 have key:∀(b o:Nat) (u:Value),N b/\w.cell? ⟨b,o,none⟩=some u->N' b/\w'.cell? ⟨b,o,none⟩=some u:=by
  rintro b o u ⟨hn,hc⟩;obtain⟨h1,h2⟩:=hk b hn (block_lt_of_cell hc);exact⟨h1,by rw[World.cell?_of_block (w:=w) (a:=⟨b,o,none⟩) h2];exact hc⟩
 induction h with
 | raw v=>exact .raw v
 | undef v=>exact .undef v
 | nil a=>exact .nil a
 | imm sz n row a cap b o vs ha hl hs hc hr ih=>exact .imm sz n row a cap b o vs ha hl hs (λi j hi hj=>key _ _ _ (hc i j hi hj)) ih
 | ip cells b o vs hc hr ih=>exact .ip cells b o vs (λj hj=>key _ _ _ (hc j hj)) ih
 | clo f nf cs vs hl hr ih=>exact .clo f nf cs vs hl ih
 | agg cs vs hl hr ih=>exact .agg cs vs hl ih
 | tup cs vs hl hr ih=>exact .tup cs vs hl ih
def pT(w:World)(sz:Nat)(p:Pl)(off len:Nat)(a:Option Addr)(cap:Nat):Prop:=
 (len=0/\cap=0)\/∃b q c el,p=some (b,q)/\a=some ⟨b,q+off*sz,none⟩/\w.heap[b]? = some (.cells c el (0,0))/\q+(off+cap)*sz<=c.size/\len<=cap
inductive QA (Z:Nat->Prop) (h:List Ob) (pl:List Pl) (w:World):D->Value->Prop
 | cl (d:D) (v:Value) (hc:Cl (free Z pl) w d v):QA Z h pl w d v
 | ref (l g off len:Nat) (o:Ob) (p:Pl) (a:Option Addr) (cap:Nat) (ho:h[l]? = some o) (hp:pl[l]? = some p) (hk:o.kd.ty=0) (hg:g<=o.gen)
   (hs:g=o.gen->pT w o.sz p off len a cap):QA Z h pl w (.ref l g off len) (.slice a len cap)
 | ptr (l g i j:Nat) (o:Ob) (p:Pl) (a:Addr) (ho:h[l]? = some o) (hp:pl[l]? = some p) (hk:o.kd.ty=0) (hg:g<=o.gen)
   (hs:g=o.gen->∃b q,p=some (b,q)/\a=⟨b,q+(i*o.sz+j),none⟩):QA Z h pl w (.ptr l g i j) (.pointer (some a))
 | mref (l g:Nat) {v:Value} (o:Ob) (p:Pl) (b:Nat) (ho:h[l]? = some o) (hp:pl[l]? = some p) (hk:pS o.kd.ty b v) (hg:g<=o.gen)
   (hs:g=o.gen->p=some (b,0)):QA Z h pl w (.mref l g) v
 | clo (f:FuncId) (nf:Nat) (cs:List D) (vs:List Value) (hl:vs.length=cs.length) (hr:∀i,i<cs.length->QA Z h pl w (nth cs i) (QW vs i)):QA Z h pl w (.clo f nf cs) (.func (.func f) (vs.take nf).toArray (vs.drop nf).toArray)
 | agg (cs:List D) (vs:List Value) (hl:vs.length=cs.length) (hr:∀i,i<cs.length->QA Z h pl w (nth cs i) (QW vs i)):QA Z h pl w (.agg cs) (.agg vs.toArray)
 | tup (cs:List D) (vs:List Value) (hl:vs.length=cs.length) (hr:∀i,i<cs.length->QA Z h pl w (nth cs i) (QW vs i)):QA Z h pl w (.tup cs) (.tuple vs.toArray)
structure Tr (h:List Ob) (pl:List Pl) (w:World) (h':List Ob) (Qj:List Pl) (w':World):Prop where
 Kj:∀b,WU pl b->b<w.heap.size->WU Qj b/\w'.heap[b]? = w.heap[b]?
 obj:∀(l:Nat) (o:Ob) (p:Pl),h[l]? = some o->pl[l]? = some p->∃o' p',h'[l]? = some o'/\Qj[l]? = some p'/\o.gen<=o'.gen/\o'.kd.ty=o.kd.ty/\(o'.gen=o.gen->o'.sz=o.sz/\p'=p)
 shape:∀(l:Nat) (o o':Ob) (b q:Nat),h[l]? = some o->h'[l]? = some o'->o'.gen=o.gen->pl[l]? = some (some (b,q))->∀c el,w.heap[b]? = some (.cells c el (0,0)) ->
  ∃c',w'.heap[b]? = some (.cells c' el (0,0))/\c'.size=c.size
def Tr.QjM{h}{pl}{w:World}{h'}{Qj}{w':World}(T:Tr h pl w h' Qj w'){b}(hf:free Z pl b)(hb:b<w.heap.size):free Z Qj b/\w'.heap[b]? = w.heap[b]? :=
 ⟨⟨hf.1,(T.Kj b hf.2 hb).1⟩,(T.Kj b hf.2 hb).2⟩
def QA.tr{h}{pl}{w}{h'}{Qj}{w'}(T:Tr h pl w h' Qj w'){d}{v}(r:QA Z h pl w d v):QA Z h' Qj w' d v:=by
 induction r with
 | cl d v hc=>exact .cl d v (hc.mono λb hb Qc=>T.QjM hb Qc)
 | ref l g off len o p a cap ho hp hk hg hs=>
  obtain⟨o',p',Zv,ZN,zZ,ZD,he⟩:=T.obj l o p ho hp;refine .ref l g off len o' p' a cap Zv ZN (by rw[ZD,hk]) (Kz hg zZ) λyH=>?_;have e1:o'.gen=o.gen:=by omega
  obtain⟨e2,e3⟩:=he e1;rcases hs (by omega) with h1|⟨b,q,c,el,VI,ha,hb,hc,hl⟩
  ·exact .inl h1
  ·obtain⟨c',Kl,hc'⟩:=T.shape l o o' b q ho Zv e1 (by rw[hp,VI]) c el hb;exact .inr ⟨b,q,c',el,by rw[e3,VI],by rw[e2];exact ha,Kl,by rw[e2,hc'];exact hc,hl⟩
 | ptr l g i j o p a ho hp hk hg hs=>
  obtain⟨o',p',Zv,ZN,zZ,ZD,he⟩:=T.obj l o p ho hp;refine .ptr l g i j o' p' a Zv ZN (by rw[ZD,hk]) (Kz hg zZ) λyH=>?_;have e1:o'.gen=o.gen:=by omega
  obtain⟨e2,e3⟩:=he e1;obtain⟨b,q,VI,ha⟩:=hs (by omega);exact⟨b,q,by rw[e3,VI],by rw[e2];exact ha⟩
 | mref l g o p b ho hp hk hg hs=>
  obtain⟨o',p',Zv,ZN,zZ,ZD,he⟩:=T.obj l o p ho hp;refine .mref l g o' p' b Zv ZN (by rw[ZD];exact hk) (Kz hg zZ) λyH=>?_;have e1:o'.gen=o.gen:=by omega
  obtain⟨e2,e3⟩:=he e1;rw[e3];exact hs (by omega)
 | clo f nf cs vs hl hr ih=>exact .clo f nf cs vs hl ih
 | agg cs vs hl hr ih=>exact .agg cs vs hl ih
 | tup cs vs hl hr ih=>exact .tup cs vs hl ih
def NS(Z:Nat->Prop)(h:List Ob)(pl:List Pl)(w:World)(o:Ob)(b q:Nat):Prop:=
 ∃c el,w.heap[b]? = some (.cells c el (0,0))/\q+o.n*o.sz<=c.size/\(∀i,i<o.n->(o.row i).length=o.sz) /\
  ∀i j,i<o.n->j<o.sz->∃v,c[q+(i*o.sz+j)]? = some v/\QA Z h pl w (nth (o.row i) j) v
def SC(Z:Nat->Prop)(h:List Ob)(pl:List Pl)(w:World)(o:Ob)(b q:Nat):Prop:=
 q=0/\o.sz=3/\∃(es:Array MapEntry) (clock:Nat),w.heap[b]? = some (.map es clock)/\o.n=es.size+1/\(∀i,i<o.n->(o.row i).length=3) /\
  QA Z h pl w (nth (o.row 0) 0) (.int .i64 clock) /\
  (∀(i:Nat) (e:MapEntry),es[i]? = some e->e.born<clock/\QA Z h pl w (nth (o.row (i+1)) 0) e.key/\QA Z h pl w (nth (o.row (i+1)) 1) e.val/\QA Z h pl w (nth (o.row (i+1)) 2) (.int .i64 e.born)) /\
  ∀(i j:Nat) (e e':MapEntry),i<j->es[i]? = some e->es[j]? = some e'->e.born<e'.born
def dB(Z:Nat->Prop)(h:List Ob)(pl:List Pl)(w:World)(o:Ob)(b q:Nat):Prop:=
 q=0/\o.sz=1/\∃(m since last:Nat) (seen:Array Nat),w.heap[b]? = some (.mapIter (some m) since seen last)/\o.n=seen.size+3/\(∀i,i<o.n->(o.row i).length=1) /\
  QA Z h pl w (nth (o.row 0) 0) (.map (some m))/\QA Z h pl w (nth (o.row 1) 0) (.int .i64 since)/\QA Z h pl w (nth (o.row 2) 0) (.int .i64 last) /\
  ∀(i s:Nat),seen[i]? = some s->QA Z h pl w (nth (o.row (i+3)) 0) (.int .i64 s)
def J1(Z:Nat->Prop)(h:List Ob)(pl:List Pl)(w:World)(o:Ob)(b q:Nat):Prop:=match o.kd.ty with
 | 0=>NS Z h pl w o b q
 | 1=>SC Z h pl w o b q
 | _=>dB Z h pl w o b q
def J1.cells{h}{pl}{w}{o:Ob}{b q}(hk:o.kd.ty=0)(x:J1 Z h pl w o b q):NS Z h pl w o b q:=by
 unfold J1 at x;rw[hk]at x;exact x
def J1.map{h}{pl}{w}{o:Ob}{b q}(hk:o.kd.ty=1)(x:J1 Z h pl w o b q):SC Z h pl w o b q:=by
 unfold J1 at x;rw[hk]at x;exact x
def J1.iter{h}{pl}{w}{o:Ob}{b q}(hk:o.kd.ty=2)(x:J1 Z h pl w o b q):dB Z h pl w o b q:=by
 unfold J1 at x;rw[hk]at x;exact x
def J1.IE{h}{pl}{w}{o:Ob}{b q}(hk:o.kd.ty=0)(x:NS Z h pl w o b q):J1 Z h pl w o b q:=by
 unfold J1;rw[hk];exact x
def J1.ofMap{h}{pl}{w}{o:Ob}{b q}(hk:o.kd.ty=1)(x:SC Z h pl w o b q):J1 Z h pl w o b q:=by
 unfold J1;rw[hk];exact x
def J1.pU{h}{pl}{w}{o:Ob}{b q}(hk:o.kd.ty=2)(x:dB Z h pl w o b q):J1 Z h pl w o b q:=by
 unfold J1;rw[hk];exact x
def Kd.cases(k:Kd):k.ty=0\/k.ty=1\/k.ty=2:=by cases k<;>simp[Kd.ty]
def J1.lt{h}{pl}{w:World}{o}{b q}(x:J1 Z h pl w o b q):b<w.heap.size:=by
 rcases o.kd.cases with hk|hk|hk
 ·obtain⟨c,el,hc,_⟩:=x.cells hk;exact(VT.1 hc).1
 ·obtain⟨_,_,c,el,hc,_⟩:=x.map hk;exact(VT.1 hc).1
 ·obtain⟨_,_,m,s,l,sn,hc,_⟩:=x.iter hk;exact(VT.1 hc).1
def J1.len{h}{pl}{w}{o:Ob}{b q}(x:J1 Z h pl w o b q){i:Nat}(hi:i<o.n):(o.row i).length=o.sz:=by
 rcases o.kd.cases with hk|hk|hk
 ·obtain⟨c,el,_,_,h1,_⟩:=x.cells hk;exact h1 i hi
 ·obtain⟨_,hz,c,el,_,_,h1,_⟩:=x.map hk;rw[h1 i hi,hz]
 ·obtain⟨_,hz,m,s,l,sn,_,_,h1,_⟩:=x.iter hk;rw[h1 i hi,hz]
def J1.to{Z'}{h h'}{pl Qj}{w w'}{o o':Ob}{b q}(x:J1 Z h pl w o b q)(hk:o'.kd.ty=o.kd.ty)(hz:o'.sz=o.sz)(hn:o'.n=o.n)
  (hb:w'.heap[b]? = w.heap[b]?) (hl:∀i,i<o.n->(o'.row i).length=(o.row i).length)
  (hr:∀i j v,i<o.n->j<(o.row i).length->QA Z h pl w (nth (o.row i) j) v->QA Z' h' Qj w' (nth (o'.row i) j) v):J1 Z' h' Qj w' o' b q:=by
 rcases o.kd.cases with hm|hm|hm
 ·obtain⟨c,el,h1,h2,h3,h4⟩:=x.cells hm;refine J1.IE (by rw[hk,hm]) ⟨c,el,by rw[hb];exact h1,by rw[hn,hz];exact h2,λi hi=>?_,λi j hi hj=>?_⟩
  ·rw[hn]at hi;rw[hl i hi,h3 i hi,hz]
  ·rw[hn]at hi;rw[hz]at hj;obtain⟨v,hv,xn⟩:=h4 i j hi hj;exact⟨v,by rw[hz];exact hv,hr i j v hi (by rw[h3 i hi];exact hj) xn⟩
 ·obtain⟨h0,dC,es,ck,h1,h2,h3,h4,h5,h6⟩:=x.map hm;have up:∀i j v,i<o.n->j<3->QA Z h pl w (nth (o.row i) j) v->QA Z' h' Qj w' (nth (o'.row i) j) v:=λi j v hi hj r=>hr i j v hi (by rw[h3 i hi];exact hj) r;refine J1.ofMap (by rw[hk,hm]) ⟨h0,by rw[hz];exact dC,es,ck,by rw[hb];exact h1,by rw[hn];exact h2,λi hi=>?_,up 0 0 _ (by omega) (by omega) h4,λi e he=>?_,h6⟩
  ·rw[hn]at hi;rw[hl i hi,h3 i hi]
  ·obtain⟨k1,k2,k3,k4⟩:=h5 i e he;have hi:i+1<o.n:=by have:=(VT.1 he).1;omega
   exact⟨k1,up _ 0 _ hi (by omega) k2,up _ 1 _ hi (by omega) k3,up _ 2 _ hi (by omega) k4⟩
 ·obtain⟨h0,dC,m,since,last,seen,h1,h2,h3,h4,h5,h6,h7⟩:=x.iter hm;have up:∀i v,i<o.n->QA Z h pl w (nth (o.row i) 0) v->QA Z' h' Qj w' (nth (o'.row i) 0) v:=λi v hi r=>hr i 0 v hi (by rw[h3 i hi];omega) r;refine J1.pU (by rw[hk,hm]) ⟨h0,by rw[hz];exact dC,m,since,last,seen,by rw[hb];exact h1,by rw[hn];exact h2,λi hi=>?_,up 0 _ (by omega) h4,up 1 _ (by omega) h5,up 2 _ (by omega) h6,λi s hs=>?_⟩
  ·rw[hn]at hi;rw[hl i hi,h3 i hi]
  ·exact up _ _ (by have:=(VT.1 hs).1;omega) (h7 i s hs)
structure Ze (Z:Nat->Prop) (base:Nat) (h:List Ob) (pl:List Pl) (w:World):Prop where
 len:pl.length=h.length
 inj:∀(l l':Nat) (b q q':Nat),pl[l]? = some (some (b,q))->pl[l']? = some (some (b,q'))->l=l'
 Vv:∀(l:Nat) (o:Ob),h[l]? = some o->pl[l]? = some none->o.n=0
 at_:∀(l:Nat) (o:Ob) (b q:Nat),h[l]? = some o->pl[l]? = some (some (b,q))->(o.kd.ro=false->base<=b)/\J1 Z h pl w o b q
structure St where
 fr:List (Nat × D)
 h:List Ob
def get:List (Nat × D)->Nat->D
 | [],_=>.undef
 | (t,d)::r,u=>bif Nat.beq t u then d else get r u
def put:List (Nat × D)->Nat->D->List (Nat × D)
 | [],u,d=>[(u,d)]
 | (t,e)::r,u,d=>bif Nat.beq t u then (u,d)::r else (t,e)::put r u d
structure Rel (Z:Nat->Prop) (base nt:Nat) (s:St) (pl:List Pl) (a:Act) (w:World):Prop where
 nt:a.tmps.size=nt
 defers:a.defers=[]
 fr:∀t,QA Z s.h pl w (get s.fr t) (a.tmps.getD t Go.undef)
 o:Ze Z base s.h pl w
def Ek(fr)(u)(d)(t):get (put fr u d) t=if t=u then d else get fr t:=by
 induction fr with
 | nil=>
  simp only[put,get];by_cases h:u=t
  ·subst h;simp
  ·have h1:Nat.beq u t=false:=by rw[<- W3,Vz];exact h
   rw[h1,Qd (Q3 h)];rfl
 | cons x r ih=>
  obtain⟨t',d'⟩:=x;simp only[put];by_cases hb:t'=u
  ·subst hb;simp only[Iz,jQ,get];by_cases h:t'=t
   ·subst h;simp
   ·have h1:Nat.beq t' t=false:=by rw[<- W3,Vz];exact h
    rw[h1,Qd (Q3 h)];rfl
  ·have h1:Nat.beq t' u=false:=by rw[<- W3,Vz];exact hb
   rw[h1];simp only[qB,get];by_cases h:t'=t
   ·subst h;simp[hb]
   ·have h2:Nat.beq t' t=false:=by rw[<- W3,Vz];exact h
    rw[h2];simpa using ih
def Ku{h:List Ob}{l}{o}(e:h[l]? = some o):l<h.length:=(Wc.1 e).1
def VU{h:List Pl}{l}{o}(e:h[l]? = some o):l<h.length:=(Wc.1 e).1
def z6{w:World}{b}{o}(h:w.heap[b]? = some o):b<w.heap.size:=(VT.1 h).1
def Ze.lt{base:Nat}{h:List Ob}{pl:List Pl}{w:World}(R:Ze Z base h pl w){l b q:Nat}(e:pl[l]? = some (some (b,q))):b<w.heap.size/\∀o,h[l]? = some o->o.kd.ro=false->base<=b:=by
 have hl:l<h.length:=by have:=VU e;rw[R.len]at this;exact this
 obtain⟨hb,x⟩:=R.at_ l (h[l]) b q (QP hl) e;exact⟨x.lt,λo ho hr=>by rw[QP hl]at ho;cases ho;exact hb hr⟩
def Tr.ext{base}{h}{pl}{w w':World}(R:Ze Z base h pl w)(e:∀b,b<w.heap.size->w'.heap[b]? = w.heap[b]?):Tr h pl w h pl w' where
 Kj:=λb hb Qc=>⟨hb,e b Qc⟩
 obj:=λl o p ho hp=>⟨o,p,ho,hp,QD _,rfl,λ_=>⟨rfl,rfl⟩⟩
 shape:=λl o o' b q ho Zv hg hp c el hb=>⟨c,by rw[e b (R.lt hp).1];exact hb,rfl⟩
def Ze.ext{base}{h}{pl}{w w':World}(R:Ze Z base h pl w)(e:∀b,b<w.heap.size->w'.heap[b]? = w.heap[b]?):Ze Z base h pl w' where
 len:=R.len
 inj:=R.inj
 Vv:=R.Vv
 at_:=λl o b q ho hp=>by
  obtain⟨h1,x⟩:=R.at_ l o b q ho hp;exact⟨h1,x.to rfl rfl rfl (e b (R.lt hp).1) (λ_ _=>rfl) λi j v _ _ hr=>hr.tr (Tr.ext R e)⟩
def Tr.refl(h)(pl)(w):Tr h pl w h pl w where
 Kj:=λb hb Qc=>⟨hb,rfl⟩
 obj:=λl o p ho hp=>⟨o,p,ho,hp,QD _,rfl,λ_=>⟨rfl,rfl⟩⟩
 shape:=λl o o' b q ho Zv hg hp c el hb=>⟨c,hb,rfl⟩
def Tr.trans{h h' XZ}{pl Qj Gm}{w w' Gn}(T:Tr h pl w h' Qj w')(U:Tr h' Qj w' XZ Gm Gn):Tr h pl w XZ Gm Gn where
 Kj:=λb hb Qc=>by
  obtain⟨h1,h2⟩:=T.Kj b hb Qc;have h3:b<w'.heap.size:=by
   rw[qZ Qc]at h2;exact(VT.1 h2).1
  obtain⟨h4,h5⟩:=U.Kj b h1 h3;exact⟨h4,by rw[h5,h2]⟩
 obj:=λl o p ho hp=>by
  obtain⟨o1,p1,a1,a2,a3,a4,a5⟩:=T.obj l o p ho hp;obtain⟨o2,p2,b1,b2,b3,b4,b5⟩:=U.obj l o1 p1 a1 a2;refine⟨o2,p2,b1,b2,Kz a3 b3,by rw[b4,a4],λe=>?_⟩;obtain⟨x1,x2⟩:=a5 (by omega);obtain⟨y1,y2⟩:=b5 (by omega);exact⟨by rw[y1,x1],by rw[y2,x2]⟩
 shape:=λl o SD b q ho IF hg hp c el hb=>by
  obtain⟨o1,p1,a1,a2,a3,a4,a5⟩:=T.obj l o _ ho hp;obtain⟨o2,p2,b1,b2,b3,b4,b5⟩:=U.obj l o1 p1 a1 a2;rw[IF]at b1;cases b1;have e1:o1.gen=o.gen:=by omega
  obtain⟨x1,x2⟩:=a5 e1;subst x2;obtain⟨c1,d1,d2⟩:=T.shape l o o1 b q ho a1 e1 hp c el hb;obtain⟨c2,f1,f2⟩:=U.shape l o1 SD b q a1 IF (by omega) a2 c1 el d1;exact⟨c2,f1,by omega⟩
def Rel.ext{base nt}{s}{pl}{a}{w w':World}(r:Rel Z base nt s pl a w)(e:∀b,b<w.heap.size->w'.heap[b]? = w.heap[b]?):Rel Z base nt s pl a w':=
 ⟨r.nt,r.defers,λt=>(r.fr t).tr (Tr.ext r.o e),r.o.ext e⟩
def QjO(tmps:Array Value)(d t)(v:Value)(hd:d<tmps.size):(tmps.setIfInBounds d v).getD t Go.undef=if t=d then v else tmps.getD t Go.undef:=by
 simp only[vP,xg];by_cases h:d=t
 ·subst h;simp[hd]
 ·rw[Qd h,Qd (Q3 h)]
def Rel.to{base nt}{s:St}{pl}{a}{w}(r:Rel Z base nt s pl a w){h'}{Qj}{w'}(T:Tr s.h pl w h' Qj w')(R':Ze Z base h' Qj w')
  {t:Nat} (ht:t<nt) {d:D} {v:Value} (hv:QA Z h' Qj w' d v):Rel Z base nt ⟨put s.fr t d,h'⟩ Qj (a.put (some t) v) w' where
 nt:=by simp[Act.put,r.nt]
 defers:=r.defers
 fr:=λu=>by
  simp only[Act.put];rw[Ek,QjO _ _ _ _ (by rw[r.nt];exact ht)];by_cases h:u=t
  ·rw[Qg h,Qg h];exact hv
  ·rw[Qd h,Qd h];exact(r.fr u).tr T
 o:=R'
def Rel.xo{base nt}{s:St}{pl}{a}{w}(r:Rel Z base nt s pl a w){h'}{Qj}{w'}(T:Tr s.h pl w h' Qj w')(R':Ze Z base h' Qj w')
  (v:Value):Rel Z base nt ⟨s.fr,h'⟩ Qj (a.put none v) w':=
 ⟨r.nt,r.defers,λu=>(r.fr u).tr T,R'⟩
def NT{pl:List Pl}{p:Pl}{b:Nat}(hf:WU pl b)(hp:∀q,p≠some (b,q)):WU (pl++[p]) b:=λl q e=>by
 by_cases hl:l<pl.length
 ·rw[Jy hl]at e;exact hf l q e
 ·rw[JT (by omega)]at e;have:l - pl.length=0:=by
   have:=(Wc.1 e).1;simp at this;exact this
  rw[this]at e;simp at e;exact hp q e
def yI{α:Type}{l:List α}{x y:α}{i:Nat}(e:l[i]? = some x):(l++[y])[i]? = some x:=by
 rw[Jy (Wc.1 e).1];exact e
def Xq{α:Type}{l:List α}{x y}{i}(e:(l++[y])[i]? = some x):l[i]? = some x\/(i=l.length/\x=y):=by
 by_cases hl:i<l.length
 ·rw[Jy hl]at e;exact .inl e
 ·rw[JT (by omega)]at e;have h0:=(Wc.1 e).1;simp at h0;have h1:i=l.length:=by omega
  subst h1;simp at e;exact .inr ⟨rfl,e.symm⟩
def kR(w:World)(o:Obj)(b)(h:b<w.heap.size):(w.alloc o).heap[b]? = w.heap[b]? := Below.heap_alloc w o b h
def Tr.push{base:Nat}{h:List Ob}{pl:List Pl}{w w':World}(R:Ze Z base h pl w)(e:∀b,b<w.heap.size->w'.heap[b]? = w.heap[b]?)(ob:Ob)(p:Pl)(hp:∀b q,p=some (b,q)->w.heap.size<=b):Tr h pl w (h++[ob]) (pl++[p]) w' where
 Kj:=λb hb Qc=>⟨NT hb λq hq=>by have:=hp b q hq;omega,e b Qc⟩
 obj:=λl o p ho hp=>⟨o,p,yI ho,yI hp,QD _,rfl,λ_=>⟨rfl,rfl⟩⟩
 shape:=λl o o' b q ho Zv hg hp c el hb=>⟨c,by rw[e b (R.lt hp).1];exact hb,rfl⟩
def Ze.NU{base}{h}{pl}{w w':World}(R:Ze Z base h pl w)(e:∀b,b<w.heap.size->w'.heap[b]? = w.heap[b]?)(ob){b0 q0}(hp:w.heap.size<=b0)(QX:base<=b0)
  (hx:J1 Z (h++[ob]) (pl++[some (b0,q0)]) w' ob b0 q0):Ze Z base (h++[ob]) (pl++[some (b0,q0)]) w':=by
 have T:Tr h pl w (h++[ob]) (pl++[some (b0,q0)]) w':=Tr.push R e ob _ (by intro b q e;simp at e;omega);refine⟨by simp[R.len],?_,?_,?_⟩
 ·intro l l' b q q' e1 e2;rcases Xq e1 with h1|⟨h1,ZY⟩<;>rcases Xq e2 with h2|⟨h2,X0⟩
  ·exact R.inj l l' b q q' h1 h2
  ·have:=(R.lt h1).1;simp at X0;omega
  ·have:=(R.lt h2).1;simp at ZY;omega
  ·omega
 ·intro l o ho e1;rcases Xq e1 with h1|⟨h1,ZY⟩
  ·rcases Xq ho with h2|⟨h2,X0⟩
   ·exact R.Vv l o h2 h1
   ·have:=VU h1;have:=R.len;omega
  ·simp at ZY
 ·intro l o b q ho Zf;rcases Xq Zf with h1|⟨h1,ZY⟩
  ·rcases Xq ho with h2|⟨h2,X0⟩
   ·obtain⟨g1,x⟩:=R.at_ l o b q h2 h1;exact⟨g1,x.to rfl rfl rfl (e b (R.lt h1).1) (λ_ _=>rfl) λi j v _ _ hr=>hr.tr T⟩
   ·have:=VU h1;have:=R.len;omega
  ·rcases Xq ho with h2|⟨h2,X0⟩
   ·have:=Ku h2;have:=R.len;omega
   ·subst X0;simp at ZY;obtain⟨rfl,rfl⟩:=ZY;exact⟨λ_=>QX,hx⟩
def Ze.push{base}{h}{pl}{w w':World}(R:Ze Z base h pl w)(e:∀b,b<w.heap.size->w'.heap[b]? = w.heap[b]?)(ob:Ob)(hk:ob.kd.ty=0){b0 q0}(hp:w.heap.size<=b0)(QX:base<=b0)
  {c:Array Value} {el:TypeId} (hb:w'.heap[b0]? = some (.cells c el (0,0))) (Je:q0+ob.n*ob.sz<=c.size) (JR:∀i,i<ob.n->(ob.row i).length=ob.sz)
  (Zx:∀i j,i<ob.n->j<ob.sz->∃v,c[q0+(i*ob.sz+j)]? = some v/\QA Z (h++[ob]) (pl++[some (b0,q0)]) w' (nth (ob.row i) j) v):Ze Z base (h++[ob]) (pl++[some (b0,q0)]) w':=
 R.NU e ob hp QX (.IE hk ⟨c,el,hb,Je,JR,Zx⟩)
def Ze.Ch{base}{h}{pl}{w}(R:Ze Z base h pl w)(ob:Ob)(hn:ob.n=0):Ze Z base (h++[ob]) (pl++[none]) w:=by
 have T:Tr h pl w (h++[ob]) (pl++[none]) w:=Tr.push R (λ_ _=>rfl) ob _ (by intro b q e;simp at e);refine⟨by simp[R.len],?_,?_,?_⟩
 ·intro l l' b q q' e1 e2;rcases Xq e1 with h1|⟨h1,ZY⟩
  ·rcases Xq e2 with h2|⟨h2,X0⟩
   ·exact R.inj l l' b q q' h1 h2
   ·simp at X0
  ·simp at ZY
 ·intro l o ho e1;rcases Xq ho with h2|⟨h2,X0⟩
  ·rcases Xq e1 with h1|⟨h1,ZY⟩
   ·exact R.Vv l o h2 h1
   ·have:=Ku h2;have:=R.len;omega
  ·subst X0;exact hn
 ·intro l o b q ho Zf;rcases Xq Zf with h1|⟨h1,ZY⟩
  ·rcases Xq ho with h2|⟨h2,X0⟩
   ·obtain⟨g1,x⟩:=R.at_ l o b q h2 h1;exact⟨g1,x.to rfl rfl rfl rfl (λ_ _=>rfl) λi j v _ _ hr=>hr.tr T⟩
   ·have:=VU h1;have:=R.len;omega
  ·simp at ZY
def Tr.QS{base:Nat}{h:List Ob}{pl:List Pl}{w w':World}(R:Ze Z base h pl w){l:Nat}{o o':Ob}{b q:Nat}(ho:h[l]? = some o)(hp:pl[l]? = some (some (b,q)))(Jo:o'.kd.ty=o.kd.ty)(hg:o'.gen=o.gen)(hz:o'.sz=o.sz)
  (e:∀k,k≠b->k<w.heap.size->w'.heap[k]? = w.heap[k]?) (JO:∀c el,w.heap[b]? = some (.cells c el (0,0))->∃c',w'.heap[b]? = some (.cells c' el (0,0))/\c'.size=c.size):Tr h pl w (h.set l o') pl w' where
 Kj:=λk hk Qc=>⟨hk,e k (λhb=>hk l q (by rw[hb];exact hp)) Qc⟩
 obj:=λl' o1 p Zp W6=>by
  by_cases hl:l=l'
  ·subst hl;rw[ho]at Zp;cases Zp;exact⟨o',p,by simp[Ku ho],W6,by omega,Jo,λ_=>⟨hz,rfl⟩⟩
  ·exact⟨o1,p,by rw[JL hl];exact Zp,W6,QD _,rfl,λ_=>⟨rfl,rfl⟩⟩
 shape:=λl' o1 o2 b1 q1 Zp KU yH W6 c el hb=>by
  by_cases hl:b1=b
  ·subst hl;exact JO c el hb
  ·exact⟨c,by rw[e b1 hl (R.lt W6).1];exact hb,rfl⟩
def Ze.QjP{base:Nat}{h:List Ob}{pl:List Pl}{w w':World}(R:Ze Z base h pl w){l:Nat}{o o':Ob}{b q:Nat}(ho:h[l]? = some o)(hp:pl[l]? = some (some (b,q)))
  (T:Tr h pl w (h.set l o') pl w') (e:∀k,k≠b->k<w.heap.size->w'.heap[k]? = w.heap[k]?) (hx:J1 Z (h.set l o') pl w' o' b q) (hro:o'.kd.ro=o.kd.ro):Ze Z base (h.set l o') pl w':=by
 refine⟨by simp[R.len],R.inj,?_,?_⟩
 ·intro l' o1 Zp W6;by_cases hl:l=l'
  ·subst hl;rw[hp]at W6;cases W6
  ·rw[JL hl]at Zp;exact R.Vv l' o1 Zp W6
 ·intro l' o1 b1 q1 Zp W6;by_cases hl:l=l'
  ·subst hl;rw[hp]at W6;cases W6;have:(h.set l o')[l]? = some o':=by simp[Ku ho]
   rw[this]at Zp;cases Zp;exact⟨λhr=>(R.lt hp).2 o ho (by rw[<- hro,hr]),hx⟩
  ·rw[JL hl]at Zp;obtain⟨g1,x⟩:=R.at_ l' o1 b1 q1 Zp W6;have QB:b1≠b:=λxp=>hl (R.inj l l' b q q1 hp (by rw[<- xp];exact W6));exact⟨g1,x.to rfl rfl rfl (e b1 QB (R.lt W6).1) (λ_ _=>rfl) λi j v _ _ hr=>hr.tr T⟩
def Ze.QS{base:Nat}{h:List Ob}{pl:List Pl}{w w':World}(R:Ze Z base h pl w){l:Nat}{o o':Ob}{b q:Nat}(ho:h[l]? = some o)(hp:pl[l]? = some (some (b,q)))(hk:o.kd.ty=0)(ZD:o'.kd.ty=0)(hg:o'.gen=o.gen)(hz:o'.sz=o.sz)
  (e:∀k,k≠b->k<w.heap.size->w'.heap[k]? = w.heap[k]?) {c0 c:Array Value} {el:TypeId} (Zo:w.heap[b]? = some (.cells c0 el (0,0))) (hb:w'.heap[b]? = some (.cells c el (0,0))) (hc:c.size=c0.size)
  (Je:q+o'.n*o'.sz<=c.size) (JR:∀i,i<o'.n->(o'.row i).length=o'.sz)
  (Zx:∀i j,i<o'.n->j<o'.sz->∃v,c[q+(i*o'.sz+j)]? = some v/\QA Z (h.set l o') pl w' (nth (o'.row i) j) v) (hro:o'.kd.ro=o.kd.ro):Ze Z base (h.set l o') pl w':=
 R.QjP (hro:=hro) ho hp (Tr.QS R ho hp (by rw[hk,ZD]) hg hz e (λc1 dD h1=>by rw[Zo]at h1;cases h1;exact⟨c,hb,hc⟩)) e (.IE ZD ⟨c,el,hb,Je,JR,Zx⟩)
variable {Z:Nat->Prop}
inductive TK where
 | int (k:IntKind)|bool|str|slice (e:TypeId)|array (n:Nat) (e:TypeId)|struct (fs:List (Nat × TypeId))|ptr (e:TypeId)|map (k e:TypeId)|fn|iface|other
def TK.of:TypeDesc->TK
 | .int k=>.int k
 | .bool=>.bool
 | .string=>.str
 | .slice e=>.slice e
 | .array n e=>.array n e
 | .struct fs=>.struct (fs.toList.map λf=>(f.offset,f.type))
 | .pointer e=>.ptr e
 | .map k e=>.map k e
 | .func _ _ _=>.fn
 | .interface _=>.iface
 | _=>.other
structure Ty where
 k:TK
 size:Nat
 bytes:Nat
 zero:List Value
def TK.agg:TK->Bool
 | .struct _ | .array _ _=>true
 | _=>false
def SE:Value->Bool
 | .agg _=>true
 | _=>false
structure We (P:Program) (t:TypeId) (y:Ty):Prop where
 k:(P.underlying t).map TK.of=some y.k
 info:(P.info? t).map (λi=>(i.size,i.bytes,i.zero.map λz=>z.cells.toList))=some (y.size,y.bytes,some y.zero)
 zag:((P.info? t).bind (·.zero)).map SE=some y.k.agg
abbrev Zm:=List (TypeId × Ty)
def ty:Zm->TypeId->Option Ty
 | [],_=>none
 | (u,y)::r,t=>bif Nat.beq u t then some y else ty r t
def ZR(P:Program)(L:Zm):Prop:=∀t y,ty L t=some y->We P t y
def ZR.nil(P):ZR P []:=λ_ _ h=>by simp[ty]at h
def ZR.cons{P}{L}{t:TypeId}{y}(h:We P t y)(r:ZR P L):ZR P ((t,y)::L):=λu z e=>by
 simp only[ty]at e;by_cases hu:t=u
 ·subst hu;simp at e;subst e;exact h
 ·have:Nat.beq t u=false:=by rw[<- W3,Vz];exact hu
  rw[this]at e;exact r u z e
section
variable {P:Program}{t:TypeId}{y:Ty}(h:We P t y)
include h
theorem We.under:∃d,P.underlying t=some d/\TK.of d=y.k:=by
 have:=h.k;cases hd:P.underlying t with
 | none=>rw[hd]at this;cases this
 | some d=>rw[hd]at this;exact⟨d,rfl,by simpa using this⟩
theorem We.sizeOf(w):(Go.sizeOf t).run P w=.ok y.size w:=by
 have:=h.info;cases hi:P.info? t with
 | none=>rw[hi]at this;cases this
 | some i=>
  rw[hi]at this;simp at this;simp[Go.sizeOf,typeInfo,hi,this.1]
theorem We.typeInfo(w):∃i,(Go.typeInfo t).run P w=.ok i w/\i.size=y.size/\i.bytes=y.bytes:=by
 have:=h.info;cases hi:P.info? t with
 | none=>rw[hi]at this;cases this
 | some i=>
  rw[hi]at this;simp at this;exact⟨i,by simp[Go.typeInfo,hi],this.1,this.2.1⟩
theorem We.zeroValue:∃z,z.cells.toList=y.zero/\∀w,(Go.zeroValue t).run P w=.ok z w:=by
 have:=h.info;cases hi:P.info? t with
 | none=>rw[hi]at this;cases this
 | some i=>
  rw[hi]at this;simp at this;obtain⟨_,_,z,hz,dF⟩:=this;exact⟨z,dF,λw=>by simp[Go.zeroValue,Go.typeInfo,hi,hz]⟩
theorem We.isAgg(w):(Go.isAgg t).run P w=.ok y.k.agg w:=by
 obtain⟨d,hd,he⟩:=h.under;rw[<- he];cases d<;>simp[Go.isAgg,run_underlying hd,TK.of,TK.agg]
end
def TK.of_slice{d:TypeDesc}{e:TypeId}(h:TK.of d=.slice e):d=.slice e:=by cases d<;>simp[TK.of]at h;rw[h]
def TK.of_array{d:TypeDesc}{n}{e:TypeId}(h:TK.of d=.array n e):d=.array n e:=by cases d<;>simp[TK.of]at h;rw[h.1,h.2]
def TK.of_struct{d:TypeDesc}{fs:List (Nat × TypeId)}(h:TK.of d=.struct fs):∃g,d=.struct g/\g.toList.map (λf=>(f.offset,f.type))=fs:=by cases d<;>simp[TK.of]at h;exact⟨_,rfl,by simpa using h⟩
def TK.of_int{d:TypeDesc}{k}(h:TK.of d=.int k):d=.int k:=by cases d<;>simp[TK.of]at h;rw[h]
def TK.of_bool{d:TypeDesc}(h:TK.of d=.bool):d=.bool:=by cases d<;>simp[TK.of]at h;rfl
def TK.QjR{d:TypeDesc}(h:TK.of d=.str):d=.string:=by cases d<;>simp[TK.of]at h;rfl
def TK.QjS{d:TypeDesc}{e:TypeId}(h:TK.of d=.ptr e):d=.pointer e:=by cases d<;>simp[TK.of]at h;rw[h]
def TK.of_map{d:TypeDesc}{k e:TypeId}(h:TK.of d=.map k e):d=.map k e:=by cases d<;>simp[TK.of]at h;rw[h.1,h.2]
def vT{P:Program}{t e:TypeId}{y:Ty}(h:We P t y)(hk:y.k=.slice e):P.underlying t=some (.slice e):=by
 obtain⟨d,hd,he⟩:=h.under;rw[hk]at he;rw[hd,TK.of_slice he]
def dG{P:Program}{t e:TypeId}{n}{y:Ty}(h:We P t y)(hk:y.k=.array n e):P.underlying t=some (.array n e):=by
 obtain⟨d,hd,he⟩:=h.under;rw[hk]at he;rw[hd,TK.of_array he]
def pV{P:Program}{t:TypeId}{fs:List (Nat × TypeId)}{y:Ty}(h:We P t y)(hk:y.k=.struct fs):∃g,P.underlying t=some (.struct g)/\g.toList.map (λf=>(f.offset,f.type))=fs:=by
 obtain⟨d,hd,he⟩:=h.under;rw[hk]at he;obtain⟨g,hg,hm⟩:=TK.of_struct he;exact⟨g,by rw[hd,hg],hm⟩
def A5{P:Program}{t:TypeId}{k}{y:Ty}(h:We P t y)(hk:y.k=.int k):P.underlying t=some (.int k):=by
 obtain⟨d,hd,he⟩:=h.under;rw[hk]at he;rw[hd,TK.of_int he]
def QjT{P:Program}{t:TypeId}{y:Ty}(h:We P t y)(hk:y.k=.bool):P.underlying t=some .bool:=by
 obtain⟨d,hd,he⟩:=h.under;rw[hk]at he;rw[hd,TK.of_bool he]
def NV{P:Program}{t:TypeId}{y:Ty}(h:We P t y)(hk:y.k=.str):P.underlying t=some .string:=by
 obtain⟨d,hd,he⟩:=h.under;rw[hk]at he;rw[hd,TK.QjR he]
def QjU{P:Program}{t e:TypeId}{y:Ty}(h:We P t y)(hk:y.k=.ptr e):P.underlying t=some (.pointer e):=by
 obtain⟨d,hd,he⟩:=h.under;rw[hk]at he;rw[hd,TK.QjS he]
def Ci{P:Program}{t k e:TypeId}{y:Ty}(h:We P t y)(hk:y.k=.map k e):P.underlying t=some (.map k e):=by
 obtain⟨d,hd,he⟩:=h.under;rw[hk]at he;rw[hd,TK.of_map he]
def JM:Value->D
 | .slice none 0 0=>.nil
 | v=>.raw v
def XB:Value->D
 | .agg cs=>.agg (cs.toList.map JM)
 | v=>JM v
def Qr(fr:List (Nat × D)):Operand->D
 | .tmp t=>get fr t
 | .const v=>XB v
 | .global _=>.undef
 | .func f=>.raw (.func (.func f) #[] #[])
def A7(N)(w)(v):Cl N w (JM v) v:=by
 unfold JM;split
 ·exact .nil none
 ·exact .raw _
def QjV(N)(w)(v):Cl N w (XB v) v:=by
 unfold XB;split
 ·rename_i cs;have:=Cl.agg (N:=N) (w:=w) (cs.toList.map JM) cs.toList (by simp) (λi hi=>by
   have Jf:i<cs.size:=by simpa using hi
   simp only[nth,QW,Q8,Ky];rw[QP (by simpa using Jf)];exact A7 N w _)
  simpa using this
 ·exact A7 N w _
def Rel.eval{base nt}{s:St}{pl}{a:Act}{w}(r:Rel Z base nt s pl a w)(x):QA Z s.h pl w (Qr s.fr x) (a.eval x):=by
 cases x with
 | tmp t=>exact r.fr t
 | const v=>exact .cl _ _ (QjV _ _ v)
 | global g=>exact .cl _ _ (.undef _)
 | func f=>exact .cl _ _ (.raw _)
section
variable {h:List Ob}{pl:List Pl}{w:World}{v:Value}
def Z9{u}(r:QA Z h pl w (.raw u) v):v=u:=by
 cases r with|cl _ _ hc=>cases hc;rfl
def Cj(r:QA Z h pl w .nil v):∃a,v=.slice a 0 0:=by
 cases r with|cl _ _ hc=>cases hc;exact⟨_,rfl⟩
def Cm{l g off len}(r:QA Z h pl w (.ref l g off len) v):∃o p a cap,v=.slice a len cap/\h[l]? = some o/\pl[l]? = some p/\o.kd.ty=0/\g<=o.gen/\(g=o.gen->pT w o.sz p off len a cap):=by
 cases r with
 | cl _ _ hc=>cases hc
 | ref _ _ _ _ o p a cap ho hp hk hg hs=>exact⟨o,p,a,cap,rfl,ho,hp,hk,hg,hs⟩
def Cn{l g i j}(r:QA Z h pl w (.ptr l g i j) v):∃o p a,v=.pointer (some a)/\h[l]? = some o/\pl[l]? = some p/\o.kd.ty=0/\g<=o.gen/\(g=o.gen->∃b q,p=some (b,q)/\a=⟨b,q+(i*o.sz+j),none⟩):=by
 cases r with
 | cl _ _ hc=>cases hc
 | ptr _ _ _ _ o p a ho hp hk hg hs=>exact⟨o,p,a,rfl,ho,hp,hk,hg,hs⟩
def El{l g}(r:QA Z h pl w (.mref l g) v):∃o p b,h[l]? = some o/\pl[l]? = some p/\pS o.kd.ty b v/\g<=o.gen/\(g=o.gen->p=some (b,0)):=by
 cases r with
 | cl _ _ hc=>cases hc
 | mref _ _ o p b ho hp hk hg hs=>exact⟨o,p,b,ho,hp,hk,hg,hs⟩
def Gp{cs:List D}(r:QA Z h pl w (.agg cs) v):∃vs:List Value,v=.agg vs.toArray/\vs.length=cs.length/\∀i,i<cs.length->QA Z h pl w (nth cs i) (QW vs i):=by
 cases r with
 | cl _ _ hc=>cases hc with|agg _ vs hl hr=>exact⟨vs,rfl,hl,λi hi=>.cl _ _ (hr i hi)⟩
 | agg _ vs hl hr=>exact⟨vs,rfl,hl,hr⟩
def QjW{cs:List D}(r:QA Z h pl w (.tup cs) v):∃vs:List Value,v=.tuple vs.toArray/\vs.length=cs.length/\∀i,i<cs.length->QA Z h pl w (nth cs i) (QW vs i):=by
 cases r with
 | cl _ _ hc=>cases hc with|tup _ vs hl hr=>exact⟨vs,rfl,hl,λi hi=>.cl _ _ (hr i hi)⟩
 | tup _ vs hl hr=>exact⟨vs,rfl,hl,hr⟩
def dH{f}{nf:Nat}{cs:List D}(r:QA Z h pl w (.clo f nf cs) v):∃vs:List Value,v=.func (.func f) (vs.take nf).toArray (vs.drop nf).toArray/\vs.length=cs.length/\∀i,i<cs.length->QA Z h pl w (nth cs i) (QW vs i):=by
 cases r with
 | cl _ _ hc=>cases hc with|clo _ _ _ vs hl hr=>exact⟨vs,rfl,hl,λi hi=>.cl _ _ (hr i hi)⟩
 | clo _ _ _ vs hl hr=>exact⟨vs,rfl,hl,hr⟩
def Gq{cs:List D}(r:QA Z h pl w (.ip cs) v):∃b o,∃vs:Nat->Value,v=.pointer (some ⟨b,o,none⟩)/\∀j,j<cs.length->(free Z pl b/\w.cell? ⟨b,o+j,none⟩=some (vs j))/\Cl (free Z pl) w (nth cs j) (vs j):=by
 cases r with
 | cl _ _ hc=>cases hc with|ip _ b o vs hc hr=>exact⟨b,o,vs,rfl,λj hj=>⟨hc j hj,hr j hj⟩⟩
def NW{sz n}{row}(r:QA Z h pl w (.imm sz n row) v):∃a cap b o,∃vs:Nat->Nat->Value,v=.slice a n cap/\(0<n->a=some ⟨b,o,none⟩)/\n<=cap/\(∀i,i<n->(row i).length=sz) /\
  ∀i j,i<n->j<sz->(free Z pl b/\w.cell? ⟨b,o+(i*sz+j),none⟩=some (vs i j))/\Cl (free Z pl) w (nth (row i) j) (vs i j):=by
 cases r with
 | cl _ _ hc=>cases hc with|imm _ _ _ a cap b o vs ha hl hs hc hr=>exact⟨a,cap,b,o,vs,rfl,ha,hl,hs,λi j hi hj=>⟨hc i j hi hj,hr i j hi hj⟩⟩
end
def VJ(P:Program)(base nt:Nat)(o:Oper)(s:St)(d:D):Prop:=
 ∀(Z:Nat->Prop) pl a w,Rel Z base nt s pl a w->∃v,QA Z s.h pl w d v/\∀w':World,(∀b,b<w.heap.size->w'.heap[b]? = w.heap[b]?)->(execOp a.eval o).run P w'=.ok (.value v) w'
def QjX{w w':World}(e:∀b,b<w.heap.size->w'.heap[b]? = w.heap[b]?){a}{v}(h:w.cell? a=some v):w'.cell? a=some v:=by
 rw[World.cell?_of_block (w:=w) (e a.block (block_lt_of_cell h))];exact h
def q5(w w':World):Prop:=∀(a:Addr) (v:Value),w.cell? a=some v->w'.cell? a=some v
def q5.trans{a b c}(h:q5 a b)(k:q5 b c):q5 a c:=λx v hx=>k x v (h x v hx)
def q5.ext{w w':World}(e:∀b,b<w.heap.size->w'.heap[b]? = w.heap[b]?):q5 w w':=λ_ _ h=>QjX e h
def SF(P:Program)(base nt:Nat)(o:Oper)(s:St)(d:D):Prop:=
 ∀(Z:Nat->Prop) pl a w,Rel Z base nt s pl a w->∃v,QA Z s.h pl w d v/\∀w':World,q5 w w'->(execOp a.eval o).run P w'=.ok (.value v) w'
def SF.up{P}{base nt}{o}{s}{d}(h:SF P base nt o s d):VJ P base nt o s d:=λZ pl a w r=>by
 obtain⟨v,h1,h2⟩:=h Z pl a w r;exact⟨v,h1,λw' e=>h2 w' (.ext e)⟩
abbrev Ev:=Option (Prop × D)
def SG(op:BinOp)(k:IntKind)(a b:Int):Ev:=
 match op with
 | .add=>some (True,.raw (.int k (k.wrap (a+b))))
 | .sub=>some (True,.raw (.int k (k.wrap (a - b))))
 | .mul=>some (True,.raw (.int k (k.wrap (a*b))))
 | .quo=>some (b≠0,.raw (.int k (k.wrap (a.tdiv b))))
 | .rem=>some (b≠0,.raw (.int k (a.tmod b)))
 | .and=>some (True,.raw (.int k (bits .and k a b)))
 | .or=>some (True,.raw (.int k (bits .or k a b)))
 | .xor=>some (True,.raw (.int k (bits .xor k a b)))
 | .andNot=>some (True,.raw (.int k (bits .andNot k a b)))
 | .eql=>some (True,.raw (.bool (a==b)))
 | .neq=>some (True,.raw (.bool (a != b)))
 | .lss=>some (True,.raw (.bool (decide (a<b))))
 | .leq=>some (True,.raw (.bool (decide (a<=b))))
 | .gtr=>some (True,.raw (.bool (decide (b<a))))
 | .geq=>some (True,.raw (.bool (decide (b<=a))))
 | _=>none
def SH(op:BinOp)(k:IntKind)(a b:Int):Ev:=
 match op with
 | .shl=>some (0<=b,.raw (.int k (k.wrap (a*2 ^ (min b.toNat k.bits)))))
 | .shr=>some (0<=b,.raw (.int k (a.fdiv (2 ^ (min b.toNat k.bits)))))
 | _=>none
def IntKind.same:IntKind->IntKind->Bool
 | .i8,.i8 | .i16,.i16 | .i32,.i32 | .i64,.i64 | .u8,.u8 | .u16,.u16 | .u32,.u32 | .u64,.u64=>true
 | _,_=>false
def IntKind.dI{k k'}(h:IntKind.same k k'=true):k=k':=by cases k<;>cases k'<;>first|rfl|cases h
def dJ:BinOp->Bool
 | .shl | .shr=>true
 | _=>false
def SI(op:BinOp)(a b:Bool):Ev:=
 match op with
 | .eql=>some (True,.raw (.bool (a==b)))
 | .neq=>some (True,.raw (.bool (a != b)))
 | _=>none
def SJ(op:BinOp)(a b:ByteArray):Ev:=
 match op with
 | .add=>some (a.size+b.size<=9223372036854775807,.raw (.string (a++b)))
 | .eql=>some (True,.raw (.bool (a.toList==b.toList)))
 | .neq=>some (True,.raw (.bool (!(a.toList==b.toList))))
 | .lss=>some (True,.raw (.bool (Op.bytesLess a.toList b.toList)))
 | _=>none
def Em(op:BinOp)(both:Bool):Ev:=
 match op with
 | .eql=>some (True,.raw (.bool both))
 | .neq=>some (True,.raw (.bool (!both)))
 | _=>none
def Eo(L:Zm)(t:TypeId):Bool:=match ty L t with|some ⟨.ptr _,_,_,_⟩=>true|_=>false
def SK(L:Zm)(t:TypeId):Bool:=match ty L t with|some ⟨.bool,_,_,_⟩=>true|_=>false
def SL(L:Zm)(op:BinOp)(t:TypeId):D->D->Ev
 | .raw (.int k a),.raw (.int k' b)=>bif dJ op then SH op k a b else bif IntKind.same k k' then SG op k a b else none
 | .raw (.bool a),.raw (.bool b)=>bif SK L t then SI op a b else none
 | .raw (.string a),.raw (.string b)=>SJ op a b
 | .raw (.pointer none),.raw (.pointer none)=>bif Eo L t then Em op true else none
 | .ptr _ _ _ _,.raw (.pointer none)=>bif Eo L t then Em op false else none
 | .ip _,.raw (.pointer none)=>bif Eo L t then Em op false else none
 | .raw (.pointer none),.ptr _ _ _ _=>bif Eo L t then Em op false else none
 | .raw (.pointer none),.ip _=>bif Eo L t then Em op false else none
 | _,_=>none
def QjY(P)(w){s:Sem Value}{v}(h:s.run P w=.ok v w):(do pure (Next.value (<- s)):Sem Next).run P w=.ok (.value v) w:=by
 simp[h]
def QjZ{P}{op}{k}{a b}{p}{d}(t)(h:SG op k a b=some (p,d))(hp:p):∃v,d=.raw v/\∀w,(Go.binOp op t (.int k a) (.int k b)).run P w=.ok v w:=by
 cases op<;>simp only[SG,QV,Q4,reduceCtorEq]at h<;>obtain⟨rfl,rfl⟩:=h<;>refine⟨_,rfl,λw=>?_⟩ <;>
  simp_all[Go.binOp,Op.intArith,Op.intDiv,Op.intBits,Op.intCmp,bits]
def Qj0{P}{op}{k k'}{a b}{p}{d}(t)(h:SH op k a b=some (p,d))(hp:p):∃v,d=.raw v/\∀w,(Go.binOp op t (.int k a) (.int k' b)).run P w=.ok v w:=by
 cases op<;>simp only[SH,QV,Q4,reduceCtorEq]at h<;>obtain⟨rfl,rfl⟩:=h<;>refine⟨_,rfl,λw=>?_⟩ <;>
  (have:¬ b<0:=by omega
   simp[Go.binOp,Op.shift,this])
def Qj1{P}{op}{a b}{p}{d}(t)(h:SJ op a b=some (p,d))(hp:p):∃v,d=.raw v/\∀w,(Go.binOp op t (.string a) (.string b)).run P w=.ok v w:=by
 cases op<;>simp only[SJ,QV,Q4,reduceCtorEq]at h<;>obtain⟨rfl,rfl⟩:=h<;>refine⟨_,rfl,λw=>?_⟩ <;>
  simp[Go.binOp,Op.stringOp]
 omega
def Qj2{P:Program}{t e:TypeId}(ht:P.underlying t=some (.pointer e))(n){x y:Option Addr}(jR:x=none\/y=none)(w):(Op.equalIn (n+1) t (.pointer x) (.pointer y)).run P w=.ok (x.isNone&&y.isNone) w:=by
 rcases jR with rfl|rfl
 ·simp[Op.equalIn,run_underlying ht]
 ·cases x<;>simp[Op.equalIn,run_underlying ht]
def dK{P}{t:TypeId}{x y:Value}{b}{w}(hb:∀n,(Op.equalIn (n+1) t x y).run P w=.ok b w):(Op.equal t x y).run P w=.ok b w:=hb 9999
def Qj3{P:Program}{op}{a b}{p}{d}(t)(ht:P.underlying t=some .bool)(h:SI op a b=some (p,d)):∃v,d=.raw v/\∀w,(Go.binOp op t (.bool a) (.bool b)).run P w=.ok v w:=by
 have he:∀w,(Op.equal t (.bool a) (.bool b)).run P w=.ok (a==b) w:=λw=>dK λn=>run_equalIn_bool' w n t a b ht;cases op<;>simp only[SI,QV,Q4,reduceCtorEq]at h<;>obtain⟨rfl,rfl⟩:=h<;>refine⟨_,rfl,λw=>?_⟩<;>simp only[Go.binOp]
 ·simp[he]
 ·simp[he,bne]
def NX{P:Program}{op}{x y:Option Addr}(jR:x=none\/y=none){p}{d}{t e:TypeId}(ht:P.underlying t=some (.pointer e))(h:Em op (x.isNone&&y.isNone)=some (p,d)):∃v,d=.raw v/\∀w,(Go.binOp op t (.pointer x) (.pointer y)).run P w=.ok v w:=by
 have he:∀w,(Op.equal t (.pointer x) (.pointer y)).run P w=.ok (x.isNone&&y.isNone) w:=λw=>dK λn=>Qj2 ht n jR w;cases op<;>simp only[Em,QV,Q4,reduceCtorEq]at h<;>obtain⟨rfl,rfl⟩:=h<;>refine⟨_,rfl,λw=>?_⟩<;>simp only[Go.binOp]
 ·simp[he]
 ·simp[he]
def NY{P:Program}{L}(hL:ZR P L){t:TypeId}(h:Eo L t=true):∃e,P.underlying t=some (.pointer e):=by
 unfold Eo at h;split at h
 ·rename_i e _ _ _ he;exact⟨e,QjU (hL _ _ he) rfl⟩
 ·cases h
def Qj4{P:Program}{L}(hL:ZR P L){t:TypeId}(h:SK L t=true):P.underlying t=some .bool:=by
 unfold SK at h;split at h
 ·rename_i he;exact QjT (hL _ _ he) rfl
 ·cases h
def q6{α:Type}{c:Bool}{x:Option α}{y:α}(h:(bif c then x else none)=some y):c=true/\x=some y:=by cases c<;>simp at h;exact⟨rfl,h⟩
def Qj5{P}{L}(hL:ZR P L){base nt}{s}{o:Oper}{op}{t yt:TypeId}{x y}(ho:o.op=.binOp op t x y yt){p}{d}
  (h:SL L op t (Qr s.fr x) (Qr s.fr y)=some (p,d)) (hp:p):VJ P base nt o s d:=by
 intro Z pl a w r;have hx:=r.eval x;have hy:=r.eval y;generalize Qr s.fr x=dx at *;generalize Qr s.fr y=dy at *;have fin:∀(vx vy:Value),a.eval x=vx->a.eval y=vy->(∀w,(eqGuard op t x y vx vy).run P w=.ok () w)->(∃v,d=.raw v/\∀w,(Go.binOp op t vx vy).run P w=.ok v w) ->
   ∃v,QA Z s.h pl w d v/\∀w':World,(∀b,b<w.heap.size->w'.heap[b]? = w.heap[b]?)->(execOp a.eval o).run P w'=.ok (.value v) w':=by
  intro vx vy e1 e2 hg ⟨v,hd,hv⟩;refine⟨v,hd▸.cl _ _ (.raw v),λw' _=>?_⟩;simp only[execOp,ho,e1,e2];refine QjY P w' ?_;simp[hg,hv]
 unfold SL at h;split at h
 ·rename_i k i k' j;have e1:=Z9 hx;have e2:=Z9 hy;refine fin _ _ e1 e2 (λw=>by cases op<;>simp[eqGuard]) ?_;cases hs:dJ op
  ·rw[hs]at h;simp only[qB]at h;obtain⟨hk,h1⟩:=q6 h;have:=IntKind.dI hk;subst this;exact QjZ t h1 hp
  ·rw[hs]at h;exact Qj0 t h hp
 ·obtain⟨ht,h⟩:=q6 h;exact fin _ _ (Z9 hx) (Z9 hy) (λw=>by cases op<;>simp[eqGuard]) (Qj3 t (Qj4 hL ht) h)
 ·exact fin _ _ (Z9 hx) (Z9 hy) (λw=>by cases op<;>simp[eqGuard]) (Qj1 t h hp)
 ·obtain⟨ht,h⟩:=q6 h;obtain⟨e,he⟩:=NY hL ht;exact fin _ _ (Z9 hx) (Z9 hy) (λw=>by cases op<;>simp[eqGuard]) (NX (.inl rfl) he h)
 ·obtain⟨ht,h⟩:=q6 h;obtain⟨e,he⟩:=NY hL ht;obtain⟨_,_,aa,hv,_⟩:=Cn hx;exact fin _ _ hv (Z9 hy) (λw=>by cases op<;>simp[eqGuard]) (NX (.inr rfl) he h)
 ·obtain⟨ht,h⟩:=q6 h;obtain⟨e,he⟩:=NY hL ht;obtain⟨_,_,_,hv,_⟩:=Gq hx;exact fin _ _ hv (Z9 hy) (λw=>by cases op<;>simp[eqGuard]) (NX (.inr rfl) he h)
 ·obtain⟨ht,h⟩:=q6 h;obtain⟨e,he⟩:=NY hL ht;obtain⟨_,_,aa,hv,_⟩:=Cn hy;exact fin _ _ (Z9 hx) hv (λw=>by cases op<;>simp[eqGuard]) (NX (.inl rfl) he h)
 ·obtain⟨ht,h⟩:=q6 h;obtain⟨e,he⟩:=NY hL ht;obtain⟨_,_,_,hv,_⟩:=Gq hy;exact fin _ _ (Z9 hx) hv (λw=>by cases op<;>simp[eqGuard]) (NX (.inl rfl) he h)
 ·cases h
variable {Z:Nat->Prop}
section
variable {P:Program}{L:Zm}{base nt:Nat}{s:St}{o:Oper}
def pW{x}(ho:o.op=.move x\/o.op=.assign x):VJ P base nt o s (Qr s.fr x):=by
 intro Z pl a w r;refine⟨_,r.eval x,λw' _=>?_⟩;rcases ho with ho|ho<;>simp[execOp,ho]
def Qj6{c x y}(ho:o.op=.pick c x y){b}(hc:Qr s.fr c=.raw (.bool b)):VJ P base nt o s (bif b then Qr s.fr x else Qr s.fr y):=by
 intro Z pl a w r;have h:=r.eval c;rw[hc]at h;have e:=Z9 h;cases b
 ·exact⟨_,r.eval y,λw' _=>by simp[execOp,ho,e,asBool]⟩
 ·exact⟨_,r.eval x,λw' _=>by simp[execOp,ho,e,asBool]⟩
def mk(y:Ty)(cells:List D):D:=bif y.k.agg then .agg (cells.take y.size) else nth cells 0
def A9(y:Ty):D:=bif y.k.agg then .agg (y.zero.map JM) else nth (y.zero.map JM) 0
def dL{P}{t:TypeId}{y}(h:We P t y){N}(w):∃z,Cl N w (A9 y) z/\∀w',(Go.zeroValue t).run P w'=.ok z w':=by
 have h1:=h.info;have h2:=h.zag;cases hi:P.info? t with
 | none=>rw[hi]at h1;cases h1
 | some i=>
  rw[hi]at h1 h2;simp at h1;obtain⟨_,_,z,hz,dF⟩:=h1;simp[hz]at h2;refine⟨z,?_,λw=>by simp[Go.zeroValue,Go.typeInfo,hi,hz]⟩;unfold A9;rw[<- h2,<- dF];cases z with
  | agg cs=>
   simp only[SE,jQ];refine .agg _ cs.toList (by simp[Value.cells]) λi hi=>?_;have Jf:i<cs.size:=by simpa[Value.cells] using hi
   have e1:nth ((Value.agg cs).cells.toList.map JM) i=JM (QW cs.toList i):=by
    simp[nth,QW,Value.cells,Q8,Jf]
   rw[e1];exact A7 N w _
  | _=>simp only[SE,qB,Value.cells,nth,Jz,List.map_nil,List.getD_cons_zero];exact A7 N w _
def dM{cs:List D}{k i}(h:i<k):nth (cs.take k) i=nth cs i:=by
 simp only[nth,Q8,W5,h,K6]
def Ep{cs:List D}{k i}:nth (cs.drop k) i=nth cs (k+i):=by
 simp only[nth,Q8,Gg]
def pX{t:TypeId}{y:Ty}(ht:We P t y)(w:World)(ad:Addr)(cells:List D){h:List Ob}{pl:List Pl}(w0:World)(Je:y.size<=cells.length)(h1:y.k.agg=false->y.size=1)
  (hc:∀j,j<y.size->∃v,w.cell? (ad.add j)=some v/\QA Z h pl w0 (nth cells j) v) :
  ∃v,QA Z h pl w0 (mk y cells) v/\∀w',(∀j v,j<y.size->w.cell? (ad.add j)=some v->w'.cell? (ad.add j)=some v)->(loadVar t ad).run P w'=.ok v w':=by
 unfold mk;cases hk:y.k.agg
 ·have hs:=h1 hk;obtain⟨v,hv,hr⟩:=hc 0 (by omega);refine⟨v,hr,λw' XC=>?_⟩;have:=XC 0 v (by omega) hv;simp only[Addr.add_zero']at this;simp[loadVar,ht.isAgg,hk,this]
 ·let f:Nat->Value:=λj=>(w.cell? (ad.add j)).getD Go.undef;refine⟨.agg ((List.range y.size).map f).toArray,.agg _ _ (by simp;omega) (λi hi=>?_),λw' XC=>?_⟩
  ·have Jf:i<y.size:=by simp at hi;omega
   obtain⟨v,hv,hr⟩:=hc i Jf;rw[dM Jf];have:QW ((List.range y.size).map f) i=v:=by
    simp[QW,Q8,Jf,f,hv]
   rw[this];exact hr
  ·have hl:(loadCells ad y.size).run P w'=.ok ((List.range y.size).map f).toArray w':=run_loadCells w' ad y.size f (λj hj=>by
    obtain⟨v,hv,_⟩:=hc j hj;rw[XC j v hj hv];simp[f,hv])
   simp[loadVar,ht.isAgg,hk,ht.sizeOf,hl]
def Gr(L:Zm)(h:List Ob)(t:TypeId)(d:D):Ev:=
 match ty L t with
 | none=>none
 | some y=>
  match d with
  | .ptr l g i j=>match h[l]? with
   | some o=>some (g=o.gen/\i<o.n/\j+y.size<=o.sz/\(y.k.agg=false->y.size=1),mk y ((o.row i).drop j))
   | none=>none
  | .ip cells=>some (y.size<=cells.length/\(y.k.agg=false->y.size=1),mk y cells)
  | _=>none
def xq(b o n):(⟨b,o,none⟩:Addr).add n=⟨b,o+n,none⟩:=Addr.add_lit b o n
def pY(hL:ZR P L){t:TypeId}{x}(ho:o.op=.load t x){p}{d}(h:Gr L s.h t (Qr s.fr x)=some (p,d))(hp:p):SF P base nt o s d:=by
 intro Z pl a w r;have hx:=r.eval x;unfold Gr at h;cases ht:ty L t with
 | none=>rw[ht]at h;cases h
 | some y=>
  have hy:=hL t y ht;rw[ht]at h;dsimp only at h;generalize Qr s.fr x=dx at *;split at h
  ·rename_i l g i j;split at h
   ·rename_i ob Q9;simp only[QV,Q4]at h;obtain⟨rfl,rfl⟩:=h;obtain⟨hg,hi,hj,h1⟩:=hp;obtain⟨o',p',ad,hv,Zv,ZN,ZD,zZ,Wo⟩:=Cn hx;rw[Q9]at Zv;cases Zv;obtain⟨b,q,rfl,rfl⟩:=Wo hg;obtain⟨QX,xx⟩:=r.o.at_ l ob b q Q9 ZN;obtain⟨c,el,hb,Je,JR,Zx⟩:=xx.cells ZD;obtain⟨v,hr,Q5⟩:=pX hy w ⟨b,q+(i*ob.sz+j),none⟩ ((ob.row i).drop j) (h:=s.h) (pl:=pl) w (by simp[JR i hi];omega) h1 (λk hk=>by
     obtain⟨v,hv,hr⟩:=Zx i (j+k) hi (by omega);refine⟨v,?_,by rw[Ep];exact hr⟩;rw[xq,cell_of_row w b _ c el (0,0) hb,<- hv];congr 1;omega)
    refine⟨v,hr,λw' e=>?_⟩;have:=Q5 w' (λk v hk hv=>e _ _ hv);simp[execOp,ho,hv,Instr.loadAt,Instr.sureAddr,this]
   ·cases h
  ·rename_i cells;simp only[QV,Q4]at h;obtain⟨rfl,rfl⟩:=h;obtain⟨Je,h1⟩:=hp;obtain⟨b,q,vs,hv,hc⟩:=Gq hx;obtain⟨v,hr,Q5⟩:=pX hy w ⟨b,q,none⟩ cells (h:=s.h) (pl:=pl) w Je h1 (λk hk=>by
    obtain⟨⟨_,h2⟩,h3⟩:=hc k (by omega);exact⟨vs k,by rw[xq];exact h2,.cl _ _ h3⟩)
   refine⟨v,hr,λw' e=>?_⟩;have:=Q5 w' (λk v hk hv=>e _ _ hv);simp[execOp,ho,hv,Instr.loadAt,Instr.sureAddr,this]
  ·cases h
def pZ(hL:ZR P L){t:TypeId}{x}(ho:o.op=.load t x){p}{d}(h:Gr L s.h t (Qr s.fr x)=some (p,d))(hp:p):VJ P base nt o s d:=(pY hL ho h hp).up
def IG(L:Zm)(t:TypeId)(f:Nat):Option (Nat × Ty):=
 match ty L t with
 | some ⟨.struct fs,_,_,_⟩=>match fs[f]? with
  | some (off,u)=>match ty L u with
   | some y=>some (off,y)
   | none=>none
  | none=>none
 | _=>none
def dN(hL:ZR P L){t:TypeId}{f off}{y}(h:IG L t f=some (off,y)):∃g fd,P.underlying t=some (.struct g)/\g[f]? = some fd/\fd.offset=off/\We P fd.type y:=by
 unfold IG at h;split at h
 ·rename_i fs _ _ _ he;split at h
  ·rename_i xr u hf;split at h
   ·rename_i y' hu;simp only[QV,Q4]at h;obtain⟨rfl,rfl⟩:=h;obtain⟨g,hg,hm⟩:=pV (hL _ _ he) rfl;rw[<- hm]at hf;simp only[Ky,XA,Q4]at hf;obtain⟨fd,h1,h2,h3⟩:=hf;exact⟨g,fd,hg,by simpa using h1,h2,by rw[h3];exact hL _ _ hu⟩
   ·cases h
  ·cases h
 ·cases h
def SM(L:Zm)(t:TypeId)(f:Nat)(d:D):Ev:=
 match IG L t f with
 | none=>none
 | some (off,y)=>match d with
  | .ptr l g i j=>some (y.size≠0,.ptr l g i (j+off))
  | .ip cells=>some (y.size≠0,.ip (cells.drop off))
  | _=>none
def Qj7(hL:ZR P L){t:TypeId}{f}{x}(ho:o.op=.fieldAddr t x f){p}{d}(h:SM L t f (Qr s.fr x)=some (p,d))(hp:p):VJ P base nt o s d:=by
 intro Z pl a w r;have hx:=r.eval x;unfold SM at h;split at h
 ·cases h
 ·rename_i off y hf;obtain⟨g,fd,hg,Er,rfl,hy⟩:=dN hL hf;have fin:∀(b q:Nat),y.size≠0->a.eval x=.pointer (some ⟨b,q,none⟩)->∀w':World,(execOp a.eval o).run P w'=.ok (.value (.pointer (some ⟨b,q+fd.offset,none⟩))) w':=by
   intro b q dO he w';simp[execOp,ho,he,Instr.fieldAt,run_underlying hg,Er,Instr.sureAddr,fieldPlace,hy.sizeOf,dO,xq]
  generalize Qr s.fr x=dx at *;split at h
  ·rename_i l g i j;simp only[QV,Q4]at h;obtain⟨rfl,rfl⟩:=h;obtain⟨ob,pp,ad,hv,Q9,VI,ZD,yH,Wo⟩:=Cn hx;by_cases hl:g=ob.gen
   ·obtain⟨b,q,rfl,rfl⟩:=Wo hl;exact⟨_,.ptr _ _ _ _ ob _ _ Q9 VI ZD yH (λ_=>⟨b,q,rfl,by simp only[Addr.mk.injEq,and_true,xl];omega⟩),λw' _=>fin _ _ hp hv w'⟩
   ·obtain⟨b,q,sp⟩:=ad;refine⟨.pointer (some ((⟨b,q,sp⟩:Addr).add fd.offset)),.ptr _ _ _ _ ob _ _ Q9 VI ZD yH (λh=>absurd h hl),λw' _=>?_⟩;simp[execOp,ho,hv,Instr.fieldAt,run_underlying hg,Er,Instr.sureAddr,fieldPlace,hy.sizeOf,hp]
  ·rename_i cells;simp only[QV,Q4]at h;obtain⟨rfl,rfl⟩:=h;obtain⟨b,q,vs,hv,hc⟩:=Gq hx;refine⟨_,.cl _ _ (.ip _ b (q+fd.offset) (λj=>vs (fd.offset+j)) (λj hj=>?_) (λj hj=>?_)),λw' _=>fin _ _ hp hv w'⟩
   ·obtain⟨⟨h1,h2⟩,h3⟩:=hc (fd.offset+j) (by simp at hj;omega);exact⟨h1,by rw[Nat.add_assoc];exact h2⟩
   ·obtain⟨⟨h1,h2⟩,h3⟩:=hc (fd.offset+j) (by simp at hj;omega);rw[Ep];exact h3
  ·cases h
def Qm8{t:TypeId}{y}(hy:We P t y)(cs:List D)(vs:List Value){h}{pl}{w0}(hl:vs.length=cs.length)(hr:∀i,i<cs.length->QA Z h pl w0 (nth cs i) (QW vs i))(off)
  (Je:off+y.size<=cs.length) (h1:y.k.agg=false->y.size=1):∃v,QA Z h pl w0 (mk y (cs.drop off)) v/\∀w',(part t vs.toArray off).run P w'=.ok v w':=by
 unfold mk;cases hk:y.k.agg
 ·have hs:=h1 hk;refine⟨QW vs off,by simp only[qB];rw[Ep];exact hr off (by omega),λw'=>?_⟩;have Qc:off<vs.length:=by omega
  simp[part,hy.isAgg,hk,QW,Q8,Qc]
 ·refine⟨.agg ((vs.drop off).take y.size).toArray,.agg _ _ (by simp;omega) (λi hi=>?_),λw'=>?_⟩
  ·have Jf:i<y.size:=by simp at hi;omega
   rw[dM Jf,Ep];have:QW ((vs.drop off).take y.size) i=QW vs (off+i):=by
    simp[QW,Q8,Jf]
   rw[this];exact hr _ (by omega)
  ·simp[part,hy.isAgg,hk,hy.sizeOf]
def SN(L:Zm)(t:TypeId)(f:Nat)(d:D):Ev:=
 match IG L t f with
 | none=>none
 | some (off,y)=>match d with
  | .agg cs=>some (off+y.size<=cs.length/\(y.k.agg=false->y.size=1),mk y (cs.drop off))
  | _=>none
def Qj8(hL:ZR P L){t:TypeId}{f}{x}(ho:o.op=.field t x f){p}{d}(h:SN L t f (Qr s.fr x)=some (p,d))(hp:p):VJ P base nt o s d:=by
 intro Z pl a w r;have hx:=r.eval x;unfold SN at h;split at h
 ·cases h
 ·rename_i off y hf;obtain⟨g,fd,hg,Er,rfl,hy⟩:=dN hL hf;generalize Qr s.fr x=dx at *;split at h
  ·rename_i cs;simp only[QV,Q4]at h;obtain⟨rfl,rfl⟩:=h;obtain⟨vs,hv,hl,hr⟩:=Gp hx;obtain⟨v,dP,Q5⟩:=Qm8 hy cs vs hl hr fd.offset hp.1 hp.2;refine⟨v,dP,λw' _=>?_⟩;simp[execOp,ho,hv,Instr.field,run_underlying hg,Er,asAgg,Q5]
  ·cases h
def II(L:Zm)(t:TypeId):Option (Nat × Bool × Nat):=
 match ty L t with
 | some ⟨.slice e,_,_,_⟩=>match ty L e with
  | some y=>some (y.size,true,0)
  | none=>none
 | some ⟨.array n e,_,_,_⟩=>match ty L e with
  | some y=>some (y.size,false,n)
  | none=>none
 | _=>none
def Qj9(hL:ZR P L){t:TypeId}{sz n}(h:II L t=some (sz,true,n)):∃e y,P.underlying t=some (.slice e)/\We P e y/\y.size=sz:=by
 unfold II at h;split at h
 ·rename_i e _ _ _ he;split at h
  ·rename_i y hy;simp only[QV,Q4]at h;exact⟨e,y,vT (hL _ _ he) rfl,hL _ _ hy,h.1⟩
  ·cases h
 ·split at h
  ·simp at h
  ·cases h
 ·cases h
def Qka(hL:ZR P L){t:TypeId}{sz n}(h:II L t=some (sz,false,n)):∃e y,P.underlying t=some (.array n e)/\We P e y/\y.size=sz:=by
 unfold II at h;split at h
 ·split at h
  ·simp at h
  ·cases h
 ·rename_i e _ _ _ he;split at h
  ·rename_i y hy;simp only[QV,Q4]at h;obtain⟨rfl,_,rfl⟩:=h;exact⟨e,y,dG (hL _ _ he) rfl,hL _ _ hy,rfl⟩
  ·cases h
 ·cases h
def SO(L:Zm)(h:List Ob)(t:TypeId)(d ix:D):Ev:=
 match ix with
 | .raw (.int _ i)=>match II L t with
  | some (sz,true,_)=>match d with
   | .ref l g off len=>match h[l]? with
    | some o=>some (g=o.gen/\o.sz=sz/\0<=i/\i<len,.ptr l g (off+i.toNat) 0)
    | none=>none
   | .imm z n row=>some (z=sz/\0<=i/\i<n,.ip (row i.toNat))
   | _=>none
  | some (sz,false,n)=>match d with
   | .ptr l g a j=>some (0<=i/\i<n,.ptr l g a (j+i.toNat*sz))
   | .ip cells=>some (0<=i/\i<n,.ip (cells.drop (i.toNat*sz)))
   | _=>none
  | none=>none
 | _=>none
def Qkb(hL:ZR P L){t:TypeId}{x ix}(ho:o.op=.indexAddr t x ix){p}{d}(h:SO L s.h t (Qr s.fr x) (Qr s.fr ix)=some (p,d))(hp:p):VJ P base nt o s d:=by
 intro Z pl a w r;have hx:=r.eval x;have dQ:=r.eval ix;unfold SO at h;generalize Qr s.fr x=dx at *;generalize Qr s.fr ix=di at *;split at h
 ·rename_i k i;have hi:=Z9 dQ;split at h
  ·rename_i sz _ he;obtain⟨e,y,hu,hy,rfl⟩:=Qj9 hL he;split at h
   ·rename_i l g off len;split at h
    ·rename_i ob Q9;simp only[QV,Q4]at h;obtain⟨rfl,rfl⟩:=h;obtain⟨hg,Je,h0,h1⟩:=hp;obtain⟨o',p',ad,cap,hv,Zv,ZN,ZD,zZ,Wo⟩:=Cm hx;rw[Q9]at Zv;cases Zv;rcases Wo hg with ⟨h2,_⟩|⟨b,q,c,el,VI,jS,hb,hc,Ba⟩
     ·omega
     ·refine⟨.pointer (some ⟨b,q+((off+i.toNat)*ob.sz+0),none⟩),.ptr _ _ _ _ ob _ _ Q9 ZN ZD zZ (λ_=>⟨b,q,VI,rfl⟩),λw' _=>?_⟩;simp[execOp,ho,hv,hi,jS,Instr.indexAt,asIntOf,run_underlying hu,h0,h1,hy.sizeOf,xq,Je];rw[Vl];omega
    ·cases h
   ·rename_i z n row;simp only[QV,Q4]at h;obtain⟨rfl,rfl⟩:=h;obtain⟨rfl,h0,h1⟩:=hp;obtain⟨ad,cap,b,q,vs,hv,jS,Ba,hs,hc⟩:=NW hx;have Qc:i.toNat<n:=by omega
    refine⟨.pointer (some ⟨b,q+i.toNat*y.size,none⟩),.cl _ _ (.ip _ b _ (λj=>vs i.toNat j) (λj hj=>?_) (λj hj=>?_)),λw' _=>?_⟩
    ·rw[hs _ Qc]at hj;obtain⟨⟨h2,h3⟩,h4⟩:=hc i.toNat j Qc hj;exact⟨h2,by rw[Nat.add_assoc];exact h3⟩
    ·rw[hs _ Qc]at hj;exact(hc i.toNat j Qc hj).2
    ·simp[execOp,ho,hv,hi,jS (by omega),Instr.indexAt,asIntOf,run_underlying hu,h0,h1,hy.sizeOf,xq]
   ·cases h
  ·rename_i sz n he;obtain⟨e,y,hu,hy,rfl⟩:=Qka hL he;split at h
   ·rename_i l g i0 j;simp only[QV,Q4]at h;obtain⟨rfl,rfl⟩:=h;obtain⟨h0,h1⟩:=hp;obtain⟨ob,pp,ad,hv,Q9,VI,ZD,yH,Wo⟩:=Cn hx;refine⟨.pointer (some (ad.add (i.toNat*y.size))),.ptr _ _ _ _ ob _ _ Q9 VI ZD yH (λhg=>?_),λw' _=>?_⟩
    ·obtain⟨b,q,rfl,rfl⟩:=Wo hg;exact⟨b,q,rfl,by rw[xq];simp only[Addr.mk.injEq,and_true,xl];omega⟩
    ·simp[execOp,ho,hv,hi,Instr.indexAt,asIntOf,run_underlying hu,h0,h1,hy.sizeOf,Instr.sureAddr]
   ·rename_i cells;simp only[QV,Q4]at h;obtain⟨rfl,rfl⟩:=h;obtain⟨h0,h1⟩:=hp;obtain⟨b,q,vs,hv,hc⟩:=Gq hx;refine⟨_,.cl _ _ (.ip _ b (q+i.toNat*y.size) (λj=>vs (i.toNat*y.size+j)) (λj hj=>?_) (λj hj=>?_)),λw' _=>?_⟩
    ·obtain⟨⟨h1,h2⟩,h3⟩:=hc (i.toNat*y.size+j) (by simp at hj;omega);exact⟨h1,by rw[Nat.add_assoc];exact h2⟩
    ·obtain⟨⟨h1,h2⟩,h3⟩:=hc (i.toNat*y.size+j) (by simp at hj;omega);rw[Ep];exact h3
    ·simp[execOp,ho,hv,hi,Instr.indexAt,asIntOf,run_underlying hu,h0,h1,hy.sizeOf,Instr.sureAddr,xq]
   ·cases h
  ·cases h
 ·cases h
def SP(L:Zm)(t:TypeId)(d ix:D):Ev:=
 match ix with
 | .raw (.int _ i)=>match d with
  | .agg cs=>match ty L t with
   | some ⟨.array n e,_,_,_⟩=>match ty L e with
    | some y=>some (0<=i/\i<n/\i.toNat*y.size+y.size<=cs.length/\(y.k.agg=false->y.size=1),mk y (cs.drop (i.toNat*y.size)))
    | none=>none
   | _=>none
  | .raw (.string b)=>match ty L t with
   | some ⟨.str,_,_,_⟩=>some (0<=i/\i<b.size,.raw (.int .u8 (b.data.getD i.toNat 0).toNat))
   | _=>none
  | _=>none
 | _=>none
def Qkc(hL:ZR P L){t:TypeId}{x ix}(ho:o.op=.index t x ix){p}{d}(h:SP L t (Qr s.fr x) (Qr s.fr ix)=some (p,d))(hp:p):VJ P base nt o s d:=by
 intro Z pl a w r;have hx:=r.eval x;have dQ:=r.eval ix;unfold SP at h;generalize Qr s.fr x=dx at *;generalize Qr s.fr ix=di at *;split at h
 ·rename_i k i;have hi:=Z9 dQ;split at h
  ·rename_i cs;split at h
   ·rename_i n e _ _ _ he;split at h
    ·rename_i y yJ;have hy:=hL _ _ yJ;simp only[QV,Q4]at h;obtain⟨rfl,rfl⟩:=h;obtain⟨h0,h1,h2,h3⟩:=hp;obtain⟨vs,hv,hl,hr⟩:=Gp hx;obtain⟨v,dP,Q5⟩:=Qm8 hy cs vs hl hr _ h2 h3;refine⟨v,dP,λw' _=>?_⟩;simp[execOp,ho,hv,hi,Instr.index,asIntOf,run_underlying (dG (hL _ _ he) rfl),h0,h1,hy.sizeOf,Q5]
    ·cases h
   ·cases h
  ·rename_i b;split at h
   ·rename_i he;simp only[QV,Q4]at h;obtain⟨rfl,rfl⟩:=h;obtain⟨h0,h1⟩:=hp;have hv:=Z9 hx;refine⟨_,.cl _ _ (.raw _),λw' _=>?_⟩;have Qc:i.toNat<b.size:=by omega
    have:b[i.toNat]? = some (b.data.getD i.toNat 0):=by
     rw[getElem?_pos b i.toNat Qc];show some (b.data[i.toNat])=_;rw[vP,qZ (by exact Qc)];rfl
    simp[execOp,ho,hv,hi,Instr.index,asIntOf,run_underlying (NV (hL _ _ he) rfl),h0,this]
   ·cases h
  ·cases h
 ·cases h
def Qkd{x}{i}(ho:o.op=.extract x i){cs:List D}(hx:Qr s.fr x=.tup cs)(hi:i<cs.length):VJ P base nt o s (nth cs i):=by
 intro Z pl a w r;have h:=r.eval x;rw[hx]at h;obtain⟨vs,hv,hl,hr⟩:=QjW h;refine⟨_,hr i hi,λw' _=>?_⟩;have:i<vs.length:=by omega
 simp[execOp,ho,hv,Instr.extract,QW,Q8,this]
def Qke{u}{t:TypeId}{x}(ho:o.op=.unOp u t x){b}(hu:u=.not)(hx:Qr s.fr x=.raw (.bool b)):VJ P base nt o s (.raw (.bool (!b))):=by
 intro Z pl a w r;have h:=r.eval x;rw[hx]at h;have hv:=Z9 h;exact⟨_,.cl _ _ (.raw _),λw' _=>by simp[execOp,ho,hv,hu,Op.unary]⟩
def Qkf{u}{t:TypeId}{x}(ho:o.op=.unOp u t x){k:IntKind}{n}(hu:u=.neg)(hx:Qr s.fr x=.raw (.int k n)):VJ P base nt o s (.raw (.int k (k.wrap (0 - n)))):=by
 intro Z pl a w r;have h:=r.eval x;rw[hx]at h;have hv:=Z9 h;exact⟨_,.cl _ _ (.raw _),λw' _=>by simp[execOp,ho,hv,hu,Op.unary,Op.intArith]⟩
def Qkg{u}{t:TypeId}{x}(ho:o.op=.unOp u t x){k:IntKind}{n}(hu:u=.xor)(hx:Qr s.fr x=.raw (.int k n)):VJ P base nt o s (.raw (.int k (bits .xor k (if k.signed then -1 else k.max) n))):=by
 intro Z pl a w r;have h:=r.eval x;rw[hx]at h;have hv:=Z9 h;exact⟨_,.cl _ _ (.raw _),λw' _=>by simp[execOp,ho,hv,hu,Op.unary,Op.intBits,bits]⟩
def D.there:D->Bool
 | .ptr _ _ _ _ | .ip _ | .clo _ _ _=>true
 | .raw (.func (.func _) _ _)=>true
 | _=>false
def Qkh{x}(ho:o.op=.nilCheck x){d:D}(hx:Qr s.fr x=d)(hd:d.there=true):VJ P base nt o s d:=by
 intro Z pl a w r;have h:=r.eval x;rw[hx]at h;cases d<;>try (simp only[D.there,Yn]at hd;done)
 case ptr l g i j=>
  obtain⟨_,_,ad,hv,_⟩:=Cn h;exact⟨_,h,λw' _=>by simp[execOp,ho,hv]⟩
 case ip cs=>
  obtain⟨_,_,_,hv,_⟩:=Gq h;exact⟨_,h,λw' _=>by simp[execOp,ho,hv]⟩
 case raw v=>
  have hv:=Z9 h;cases v with
  | func fn first Qz=>
   cases fn with
   | func f=>exact⟨_,h,λw' _=>by simp[execOp,ho,hv]⟩
   | _=>simp only[D.there,Yn]at hd
  | _=>simp only[D.there,Yn]at hd
 case clo f nf cs=>
  obtain⟨vs,hv,_⟩:=dH h;exact⟨_,h,λw' _=>by simp[execOp,ho,hv]⟩
def SQ(L:Zm)(src dst:TypeId):D->Ev
 | .raw (.int _ n)=>match ty L dst,ty L src with
  | some ⟨.int k,_,_,_⟩,some _=>some (True,.raw (.int k (k.wrap n)))
  | _,_=>none
 | .raw (.string b)=>match ty L dst,ty L src with
  | some ⟨.str,_,_,_⟩,some ⟨.str,_,_,_⟩=>some (True,.raw (.string b))
  | _,_=>none
 | _=>none
def Qki(hL:ZR P L){src dst:TypeId}{x}(ho:o.op=.convert src dst x){p}{d}(h:SQ L src dst (Qr s.fr x)=some (p,d)):VJ P base nt o s d:=by
 intro Z pl a w r;have hx:=r.eval x;unfold SQ at h;generalize Qr s.fr x=dx at *;split at h
 ·split at h
  ·rename_i k _ _ _ ys hd hs;simp only[QV,Q4]at h;obtain⟨rfl,rfl⟩:=h;have hv:=Z9 hx;refine⟨_,.cl _ _ (.raw _),λw' _=>?_⟩;obtain⟨sd,h1,h2⟩:=(hL _ _ hs).under;simp[execOp,ho,hv,convert,run_underlying h1,run_underlying (A5 (hL _ _ hd) rfl),Conv.intToInt]
  ·cases h
 ·split at h
  ·rename_i hd hs;simp only[QV,Q4]at h;obtain⟨rfl,rfl⟩:=h;have hv:=Z9 hx;refine⟨_,.cl _ _ (.raw _),λw' _=>?_⟩;simp[execOp,ho,hv,convert,run_underlying (NV (hL _ _ hs) rfl),run_underlying (NV (hL _ _ hd) rfl)]
  ·cases h
 ·cases h
def SR(L:Zm)(t:TypeId):D->Ev
 | .ref _ _ _ n=>match ty L t with
  | some ⟨.slice _,_,_,_⟩=>some (True,.raw (.int .i64 n))
  | _=>none
 | .imm _ n _=>match ty L t with
  | some ⟨.slice _,_,_,_⟩=>some (True,.raw (.int .i64 n))
  | _=>none
 | .nil=>match ty L t with
  | some ⟨.slice _,_,_,_⟩=>some (True,.raw (.int .i64 0))
  | _=>none
 | .raw (.string b)=>match ty L t with
  | some ⟨.str,_,_,_⟩=>some (True,.raw (.int .i64 b.size))
  | _=>none
 | _=>none
def z7{P:Program}{o:Oper}{a:Act}{bi:Builtin}{args:Array Operand}{ZO:Array TypeId}(ho:o.op=.call ⟨.builtin bi,args,ZO⟩)(w:World):
  (execOp a.eval o).run P w=(builtin bi ZO o.type (args.map fun | .const _=>true|_=>false) (args.map a.eval)).run P w:=by
 simp[execOp,ho,resolve,invoke];rfl
def SS(hL:ZR P L){x}{t:TypeId}(ho:o.op=.call ⟨.builtin .len,#[x],#[t]⟩){p}{d}(h:SR L t (Qr s.fr x)=some (p,d)):VJ P base nt o s d:=by
 intro Z pl a w r;have hx:=r.eval x;unfold SR at h;generalize Qr s.fr x=dx at *;split at h
 ·split at h
  ·rename_i he;simp only[QV,Q4]at h;obtain⟨rfl,rfl⟩:=h;obtain⟨_,_,ad,cap,hv,_⟩:=Cm hx;refine⟨_,.cl _ _ (.raw _),λw' _=>?_⟩;rw[z7 ho];simp[builtin,Builtin.len_,hv,run_underlying (vT (hL _ _ he) rfl),goInt]
  ·cases h
 ·split at h
  ·rename_i he;simp only[QV,Q4]at h;obtain⟨rfl,rfl⟩:=h;obtain⟨ad,cap,_,_,_,hv,_⟩:=NW hx;refine⟨_,.cl _ _ (.raw _),λw' _=>?_⟩;rw[z7 ho];simp[builtin,Builtin.len_,hv,run_underlying (vT (hL _ _ he) rfl),goInt]
  ·cases h
 ·split at h
  ·rename_i he;simp only[QV,Q4]at h;obtain⟨rfl,rfl⟩:=h;obtain⟨ad,hv⟩:=Cj hx;refine⟨_,.cl _ _ (.raw _),λw' _=>?_⟩;rw[z7 ho];simp[builtin,Builtin.len_,hv,run_underlying (vT (hL _ _ he) rfl),goInt]
  ·cases h
 ·split at h
  ·rename_i he;simp only[QV,Q4]at h;obtain⟨rfl,rfl⟩:=h;have hv:=Z9 hx;refine⟨_,.cl _ _ (.raw _),λw' _=>?_⟩;rw[z7 ho];simp[builtin,Builtin.len_,hv,run_underlying (NV (hL _ _ he) rfl),goInt]
  ·cases h
 ·cases h
def Qkj{x y}{ZO:Array TypeId}(ho:o.op=.call ⟨.builtin .max,#[x,y],ZO⟩){k k'}{m n}(hx:Qr s.fr x=.raw (.int k m))(hy:Qr s.fr y=.raw (.int k' n)):VJ P base nt o s (.raw (.int k (max m n))):=by
 intro Z pl a w r;have h1:=r.eval x;have h2:=r.eval y;rw[hx]at h1;rw[hy]at h2;refine⟨_,.cl _ _ (.raw _),λw' _=>?_⟩;rw[z7 ho];simp[builtin,Builtin.max_,Z9 h1,Z9 h2,Builtin.max2];split<;>omega
def Qkk{x y}{ZO:Array TypeId}(ho:o.op=.call ⟨.builtin .min,#[x,y],ZO⟩){k k'}{m n}(hx:Qr s.fr x=.raw (.int k m))(hy:Qr s.fr y=.raw (.int k' n)):VJ P base nt o s (.raw (.int k (min m n))):=by
 intro Z pl a w r;have h1:=r.eval x;have h2:=r.eval y;rw[hx]at h1;rw[hy]at h2;refine⟨_,.cl _ _ (.raw _),λw' _=>?_⟩;rw[z7 ho];simp[builtin,Builtin.min_,Z9 h1,Z9 h2,Builtin.min2];split<;>omega
def Qkl{f}{first Qz:Array Operand}(ho:o.op=.makeFunc (.func f) first Qz):VJ P base nt o s (.clo f first.size ((first.toList++Qz.toList).map (Qr s.fr))):=by
 intro Z pl a w r;refine⟨.func (.func f) (((first.toList++Qz.toList).map a.eval).take first.size).toArray (((first.toList++Qz.toList).map a.eval).drop first.size).toArray,.clo f first.size _ ((first.toList++Qz.toList).map a.eval) (by simp) (λi hi=>?_),λw' _=>?_⟩
 ·have Jf:i<(first.toList++Qz.toList).length:=by simpa using hi
  simp only[nth,QW,Q8,Ky];rw[QP Jf];exact r.eval _
 ·have e1:Array.map a.eval Qz=(List.map a.eval Qz.toList).toArray:=Array.ext' (by simp);have e2:Array.map a.eval first=(List.map a.eval first.toList).toArray:=Array.ext' (by simp);have e3:((first.toList++Qz.toList).map a.eval).take first.size=first.toList.map a.eval:=by rw[vS,List.take_append_of_le_length (by simp),List.take_of_length_le (by simp)]
  have e4:((first.toList++Qz.toList).map a.eval).drop first.size=Qz.toList.map a.eval:=by rw[vS,List.drop_append_of_le_length (by simp),List.drop_of_length_le (by simp),YT]
  rw[e3,e4];simp[execOp,ho,Instr.makeFunc,e1,e2]
end
variable {Z:Nat->Prop}
def Ext(w w':World):Prop:=∀b,b<w.heap.size->w'.heap[b]? = w.heap[b]?
def Ext.refl(w):Ext w w:=λ_ _=>rfl
def Ext.trans{a b c}(h:Ext a b)(k:Ext b c):Ext a c:=λi hi=>by
 have h1:=h i hi;have h2:i<b.heap.size:=by
  rw[qZ hi]at h1;exact(VT.1 h1).1
 rw[k i h2,h1]
def calm(o:Oper):Bool:=match o.op with
 | .store .. | .mapUpdate .. | .insert .. | .entryStore .. | .next ..=>false
 | .call ⟨.builtin .len,_,_⟩ | .call ⟨.builtin .min,_,_⟩ | .call ⟨.builtin .max,_,_⟩=>true
 | .call ⟨.builtin _,_,_⟩=>false
 | _=>true
def q7(P:Program)(base nt:Nat)(o:Oper)(s:St)(h':List Ob)(d:D):Prop:=
 ∀(Z:Nat->Prop) pl a w,Rel Z base nt s pl a w->base<=w.heap.size->∃v w' Qj,((execOp a.eval o).run P w=.ok (.value v) w'\/((execOp a.eval o).run P w=.ok .skip w'/\v=Go.undef)) /\
  Tr s.h pl w h' Qj w'/\Ze Z base h' Qj w'/\QA Z h' Qj w' d v/\Below base w w'/\(calm o=true->Ext w w')
def Gs(P:Program)(base nt:Nat)(o:Oper)(s:St)(h':List Ob)(d:D):Prop:=
 ∀(Z:Nat->Prop) pl a w,Rel Z base nt s pl a w->base<=w.heap.size->∃v w' Qj,((execOp a.eval o).run P w=.ok (.value v) w'\/((execOp a.eval o).run P w=.ok .skip w'/\v=Go.undef)) /\
  Tr s.h pl w h' Qj w'/\Ze Z base h' Qj w'/\QA Z h' Qj w' d v/\Below base w w'
def Gs.up{P}{base nt}{o}{s}{h'}{d}(h:Gs P base nt o s h' d)(hc:calm o=false):q7 P base nt o s h' d:=λZ pl a w r hb=>
 let ⟨v,w',Qj,h1,h2,h3,h4,h5⟩:=h Z pl a w r hb
 ⟨v,w',Qj,h1,h2,h3,h4,h5,λe=>by rw[hc]at e;cases e⟩
def xu:Value->Bool
 | .agg _ | .tuple _=>false
 | _=>true
def D.KJ:D->Bool
 | .raw v=>xu v
 | .undef | .agg _ | .tup _=>false
 | _=>true
def Xr:D->Option (List D)
 | .agg cs=>bif cs.all D.KJ then some cs else none
 | d=>bif d.KJ then some [d] else none
def dS{h}{pl}{w}{d:D}{v}(r:QA Z h pl w d v)(hd:d.KJ=true):xu v=true:=by
 cases r with
 | cl _ _ hc=>cases hc<;>first|rfl|exact hd|(simp[D.KJ]at hd)
 | ref=>rfl
 | ptr=>rfl
 | mref _ _ o p b ho hp hk hg hs=>rw[hk.2];unfold NR;split<;>rfl
 | clo=>rfl
 | agg=>simp[D.KJ]at hd
 | tup=>simp[D.KJ]at hd
def Qkm{v:Value}(h:xu v=true):v.cells=#[v]:=by cases v<;>first|rfl|cases h
def dU{h}{pl}{w}{d}{v}(r:QA Z h pl w d v){cs}(hc:Xr d=some cs):
  v.cells.size=cs.length/\∀i,i<cs.length->QA Z h pl w (nth cs i) (QW v.cells.toList i)/\xu (QW v.cells.toList i)=true:=by
 have one:∀d':D,QA Z h pl w d' v->(bif d'.KJ then some [d'] else none)=some cs->v.cells.size=cs.length/\∀i,i<cs.length->QA Z h pl w (nth cs i) (QW v.cells.toList i)/\xu (QW v.cells.toList i)=true:=by
  intro d' r' h';cases hd:d'.KJ
  ·rw[hd]at h';cases h'
  ·rw[hd]at h';simp only[jQ,QV]at h';subst h';have ho:=dS r' hd;rw[Qkm ho];refine⟨rfl,λi hi=>?_⟩;have:i=0:=by simp at hi;omega
   subst this;exact⟨r',ho⟩
 cases d with
 | agg cs'=>
  simp only[Xr]at hc;obtain⟨ha,hc⟩:=q6 hc;cases hc;obtain⟨vs,rfl,hl,hr⟩:=Gp r;refine⟨by simp[Value.cells,hl],λi hi=>⟨by simpa[Value.cells] using hr i hi,?_⟩⟩;refine dS (by simpa[Value.cells] using hr i hi:QA Z h pl w (nth cs i) _) ?_;rw[jN]at ha;have:=ha (nth cs i) (by simp[nth,Q8,hi]);exact this
 | _=>exact one _ r hc
def SU{P}(b)(el):∀(vs:List Value) (i q:Nat) (w:World) (c:Array Value),w.heap[b]? = some (.cells c el (0,0))->q+i+vs.length<=c.size->(∀j,j<vs.length->xu (QW vs j)=true) ->
  ∃w' c',(storeCells ⟨b,q,none⟩ vs i).run P w=.ok () w'/\w'.heap[b]? = some (.cells c' el (0,0))/\c'.size=c.size /\
   (∀k,c'[k]? = if q+i<=k/\k<q+i+vs.length then vs[k - (q+i)]? else c[k]?)/\(∀k,k≠b->w'.heap[k]? = w.heap[k]?)/\w'.heap.size=w.heap.size/\w'.os=w.os/\w'.tape=w.tape/\w'.output=w.output
 | [],i,q,w,c,hb,hs,ho=>⟨w,c,by simp[storeCells],hb,rfl,λk=>by rw[Qd];simp,λ_ _=>rfl,rfl,rfl,rfl,rfl⟩
 | v::vs,i,q,w,c,hb,hs,ho=>by
  simp only[Vu]at hs;have h0:xu v=true:=ho 0 (by simp);have Qc:q+i<c.size:=by omega
  have Bb:w.cell? ⟨b,q+i,none⟩=some c[q+i]:=by rw[cell_of_row w b _ c el (0,0) hb];simp[Qc]
  have Qkn:w.frozen? ⟨b,q+i,none⟩=false:=frozen_of_row w b _ c el hb;have qC:=heap_setCell_same w b (q+i) c el v hb;obtain⟨w',c',h1,h2,h3,h4,h5,h6,h7,h8,h9⟩:=SU (P:=P) b el vs (i+1) q (w.setCell ⟨b,q+i,none⟩ v) _ qC (by simp;omega) (λj hj=>by
   have:=ho (j+1) (by simp;omega);simpa[QW] using this)
  refine⟨w',c',?_,h2,by rw[h3];simp,λk=>?_,λk hk=>by rw[h5 k hk];exact Below.heap_setCell _ _ _ _ hk,by rw[h6];simp,by rw[h7];rfl,by rw[h8];rfl,by rw[h9];rfl⟩
  ·have Jg:(store (⟨b,q+i,none⟩:Addr) v).run P w=.ok () (w.setCell ⟨b,q+i,none⟩ v):=by
    cases v<;>first|(simp[xu]at h0;done)|(simp[store,Sem.run,Bb,Qkn])
   simp only[storeCells,Sem.run_bind,xq,Jg,Result.andThen_ok];exact h1
  ·rw[h4 k];by_cases YW:q+i=k
   ·subst YW;rw[Qd (by omega),Qg (by simp)];simp[Qc]
   ·by_cases IJ:q+i<=k/\k<q+i+(v::vs).length
    ·rw[Qg IJ,Qg (by simp at IJ;omega)];obtain⟨m,rfl⟩:∃m,k=q+i+(m+1):=⟨k - (q+i) - 1,by omega⟩;rw[show q+i+(m+1) - (q+i)=m+1 by omega,show q+i+(m+1) - (q+(i+1))=m by omega];simp
    ·rw[Qd IJ,Qd (by simp at IJ;omega),df (by omega)]
def yK(cs:List D)(j:Nat)(ds:List D):List D:=cs.take j++ds++cs.drop (j+ds.length)
def SV{cs:List D}{j}{ds:List D}(h:j+ds.length<=cs.length):(yK cs j ds).length=cs.length:=by simp[yK];omega
def Qnd{cs:List D}{j}{ds:List D}(h:j+ds.length<=cs.length)(i):nth (yK cs j ds) i=if j<=i/\i<j+ds.length then nth ds (i - j) else nth cs i:=by
 simp only[nth,yK,Q8];by_cases h1:i<j
 ·rw[Qd (by omega),Wb,Jy (by simp;omega)];simp[h1]
 ·by_cases h2:i<j+ds.length
  ·rw[Qg ⟨by omega,h2⟩,Wb,JT (by simp;omega),Jy (by simp;omega)];simp;congr 3;omega
  ·rw[Qd (by omega),JT (by simp;omega)];simp only[Gg,ZX,List.length_take];congr 2;omega
def setRow(o:Ob)(i:Nat)(cells:List D):Ob:=
 { o with row:=bif o.kd.Gl then λ_=>cells else λk=>bif Nat.beq k i then cells else o.row k }
def Qne{o:Ob}{i}{cells:List D}(h1:o.kd.Gl=true->o.n=1){k}(hi:i<o.n)(hk:k<o.n):(setRow o i cells).row k=if k=i then cells else o.row k:=by
 unfold setRow;cases h:o.kd.Gl
 ·simp only[qB];by_cases hh:k=i
  ·subst hh;simp
  ·have:Nat.beq k i=false:=by rw[<- W3,Vz];exact hh
   rw[this,Qd hh];rfl
 ·have:=h1 h;simp only[jQ];rw[Qg (by omega)]
section
variable {P:Program}{L:Zm}{base nt:Nat}{s:St}{o:Oper}
def IK{w w':World}{b}(hb:base<=b)(h5:∀k,k≠b->w'.heap[k]? = w.heap[k]?)(h6:w'.heap.size=w.heap.size)(h7:w'.os=w.os)(h8:w'.tape=w.tape)(h9:w'.output=w.output):Below base w w':=
 ⟨h7,h8,h9,by omega,λk hk=>h5 k (by omega)⟩
def NZ(L:Zm)(h:List Ob)(t:TypeId)(ad x:D):Option (Prop × List Ob):=
 match ty L t,ad,Xr x with
 | some y,.ptr l g i j,some cs=>match h[l]? with
  | some o=>some (g=o.gen/\i<o.n/\j+cs.length<=o.sz/\cs.length=y.size/\(o.kd.Gl=true->o.n=1)/\o.kd.ro=false,h.set l (setRow o i (yK (o.row i) j cs)))
  | none=>none
 | _,_,_=>none
def Qko(hL:ZR P L){t:TypeId}{ad x}(ho:o.op=.store t ad x){p}{h'}(h:NZ L s.h t (Qr s.fr ad) (Qr s.fr x)=some (p,h'))(hp:p):Gs P base nt o s h' .undef:=by
 intro Z pl a w r Kb;have hx:=r.eval x;have jS:=r.eval ad;unfold NZ at h;split at h
 ·rename_i y l g i j cs yJ dV Jp;rw[dV]at jS;split at h
  ·rename_i ob Q9;simp only[QV,Q4]at h;obtain⟨rfl,rfl⟩:=h;obtain⟨hg,hi,hj,Je,h1,hro⟩:=hp;have hy:=hL _ _ yJ;obtain⟨o',p',adr,hv,Zv,ZN,ZD,zZ,Wo⟩:=Cn jS;rw[Q9]at Zv;cases Zv;obtain⟨b,q,rfl,rfl⟩:=Wo hg;obtain⟨QX,xx⟩:=r.o.at_ l ob b q Q9 ZN;obtain⟨c,el,hb,Gt,JR,Zx⟩:=xx.cells ZD;obtain⟨Z6,SW⟩:=dU hx Jp;have Qnf:j+cs.length<=(ob.row i).length:=by rw[JR i hi];exact hj
   have hle:i*ob.sz+ob.sz<=ob.n*ob.sz:=by
    have:=Yp ob.sz (show i+1<=ob.n from hi);rw[Vl]at this;omega
   obtain⟨w',c',g1,g2,g3,g4,g5,g6,g7,g8,g9⟩:=SU (P:=P) b el (a.eval x).cells.toList 0 (q+(i*ob.sz+j)) w c hb (by simp[Z6];omega) (λk hk=>(SW k (by simpa[Z6] using hk)).2);have T:Tr s.h pl w (s.h.set l (setRow ob i (yK (ob.row i) j cs))) pl w':=Tr.QS r.o Q9 ZN rfl rfl rfl (λk hk _=>g5 k hk) (λc1 dD e1=>by rw[hb]at e1;cases e1;exact⟨c',g2,g3⟩);refine⟨Go.undef,w',pl,.inr ⟨?_,rfl⟩,T,?_,.cl _ _ (.undef _),IK (QX hro) g5 g6 g7 g8 g9⟩
   ·simp[execOp,ho,hv,Instr.storeAt,Instr.sureAddr,storeVar,hy.sizeOf,Z6,Je,g1]
   ·refine Ze.QS (hro:=rfl) r.o Q9 ZN ZD ZD rfl rfl (λk hk _=>g5 k hk) hb g2 g3 (by rw[g3];exact Gt) (λk hk=>?_) (λk m hk hm=>?_)
    ·rw[Qne h1 hi hk];split
     ·rw[SV Qnf,JR i hi];rfl
     ·exact JR k hk
    ·rw[Qne h1 hi hk];have ZD:k<ob.n:=hk;have IL:m<ob.sz:=hm;show ∃v,c'[q+(k*ob.sz+m)]? = some v/\_;rw[g4];simp only[Gh,Array.length_toList,Z6];by_cases N3:k=i
     ·subst N3;rw[Qg rfl,Qnd Qnf];by_cases p9:j<=m/\m<j+cs.length
      ·rw[Qg p9,Qg (by omega)];refine⟨QW (a.eval x).cells.toList (m - j),?_,((SW (m - j) (by omega)).1).tr T⟩;rw[show q+(k*ob.sz+m) - (q+(k*ob.sz+j))=m - j by omega];simp only[QW,Q8];rw[QP (by simp[Z6];omega)];rfl
      ·rw[Qd p9,Qd (by omega)];obtain⟨v,Es,Vm⟩:=Zx k m ZD IL;exact⟨v,Es,Vm.tr T⟩
     ·rw[Qd N3,Qd]
      ·obtain⟨v,Es,Vm⟩:=Zx k m ZD IL;exact⟨v,Es,Vm.tr T⟩
      ·intro QCa;rcases Nat.lt_or_gt_of_ne N3 with Qc|Qc
       ·have:=Yp ob.sz (show k+1<=i from Qc);rw[Vl]at this;omega
       ·have:=Yp ob.sz (show i+1<=k from Qc);rw[Vl]at this;omega
  ·cases h
 ·cases h
def Co{w:World}(h:base<=w.heap.size)(ob:Obj):Below base w (w.alloc ob):=(Below.refl base w).alloc h ob
def rb{pl}{a}{w:World}(r:Rel Z base nt s pl a w)(Kb:base<=w.heap.size)(el)(v:Value)(cs:List D)(hl:v.cells.size=cs.length)(hr:∀i,i<cs.length->QA Z s.h pl w (nth cs i) (QW v.cells.toList i)):
  Tr s.h pl w (s.h++[⟨.one,0,cs.length,1,λ_=>cs⟩]) (pl++[some (w.heap.size,0)]) (w.alloc (.cells v.cells el))/\Ze Z base (s.h++[⟨.one,0,cs.length,1,λ_=>cs⟩]) (pl++[some (w.heap.size,0)]) (w.alloc (.cells v.cells el)) /\
   QA Z (s.h++[⟨.one,0,cs.length,1,λ_=>cs⟩]) (pl++[some (w.heap.size,0)]) (w.alloc (.cells v.cells el)) (.ptr s.h.length 0 0 0) (.pointer (some ⟨w.heap.size,0,none⟩)):=by
 have e:∀b,b<w.heap.size->(w.alloc (.cells v.cells el)).heap[b]? = w.heap[b]? := λb hb=>kR w _ b hb;have JH:(w.alloc (.cells v.cells el)).heap[w.heap.size]? = some (.cells v.cells el (0,0)):=heap_alloc_new w _;have T:Tr s.h pl w (s.h++[⟨.one,0,cs.length,1,λ_=>cs⟩]) (pl++[some (w.heap.size,0)]) (w.alloc (.cells v.cells el)):=Tr.push r.o e _ _ (by intro b q h;simp at h;omega);refine⟨T,?_,?_⟩
 ·refine Ze.push r.o e _ rfl (QD _) Kb JH (by simp[hl]) (λ_ _=>rfl) (λi j hi hj=>?_);have dW:i=0:=by simp at hi;omega
  subst dW;refine⟨QW v.cells.toList j,?_,(hr j hj).tr T⟩;simp only[Nat.zero_mul,JG,QW,Q8];have:j<v.cells.size:=by rw[hl];exact hj
  rw[jM,qZ this];rfl
 ·have Zf:pl.length=s.h.length:=r.o.len;exact .ptr _ _ _ _ ⟨.one,0,cs.length,1,λ_=>cs⟩ (some (w.heap.size,0)) _ (by simp) (by rw[<- Zf];simp) rfl (QD _) (λ_=>⟨_,_,rfl,by simp⟩)
def Qkp(hL:ZR P L){t:TypeId}{ad x}(ho:o.op=.store t ad x){p}{h'}(h:NZ L s.h t (Qr s.fr ad) (Qr s.fr x)=some (p,h'))(hp:p):q7 P base nt o s h' .undef:=
 (Qko hL ho h hp).up (by simp[calm,ho])
def Qkq{t:TypeId}{x}(ho:o.op=.box t x){cs:List D}(hx:Xr (Qr s.fr x)=some cs):q7 P base nt o s (s.h++[⟨.one,0,cs.length,1,λ_=>cs⟩]) (.ptr s.h.length 0 0 0):=by
 intro Z pl a w r Kb;obtain⟨Z6,SW⟩:=dU (r.eval x) hx;obtain⟨h1,h2,h3⟩:=rb r Kb t (a.eval x) cs Z6 (λi hi=>(SW i hi).1);refine⟨_,_,_,.inl ?_,h1,h2,h3,Co Kb _,λ_ b hb=>kR _ _ b hb⟩;simp[execOp,ho,Instr.box,newVar,newRow]
def Qkr(hL:ZR P L){t:TypeId}(ho:o.op=.alloc t){y:Ty}(hy:ty L t=some y):q7 P base nt o s (s.h++[⟨.one,0,(y.zero.map JM).length,1,λ_=>y.zero.map JM⟩]) (.ptr s.h.length 0 0 0):=by
 intro Z pl a w r Kb;obtain⟨z,hz,Q5⟩:=(hL _ _ hy).zeroValue;obtain⟨h1,h2,h3⟩:=rb r Kb t z (y.zero.map JM) (by rw[<- hz];simp) (λi hi=>by
  rw[<- hz]at hi ⊢;have Jf:i<z.cells.size:=by simpa using hi
  refine .cl _ _ ?_;simp only[nth,QW,Q8,Ky,jM,qZ Jf,Kt,KS];exact A7 _ _ _)
 refine⟨_,_,_,.inl ?_,h1,h2,h3,Co Kb _,λ_ b hb=>kR _ _ b hb⟩;simp[execOp,ho,Instr.alloc,newVar,newRow,Q5]
end
variable {Z:Nat->Prop}
def N4(h:List Ob):D->Option (Prop × Nat × Nat × (Nat->List D))
 | .ref l g off n=>match h[l]? with
  | some o=>some (g=o.gen/\off+n<=o.n,n,o.sz,λk=>o.row (off+k))
  | none=>none
 | .imm sz n row=>some (True,n,sz,row)
 | _=>none
structure Src (Z:Nat->Prop) (h:List Ob) (pl:List Pl) (w:World) (v:Value) (n sz:Nat) (rows:Nat->List D) (a:Option Addr) (cap:Nat) (vs:Nat->Nat->Value):Prop where
 v:v=.slice a n cap
 len:∀i,i<n->(rows i).length=sz
 cell:∀i j,i<n->j<sz->∃b q,a=some ⟨b,q,none⟩/\w.cell? ⟨b,q+(i*sz+j),none⟩=some (vs i j)
 rel:∀i j,i<n->j<sz->QA Z h pl w (nth (rows i) j) (vs i j)
def dX{base}{h}{pl}{w}(R:Ze Z base h pl w){d}{v}(r:QA Z h pl w d v){p}{n sz}{rows}(e:N4 h d=some (p,n,sz,rows))(hp:p):∃a cap vs,Src Z h pl w v n sz rows a cap vs:=by
 unfold N4 at e;split at e
 ·rename_i l g off k;split at e
  ·rename_i o ho;simp only[QV,Q4]at e;obtain⟨rfl,rfl,rfl,rfl⟩:=e;obtain⟨o',p',a,cap,hv,Zv,ZN,ZD,zZ,Wo⟩:=Cm r;rw[ho]at Zv;cases Zv;have hn:=hp.2;rcases Wo hp.1 with ⟨h1,h2⟩|⟨b,q,c,el,VI,ha,hb,hc,hl⟩
   ·subst h1;exact⟨a,cap,λ_ _=>Go.undef,hv,λi hi=>by omega,λi j hi=>by omega,λi j hi=>by omega⟩
   ·subst VI;obtain⟨QX,xx⟩:=R.at_ l o b q ho ZN;obtain⟨c',SX,Kl,Jp,JR,Zx⟩:=xx.cells ZD;rw[hb]at Kl;cases Kl;refine⟨a,cap,λi j=>(c[q+((off+i)*o.sz+j)]?).getD Go.undef,hv,λi hi=>JR _ (by omega),λi j hi hj=>?_,λi j hi hj=>?_⟩
    ·obtain⟨u,hu,hr⟩:=Zx (off+i) j (by omega) hj;refine⟨b,q+off*o.sz,ha,?_⟩;rw[cell_of_row w b _ c el (0,0) hb,show q+off*o.sz+(i*o.sz+j)=q+((off+i)*o.sz+j) by rw[Vl];omega,hu];rfl
    ·obtain⟨u,hu,hr⟩:=Zx (off+i) j (by omega) hj;simp only[hu,KS];exact hr
  ·cases e
 ·simp only[QV,Q4]at e;obtain⟨rfl,rfl,rfl,rfl⟩:=e;obtain⟨a,cap,b,q,vs,hv,ha,hl,hs,hc⟩:=NW r;exact⟨a,cap,vs,hv,hs,λi j hi hj=>⟨b,q,ha (by omega),(hc i j hi hj).1.2⟩,λi j hi hj=>.cl _ _ (hc i j hi hj).2⟩
 ·cases e
def flat(n sz:Nat)(vs:Nat->Nat->Value):List Value:=(List.range (n*sz)).map λk=>vs (k / sz) (k % sz)
def YX(n sz)(vs:Nat->Nat->Value):(flat n sz vs).length=n*sz:=by simp[flat]
def Et{n sz}{vs}{i j}(hi:i<n)(hj:j<sz):(flat n sz vs)[i*sz+j]? = some (vs i j):=by
 have h1:i*sz+j<n*sz:=by have:=Yp sz (show i+1<=n from hi);rw[Vl]at this;omega
 have h2:(i*sz+j) / sz=i:=by rw[IA,Nat.mul_add_div (by omega),Nat.div_eq_of_lt hj];rfl
 have h3:(i*sz+j) % sz=j:=by rw[IA,Nat.mul_add_mod,yG hj]
 simp[flat,h1,h2,h3]
def div_lt{n sz k:Nat}(h:k<n*sz):k / sz<n/\k % sz<sz/\k / sz*sz+k % sz=k:=by
 have h0:0<sz:=Nat.pos_of_ne_zero (λe=>by subst e;simp at h);exact⟨Nat.div_lt_of_lt_mul (by rw[IA];exact h),XX _ h0,by rw[IA];exact Sw k sz⟩
def Src.first{P}{h}{pl}{w:World}{v}{n sz}{rows}{a}{cap}{vs}(S:Src Z h pl w v n sz rows a cap vs)(w':World)(hw:w'.heap=w.heap):
  (Builtin.firstCells sz n v).run P w'=.ok (flat n sz vs).toArray w':=by
 rw[S.v];cases a with
 | none=>
  have:n*sz=0:=by
   by_cases h:n*sz=0
   ·exact h
   ·obtain⟨h1,h2,_⟩:=div_lt (n:=n) (sz:=sz) (k:=0) (by omega);obtain⟨b,q,hh,_⟩:=S.cell _ _ h1 h2;cases hh
  simp[Builtin.firstCells,flat,this]
 | some ad=>
  refine run_firstCells_some w' sz n ad n cap _ (YX _ _ _) (λk u hu=>?_);have hk:k<n*sz:=by have:=(Wc.1 hu).1;rw[YX]at this;exact this
  obtain⟨h1,h2,h3⟩:=div_lt hk;obtain⟨b,q,hh,hc⟩:=S.cell _ _ h1 h2;cases hh;rw[<- h3,Et h1 h2]at hu;cases hu;rw[xq,World.cell?_of_block (w:=w) (by rw[hw]),<- h3,hc];simp only[h3]
def dY(z:Array Value)(n:Nat):(Builtin.zeroCells z n).size=n*z.size:=by simp[Builtin.zeroCells]
def rf{P:Program}{t ty e:TypeId}{y:Ty}(ht:P.underlying t=some (.slice e))(hy:We P e y)(hz:y.zero.length=y.size)(w:World)(b:Option Addr)(X1 xv:Nat)(rh:List Value)(c:Option Addr)(n cc:Nat)(news:List Value)
  (hold:∀w':World,w'.heap=w.heap->(Builtin.firstCells y.size X1 (.slice b X1 xv)).run P w'=.ok rh.toArray w') (JH:∀w':World,w'.heap=w.heap->(Builtin.firstCells y.size n (.slice c n cc)).run P w'=.ok news.toArray w')
  (hg:xv<X1+n) (z8:X1+n<=4294967296) (q8:y.bytes<=1024) :
  ∃jT rest,(Builtin.append_ #[t,t] ty #[.slice b X1 xv,.slice c n cc]).run P w=.ok (.slice (some ⟨w.heap.size,0,none⟩) (X1+n) jT) (w.drew.alloc (.cells (rh.toArray++news.toArray++rest) e)) /\
   X1+n<=jT/\rest.size=(jT - (X1+n))*y.size:=by
 obtain⟨z,vU,YY⟩:=hy.zeroValue;obtain⟨i,hi,xw,Ys⟩:=hy.typeInfo w;refine⟨grownCap w (X1+n) xv e,Builtin.zeroCells z.cells (grownCap w (X1+n) xv e - (X1+n)),?_,grownCap_ge _ _ _ _,by rw[dY];congr 1;rw[<- hz,<- vU];simp⟩;have Jf:∀w,(typeInfo e).run P w=.ok i w:=λw=>by
  obtain⟨i',h1,h2,h3⟩:=hy.typeInfo w;have h4:=hy.info;cases hx:P.info? e with
  | none=>rw[hx]at h4;cases h4
  | some k=>
   simp[typeInfo,hx]at hi ⊢;exact hi
 have hn:¬ (X1+n<=xv):=by omega
 have dZ:¬ (9223372036854775807<((X1:Int)+(n:Int))):=by omega
 have h48:Builtin.nextslicecap (X1+n) xv*y.bytes<=281474976710656:=growslice_fits hg (by
  have:=kO (show X1+n<=4294967296 from z8) q8;omega)
 have eh:¬ (281474976710656<Builtin.nextslicecap (X1+n) xv*i.bytes):=by rw[Ys];omega
 have ho:=hold w.drew rfl;have hw:=JH w.drew rfl;simp[Builtin.append_,run_underlying ht,hy.sizeOf,Jf,YY,Builtin.lenOf,hn,dZ,eh,Question.forced,newRow,grownCap,ho,hw,askRoom,mark,Sem.run];rw[<- Array.append_assoc];simp
def Qks{P:Program}{t ty e:TypeId}{y}(ht:P.underlying t=some (.slice e))(hy:We P e y)(w)(b q X1 xv)(c)(n cc)(news)
  (JH:(Builtin.firstCells y.size n (.slice c n cc)).run P w=.ok news.toArray w) (SY:X1+n<=xv) {w':World} (Jg:(storeCells ⟨b,q+X1*y.size,none⟩ news).run P w=.ok () w') :
  (Builtin.append_ #[t,t] ty #[.slice (some ⟨b,q,none⟩) X1 xv,.slice c n cc]).run P w=.ok (.slice (some ⟨b,q,none⟩) (X1+n) xv) w':=by
 simp[Builtin.append_,run_underlying ht,hy.sizeOf,Builtin.lenOf,SY,JH,xq,Jg]
def ri{P:Program}{t ty e:TypeId}{y}(ht:P.underlying t=some (.slice e))(hy:We P e y)(w)(b)(c)(cc):
  (Builtin.append_ #[t,t] ty #[.slice b 0 0,.slice c 0 cc]).run P w=.ok (.slice b 0 0) w:=by
 cases b<;>cases c<;>simp[Builtin.append_,run_underlying ht,hy.sizeOf,Builtin.lenOf,Builtin.firstCells,loadCells,loadCellsFrom,storeCells]
def J2(len off:Nat)(r1 r2:Nat->List D):Nat->List D:=λk=>bif Nat.blt k len then r1 (off+k) else r2 (k - len)
def yL{len off k}{r1 r2}(h:k<len):J2 len off r1 r2 k=r1 (off+k):=by
 have:Nat.blt k len=true:=by simpa[kN] using h
 simp[J2,this]
def vV{len off k}{r1 r2}(h:len<=k):J2 len off r1 r2 k=r2 (k - len):=by
 have:Nat.blt k len=false:=by rw[<- W3,kN];omega
 simp[J2,this]
def ei(y:Ty)(n:Nat):Prop:=n<=4294967296/\y.bytes<=1024/\y.zero.length=y.size
def Bc(L:Zm)(h:List Ob)(t:TypeId)(s x:D):Option (Prop × List Ob × D):=
 match ty L t,N4 h x with
 | some ⟨.slice e,_,_,_⟩,some (px,n,sz,rows)=>match ty L e,s with
  | some y,.nil=>some (px/\sz=y.size/\ei y n/\(∀k,k<n->(rows k).all D.KJ=true),h++[⟨.arr,0,y.size,n,rows⟩],.ref h.length 0 0 n)
  | some y,.ref l g off len=>match h[l]? with
   | some o=>some (px/\g=o.gen/\off+len=o.n/\o.sz=y.size/\sz=y.size/\ei y (len+n)/\(∀k,k<n->(rows k).all D.KJ=true)/\o.kd.ro=false,h.set l ⟨.arr,o.gen+1,y.size,len+n,J2 len off o.row rows⟩,.ref l (o.gen+1) 0 (len+n))
   | none=>none
  | _,_=>none
 | _,_=>none
def Tr.Cq{base:Nat}{h:List Ob}{pl:List Pl}{w w':World}(R:Ze Z base h pl w){l:Nat}{o o':Ob}{p p':Pl}(ho:h[l]? = some o)(hp:pl[l]? = some p)(Jo:o'.kd.ty=o.kd.ty)(hg:o.gen<o'.gen)
  (e:∀k,k<w.heap.size->(∀q,p≠some (k,q))->w'.heap[k]? = w.heap[k]?) (ZN:∀b q,p'=some (b,q)->(∃q',p=some (b,q'))\/w.heap.size<=b):Tr h pl w (h.set l o') (pl.set l p') w' where
 Kj:=λk hk Qc=>by
  have QB:∀q,p≠some (k,q):=λq hq=>hk l q (by rw[hp,hq]);refine⟨λl' q Yt=>?_,e k Qc QB⟩;by_cases XD:l=l'
  ·subst XD;have:(pl.set l p')[l]? = some p':=by simp[VU hp]
   rw[this]at Yt;simp only[QV]at Yt;rcases ZN k q Yt with ⟨q',h1⟩|h1
   ·exact QB q' h1
   ·omega
  ·rw[JL XD]at Yt;exact hk l' q Yt
 obj:=λl' o1 p1 Zp W6=>by
  by_cases XD:l=l'
  ·subst XD;rw[ho]at Zp;cases Zp;exact⟨o',p',by simp[Ku ho],by simp[VU hp],by omega,Jo,λh=>by omega⟩
  ·exact⟨o1,p1,by rw[JL XD];exact Zp,by rw[JL XD];exact W6,QD _,rfl,λ_=>⟨rfl,rfl⟩⟩
 shape:=λl' o1 o2 b1 q1 Zp KU yH W6 c el hb=>by
  by_cases XD:l=l'
  ·subst XD;rw[ho]at Zp;cases Zp;have:(h.set l o')[l]? = some o':=by simp[Ku ho]
   rw[this]at KU;cases KU;omega
  ·refine⟨c,?_,rfl⟩;rw[e b1 (R.lt W6).1 (λq hq=>XD (R.inj l l' b1 q q1 (by rw[hp,hq]) W6))];exact hb
def Ze.Cq{base:Nat}{h:List Ob}{pl:List Pl}{w w':World}(R:Ze Z base h pl w){l:Nat}{o o':Ob}{p:Pl}(ho:h[l]? = some o)(hp:pl[l]? = some p)(hk:o.kd.ty=0)(ZD:o'.kd.ty=0)(hg:o.gen<o'.gen)
  (e:∀k,k<w.heap.size->(∀q,p≠some (k,q))->w'.heap[k]? = w.heap[k]?) {b' q':Nat} (ZN:(∃q0,p=some (b',q0))\/w.heap.size<=b') (QX:base<=b') {c:Array Value} {el:TypeId} (hb:w'.heap[b']? = some (.cells c el (0,0)))
  (Je:q'+o'.n*o'.sz<=c.size) (JR:∀i,i<o'.n->(o'.row i).length=o'.sz)
  (Zx:∀i j,i<o'.n->j<o'.sz->∃v,c[q'+(i*o'.sz+j)]? = some v/\QA Z (h.set l o') (pl.set l (some (b',q'))) w' (nth (o'.row i) j) v):Ze Z base (h.set l o') (pl.set l (some (b',q'))) w':=by
 have T:Tr h pl w (h.set l o') (pl.set l (some (b',q'))) w':=Tr.Cq R ho hp (by rw[hk,ZD]) hg e (λb q rj=>by simp at rj;obtain⟨rfl,rfl⟩:=rj;exact ZN);have xy:(pl.set l (some (b',q')))[l]? = some (some (b',q')):=by simp[VU hp]
 have other:∀(l1 b q:Nat),l≠l1->pl[l1]? = some (some (b,q))->b≠b':=by
  intro l1 b q hl h1 xp;subst xp;rcases ZN with ⟨q0,h2⟩|h2
  ·exact hl (R.inj l l1 b q0 q (by rw[hp,h2]) h1)
  ·have:=(R.lt h1).1;omega
 refine⟨by simp[R.len],?_,?_,?_⟩
 ·intro l1 l2 b q1 q2 h1 h2;by_cases e1:l=l1
  ·subst e1;rw[xy]at h1;simp only[QV,Q4]at h1;by_cases e2:l=l2
   ·exact e2
   ·rw[JL e2]at h2;exact absurd h1.1.symm (other l2 b q2 e2 h2)
  ·rw[JL e1]at h1;by_cases e2:l=l2
   ·subst e2;rw[xy]at h2;simp only[QV,Q4]at h2;exact absurd h2.1.symm (other l1 b q1 e1 h1)
   ·rw[JL e2]at h2;exact R.inj l1 l2 b q1 q2 h1 h2
 ·intro l1 o1 Zp h1;by_cases e1:l=l1
  ·subst e1;rw[xy]at h1;cases h1
  ·rw[JL e1]at h1 Zp;exact R.Vv l1 o1 Zp h1
 ·intro l1 o1 b q Zp h1;by_cases e1:l=l1
  ·subst e1;rw[xy]at h1;simp only[QV,Q4]at h1;obtain⟨rfl,rfl⟩:=h1;have:(h.set l o')[l]? = some o':=by simp[Ku ho]
   rw[this]at Zp;cases Zp;exact⟨λ_=>QX,.IE ZD ⟨c,el,hb,Je,JR,Zx⟩⟩
  ·rw[JL e1]at h1 Zp;obtain⟨g1,x⟩:=R.at_ l1 o1 b q Zp h1;have QB:∀q0,p≠some (b,q0):=λq0 hq=>e1 (R.inj l l1 b q0 q (by rw[hp,hq]) h1);exact⟨g1,x.to rfl rfl rfl (e b (R.lt h1).1 QB) (λ_ _=>rfl) λi j v _ _ hr=>hr.tr T⟩
section
variable {P:Program}{L:Zm}{base nt:Nat}{s:St}{o:Oper}
def Qkt(hL:ZR P L){t:TypeId}{x0 x}(ho:o.op=.call ⟨.builtin .append,#[x0,x],#[t,t]⟩)(yM:Qr s.fr x0=.nil){p}{h'}{d}(h:Bc L s.h t .nil (Qr s.fr x)=some (p,h',d))(hp:p):Gs P base nt o s h' d:=by
 intro Z pl a w r Kb;have Wp:=r.eval x0;have Cr:=r.eval x;rw[yM]at Wp;unfold Bc at h;split at h
 ·rename_i e _ _ _ px n sz rows he eu;cases VV:ty L e with
  | none=>rw[VV]at h;cases h
  | some y=>
   rw[VV]at h;simp only[QV,Q4]at h;obtain⟨rfl,rfl,rfl⟩:=h;obtain⟨ez,rfl,⟨z8,q8,Eu⟩,SZ⟩:=hp;have hy:=hL _ _ VV;have ht:=vT (hL _ _ he) rfl;obtain⟨a0,IM⟩:=Cj Wp;obtain⟨ax,Ew,vs,S⟩:=dX r.o Cr eu ez;have Zf:pl.length=s.h.length:=r.o.len;by_cases hn:n=0
   ·subst hn;have T:Tr s.h pl w (s.h++[⟨.arr,0,y.size,0,rows⟩]) (pl++[none]) w:=Tr.push r.o (λ_ _=>rfl) _ _ (by intro b q e;cases e);refine⟨_,w,pl++[none],.inl ?_,T,r.o.Ch _ rfl,.ref _ _ _ _ ⟨.arr,0,y.size,0,rows⟩ none a0 0 (by simp) (by rw[<- Zf];simp) rfl (QD _) (λ_=>.inl ⟨rfl,rfl⟩),Below.refl _ _⟩;rw[z7 ho];simp[builtin,IM,S.v,ri ht hy]
   ·obtain⟨jT,rest,Q5,Ex,xz⟩:=rf (ty:=o.type) ht hy Eu w a0 0 0 [] ax n Ew (flat n y.size vs) (λw' _=>by cases a0<;>simp[Builtin.firstCells,loadCells,loadCellsFrom]) (λw' hw=>by rw[<- S.v];exact S.first w' hw) (by omega) (by omega) q8;simp only[JG,Array.empty_append]at Q5 Ex xz;have e1:∀b,b<w.heap.size->(w.drew.alloc (.cells ((flat n y.size vs).toArray++rest) e)).heap[b]? = w.heap[b]? := λb hb=>kR w.drew _ b hb;have JH:(w.drew.alloc (.cells ((flat n y.size vs).toArray++rest) e)).heap[w.heap.size]? = some (.cells ((flat n y.size vs).toArray++rest) e (0,0)):=heap_alloc_new w.drew _;have T:Tr s.h pl w (s.h++[⟨.arr,0,y.size,n,rows⟩]) (pl++[some (w.heap.size,0)]) (w.drew.alloc (.cells ((flat n y.size vs).toArray++rest) e)):=Tr.push r.o e1 _ _ (by intro b q h;simp at h;omega);refine⟨.slice (some ⟨w.heap.size,0,none⟩) n jT,_,_,.inl ?_,T,Ze.push r.o e1 _ rfl (QD _) Kb JH (by simp[YX]) S.len (λi j hi hj=>⟨vs i j,?_,(S.rel i j hi hj).tr T⟩),.ref _ _ _ _ ⟨.arr,0,y.size,n,rows⟩ (some (w.heap.size,0)) _ jT (by simp) (by rw[<- Zf];simp) rfl (QD _) (λ_=>.inr ⟨w.heap.size,0,_,e,rfl,by simp,JH,?_,Ex⟩),?_⟩
    ·rw[z7 ho];have:(Array.map a.eval #[x0,x])=#[.slice a0 0 0,.slice ax n Ew]:=by simp[IM,S.v]
     rw[this];simp only[builtin,Sem.run_bind,Q5,Result.andThen_ok,Sem.run_pure]
    ·have hg:=Et (vs:=vs) hi hj;have Qc:=(Wc.1 hg).1;rw[JG,Ip (by simpa using Qc)];simpa using hg
    ·simp only[JG,Array.size_append,Eg,YX,xz];rw[<- Vl];exact Yp _ (by omega)
    ·exact((Below.refl base w).drew).alloc Kb _
 ·cases h
def Qku(hL:ZR P L){t:TypeId}{x0 x}{l g off len}(ho:o.op=.call ⟨.builtin .append,#[x0,x],#[t,t]⟩)(yM:Qr s.fr x0=.ref l g off len){p}{h'}{d}(h:Bc L s.h t (.ref l g off len) (Qr s.fr x)=some (p,h',d))(hp:p):Gs P base nt o s h' d:=by
 intro Z pl a w r Kb;have Wp:=r.eval x0;have Cr:=r.eval x;rw[yM]at Wp;unfold Bc at h;split at h
 ·rename_i e _ _ _ px n sz rows he eu;cases VV:ty L e with
  | none=>rw[VV]at h;cases h
  | some y=>
   rw[VV]at h;dsimp only at h;split at h
   ·rename_i ob Q9;simp only[QV,Q4]at h;obtain⟨rfl,rfl,rfl⟩:=h;obtain⟨ez,hg,Gu,Qkv,rfl,⟨z8,q8,Eu⟩,SZ,hro⟩:=hp;have hy:=hL _ _ VV;have ht:=vT (hL _ _ he) rfl;obtain⟨o',p',a0,yN,IM,Zv,ZN,ZD,zZ,Wo⟩:=Cm Wp;rw[Q9]at Zv;cases Zv;obtain⟨ax,Ew,vs,S⟩:=dX r.o Cr eu ez;have yO:(Array.map a.eval #[x0,x])=#[.slice a0 len yN,.slice ax n Ew]:=by simp[IM,S.v]
    have fin:∀{v:Value} {w':World},(Builtin.append_ #[t,t] o.type #[.slice a0 len yN,.slice ax n Ew]).run P w=.ok v w'->(execOp a.eval o).run P w=.ok (.value v) w':=by
     intro v w' Q5;rw[z7 ho,yO];simp only[builtin,Sem.run_bind,Q5,Result.andThen_ok,Sem.run_pure]
    have grown:∀(vo:Nat->Nat->Value) (hold:∀w':World,w'.heap=w.heap->(Builtin.firstCells y.size len (.slice a0 len yN)).run P w'=.ok (flat len y.size vo).toArray w')
      (hlen:∀i,i<len->(ob.row (off+i)).length=y.size) (S3:∀i j,i<len->j<y.size->QA Z s.h pl w (nth (ob.row (off+i)) j) (vo i j)),yN<len+n ->
      ∃v w' Qj,((execOp a.eval o).run P w=.ok (.value v) w'\/((execOp a.eval o).run P w=.ok .skip w'/\v=Go.undef))/\Tr s.h pl w (s.h.set l ⟨.arr,ob.gen+1,y.size,len+n,J2 len off ob.row rows⟩) Qj w' /\
       Ze Z base (s.h.set l ⟨.arr,ob.gen+1,y.size,len+n,J2 len off ob.row rows⟩) Qj w'/\QA Z (s.h.set l ⟨.arr,ob.gen+1,y.size,len+n,J2 len off ob.row rows⟩) Qj w' (.ref l (ob.gen+1) 0 (len+n)) v/\Below base w w':=by
     intro vo hold hlen S3 Qc;obtain⟨jT,rest,Q5,Ex,xz⟩:=rf (ty:=o.type) ht hy Eu w a0 len yN (flat len y.size vo) ax n Ew (flat n y.size vs) hold (λw' hw=>by rw[<- S.v];exact S.first w' hw) Qc z8 q8;have e1:∀b,b<w.heap.size->(w.drew.alloc (.cells ((flat len y.size vo).toArray++(flat n y.size vs).toArray++rest) e)).heap[b]? = w.heap[b]? := λb hb=>kR w.drew _ b hb;have JH:(w.drew.alloc (.cells ((flat len y.size vo).toArray++(flat n y.size vs).toArray++rest) e)).heap[w.heap.size]? = some (.cells ((flat len y.size vo).toArray++(flat n y.size vs).toArray++rest) e (0,0)):=heap_alloc_new w.drew _;have T:=Tr.Cq (o':=⟨.arr,ob.gen+1,y.size,len+n,J2 len off ob.row rows⟩) (p':=some (w.heap.size,0)) r.o Q9 ZN ZD.symm (Gk _) (λk hk _=>e1 k hk) (by intro b q h;simp at h;exact .inr (by omega));refine⟨_,_,_,.inl (fin Q5),T,Ze.Cq r.o Q9 ZN ZD rfl (Gk _) (λk hk _=>e1 k hk) (.inr (QD _)) Kb JH ?_ (λi hi=>?_) (λi j hi hj=>?_),.ref _ _ _ _ ⟨.arr,ob.gen+1,y.size,len+n,J2 len off ob.row rows⟩ (some (w.heap.size,0)) _ jT (by simp[Ku Q9]) (by simp[VU ZN]) rfl (QD _) (λ_=>.inr ⟨w.heap.size,0,_,e,rfl,by simp,JH,?_,Ex⟩),((Below.refl base w).drew).alloc Kb _⟩
     ·simp[YX,Vl]
     ·by_cases yP:i<len
      ·show (J2 len off ob.row rows i).length=_;rw[yL yP];exact hlen i yP
      ·show (J2 len off ob.row rows i).length=_;rw[vV (by omega)];exact S.len _ (by have:i<len+n:=hi;omega)
     ·have VW:j<y.size:=hj;have Jf:i<len+n:=hi;show ∃v,((flat len y.size vo).toArray++(flat n y.size vs).toArray++rest)[0+(i*y.size+j)]? = some v/\QA _ _ _ _ (nth (J2 len off ob.row rows i) j) v;by_cases yP:i<len
      ·rw[yL yP];refine⟨vo i j,?_,(S3 i j yP VW).tr T⟩;have N5:=Et (vs:=vo) yP VW;have N6:=(Wc.1 N5).1;rw[JG,Ip (by simp;omega),Ip (by simpa using N6)];simpa using N5
      ·rw[vV (by omega)];refine⟨vs (i - len) j,?_,(S.rel (i - len) j (by omega) VW).tr T⟩;have N5:=Et (vs:=vs) (show i - len<n by omega) VW;have N6:=(Wc.1 N5).1;have e2:i*y.size+j - (flat len y.size vo).length=(i - len)*y.size+j:=by
        rw[YX];have:i=(i - len)+len:=by omega
        conv=>lhs;rw[this,Vl]
        omega
       have e3:(flat len y.size vo).length<=i*y.size+j:=by
        rw[YX];have:=Yp y.size (show len<=i by omega);omega
       rw[JG,Ip (by simp;omega),Array.getElem?_append_right (by simpa using e3)];simp only[Eg];rw[e2];simpa using N5
     ·simp only[JG,Array.size_append,Eg,YX,xz];rw[<- Vl,<- Vl];exact Yp _ (by omega)
    rcases Wo hg with ⟨h1,h2⟩|⟨b,q,c,el,VI,vW,hb,Jp,Ba⟩
    ·subst h1;subst h2;by_cases hn:n=0
     ·subst hn;have Q5:=ri (ty:=o.type) ht hy w a0 ax Ew;cases S4:p' with
      | none=>
       subst S4;have T:=Tr.Cq (o':=⟨.arr,ob.gen+1,y.size,0+0,J2 0 off ob.row rows⟩) (p':=none) r.o Q9 ZN ZD.symm (Gk _) (λk hk _=>rfl) (by intro b q h;cases h);have qC:pl.set l none=pl:=by
        apply xh;intro i;by_cases hi:l=i
        ·subst hi;rw[ZN];simp[VU ZN]
        ·rw[JL hi]
       rw[qC]at T;refine⟨_,w,pl,.inl (fin Q5),T,?_,.ref _ _ _ _ ⟨.arr,ob.gen+1,y.size,0+0,J2 0 off ob.row rows⟩ none a0 0 (by simp[Ku Q9]) ZN rfl (QD _) (λ_=>.inl ⟨rfl,rfl⟩),Below.refl _ _⟩;refine⟨by simp[r.o.len],r.o.inj,λl1 o1 Zp h1=>?_,λl1 o1 b q Zp h1=>?_⟩
       ·by_cases e1:l=l1
        ·subst e1;rw[WE (Ku Q9)]at Zp;cases Zp;rfl
        ·rw[JL e1]at Zp;exact r.o.Vv l1 o1 Zp h1
       ·by_cases e1:l=l1
        ·subst e1;rw[ZN]at h1;cases h1
        ·rw[JL e1]at Zp;obtain⟨g1,x⟩:=r.o.at_ l1 o1 b q Zp h1;exact⟨g1,x.to rfl rfl rfl rfl (λ_ _=>rfl) λi j v _ _ hr=>hr.tr T⟩
      | some bq=>
       obtain⟨b,q⟩:=bq;subst S4;obtain⟨g1,x⟩:=r.o.at_ l ob b q Q9 ZN;obtain⟨c,el,g2,g3,g4,g5⟩:=x.cells ZD;have T:=Tr.Cq (o':=⟨.arr,ob.gen+1,y.size,0+0,J2 0 off ob.row rows⟩) (p':=some (b,q)) r.o Q9 ZN ZD.symm (Gk _) (λk hk _=>rfl) (by intro b1 q1 h;simp at h;exact .inl ⟨q,by rw[h.1]⟩);exact⟨_,w,_,.inl (fin Q5),T,Ze.Cq r.o Q9 ZN ZD rfl (Gk _) (λk hk _=>rfl) (.inl ⟨q,rfl⟩) (g1 hro) g2 (by simp;omega) (λi hi=>by simp at hi) (λi j hi=>by simp at hi),
        .ref _ _ _ _ ⟨.arr,ob.gen+1,y.size,0+0,J2 0 off ob.row rows⟩ (some (b,q)) a0 0 (by simp[Ku Q9]) (by simp[VU ZN]) rfl (QD _) (λ_=>.inl ⟨rfl,rfl⟩),Below.refl _ _⟩
     ·exact grown (λ_ _=>Go.undef) (λw' _=>by cases a0<;>simp[Builtin.firstCells,loadCells,loadCellsFrom,flat]) (λi hi=>by omega) (λi j hi=>by omega) (by omega)
    ·subst VI;obtain⟨QX,x⟩:=r.o.at_ l ob b q Q9 ZN;have QX:=QX hro;obtain⟨c',SX,Kl,Gt,JR,Zx⟩:=x.cells ZD;rw[hb]at Kl;cases Kl;rw[Qkv]at Jp Gt JR Zx vW;by_cases SY:len+n<=yN
     ·
      have IN:q+off*y.size+len*y.size+n*y.size<=c.size:=by
       have h1:=Yp y.size (show off+(len+n)<=off+yN by omega);simp only[Vl]at h1 Jp;omega
      obtain⟨w',c',g1,g2,g3,g4,g5,g6,g7,g8,g9⟩:=SU (P:=P) b el (flat n y.size vs) 0 (q+off*y.size+len*y.size) w c hb (by simp[YX];omega) (λk hk=>by
       rw[YX]at hk;obtain⟨k1,k2,k3⟩:=div_lt hk;have hg:=Et (vs:=vs) k1 k2;rw[k3]at hg;have:QW (flat n y.size vs) k=vs (k / y.size) (k % y.size):=by simp[QW,Q8,hg]
       rw[this];refine dS (S.rel _ _ k1 k2) ?_;have h2:=SZ _ k1;rw[jN]at h2;refine h2 _ ?_;have h3:k % y.size<(rows (k / y.size)).length:=by rw[S.len _ k1];exact k2
       simp only[nth,Q8,QP h3,KS];exact qz h3)
      subst vW;have Q5:=Qks (ty:=o.type) ht hy w b (q+off*y.size) len yN ax n Ew (flat n y.size vs) (by rw[<- S.v];exact S.first w rfl) SY g1;have he:∀k,k<w.heap.size->(∀q1,(some (b,q):Pl)≠some (k,q1))->w'.heap[k]? = w.heap[k]? := λk _ hk=>g5 k (λhkb=>hk q (by rw[hkb]));have T:=Tr.Cq (o':=⟨.arr,ob.gen+1,y.size,len+n,J2 len off ob.row rows⟩) (p':=some (b,q+off*y.size)) r.o Q9 ZN ZD.symm (Gk _) he (by intro b1 q1 h;simp at h;exact .inl ⟨q,by rw[h.1]⟩);refine⟨_,w',_,.inl (fin Q5),T,Ze.Cq r.o Q9 ZN ZD rfl (Gk _) he (.inl ⟨q,rfl⟩) QX g2 ?_ (λi hi=>?_) (λi j hi hj=>?_),.ref _ _ _ _ ⟨.arr,ob.gen+1,y.size,len+n,J2 len off ob.row rows⟩ (some (b,q+off*y.size)) _ yN (by simp[Ku Q9]) (by simp[VU ZN]) rfl (QD _) (λ_=>.inr ⟨b,q+off*y.size,c',el,rfl,by simp,g2,?_,SY⟩),IK QX g5 g6 g7 g8 g9⟩
      ·rw[g3];simp only[Vl];omega
      ·by_cases yP:i<len
       ·show (J2 len off ob.row rows i).length=_;rw[yL yP];exact JR _ (by omega)
       ·show (J2 len off ob.row rows i).length=_;rw[vV (by omega)];exact S.len _ (by have:i<len+n:=hi;omega)
      ·have VW:j<y.size:=hj;have Jf:i<len+n:=hi;show ∃v,c'[q+off*y.size+(i*y.size+j)]? = some v/\QA _ _ _ _ (nth (J2 len off ob.row rows i) j) v;rw[g4];simp only[YX,Gh];by_cases yP:i<len
       ·rw[yL yP,Qd]
        ·obtain⟨v,hv,hr⟩:=Zx (off+i) j (by omega) VW;refine⟨v,?_,hr.tr T⟩;rw[<- hv];congr 1;rw[Vl];omega
        ·have:=Yp y.size (show i+1<=len from yP);rw[Vl]at this;omega
       ·have h1:=Yp y.size (show len<=i by omega);have h2:i*y.size=(i - len)*y.size+len*y.size:=by rw[<- Vl];congr 1;omega
        have h3:=Yp y.size (show (i - len)+1<=n by omega);rw[Vl]at h3;rw[vV (by omega),Qg (by omega)];refine⟨vs (i - len) j,?_,(S.rel (i - len) j (by omega) VW).tr T⟩;rw[show q+off*y.size+(i*y.size+j) - (q+off*y.size+len*y.size)=(i - len)*y.size+j by omega];exact Et (by omega) VW
      ·rw[g3];simp only[JG,Vl]at Jp ⊢;omega
     ·refine grown (λi j=>(c[q+((off+i)*y.size+j)]?).getD Go.undef) (λw' hw=>?_) (λi hi=>JR _ (by omega)) (λi j hi hj=>?_) (by omega)
      ·have S0:Src Z s.h pl w (.slice a0 len yN) len y.size (λk=>ob.row (off+k)) a0 yN (λi j=>(c[q+((off+i)*y.size+j)]?).getD Go.undef):=by
        refine⟨rfl,λi hi=>JR _ (by omega),λi j hi hj=>⟨b,q+off*y.size,vW,?_⟩,λi j hi hj=>?_⟩
        ·obtain⟨u,hu,hr⟩:=Zx (off+i) j (by omega) hj;rw[cell_of_row w b _ c el (0,0) hb,show q+off*y.size+(i*y.size+j)=q+((off+i)*y.size+j) by rw[Vl];omega,hu];rfl
        ·obtain⟨u,hu,hr⟩:=Zx (off+i) j (by omega) hj;simp only[hu,KS];exact hr
       exact S0.first w' hw
      ·obtain⟨u,hu,hr⟩:=Zx (off+i) j (by omega) hj;simp only[hu,KS];exact hr
   ·cases h
 ·cases h
def Qkx(hL:ZR P L){t:TypeId}{x0 x}(ho:o.op=.call ⟨.builtin .append,#[x0,x],#[t,t]⟩)(yM:Qr s.fr x0=.nil){p}{h'}{d}(h:Bc L s.h t .nil (Qr s.fr x)=some (p,h',d))(hp:p):q7 P base nt o s h' d:=
 (Qkt hL ho yM h hp).up (by simp[calm,ho])
def Qky(hL:ZR P L){t:TypeId}{x0 x}{l g off len}(ho:o.op=.call ⟨.builtin .append,#[x0,x],#[t,t]⟩)(yM:Qr s.fr x0=.ref l g off len){p}{h'}{d}(h:Bc L s.h t (.ref l g off len) (Qr s.fr x)=some (p,h',d))(hp:p):q7 P base nt o s h' d:=
 (Qku hL ho yM h hp).up (by simp[calm,ho])
end
variable {Z:Nat->Prop}
def xA(Z:Nat->Prop)(h:List Ob)(pl:List Pl)(w:World)(cs:List D)(vs:Array Value):Prop:=vs.size=cs.length/\∀i,i<cs.length->QA Z h pl w (nth cs i) (QW vs.toList i)
def rk(off):∀(l:List Value) (n:Nat) (c:Array Value),((l.zipIdx n).foldl (λ(cs:Array Value) (x:Value × Nat)=>cs.setIfInBounds (off+x.2) x.1) c).size=c.size /\
  ∀k,(((l.zipIdx n).foldl (λ(cs:Array Value) (x:Value × Nat)=>cs.setIfInBounds (off+x.2) x.1) c)[k]?)=if off+n<=k/\k<off+n+l.length/\k<c.size then l[k - (off+n)]? else c[k]?
 | [],n,c=>⟨rfl,λk=>by rw[Qd (by simp;omega)];rfl⟩
 | v::l,n,c=>by
  obtain⟨h1,h2⟩:=rk off l (n+1) (c.setIfInBounds (off+n) v);simp only[List.zipIdx_cons,xj];refine⟨by rw[h1];simp,λk=>?_⟩;rw[h2 k];simp only[Array.size_setIfInBounds,Vu];by_cases h3:k=off+n
  ·subst h3;rw[Qd (by omega),Array.getElem?_setIfInBounds_self];by_cases h4:off+n<c.size
   ·rw[Qg h4,Qg ⟨by omega,by omega,h4⟩];simp
   ·rw[Qd h4,Qd (by omega)];simp;omega
  ·rw[df (by omega)];by_cases h5:off+n<=k/\k<off+n+(l.length+1)/\k<c.size
   ·rw[Qg h5,Qg (by omega)];obtain⟨m,rfl⟩:∃m,k=off+n+(m+1):=⟨k - (off+n) - 1,by omega⟩;rw[show off+n+(m+1) - (off+(n+1))=m by omega,show off+n+(m+1) - (off+n)=m+1 by omega];simp
   ·rw[Qd h5,Qd (by omega)]
def Qkz(off)(v:Array Value)(c):v.zipIdx.foldl (λ(cs:Array Value) (x:Value × Nat)=>cs.setIfInBounds (off+x.2) x.1) c=(v.toList.zipIdx 0).foldl (λ(cs:Array Value) (x:Value × Nat)=>cs.setIfInBounds (off+x.2) x.1) c:=by
 rw[<- Array.foldl_toList,Array.toList_zipIdx]
def xA.yK{h}{pl}{w}{cs ds:List D}{vs us}{off}(r:xA Z h pl w cs vs)(q:xA Z h pl w ds us)(hl:off+ds.length<=cs.length):
  xA Z h pl w (yK cs off ds) (us.zipIdx.foldl (λ(cs:Array Value) (x:Value × Nat)=>cs.setIfInBounds (off+x.2) x.1) vs):=by
 obtain⟨h1,h2⟩:=rk off us.toList 0 vs;rw[Qkz];refine⟨by rw[h1,r.1,SV hl],λi hi=>?_⟩;rw[SV hl]at hi;rw[Qnd hl];have e:QW (List.foldl (λ(cs:Array Value) (x:Value × Nat)=>cs.setIfInBounds (off+x.2) x.1) vs (us.toList.zipIdx 0)).toList i=if off<=i/\i<off+ds.length then QW us.toList (i - off) else QW vs.toList i:=by
  simp only[QW,Q8,jM,h2 i,Gh,Array.length_toList,q.1,r.1];by_cases h3:off<=i/\i<off+ds.length
  ·rw[Qg ⟨h3.1,h3.2,hi⟩,Qg h3]
  ·rw[Qd (by omega),Qd h3]
 rw[e];split
 ·exact q.2 _ (by omega)
 ·exact r.2 _ hi
def vX(place:Nat->Option (Nat × Nat))(cells:List D):List (Nat × Option (List D))->Option (List D)
 | []=>some cells
 | (i,some ds)::rest=>match place i with
  | some (off,size)=>bif Nat.beq ds.length size&&Nat.ble (off+ds.length) cells.length then vX place (yK cells off ds) rest else none
  | none=>none
 | (_,none)::_=>none
def N7{h:List Ob}{pl:List Pl}{w:World}(place:Nat->Option (Nat × Nat))(ev:Operand->D)(a:Act)(yO:∀x,QA Z h pl w (ev x) (a.eval x)):∀(parts:List (Nat × Operand)) (cells Bd:List D) (vs:Array Value),xA Z h pl w cells vs ->
  vX place cells (parts.map λx=>(x.1,Xr (ev x.2)))=some Bd->∃Wq,Instr.fill place vs (parts.map λx=>(x.1,a.eval x.2))=some Wq/\xA Z h pl w Bd Wq
 | [],cells,Bd,vs,r,hh=>by simp[vX]at hh;subst hh;exact⟨vs,rfl,r⟩
 | (i,x)::parts,cells,Bd,vs,r,hh=>by
  simp only[Jz]at hh ⊢;cases hd:Xr (ev x) with
  | none=>rw[hd]at hh;simp[vX]at hh
  | some ds=>
   rw[hd]at hh;simp only[vX]at hh;cases hp:place i with
   | none=>rw[hp]at hh;cases hh
   | some os=>
    obtain⟨off,size⟩:=os;rw[hp]at hh;obtain⟨hc,hh⟩:=q6 hh;simp only[ZJ,Vz,Gi]at hc;obtain⟨Ey,xB⟩:=dU (yO x) hd;have q:xA Z h pl w ds (a.eval x).cells:=⟨Ey,λi hi=>(xB i hi).1⟩;obtain⟨Wq,h1,h2⟩:=N7 place ev a yO parts _ _ _ (r.yK q hc.2) hh;refine⟨Wq,?_,h2⟩;simp only[Instr.fill,hp];rw[Qd (by simp only[Ey,r.1];simp;omega)];exact h1
def eA{h}{pl}{w}{y:Ty}{z:Value}(hz:z.cells.toList=y.zero):xA Z h pl w (y.zero.map JM) z.cells:=by
 refine⟨by rw[<- hz];simp,λi hi=>?_⟩;rw[<- hz]at hi ⊢;have Jf:i<z.cells.size:=by simpa using hi
 refine .cl _ _ ?_;simp only[nth,QW,Q8,Ky,jM,qZ Jf,Kt,KS];exact A7 _ _ _
def IP(L:Zm):List (Nat × TypeId)->Option (List (Nat × Nat))
 | []=>some []
 | (off,u)::r=>match ty L u,IP L r with
  | some y,some ps=>some ((off,y.size)::ps)
  | _,_=>none
def rn{P}{L}(hL:ZR P L)(w):∀(fs:List Field) (ps:List (Nat × Nat)),IP L (fs.map λf=>(f.offset,f.type))=some ps->(fs.mapM λf=>Prod.mk f.offset <$> sizeOf f.type).run P w=.ok ps w
 | [],ps,h=>by simp[IP]at h;subst h;simp
 | f::fs,ps,h=>by
  simp only[Jz,IP]at h;split at h
  ·rename_i y ps' hy eB;simp only[QV]at h;subst h;simp[List.mapM_cons,(hL _ _ hy).sizeOf,rn hL w fs ps' eB]
  ·cases h
def S5(L:Zm)(fr:List (Nat × D))(t:TypeId)(parts:List (Nat × Operand)):Option D:=
 match ty L t with
 | some y=>match y.k with
  | .struct fs=>match IP L fs with
   | some ps=>match vX (λi=>ps[i]?) (y.zero.map JM) (parts.map λx=>(x.1,Xr (Qr fr x.2))) with
    | some cs=>some (.agg cs)
    | none=>none
   | none=>none
  | .array _ e=>match ty L e with
   | some ye=>match vX (λi=>some (i*ye.size,ye.size)) (y.zero.map JM) (parts.map λx=>(x.1,Xr (Qr fr x.2))) with
    | some cs=>some (.agg cs)
    | none=>none
   | none=>none
  | _=>none
 | none=>none
section
variable {P:Program}{L:Zm}{base nt:Nat}{s:St}{o:Oper}
def xA.agg{h}{pl}{w}{cs}{vs}(r:xA Z h pl w cs vs):QA Z h pl w (.agg cs) (.agg vs):=by
 have:=QA.agg (h:=h) (pl:=pl) (w:=w) cs vs.toList (by simpa using r.1) r.2;simpa using this
def QkB(hL:ZR P L){t:TypeId}{parts:Array (Nat × Operand)}(ho:o.op=.build t parts){d}(h:S5 L s.fr t parts.toList=some d):VJ P base nt o s d:=by
 intro Z pl a w r;unfold S5 at h;split at h
 ·rename_i y yJ;have hy:=hL _ _ yJ;obtain⟨z,hz,YY⟩:=hy.zeroValue;split at h
  ·rename_i fs hk;split at h
   ·rename_i ps eB;split at h
    ·rename_i cs Jp;simp only[QV]at h;subst h;obtain⟨g,hg,hm⟩:=pV hy hk;obtain⟨Wq,h1,h2⟩:=N7 (h:=s.h) (pl:=pl) (w:=w) _ (Qr s.fr) a (λx=>r.eval x) parts.toList _ _ _ (eA hz) Jp;refine⟨_,h2.agg,λw' _=>?_⟩;have Zf:=rn hL w' g.toList ps (by rw[hm];exact eB);have ZY:Instr.fill (λx=>ps[x]?) z.cells (List.map (λx=>(x.fst,a.eval x.snd)) parts.toList)=some Wq:=h1;simp[execOp,ho,Instr.build,YY,run_underlying hg,Array.mapM_eq_mapM_toList,Zf,ZY]
    ·cases h
   ·cases h
  ·rename_i n e hk;split at h
   ·rename_i ye VV;split at h
    ·rename_i cs Jp;simp only[QV]at h;subst h;obtain⟨Wq,h1,h2⟩:=N7 (h:=s.h) (pl:=pl) (w:=w) _ (Qr s.fr) a (λx=>r.eval x) parts.toList _ _ _ (eA hz) Jp;refine⟨_,h2.agg,λw' _=>?_⟩;simp[execOp,ho,Instr.build,YY,run_underlying (dG hy hk),(hL _ _ VV).sizeOf,h1]
    ·cases h
   ·cases h
  ·cases h
 ·cases h
def eC{a b:List D}{i}(h:i<a.length):nth (a++b) i=nth a i:=by simp only[nth,Q8,Jy h]
def eD{a b:List D}{i}(h:a.length<=i):nth (a++b) i=nth b (i - a.length):=by simp only[nth,Q8,JT h]
def eE(n)(zs:List D):(List.replicate n zs).flatten.length=n*zs.length:=by simp
def rq(zs:List D):∀(n i:Nat),i<n*zs.length->nth (List.replicate n zs).flatten i=nth zs (i % zs.length)
 | 0,i,h=>by simp at h
 | n+1,i,h=>by
  rw[Sp,List.flatten_cons];rw[Vl]at h;by_cases hi:i<zs.length
  ·rw[eC hi,yG hi]
  ·rw[eD (by omega),rq zs n _ (by omega)];congr 1;rw[Nat.mod_eq_sub_mod (by omega:zs.length<=i)]
def yQ(len sz:Nat)(cells:List D):Nat->List D:=bif Nat.beq len 1 then λ_=>cells else λk=>(cells.drop (k*sz)).take sz
def S6(L:Zm)(fr:List (Nat × D))(h:List Ob)(t:TypeId)(len:Nat)(parts:List (Nat × Operand)):Option (Prop × List Ob × D):=
 match ty L t with
 | some ⟨.slice e,_,_,_⟩=>match ty L e with
  | some y=>match vX (λi=>some (i*y.size,y.size)) (List.replicate len (y.zero.map JM)).flatten (parts.map λx=>(x.1,Xr (Qr fr x.2))) with
   | some cs=>some (len*y.size<=16777216/\y.zero.length=y.size,h++[⟨.arr,0,y.size,len,yQ len y.size cs⟩],.ref h.length 0 0 len)
   | none=>none
  | none=>none
 | _=>none
def ru(place):∀(ps:List (Nat × Option (List D))) (cells Bd:List D),vX place cells ps=some Bd->Bd.length=cells.length
 | [],cells,Bd,h=>by simp[vX]at h;rw[h]
 | (i,none)::ps,cells,Bd,h=>by simp[vX]at h
 | (i,some ds)::ps,cells,Bd,h=>by
  simp only[vX]at h;split at h
  ·obtain⟨hc,h⟩:=q6 h;simp only[ZJ,Vz,Gi]at hc;rw[ru place ps _ _ h,SV hc.2]
  ·cases h
def QkC(hL:ZR P L){t:TypeId}{len}{parts:Array (Nat × Operand)}(ho:o.op=.buildSlice t len parts){p}{h'}{d}(h:S6 L s.fr s.h t len parts.toList=some (p,h',d))(hp:p):q7 P base nt o s h' d:=by
 intro Z pl a w r Kb;unfold S6 at h;split at h
 ·rename_i e _ _ _ he;split at h
  ·rename_i y yJ;split at h
   ·rename_i cs Jp;simp only[QV,Q4]at h;obtain⟨rfl,rfl,rfl⟩:=h;obtain⟨h24,Eu⟩:=hp;have hy:=hL _ _ yJ;obtain⟨z,hz,YY⟩:=hy.zeroValue;have Cs:z.cells.size=y.size:=by rw[<- Eu,<- hz];simp
    have ht:=vT (hL _ _ he) rfl;have zr:=eA (Z:=Z) (h:=s.h) (pl:=pl) (w:=w) hz;have xC:(y.zero.map JM).length=y.size:=by simp[Eu]
    have hlen:cs.length=len*y.size:=by rw[ru _ _ _ _ Jp,eE,xC]
    have init:∀zc:Array Value,(len*y.size=0->zc=#[])->(len*y.size≠0->zc=z.cells)->xA Z s.h pl w (List.replicate len (y.zero.map JM)).flatten ((Array.range (len*y.size)).map (zc[· % zc.size]!)):=by
     intro zc h0 h1;refine⟨by rw[eE,xC];simp,λi hi=>?_⟩;rw[eE,xC]at hi;have QB:len*y.size≠0:=by omega
     have Ct:=h1 QB;subst Ct;have yR:0<y.size:=Nat.pos_of_ne_zero (λe=>QB (by rw[e];simp));rw[rq _ _ _ (by rw[xC];exact hi),xC];have h2:=zr.2 (i % y.size) (by rw[xC];exact XX _ yR);have h3:i % y.size<z.cells.size:=by rw[Cs];exact XX _ yR
     have:QW (Array.map (λx=>z.cells[x % z.cells.size]!) (Array.range (len*y.size))).toList i=QW z.cells.toList (i % y.size):=by
      simp only[QW,Q8,jM,Array.getElem?_map,Array.getElem?_range,hi,K6,Kt,KS,Cs];rw[getElem!_pos z.cells _ h3,qZ h3];rfl
     rw[this];exact h2
    have fin:∀Wq:Array Value,xA Z s.h pl w cs Wq->(execOp a.eval o).run P w=.ok (.value (.slice (some ⟨w.heap.size,0,none⟩) len len)) (w.alloc (.cells Wq e)) ->
      ∃v w' Qj,((execOp a.eval o).run P w=.ok (.value v) w'\/((execOp a.eval o).run P w=.ok .skip w'/\v=Go.undef))/\Tr s.h pl w (s.h++[⟨.arr,0,y.size,len,yQ len y.size cs⟩]) Qj w' /\
       Ze Z base (s.h++[⟨.arr,0,y.size,len,yQ len y.size cs⟩]) Qj w'/\QA Z (s.h++[⟨.arr,0,y.size,len,yQ len y.size cs⟩]) Qj w' (.ref s.h.length 0 0 len) v/\Below base w w'/\(calm o=true->Ext w w'):=by
     intro Wq hr Q5;have e1:∀b,b<w.heap.size->(w.alloc (.cells Wq e)).heap[b]? = w.heap[b]? := λb hb=>kR w _ b hb;have JH:(w.alloc (.cells Wq e)).heap[w.heap.size]? = some (.cells Wq e (0,0)):=heap_alloc_new w _;have Zf:pl.length=s.h.length:=r.o.len;have T:Tr s.h pl w (s.h++[⟨.arr,0,y.size,len,yQ len y.size cs⟩]) (pl++[some (w.heap.size,0)]) (w.alloc (.cells Wq e)):=Tr.push r.o e1 _ _ (by intro b q h;simp at h;omega);have Zx:∀i,i<len->(yQ len y.size cs i).length=y.size/\∀j,j<y.size->nth (yQ len y.size cs i) j=nth cs (i*y.size+j):=by
      intro i hi;unfold yQ;by_cases h1:len=1
      ·subst h1;have:i=0:=by omega
       subst this;simp[hlen]
      ·have:Nat.beq len 1=false:=by rw[<- W3,Vz];exact h1
       rw[this];have h2:=Yp y.size (show i+1<=len from hi);rw[Vl]at h2;refine⟨by simp[hlen];omega,λj hj=>?_⟩;simp only[qB];rw[dM hj,Ep]
     refine⟨_,_,_,.inl Q5,T,Ze.push r.o e1 _ rfl (QD _) Kb JH (by simp[hr.1,hlen]) (λi hi=>(Zx i hi).1) (λi j hi hj=>?_),.ref _ _ _ _ ⟨.arr,0,y.size,len,yQ len y.size cs⟩ (some (w.heap.size,0)) _ len (by simp) (by rw[<- Zf];simp) rfl (QD _) (λ_=>.inr ⟨w.heap.size,0,Wq,e,rfl,by simp,JH,by simp[hr.1,hlen],QD _⟩),Co Kb _,λ_=>e1⟩;have VW:j<y.size:=hj;have Jf:i<len:=hi;have h2:=Yp y.size (show i+1<=len from Jf);rw[Vl]at h2;have Qc:i*y.size+j<cs.length:=by omega
     refine⟨QW Wq.toList (i*y.size+j),?_,?_⟩
     ·have:i*y.size+j<Wq.size:=by rw[hr.1];exact Qc
      simp only[JG,QW,Q8,jM,qZ this,KS]
     ·show QA _ _ _ _ (nth (yQ len y.size cs i) j) _;rw[(Zx i Jf).2 j VW];exact(hr.2 _ Qc).tr T
    by_cases h0:len*y.size=0
    ·obtain⟨Wq,h1,h2⟩:=N7 (h:=s.h) (pl:=pl) (w:=w) _ (Qr s.fr) a (λx=>r.eval x) parts.toList _ _ _ (init #[] (λ_=>rfl) (λh=>absurd h0 h)) Jp;rw[h0]at h1;have e0:Array.map (λx=>(#[]:Array Value)[x % (#[]:Array Value).size]!) (Array.range 0)=#[]:=by simp
     rw[e0]at h1;have e1:∀f:Nat->Value,Array.map f (Array.range 0)=#[]:=λf=>Array.eq_empty_of_size_eq_zero (by simp);refine fin Wq h2 ?_;simp[execOp,ho,Instr.buildSlice,run_underlying ht,hy.sizeOf,h0,newRow,h1,e1]
    ·obtain⟨Wq,h1,h2⟩:=N7 (h:=s.h) (pl:=pl) (w:=w) _ (Qr s.fr) a (λx=>r.eval x) parts.toList _ _ _ (init z.cells (λh=>absurd h h0) (λ_=>rfl)) Jp;refine fin Wq h2 ?_;have QkD:¬ (16777216<len*y.size):=by omega
     simp[execOp,ho,Instr.buildSlice,run_underlying ht,hy.sizeOf,YY,h0,QkD,newRow,h1]
   ·cases h
  ·cases h
 ·cases h
end
variable {Z:Nat->Prop}
def ja(fr:List (Nat × D))(QkE:Int):Option Operand->Option Int
 | none=>some QkE
 | some x=>match Qr fr x with
  | .raw (.int _ i)=>some i
  | _=>none
def rv{P:Program}(w:World){k:IntKind}{i:Int}{y:Nat}{c:BoundsCode}(h0:0<=i)(h1:i<=y):(Instr.sliceBound (.int k i) y c).run P w=.ok i.toNat w:=by
 simp[Instr.sliceBound,asIntOf,h0,h1]
def S8{P:Program}{base nt:Nat}{s:St}{pl:List Pl}{a:Act}{w0:World}(r:Rel Z base nt s pl a w0)(w:World)(isSlice:Bool)(len cap:Nat)(lo hi:Option Operand){l u:Int}(hl:ja s.fr 0 lo=some l)(hu:ja s.fr len hi=some u)
  (h0:0<=l) (h1:l<=u) (h2:u<=len) (Ba:len<=cap):(Instr.sliceBounds isSlice len cap (lo.map a.eval) (hi.map a.eval) none).run P w=.ok (l.toNat,u.toNat,cap) w:=by
 have get:∀(x:Operand) (d:Int) (i:Int),ja s.fr d (some x)=some i->∃k,a.eval x=.int k i:=by
  intro x d i h;have hr:=r.eval x;simp only[ja]at h;generalize Qr s.fr x=dx at *;split at h
  ·rename_i k j;simp only[QV]at h;subst h;exact⟨k,Z9 hr⟩
  ·cases h
 have fst:∀(v:Value) (m:Nat) (c:BoundsCode),(∃k,v=.int k u)->u<=m->(Instr.sliceBound v m c).run P w=.ok u.toNat w:=by
  rintro v m c ⟨k,rfl⟩ hm;exact rv w (by omega) hm
 have snd:∀(v:Value) (c:BoundsCode),(∃k,v=.int k l)->(Instr.sliceBound v u.toNat c).run P w=.ok l.toNat w:=by
  rintro v c ⟨k,rfl⟩;exact rv w h0 (by omega)
 cases lo with
 | none=>
  simp only[ja,QV]at hl;subst hl;cases hi with
  | none=>simp only[ja,QV]at hu;subst hu;simp[Instr.sliceBounds]
  | some x=>
   have hx:=get x len u hu;cases isSlice<;>simp[Instr.sliceBounds,fst _ cap _ hx (by omega)]
 | some z=>
  have hz:=get z 0 l hl;cases hi with
  | none=>
   simp only[ja,QV]at hu;have:u.toNat=len:=by omega
   have h3:=λc=>snd (a.eval z) c hz;rw[this]at h3;simp[Instr.sliceBounds,h3,this]
  | some x=>
   have hx:=get x len u hu;cases isSlice<;>simp[Instr.sliceBounds,fst _ cap _ hx (by omega),snd _ _ hz]
def S9(L:Zm)(fr:List (Nat × D))(h:List Ob)(t:TypeId)(d:D)(lo hi:Option Operand):Ev:=
 match ty L t with
 | some ⟨.slice e,_,_,_⟩=>match ty L e with
  | some y=>match d with
   | .ref l g off len=>match h[l]?,ja fr 0 lo,ja fr len hi with
    | some o,some a,some b=>some (g=o.gen/\o.sz=y.size/\0<=a/\a<=b/\b<=len,.ref l g (off+a.toNat) (b - a).toNat)
    | _,_,_=>none
   | .imm z n row=>match ja fr 0 lo,ja fr n hi with
    | some a,some b=>some (z=y.size/\0<=a/\a<=b/\b<=n,.imm z (b - a).toNat λi=>row (a.toNat+i))
    | _,_=>none
   | .nil=>match ja fr 0 lo,ja fr 0 hi with
    | some a,some b=>some (a=0/\b=0,.nil)
    | _,_=>none
   | _=>none
  | none=>none
 | some ⟨.str,_,_,_⟩=>match d with
  | .raw (.string s)=>match ja fr 0 lo,ja fr s.size hi with
   | some a,some b=>some (0<=a/\a<=b/\b<=s.size,.raw (.string (s.extract a.toNat b.toNat)))
   | _,_=>none
  | _=>none
 | _=>none
section
variable {P:Program}{L:Zm}{base nt:Nat}{s:St}{o:Oper}
def QkF(hL:ZR P L){t:TypeId}{x}{lo hi}(ho:o.op=.slice t x lo hi none){p}{d}(h:S9 L s.fr s.h t (Qr s.fr x) lo hi=some (p,d))(hp:p):VJ P base nt o s d:=by
 intro Z pl a w r;have hx:=r.eval x;unfold S9 at h;split at h
 ·rename_i e _ _ _ he;have ht:=vT (hL _ _ he) rfl;split at h
  ·rename_i y yJ;have hy:=hL _ _ yJ;generalize Qr s.fr x=dx at *;split at h
   ·rename_i l g off len;split at h
    ·rename_i ob aa bb Q9 ZE Gv;simp only[QV,Q4]at h;obtain⟨rfl,rfl⟩:=h;obtain⟨hg,Je,h0,h1,h2⟩:=hp;obtain⟨o',p',ad,cap,hv,Zv,ZN,ZD,zZ,Wo⟩:=Cm hx;rw[Q9]at Zv;cases Zv;have Ba:len<=cap:=by
      rcases Wo hg with ⟨h3,h4⟩|⟨_,_,_,_,_,_,_,_,h3⟩<;>omega
     refine⟨.slice (if cap=aa.toNat then ad else ad.map (·.add (aa.toNat*y.size))) (bb - aa).toNat (cap - aa.toNat),?_,λw' _=>?_⟩
     ·refine .ref _ _ _ _ ob p' _ _ Q9 ZN ZD zZ (λ_=>?_);rcases Wo hg with ⟨h3,h4⟩|⟨b,q,c,el,VI,jS,hb,Jp,h3⟩
      ·exact .inl ⟨by omega,by omega⟩
      ·by_cases hc:cap=aa.toNat
       ·exact .inl ⟨by omega,by omega⟩
       ·refine .inr ⟨b,q,c,el,VI,?_,hb,?_,by omega⟩
        ·rw[Qd hc,jS,Kt,xq,Je,Vl];simp only[QV,Addr.mk.injEq,and_true,xl];omega
        ·rw[show off+aa.toNat+(cap - aa.toNat)=off+cap by omega];exact Jp
     ·have hb:=S8 (P:=P) r w' true len cap lo hi ZE Gv h0 h1 h2 Ba;simp[execOp,ho,Instr.sliceAt,run_underlying ht,Instr.slice,hv,hb,hy.sizeOf];omega
    ·cases h
   ·rename_i z n row;split at h
    ·rename_i aa bb ZE Gv;simp only[QV,Q4]at h;obtain⟨rfl,rfl⟩:=h;obtain⟨rfl,h0,h1,h2⟩:=hp;obtain⟨ad,cap,b,q,vs,hv,jS,Ba,hs,hc⟩:=NW hx;refine⟨.slice (if cap=aa.toNat then ad else ad.map (·.add (aa.toNat*y.size))) (bb - aa).toNat (cap - aa.toNat),.cl _ _ ?_,λw' _=>?_⟩
     ·refine .imm _ _ _ _ _ b (q+aa.toNat*y.size) (λi j=>vs (aa.toNat+i) j) (λyR=>?_) (by omega) (λi hi=>hs _ (by omega)) (λi j hi hj=>?_) (λi j hi hj=>(hc (aa.toNat+i) j (by omega) hj).2)
      ·rw[Qd (by omega),jS (by omega),Kt,xq]
      ·obtain⟨⟨g1,g2⟩,_⟩:=hc (aa.toNat+i) j (by omega) hj;refine⟨g1,?_⟩;rw[<- g2];congr 2;rw[Vl];omega
     ·have hb:=S8 (P:=P) r w' true n cap lo hi ZE Gv h0 h1 h2 Ba;simp[execOp,ho,Instr.sliceAt,run_underlying ht,Instr.slice,hv,hb,hy.sizeOf];omega
    ·cases h
   ·split at h
    ·rename_i aa bb ZE Gv;simp only[QV,Q4]at h;obtain⟨rfl,rfl⟩:=h;obtain⟨rfl,rfl⟩:=hp;obtain⟨ad,hv⟩:=Cj hx;refine⟨.slice ad 0 0,.cl _ _ (.nil _),λw' _=>?_⟩;have hb:=S8 (P:=P) r w' true 0 0 lo hi ZE Gv (by omega) (by omega) (by omega) (QD _);simp[execOp,ho,Instr.sliceAt,run_underlying ht,Instr.slice,hv,hb,hy.sizeOf]
    ·cases h
   ·cases h
  ·cases h
 ·rename_i he;have ht:=NV (hL _ _ he) rfl;generalize Qr s.fr x=dx at *;split at h
  ·rename_i str;split at h
   ·rename_i aa bb ZE Gv;simp only[QV,Q4]at h;obtain⟨rfl,rfl⟩:=h;obtain⟨h0,h1,h2⟩:=hp;have hv:=Z9 hx;refine⟨_,.cl _ _ (.raw _),λw' _=>?_⟩;have hb:=S8 (P:=P) r w' false str.size str.size lo hi ZE Gv h0 h1 h2 (QD _);simp[execOp,ho,Instr.sliceAt,run_underlying ht,Instr.slice,hv,hb]
   ·cases h
  ·cases h
 ·cases h
end
def YZ:Value->Value->Option Bool
 | .int k a,.int k' b=>bif IntKind.same k k' then some (a==b) else none
 | .bool a,.bool b=>some (a==b)
 | .string a,.string b=>some (a.toList==b.toList)
 | _,_=>none
def jc:List Value->List Value->Option Bool
 | [],[]=>some true
 | a::r,b::q=>match YZ a b,jc r q with
  | some x,some y=>some (x&&y)
  | _,_=>none
 | _,_=>none
def cat:Value->Nat
 | .int _ _=>0
 | .bool _=>1
 | .string _=>2
 | _=>3
def IQ(P:Program)(sh:TypeId->Option (List Nat)):List Field->Nat->Option (List Nat)
 | [],_=>some []
 | f::fs,off=>match sh f.type with
  | some l => if f.name ≠ "_" /\ f.offset = off /\ P.cellsOf f.type = l.length then (IQ P sh fs (off + l.length)).map (l ++ ·) else none
  | none=>none
def Yu(P:Program):Nat->TypeId->Option (List Nat)
 | 0,_=>none
 | d+1,t=>match P.underlying t with
  | some (.int _)=>some [0]
  | some .bool=>some [1]
  | some .string=>some [2]
  | some (.struct fs)=>if P.stoodInHeld t then none else IQ P (Yu P d) fs.toList 0
  | some (.array n e)=>match Yu P d e with
   | some l=>if P.cellsOf e=l.length then some (List.replicate n l).flatten else none
   | none=>none
  | _=>none
def eF:∀(a b c d:List Value) (r:Bool),a.length=b.length->jc (a++c) (b++d)=some r->∃x y,jc a b=some x/\jc c d=some y/\r=(x&&y)
 | [],[],c,d,r,_,h=>⟨true,r,rfl,h,by simp⟩
 | [],_::_,_,_,_,h,_=>by simp at h
 | _::_,[],_,_,_,h,_=>by simp at h
 | u::a,v::b,c,d,r,hl,h=>by
  simp only[XW,jc]at h;split at h
  ·rename_i x y hx hy;simp only[QV]at h;obtain⟨x',y',h1,h2,h3⟩:=eF a b c d y (by simpa using hl) hy;exact⟨x&&x',y',by simp[jc,hx,h1],h2,by rw[<- h,h3,Bool.and_assoc]⟩
  ·cases h
def valOf(P:Program)(t:TypeId)(xs:List Value):Value:=
 match P.underlying t with
 | some (.struct _)|some (.array _ _)=>.agg xs.toArray
 | _=>QW xs 0
def eG(P:Program)(D:Nat)(t:TypeId)(l:List Nat):Prop:=
 ∀(w:World) (xs ys:List Value) (r:Bool),xs.map cat=l->ys.map cat=l->jc xs ys=some r->(Op.equalIn D t (valOf P t xs) (valOf P t ys)).run P w=.ok r w
def N8{P:Program}{d}{t:TypeId}{l:List Nat}(h:Yu P d t=some l)(hc:P.cellsOf t=l.length)(w)(xs:List Value)(off)(hl:off+l.length<=xs.length):
  (part t xs.toArray off).run P w=.ok (valOf P t ((xs.drop off).take l.length)) w:=by
 cases d with
 | zero=>simp[Yu]at h
 | succ d=>
  unfold Yu at h;cases hu:P.underlying t with
  | none=>rw[hu]at h;cases h
  | some k=>
   obtain⟨i,hi⟩:=info_of_underlying hu;have hs:(sizeOf t).run P w=.ok l.length w:=by
    rw[run_sizeOf w hi,hc]
   rw[hu]at h;cases k<;>first|(cases h;done)|skip
   case bool=>
    cases h;have:off<xs.length:=by simp at hl;omega
    simp[part,isAgg,run_underlying hu,valOf,hu,QW,this]
   case int=>
    cases h;have:off<xs.length:=by simp at hl;omega
    simp[part,isAgg,run_underlying hu,valOf,hu,QW,this]
   case string=>
    cases h;have:off<xs.length:=by simp at hl;omega
    simp[part,isAgg,run_underlying hu,valOf,hu,QW,this]
   case array=>simp[part,isAgg,run_underlying hu,valOf,hu,hs]
   case struct=>simp[part,isAgg,run_underlying hu,valOf,hu,hs]
def ry{P}(d D)(IH:∀t l,Yu P d t=some l->eG P D t l)(w):∀(fs:List Field) (off:Nat) (l:List Nat) (xs ys:List Value) (r:Bool),IQ P (Yu P d) fs off=some l ->
  (xs.drop off).map cat=l->(ys.drop off).map cat=l->off<=xs.length->off<=ys.length->jc (xs.drop off) (ys.drop off)=some r->(Op.eqFields D xs.toArray ys.toArray fs).run P w=.ok r w
 | [],off,l,xs,ys,r,h,hx,hy,h1,h2,he=>by
  simp[IQ]at h;subst h;simp only[List.map_eq_nil_iff]at hx hy;rw[hx,hy]at he;simp[jc]at he;simp[Op.eqFields,he]
 | f::fs,off,l,xs,ys,r,h,hx,hy,h1,h2,he=>by
  simp only[IQ]at h;split at h
  ·rename_i l1 Zu;split at h
   ·rename_i hc;obtain⟨hn,ho,Je⟩:=hc;simp only[XA]at h;obtain⟨l2,JA,rfl⟩:=h;have q9:(xs.drop off).length=l1.length+l2.length:=by rw[<- J6 (f:=cat),hx,ZX]
    have yS:(ys.drop off).length=l1.length+l2.length:=by rw[<- J6 (f:=cat),hy,ZX]
    have Gw:xs.drop off=(xs.drop off).take l1.length++xs.drop (off+l1.length):=by rw[<- List.drop_drop,Ei]
    have Gx:ys.drop off=(ys.drop off).take l1.length++ys.drop (off+l1.length):=by rw[<- List.drop_drop,Ei]
    rw[Gw,vS]at hx;rw[Gx,vS]at hy;obtain⟨VK,Wr⟩:=Sf hx (by simp at q9 ⊢;omega);obtain⟨qE,jU⟩:=Sf hy (by simp at yS ⊢;omega);rw[Gw,Gx]at he;obtain⟨x,y,e1,e2,rfl⟩:=eF _ _ _ _ _ (by simp at q9 yS ⊢;omega) he;have p1:=N8 Zu Je w xs off (by simp at q9;omega);have p2:=N8 Zu Je w ys off (by simp at yS;omega);have p3:=IH _ _ Zu w _ _ x VK qE e1;have p4:=ry d D IH w fs (off+l1.length) l2 xs ys y JA Wr jU (by simp at q9;omega) (by simp at yS;omega) e2;simp only[Op.eqFields,hn,ne_eq,not_false_eq_true,K6,Sem.run_bind,ho,p1,p2,p3,Result.andThen_ok];cases x
    ·simp
    ·simpa using p4
   ·cases h
  ·cases h
def rA{P:Program}{d D}{e:TypeId}{l:List Nat}(JO:Yu P d e=some l)(hc:P.cellsOf e=l.length)(IH:eG P D e l)(w):∀(m i:Nat) (xs ys:List Value) (r:Bool),
  (xs.drop (i*l.length)).map cat=(List.replicate m l).flatten->(ys.drop (i*l.length)).map cat=(List.replicate m l).flatten->i*l.length<=xs.length->i*l.length<=ys.length->jc (xs.drop (i*l.length)) (ys.drop (i*l.length))=some r ->
  (Op.eqItems D e (P.cellsOf e) xs.toArray ys.toArray (List.range' i m)).run P w=.ok r w
 | 0,i,xs,ys,r,hx,hy,_,_,he=>by
  simp only[List.replicate_zero,List.flatten_nil,List.map_eq_nil_iff]at hx hy;rw[hx,hy]at he;simp[jc]at he;simp[Op.eqItems,he]
 | m+1,i,xs,ys,r,hx,hy,h1,h2,he=>by
  rw[Sp,List.flatten_cons]at hx hy;have q9:(xs.drop (i*l.length)).length=l.length+(List.replicate m l).flatten.length:=by rw[<- J6 (f:=cat),hx,ZX]
  have yS:(ys.drop (i*l.length)).length=l.length+(List.replicate m l).flatten.length:=by rw[<- J6 (f:=cat),hy,ZX]
  have hi:i*l.length+l.length=(i+1)*l.length:=by rw[Vl];omega
  have Gw:xs.drop (i*l.length)=(xs.drop (i*l.length)).take l.length++xs.drop ((i+1)*l.length):=by rw[<- hi,<- List.drop_drop,Ei]
  have Gx:ys.drop (i*l.length)=(ys.drop (i*l.length)).take l.length++ys.drop ((i+1)*l.length):=by rw[<- hi,<- List.drop_drop,Ei]
  rw[Gw,vS]at hx;rw[Gx,vS]at hy;obtain⟨VK,Wr⟩:=Sf hx (by simp at q9 ⊢;omega);obtain⟨qE,jU⟩:=Sf hy (by simp at yS ⊢;omega);rw[Gw,Gx]at he;obtain⟨x,y,e1,e2,rfl⟩:=eF _ _ _ _ _ (by simp at q9 yS ⊢;omega) he;have p1:=N8 JO hc w xs (i*l.length) (by simp at q9;omega);have p2:=N8 JO hc w ys (i*l.length) (by simp at yS;omega);have p3:=IH w _ _ x VK qE e1;have p4:=rA JO hc IH w m (i+1) xs ys y Wr jU (by simp at q9;omega) (by simp at yS;omega) e2;rw[List.range'_succ];simp only[Op.eqItems,Sem.run_bind,hc,p1,p2,p3,Result.andThen_ok];cases x
  ·simp
  ·rw[hc]at p4;simpa using p4
def QlO{P}:∀(d D:Nat) (t:TypeId) (l:List Nat),d<=D->Yu P d t=some l->eG P D t l
 | 0,_,_,_,_,h=>by simp[Yu]at h
 | d+1,0,_,_,hd,_=>by omega
 | d+1,D+1,t,l,hd,h=>by
  intro w xs ys r hx hy he;have h':=h;unfold Yu at h;cases hu:P.underlying t with
  | none=>rw[hu]at h;cases h
  | some k=>
   rw[hu]at h;have one:∀c:Nat,l=[c]->∃a b,xs=[a]/\ys=[b]/\cat a=c/\cat b=c/\YZ a b=some r:=by
    intro c hl;subst hl;have q9:xs.length=1:=by rw[<- J6 (f:=cat),hx];rfl
    have yS:ys.length=1:=by rw[<- J6 (f:=cat),hy];rfl
    match xs,ys,q9,yS with
    | [a],[b],_,_=>
     refine⟨a,b,rfl,rfl,by simpa using hx,by simpa using hy,?_⟩;simp only[jc]at he;split at he
     ·rename_i x y h1 h2;simp at h2 he;subst h2;simp at he;rw[h1,he]
     ·cases he
   cases k<;>first|(cases h;done)|skip
   case bool=>
    simp only[QV]at h;obtain⟨a,b,rfl,rfl,ha,hb,Vb⟩:=one 1 h.symm;cases a<;>simp[cat]at ha;cases b<;>simp[cat]at hb;simp[YZ]at Vb;subst Vb;simp[valOf,hu,QW,run_equalIn_bool' w D t _ _ hu]
   case int q=>
    simp only[QV]at h;obtain⟨a,b,rfl,rfl,ha,hb,Vb⟩:=one 0 h.symm;cases a<;>simp[cat]at ha;cases b<;>simp[cat]at hb;simp only[YZ]at Vb;obtain⟨hk,rB⟩:=q6 Vb;have:=IntKind.dI hk;subst this;simp only[QV]at rB;subst rB;simp[valOf,hu,QW,run_equalIn_int w D t _ _ _ _ hu]
   case string=>
    simp only[QV]at h;obtain⟨a,b,rfl,rfl,ha,hb,Vb⟩:=one 2 h.symm;cases a<;>simp[cat]at ha;cases b<;>simp[cat]at hb;simp only[YZ,QV]at Vb;subst Vb;simp[valOf,hu,QW,run_equalIn_string w D t _ _ hu]
   case array n e=>
    replace h:(match Yu P d e with|some l=>if P.cellsOf e=l.length then some (List.replicate n l).flatten else none|none=>none)=some l:=h;split at h
    ·rename_i l1 Zu;split at h
     ·rename_i hc;simp only[QV]at h;subst h;have rC:∃i,P.info? e=some i:=by
       cases d with
       | zero=>simp[Yu]at Zu
       | succ d'=>
        unfold Yu at Zu;cases rD:P.underlying e with
        | none=>rw[rD]at Zu;cases Zu
        | some _=>exact info_of_underlying rD
      obtain⟨i,hi⟩:=rC;have:=rA Zu hc (QlO d D e l1 (by omega) Zu) w n 0 xs ys r (by simpa using hx) (by simpa using hy) (by simp) (by simp) (by simpa using he);rw[<- List.range_eq_range']at this;simp only[valOf,hu];rw[run_equalIn_array w D xs.toArray ys.toArray hu hi];exact this
     ·cases h
    ·cases h
   case struct fs=>
    replace h:(if P.stoodInHeld t then none else IQ P (Yu P d) fs.toList 0)=some l:=h;split at h
    ·cases h
    ·rename_i hs;have XE:P.fieldsOf t=fs:=by simp[Program.fieldsOf,hu]
     simp only[valOf,hu];rw[run_equalIn_struct w D t _ _ (by rw[XE];exact hu) (by simpa using hs),XE];exact ry d D (λt l h=>QlO d D t l (by omega) h) w fs.toList 0 l xs ys r h (by simpa using hx) (by simpa using hy) (by simp) (by simp) (by simpa using he)
abbrev vY:=List (TypeId × List Nat)
def yT:vY->TypeId->Option (List Nat)
 | [],_=>none
 | (u,l)::r,t=>bif Nat.beq u t then some l else yT r t
structure eI (P:Program) (t:TypeId) (l:List Nat):Prop where
 shape:Yu P 60 t=some l
 guard:P.eqGuardType P.depth t=false
 agg:(match P.underlying t with|some (.struct _)|some (.array _ _)=>true|_=>false)=true
def xD(P:Program)(E:vY):Prop:=∀t l,yT E t=some l->eI P t l
def xD.nil(P):xD P []:=λ_ _ h=>by simp[yT]at h
def xD.cons{P}{E}{t:TypeId}{l}(h:eI P t l)(r:xD P E):xD P ((t,l)::E):=λu z e=>by
 simp only[yT]at e;by_cases hu:t=u
 ·subst hu;simp at e;subst e;exact h
 ·have:Nat.beq t u=false:=by rw[<- W3,Vz];exact hu
  rw[this]at e;exact r u z e
def Cu:List D->Option (List Value)
 | []=>some []
 | .raw v::r=>match Cu r with
  | some l=>some (v::l)
  | none=>none
 | _=>none
def Gy:List Nat->List Nat->Bool
 | [],[]=>true
 | a::r,b::q=>Nat.beq a b&&Gy r q
 | _,_=>false
def Td:∀{a b:List Nat},Gy a b=true->a=b
 | [],[],_=>rfl
 | [],_::_,h=>by cases h
 | _::_,[],h=>by cases h
 | a::r,b::q,h=>by
  simp only[Gy,ZJ,Vz]at h;rw[h.1,Td h.2]
def Te{h}{pl}{w}:∀{cs:List D} {l:List Value},Cu cs=some l->∀(vs:List Value),vs.length=cs.length->(∀i,i<cs.length->QA Z h pl w (nth cs i) (QW vs i))->vs=l
 | [],l,e,vs,hl,_=>by simp[Cu]at e;subst e;exact List.eq_nil_of_length_eq_zero (by simpa using hl)
 | c::cs,l,e,vs,hl,hr=>by
  cases c<;>simp only[Cu,reduceCtorEq]at e;rename_i v;split at e
  ·rename_i l' Yt;simp only[QV]at e;subst e;match vs,hl with
   | u::us,hl=>
    have h0:=Z9 (hr 0 (by simp):QA Z h pl w (.raw v) u);have:=Te Yt us (by simpa using hl) (λi hi=>by have:=hr (i+1) (by simp;omega);simpa[nth,QW] using this);have N9:u=v:=h0;rw[N9,this]
  ·cases e
def Tf(E:vY)(op:BinOp)(t:TypeId):D->D->Ev
 | .agg a,.agg b=>match yT E t,Cu a,Cu b with
  | some l,some x,some y=>bif Gy (x.map cat) l&&Gy (y.map cat) l then match jc x y with
   | some r=>match op with
    | .eql=>some (True,.raw (.bool r))
    | .neq=>some (True,.raw (.bool (!r)))
    | _=>none
   | none=>none
   else none
  | _,_,_=>none
 | _,_=>none
def QkG{P}{E}(hE:xD P E){base nt}{s}{o:Oper}{op}{t yt:TypeId}{x y}(ho:o.op=.binOp op t x y yt){p}{d}
  (h:Tf E op t (Qr s.fr x) (Qr s.fr y)=some (p,d)):VJ P base nt o s d:=by
 intro Z pl a w r;have hx:=r.eval x;have hy:=r.eval y;unfold Tf at h;generalize Qr s.fr x=dx at *;generalize Qr s.fr y=dy at *;split at h
 ·split at h
  ·rename_i l xs ys he Gw Gx;obtain⟨hk,h2⟩:=q6 h;simp only[ZJ]at hk;have hkx:=Td hk.1;have hky:=Td hk.2;split at h2
   ·rename_i rr hr;obtain⟨us,hu,eJ,Be⟩:=Gp hx;obtain⟨ws,hw,hwl,Zq⟩:=Gp hy;have e1:=Te Gw us eJ Be;have e2:=Te Gx ws hwl Zq;subst e1;subst e2;obtain⟨JO,hg,rE⟩:=hE _ _ he;have heq:∀w',(Op.equalIn 10000 t (.agg us.toArray) (.agg ws.toArray)).run P w'=.ok rr w':=by
     intro w';have:=QlO 60 10000 t l (by omega) JO w' us ws rr hkx hky hr;unfold valOf at this;split at this
     ·exact this
     ·exact this
     ·rename_i h1 h2;split at rE
      ·rename_i h3;exact absurd h3 (h1 _)
      ·rename_i h3;exact absurd h3 (h2 _ _)
      ·cases rE
    split at h2
    ·simp only[QV,Q4]at h2;obtain⟨rfl,rfl⟩:=h2;refine⟨_,.cl _ _ (.raw _),λw' _=>?_⟩;simp[execOp,ho,hu,hw,run_eqGuard_agg w' .eql t x y _ _ hg,run_eql_struct,heq]
    ·simp only[QV,Q4]at h2;obtain⟨rfl,rfl⟩:=h2;refine⟨_,.cl _ _ (.raw _),λw' _=>?_⟩;simp[execOp,ho,hu,hw,run_eqGuard_agg w' .neq t x y _ _ hg,run_neq_struct,heq]
    ·cases h2
   ·cases h2
  ·cases h
 ·cases h
end Go.Fg
namespace Go.Fg
def KK(P:Program){α:Type}(m:Sem α):Prop:=∀w x w1,m.run P w=.ok x w1->w1=w/\∀w',m.run P w'=.ok x w'
section
variable {P:Program}{α β:Type}
def KK.pure(a:α):KK P (pure a:Sem α):=λw x w1 h=>by
 simp at h;obtain⟨rfl,rfl⟩:=h;exact⟨rfl,λw'=>by simp⟩
def KK.never{m:Sem α}(hh:∀w x w1,m.run P w≠.ok x w1):KK P m:=λw x w1 h=>absurd h (hh w x w1)
def KK.bind{m:Sem α}{k:α->Sem β}(h1:KK P m)(h2:∀a,KK P (k a)):KK P (m >>= k):=λw x w1 h=>by
 rw[Sem.run_bind]at h;cases hm:m.run P w with
 | halt e w2=>rw[hm]at h;cases h
 | ok a w2=>
  rw[hm]at h;simp only[Result.andThen_ok]at h;obtain⟨rfl,h3⟩:=h1 w a w2 hm;obtain⟨rfl,h4⟩:=h2 a _ x w1 h;exact⟨rfl,λw'=>by rw[Sem.run_bind,h3 w'];simp only[Result.andThen_ok];exact h4 w'⟩
def KK.stuck(s:String):KK P (Go.stuck s:Sem α):=KK.never λw x w1 h=>by cases h
def KK.halt(e:Halt):KK P (.halt e:Sem α):=KK.never λw x w1 h=>by cases h
def KK.program:KK P program:=λw x w1 h=>by
 simp at h;obtain⟨rfl,rfl⟩:=h;exact⟨rfl,λw'=>by simp⟩
def KK.typeInfo(t):KK P (typeInfo t):=.bind .program λp=>by
 split
 ·exact .pure _
 ·exact .stuck _
def KK.underlying(t):KK P (underlying t):=.bind .program λp=>by
 split
 ·exact .pure _
 ·exact .stuck _
def KK.panic:KK P (runtimePanic .nilDeref:Sem α):=.bind .program λp=>.halt _
def KK.sizeOf(t):KK P (sizeOf t):=.bind (.typeInfo t) λ_=>.pure _
def KK.isAgg(t):KK P (isAgg t):=.bind (.underlying t) λd=>by
 split<;>exact .pure _
def KK.part(t)(cs)(i):KK P (part t cs i):=by
 unfold Go.part
 repeat' (first|exact .pure _|exact .stuck _|refine .bind (.isAgg _) λ_=>?_|refine .bind (.sizeOf _) λ_=>?_|refine .bind (.typeInfo _) λ_=>?_|refine .bind (.underlying _) λ_=>?_|split)
def KK.blind:∀(l:List FieldStep) (t:TypeId) (x:Option Value),KK P (Go.followBlind l t x)
 | [],_,_=>.pure _
 | s::r,t,x=>by
  unfold Go.followBlind
  repeat' (first|exact .pure _|exact .stuck _|exact KK.blind r _ _|refine .bind (.part _ _ _) λ_=>?_|refine .bind (.underlying _) λ_=>?_|split)
def KK.nilAhead:∀(n:Nat) (t:TypeId) (v:Value) (name:String),KK P (Go.nilAhead n t v name)
 | 0,_,_,_=>.pure _
 | n+1,t,v,name=>by
  unfold Go.nilAhead
  repeat' (first|exact .pure _|exact .stuck _|exact KK.nilAhead n _ _ _|refine .bind (.blind _ _ _) λ_=>?_|refine .bind (.typeInfo _) λ_=>?_|refine .bind (.underlying _) λ_=>?_|split)
def KK.nilCheck{o:Oper}{x}(ho:o.op=.nilCheck x)(ρ):KK P (execOp ρ o):=by
 simp only[execOp,ho]
 repeat' (first|exact .pure _|exact .stuck _|exact .panic|exact .halt _|(refine .bind (.halt _) λ_=>?_)|refine .bind (.nilAhead _ _ _ _) λ_=>?_|refine .bind .program λ_=>?_|split)
end
end Go.Fg
namespace Go.Fg
open Go.RowKit (Below)
open Go.Instr
def Gz(q:IntKind)(es:List MapEntry):Prop:=∀e∈es,∃n,e.key=.int q n
def Tg{q}{k}:∀{es:List MapEntry} {i:Nat},Gz q es->(∀e∈es,e.key≠.int q k)->findNow (.int q) (.int q k) es i=some none
 | [],_,_,_=>rfl
 | e::es,i,h,hn=>by
  obtain⟨n,hk⟩:=h e (Va ..);have QB:(k==n)=false:=by
   rw[zX];rintro rfl;exact hn e (Va ..) hk
  simp only[findNow,hk,sameNow,K6,QB];exact Tg (λe he=>h e (Ks _ he)) (λe he=>hn e (Ks _ he))
def Th{q}{k}:∀{es:List MapEntry} {i0 i:Nat} {e:MapEntry},Gz q es->es[i]? = some e->e.key=.int q k->(∀(j:Nat) (e':MapEntry),j<i->es[j]? = some e'->e'.key≠.int q k) ->
  findNow (.int q) (.int q k) es i0=some (some (i0+i,e.val))
 | [],_,_,_,_,h,_,_=>by simp at h
 | x::es,i0,i,e,hI,h,hk,hn=>by
  obtain⟨n,hx⟩:=hI x (Va ..);cases i with
  | zero=>
   simp at h;subst h;rw[hx]at hk;obtain rfl:n=k:=by simpa using hk
   simp[findNow,hx,sameNow]
  | succ i=>
   have QB:(k==n)=false:=by
    rw[zX];rintro rfl;exact hn 0 x (by omega) rfl hx
   simp only[findNow,hx,sameNow,K6,QB];rw[Th (i0:=i0+1) (λe he=>hI e (Ks _ he)) (by simpa using h) hk (λj e' hj he=>hn (j+1) e' (by omega) (by simpa using he))];simp;omega
section
variable {P:Program}{w:World}{q:IntKind}{k:Int}
def Ez{kt:TypeId}(hk:P.underlying kt=some (.int q))(em)(n):(checkKey em (n+1) kt (.int q k)).run P w=.ok () w:=by
 simp[checkKey,underlying,hk]
def GA{kt:TypeId}(hk:P.underlying kt=some (.int q)){es:List MapEntry}{r}(h:findNow (.int q) (.int q k) es 0=some r):(findKey kt (.int q k) es).run P w=.ok r w:=by
 simp[findKey,underlying,hk,h]
def yU{α:Type}{b}{es}{clock}(hb:w.heap[b]? = some (.map es clock))(c:Obj->Sem α):(Sem.getObj b c).run P w=(c (.map es clock)).run P w:=by
 simp only[Sem.run,hb]
def Oa{α:Type}{b}{es}{clock}(hb:w.heap[b]? = some (.map es clock))(o:Obj)(c:Sem α):(Sem.setObj b o c).run P w=c.run P { w with heap:=w.heap.setIfInBounds b o }:=by
 simp only[Sem.run,hb]
def QkK{xt kt et:TypeId}{b}{es:Array MapEntry}{clock}(hx:P.underlying xt=some (.map kt et))(hk:P.underlying kt=some (.int q))(hb:w.heap[b]? = some (.map es clock))(hI:Gz q es.toList)
  {i:Nat} {e:MapEntry} (hi:es[i]? = some e) (he:e.key=.int q k) (hn:∀(j:Nat) (e':MapEntry),j<i->es[j]? = some e'->e'.key≠.int q k) (v:Value) :
  (mapUpdate xt (.map (some b)) (.int q k) v).run P w=.ok () { w with heap:=w.heap.setIfInBounds b (.map (es.modify i λe=>{ e with key:=.int q k,val:=v }) clock) }:=by
 have h:=Th (i0:=0) hI (by simpa using hi) he (λj e' hj VW=>hn j e' hj (by simpa using VW));have h2:=GA (P:=P) (w:=w) hk h;have h3:=Ez (P:=P) (w:=w) (k:=k) hk false 9999;simp[mapUpdate,underlying,hx,getObj,yU hb,h2,h3,hi,he,keyThatStays,sameBits,setObj,Oa hb]
def QkL{xt kt et:TypeId}{b}{es:Array MapEntry}{clock}(hx:P.underlying xt=some (.map kt et))(hk:P.underlying kt=some (.int q))(hb:w.heap[b]? = some (.map es clock))(hI:Gz q es.toList)
  (hn:∀e∈es.toList,e.key≠.int q k) (v:Value) :
  (mapUpdate xt (.map (some b)) (.int q k) v).run P w=.ok () { w with heap:=w.heap.setIfInBounds b (.map (es.push { key:=.int q k,val:=v,born:=clock }) (clock+1)) }:=by
 have h2:=GA (P:=P) (w:=w) hk (Tg (i:=0) hI hn);have h3:=Ez (P:=P) (w:=w) (k:=k) hk false 9999;simp[mapUpdate,underlying,hx,getObj,yU hb,h2,h3,setObj,Oa hb]
def QkM{xt kt et ty kt2:TypeId}{b}{es:Array MapEntry}{clock}(hx:P.underlying xt=some (.map kt et))(hk:P.underlying kt=some (.int q))(hb:w.heap[b]? = some (.map es clock))(hI:Gz q es.toList)
  {i:Nat} {e:MapEntry} (hi:es[i]? = some e) (he:e.key=.int q k) (hn:∀(j:Nat) (e':MapEntry),j<i->es[j]? = some e'->e'.key≠.int q k) :
  (Builtin.delete_ #[xt,kt2] ty #[.map (some b),.int q k]).run P w=.ok (.tuple #[]) { w with heap:=w.heap.setIfInBounds b (.map (es.eraseIdxIfInBounds i) clock) }:=by
 have h:=Th (i0:=0) hI (by simpa using hi) he (λj e' hj VW=>hn j e' hj (by simpa using VW));have h2:=GA (P:=P) (w:=w) hk h;have h3:=Ez (P:=P) (w:=w) (k:=k) hk es.isEmpty 9999;simp[Builtin.delete_,underlying,hx,getObj,yU hb,h2,h3,setObj,Oa hb]
def QkN{xt kt et ty kt2:TypeId}{b}{es:Array MapEntry}{clock}(hx:P.underlying xt=some (.map kt et))(hk:P.underlying kt=some (.int q))(hb:w.heap[b]? = some (.map es clock))(hI:Gz q es.toList)
  (hn:∀e∈es.toList,e.key≠.int q k) :
  (Builtin.delete_ #[xt,kt2] ty #[.map (some b),.int q k]).run P w=.ok (.tuple #[]) { w with heap:=w.heap.setIfInBounds b (.map es clock) }:=by
 have h2:=GA (P:=P) (w:=w) hk (Tg (i:=0) hI hn);have h3:=Ez (P:=P) (w:=w) (k:=k) hk es.isEmpty 9999;simp[Builtin.delete_,underlying,hx,getObj,yU hb,h2,h3,setObj,Oa hb]
def QkO{xt kt et:TypeId}{b}{es}{clock}(hx:P.underlying xt=some (.map kt et))(hb:w.heap[b]? = some (.map es clock)):
  (Instr.range xt (.map (some b))).run P w=.ok (.pointer (some ⟨w.heap.size,0,none⟩)) { w with heap:=w.heap.push (.mapIter (some b) clock #[] clock) }:=by
 simp[Instr.range,underlying,hx,getObj,yU hb,newObj,Sem.run]
end
def Tr.GB{Z:Nat->Prop}{base:Nat}{h:List Ob}{pl:List Pl}{w w':World}(R:Ze Z base h pl w){l:Nat}{o o':Ob}{b:Nat}(ho:h[l]? = some o)(hp:pl[l]? = some (some (b,0)))(e:∀c,c≠b->w'.heap[c]? = w.heap[c]?)
  (hg:o'.gen=o.gen) (hk:o'.kd.ty=o.kd.ty) (hz:o'.sz=o.sz) (hnc:∀c el,w.heap[b]?≠some (.cells c el (0,0))):Tr h pl w (h.set l o') pl w' where
 Kj:=λc hc _=>⟨hc,e c (λh=>by subst h;exact hc l 0 hp)⟩
 obj:=λl1 o1 p h1 h2=>by
  by_cases hl:l=l1
  ·subst hl;rw[ho]at h1;cases h1;exact⟨o',p,WE (Ku ho),h2,by omega,hk,λ_=>⟨hz,rfl⟩⟩
  ·exact⟨o1,p,by rw[JL hl];exact h1,h2,QD _,rfl,λ_=>⟨rfl,rfl⟩⟩
 shape:=λl1 o1 o2 c q h1 h2 _ h3 cs el hc=>by
  by_cases hb:c=b
  ·subst hb;exact absurd hc (hnc cs el)
  ·exact⟨cs,by rw[e c hb];exact hc,rfl⟩
def Ze.GB{Z:Nat->Prop}{base:Nat}{h:List Ob}{pl:List Pl}{w w':World}(R:Ze Z base h pl w){l:Nat}{o o':Ob}{b:Nat}(ho:h[l]? = some o)(hp:pl[l]? = some (some (b,0)))(e:∀c,c≠b->w'.heap[c]? = w.heap[c]?)
  (T:Tr h pl w (h.set l o') pl w') (hx:J1 Z (h.set l o') pl w' o' b 0) (hro:o'.kd.ro=o.kd.ro):Ze Z base (h.set l o') pl w' where
 len:=by rw[Ki];exact R.len
 inj:=R.inj
 Vv:=λl1 o1 h1 h2=>by
  by_cases hl:l=l1
  ·subst hl;rw[hp]at h2;cases h2
  ·rw[JL hl]at h1;exact R.Vv l1 o1 h1 h2
 at_:=λl1 o1 c q h1 h2=>by
  by_cases hl:l=l1
  ·subst hl;rw[WE (Ku ho)]at h1;cases h1;rw[hp]at h2;cases h2;exact⟨λhr=>(R.at_ l o b 0 ho hp).1 (by rw[<- hro,hr]),hx⟩
  ·rw[JL hl]at h1;obtain⟨g1,x⟩:=R.at_ l1 o1 c q h1 h2;have hc:c≠b:=λh=>by subst h;exact hl (R.inj l l1 c 0 q hp h2)
   exact⟨g1,x.to rfl rfl rfl (e c hc) (λ_ _=>rfl) λi j v _ _ hr=>hr.tr T⟩
structure QR where
 k:Int
 v:D
 b:Nat
def xE(q:IntKind)(c:Nat)(es:List QR):Nat->List D
 | 0=>[.raw (.int .i64 c),.undef,.undef]
 | r+1=>match es[r]? with
  | some e=>[.raw (.int q e.k),e.v,.raw (.int .i64 e.b)]
  | none=>[.undef,.undef,.undef]
def VA(kd:Kd)(q:IntKind)(c:Nat)(es:List QR):Ob:=⟨kd,0,3,es.length+1,xE q c es⟩
def QM(q:IntKind)(c:Nat)(es:List QR):Ob:=VA .map q c es
def ZP:List QR->Int->Option D
 | [],_=>none
 | e::r,k=>if e.k=k then some e.v else ZP r k
def za:List QR->Int->D->List QR
 | [],_,_=>[]
 | e::r,k,v=>if e.k=k then ⟨k,v,e.b⟩::r else e::za r k v
def JB:List QR->Int->List QR
 | [],_=>[]
 | e::r,k=>if e.k=k then r else e::JB r k
def JI(q:IntKind)(c:Nat)(es:List QR)(k:Int)(v:D):Ob:=match ZP es k with
 | some _=>QM q c (za es k v)
 | none=>QM q (c+1) (es++[⟨k,v,c⟩])
def EA:D->Int
 | .raw (.int _ n)=>n
 | _=>0
def clockOf(o:Ob):Nat:=(EA (nth (o.row 0) 0)).toNat
def Bf(o:Ob):List QR:=(List.range (o.n - 1)).map λi=>⟨EA (nth (o.row (i+1)) 0),nth (o.row (i+1)) 1,(EA (nth (o.row (i+1)) 2)).toNat⟩
def Ob.ro(o:Ob):Ob:=⟨o.kd.toRo,o.gen,o.sz,o.n,o.row⟩
def IsMap(q:IntKind)(o:Ob):Prop:=o.kd.ty=1/\o=VA o.kd q (clockOf o) (Bf o)
theorem rF(kd:Kd)(q)(c)(es):clockOf (VA kd q c es)=c:=by simp[clockOf,VA,xE,nth,EA]
theorem eK(q)(c)(es):clockOf (QM q c es)=c:=rF _ _ _ _
theorem rG(kd:Kd)(q)(c)(es):Bf (VA kd q c es)=es:=by
 apply xh;intro i;simp only[Bf,VA,xE,Iy,Ky,Sj];by_cases h:i<es.length
 ·simp[Sj h,nth,EA,h]
 ·rw[Ed (by simpa using h)];simp[h]
theorem eL(q)(c)(es):Bf (QM q c es)=es:=rG _ _ _ _
theorem rH(q)(c)(es):IsMap q (QM q c es)=True:=by
 refine eq_true ⟨rfl,?_⟩;exact(by rw[eK,eL];rfl)
theorem eM(o:Ob):clockOf o.ro=clockOf o:=rfl
theorem rI(o:Ob):Bf o.ro=Bf o:=rfl
theorem QkQ(q)(o:Ob):IsMap q o.ro=IsMap q o:=by
 obtain⟨k,g,z,n,r⟩:=o;simp only[IsMap,eM,rI];simp only[Ob.ro,VA,Kd.toRo_ty,Ob.mk.injEq,xl]
theorem QkR(q)(c)(es:List QR):(QM q c es).kd=.map:=rfl
theorem QkS(q)(c)(es:List QR):(QM q c es).n=es.length+1:=rfl
theorem QkT(q)(c)(es:List QR):(QM q c es).gen=0:=rfl
theorem Ti(o:Ob):o.ro.kd=o.kd.toRo:=rfl
theorem QkU(o:Ob):o.ro.n=o.n:=rfl
theorem QkV(o:Ob):o.ro.gen=o.gen:=rfl
def IsMap.get{q}{o:Ob}(h:IsMap q o):∃kd c es,kd.ty=1/\o.kd=kd/\clockOf o=c/\Bf o=es/\o=VA kd q c es:=⟨_,_,_,h.1,rfl,rfl,rfl,h.2⟩
def Tj:∀{es:List QR} {k:Int} {v:D},ZP es k=some v->∃(j:Nat) (e:QR),es[j]? = some e/\e.k=k/\e.v=v/\(∀(i:Nat) (e':QR),i<j->es[i]? = some e'->e'.k≠k)/\(∀u,za es k u=es.set j ⟨k,u,e.b⟩)/\JB es k=es.eraseIdx j
 | [],_,_,h=>by simp[ZP]at h
 | e::r,k,v,h=>by
  simp only[ZP]at h;by_cases hk:e.k=k
  ·rw[Qg hk]at h;cases h;exact⟨0,e,rfl,hk,rfl,λi _ hi=>absurd hi (XY i),λu=>by simp[za,hk],by simp[JB,hk]⟩
  ·rw[Qd hk]at h;obtain⟨j,e',h1,h2,h3,h4,h5,h6⟩:=Tj h;refine⟨j+1,e',by simpa using h1,h2,h3,λi x hi hx=>?_,λu=>by simp[za,hk,h5 u],by simp[JB,hk,h6]⟩;cases i with
   | zero=>simp at hx;subst hx;exact hk
   | succ i=>exact h4 i x (by omega) (by simpa using hx)
def Oc:∀{es:List QR} {k:Int},ZP es k=none->(∀e∈es,e.k≠k)/\(∀u,za es k u=es)/\JB es k=es
 | [],_,_=>⟨by simp,λ_=>rfl,rfl⟩
 | e::r,k,h=>by
  simp only[ZP]at h;by_cases hk:e.k=k
  ·rw[Qg hk]at h;cases h
  ·rw[Qd hk]at h;obtain⟨h1,h2,h3⟩:=Oc h;exact⟨λx hx=>by
    rcases QF.1 hx with rfl|h
    ·exact hk
    ·exact h1 x h,λu=>by simp[za,hk,h2 u],by simp[JB,hk,h3]⟩
def rJ:∀{es:List QR} {k:Int} (v:D) (k':Int),ZP (za es k v) k'=if k'=k then (ZP es k).map (λ_=>v) else ZP es k'
 | [],k,v,k'=>by simp[za,ZP]
 | e::r,k,v,k'=>by
  by_cases h:e.k=k
  ·simp only[za,Qg h,ZP];by_cases h2:k=k'
   ·simp[h2]
   ·rw[Qd h2,Qd (λe=>h2 e.symm),Qd (by rw[h];exact h2)]
  ·simp only[za,Qd h,ZP];rw[rJ v k'];by_cases h2:k'=k
   ·subst h2;simp[h]
   ·simp[h2]
def rK:∀(es es':List QR) (k:Int),ZP (es++es') k=(ZP es k).or (ZP es' k)
 | [],_,_=>by simp[ZP]
 | e::r,es',k=>by
  by_cases h:e.k=k
  ·simp[ZP,h]
  ·simp[ZP,h,rK r es' k]
def rL(q)(c)(es)(k)(v):∃c' es',JI q c es k v=QM q c' es'/\∀k',ZP es' k'=if k'=k then some v else ZP es k':=by
 unfold JI;cases h:ZP es k with
 | some d=>
  refine⟨c,za es k v,rfl,λk'=>?_⟩;rw[rJ,h];rfl
 | none=>
  refine⟨c+1,es++[⟨k,v,c⟩],rfl,λk'=>?_⟩;rw[rK];by_cases h2:k'=k
  ·subst h2;simp[h,ZP]
  ·rw[Qd h2];cases ZP es k'<;>simp[ZP,Q3 h2]
def W7(es:List QR):Prop:=(es.map (·.k)).Nodup
structure jd (Z:Nat->Prop) (h:List Ob) (pl:List Pl) (w:World) (q:IntKind) (c:Nat) (es:List QR) (QN:List MapEntry):Prop where
 len:es.length=QN.length
 at_:∀(i:Nat) (e:QR) (a:MapEntry),es[i]? = some e->QN[i]? = some a->a.key=.int q e.k/\QA Z h pl w e.v a.val/\a.born=e.b/\a.born<c
 inc:∀(i j:Nat) (a a':MapEntry),i<j->QN[i]? = some a->QN[j]? = some a'->a.born<a'.born
def eN{Z}{h}{pl}{w:World}{q}{c}{es}{b}{QN:Array MapEntry}(hb:w.heap[b]? = some (.map QN c))(E:jd Z h pl w q c es QN.toList){kd:Kd}(Jo:kd.ty=1):J1 Z h pl w (VA kd q c es) b 0:=by
 refine J1.ofMap Jo ⟨rfl,rfl,QN,c,hb,by have:=E.len;simp at this;simp[VA,this],λi _=>?_,.cl _ _ (.raw _),λi a ha=>?_,λi j a a' KA h1 h2=>E.inc i j a a' KA (by simpa using h1) (by simpa using h2)⟩
 ·show (xE q c es i).length=3;cases i with
  | zero=>rfl
  | succ i=>simp only[xE];split<;>rfl
 ·have Qc:=(VT.1 ha).1;have hi:i<es.length:=by have:=E.len;simp at this;omega
  obtain⟨h1,h2,h3,h4⟩:=E.at_ i es[i] a (QP hi) (by simpa using ha);have e1:xE q c es (i+1)=[.raw (.int q es[i].k),es[i].v,.raw (.int .i64 es[i].b)]:=by simp[xE,hi]
  show _/\QA Z h pl w (nth (xE q c es (i+1)) 0) _/\QA Z h pl w (nth (xE q c es (i+1)) 1) _/\QA Z h pl w (nth (xE q c es (i+1)) 2) _;rw[e1];exact⟨h4,by rw[h1];exact .cl _ _ (.raw _),h2,by rw[h3];exact .cl _ _ (.raw _)⟩
def Tl{Z}{h}{pl}{w:World}{q}{c}{es}{b p}{kd:Kd}(Jo:kd.ty=1)(x:J1 Z h pl w (VA kd q c es) b p):p=0/\∃QN:Array MapEntry,w.heap[b]? = some (.map QN c)/\jd Z h pl w q c es QN.toList:=by
 obtain⟨h0,_,QN,clock,h1,h2,_,h4,h5,h6⟩:=x.map Jo;have hc:clock=c:=by
  have:=Z9 h4;simp at this;omega
 subst hc;have hl:es.length=QN.size:=by simpa[VA] using h2
 refine⟨h0,QN,h1,by simpa using hl,λi e a he ha=>?_,λi j a a' KA g1 g2=>h6 i j a a' KA (by simpa using g1) (by simpa using g2)⟩;obtain⟨k1,k2,k3,k4⟩:=h5 i a (by simpa using ha);have e1:(VA kd q clock es).row (i+1)=[.raw (.int q e.k),e.v,.raw (.int .i64 e.b)]:=by simp[VA,xE,he]
 rw[e1]at k2 k3 k4;have:=Z9 k2;have h8:=Z9 k4;refine⟨this,k3,?_,k1⟩;simp at h8;omega
def jd.keys{Z}{h}{pl}{w}{q}{c}{es}{QN}(E:jd Z h pl w q c es QN):Gz q QN:=λa ha=>by
 obtain⟨i,hi⟩:=Ee ha;have Qc:i<es.length:=by rw[E.len];exact(Wc.1 hi).1
 exact⟨_,(E.at_ i es[i] a (QP Qc) hi).1⟩
def jd.WV{Z}{h}{pl}{w}{q}{c}{es:List QR}{QN:Array MapEntry}(E:jd Z h pl w q c es QN.toList){k}{j}{e:QR}(he:es[j]? = some e)(hk:e.k=k)(hn:∀(i:Nat) (e':QR),i<j->es[i]? = some e'->e'.k≠k):
  ∃a,QN[j]? = some a/\a.key=.int q k/\QA Z h pl w e.v a.val/\a.born=e.b/\a.born<c/\∀(i:Nat) (e':MapEntry),i<j->QN[i]? = some e'->e'.key≠.int q k:=by
 have Qc:j<QN.toList.length:=by rw[<- E.len];exact(Wc.1 he).1
 obtain⟨h1,h2,h3,h4⟩:=E.at_ j e QN.toList[j] he (QP Qc);refine⟨QN.toList[j],by simp,by rw[h1,hk],h2,h3,h4,λi a' KA Vn=>?_⟩;have hi:i<es.length:=by have:=(Wc.1 he).1;omega
 obtain⟨g1,_⟩:=E.at_ i es[i] a' (QP hi) (by simpa using Vn);rw[g1];intro hh;exact hn i _ KA (QP hi) (by simpa using hh)
def jd.Cw{Z}{h}{pl}{w}{q}{c}{es}{QN}(E:jd Z h pl w q c es QN){k}(hn:∀e∈es,e.k≠k):∀a∈QN,a.key≠.int q k:=λa ha=>by
 obtain⟨i,hi⟩:=Ee ha;have Qc:i<es.length:=by rw[E.len];exact(Wc.1 hi).1
 rw[(E.at_ i es[i] a (QP Qc) hi).1];intro hh;exact hn _ (qz Qc) (by simpa using hh)
def jd.tr{Z}{h h'}{pl Qj}{w w'}(T:Tr h pl w h' Qj w'){q}{c}{es}{QN}(E:jd Z h pl w q c es QN):jd Z h' Qj w' q c es QN:=
 ⟨E.len,λi e a h1 h2=>let ⟨g1,g2,g3⟩:=E.at_ i e a h1 h2;⟨g1,g2.tr T,g3⟩,E.inc⟩
section
variable {P:Program}{L:Zm}{base nt:Nat}{s:St}{o:Oper}{q:IntKind}{t kt et:TypeId}{x i:Operand}{l g n:Nat}{ob:Ob}{k:Int}
def QlQ{Z}{pl}{a}{w}(r:Rel Z base nt s pl a w){c}{es}{kd:Kd}(Jo:kd.ty=1)(hx:Qr s.fr x=.mref l 0)(Q9:s.h[l]? = some (VA kd q c es)):
  ∃b QN,a.eval x=.map (some b)/\pl[l]? = some (some (b,0))/\(kd.ro=false->base<=b)/\w.heap[b]? = some (.map QN c)/\jd Z s.h pl w q c es QN.toList:=by
 have e1:=r.eval x;rw[hx]at e1;obtain⟨o',p,b,h1,h2,h3,h4,h5⟩:=El e1;rw[Q9]at h1;cases h1;have h5:=h5 rfl;rw[h5]at h2;obtain⟨Zo,vZ⟩:=r.o.at_ l _ b 0 Q9 h2;obtain⟨_,QN,hb,E⟩:=Tl Jo vZ;have hv:=h3.2;have:(VA kd q c es).kd.ty=1:=Jo;rw[this]at hv;exact⟨b,QN,hv,h2,Zo,hb,E⟩
def Tn{Z}{pl:List Pl}{a}{w:World}(r:Rel Z base nt s pl a w){c}{es}(Q9:s.h[l]? = some (QM q c es)){b}(hp:pl[l]? = some (some (b,0)))(Zo:base<=b){QN}(hb:w.heap[b]? = some (.map QN c))
  {c':Nat} {es':List QR} {ens':Array MapEntry} (E:∀Qj w',Tr s.h pl w (s.h.set l (QM q c' es')) Qj w'->jd Z (s.h.set l (QM q c' es')) Qj w' q c' es' ens'.toList) :
  ∃w',w'={ w with heap:=w.heap.setIfInBounds b (.map ens' c') }/\Tr s.h pl w (s.h.set l (QM q c' es')) pl w'/\Ze Z base (s.h.set l (QM q c' es')) pl w'/\Below base w w':=by
 have xF:=z6 hb;generalize XC:({ w with heap:=w.heap.setIfInBounds b (.map ens' c') }:World)=w';have e:∀c,c≠b->w'.heap[c]? = w.heap[c]? := λc hc=>by rw[<- XC];simp[xg,Q3 hc]
 have JH:w'.heap[b]? = some (.map ens' c'):=by rw[<- XC];simp[xg,xF]
 have T:=Tr.GB (w':=w') r.o Q9 hp e (o':=QM q c' es') rfl rfl rfl (by rw[hb];intro c el h;cases h);exact⟨w',rfl,T,Ze.GB (hro:=rfl) r.o Q9 hp e T (eN JH (E pl w' T) rfl),IK Zo e (by rw[<- XC];simp) (by rw[<- XC]) (by rw[<- XC]) (by rw[<- XC])⟩
def QkW(hL:ZR P L){yt yk ye:Ty}(ht:ty L t=some yt)(kS:yt.k=.map kt et)(jV:ty L kt=some yk)(v8:yk.k=.int q)(VV:ty L et=some ye)
  {Z:Nat->Prop} {h:List Ob} {pl:List Pl} {w:World} {b c:Nat} {es:List QR} {QN:Array MapEntry} (hb:w.heap[b]? = some (.map QN c)) (E:jd Z h pl w q c es QN.toList) (ok:Bool) :
  ∃v,QA Z h pl w (match ZP es k with|some d=>d|none=>A9 ye) v/\∀w':World,w'.heap[b]? = w.heap[b]? ->
   (lookup t (.map (some b)) (.int q k) ok).run P w'=.ok (if ok then .tuple #[v,.bool (ZP es k).isSome] else v) w':=by
 have h3:=λw:World=>Ez (P:=P) (w:=w) (k:=k) (A5 (hL kt yk jV) v8) QN.isEmpty 9999;have hx:=Ci (hL t yt ht) kS;cases hf:ZP es k with
 | some d=>
  obtain⟨j,e,g1,g2,g3,g4,_⟩:=Tj hf;obtain⟨a,a1,a2,a3,a4,a5,a6⟩:=E.WV g1 g2 g4;refine⟨a.val,by rw[<- g3];exact a3,λw' hw=>?_⟩;have h:=Th (i0:=0) E.keys (by simpa using a1) a2 (λj e' hj VW=>a6 j e' hj (by simpa using VW));have h2:=GA (P:=P) (w:=w') (A5 (hL kt yk jV) v8) h;simp[lookup,underlying,hx,getObj,yU (hw.trans hb),h2,h3]
 | none=>
  obtain⟨g1,_⟩:=Oc hf;obtain⟨z,hz,YY⟩:=dL (hL et ye VV) (N:=free Z pl) w;refine⟨z,.cl _ _ hz,λw' hw=>?_⟩;have h2:=GA (P:=P) (w:=w') (A5 (hL kt yk jV) v8) (Tg (i:=0) E.keys (E.Cw g1));simp[lookup,underlying,hx,getObj,yU (hw.trans hb),h2,h3,YY w']
def QkX(hL:ZR P L){yt yk ye:Ty}(ht:ty L t=some yt)(kS:yt.k=.map kt et)(jV:ty L kt=some yk)(v8:yk.k=.int q)(VV:ty L et=some ye)
  {N:Nat->Prop} {w:World} (ok:Bool):∃v,Cl N w (A9 ye) v/\∀w':World,(lookup t (.map none) (.int q k) ok).run P w'=.ok (if ok then .tuple #[v,.bool false] else v) w':=by
 obtain⟨z,hz,YY⟩:=dL (hL et ye VV) (N:=N) w;refine⟨z,hz,λw'=>?_⟩;have h3:=Ez (P:=P) (w:=w') (k:=k) (A5 (hL kt yk jV) v8) true 9999;have h2:=GA (P:=P) (w:=w') (k:=k) (A5 (hL kt yk jV) v8) (es:=[]) (r:=none) rfl;simp[lookup,underlying,Ci (hL t yt ht) kS,h2,h3,YY w']
def Tp(L:Zm)(h:List Ob)(t:TypeId)(x i:D)(ok:Bool):Ev:=match ty L t with
 | some ⟨.map kt et,_,_,_⟩=>match ty L kt,ty L et with
  | some ⟨.int q,_,_,_⟩,some ye=>match i with
   | .raw (.int q' k)=>match x with
    | .mref l g=>match h[l]? with
     | some o=>some (IsMap q o/\q'=q/\g=0,match ZP (Bf o) k with
      | some d=>bif ok then .tup [d,.raw (.bool true)] else d
      | none=>bif ok then .tup [A9 ye,.raw (.bool false)] else A9 ye)
     | none=>none
    | .raw (.map none)=>some (q'=q,bif ok then .tup [A9 ye,.raw (.bool false)] else A9 ye)
    | _=>none
   | _=>none
  | _,_=>none
 | _=>none
def look_ok(hL:ZR P L){ok}(ho:o.op=.lookup t x i ok){p}{d}(h:Tp L s.h t (Qr s.fr x) (Qr s.fr i) ok=some (p,d))(hp:p):VJ P base nt o s d:=by
 intro Z pl a w r;unfold Tp at h;split at h;case h_2=>cases h
 rename_i kt et m1 m2 m3 ht;split at h;case h_2=>cases h
 rename_i q n1 n2 n3 ye jV VV;split at h;case h_2=>cases h
 rename_i q' k hi;have e2:=r.eval i;rw[hi]at e2;have e2:=Z9 e2;split at h;case h_3=>cases h
 case h_2 hx=>
  simp only[QV,Q4]at h;obtain⟨rfl,rfl⟩:=h;subst hp;have e1:=r.eval x;rw[hx]at e1;have e1:=Z9 e1;obtain⟨v,hv,Q5⟩:=QkX (k:=k) hL ht rfl jV rfl VV (N:=free Z pl) (w:=w) ok;cases ok with
  | false=>exact⟨v,.cl _ _ hv,λw' hw=>by simp[execOp,ho,e1,e2,Q5 w']⟩
  | true=>
   refine⟨.tuple #[v,.bool false],.tup _ [v,.bool false] rfl (λi hi=>match i,hi with
    | 0,_=>.cl _ _ hv
    | 1,_=>.cl _ _ (.raw _)),λw' hw=>by simp[execOp,ho,e1,e2,Q5 w']⟩
 case h_1 l g hx=>
  split at h;case h_2=>cases h
  rename_i ob Q9;simp only[QV,Q4]at h;obtain⟨rfl,rfl⟩:=h;obtain⟨hm,rfl,rfl⟩:=hp;obtain⟨kd,c,es,Jo,_,_,jW,hm⟩:=hm.get;rw[jW];subst hm;obtain⟨b,QN,e1,_,_,hb,E⟩:=QlQ r Jo hx Q9;obtain⟨v,hv,Q5⟩:=QkW (k:=k) hL ht rfl jV rfl VV hb E ok;cases hf:ZP es k with
  | some d=>
   rw[hf]at hv Q5;cases ok with
   | false=>exact⟨v,hv,λw' hw=>by simp[execOp,ho,e1,e2,Q5 w' (hw b (z6 hb))]⟩
   | true=>
    refine⟨.tuple #[v,.bool true],.tup _ [v,.bool true] rfl (λi hi=>match i,hi with
     | 0,_=>hv
     | 1,_=>.cl _ _ (.raw _)),λw' hw=>by simp[execOp,ho,e1,e2,Q5 w' (hw b (z6 hb))]⟩
  | none=>
   rw[hf]at hv Q5;cases ok with
   | false=>exact⟨v,hv,λw' hw=>by simp[execOp,ho,e1,e2,Q5 w' (hw b (z6 hb))]⟩
   | true=>
    refine⟨.tuple #[v,.bool false],.tup _ [v,.bool false] rfl (λi hi=>match i,hi with
     | 0,_=>hv
     | 1,_=>.cl _ _ (.raw _)),λw' hw=>by simp[execOp,ho,e1,e2,Q5 w' (hw b (z6 hb))]⟩
def Tq(L:Zm)(h:List Ob)(t:TypeId)(x:D):Ev:=match ty L t with
 | some ⟨.map _ _,_,_,_⟩=>match x with
  | .mref l g=>match h[l]? with
   | some o=>some (o.kd.ty=1/\g=o.gen,.raw (.int .i64 ((o.n - 1:Nat):Int)))
   | none=>none
  | .raw (.map none)=>some (True,.raw (.int .i64 0))
  | _=>none
 | _=>none
def QkY(hL:ZR P L){ZO:Array TypeId}(ho:o.op=.call ⟨.builtin .len,#[x],ZO⟩)(GC:ZO=#[t]){p}{d}(h:Tq L s.h t (Qr s.fr x)=some (p,d))(hp:p):VJ P base nt o s d:=by
 subst GC;intro Z pl a w r;unfold Tq at h;split at h;case h_2=>cases h
 rename_i kt et m1 m2 m3 ht;have hu:=Ci (hL t _ ht) rfl;have e1:=r.eval x;split at h;case h_3=>cases h
 case h_2 hx=>
  simp only[QV,Q4]at h;obtain⟨rfl,rfl⟩:=h;rw[hx]at e1;have e1:=Z9 e1;refine⟨.int .i64 0,.cl _ _ (.raw _),λw' hw=>?_⟩;rw[z7 ho];simp[e1,builtin,Builtin.len_,underlying,hu,goInt]
 case h_1 l g hx=>
  split at h;case h_2=>cases h
  rename_i ob Q9;simp only[QV,Q4]at h;obtain⟨rfl,rfl⟩:=h;obtain⟨hk,rfl⟩:=hp;rw[hx]at e1;obtain⟨o',p,b,h1,h2,h3,h4,h5⟩:=El e1;rw[Q9]at h1;cases h1;have h5:=h5 rfl;rw[h5]at h2;obtain⟨Zo,vZ⟩:=r.o.at_ l _ b 0 Q9 h2;obtain⟨_,_,QN,clock,hb,h6,_⟩:=vZ.map hk;have hv:=h3.2;rw[hk]at hv;refine⟨.int .i64 ((ob.n - 1:Nat):Int),.cl _ _ (.raw _),λw' hw=>?_⟩;rw[z7 ho];have Kl:w'.heap[b]? = some (.map QN clock):=by rw[hw b (z6 hb)];exact hb
  simp[hv,NR,builtin,Builtin.len_,underlying,hu,getObj,yU Kl,h6,goInt]
def IS(L:Zm)(h:List Ob)(t:TypeId):Option (Prop × List Ob × D):=match ty L t with
 | some ⟨.map kt _,_,_,_⟩=>match ty L kt with
  | some ⟨.int q,_,_,_⟩=>some (True,h++[QM q 0 []],.mref h.length 0)
  | _=>some (True,h++[QM .i64 0 []],.mref h.length 0)
 | _=>none
def rM(hL:ZR P L){rz}(hr:rz=none\/∃k n,rz=some (.const (.int k n))/\0<=n)(ho:o.op=.makeMap t rz){p}{h'}{d}(h:IS L s.h t=some (p,h',d)):q7 P base nt o s h' d:=by
 have hm:∃q,p=True/\h'=s.h++[QM q 0 []]/\d=.mref s.h.length 0/\∃kt vt a b c,ty L t=some ⟨.map kt vt,a,b,c⟩:=by
  unfold IS at h;split at h;case h_2=>cases h
  rename_i kt vt _ _ _ ht;split at h;all_goals
   simp only[QV,Q4]at h;obtain⟨rfl,rfl,rfl⟩:=h;exact⟨_,rfl,rfl,rfl,_,_,_,_,_,ht⟩
 obtain⟨q,rfl,rfl,rfl,kt,vt,_,_,_,ht⟩:=hm;intro Z pl a w r Kb;have e:∀b,b<w.heap.size->(w.alloc (.map #[] 0)).heap[b]? = w.heap[b]? := λb hb=>kR w _ b hb;have JH:(w.alloc (.map #[] 0)).heap[w.heap.size]? = some (.map #[] 0):=heap_alloc_new w _;have T:Tr s.h pl w (s.h++[QM q 0 []]) (pl++[some (w.heap.size,0)]) (w.alloc (.map #[] 0)):=Tr.push r.o e _ _ (by intro b q h;simp at h;omega);have Zf:pl.length=s.h.length:=r.o.len;refine⟨.map (some w.heap.size),w.alloc (.map #[] 0),pl++[some (w.heap.size,0)],.inl ?_,T,?_,?_,Co Kb _,λ_=>e⟩
 ·rcases hr with rfl|⟨k,n,rfl,hn⟩
  ·simp[execOp,ho,makeMap]
  ·simp[execOp,ho,makeMap,Act.eval,underlying,Ci (hL t _ ht) rfl,asInt,asIntOf]
 ·exact Ze.NU r.o e _ (QD _) Kb (eN (kd:=.map) JH ⟨rfl,λi e a h=>by simp at h,λi j a a' _ h=>by simp at h⟩ rfl)
 ·exact .mref _ _ (QM q 0 []) (some (w.heap.size,0)) w.heap.size (by simp) (by rw[<- Zf];simp) ⟨by simp[QM,VA,Kd.ty],rfl⟩ (QD _) (λ_=>rfl)
def EB(L:Zm)(h:List Ob)(t:TypeId)(x i v:D):Option (Prop × List Ob):=match ty L t with
 | some ⟨.map kt _,_,_,_⟩=>match ty L kt with
  | some ⟨.int q,_,_,_⟩=>match x,i with
   | .mref l g,.raw (.int q' k)=>match h[l]? with
    | some o=>some (IsMap q o/\q'=q/\g=0/\o.kd.ro=false,h.set l (JI q (clockOf o) (Bf o) k v))
    | none=>none
   | _,_=>none
  | _=>none
 | _=>none
def rN{w:World}{b}{es}{c}(hb:w.heap[b]? = some (.map es c))(o:Obj):q5 w { w with heap:=w.heap.setIfInBounds b o }:=λa v h=>by
 by_cases e:a.block=b
 ·simp[World.cell?,e,hb]at h
 ·rw[World.cell?_of_block (w:=w)]
  ·exact h
  ·simp[xg,Q3 e]
def rO(hL:ZR P L){v}(ho:o.op=.mapUpdate t x i v){p}{h'}(h:EB L s.h t (Qr s.fr x) (Qr s.fr i) (Qr s.fr v)=some (p,h'))(hp:p):∀(Z:Nat->Prop) pl a w,Rel Z base nt s pl a w->base<=w.heap.size->∃v w' Qj,((execOp a.eval o).run P w=.ok (.value v) w'\/((execOp a.eval o).run P w=.ok .skip w'/\v=Go.undef))/\Tr s.h pl w h' Qj w'/\Ze Z base h' Qj w'/\QA Z h' Qj w' .undef v/\Below base w w'/\q5 w w':=by
 unfold EB at h;split at h;case h_2=>cases h
 split at h;case h_2=>cases h
 rename_i kt et _ _ _ ht _ q _ _ _ jV;split at h;case h_2=>cases h
 rename_i l g q' k hx hi;split at h;case h_2=>cases h
 rename_i ob Q9;simp only[QV,Q4]at h;obtain⟨rfl,rfl⟩:=h;obtain⟨hm,rfl,rfl,hro⟩:=hp;obtain⟨kd,c,es,Jo,Bg,Jp,jW,hm⟩:=hm.get;rw[jW,Jp];have Qs:kd=.map:=by rw[Bg]at hro;cases kd<;>first|rfl|(exfalso;revert Jo;decide)|(exfalso;revert hro;decide)
 subst Qs;rw[show VA .map q' c es=QM q' c es from rfl]at hm;subst hm;intro Z pl a w r Kb;have e2:=r.eval i;rw[hi]at e2;have e2:=Z9 e2;have e3:=r.eval v;obtain⟨b,QN,e1,h2,Zo,hb,E⟩:=QlQ (kd:=.map) r rfl hx Q9;have Zo:=Zo rfl;have EC:=Ci (hL t _ ht) rfl;have ZD:=A5 (hL kt _ jV) rfl;cases hf:ZP es k with
 | some d=>
  obtain⟨j,e,g1,g2,g3,g4,g5,_⟩:=Tj hf;obtain⟨a1,b1,b2,b3,b4,b5,b6⟩:=E.WV g1 g2 g4;have Q5:=QkK (P:=P) (w:=w) (k:=k) EC ZD hb E.keys b1 b2 b6 (a.eval v);have hm:JI q' c es k (Qr s.fr v)=QM q' c (es.set j ⟨k,Qr s.fr v,e.b⟩):=by simp only[JI,hf];rw[g5]
  rw[hm];obtain⟨w',rfl,T,O,B⟩:=Tn r Q9 h2 Zo hb (c':=c) (es':=es.set j ⟨k,Qr s.fr v,e.b⟩) (ens':=QN.modify j λe=>{ e with key:=.int q' k,val:=a.eval v }) (λQj w' T=>by
   have E':=E.tr T;have X2:∀(i':Nat) (x:MapEntry),(QN.modify j λe=>{ e with key:=.int q' k,val:=a.eval v }).toList[i']? = some x->∃y,QN.toList[i']? = some y/\x.born=y.born/\(i'≠j->x=y)/\(i'=j->x.key=.int q' k/\x.val=a.eval v):=λi' x hx=>by
    have hx:(QN.modify j λe=>{ e with key:=.int q' k,val:=a.eval v })[i']? = some x:=by rw[<- jM];exact hx
    rw[de]at hx;split at hx
    ·rename_i KA;subst KA;rw[b1]at hx;simp at hx;subst hx;exact⟨a1,by simpa using b1,rfl,λh=>absurd rfl h,λ_=>⟨rfl,rfl⟩⟩
    ·rename_i KA;exact⟨x,by simpa using hx,rfl,λ_=>rfl,λh=>absurd h.symm KA⟩
   refine⟨by have:=E.len;simp at this ⊢;exact this,λi' e' a' Ws Vn=>?_,λi1 i2 x y ED hx hy=>?_⟩
   ·obtain⟨y,y1,y2,y3,y4⟩:=X2 i' a' Vn;by_cases KA:i'=j
    ·subst KA;have Qc:=(Wc.1 g1).1;rw[WE Qc]at Ws;cases Ws;obtain⟨d1,d2⟩:=y4 rfl;have:y=a1:=by have b1':QN.toList[i']? = some a1:=(by simpa using b1);rw [y1] at b1'; simpa using b1'
     subst this;exact⟨d1,by rw[d2];exact e3.tr T,by rw[y2,b4],by rw[y2];exact b5⟩
    ·rw[JL (Q3 KA)]at Ws;rw[y3 KA];exact E'.at_ i' e' y Ws y1
   ·obtain⟨x',wa,J3,_⟩:=X2 i1 x hx;obtain⟨y',yJ,ZB,_⟩:=X2 i2 y hy;rw[J3,ZB];exact E.inc i1 i2 x' y' ED wa yJ)
  exact⟨Go.undef,_,pl,.inr ⟨by simp[execOp,ho,e1,e2,Q5],rfl⟩,T,O,.cl _ _ (.undef _),B,rN hb _⟩
 | none=>
  obtain⟨g1,_⟩:=Oc hf;have Q5:=QkL (P:=P) (w:=w) (k:=k) EC ZD hb E.keys (E.Cw g1) (a.eval v);have hm:JI q' c es k (Qr s.fr v)=QM q' (c+1) (es++[⟨k,Qr s.fr v,c⟩]):=by simp only[JI,hf]
  rw[hm];obtain⟨w',rfl,T,O,B⟩:=Tn r Q9 h2 Zo hb (c':=c+1) (es':=es++[⟨k,Qr s.fr v,c⟩]) (ens':=QN.push { key:=.int q' k,val:=a.eval v,born:=c }) (λQj w' T=>by
   have E':=E.tr T;have hl:es.length=QN.size:=by have:=E.len;simpa using this
   refine⟨by simp[hl],λi' e' a' Ws Vn=>?_,λi1 i2 x y ED hx hy=>?_⟩
   ·have Vn:(QN.push { key:=.int q' k,val:=a.eval v,born:=c })[i']? = some a':=by rw[<- jM];exact Vn
    rw[Sc]at Vn;rcases Xq Ws with h1|⟨h1,ZY⟩
    ·have:=(Wc.1 h1).1;rw[Qd (by omega)]at Vn;obtain⟨k1,k2,k3,k4⟩:=E'.at_ i' e' a' h1 (by simpa using Vn);exact⟨k1,k2,k3,by omega⟩
    ·subst ZY;rw[Qg (by omega)]at Vn;cases Vn;exact⟨rfl,e3.tr T,rfl,by simp⟩
   ·have hx:(QN.push { key:=.int q' k,val:=a.eval v,born:=c })[i1]? = some x:=by rw[<- jM];exact hx
    have hy:(QN.push { key:=.int q' k,val:=a.eval v,born:=c })[i2]? = some y:=by rw[<- jM];exact hy
    rw[Sc]at hx hy;have Kj:∀(i:Nat) (z:MapEntry),QN[i]? = some z->z.born<c:=λi z hz=>by
     have Qc:=(VT.1 hz).1;exact(E.at_ i (es[i]'(by omega)) z (QP (by omega)) (by simpa using hz)).2.2.2
    split at hx
    ·split at hy
     ·omega
     ·have:=(VT.1 hy).1;omega
    ·split at hy
     ·cases hy;exact Kj i1 x hx
     ·exact E.inc i1 i2 x y ED (by simpa using hx) (by simpa using hy))
  exact⟨Go.undef,_,pl,.inr ⟨by simp[execOp,ho,e1,e2,Q5],rfl⟩,T,O,.cl _ _ (.undef _),B,rN hb _⟩
def QkZ(hL:ZR P L){v}(ho:o.op=.mapUpdate t x i v){p}{h'}(h:EB L s.h t (Qr s.fr x) (Qr s.fr i) (Qr s.fr v)=some (p,h'))(hp:p):q7 P base nt o s h' .undef:=λZ pl a w r hb=>by
 obtain⟨v,w',Qj,h1,h2,h3,h4,h5,_⟩:=rO hL ho h hp Z pl a w r hb;exact⟨v,w',Qj,h1,h2,h3,h4,h5,λhc=>by simp[calm,ho]at hc⟩
def Tt(L:Zm)(h:List Ob)(t:TypeId)(x i:D):Option (Prop × List Ob):=match ty L t with
 | some ⟨.map kt _,_,_,_⟩=>match ty L kt with
  | some ⟨.int q,_,_,_⟩=>match i with
   | .raw (.int q' k)=>match x with
    | .mref l g=>match h[l]? with
     | some o=>some (IsMap q o/\q'=q/\g=0/\o.kd.ro=false,h.set l (QM q (clockOf o) (JB (Bf o) k)))
     | none=>none
    | .raw (.map none)=>some (q'=q,h)
    | _=>none
   | _=>none
  | _=>none
 | _=>none
def Qk0(hL:ZR P L){tk:TypeId}(ho:o.op=.call ⟨.builtin .delete,#[x,i],#[t,tk]⟩){p}{h'}(h:Tt L s.h t (Qr s.fr x) (Qr s.fr i)=some (p,h'))(hp:p):q7 P base nt o s h' (.tup []):=by
 unfold Tt at h;split at h;case h_2=>cases h
 split at h;case h_2=>cases h
 rename_i kt et _ _ _ ht _ q _ _ _ jV;have EC:=Ci (hL t _ ht) rfl;have ZD:=A5 (hL kt _ jV) rfl;split at h;case h_2=>cases h
 rename_i q' k hi;split at h;case h_3=>cases h
 case h_2 hx=>
  simp only[QV,Q4]at h;obtain⟨rfl,rfl⟩:=h;subst hp;intro Z pl a w r Kb;have e2:=r.eval i;rw[hi]at e2;have e2:=Z9 e2;have e1:=r.eval x;rw[hx]at e1;have e1:=Z9 e1;have h3:=Ez (P:=P) (w:=w) (k:=k) ZD true 9999;refine⟨.tuple #[],w,pl,.inl ?_,Tr.refl _ _ _,r.o,.tup [] [] rfl (λi hi=>absurd hi (XY i)),Below.refl _ _,λ_=>Ext.refl w⟩;rw[z7 ho];simp[e1,e2,builtin,Builtin.delete_,underlying,EC,h3]
 case h_1 l g hx=>
  split at h;case h_2=>cases h
  rename_i ob Q9;simp only[QV,Q4]at h;obtain⟨rfl,rfl⟩:=h;obtain⟨hm,rfl,rfl,hro⟩:=hp;obtain⟨kd,c,es,Jo,Bg,Jp,jW,hm⟩:=hm.get;rw[jW,Jp];have Qs:kd=.map:=by rw[Bg]at hro;cases kd<;>first|rfl|(exfalso;revert Jo;decide)|(exfalso;revert hro;decide)
  subst Qs;rw[show VA .map q' c es=QM q' c es from rfl]at hm;subst hm;intro Z pl a w r Kb;have e2:=r.eval i;rw[hi]at e2;have e2:=Z9 e2;obtain⟨b,QN,e1,h2,Zo,hb,E⟩:=QlQ (kd:=.map) r rfl hx Q9;have Zo:=Zo rfl;cases hf:ZP es k with
  | some d=>
   obtain⟨j,e,g1,g2,g3,g4,g5,g6⟩:=Tj hf;obtain⟨a1,b1,b2,b3,b4,b5,b6⟩:=E.WV g1 g2 g4;have Q5:=QkM (P:=P) (w:=w) (k:=k) (ty:=o.type) (kt2:=tk) EC ZD hb E.keys b1 b2 b6;rw[g6];have hjs:j<QN.size:=(VT.1 b1).1;obtain⟨w',rfl,T,O,B⟩:=Tn r Q9 h2 Zo hb (c':=c) (es':=es.eraseIdx j) (ens':=QN.eraseIdxIfInBounds j) (λQj w' T=>by
    have E':=E.tr T;have hl:es.length=QN.size:=by have:=E.len;simpa using this
    have hto:(QN.eraseIdxIfInBounds j).toList=QN.toList.eraseIdx j:=by simp[Array.eraseIdxIfInBounds,hjs,Array.toList_eraseIdx]
    rw[hto];refine⟨by simp[List.length_eraseIdx,hl],λi' e' a' Ws Vn=>?_,λi1 i2 x y ED hx hy=>?_⟩
    ·rw[List.getElem?_eraseIdx]at Ws Vn;split at Ws
     ·rw[Qg ‹_›]at Vn;exact E'.at_ _ _ _ Ws Vn
     ·rw[Qd ‹_›]at Vn;exact E'.at_ _ _ _ Ws Vn
    ·rw[List.getElem?_eraseIdx]at hx hy;split at hx<;>split at hy<;>exact E.inc _ _ x y (by omega) hx hy)
   refine⟨.tuple #[],_,pl,.inl ?_,T,O,.tup [] [] rfl (λi hi=>absurd hi (XY i)),B,λhc=>by simp[calm,ho]at hc⟩;rw[z7 ho];simp[e1,e2,builtin,Q5]
  | none=>
   obtain⟨g1,_,g6⟩:=Oc hf;have Q5:=QkN (P:=P) (w:=w) (k:=k) (ty:=o.type) (kt2:=tk) EC ZD hb E.keys (E.Cw g1);rw[g6];obtain⟨w',rfl,T,O,B⟩:=Tn r Q9 h2 Zo hb (c':=c) (es':=es) (ens':=QN) (λQj w' T=>E.tr T);refine⟨.tuple #[],_,pl,.inl ?_,T,O,.tup [] [] rfl (λi hi=>absurd hi (XY i)),B,λhc=>by simp[calm,ho]at hc⟩;rw[z7 ho];simp[e1,e2,builtin,Q5]
def EF(l c c':Nat)(seen:List Nat):Nat->List D
 | 0=>[.mref l 0]
 | 1=>[.raw (.int .i64 c)]
 | 2=>[.raw (.int .i64 c')]
 | r+3=>match seen[r]? with
  | some b=>[.raw (.int .i64 b)]
  | none=>[.undef]
def Xs(l c c':Nat)(seen:List Nat):Ob:=⟨.iter,0,1,seen.length+3,EF l c c' seen⟩
def Tu(L:Zm)(h:List Ob)(t:TypeId)(x:D):Option (Prop × List Ob × D):=match ty L t with
 | some ⟨.map _ _,_,_,_⟩=>match x with
  | .mref l g=>match h[l]? with
   | some o=>some (IsMap .i64 o/\g=0,h++[Xs l (clockOf o) (clockOf o) []],.mref h.length 0)
   | none=>none
  | _=>none
 | _=>none
def rP{Z}{h}{pl}{w:World}{l c c'}{seen}{b m}{sn:Array Nat}(hb:w.heap[b]? = some (.mapIter (some m) c sn c'))(hs:sn.toList=seen)(hm:QA Z h pl w (.mref l 0) (.map (some m))):J1 Z h pl w (Xs l c c' seen) b 0:=by
 subst hs;refine J1.pU rfl ⟨rfl,rfl,m,c,c',sn,hb,by simp[Xs],λi _=>?_,hm,.cl _ _ (.raw _),.cl _ _ (.raw _),λi s hs=>?_⟩
 ·show (EF l c c' sn.toList i).length=1;unfold EF;split<;>(try split)<;>rfl
 ·have hs:sn.toList[i]? = some s:=by simpa using hs
  show QA Z h pl w (nth (EF l c c' sn.toList (i+3)) 0) _;have:EF l c c' sn.toList (i+3)=[.raw (.int .i64 s)]:=by simp only[EF,hs]
  rw[this];exact .cl _ _ (.raw _)
def rQ{Z}{h}{pl}{w:World}{l c c'}{seen}{b p}(x:J1 Z h pl w (Xs l c c' seen) b p):p=0/\∃(m:Nat) (sn:Array Nat),w.heap[b]? = some (.mapIter (some m) c sn c')/\sn.toList=seen/\QA Z h pl w (.mref l 0) (.map (some m)):=by
 obtain⟨h0,_,m,since,last,sn,h1,h2,_,h4,h5,h6,h7⟩:=x.iter rfl;have e1:since=c:=by have:=Z9 h5;simp at this;omega
 have e2:last=c':=by have:=Z9 h6;simp at this;omega
 subst e1;subst e2;refine⟨h0,m,sn,h1,?_,h4⟩;have hl:seen.length=sn.size:=by simpa[Xs] using h2
 apply xh;intro i;by_cases hi:i<sn.size
 ·have h8:=h7 i sn[i] (qZ hi);have e3:(Xs l since last seen).row (i+3)=[.raw (.int .i64 (seen[i]'(by omega)))]:=by
   show EF l since last seen (i+3)=_;simp only[EF,QP (show i<seen.length by omega)]
  rw[e3]at h8;have:=Z9 h8;simp at this;rw[QP (show i<sn.toList.length by simpa using hi),QP (show i<seen.length by omega)];simp only[Array.getElem_toList,QV];omega
 ·rw[Ed (by simp;omega),Ed (by omega)]
def Qk3(hL:ZR P L)(ho:o.op=.range t x){p}{h'}{d}(h:Tu L s.h t (Qr s.fr x)=some (p,h',d))(hp:p):q7 P base nt o s h' d:=by
 unfold Tu at h;split at h;case h_2=>cases h
 rename_i kt et _ _ _ ht;split at h;case h_2=>cases h
 rename_i l g hx;split at h;case h_2=>cases h
 rename_i ob Q9;simp only[QV,Q4]at h;obtain⟨rfl,rfl,rfl⟩:=h;obtain⟨hm,rfl⟩:=hp;obtain⟨kd,c,es,Jo,_,Jp,_,hm⟩:=hm.get;rw[Jp];subst hm;intro Z pl a w r Kb;obtain⟨b,QN,e1,h2,_,hb,E⟩:=QlQ r Jo hx Q9;have Q5:=QkO (P:=P) (w:=w) (Ci (hL t _ ht) rfl) hb;have e:∀b',b'<w.heap.size->(w.alloc (.mapIter (some b) c #[] c)).heap[b']? = w.heap[b']? := λb' hb=>kR w _ b' hb;have JH:(w.alloc (.mapIter (some b) c #[] c)).heap[w.heap.size]? = some (.mapIter (some b) c #[] c):=heap_alloc_new w _;have T:Tr s.h pl w (s.h++[Xs l c c []]) (pl++[some (w.heap.size,0)]) (w.alloc (.mapIter (some b) c #[] c)):=Tr.push r.o e _ _ (by intro b q h;simp at h;omega);have Zf:pl.length=s.h.length:=r.o.len;have hv:=r.eval x;rw[hx,e1]at hv;refine⟨.pointer (some ⟨w.heap.size,0,none⟩),w.alloc (.mapIter (some b) c #[] c),pl++[some (w.heap.size,0)],.inl ?_,T,?_,?_,Co Kb _,λ_=>e⟩
 ·simp[execOp,ho,e1,Q5]
 ·exact Ze.NU r.o e _ (QD _) Kb (rP JH rfl (hv.tr T))
 ·exact .mref _ _ (Xs l c c []) (some (w.heap.size,0)) w.heap.size (by simp) (by rw[<- Zf];simp) ⟨by simp[Xs,Kd.ty],rfl⟩ (QD _) (λ_=>rfl)
def Qk4(ho:o.op=.next x false){Z}{pl}{a}{w:World}(r:Rel Z base nt s pl a w)(Kb:base<=w.heap.size){li c}{es}{seen}(hx:Qr s.fr x=.mref li 0)(WV:s.h[li]? = some (Xs l c c seen)){kd:Kd}(Jo:kd.ty=1)(Q9:s.h[l]? = some (VA kd q c es)):
  ((∀e∈es,e.b∈seen)/\(execOp a.eval o).run P w=.ok (.value (.tuple #[.bool false])) w) \/
  ∃e∈es,e.b ∉ seen/\∃v w',(execOp a.eval o).run P w=.ok (.value v) w'/\Tr s.h pl w (s.h.set li (Xs l c c (seen++[e.b]))) pl w'/\Ze Z base (s.h.set li (Xs l c c (seen++[e.b]))) pl w' /\
   QA Z (s.h.set li (Xs l c c (seen++[e.b]))) pl w' (.tup [.raw (.bool true),.raw (.int q e.k),e.v]) v/\Below base w w':=by
 have e1:=r.eval x;rw[hx]at e1;obtain⟨o',p,b,h1,h2,h3,h4,h5⟩:=El e1;rw[WV]at h1;cases h1;have h5:=h5 rfl;rw[h5]at h2;obtain⟨Zo,vZ⟩:=r.o.at_ li _ b 0 WV h2;obtain⟨_,m,sn,hb,yV,Od⟩:=rQ vZ;have hv:a.eval x=.pointer (some ⟨b,0,none⟩):=h3.2;obtain⟨o2,p2,bm,k1,k2,k3,k4,k5⟩:=El Od;rw[Q9]at k1;cases k1;have k5:=k5 rfl;rw[k5]at k2;have k3:=k3.2;rw[show (VA kd q c es).kd.ty=1 from Jo]at k3;have k3:m=bm:=by simpa[NR] using k3
 subst k3;obtain⟨Oe,eO⟩:=r.o.at_ l _ m 0 Q9 k2;obtain⟨_,QN,GD,E⟩:=Tl Jo eO;have hl:es.length=QN.toList.length:=E.len;have hold:∀y∈QN.toList,y.born<c:=λy hy=>by
  obtain⟨j,hj⟩:=Ee hy;have Qc:=(Wc.1 hj).1;exact(E.at_ j (es[j]'(by omega)) y (QP (by omega)) hj).2.2.2
 rcases run_next_at (P:=P) w o.type b m c c sn QN c hb GD hold (QD _) with ⟨g1,g2⟩|⟨y,g1,w1,g2,g3⟩
 ·refine .inl ⟨λe he=>?_,by simp[execOp,ho,hv,g2]⟩;obtain⟨j,hj⟩:=Ee he;have Qc:=(Wc.1 hj).1;obtain⟨_,_,e3,_⟩:=E.at_ j e (QN.toList[j]'(by omega)) hj (QP (by omega));have eP:∀z∈QN.toList,sn.contains z.born=true:=λz hz=>by
   have:leftOf QN sn=#[]:=Array.eq_empty_of_size_eq_zero g1;unfold leftOf at this;rw[Array.filter_eq_empty_iff]at this;have:=this z (by simpa using hz);simpa using this
  have:=eP _ (qz (show j<QN.toList.length by omega));rw[e3]at this;rw[<- yV];simpa using this
 ·obtain⟨j,hj⟩:=Ee (show y∈QN.toList by unfold leftOf at g1;simp at g1;simpa using g1.1);have Qc:=(Wc.1 hj).1;obtain⟨d1,d2,d3,d4⟩:=E.at_ j (es[j]'(by omega)) y (QP (by omega)) hj;have EG:y.born ∉ sn.toList:=by unfold leftOf at g1;simp at g1;simpa using g1.2
  refine .inr ⟨es[j]'(by omega),qz _,by rw[<- d3,<- yV];exact EG,?_⟩;rw[<- d3];have hh:w1.heap=w.heap:=by rcases g2 with rfl|rfl<;>rfl
  generalize XC:ChangeMaps.setBlock w1 b (.mapIter (some m) c (sn.push y.born) c)=w' at g3;have xF:=z6 hb;have eQ:w'.heap=w.heap.setIfInBounds b (.mapIter (some m) c (sn.push y.born) c):=by rw[<- XC,<- hh];rfl
  have e:∀k,k≠b->w'.heap[k]? = w.heap[k]? := λk hk=>by rw[eQ];simp[xg,Q3 hk]
  have JH:w'.heap[b]? = some (.mapIter (some m) c (sn.push y.born) c):=by rw[eQ];simp[xg,xF]
  have T:=Tr.GB (w':=w') r.o WV h2 e (o':=Xs l c c (seen++[y.born])) rfl rfl rfl (by rw[hb];intro c el h;cases h);refine⟨_,w',by simp only[execOp,ho,hv,Sem.run_bind,g3,Result.andThen_ok];rfl,T,Ze.GB (hro:=rfl) r.o WV h2 e T (rP JH (by rw[Array.toList_push,yV]) (Od.tr T)),?_,?_⟩
  ·rw[d1];exact .tup _ [.bool true,.int q (es[j]'(by omega)).k,y.val] rfl λi hi=>match i,hi with
    | 0,_=>.cl _ _ (.raw _)
    | 1,_=>.cl _ _ (.raw _)
    | 2,_=>d2.tr T
  ·have B:Below base w w1:=by
    rcases g2 with rfl|rfl
    ·exact .refl _ _
    ·exact(Below.refl _ _).drew
   refine B.trans (IK (Zo rfl) (λk hk=>by rw[hh];exact e k hk) (by rw[eQ,hh];simp) (by rw[<- XC];rfl) (by rw[<- XC];rfl) (by rw[<- XC];rfl))
end
def VX(k:List Int):Value:=.agg (k.map (Value.int .u16)).toArray
structure J7 where
 k:List Int
 v:D
 b:Nat
def Zx(c:Nat)(es:List J7):Nat->List D
 | 0=>[.raw (.int .i64 c),.undef,.undef]
 | r+1=>match es[r]? with
  | some e=>[.raw (VX e.k),e.v,.raw (.int .i64 e.b)]
  | none=>[.undef,.undef,.undef]
def je(kd:Kd)(c:Nat)(es:List J7):Ob:=⟨kd,0,3,es.length+1,Zx c es⟩
def jX(c:Nat)(es:List J7):Ob:=je .map c es
def Wt:List J7->List Int->Option D
 | [],_=>none
 | e::r,k=>if e.k=k then some e.v else Wt r k
def Qk5:Value->Int
 | .int _ n=>n
 | _=>0
def eR:D->List Int
 | .raw (.agg a)=>a.toList.map Qk5
 | _=>[]
def xG(o:Ob):List J7:=(List.range (o.n - 1)).map λi=>⟨eR (nth (o.row (i+1)) 0),nth (o.row (i+1)) 1,(EA (nth (o.row (i+1)) 2)).toNat⟩
def IT(o:Ob):Prop:=o.kd.ty=1/\o=je o.kd (clockOf o) (xG o)/\∀e∈xG o,e.k.length=4
def Qk6(k):eR (.raw (VX k))=k:=by
 simp only[eR,VX,Ef]
 conv=>rhs;rw[<- List.map_id k]
 exact Sk λn _=>rfl
theorem rR(kd:Kd)(c)(es:List J7):clockOf (je kd c es)=c:=by simp[clockOf,je,Zx,nth,EA]
theorem rS(kd:Kd)(c)(es:List J7):xG (je kd c es)=es:=by
 apply xh;intro i;simp only[xG,je,Zx,Iy,Ky,Sj];by_cases h:i<es.length
 ·simp[Sj h,nth,EA,h,Qk6]
 ·rw[Ed (by simpa using h)];simp[h]
theorem rT(c)(es:List J7):clockOf (jX c es)=c:=rR _ _ _
theorem Tv(c)(es:List J7):xG (jX c es)=es:=rS _ _ _
theorem Qk7(c)(es:List J7):IT (jX c es)=∀e∈es,e.k.length=4:=by
 refine propext ⟨λh=>by have:=h.2.2;rwa [Tv]at this,λh=>⟨rfl,?_,by rwa [Tv]⟩⟩;rw[rT,Tv];rfl
theorem rU(o:Ob):xG o.ro=xG o:=rfl
theorem Qk8(o:Ob):IT o.ro=IT o:=by
 obtain⟨k,g,z,n,r⟩:=o;simp only[IT,eM,rU];simp only[Ob.ro,je,Kd.toRo_ty,Ob.mk.injEq,xl]
theorem Qk9(c)(es:List J7):(jX c es).kd=.map:=rfl
def rV(q):QM q 0 []=jX 0 []:=by
 have:xE q 0 []=Zx 0 []:=by
  funext r;cases r<;>rfl
 unfold QM VA jX je;rw[this];rfl
def rW:∀{es:List J7} {k:List Int} {v:D},Wt es k=some v->∃(j:Nat) (e:J7),es[j]? = some e/\e.k=k/\e.v=v/\∀(i:Nat) (e':J7),i<j->es[i]? = some e'->e'.k≠k
 | [],_,_,h=>by simp[Wt]at h
 | e::r,k,v,h=>by
  simp only[Wt]at h;by_cases hk:e.k=k
  ·rw[Qg hk]at h;cases h;exact⟨0,e,rfl,hk,rfl,λi _ hi=>absurd hi (XY i)⟩
  ·rw[Qd hk]at h;obtain⟨j,e',h1,h2,h3,h4⟩:=rW h;refine⟨j+1,e',by simpa using h1,h2,h3,λi x hi hx=>?_⟩;cases i with
   | zero=>simp at hx;subst hx;exact hk
   | succ i=>exact h4 i x (by omega) (by simpa using hx)
def rX:∀{es:List J7} {k:List Int},Wt es k=none->∀e∈es,e.k≠k
 | [],_,_=>by simp
 | e::r,k,h=>by
  simp only[Wt]at h;by_cases hk:e.k=k
  ·rw[Qg hk]at h;cases h
  ·rw[Qd hk]at h;intro x hx;rcases QF.1 hx with rfl|h2
   ·exact hk
   ·exact rX h x h2
def rY:∀(a b:List Int),a.length=b.length->jc (a.map (Value.int .u16)) (b.map (Value.int .u16))=some (decide (a=b))
 | [],[],_=>rfl
 | [],_::_,h=>by simp at h
 | _::_,[],h=>by simp at h
 | x::a,y::b,h=>by
  simp only[Jz,jc,YZ,rY a b (by simpa using h)];have:IntKind.same .u16 .u16=true:=rfl;simp only[this,jQ,QV,Gd];by_cases h1:x=y<;>by_cases h2:a=b<;>simp[h1,h2]
def rZ(k:List Int):(k.map (Value.int .u16)).map cat=List.replicate k.length 0:=by
 induction k with
 | nil=>rfl
 | cons a k ih=>simp only[Jz,Vu,Sp,ih];rfl
structure HK (P:Program) (kt:TypeId):Prop where
 eq:eI P kt [0,0,0,0]
 arr:∃u,P.underlying kt=some (.array 4 u)/\P.underlying u=some (.int .u16)
section
variable {P:Program}{kt:TypeId}(H:HK P kt)
include H
theorem HK.equal(w){a b:List Int}(ha:a.length=4)(hb:b.length=4):(Op.equal kt (VX a) (VX b)).run P w=.ok (decide (a=b)) w:=by
 obtain⟨u,h1,_⟩:=H.arr;have:=QlO 60 10000 kt [0,0,0,0] (by omega) H.eq.shape w (a.map (.int .u16)) (b.map (.int .u16)) (decide (a=b)) (by rw[rZ,ha];rfl) (by rw[rZ,hb];rfl) (rY a b (by rw[ha,hb]));unfold valOf at this;rw[h1]at this;exact this
theorem HK.check(em)(w){k:List Int}(hk:k.length=4):(checkKey em 10000 kt (VX k)).run P w=.ok () w:=by
 obtain⟨u,h1,h2⟩:=H.arr;obtain⟨i,hi⟩:=info_of_underlying h2;have hs:Yu P 59 u=some [0]:=by unfold Yu;rw[h2]
 have hc:P.cellsOf u=1:=by
  have h:=H.eq.shape;unfold Yu at h;rw[h1]at h;simp only[hs]at h;split at h
  ·assumption
  ·cases h
 have pt:∀j,j<4->∃n,(part u (k.map (Value.int .u16)).toArray j).run P w=.ok (.int .u16 n) w:=λj hj=>by
  have:=N8 hs hc w (k.map (Value.int .u16)) j (by simp;omega);refine⟨k.getD j 0,?_⟩;rw[this];unfold valOf;rw[h2];have:j<k.length:=by omega
  simp[QW,this]
 rw[show (10000:Nat)=9999+1 from rfl];unfold VX;rw[Instr.checkKey];simp only[Sem.run_bind,run_underlying h1,Result.andThen_ok];simp only[Std.Legacy.Range.forIn_eq_forIn_range',Std.Legacy.Range.size,Ej,Nat.add_one_sub_one,Nat.div_one];have lt:∀j∈List.range' 0 4 1,j<4:=λj hj=>by simp[List.mem_range']at hj;omega
 generalize List.range' 0 4 1=is at lt;induction is with
 | nil=>simp
 | cons j is ih=>
  obtain⟨n,p1⟩:=pt j (lt j (by simp));have p2:=Ez (P:=P) (w:=w) (k:=n) h2 em 9998;simp only[List.forIn_cons,Sem.run_bind,run_sizeOf w hi,Result.andThen_ok,hc,Nat.mul_one,p1,p2,Sem.run_pure];exact ih λy hy=>lt y (by simp[hy])
theorem HK.Cw(w){k:List Int}(hk:k.length=4):∀(es:List MapEntry) (i:Nat),(∀e∈es,∃k',k'.length=4/\e.key=VX k'/\k'≠k)->(findAsking kt (VX k) es i).run P w=.ok none w
 | [],_,_=>by simp[findAsking]
 | e::es,i,h=>by
  obtain⟨k',h1,h2,h3⟩:=h e (by simp);have:=H.equal w hk h1;rw[QQ (Q3 h3)]at this;simp[findAsking,h2,this,HK.Cw w hk es (i+1) λx hx=>h x (by simp[hx])]
theorem HK.WV(w){k:List Int}(hk:k.length=4):∀(es:List MapEntry) (i0 j:Nat) (e:MapEntry),es[j]? = some e->e.key=VX k->(∀(i:Nat) (e':MapEntry),i<j->es[i]? = some e'->∃k',k'.length=4/\e'.key=VX k'/\k'≠k) ->
  (findAsking kt (VX k) es i0).run P w=.ok (some (i0+j,e.val)) w
 | [],_,_,_,h,_,_=>by simp at h
 | x::es,i0,0,e,h,hx,_=>by
  simp at h;subst h;have:=H.equal w hk hk;rw[Q7 rfl]at this;simp[findAsking,hx,this]
 | x::es,i0,j+1,e,h,hx,hn=>by
  obtain⟨k',h1,h2,h3⟩:=hn 0 x (by omega) rfl;have:=H.equal w hk h1;rw[QQ (Q3 h3)]at this;have ih:=HK.WV w hk es (i0+1) j e (by simpa using h) hx λi e' hi he=>hn (i+1) e' (by omega) (by simpa using he);simp[findAsking,h2,this,ih];omega
theorem HK.find(w){k}{es:List MapEntry}{r}(h:(findAsking kt (VX k) es 0).run P w=.ok r w):(findKey kt (VX k) es).run P w=.ok r w:=by
 obtain⟨u,h1,_⟩:=H.arr;cases es with
 | nil=>simpa[findKey,underlying,h1,findNow,findAsking] using h
 | cons e es=>
  simp only[findKey,underlying,h1,findNow,sameNow,Sem.run_bind];simpa[underlying,h1] using h
end
structure yW (Z:Nat->Prop) (h:List Ob) (pl:List Pl) (w:World) (c:Nat) (es:List J7) (QN:List MapEntry):Prop where
 len:es.length=QN.length
 at_:∀(i:Nat) (e:J7) (a:MapEntry),es[i]? = some e->QN[i]? = some a->a.key=VX e.k/\QA Z h pl w e.v a.val/\a.born=e.b/\a.born<c
 inc:∀(i j:Nat) (a a':MapEntry),i<j->QN[i]? = some a->QN[j]? = some a'->a.born<a'.born
def Qla{Z}{h}{pl}{w:World}{c}{es}{b}{QN:Array MapEntry}(hb:w.heap[b]? = some (.map QN c))(E:yW Z h pl w c es QN.toList){kd:Kd}(Jo:kd.ty=1):J1 Z h pl w (je kd c es) b 0:=by
 refine J1.ofMap Jo ⟨rfl,rfl,QN,c,hb,by have:=E.len;simp at this;simp[je,this],λi _=>?_,.cl _ _ (.raw _),λi a ha=>?_,λi j a a' KA h1 h2=>E.inc i j a a' KA (by simpa using h1) (by simpa using h2)⟩
 ·show (Zx c es i).length=3;cases i with
  | zero=>rfl
  | succ i=>simp only[Zx];split<;>rfl
 ·have Qc:=(VT.1 ha).1;have hi:i<es.length:=by have:=E.len;simp at this;omega
  obtain⟨h1,h2,h3,h4⟩:=E.at_ i es[i] a (QP hi) (by simpa using ha);have e1:Zx c es (i+1)=[.raw (VX es[i].k),es[i].v,.raw (.int .i64 es[i].b)]:=by simp[Zx,hi]
  show _/\QA Z h pl w (nth (Zx c es (i+1)) 0) _/\QA Z h pl w (nth (Zx c es (i+1)) 1) _/\QA Z h pl w (nth (Zx c es (i+1)) 2) _;rw[e1];exact⟨h4,by rw[h1];exact .cl _ _ (.raw _),h2,by rw[h3];exact .cl _ _ (.raw _)⟩
def Qlb{Z}{h}{pl}{w:World}{c}{es}{b p}{kd:Kd}(Jo:kd.ty=1)(x:J1 Z h pl w (je kd c es) b p):p=0/\∃QN:Array MapEntry,w.heap[b]? = some (.map QN c)/\yW Z h pl w c es QN.toList:=by
 obtain⟨h0,_,QN,clock,h1,h2,_,h4,h5,h6⟩:=x.map Jo;have hc:clock=c:=by
  have:=Z9 h4;simp at this;omega
 subst hc;have hl:es.length=QN.size:=by simpa[je] using h2
 refine⟨h0,QN,h1,by simpa using hl,λi e a he ha=>?_,λi j a a' KA g1 g2=>h6 i j a a' KA (by simpa using g1) (by simpa using g2)⟩;obtain⟨k1,k2,k3,k4⟩:=h5 i a (by simpa using ha);have e1:(je kd clock es).row (i+1)=[.raw (VX e.k),e.v,.raw (.int .i64 e.b)]:=by simp[je,Zx,he]
 rw[e1]at k2 k3 k4;have:=Z9 k2;have h8:=Z9 k4;refine⟨this,k3,?_,k1⟩;simp at h8;omega
def yW.tr{Z}{h h'}{pl Qj}{w w'}(T:Tr h pl w h' Qj w'){c}{es}{QN}(E:yW Z h pl w c es QN):yW Z h' Qj w' c es QN:=
 ⟨E.len,λi e a h1 h2=>let ⟨g1,g2,g3⟩:=E.at_ i e a h1 h2;⟨g1,g2.tr T,g3⟩,E.inc⟩
def EH:List D->Option (List Int)
 | []=>some []
 | .raw (.int .u16 n)::r=>match EH r with
  | some l=>some (n::l)
  | none=>none
 | _=>none
def Qng:∀{cs:List D} {l:List Int},EH cs=some l->Cu cs=some (l.map (Value.int .u16))
 | [],l,e=>by simp[EH]at e;subst e;rfl
 | c::cs,l,e=>by
  unfold EH at e;split at e
  ·rename_i heq;cases heq
  ·rename_i n r heq;simp only[Gd]at heq;obtain⟨rfl,rfl⟩:=heq;split at e
   ·rename_i l' Yt;simp only[QV]at e;subst e;simp[Cu,Qng Yt]
   ·cases e
  ·cases e
def kU(L:Zm)(E:vY)(kt:TypeId)(cs:List D):Option (List Int):=match ty L kt with
 | some ⟨.array n u,_,_,_⟩=>match ty L u,yT E kt with
  | some ⟨.int q,_,_,_⟩,some l=>bif Nat.beq n 4&&IntKind.same q .u16&&Gy l [0,0,0,0] then match EH cs with
    | some k=>bif Nat.beq k.length 4 then some k else none
    | none=>none
   else none
  | _,_=>none
 | _=>none
def Qlc{P:Program}{t e:TypeId}{n}{y:Ty}(h:We P t y)(hk:y.k=.array n e):P.underlying t=some (.array n e):=by
 obtain⟨d,hd,he⟩:=h.under;rw[hk]at he;rw[hd];cases d<;>simp[TK.of]at he;rw[he.1,he.2]
def Qnh{P}{L}{E}(hL:ZR P L)(hE:xD P E){kt:TypeId}{cs}{k:List Int}(h:kU L E kt cs=some k):HK P kt/\k.length=4/\EH cs=some k:=by
 unfold kU at h;split at h;case h_2=>cases h
 rename_i n u _ _ _ ht;split at h;case h_2=>cases h
 rename_i q _ _ _ l hu he;obtain⟨h1,h⟩:=q6 h;simp only[ZJ]at h1;have hn:=NJ h1.1.1;have hq:=IntKind.dI h1.1.2;have hl:=Td h1.2;subst hn;subst hq;subst hl;split at h;case h_2=>cases h
 rename_i k' ZD;cases hb:Nat.beq k'.length 4 with
 | false=>rw[hb]at h;cases h
 | true=>
  rw[hb]at h;cases h;exact⟨⟨hE _ _ he,u,Qlc (hL kt _ ht) rfl,A5 (hL u _ hu) rfl⟩,NJ hb,ZD⟩
section
variable {P:Program}{L:Zm}{E:vY}{base nt:Nat}{s:St}{o:Oper}{t:TypeId}{x i:Operand}
def Qni{Z}{pl}{a:Act}{w}(r:Rel Z base nt s pl a w){cs}{k}(hi:Qr s.fr i=.agg cs)(hk:EH cs=some k):a.eval i=VX k:=by
 have e2:=r.eval i;rw[hi]at e2;obtain⟨us,hu,eJ,Be⟩:=Gp e2;rw[hu,Te (Qng hk) us eJ Be];rfl
def r8{Z}{pl}{a}{w}(r:Rel Z base nt s pl a w){l c}{es}{kd:Kd}(Jo:kd.ty=1)(hx:Qr s.fr x=.mref l 0)(Q9:s.h[l]? = some (je kd c es)):
  ∃b QN,a.eval x=.map (some b)/\pl[l]? = some (some (b,0))/\(kd.ro=false->base<=b)/\w.heap[b]? = some (.map QN c)/\yW Z s.h pl w c es QN.toList:=by
 have e1:=r.eval x;rw[hx]at e1;obtain⟨o',p,b,h1,h2,h3,h4,h5⟩:=El e1;rw[Q9]at h1;cases h1;have h5:=h5 rfl;rw[h5]at h2;obtain⟨Zo,vZ⟩:=r.o.at_ l _ b 0 Q9 h2;obtain⟨_,QN,hb,E⟩:=Qlb Jo vZ;have hv:=h3.2;have:(je kd c es).kd.ty=1:=Jo;rw[this]at hv;exact⟨b,QN,hv,h2,Zo,hb,E⟩
def Tw(L:Zm)(E:vY)(h:List Ob)(t:TypeId)(x i:D):Ev:=match ty L t with
 | some ⟨.map kt et,_,_,_⟩=>match ty L et,i,x with
  | some ye,.agg cs,.mref l g=>match kU L E kt cs,h[l]? with
   | some k,some o=>some (IT o/\g=0,match Wt (xG o) k with
    | some d=>.tup [d,.raw (.bool true)]
    | none=>.tup [A9 ye,.raw (.bool false)])
   | _,_=>none
  | _,_,_=>none
 | _=>none
def yW.keyed{Z:Nat->Prop}{h:List Ob}{pl:List Pl}{w:World}{c:Nat}{es:List J7}{QN:List MapEntry}(R:yW Z h pl w c es QN)(h4:∀e∈es,e.k.length=4)(i:Nat)(a:MapEntry)(ha:QN[i]? = some a):∃e,es[i]? = some e/\e.k.length=4/\a.key=VX e.k:=by
 have hi:i<es.length:=by have:=(Wc.1 ha).1;rw[R.len];exact this
 exact⟨es[i],QP hi,h4 _ (qz hi),(R.at_ i es[i] a (QP hi) ha).1⟩
def yW.Cw{Z}{h}{pl}{w}{c}{es}{QN:List MapEntry}(R:yW Z h pl w c es QN)(h4:∀e∈es,e.k.length=4){kt:TypeId}(H:HK P kt){k:List Int}(hk:k.length=4)(hn:Wt es k=none)(w'):(findKey kt (VX k) QN).run P w'=.ok none w':=by
 refine H.find w' (H.Cw w' hk QN 0 λa ha=>?_);obtain⟨i,hi⟩:=Ee ha;obtain⟨e,h1,h2,h3⟩:=R.keyed h4 i a hi;exact⟨e.k,h2,h3,rX hn e (NH h1)⟩
def Qld(hL:ZR P L)(hE:xD P E)(ho:o.op=.lookup t x i true){p}{d}(h:Tw L E s.h t (Qr s.fr x) (Qr s.fr i)=some (p,d))(hp:p):VJ P base nt o s d:=by
 intro Z pl a w r;unfold Tw at h;split at h;case h_2=>cases h
 rename_i kt et _ _ _ ht;split at h;case h_2=>cases h
 rename_i ye cs l g VV hi hx;split at h;case h_2=>cases h
 rename_i k ob hk Q9;simp only[QV,Q4]at h;obtain⟨rfl,rfl⟩:=h;obtain⟨⟨GC,hm,h4⟩,rfl⟩:=hp;obtain⟨H,EI,Jp⟩:=Qnh hL hE hk;have e2:=Qni r hi Jp;obtain⟨kd,Jo⟩:∃kd,kd=ob.kd:=⟨_,rfl⟩;obtain⟨c,hc⟩:∃c,c=clockOf ob:=⟨_,rfl⟩;obtain⟨es,jW⟩:∃es,es=xG ob:=⟨_,rfl⟩;rw[<- Jo]at GC hm;rw[<- hc,<- jW]at hm;rw[<- jW]at h4 ⊢;rw[hm]at Q9;obtain⟨b,QN,e1,_,_,hb,R⟩:=r8 r GC hx Q9;have hx:=Ci (hL t _ ht) rfl;have h3:=λw':World=>H.check QN.isEmpty w' EI;cases hf:Wt es k with
 | some d=>
  obtain⟨j,e,g1,g2,g3,g4⟩:=rW hf;have hj:j<QN.toList.length:=by rw[<- R.len];exact(Wc.1 g1).1
  obtain⟨k1,k2,_⟩:=R.at_ j e QN.toList[j] g1 (QP hj);have h2:∀w':World,(findKey kt (VX k) QN.toList).run P w'=.ok (some (j,QN.toList[j].val)) w':=λw'=>by
   have:=H.find w' (H.WV w' EI QN.toList 0 j QN.toList[j] (QP hj) (by rw[k1,g2]) λi' a' Jf Vn=>by
    obtain⟨e',q1,q2,q3⟩:=R.keyed h4 i' a' Vn;exact⟨e'.k,q2,q3,g4 i' e' Jf q1⟩)
   rwa [JG]at this
  refine⟨.tuple #[QN.toList[j].val,.bool true],.tup _ [_,.bool true] rfl (λi hi=>match i,hi with
   | 0,_=>by rw[<- g3];exact k2
   | 1,_=>.cl _ _ (.raw _)),λw' hw=>?_⟩
  simp[execOp,ho,e1,e2,lookup,underlying,hx,getObj,yU ((hw b (z6 hb)).trans hb),h2 w',h3 w']
 | none=>
  obtain⟨z,hz,YY⟩:=dL (hL et ye VV) (N:=free Z pl) w;refine⟨.tuple #[z,.bool false],.tup _ [z,.bool false] rfl (λi hi=>match i,hi with
   | 0,_=>.cl _ _ hz
   | 1,_=>.cl _ _ (.raw _)),λw' hw=>?_⟩
  have h2:=R.Cw h4 H EI hf w';simp[execOp,ho,e1,e2,lookup,underlying,hx,getObj,yU ((hw b (z6 hb)).trans hb),h2,h3 w',YY w']
def Tz(L:Zm)(E:vY)(h:List Ob)(t:TypeId)(x i v:D):Option (Prop × List Ob):=match ty L t with
 | some ⟨.map kt _,_,_,_⟩=>match i,x with
  | .agg cs,.mref l g=>match kU L E kt cs,h[l]? with
   | some k,some o=>some (IT o/\Wt (xG o) k=none/\g=0/\o.kd.ro=false,h.set l (jX (clockOf o+1) (xG o++[⟨k,v,clockOf o⟩])))
   | _,_=>none
  | _,_=>none
 | _=>none
def Qle(hL:ZR P L)(hE:xD P E){v}(ho:o.op=.mapUpdate t x i v){p}{h'}(h:Tz L E s.h t (Qr s.fr x) (Qr s.fr i) (Qr s.fr v)=some (p,h'))(hp:p):q7 P base nt o s h' .undef:=by
 unfold Tz at h;split at h;case h_2=>cases h
 rename_i kt et _ _ _ ht;split at h;case h_2=>cases h
 rename_i cs l g hi hx;split at h;case h_2=>cases h
 rename_i k ob hk Q9;simp only[QV,Q4]at h;obtain⟨rfl,rfl⟩:=h;obtain⟨⟨GC,hm,h4⟩,hn,rfl,hro⟩:=hp;obtain⟨H,EI,Jp⟩:=Qnh hL hE hk;obtain⟨kd,Jo⟩:∃kd,kd=ob.kd:=⟨_,rfl⟩;obtain⟨c,hc⟩:∃c,c=clockOf ob:=⟨_,rfl⟩;obtain⟨es,jW⟩:∃es,es=xG ob:=⟨_,rfl⟩;rw[<- Jo]at GC hm hro;rw[<- hc,<- jW]at hm;rw[<- jW]at h4 hn ⊢;rw[<- hc];have Qs:kd=.map:=by cases kd<;>first|rfl|(exfalso;revert GC;decide)|(exfalso;revert hro;decide)
 rw[hm,Qs]at Q9;intro Z pl a w r Kb;have e2:=Qni r hi Jp;have e3:=r.eval v;obtain⟨b,QN,e1,h2,Zo,hb,R⟩:=r8 r rfl hx Q9;have Zo:=Zo rfl;have EC:=Ci (hL t _ ht) rfl;have q2:=R.Cw h4 H EI hn w;have q3:=H.check false w EI;have Q5:(mapUpdate t (.map (some b)) (VX k) (a.eval v)).run P w=.ok () { w with heap:=w.heap.setIfInBounds b (.map (QN.push { key:=VX k,val:=a.eval v,born:=c }) (c+1)) }:=by
  simp[mapUpdate,underlying,EC,getObj,yU hb,q2,q3,setObj,Oa hb]
 have xF:=z6 hb;generalize XC:({ w with heap:=w.heap.setIfInBounds b (.map (QN.push { key:=VX k,val:=a.eval v,born:=c }) (c+1)) }:World)=w' at Q5;have e:∀c,c≠b->w'.heap[c]? = w.heap[c]? := λc hc=>by rw[<- XC];simp[xg,Q3 hc]
 have JH:w'.heap[b]? = some (.map (QN.push { key:=VX k,val:=a.eval v,born:=c }) (c+1)):=by rw[<- XC];simp[xg,xF]
 have T:=Tr.GB (w':=w') r.o Q9 h2 e (o':=jX (c+1) (es++[⟨k,Qr s.fr v,c⟩])) rfl rfl rfl (by rw[hb];intro c el h;cases h);have R':=R.tr T;have hl:es.length=QN.size:=by have:=R.len;simpa using this
 have RR:yW Z (s.h.set l (jX (c+1) (es++[⟨k,Qr s.fr v,c⟩]))) pl w' (c+1) (es++[⟨k,Qr s.fr v,c⟩]) (QN.push { key:=VX k,val:=a.eval v,born:=c }).toList:=by
  refine⟨by simp[hl],λi' e' a' Ws Vn=>?_,λi1 i2 x y ED hx hy=>?_⟩
  ·have Vn:(QN.push { key:=VX k,val:=a.eval v,born:=c })[i']? = some a':=by rw[<- jM];exact Vn
   rw[Sc]at Vn;rcases Xq Ws with h1|⟨h1,ZY⟩
   ·have:=(Wc.1 h1).1;rw[Qd (by omega)]at Vn;obtain⟨k1,k2,k3,k4⟩:=R'.at_ i' e' a' h1 (by simpa using Vn);exact⟨k1,k2,k3,by omega⟩
   ·subst ZY;rw[Qg (by omega)]at Vn;cases Vn;exact⟨rfl,e3.tr T,rfl,by simp⟩
  ·have hx:(QN.push { key:=VX k,val:=a.eval v,born:=c })[i1]? = some x:=by rw[<- jM];exact hx
   have hy:(QN.push { key:=VX k,val:=a.eval v,born:=c })[i2]? = some y:=by rw[<- jM];exact hy
   rw[Sc]at hx hy;have Kj:∀(i:Nat) (z:MapEntry),QN[i]? = some z->z.born<c:=λi z hz=>by
    have Qc:=(VT.1 hz).1;exact(R.at_ i (es[i]'(by omega)) z (QP (by omega)) (by simpa using hz)).2.2.2
   split at hx
   ·split at hy
    ·omega
    ·have:=(VT.1 hy).1;omega
   ·split at hy
    ·cases hy;exact Kj i1 x hx
    ·exact R.inc i1 i2 x y ED (by simpa using hx) (by simpa using hy)
 refine⟨Go.undef,w',pl,.inr ⟨by simp[execOp,ho,e1,e2,Q5],rfl⟩,T,Ze.GB (hro:=rfl) r.o Q9 h2 e T (Qla JH RR rfl),.cl _ _ (.undef _),?_,λhc=>by simp[calm,ho]at hc⟩;exact IK Zo e (by rw[<- XC];simp) (by rw[<- XC]) (by rw[<- XC]) (by rw[<- XC])
end
end Go.Fg
namespace Go.Fg
open Go.RowKit (Below)
variable {Z:Nat->Prop}
structure Cx where
 L:Zm
 E:vY
def wc(X:Cx)(s:St):Op->Ev
 | .move x=>some (True,Qr s.fr x)
 | .assign x=>some (True,Qr s.fr x)
 | .pick c x y=>match Qr s.fr c with
  | .raw (.bool b)=>some (True,bif b then Qr s.fr x else Qr s.fr y)
  | _=>none
 | .binOp op t x y _=>match SL X.L op t (Qr s.fr x) (Qr s.fr y) with
  | some r=>some r
  | none=>Tf X.E op t (Qr s.fr x) (Qr s.fr y)
 | .unOp u _ x=>match u,Qr s.fr x with
  | .not,.raw (.bool b)=>some (True,.raw (.bool (!b)))
  | .neg,.raw (.int k n)=>some (True,.raw (.int k (k.wrap (0 - n))))
  | .xor,.raw (.int k n)=>some (True,.raw (.int k (bits .xor k (if k.signed then -1 else k.max) n)))
  | _,_=>none
 | .convert a b x=>SQ X.L a b (Qr s.fr x)
 | .build t parts=>match S5 X.L s.fr t parts.toList with
  | some d=>some (True,d)
  | none=>none
 | .load t x=>Gr X.L s.h t (Qr s.fr x)
 | .nilCheck x=>bif (Qr s.fr x).there then some (True,Qr s.fr x) else none
 | .fieldAddr t x f=>SM X.L t f (Qr s.fr x)
 | .field t x f=>SN X.L t f (Qr s.fr x)
 | .indexAddr t x i=>SO X.L s.h t (Qr s.fr x) (Qr s.fr i)
 | .index t x i=>SP X.L t (Qr s.fr x) (Qr s.fr i)
 | .extract x i=>match Qr s.fr x with
  | .tup cs=>some (i<cs.length,nth cs i)
  | _=>none
 | .slice t x lo hi mx=>match mx with
  | none=>S9 X.L s.fr s.h t (Qr s.fr x) lo hi
  | some _=>none
 | .makeFunc fn first Qz=>match fn,first with
  | .func f,⟨fs⟩=>some (True,.clo f fs.length ((fs++Qz.toList).map (Qr s.fr)))
  | _,_=>none
 | .call ⟨.builtin b,⟨args⟩,⟨ZO⟩⟩=>match b,args,ZO with
  | .len,[x],[t]=>match SR X.L t (Qr s.fr x) with
   | some r=>some r
   | none=>Tq X.L s.h t (Qr s.fr x)
  | .max,[x,y],_=>match Qr s.fr x,Qr s.fr y with
   | .raw (.int k m),.raw (.int _ n)=>some (True,.raw (.int k (max m n)))
   | _,_=>none
  | .min,[x,y],_=>match Qr s.fr x,Qr s.fr y with
   | .raw (.int k m),.raw (.int _ n)=>some (True,.raw (.int k (min m n)))
   | _,_=>none
  | _,_,_=>none
 | .lookup t x i ok=>match Tp X.L s.h t (Qr s.fr x) (Qr s.fr i) ok with
  | some r=>some r
  | none=>bif ok then Tw X.L X.E s.h t (Qr s.fr x) (Qr s.fr i) else none
 | _=>none
structure Y0 (P:Program) (X:Cx):Prop where
 L:ZR P X.L
 E:xD P X.E
def r9{P}{X}(hX:Y0 P X){base nt}{s}{o:Oper}{p}{d}(h:wc X s o.op=some (p,d))(hp:p):VJ P base nt o s d:=by
 unfold wc at h;split at h;case h_1 x ho=>simp only[QV,Q4]at h;obtain⟨rfl,rfl⟩:=h;exact pW (.inl ho)
 case h_2 x ho=>simp only[QV,Q4]at h;obtain⟨rfl,rfl⟩:=h;exact pW (.inr ho)
 case h_3 c x y ho=>
  split at h
  ·rename_i b hc;simp only[QV,Q4]at h;obtain⟨rfl,rfl⟩:=h;exact Qj6 ho hc
  ·cases h
 case h_4 op t x y yt ho=>
  split at h
  ·rename_i r hr;simp only[QV]at h;subst h;exact Qj5 hX.L ho hr hp
  ·exact QkG hX.E ho h
 case h_5 u t x ho=>
  split at h
  ·rename_i b hx;simp only[QV,Q4]at h;obtain⟨rfl,rfl⟩:=h;exact Qke ho rfl hx
  ·rename_i k n hx;simp only[QV,Q4]at h;obtain⟨rfl,rfl⟩:=h;exact Qkf ho rfl hx
  ·rename_i k n hx;simp only[QV,Q4]at h;obtain⟨rfl,rfl⟩:=h;exact Qkg ho rfl hx
  ·cases h
 case h_6 a b x ho=>exact Qki hX.L ho h
 case h_7 t parts ho=>
  split at h
  ·rename_i dd hd;simp only[QV,Q4]at h;obtain⟨rfl,rfl⟩:=h;exact QkB hX.L ho hd
  ·cases h
 case h_8 t x ho=>exact pZ hX.L ho h hp
 case h_9 x ho=>
  obtain⟨ht,h2⟩:=q6 h;simp only[QV,Q4]at h2;obtain⟨rfl,rfl⟩:=h2;exact Qkh ho rfl ht
 case h_10 t x f ho=>exact Qj7 hX.L ho h hp
 case h_11 t x f ho=>exact Qj8 hX.L ho h hp
 case h_12 t x i ho=>exact Qkb hX.L ho h hp
 case h_13 t x i ho=>exact Qkc hX.L ho h hp
 case h_14 x i ho=>
  split at h
  ·rename_i cs hx;simp only[QV,Q4]at h;obtain⟨rfl,rfl⟩:=h;exact Qkd ho hx hp
  ·cases h
 case h_15 t x lo hi mx ho=>
  split at h
  ·exact QkF hX.L ho h hp
  ·cases h
 case h_16 fn first Qz ho=>
  split at h
  ·simp only[QV,Q4]at h;obtain⟨rfl,rfl⟩:=h;exact Qkl ho
  ·cases h
 case h_17 b args ZO ho=>
  split at h
  ·split at h
   ·rename_i r hr;simp only[QV]at h;subst h;exact SS hX.L ho hr
   ·exact QkY hX.L ho rfl h hp
  ·split at h
   ·rename_i k m k' n hx hy;simp only[QV,Q4]at h;obtain⟨rfl,rfl⟩:=h;exact Qkj ho hx hy
   ·cases h
  ·split at h
   ·rename_i k m k' n hx hy;simp only[QV,Q4]at h;obtain⟨rfl,rfl⟩:=h;exact Qkk ho hx hy
   ·cases h
  ·cases h
 case h_18 t x i ok ho=>
  split at h
  ·rename_i r hr;simp only[QV]at h;subst h;exact look_ok hX.L ho hr hp
  ·obtain⟨rfl,h2⟩:=q6 h;exact Qld hX.L hX.E ho h2 hp
 case h_19=>cases h
def xH(X:Cx)(s:St):Op->Option (Prop × List Ob × D)
 | .alloc t=>match ty X.L t with
  | some y=>some (True,s.h++[⟨.one,0,(y.zero.map JM).length,1,λ_=>y.zero.map JM⟩],.ptr s.h.length 0 0 0)
  | none=>none
 | .box _ x=>match Xr (Qr s.fr x) with
  | some cs=>some (True,s.h++[⟨.one,0,cs.length,1,λ_=>cs⟩],.ptr s.h.length 0 0 0)
  | none=>none
 | .store t a x=>match NZ X.L s.h t (Qr s.fr a) (Qr s.fr x) with
  | some (p,h')=>some (p,h',.undef)
  | none=>none
 | .buildSlice t len parts=>S6 X.L s.fr s.h t len parts.toList
 | .call ⟨.builtin b,⟨args⟩,⟨ZO⟩⟩=>match b,args,ZO with
  | .append,[x,y],[t,t']=>bif Nat.beq t t' then Bc X.L s.h t (Qr s.fr x) (Qr s.fr y) else none
  | .delete,[x,i],[t,_]=>match Tt X.L s.h t (Qr s.fr x) (Qr s.fr i) with
   | some (p,h')=>some (p,h',.tup [])
   | none=>none
  | _,_,_=>none
 | .makeMap t rz=>match rz with
  | none=>IS X.L s.h t
  | some (.const (.int _ n))=>bif decide (0<=n) then IS X.L s.h t else none
  | some _=>none
 | .mapUpdate t x i v=>match EB X.L s.h t (Qr s.fr x) (Qr s.fr i) (Qr s.fr v) with
  | some (p,h')=>some (p,h',.undef)
  | none=>match Tz X.L X.E s.h t (Qr s.fr x) (Qr s.fr i) (Qr s.fr v) with
   | some (p,h')=>some (p,h',.undef)
   | none=>none
 | .range t x=>Tu X.L s.h t (Qr s.fr x)
 | _=>none
def Qlf{L}{h}{t:TypeId}{s x}{r}(e:Bc L h t s x=some r):s=.nil\/∃l g off len,s=.ref l g off len:=by
 unfold Bc at e;split at e
 ·split at e
  ·exact .inl rfl
  ·exact .inr ⟨_,_,_,_,rfl⟩
  ·cases e
 ·cases e
def sb{P}{X}(hX:Y0 P X){base nt}{s}{o:Oper}{p}{h'}{d}(h:xH X s o.op=some (p,h',d))(hp:p):q7 P base nt o s h' d:=by
 unfold xH at h;split at h;case h_1 t ho=>
  split at h
  ·rename_i y hy;simp only[QV,Q4]at h;obtain⟨rfl,rfl,rfl⟩:=h;exact Qkr hX.L ho hy
  ·cases h
 case h_2 t x ho=>
  split at h
  ·rename_i cs hc;simp only[QV,Q4]at h;obtain⟨rfl,rfl,rfl⟩:=h;exact Qkq ho hc
  ·cases h
 case h_3 t a x ho=>
  split at h
  ·rename_i p' XZ hs;simp only[QV,Q4]at h;obtain⟨rfl,rfl,rfl⟩:=h;exact Qkp hX.L ho hs hp
  ·cases h
 case h_4 t len parts ho=>exact QkC hX.L ho h hp
 case h_5 b args ZO ho=>
  split at h
  ·obtain⟨ht,h2⟩:=q6 h;have ht:=NJ ht;subst ht;rcases Qlf h2 with e|⟨l,g,off,len,e⟩
   ·rw[e]at h2;exact Qkx hX.L ho e h2 hp
   ·rw[e]at h2;exact Qky hX.L ho e h2 hp
  ·split at h
   ·rename_i p' XZ hs;simp only[QV,Q4]at h;obtain⟨rfl,rfl,rfl⟩:=h;exact Qk0 hX.L ho hs hp
   ·cases h
  ·cases h
 case h_6 t rz ho=>
  split at h
  ·exact rM hX.L (.inl rfl) ho h
  ·rename_i k n;obtain⟨hn,h2⟩:=q6 h;exact rM hX.L (.inr ⟨k,n,rfl,YV hn⟩) ho h2
  ·cases h
 case h_7 t x i v ho=>
  split at h
  ·rename_i p' XZ hs;simp only[QV,Q4]at h;obtain⟨rfl,rfl,rfl⟩:=h;exact QkZ hX.L ho hs hp
  ·split at h
   ·rename_i p' XZ hs;simp only[QV,Q4]at h;obtain⟨rfl,rfl,rfl⟩:=h;exact Qle hX.L hX.E ho hs hp
   ·cases h
 case h_8 t x ho=>exact Qk3 hX.L ho h hp
 case h_9=>cases h
abbrev G:=Option (Option Nat × Bool)
def guardOf(ops:Array Oper)(o:Oper):G:=match o.guard with
 | none=>none
 | some (j,b)=>some ((ops[j]?).bind (·.dst),b)
def strip(o : Oper): Oper := ⟨o.dst, o.op, o.type, "", #[], none⟩
theorem Qlg{P}{o:Oper}{a}{w}{K}{Q}:(strip o).wp P a w K Q=o.wp P a w K Q:=rfl
def yX(ops:Array Oper):List (Oper × G):=ops.toList.map λo=>(strip o,guardOf ops o)
def IU(tmps:Array Value)(t:Nat):Option Bool:=match tmps[t]? with
 | some (.bool b)=>some b
 | _=>none
def WG(g:G)(tmps:Array Value):Bool:=match g with
 | none=>true
 | some (none,_)=>false
 | some (some t,b)=>IU tmps t==some b
def IV(ops)(o)(tmps):Region.wanted o (yielded ops tmps)=WG (guardOf ops o) tmps:=by
 unfold Region.wanted guardOf WG;cases hg:o.guard with
 | none=>rfl
 | some jb=>
  obtain⟨j,b⟩:=jb;dsimp only;cases hd:(ops[j]?).bind (·.dst) with
  | none=>simp[yielded,hd]
  | some t=>
   simp only[yielded,hd,SB,IU];cases ht:tmps[t]? with
   | none=>rfl
   | some v=>cases v<;>rfl
def X3(P:Program)(Q:Exit->Act->World->Prop):List (Oper × G)->Act->World->Prop
 | [],a,w=>Q .normal a w
 | (o,g)::r,a,w=>if WG g a.tmps=true then o.wp P a w (X3 P Q r) Q else X3 P Q r (a.put o.dst Go.undef) w
def eT{P}{ops:Array Oper}{Q}:∀(n i:Nat) (a:Act) (w:World),i+n=ops.size->X3 P Q ((yX ops).drop i) a w->wpOps P ops Q (List.range' i n) a w
 | 0,i,a,w,hi,h=>by
  have:(yX ops).drop i=[]:=Sg (by simp[yX];omega);rw[this]at h;exact h
 | n+1,i,a,w,hi,h=>by
  have Qc:i<ops.size:=by omega
  have hd:(yX ops).drop i=(strip ops[i],guardOf ops ops[i])::(yX ops).drop (i+1):=by
   rw[Iv (by simp[yX];omega)];simp[yX]
  rw[hd]at h;rw[List.range'_succ];simp only[wpOps,qZ Qc,IV];simp only[X3]at h;split at h
  ·rename_i hw;rw[Qg hw];refine .inl ?_;have mono:∀(K K':Act->World->Prop),(∀a w,K a w->K' a w)->ops[i].wp P a w K Q->ops[i].wp P a w K' Q:=by
    intro K K' hk hh;unfold Oper.wp at *;generalize (execOp a.eval ops[i]).run P w=r at *;cases r with
    | ok x w'=>
     cases x<;>simp only[Oper.upon]at hh ⊢<;>first|exact hk _ _ hh|exact hh|skip
     ·exact hh.mono λe Gn he=>by cases e<;>first|exact hk _ _ he|exact he
     ·exact hh.mono λv Gn he=>hk _ _ he
    | halt x w'=>cases x<;>exact hh
   rw[Qlg]at h;exact mono _ _ (λa w=>eT n (i+1) a w (by omega)) h
  ·rename_i hw;rw[Qd hw];exact eT n (i+1) _ w (by omega) h
def Qlh{P}{id}{ops}{Q}{a}{w}(h:X3 P Q (yX ops) a w):(Code.region id ops false).wp P Q a w:=
 wp_region (by rw[List.range_eq_range'];exact eT ops.size 0 a w (by omega) (by simpa using h))
structure Start where
 w:World
 F:List Ob
 pl:List Pl
structure GF (Z:Nat->Prop) (w0:Start) (pl:List Pl) (w:World):Prop where
 new:∀b,w.heap.size<=b->Z b
 own:∀(l b q:Nat),pl[l]? = some (some (b,q))->w0.w.heap.size<=b->Z b
def GF.step{Z}{w0}{h h'}{pl Qj}{w w':World}(S:GF Z w0 pl w)(T:Tr h pl w h' Qj w')(hs:w.heap.size<=w'.heap.size):GF Z w0 Qj w' where
 new:=λb hb=>S.new b (by omega)
 own:=λl b q e h0=>by
  rcases A3 b w.heap.size with Qc|wg
  ·by_cases ha:WU pl b
   ·exact absurd e ((T.Kj b ha Qc).1 l q)
   ·obtain⟨l1,h1⟩:=Ir.1 ha;obtain⟨q1,h2⟩:=Ir.1 h1;exact S.own l1 b q1 (Classical.not_not.1 h2) h0
  ·exact S.new b wg
def GF.start{Z}{base}{w0:Start}{h}{pl}(R:Ze Z base h pl w0.w)(hz:∀b,w0.w.heap.size<=b->Z b):GF Z w0 pl w0.w where
 new:=hz
 own:=λl b q e h0=>absurd (R.lt e).1 (by omega)
def Kv(Z:Nat->Prop)(base:Nat)(w0:Start)(h:List Ob)(pl:List Pl)(w:World):Prop:=Below base w0.w w/\Tr w0.F w0.pl w0.w h pl w/\GF Z w0 pl w
def Kv.step{Z}{base}{w0}{h h'}{pl Qj}{w w'}(S:Kv Z base w0 h pl w)(T:Tr h pl w h' Qj w')(b:Below base w w'):Kv Z base w0 h' Qj w':=⟨S.1.trans b,S.2.1.trans T,S.2.2.step T b.size⟩
section
variable (P:Program)(base nt:Nat)(w0:Start)
def Of(_:Start)(_:Nat->Prop):Prop:=True
def lift(Z:Nat->Prop)(Q:Exit->St->Prop)(e:Exit)(a:Act)(w:World):Prop:=∃s pl,Q e s/\Rel Z base nt s pl a w/\Kv Z base w0 s.h pl w
def A(c:Code)(Q:Exit->St->Prop)(s:St):Prop:=∀(Z:Nat->Prop),Of w0 Z->∀pl a w,Rel Z base nt s pl a w->Kv Z base w0 s.h pl w->c.wp P (lift base nt w0 Z Q) a w
def AG(l:List (Oper × G))(Q:Exit->St->Prop)(s:St):Prop:=∀(Z:Nat->Prop),Of w0 Z->∀pl a w,Rel Z base nt s pl a w->Kv Z base w0 s.h pl w->X3 P (lift base nt w0 Z Q) l a w
end
inductive Item where
 | code (c:Code)
 | ops (l:List (Oper × G))
 | inBlock (id:Nat)
 | inScope
def Qw(P:Program)(base nt:Nat)(w0:Start)(Q:Exit->St->Prop):List Item->Exit->St->Prop
 | [],e,s=>Q e s
 | .code c::k,.normal,s=>A P base nt w0 c (Qw P base nt w0 Q k) s
 | .code _::k,e,s=>Qw P base nt w0 Q k e s
 | .ops l::k,.normal,s=>AG P base nt w0 l (Qw P base nt w0 Q k) s
 | .ops _::k,e,s=>Qw P base nt w0 Q k e s
 | .inBlock id::k,.exit j,s=>if j=id then Qw P base nt w0 Q k .normal s else Qw P base nt w0 Q k (.exit j) s
 | .inBlock _::k,e,s=>Qw P base nt w0 Q k e s
 | .inScope::_,.goto _,_=>False
 | .inScope::k,e,s=>Qw P base nt w0 Q k e s
inductive Tree where
 | done (e:Exit) (s:St)
 | stop (k:List Item) (s:St)
 | vc (p:Prop) (t:Tree)
 | ite (b:Bool) (t e:Tree)
 | fail
def Tree.holds(P:Program)(base nt:Nat)(w0:Start)(Q:Exit->St->Prop):Tree->Prop
 | .done e s=>Q e s
 | .stop k s=>Qw P base nt w0 Q k .normal s
 | .vc p t=>p/\t.holds P base nt w0 Q
 | .ite b t e=>(b=true->t.holds P base nt w0 Q)/\(b=false->e.holds P base nt w0 Q)
 | .fail=>False
def zd(id:Nat):List Item->Option (List Item)
 | []=>none
 | .inBlock j::k=>bif Nat.beq id j then some k else zd id k
 | _::k=>zd id k
def Zj(fr:List (Nat × D))(t:Option Nat)(d:D):List (Nat × D):=match t with
 | none=>fr
 | some t=>put fr t d
def Zr(nt:Nat):Option Nat->Bool
 | none=>true
 | some t=>Nat.blt t nt
def Cy:Bool->Bool->Bool
 | true,x=>x
 | false,x=>!x
def sf(b x):Cy b x=(x==b):=by cases b<;>cases x<;>rfl
def exec(X:Cx)(nt:Nat):Nat->List Item->St->Tree
 | 0,k,s=>.stop k s
 | _+1,[],s=>.done .normal s
 | n+1,.inBlock _::k,s=>exec X nt n k s
 | n+1,.inScope::k,s=>exec X nt n k s
 | n+1,.code c::k,s=>match c with
  | .skip=>exec X nt n k s
  | .label _=>exec X nt n k s
  | .seq a b=>exec X nt n (.code a::.code b::k) s
  | .cond c a b=>match Qr s.fr c with
   | .raw (.bool x)=>.ite x (exec X nt n (.code a::k) s) (exec X nt n (.code b::k) s)
   | _=>.fail
  | .block id c=>exec X nt n (.code c::.inBlock id::k) s
  | .scope c=>exec X nt n (.code c::.inScope::k) s
  | .exit id=>match zd id k with
   | some k'=>exec X nt n k' s
   | none=>.done (.exit id) s
  | .ret=>.done .ret s
  | .region id ops dr=>bif dr then .stop (.code (.region id ops dr)::k) s else exec X nt n (.ops (yX ops)::k) s
  | c=>.stop (.code c::k) s
 | n+1,.ops []::k,s=>exec X nt n k s
 | n+1,.ops ((o,g)::r)::k,s=>match g with
  | none=>match wc X s o.op with
   | some (p,d)=>bif Zr nt o.dst then .vc p (exec X nt n (.ops r::k) ⟨Zj s.fr o.dst d,s.h⟩) else .fail
   | none=>match xH X s o.op with
    | some (p,h',d)=>bif Zr nt o.dst then .vc p (exec X nt n (.ops r::k) ⟨Zj s.fr o.dst d,h'⟩) else .fail
    | none=>.stop (.ops ((o,none)::r)::k) s
  | some (none,_)=>bif Zr nt o.dst then exec X nt n (.ops r::k) ⟨Zj s.fr o.dst (.raw Go.undef),s.h⟩ else .fail
  | some (some t,b)=>match get s.fr t with
   | .raw (.bool x)=>.ite (Cy b x) (exec X nt n (.ops ((o,none)::r)::k) ⟨put s.fr t (.raw (.bool b)),s.h⟩)
     (bif Zr nt o.dst then exec X nt n (.ops r::k) ⟨Zj (put s.fr t (.raw (.bool (!b)))) o.dst (.raw Go.undef),s.h⟩ else .fail)
   | .raw (.tuple _)=>bif Zr nt o.dst then exec X nt n (.ops r::k) ⟨Zj s.fr o.dst (.raw Go.undef),s.h⟩ else .fail
   | _=>.fail
section
variable {P:Program}{base nt:Nat}{w0:Start}{Q:Exit->St->Prop}
def A.mono{c}{Q Q'}{s}(h:A P base nt w0 c Q s)(hq:∀e s,Q e s->Q' e s):A P base nt w0 c Q' s:=
 λZ z pl a w r b=>wp_mono (h Z z pl a w r b) λ_ _ _ ⟨s',Qj,h1,h2,h3⟩=>⟨s',Qj,hq _ _ h1,h2,h3⟩
def Qli{x y}{s}(h:A P base nt w0 x (λe s'=>match e with | .normal=>A P base nt w0 y Q s'|e=>Q e s') s):A P base nt w0 (.seq x y) Q s:=by
 intro Z z pl a w r b;refine wp_seq (wp_mono (h Z z pl a w r b) λe a' w' hh=>?_);obtain⟨s',Qj,h1,h2,h3⟩:=hh;cases e with
 | normal=>exact h1 Z z Qj a' w' h2 h3
 | exit id=>exact⟨s',Qj,h1,h2,h3⟩
 | goto l=>exact⟨s',Qj,h1,h2,h3⟩
 | ret=>exact⟨s',Qj,h1,h2,h3⟩
 | panic ch=>exact⟨s',Qj,h1,h2,h3⟩
 | outgrown=>exact⟨s',Qj,h1,h2,h3⟩
def Qlj{id}{c}{s}(h:A P base nt w0 c (λe s'=>match e with | .exit j=>if j=id then Q .normal s' else Q (.exit j) s'|e=>Q e s') s):A P base nt w0 (.block id c) Q s:=by
 intro Z z pl a w r b;refine wp_block (wp_mono (h Z z pl a w r b) λe a' w' hh=>?_);obtain⟨s',Qj,h1,h2,h3⟩:=hh;cases e with
 | exit j=>
  simp only[Exit.inBlock];dsimp only at h1;split
  ·rename_i hj;rw[Qg hj]at h1;exact⟨s',Qj,h1,h2,h3⟩
  ·rename_i hj;rw[Qd hj]at h1;exact⟨s',Qj,h1,h2,h3⟩
 | normal=>exact⟨s',Qj,h1,h2,h3⟩
 | goto l=>exact⟨s',Qj,h1,h2,h3⟩
 | ret=>exact⟨s',Qj,h1,h2,h3⟩
 | panic ch=>exact⟨s',Qj,h1,h2,h3⟩
 | outgrown=>exact⟨s',Qj,h1,h2,h3⟩
def Qlk{c}{s}(h:A P base nt w0 c (λe s'=>match e with | .goto _=>False|e=>Q e s') s):A P base nt w0 (.scope c) Q s:=by
 intro Z z pl a w r b;refine wp_scope_straight (wp_mono (h Z z pl a w r b) λe a' w' hh=>?_);obtain⟨s',Qj,h1,h2,h3⟩:=hh;cases e with
 | goto l=>exact h1.elim
 | normal=>exact⟨s',Qj,h1,h2,h3⟩
 | exit j=>exact⟨s',Qj,h1,h2,h3⟩
 | ret=>exact⟨s',Qj,h1,h2,h3⟩
 | panic ch=>exact⟨s',Qj,h1,h2,h3⟩
 | outgrown=>exact⟨s',Qj,h1,h2,h3⟩
def Qll{c}{k}{s}(h:Qw P base nt w0 Q (.code c::.inScope::k) .normal s):Qw P base nt w0 Q (.code (.scope c)::k) .normal s:=by
 simp only[Qw]at h ⊢;refine Qlk (h.mono λe s' he=>?_);cases e<;>exact he
def Yv{a b}{k}{s}(h:Qw P base nt w0 Q (.code a::.code b::k) .normal s):Qw P base nt w0 Q (.code (.seq a b)::k) .normal s:=by
 simp only[Qw]at h ⊢;refine Qli (h.mono λe s' he=>?_);cases e<;>exact he
def Qlm{id}{c}{k}{s}(h:Qw P base nt w0 Q (.code c::.inBlock id::k) .normal s):Qw P base nt w0 Q (.code (.block id c)::k) .normal s:=by
 simp only[Qw]at h ⊢;refine Qlj (h.mono λe s' he=>?_);cases e<;>exact he
def Qln{c}{x y}{k}{s:St}{t}(hc:Qr s.fr c=.raw (.bool t))(h1:t=true->Qw P base nt w0 Q (.code x::k) .normal s)(h2:t=false->Qw P base nt w0 Q (.code y::k) .normal s):
  Qw P base nt w0 Q (.code (.cond c x y)::k) .normal s:=by
 simp only[Qw]at h1 h2 ⊢;intro Z z pl a w r b;have he:=r.eval c;rw[hc]at he;have:=Z9 he;cases t
 ·exact wp_cond_false this (h2 rfl Z z pl a w r b)
 ·exact wp_cond_true this (h1 rfl Z z pl a w r b)
def Og{id}:∀{k k':List Item} {s:St},zd id k=some k'->Qw P base nt w0 Q k' .normal s->Qw P base nt w0 Q k (.exit id) s
 | [],k',s,h,_=>by simp[zd]at h
 | .code c::k,k',s,h,hk=>by simp only[zd]at h;simp only[Qw];exact Og h hk
 | .ops c::k,k',s,h,hk=>by simp only[zd]at h;simp only[Qw];exact Og h hk
 | .inScope::k,k',s,h,hk=>by simp only[zd]at h;simp only[Qw];exact Og h hk
 | .inBlock j::k,k',s,h,hk=>by
  simp only[zd]at h;simp only[Qw];by_cases hj:id=j
  ·subst hj;simp at h;subst h;rw[Qg rfl];exact hk
  ·have:Nat.beq id j=false:=by rw[<- W3,Vz];exact hj
   rw[this]at h;rw[Qd hj];exact Og h hk
def Oh{id}:∀{k:List Item} {s:St},zd id k=none->Q (.exit id) s->Qw P base nt w0 Q k (.exit id) s
 | [],s,_,hq=>hq
 | .code c::k,s,h,hq=>by simp only[zd]at h;simp only[Qw];exact Oh h hq
 | .ops c::k,s,h,hq=>by simp only[zd]at h;simp only[Qw];exact Oh h hq
 | .inScope::k,s,h,hq=>by simp only[zd]at h;simp only[Qw];exact Oh h hq
 | .inBlock j::k,s,h,hq=>by
  simp only[zd]at h;simp only[Qw];by_cases hj:id=j
  ·subst hj;simp at h
  ·have:Nat.beq id j=false:=by rw[<- W3,Vz];exact hj
   rw[this]at h;rw[Qd hj];exact Oh h hq
def Oi:∀{k:List Item} {s:St},Q .ret s->Qw P base nt w0 Q k .ret s
 | [],_,hq=>hq
 | .code _::_,_,hq=>by simp only[Qw];exact Oi hq
 | .ops _::_,_,hq=>by simp only[Qw];exact Oi hq
 | .inBlock _::_,_,hq=>by simp only[Qw];exact Oi hq
 | .inScope::_,_,hq=>by simp only[Qw];exact Oi hq
def jf{t}(h:Zr nt (some t)=true):t<nt:=by simpa[Zr,kN] using h
def Rel.skip{s:St}{pl}{a:Act}{w}(r:Rel Z base nt s pl a w){t}(ht:Zr nt t=true):Rel Z base nt ⟨Zj s.fr t (.raw Go.undef),s.h⟩ pl (a.put t Go.undef) w:=by
 cases t with
 | none=>exact r
 | some t=>exact r.to (Tr.ext r.o λ_ _=>rfl) r.o (jf ht) (.cl _ _ (.raw _))
def eU{o:Oper}{rest}{s:St}{d}(h:VJ P base nt o s d)(ht:Zr nt o.dst=true)(hk:AG P base nt w0 rest Q ⟨Zj s.fr o.dst d,s.h⟩):AG P base nt w0 ((o,none)::rest) Q s:=by
 intro Z z pl a w r b;obtain⟨v,hv,Q5⟩:=h Z pl a w r;simp only[X3,WG,K6];unfold Oper.wp;rw[Q5 w λ_ _=>rfl];simp only[Oper.upon_value];refine hk Z z pl _ w ?_ b;cases hd:o.dst with
 | none=>exact r
 | some t=>rw[hd]at ht;exact r.to (Tr.ext r.o λ_ _=>rfl) r.o (jf ht) hv
def TA(QX:base<=w0.w.heap.size){o:Oper}{rest}{s:St}{h'}{d}(h:q7 P base nt o s h' d)(ht:Zr nt o.dst=true)(hk:AG P base nt w0 rest Q ⟨Zj s.fr o.dst d,h'⟩):AG P base nt w0 ((o,none)::rest) Q s:=by
 intro Z z pl a w r b;obtain⟨v,w',Qj,Q5,hT,hO,hv,hb,_⟩:=h Z pl a w r (Kz QX b.1.size);have fin:∀u,u=v->Rel Z base nt ⟨Zj s.fr o.dst d,h'⟩ Qj (a.put o.dst u) w':=by
  rintro u rfl;cases hd:o.dst with
  | none=>exact r.xo hT hO u
  | some t=>rw[hd]at ht;exact r.to hT hO (jf ht) hv
 simp only[X3,WG,K6];unfold Oper.wp;rcases Q5 with Q5|⟨Q5,hu⟩
 ·rw[Q5];simp only[Oper.upon_value];exact hk Z z Qj _ w' (fin v rfl) (b.step hT hb)
 ·rw[Q5];simp only[Oper.upon_skip];exact hk Z z Qj _ w' (fin _ hu.symm) (b.step hT hb)
def eV{tmps:Array Value}{t}{b}(h:tmps.getD t Go.undef=.bool b):IU tmps t=some b:=by
 unfold IU;rw[vP]at h;cases hh:tmps[t]? with
 | none=>rw[hh]at h;simp[Go.undef]at h
 | some v=>rw[hh]at h;simp at h;rw[h]
def eW{tmps:Array Value}{t}{vs}(h:tmps.getD t Go.undef=.tuple vs):IU tmps t=none:=by
 unfold IU;rw[vP]at h;cases hh:tmps[t]? with
 | none=>rfl
 | some v=>rw[hh]at h;simp at h;rw[h]
def Rel.tell{s:St}{pl}{a:Act}{w}(r:Rel Z base nt s pl a w){t}{d}(hd:QA Z s.h pl w d (a.tmps.getD t Go.undef)):Rel Z base nt ⟨put s.fr t d,s.h⟩ pl a w:=
 ⟨r.nt,r.defers,λu=>by
  rw[Ek];by_cases h:u=t
  ·subst h;rw[Qg rfl];exact hd
  ·rw[Qd h];exact r.fr u,r.o⟩
def Qlo{o:Oper}{rest}{s:St}{t}{b x}(hx:get s.fr t=.raw (.bool x))(ht:Zr nt o.dst=true\/x=b)
  (h1:x=b->AG P base nt w0 ((o,none)::rest) Q ⟨put s.fr t (.raw (.bool b)),s.h⟩) (h2:x=(!b)->AG P base nt w0 rest Q ⟨Zj (put s.fr t (.raw (.bool (!b)))) o.dst (.raw Go.undef),s.h⟩):AG P base nt w0 ((o,some (some t,b))::rest) Q s:=by
 intro Z z pl a w r bb;have hr:=r.fr t;rw[hx]at hr;have hv:=Z9 hr;have hb:=eV hv;simp only[X3,WG,hb];by_cases Bh:x=b
 ·have:=h1 Bh Z z pl a w (r.tell (by rw[hv,Bh];exact .cl _ _ (.raw _))) bb;simp only[X3,WG,K6]at this;rw[Qg (by simp[Bh])];exact this
 ·have EJ:x=(!b):=by cases x<;>cases b<;>simp_all
  rw[Qd (by simp[Bh])];have r2:Rel Z base nt ⟨put s.fr t (.raw (.bool (!b))),s.h⟩ pl a w:=r.tell (by rw[hv,EJ];exact .cl _ _ (.raw _));exact h2 EJ Z z pl _ w (r2.skip (ht.resolve_right Bh)) bb
def sg{o:Oper}{rest}{s:St}{g:Option Nat × Bool}(hg:g.1=none\/∃t vs,g.1=some t/\get s.fr t=.raw (.tuple vs))(ht:Zr nt o.dst=true)(h:AG P base nt w0 rest Q ⟨Zj s.fr o.dst (.raw Go.undef),s.h⟩):AG P base nt w0 ((o,some g)::rest) Q s:=by
 intro Z z pl a w r bb;obtain⟨g1,b⟩:=g;have:WG (some (g1,b)) a.tmps=false:=by
  rcases hg with rfl|⟨t,vs,rfl,hx⟩
  ·rfl
  ·have hr:=r.fr t;rw[hx]at hr;simp[WG,eW (Z9 hr)]
 simp only[X3,this,Yn,kQ];exact h Z z pl _ w (r.skip ht) bb
def jg{X}(hX:Y0 P X)(QX:base<=w0.w.heap.size):∀(n:Nat) (k:List Item) (s:St),(exec X nt n k s).holds P base nt w0 Q->Qw P base nt w0 Q k .normal s
 | 0,k,s,h=>by cases k<;>exact h
 | n+1,[],s,h=>h
 | n+1,.inBlock id::k,s,h=>by
  simp only[exec]at h;simp only[Qw];exact jg hX QX n k s h
 | n+1,.inScope::k,s,h=>by
  simp only[exec]at h;simp only[Qw];exact jg hX QX n k s h
 | n+1,.code c::k,s,h=>by
  cases c with
  | skip=>simp only[exec]at h;have:=jg hX QX n k s h;simp only[Qw];exact λZ z pl a w r b=>wp_skip ⟨s,pl,this,r,b⟩
  | label l=>simp only[exec]at h;have:=jg hX QX n k s h;simp only[Qw];exact λZ z pl a w r b=>wp_label ⟨s,pl,this,r,b⟩
  | seq x y=>simp only[exec]at h;exact Yv (jg hX QX n _ s h)
  | block id c=>simp only[exec]at h;exact Qlm (jg hX QX n _ s h)
  | cond c x y=>
   simp only[exec]at h;split at h
   ·rename_i b hb;exact Qln hb (λe=>jg hX QX n _ s (h.1 e)) (λe=>jg hX QX n _ s (h.2 e))
   ·exact h.elim
  | exit id=>
   simp only[exec]at h;simp only[Qw];split at h
   ·rename_i k' hk;have:=Og hk (jg hX QX n k' s h);exact λZ z pl a w r b=>wp_exit ⟨s,pl,this,r,b⟩
   ·rename_i hk;have:=Oh (P:=P) (base:=base) (nt:=nt) (w0:=w0) hk h;exact λZ z pl a w r b=>wp_exit ⟨s,pl,this,r,b⟩
  | ret=>
   simp only[exec]at h;simp only[Qw];exact λZ z pl a w r b=>wp_ret ⟨s,pl,Oi h,r,b⟩
  | region id ops dr=>
   simp only[exec]at h;cases dr
   ·have:=jg hX QX n _ s h;simp only[Qw]at this ⊢;exact λZ z pl a w r b=>Qlh (this Z z pl a w r b)
   ·exact h
  | loop c=>exact h
  | rangeFunc f ps a b=>exact h
  | scope b=>simp only[exec]at h;exact Qll (jg hX QX n _ s h)
  | goto l=>exact h
  | refuse w=>exact h
 | n+1,.ops []::k,s,h=>by
  simp only[exec]at h;simp only[Qw];have:=jg hX QX n k s h;exact λZ z pl a w r b=>⟨s,pl,this,r,b⟩
 | n+1,.ops ((o,g)::r)::k,s,h=>by
  have pr:∀s',Zr nt o.dst=true\/True->(exec X nt n (.ops r::k) s').holds P base nt w0 Q->AG P base nt w0 r (Qw P base nt w0 Q k) s':=λs' _ hh=>by
   have:=jg hX QX n (.ops r::k) s' hh;simpa only[Qw] using this
  cases g with
  | none=>
   simp only[exec]at h;simp only[Qw];split at h
   ·rename_i p d hp;cases ht:Zr nt o.dst
    ·rw[ht]at h;exact h.elim
    ·rw[ht]at h;exact eU (r9 hX hp h.1) ht (pr _ (.inl ht) h.2)
   ·split at h
    ·rename_i p h' d hp;cases ht:Zr nt o.dst
     ·rw[ht]at h;exact h.elim
     ·rw[ht]at h;exact TA QX (sb hX hp h.1) ht (pr _ (.inl ht) h.2)
    ·simpa only[Tree.holds,Qw] using h
  | some g=>
   obtain⟨g1,b⟩:=g;cases g1 with
   | none=>
    simp only[exec]at h;simp only[Qw];cases ht:Zr nt o.dst
    ·rw[ht]at h;exact h.elim
    ·rw[ht]at h;exact sg (.inl rfl) ht (pr _ (.inl ht) h)
   | some t=>
    simp only[exec]at h;simp only[Qw];split at h
    ·rename_i x hx;simp only[Tree.holds,sf,zY,zX,ne_eq]at h;have h3:=λe=>jg hX QX n _ _ (h.1 e);simp only[Qw]at h3;refine Qlo hx ?_ h3 λe=>?_
     ·by_cases Bh:x=b
      ·exact .inr Bh
      ·have:=h.2 Bh;cases ht:Zr nt o.dst
       ·rw[ht]at this;exact this.elim
       ·exact .inl rfl
     ·have:=h.2 (by rw[e];cases b<;>simp);cases ht:Zr nt o.dst
      ·rw[ht]at this;exact this.elim
      ·rw[ht]at this;exact pr _ (.inl ht) this
    ·rename_i vs hx;cases ht:Zr nt o.dst
     ·rw[ht]at h;exact h.elim
     ·rw[ht]at h;exact sg (.inr ⟨t,_,rfl,hx⟩) ht (pr _ (.inl ht) h)
    ·exact h.elim
end
end Go.Fg
