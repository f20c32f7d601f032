/- Contracts and laws on the way to the statement. No conditions. -/
import Derived.WalkKit
import Derived.WalkLawsBesides
import Derived.WalkSpells
import Derived.ChangeKeysEq
import Derived.Maps.RangeRun
set_option maxRecDepth 100000
set_option maxHeartbeats 16000000
set_option linter.unusedVariables false
set_option linter.unusedSimpArgs false
set_option linter.unusedSectionVars false
set_option linter.defProp false
namespace Go.Fg
open Go.RowKit (Below)
def y6:=@Array.getD_eq_getD_getElem?
def OI:=@Array.getElem!_eq_getD
def OJ:=@Array.getElem?_append_left
def kv:=@Array.getElem?_eq_getElem
def WN:=@Array.getElem?_eq_some_iff
def pI:=@Array.getElem?_modify
def dV:=@Array.getElem?_push
def A7:=@Array.getElem?_setIfInBounds
def pJ:=@Array.getElem?_setIfInBounds_ne
def wQ:=@Array.getElem?_toList
def pK:=@Array.getElem_setIfInBounds
def Me:=@Bool.and_eq_false_iff
def Z9:=@Bool.and_eq_true
def jK:=@Bool.eq_false_iff
def kx:=@Bool.eq_iff_iff
def Mf:=@Bool.false_and
def qa:=@Bool.false_eq_true
def ky:=@Bool.false_ne_true
def OK:=@Bool.false_or
def qb:=@Bool.not_eq_true
def jL:=@Bool.not_eq_true'
def Hx:=@Bool.not_false
def FI:=@Bool.not_true
def Hy:=@Bool.or_eq_false_iff
def Cr:=@Bool.or_eq_true
def Mg:=@Bool.true_and
def jM:=@Classical.byContradiction
def OL:=@Classical.not_forall
def dW:=@Function.comp_def
def OM:=@Int.natCast_mul
def Ea:=@Int.toNat_of_nonneg
def ON:=@List.Pairwise.filter
def OO:=@List.Perm.refl
def X6:=@List.all_eq_true
def Eb:=@List.any_eq_true
def WC:=@List.append_assoc
def dX:=@List.append_inj
def QU:=@List.append_nil
def xR:=@List.cons.inj
def Mh:=@List.cons.injEq
def qJ:=@List.cons_append
def Tl:=@List.drop_eq_getElem_cons
def dY:=@List.drop_eq_nil_of_le
def pL:=@List.eq_nil_iff_forall_not_mem
def A9:=@List.ext_getElem?
def Tn:=@List.filter_append
def dZ:=@List.filter_congr
def xS:=@List.filter_cons
def Tp:=@List.filter_cons_of_neg
def Tq:=@List.filter_cons_of_pos
def y7:=@List.filter_eq_self
def Tt:=@List.filter_map
def wR:=@List.find?_cons
def vE:=@List.find?_eq_none
def y8:=@List.find?_some
def Mi:=@List.findIdx?_eq_none_iff
def Hz:=@List.findIdx?_eq_some_iff_getElem
def kz:=@List.foldl_append
def Ba:=@List.foldl_cons
def Ze:=@List.getD_eq_getElem?_getD
def JD:=@List.getElem?_append_left
def Kf:=@List.getElem?_append_right
def HA:=@List.getElem?_drop
def QW:=@List.getElem?_eq_getElem
def Cs:=@List.getElem?_eq_none
def Xd:=@List.getElem?_eq_some_iff
def KG:=@List.getElem?_map
def HB:=@List.getElem?_of_mem
def eh:=@List.getElem?_range
def JJ:=@List.getElem?_set_ne
def Wm:=@List.getElem?_set_self
def Yq:=@List.getElem?_take
def qK:=@List.getElem_mem
def y9:=@List.getElem_of_mem
def Zj:=@List.length_append
def Vh:=@List.length_cons
def Mj:=@List.length_eq_zero_iff
def qL:=@List.length_filter_le
def Kl:=@List.length_map
def KD:=@List.length_set
def jf:=@List.length_singleton
def FL:=@List.length_take
def jN:=@List.map_append
def Ec:=@List.map_congr_left
def J7:=@List.map_cons
def xT:=@List.map_map
def Q9:=@List.mem_append
def ez:=@List.mem_append_left
def OP:=@List.mem_append_right
def QM:=@List.mem_cons
def KI:=@List.mem_cons_of_mem
def Vn:=@List.mem_cons_self
def J8:=@List.mem_filter
def Jk:=@List.mem_map
def wS:=@List.mem_of_find?_eq_some
def OQ:=@List.mem_of_getElem?
def Tu:=@List.mem_range
def zn:=@List.mem_singleton
def zo:=@List.nil_append
def Km:=@List.nodup_append
def Jf:=@List.nodup_cons
def Tv:=@List.nodup_iff_pairwise_ne
def eF:=@List.pairwise_append
def Ct:=@List.pairwise_cons
def Ml:=@List.pairwise_map
def eG:=@List.replicate_succ
def eI:=@List.set_append_left
def OR:=@List.set_append_right
def JS:=@List.set_set
def HC:=@List.size_toArray
def eJ:=@List.takeWhile_cons
def eK:=@List.takeWhile_sublist
def Ed:=@List.take_add_one
def HE:=@List.take_append_drop
def YO:=@List.take_length
def VL:=@Nat.add_mul
def OS:=@Nat.add_sub_cancel
def eL:=@Nat.add_sub_cancel_left
def FM:=@Nat.add_zero
def eM:=@Nat.and_lt_two_pow
def Wp:=@Nat.beq_eq
def OT:=@Nat.beq_refl
def Mm:=@Nat.ble_eq
def xU:=@Nat.blt_eq
def eN:=@Nat.div_add_mod
def eO:=@Nat.div_le_self
def eP:=@Nat.div_mod_unique
def Tz:=@Nat.eq_of_beq_eq_true
def OU:=@Nat.le_of_ble_eq_true
def QB:=@Nat.le_refl
def KZ:=@Nat.le_trans
def YP:=@Nat.lt_irrefl
def TB:=@Nat.lt_of_le_of_lt
def wU:=@Nat.lt_of_lt_of_le
def Bb:=@Nat.lt_or_ge
def qc:=@Nat.lt_succ_iff_lt_or_eq
def Bc:=@Nat.lt_succ_self
def Qau:=@Nat.min_eq_left
def Cu:=@Nat.mod_eq_of_lt
def qM:=@Nat.mod_lt
def TC:=@Nat.mul_assoc
def OV:=@Nat.mul_comm
def vF:=@Nat.mul_le_mul
def qN:=@Nat.mul_le_mul_right
def Vw:=@Nat.not_lt_zero
def FN:=@Nat.shiftRight_eq_div_pow
def Ee:=@Nat.sub_self
def HF:=@Nat.sub_zero
def eQ:=@Nat.two_pow_pos
def TE:=@Nat.xor_lt_two_pow
def JV:=@Nat.zero_add
def Z7:=@Nat.zero_le
def xV:=@Nat.zero_lt_succ
def Q8:=@Ne.symm
def eU:=@Option.bind_some
def OX:=@Option.getD_none
def KA:=@Option.getD_some
def FO:=@Option.isSome_iff_exists
def xW:=@Option.isSome_none
def wV:=@Option.isSome_some
def pM:=@Option.map_eq_none_iff
def Xv:=@Option.map_eq_some_iff
def TF:=@Option.map_map
def zq:=@Option.map_none
def K0:=@Option.map_some
def FP:=@Option.some.inj
def Za:=@Option.some.injEq
def Zp:=@Prod.mk.injEq
def jO:=@beq_eq_false_iff_ne
def vG:=@beq_iff_eq
def Aa:=@beq_self_eq_true
def Xw:=@cond_false
def Yr:=@cond_true
def QN:=@decide_eq_false
def TG:=@decide_eq_false_iff_not
def Q5:=@decide_eq_true
def XM:=@decide_eq_true_eq
def jP:=@if_false
def Qd:=@if_neg
def Qf:=@if_pos
def K6:=@if_true
def FR:=@not_exists
def zw:=@not_or
def Ef:=@of_decide_eq_false
def Wc:=@of_decide_eq_true
def Bd:=@true_and
inductive D where
 | raw (v:Value)
 | nil
 | undef
 | imm (sz n:Nat) (row:Nat->List D)
 | ip (cells:List D)
 | ref (l g off len:Nat)
 | ptr (l g i j:Nat)
 | mref (l g:Nat)
 | clo (f:FuncId) (first:Nat) (QI:List D)
 | agg (cs:List D)
 | tup (cs:List D)
def nth(cs:List D)(i:Nat):D:=cs.getD i .undef
def Zb(vs:List Value)(i:Nat):Value:=vs.getD i Go.undef
inductive Kd where
 | one
 | arr
 | map
 | iter
 | Wn
 | Be
 | HH
 | Qec
def Kd.Mp:Kd->Bool
 | .one=>true
 | .Wn=>true
 | _=>false
def Kd.ty:Kd->Nat
 | .one=>0
 | .arr=>0
 | .map=>1
 | .iter=>2
 | .Wn=>0
 | .Be=>0
 | .HH=>1
 | .Qec=>2
def Kd.ro:Kd->Bool
 | .one=>false
 | .arr=>false
 | .map=>false
 | .iter=>false
 | _=>true
def Kd.toRo:Kd->Kd
 | .one=>.Wn
 | .arr=>.Be
 | .map=>.HH
 | .iter=>.Qec
 | k=>k
def Kd.toRo_ty(k:Kd):k.toRo.ty=k.ty:=by cases k<;>rfl
def Kd.toRo_ro(k:Kd):k.toRo.ro=true:=by cases k<;>rfl
def TH:Nat->Nat->Value
 | 1,b=>.map (some b)
 | _,b=>.pointer (some ⟨b,0,none⟩)
def MOk(t b:Nat)(v:Value):Prop:=t≠0/\v=TH t b
structure Ob where
 kd:Kd
 gen:Nat
 sz:Nat
 n:Nat
 row:Nat->List D
abbrev Pl:=Option (Nat × Nat)
def XN(pl:List Pl)(b:Nat):Prop:=∀l q:Nat,pl[l]?≠some (some (b,q))
def free(Z:Nat->Prop)(pl:List Pl)(b:Nat):Prop:=Z b/\XN pl b
variable {Z:Nat->Prop}
inductive Cl (N:Nat->Prop) (w:World):D->Value->Prop
 | raw (v:Value):Cl N w (.raw v) v
 | undef (v:Value):Cl N w .undef v
 | nil (a:Option Addr):Cl N w .nil (.slice a 0 0)
 | imm (sz n:Nat) (row:Nat->List D) (a:Option Addr) (cap b o:Nat) (vs:Nat->Nat->Value)
   (ha:0<n->a=some ⟨b,o,none⟩) (hl:n<=cap) (hs:∀i,i<n->(row i).length=sz)
   (hc:∀i j,i<n->j<sz->N b/\w.cell? ⟨b,o+(i*sz+j),none⟩=some (vs i j))
   (hr:∀i j,i<n->j<sz->Cl N w (nth (row i) j) (vs i j)):Cl N w (.imm sz n row) (.slice a n cap)
 | ip (cells:List D) (b o:Nat) (vs:Nat->Value)
   (hc:∀j,j<cells.length->N b/\w.cell? ⟨b,o+j,none⟩=some (vs j))
   (hr:∀j,j<cells.length->Cl N w (nth cells j) (vs j)):Cl N w (.ip cells) (.pointer (some ⟨b,o,none⟩))
 | clo (f:FuncId) (nf:Nat) (cs:List D) (vs:List Value) (hl:vs.length=cs.length) (hr:∀i,i<cs.length->Cl N w (nth cs i) (Zb vs i)):Cl N w (.clo f nf cs) (.func (.func f) (vs.take nf).toArray (vs.drop nf).toArray)
 | agg (cs:List D) (vs:List Value) (hl:vs.length=cs.length) (hr:∀i,i<cs.length->Cl N w (nth cs i) (Zb vs i)):Cl N w (.agg cs) (.agg vs.toArray)
 | tup (cs:List D) (vs:List Value) (hl:vs.length=cs.length) (hr:∀i,i<cs.length->Cl N w (nth cs i) (Zb vs i)):Cl N w (.tup cs) (.tuple vs.toArray)
def Cl.mono{N N'}{w w'}{d}{v}(h:Cl N w d v)
  (hk:∀b,N b->b<w.heap.size->N' b/\w'.heap[b]? = w.heap[b]?):Cl N' w' d v:=by
 have key:∀(b o:Nat) (u:Value),N b/\w.cell? ⟨b,o,none⟩=some u->N' b/\w'.cell? ⟨b,o,none⟩=some u:=by
  rintro b o u ⟨hn,hc⟩;obtain⟨h1,h2⟩:=hk b hn (block_lt_of_cell hc);exact⟨h1,by rw[World.cell?_of_block (w:=w) (a:=⟨b,o,none⟩) h2];exact hc⟩
 induction h with
 | raw v=>exact .raw v
 | undef v=>exact .undef v
 | nil a=>exact .nil a
 | imm sz n row a cap b o vs ha hl hs hc hr ih=>exact .imm sz n row a cap b o vs ha hl hs (λi j hi hj=>key _ _ _ (hc i j hi hj)) ih
 | ip cells b o vs hc hr ih=>exact .ip cells b o vs (λj hj=>key _ _ _ (hc j hj)) ih
 | clo f nf cs vs hl hr ih=>exact .clo f nf cs vs hl ih
 | agg cs vs hl hr ih=>exact .agg cs vs hl ih
 | tup cs vs hl hr ih=>exact .tup cs vs hl ih
def Qee(w:World)(sz:Nat)(p:Pl)(off len:Nat)(a:Option Addr)(cap:Nat):Prop:=
 (len=0/\cap=0)\/∃b q c el,p=some (b,q)/\a=some ⟨b,q+off*sz,none⟩/\w.heap[b]? = some (.cells c el (0,0))/\q+(off+cap)*sz<=c.size/\len<=cap
inductive QE (Z:Nat->Prop) (h:List Ob) (pl:List Pl) (w:World):D->Value->Prop
 | cl (d:D) (v:Value) (hc:Cl (free Z pl) w d v):QE Z h pl w d v
 | ref (l g off len:Nat) (o:Ob) (p:Pl) (a:Option Addr) (cap:Nat) (ho:h[l]? = some o) (hp:pl[l]? = some p) (hk:o.kd.ty=0) (hg:g<=o.gen)
   (hs:g=o.gen->Qee w o.sz p off len a cap):QE Z h pl w (.ref l g off len) (.slice a len cap)
 | ptr (l g i j:Nat) (o:Ob) (p:Pl) (a:Addr) (ho:h[l]? = some o) (hp:pl[l]? = some p) (hk:o.kd.ty=0) (hg:g<=o.gen)
   (hs:g=o.gen->∃b q,p=some (b,q)/\a=⟨b,q+(i*o.sz+j),none⟩):QE Z h pl w (.ptr l g i j) (.pointer (some a))
 | mref (l g:Nat) {v:Value} (o:Ob) (p:Pl) (b:Nat) (ho:h[l]? = some o) (hp:pl[l]? = some p) (hk:MOk o.kd.ty b v) (hg:g<=o.gen)
   (hs:g=o.gen->p=some (b,0)):QE Z h pl w (.mref l g) v
 | clo (f:FuncId) (nf:Nat) (cs:List D) (vs:List Value) (hl:vs.length=cs.length) (hr:∀i,i<cs.length->QE Z h pl w (nth cs i) (Zb vs i)):QE Z h pl w (.clo f nf cs) (.func (.func f) (vs.take nf).toArray (vs.drop nf).toArray)
 | agg (cs:List D) (vs:List Value) (hl:vs.length=cs.length) (hr:∀i,i<cs.length->QE Z h pl w (nth cs i) (Zb vs i)):QE Z h pl w (.agg cs) (.agg vs.toArray)
 | tup (cs:List D) (vs:List Value) (hl:vs.length=cs.length) (hr:∀i,i<cs.length->QE Z h pl w (nth cs i) (Zb vs i)):QE Z h pl w (.tup cs) (.tuple vs.toArray)
structure Tr (h:List Ob) (pl:List Pl) (w:World) (h':List Ob) (Qm:List Pl) (w':World):Prop where
 KE:∀b,XN pl b->b<w.heap.size->XN Qm b/\w'.heap[b]? = w.heap[b]?
 obj:∀(l:Nat) (o:Ob) (p:Pl),h[l]? = some o->pl[l]? = some p->∃o' p',h'[l]? = some o'/\Qm[l]? = some p'/\o.gen<=o'.gen/\o'.kd.ty=o.kd.ty/\(o'.gen=o.gen->o'.sz=o.sz/\p'=p)
 shape:∀(l:Nat) (o o':Ob) (b q:Nat),h[l]? = some o->h'[l]? = some o'->o'.gen=o.gen->pl[l]? = some (some (b,q))->∀c el,w.heap[b]? = some (.cells c el (0,0)) ->
  ∃c',w'.heap[b]? = some (.cells c' el (0,0))/\c'.size=c.size
def Tr.Qo0{h}{pl}{w:World}{h'}{Qm}{w':World}(T:Tr h pl w h' Qm w'){b}(hf:free Z pl b)(hb:b<w.heap.size):free Z Qm b/\w'.heap[b]? = w.heap[b]? :=
 ⟨⟨hf.1,(T.KE b hf.2 hb).1⟩,(T.KE b hf.2 hb).2⟩
def QE.tr{h}{pl}{w}{h'}{Qm}{w'}(T:Tr h pl w h' Qm w'){d}{v}(r:QE Z h pl w d v):QE Z h' Qm w' d v:=by
 induction r with
 | cl d v hc=>exact .cl d v (hc.mono λb hb Qc=>T.Qo0 hb Qc)
 | ref l g off len o p a cap ho hp hk hg hs=>
  obtain⟨o',p',ZT,Jl,vH,ZE,he⟩:=T.obj l o p ho hp;refine .ref l g off len o' p' a cap ZT Jl (by rw[ZE,hk]) (KZ hg vH) λAb=>?_;have e1:o'.gen=o.gen:=by omega
  obtain⟨e2,e3⟩:=he e1;rcases hs (by omega) with h1|⟨b,q,c,el,WD,ha,hb,hc,hl⟩
  ·exact .inl h1
  ·obtain⟨c',KR,hc'⟩:=T.shape l o o' b q ho ZT e1 (by rw[hp,WD]) c el hb;exact .inr ⟨b,q,c',el,by rw[e3,WD],by rw[e2];exact ha,KR,by rw[e2,hc'];exact hc,hl⟩
 | ptr l g i j o p a ho hp hk hg hs=>
  obtain⟨o',p',ZT,Jl,vH,ZE,he⟩:=T.obj l o p ho hp;refine .ptr l g i j o' p' a ZT Jl (by rw[ZE,hk]) (KZ hg vH) λAb=>?_;have e1:o'.gen=o.gen:=by omega
  obtain⟨e2,e3⟩:=he e1;obtain⟨b,q,WD,ha⟩:=hs (by omega);exact⟨b,q,by rw[e3,WD],by rw[e2];exact ha⟩
 | mref l g o p b ho hp hk hg hs=>
  obtain⟨o',p',ZT,Jl,vH,ZE,he⟩:=T.obj l o p ho hp;refine .mref l g o' p' b ZT Jl (by rw[ZE];exact hk) (KZ hg vH) λAb=>?_;have e1:o'.gen=o.gen:=by omega
  obtain⟨e2,e3⟩:=he e1;rw[e3];exact hs (by omega)
 | clo f nf cs vs hl hr ih=>exact .clo f nf cs vs hl ih
 | agg cs vs hl hr ih=>exact .agg cs vs hl ih
 | tup cs vs hl hr ih=>exact .tup cs vs hl ih
def OY(Z:Nat->Prop)(h:List Ob)(pl:List Pl)(w:World)(o:Ob)(b q:Nat):Prop:=
 ∃c el,w.heap[b]? = some (.cells c el (0,0))/\q+o.n*o.sz<=c.size/\(∀i,i<o.n->(o.row i).length=o.sz) /\
  ∀i j,i<o.n->j<o.sz->∃v,c[q+(i*o.sz+j)]? = some v/\QE Z h pl w (nth (o.row i) j) v
def eV(Z:Nat->Prop)(h:List Ob)(pl:List Pl)(w:World)(o:Ob)(b q:Nat):Prop:=
 q=0/\o.sz=3/\∃(es:Array MapEntry) (clock:Nat),w.heap[b]? = some (.map es clock)/\o.n=es.size+1/\(∀i,i<o.n->(o.row i).length=3) /\
  QE Z h pl w (nth (o.row 0) 0) (.int .i64 clock) /\
  (∀(i:Nat) (e:MapEntry),es[i]? = some e->e.born<clock/\QE Z h pl w (nth (o.row (i+1)) 0) e.key/\QE Z h pl w (nth (o.row (i+1)) 1) e.val/\QE Z h pl w (nth (o.row (i+1)) 2) (.int .i64 e.born)) /\
  ∀(i j:Nat) (e e':MapEntry),i<j->es[i]? = some e->es[j]? = some e'->e.born<e'.born
def pN(Z:Nat->Prop)(h:List Ob)(pl:List Pl)(w:World)(o:Ob)(b q:Nat):Prop:=
 q=0/\o.sz=1/\∃(m since last:Nat) (seen:Array Nat),w.heap[b]? = some (.mapIter (some m) since seen last)/\o.n=seen.size+3/\(∀i,i<o.n->(o.row i).length=1) /\
  QE Z h pl w (nth (o.row 0) 0) (.map (some m))/\QE Z h pl w (nth (o.row 1) 0) (.int .i64 since)/\QE Z h pl w (nth (o.row 2) 0) (.int .i64 last) /\
  ∀(i s:Nat),seen[i]? = some s->QE Z h pl w (nth (o.row (i+3)) 0) (.int .i64 s)
def KF(Z:Nat->Prop)(h:List Ob)(pl:List Pl)(w:World)(o:Ob)(b q:Nat):Prop:=match o.kd.ty with
 | 0=>OY Z h pl w o b q
 | 1=>eV Z h pl w o b q
 | _=>pN Z h pl w o b q
def KF.cells{h}{pl}{w}{o:Ob}{b q}(hk:o.kd.ty=0)(x:KF Z h pl w o b q):OY Z h pl w o b q:=by
 unfold KF at x;rw[hk]at x;exact x
def KF.map{h}{pl}{w}{o:Ob}{b q}(hk:o.kd.ty=1)(x:KF Z h pl w o b q):eV Z h pl w o b q:=by
 unfold KF at x;rw[hk]at x;exact x
def KF.iter{h}{pl}{w}{o:Ob}{b q}(hk:o.kd.ty=2)(x:KF Z h pl w o b q):pN Z h pl w o b q:=by
 unfold KF at x;rw[hk]at x;exact x
def KF.Mq{h}{pl}{w}{o:Ob}{b q}(hk:o.kd.ty=0)(x:OY Z h pl w o b q):KF Z h pl w o b q:=by
 unfold KF;rw[hk];exact x
def KF.ofMap{h}{pl}{w}{o:Ob}{b q}(hk:o.kd.ty=1)(x:eV Z h pl w o b q):KF Z h pl w o b q:=by
 unfold KF;rw[hk];exact x
def KF.Qef{h}{pl}{w}{o:Ob}{b q}(hk:o.kd.ty=2)(x:pN Z h pl w o b q):KF Z h pl w o b q:=by
 unfold KF;rw[hk];exact x
def Kd.cases(k:Kd):k.ty=0\/k.ty=1\/k.ty=2:=by cases k<;>simp[Kd.ty]
def KF.lt{h}{pl}{w:World}{o}{b q}(x:KF Z h pl w o b q):b<w.heap.size:=by
 rcases o.kd.cases with hk|hk|hk
 ·obtain⟨c,el,hc,_⟩:=x.cells hk;exact(WN.1 hc).1
 ·obtain⟨_,_,c,el,hc,_⟩:=x.map hk;exact(WN.1 hc).1
 ·obtain⟨_,_,m,s,l,sn,hc,_⟩:=x.iter hk;exact(WN.1 hc).1
def KF.len{h}{pl}{w}{o:Ob}{b q}(x:KF Z h pl w o b q){i:Nat}(hi:i<o.n):(o.row i).length=o.sz:=by
 rcases o.kd.cases with hk|hk|hk
 ·obtain⟨c,el,_,_,h1,_⟩:=x.cells hk;exact h1 i hi
 ·obtain⟨_,hz,c,el,_,_,h1,_⟩:=x.map hk;rw[h1 i hi,hz]
 ·obtain⟨_,hz,m,s,l,sn,_,_,h1,_⟩:=x.iter hk;rw[h1 i hi,hz]
def KF.to{Z'}{h h'}{pl Qm}{w w'}{o o':Ob}{b q}(x:KF Z h pl w o b q)(hk:o'.kd.ty=o.kd.ty)(hz:o'.sz=o.sz)(hn:o'.n=o.n)
  (hb:w'.heap[b]? = w.heap[b]?) (hl:∀i,i<o.n->(o'.row i).length=(o.row i).length)
  (hr:∀i j v,i<o.n->j<(o.row i).length->QE Z h pl w (nth (o.row i) j) v->QE Z' h' Qm w' (nth (o'.row i) j) v):KF Z' h' Qm w' o' b q:=by
 rcases o.kd.cases with hm|hm|hm
 ·obtain⟨c,el,h1,h2,h3,h4⟩:=x.cells hm;refine KF.Mq (by rw[hk,hm]) ⟨c,el,by rw[hb];exact h1,by rw[hn,hz];exact h2,λi hi=>?_,λi j hi hj=>?_⟩
  ·rw[hn]at hi;rw[hl i hi,h3 i hi,hz]
  ·rw[hn]at hi;rw[hz]at hj;obtain⟨v,hv,Bf⟩:=h4 i j hi hj;exact⟨v,by rw[hz];exact hv,hr i j v hi (by rw[h3 i hi];exact hj) Bf⟩
 ·obtain⟨h0,pO,es,ck,h1,h2,h3,h4,h5,h6⟩:=x.map hm;have up:∀i j v,i<o.n->j<3->QE Z h pl w (nth (o.row i) j) v->QE Z' h' Qm w' (nth (o'.row i) j) v:=λi j v hi hj r=>hr i j v hi (by rw[h3 i hi];exact hj) r;refine KF.ofMap (by rw[hk,hm]) ⟨h0,by rw[hz];exact pO,es,ck,by rw[hb];exact h1,by rw[hn];exact h2,λi hi=>?_,up 0 0 _ (by omega) (by omega) h4,λi e he=>?_,h6⟩
  ·rw[hn]at hi;rw[hl i hi,h3 i hi]
  ·obtain⟨k1,k2,k3,k4⟩:=h5 i e he;have hi:i+1<o.n:=by have:=(WN.1 he).1;omega
   exact⟨k1,up _ 0 _ hi (by omega) k2,up _ 1 _ hi (by omega) k3,up _ 2 _ hi (by omega) k4⟩
 ·obtain⟨h0,pO,m,since,last,seen,h1,h2,h3,h4,h5,h6,h7⟩:=x.iter hm;have up:∀i v,i<o.n->QE Z h pl w (nth (o.row i) 0) v->QE Z' h' Qm w' (nth (o'.row i) 0) v:=λi v hi r=>hr i 0 v hi (by rw[h3 i hi];omega) r;refine KF.Qef (by rw[hk,hm]) ⟨h0,by rw[hz];exact pO,m,since,last,seen,by rw[hb];exact h1,by rw[hn];exact h2,λi hi=>?_,up 0 _ (by omega) h4,up 1 _ (by omega) h5,up 2 _ (by omega) h6,λi s hs=>?_⟩
  ·rw[hn]at hi;rw[hl i hi,h3 i hi]
  ·exact up _ _ (by have:=(WN.1 hs).1;omega) (h7 i s hs)
structure Zv (Z:Nat->Prop) (base:Nat) (h:List Ob) (pl:List Pl) (w:World):Prop where
 len:pl.length=h.length
 inj:∀(l l':Nat) (b q q':Nat),pl[l]? = some (some (b,q))->pl[l']? = some (some (b,q'))->l=l'
 VM:∀(l:Nat) (o:Ob),h[l]? = some o->pl[l]? = some none->o.n=0
 at_:∀(l:Nat) (o:Ob) (b q:Nat),h[l]? = some o->pl[l]? = some (some (b,q))->(o.kd.ro=false->base<=b)/\KF Z h pl w o b q
structure St where
 fr:List (Nat × D)
 h:List Ob
def get:List (Nat × D)->Nat->D
 | [],_=>.undef
 | (t,d)::r,u=>bif Nat.beq t u then d else get r u
def put:List (Nat × D)->Nat->D->List (Nat × D)
 | [],u,d=>[(u,d)]
 | (t,e)::r,u,d=>bif Nat.beq t u then (u,d)::r else (t,e)::put r u d
structure Rel (Z:Nat->Prop) (base nt:Nat) (s:St) (pl:List Pl) (a:Act) (w:World):Prop where
 nt:a.tmps.size=nt
 defers:a.defers=[]
 fr:∀t,QE Z s.h pl w (get s.fr t) (a.tmps.getD t Go.undef)
 o:Zv Z base s.h pl w
def FT(fr)(u)(d)(t):get (put fr u d) t=if t=u then d else get fr t:=by
 induction fr with
 | nil=>
  simp only[put,get];by_cases h:u=t
  ·subst h;simp
  ·have h1:Nat.beq u t=false:=by rw[<- qb,Wp];exact h
   rw[h1,Qd (Q8 h)];rfl
 | cons x r ih=>
  obtain⟨t',d'⟩:=x;simp only[put];by_cases hb:t'=u
  ·subst hb;simp only[OT,Yr,get];by_cases h:t'=t
   ·subst h;simp
   ·have h1:Nat.beq t' t=false:=by rw[<- qb,Wp];exact h
    rw[h1,Qd (Q8 h)];rfl
  ·have h1:Nat.beq t' u=false:=by rw[<- qb,Wp];exact hb
   rw[h1];simp only[Xw,get];by_cases h:t'=t
   ·subst h;simp[hb]
   ·have h2:Nat.beq t' t=false:=by rw[<- qb,Wp];exact h
    rw[h2];simpa using ih
def Kr{h:List Ob}{l}{o}(e:h[l]? = some o):l<h.length:=(Xd.1 e).1
def Wq{h:List Pl}{l}{o}(e:h[l]? = some o):l<h.length:=(Xd.1 e).1
def vI{w:World}{b}{o}(h:w.heap[b]? = some o):b<w.heap.size:=(WN.1 h).1
def Zv.lt{base:Nat}{h:List Ob}{pl:List Pl}{w:World}(R:Zv Z base h pl w){l b q:Nat}(e:pl[l]? = some (some (b,q))):b<w.heap.size/\∀o,h[l]? = some o->o.kd.ro=false->base<=b:=by
 have hl:l<h.length:=by have:=Wq e;rw[R.len]at this;exact this
 obtain⟨hb,x⟩:=R.at_ l (h[l]) b q (QW hl) e;exact⟨x.lt,λo ho hr=>by rw[QW hl]at ho;cases ho;exact hb hr⟩
def Tr.ext{base}{h}{pl}{w w':World}(R:Zv Z base h pl w)(e:∀b,b<w.heap.size->w'.heap[b]? = w.heap[b]?):Tr h pl w h pl w' where
 KE:=λb hb Qc=>⟨hb,e b Qc⟩
 obj:=λl o p ho hp=>⟨o,p,ho,hp,QB _,rfl,λ_=>⟨rfl,rfl⟩⟩
 shape:=λl o o' b q ho ZT hg hp c el hb=>⟨c,by rw[e b (R.lt hp).1];exact hb,rfl⟩
def Zv.ext{base}{h}{pl}{w w':World}(R:Zv Z base h pl w)(e:∀b,b<w.heap.size->w'.heap[b]? = w.heap[b]?):Zv Z base h pl w' where
 len:=R.len
 inj:=R.inj
 VM:=R.VM
 at_:=λl o b q ho hp=>by
  obtain⟨h1,x⟩:=R.at_ l o b q ho hp;exact⟨h1,x.to rfl rfl rfl (e b (R.lt hp).1) (λ_ _=>rfl) λi j v _ _ hr=>hr.tr (Tr.ext R e)⟩
def Tr.refl(h)(pl)(w):Tr h pl w h pl w where
 KE:=λb hb Qc=>⟨hb,rfl⟩
 obj:=λl o p ho hp=>⟨o,p,ho,hp,QB _,rfl,λ_=>⟨rfl,rfl⟩⟩
 shape:=λl o o' b q ho ZT hg hp c el hb=>⟨c,hb,rfl⟩
def Tr.trans{h h' qO}{pl Qm Mr}{w w' Ms}(T:Tr h pl w h' Qm w')(U:Tr h' Qm w' qO Mr Ms):Tr h pl w qO Mr Ms where
 KE:=λb hb Qc=>by
  obtain⟨h1,h2⟩:=T.KE b hb Qc;have h3:b<w'.heap.size:=by
   rw[kv Qc]at h2;exact(WN.1 h2).1
  obtain⟨h4,h5⟩:=U.KE b h1 h3;exact⟨h4,by rw[h5,h2]⟩
 obj:=λl o p ho hp=>by
  obtain⟨o1,p1,a1,a2,a3,a4,a5⟩:=T.obj l o p ho hp;obtain⟨o2,p2,b1,b2,b3,b4,b5⟩:=U.obj l o1 p1 a1 a2;refine⟨o2,p2,b1,b2,KZ a3 b3,by rw[b4,a4],λe=>?_⟩;obtain⟨x1,x2⟩:=a5 (by omega);obtain⟨y1,y2⟩:=b5 (by omega);exact⟨by rw[y1,x1],by rw[y2,x2]⟩
 shape:=λl o eW b q ho OZ hg hp c el hb=>by
  obtain⟨o1,p1,a1,a2,a3,a4,a5⟩:=T.obj l o _ ho hp;obtain⟨o2,p2,b1,b2,b3,b4,b5⟩:=U.obj l o1 p1 a1 a2;rw[OZ]at b1;cases b1;have e1:o1.gen=o.gen:=by omega
  obtain⟨x1,x2⟩:=a5 e1;subst x2;obtain⟨c1,d1,d2⟩:=T.shape l o o1 b q ho a1 e1 hp c el hb;obtain⟨c2,f1,f2⟩:=U.shape l o1 eW b q a1 OZ (by omega) a2 c1 el d1;exact⟨c2,f1,by omega⟩
def Rel.ext{base nt}{s}{pl}{a}{w w':World}(r:Rel Z base nt s pl a w)(e:∀b,b<w.heap.size->w'.heap[b]? = w.heap[b]?):Rel Z base nt s pl a w':=
 ⟨r.nt,r.defers,λt=>(r.fr t).tr (Tr.ext r.o e),r.o.ext e⟩
def Qo2(tmps:Array Value)(d t)(v:Value)(hd:d<tmps.size):(tmps.setIfInBounds d v).getD t Go.undef=if t=d then v else tmps.getD t Go.undef:=by
 simp only[y6,A7];by_cases h:d=t
 ·subst h;simp[hd]
 ·rw[Qd h,Qd (Q8 h)]
def Rel.to{base nt}{s:St}{pl}{a}{w}(r:Rel Z base nt s pl a w){h'}{Qm}{w'}(T:Tr s.h pl w h' Qm w')(R':Zv Z base h' Qm w')
  {t:Nat} (ht:t<nt) {d:D} {v:Value} (hv:QE Z h' Qm w' d v):Rel Z base nt ⟨put s.fr t d,h'⟩ Qm (a.put (some t) v) w' where
 nt:=by simp[Act.put,r.nt]
 defers:=r.defers
 fr:=λu=>by
  simp only[Act.put];rw[FT,Qo2 _ _ _ _ (by rw[r.nt];exact ht)];by_cases h:u=t
  ·rw[Qf h,Qf h];exact hv
  ·rw[Qd h,Qd h];exact(r.fr u).tr T
 o:=R'
def Rel.Bg{base nt}{s:St}{pl}{a}{w}(r:Rel Z base nt s pl a w){h'}{Qm}{w'}(T:Tr s.h pl w h' Qm w')(R':Zv Z base h' Qm w')
  (v:Value):Rel Z base nt ⟨s.fr,h'⟩ Qm (a.put none v) w':=
 ⟨r.nt,r.defers,λu=>(r.fr u).tr T,R'⟩
def Mt{pl:List Pl}{p:Pl}{b:Nat}(hf:XN pl b)(hp:∀q,p≠some (b,q)):XN (pl++[p]) b:=λl q e=>by
 by_cases hl:l<pl.length
 ·rw[JD hl]at e;exact hf l q e
 ·rw[Kf (by omega)]at e;have:l - pl.length=0:=by
   have:=(Xd.1 e).1;simp at this;exact this
  rw[this]at e;simp at e;exact hp q e
def xX{α:Type}{l:List α}{x y:α}{i:Nat}(e:l[i]? = some x):(l++[y])[i]? = some x:=by
 rw[JD (Xd.1 e).1];exact e
def Xe{α:Type}{l:List α}{x y}{i}(e:(l++[y])[i]? = some x):l[i]? = some x\/(i=l.length/\x=y):=by
 by_cases hl:i<l.length
 ·rw[JD hl]at e;exact .inl e
 ·rw[Kf (by omega)]at e;have h0:=(Xd.1 e).1;simp at h0;have h1:i=l.length:=by omega
  subst h1;simp at e;exact .inr ⟨rfl,e.symm⟩
def xY(w:World)(o:Obj)(b)(h:b<w.heap.size):(w.alloc o).heap[b]? = w.heap[b]? := Below.heap_alloc w o b h
def Tr.push{base:Nat}{h:List Ob}{pl:List Pl}{w w':World}(R:Zv Z base h pl w)(e:∀b,b<w.heap.size->w'.heap[b]? = w.heap[b]?)(ob:Ob)(p:Pl)(hp:∀b q,p=some (b,q)->w.heap.size<=b):Tr h pl w (h++[ob]) (pl++[p]) w' where
 KE:=λb hb Qc=>⟨Mt hb λq hq=>by have:=hp b q hq;omega,e b Qc⟩
 obj:=λl o p ho hp=>⟨o,p,xX ho,xX hp,QB _,rfl,λ_=>⟨rfl,rfl⟩⟩
 shape:=λl o o' b q ho ZT hg hp c el hb=>⟨c,by rw[e b (R.lt hp).1];exact hb,rfl⟩
def Zv.TI{base}{h}{pl}{w w':World}(R:Zv Z base h pl w)(e:∀b,b<w.heap.size->w'.heap[b]? = w.heap[b]?)(ob){b0 q0}(hp:w.heap.size<=b0)(Zd:base<=b0)
  (hx:KF Z (h++[ob]) (pl++[some (b0,q0)]) w' ob b0 q0):Zv Z base (h++[ob]) (pl++[some (b0,q0)]) w':=by
 have T:Tr h pl w (h++[ob]) (pl++[some (b0,q0)]) w':=Tr.push R e ob _ (by intro b q e;simp at e;omega);refine⟨by simp[R.len],?_,?_,?_⟩
 ·intro l l' b q q' e1 e2;rcases Xe e1 with h1|⟨h1,JE⟩<;>rcases Xe e2 with h2|⟨h2,YQ⟩
  ·exact R.inj l l' b q q' h1 h2
  ·have:=(R.lt h1).1;simp at YQ;omega
  ·have:=(R.lt h2).1;simp at JE;omega
  ·omega
 ·intro l o ho e1;rcases Xe e1 with h1|⟨h1,JE⟩
  ·rcases Xe ho with h2|⟨h2,YQ⟩
   ·exact R.VM l o h2 h1
   ·have:=Wq h1;have:=R.len;omega
  ·simp at JE
 ·intro l o b q ho Zk;rcases Xe Zk with h1|⟨h1,JE⟩
  ·rcases Xe ho with h2|⟨h2,YQ⟩
   ·obtain⟨g1,x⟩:=R.at_ l o b q h2 h1;exact⟨g1,x.to rfl rfl rfl (e b (R.lt h1).1) (λ_ _=>rfl) λi j v _ _ hr=>hr.tr T⟩
   ·have:=Wq h1;have:=R.len;omega
  ·rcases Xe ho with h2|⟨h2,YQ⟩
   ·have:=Kr h2;have:=R.len;omega
   ·subst YQ;simp at JE;obtain⟨rfl,rfl⟩:=JE;exact⟨λ_=>Zd,hx⟩
def Zv.push{base}{h}{pl}{w w':World}(R:Zv Z base h pl w)(e:∀b,b<w.heap.size->w'.heap[b]? = w.heap[b]?)(ob:Ob)(hk:ob.kd.ty=0){b0 q0}(hp:w.heap.size<=b0)(Zd:base<=b0)
  {c:Array Value} {el:TypeId} (hb:w'.heap[b0]? = some (.cells c el (0,0))) (JP:q0+ob.n*ob.sz<=c.size) (Ku:∀i,i<ob.n->(ob.row i).length=ob.sz)
  (ZH:∀i j,i<ob.n->j<ob.sz->∃v,c[q0+(i*ob.sz+j)]? = some v/\QE Z (h++[ob]) (pl++[some (b0,q0)]) w' (nth (ob.row i) j) v):Zv Z base (h++[ob]) (pl++[some (b0,q0)]) w':=
 R.TI e ob hp Zd (.Mq hk ⟨c,el,hb,JP,Ku,ZH⟩)
def Zv.Bh{base}{h}{pl}{w}(R:Zv Z base h pl w)(ob:Ob)(hn:ob.n=0):Zv Z base (h++[ob]) (pl++[none]) w:=by
 have T:Tr h pl w (h++[ob]) (pl++[none]) w:=Tr.push R (λ_ _=>rfl) ob _ (by intro b q e;simp at e);refine⟨by simp[R.len],?_,?_,?_⟩
 ·intro l l' b q q' e1 e2;rcases Xe e1 with h1|⟨h1,JE⟩
  ·rcases Xe e2 with h2|⟨h2,YQ⟩
   ·exact R.inj l l' b q q' h1 h2
   ·simp at YQ
  ·simp at JE
 ·intro l o ho e1;rcases Xe ho with h2|⟨h2,YQ⟩
  ·rcases Xe e1 with h1|⟨h1,JE⟩
   ·exact R.VM l o h2 h1
   ·have:=Kr h2;have:=R.len;omega
  ·subst YQ;exact hn
 ·intro l o b q ho Zk;rcases Xe Zk with h1|⟨h1,JE⟩
  ·rcases Xe ho with h2|⟨h2,YQ⟩
   ·obtain⟨g1,x⟩:=R.at_ l o b q h2 h1;exact⟨g1,x.to rfl rfl rfl rfl (λ_ _=>rfl) λi j v _ _ hr=>hr.tr T⟩
   ·have:=Wq h1;have:=R.len;omega
  ·simp at JE
def Tr.QX{base:Nat}{h:List Ob}{pl:List Pl}{w w':World}(R:Zv Z base h pl w){l:Nat}{o o':Ob}{b q:Nat}(ho:h[l]? = some o)(hp:pl[l]? = some (some (b,q)))(Jc:o'.kd.ty=o.kd.ty)(hg:o'.gen=o.gen)(hz:o'.sz=o.sz)
  (e:∀k,k≠b->k<w.heap.size->w'.heap[k]? = w.heap[k]?) (Ks:∀c el,w.heap[b]? = some (.cells c el (0,0))->∃c',w'.heap[b]? = some (.cells c' el (0,0))/\c'.size=c.size):Tr h pl w (h.set l o') pl w' where
 KE:=λk hk Qc=>⟨hk,e k (λhb=>hk l q (by rw[hb];exact hp)) Qc⟩
 obj:=λl' o1 p ZI Ys=>by
  by_cases hl:l=l'
  ·subst hl;rw[ho]at ZI;cases ZI;exact⟨o',p,by simp[Kr ho],Ys,by omega,Jc,λ_=>⟨hz,rfl⟩⟩
  ·exact⟨o1,p,by rw[JJ hl];exact ZI,Ys,QB _,rfl,λ_=>⟨rfl,rfl⟩⟩
 shape:=λl' o1 o2 b1 q1 ZI KJ Ab Ys c el hb=>by
  by_cases hl:b1=b
  ·subst hl;exact Ks c el hb
  ·exact⟨c,by rw[e b1 hl (R.lt Ys).1];exact hb,rfl⟩
def Zv.Qo3{base:Nat}{h:List Ob}{pl:List Pl}{w w':World}(R:Zv Z base h pl w){l:Nat}{o o':Ob}{b q:Nat}(ho:h[l]? = some o)(hp:pl[l]? = some (some (b,q)))
  (T:Tr h pl w (h.set l o') pl w') (e:∀k,k≠b->k<w.heap.size->w'.heap[k]? = w.heap[k]?) (hx:KF Z (h.set l o') pl w' o' b q) (hro:o'.kd.ro=o.kd.ro):Zv Z base (h.set l o') pl w':=by
 refine⟨by simp[R.len],R.inj,?_,?_⟩
 ·intro l' o1 ZI Ys;by_cases hl:l=l'
  ·subst hl;rw[hp]at Ys;cases Ys
  ·rw[JJ hl]at ZI;exact R.VM l' o1 ZI Ys
 ·intro l' o1 b1 q1 ZI Ys;by_cases hl:l=l'
  ·subst hl;rw[hp]at Ys;cases Ys;have:(h.set l o')[l]? = some o':=by simp[Kr ho]
   rw[this]at ZI;cases ZI;exact⟨λhr=>(R.lt hp).2 o ho (by rw[<- hro,hr]),hx⟩
  ·rw[JJ hl]at ZI;obtain⟨g1,x⟩:=R.at_ l' o1 b1 q1 ZI Ys;have Qz:b1≠b:=λBi=>hl (R.inj l l' b q q1 hp (by rw[<- Bi];exact Ys));exact⟨g1,x.to rfl rfl rfl (e b1 Qz (R.lt Ys).1) (λ_ _=>rfl) λi j v _ _ hr=>hr.tr T⟩
def Zv.QX{base:Nat}{h:List Ob}{pl:List Pl}{w w':World}(R:Zv Z base h pl w){l:Nat}{o o':Ob}{b q:Nat}(ho:h[l]? = some o)(hp:pl[l]? = some (some (b,q)))(hk:o.kd.ty=0)(ZE:o'.kd.ty=0)(hg:o'.gen=o.gen)(hz:o'.sz=o.sz)
  (e:∀k,k≠b->k<w.heap.size->w'.heap[k]? = w.heap[k]?) {c0 c:Array Value} {el:TypeId} (ZG:w.heap[b]? = some (.cells c0 el (0,0))) (hb:w'.heap[b]? = some (.cells c el (0,0))) (hc:c.size=c0.size)
  (JP:q+o'.n*o'.sz<=c.size) (Ku:∀i,i<o'.n->(o'.row i).length=o'.sz)
  (ZH:∀i j,i<o'.n->j<o'.sz->∃v,c[q+(i*o'.sz+j)]? = some v/\QE Z (h.set l o') pl w' (nth (o'.row i) j) v) (hro:o'.kd.ro=o.kd.ro):Zv Z base (h.set l o') pl w':=
 R.Qo3 (hro:=hro) ho hp (Tr.QX R ho hp (by rw[hk,ZE]) hg hz e (λc1 pP h1=>by rw[ZG]at h1;cases h1;exact⟨c,hb,hc⟩)) e (.Mq ZE ⟨c,el,hb,JP,Ku,ZH⟩)
variable {Z:Nat->Prop}
inductive TK where
 | int (k:IntKind)|bool|str|slice (e:TypeId)|array (n:Nat) (e:TypeId)|struct (fs:List (Nat × TypeId))|ptr (e:TypeId)|map (k e:TypeId)|fn|iface|other
def TK.of:TypeDesc->TK
 | .int k=>.int k
 | .bool=>.bool
 | .string=>.str
 | .slice e=>.slice e
 | .array n e=>.array n e
 | .struct fs=>.struct (fs.toList.map λf=>(f.offset,f.type))
 | .pointer e=>.ptr e
 | .map k e=>.map k e
 | .func _ _ _=>.fn
 | .interface _=>.iface
 | _=>.other
structure Ty where
 k:TK
 size:Nat
 bytes:Nat
 zero:List Value
def TK.agg:TK->Bool
 | .struct _ | .array _ _=>true
 | _=>false
def eX:Value->Bool
 | .agg _=>true
 | _=>false
structure Xf (P:Program) (t:TypeId) (y:Ty):Prop where
 k:(P.underlying t).map TK.of=some y.k
 info:(P.info? t).map (λi=>(i.size,i.bytes,i.zero.map λz=>z.cells.toList))=some (y.size,y.bytes,some y.zero)
 zag:((P.info? t).bind (·.zero)).map eX=some y.k.agg
abbrev Jt:=List (TypeId × Ty)
def ty:Jt->TypeId->Option Ty
 | [],_=>none
 | (u,y)::r,t=>bif Nat.beq u t then some y else ty r t
def Jq(P:Program)(L:Jt):Prop:=∀t y,ty L t=some y->Xf P t y
def Jq.nil(P):Jq P []:=λ_ _ h=>by simp[ty]at h
def Jq.cons{P}{L}{t:TypeId}{y}(h:Xf P t y)(r:Jq P L):Jq P ((t,y)::L):=λu z e=>by
 simp only[ty]at e;by_cases hu:t=u
 ·subst hu;simp at e;subst e;exact h
 ·have:Nat.beq t u=false:=by rw[<- qb,Wp];exact hu
  rw[this]at e;exact r u z e
section
variable {P:Program}{t:TypeId}{y:Ty}(h:Xf P t y)
include h
theorem Xf.under:∃d,P.underlying t=some d/\TK.of d=y.k:=by
 have:=h.k;cases hd:P.underlying t with
 | none=>rw[hd]at this;cases this
 | some d=>rw[hd]at this;exact⟨d,rfl,by simpa using this⟩
theorem Xf.sizeOf(w):(Go.sizeOf t).run P w=.ok y.size w:=by
 have:=h.info;cases hi:P.info? t with
 | none=>rw[hi]at this;cases this
 | some i=>
  rw[hi]at this;simp at this;simp[Go.sizeOf,typeInfo,hi,this.1]
theorem Xf.typeInfo(w):∃i,(Go.typeInfo t).run P w=.ok i w/\i.size=y.size/\i.bytes=y.bytes:=by
 have:=h.info;cases hi:P.info? t with
 | none=>rw[hi]at this;cases this
 | some i=>
  rw[hi]at this;simp at this;exact⟨i,by simp[Go.typeInfo,hi],this.1,this.2.1⟩
theorem Xf.zeroValue:∃z,z.cells.toList=y.zero/\∀w,(Go.zeroValue t).run P w=.ok z w:=by
 have:=h.info;cases hi:P.info? t with
 | none=>rw[hi]at this;cases this
 | some i=>
  rw[hi]at this;simp at this;obtain⟨_,_,z,hz,pQ⟩:=this;exact⟨z,pQ,λw=>by simp[Go.zeroValue,Go.typeInfo,hi,hz]⟩
theorem Xf.isAgg(w):(Go.isAgg t).run P w=.ok y.k.agg w:=by
 obtain⟨d,hd,he⟩:=h.under;rw[<- he];cases d<;>simp[Go.isAgg,run_underlying hd,TK.of,TK.agg]
end
def TK.of_slice{d:TypeDesc}{e:TypeId}(h:TK.of d=.slice e):d=.slice e:=by cases d<;>simp[TK.of]at h;rw[h]
def TK.of_array{d:TypeDesc}{n}{e:TypeId}(h:TK.of d=.array n e):d=.array n e:=by cases d<;>simp[TK.of]at h;rw[h.1,h.2]
def TK.of_struct{d:TypeDesc}{fs:List (Nat × TypeId)}(h:TK.of d=.struct fs):∃g,d=.struct g/\g.toList.map (λf=>(f.offset,f.type))=fs:=by cases d<;>simp[TK.of]at h;exact⟨_,rfl,by simpa using h⟩
def TK.of_int{d:TypeDesc}{k}(h:TK.of d=.int k):d=.int k:=by cases d<;>simp[TK.of]at h;rw[h]
def TK.of_bool{d:TypeDesc}(h:TK.of d=.bool):d=.bool:=by cases d<;>simp[TK.of]at h;rfl
def TK.Qo5{d:TypeDesc}(h:TK.of d=.str):d=.string:=by cases d<;>simp[TK.of]at h;rfl
def TK.Qo6{d:TypeDesc}{e:TypeId}(h:TK.of d=.ptr e):d=.pointer e:=by cases d<;>simp[TK.of]at h;rw[h]
def TK.of_map{d:TypeDesc}{k e:TypeId}(h:TK.of d=.map k e):d=.map k e:=by cases d<;>simp[TK.of]at h;rw[h.1,h.2]
def xZ{P:Program}{t e:TypeId}{y:Ty}(h:Xf P t y)(hk:y.k=.slice e):P.underlying t=some (.slice e):=by
 obtain⟨d,hd,he⟩:=h.under;rw[hk]at he;rw[hd,TK.of_slice he]
def pR{P:Program}{t e:TypeId}{n}{y:Ty}(h:Xf P t y)(hk:y.k=.array n e):P.underlying t=some (.array n e):=by
 obtain⟨d,hd,he⟩:=h.under;rw[hk]at he;rw[hd,TK.of_array he]
def Qeg{P:Program}{t:TypeId}{fs:List (Nat × TypeId)}{y:Ty}(h:Xf P t y)(hk:y.k=.struct fs):∃g,P.underlying t=some (.struct g)/\g.toList.map (λf=>(f.offset,f.type))=fs:=by
 obtain⟨d,hd,he⟩:=h.under;rw[hk]at he;obtain⟨g,hg,hm⟩:=TK.of_struct he;exact⟨g,by rw[hd,hg],hm⟩
def Eg{P:Program}{t:TypeId}{k}{y:Ty}(h:Xf P t y)(hk:y.k=.int k):P.underlying t=some (.int k):=by
 obtain⟨d,hd,he⟩:=h.under;rw[hk]at he;rw[hd,TK.of_int he]
def Qo7{P:Program}{t:TypeId}{y:Ty}(h:Xf P t y)(hk:y.k=.bool):P.underlying t=some .bool:=by
 obtain⟨d,hd,he⟩:=h.under;rw[hk]at he;rw[hd,TK.of_bool he]
def TJ{P:Program}{t:TypeId}{y:Ty}(h:Xf P t y)(hk:y.k=.str):P.underlying t=some .string:=by
 obtain⟨d,hd,he⟩:=h.under;rw[hk]at he;rw[hd,TK.Qo5 he]
def Qo8{P:Program}{t e:TypeId}{y:Ty}(h:Xf P t y)(hk:y.k=.ptr e):P.underlying t=some (.pointer e):=by
 obtain⟨d,hd,he⟩:=h.under;rw[hk]at he;rw[hd,TK.Qo6 he]
def FU{P:Program}{t k e:TypeId}{y:Ty}(h:Xf P t y)(hk:y.k=.map k e):P.underlying t=some (.map k e):=by
 obtain⟨d,hd,he⟩:=h.under;rw[hk]at he;rw[hd,TK.of_map he]
def Kq:Value->D
 | .slice none 0 0=>.nil
 | v=>.raw v
def qd:Value->D
 | .agg cs=>.agg (cs.toList.map Kq)
 | v=>Kq v
def Qt(fr:List (Nat × D)):Operand->D
 | .tmp t=>get fr t
 | .const v=>qd v
 | .global _=>.undef
 | .func f=>.raw (.func (.func f) #[] #[])
def Eh(N)(w)(v):Cl N w (Kq v) v:=by
 unfold Kq;split
 ·exact .nil none
 ·exact .raw _
def Qo9(N)(w)(v):Cl N w (qd v) v:=by
 unfold qd;split
 ·rename_i cs;have:=Cl.agg (N:=N) (w:=w) (cs.toList.map Kq) cs.toList (by simp) (λi hi=>by
   have JQ:i<cs.size:=by simpa using hi
   simp only[nth,Zb,Ze,KG];rw[QW (by simpa using JQ)];exact Eh N w _)
  simpa using this
 ·exact Eh N w _
def Rel.eval{base nt}{s:St}{pl}{a:Act}{w}(r:Rel Z base nt s pl a w)(x):QE Z s.h pl w (Qt s.fr x) (a.eval x):=by
 cases x with
 | tmp t=>exact r.fr t
 | const v=>exact .cl _ _ (Qo9 _ _ v)
 | global g=>exact .cl _ _ (.undef _)
 | func f=>exact .cl _ _ (.raw _)
section
variable {h:List Ob}{pl:List Pl}{w:World}{v:Value}
def JG{u}(r:QE Z h pl w (.raw u) v):v=u:=by
 cases r with|cl _ _ hc=>cases hc;rfl
def Ei(r:QE Z h pl w .nil v):∃a,v=.slice a 0 0:=by
 cases r with|cl _ _ hc=>cases hc;exact⟨_,rfl⟩
def Cw{l g off len}(r:QE Z h pl w (.ref l g off len) v):∃o p a cap,v=.slice a len cap/\h[l]? = some o/\pl[l]? = some p/\o.kd.ty=0/\g<=o.gen/\(g=o.gen->Qee w o.sz p off len a cap):=by
 cases r with
 | cl _ _ hc=>cases hc
 | ref _ _ _ _ o p a cap ho hp hk hg hs=>exact⟨o,p,a,cap,rfl,ho,hp,hk,hg,hs⟩
def FV{l g i j}(r:QE Z h pl w (.ptr l g i j) v):∃o p a,v=.pointer (some a)/\h[l]? = some o/\pl[l]? = some p/\o.kd.ty=0/\g<=o.gen/\(g=o.gen->∃b q,p=some (b,q)/\a=⟨b,q+(i*o.sz+j),none⟩):=by
 cases r with
 | cl _ _ hc=>cases hc
 | ptr _ _ _ _ o p a ho hp hk hg hs=>exact⟨o,p,a,rfl,ho,hp,hk,hg,hs⟩
def HI{l g}(r:QE Z h pl w (.mref l g) v):∃o p b,h[l]? = some o/\pl[l]? = some p/\MOk o.kd.ty b v/\g<=o.gen/\(g=o.gen->p=some (b,0)):=by
 cases r with
 | cl _ _ hc=>cases hc
 | mref _ _ o p b ho hp hk hg hs=>exact⟨o,p,b,ho,hp,hk,hg,hs⟩
def FW{cs:List D}(r:QE Z h pl w (.agg cs) v):∃vs:List Value,v=.agg vs.toArray/\vs.length=cs.length/\∀i,i<cs.length->QE Z h pl w (nth cs i) (Zb vs i):=by
 cases r with
 | cl _ _ hc=>cases hc with|agg _ vs hl hr=>exact⟨vs,rfl,hl,λi hi=>.cl _ _ (hr i hi)⟩
 | agg _ vs hl hr=>exact⟨vs,rfl,hl,hr⟩
def Qeh{cs:List D}(r:QE Z h pl w (.tup cs) v):∃vs:List Value,v=.tuple vs.toArray/\vs.length=cs.length/\∀i,i<cs.length->QE Z h pl w (nth cs i) (Zb vs i):=by
 cases r with
 | cl _ _ hc=>cases hc with|tup _ vs hl hr=>exact⟨vs,rfl,hl,λi hi=>.cl _ _ (hr i hi)⟩
 | tup _ vs hl hr=>exact⟨vs,rfl,hl,hr⟩
def pS{f}{nf:Nat}{cs:List D}(r:QE Z h pl w (.clo f nf cs) v):∃vs:List Value,v=.func (.func f) (vs.take nf).toArray (vs.drop nf).toArray/\vs.length=cs.length/\∀i,i<cs.length->QE Z h pl w (nth cs i) (Zb vs i):=by
 cases r with
 | cl _ _ hc=>cases hc with|clo _ _ _ vs hl hr=>exact⟨vs,rfl,hl,λi hi=>.cl _ _ (hr i hi)⟩
 | clo _ _ _ vs hl hr=>exact⟨vs,rfl,hl,hr⟩
def Mu{cs:List D}(r:QE Z h pl w (.ip cs) v):∃b o,∃vs:Nat->Value,v=.pointer (some ⟨b,o,none⟩)/\∀j,j<cs.length->(free Z pl b/\w.cell? ⟨b,o+j,none⟩=some (vs j))/\Cl (free Z pl) w (nth cs j) (vs j):=by
 cases r with
 | cl _ _ hc=>cases hc with|ip _ b o vs hc hr=>exact⟨b,o,vs,rfl,λj hj=>⟨hc j hj,hr j hj⟩⟩
def TL{sz n}{row}(r:QE Z h pl w (.imm sz n row) v):∃a cap b o,∃vs:Nat->Nat->Value,v=.slice a n cap/\(0<n->a=some ⟨b,o,none⟩)/\n<=cap/\(∀i,i<n->(row i).length=sz) /\
  ∀i j,i<n->j<sz->(free Z pl b/\w.cell? ⟨b,o+(i*sz+j),none⟩=some (vs i j))/\Cl (free Z pl) w (nth (row i) j) (vs i j):=by
 cases r with
 | cl _ _ hc=>cases hc with|imm _ _ _ a cap b o vs ha hl hs hc hr=>exact⟨a,cap,b,o,vs,rfl,ha,hl,hs,λi j hi hj=>⟨hc i j hi hj,hr i j hi hj⟩⟩
end
def WE(P:Program)(base nt:Nat)(o:Oper)(s:St)(d:D):Prop:=
 ∀(Z:Nat->Prop) pl a w,Rel Z base nt s pl a w->∃v,QE Z s.h pl w d v/\∀w':World,(∀b,b<w.heap.size->w'.heap[b]? = w.heap[b]?)->(execOp a.eval o).run P w'=.ok (.value v) w'
def Qpa{w w':World}(e:∀b,b<w.heap.size->w'.heap[b]? = w.heap[b]?){a}{v}(h:w.cell? a=some v):w'.cell? a=some v:=by
 rw[World.cell?_of_block (w:=w) (e a.block (block_lt_of_cell h))];exact h
def kC(w w':World):Prop:=∀(a:Addr) (v:Value),w.cell? a=some v->w'.cell? a=some v
def kC.trans{a b c}(h:kC a b)(k:kC b c):kC a c:=λx v hx=>k x v (h x v hx)
def kC.ext{w w':World}(e:∀b,b<w.heap.size->w'.heap[b]? = w.heap[b]?):kC w w':=λ_ _ h=>Qpa e h
def eY(P:Program)(base nt:Nat)(o:Oper)(s:St)(d:D):Prop:=
 ∀(Z:Nat->Prop) pl a w,Rel Z base nt s pl a w->∃v,QE Z s.h pl w d v/\∀w':World,kC w w'->(execOp a.eval o).run P w'=.ok (.value v) w'
def eY.up{P}{base nt}{o}{s}{d}(h:eY P base nt o s d):WE P base nt o s d:=λZ pl a w r=>by
 obtain⟨v,h1,h2⟩:=h Z pl a w r;exact⟨v,h1,λw' e=>h2 w' (.ext e)⟩
abbrev Ev:=Option (Prop × D)
def eZ(op:BinOp)(k:IntKind)(a b:Int):Ev:=
 match op with
 | .add=>some (True,.raw (.int k (k.wrap (a+b))))
 | .sub=>some (True,.raw (.int k (k.wrap (a - b))))
 | .mul=>some (True,.raw (.int k (k.wrap (a*b))))
 | .quo=>some (b≠0,.raw (.int k (k.wrap (a.tdiv b))))
 | .rem=>some (b≠0,.raw (.int k (a.tmod b)))
 | .and=>some (True,.raw (.int k (bits .and k a b)))
 | .or=>some (True,.raw (.int k (bits .or k a b)))
 | .xor=>some (True,.raw (.int k (bits .xor k a b)))
 | .andNot=>some (True,.raw (.int k (bits .andNot k a b)))
 | .eql=>some (True,.raw (.bool (a==b)))
 | .neq=>some (True,.raw (.bool (a != b)))
 | .lss=>some (True,.raw (.bool (decide (a<b))))
 | .leq=>some (True,.raw (.bool (decide (a<=b))))
 | .gtr=>some (True,.raw (.bool (decide (b<a))))
 | .geq=>some (True,.raw (.bool (decide (b<=a))))
 | _=>none
def fa(op:BinOp)(k:IntKind)(a b:Int):Ev:=
 match op with
 | .shl=>some (0<=b,.raw (.int k (k.wrap (a*2 ^ (min b.toNat k.bits)))))
 | .shr=>some (0<=b,.raw (.int k (a.fdiv (2 ^ (min b.toNat k.bits)))))
 | _=>none
def IntKind.same:IntKind->IntKind->Bool
 | .i8,.i8 | .i16,.i16 | .i32,.i32 | .i64,.i64 | .u8,.u8 | .u16,.u16 | .u32,.u32 | .u64,.u64=>true
 | _,_=>false
def IntKind.pT{k k'}(h:IntKind.same k k'=true):k=k':=by cases k<;>cases k'<;>first|rfl|cases h
def pU:BinOp->Bool
 | .shl | .shr=>true
 | _=>false
def fb(op:BinOp)(a b:Bool):Ev:=
 match op with
 | .eql=>some (True,.raw (.bool (a==b)))
 | .neq=>some (True,.raw (.bool (a != b)))
 | _=>none
def fc(op:BinOp)(a b:ByteArray):Ev:=
 match op with
 | .add=>some (a.size+b.size<=9223372036854775807,.raw (.string (a++b)))
 | .eql=>some (True,.raw (.bool (a.toList==b.toList)))
 | .neq=>some (True,.raw (.bool (!(a.toList==b.toList))))
 | .lss=>some (True,.raw (.bool (Op.bytesLess a.toList b.toList)))
 | _=>none
def HJ(op:BinOp)(both:Bool):Ev:=
 match op with
 | .eql=>some (True,.raw (.bool both))
 | .neq=>some (True,.raw (.bool (!both)))
 | _=>none
def HL(L:Jt)(t:TypeId):Bool:=match ty L t with|some ⟨.ptr _,_,_,_⟩=>true|_=>false
def fe(L:Jt)(t:TypeId):Bool:=match ty L t with|some ⟨.bool,_,_,_⟩=>true|_=>false
def fg(L:Jt)(op:BinOp)(t:TypeId):D->D->Ev
 | .raw (.int k a),.raw (.int k' b)=>bif pU op then fa op k a b else bif IntKind.same k k' then eZ op k a b else none
 | .raw (.bool a),.raw (.bool b)=>bif fe L t then fb op a b else none
 | .raw (.string a),.raw (.string b)=>fc op a b
 | .raw (.pointer none),.raw (.pointer none)=>bif HL L t then HJ op true else none
 | .ptr _ _ _ _,.raw (.pointer none)=>bif HL L t then HJ op false else none
 | .ip _,.raw (.pointer none)=>bif HL L t then HJ op false else none
 | .raw (.pointer none),.ptr _ _ _ _=>bif HL L t then HJ op false else none
 | .raw (.pointer none),.ip _=>bif HL L t then HJ op false else none
 | _,_=>none
def Qpb(P)(w){s:Sem Value}{v}(h:s.run P w=.ok v w):(do pure (Next.value (<- s)):Sem Next).run P w=.ok (.value v) w:=by
 simp[h]
def Qpc{P}{op}{k}{a b}{p}{d}(t)(h:eZ op k a b=some (p,d))(hp:p):∃v,d=.raw v/\∀w,(Go.binOp op t (.int k a) (.int k b)).run P w=.ok v w:=by
 cases op<;>simp only[eZ,Za,Zp,reduceCtorEq]at h<;>obtain⟨rfl,rfl⟩:=h<;>refine⟨_,rfl,λw=>?_⟩ <;>
  simp_all[Go.binOp,Op.intArith,Op.intDiv,Op.intBits,Op.intCmp,bits]
def Qpd{P}{op}{k k'}{a b}{p}{d}(t)(h:fa op k a b=some (p,d))(hp:p):∃v,d=.raw v/\∀w,(Go.binOp op t (.int k a) (.int k' b)).run P w=.ok v w:=by
 cases op<;>simp only[fa,Za,Zp,reduceCtorEq]at h<;>obtain⟨rfl,rfl⟩:=h<;>refine⟨_,rfl,λw=>?_⟩ <;>
  (have:¬ b<0:=by omega
   simp[Go.binOp,Op.shift,this])
def Qpe{P}{op}{a b}{p}{d}(t)(h:fc op a b=some (p,d))(hp:p):∃v,d=.raw v/\∀w,(Go.binOp op t (.string a) (.string b)).run P w=.ok v w:=by
 cases op<;>simp only[fc,Za,Zp,reduceCtorEq]at h<;>obtain⟨rfl,rfl⟩:=h<;>refine⟨_,rfl,λw=>?_⟩ <;>
  simp[Go.binOp,Op.stringOp]
 omega
def Qpf{P:Program}{t e:TypeId}(ht:P.underlying t=some (.pointer e))(n){x y:Option Addr}(wX:x=none\/y=none)(w):(Op.equalIn (n+1) t (.pointer x) (.pointer y)).run P w=.ok (x.isNone&&y.isNone) w:=by
 rcases wX with rfl|rfl
 ·simp[Op.equalIn,run_underlying ht]
 ·cases x<;>simp[Op.equalIn,run_underlying ht]
def fh{P}{t:TypeId}{x y:Value}{b}{w}(hb:∀n,(Op.equalIn (n+1) t x y).run P w=.ok b w):(Op.equal t x y).run P w=.ok b w:=hb 9999
def Qpg{P:Program}{op}{a b}{p}{d}(t)(ht:P.underlying t=some .bool)(h:fb op a b=some (p,d)):∃v,d=.raw v/\∀w,(Go.binOp op t (.bool a) (.bool b)).run P w=.ok v w:=by
 have he:∀w,(Op.equal t (.bool a) (.bool b)).run P w=.ok (a==b) w:=λw=>fh λn=>run_equalIn_bool' w n t a b ht;cases op<;>simp only[fb,Za,Zp,reduceCtorEq]at h<;>obtain⟨rfl,rfl⟩:=h<;>refine⟨_,rfl,λw=>?_⟩<;>simp only[Go.binOp]
 ·simp[he]
 ·simp[he,bne]
def TM{P:Program}{op}{x y:Option Addr}(wX:x=none\/y=none){p}{d}{t e:TypeId}(ht:P.underlying t=some (.pointer e))(h:HJ op (x.isNone&&y.isNone)=some (p,d)):∃v,d=.raw v/\∀w,(Go.binOp op t (.pointer x) (.pointer y)).run P w=.ok v w:=by
 have he:∀w,(Op.equal t (.pointer x) (.pointer y)).run P w=.ok (x.isNone&&y.isNone) w:=λw=>fh λn=>Qpf ht n wX w;cases op<;>simp only[HJ,Za,Zp,reduceCtorEq]at h<;>obtain⟨rfl,rfl⟩:=h<;>refine⟨_,rfl,λw=>?_⟩<;>simp only[Go.binOp]
 ·simp[he]
 ·simp[he]
def TN{P:Program}{L}(hL:Jq P L){t:TypeId}(h:HL L t=true):∃e,P.underlying t=some (.pointer e):=by
 unfold HL at h;split at h
 ·rename_i e _ _ _ he;exact⟨e,Qo8 (hL _ _ he) rfl⟩
 ·cases h
def Qph{P:Program}{L}(hL:Jq P L){t:TypeId}(h:fe L t=true):P.underlying t=some .bool:=by
 unfold fe at h;split at h
 ·rename_i he;exact Qo7 (hL _ _ he) rfl
 ·cases h
def kD{α:Type}{c:Bool}{x:Option α}{y:α}(h:(bif c then x else none)=some y):c=true/\x=some y:=by cases c<;>simp at h;exact⟨rfl,h⟩
def Qpi{P}{L}(hL:Jq P L){base nt}{s}{o:Oper}{op}{t yt:TypeId}{x y}(ho:o.op=.binOp op t x y yt){p}{d}
  (h:fg L op t (Qt s.fr x) (Qt s.fr y)=some (p,d)) (hp:p):WE P base nt o s d:=by
 intro Z pl a w r;have hx:=r.eval x;have hy:=r.eval y;generalize Qt s.fr x=dx at *;generalize Qt s.fr y=dy at *;have fin:∀(vx vy:Value),a.eval x=vx->a.eval y=vy->(∀w,(eqGuard op t x y vx vy).run P w=.ok () w)->(∃v,d=.raw v/\∀w,(Go.binOp op t vx vy).run P w=.ok v w) ->
   ∃v,QE Z s.h pl w d v/\∀w':World,(∀b,b<w.heap.size->w'.heap[b]? = w.heap[b]?)->(execOp a.eval o).run P w'=.ok (.value v) w':=by
  intro vx vy e1 e2 hg ⟨v,hd,hv⟩;refine⟨v,hd▸.cl _ _ (.raw v),λw' _=>?_⟩;simp only[execOp,ho,e1,e2];refine Qpb P w' ?_;simp[hg,hv]
 unfold fg at h;split at h
 ·rename_i k i k' j;have e1:=JG hx;have e2:=JG hy;refine fin _ _ e1 e2 (λw=>by cases op<;>simp[eqGuard]) ?_;cases hs:pU op
  ·rw[hs]at h;simp only[Xw]at h;obtain⟨hk,h1⟩:=kD h;have:=IntKind.pT hk;subst this;exact Qpc t h1 hp
  ·rw[hs]at h;exact Qpd t h hp
 ·obtain⟨ht,h⟩:=kD h;exact fin _ _ (JG hx) (JG hy) (λw=>by cases op<;>simp[eqGuard]) (Qpg t (Qph hL ht) h)
 ·exact fin _ _ (JG hx) (JG hy) (λw=>by cases op<;>simp[eqGuard]) (Qpe t h hp)
 ·obtain⟨ht,h⟩:=kD h;obtain⟨e,he⟩:=TN hL ht;exact fin _ _ (JG hx) (JG hy) (λw=>by cases op<;>simp[eqGuard]) (TM (.inl rfl) he h)
 ·obtain⟨ht,h⟩:=kD h;obtain⟨e,he⟩:=TN hL ht;obtain⟨_,_,aa,hv,_⟩:=FV hx;exact fin _ _ hv (JG hy) (λw=>by cases op<;>simp[eqGuard]) (TM (.inr rfl) he h)
 ·obtain⟨ht,h⟩:=kD h;obtain⟨e,he⟩:=TN hL ht;obtain⟨_,_,_,hv,_⟩:=Mu hx;exact fin _ _ hv (JG hy) (λw=>by cases op<;>simp[eqGuard]) (TM (.inr rfl) he h)
 ·obtain⟨ht,h⟩:=kD h;obtain⟨e,he⟩:=TN hL ht;obtain⟨_,_,aa,hv,_⟩:=FV hy;exact fin _ _ (JG hx) hv (λw=>by cases op<;>simp[eqGuard]) (TM (.inl rfl) he h)
 ·obtain⟨ht,h⟩:=kD h;obtain⟨e,he⟩:=TN hL ht;obtain⟨_,_,_,hv,_⟩:=Mu hy;exact fin _ _ (JG hx) hv (λw=>by cases op<;>simp[eqGuard]) (TM (.inl rfl) he h)
 ·cases h
variable {Z:Nat->Prop}
section
variable {P:Program}{L:Jt}{base nt:Nat}{s:St}{o:Oper}
def Qei{x}(ho:o.op=.move x\/o.op=.assign x):WE P base nt o s (Qt s.fr x):=by
 intro Z pl a w r;refine⟨_,r.eval x,λw' _=>?_⟩;rcases ho with ho|ho<;>simp[execOp,ho]
def Qpj{c x y}(ho:o.op=.pick c x y){b}(hc:Qt s.fr c=.raw (.bool b)):WE P base nt o s (bif b then Qt s.fr x else Qt s.fr y):=by
 intro Z pl a w r;have h:=r.eval c;rw[hc]at h;have e:=JG h;cases b
 ·exact⟨_,r.eval y,λw' _=>by simp[execOp,ho,e,asBool]⟩
 ·exact⟨_,r.eval x,λw' _=>by simp[execOp,ho,e,asBool]⟩
def mk(y:Ty)(cells:List D):D:=bif y.k.agg then .agg (cells.take y.size) else nth cells 0
def Ej(y:Ty):D:=bif y.k.agg then .agg (y.zero.map Kq) else nth (y.zero.map Kq) 0
def pV{P}{t:TypeId}{y}(h:Xf P t y){N}(w):∃z,Cl N w (Ej y) z/\∀w',(Go.zeroValue t).run P w'=.ok z w':=by
 have h1:=h.info;have h2:=h.zag;cases hi:P.info? t with
 | none=>rw[hi]at h1;cases h1
 | some i=>
  rw[hi]at h1 h2;simp at h1;obtain⟨_,_,z,hz,pQ⟩:=h1;simp[hz]at h2;refine⟨z,?_,λw=>by simp[Go.zeroValue,Go.typeInfo,hi,hz]⟩;unfold Ej;rw[<- h2,<- pQ];cases z with
  | agg cs=>
   simp only[eX,Yr];refine .agg _ cs.toList (by simp[Value.cells]) λi hi=>?_;have JQ:i<cs.size:=by simpa[Value.cells] using hi
   have e1:nth ((Value.agg cs).cells.toList.map Kq) i=Kq (Zb cs.toList i):=by
    simp[nth,Zb,Value.cells,Ze,JQ]
   rw[e1];exact Eh N w _
  | _=>simp only[eX,Xw,Value.cells,nth,J7,List.map_nil,List.getD_cons_zero];exact Eh N w _
def pW{cs:List D}{k i}(h:i<k):nth (cs.take k) i=nth cs i:=by
 simp only[nth,Ze,Yq,h,K6]
def HM{cs:List D}{k i}:nth (cs.drop k) i=nth cs (k+i):=by
 simp only[nth,Ze,HA]
def Qej{t:TypeId}{y:Ty}(ht:Xf P t y)(w:World)(ad:Addr)(cells:List D){h:List Ob}{pl:List Pl}(w0:World)(JP:y.size<=cells.length)(h1:y.k.agg=false->y.size=1)
  (hc:∀j,j<y.size->∃v,w.cell? (ad.add j)=some v/\QE Z h pl w0 (nth cells j) v) :
  ∃v,QE Z h pl w0 (mk y cells) v/\∀w',(∀j v,j<y.size->w.cell? (ad.add j)=some v->w'.cell? (ad.add j)=some v)->(loadVar t ad).run P w'=.ok v w':=by
 unfold mk;cases hk:y.k.agg
 ·have hs:=h1 hk;obtain⟨v,hv,hr⟩:=hc 0 (by omega);refine⟨v,hr,λw' qf=>?_⟩;have:=qf 0 v (by omega) hv;simp only[Addr.add_zero']at this;simp[loadVar,ht.isAgg,hk,this]
 ·let f:Nat->Value:=λj=>(w.cell? (ad.add j)).getD Go.undef;refine⟨.agg ((List.range y.size).map f).toArray,.agg _ _ (by simp;omega) (λi hi=>?_),λw' qf=>?_⟩
  ·have JQ:i<y.size:=by simp at hi;omega
   obtain⟨v,hv,hr⟩:=hc i JQ;rw[pW JQ];have:Zb ((List.range y.size).map f) i=v:=by
    simp[Zb,Ze,JQ,f,hv]
   rw[this];exact hr
  ·have hl:(loadCells ad y.size).run P w'=.ok ((List.range y.size).map f).toArray w':=run_loadCells w' ad y.size f (λj hj=>by
    obtain⟨v,hv,_⟩:=hc j hj;rw[qf j v hj hv];simp[f,hv])
   simp[loadVar,ht.isAgg,hk,ht.sizeOf,hl]
def Mv(L:Jt)(h:List Ob)(t:TypeId)(d:D):Ev:=
 match ty L t with
 | none=>none
 | some y=>
  match d with
  | .ptr l g i j=>match h[l]? with
   | some o=>some (g=o.gen/\i<o.n/\j+y.size<=o.sz/\(y.k.agg=false->y.size=1),mk y ((o.row i).drop j))
   | none=>none
  | .ip cells=>some (y.size<=cells.length/\(y.k.agg=false->y.size=1),mk y cells)
  | _=>none
def Bj(b o n):(⟨b,o,none⟩:Addr).add n=⟨b,o+n,none⟩:=Addr.add_lit b o n
def Qek(hL:Jq P L){t:TypeId}{x}(ho:o.op=.load t x){p}{d}(h:Mv L s.h t (Qt s.fr x)=some (p,d))(hp:p):eY P base nt o s d:=by
 intro Z pl a w r;have hx:=r.eval x;unfold Mv at h;cases ht:ty L t with
 | none=>rw[ht]at h;cases h
 | some y=>
  have hy:=hL t y ht;rw[ht]at h;dsimp only at h;generalize Qt s.fr x=dx at *;split at h
  ·rename_i l g i j;split at h
   ·rename_i ob Zt;simp only[Za,Zp]at h;obtain⟨rfl,rfl⟩:=h;obtain⟨hg,hi,hj,h1⟩:=hp;obtain⟨o',p',ad,hv,ZT,Jl,ZE,vH,VN⟩:=FV hx;rw[Zt]at ZT;cases ZT;obtain⟨b,q,rfl,rfl⟩:=VN hg;obtain⟨Zd,xx⟩:=r.o.at_ l ob b q Zt Jl;obtain⟨c,el,hb,JP,Ku,ZH⟩:=xx.cells ZE;obtain⟨v,hr,Zl⟩:=Qej hy w ⟨b,q+(i*ob.sz+j),none⟩ ((ob.row i).drop j) (h:=s.h) (pl:=pl) w (by simp[Ku i hi];omega) h1 (λk hk=>by
     obtain⟨v,hv,hr⟩:=ZH i (j+k) hi (by omega);refine⟨v,?_,by rw[HM];exact hr⟩;rw[Bj,cell_of_row w b _ c el (0,0) hb,<- hv];congr 1;omega)
    refine⟨v,hr,λw' e=>?_⟩;have:=Zl w' (λk v hk hv=>e _ _ hv);simp[execOp,ho,hv,Instr.loadAt,Instr.sureAddr,this]
   ·cases h
  ·rename_i cells;simp only[Za,Zp]at h;obtain⟨rfl,rfl⟩:=h;obtain⟨JP,h1⟩:=hp;obtain⟨b,q,vs,hv,hc⟩:=Mu hx;obtain⟨v,hr,Zl⟩:=Qej hy w ⟨b,q,none⟩ cells (h:=s.h) (pl:=pl) w JP h1 (λk hk=>by
    obtain⟨⟨_,h2⟩,h3⟩:=hc k (by omega);exact⟨vs k,by rw[Bj];exact h2,.cl _ _ h3⟩)
   refine⟨v,hr,λw' e=>?_⟩;have:=Zl w' (λk v hk hv=>e _ _ hv);simp[execOp,ho,hv,Instr.loadAt,Instr.sureAddr,this]
  ·cases h
def Qel(hL:Jq P L){t:TypeId}{x}(ho:o.op=.load t x){p}{d}(h:Mv L s.h t (Qt s.fr x)=some (p,d))(hp:p):WE P base nt o s d:=(Qek hL ho h hp).up
def O1(L:Jt)(t:TypeId)(f:Nat):Option (Nat × Ty):=
 match ty L t with
 | some ⟨.struct fs,_,_,_⟩=>match fs[f]? with
  | some (off,u)=>match ty L u with
   | some y=>some (off,y)
   | none=>none
  | none=>none
 | _=>none
def pX(hL:Jq P L){t:TypeId}{f off}{y}(h:O1 L t f=some (off,y)):∃g fd,P.underlying t=some (.struct g)/\g[f]? = some fd/\fd.offset=off/\Xf P fd.type y:=by
 unfold O1 at h;split at h
 ·rename_i fs _ _ _ he;split at h
  ·rename_i jg u hf;split at h
   ·rename_i y' hu;simp only[Za,Zp]at h;obtain⟨rfl,rfl⟩:=h;obtain⟨g,hg,hm⟩:=Qeg (hL _ _ he) rfl;rw[<- hm]at hf;simp only[KG,Xv,Zp]at hf;obtain⟨fd,h1,h2,h3⟩:=hf;exact⟨g,fd,hg,by simpa using h1,h2,by rw[h3];exact hL _ _ hu⟩
   ·cases h
  ·cases h
 ·cases h
def fi(L:Jt)(t:TypeId)(f:Nat)(d:D):Ev:=
 match O1 L t f with
 | none=>none
 | some (off,y)=>match d with
  | .ptr l g i j=>some (y.size≠0,.ptr l g i (j+off))
  | .ip cells=>some (y.size≠0,.ip (cells.drop off))
  | _=>none
def Qpk(hL:Jq P L){t:TypeId}{f}{x}(ho:o.op=.fieldAddr t x f){p}{d}(h:fi L t f (Qt s.fr x)=some (p,d))(hp:p):WE P base nt o s d:=by
 intro Z pl a w r;have hx:=r.eval x;unfold fi at h;split at h
 ·cases h
 ·rename_i off y hf;obtain⟨g,fd,hg,HN,rfl,hy⟩:=pX hL hf;have fin:∀(b q:Nat),y.size≠0->a.eval x=.pointer (some ⟨b,q,none⟩)->∀w':World,(execOp a.eval o).run P w'=.ok (.value (.pointer (some ⟨b,q+fd.offset,none⟩))) w':=by
   intro b q pY he w';simp[execOp,ho,he,Instr.fieldAt,run_underlying hg,HN,Instr.sureAddr,fieldPlace,hy.sizeOf,pY,Bj]
  generalize Qt s.fr x=dx at *;split at h
  ·rename_i l g i j;simp only[Za,Zp]at h;obtain⟨rfl,rfl⟩:=h;obtain⟨ob,pp,ad,hv,Zt,WD,ZE,Ab,VN⟩:=FV hx;by_cases hl:g=ob.gen
   ·obtain⟨b,q,rfl,rfl⟩:=VN hl;exact⟨_,.ptr _ _ _ _ ob _ _ Zt WD ZE Ab (λ_=>⟨b,q,rfl,by simp only[Addr.mk.injEq,and_true,Bd];omega⟩),λw' _=>fin _ _ hp hv w'⟩
   ·obtain⟨b,q,sp⟩:=ad;refine⟨.pointer (some ((⟨b,q,sp⟩:Addr).add fd.offset)),.ptr _ _ _ _ ob _ _ Zt WD ZE Ab (λh=>absurd h hl),λw' _=>?_⟩;simp[execOp,ho,hv,Instr.fieldAt,run_underlying hg,HN,Instr.sureAddr,fieldPlace,hy.sizeOf,hp]
  ·rename_i cells;simp only[Za,Zp]at h;obtain⟨rfl,rfl⟩:=h;obtain⟨b,q,vs,hv,hc⟩:=Mu hx;refine⟨_,.cl _ _ (.ip _ b (q+fd.offset) (λj=>vs (fd.offset+j)) (λj hj=>?_) (λj hj=>?_)),λw' _=>fin _ _ hp hv w'⟩
   ·obtain⟨⟨h1,h2⟩,h3⟩:=hc (fd.offset+j) (by simp at hj;omega);exact⟨h1,by rw[Nat.add_assoc];exact h2⟩
   ·obtain⟨⟨h1,h2⟩,h3⟩:=hc (fd.offset+j) (by simp at hj;omega);rw[HM];exact h3
  ·cases h
def Qem{t:TypeId}{y}(hy:Xf P t y)(cs:List D)(vs:List Value){h}{pl}{w0}(hl:vs.length=cs.length)(hr:∀i,i<cs.length->QE Z h pl w0 (nth cs i) (Zb vs i))(off)
  (JP:off+y.size<=cs.length) (h1:y.k.agg=false->y.size=1):∃v,QE Z h pl w0 (mk y (cs.drop off)) v/\∀w',(part t vs.toArray off).run P w'=.ok v w':=by
 unfold mk;cases hk:y.k.agg
 ·have hs:=h1 hk;refine⟨Zb vs off,by simp only[Xw];rw[HM];exact hr off (by omega),λw'=>?_⟩;have Qc:off<vs.length:=by omega
  simp[part,hy.isAgg,hk,Zb,Ze,Qc]
 ·refine⟨.agg ((vs.drop off).take y.size).toArray,.agg _ _ (by simp;omega) (λi hi=>?_),λw'=>?_⟩
  ·have JQ:i<y.size:=by simp at hi;omega
   rw[pW JQ,HM];have:Zb ((vs.drop off).take y.size) i=Zb vs (off+i):=by
    simp[Zb,Ze,JQ]
   rw[this];exact hr _ (by omega)
  ·simp[part,hy.isAgg,hk,hy.sizeOf]
def fj(L:Jt)(t:TypeId)(f:Nat)(d:D):Ev:=
 match O1 L t f with
 | none=>none
 | some (off,y)=>match d with
  | .agg cs=>some (off+y.size<=cs.length/\(y.k.agg=false->y.size=1),mk y (cs.drop off))
  | _=>none
def Qpl(hL:Jq P L){t:TypeId}{f}{x}(ho:o.op=.field t x f){p}{d}(h:fj L t f (Qt s.fr x)=some (p,d))(hp:p):WE P base nt o s d:=by
 intro Z pl a w r;have hx:=r.eval x;unfold fj at h;split at h
 ·cases h
 ·rename_i off y hf;obtain⟨g,fd,hg,HN,rfl,hy⟩:=pX hL hf;generalize Qt s.fr x=dx at *;split at h
  ·rename_i cs;simp only[Za,Zp]at h;obtain⟨rfl,rfl⟩:=h;obtain⟨vs,hv,hl,hr⟩:=FW hx;obtain⟨v,TO,Zl⟩:=Qem hy cs vs hl hr fd.offset hp.1 hp.2;refine⟨v,TO,λw' _=>?_⟩;simp[execOp,ho,hv,Instr.field,run_underlying hg,HN,asAgg,Zl]
  ·cases h
def O3(L:Jt)(t:TypeId):Option (Nat × Bool × Nat):=
 match ty L t with
 | some ⟨.slice e,_,_,_⟩=>match ty L e with
  | some y=>some (y.size,true,0)
  | none=>none
 | some ⟨.array n e,_,_,_⟩=>match ty L e with
  | some y=>some (y.size,false,n)
  | none=>none
 | _=>none
def Qpm(hL:Jq P L){t:TypeId}{sz n}(h:O3 L t=some (sz,true,n)):∃e y,P.underlying t=some (.slice e)/\Xf P e y/\y.size=sz:=by
 unfold O3 at h;split at h
 ·rename_i e _ _ _ he;split at h
  ·rename_i y hy;simp only[Za,Zp]at h;exact⟨e,y,xZ (hL _ _ he) rfl,hL _ _ hy,h.1⟩
  ·cases h
 ·split at h
  ·simp at h
  ·cases h
 ·cases h
def Qpn(hL:Jq P L){t:TypeId}{sz n}(h:O3 L t=some (sz,false,n)):∃e y,P.underlying t=some (.array n e)/\Xf P e y/\y.size=sz:=by
 unfold O3 at h;split at h
 ·split at h
  ·simp at h
  ·cases h
 ·rename_i e _ _ _ he;split at h
  ·rename_i y hy;simp only[Za,Zp]at h;obtain⟨rfl,_,rfl⟩:=h;exact⟨e,y,pR (hL _ _ he) rfl,hL _ _ hy,rfl⟩
  ·cases h
 ·cases h
def fk(L:Jt)(h:List Ob)(t:TypeId)(d ix:D):Ev:=
 match ix with
 | .raw (.int _ i)=>match O3 L t with
  | some (sz,true,_)=>match d with
   | .ref l g off len=>match h[l]? with
    | some o=>some (g=o.gen/\o.sz=sz/\0<=i/\i<len,.ptr l g (off+i.toNat) 0)
    | none=>none
   | .imm z n row=>some (z=sz/\0<=i/\i<n,.ip (row i.toNat))
   | _=>none
  | some (sz,false,n)=>match d with
   | .ptr l g a j=>some (0<=i/\i<n,.ptr l g a (j+i.toNat*sz))
   | .ip cells=>some (0<=i/\i<n,.ip (cells.drop (i.toNat*sz)))
   | _=>none
  | none=>none
 | _=>none
def Qpo(hL:Jq P L){t:TypeId}{x ix}(ho:o.op=.indexAddr t x ix){p}{d}(h:fk L s.h t (Qt s.fr x) (Qt s.fr ix)=some (p,d))(hp:p):WE P base nt o s d:=by
 intro Z pl a w r;have hx:=r.eval x;have Mw:=r.eval ix;unfold fk at h;generalize Qt s.fr x=dx at *;generalize Qt s.fr ix=di at *;split at h
 ·rename_i k i;have hi:=JG Mw;split at h
  ·rename_i sz _ he;obtain⟨e,y,hu,hy,rfl⟩:=Qpm hL he;split at h
   ·rename_i l g off len;split at h
    ·rename_i ob Zt;simp only[Za,Zp]at h;obtain⟨rfl,rfl⟩:=h;obtain⟨hg,JP,h0,h1⟩:=hp;obtain⟨o',p',ad,cap,hv,ZT,Jl,ZE,vH,VN⟩:=Cw hx;rw[Zt]at ZT;cases ZT;rcases VN hg with ⟨h2,_⟩|⟨b,q,c,el,WD,wY,hb,hc,Bk⟩
     ·omega
     ·refine⟨.pointer (some ⟨b,q+((off+i.toNat)*ob.sz+0),none⟩),.ptr _ _ _ _ ob _ _ Zt Jl ZE vH (λ_=>⟨b,q,WD,rfl⟩),λw' _=>?_⟩;simp[execOp,ho,hv,hi,wY,Instr.indexAt,asIntOf,run_underlying hu,h0,h1,hy.sizeOf,Bj,JP];rw[VL];omega
    ·cases h
   ·rename_i z n row;simp only[Za,Zp]at h;obtain⟨rfl,rfl⟩:=h;obtain⟨rfl,h0,h1⟩:=hp;obtain⟨ad,cap,b,q,vs,hv,wY,Bk,hs,hc⟩:=TL hx;have Qc:i.toNat<n:=by omega
    refine⟨.pointer (some ⟨b,q+i.toNat*y.size,none⟩),.cl _ _ (.ip _ b _ (λj=>vs i.toNat j) (λj hj=>?_) (λj hj=>?_)),λw' _=>?_⟩
    ·rw[hs _ Qc]at hj;obtain⟨⟨h2,h3⟩,h4⟩:=hc i.toNat j Qc hj;exact⟨h2,by rw[Nat.add_assoc];exact h3⟩
    ·rw[hs _ Qc]at hj;exact(hc i.toNat j Qc hj).2
    ·simp[execOp,ho,hv,hi,wY (by omega),Instr.indexAt,asIntOf,run_underlying hu,h0,h1,hy.sizeOf,Bj]
   ·cases h
  ·rename_i sz n he;obtain⟨e,y,hu,hy,rfl⟩:=Qpn hL he;split at h
   ·rename_i l g i0 j;simp only[Za,Zp]at h;obtain⟨rfl,rfl⟩:=h;obtain⟨h0,h1⟩:=hp;obtain⟨ob,pp,ad,hv,Zt,WD,ZE,Ab,VN⟩:=FV hx;refine⟨.pointer (some (ad.add (i.toNat*y.size))),.ptr _ _ _ _ ob _ _ Zt WD ZE Ab (λhg=>?_),λw' _=>?_⟩
    ·obtain⟨b,q,rfl,rfl⟩:=VN hg;exact⟨b,q,rfl,by rw[Bj];simp only[Addr.mk.injEq,and_true,Bd];omega⟩
    ·simp[execOp,ho,hv,hi,Instr.indexAt,asIntOf,run_underlying hu,h0,h1,hy.sizeOf,Instr.sureAddr]
   ·rename_i cells;simp only[Za,Zp]at h;obtain⟨rfl,rfl⟩:=h;obtain⟨h0,h1⟩:=hp;obtain⟨b,q,vs,hv,hc⟩:=Mu hx;refine⟨_,.cl _ _ (.ip _ b (q+i.toNat*y.size) (λj=>vs (i.toNat*y.size+j)) (λj hj=>?_) (λj hj=>?_)),λw' _=>?_⟩
    ·obtain⟨⟨h1,h2⟩,h3⟩:=hc (i.toNat*y.size+j) (by simp at hj;omega);exact⟨h1,by rw[Nat.add_assoc];exact h2⟩
    ·obtain⟨⟨h1,h2⟩,h3⟩:=hc (i.toNat*y.size+j) (by simp at hj;omega);rw[HM];exact h3
    ·simp[execOp,ho,hv,hi,Instr.indexAt,asIntOf,run_underlying hu,h0,h1,hy.sizeOf,Instr.sureAddr,Bj]
   ·cases h
  ·cases h
 ·cases h
def fm(L:Jt)(t:TypeId)(d ix:D):Ev:=
 match ix with
 | .raw (.int _ i)=>match d with
  | .agg cs=>match ty L t with
   | some ⟨.array n e,_,_,_⟩=>match ty L e with
    | some y=>some (0<=i/\i<n/\i.toNat*y.size+y.size<=cs.length/\(y.k.agg=false->y.size=1),mk y (cs.drop (i.toNat*y.size)))
    | none=>none
   | _=>none
  | .raw (.string b)=>match ty L t with
   | some ⟨.str,_,_,_⟩=>some (0<=i/\i<b.size,.raw (.int .u8 (b.data.getD i.toNat 0).toNat))
   | _=>none
  | _=>none
 | _=>none
def Qpp(hL:Jq P L){t:TypeId}{x ix}(ho:o.op=.index t x ix){p}{d}(h:fm L t (Qt s.fr x) (Qt s.fr ix)=some (p,d))(hp:p):WE P base nt o s d:=by
 intro Z pl a w r;have hx:=r.eval x;have Mw:=r.eval ix;unfold fm at h;generalize Qt s.fr x=dx at *;generalize Qt s.fr ix=di at *;split at h
 ·rename_i k i;have hi:=JG Mw;split at h
  ·rename_i cs;split at h
   ·rename_i n e _ _ _ he;split at h
    ·rename_i y Cy;have hy:=hL _ _ Cy;simp only[Za,Zp]at h;obtain⟨rfl,rfl⟩:=h;obtain⟨h0,h1,h2,h3⟩:=hp;obtain⟨vs,hv,hl,hr⟩:=FW hx;obtain⟨v,TO,Zl⟩:=Qem hy cs vs hl hr _ h2 h3;refine⟨v,TO,λw' _=>?_⟩;simp[execOp,ho,hv,hi,Instr.index,asIntOf,run_underlying (pR (hL _ _ he) rfl),h0,h1,hy.sizeOf,Zl]
    ·cases h
   ·cases h
  ·rename_i b;split at h
   ·rename_i he;simp only[Za,Zp]at h;obtain⟨rfl,rfl⟩:=h;obtain⟨h0,h1⟩:=hp;have hv:=JG hx;refine⟨_,.cl _ _ (.raw _),λw' _=>?_⟩;have Qc:i.toNat<b.size:=by omega
    have:b[i.toNat]? = some (b.data.getD i.toNat 0):=by
     rw[getElem?_pos b i.toNat Qc];show some (b.data[i.toNat])=_;rw[y6,kv (by exact Qc)];rfl
    simp[execOp,ho,hv,hi,Instr.index,asIntOf,run_underlying (TJ (hL _ _ he) rfl),h0,this]
   ·cases h
  ·cases h
 ·cases h
def Qpq{x}{i}(ho:o.op=.extract x i){cs:List D}(hx:Qt s.fr x=.tup cs)(hi:i<cs.length):WE P base nt o s (nth cs i):=by
 intro Z pl a w r;have h:=r.eval x;rw[hx]at h;obtain⟨vs,hv,hl,hr⟩:=Qeh h;refine⟨_,hr i hi,λw' _=>?_⟩;have:i<vs.length:=by omega
 simp[execOp,ho,hv,Instr.extract,Zb,Ze,this]
def Qpr{u}{t:TypeId}{x}(ho:o.op=.unOp u t x){b}(hu:u=.not)(hx:Qt s.fr x=.raw (.bool b)):WE P base nt o s (.raw (.bool (!b))):=by
 intro Z pl a w r;have h:=r.eval x;rw[hx]at h;have hv:=JG h;exact⟨_,.cl _ _ (.raw _),λw' _=>by simp[execOp,ho,hv,hu,Op.unary]⟩
def Qps{u}{t:TypeId}{x}(ho:o.op=.unOp u t x){k:IntKind}{n}(hu:u=.neg)(hx:Qt s.fr x=.raw (.int k n)):WE P base nt o s (.raw (.int k (k.wrap (0 - n)))):=by
 intro Z pl a w r;have h:=r.eval x;rw[hx]at h;have hv:=JG h;exact⟨_,.cl _ _ (.raw _),λw' _=>by simp[execOp,ho,hv,hu,Op.unary,Op.intArith]⟩
def Qpt{u}{t:TypeId}{x}(ho:o.op=.unOp u t x){k:IntKind}{n}(hu:u=.xor)(hx:Qt s.fr x=.raw (.int k n)):WE P base nt o s (.raw (.int k (bits .xor k (if k.signed then -1 else k.max) n))):=by
 intro Z pl a w r;have h:=r.eval x;rw[hx]at h;have hv:=JG h;exact⟨_,.cl _ _ (.raw _),λw' _=>by simp[execOp,ho,hv,hu,Op.unary,Op.intBits,bits]⟩
def D.there:D->Bool
 | .ptr _ _ _ _ | .ip _ | .clo _ _ _=>true
 | .raw (.func (.func _) _ _)=>true
 | _=>false
def Qpu{x}(ho:o.op=.nilCheck x){d:D}(hx:Qt s.fr x=d)(hd:d.there=true):WE P base nt o s d:=by
 intro Z pl a w r;have h:=r.eval x;rw[hx]at h;cases d<;>try (simp only[D.there,qa]at hd;done)
 case ptr l g i j=>
  obtain⟨_,_,ad,hv,_⟩:=FV h;exact⟨_,h,λw' _=>by simp[execOp,ho,hv]⟩
 case ip cs=>
  obtain⟨_,_,_,hv,_⟩:=Mu h;exact⟨_,h,λw' _=>by simp[execOp,ho,hv]⟩
 case raw v=>
  have hv:=JG h;cases v with
  | func fn first QI=>
   cases fn with
   | func f=>exact⟨_,h,λw' _=>by simp[execOp,ho,hv]⟩
   | _=>simp only[D.there,qa]at hd
  | _=>simp only[D.there,qa]at hd
 case clo f nf cs=>
  obtain⟨vs,hv,_⟩:=pS h;exact⟨_,h,λw' _=>by simp[execOp,ho,hv]⟩
def fo(L:Jt)(src dst:TypeId):D->Ev
 | .raw (.int _ n)=>match ty L dst,ty L src with
  | some ⟨.int k,_,_,_⟩,some _=>some (True,.raw (.int k (k.wrap n)))
  | _,_=>none
 | .raw (.string b)=>match ty L dst,ty L src with
  | some ⟨.str,_,_,_⟩,some ⟨.str,_,_,_⟩=>some (True,.raw (.string b))
  | _,_=>none
 | _=>none
def Qpv(hL:Jq P L){src dst:TypeId}{x}(ho:o.op=.convert src dst x){p}{d}(h:fo L src dst (Qt s.fr x)=some (p,d)):WE P base nt o s d:=by
 intro Z pl a w r;have hx:=r.eval x;unfold fo at h;generalize Qt s.fr x=dx at *;split at h
 ·split at h
  ·rename_i k _ _ _ ys hd hs;simp only[Za,Zp]at h;obtain⟨rfl,rfl⟩:=h;have hv:=JG hx;refine⟨_,.cl _ _ (.raw _),λw' _=>?_⟩;obtain⟨sd,h1,h2⟩:=(hL _ _ hs).under;simp[execOp,ho,hv,convert,run_underlying h1,run_underlying (Eg (hL _ _ hd) rfl),Conv.intToInt]
  ·cases h
 ·split at h
  ·rename_i hd hs;simp only[Za,Zp]at h;obtain⟨rfl,rfl⟩:=h;have hv:=JG hx;refine⟨_,.cl _ _ (.raw _),λw' _=>?_⟩;simp[execOp,ho,hv,convert,run_underlying (TJ (hL _ _ hs) rfl),run_underlying (TJ (hL _ _ hd) rfl)]
  ·cases h
 ·cases h
def fp(L:Jt)(t:TypeId):D->Ev
 | .ref _ _ _ n=>match ty L t with
  | some ⟨.slice _,_,_,_⟩=>some (True,.raw (.int .i64 n))
  | _=>none
 | .imm _ n _=>match ty L t with
  | some ⟨.slice _,_,_,_⟩=>some (True,.raw (.int .i64 n))
  | _=>none
 | .nil=>match ty L t with
  | some ⟨.slice _,_,_,_⟩=>some (True,.raw (.int .i64 0))
  | _=>none
 | .raw (.string b)=>match ty L t with
  | some ⟨.str,_,_,_⟩=>some (True,.raw (.int .i64 b.size))
  | _=>none
 | _=>none
def vJ{P:Program}{o:Oper}{a:Act}{bi:Builtin}{args:Array Operand}{Jm:Array TypeId}(ho:o.op=.call ⟨.builtin bi,args,Jm⟩)(w:World):
  (execOp a.eval o).run P w=(builtin bi Jm o.type (args.map fun | .const _=>true|_=>false) (args.map a.eval)).run P w:=by
 simp[execOp,ho,resolve,invoke];rfl
def fq(hL:Jq P L){x}{t:TypeId}(ho:o.op=.call ⟨.builtin .len,#[x],#[t]⟩){p}{d}(h:fp L t (Qt s.fr x)=some (p,d)):WE P base nt o s d:=by
 intro Z pl a w r;have hx:=r.eval x;unfold fp at h;generalize Qt s.fr x=dx at *;split at h
 ·split at h
  ·rename_i he;simp only[Za,Zp]at h;obtain⟨rfl,rfl⟩:=h;obtain⟨_,_,ad,cap,hv,_⟩:=Cw hx;refine⟨_,.cl _ _ (.raw _),λw' _=>?_⟩;rw[vJ ho];simp[builtin,Builtin.len_,hv,run_underlying (xZ (hL _ _ he) rfl),goInt]
  ·cases h
 ·split at h
  ·rename_i he;simp only[Za,Zp]at h;obtain⟨rfl,rfl⟩:=h;obtain⟨ad,cap,_,_,_,hv,_⟩:=TL hx;refine⟨_,.cl _ _ (.raw _),λw' _=>?_⟩;rw[vJ ho];simp[builtin,Builtin.len_,hv,run_underlying (xZ (hL _ _ he) rfl),goInt]
  ·cases h
 ·split at h
  ·rename_i he;simp only[Za,Zp]at h;obtain⟨rfl,rfl⟩:=h;obtain⟨ad,hv⟩:=Ei hx;refine⟨_,.cl _ _ (.raw _),λw' _=>?_⟩;rw[vJ ho];simp[builtin,Builtin.len_,hv,run_underlying (xZ (hL _ _ he) rfl),goInt]
  ·cases h
 ·split at h
  ·rename_i he;simp only[Za,Zp]at h;obtain⟨rfl,rfl⟩:=h;have hv:=JG hx;refine⟨_,.cl _ _ (.raw _),λw' _=>?_⟩;rw[vJ ho];simp[builtin,Builtin.len_,hv,run_underlying (TJ (hL _ _ he) rfl),goInt]
  ·cases h
 ·cases h
def Qpw{x y}{Jm:Array TypeId}(ho:o.op=.call ⟨.builtin .max,#[x,y],Jm⟩){k k'}{m n}(hx:Qt s.fr x=.raw (.int k m))(hy:Qt s.fr y=.raw (.int k' n)):WE P base nt o s (.raw (.int k (max m n))):=by
 intro Z pl a w r;have h1:=r.eval x;have h2:=r.eval y;rw[hx]at h1;rw[hy]at h2;refine⟨_,.cl _ _ (.raw _),λw' _=>?_⟩;rw[vJ ho];simp[builtin,Builtin.max_,JG h1,JG h2,Builtin.max2];split<;>omega
def Qpx{x y}{Jm:Array TypeId}(ho:o.op=.call ⟨.builtin .min,#[x,y],Jm⟩){k k'}{m n}(hx:Qt s.fr x=.raw (.int k m))(hy:Qt s.fr y=.raw (.int k' n)):WE P base nt o s (.raw (.int k (min m n))):=by
 intro Z pl a w r;have h1:=r.eval x;have h2:=r.eval y;rw[hx]at h1;rw[hy]at h2;refine⟨_,.cl _ _ (.raw _),λw' _=>?_⟩;rw[vJ ho];simp[builtin,Builtin.min_,JG h1,JG h2,Builtin.min2];split<;>omega
def Qpy{f}{first QI:Array Operand}(ho:o.op=.makeFunc (.func f) first QI):WE P base nt o s (.clo f first.size ((first.toList++QI.toList).map (Qt s.fr))):=by
 intro Z pl a w r;refine⟨.func (.func f) (((first.toList++QI.toList).map a.eval).take first.size).toArray (((first.toList++QI.toList).map a.eval).drop first.size).toArray,.clo f first.size _ ((first.toList++QI.toList).map a.eval) (by simp) (λi hi=>?_),λw' _=>?_⟩
 ·have JQ:i<(first.toList++QI.toList).length:=by simpa using hi
  simp only[nth,Zb,Ze,KG];rw[QW JQ];exact r.eval _
 ·have e1:Array.map a.eval QI=(List.map a.eval QI.toList).toArray:=Array.ext' (by simp);have e2:Array.map a.eval first=(List.map a.eval first.toList).toArray:=Array.ext' (by simp);have e3:((first.toList++QI.toList).map a.eval).take first.size=first.toList.map a.eval:=by rw[jN,List.take_append_of_le_length (by simp),List.take_of_length_le (by simp)]
  have e4:((first.toList++QI.toList).map a.eval).drop first.size=QI.toList.map a.eval:=by rw[jN,List.drop_append_of_le_length (by simp),List.drop_of_length_le (by simp),zo]
  rw[e3,e4];simp[execOp,ho,Instr.makeFunc,e1,e2]
end
variable {Z:Nat->Prop}
def Ext(w w':World):Prop:=∀b,b<w.heap.size->w'.heap[b]? = w.heap[b]?
def Ext.refl(w):Ext w w:=λ_ _=>rfl
def Ext.trans{a b c}(h:Ext a b)(k:Ext b c):Ext a c:=λi hi=>by
 have h1:=h i hi;have h2:i<b.heap.size:=by
  rw[kv hi]at h1;exact(WN.1 h1).1
 rw[k i h2,h1]
def calm(o:Oper):Bool:=match o.op with
 | .store .. | .mapUpdate .. | .insert .. | .entryStore .. | .next ..=>false
 | .call ⟨.builtin .len,_,_⟩ | .call ⟨.builtin .min,_,_⟩ | .call ⟨.builtin .max,_,_⟩=>true
 | .call ⟨.builtin _,_,_⟩=>false
 | _=>true
def kE(P:Program)(base nt:Nat)(o:Oper)(s:St)(h':List Ob)(d:D):Prop:=
 ∀(Z:Nat->Prop) pl a w,Rel Z base nt s pl a w->base<=w.heap.size->∃v w' Qm,((execOp a.eval o).run P w=.ok (.value v) w'\/((execOp a.eval o).run P w=.ok .skip w'/\v=Go.undef)) /\
  Tr s.h pl w h' Qm w'/\Zv Z base h' Qm w'/\QE Z h' Qm w' d v/\Below base w w'/\(calm o=true->Ext w w')
def Mx(P:Program)(base nt:Nat)(o:Oper)(s:St)(h':List Ob)(d:D):Prop:=
 ∀(Z:Nat->Prop) pl a w,Rel Z base nt s pl a w->base<=w.heap.size->∃v w' Qm,((execOp a.eval o).run P w=.ok (.value v) w'\/((execOp a.eval o).run P w=.ok .skip w'/\v=Go.undef)) /\
  Tr s.h pl w h' Qm w'/\Zv Z base h' Qm w'/\QE Z h' Qm w' d v/\Below base w w'
def Mx.up{P}{base nt}{o}{s}{h'}{d}(h:Mx P base nt o s h' d)(hc:calm o=false):kE P base nt o s h' d:=λZ pl a w r hb=>
 let ⟨v,w',Qm,h1,h2,h3,h4,h5⟩:=h Z pl a w r hb
 ⟨v,w',Qm,h1,h2,h3,h4,h5,λe=>by rw[hc]at e;cases e⟩
def Bl:Value->Bool
 | .agg _ | .tuple _=>false
 | _=>true
def D.KK:D->Bool
 | .raw v=>Bl v
 | .undef | .agg _ | .tup _=>false
 | _=>true
def YR:D->Option (List D)
 | .agg cs=>bif cs.all D.KK then some cs else none
 | d=>bif d.KK then some [d] else none
def pZ{h}{pl}{w}{d:D}{v}(r:QE Z h pl w d v)(hd:d.KK=true):Bl v=true:=by
 cases r with
 | cl _ _ hc=>cases hc<;>first|rfl|exact hd|(simp[D.KK]at hd)
 | ref=>rfl
 | ptr=>rfl
 | mref _ _ o p b ho hp hk hg hs=>rw[hk.2];unfold TH;split<;>rfl
 | clo=>rfl
 | agg=>simp[D.KK]at hd
 | tup=>simp[D.KK]at hd
def Qpz{v:Value}(h:Bl v=true):v.cells=#[v]:=by cases v<;>first|rfl|cases h
def p9{h}{pl}{w}{d}{v}(r:QE Z h pl w d v){cs}(hc:YR d=some cs):
  v.cells.size=cs.length/\∀i,i<cs.length->QE Z h pl w (nth cs i) (Zb v.cells.toList i)/\Bl (Zb v.cells.toList i)=true:=by
 have one:∀d':D,QE Z h pl w d' v->(bif d'.KK then some [d'] else none)=some cs->v.cells.size=cs.length/\∀i,i<cs.length->QE Z h pl w (nth cs i) (Zb v.cells.toList i)/\Bl (Zb v.cells.toList i)=true:=by
  intro d' r' h';cases hd:d'.KK
  ·rw[hd]at h';cases h'
  ·rw[hd]at h';simp only[Yr,Za]at h';subst h';have ho:=pZ r' hd;rw[Qpz ho];refine⟨rfl,λi hi=>?_⟩;have:i=0:=by simp at hi;omega
   subst this;exact⟨r',ho⟩
 cases d with
 | agg cs'=>
  simp only[YR]at hc;obtain⟨ha,hc⟩:=kD hc;cases hc;obtain⟨vs,rfl,hl,hr⟩:=FW r;refine⟨by simp[Value.cells,hl],λi hi=>⟨by simpa[Value.cells] using hr i hi,?_⟩⟩;refine pZ (by simpa[Value.cells] using hr i hi:QE Z h pl w (nth cs i) _) ?_;rw[X6]at ha;have:=ha (nth cs i) (by simp[nth,Ze,hi]);exact this
 | _=>exact one _ r hc
def ft{P}(b)(el):∀(vs:List Value) (i q:Nat) (w:World) (c:Array Value),w.heap[b]? = some (.cells c el (0,0))->q+i+vs.length<=c.size->(∀j,j<vs.length->Bl (Zb vs j)=true) ->
  ∃w' c',(storeCells ⟨b,q,none⟩ vs i).run P w=.ok () w'/\w'.heap[b]? = some (.cells c' el (0,0))/\c'.size=c.size /\
   (∀k,c'[k]? = if q+i<=k/\k<q+i+vs.length then vs[k - (q+i)]? else c[k]?)/\(∀k,k≠b->w'.heap[k]? = w.heap[k]?)/\w'.heap.size=w.heap.size/\w'.os=w.os/\w'.tape=w.tape/\w'.output=w.output
 | [],i,q,w,c,hb,hs,ho=>⟨w,c,by simp[storeCells],hb,rfl,λk=>by rw[Qd];simp,λ_ _=>rfl,rfl,rfl,rfl,rfl⟩
 | v::vs,i,q,w,c,hb,hs,ho=>by
  simp only[Vh]at hs;have h0:Bl v=true:=ho 0 (by simp);have Qc:q+i<c.size:=by omega
  have Ek:w.cell? ⟨b,q+i,none⟩=some c[q+i]:=by rw[cell_of_row w b _ c el (0,0) hb];simp[Qc]
  have QpA:w.frozen? ⟨b,q+i,none⟩=false:=frozen_of_row w b _ c el hb;have zx:=heap_setCell_same w b (q+i) c el v hb;obtain⟨w',c',h1,h2,h3,h4,h5,h6,h7,h8,h9⟩:=ft (P:=P) b el vs (i+1) q (w.setCell ⟨b,q+i,none⟩ v) _ zx (by simp;omega) (λj hj=>by
   have:=ho (j+1) (by simp;omega);simpa[Zb] using this)
  refine⟨w',c',?_,h2,by rw[h3];simp,λk=>?_,λk hk=>by rw[h5 k hk];exact Below.heap_setCell _ _ _ _ hk,by rw[h6];simp,by rw[h7];rfl,by rw[h8];rfl,by rw[h9];rfl⟩
  ·have ZF:(store (⟨b,q+i,none⟩:Addr) v).run P w=.ok () (w.setCell ⟨b,q+i,none⟩ v):=by
    cases v<;>first|(simp[Bl]at h0;done)|(simp[store,Sem.run,Ek,QpA])
   simp only[storeCells,Sem.run_bind,Bj,ZF,Result.andThen_ok];exact h1
  ·rw[h4 k];by_cases jh:q+i=k
   ·subst jh;rw[Qd (by omega),Qf (by simp)];simp[Qc]
   ·by_cases O5:q+i<=k/\k<q+i+(v::vs).length
    ·rw[Qf O5,Qf (by simp at O5;omega)];obtain⟨m,rfl⟩:∃m,k=q+i+(m+1):=⟨k - (q+i) - 1,by omega⟩;rw[show q+i+(m+1) - (q+i)=m+1 by omega,show q+i+(m+1) - (q+(i+1))=m by omega];simp
    ·rw[Qd O5,Qd (by simp at O5;omega),pJ (by omega)]
def Cz(cs:List D)(j:Nat)(ds:List D):List D:=cs.take j++ds++cs.drop (j+ds.length)
def fu{cs:List D}{j}{ds:List D}(h:j+ds.length<=cs.length):(Cz cs j ds).length=cs.length:=by simp[Cz];omega
def Qen{cs:List D}{j}{ds:List D}(h:j+ds.length<=cs.length)(i):nth (Cz cs j ds) i=if j<=i/\i<j+ds.length then nth ds (i - j) else nth cs i:=by
 simp only[nth,Cz,Ze];by_cases h1:i<j
 ·rw[Qd (by omega),WC,JD (by simp;omega)];simp[h1]
 ·by_cases h2:i<j+ds.length
  ·rw[Qf ⟨by omega,h2⟩,WC,Kf (by simp;omega),JD (by simp;omega)];simp;congr 3;omega
  ·rw[Qd (by omega),Kf (by simp;omega)];simp only[HA,Zj,FL];congr 2;omega
def setRow(o:Ob)(i:Nat)(cells:List D):Ob:=
 { o with row:=bif o.kd.Mp then λ_=>cells else λk=>bif Nat.beq k i then cells else o.row k }
def Qeo{o:Ob}{i}{cells:List D}(h1:o.kd.Mp=true->o.n=1){k}(hi:i<o.n)(hk:k<o.n):(setRow o i cells).row k=if k=i then cells else o.row k:=by
 unfold setRow;cases h:o.kd.Mp
 ·simp only[Xw];by_cases hh:k=i
  ·subst hh;simp
  ·have:Nat.beq k i=false:=by rw[<- qb,Wp];exact hh
   rw[this,Qd hh];rfl
 ·have:=h1 h;simp only[Yr];rw[Qf (by omega)]
section
variable {P:Program}{L:Jt}{base nt:Nat}{s:St}{o:Oper}
def O6{w w':World}{b}(hb:base<=b)(h5:∀k,k≠b->w'.heap[k]? = w.heap[k]?)(h6:w'.heap.size=w.heap.size)(h7:w'.os=w.os)(h8:w'.tape=w.tape)(h9:w'.output=w.output):Below base w w':=
 ⟨h7,h8,h9,by omega,λk hk=>h5 k (by omega)⟩
def TP(L:Jt)(h:List Ob)(t:TypeId)(ad x:D):Option (Prop × List Ob):=
 match ty L t,ad,YR x with
 | some y,.ptr l g i j,some cs=>match h[l]? with
  | some o=>some (g=o.gen/\i<o.n/\j+cs.length<=o.sz/\cs.length=y.size/\(o.kd.Mp=true->o.n=1)/\o.kd.ro=false,h.set l (setRow o i (Cz (o.row i) j cs)))
  | none=>none
 | _,_,_=>none
def QpB(hL:Jq P L){t:TypeId}{ad x}(ho:o.op=.store t ad x){p}{h'}(h:TP L s.h t (Qt s.fr ad) (Qt s.fr x)=some (p,h'))(hp:p):Mx P base nt o s h' .undef:=by
 intro Z pl a w r K7;have hx:=r.eval x;have wY:=r.eval ad;unfold TP at h;split at h
 ·rename_i y l g i j cs Cy rf JW;rw[rf]at wY;split at h
  ·rename_i ob Zt;simp only[Za,Zp]at h;obtain⟨rfl,rfl⟩:=h;obtain⟨hg,hi,hj,JP,h1,hro⟩:=hp;have hy:=hL _ _ Cy;obtain⟨o',p',adr,hv,ZT,Jl,ZE,vH,VN⟩:=FV wY;rw[Zt]at ZT;cases ZT;obtain⟨b,q,rfl,rfl⟩:=VN hg;obtain⟨Zd,xx⟩:=r.o.at_ l ob b q Zt Jl;obtain⟨c,el,hb,My,Ku,ZH⟩:=xx.cells ZE;obtain⟨ZP,Mz⟩:=p9 hx JW;have Qep:j+cs.length<=(ob.row i).length:=by rw[Ku i hi];exact hj
   have hle:i*ob.sz+ob.sz<=ob.n*ob.sz:=by
    have:=qN ob.sz (show i+1<=ob.n from hi);rw[VL]at this;omega
   obtain⟨w',c',g1,g2,g3,g4,g5,g6,g7,g8,g9⟩:=ft (P:=P) b el (a.eval x).cells.toList 0 (q+(i*ob.sz+j)) w c hb (by simp[ZP];omega) (λk hk=>(Mz k (by simpa[ZP] using hk)).2);have T:Tr s.h pl w (s.h.set l (setRow ob i (Cz (ob.row i) j cs))) pl w':=Tr.QX r.o Zt Jl rfl rfl rfl (λk hk _=>g5 k hk) (λc1 pP e1=>by rw[hb]at e1;cases e1;exact⟨c',g2,g3⟩);refine⟨Go.undef,w',pl,.inr ⟨?_,rfl⟩,T,?_,.cl _ _ (.undef _),O6 (Zd hro) g5 g6 g7 g8 g9⟩
   ·simp[execOp,ho,hv,Instr.storeAt,Instr.sureAddr,storeVar,hy.sizeOf,ZP,JP,g1]
   ·refine Zv.QX (hro:=rfl) r.o Zt Jl ZE ZE rfl rfl (λk hk _=>g5 k hk) hb g2 g3 (by rw[g3];exact My) (λk hk=>?_) (λk m hk hm=>?_)
    ·rw[Qeo h1 hi hk];split
     ·rw[fu Qep,Ku i hi];rfl
     ·exact Ku k hk
    ·rw[Qeo h1 hi hk];have ZE:k<ob.n:=hk;have O7:m<ob.sz:=hm;show ∃v,c'[q+(k*ob.sz+m)]? = some v/\_;rw[g4];simp only[FM,Array.length_toList,ZP];by_cases TQ:k=i
     ·subst TQ;rw[Qf rfl,Qen Qep];by_cases hmj:j<=m/\m<j+cs.length
      ·rw[Qf hmj,Qf (by omega)];refine⟨Zb (a.eval x).cells.toList (m - j),?_,((Mz (m - j) (by omega)).1).tr T⟩;rw[show q+(k*ob.sz+m) - (q+(k*ob.sz+j))=m - j by omega];simp only[Zb,Ze];rw[QW (by simp[ZP];omega)];rfl
      ·rw[Qd hmj,Qd (by omega)];obtain⟨v,HO,Vx⟩:=ZH k m ZE O7;exact⟨v,HO,Vx.tr T⟩
     ·rw[Qd TQ,Qd]
      ·obtain⟨v,HO,Vx⟩:=ZH k m ZE O7;exact⟨v,HO,Vx.tr T⟩
      ·intro QIW;rcases Nat.lt_or_gt_of_ne TQ with Qc|Qc
       ·have:=qN ob.sz (show k+1<=i from Qc);rw[VL]at this;omega
       ·have:=qN ob.sz (show i+1<=k from Qc);rw[VL]at this;omega
  ·cases h
 ·cases h
def FX{w:World}(h:base<=w.heap.size)(ob:Obj):Below base w (w.alloc ob):=(Below.refl base w).alloc h ob
def Qer{pl}{a}{w:World}(r:Rel Z base nt s pl a w)(K7:base<=w.heap.size)(el)(v:Value)(cs:List D)(hl:v.cells.size=cs.length)(hr:∀i,i<cs.length->QE Z s.h pl w (nth cs i) (Zb v.cells.toList i)):
  Tr s.h pl w (s.h++[⟨.one,0,cs.length,1,λ_=>cs⟩]) (pl++[some (w.heap.size,0)]) (w.alloc (.cells v.cells el))/\Zv Z base (s.h++[⟨.one,0,cs.length,1,λ_=>cs⟩]) (pl++[some (w.heap.size,0)]) (w.alloc (.cells v.cells el)) /\
   QE Z (s.h++[⟨.one,0,cs.length,1,λ_=>cs⟩]) (pl++[some (w.heap.size,0)]) (w.alloc (.cells v.cells el)) (.ptr s.h.length 0 0 0) (.pointer (some ⟨w.heap.size,0,none⟩)):=by
 have e:∀b,b<w.heap.size->(w.alloc (.cells v.cells el)).heap[b]? = w.heap[b]? := λb hb=>xY w _ b hb;have Kb:(w.alloc (.cells v.cells el)).heap[w.heap.size]? = some (.cells v.cells el (0,0)):=heap_alloc_new w _;have T:Tr s.h pl w (s.h++[⟨.one,0,cs.length,1,λ_=>cs⟩]) (pl++[some (w.heap.size,0)]) (w.alloc (.cells v.cells el)):=Tr.push r.o e _ _ (by intro b q h;simp at h;omega);refine⟨T,?_,?_⟩
 ·refine Zv.push r.o e _ rfl (QB _) K7 Kb (by simp[hl]) (λ_ _=>rfl) (λi j hi hj=>?_);have rh:i=0:=by simp at hi;omega
  subst rh;refine⟨Zb v.cells.toList j,?_,(hr j hj).tr T⟩;simp only[Nat.zero_mul,JV,Zb,Ze];have:j<v.cells.size:=by rw[hl];exact hj
  rw[wQ,kv this];rfl
 ·have Zk:pl.length=s.h.length:=r.o.len;exact .ptr _ _ _ _ ⟨.one,0,cs.length,1,λ_=>cs⟩ (some (w.heap.size,0)) _ (by simp) (by rw[<- Zk];simp) rfl (QB _) (λ_=>⟨_,_,rfl,by simp⟩)
def QpC(hL:Jq P L){t:TypeId}{ad x}(ho:o.op=.store t ad x){p}{h'}(h:TP L s.h t (Qt s.fr ad) (Qt s.fr x)=some (p,h'))(hp:p):kE P base nt o s h' .undef:=
 (QpB hL ho h hp).up (by simp[calm,ho])
def QpD{t:TypeId}{x}(ho:o.op=.box t x){cs:List D}(hx:YR (Qt s.fr x)=some cs):kE P base nt o s (s.h++[⟨.one,0,cs.length,1,λ_=>cs⟩]) (.ptr s.h.length 0 0 0):=by
 intro Z pl a w r K7;obtain⟨ZP,Mz⟩:=p9 (r.eval x) hx;obtain⟨h1,h2,h3⟩:=Qer r K7 t (a.eval x) cs ZP (λi hi=>(Mz i hi).1);refine⟨_,_,_,.inl ?_,h1,h2,h3,FX K7 _,λ_ b hb=>xY _ _ b hb⟩;simp[execOp,ho,Instr.box,newVar,newRow]
def QpE(hL:Jq P L){t:TypeId}(ho:o.op=.alloc t){y:Ty}(hy:ty L t=some y):kE P base nt o s (s.h++[⟨.one,0,(y.zero.map Kq).length,1,λ_=>y.zero.map Kq⟩]) (.ptr s.h.length 0 0 0):=by
 intro Z pl a w r K7;obtain⟨z,hz,Zl⟩:=(hL _ _ hy).zeroValue;obtain⟨h1,h2,h3⟩:=Qer r K7 t z (y.zero.map Kq) (by rw[<- hz];simp) (λi hi=>by
  rw[<- hz]at hi ⊢;have JQ:i<z.cells.size:=by simpa using hi
  refine .cl _ _ ?_;simp only[nth,Zb,Ze,KG,wQ,kv JQ,K0,KA];exact Eh _ _ _)
 refine⟨_,_,_,.inl ?_,h1,h2,h3,FX K7 _,λ_ b hb=>xY _ _ b hb⟩;simp[execOp,ho,Instr.alloc,newVar,newRow,Zl]
end
variable {Z:Nat->Prop}
def TR(h:List Ob):D->Option (Prop × Nat × Nat × (Nat->List D))
 | .ref l g off n=>match h[l]? with
  | some o=>some (g=o.gen/\off+n<=o.n,n,o.sz,λk=>o.row (off+k))
  | none=>none
 | .imm sz n row=>some (True,n,sz,row)
 | _=>none
structure Src (Z:Nat->Prop) (h:List Ob) (pl:List Pl) (w:World) (v:Value) (n sz:Nat) (rows:Nat->List D) (a:Option Addr) (cap:Nat) (vs:Nat->Nat->Value):Prop where
 v:v=.slice a n cap
 len:∀i,i<n->(rows i).length=sz
 cell:∀i j,i<n->j<sz->∃b q,a=some ⟨b,q,none⟩/\w.cell? ⟨b,q+(i*sz+j),none⟩=some (vs i j)
 rel:∀i j,i<n->j<sz->QE Z h pl w (nth (rows i) j) (vs i j)
def ri{base}{h}{pl}{w}(R:Zv Z base h pl w){d}{v}(r:QE Z h pl w d v){p}{n sz}{rows}(e:TR h d=some (p,n,sz,rows))(hp:p):∃a cap vs,Src Z h pl w v n sz rows a cap vs:=by
 unfold TR at e;split at e
 ·rename_i l g off k;split at e
  ·rename_i o ho;simp only[Za,Zp]at e;obtain⟨rfl,rfl,rfl,rfl⟩:=e;obtain⟨o',p',a,cap,hv,ZT,Jl,ZE,vH,VN⟩:=Cw r;rw[ho]at ZT;cases ZT;have hn:=hp.2;rcases VN hp.1 with ⟨h1,h2⟩|⟨b,q,c,el,WD,ha,hb,hc,hl⟩
   ·subst h1;exact⟨a,cap,λ_ _=>Go.undef,hv,λi hi=>by omega,λi j hi=>by omega,λi j hi=>by omega⟩
   ·subst WD;obtain⟨Zd,xx⟩:=R.at_ l o b q ho Jl;obtain⟨c',O8,KR,JW,Ku,ZH⟩:=xx.cells ZE;rw[hb]at KR;cases KR;refine⟨a,cap,λi j=>(c[q+((off+i)*o.sz+j)]?).getD Go.undef,hv,λi hi=>Ku _ (by omega),λi j hi hj=>?_,λi j hi hj=>?_⟩
    ·obtain⟨u,hu,hr⟩:=ZH (off+i) j (by omega) hj;refine⟨b,q+off*o.sz,ha,?_⟩;rw[cell_of_row w b _ c el (0,0) hb,show q+off*o.sz+(i*o.sz+j)=q+((off+i)*o.sz+j) by rw[VL];omega,hu];rfl
    ·obtain⟨u,hu,hr⟩:=ZH (off+i) j (by omega) hj;simp only[hu,KA];exact hr
  ·cases e
 ·simp only[Za,Zp]at e;obtain⟨rfl,rfl,rfl,rfl⟩:=e;obtain⟨a,cap,b,q,vs,hv,ha,hl,hs,hc⟩:=TL r;exact⟨a,cap,vs,hv,hs,λi j hi hj=>⟨b,q,ha (by omega),(hc i j hi hj).1.2⟩,λi j hi hj=>.cl _ _ (hc i j hi hj).2⟩
 ·cases e
def flat(n sz:Nat)(vs:Nat->Nat->Value):List Value:=(List.range (n*sz)).map λk=>vs (k / sz) (k % sz)
def ji(n sz)(vs:Nat->Nat->Value):(flat n sz vs).length=n*sz:=by simp[flat]
def HP{n sz}{vs}{i j}(hi:i<n)(hj:j<sz):(flat n sz vs)[i*sz+j]? = some (vs i j):=by
 have h1:i*sz+j<n*sz:=by have:=qN sz (show i+1<=n from hi);rw[VL]at this;omega
 have h2:(i*sz+j) / sz=i:=by rw[OV,Nat.mul_add_div (by omega),Nat.div_eq_of_lt hj];rfl
 have h3:(i*sz+j) % sz=j:=by rw[OV,Nat.mul_add_mod,Cu hj]
 simp[flat,h1,h2,h3]
def div_lt{n sz k:Nat}(h:k<n*sz):k / sz<n/\k % sz<sz/\k / sz*sz+k % sz=k:=by
 have h0:0<sz:=Nat.pos_of_ne_zero (λe=>by subst e;simp at h);exact⟨Nat.div_lt_of_lt_mul (by rw[OV];exact h),qM _ h0,by rw[OV];exact eN k sz⟩
def Src.first{P}{h}{pl}{w:World}{v}{n sz}{rows}{a}{cap}{vs}(S:Src Z h pl w v n sz rows a cap vs)(w':World)(hw:w'.heap=w.heap):
  (Builtin.firstCells sz n v).run P w'=.ok (flat n sz vs).toArray w':=by
 rw[S.v];cases a with
 | none=>
  have:n*sz=0:=by
   by_cases h:n*sz=0
   ·exact h
   ·obtain⟨h1,h2,_⟩:=div_lt (n:=n) (sz:=sz) (k:=0) (by omega);obtain⟨b,q,hh,_⟩:=S.cell _ _ h1 h2;cases hh
  simp[Builtin.firstCells,flat,this]
 | some ad=>
  refine run_firstCells_some w' sz n ad n cap _ (ji _ _ _) (λk u hu=>?_);have hk:k<n*sz:=by have:=(Xd.1 hu).1;rw[ji]at this;exact this
  obtain⟨h1,h2,h3⟩:=div_lt hk;obtain⟨b,q,hh,hc⟩:=S.cell _ _ h1 h2;cases hh;rw[<- h3,HP h1 h2]at hu;cases hu;rw[Bj,World.cell?_of_block (w:=w) (by rw[hw]),<- h3,hc];simp only[h3]
def rj(z:Array Value)(n:Nat):(Builtin.zeroCells z n).size=n*z.size:=by simp[Builtin.zeroCells]
def Qes{P:Program}{t ty e:TypeId}{y:Ty}(ht:P.underlying t=some (.slice e))(hy:Xf P e y)(hz:y.zero.length=y.size)(w:World)(b:Option Addr)(qP Bm:Nat)(Qet:List Value)(c:Option Addr)(n cc:Nat)(news:List Value)
  (hold:∀w':World,w'.heap=w.heap->(Builtin.firstCells y.size qP (.slice b qP Bm)).run P w'=.ok Qet.toArray w') (Kb:∀w':World,w'.heap=w.heap->(Builtin.firstCells y.size n (.slice c n cc)).run P w'=.ok news.toArray w')
  (hg:Bm<qP+n) (vK:qP+n<=4294967296) (qg:y.bytes<=1024) :
  ∃wZ rest,(Builtin.append_ #[t,t] ty #[.slice b qP Bm,.slice c n cc]).run P w=.ok (.slice (some ⟨w.heap.size,0,none⟩) (qP+n) wZ) (w.drew.alloc (.cells (Qet.toArray++news.toArray++rest) e)) /\
   qP+n<=wZ/\rest.size=(wZ - (qP+n))*y.size:=by
 obtain⟨z,Ac,jj⟩:=hy.zeroValue;obtain⟨i,hi,zy,zz⟩:=hy.typeInfo w;refine⟨grownCap w (qP+n) Bm e,Builtin.zeroCells z.cells (grownCap w (qP+n) Bm e - (qP+n)),?_,grownCap_ge _ _ _ _,by rw[rj];congr 1;rw[<- hz,<- Ac];simp⟩;have JQ:∀w,(typeInfo e).run P w=.ok i w:=λw=>by
  obtain⟨i',h1,h2,h3⟩:=hy.typeInfo w;have h4:=hy.info;cases hx:P.info? e with
  | none=>rw[hx]at h4;cases h4
  | some k=>
   simp[typeInfo,hx]at hi ⊢;exact hi
 have hn:¬ (qP+n<=Bm):=by omega
 have rk:¬ (9223372036854775807<((qP:Int)+(n:Int))):=by omega
 have h48:Builtin.nextslicecap (qP+n) Bm*y.bytes<=281474976710656:=growslice_fits hg (by
  have:=vF (show qP+n<=4294967296 from vK) qg;omega)
 have rn:¬ (281474976710656<Builtin.nextslicecap (qP+n) Bm*i.bytes):=by rw[zz];omega
 have ho:=hold w.drew rfl;have hw:=Kb w.drew rfl;simp[Builtin.append_,run_underlying ht,hy.sizeOf,JQ,jj,Builtin.lenOf,hn,rk,rn,Question.forced,newRow,grownCap,ho,hw,askRoom,mark,Sem.run];rw[<- Array.append_assoc];simp
def QpF{P:Program}{t ty e:TypeId}{y}(ht:P.underlying t=some (.slice e))(hy:Xf P e y)(w)(b q qP Bm)(c)(n cc)(news)
  (Kb:(Builtin.firstCells y.size n (.slice c n cc)).run P w=.ok news.toArray w) (fv:qP+n<=Bm) {w':World} (ZF:(storeCells ⟨b,q+qP*y.size,none⟩ news).run P w=.ok () w') :
  (Builtin.append_ #[t,t] ty #[.slice (some ⟨b,q,none⟩) qP Bm,.slice c n cc]).run P w=.ok (.slice (some ⟨b,q,none⟩) (qP+n) Bm) w':=by
 simp[Builtin.append_,run_underlying ht,hy.sizeOf,Builtin.lenOf,fv,Kb,Bj,ZF]
def Qeu{P:Program}{t ty e:TypeId}{y}(ht:P.underlying t=some (.slice e))(hy:Xf P e y)(w)(b)(c)(cc):
  (Builtin.append_ #[t,t] ty #[.slice b 0 0,.slice c 0 cc]).run P w=.ok (.slice b 0 0) w:=by
 cases b<;>cases c<;>simp[Builtin.append_,run_underlying ht,hy.sizeOf,Builtin.lenOf,Builtin.firstCells,loadCells,loadCellsFrom,storeCells]
def J1(len off:Nat)(r1 r2:Nat->List D):Nat->List D:=λk=>bif Nat.blt k len then r1 (off+k) else r2 (k - len)
def Ad{len off k}{r1 r2}(h:k<len):J1 len off r1 r2 k=r1 (off+k):=by
 have:Nat.blt k len=true:=by simpa[xU] using h
 simp[J1,this]
def vL{len off k}{r1 r2}(h:len<=k):J1 len off r1 r2 k=r2 (k - len):=by
 have:Nat.blt k len=false:=by rw[<- qb,xU];omega
 simp[J1,this]
def rq(y:Ty)(n:Nat):Prop:=n<=4294967296/\y.bytes<=1024/\y.zero.length=y.size
def El(L:Jt)(h:List Ob)(t:TypeId)(s x:D):Option (Prop × List Ob × D):=
 match ty L t,TR h x with
 | some ⟨.slice e,_,_,_⟩,some (px,n,sz,rows)=>match ty L e,s with
  | some y,.nil=>some (px/\sz=y.size/\rq y n/\(∀k,k<n->(rows k).all D.KK=true),h++[⟨.arr,0,y.size,n,rows⟩],.ref h.length 0 0 n)
  | some y,.ref l g off len=>match h[l]? with
   | some o=>some (px/\g=o.gen/\off+len=o.n/\o.sz=y.size/\sz=y.size/\rq y (len+n)/\(∀k,k<n->(rows k).all D.KK=true)/\o.kd.ro=false,h.set l ⟨.arr,o.gen+1,y.size,len+n,J1 len off o.row rows⟩,.ref l (o.gen+1) 0 (len+n))
   | none=>none
  | _,_=>none
 | _,_=>none
def Tr.CA{base:Nat}{h:List Ob}{pl:List Pl}{w w':World}(R:Zv Z base h pl w){l:Nat}{o o':Ob}{p p':Pl}(ho:h[l]? = some o)(hp:pl[l]? = some p)(Jc:o'.kd.ty=o.kd.ty)(hg:o.gen<o'.gen)
  (e:∀k,k<w.heap.size->(∀q,p≠some (k,q))->w'.heap[k]? = w.heap[k]?) (Jl:∀b q,p'=some (b,q)->(∃q',p=some (b,q'))\/w.heap.size<=b):Tr h pl w (h.set l o') (pl.set l p') w' where
 KE:=λk hk Qc=>by
  have Qz:∀q,p≠some (k,q):=λq hq=>hk l q (by rw[hp,hq]);refine⟨λl' q qh=>?_,e k Qc Qz⟩;by_cases qi:l=l'
  ·subst qi;have:(pl.set l p')[l]? = some p':=by simp[Wq hp]
   rw[this]at qh;simp only[Za]at qh;rcases Jl k q qh with ⟨q',h1⟩|h1
   ·exact Qz q' h1
   ·omega
  ·rw[JJ qi]at qh;exact hk l' q qh
 obj:=λl' o1 p1 ZI Ys=>by
  by_cases qi:l=l'
  ·subst qi;rw[ho]at ZI;cases ZI;exact⟨o',p',by simp[Kr ho],by simp[Wq hp],by omega,Jc,λh=>by omega⟩
  ·exact⟨o1,p1,by rw[JJ qi];exact ZI,by rw[JJ qi];exact Ys,QB _,rfl,λ_=>⟨rfl,rfl⟩⟩
 shape:=λl' o1 o2 b1 q1 ZI KJ Ab Ys c el hb=>by
  by_cases qi:l=l'
  ·subst qi;rw[ho]at ZI;cases ZI;have:(h.set l o')[l]? = some o':=by simp[Kr ho]
   rw[this]at KJ;cases KJ;omega
  ·refine⟨c,?_,rfl⟩;rw[e b1 (R.lt Ys).1 (λq hq=>qi (R.inj l l' b1 q q1 (by rw[hp,hq]) Ys))];exact hb
def Zv.CA{base:Nat}{h:List Ob}{pl:List Pl}{w w':World}(R:Zv Z base h pl w){l:Nat}{o o':Ob}{p:Pl}(ho:h[l]? = some o)(hp:pl[l]? = some p)(hk:o.kd.ty=0)(ZE:o'.kd.ty=0)(hg:o.gen<o'.gen)
  (e:∀k,k<w.heap.size->(∀q,p≠some (k,q))->w'.heap[k]? = w.heap[k]?) {b' q':Nat} (Jl:(∃q0,p=some (b',q0))\/w.heap.size<=b') (Zd:base<=b') {c:Array Value} {el:TypeId} (hb:w'.heap[b']? = some (.cells c el (0,0)))
  (JP:q'+o'.n*o'.sz<=c.size) (Ku:∀i,i<o'.n->(o'.row i).length=o'.sz)
  (ZH:∀i j,i<o'.n->j<o'.sz->∃v,c[q'+(i*o'.sz+j)]? = some v/\QE Z (h.set l o') (pl.set l (some (b',q'))) w' (nth (o'.row i) j) v):Zv Z base (h.set l o') (pl.set l (some (b',q'))) w':=by
 have T:Tr h pl w (h.set l o') (pl.set l (some (b',q'))) w':=Tr.CA R ho hp (by rw[hk,ZE]) hg e (λb q hbq=>by simp at hbq;obtain⟨rfl,rfl⟩:=hbq;exact Jl);have x5:(pl.set l (some (b',q')))[l]? = some (some (b',q')):=by simp[Wq hp]
 have other:∀(l1 b q:Nat),l≠l1->pl[l1]? = some (some (b,q))->b≠b':=by
  intro l1 b q hl h1 Bi;subst Bi;rcases Jl with ⟨q0,h2⟩|h2
  ·exact hl (R.inj l l1 b q0 q (by rw[hp,h2]) h1)
  ·have:=(R.lt h1).1;omega
 refine⟨by simp[R.len],?_,?_,?_⟩
 ·intro l1 l2 b q1 q2 h1 h2;by_cases e1:l=l1
  ·subst e1;rw[x5]at h1;simp only[Za,Zp]at h1;by_cases e2:l=l2
   ·exact e2
   ·rw[JJ e2]at h2;exact absurd h1.1.symm (other l2 b q2 e2 h2)
  ·rw[JJ e1]at h1;by_cases e2:l=l2
   ·subst e2;rw[x5]at h2;simp only[Za,Zp]at h2;exact absurd h2.1.symm (other l1 b q1 e1 h1)
   ·rw[JJ e2]at h2;exact R.inj l1 l2 b q1 q2 h1 h2
 ·intro l1 o1 ZI h1;by_cases e1:l=l1
  ·subst e1;rw[x5]at h1;cases h1
  ·rw[JJ e1]at h1 ZI;exact R.VM l1 o1 ZI h1
 ·intro l1 o1 b q ZI h1;by_cases e1:l=l1
  ·subst e1;rw[x5]at h1;simp only[Za,Zp]at h1;obtain⟨rfl,rfl⟩:=h1;have:(h.set l o')[l]? = some o':=by simp[Kr ho]
   rw[this]at ZI;cases ZI;exact⟨λ_=>Zd,.Mq ZE ⟨c,el,hb,JP,Ku,ZH⟩⟩
  ·rw[JJ e1]at h1 ZI;obtain⟨g1,x⟩:=R.at_ l1 o1 b q ZI h1;have Qz:∀q0,p≠some (b,q0):=λq0 hq=>e1 (R.inj l l1 b q0 q (by rw[hp,hq]) h1);exact⟨g1,x.to rfl rfl rfl (e b (R.lt h1).1 Qz) (λ_ _=>rfl) λi j v _ _ hr=>hr.tr T⟩
section
variable {P:Program}{L:Jt}{base nt:Nat}{s:St}{o:Oper}
def QpG(hL:Jq P L){t:TypeId}{x0 x}(ho:o.op=.call ⟨.builtin .append,#[x0,x],#[t,t]⟩)(w9:Qt s.fr x0=.nil){p}{h'}{d}(h:El L s.h t .nil (Qt s.fr x)=some (p,h',d))(hp:p):Mx P base nt o s h' d:=by
 intro Z pl a w r K7;have Xx:=r.eval x0;have FY:=r.eval x;rw[w9]at Xx;unfold El at h;split at h
 ·rename_i e _ _ _ px n sz rows he ru;cases WO:ty L e with
  | none=>rw[WO]at h;cases h
  | some y=>
   rw[WO]at h;simp only[Za,Zp]at h;obtain⟨rfl,rfl,rfl⟩:=h;obtain⟨rv,rfl,⟨vK,qg,HQ⟩,Pa⟩:=hp;have hy:=hL _ _ WO;have ht:=xZ (hL _ _ he) rfl;obtain⟨a0,Pb⟩:=Ei Xx;obtain⟨ax,HS,vs,S⟩:=ri r.o FY ru rv;have Zk:pl.length=s.h.length:=r.o.len;by_cases hn:n=0
   ·subst hn;have T:Tr s.h pl w (s.h++[⟨.arr,0,y.size,0,rows⟩]) (pl++[none]) w:=Tr.push r.o (λ_ _=>rfl) _ _ (by intro b q e;cases e);refine⟨_,w,pl++[none],.inl ?_,T,r.o.Bh _ rfl,.ref _ _ _ _ ⟨.arr,0,y.size,0,rows⟩ none a0 0 (by simp) (by rw[<- Zk];simp) rfl (QB _) (λ_=>.inl ⟨rfl,rfl⟩),Below.refl _ _⟩;rw[vJ ho];simp[builtin,Pb,S.v,Qeu ht hy]
   ·obtain⟨wZ,rest,Zl,HT,Bn⟩:=Qes (ty:=o.type) ht hy HQ w a0 0 0 [] ax n HS (flat n y.size vs) (λw' _=>by cases a0<;>simp[Builtin.firstCells,loadCells,loadCellsFrom]) (λw' hw=>by rw[<- S.v];exact S.first w' hw) (by omega) (by omega) qg;simp only[JV,Array.empty_append]at Zl HT Bn;have e1:∀b,b<w.heap.size->(w.drew.alloc (.cells ((flat n y.size vs).toArray++rest) e)).heap[b]? = w.heap[b]? := λb hb=>xY w.drew _ b hb;have Kb:(w.drew.alloc (.cells ((flat n y.size vs).toArray++rest) e)).heap[w.heap.size]? = some (.cells ((flat n y.size vs).toArray++rest) e (0,0)):=heap_alloc_new w.drew _;have T:Tr s.h pl w (s.h++[⟨.arr,0,y.size,n,rows⟩]) (pl++[some (w.heap.size,0)]) (w.drew.alloc (.cells ((flat n y.size vs).toArray++rest) e)):=Tr.push r.o e1 _ _ (by intro b q h;simp at h;omega);refine⟨.slice (some ⟨w.heap.size,0,none⟩) n wZ,_,_,.inl ?_,T,Zv.push r.o e1 _ rfl (QB _) K7 Kb (by simp[ji]) S.len (λi j hi hj=>⟨vs i j,?_,(S.rel i j hi hj).tr T⟩),.ref _ _ _ _ ⟨.arr,0,y.size,n,rows⟩ (some (w.heap.size,0)) _ wZ (by simp) (by rw[<- Zk];simp) rfl (QB _) (λ_=>.inr ⟨w.heap.size,0,_,e,rfl,by simp,Kb,?_,HT⟩),?_⟩
    ·rw[vJ ho];have:(Array.map a.eval #[x0,x])=#[.slice a0 0 0,.slice ax n HS]:=by simp[Pb,S.v]
     rw[this];simp only[builtin,Sem.run_bind,Zl,Result.andThen_ok,Sem.run_pure]
    ·have hg:=HP (vs:=vs) hi hj;have Qc:=(Xd.1 hg).1;rw[JV,OJ (by simpa using Qc)];simpa using hg
    ·simp only[JV,Array.size_append,HC,ji,Bn];rw[<- VL];exact qN _ (by omega)
    ·exact((Below.refl base w).drew).alloc K7 _
 ·cases h
def QpH(hL:Jq P L){t:TypeId}{x0 x}{l g off len}(ho:o.op=.call ⟨.builtin .append,#[x0,x],#[t,t]⟩)(w9:Qt s.fr x0=.ref l g off len){p}{h'}{d}(h:El L s.h t (.ref l g off len) (Qt s.fr x)=some (p,h',d))(hp:p):Mx P base nt o s h' d:=by
 intro Z pl a w r K7;have Xx:=r.eval x0;have FY:=r.eval x;rw[w9]at Xx;unfold El at h;split at h
 ·rename_i e _ _ _ px n sz rows he ru;cases WO:ty L e with
  | none=>rw[WO]at h;cases h
  | some y=>
   rw[WO]at h;dsimp only at h;split at h
   ·rename_i ob Zt;simp only[Za,Zp]at h;obtain⟨rfl,rfl,rfl⟩:=h;obtain⟨rv,hg,MA,QpI,rfl,⟨vK,qg,HQ⟩,Pa,hro⟩:=hp;have hy:=hL _ _ WO;have ht:=xZ (hL _ _ he) rfl;obtain⟨o',p',a0,CC,Pb,ZT,Jl,ZE,vH,VN⟩:=Cw Xx;rw[Zt]at ZT;cases ZT;obtain⟨ax,HS,vs,S⟩:=ri r.o FY ru rv;have WG:(Array.map a.eval #[x0,x])=#[.slice a0 len CC,.slice ax n HS]:=by simp[Pb,S.v]
    have fin:∀{v:Value} {w':World},(Builtin.append_ #[t,t] o.type #[.slice a0 len CC,.slice ax n HS]).run P w=.ok v w'->(execOp a.eval o).run P w=.ok (.value v) w':=by
     intro v w' Zl;rw[vJ ho,WG];simp only[builtin,Sem.run_bind,Zl,Result.andThen_ok,Sem.run_pure]
    have grown:∀(vo:Nat->Nat->Value) (hold:∀w':World,w'.heap=w.heap->(Builtin.firstCells y.size len (.slice a0 len CC)).run P w'=.ok (flat len y.size vo).toArray w')
      (hlen:∀i,i<len->(ob.row (off+i)).length=y.size) (fw:∀i j,i<len->j<y.size->QE Z s.h pl w (nth (ob.row (off+i)) j) (vo i j)),CC<len+n ->
      ∃v w' Qm,((execOp a.eval o).run P w=.ok (.value v) w'\/((execOp a.eval o).run P w=.ok .skip w'/\v=Go.undef))/\Tr s.h pl w (s.h.set l ⟨.arr,ob.gen+1,y.size,len+n,J1 len off ob.row rows⟩) Qm w' /\
       Zv Z base (s.h.set l ⟨.arr,ob.gen+1,y.size,len+n,J1 len off ob.row rows⟩) Qm w'/\QE Z (s.h.set l ⟨.arr,ob.gen+1,y.size,len+n,J1 len off ob.row rows⟩) Qm w' (.ref l (ob.gen+1) 0 (len+n)) v/\Below base w w':=by
     intro vo hold hlen fw Qc;obtain⟨wZ,rest,Zl,HT,Bn⟩:=Qes (ty:=o.type) ht hy HQ w a0 len CC (flat len y.size vo) ax n HS (flat n y.size vs) hold (λw' hw=>by rw[<- S.v];exact S.first w' hw) Qc vK qg;have e1:∀b,b<w.heap.size->(w.drew.alloc (.cells ((flat len y.size vo).toArray++(flat n y.size vs).toArray++rest) e)).heap[b]? = w.heap[b]? := λb hb=>xY w.drew _ b hb;have Kb:(w.drew.alloc (.cells ((flat len y.size vo).toArray++(flat n y.size vs).toArray++rest) e)).heap[w.heap.size]? = some (.cells ((flat len y.size vo).toArray++(flat n y.size vs).toArray++rest) e (0,0)):=heap_alloc_new w.drew _;have T:=Tr.CA (o':=⟨.arr,ob.gen+1,y.size,len+n,J1 len off ob.row rows⟩) (p':=some (w.heap.size,0)) r.o Zt Jl ZE.symm (Bc _) (λk hk _=>e1 k hk) (by intro b q h;simp at h;exact .inr (by omega));refine⟨_,_,_,.inl (fin Zl),T,Zv.CA r.o Zt Jl ZE rfl (Bc _) (λk hk _=>e1 k hk) (.inr (QB _)) K7 Kb ?_ (λi hi=>?_) (λi j hi hj=>?_),.ref _ _ _ _ ⟨.arr,ob.gen+1,y.size,len+n,J1 len off ob.row rows⟩ (some (w.heap.size,0)) _ wZ (by simp[Kr Zt]) (by simp[Wq Jl]) rfl (QB _) (λ_=>.inr ⟨w.heap.size,0,_,e,rfl,by simp,Kb,?_,HT⟩),((Below.refl base w).drew).alloc K7 _⟩
     ·simp[ji,VL]
     ·by_cases Wd:i<len
      ·show (J1 len off ob.row rows i).length=_;rw[Ad Wd];exact hlen i Wd
      ·show (J1 len off ob.row rows i).length=_;rw[vL (by omega)];exact S.len _ (by have:i<len+n:=hi;omega)
     ·have WQ:j<y.size:=hj;have JQ:i<len+n:=hi;show ∃v,((flat len y.size vo).toArray++(flat n y.size vs).toArray++rest)[0+(i*y.size+j)]? = some v/\QE _ _ _ _ (nth (J1 len off ob.row rows i) j) v;by_cases Wd:i<len
      ·rw[Ad Wd];refine⟨vo i j,?_,(fw i j Wd WQ).tr T⟩;have Em:=HP (vs:=vo) Wd WQ;have TS:=(Xd.1 Em).1;rw[JV,OJ (by simp;omega),OJ (by simpa using TS)];simpa using Em
      ·rw[vL (by omega)];refine⟨vs (i - len) j,?_,(S.rel (i - len) j (by omega) WQ).tr T⟩;have Em:=HP (vs:=vs) (show i - len<n by omega) WQ;have TS:=(Xd.1 Em).1;have e2:i*y.size+j - (flat len y.size vo).length=(i - len)*y.size+j:=by
        rw[ji];have:i=(i - len)+len:=by omega
        conv=>lhs;rw[this,VL]
        omega
       have e3:(flat len y.size vo).length<=i*y.size+j:=by
        rw[ji];have:=qN y.size (show len<=i by omega);omega
       rw[JV,OJ (by simp;omega),Array.getElem?_append_right (by simpa using e3)];simp only[HC];rw[e2];simpa using Em
     ·simp only[JV,Array.size_append,HC,ji,Bn];rw[<- VL,<- VL];exact qN _ (by omega)
    rcases VN hg with ⟨h1,h2⟩|⟨b,q,c,el,WD,Ae,hb,JW,Bk⟩
    ·subst h1;subst h2;by_cases hn:n=0
     ·subst hn;have Zl:=Qeu (ty:=o.type) ht hy w a0 ax HS;cases MB:p' with
      | none=>
       subst MB;have T:=Tr.CA (o':=⟨.arr,ob.gen+1,y.size,0+0,J1 0 off ob.row rows⟩) (p':=none) r.o Zt Jl ZE.symm (Bc _) (λk hk _=>rfl) (by intro b q h;cases h);have zx:pl.set l none=pl:=by
        apply A9;intro i;by_cases hi:l=i
        ·subst hi;rw[Jl];simp[Wq Jl]
        ·rw[JJ hi]
       rw[zx]at T;refine⟨_,w,pl,.inl (fin Zl),T,?_,.ref _ _ _ _ ⟨.arr,ob.gen+1,y.size,0+0,J1 0 off ob.row rows⟩ none a0 0 (by simp[Kr Zt]) Jl rfl (QB _) (λ_=>.inl ⟨rfl,rfl⟩),Below.refl _ _⟩;refine⟨by simp[r.o.len],r.o.inj,λl1 o1 ZI h1=>?_,λl1 o1 b q ZI h1=>?_⟩
       ·by_cases e1:l=l1
        ·subst e1;rw[Wm (Kr Zt)]at ZI;cases ZI;rfl
        ·rw[JJ e1]at ZI;exact r.o.VM l1 o1 ZI h1
       ·by_cases e1:l=l1
        ·subst e1;rw[Jl]at h1;cases h1
        ·rw[JJ e1]at ZI;obtain⟨g1,x⟩:=r.o.at_ l1 o1 b q ZI h1;exact⟨g1,x.to rfl rfl rfl rfl (λ_ _=>rfl) λi j v _ _ hr=>hr.tr T⟩
      | some bq=>
       obtain⟨b,q⟩:=bq;subst MB;obtain⟨g1,x⟩:=r.o.at_ l ob b q Zt Jl;obtain⟨c,el,g2,g3,g4,g5⟩:=x.cells ZE;have T:=Tr.CA (o':=⟨.arr,ob.gen+1,y.size,0+0,J1 0 off ob.row rows⟩) (p':=some (b,q)) r.o Zt Jl ZE.symm (Bc _) (λk hk _=>rfl) (by intro b1 q1 h;simp at h;exact .inl ⟨q,by rw[h.1]⟩);exact⟨_,w,_,.inl (fin Zl),T,Zv.CA r.o Zt Jl ZE rfl (Bc _) (λk hk _=>rfl) (.inl ⟨q,rfl⟩) (g1 hro) g2 (by simp;omega) (λi hi=>by simp at hi) (λi j hi=>by simp at hi),
        .ref _ _ _ _ ⟨.arr,ob.gen+1,y.size,0+0,J1 0 off ob.row rows⟩ (some (b,q)) a0 0 (by simp[Kr Zt]) (by simp[Wq Jl]) rfl (QB _) (λ_=>.inl ⟨rfl,rfl⟩),Below.refl _ _⟩
     ·exact grown (λ_ _=>Go.undef) (λw' _=>by cases a0<;>simp[Builtin.firstCells,loadCells,loadCellsFrom,flat]) (λi hi=>by omega) (λi j hi=>by omega) (by omega)
    ·subst WD;obtain⟨Zd,x⟩:=r.o.at_ l ob b q Zt Jl;have Zd:=Zd hro;obtain⟨c',O8,KR,My,Ku,ZH⟩:=x.cells ZE;rw[hb]at KR;cases KR;rw[QpI]at JW My Ku ZH Ae;by_cases fv:len+n<=CC
     ·
      have HU:q+off*y.size+len*y.size+n*y.size<=c.size:=by
       have h1:=qN y.size (show off+(len+n)<=off+CC by omega);simp only[VL]at h1 JW;omega
      obtain⟨w',c',g1,g2,g3,g4,g5,g6,g7,g8,g9⟩:=ft (P:=P) b el (flat n y.size vs) 0 (q+off*y.size+len*y.size) w c hb (by simp[ji];omega) (λk hk=>by
       rw[ji]at hk;obtain⟨k1,k2,k3⟩:=div_lt hk;have hg:=HP (vs:=vs) k1 k2;rw[k3]at hg;have:Zb (flat n y.size vs) k=vs (k / y.size) (k % y.size):=by simp[Zb,Ze,hg]
       rw[this];refine pZ (S.rel _ _ k1 k2) ?_;have h2:=Pa _ k1;rw[X6]at h2;refine h2 _ ?_;have h3:k % y.size<(rows (k / y.size)).length:=by rw[S.len _ k1];exact k2
       simp only[nth,Ze,QW h3,KA];exact qK h3)
      subst Ae;have Zl:=QpF (ty:=o.type) ht hy w b (q+off*y.size) len CC ax n HS (flat n y.size vs) (by rw[<- S.v];exact S.first w rfl) fv g1;have he:∀k,k<w.heap.size->(∀q1,(some (b,q):Pl)≠some (k,q1))->w'.heap[k]? = w.heap[k]? := λk _ hk=>g5 k (λMC=>hk q (by rw[MC]));have T:=Tr.CA (o':=⟨.arr,ob.gen+1,y.size,len+n,J1 len off ob.row rows⟩) (p':=some (b,q+off*y.size)) r.o Zt Jl ZE.symm (Bc _) he (by intro b1 q1 h;simp at h;exact .inl ⟨q,by rw[h.1]⟩);refine⟨_,w',_,.inl (fin Zl),T,Zv.CA r.o Zt Jl ZE rfl (Bc _) he (.inl ⟨q,rfl⟩) Zd g2 ?_ (λi hi=>?_) (λi j hi hj=>?_),.ref _ _ _ _ ⟨.arr,ob.gen+1,y.size,len+n,J1 len off ob.row rows⟩ (some (b,q+off*y.size)) _ CC (by simp[Kr Zt]) (by simp[Wq Jl]) rfl (QB _) (λ_=>.inr ⟨b,q+off*y.size,c',el,rfl,by simp,g2,?_,fv⟩),O6 Zd g5 g6 g7 g8 g9⟩
      ·rw[g3];simp only[VL];omega
      ·by_cases Wd:i<len
       ·show (J1 len off ob.row rows i).length=_;rw[Ad Wd];exact Ku _ (by omega)
       ·show (J1 len off ob.row rows i).length=_;rw[vL (by omega)];exact S.len _ (by have:i<len+n:=hi;omega)
      ·have WQ:j<y.size:=hj;have JQ:i<len+n:=hi;show ∃v,c'[q+off*y.size+(i*y.size+j)]? = some v/\QE _ _ _ _ (nth (J1 len off ob.row rows i) j) v;rw[g4];simp only[ji,FM];by_cases Wd:i<len
       ·rw[Ad Wd,Qd]
        ·obtain⟨v,hv,hr⟩:=ZH (off+i) j (by omega) WQ;refine⟨v,?_,hr.tr T⟩;rw[<- hv];congr 1;rw[VL];omega
        ·have:=qN y.size (show i+1<=len from Wd);rw[VL]at this;omega
       ·have h1:=qN y.size (show len<=i by omega);have h2:i*y.size=(i - len)*y.size+len*y.size:=by rw[<- VL];congr 1;omega
        have h3:=qN y.size (show (i - len)+1<=n by omega);rw[VL]at h3;rw[vL (by omega),Qf (by omega)];refine⟨vs (i - len) j,?_,(S.rel (i - len) j (by omega) WQ).tr T⟩;rw[show q+off*y.size+(i*y.size+j) - (q+off*y.size+len*y.size)=(i - len)*y.size+j by omega];exact HP (by omega) WQ
      ·rw[g3];simp only[JV,VL]at JW ⊢;omega
     ·refine grown (λi j=>(c[q+((off+i)*y.size+j)]?).getD Go.undef) (λw' hw=>?_) (λi hi=>Ku _ (by omega)) (λi j hi hj=>?_) (by omega)
      ·have S0:Src Z s.h pl w (.slice a0 len CC) len y.size (λk=>ob.row (off+k)) a0 CC (λi j=>(c[q+((off+i)*y.size+j)]?).getD Go.undef):=by
        refine⟨rfl,λi hi=>Ku _ (by omega),λi j hi hj=>⟨b,q+off*y.size,Ae,?_⟩,λi j hi hj=>?_⟩
        ·obtain⟨u,hu,hr⟩:=ZH (off+i) j (by omega) hj;rw[cell_of_row w b _ c el (0,0) hb,show q+off*y.size+(i*y.size+j)=q+((off+i)*y.size+j) by rw[VL];omega,hu];rfl
        ·obtain⟨u,hu,hr⟩:=ZH (off+i) j (by omega) hj;simp only[hu,KA];exact hr
       exact S0.first w' hw
      ·obtain⟨u,hu,hr⟩:=ZH (off+i) j (by omega) hj;simp only[hu,KA];exact hr
   ·cases h
 ·cases h
def QpJ(hL:Jq P L){t:TypeId}{x0 x}(ho:o.op=.call ⟨.builtin .append,#[x0,x],#[t,t]⟩)(w9:Qt s.fr x0=.nil){p}{h'}{d}(h:El L s.h t .nil (Qt s.fr x)=some (p,h',d))(hp:p):kE P base nt o s h' d:=
 (QpG hL ho w9 h hp).up (by simp[calm,ho])
def QpK(hL:Jq P L){t:TypeId}{x0 x}{l g off len}(ho:o.op=.call ⟨.builtin .append,#[x0,x],#[t,t]⟩)(w9:Qt s.fr x0=.ref l g off len){p}{h'}{d}(h:El L s.h t (.ref l g off len) (Qt s.fr x)=some (p,h',d))(hp:p):kE P base nt o s h' d:=
 (QpH hL ho w9 h hp).up (by simp[calm,ho])
end
variable {Z:Nat->Prop}
def Bo(Z:Nat->Prop)(h:List Ob)(pl:List Pl)(w:World)(cs:List D)(vs:Array Value):Prop:=vs.size=cs.length/\∀i,i<cs.length->QE Z h pl w (nth cs i) (Zb vs.toList i)
def Qew(off):∀(l:List Value) (n:Nat) (c:Array Value),((l.zipIdx n).foldl (λ(cs:Array Value) (x:Value × Nat)=>cs.setIfInBounds (off+x.2) x.1) c).size=c.size /\
  ∀k,(((l.zipIdx n).foldl (λ(cs:Array Value) (x:Value × Nat)=>cs.setIfInBounds (off+x.2) x.1) c)[k]?)=if off+n<=k/\k<off+n+l.length/\k<c.size then l[k - (off+n)]? else c[k]?
 | [],n,c=>⟨rfl,λk=>by rw[Qd (by simp;omega)];rfl⟩
 | v::l,n,c=>by
  obtain⟨h1,h2⟩:=Qew off l (n+1) (c.setIfInBounds (off+n) v);simp only[List.zipIdx_cons,Ba];refine⟨by rw[h1];simp,λk=>?_⟩;rw[h2 k];simp only[Array.size_setIfInBounds,Vh];by_cases h3:k=off+n
  ·subst h3;rw[Qd (by omega),Array.getElem?_setIfInBounds_self];by_cases h4:off+n<c.size
   ·rw[Qf h4,Qf ⟨by omega,by omega,h4⟩];simp
   ·rw[Qd h4,Qd (by omega)];simp;omega
  ·rw[pJ (by omega)];by_cases h5:off+n<=k/\k<off+n+(l.length+1)/\k<c.size
   ·rw[Qf h5,Qf (by omega)];obtain⟨m,rfl⟩:∃m,k=off+n+(m+1):=⟨k - (off+n) - 1,by omega⟩;rw[show off+n+(m+1) - (off+(n+1))=m by omega,show off+n+(m+1) - (off+n)=m+1 by omega];simp
   ·rw[Qd h5,Qd (by omega)]
def QpL(off)(v:Array Value)(c):v.zipIdx.foldl (λ(cs:Array Value) (x:Value × Nat)=>cs.setIfInBounds (off+x.2) x.1) c=(v.toList.zipIdx 0).foldl (λ(cs:Array Value) (x:Value × Nat)=>cs.setIfInBounds (off+x.2) x.1) c:=by
 rw[<- Array.foldl_toList,Array.toList_zipIdx]
def Bo.Cz{h}{pl}{w}{cs ds:List D}{vs us}{off}(r:Bo Z h pl w cs vs)(q:Bo Z h pl w ds us)(hl:off+ds.length<=cs.length):
  Bo Z h pl w (Cz cs off ds) (us.zipIdx.foldl (λ(cs:Array Value) (x:Value × Nat)=>cs.setIfInBounds (off+x.2) x.1) vs):=by
 obtain⟨h1,h2⟩:=Qew off us.toList 0 vs;rw[QpL];refine⟨by rw[h1,r.1,fu hl],λi hi=>?_⟩;rw[fu hl]at hi;rw[Qen hl];have e:Zb (List.foldl (λ(cs:Array Value) (x:Value × Nat)=>cs.setIfInBounds (off+x.2) x.1) vs (us.toList.zipIdx 0)).toList i=if off<=i/\i<off+ds.length then Zb us.toList (i - off) else Zb vs.toList i:=by
  simp only[Zb,Ze,wQ,h2 i,FM,Array.length_toList,q.1,r.1];by_cases h3:off<=i/\i<off+ds.length
  ·rw[Qf ⟨h3.1,h3.2,hi⟩,Qf h3]
  ·rw[Qd (by omega),Qd h3]
 rw[e];split
 ·exact q.2 _ (by omega)
 ·exact r.2 _ hi
def Af(place:Nat->Option (Nat × Nat))(cells:List D):List (Nat × Option (List D))->Option (List D)
 | []=>some cells
 | (i,some ds)::rest=>match place i with
  | some (off,size)=>bif Nat.beq ds.length size&&Nat.ble (off+ds.length) cells.length then Af place (Cz cells off ds) rest else none
  | none=>none
 | (_,none)::_=>none
def TU{h:List Ob}{pl:List Pl}{w:World}(place:Nat->Option (Nat × Nat))(ev:Operand->D)(a:Act)(WG:∀x,QE Z h pl w (ev x) (a.eval x)):∀(parts:List (Nat × Operand)) (cells Eo:List D) (vs:Array Value),Bo Z h pl w cells vs ->
  Af place cells (parts.map λx=>(x.1,YR (ev x.2)))=some Eo->∃Xy,Instr.fill place vs (parts.map λx=>(x.1,a.eval x.2))=some Xy/\Bo Z h pl w Eo Xy
 | [],cells,Eo,vs,r,hh=>by simp[Af]at hh;subst hh;exact⟨vs,rfl,r⟩
 | (i,x)::parts,cells,Eo,vs,r,hh=>by
  simp only[J7]at hh ⊢;cases hd:YR (ev x) with
  | none=>rw[hd]at hh;simp[Af]at hh
  | some ds=>
   rw[hd]at hh;simp only[Af]at hh;cases hp:place i with
   | none=>rw[hp]at hh;cases hh
   | some os=>
    obtain⟨off,size⟩:=os;rw[hp]at hh;obtain⟨hc,hh⟩:=kD hh;simp only[Z9,Wp,Mm]at hc;obtain⟨Ep,x6⟩:=p9 (WG x) hd;have q:Bo Z h pl w ds (a.eval x).cells:=⟨Ep,λi hi=>(x6 i hi).1⟩;obtain⟨Xy,h1,h2⟩:=TU place ev a WG parts _ _ _ (r.Cz q hc.2) hh;refine⟨Xy,?_,h2⟩;simp only[Instr.fill,hp];rw[Qd (by simp only[Ep,r.1];simp;omega)];exact h1
def ry{h}{pl}{w}{y:Ty}{z:Value}(hz:z.cells.toList=y.zero):Bo Z h pl w (y.zero.map Kq) z.cells:=by
 refine⟨by rw[<- hz];simp,λi hi=>?_⟩;rw[<- hz]at hi ⊢;have JQ:i<z.cells.size:=by simpa using hi
 refine .cl _ _ ?_;simp only[nth,Zb,Ze,KG,wQ,kv JQ,K0,KA];exact Eh _ _ _
def Pc(L:Jt):List (Nat × TypeId)->Option (List (Nat × Nat))
 | []=>some []
 | (off,u)::r=>match ty L u,Pc L r with
  | some y,some ps=>some ((off,y.size)::ps)
  | _,_=>none
def Qex{P}{L}(hL:Jq P L)(w):∀(fs:List Field) (ps:List (Nat × Nat)),Pc L (fs.map λf=>(f.offset,f.type))=some ps->(fs.mapM λf=>Prod.mk f.offset <$> sizeOf f.type).run P w=.ok ps w
 | [],ps,h=>by simp[Pc]at h;subst h;simp
 | f::fs,ps,h=>by
  simp only[J7,Pc]at h;split at h
  ·rename_i y ps' hy rA;simp only[Za]at h;subst h;simp[List.mapM_cons,(hL _ _ hy).sizeOf,Qex hL w fs ps' rA]
  ·cases h
def fx(L:Jt)(fr:List (Nat × D))(t:TypeId)(parts:List (Nat × Operand)):Option D:=
 match ty L t with
 | some y=>match y.k with
  | .struct fs=>match Pc L fs with
   | some ps=>match Af (λi=>ps[i]?) (y.zero.map Kq) (parts.map λx=>(x.1,YR (Qt fr x.2))) with
    | some cs=>some (.agg cs)
    | none=>none
   | none=>none
  | .array _ e=>match ty L e with
   | some ye=>match Af (λi=>some (i*ye.size,ye.size)) (y.zero.map Kq) (parts.map λx=>(x.1,YR (Qt fr x.2))) with
    | some cs=>some (.agg cs)
    | none=>none
   | none=>none
  | _=>none
 | none=>none
section
variable {P:Program}{L:Jt}{base nt:Nat}{s:St}{o:Oper}
def Bo.agg{h}{pl}{w}{cs}{vs}(r:Bo Z h pl w cs vs):QE Z h pl w (.agg cs) (.agg vs):=by
 have:=QE.agg (h:=h) (pl:=pl) (w:=w) cs vs.toList (by simpa using r.1) r.2;simpa using this
def QpN(hL:Jq P L){t:TypeId}{parts:Array (Nat × Operand)}(ho:o.op=.build t parts){d}(h:fx L s.fr t parts.toList=some d):WE P base nt o s d:=by
 intro Z pl a w r;unfold fx at h;split at h
 ·rename_i y Cy;have hy:=hL _ _ Cy;obtain⟨z,hz,jj⟩:=hy.zeroValue;split at h
  ·rename_i fs hk;split at h
   ·rename_i ps rA;split at h
    ·rename_i cs JW;simp only[Za]at h;subst h;obtain⟨g,hg,hm⟩:=Qeg hy hk;obtain⟨Xy,h1,h2⟩:=TU (h:=s.h) (pl:=pl) (w:=w) _ (Qt s.fr) a (λx=>r.eval x) parts.toList _ _ _ (ry hz) JW;refine⟨_,h2.agg,λw' _=>?_⟩;have Zk:=Qex hL w' g.toList ps (by rw[hm];exact rA);have JE:Instr.fill (λx=>ps[x]?) z.cells (List.map (λx=>(x.fst,a.eval x.snd)) parts.toList)=some Xy:=h1;simp[execOp,ho,Instr.build,jj,run_underlying hg,Array.mapM_eq_mapM_toList,Zk,JE]
    ·cases h
   ·cases h
  ·rename_i n e hk;split at h
   ·rename_i ye WO;split at h
    ·rename_i cs JW;simp only[Za]at h;subst h;obtain⟨Xy,h1,h2⟩:=TU (h:=s.h) (pl:=pl) (w:=w) _ (Qt s.fr) a (λx=>r.eval x) parts.toList _ _ _ (ry hz) JW;refine⟨_,h2.agg,λw' _=>?_⟩;simp[execOp,ho,Instr.build,jj,run_underlying (pR hy hk),(hL _ _ WO).sizeOf,h1]
    ·cases h
   ·cases h
  ·cases h
 ·cases h
def rB{a b:List D}{i}(h:i<a.length):nth (a++b) i=nth a i:=by simp only[nth,Ze,JD h]
def rC{a b:List D}{i}(h:a.length<=i):nth (a++b) i=nth b (i - a.length):=by simp only[nth,Ze,Kf h]
def rD(n)(zs:List D):(List.replicate n zs).flatten.length=n*zs.length:=by simp
def Qey(zs:List D):∀(n i:Nat),i<n*zs.length->nth (List.replicate n zs).flatten i=nth zs (i % zs.length)
 | 0,i,h=>by simp at h
 | n+1,i,h=>by
  rw[eG,List.flatten_cons];rw[VL]at h;by_cases hi:i<zs.length
  ·rw[rB hi,Cu hi]
  ·rw[rC (by omega),Qey zs n _ (by omega)];congr 1;rw[Nat.mod_eq_sub_mod (by omega:zs.length<=i)]
def CD(len sz:Nat)(cells:List D):Nat->List D:=bif Nat.beq len 1 then λ_=>cells else λk=>(cells.drop (k*sz)).take sz
def fy(L:Jt)(fr:List (Nat × D))(h:List Ob)(t:TypeId)(len:Nat)(parts:List (Nat × Operand)):Option (Prop × List Ob × D):=
 match ty L t with
 | some ⟨.slice e,_,_,_⟩=>match ty L e with
  | some y=>match Af (λi=>some (i*y.size,y.size)) (List.replicate len (y.zero.map Kq)).flatten (parts.map λx=>(x.1,YR (Qt fr x.2))) with
   | some cs=>some (len*y.size<=16777216/\y.zero.length=y.size,h++[⟨.arr,0,y.size,len,CD len y.size cs⟩],.ref h.length 0 0 len)
   | none=>none
  | none=>none
 | _=>none
def Qez(place):∀(ps:List (Nat × Option (List D))) (cells Eo:List D),Af place cells ps=some Eo->Eo.length=cells.length
 | [],cells,Eo,h=>by simp[Af]at h;rw[h]
 | (i,none)::ps,cells,Eo,h=>by simp[Af]at h
 | (i,some ds)::ps,cells,Eo,h=>by
  simp only[Af]at h;split at h
  ·obtain⟨hc,h⟩:=kD h;simp only[Z9,Wp,Mm]at hc;rw[Qez place ps _ _ h,fu hc.2]
  ·cases h
def QpO(hL:Jq P L){t:TypeId}{len}{parts:Array (Nat × Operand)}(ho:o.op=.buildSlice t len parts){p}{h'}{d}(h:fy L s.fr s.h t len parts.toList=some (p,h',d))(hp:p):kE P base nt o s h' d:=by
 intro Z pl a w r K7;unfold fy at h;split at h
 ·rename_i e _ _ _ he;split at h
  ·rename_i y Cy;split at h
   ·rename_i cs JW;simp only[Za,Zp]at h;obtain⟨rfl,rfl,rfl⟩:=h;obtain⟨h24,HQ⟩:=hp;have hy:=hL _ _ Cy;obtain⟨z,hz,jj⟩:=hy.zeroValue;have FZ:z.cells.size=y.size:=by rw[<- HQ,<- hz];simp
    have ht:=xZ (hL _ _ he) rfl;have zr:=ry (Z:=Z) (h:=s.h) (pl:=pl) (w:=w) hz;have Bp:(y.zero.map Kq).length=y.size:=by simp[HQ]
    have hlen:cs.length=len*y.size:=by rw[Qez _ _ _ _ JW,rD,Bp]
    have init:∀zc:Array Value,(len*y.size=0->zc=#[])->(len*y.size≠0->zc=z.cells)->Bo Z s.h pl w (List.replicate len (y.zero.map Kq)).flatten ((Array.range (len*y.size)).map (zc[· % zc.size]!)):=by
     intro zc h0 h1;refine⟨by rw[rD,Bp];simp,λi hi=>?_⟩;rw[rD,Bp]at hi;have Qz:len*y.size≠0:=by omega
     have F1:=h1 Qz;subst F1;have qk:0<y.size:=Nat.pos_of_ne_zero (λe=>Qz (by rw[e];simp));rw[Qey _ _ _ (by rw[Bp];exact hi),Bp];have h2:=zr.2 (i % y.size) (by rw[Bp];exact qM _ qk);have h3:i % y.size<z.cells.size:=by rw[FZ];exact qM _ qk
     have:Zb (Array.map (λx=>z.cells[x % z.cells.size]!) (Array.range (len*y.size))).toList i=Zb z.cells.toList (i % y.size):=by
      simp only[Zb,Ze,wQ,Array.getElem?_map,Array.getElem?_range,hi,K6,K0,KA,FZ];rw[getElem!_pos z.cells _ h3,kv h3];rfl
     rw[this];exact h2
    have fin:∀Xy:Array Value,Bo Z s.h pl w cs Xy->(execOp a.eval o).run P w=.ok (.value (.slice (some ⟨w.heap.size,0,none⟩) len len)) (w.alloc (.cells Xy e)) ->
      ∃v w' Qm,((execOp a.eval o).run P w=.ok (.value v) w'\/((execOp a.eval o).run P w=.ok .skip w'/\v=Go.undef))/\Tr s.h pl w (s.h++[⟨.arr,0,y.size,len,CD len y.size cs⟩]) Qm w' /\
       Zv Z base (s.h++[⟨.arr,0,y.size,len,CD len y.size cs⟩]) Qm w'/\QE Z (s.h++[⟨.arr,0,y.size,len,CD len y.size cs⟩]) Qm w' (.ref s.h.length 0 0 len) v/\Below base w w'/\(calm o=true->Ext w w'):=by
     intro Xy hr Zl;have e1:∀b,b<w.heap.size->(w.alloc (.cells Xy e)).heap[b]? = w.heap[b]? := λb hb=>xY w _ b hb;have Kb:(w.alloc (.cells Xy e)).heap[w.heap.size]? = some (.cells Xy e (0,0)):=heap_alloc_new w _;have Zk:pl.length=s.h.length:=r.o.len;have T:Tr s.h pl w (s.h++[⟨.arr,0,y.size,len,CD len y.size cs⟩]) (pl++[some (w.heap.size,0)]) (w.alloc (.cells Xy e)):=Tr.push r.o e1 _ _ (by intro b q h;simp at h;omega);have ZH:∀i,i<len->(CD len y.size cs i).length=y.size/\∀j,j<y.size->nth (CD len y.size cs i) j=nth cs (i*y.size+j):=by
      intro i hi;unfold CD;by_cases h1:len=1
      ·subst h1;have:i=0:=by omega
       subst this;simp[hlen]
      ·have:Nat.beq len 1=false:=by rw[<- qb,Wp];exact h1
       rw[this];have h2:=qN y.size (show i+1<=len from hi);rw[VL]at h2;refine⟨by simp[hlen];omega,λj hj=>?_⟩;simp only[Xw];rw[pW hj,HM]
     refine⟨_,_,_,.inl Zl,T,Zv.push r.o e1 _ rfl (QB _) K7 Kb (by simp[hr.1,hlen]) (λi hi=>(ZH i hi).1) (λi j hi hj=>?_),.ref _ _ _ _ ⟨.arr,0,y.size,len,CD len y.size cs⟩ (some (w.heap.size,0)) _ len (by simp) (by rw[<- Zk];simp) rfl (QB _) (λ_=>.inr ⟨w.heap.size,0,Xy,e,rfl,by simp,Kb,by simp[hr.1,hlen],QB _⟩),FX K7 _,λ_=>e1⟩;have WQ:j<y.size:=hj;have JQ:i<len:=hi;have h2:=qN y.size (show i+1<=len from JQ);rw[VL]at h2;have Qc:i*y.size+j<cs.length:=by omega
     refine⟨Zb Xy.toList (i*y.size+j),?_,?_⟩
     ·have:i*y.size+j<Xy.size:=by rw[hr.1];exact Qc
      simp only[JV,Zb,Ze,wQ,kv this,KA]
     ·show QE _ _ _ _ (nth (CD len y.size cs i) j) _;rw[(ZH i JQ).2 j WQ];exact(hr.2 _ Qc).tr T
    by_cases h0:len*y.size=0
    ·obtain⟨Xy,h1,h2⟩:=TU (h:=s.h) (pl:=pl) (w:=w) _ (Qt s.fr) a (λx=>r.eval x) parts.toList _ _ _ (init #[] (λ_=>rfl) (λh=>absurd h0 h)) JW;rw[h0]at h1;have e0:Array.map (λx=>(#[]:Array Value)[x % (#[]:Array Value).size]!) (Array.range 0)=#[]:=by simp
     rw[e0]at h1;have e1:∀f:Nat->Value,Array.map f (Array.range 0)=#[]:=λf=>Array.eq_empty_of_size_eq_zero (by simp);refine fin Xy h2 ?_;simp[execOp,ho,Instr.buildSlice,run_underlying ht,hy.sizeOf,h0,newRow,h1,e1]
    ·obtain⟨Xy,h1,h2⟩:=TU (h:=s.h) (pl:=pl) (w:=w) _ (Qt s.fr) a (λx=>r.eval x) parts.toList _ _ _ (init z.cells (λh=>absurd h h0) (λ_=>rfl)) JW;refine fin Xy h2 ?_;have QpP:¬ (16777216<len*y.size):=by omega
     simp[execOp,ho,Instr.buildSlice,run_underlying ht,hy.sizeOf,jj,h0,QpP,newRow,h1]
   ·cases h
  ·cases h
 ·cases h
end
variable {Z:Nat->Prop}
def vM(fr:List (Nat × D))(QpQ:Int):Option Operand->Option Int
 | none=>some QpQ
 | some x=>match Qt fr x with
  | .raw (.int _ i)=>some i
  | _=>none
def QeA{P:Program}(w:World){k:IntKind}{i:Int}{y:Nat}{c:BoundsCode}(h0:0<=i)(h1:i<=y):(Instr.sliceBound (.int k i) y c).run P w=.ok i.toNat w:=by
 simp[Instr.sliceBound,asIntOf,h0,h1]
def fA{P:Program}{base nt:Nat}{s:St}{pl:List Pl}{a:Act}{w0:World}(r:Rel Z base nt s pl a w0)(w:World)(isSlice:Bool)(len cap:Nat)(lo hi:Option Operand){l u:Int}(hl:vM s.fr 0 lo=some l)(hu:vM s.fr len hi=some u)
  (h0:0<=l) (h1:l<=u) (h2:u<=len) (Bk:len<=cap):(Instr.sliceBounds isSlice len cap (lo.map a.eval) (hi.map a.eval) none).run P w=.ok (l.toNat,u.toNat,cap) w:=by
 have get:∀(x:Operand) (d:Int) (i:Int),vM s.fr d (some x)=some i->∃k,a.eval x=.int k i:=by
  intro x d i h;have hr:=r.eval x;simp only[vM]at h;generalize Qt s.fr x=dx at *;split at h
  ·rename_i k j;simp only[Za]at h;subst h;exact⟨k,JG hr⟩
  ·cases h
 have fst:∀(v:Value) (m:Nat) (c:BoundsCode),(∃k,v=.int k u)->u<=m->(Instr.sliceBound v m c).run P w=.ok u.toNat w:=by
  rintro v m c ⟨k,rfl⟩ hm;exact QeA w (by omega) hm
 have snd:∀(v:Value) (c:BoundsCode),(∃k,v=.int k l)->(Instr.sliceBound v u.toNat c).run P w=.ok l.toNat w:=by
  rintro v c ⟨k,rfl⟩;exact QeA w h0 (by omega)
 cases lo with
 | none=>
  simp only[vM,Za]at hl;subst hl;cases hi with
  | none=>simp only[vM,Za]at hu;subst hu;simp[Instr.sliceBounds]
  | some x=>
   have hx:=get x len u hu;cases isSlice<;>simp[Instr.sliceBounds,fst _ cap _ hx (by omega)]
 | some z=>
  have hz:=get z 0 l hl;cases hi with
  | none=>
   simp only[vM,Za]at hu;have:u.toNat=len:=by omega
   have h3:=λc=>snd (a.eval z) c hz;rw[this]at h3;simp[Instr.sliceBounds,h3,this]
  | some x=>
   have hx:=get x len u hu;cases isSlice<;>simp[Instr.sliceBounds,fst _ cap _ hx (by omega),snd _ _ hz]
def fB(L:Jt)(fr:List (Nat × D))(h:List Ob)(t:TypeId)(d:D)(lo hi:Option Operand):Ev:=
 match ty L t with
 | some ⟨.slice e,_,_,_⟩=>match ty L e with
  | some y=>match d with
   | .ref l g off len=>match h[l]?,vM fr 0 lo,vM fr len hi with
    | some o,some a,some b=>some (g=o.gen/\o.sz=y.size/\0<=a/\a<=b/\b<=len,.ref l g (off+a.toNat) (b - a).toNat)
    | _,_,_=>none
   | .imm z n row=>match vM fr 0 lo,vM fr n hi with
    | some a,some b=>some (z=y.size/\0<=a/\a<=b/\b<=n,.imm z (b - a).toNat λi=>row (a.toNat+i))
    | _,_=>none
   | .nil=>match vM fr 0 lo,vM fr 0 hi with
    | some a,some b=>some (a=0/\b=0,.nil)
    | _,_=>none
   | _=>none
  | none=>none
 | some ⟨.str,_,_,_⟩=>match d with
  | .raw (.string s)=>match vM fr 0 lo,vM fr s.size hi with
   | some a,some b=>some (0<=a/\a<=b/\b<=s.size,.raw (.string (s.extract a.toNat b.toNat)))
   | _,_=>none
  | _=>none
 | _=>none
section
variable {P:Program}{L:Jt}{base nt:Nat}{s:St}{o:Oper}
def QpR(hL:Jq P L){t:TypeId}{x}{lo hi}(ho:o.op=.slice t x lo hi none){p}{d}(h:fB L s.fr s.h t (Qt s.fr x) lo hi=some (p,d))(hp:p):WE P base nt o s d:=by
 intro Z pl a w r;have hx:=r.eval x;unfold fB at h;split at h
 ·rename_i e _ _ _ he;have ht:=xZ (hL _ _ he) rfl;split at h
  ·rename_i y Cy;have hy:=hL _ _ Cy;generalize Qt s.fr x=dx at *;split at h
   ·rename_i l g off len;split at h
    ·rename_i ob aa bb Zt Zm MD;simp only[Za,Zp]at h;obtain⟨rfl,rfl⟩:=h;obtain⟨hg,JP,h0,h1,h2⟩:=hp;obtain⟨o',p',ad,cap,hv,ZT,Jl,ZE,vH,VN⟩:=Cw hx;rw[Zt]at ZT;cases ZT;have Bk:len<=cap:=by
      rcases VN hg with ⟨h3,h4⟩|⟨_,_,_,_,_,_,_,_,h3⟩<;>omega
     refine⟨.slice (if cap=aa.toNat then ad else ad.map (·.add (aa.toNat*y.size))) (bb - aa).toNat (cap - aa.toNat),?_,λw' _=>?_⟩
     ·refine .ref _ _ _ _ ob p' _ _ Zt Jl ZE vH (λ_=>?_);rcases VN hg with ⟨h3,h4⟩|⟨b,q,c,el,WD,wY,hb,JW,h3⟩
      ·exact .inl ⟨by omega,by omega⟩
      ·by_cases hc:cap=aa.toNat
       ·exact .inl ⟨by omega,by omega⟩
       ·refine .inr ⟨b,q,c,el,WD,?_,hb,?_,by omega⟩
        ·rw[Qd hc,wY,K0,Bj,JP,VL];simp only[Za,Addr.mk.injEq,and_true,Bd];omega
        ·rw[show off+aa.toNat+(cap - aa.toNat)=off+cap by omega];exact JW
     ·have hb:=fA (P:=P) r w' true len cap lo hi Zm MD h0 h1 h2 Bk;simp[execOp,ho,Instr.sliceAt,run_underlying ht,Instr.slice,hv,hb,hy.sizeOf];omega
    ·cases h
   ·rename_i z n row;split at h
    ·rename_i aa bb Zm MD;simp only[Za,Zp]at h;obtain⟨rfl,rfl⟩:=h;obtain⟨rfl,h0,h1,h2⟩:=hp;obtain⟨ad,cap,b,q,vs,hv,wY,Bk,hs,hc⟩:=TL hx;refine⟨.slice (if cap=aa.toNat then ad else ad.map (·.add (aa.toNat*y.size))) (bb - aa).toNat (cap - aa.toNat),.cl _ _ ?_,λw' _=>?_⟩
     ·refine .imm _ _ _ _ _ b (q+aa.toNat*y.size) (λi j=>vs (aa.toNat+i) j) (λqk=>?_) (by omega) (λi hi=>hs _ (by omega)) (λi j hi hj=>?_) (λi j hi hj=>(hc (aa.toNat+i) j (by omega) hj).2)
      ·rw[Qd (by omega),wY (by omega),K0,Bj]
      ·obtain⟨⟨g1,g2⟩,_⟩:=hc (aa.toNat+i) j (by omega) hj;refine⟨g1,?_⟩;rw[<- g2];congr 2;rw[VL];omega
     ·have hb:=fA (P:=P) r w' true n cap lo hi Zm MD h0 h1 h2 Bk;simp[execOp,ho,Instr.sliceAt,run_underlying ht,Instr.slice,hv,hb,hy.sizeOf];omega
    ·cases h
   ·split at h
    ·rename_i aa bb Zm MD;simp only[Za,Zp]at h;obtain⟨rfl,rfl⟩:=h;obtain⟨rfl,rfl⟩:=hp;obtain⟨ad,hv⟩:=Ei hx;refine⟨.slice ad 0 0,.cl _ _ (.nil _),λw' _=>?_⟩;have hb:=fA (P:=P) r w' true 0 0 lo hi Zm MD (by omega) (by omega) (by omega) (QB _);simp[execOp,ho,Instr.sliceAt,run_underlying ht,Instr.slice,hv,hb,hy.sizeOf]
    ·cases h
   ·cases h
  ·cases h
 ·rename_i he;have ht:=TJ (hL _ _ he) rfl;generalize Qt s.fr x=dx at *;split at h
  ·rename_i str;split at h
   ·rename_i aa bb Zm MD;simp only[Za,Zp]at h;obtain⟨rfl,rfl⟩:=h;obtain⟨h0,h1,h2⟩:=hp;have hv:=JG hx;refine⟨_,.cl _ _ (.raw _),λw' _=>?_⟩;have hb:=fA (P:=P) r w' false str.size str.size lo hi Zm MD h0 h1 h2 (QB _);simp[execOp,ho,Instr.sliceAt,run_underlying ht,Instr.slice,hv,hb]
   ·cases h
  ·cases h
 ·cases h
end
def YS:Value->Value->Option Bool
 | .int k a,.int k' b=>bif IntKind.same k k' then some (a==b) else none
 | .bool a,.bool b=>some (a==b)
 | .string a,.string b=>some (a.toList==b.toList)
 | _,_=>none
def jk:List Value->List Value->Option Bool
 | [],[]=>some true
 | a::r,b::q=>match YS a b,jk r q with
  | some x,some y=>some (x&&y)
  | _,_=>none
 | _,_=>none
def cat:Value->Nat
 | .int _ _=>0
 | .bool _=>1
 | .string _=>2
 | _=>3
def Pd(P:Program)(sh:TypeId->Option (List Nat)):List Field->Nat->Option (List Nat)
 | [],_=>some []
 | f::fs,off=>match sh f.type with
  | some l => if f.name ≠ "_" /\ f.offset = off /\ P.cellsOf f.type = l.length then (Pd P sh fs (off + l.length)).map (l ++ ·) else none
  | none=>none
def zA(P:Program):Nat->TypeId->Option (List Nat)
 | 0,_=>none
 | d+1,t=>match P.underlying t with
  | some (.int _)=>some [0]
  | some .bool=>some [1]
  | some .string=>some [2]
  | some (.struct fs)=>if P.stoodInHeld t then none else Pd P (zA P d) fs.toList 0
  | some (.array n e)=>match zA P d e with
   | some l=>if P.cellsOf e=l.length then some (List.replicate n l).flatten else none
   | none=>none
  | _=>none
def rE:∀(a b c d:List Value) (r:Bool),a.length=b.length->jk (a++c) (b++d)=some r->∃x y,jk a b=some x/\jk c d=some y/\r=(x&&y)
 | [],[],c,d,r,_,h=>⟨true,r,rfl,h,by simp⟩
 | [],_::_,_,_,_,h,_=>by simp at h
 | _::_,[],_,_,_,h,_=>by simp at h
 | u::a,v::b,c,d,r,hl,h=>by
  simp only[qJ,jk]at h;split at h
  ·rename_i x y hx hy;simp only[Za]at h;obtain⟨x',y',h1,h2,h3⟩:=rE a b c d y (by simpa using hl) hy;exact⟨x&&x',y',by simp[jk,hx,h1],h2,by rw[<- h,h3,Bool.and_assoc]⟩
  ·cases h
def valOf(P:Program)(t:TypeId)(xs:List Value):Value:=
 match P.underlying t with
 | some (.struct _)|some (.array _ _)=>.agg xs.toArray
 | _=>Zb xs 0
def rF(P:Program)(D:Nat)(t:TypeId)(l:List Nat):Prop:=
 ∀(w:World) (xs ys:List Value) (r:Bool),xs.map cat=l->ys.map cat=l->jk xs ys=some r->(Op.equalIn D t (valOf P t xs) (valOf P t ys)).run P w=.ok r w
def TV{P:Program}{d}{t:TypeId}{l:List Nat}(h:zA P d t=some l)(hc:P.cellsOf t=l.length)(w)(xs:List Value)(off)(hl:off+l.length<=xs.length):
  (part t xs.toArray off).run P w=.ok (valOf P t ((xs.drop off).take l.length)) w:=by
 cases d with
 | zero=>simp[zA]at h
 | succ d=>
  unfold zA at h;cases hu:P.underlying t with
  | none=>rw[hu]at h;cases h
  | some k=>
   obtain⟨i,hi⟩:=info_of_underlying hu;have hs:(sizeOf t).run P w=.ok l.length w:=by
    rw[run_sizeOf w hi,hc]
   rw[hu]at h;cases k<;>first|(cases h;done)|skip
   case bool=>
    cases h;have:off<xs.length:=by simp at hl;omega
    simp[part,isAgg,run_underlying hu,valOf,hu,Zb,this]
   case int=>
    cases h;have:off<xs.length:=by simp at hl;omega
    simp[part,isAgg,run_underlying hu,valOf,hu,Zb,this]
   case string=>
    cases h;have:off<xs.length:=by simp at hl;omega
    simp[part,isAgg,run_underlying hu,valOf,hu,Zb,this]
   case array=>simp[part,isAgg,run_underlying hu,valOf,hu,hs]
   case struct=>simp[part,isAgg,run_underlying hu,valOf,hu,hs]
def QeB{P}(d D)(IH:∀t l,zA P d t=some l->rF P D t l)(w):∀(fs:List Field) (off:Nat) (l:List Nat) (xs ys:List Value) (r:Bool),Pd P (zA P d) fs off=some l ->
  (xs.drop off).map cat=l->(ys.drop off).map cat=l->off<=xs.length->off<=ys.length->jk (xs.drop off) (ys.drop off)=some r->(Op.eqFields D xs.toArray ys.toArray fs).run P w=.ok r w
 | [],off,l,xs,ys,r,h,hx,hy,h1,h2,he=>by
  simp[Pd]at h;subst h;simp only[List.map_eq_nil_iff]at hx hy;rw[hx,hy]at he;simp[jk]at he;simp[Op.eqFields,he]
 | f::fs,off,l,xs,ys,r,h,hx,hy,h1,h2,he=>by
  simp only[Pd]at h;split at h
  ·rename_i l1 ZB;split at h
   ·rename_i hc;obtain⟨hn,ho,JP⟩:=hc;simp only[Xv]at h;obtain⟨l2,Jx,rfl⟩:=h;have kF:(xs.drop off).length=l1.length+l2.length:=by rw[<- Kl (f:=cat),hx,Zj]
    have CE:(ys.drop off).length=l1.length+l2.length:=by rw[<- Kl (f:=cat),hy,Zj]
    have ME:xs.drop off=(xs.drop off).take l1.length++xs.drop (off+l1.length):=by rw[<- List.drop_drop,HE]
    have MF:ys.drop off=(ys.drop off).take l1.length++ys.drop (off+l1.length):=by rw[<- List.drop_drop,HE]
    rw[ME,jN]at hx;rw[MF,jN]at hy;obtain⟨Kc,Xg⟩:=dX hx (by simp at kF ⊢;omega);obtain⟨jQ,jR⟩:=dX hy (by simp at CE ⊢;omega);rw[ME,MF]at he;obtain⟨x,y,e1,e2,rfl⟩:=rE _ _ _ _ _ (by simp at kF CE ⊢;omega) he;have p1:=TV ZB JP w xs off (by simp at kF;omega);have p2:=TV ZB JP w ys off (by simp at CE;omega);have p3:=IH _ _ ZB w _ _ x Kc jQ e1;have p4:=QeB d D IH w fs (off+l1.length) l2 xs ys y Jx Xg jR (by simp at kF;omega) (by simp at CE;omega) e2;simp only[Op.eqFields,hn,ne_eq,not_false_eq_true,K6,Sem.run_bind,ho,p1,p2,p3,Result.andThen_ok];cases x
    ·simp
    ·simpa using p4
   ·cases h
  ·cases h
def QeC{P:Program}{d D}{e:TypeId}{l:List Nat}(Ks:zA P d e=some l)(hc:P.cellsOf e=l.length)(IH:rF P D e l)(w):∀(m i:Nat) (xs ys:List Value) (r:Bool),
  (xs.drop (i*l.length)).map cat=(List.replicate m l).flatten->(ys.drop (i*l.length)).map cat=(List.replicate m l).flatten->i*l.length<=xs.length->i*l.length<=ys.length->jk (xs.drop (i*l.length)) (ys.drop (i*l.length))=some r ->
  (Op.eqItems D e (P.cellsOf e) xs.toArray ys.toArray (List.range' i m)).run P w=.ok r w
 | 0,i,xs,ys,r,hx,hy,_,_,he=>by
  simp only[List.replicate_zero,List.flatten_nil,List.map_eq_nil_iff]at hx hy;rw[hx,hy]at he;simp[jk]at he;simp[Op.eqItems,he]
 | m+1,i,xs,ys,r,hx,hy,h1,h2,he=>by
  rw[eG,List.flatten_cons]at hx hy;have kF:(xs.drop (i*l.length)).length=l.length+(List.replicate m l).flatten.length:=by rw[<- Kl (f:=cat),hx,Zj]
  have CE:(ys.drop (i*l.length)).length=l.length+(List.replicate m l).flatten.length:=by rw[<- Kl (f:=cat),hy,Zj]
  have hi:i*l.length+l.length=(i+1)*l.length:=by rw[VL];omega
  have ME:xs.drop (i*l.length)=(xs.drop (i*l.length)).take l.length++xs.drop ((i+1)*l.length):=by rw[<- hi,<- List.drop_drop,HE]
  have MF:ys.drop (i*l.length)=(ys.drop (i*l.length)).take l.length++ys.drop ((i+1)*l.length):=by rw[<- hi,<- List.drop_drop,HE]
  rw[ME,jN]at hx;rw[MF,jN]at hy;obtain⟨Kc,Xg⟩:=dX hx (by simp at kF ⊢;omega);obtain⟨jQ,jR⟩:=dX hy (by simp at CE ⊢;omega);rw[ME,MF]at he;obtain⟨x,y,e1,e2,rfl⟩:=rE _ _ _ _ _ (by simp at kF CE ⊢;omega) he;have p1:=TV Ks hc w xs (i*l.length) (by simp at kF;omega);have p2:=TV Ks hc w ys (i*l.length) (by simp at CE;omega);have p3:=IH w _ _ x Kc jQ e1;have p4:=QeC Ks hc IH w m (i+1) xs ys y Xg jR (by simp at kF;omega) (by simp at CE;omega) e2;rw[List.range'_succ];simp only[Op.eqItems,Sem.run_bind,hc,p1,p2,p3,Result.andThen_ok];cases x
  ·simp
  ·rw[hc]at p4;simpa using p4
def fC{P}:∀(d D:Nat) (t:TypeId) (l:List Nat),d<=D->zA P d t=some l->rF P D t l
 | 0,_,_,_,_,h=>by simp[zA]at h
 | d+1,0,_,_,hd,_=>by omega
 | d+1,D+1,t,l,hd,h=>by
  intro w xs ys r hx hy he;have h':=h;unfold zA at h;cases hu:P.underlying t with
  | none=>rw[hu]at h;cases h
  | some k=>
   rw[hu]at h;have one:∀c:Nat,l=[c]->∃a b,xs=[a]/\ys=[b]/\cat a=c/\cat b=c/\YS a b=some r:=by
    intro c hl;subst hl;have kF:xs.length=1:=by rw[<- Kl (f:=cat),hx];rfl
    have CE:ys.length=1:=by rw[<- Kl (f:=cat),hy];rfl
    match xs,ys,kF,CE with
    | [a],[b],_,_=>
     refine⟨a,b,rfl,rfl,by simpa using hx,by simpa using hy,?_⟩;simp only[jk]at he;split at he
     ·rename_i x y h1 h2;simp at h2 he;subst h2;simp at he;rw[h1,he]
     ·cases he
   cases k<;>first|(cases h;done)|skip
   case bool=>
    simp only[Za]at h;obtain⟨a,b,rfl,rfl,ha,hb,Vo⟩:=one 1 h.symm;cases a<;>simp[cat]at ha;cases b<;>simp[cat]at hb;simp[YS]at Vo;subst Vo;simp[valOf,hu,Zb,run_equalIn_bool' w D t _ _ hu]
   case int q=>
    simp only[Za]at h;obtain⟨a,b,rfl,rfl,ha,hb,Vo⟩:=one 0 h.symm;cases a<;>simp[cat]at ha;cases b<;>simp[cat]at hb;simp only[YS]at Vo;obtain⟨hk,QeD⟩:=kD Vo;have:=IntKind.pT hk;subst this;simp only[Za]at QeD;subst QeD;simp[valOf,hu,Zb,run_equalIn_int w D t _ _ _ _ hu]
   case string=>
    simp only[Za]at h;obtain⟨a,b,rfl,rfl,ha,hb,Vo⟩:=one 2 h.symm;cases a<;>simp[cat]at ha;cases b<;>simp[cat]at hb;simp only[YS,Za]at Vo;subst Vo;simp[valOf,hu,Zb,run_equalIn_string w D t _ _ hu]
   case array n e=>
    replace h:(match zA P d e with|some l=>if P.cellsOf e=l.length then some (List.replicate n l).flatten else none|none=>none)=some l:=h;split at h
    ·rename_i l1 ZB;split at h
     ·rename_i hc;simp only[Za]at h;subst h;have rG:∃i,P.info? e=some i:=by
       cases d with
       | zero=>simp[zA]at ZB
       | succ d'=>
        unfold zA at ZB;cases hue:P.underlying e with
        | none=>rw[hue]at ZB;cases ZB
        | some _=>exact info_of_underlying hue
      obtain⟨i,hi⟩:=rG;have:=QeC ZB hc (fC d D e l1 (by omega) ZB) w n 0 xs ys r (by simpa using hx) (by simpa using hy) (by simp) (by simp) (by simpa using he);rw[<- List.range_eq_range']at this;simp only[valOf,hu];rw[run_equalIn_array w D xs.toArray ys.toArray hu hi];exact this
     ·cases h
    ·cases h
   case struct fs=>
    replace h:(if P.stoodInHeld t then none else Pd P (zA P d) fs.toList 0)=some l:=h;split at h
    ·cases h
    ·rename_i hs;have ql:P.fieldsOf t=fs:=by simp[Program.fieldsOf,hu]
     simp only[valOf,hu];rw[run_equalIn_struct w D t _ _ (by rw[ql];exact hu) (by simpa using hs),ql];exact QeB d D (λt l h=>fC d D t l (by omega) h) w fs.toList 0 l xs ys r h (by simpa using hx) (by simpa using hy) (by simp) (by simp) (by simpa using he)
abbrev Er:=List (TypeId × List Nat)
def jl:Er->TypeId->Option (List Nat)
 | [],_=>none
 | (u,l)::r,t=>bif Nat.beq u t then some l else jl r t
structure rH (P:Program) (t:TypeId) (l:List Nat):Prop where
 shape:zA P 60 t=some l
 guard:P.eqGuardType P.depth t=false
 agg:(match P.underlying t with|some (.struct _)|some (.array _ _)=>true|_=>false)=true
def Bq(P:Program)(E:Er):Prop:=∀t l,jl E t=some l->rH P t l
def Bq.nil(P):Bq P []:=λ_ _ h=>by simp[jl]at h
def Bq.cons{P}{E}{t:TypeId}{l}(h:rH P t l)(r:Bq P E):Bq P ((t,l)::E):=λu z e=>by
 simp only[jl]at e;by_cases hu:t=u
 ·subst hu;simp at e;subst e;exact h
 ·have:Nat.beq t u=false:=by rw[<- qb,Wp];exact hu
  rw[this]at e;exact r u z e
def CG:List D->Option (List Value)
 | []=>some []
 | .raw v::r=>match CG r with
  | some l=>some (v::l)
  | none=>none
 | _=>none
def HV:List Nat->List Nat->Bool
 | [],[]=>true
 | a::r,b::q=>Nat.beq a b&&HV r q
 | _,_=>false
def fD:∀{a b:List Nat},HV a b=true->a=b
 | [],[],_=>rfl
 | [],_::_,h=>by cases h
 | _::_,[],h=>by cases h
 | a::r,b::q,h=>by
  simp only[HV,Z9,Wp]at h;rw[h.1,fD h.2]
def fF{h}{pl}{w}:∀{cs:List D} {l:List Value},CG cs=some l->∀(vs:List Value),vs.length=cs.length->(∀i,i<cs.length->QE Z h pl w (nth cs i) (Zb vs i))->vs=l
 | [],l,e,vs,hl,_=>by simp[CG]at e;subst e;exact List.eq_nil_of_length_eq_zero (by simpa using hl)
 | c::cs,l,e,vs,hl,hr=>by
  cases c<;>simp only[CG,reduceCtorEq]at e;rename_i v;split at e
  ·rename_i l' qh;simp only[Za]at e;subst e;match vs,hl with
   | u::us,hl=>
    have h0:=JG (hr 0 (by simp):QE Z h pl w (.raw v) u);have:=fF qh us (by simpa using hl) (λi hi=>by have:=hr (i+1) (by simp;omega);simpa[nth,Zb] using this);have TW:u=v:=h0;rw[TW,this]
  ·cases e
def fG(E:Er)(op:BinOp)(t:TypeId):D->D->Ev
 | .agg a,.agg b=>match jl E t,CG a,CG b with
  | some l,some x,some y=>bif HV (x.map cat) l&&HV (y.map cat) l then match jk x y with
   | some r=>match op with
    | .eql=>some (True,.raw (.bool r))
    | .neq=>some (True,.raw (.bool (!r)))
    | _=>none
   | none=>none
   else none
  | _,_,_=>none
 | _,_=>none
def QpS{P}{E}(hE:Bq P E){base nt}{s}{o:Oper}{op}{t yt:TypeId}{x y}(ho:o.op=.binOp op t x y yt){p}{d}
  (h:fG E op t (Qt s.fr x) (Qt s.fr y)=some (p,d)):WE P base nt o s d:=by
 intro Z pl a w r;have hx:=r.eval x;have hy:=r.eval y;unfold fG at h;generalize Qt s.fr x=dx at *;generalize Qt s.fr y=dy at *;split at h
 ·split at h
  ·rename_i l xs ys he ME MF;obtain⟨hk,h2⟩:=kD h;simp only[Z9]at hk;have hkx:=fD hk.1;have hky:=fD hk.2;split at h2
   ·rename_i rr hr;obtain⟨us,hu,rI,Es⟩:=FW hx;obtain⟨ws,hw,rJ,QT⟩:=FW hy;have e1:=fF ME us rI Es;have e2:=fF MF ws rJ QT;subst e1;subst e2;obtain⟨Ks,hg,QeF⟩:=hE _ _ he;have heq:∀w',(Op.equalIn 10000 t (.agg us.toArray) (.agg ws.toArray)).run P w'=.ok rr w':=by
     intro w';have:=fC 60 10000 t l (by omega) Ks w' us ws rr hkx hky hr;unfold valOf at this;split at this
     ·exact this
     ·exact this
     ·rename_i h1 h2;split at QeF
      ·rename_i h3;exact absurd h3 (h1 _)
      ·rename_i h3;exact absurd h3 (h2 _ _)
      ·cases QeF
    split at h2
    ·simp only[Za,Zp]at h2;obtain⟨rfl,rfl⟩:=h2;refine⟨_,.cl _ _ (.raw _),λw' _=>?_⟩;simp[execOp,ho,hu,hw,run_eqGuard_agg w' .eql t x y _ _ hg,run_eql_struct,heq]
    ·simp only[Za,Zp]at h2;obtain⟨rfl,rfl⟩:=h2;refine⟨_,.cl _ _ (.raw _),λw' _=>?_⟩;simp[execOp,ho,hu,hw,run_eqGuard_agg w' .neq t x y _ _ hg,run_neq_struct,heq]
    ·cases h2
   ·cases h2
  ·cases h
 ·cases h
end Go.Fg
namespace Go.Fg
def VF(P:Program){α:Type}(m:Sem α):Prop:=∀w x w1,m.run P w=.ok x w1->w1=w/\∀w',m.run P w'=.ok x w'
section
variable {P:Program}{α β:Type}
def VF.pure(a:α):VF P (pure a:Sem α):=λw x w1 h=>by
 simp at h;obtain⟨rfl,rfl⟩:=h;exact⟨rfl,λw'=>by simp⟩
def VF.never{m:Sem α}(hh:∀w x w1,m.run P w≠.ok x w1):VF P m:=λw x w1 h=>absurd h (hh w x w1)
def VF.bind{m:Sem α}{k:α->Sem β}(h1:VF P m)(h2:∀a,VF P (k a)):VF P (m >>= k):=λw x w1 h=>by
 rw[Sem.run_bind]at h;cases hm:m.run P w with
 | halt e w2=>rw[hm]at h;cases h
 | ok a w2=>
  rw[hm]at h;simp only[Result.andThen_ok]at h;obtain⟨rfl,h3⟩:=h1 w a w2 hm;obtain⟨rfl,h4⟩:=h2 a _ x w1 h;exact⟨rfl,λw'=>by rw[Sem.run_bind,h3 w'];simp only[Result.andThen_ok];exact h4 w'⟩
def VF.stuck(s:String):VF P (Go.stuck s:Sem α):=VF.never λw x w1 h=>by cases h
def VF.halt(e:Halt):VF P (.halt e:Sem α):=VF.never λw x w1 h=>by cases h
def VF.program:VF P program:=λw x w1 h=>by
 simp at h;obtain⟨rfl,rfl⟩:=h;exact⟨rfl,λw'=>by simp⟩
def VF.typeInfo(t):VF P (typeInfo t):=.bind .program λp=>by
 split
 ·exact .pure _
 ·exact .stuck _
def VF.underlying(t):VF P (underlying t):=.bind .program λp=>by
 split
 ·exact .pure _
 ·exact .stuck _
def VF.panic:VF P (runtimePanic .nilDeref:Sem α):=.bind .program λp=>.halt _
def VF.sizeOf(t):VF P (sizeOf t):=.bind (.typeInfo t) λ_=>.pure _
def VF.isAgg(t):VF P (isAgg t):=.bind (.underlying t) λd=>by
 split<;>exact .pure _
def VF.part(t)(cs)(i):VF P (part t cs i):=by
 unfold Go.part
 repeat' (first|exact .pure _|exact .stuck _|refine .bind (.isAgg _) λ_=>?_|refine .bind (.sizeOf _) λ_=>?_|refine .bind (.typeInfo _) λ_=>?_|refine .bind (.underlying _) λ_=>?_|split)
def VF.blind:∀(l:List FieldStep) (t:TypeId) (x:Option Value),VF P (Go.followBlind l t x)
 | [],_,_=>.pure _
 | s::r,t,x=>by
  unfold Go.followBlind
  repeat' (first|exact .pure _|exact .stuck _|exact VF.blind r _ _|refine .bind (.part _ _ _) λ_=>?_|refine .bind (.underlying _) λ_=>?_|split)
def VF.nilAhead:∀(n:Nat) (t:TypeId) (v:Value) (name:String),VF P (Go.nilAhead n t v name)
 | 0,_,_,_=>.pure _
 | n+1,t,v,name=>by
  unfold Go.nilAhead
  repeat' (first|exact .pure _|exact .stuck _|exact VF.nilAhead n _ _ _|refine .bind (.blind _ _ _) λ_=>?_|refine .bind (.typeInfo _) λ_=>?_|refine .bind (.underlying _) λ_=>?_|split)
def VF.nilCheck{o:Oper}{x}(ho:o.op=.nilCheck x)(ρ):VF P (execOp ρ o):=by
 simp only[execOp,ho]
 repeat' (first|exact .pure _|exact .stuck _|exact .panic|exact .halt _|(refine .bind (.halt _) λ_=>?_)|refine .bind (.nilAhead _ _ _ _) λ_=>?_|refine .bind .program λ_=>?_|split)
end
end Go.Fg
namespace Go.Fg
open Go.RowKit (Below)
open Go.Instr
def MG(q:IntKind)(es:List MapEntry):Prop:=∀e∈es,∃n,e.key=.int q n
def fH{q}{k}:∀{es:List MapEntry} {i:Nat},MG q es->(∀e∈es,e.key≠.int q k)->findNow (.int q) (.int q k) es i=some none
 | [],_,_,_=>rfl
 | e::es,i,h,hn=>by
  obtain⟨n,hk⟩:=h e (Vn ..);have Qz:(k==n)=false:=by
   rw[jO];rintro rfl;exact hn e (Vn ..) hk
  simp only[findNow,hk,sameNow,K6,Qz];exact fH (λe he=>h e (KI _ he)) (λe he=>hn e (KI _ he))
def fI{q}{k}:∀{es:List MapEntry} {i0 i:Nat} {e:MapEntry},MG q es->es[i]? = some e->e.key=.int q k->(∀(j:Nat) (e':MapEntry),j<i->es[j]? = some e'->e'.key≠.int q k) ->
  findNow (.int q) (.int q k) es i0=some (some (i0+i,e.val))
 | [],_,_,_,_,h,_,_=>by simp at h
 | x::es,i0,i,e,hI,h,hk,hn=>by
  obtain⟨n,hx⟩:=hI x (Vn ..);cases i with
  | zero=>
   simp at h;subst h;rw[hx]at hk;obtain rfl:n=k:=by simpa using hk
   simp[findNow,hx,sameNow]
  | succ i=>
   have Qz:(k==n)=false:=by
    rw[jO];rintro rfl;exact hn 0 x (by omega) rfl hx
   simp only[findNow,hx,sameNow,K6,Qz];rw[fI (i0:=i0+1) (λe he=>hI e (KI _ he)) (by simpa using h) hk (λj e' hj he=>hn (j+1) e' (by omega) (by simpa using he))];simp;omega
section
variable {P:Program}{w:World}{q:IntKind}{k:Int}
def HW{kt:TypeId}(hk:P.underlying kt=some (.int q))(em)(n):(checkKey em (n+1) kt (.int q k)).run P w=.ok () w:=by
 simp[checkKey,underlying,hk]
def MH{kt:TypeId}(hk:P.underlying kt=some (.int q)){es:List MapEntry}{r}(h:findNow (.int q) (.int q k) es 0=some r):(findKey kt (.int q k) es).run P w=.ok r w:=by
 simp[findKey,underlying,hk,h]
def CI{α:Type}{b}{es}{clock}(hb:w.heap[b]? = some (.map es clock))(c:Obj->Sem α):(Sem.getObj b c).run P w=(c (.map es clock)).run P w:=by
 simp only[Sem.run,hb]
def TX{α:Type}{b}{es}{clock}(hb:w.heap[b]? = some (.map es clock))(o:Obj)(c:Sem α):(Sem.setObj b o c).run P w=c.run P { w with heap:=w.heap.setIfInBounds b o }:=by
 simp only[Sem.run,hb]
def QpV{xt kt et:TypeId}{b}{es:Array MapEntry}{clock}(hx:P.underlying xt=some (.map kt et))(hk:P.underlying kt=some (.int q))(hb:w.heap[b]? = some (.map es clock))(hI:MG q es.toList)
  {i:Nat} {e:MapEntry} (hi:es[i]? = some e) (he:e.key=.int q k) (hn:∀(j:Nat) (e':MapEntry),j<i->es[j]? = some e'->e'.key≠.int q k) (v:Value) :
  (mapUpdate xt (.map (some b)) (.int q k) v).run P w=.ok () { w with heap:=w.heap.setIfInBounds b (.map (es.modify i λe=>{ e with key:=.int q k,val:=v }) clock) }:=by
 have h:=fI (i0:=0) hI (by simpa using hi) he (λj e' hj WQ=>hn j e' hj (by simpa using WQ));have h2:=MH (P:=P) (w:=w) hk h;have h3:=HW (P:=P) (w:=w) (k:=k) hk false 9999;simp[mapUpdate,underlying,hx,getObj,CI hb,h2,h3,hi,he,keyThatStays,sameBits,setObj,TX hb]
def QpW{xt kt et:TypeId}{b}{es:Array MapEntry}{clock}(hx:P.underlying xt=some (.map kt et))(hk:P.underlying kt=some (.int q))(hb:w.heap[b]? = some (.map es clock))(hI:MG q es.toList)
  (hn:∀e∈es.toList,e.key≠.int q k) (v:Value) :
  (mapUpdate xt (.map (some b)) (.int q k) v).run P w=.ok () { w with heap:=w.heap.setIfInBounds b (.map (es.push { key:=.int q k,val:=v,born:=clock }) (clock+1)) }:=by
 have h2:=MH (P:=P) (w:=w) hk (fH (i:=0) hI hn);have h3:=HW (P:=P) (w:=w) (k:=k) hk false 9999;simp[mapUpdate,underlying,hx,getObj,CI hb,h2,h3,setObj,TX hb]
def QpX{xt kt et ty kt2:TypeId}{b}{es:Array MapEntry}{clock}(hx:P.underlying xt=some (.map kt et))(hk:P.underlying kt=some (.int q))(hb:w.heap[b]? = some (.map es clock))(hI:MG q es.toList)
  {i:Nat} {e:MapEntry} (hi:es[i]? = some e) (he:e.key=.int q k) (hn:∀(j:Nat) (e':MapEntry),j<i->es[j]? = some e'->e'.key≠.int q k) :
  (Builtin.delete_ #[xt,kt2] ty #[.map (some b),.int q k]).run P w=.ok (.tuple #[]) { w with heap:=w.heap.setIfInBounds b (.map (es.eraseIdxIfInBounds i) clock) }:=by
 have h:=fI (i0:=0) hI (by simpa using hi) he (λj e' hj WQ=>hn j e' hj (by simpa using WQ));have h2:=MH (P:=P) (w:=w) hk h;have h3:=HW (P:=P) (w:=w) (k:=k) hk es.isEmpty 9999;simp[Builtin.delete_,underlying,hx,getObj,CI hb,h2,h3,setObj,TX hb]
def QpY{xt kt et ty kt2:TypeId}{b}{es:Array MapEntry}{clock}(hx:P.underlying xt=some (.map kt et))(hk:P.underlying kt=some (.int q))(hb:w.heap[b]? = some (.map es clock))(hI:MG q es.toList)
  (hn:∀e∈es.toList,e.key≠.int q k) :
  (Builtin.delete_ #[xt,kt2] ty #[.map (some b),.int q k]).run P w=.ok (.tuple #[]) { w with heap:=w.heap.setIfInBounds b (.map es clock) }:=by
 have h2:=MH (P:=P) (w:=w) hk (fH (i:=0) hI hn);have h3:=HW (P:=P) (w:=w) (k:=k) hk es.isEmpty 9999;simp[Builtin.delete_,underlying,hx,getObj,CI hb,h2,h3,setObj,TX hb]
def QpZ{xt kt et:TypeId}{b}{es}{clock}(hx:P.underlying xt=some (.map kt et))(hb:w.heap[b]? = some (.map es clock)):
  (Instr.range xt (.map (some b))).run P w=.ok (.pointer (some ⟨w.heap.size,0,none⟩)) { w with heap:=w.heap.push (.mapIter (some b) clock #[] clock) }:=by
 simp[Instr.range,underlying,hx,getObj,CI hb,newObj,Sem.run]
end
def Tr.MI{Z:Nat->Prop}{base:Nat}{h:List Ob}{pl:List Pl}{w w':World}(R:Zv Z base h pl w){l:Nat}{o o':Ob}{b:Nat}(ho:h[l]? = some o)(hp:pl[l]? = some (some (b,0)))(e:∀c,c≠b->w'.heap[c]? = w.heap[c]?)
  (hg:o'.gen=o.gen) (hk:o'.kd.ty=o.kd.ty) (hz:o'.sz=o.sz) (rK:∀c el,w.heap[b]?≠some (.cells c el (0,0))):Tr h pl w (h.set l o') pl w' where
 KE:=λc hc _=>⟨hc,e c (λh=>by subst h;exact hc l 0 hp)⟩
 obj:=λl1 o1 p h1 h2=>by
  by_cases hl:l=l1
  ·subst hl;rw[ho]at h1;cases h1;exact⟨o',p,Wm (Kr ho),h2,by omega,hk,λ_=>⟨hz,rfl⟩⟩
  ·exact⟨o1,p,by rw[JJ hl];exact h1,h2,QB _,rfl,λ_=>⟨rfl,rfl⟩⟩
 shape:=λl1 o1 o2 c q h1 h2 _ h3 cs el hc=>by
  by_cases hb:c=b
  ·subst hb;exact absurd hc (rK cs el)
  ·exact⟨cs,by rw[e c hb];exact hc,rfl⟩
def Zv.MI{Z:Nat->Prop}{base:Nat}{h:List Ob}{pl:List Pl}{w w':World}(R:Zv Z base h pl w){l:Nat}{o o':Ob}{b:Nat}(ho:h[l]? = some o)(hp:pl[l]? = some (some (b,0)))(e:∀c,c≠b->w'.heap[c]? = w.heap[c]?)
  (T:Tr h pl w (h.set l o') pl w') (hx:KF Z (h.set l o') pl w' o' b 0) (hro:o'.kd.ro=o.kd.ro):Zv Z base (h.set l o') pl w' where
 len:=by rw[KD];exact R.len
 inj:=R.inj
 VM:=λl1 o1 h1 h2=>by
  by_cases hl:l=l1
  ·subst hl;rw[hp]at h2;cases h2
  ·rw[JJ hl]at h1;exact R.VM l1 o1 h1 h2
 at_:=λl1 o1 c q h1 h2=>by
  by_cases hl:l=l1
  ·subst hl;rw[Wm (Kr ho)]at h1;cases h1;rw[hp]at h2;cases h2;exact⟨λhr=>(R.at_ l o b 0 ho hp).1 (by rw[<- hro,hr]),hx⟩
  ·rw[JJ hl]at h1;obtain⟨g1,x⟩:=R.at_ l1 o1 c q h1 h2;have hc:c≠b:=λh=>by subst h;exact hl (R.inj l l1 c 0 q hp h2)
   exact⟨g1,x.to rfl rfl rfl (e c hc) (λ_ _=>rfl) λi j v _ _ hr=>hr.tr T⟩
structure ZU where
 k:Int
 v:D
 b:Nat
def Br(q:IntKind)(c:Nat)(es:List ZU):Nat->List D
 | 0=>[.raw (.int .i64 c),.undef,.undef]
 | r+1=>match es[r]? with
  | some e=>[.raw (.int q e.k),e.v,.raw (.int .i64 e.b)]
  | none=>[.undef,.undef,.undef]
def Wr(kd:Kd)(q:IntKind)(c:Nat)(es:List ZU):Ob:=⟨kd,0,3,es.length+1,Br q c es⟩
def QS(q:IntKind)(c:Nat)(es:List ZU):Ob:=Wr .map q c es
def ZJ:List ZU->Int->Option D
 | [],_=>none
 | e::r,k=>if e.k=k then some e.v else ZJ r k
def kG:List ZU->Int->D->List ZU
 | [],_,_=>[]
 | e::r,k,v=>if e.k=k then ⟨k,v,e.b⟩::r else e::kG r k v
def Kg:List ZU->Int->List ZU
 | [],_=>[]
 | e::r,k=>if e.k=k then r else e::Kg r k
def J2(q:IntKind)(c:Nat)(es:List ZU)(k:Int)(v:D):Ob:=match ZJ es k with
 | some _=>QS q c (kG es k v)
 | none=>QS q (c+1) (es++[⟨k,v,c⟩])
def HX:D->Int
 | .raw (.int _ n)=>n
 | _=>0
def clockOf(o:Ob):Nat:=(HX (nth (o.row 0) 0)).toNat
def Et(o:Ob):List ZU:=(List.range (o.n - 1)).map λi=>⟨HX (nth (o.row (i+1)) 0),nth (o.row (i+1)) 1,(HX (nth (o.row (i+1)) 2)).toNat⟩
def Ob.ro(o:Ob):Ob:=⟨o.kd.toRo,o.gen,o.sz,o.n,o.row⟩
def IsMap(q:IntKind)(o:Ob):Prop:=o.kd.ty=1/\o=Wr o.kd q (clockOf o) (Et o)
theorem QeG(kd:Kd)(q)(c)(es):clockOf (Wr kd q c es)=c:=by simp[clockOf,Wr,Br,nth,HX]
theorem rL(q)(c)(es):clockOf (QS q c es)=c:=QeG _ _ _ _
theorem QeH(kd:Kd)(q)(c)(es):Et (Wr kd q c es)=es:=by
 apply A9;intro i;simp only[Et,Wr,Br,OS,KG,eh];by_cases h:i<es.length
 ·simp[eh h,nth,HX,h]
 ·rw[Cs (by simpa using h)];simp[h]
theorem rM(q)(c)(es):Et (QS q c es)=es:=QeH _ _ _ _
theorem QeI(q)(c)(es):IsMap q (QS q c es)=True:=by
 refine eq_true ⟨rfl,?_⟩;exact(by rw[rL,rM];rfl)
theorem rN(o:Ob):clockOf o.ro=clockOf o:=rfl
theorem QeJ(o:Ob):Et o.ro=Et o:=rfl
theorem Qp0(q)(o:Ob):IsMap q o.ro=IsMap q o:=by
 obtain⟨k,g,z,n,r⟩:=o;simp only[IsMap,rN,QeJ];simp only[Ob.ro,Wr,Kd.toRo_ty,Ob.mk.injEq,Bd]
theorem Qp1(q)(c)(es:List ZU):(QS q c es).kd=.map:=rfl
theorem Qp2(q)(c)(es:List ZU):(QS q c es).n=es.length+1:=rfl
theorem Qp3(q)(c)(es:List ZU):(QS q c es).gen=0:=rfl
theorem fJ(o:Ob):o.ro.kd=o.kd.toRo:=rfl
theorem Qp4(o:Ob):o.ro.n=o.n:=rfl
theorem Qp5(o:Ob):o.ro.gen=o.gen:=rfl
def IsMap.get{q}{o:Ob}(h:IsMap q o):∃kd c es,kd.ty=1/\o.kd=kd/\clockOf o=c/\Et o=es/\o=Wr kd q c es:=⟨_,_,_,h.1,rfl,rfl,rfl,h.2⟩
def fK:∀{es:List ZU} {k:Int} {v:D},ZJ es k=some v->∃(j:Nat) (e:ZU),es[j]? = some e/\e.k=k/\e.v=v/\(∀(i:Nat) (e':ZU),i<j->es[i]? = some e'->e'.k≠k)/\(∀u,kG es k u=es.set j ⟨k,u,e.b⟩)/\Kg es k=es.eraseIdx j
 | [],_,_,h=>by simp[ZJ]at h
 | e::r,k,v,h=>by
  simp only[ZJ]at h;by_cases hk:e.k=k
  ·rw[Qf hk]at h;cases h;exact⟨0,e,rfl,hk,rfl,λi _ hi=>absurd hi (Vw i),λu=>by simp[kG,hk],by simp[Kg,hk]⟩
  ·rw[Qd hk]at h;obtain⟨j,e',h1,h2,h3,h4,h5,h6⟩:=fK h;refine⟨j+1,e',by simpa using h1,h2,h3,λi x hi hx=>?_,λu=>by simp[kG,hk,h5 u],by simp[Kg,hk,h6]⟩;cases i with
   | zero=>simp at hx;subst hx;exact hk
   | succ i=>exact h4 i x (by omega) (by simpa using hx)
def TY:∀{es:List ZU} {k:Int},ZJ es k=none->(∀e∈es,e.k≠k)/\(∀u,kG es k u=es)/\Kg es k=es
 | [],_,_=>⟨by simp,λ_=>rfl,rfl⟩
 | e::r,k,h=>by
  simp only[ZJ]at h;by_cases hk:e.k=k
  ·rw[Qf hk]at h;cases h
  ·rw[Qd hk]at h;obtain⟨h1,h2,h3⟩:=TY h;exact⟨λx hx=>by
    rcases QM.1 hx with rfl|h
    ·exact hk
    ·exact h1 x h,λu=>by simp[kG,hk,h2 u],by simp[Kg,hk,h3]⟩
def QeK:∀{es:List ZU} {k:Int} (v:D) (k':Int),ZJ (kG es k v) k'=if k'=k then (ZJ es k).map (λ_=>v) else ZJ es k'
 | [],k,v,k'=>by simp[kG,ZJ]
 | e::r,k,v,k'=>by
  by_cases h:e.k=k
  ·simp only[kG,Qf h,ZJ];by_cases h2:k=k'
   ·simp[h2]
   ·rw[Qd h2,Qd (λe=>h2 e.symm),Qd (by rw[h];exact h2)]
  ·simp only[kG,Qd h,ZJ];rw[QeK v k'];by_cases h2:k'=k
   ·subst h2;simp[h]
   ·simp[h2]
def QeL:∀(es es':List ZU) (k:Int),ZJ (es++es') k=(ZJ es k).or (ZJ es' k)
 | [],_,_=>by simp[ZJ]
 | e::r,es',k=>by
  by_cases h:e.k=k
  ·simp[ZJ,h]
  ·simp[ZJ,h,QeL r es' k]
def rO(q)(c)(es)(k)(v):∃c' es',J2 q c es k v=QS q c' es'/\∀k',ZJ es' k'=if k'=k then some v else ZJ es k':=by
 unfold J2;cases h:ZJ es k with
 | some d=>
  refine⟨c,kG es k v,rfl,λk'=>?_⟩;rw[QeK,h];rfl
 | none=>
  refine⟨c+1,es++[⟨k,v,c⟩],rfl,λk'=>?_⟩;rw[QeL];by_cases h2:k'=k
  ·subst h2;simp[h,ZJ]
  ·rw[Qd h2];cases ZJ es k'<;>simp[ZJ,Q8 h2]
def Yt(es:List ZU):Prop:=(es.map (·.k)).Nodup
structure vN (Z:Nat->Prop) (h:List Ob) (pl:List Pl) (w:World) (q:IntKind) (c:Nat) (es:List ZU) (Q1:List MapEntry):Prop where
 len:es.length=Q1.length
 at_:∀(i:Nat) (e:ZU) (a:MapEntry),es[i]? = some e->Q1[i]? = some a->a.key=.int q e.k/\QE Z h pl w e.v a.val/\a.born=e.b/\a.born<c
 inc:∀(i j:Nat) (a a':MapEntry),i<j->Q1[i]? = some a->Q1[j]? = some a'->a.born<a'.born
def rP{Z}{h}{pl}{w:World}{q}{c}{es}{b}{Q1:Array MapEntry}(hb:w.heap[b]? = some (.map Q1 c))(E:vN Z h pl w q c es Q1.toList){kd:Kd}(Jc:kd.ty=1):KF Z h pl w (Wr kd q c es) b 0:=by
 refine KF.ofMap Jc ⟨rfl,rfl,Q1,c,hb,by have:=E.len;simp at this;simp[Wr,this],λi _=>?_,.cl _ _ (.raw _),λi a ha=>?_,λi j a a' Vy h1 h2=>E.inc i j a a' Vy (by simpa using h1) (by simpa using h2)⟩
 ·show (Br q c es i).length=3;cases i with
  | zero=>rfl
  | succ i=>simp only[Br];split<;>rfl
 ·have Qc:=(WN.1 ha).1;have hi:i<es.length:=by have:=E.len;simp at this;omega
  obtain⟨h1,h2,h3,h4⟩:=E.at_ i es[i] a (QW hi) (by simpa using ha);have e1:Br q c es (i+1)=[.raw (.int q es[i].k),es[i].v,.raw (.int .i64 es[i].b)]:=by simp[Br,hi]
  show _/\QE Z h pl w (nth (Br q c es (i+1)) 0) _/\QE Z h pl w (nth (Br q c es (i+1)) 1) _/\QE Z h pl w (nth (Br q c es (i+1)) 2) _;rw[e1];exact⟨h4,by rw[h1];exact .cl _ _ (.raw _),h2,by rw[h3];exact .cl _ _ (.raw _)⟩
def fM{Z}{h}{pl}{w:World}{q}{c}{es}{b p}{kd:Kd}(Jc:kd.ty=1)(x:KF Z h pl w (Wr kd q c es) b p):p=0/\∃Q1:Array MapEntry,w.heap[b]? = some (.map Q1 c)/\vN Z h pl w q c es Q1.toList:=by
 obtain⟨h0,_,Q1,clock,h1,h2,_,h4,h5,h6⟩:=x.map Jc;have hc:clock=c:=by
  have:=JG h4;simp at this;omega
 subst hc;have hl:es.length=Q1.size:=by simpa[Wr] using h2
 refine⟨h0,Q1,h1,by simpa using hl,λi e a he ha=>?_,λi j a a' Vy g1 g2=>h6 i j a a' Vy (by simpa using g1) (by simpa using g2)⟩;obtain⟨k1,k2,k3,k4⟩:=h5 i a (by simpa using ha);have e1:(Wr kd q clock es).row (i+1)=[.raw (.int q e.k),e.v,.raw (.int .i64 e.b)]:=by simp[Wr,Br,he]
 rw[e1]at k2 k3 k4;have:=JG k2;have h8:=JG k4;refine⟨this,k3,?_,k1⟩;simp at h8;omega
def vN.keys{Z}{h}{pl}{w}{q}{c}{es}{Q1}(E:vN Z h pl w q c es Q1):MG q Q1:=λa ha=>by
 obtain⟨i,hi⟩:=HB ha;have Qc:i<es.length:=by rw[E.len];exact(Xd.1 hi).1
 exact⟨_,(E.at_ i es[i] a (QW Qc) hi).1⟩
def vN.Xh{Z}{h}{pl}{w}{q}{c}{es:List ZU}{Q1:Array MapEntry}(E:vN Z h pl w q c es Q1.toList){k}{j}{e:ZU}(he:es[j]? = some e)(hk:e.k=k)(hn:∀(i:Nat) (e':ZU),i<j->es[i]? = some e'->e'.k≠k):
  ∃a,Q1[j]? = some a/\a.key=.int q k/\QE Z h pl w e.v a.val/\a.born=e.b/\a.born<c/\∀(i:Nat) (e':MapEntry),i<j->Q1[i]? = some e'->e'.key≠.int q k:=by
 have Qc:j<Q1.toList.length:=by rw[<- E.len];exact(Xd.1 he).1
 obtain⟨h1,h2,h3,h4⟩:=E.at_ j e Q1.toList[j] he (QW Qc);refine⟨Q1.toList[j],by simp,by rw[h1,hk],h2,h3,h4,λi a' Vy We=>?_⟩;have hi:i<es.length:=by have:=(Xd.1 he).1;omega
 obtain⟨g1,_⟩:=E.at_ i es[i] a' (QW hi) (by simpa using We);rw[g1];intro hh;exact hn i _ Vy (QW hi) (by simpa using hh)
def vN.F2{Z}{h}{pl}{w}{q}{c}{es}{Q1}(E:vN Z h pl w q c es Q1){k}(hn:∀e∈es,e.k≠k):∀a∈Q1,a.key≠.int q k:=λa ha=>by
 obtain⟨i,hi⟩:=HB ha;have Qc:i<es.length:=by rw[E.len];exact(Xd.1 hi).1
 rw[(E.at_ i es[i] a (QW Qc) hi).1];intro hh;exact hn _ (qK Qc) (by simpa using hh)
def vN.tr{Z}{h h'}{pl Qm}{w w'}(T:Tr h pl w h' Qm w'){q}{c}{es}{Q1}(E:vN Z h pl w q c es Q1):vN Z h' Qm w' q c es Q1:=
 ⟨E.len,λi e a h1 h2=>let ⟨g1,g2,g3⟩:=E.at_ i e a h1 h2;⟨g1,g2.tr T,g3⟩,E.inc⟩
section
variable {P:Program}{L:Jt}{base nt:Nat}{s:St}{o:Oper}{q:IntKind}{t kt et:TypeId}{x i:Operand}{l g n:Nat}{ob:Ob}{k:Int}
def fN{Z}{pl}{a}{w}(r:Rel Z base nt s pl a w){c}{es}{kd:Kd}(Jc:kd.ty=1)(hx:Qt s.fr x=.mref l 0)(Zt:s.h[l]? = some (Wr kd q c es)):
  ∃b Q1,a.eval x=.map (some b)/\pl[l]? = some (some (b,0))/\(kd.ro=false->base<=b)/\w.heap[b]? = some (.map Q1 c)/\vN Z s.h pl w q c es Q1.toList:=by
 have e1:=r.eval x;rw[hx]at e1;obtain⟨o',p,b,h1,h2,h3,h4,h5⟩:=HI e1;rw[Zt]at h1;cases h1;have h5:=h5 rfl;rw[h5]at h2;obtain⟨ZG,Ag⟩:=r.o.at_ l _ b 0 Zt h2;obtain⟨_,Q1,hb,E⟩:=fM Jc Ag;have hv:=h3.2;have:(Wr kd q c es).kd.ty=1:=Jc;rw[this]at hv;exact⟨b,Q1,hv,h2,ZG,hb,E⟩
def fO{Z}{pl:List Pl}{a}{w:World}(r:Rel Z base nt s pl a w){c}{es}(Zt:s.h[l]? = some (QS q c es)){b}(hp:pl[l]? = some (some (b,0)))(ZG:base<=b){Q1}(hb:w.heap[b]? = some (.map Q1 c))
  {c':Nat} {es':List ZU} {ens':Array MapEntry} (E:∀Qm w',Tr s.h pl w (s.h.set l (QS q c' es')) Qm w'->vN Z (s.h.set l (QS q c' es')) Qm w' q c' es' ens'.toList) :
  ∃w',w'={ w with heap:=w.heap.setIfInBounds b (.map ens' c') }/\Tr s.h pl w (s.h.set l (QS q c' es')) pl w'/\Zv Z base (s.h.set l (QS q c' es')) pl w'/\Below base w w':=by
 have xg:=vI hb;generalize qf:({ w with heap:=w.heap.setIfInBounds b (.map ens' c') }:World)=w';have e:∀c,c≠b->w'.heap[c]? = w.heap[c]? := λc hc=>by rw[<- qf];simp[A7,Q8 hc]
 have Kb:w'.heap[b]? = some (.map ens' c'):=by rw[<- qf];simp[A7,xg]
 have T:=Tr.MI (w':=w') r.o Zt hp e (o':=QS q c' es') rfl rfl rfl (by rw[hb];intro c el h;cases h);exact⟨w',rfl,T,Zv.MI (hro:=rfl) r.o Zt hp e T (rP Kb (E pl w' T) rfl),O6 ZG e (by rw[<- qf];simp) (by rw[<- qf]) (by rw[<- qf]) (by rw[<- qf])⟩
def Qp6(hL:Jq P L){yt yk ye:Ty}(ht:ty L t=some yt)(YT:yt.k=.map kt et)(xh:ty L kt=some yk)(Ah:yk.k=.int q)(WO:ty L et=some ye)
  {Z:Nat->Prop} {h:List Ob} {pl:List Pl} {w:World} {b c:Nat} {es:List ZU} {Q1:Array MapEntry} (hb:w.heap[b]? = some (.map Q1 c)) (E:vN Z h pl w q c es Q1.toList) (ok:Bool) :
  ∃v,QE Z h pl w (match ZJ es k with|some d=>d|none=>Ej ye) v/\∀w':World,w'.heap[b]? = w.heap[b]? ->
   (lookup t (.map (some b)) (.int q k) ok).run P w'=.ok (if ok then .tuple #[v,.bool (ZJ es k).isSome] else v) w':=by
 have h3:=λw:World=>HW (P:=P) (w:=w) (k:=k) (Eg (hL kt yk xh) Ah) Q1.isEmpty 9999;have hx:=FU (hL t yt ht) YT;cases hf:ZJ es k with
 | some d=>
  obtain⟨j,e,g1,g2,g3,g4,_⟩:=fK hf;obtain⟨a,a1,a2,a3,a4,a5,a6⟩:=E.Xh g1 g2 g4;refine⟨a.val,by rw[<- g3];exact a3,λw' hw=>?_⟩;have h:=fI (i0:=0) E.keys (by simpa using a1) a2 (λj e' hj WQ=>a6 j e' hj (by simpa using WQ));have h2:=MH (P:=P) (w:=w') (Eg (hL kt yk xh) Ah) h;simp[lookup,underlying,hx,getObj,CI (hw.trans hb),h2,h3]
 | none=>
  obtain⟨g1,_⟩:=TY hf;obtain⟨z,hz,jj⟩:=pV (hL et ye WO) (N:=free Z pl) w;refine⟨z,.cl _ _ hz,λw' hw=>?_⟩;have h2:=MH (P:=P) (w:=w') (Eg (hL kt yk xh) Ah) (fH (i:=0) E.keys (E.F2 g1));simp[lookup,underlying,hx,getObj,CI (hw.trans hb),h2,h3,jj w']
def Qp7(hL:Jq P L){yt yk ye:Ty}(ht:ty L t=some yt)(YT:yt.k=.map kt et)(xh:ty L kt=some yk)(Ah:yk.k=.int q)(WO:ty L et=some ye)
  {N:Nat->Prop} {w:World} (ok:Bool):∃v,Cl N w (Ej ye) v/\∀w':World,(lookup t (.map none) (.int q k) ok).run P w'=.ok (if ok then .tuple #[v,.bool false] else v) w':=by
 obtain⟨z,hz,jj⟩:=pV (hL et ye WO) (N:=N) w;refine⟨z,hz,λw'=>?_⟩;have h3:=HW (P:=P) (w:=w') (k:=k) (Eg (hL kt yk xh) Ah) true 9999;have h2:=MH (P:=P) (w:=w') (k:=k) (Eg (hL kt yk xh) Ah) (es:=[]) (r:=none) rfl;simp[lookup,underlying,FU (hL t yt ht) YT,h2,h3,jj w']
def fQ(L:Jt)(h:List Ob)(t:TypeId)(x i:D)(ok:Bool):Ev:=match ty L t with
 | some ⟨.map kt et,_,_,_⟩=>match ty L kt,ty L et with
  | some ⟨.int q,_,_,_⟩,some ye=>match i with
   | .raw (.int q' k)=>match x with
    | .mref l g=>match h[l]? with
     | some o=>some (IsMap q o/\q'=q/\g=0,match ZJ (Et o) k with
      | some d=>bif ok then .tup [d,.raw (.bool true)] else d
      | none=>bif ok then .tup [Ej ye,.raw (.bool false)] else Ej ye)
     | none=>none
    | .raw (.map none)=>some (q'=q,bif ok then .tup [Ej ye,.raw (.bool false)] else Ej ye)
    | _=>none
   | _=>none
  | _,_=>none
 | _=>none
def look_ok(hL:Jq P L){ok}(ho:o.op=.lookup t x i ok){p}{d}(h:fQ L s.h t (Qt s.fr x) (Qt s.fr i) ok=some (p,d))(hp:p):WE P base nt o s d:=by
 intro Z pl a w r;unfold fQ at h;split at h;case h_2=>cases h
 rename_i kt et m1 m2 m3 ht;split at h;case h_2=>cases h
 rename_i q n1 n2 n3 ye xh WO;split at h;case h_2=>cases h
 rename_i q' k hi;have e2:=r.eval i;rw[hi]at e2;have e2:=JG e2;split at h;case h_3=>cases h
 case h_2 hx=>
  simp only[Za,Zp]at h;obtain⟨rfl,rfl⟩:=h;subst hp;have e1:=r.eval x;rw[hx]at e1;have e1:=JG e1;obtain⟨v,hv,Zl⟩:=Qp7 (k:=k) hL ht rfl xh rfl WO (N:=free Z pl) (w:=w) ok;cases ok with
  | false=>exact⟨v,.cl _ _ hv,λw' hw=>by simp[execOp,ho,e1,e2,Zl w']⟩
  | true=>
   refine⟨.tuple #[v,.bool false],.tup _ [v,.bool false] rfl (λi hi=>match i,hi with
    | 0,_=>.cl _ _ hv
    | 1,_=>.cl _ _ (.raw _)),λw' hw=>by simp[execOp,ho,e1,e2,Zl w']⟩
 case h_1 l g hx=>
  split at h;case h_2=>cases h
  rename_i ob Zt;simp only[Za,Zp]at h;obtain⟨rfl,rfl⟩:=h;obtain⟨hm,rfl,rfl⟩:=hp;obtain⟨kd,c,es,Jc,_,_,xi,hm⟩:=hm.get;rw[xi];subst hm;obtain⟨b,Q1,e1,_,_,hb,E⟩:=fN r Jc hx Zt;obtain⟨v,hv,Zl⟩:=Qp6 (k:=k) hL ht rfl xh rfl WO hb E ok;cases hf:ZJ es k with
  | some d=>
   rw[hf]at hv Zl;cases ok with
   | false=>exact⟨v,hv,λw' hw=>by simp[execOp,ho,e1,e2,Zl w' (hw b (vI hb))]⟩
   | true=>
    refine⟨.tuple #[v,.bool true],.tup _ [v,.bool true] rfl (λi hi=>match i,hi with
     | 0,_=>hv
     | 1,_=>.cl _ _ (.raw _)),λw' hw=>by simp[execOp,ho,e1,e2,Zl w' (hw b (vI hb))]⟩
  | none=>
   rw[hf]at hv Zl;cases ok with
   | false=>exact⟨v,hv,λw' hw=>by simp[execOp,ho,e1,e2,Zl w' (hw b (vI hb))]⟩
   | true=>
    refine⟨.tuple #[v,.bool false],.tup _ [v,.bool false] rfl (λi hi=>match i,hi with
     | 0,_=>hv
     | 1,_=>.cl _ _ (.raw _)),λw' hw=>by simp[execOp,ho,e1,e2,Zl w' (hw b (vI hb))]⟩
def fR(L:Jt)(h:List Ob)(t:TypeId)(x:D):Ev:=match ty L t with
 | some ⟨.map _ _,_,_,_⟩=>match x with
  | .mref l g=>match h[l]? with
   | some o=>some (o.kd.ty=1/\g=o.gen,.raw (.int .i64 ((o.n - 1:Nat):Int)))
   | none=>none
  | .raw (.map none)=>some (True,.raw (.int .i64 0))
  | _=>none
 | _=>none
def Qp8(hL:Jq P L){Jm:Array TypeId}(ho:o.op=.call ⟨.builtin .len,#[x],Jm⟩)(MJ:Jm=#[t]){p}{d}(h:fR L s.h t (Qt s.fr x)=some (p,d))(hp:p):WE P base nt o s d:=by
 subst MJ;intro Z pl a w r;unfold fR at h;split at h;case h_2=>cases h
 rename_i kt et m1 m2 m3 ht;have hu:=FU (hL t _ ht) rfl;have e1:=r.eval x;split at h;case h_3=>cases h
 case h_2 hx=>
  simp only[Za,Zp]at h;obtain⟨rfl,rfl⟩:=h;rw[hx]at e1;have e1:=JG e1;refine⟨.int .i64 0,.cl _ _ (.raw _),λw' hw=>?_⟩;rw[vJ ho];simp[e1,builtin,Builtin.len_,underlying,hu,goInt]
 case h_1 l g hx=>
  split at h;case h_2=>cases h
  rename_i ob Zt;simp only[Za,Zp]at h;obtain⟨rfl,rfl⟩:=h;obtain⟨hk,rfl⟩:=hp;rw[hx]at e1;obtain⟨o',p,b,h1,h2,h3,h4,h5⟩:=HI e1;rw[Zt]at h1;cases h1;have h5:=h5 rfl;rw[h5]at h2;obtain⟨ZG,Ag⟩:=r.o.at_ l _ b 0 Zt h2;obtain⟨_,_,Q1,clock,hb,h6,_⟩:=Ag.map hk;have hv:=h3.2;rw[hk]at hv;refine⟨.int .i64 ((ob.n - 1:Nat):Int),.cl _ _ (.raw _),λw' hw=>?_⟩;rw[vJ ho];have KR:w'.heap[b]? = some (.map Q1 clock):=by rw[hw b (vI hb)];exact hb
  simp[hv,TH,builtin,Builtin.len_,underlying,hu,getObj,CI KR,h6,goInt]
def Pe(L:Jt)(h:List Ob)(t:TypeId):Option (Prop × List Ob × D):=match ty L t with
 | some ⟨.map kt _,_,_,_⟩=>match ty L kt with
  | some ⟨.int q,_,_,_⟩=>some (True,h++[QS q 0 []],.mref h.length 0)
  | _=>some (True,h++[QS .i64 0 []],.mref h.length 0)
 | _=>none
def QeM(hL:Jq P L){rz}(hr:rz=none\/∃k n,rz=some (.const (.int k n))/\0<=n)(ho:o.op=.makeMap t rz){p}{h'}{d}(h:Pe L s.h t=some (p,h',d)):kE P base nt o s h' d:=by
 have hm:∃q,p=True/\h'=s.h++[QS q 0 []]/\d=.mref s.h.length 0/\∃kt vt a b c,ty L t=some ⟨.map kt vt,a,b,c⟩:=by
  unfold Pe at h;split at h;case h_2=>cases h
  rename_i kt vt _ _ _ ht;split at h;all_goals
   simp only[Za,Zp]at h;obtain⟨rfl,rfl,rfl⟩:=h;exact⟨_,rfl,rfl,rfl,_,_,_,_,_,ht⟩
 obtain⟨q,rfl,rfl,rfl,kt,vt,_,_,_,ht⟩:=hm;intro Z pl a w r K7;have e:∀b,b<w.heap.size->(w.alloc (.map #[] 0)).heap[b]? = w.heap[b]? := λb hb=>xY w _ b hb;have Kb:(w.alloc (.map #[] 0)).heap[w.heap.size]? = some (.map #[] 0):=heap_alloc_new w _;have T:Tr s.h pl w (s.h++[QS q 0 []]) (pl++[some (w.heap.size,0)]) (w.alloc (.map #[] 0)):=Tr.push r.o e _ _ (by intro b q h;simp at h;omega);have Zk:pl.length=s.h.length:=r.o.len;refine⟨.map (some w.heap.size),w.alloc (.map #[] 0),pl++[some (w.heap.size,0)],.inl ?_,T,?_,?_,FX K7 _,λ_=>e⟩
 ·rcases hr with rfl|⟨k,n,rfl,hn⟩
  ·simp[execOp,ho,makeMap]
  ·simp[execOp,ho,makeMap,Act.eval,underlying,FU (hL t _ ht) rfl,asInt,asIntOf]
 ·exact Zv.TI r.o e _ (QB _) K7 (rP (kd:=.map) Kb ⟨rfl,λi e a h=>by simp at h,λi j a a' _ h=>by simp at h⟩ rfl)
 ·exact .mref _ _ (QS q 0 []) (some (w.heap.size,0)) w.heap.size (by simp) (by rw[<- Zk];simp) ⟨by simp[QS,Wr,Kd.ty],rfl⟩ (QB _) (λ_=>rfl)
def HY(L:Jt)(h:List Ob)(t:TypeId)(x i v:D):Option (Prop × List Ob):=match ty L t with
 | some ⟨.map kt _,_,_,_⟩=>match ty L kt with
  | some ⟨.int q,_,_,_⟩=>match x,i with
   | .mref l g,.raw (.int q' k)=>match h[l]? with
    | some o=>some (IsMap q o/\q'=q/\g=0/\o.kd.ro=false,h.set l (J2 q (clockOf o) (Et o) k v))
    | none=>none
   | _,_=>none
  | _=>none
 | _=>none
def QeN{w:World}{b}{es}{c}(hb:w.heap[b]? = some (.map es c))(o:Obj):kC w { w with heap:=w.heap.setIfInBounds b o }:=λa v h=>by
 by_cases e:a.block=b
 ·simp[World.cell?,e,hb]at h
 ·rw[World.cell?_of_block (w:=w)]
  ·exact h
  ·simp[A7,Q8 e]
def QeO(hL:Jq P L){v}(ho:o.op=.mapUpdate t x i v){p}{h'}(h:HY L s.h t (Qt s.fr x) (Qt s.fr i) (Qt s.fr v)=some (p,h'))(hp:p):∀(Z:Nat->Prop) pl a w,Rel Z base nt s pl a w->base<=w.heap.size->∃v w' Qm,((execOp a.eval o).run P w=.ok (.value v) w'\/((execOp a.eval o).run P w=.ok .skip w'/\v=Go.undef))/\Tr s.h pl w h' Qm w'/\Zv Z base h' Qm w'/\QE Z h' Qm w' .undef v/\Below base w w'/\kC w w':=by
 unfold HY at h;split at h;case h_2=>cases h
 split at h;case h_2=>cases h
 rename_i kt et _ _ _ ht _ q _ _ _ xh;split at h;case h_2=>cases h
 rename_i l g q' k hx hi;split at h;case h_2=>cases h
 rename_i ob Zt;simp only[Za,Zp]at h;obtain⟨rfl,rfl⟩:=h;obtain⟨hm,rfl,rfl,hro⟩:=hp;obtain⟨kd,c,es,Jc,Eu,JW,xi,hm⟩:=hm.get;rw[xi,JW];have Qj:kd=.map:=by rw[Eu]at hro;cases kd<;>first|rfl|(exfalso;revert Jc;decide)|(exfalso;revert hro;decide)
 subst Qj;rw[show Wr .map q' c es=QS q' c es from rfl]at hm;subst hm;intro Z pl a w r K7;have e2:=r.eval i;rw[hi]at e2;have e2:=JG e2;have e3:=r.eval v;obtain⟨b,Q1,e1,h2,ZG,hb,E⟩:=fN (kd:=.map) r rfl hx Zt;have ZG:=ZG rfl;have HZ:=FU (hL t _ ht) rfl;have ZE:=Eg (hL kt _ xh) rfl;cases hf:ZJ es k with
 | some d=>
  obtain⟨j,e,g1,g2,g3,g4,g5,_⟩:=fK hf;obtain⟨a1,b1,b2,b3,b4,b5,b6⟩:=E.Xh g1 g2 g4;have Zl:=QpV (P:=P) (w:=w) (k:=k) HZ ZE hb E.keys b1 b2 b6 (a.eval v);have hm:J2 q' c es k (Qt s.fr v)=QS q' c (es.set j ⟨k,Qt s.fr v,e.b⟩):=by simp only[J2,hf];rw[g5]
  rw[hm];obtain⟨w',rfl,T,O,B⟩:=fO r Zt h2 ZG hb (c':=c) (es':=es.set j ⟨k,Qt s.fr v,e.b⟩) (ens':=Q1.modify j λe=>{ e with key:=.int q' k,val:=a.eval v }) (λQm w' T=>by
   have E':=E.tr T;have qQ:∀(i':Nat) (x:MapEntry),(Q1.modify j λe=>{ e with key:=.int q' k,val:=a.eval v }).toList[i']? = some x->∃y,Q1.toList[i']? = some y/\x.born=y.born/\(i'≠j->x=y)/\(i'=j->x.key=.int q' k/\x.val=a.eval v):=λi' x hx=>by
    have hx:(Q1.modify j λe=>{ e with key:=.int q' k,val:=a.eval v })[i']? = some x:=by rw[<- wQ];exact hx
    rw[pI]at hx;split at hx
    ·rename_i Vy;subst Vy;rw[b1]at hx;simp at hx;subst hx;exact⟨a1,by simpa using b1,rfl,λh=>absurd rfl h,λ_=>⟨rfl,rfl⟩⟩
    ·rename_i Vy;exact⟨x,by simpa using hx,rfl,λ_=>rfl,λh=>absurd h.symm Vy⟩
   refine⟨by have:=E.len;simp at this ⊢;exact this,λi' e' a' Xz We=>?_,λi1 i2 x y F3 hx hy=>?_⟩
   ·obtain⟨y,y1,y2,y3,y4⟩:=qQ i' a' We;by_cases Vy:i'=j
    ·subst Vy;have Qc:=(Xd.1 g1).1;rw[Wm Qc]at Xz;cases Xz;obtain⟨d1,d2⟩:=y4 rfl;have:y=a1:=by have fS:Q1.toList[i']? = some a1:=(by simpa using b1);rw [y1] at fS; simpa using fS
     subst this;exact⟨d1,by rw[d2];exact e3.tr T,by rw[y2,b4],by rw[y2];exact b5⟩
    ·rw[JJ (Q8 Vy)]at Xz;rw[y3 Vy];exact E'.at_ i' e' y Xz y1
   ·obtain⟨x',qm,KL,_⟩:=qQ i1 x hx;obtain⟨y',Cy,Jb,_⟩:=qQ i2 y hy;rw[KL,Jb];exact E.inc i1 i2 x' y' F3 qm Cy)
  exact⟨Go.undef,_,pl,.inr ⟨by simp[execOp,ho,e1,e2,Zl],rfl⟩,T,O,.cl _ _ (.undef _),B,QeN hb _⟩
 | none=>
  obtain⟨g1,_⟩:=TY hf;have Zl:=QpW (P:=P) (w:=w) (k:=k) HZ ZE hb E.keys (E.F2 g1) (a.eval v);have hm:J2 q' c es k (Qt s.fr v)=QS q' (c+1) (es++[⟨k,Qt s.fr v,c⟩]):=by simp only[J2,hf]
  rw[hm];obtain⟨w',rfl,T,O,B⟩:=fO r Zt h2 ZG hb (c':=c+1) (es':=es++[⟨k,Qt s.fr v,c⟩]) (ens':=Q1.push { key:=.int q' k,val:=a.eval v,born:=c }) (λQm w' T=>by
   have E':=E.tr T;have hl:es.length=Q1.size:=by have:=E.len;simpa using this
   refine⟨by simp[hl],λi' e' a' Xz We=>?_,λi1 i2 x y F3 hx hy=>?_⟩
   ·have We:(Q1.push { key:=.int q' k,val:=a.eval v,born:=c })[i']? = some a':=by rw[<- wQ];exact We
    rw[dV]at We;rcases Xe Xz with h1|⟨h1,JE⟩
    ·have:=(Xd.1 h1).1;rw[Qd (by omega)]at We;obtain⟨k1,k2,k3,k4⟩:=E'.at_ i' e' a' h1 (by simpa using We);exact⟨k1,k2,k3,by omega⟩
    ·subst JE;rw[Qf (by omega)]at We;cases We;exact⟨rfl,e3.tr T,rfl,by simp⟩
   ·have hx:(Q1.push { key:=.int q' k,val:=a.eval v,born:=c })[i1]? = some x:=by rw[<- wQ];exact hx
    have hy:(Q1.push { key:=.int q' k,val:=a.eval v,born:=c })[i2]? = some y:=by rw[<- wQ];exact hy
    rw[dV]at hx hy;have KE:∀(i:Nat) (z:MapEntry),Q1[i]? = some z->z.born<c:=λi z hz=>by
     have Qc:=(WN.1 hz).1;exact(E.at_ i (es[i]'(by omega)) z (QW (by omega)) (by simpa using hz)).2.2.2
    split at hx
    ·split at hy
     ·omega
     ·have:=(WN.1 hy).1;omega
    ·split at hy
     ·cases hy;exact KE i1 x hx
     ·exact E.inc i1 i2 x y F3 (by simpa using hx) (by simpa using hy))
  exact⟨Go.undef,_,pl,.inr ⟨by simp[execOp,ho,e1,e2,Zl],rfl⟩,T,O,.cl _ _ (.undef _),B,QeN hb _⟩
def Qp9(hL:Jq P L){v}(ho:o.op=.mapUpdate t x i v){p}{h'}(h:HY L s.h t (Qt s.fr x) (Qt s.fr i) (Qt s.fr v)=some (p,h'))(hp:p):kE P base nt o s h' .undef:=λZ pl a w r hb=>by
 obtain⟨v,w',Qm,h1,h2,h3,h4,h5,_⟩:=QeO hL ho h hp Z pl a w r hb;exact⟨v,w',Qm,h1,h2,h3,h4,h5,λhc=>by simp[calm,ho]at hc⟩
def fT(L:Jt)(h:List Ob)(t:TypeId)(x i:D):Option (Prop × List Ob):=match ty L t with
 | some ⟨.map kt _,_,_,_⟩=>match ty L kt with
  | some ⟨.int q,_,_,_⟩=>match i with
   | .raw (.int q' k)=>match x with
    | .mref l g=>match h[l]? with
     | some o=>some (IsMap q o/\q'=q/\g=0/\o.kd.ro=false,h.set l (QS q (clockOf o) (Kg (Et o) k)))
     | none=>none
    | .raw (.map none)=>some (q'=q,h)
    | _=>none
   | _=>none
  | _=>none
 | _=>none
def Qqa(hL:Jq P L){tk:TypeId}(ho:o.op=.call ⟨.builtin .delete,#[x,i],#[t,tk]⟩){p}{h'}(h:fT L s.h t (Qt s.fr x) (Qt s.fr i)=some (p,h'))(hp:p):kE P base nt o s h' (.tup []):=by
 unfold fT at h;split at h;case h_2=>cases h
 split at h;case h_2=>cases h
 rename_i kt et _ _ _ ht _ q _ _ _ xh;have HZ:=FU (hL t _ ht) rfl;have ZE:=Eg (hL kt _ xh) rfl;split at h;case h_2=>cases h
 rename_i q' k hi;split at h;case h_3=>cases h
 case h_2 hx=>
  simp only[Za,Zp]at h;obtain⟨rfl,rfl⟩:=h;subst hp;intro Z pl a w r K7;have e2:=r.eval i;rw[hi]at e2;have e2:=JG e2;have e1:=r.eval x;rw[hx]at e1;have e1:=JG e1;have h3:=HW (P:=P) (w:=w) (k:=k) ZE true 9999;refine⟨.tuple #[],w,pl,.inl ?_,Tr.refl _ _ _,r.o,.tup [] [] rfl (λi hi=>absurd hi (Vw i)),Below.refl _ _,λ_=>Ext.refl w⟩;rw[vJ ho];simp[e1,e2,builtin,Builtin.delete_,underlying,HZ,h3]
 case h_1 l g hx=>
  split at h;case h_2=>cases h
  rename_i ob Zt;simp only[Za,Zp]at h;obtain⟨rfl,rfl⟩:=h;obtain⟨hm,rfl,rfl,hro⟩:=hp;obtain⟨kd,c,es,Jc,Eu,JW,xi,hm⟩:=hm.get;rw[xi,JW];have Qj:kd=.map:=by rw[Eu]at hro;cases kd<;>first|rfl|(exfalso;revert Jc;decide)|(exfalso;revert hro;decide)
  subst Qj;rw[show Wr .map q' c es=QS q' c es from rfl]at hm;subst hm;intro Z pl a w r K7;have e2:=r.eval i;rw[hi]at e2;have e2:=JG e2;obtain⟨b,Q1,e1,h2,ZG,hb,E⟩:=fN (kd:=.map) r rfl hx Zt;have ZG:=ZG rfl;cases hf:ZJ es k with
  | some d=>
   obtain⟨j,e,g1,g2,g3,g4,g5,g6⟩:=fK hf;obtain⟨a1,b1,b2,b3,b4,b5,b6⟩:=E.Xh g1 g2 g4;have Zl:=QpX (P:=P) (w:=w) (k:=k) (ty:=o.type) (kt2:=tk) HZ ZE hb E.keys b1 b2 b6;rw[g6];have hjs:j<Q1.size:=(WN.1 b1).1;obtain⟨w',rfl,T,O,B⟩:=fO r Zt h2 ZG hb (c':=c) (es':=es.eraseIdx j) (ens':=Q1.eraseIdxIfInBounds j) (λQm w' T=>by
    have E':=E.tr T;have hl:es.length=Q1.size:=by have:=E.len;simpa using this
    have hto:(Q1.eraseIdxIfInBounds j).toList=Q1.toList.eraseIdx j:=by simp[Array.eraseIdxIfInBounds,hjs,Array.toList_eraseIdx]
    rw[hto];refine⟨by simp[List.length_eraseIdx,hl],λi' e' a' Xz We=>?_,λi1 i2 x y F3 hx hy=>?_⟩
    ·rw[List.getElem?_eraseIdx]at Xz We;split at Xz
     ·rw[Qf ‹_›]at We;exact E'.at_ _ _ _ Xz We
     ·rw[Qd ‹_›]at We;exact E'.at_ _ _ _ Xz We
    ·rw[List.getElem?_eraseIdx]at hx hy;split at hx<;>split at hy<;>exact E.inc _ _ x y (by omega) hx hy)
   refine⟨.tuple #[],_,pl,.inl ?_,T,O,.tup [] [] rfl (λi hi=>absurd hi (Vw i)),B,λhc=>by simp[calm,ho]at hc⟩;rw[vJ ho];simp[e1,e2,builtin,Zl]
  | none=>
   obtain⟨g1,_,g6⟩:=TY hf;have Zl:=QpY (P:=P) (w:=w) (k:=k) (ty:=o.type) (kt2:=tk) HZ ZE hb E.keys (E.F2 g1);rw[g6];obtain⟨w',rfl,T,O,B⟩:=fO r Zt h2 ZG hb (c':=c) (es':=es) (ens':=Q1) (λQm w' T=>E.tr T);refine⟨.tuple #[],_,pl,.inl ?_,T,O,.tup [] [] rfl (λi hi=>absurd hi (Vw i)),B,λhc=>by simp[calm,ho]at hc⟩;rw[vJ ho];simp[e1,e2,builtin,Zl]
def T6(l c c':Nat)(seen:List Nat):Nat->List D
 | 0=>[.mref l 0]
 | 1=>[.raw (.int .i64 c)]
 | 2=>[.raw (.int .i64 c')]
 | r+3=>match seen[r]? with
  | some b=>[.raw (.int .i64 b)]
  | none=>[.undef]
def XO(l c c':Nat)(seen:List Nat):Ob:=⟨.iter,0,1,seen.length+3,T6 l c c' seen⟩
def fU(L:Jt)(h:List Ob)(t:TypeId)(x:D):Option (Prop × List Ob × D):=match ty L t with
 | some ⟨.map _ _,_,_,_⟩=>match x with
  | .mref l g=>match h[l]? with
   | some o=>some (IsMap .i64 o/\g=0,h++[XO l (clockOf o) (clockOf o) []],.mref h.length 0)
   | none=>none
  | _=>none
 | _=>none
def QeP{Z}{h}{pl}{w:World}{l c c'}{seen}{b m}{sn:Array Nat}(hb:w.heap[b]? = some (.mapIter (some m) c sn c'))(hs:sn.toList=seen)(hm:QE Z h pl w (.mref l 0) (.map (some m))):KF Z h pl w (XO l c c' seen) b 0:=by
 subst hs;refine KF.Qef rfl ⟨rfl,rfl,m,c,c',sn,hb,by simp[XO],λi _=>?_,hm,.cl _ _ (.raw _),.cl _ _ (.raw _),λi s hs=>?_⟩
 ·show (T6 l c c' sn.toList i).length=1;unfold T6;split<;>(try split)<;>rfl
 ·have hs:sn.toList[i]? = some s:=by simpa using hs
  show QE Z h pl w (nth (T6 l c c' sn.toList (i+3)) 0) _;have:T6 l c c' sn.toList (i+3)=[.raw (.int .i64 s)]:=by simp only[T6,hs]
  rw[this];exact .cl _ _ (.raw _)
def QeQ{Z}{h}{pl}{w:World}{l c c'}{seen}{b p}(x:KF Z h pl w (XO l c c' seen) b p):p=0/\∃(m:Nat) (sn:Array Nat),w.heap[b]? = some (.mapIter (some m) c sn c')/\sn.toList=seen/\QE Z h pl w (.mref l 0) (.map (some m)):=by
 obtain⟨h0,_,m,since,last,sn,h1,h2,_,h4,h5,h6,h7⟩:=x.iter rfl;have e1:since=c:=by have:=JG h5;simp at this;omega
 have e2:last=c':=by have:=JG h6;simp at this;omega
 subst e1;subst e2;refine⟨h0,m,sn,h1,?_,h4⟩;have hl:seen.length=sn.size:=by simpa[XO] using h2
 apply A9;intro i;by_cases hi:i<sn.size
 ·have h8:=h7 i sn[i] (kv hi);have e3:(XO l since last seen).row (i+3)=[.raw (.int .i64 (seen[i]'(by omega)))]:=by
   show T6 l since last seen (i+3)=_;simp only[T6,QW (show i<seen.length by omega)]
  rw[e3]at h8;have:=JG h8;simp at this;rw[QW (show i<sn.toList.length by simpa using hi),QW (show i<seen.length by omega)];simp only[Array.getElem_toList,Za];omega
 ·rw[Cs (by simp;omega),Cs (by omega)]
def Qqd(hL:Jq P L)(ho:o.op=.range t x){p}{h'}{d}(h:fU L s.h t (Qt s.fr x)=some (p,h',d))(hp:p):kE P base nt o s h' d:=by
 unfold fU at h;split at h;case h_2=>cases h
 rename_i kt et _ _ _ ht;split at h;case h_2=>cases h
 rename_i l g hx;split at h;case h_2=>cases h
 rename_i ob Zt;simp only[Za,Zp]at h;obtain⟨rfl,rfl,rfl⟩:=h;obtain⟨hm,rfl⟩:=hp;obtain⟨kd,c,es,Jc,_,JW,_,hm⟩:=hm.get;rw[JW];subst hm;intro Z pl a w r K7;obtain⟨b,Q1,e1,h2,_,hb,E⟩:=fN r Jc hx Zt;have Zl:=QpZ (P:=P) (w:=w) (FU (hL t _ ht) rfl) hb;have e:∀b',b'<w.heap.size->(w.alloc (.mapIter (some b) c #[] c)).heap[b']? = w.heap[b']? := λb' hb=>xY w _ b' hb;have Kb:(w.alloc (.mapIter (some b) c #[] c)).heap[w.heap.size]? = some (.mapIter (some b) c #[] c):=heap_alloc_new w _;have T:Tr s.h pl w (s.h++[XO l c c []]) (pl++[some (w.heap.size,0)]) (w.alloc (.mapIter (some b) c #[] c)):=Tr.push r.o e _ _ (by intro b q h;simp at h;omega);have Zk:pl.length=s.h.length:=r.o.len;have hv:=r.eval x;rw[hx,e1]at hv;refine⟨.pointer (some ⟨w.heap.size,0,none⟩),w.alloc (.mapIter (some b) c #[] c),pl++[some (w.heap.size,0)],.inl ?_,T,?_,?_,FX K7 _,λ_=>e⟩
 ·simp[execOp,ho,e1,Zl]
 ·exact Zv.TI r.o e _ (QB _) K7 (QeP Kb rfl (hv.tr T))
 ·exact .mref _ _ (XO l c c []) (some (w.heap.size,0)) w.heap.size (by simp) (by rw[<- Zk];simp) ⟨by simp[XO,Kd.ty],rfl⟩ (QB _) (λ_=>rfl)
def Qqe(ho:o.op=.next x false){Z}{pl}{a}{w:World}(r:Rel Z base nt s pl a w)(K7:base<=w.heap.size){li c}{es}{seen}(hx:Qt s.fr x=.mref li 0)(Xh:s.h[li]? = some (XO l c c seen)){kd:Kd}(Jc:kd.ty=1)(Zt:s.h[l]? = some (Wr kd q c es)):
  ((∀e∈es,e.b∈seen)/\(execOp a.eval o).run P w=.ok (.value (.tuple #[.bool false])) w) \/
  ∃e∈es,e.b ∉ seen/\∃v w',(execOp a.eval o).run P w=.ok (.value v) w'/\Tr s.h pl w (s.h.set li (XO l c c (seen++[e.b]))) pl w'/\Zv Z base (s.h.set li (XO l c c (seen++[e.b]))) pl w' /\
   QE Z (s.h.set li (XO l c c (seen++[e.b]))) pl w' (.tup [.raw (.bool true),.raw (.int q e.k),e.v]) v/\Below base w w':=by
 have e1:=r.eval x;rw[hx]at e1;obtain⟨o',p,b,h1,h2,h3,h4,h5⟩:=HI e1;rw[Xh]at h1;cases h1;have h5:=h5 rfl;rw[h5]at h2;obtain⟨ZG,Ag⟩:=r.o.at_ li _ b 0 Xh h2;obtain⟨_,m,sn,hb,CJ,H9⟩:=QeQ Ag;have hv:a.eval x=.pointer (some ⟨b,0,none⟩):=h3.2;obtain⟨o2,p2,bm,k1,k2,k3,k4,k5⟩:=HI H9;rw[Zt]at k1;cases k1;have k5:=k5 rfl;rw[k5]at k2;have k3:=k3.2;rw[show (Wr kd q c es).kd.ty=1 from Jc]at k3;have k3:m=bm:=by simpa[TH] using k3
 subst k3;obtain⟨MK,rQ⟩:=r.o.at_ l _ m 0 Zt k2;obtain⟨_,Q1,Ia,E⟩:=fM Jc rQ;have hl:es.length=Q1.toList.length:=E.len;have hold:∀y∈Q1.toList,y.born<c:=λy hy=>by
  obtain⟨j,hj⟩:=HB hy;have Qc:=(Xd.1 hj).1;exact(E.at_ j (es[j]'(by omega)) y (QW (by omega)) hj).2.2.2
 rcases run_next_at (P:=P) w o.type b m c c sn Q1 c hb Ia hold (QB _) with ⟨g1,g2⟩|⟨y,g1,w1,g2,g3⟩
 ·refine .inl ⟨λe he=>?_,by simp[execOp,ho,hv,g2]⟩;obtain⟨j,hj⟩:=HB he;have Qc:=(Xd.1 hj).1;obtain⟨_,_,e3,_⟩:=E.at_ j e (Q1.toList[j]'(by omega)) hj (QW (by omega));have rR:∀z∈Q1.toList,sn.contains z.born=true:=λz hz=>by
   have:leftOf Q1 sn=#[]:=Array.eq_empty_of_size_eq_zero g1;unfold leftOf at this;rw[Array.filter_eq_empty_iff]at this;have:=this z (by simpa using hz);simpa using this
  have:=rR _ (qK (show j<Q1.toList.length by omega));rw[e3]at this;rw[<- CJ];simpa using this
 ·obtain⟨j,hj⟩:=HB (show y∈Q1.toList by unfold leftOf at g1;simp at g1;simpa using g1.1);have Qc:=(Xd.1 hj).1;obtain⟨d1,d2,d3,d4⟩:=E.at_ j (es[j]'(by omega)) y (QW (by omega)) hj;have CK:y.born ∉ sn.toList:=by unfold leftOf at g1;simp at g1;simpa using g1.2
  refine .inr ⟨es[j]'(by omega),qK _,by rw[<- d3,<- CJ];exact CK,?_⟩;rw[<- d3];have hh:w1.heap=w.heap:=by rcases g2 with rfl|rfl<;>rfl
  generalize qf:ChangeMaps.setBlock w1 b (.mapIter (some m) c (sn.push y.born) c)=w' at g3;have xg:=vI hb;have rS:w'.heap=w.heap.setIfInBounds b (.mapIter (some m) c (sn.push y.born) c):=by rw[<- qf,<- hh];rfl
  have e:∀k,k≠b->w'.heap[k]? = w.heap[k]? := λk hk=>by rw[rS];simp[A7,Q8 hk]
  have Kb:w'.heap[b]? = some (.mapIter (some m) c (sn.push y.born) c):=by rw[rS];simp[A7,xg]
  have T:=Tr.MI (w':=w') r.o Xh h2 e (o':=XO l c c (seen++[y.born])) rfl rfl rfl (by rw[hb];intro c el h;cases h);refine⟨_,w',by simp only[execOp,ho,hv,Sem.run_bind,g3,Result.andThen_ok];rfl,T,Zv.MI (hro:=rfl) r.o Xh h2 e T (QeP Kb (by rw[Array.toList_push,CJ]) (H9.tr T)),?_,?_⟩
  ·rw[d1];exact .tup _ [.bool true,.int q (es[j]'(by omega)).k,y.val] rfl λi hi=>match i,hi with
    | 0,_=>.cl _ _ (.raw _)
    | 1,_=>.cl _ _ (.raw _)
    | 2,_=>d2.tr T
  ·have B:Below base w w1:=by
    rcases g2 with rfl|rfl
    ·exact .refl _ _
    ·exact(Below.refl _ _).drew
   refine B.trans (O6 (ZG rfl) (λk hk=>by rw[hh];exact e k hk) (by rw[rS,hh];simp) (by rw[<- qf];rfl) (by rw[<- qf];rfl) (by rw[<- qf];rfl))
end
def WR(k:List Int):Value:=.agg (k.map (Value.int .u16)).toArray
structure X7 where
 k:List Int
 v:D
 b:Nat
def ZH(c:Nat)(es:List X7):Nat->List D
 | 0=>[.raw (.int .i64 c),.undef,.undef]
 | r+1=>match es[r]? with
  | some e=>[.raw (WR e.k),e.v,.raw (.int .i64 e.b)]
  | none=>[.undef,.undef,.undef]
def vO(kd:Kd)(c:Nat)(es:List X7):Ob:=⟨kd,0,3,es.length+1,ZH c es⟩
def xj(c:Nat)(es:List X7):Ob:=vO .map c es
def XA:List X7->List Int->Option D
 | [],_=>none
 | e::r,k=>if e.k=k then some e.v else XA r k
def Qqf:Value->Int
 | .int _ n=>n
 | _=>0
def rT:D->List Int
 | .raw (.agg a)=>a.toList.map Qqf
 | _=>[]
def Bs(o:Ob):List X7:=(List.range (o.n - 1)).map λi=>⟨rT (nth (o.row (i+1)) 0),nth (o.row (i+1)) 1,(HX (nth (o.row (i+1)) 2)).toNat⟩
def Pf(o:Ob):Prop:=o.kd.ty=1/\o=vO o.kd (clockOf o) (Bs o)/\∀e∈Bs o,e.k.length=4
def Qqg(k):rT (.raw (WR k))=k:=by
 simp only[rT,WR,xT]
 conv=>rhs;rw[<- List.map_id k]
 exact Ec λn _=>rfl
theorem QeR(kd:Kd)(c)(es:List X7):clockOf (vO kd c es)=c:=by simp[clockOf,vO,ZH,nth,HX]
theorem QeS(kd:Kd)(c)(es:List X7):Bs (vO kd c es)=es:=by
 apply A9;intro i;simp only[Bs,vO,ZH,OS,KG,eh];by_cases h:i<es.length
 ·simp[eh h,nth,HX,h,Qqg]
 ·rw[Cs (by simpa using h)];simp[h]
theorem QeT(c)(es:List X7):clockOf (xj c es)=c:=QeR _ _ _
theorem fV(c)(es:List X7):Bs (xj c es)=es:=QeS _ _ _
theorem Qqh(c)(es:List X7):Pf (xj c es)=∀e∈es,e.k.length=4:=by
 refine propext ⟨λh=>by have:=h.2.2;rwa [fV]at this,λh=>⟨rfl,?_,by rwa [fV]⟩⟩;rw[QeT,fV];rfl
theorem QeU(o:Ob):Bs o.ro=Bs o:=rfl
theorem Qqi(o:Ob):Pf o.ro=Pf o:=by
 obtain⟨k,g,z,n,r⟩:=o;simp only[Pf,rN,QeU];simp only[Ob.ro,vO,Kd.toRo_ty,Ob.mk.injEq,Bd]
theorem Qqj(c)(es:List X7):(xj c es).kd=.map:=rfl
def QeV(q):QS q 0 []=xj 0 []:=by
 have:Br q 0 []=ZH 0 []:=by
  funext r;cases r<;>rfl
 unfold QS Wr xj vO;rw[this];rfl
def QeW:∀{es:List X7} {k:List Int} {v:D},XA es k=some v->∃(j:Nat) (e:X7),es[j]? = some e/\e.k=k/\e.v=v/\∀(i:Nat) (e':X7),i<j->es[i]? = some e'->e'.k≠k
 | [],_,_,h=>by simp[XA]at h
 | e::r,k,v,h=>by
  simp only[XA]at h;by_cases hk:e.k=k
  ·rw[Qf hk]at h;cases h;exact⟨0,e,rfl,hk,rfl,λi _ hi=>absurd hi (Vw i)⟩
  ·rw[Qd hk]at h;obtain⟨j,e',h1,h2,h3,h4⟩:=QeW h;refine⟨j+1,e',by simpa using h1,h2,h3,λi x hi hx=>?_⟩;cases i with
   | zero=>simp at hx;subst hx;exact hk
   | succ i=>exact h4 i x (by omega) (by simpa using hx)
def QeX:∀{es:List X7} {k:List Int},XA es k=none->∀e∈es,e.k≠k
 | [],_,_=>by simp
 | e::r,k,h=>by
  simp only[XA]at h;by_cases hk:e.k=k
  ·rw[Qf hk]at h;cases h
  ·rw[Qd hk]at h;intro x hx;rcases QM.1 hx with rfl|h2
   ·exact hk
   ·exact QeX h x h2
def QeY:∀(a b:List Int),a.length=b.length->jk (a.map (Value.int .u16)) (b.map (Value.int .u16))=some (decide (a=b))
 | [],[],_=>rfl
 | [],_::_,h=>by simp at h
 | _::_,[],h=>by simp at h
 | x::a,y::b,h=>by
  simp only[J7,jk,YS,QeY a b (by simpa using h)];have:IntKind.same .u16 .u16=true:=rfl;simp only[this,Yr,Za,Mh];by_cases h1:x=y<;>by_cases h2:a=b<;>simp[h1,h2]
def QeZ(k:List Int):(k.map (Value.int .u16)).map cat=List.replicate k.length 0:=by
 induction k with
 | nil=>rfl
 | cons a k ih=>simp only[J7,Vh,eG,ih];rfl
structure HK (P:Program) (kt:TypeId):Prop where
 eq:rH P kt [0,0,0,0]
 arr:∃u,P.underlying kt=some (.array 4 u)/\P.underlying u=some (.int .u16)
section
variable {P:Program}{kt:TypeId}(H:HK P kt)
include H
theorem HK.equal(w){a b:List Int}(ha:a.length=4)(hb:b.length=4):(Op.equal kt (WR a) (WR b)).run P w=.ok (decide (a=b)) w:=by
 obtain⟨u,h1,_⟩:=H.arr;have:=fC 60 10000 kt [0,0,0,0] (by omega) H.eq.shape w (a.map (.int .u16)) (b.map (.int .u16)) (decide (a=b)) (by rw[QeZ,ha];rfl) (by rw[QeZ,hb];rfl) (QeY a b (by rw[ha,hb]));unfold valOf at this;rw[h1]at this;exact this
theorem HK.check(em)(w){k:List Int}(hk:k.length=4):(checkKey em 10000 kt (WR k)).run P w=.ok () w:=by
 obtain⟨u,h1,h2⟩:=H.arr;obtain⟨i,hi⟩:=info_of_underlying h2;have hs:zA P 59 u=some [0]:=by unfold zA;rw[h2]
 have hc:P.cellsOf u=1:=by
  have h:=H.eq.shape;unfold zA at h;rw[h1]at h;simp only[hs]at h;split at h
  ·assumption
  ·cases h
 have pt:∀j,j<4->∃n,(part u (k.map (Value.int .u16)).toArray j).run P w=.ok (.int .u16 n) w:=λj hj=>by
  have:=TV hs hc w (k.map (Value.int .u16)) j (by simp;omega);refine⟨k.getD j 0,?_⟩;rw[this];unfold valOf;rw[h2];have:j<k.length:=by omega
  simp[Zb,this]
 rw[show (10000:Nat)=9999+1 from rfl];unfold WR;rw[Instr.checkKey];simp only[Sem.run_bind,run_underlying h1,Result.andThen_ok];simp only[Std.Legacy.Range.forIn_eq_forIn_range',Std.Legacy.Range.size,HF,Nat.add_one_sub_one,Nat.div_one];have lt:∀j∈List.range' 0 4 1,j<4:=λj hj=>by simp[List.mem_range']at hj;omega
 generalize List.range' 0 4 1=is at lt;induction is with
 | nil=>simp
 | cons j is ih=>
  obtain⟨n,p1⟩:=pt j (lt j (by simp));have p2:=HW (P:=P) (w:=w) (k:=n) h2 em 9998;simp only[List.forIn_cons,Sem.run_bind,run_sizeOf w hi,Result.andThen_ok,hc,Nat.mul_one,p1,p2,Sem.run_pure];exact ih λy hy=>lt y (by simp[hy])
theorem HK.F2(w){k:List Int}(hk:k.length=4):∀(es:List MapEntry) (i:Nat),(∀e∈es,∃k',k'.length=4/\e.key=WR k'/\k'≠k)->(findAsking kt (WR k) es i).run P w=.ok none w
 | [],_,_=>by simp[findAsking]
 | e::es,i,h=>by
  obtain⟨k',h1,h2,h3⟩:=h e (by simp);have:=H.equal w hk h1;rw[QN (Q8 h3)]at this;simp[findAsking,h2,this,HK.F2 w hk es (i+1) λx hx=>h x (by simp[hx])]
theorem HK.Xh(w){k:List Int}(hk:k.length=4):∀(es:List MapEntry) (i0 j:Nat) (e:MapEntry),es[j]? = some e->e.key=WR k->(∀(i:Nat) (e':MapEntry),i<j->es[i]? = some e'->∃k',k'.length=4/\e'.key=WR k'/\k'≠k) ->
  (findAsking kt (WR k) es i0).run P w=.ok (some (i0+j,e.val)) w
 | [],_,_,_,h,_,_=>by simp at h
 | x::es,i0,0,e,h,hx,_=>by
  simp at h;subst h;have:=H.equal w hk hk;rw[Q5 rfl]at this;simp[findAsking,hx,this]
 | x::es,i0,j+1,e,h,hx,hn=>by
  obtain⟨k',h1,h2,h3⟩:=hn 0 x (by omega) rfl;have:=H.equal w hk h1;rw[QN (Q8 h3)]at this;have ih:=HK.Xh w hk es (i0+1) j e (by simpa using h) hx λi e' hi he=>hn (i+1) e' (by omega) (by simpa using he);simp[findAsking,h2,this,ih];omega
theorem HK.find(w){k}{es:List MapEntry}{r}(h:(findAsking kt (WR k) es 0).run P w=.ok r w):(findKey kt (WR k) es).run P w=.ok r w:=by
 obtain⟨u,h1,_⟩:=H.arr;cases es with
 | nil=>simpa[findKey,underlying,h1,findNow,findAsking] using h
 | cons e es=>
  simp only[findKey,underlying,h1,findNow,sameNow,Sem.run_bind];simpa[underlying,h1] using h
end
structure CL (Z:Nat->Prop) (h:List Ob) (pl:List Pl) (w:World) (c:Nat) (es:List X7) (Q1:List MapEntry):Prop where
 len:es.length=Q1.length
 at_:∀(i:Nat) (e:X7) (a:MapEntry),es[i]? = some e->Q1[i]? = some a->a.key=WR e.k/\QE Z h pl w e.v a.val/\a.born=e.b/\a.born<c
 inc:∀(i j:Nat) (a a':MapEntry),i<j->Q1[i]? = some a->Q1[j]? = some a'->a.born<a'.born
def Qqk{Z}{h}{pl}{w:World}{c}{es}{b}{Q1:Array MapEntry}(hb:w.heap[b]? = some (.map Q1 c))(E:CL Z h pl w c es Q1.toList){kd:Kd}(Jc:kd.ty=1):KF Z h pl w (vO kd c es) b 0:=by
 refine KF.ofMap Jc ⟨rfl,rfl,Q1,c,hb,by have:=E.len;simp at this;simp[vO,this],λi _=>?_,.cl _ _ (.raw _),λi a ha=>?_,λi j a a' Vy h1 h2=>E.inc i j a a' Vy (by simpa using h1) (by simpa using h2)⟩
 ·show (ZH c es i).length=3;cases i with
  | zero=>rfl
  | succ i=>simp only[ZH];split<;>rfl
 ·have Qc:=(WN.1 ha).1;have hi:i<es.length:=by have:=E.len;simp at this;omega
  obtain⟨h1,h2,h3,h4⟩:=E.at_ i es[i] a (QW hi) (by simpa using ha);have e1:ZH c es (i+1)=[.raw (WR es[i].k),es[i].v,.raw (.int .i64 es[i].b)]:=by simp[ZH,hi]
  show _/\QE Z h pl w (nth (ZH c es (i+1)) 0) _/\QE Z h pl w (nth (ZH c es (i+1)) 1) _/\QE Z h pl w (nth (ZH c es (i+1)) 2) _;rw[e1];exact⟨h4,by rw[h1];exact .cl _ _ (.raw _),h2,by rw[h3];exact .cl _ _ (.raw _)⟩
def Qql{Z}{h}{pl}{w:World}{c}{es}{b p}{kd:Kd}(Jc:kd.ty=1)(x:KF Z h pl w (vO kd c es) b p):p=0/\∃Q1:Array MapEntry,w.heap[b]? = some (.map Q1 c)/\CL Z h pl w c es Q1.toList:=by
 obtain⟨h0,_,Q1,clock,h1,h2,_,h4,h5,h6⟩:=x.map Jc;have hc:clock=c:=by
  have:=JG h4;simp at this;omega
 subst hc;have hl:es.length=Q1.size:=by simpa[vO] using h2
 refine⟨h0,Q1,h1,by simpa using hl,λi e a he ha=>?_,λi j a a' Vy g1 g2=>h6 i j a a' Vy (by simpa using g1) (by simpa using g2)⟩;obtain⟨k1,k2,k3,k4⟩:=h5 i a (by simpa using ha);have e1:(vO kd clock es).row (i+1)=[.raw (WR e.k),e.v,.raw (.int .i64 e.b)]:=by simp[vO,ZH,he]
 rw[e1]at k2 k3 k4;have:=JG k2;have h8:=JG k4;refine⟨this,k3,?_,k1⟩;simp at h8;omega
def CL.tr{Z}{h h'}{pl Qm}{w w'}(T:Tr h pl w h' Qm w'){c}{es}{Q1}(E:CL Z h pl w c es Q1):CL Z h' Qm w' c es Q1:=
 ⟨E.len,λi e a h1 h2=>let ⟨g1,g2,g3⟩:=E.at_ i e a h1 h2;⟨g1,g2.tr T,g3⟩,E.inc⟩
def Ib:List D->Option (List Int)
 | []=>some []
 | .raw (.int .u16 n)::r=>match Ib r with
  | some l=>some (n::l)
  | none=>none
 | _=>none
def Qe0:∀{cs:List D} {l:List Int},Ib cs=some l->CG cs=some (l.map (Value.int .u16))
 | [],l,e=>by simp[Ib]at e;subst e;rfl
 | c::cs,l,e=>by
  unfold Ib at e;split at e
  ·rename_i heq;cases heq
  ·rename_i n r heq;simp only[Mh]at heq;obtain⟨rfl,rfl⟩:=heq;split at e
   ·rename_i l' qh;simp only[Za]at e;subst e;simp[CG,Qe0 qh]
   ·cases e
  ·cases e
def x7(L:Jt)(E:Er)(kt:TypeId)(cs:List D):Option (List Int):=match ty L kt with
 | some ⟨.array n u,_,_,_⟩=>match ty L u,jl E kt with
  | some ⟨.int q,_,_,_⟩,some l=>bif Nat.beq n 4&&IntKind.same q .u16&&HV l [0,0,0,0] then match Ib cs with
    | some k=>bif Nat.beq k.length 4 then some k else none
    | none=>none
   else none
  | _,_=>none
 | _=>none
def Qqm{P:Program}{t e:TypeId}{n}{y:Ty}(h:Xf P t y)(hk:y.k=.array n e):P.underlying t=some (.array n e):=by
 obtain⟨d,hd,he⟩:=h.under;rw[hk]at he;rw[hd];cases d<;>simp[TK.of]at he;rw[he.1,he.2]
def Qe1{P}{L}{E}(hL:Jq P L)(hE:Bq P E){kt:TypeId}{cs}{k:List Int}(h:x7 L E kt cs=some k):HK P kt/\k.length=4/\Ib cs=some k:=by
 unfold x7 at h;split at h;case h_2=>cases h
 rename_i n u _ _ _ ht;split at h;case h_2=>cases h
 rename_i q _ _ _ l hu he;obtain⟨h1,h⟩:=kD h;simp only[Z9]at h1;have hn:=Tz h1.1.1;have hq:=IntKind.pT h1.1.2;have hl:=fD h1.2;subst hn;subst hq;subst hl;split at h;case h_2=>cases h
 rename_i k' ZE;cases hb:Nat.beq k'.length 4 with
 | false=>rw[hb]at h;cases h
 | true=>
  rw[hb]at h;cases h;exact⟨⟨hE _ _ he,u,Qqm (hL kt _ ht) rfl,Eg (hL u _ hu) rfl⟩,Tz hb,ZE⟩
section
variable {P:Program}{L:Jt}{E:Er}{base nt:Nat}{s:St}{o:Oper}{t:TypeId}{x i:Operand}
def Qe2{Z}{pl}{a:Act}{w}(r:Rel Z base nt s pl a w){cs}{k}(hi:Qt s.fr i=.agg cs)(hk:Ib cs=some k):a.eval i=WR k:=by
 have e2:=r.eval i;rw[hi]at e2;obtain⟨us,hu,rI,Es⟩:=FW e2;rw[hu,fF (Qe0 hk) us rI Es];rfl
def Qe3{Z}{pl}{a}{w}(r:Rel Z base nt s pl a w){l c}{es}{kd:Kd}(Jc:kd.ty=1)(hx:Qt s.fr x=.mref l 0)(Zt:s.h[l]? = some (vO kd c es)):
  ∃b Q1,a.eval x=.map (some b)/\pl[l]? = some (some (b,0))/\(kd.ro=false->base<=b)/\w.heap[b]? = some (.map Q1 c)/\CL Z s.h pl w c es Q1.toList:=by
 have e1:=r.eval x;rw[hx]at e1;obtain⟨o',p,b,h1,h2,h3,h4,h5⟩:=HI e1;rw[Zt]at h1;cases h1;have h5:=h5 rfl;rw[h5]at h2;obtain⟨ZG,Ag⟩:=r.o.at_ l _ b 0 Zt h2;obtain⟨_,Q1,hb,E⟩:=Qql Jc Ag;have hv:=h3.2;have:(vO kd c es).kd.ty=1:=Jc;rw[this]at hv;exact⟨b,Q1,hv,h2,ZG,hb,E⟩
def fW(L:Jt)(E:Er)(h:List Ob)(t:TypeId)(x i:D):Ev:=match ty L t with
 | some ⟨.map kt et,_,_,_⟩=>match ty L et,i,x with
  | some ye,.agg cs,.mref l g=>match x7 L E kt cs,h[l]? with
   | some k,some o=>some (Pf o/\g=0,match XA (Bs o) k with
    | some d=>.tup [d,.raw (.bool true)]
    | none=>.tup [Ej ye,.raw (.bool false)])
   | _,_=>none
  | _,_,_=>none
 | _=>none
def CL.keyed{Z:Nat->Prop}{h:List Ob}{pl:List Pl}{w:World}{c:Nat}{es:List X7}{Q1:List MapEntry}(R:CL Z h pl w c es Q1)(h4:∀e∈es,e.k.length=4)(i:Nat)(a:MapEntry)(ha:Q1[i]? = some a):∃e,es[i]? = some e/\e.k.length=4/\a.key=WR e.k:=by
 have hi:i<es.length:=by have:=(Xd.1 ha).1;rw[R.len];exact this
 exact⟨es[i],QW hi,h4 _ (qK hi),(R.at_ i es[i] a (QW hi) ha).1⟩
def CL.F2{Z}{h}{pl}{w}{c}{es}{Q1:List MapEntry}(R:CL Z h pl w c es Q1)(h4:∀e∈es,e.k.length=4){kt:TypeId}(H:HK P kt){k:List Int}(hk:k.length=4)(hn:XA es k=none)(w'):(findKey kt (WR k) Q1).run P w'=.ok none w':=by
 refine H.find w' (H.F2 w' hk Q1 0 λa ha=>?_);obtain⟨i,hi⟩:=HB ha;obtain⟨e,h1,h2,h3⟩:=R.keyed h4 i a hi;exact⟨e.k,h2,h3,QeX hn e (OQ h1)⟩
def Qqn(hL:Jq P L)(hE:Bq P E)(ho:o.op=.lookup t x i true){p}{d}(h:fW L E s.h t (Qt s.fr x) (Qt s.fr i)=some (p,d))(hp:p):WE P base nt o s d:=by
 intro Z pl a w r;unfold fW at h;split at h;case h_2=>cases h
 rename_i kt et _ _ _ ht;split at h;case h_2=>cases h
 rename_i ye cs l g WO hi hx;split at h;case h_2=>cases h
 rename_i k ob hk Zt;simp only[Za,Zp]at h;obtain⟨rfl,rfl⟩:=h;obtain⟨⟨MJ,hm,h4⟩,rfl⟩:=hp;obtain⟨H,Ew,JW⟩:=Qe1 hL hE hk;have e2:=Qe2 r hi JW;obtain⟨kd,Jc⟩:∃kd,kd=ob.kd:=⟨_,rfl⟩;obtain⟨c,hc⟩:∃c,c=clockOf ob:=⟨_,rfl⟩;obtain⟨es,xi⟩:∃es,es=Bs ob:=⟨_,rfl⟩;rw[<- Jc]at MJ hm;rw[<- hc,<- xi]at hm;rw[<- xi]at h4 ⊢;rw[hm]at Zt;obtain⟨b,Q1,e1,_,_,hb,R⟩:=Qe3 r MJ hx Zt;have hx:=FU (hL t _ ht) rfl;have h3:=λw':World=>H.check Q1.isEmpty w' Ew;cases hf:XA es k with
 | some d=>
  obtain⟨j,e,g1,g2,g3,g4⟩:=QeW hf;have hj:j<Q1.toList.length:=by rw[<- R.len];exact(Xd.1 g1).1
  obtain⟨k1,k2,_⟩:=R.at_ j e Q1.toList[j] g1 (QW hj);have h2:∀w':World,(findKey kt (WR k) Q1.toList).run P w'=.ok (some (j,Q1.toList[j].val)) w':=λw'=>by
   have:=H.find w' (H.Xh w' Ew Q1.toList 0 j Q1.toList[j] (QW hj) (by rw[k1,g2]) λi' a' JQ We=>by
    obtain⟨e',q1,q2,q3⟩:=R.keyed h4 i' a' We;exact⟨e'.k,q2,q3,g4 i' e' JQ q1⟩)
   rwa [JV]at this
  refine⟨.tuple #[Q1.toList[j].val,.bool true],.tup _ [_,.bool true] rfl (λi hi=>match i,hi with
   | 0,_=>by rw[<- g3];exact k2
   | 1,_=>.cl _ _ (.raw _)),λw' hw=>?_⟩
  simp[execOp,ho,e1,e2,lookup,underlying,hx,getObj,CI ((hw b (vI hb)).trans hb),h2 w',h3 w']
 | none=>
  obtain⟨z,hz,jj⟩:=pV (hL et ye WO) (N:=free Z pl) w;refine⟨.tuple #[z,.bool false],.tup _ [z,.bool false] rfl (λi hi=>match i,hi with
   | 0,_=>.cl _ _ hz
   | 1,_=>.cl _ _ (.raw _)),λw' hw=>?_⟩
  have h2:=R.F2 h4 H Ew hf w';simp[execOp,ho,e1,e2,lookup,underlying,hx,getObj,CI ((hw b (vI hb)).trans hb),h2,h3 w',jj w']
def fX(L:Jt)(E:Er)(h:List Ob)(t:TypeId)(x i v:D):Option (Prop × List Ob):=match ty L t with
 | some ⟨.map kt _,_,_,_⟩=>match i,x with
  | .agg cs,.mref l g=>match x7 L E kt cs,h[l]? with
   | some k,some o=>some (Pf o/\XA (Bs o) k=none/\g=0/\o.kd.ro=false,h.set l (xj (clockOf o+1) (Bs o++[⟨k,v,clockOf o⟩])))
   | _,_=>none
  | _,_=>none
 | _=>none
def Qqo(hL:Jq P L)(hE:Bq P E){v}(ho:o.op=.mapUpdate t x i v){p}{h'}(h:fX L E s.h t (Qt s.fr x) (Qt s.fr i) (Qt s.fr v)=some (p,h'))(hp:p):kE P base nt o s h' .undef:=by
 unfold fX at h;split at h;case h_2=>cases h
 rename_i kt et _ _ _ ht;split at h;case h_2=>cases h
 rename_i cs l g hi hx;split at h;case h_2=>cases h
 rename_i k ob hk Zt;simp only[Za,Zp]at h;obtain⟨rfl,rfl⟩:=h;obtain⟨⟨MJ,hm,h4⟩,hn,rfl,hro⟩:=hp;obtain⟨H,Ew,JW⟩:=Qe1 hL hE hk;obtain⟨kd,Jc⟩:∃kd,kd=ob.kd:=⟨_,rfl⟩;obtain⟨c,hc⟩:∃c,c=clockOf ob:=⟨_,rfl⟩;obtain⟨es,xi⟩:∃es,es=Bs ob:=⟨_,rfl⟩;rw[<- Jc]at MJ hm hro;rw[<- hc,<- xi]at hm;rw[<- xi]at h4 hn ⊢;rw[<- hc];have Qj:kd=.map:=by cases kd<;>first|rfl|(exfalso;revert MJ;decide)|(exfalso;revert hro;decide)
 rw[hm,Qj]at Zt;intro Z pl a w r K7;have e2:=Qe2 r hi JW;have e3:=r.eval v;obtain⟨b,Q1,e1,h2,ZG,hb,R⟩:=Qe3 r rfl hx Zt;have ZG:=ZG rfl;have HZ:=FU (hL t _ ht) rfl;have q2:=R.F2 h4 H Ew hn w;have q3:=H.check false w Ew;have Zl:(mapUpdate t (.map (some b)) (WR k) (a.eval v)).run P w=.ok () { w with heap:=w.heap.setIfInBounds b (.map (Q1.push { key:=WR k,val:=a.eval v,born:=c }) (c+1)) }:=by
  simp[mapUpdate,underlying,HZ,getObj,CI hb,q2,q3,setObj,TX hb]
 have xg:=vI hb;generalize qf:({ w with heap:=w.heap.setIfInBounds b (.map (Q1.push { key:=WR k,val:=a.eval v,born:=c }) (c+1)) }:World)=w' at Zl;have e:∀c,c≠b->w'.heap[c]? = w.heap[c]? := λc hc=>by rw[<- qf];simp[A7,Q8 hc]
 have Kb:w'.heap[b]? = some (.map (Q1.push { key:=WR k,val:=a.eval v,born:=c }) (c+1)):=by rw[<- qf];simp[A7,xg]
 have T:=Tr.MI (w':=w') r.o Zt h2 e (o':=xj (c+1) (es++[⟨k,Qt s.fr v,c⟩])) rfl rfl rfl (by rw[hb];intro c el h;cases h);have R':=R.tr T;have hl:es.length=Q1.size:=by have:=R.len;simpa using this
 have RR:CL Z (s.h.set l (xj (c+1) (es++[⟨k,Qt s.fr v,c⟩]))) pl w' (c+1) (es++[⟨k,Qt s.fr v,c⟩]) (Q1.push { key:=WR k,val:=a.eval v,born:=c }).toList:=by
  refine⟨by simp[hl],λi' e' a' Xz We=>?_,λi1 i2 x y F3 hx hy=>?_⟩
  ·have We:(Q1.push { key:=WR k,val:=a.eval v,born:=c })[i']? = some a':=by rw[<- wQ];exact We
   rw[dV]at We;rcases Xe Xz with h1|⟨h1,JE⟩
   ·have:=(Xd.1 h1).1;rw[Qd (by omega)]at We;obtain⟨k1,k2,k3,k4⟩:=R'.at_ i' e' a' h1 (by simpa using We);exact⟨k1,k2,k3,by omega⟩
   ·subst JE;rw[Qf (by omega)]at We;cases We;exact⟨rfl,e3.tr T,rfl,by simp⟩
  ·have hx:(Q1.push { key:=WR k,val:=a.eval v,born:=c })[i1]? = some x:=by rw[<- wQ];exact hx
   have hy:(Q1.push { key:=WR k,val:=a.eval v,born:=c })[i2]? = some y:=by rw[<- wQ];exact hy
   rw[dV]at hx hy;have KE:∀(i:Nat) (z:MapEntry),Q1[i]? = some z->z.born<c:=λi z hz=>by
    have Qc:=(WN.1 hz).1;exact(R.at_ i (es[i]'(by omega)) z (QW (by omega)) (by simpa using hz)).2.2.2
   split at hx
   ·split at hy
    ·omega
    ·have:=(WN.1 hy).1;omega
   ·split at hy
    ·cases hy;exact KE i1 x hx
    ·exact R.inc i1 i2 x y F3 (by simpa using hx) (by simpa using hy)
 refine⟨Go.undef,w',pl,.inr ⟨by simp[execOp,ho,e1,e2,Zl],rfl⟩,T,Zv.MI (hro:=rfl) r.o Zt h2 e T (Qqk Kb RR rfl),.cl _ _ (.undef _),?_,λhc=>by simp[calm,ho]at hc⟩;exact O6 ZG e (by rw[<- qf];simp) (by rw[<- qf]) (by rw[<- qf]) (by rw[<- qf])
end
end Go.Fg
