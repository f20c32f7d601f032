/- Contracts and laws on the way to the statement. No conditions. -/
import Derived.KernelRfl
import Derived.WalkKit
import Derived.WalkLawsBesides
import Derived.WalkSpells
import Derived.ChangeKeysEq
import Derived.Maps.RangeRun
set_option maxRecDepth 100000
set_option maxHeartbeats 16000000
set_option linter.unusedVariables false
set_option linter.unusedSimpArgs false
set_option linter.unusedSectionVars false
set_option linter.defProp false
namespace Go.Fg
open Go.RowKit (Below)
theorem ω{p:Prop}(h:p:=by (omega)):p:=h
theorem σ{p:Prop}(h:p:=by (simp)):p:=h
theorem π{p:Prop}(h:p:=by (decide)):p:=h
theorem τ{p:Prop}(h:p:=by (kernel_rfl)):p:=h
theorem ξ{p:Prop}(h:p:=by ((simp;omega))):p:=h
theorem η{p:Prop}(h:p:=by (first|assumption|omega)):p:=h
theorem κ{p:Prop}(h:p:=by ((rw[IntKind.wrap_u64];omega))):p:=h
def yH:=@Array.getD_eq_getD_getElem?
def NJ:=@Array.getElem!_eq_getD
def NK:=@Array.getElem?_append_left
def jV:=@Array.getElem?_eq_getElem
def WO:=@Array.getElem?_eq_some_iff
def nP:=@Array.getElem?_modify
def bA:=@Array.getElem?_push
def AN:=@Array.getElem?_setIfInBounds
def nQ:=@Array.getElem?_setIfInBounds_ne
def wv:=@Array.getElem?_toList
def nR:=@Array.getElem_setIfInBounds
def Lf:=@Bool.and_eq_false_iff
def ZX:=@Bool.and_eq_true
def jW:=@Bool.eq_false_iff
def wx:=@Bool.eq_iff_iff
def Lg:=@Bool.false_and
def YF:=@Bool.false_eq_true
def k9:=@Bool.false_ne_true
def R9:=@Bool.false_or
def qk:=@Bool.not_eq_true
def jl:=@Bool.not_eq_true'
def Lh:=@Bool.not_false
def EU:=@Bool.not_true
def Ds:=@Bool.or_eq_false_iff
def B3:=@Bool.or_eq_true
def NL:=@Bool.true_and
def jX:=@Classical.byContradiction
def NM:=@Classical.not_forall
def bB:=@Function.comp_def
def qR:=@Int.le_refl
def EV:=@Int.mul_add
def Sb:=@Int.mul_le_mul_of_nonneg_left
def jm:=@Int.natCast_mul
def Dt:=@Int.natCast_nonneg
def bC:=@Int.natCast_sub
def EW:=@Int.toNat_of_nonneg
def NN:=@List.Pairwise.filter
def Sc:=@List.Perm.refl
def jo:=@List.all_eq_true
def bD:=@List.any_eq_false
def Dv:=@List.any_eq_true
def Wu:=@List.append_assoc
def bE:=@List.append_inj
def Jv:=@List.append_nil
def xC:=@List.cons.inj
def yI:=@List.cons.injEq
def YG:=@List.cons_append
def bF:=@List.cons_ne_nil
def Sd:=@List.drop_eq_getElem_cons
def bG:=@List.drop_eq_nil_of_le
def nT:=@List.eq_nil_iff_forall_not_mem
def AO:=@List.ext_getElem?
def Se:=@List.filter_append
def bH:=@List.filter_congr
def xD:=@List.filter_cons
def Sf:=@List.filter_cons_of_neg
def Sg:=@List.filter_cons_of_pos
def AP:=@List.filter_eq_self
def Si:=@List.filter_map
def vg:=@List.find?_cons
def vh:=@List.find?_eq_none
def yJ:=@List.find?_some
def Li:=@List.findIdx?_eq_none_iff
def GN:=@List.findIdx?_eq_some_iff_getElem
def jY:=@List.foldl_append
def xE:=@List.foldl_cons
def Q7:=@List.getD_eq_getElem?_getD
def JY:=@List.getElem?_append_left
def Kw:=@List.getElem?_append_right
def GO:=@List.getElem?_drop
def QT:=@List.getElem?_eq_getElem
def B4:=@List.getElem?_eq_none
def Xa:=@List.getElem?_eq_some_iff
def KX:=@List.getElem?_map
def GP:=@List.getElem?_of_mem
def bI:=@List.getElem?_range
def JZ:=@List.getElem?_set_ne
def Xb:=@List.getElem?_set_self
def X7:=@List.getElem?_take
def zF:=@List.getElem_mem
def AQ:=@List.getElem_of_mem
def ZT:=@List.length_append
def VQ:=@List.length_cons
def bJ:=@List.length_drop
def NO:=@List.length_eq_zero_iff
def qS:=@List.length_filter_le
def KK:=@List.length_map
def Qar:=@List.length_nil
def XG:=@List.length_set
def qT:=@List.length_singleton
def Qau:=@List.length_take
def jZ:=@List.map_append
def EX:=@List.map_congr_left
def Jo:=@List.map_cons
def Dw:=@List.map_map
def QX:=@List.mem_append
def bL:=@List.mem_append_left
def NP:=@List.mem_append_right
def QG:=@List.mem_cons
def Jw:=@List.mem_cons_of_mem
def Z3:=@List.mem_cons_self
def JI:=@List.mem_filter
def NQ:=@List.mem_iff_getElem
def JA:=@List.mem_map
def xF:=@List.mem_of_find?_eq_some
def NR:=@List.mem_of_getElem?
def Sj:=@List.mem_range
def Xq:=@List.mem_singleton
def Sk:=@List.mem_singleton_self
def Yr:=@List.nil_append
def Kg:=@List.nodup_append
def Z8:=@List.nodup_cons
def nU:=@List.nodup_iff_pairwise_ne
def bM:=@List.pairwise_append
def B5:=@List.pairwise_cons
def Qa9:=@List.pairwise_map
def bO:=@List.replicate_succ
def bT:=@List.set_append_left
def NT:=@List.set_append_right
def JS:=@List.set_set
def GQ:=@List.size_toArray
def vj:=@List.sum_cons
def bU:=@List.takeWhile_cons
def bV:=@List.takeWhile_sublist
def GR:=@List.take_add_one
def EY:=@List.take_append_drop
def YH:=@List.take_length
def Sn:=@Nat.add_comm
def Kh:=@Nat.add_mul
def Lj:=@Nat.add_sub_cancel
def bW:=@Nat.add_sub_cancel_left
def xG:=@Nat.add_zero
def bX:=@Nat.and_lt_two_pow
def WG:=@Nat.beq_eq
def NU:=@Nat.beq_refl
def Lk:=@Nat.ble_eq
def xH:=@Nat.blt_eq
def NV:=@Nat.div_add_mod
def NW:=@Nat.div_le_self
def bY:=@Nat.div_mod_unique
def Sq:=@Nat.eq_of_beq_eq_true
def NX:=@Nat.le_add_right
def NY:=@Nat.le_of_ble_eq_true
def GS:=@Nat.le_of_not_lt
def Qs:=@Nat.le_refl
def JL:=@Nat.le_trans
def B6:=@Nat.lt_irrefl
def EZ:=@Nat.lt_of_le_of_lt
def wy:=@Nat.lt_of_lt_of_le
def NZ:=@Nat.lt_of_not_le
def B7:=@Nat.lt_or_ge
def AR:=@Nat.lt_succ_iff_lt_or_eq
def E0:=@Nat.lt_succ_self
def yK:=@Nat.min_eq_left
def AS:=@Nat.min_eq_right
def jq:=@Nat.mod_eq_of_lt
def YI:=@Nat.mod_lt
def xI:=@Nat.mul_add
def Ss:=@Nat.mul_assoc
def E6:=@Nat.mul_comm
def X8:=@Nat.mul_le_mul
def E7:=@Nat.mul_le_mul_left
def Vm:=@Nat.mul_le_mul_right
def bZ:=@Nat.mul_right_comm
def GU:=@Nat.mul_zero
def Xc:=@Nat.not_lt_zero
def Ll:=@Nat.one_mul
def E8:=@Nat.shiftRight_eq_div_pow
def YJ:=@Nat.sub_self
def B8:=@Nat.sub_zero
def cn:=@Nat.two_pow_pos
def Su:=@Nat.xor_lt_two_pow
def JM:=@Nat.zero_add
def Z9:=@Nat.zero_le
def B9:=@Nat.zero_lt_succ
def E9:=@Nat.zero_mul
def Q8:=@Ne.symm
def cr:=@Option.bind_some
def N3:=@Option.getD_none
def Vn:=@Option.getD_some
def Fa:=@Option.isSome_iff_exists
def xJ:=@Option.isSome_none
def wz:=@Option.isSome_some
def ct:=@Option.map_eq_none_iff
def WH:=@Option.map_eq_some_iff
def Sv:=@Option.map_map
def qU:=@Option.map_none
def KA:=@Option.map_some
def N4:=@Option.some.inj
def Q4:=@Option.some.injEq
def Qbl:=@Option.toList_some
def Zh:=@Prod.mk.injEq
def j5:=@beq_eq_false_iff_ne
def jr:=@beq_iff_eq
def N5:=@beq_self_eq_true
def js:=@cond_false
def wB:=@cond_true
def QU:=@decide_eq_false
def Fb:=@decide_eq_false_iff_not
def Q1:=@decide_eq_true
def Xd:=@decide_eq_true_eq
def zG:=@if_false
def Qe:=@if_neg
def Qf:=@if_pos
def VB:=@if_true
def Fc:=@not_exists
def qV:=@not_or
def yL:=@of_decide_eq_false
def X9:=@of_decide_eq_true
def AT:=@true_and
inductive D where
 | raw (v:Value)
 | nil
 | undef
 | imm (sz n:Nat) (row:Nat->List D)
 | ip (cells:List D)
 | ref (l g off len:Nat)
 | ptr (l g i j:Nat)
 | mref (l g:Nat)
 | clo (f:FuncId) (first:Nat) (Qx:List D)
 | agg (cs:List D)
 | tup (cs:List D)
def nth(a:List D)(i:Nat):D:=a.getD i .undef
def Q5(a:List Value)(i:Nat):Value:=a.getD i Go.undef
inductive Kd where
 | one
 | arr
 | map
 | iter
 | WI
 | AU
 | Sw
 | Qcg
def Kd.Lm:Kd->Bool
 | .one=>true
 | .WI=>true
 | _=>false
def Kd.ty:Kd->Nat
 | .one=>0
 | .arr=>0
 | .map=>1
 | .iter=>2
 | .WI=>0
 | .AU=>0
 | .Sw=>1
 | .Qcg=>2
def Kd.ro:Kd->Bool
 | .one=>false
 | .arr=>false
 | .map=>false
 | .iter=>false
 | _=>true
def Kd.toRo:Kd->Kd
 | .one=>.WI
 | .arr=>.AU
 | .map=>.Sw
 | .iter=>.Qcg
 | k=>k
def Kd.toRo_ty(k:Kd):k.toRo.ty=k.ty:=by cases k<;>rfl
def Kd.toRo_ro(k:Kd):k.toRo.ro=true:=by cases k<;>rfl
def Sx:Nat->Nat->Value
 | 1,b=>.map (some b)
 | _,b=>.pointer (some ⟨b,0,none⟩)
def MOk(t b:Nat)(v:Value):Prop:=t≠0/\v=Sx t b
structure Ob where
 kd:Kd
 gen:Nat
 sz:Nat
 n:Nat
 row:Nat->List D
abbrev Pl:=Option (Nat × Nat)
def XH(a:List Pl)(b:Nat):Prop:=∀l q:Nat,a[l]?≠some (some (b,q))
def free(Z:Nat->Prop)(a:List Pl)(b:Nat):Prop:=Z b/\XH a b
variable {Z:Nat->Prop}
inductive Cl (N:Nat->Prop) (w:World):D->Value->Prop
 | raw (v:Value):Cl N w (.raw v) v
 | undef (v:Value):Cl N w .undef v
 | nil (a:Option Addr):Cl N w .nil (.slice a 0 0)
 | imm (sz n:Nat) (row:Nat->List D) (a:Option Addr) (cap b o:Nat) (vs:Nat->Nat->Value)
   (ha:0<n->a=some ⟨b,o,none⟩) (hl:n<=cap) (hs:∀i,i<n->(row i).length=sz)
   (hc:∀i j,i<n->j<sz->N b/\w.cell? ⟨b,o+(i*sz+j),none⟩=some (vs i j))
   (hr:∀i j,i<n->j<sz->Cl N w (nth (row i) j) (vs i j)):Cl N w (.imm sz n row) (.slice a n cap)
 | ip (cells:List D) (b o:Nat) (vs:Nat->Value)
   (hc:∀j,j<cells.length->N b/\w.cell? ⟨b,o+j,none⟩=some (vs j))
   (hr:∀j,j<cells.length->Cl N w (nth cells j) (vs j)):Cl N w (.ip cells) (.pointer (some ⟨b,o,none⟩))
 | clo (f:FuncId) (nf:Nat) (cs:List D) (vs:List Value) (hl:vs.length=cs.length) (hr:∀i,i<cs.length->Cl N w (nth cs i) (Q5 vs i)):Cl N w (.clo f nf cs) (.func (.func f) (vs.take nf).toArray (vs.drop nf).toArray)
 | agg (cs:List D) (vs:List Value) (hl:vs.length=cs.length) (hr:∀i,i<cs.length->Cl N w (nth cs i) (Q5 vs i)):Cl N w (.agg cs) (.agg vs.toArray)
 | tup (cs:List D) (vs:List Value) (hl:vs.length=cs.length) (hr:∀i,i<cs.length->Cl N w (nth cs i) (Q5 vs i)):Cl N w (.tup cs) (.tuple vs.toArray)
def Cl.mono{N N'}{w w'}{d}{v}(h:Cl N w d v)
  (C:∀b,N b->b<w.heap.size->N' b/\w'.heap[b]? = w.heap[b]?):Cl N' w' d v:=by
 have p:∀(b o:Nat) (u:Value),N b/\w.cell? ⟨b,o,none⟩=some u->N' b/\w'.cell? ⟨b,o,none⟩=some u:=by
  rintro b o u ⟨B,l⟩;obtain⟨I,H⟩:=C b B (block_lt_of_cell l);exact⟨I,by rw[World.cell?_of_block (w:=w) (a:=⟨b,o,none⟩) H];exact l⟩
 induction h with
 | raw v=>exact .raw v
 | undef v=>exact .undef v
 | nil a=>exact .nil a
 | imm x n s a t b o c F g z l q e=>exact .imm x n s a t b o c F g z (λi j E r=>p _ _ _ (l i j E r)) e
 | ip k b o c l q e=>exact .ip k b o c (λj r=>p _ _ _ (l j r)) e
 | clo f y m c g q e=>exact .clo f y m c g e
 | agg m c g q e=>exact .agg m c g e
 | tup m c g q e=>exact .tup m c g e
def Qci(w:World)(g:Nat)(p:Pl)(e f:Nat)(a:Option Addr)(d:Nat):Prop:=
 (f=0/\d=0)\/∃b q c el,p=some (b,q)/\a=some ⟨b,q+e*g,none⟩/\w.heap[b]? = some (.cells c el (0,0))/\q+(e+d)*g<=c.size/\f<=d
inductive QF (Z:Nat->Prop) (h:List Ob) (pl:List Pl) (w:World):D->Value->Prop
 | cl (d:D) (v:Value) (hc:Cl (free Z pl) w d v):QF Z h pl w d v
 | ref (l g off len:Nat) (o:Ob) (p:Pl) (a:Option Addr) (cap:Nat) (ho:h[l]? = some o) (hp:pl[l]? = some p) (hk:o.kd.ty=0) (hg:g<=o.gen)
   (hs:g=o.gen->Qci w o.sz p off len a cap):QF Z h pl w (.ref l g off len) (.slice a len cap)
 | ptr (l g i j:Nat) (o:Ob) (p:Pl) (a:Addr) (ho:h[l]? = some o) (hp:pl[l]? = some p) (hk:o.kd.ty=0) (hg:g<=o.gen)
   (hs:g=o.gen->∃b q,p=some (b,q)/\a=⟨b,q+(i*o.sz+j),none⟩):QF Z h pl w (.ptr l g i j) (.pointer (some a))
 | mref (l g:Nat) {v:Value} (o:Ob) (p:Pl) (b:Nat) (ho:h[l]? = some o) (hp:pl[l]? = some p) (hk:MOk o.kd.ty b v) (hg:g<=o.gen)
   (hs:g=o.gen->p=some (b,0)):QF Z h pl w (.mref l g) v
 | clo (f:FuncId) (nf:Nat) (cs:List D) (vs:List Value) (hl:vs.length=cs.length) (hr:∀i,i<cs.length->QF Z h pl w (nth cs i) (Q5 vs i)):QF Z h pl w (.clo f nf cs) (.func (.func f) (vs.take nf).toArray (vs.drop nf).toArray)
 | agg (cs:List D) (vs:List Value) (hl:vs.length=cs.length) (hr:∀i,i<cs.length->QF Z h pl w (nth cs i) (Q5 vs i)):QF Z h pl w (.agg cs) (.agg vs.toArray)
 | tup (cs:List D) (vs:List Value) (hl:vs.length=cs.length) (hr:∀i,i<cs.length->QF Z h pl w (nth cs i) (Q5 vs i)):QF Z h pl w (.tup cs) (.tuple vs.toArray)
structure Tr (h:List Ob) (pl:List Pl) (w:World) (h':List Ob) (Qk:List Pl) (w':World):Prop where
 Kl:∀b,XH pl b->b<w.heap.size->XH Qk b/\w'.heap[b]? = w.heap[b]?
 obj:∀(l:Nat) (o:Ob) (p:Pl),h[l]? = some o->pl[l]? = some p->∃o' p',h'[l]? = some o'/\Qk[l]? = some p'/\o.gen<=o'.gen/\o'.kd.ty=o.kd.ty/\(o'.gen=o.gen->o'.sz=o.sz/\p'=p)
 shape:∀(l:Nat) (o o':Ob) (b q:Nat),h[l]? = some o->h'[l]? = some o'->o'.gen=o.gen->pl[l]? = some (some (b,q))->∀c el,w.heap[b]? = some (.cells c el (0,0)) ->
  ∃c',w'.heap[b]? = some (.cells c' el (0,0))/\c'.size=c.size
def Tr.Qm1{h}{d}{w:World}{g}{f}{c:World}(T:Tr h d w g f c){b}(a:free Z d b)(e:b<w.heap.size):free Z f b/\c.heap[b]? = w.heap[b]? :=
 ⟨⟨a.1,(T.Kl b a.2 e).1⟩,(T.Kl b a.2 e).2⟩
def QF.tr{h}{V}{w}{Y}{Qk}{U}(T:Tr h V w Y Qk U){d}{v}(r:QF Z h V w d v):QF Z Y Qk U d v:=by
 induction r with
 | cl d v N=>exact .cl d v (N.mono λb O Qc=>T.Qm1 O Qc)
 | ref l g Q R o p a S n m C E B=>
  obtain⟨e,y,t,L,x,K,F⟩:=T.obj l o p n m;refine .ref l g Q R e y a S t L (by rw[K,C]) (JL E x) λCa=>?_;have s:e.gen=o.gen:=ω;obtain⟨I,H⟩:=F s;rcases B ω with h1|⟨b,q,c,el,M,P,O,N,k⟩
  .exact .inl h1
  .obtain⟨c',Va,WQ⟩:=T.shape l o e b q n t s (by rw[m,M]) c el O;exact .inr ⟨b,q,c',el,by rw[H,M],by rw[I];exact P,Va,by rw[I,WQ];exact N,k⟩
 | ptr l g i j o p a n m C E B=>
  obtain⟨e,y,t,L,x,K,F⟩:=T.obj l o p n m;refine .ptr l g i j e y a t L (by rw[K,C]) (JL E x) λCa=>?_;have s:e.gen=o.gen:=ω;obtain⟨I,H⟩:=F s;obtain⟨b,q,M,P⟩:=B ω;exact⟨b,q,by rw[H,M],by rw[I];exact P⟩
 | mref l g o p b n m C E B=>
  obtain⟨e,y,t,L,x,K,F⟩:=T.obj l o p n m;refine .mref l g e y b t L (by rw[K];exact C) (JL E x) λCa=>?_;have s:e.gen=o.gen:=ω;obtain⟨I,H⟩:=F s;rw[H];exact B ω
 | clo f nf J u k W z=>exact .clo f nf J u k z
 | agg J u k W z=>exact .agg J u k z
 | tup J u k W z=>exact .tup J u k z
def N6(Z:Nat->Prop)(h:List Ob)(a:List Pl)(w:World)(o:Ob)(b q:Nat):Prop:=
 ∃c el,w.heap[b]? = some (.cells c el (0,0))/\q+o.n*o.sz<=c.size/\(∀i,i<o.n->(o.row i).length=o.sz) /\
  ∀i j,i<o.n->j<o.sz->∃v,c[q+(i*o.sz+j)]? = some v/\QF Z h a w (nth (o.row i) j) v
def cu(Z:Nat->Prop)(h:List Ob)(d:List Pl)(w:World)(o:Ob)(b q:Nat):Prop:=
 q=0/\o.sz=3/\∃(c:Array MapEntry) (a:Nat),w.heap[b]? = some (.map c a)/\o.n=c.size+1/\(∀i,i<o.n->(o.row i).length=3) /\
  QF Z h d w (nth (o.row 0) 0) (.int .i64 a) /\
  (∀(i:Nat) (e:MapEntry),c[i]? = some e->e.born<a/\QF Z h d w (nth (o.row (i+1)) 0) e.key/\QF Z h d w (nth (o.row (i+1)) 1) e.val/\QF Z h d w (nth (o.row (i+1)) 2) (.int .i64 e.born)) /\
  ∀(i j:Nat) (e f:MapEntry),i<j->c[i]? = some e->c[j]? = some f->e.born<f.born
def nV(Z:Nat->Prop)(h:List Ob)(d:List Pl)(w:World)(o:Ob)(b q:Nat):Prop:=
 q=0/\o.sz=1/\∃(m a c:Nat) (seen:Array Nat),w.heap[b]? = some (.mapIter (some m) a seen c)/\o.n=seen.size+3/\(∀i,i<o.n->(o.row i).length=1) /\
  QF Z h d w (nth (o.row 0) 0) (.map (some m))/\QF Z h d w (nth (o.row 1) 0) (.int .i64 a)/\QF Z h d w (nth (o.row 2) 0) (.int .i64 c) /\
  ∀(i s:Nat),seen[i]? = some s->QF Z h d w (nth (o.row (i+3)) 0) (.int .i64 s)
def KL(Z:Nat->Prop)(h:List Ob)(a:List Pl)(w:World)(o:Ob)(b q:Nat):Prop:=match o.kd.ty with
 | 0=>N6 Z h a w o b q
 | 1=>cu Z h a w o b q
 | _=>nV Z h a w o b q
def KL.cells{h}{pl}{w}{o:Ob}{b q}(a:o.kd.ty=0)(x:KL Z h pl w o b q):N6 Z h pl w o b q:=by
 unfold KL at x;rw[a]at x;exact x
def KL.map{h}{a}{w}{o:Ob}{b q}(c:o.kd.ty=1)(x:KL Z h a w o b q):cu Z h a w o b q:=by
 unfold KL at x;rw[c]at x;exact x
def KL.iter{h}{a}{w}{o:Ob}{b q}(c:o.kd.ty=2)(x:KL Z h a w o b q):nV Z h a w o b q:=by
 unfold KL at x;rw[c]at x;exact x
def KL.N7{h}{a}{w}{o:Ob}{b q}(c:o.kd.ty=0)(x:N6 Z h a w o b q):KL Z h a w o b q:=by
 unfold KL;rw[c];exact x
def KL.ofMap{h}{a}{w}{o:Ob}{b q}(c:o.kd.ty=1)(x:cu Z h a w o b q):KL Z h a w o b q:=by
 unfold KL;rw[c];exact x
def KL.Qcj{h}{a}{w}{o:Ob}{b q}(c:o.kd.ty=2)(x:nV Z h a w o b q):KL Z h a w o b q:=by
 unfold KL;rw[c];exact x
def Kd.cases(k:Kd):k.ty=0\/k.ty=1\/k.ty=2:=by cases k<;>simp[Kd.ty]
def KL.lt{h}{d}{w:World}{o}{b q}(x:KL Z h d w o b q):b<w.heap.size:=by
 rcases o.kd.cases with hk|hk|hk
 .obtain⟨c,el,a,_⟩:=x.cells hk;exact(WO.1 a).1
 .obtain⟨_,_,c,el,a,_⟩:=x.map hk;exact(WO.1 a).1
 .obtain⟨_,_,m,s,l,e,a,_⟩:=x.iter hk;exact(WO.1 a).1
def KL.len{h}{e}{w}{o:Ob}{b q}(x:KL Z h e w o b q){i:Nat}(d:i<o.n):(o.row i).length=o.sz:=by
 rcases o.kd.cases with hk|hk|hk
 .obtain⟨c,el,_,_,a,_⟩:=x.cells hk;exact a i d
 .obtain⟨_,hz,c,el,_,_,a,_⟩:=x.map hk;rw[a i d,hz]
 .obtain⟨_,hz,m,s,l,f,_,_,a,_⟩:=x.iter hk;rw[a i d,hz]
def KL.to{E}{h C}{B F}{w n}{o d:Ob}{b q}(x:KL Z h B w o b q)(K:d.kd.ty=o.kd.ty)(l:d.sz=o.sz)(g:d.n=o.n)
  (L:n.heap[b]? = w.heap[b]?) (J:∀i,i<o.n->(d.row i).length=(o.row i).length)
  (I:∀i j v,i<o.n->j<(o.row i).length->QF Z h B w (nth (o.row i) j) v->QF E C F n (nth (d.row i) j) v):KL E C F n d b q:=by
 rcases o.kd.cases with hm|hm|hm
 .obtain⟨c,el,y,u,f,t⟩:=x.cells hm;refine KL.N7 (by rw[K,hm]) ⟨c,el,by rw[L];exact y,by rw[g,l];exact u,λi a=>?_,λi j a p=>?_⟩
  .rw[g]at a;rw[J i a,f i a,l]
  .rw[g]at a;rw[l]at p;obtain⟨v,V,AV⟩:=t i j a p;exact⟨v,by rw[l];exact V,I i j v a (by rw[f i a];exact p) AV⟩
 .obtain⟨O,H,Y,ck,y,u,f,t,N,M⟩:=x.map hm;have up:∀i j v,i<o.n->j<3->QF Z h B w (nth (o.row i) j) v->QF E C F n (nth (d.row i) j) v:=λi j v a p r=>I i j v a (by rw[f i a];exact p) r;refine KL.ofMap (by rw[K,hm]) ⟨O,by rw[l];exact H,Y,ck,by rw[L];exact y,by rw[g];exact u,λi a=>?_,up 0 0 _ ω ω t,λi e Q=>?_,M⟩
  .rw[g]at a;rw[J i a,f i a]
  .obtain⟨U,T,S,R⟩:=N i e Q;have a:i+1<o.n:=by have:=(WO.1 Q).1;omega
   exact⟨U,up _ 0 _ a ω T,up _ 1 _ a ω S,up _ 2 _ a ω R⟩
 .obtain⟨O,H,m,k,z,seen,y,u,f,t,N,M,W⟩:=x.iter hm;have up:∀i v,i<o.n->QF Z h B w (nth (o.row i) 0) v->QF E C F n (nth (d.row i) 0) v:=λi v a r=>I i 0 v a (by rw[f i a];omega) r;refine KL.Qcj (by rw[K,hm]) ⟨O,by rw[l];exact H,m,k,z,seen,by rw[L];exact y,by rw[g];exact u,λi a=>?_,up 0 _ ω t,up 1 _ ω N,up 2 _ ω M,λi s P=>?_⟩
  .rw[g]at a;rw[J i a,f i a]
  .exact up _ _ (by have:=(WO.1 P).1;omega) (W i s P)
structure Zo (Z:Nat->Prop) (base:Nat) (h:List Ob) (pl:List Pl) (w:World):Prop where
 len:pl.length=h.length
 inj:∀(l l':Nat) (b q q':Nat),pl[l]? = some (some (b,q))->pl[l']? = some (some (b,q'))->l=l'
 VX:∀(l:Nat) (o:Ob),h[l]? = some o->pl[l]? = some none->o.n=0
 at_:∀(l:Nat) (o:Ob) (b q:Nat),h[l]? = some o->pl[l]? = some (some (b,q))->(o.kd.ro=false->base<=b)/\KL Z h pl w o b q
structure St where
 fr:List (Nat × D)
 h:List Ob
def get:List (Nat × D)->Nat->D
 | [],_=>.undef
 | (t,d)::r,u=>bif Nat.beq t u then d else get r u
def put:List (Nat × D)->Nat->D->List (Nat × D)
 | [],u,d=>[(u,d)]
 | (t,e)::r,u,d=>bif Nat.beq t u then (u,d)::r else (t,e)::put r u d
structure Rel (Z:Nat->Prop) (base nt:Nat) (s:St) (pl:List Pl) (a:Act) (w:World):Prop where
 nt:a.tmps.size=nt
 defers:a.defers=[]
 fr:∀t,QF Z s.h pl w (get s.fr t) (a.tmps.getD t Go.undef)
 o:Zo Z base s.h pl w
def GV(e)(u)(d)(t):get (put e u d) t=if t=u then d else get e t:=by
 induction e with
 | nil=>
  simp only[put,get];by_cases h:u=t
  .subst h;simp
  .have b:Nat.beq u t=false:=by rw[<- qk,WG];exact h
   rw[b,Qe (Q8 h)];rfl
 | cons x r f=>
  obtain⟨a,i⟩:=x;simp only[put];by_cases c:a=u
  .subst c;simp only[NU,wB,get];by_cases h:a=t
   .subst h;simp
   .have b:Nat.beq a t=false:=by rw[<- qk,WG];exact h
    rw[b,Qe (Q8 h)];rfl
  .have b:Nat.beq a u=false:=by rw[<- qk,WG];exact c
   rw[b];simp only[js,get];by_cases h:a=t
   .subst h;simp[c]
   .have g:Nat.beq a t=false:=by rw[<- qk,WG];exact h
    rw[g];simpa using f
def KY{h:List Ob}{l}{o}(e:h[l]? = some o):l<h.length:=(Xa.1 e).1
def WR{h:List Pl}{l}{o}(e:h[l]? = some o):l<h.length:=(Xa.1 e).1
def vm{w:World}{b}{o}(h:w.heap[b]? = some o):b<w.heap.size:=(WO.1 h).1
def Zo.lt{a:Nat}{h:List Ob}{c:List Pl}{w:World}(R:Zo Z a h c w){l b q:Nat}(e:c[l]? = some (some (b,q))):b<w.heap.size/\∀o,h[l]? = some o->o.kd.ro=false->a<=b:=by
 have f:l<h.length:=by have:=WR e;rw[R.len]at this;exact this
 obtain⟨i,x⟩:=R.at_ l (h[l]) b q (QT f) e;exact⟨x.lt,λo d g=>by rw[QT f]at d;cases d;exact i g⟩
def Tr.ext{a}{h}{d}{w i:World}(R:Zo Z a h d w)(e:∀b,b<w.heap.size->i.heap[b]? = w.heap[b]?):Tr h d w h d i where
 Kl:=λb g Qc=>⟨g,e b Qc⟩
 obj:=λl o p j f=>⟨o,p,j,f,Qs _,rfl,λ_=>⟨rfl,rfl⟩⟩
 shape:=λl o k b q j n m f c el g=>⟨c,by rw[e b (R.lt f).1];exact g,rfl⟩
def Zo.ext{a}{h}{d}{w c:World}(R:Zo Z a h d w)(e:∀b,b<w.heap.size->c.heap[b]? = w.heap[b]?):Zo Z a h d c where
 len:=R.len
 inj:=R.inj
 VX:=R.VX
 at_:=λl o b q k f=>by
  obtain⟨m,x⟩:=R.at_ l o b q k f;exact⟨m,x.to rfl rfl rfl (e b (R.lt f).1) (λ_ _=>rfl) λi j v _ _ g=>g.tr (Tr.ext R e)⟩
def Tr.refl(h)(d)(w):Tr h d w h d w where
 Kl:=λb a Qc=>⟨a,rfl⟩
 obj:=λl o p f e=>⟨o,p,f,e,Qs _,rfl,λ_=>⟨rfl,rfl⟩⟩
 shape:=λl o g b q f j i e c el a=>⟨c,a,rfl⟩
def Tr.trans{h h' v}{x K N}{w m M}(T:Tr h x w h' K m)(U:Tr h' K m v N M):Tr h x w v N M where
 Kl:=λb r Qc=>by
  obtain⟨V,s⟩:=T.Kl b r Qc;have S:b<m.heap.size:=by
   rw[jV Qc]at s;exact(WO.1 s).1
  obtain⟨R,Q⟩:=U.Kl b V S;exact⟨R,by rw[Q,s]⟩
 obj:=λl o p g f=>by
  obtain⟨a,n,d,j,J,I,t⟩:=T.obj l o p g f;obtain⟨z,y,i,H,F,E,C⟩:=U.obj l a n d j;refine⟨z,y,i,H,JL J F,by rw[E,I],λe=>?_⟩;obtain⟨u,k⟩:=t ω;obtain⟨P,O⟩:=C ω;exact⟨by rw[P,u],by rw[O,k]⟩
 shape:=λl o W b q g L hg f c el r=>by
  obtain⟨a,n,d,j,J,I,t⟩:=T.obj l o _ g f;obtain⟨z,y,i,H,F,E,C⟩:=U.obj l a n d j;rw[L]at i;cases i;have B:a.gen=o.gen:=ω;obtain⟨u,k⟩:=t B;subst k;obtain⟨Y,d1,d2⟩:=T.shape l o a b q g d B f c el r;obtain⟨c2,f1,f2⟩:=U.shape l a W b q d L ω j Y el d1;exact⟨c2,f1,ω⟩
def Rel.ext{c g}{s}{f}{a}{w d:World}(r:Rel Z c g s f a w)(e:∀b,b<w.heap.size->d.heap[b]? = w.heap[b]?):Rel Z c g s f a d:=
 ⟨r.nt,r.defers,λt=>(r.fr t).tr (Tr.ext r.o e),r.o.ext e⟩
def Qm2(a:Array Value)(d t)(v:Value)(b:d<a.size):(a.setIfInBounds d v).getD t Go.undef=if t=d then v else a.getD t Go.undef:=by
 simp only[yH,AN];by_cases h:d=t
 .subst h;simp[b]
 .rw[Qe h,Qe (Q8 h)]
def Rel.to{b nt}{s:St}{g}{a}{w}(r:Rel Z b nt s g a w){e}{f}{c}(T:Tr s.h g w e f c)(k:Zo Z b e f c)
  {t:Nat} (j:t<nt) {d:D} {v:Value} (i:QF Z e f c d v):Rel Z b nt ⟨put s.fr t d,e⟩ f (a.put (some t) v) c where
 nt:=by simp[Act.put,r.nt]
 defers:=r.defers
 fr:=λu=>by
  simp only[Act.put];rw[GV,Qm2 _ _ _ _ (by rw[r.nt];exact j)];by_cases h:u=t
  .rw[Qf h,Qf h];exact i
  .rw[Qe h,Qe h];exact(r.fr u).tr T
 o:=k
def Rel.AW{b g}{s:St}{f}{a}{w}(r:Rel Z b g s f a w){d}{e}{c}(T:Tr s.h f w d e c)(h:Zo Z b d e c)
  (v:Value):Rel Z b g ⟨s.fr,d⟩ e (a.put none v) c:=
 ⟨r.nt,r.defers,λu=>(r.fr u).tr T,h⟩
def Sy{a:List Pl}{p:Pl}{b:Nat}(f:XH a b)(c:∀q,p≠some (b,q)):XH (a++[p]) b:=λl q e=>by
 by_cases d:l<a.length
 .rw[JY d]at e;exact f l q e
 .rw[Kw ω]at e;have:l - a.length=0:=by
   have:=(Xa.1 e).1;simp at this;exact this
  rw[this]at e;simp at e;exact c q e
def Cb{a:Type}{l:List a}{x y:a}{i:Nat}(e:l[i]? = some x):(l++[y])[i]? = some x:=by
 rw[JY (Xa.1 e).1];exact e
def Ys{a:Type}{l:List a}{x y}{i}(e:(l++[y])[i]? = some x):l[i]? = some x\/(i=l.length/\x=y):=by
 by_cases b:i<l.length
 .rw[JY b]at e;exact .inl e
 .rw[Kw ω]at e;have d:=(Xa.1 e).1;simp at d;have c:i=l.length:=ω;subst c;simp at e;exact .inr ⟨rfl,e.symm⟩
def xK(w:World)(o:Obj)(b)(h:b<w.heap.size):(w.alloc o).heap[b]? = w.heap[b]? := Below.heap_alloc w o b h
def Tr.push{d:Nat}{h:List Ob}{f:List Pl}{w i:World}(R:Zo Z d h f w)(e:∀b,b<w.heap.size->i.heap[b]? = w.heap[b]?)(k:Ob)(p:Pl)(a:∀b q,p=some (b,q)->w.heap.size<=b):Tr h f w (h++[k]) (f++[p]) i where
 Kl:=λb g Qc=>⟨Sy g λq m=>by have:=a b q m;omega,e b Qc⟩
 obj:=λl o p j a=>⟨o,p,Cb j,Cb a,Qs _,rfl,λ_=>⟨rfl,rfl⟩⟩
 shape:=λl o n b q j s r a c el g=>⟨c,by rw[e b (R.lt a).1];exact g,rfl⟩
def Zo.Sz{d}{h}{m}{w p:World}(R:Zo Z d h m w)(e:∀b,b<w.heap.size->p.heap[b]? = w.heap[b]?)(n){f r}(I:w.heap.size<=f)(H:d<=f)
  (z:KL Z (h++[n]) (m++[some (f,r)]) p n f r):Zo Z d (h++[n]) (m++[some (f,r)]) p:=by
 have T:Tr h m w (h++[n]) (m++[some (f,r)]) p:=Tr.push R e n _ (by intro b q e;simp at e;omega);refine⟨by simp[R.len],?_,?_,?_⟩
 .intro l y b q u t E;rcases Ys t with c|⟨c,g⟩<;>rcases Ys E with a|⟨a,k⟩
  .exact R.inj l y b q u c a
  .have:=(R.lt c).1;simp at k;omega
  .have:=(R.lt a).1;simp at g;omega
  .omega
 .intro l o s t;rcases Ys t with c|⟨c,g⟩
  .rcases Ys s with a|⟨a,k⟩
   .exact R.VX l o a c
   .have:=WR c;have:=R.len;omega
  .simp at g
 .intro l o b q s F;rcases Ys F with c|⟨c,g⟩
  .rcases Ys s with a|⟨a,k⟩
   .obtain⟨C,x⟩:=R.at_ l o b q a c;exact⟨C,x.to rfl rfl rfl (e b (R.lt c).1) (λ_ _=>rfl) λi j v _ _ B=>B.tr T⟩
   .have:=WR c;have:=R.len;omega
  .rcases Ys s with a|⟨a,k⟩
   .have:=KY a;have:=R.len;omega
   .subst k;simp at g;obtain⟨rfl,rfl⟩:=g;exact⟨λ_=>H,z⟩
def Zo.push{d}{h}{l}{w g:World}(R:Zo Z d h l w)(e:∀b,b<w.heap.size->g.heap[b]? = w.heap[b]?)(a:Ob)(o:a.kd.ty=0){f k}(n:w.heap.size<=f)(r:d<=f)
  {c:Array Value} {m:TypeId} (p:g.heap[f]? = some (.cells c m (0,0))) (t:k+a.n*a.sz<=c.size) (s:∀i,i<a.n->(a.row i).length=a.sz)
  (q:∀i j,i<a.n->j<a.sz->∃v,c[k+(i*a.sz+j)]? = some v/\QF Z (h++[a]) (l++[some (f,k)]) g (nth (a.row i) j) v):Zo Z d (h++[a]) (l++[some (f,k)]) g:=
 R.Sz e a n r (.N7 o ⟨c,m,p,t,s,q⟩)
def Zo.Dx{d}{h}{g}{w}(R:Zo Z d h g w)(k:Ob)(u:k.n=0):Zo Z d (h++[k]) (g++[none]) w:=by
 have T:Tr h g w (h++[k]) (g++[none]) w:=Tr.push R (λ_ _=>rfl) k _ (by intro b q e;simp at e);refine⟨by simp[R.len],?_,?_,?_⟩
 .intro l s b q r p z;rcases Ys p with c|⟨c,m⟩
  .rcases Ys z with a|⟨a,f⟩
   .exact R.inj l s b q r c a
   .simp at f
  .simp at m
 .intro l o n p;rcases Ys n with a|⟨a,f⟩
  .rcases Ys p with c|⟨c,m⟩
   .exact R.VX l o a c
   .have:=KY a;have:=R.len;omega
  .subst f;exact u
 .intro l o b q n B;rcases Ys B with c|⟨c,m⟩
  .rcases Ys n with a|⟨a,f⟩
   .obtain⟨y,x⟩:=R.at_ l o b q a c;exact⟨y,x.to rfl rfl rfl rfl (λ_ _=>rfl) λi j v _ _ t=>t.tr T⟩
   .have:=WR c;have:=R.len;omega
  .simp at m
def Tr.QY{d:Nat}{h:List Ob}{f:List Pl}{w w':World}(R:Zo Z d h f w){l:Nat}{o o':Ob}{b q:Nat}(r:h[l]? = some o)(x:f[l]? = some (some (b,q)))(z:o'.kd.ty=o.kd.ty)(E:o'.gen=o.gen)(v:o'.sz=o.sz)
  (e:∀k,k≠b->k<w.heap.size->w'.heap[k]? = w.heap[k]?) (y:∀c el,w.heap[b]? = some (.cells c el (0,0))->∃t,w'.heap[b]? = some (.cells t el (0,0))/\t.size=c.size):Tr h f w (h.set l o') f w' where
 Kl:=λk s Qc=>⟨s,e k (λg=>s l q (by rw[g];exact x)) Qc⟩
 obj:=λn m p i j=>by
  by_cases a:l=n
  .subst a;rw[r]at i;cases i;exact⟨o',p,by simp[KY r],j,ω,z,λ_=>⟨v,rfl⟩⟩
  .exact⟨m,p,by rw[JZ a];exact i,j,Qs _,rfl,λ_=>⟨rfl,rfl⟩⟩
 shape:=λn m C u B i F H j c el g=>by
  by_cases a:u=b
  .subst a;exact y c el g
  .exact⟨c,by rw[e u a (R.lt j).1];exact g,rfl⟩
def Zo.Qm3{c:Nat}{h:List Ob}{g:List Pl}{w p:World}(R:Zo Z c h g w){l:Nat}{o d:Ob}{b q:Nat}(z:h[l]? = some o)(r:g[l]? = some (some (b,q)))
  (T:Tr h g w (h.set l d) g p) (e:∀k,k≠b->k<w.heap.size->p.heap[k]? = w.heap[k]?) (B:KL Z (h.set l d) g p d b q) (hro:d.kd.ro=o.kd.ro):Zo Z c (h.set l d) g p:=by
 refine⟨by simp[R.len],R.inj,?_,?_⟩
 .intro m s f a;by_cases n:l=m
  .subst n;rw[r]at a;cases a
  .rw[JZ n]at f;exact R.VX m s f a
 .intro m s u y f a;by_cases n:l=m
  .subst n;rw[r]at a;cases a;have:(h.set l d)[l]? = some d:=by simp[KY z]
   rw[this]at f;cases f;exact⟨λt=>(R.lt r).2 o z (by rw[<- hro,t]),B⟩
  .rw[JZ n]at f;obtain⟨C,x⟩:=R.at_ m s u y f a;have F:u≠b:=λE=>n (R.inj l m b q y r (by rw[<- E];exact a));exact⟨C,x.to rfl rfl rfl (e u F (R.lt a).1) (λ_ _=>rfl) λi j v _ _ t=>t.tr T⟩
def Zo.QY{a:Nat}{h:List Ob}{d:List Pl}{w w':World}(R:Zo Z a h d w){l:Nat}{o o':Ob}{b q:Nat}(m:h[l]? = some o)(g:d[l]? = some (some (b,q)))(u:o.kd.ty=0)(s:o'.kd.ty=0)(x:o'.gen=o.gen)(t:o'.sz=o.sz)
  (e:∀k,k≠b->k<w.heap.size->w'.heap[k]? = w.heap[k]?) {r c:Array Value} {f:TypeId} (B:w.heap[b]? = some (.cells r f (0,0))) (n:w'.heap[b]? = some (.cells c f (0,0))) (y:c.size=r.size)
  (E:q+o'.n*o'.sz<=c.size) (C:∀i,i<o'.n->(o'.row i).length=o'.sz)
  (z:∀i j,i<o'.n->j<o'.sz->∃v,c[q+(i*o'.sz+j)]? = some v/\QF Z (h.set l o') d w' (nth (o'.row i) j) v) (hro:o'.kd.ro=o.kd.ro):Zo Z a (h.set l o') d w':=
 R.Qm3 (hro:=hro) m g (Tr.QY R m g (by rw[u,s]) x t e (λH F p=>by rw[B]at p;cases p;exact⟨c,n,y⟩)) e (.N7 s ⟨c,f,n,E,C,z⟩)
variable {Z:Nat->Prop}
inductive TK where
 | int (k:IntKind)|bool|str|slice (e:TypeId)|array (n:Nat) (e:TypeId)|struct (fs:List (Nat × TypeId))|ptr (e:TypeId)|map (k e:TypeId)|fn|iface|other
def TK.of:TypeDesc->TK
 | .int k=>.int k
 | .bool=>.bool
 | .string=>.str
 | .slice e=>.slice e
 | .array n e=>.array n e
 | .struct a=>.struct (a.toList.map λf=>(f.offset,f.type))
 | .pointer e=>.ptr e
 | .map k e=>.map k e
 | .func _ _ _=>.fn
 | .interface _=>.iface
 | _=>.other
structure Ty where
 k:TK
 size:Nat
 bytes:Nat
 zero:List Value
def TK.agg:TK->Bool
 | .struct _ | .array _ _=>true
 | _=>false
def cz:Value->Bool
 | .agg _=>true
 | _=>false
structure Xe (P:Program) (t:TypeId) (y:Ty):Prop where
 k:(P.underlying t).map TK.of=some y.k
 info:(P.info? t).map (λi=>(i.size,i.bytes,i.zero.map λz=>z.cells.toList))=some (y.size,y.bytes,some y.zero)
 zag:((P.info? t).bind (·.zero)).map cz=some y.k.agg
abbrev Jr:=List (TypeId × Ty)
def ty:Jr->TypeId->Option Ty
 | [],_=>none
 | (u,y)::r,t=>bif Nat.beq u t then some y else ty r t
def Jl(P:Program)(L:Jr):Prop:=∀t y,ty L t=some y->Xe P t y
def Jl.nil(P):Jl P []:=λ_ _ h=>by simp[ty]at h
def Jl.cons{P}{L}{t:TypeId}{y}(h:Xe P t y)(r:Jl P L):Jl P ((t,y)::L):=λu z e=>by
 simp only[ty]at e;by_cases a:t=u
 .subst a;simp at e;subst e;exact h
 .have:Nat.beq t u=false:=by rw[<- qk,WG];exact a
  rw[this]at e;exact r u z e
section
variable {P:Program}{t:TypeId}{y:Ty}(h:Xe P t y)
include h
theorem Xe.under:∃d,P.underlying t=some d/\TK.of d=y.k:=by
 have:=h.k;cases a:P.underlying t with
 | none=>rw[a]at this;cases this
 | some d=>rw[a]at this;exact⟨d,rfl,by simpa using this⟩
theorem Xe.sizeOf(w):(Go.sizeOf t).run P w=.ok y.size w:=by
 have:=h.info;cases a:P.info? t with
 | none=>rw[a]at this;cases this
 | some i=>
  rw[a]at this;simp at this;simp[Go.sizeOf,typeInfo,a,this.1]
theorem Xe.typeInfo(w):∃i,(Go.typeInfo t).run P w=.ok i w/\i.size=y.size/\i.bytes=y.bytes:=by
 have:=h.info;cases a:P.info? t with
 | none=>rw[a]at this;cases this
 | some i=>
  rw[a]at this;simp at this;exact⟨i,by simp[Go.typeInfo,a],this.1,this.2.1⟩
theorem Xe.zeroValue:∃z,z.cells.toList=y.zero/\∀w,(Go.zeroValue t).run P w=.ok z w:=by
 have:=h.info;cases a:P.info? t with
 | none=>rw[a]at this;cases this
 | some i=>
  rw[a]at this;simp at this;obtain⟨_,_,z,hz,b⟩:=this;exact⟨z,b,λw=>by simp[Go.zeroValue,Go.typeInfo,a,hz]⟩
theorem Xe.isAgg(w):(Go.isAgg t).run P w=.ok y.k.agg w:=by
 obtain⟨d,b,a⟩:=h.under;rw[<- a];cases d<;>simp[Go.isAgg,run_underlying b,TK.of,TK.agg]
end
def TK.of_slice{d:TypeDesc}{e:TypeId}(h:TK.of d=.slice e):d=.slice e:=by cases d<;>simp[TK.of]at h;rw[h]
def TK.of_array{d:TypeDesc}{n}{e:TypeId}(h:TK.of d=.array n e):d=.array n e:=by cases d<;>simp[TK.of]at h;rw[h.1,h.2]
def TK.of_struct{d:TypeDesc}{a:List (Nat × TypeId)}(h:TK.of d=.struct a):∃g,d=.struct g/\g.toList.map (λf=>(f.offset,f.type))=a:=by cases d<;>simp[TK.of]at h;exact⟨_,rfl,by simpa using h⟩
def TK.of_int{d:TypeDesc}{k}(h:TK.of d=.int k):d=.int k:=by cases d<;>simp[TK.of]at h;rw[h]
def TK.of_bool{d:TypeDesc}(h:TK.of d=.bool):d=.bool:=by cases d<;>simp[TK.of]at h;rfl
def TK.Qm5{d:TypeDesc}(h:TK.of d=.str):d=.string:=by cases d<;>simp[TK.of]at h;rfl
def TK.Qm6{d:TypeDesc}{e:TypeId}(h:TK.of d=.ptr e):d=.pointer e:=by cases d<;>simp[TK.of]at h;rw[h]
def TK.of_map{d:TypeDesc}{k e:TypeId}(h:TK.of d=.map k e):d=.map k e:=by cases d<;>simp[TK.of]at h;rw[h.1,h.2]
def yM{P:Program}{t e:TypeId}{y:Ty}(h:Xe P t y)(b:y.k=.slice e):P.underlying t=some (.slice e):=by
 obtain⟨d,c,a⟩:=h.under;rw[b]at a;rw[c,TK.of_slice a]
def nZ{P:Program}{t e:TypeId}{n}{y:Ty}(h:Xe P t y)(b:y.k=.array n e):P.underlying t=some (.array n e):=by
 obtain⟨d,c,a⟩:=h.under;rw[b]at a;rw[c,TK.of_array a]
def Qck{P:Program}{t:TypeId}{b:List (Nat × TypeId)}{y:Ty}(h:Xe P t y)(e:y.k=.struct b):∃g,P.underlying t=some (.struct g)/\g.toList.map (λf=>(f.offset,f.type))=b:=by
 obtain⟨d,j,a⟩:=h.under;rw[e]at a;obtain⟨g,i,c⟩:=TK.of_struct a;exact⟨g,by rw[j,i],c⟩
def Dy{P:Program}{t:TypeId}{k}{y:Ty}(h:Xe P t y)(b:y.k=.int k):P.underlying t=some (.int k):=by
 obtain⟨d,c,a⟩:=h.under;rw[b]at a;rw[c,TK.of_int a]
def Qm7{P:Program}{t:TypeId}{y:Ty}(h:Xe P t y)(b:y.k=.bool):P.underlying t=some .bool:=by
 obtain⟨d,c,a⟩:=h.under;rw[b]at a;rw[c,TK.of_bool a]
def SA{P:Program}{t:TypeId}{y:Ty}(h:Xe P t y)(b:y.k=.str):P.underlying t=some .string:=by
 obtain⟨d,c,a⟩:=h.under;rw[b]at a;rw[c,TK.Qm5 a]
def Qm8{P:Program}{t e:TypeId}{y:Ty}(h:Xe P t y)(b:y.k=.ptr e):P.underlying t=some (.pointer e):=by
 obtain⟨d,c,a⟩:=h.under;rw[b]at a;rw[c,TK.Qm6 a]
def Fe{P:Program}{t k e:TypeId}{y:Ty}(h:Xe P t y)(b:y.k=.map k e):P.underlying t=some (.map k e):=by
 obtain⟨d,c,a⟩:=h.under;rw[b]at a;rw[c,TK.of_map a]
def Km:Value->D
 | .slice none 0 0=>.nil
 | v=>.raw v
def YK:Value->D
 | .agg a=>.agg (a.toList.map Km)
 | v=>Km v
def Qp(a:List (Nat × D)):Operand->D
 | .tmp t=>get a t
 | .const v=>YK v
 | .global _=>.undef
 | .func f=>.raw (.func (.func f) #[] #[])
def Dz(N)(w)(v):Cl N w (Km v) v:=by
 unfold Km;split
 .exact .nil none
 .exact .raw _
def Qm9(N)(w)(v):Cl N w (YK v) v:=by
 unfold YK;split
 .rename_i a;have:=Cl.agg (N:=N) (w:=w) (a.toList.map Km) a.toList σ (λi b=>by
   have c:i<a.size:=by simpa using b
   simp only[nth,Q5,Q7,KX];rw[QT (by simpa using c)];exact Dz N w _)
  simpa using this
 .exact Dz N w _
def Rel.eval{b d}{s:St}{c}{a:Act}{w}(r:Rel Z b d s c a w)(x):QF Z s.h c w (Qp s.fr x) (a.eval x):=by
 cases x with
 | tmp t=>exact r.fr t
 | const v=>exact .cl _ _ (Qm9 _ _ v)
 | global g=>exact .cl _ _ (.undef _)
 | func f=>exact .cl _ _ (.raw _)
section
variable {h:List Ob}{pl:List Pl}{w:World}{v:Value}
def JJ{u}(r:QF Z h pl w (.raw u) v):v=u:=by
 cases r with|cl _ _ a=>cases a;rfl
def Ff(r:QF Z h pl w .nil v):∃a,v=.slice a 0 0:=by
 cases r with|cl _ _ b=>cases b;exact⟨_,rfl⟩
def Fh{l g d c}(r:QF Z h pl w (.ref l g d c) v):∃o p a b,v=.slice a c b/\h[l]? = some o/\pl[l]? = some p/\o.kd.ty=0/\g<=o.gen/\(g=o.gen->Qci w o.sz p d c a b):=by
 cases r with
 | cl _ _ m=>cases m
 | ref _ _ _ _ o p a b i f j k e=>exact⟨o,p,a,b,rfl,i,f,j,k,e⟩
def Fi{l g i j}(r:QF Z h pl w (.ptr l g i j) v):∃o p a,v=.pointer (some a)/\h[l]? = some o/\pl[l]? = some p/\o.kd.ty=0/\g<=o.gen/\(g=o.gen->∃b q,p=some (b,q)/\a=⟨b,q+(i*o.sz+j),none⟩):=by
 cases r with
 | cl _ _ m=>cases m
 | ptr _ _ _ _ o p a e d f k c=>exact⟨o,p,a,rfl,e,d,f,k,c⟩
def GW{l g}(r:QF Z h pl w (.mref l g) v):∃o p b,h[l]? = some o/\pl[l]? = some p/\MOk o.kd.ty b v/\g<=o.gen/\(g=o.gen->p=some (b,0)):=by
 cases r with
 | cl _ _ i=>cases i
 | mref _ _ o p b d c e f a=>exact⟨o,p,b,d,c,e,f,a⟩
def Lq{b:List D}(r:QF Z h pl w (.agg b) v):∃a:List Value,v=.agg a.toArray/\a.length=b.length/\∀i,i<b.length->QF Z h pl w (nth b i) (Q5 a i):=by
 cases r with
 | cl _ _ f=>cases f with|agg _ a d c=>exact⟨a,rfl,d,λi e=>.cl _ _ (c i e)⟩
 | agg _ a d c=>exact⟨a,rfl,d,c⟩
def Qna{b:List D}(r:QF Z h pl w (.tup b) v):∃a:List Value,v=.tuple a.toArray/\a.length=b.length/\∀i,i<b.length->QF Z h pl w (nth b i) (Q5 a i):=by
 cases r with
 | cl _ _ f=>cases f with|tup _ a d c=>exact⟨a,rfl,d,λi e=>.cl _ _ (c i e)⟩
 | tup _ a d c=>exact⟨a,rfl,d,c⟩
def n8{f}{c:Nat}{b:List D}(r:QF Z h pl w (.clo f c b) v):∃a:List Value,v=.func (.func f) (a.take c).toArray (a.drop c).toArray/\a.length=b.length/\∀i,i<b.length->QF Z h pl w (nth b i) (Q5 a i):=by
 cases r with
 | cl _ _ j=>cases j with|clo _ _ _ a e d=>exact⟨a,rfl,e,λi g=>.cl _ _ (d i g)⟩
 | clo _ _ _ a e d=>exact⟨a,rfl,e,d⟩
def Lr{d:List D}(r:QF Z h pl w (.ip d) v):∃b o,∃a:Nat->Value,v=.pointer (some ⟨b,o,none⟩)/\∀j,j<d.length->(free Z pl b/\w.cell? ⟨b,o+j,none⟩=some (a j))/\Cl (free Z pl) w (nth d j) (a j):=by
 cases r with
 | cl _ _ c=>cases c with|ip _ b o a c f=>exact⟨b,o,a,rfl,λj e=>⟨c j e,f j e⟩⟩
def SB{f n}{d}(r:QF Z h pl w (.imm f n d) v):∃a c b o,∃e:Nat->Nat->Value,v=.slice a n c/\(0<n->a=some ⟨b,o,none⟩)/\n<=c/\(∀i,i<n->(d i).length=f) /\
  ∀i j,i<n->j<f->(free Z pl b/\w.cell? ⟨b,o+(i*f+j),none⟩=some (e i j))/\Cl (free Z pl) w (nth (d i) j) (e i j):=by
 cases r with
 | cl _ _ g=>cases g with|imm _ _ _ a c b o e s q m g p=>exact⟨a,c,b,o,e,rfl,s,q,m,λi j l k=>⟨g i j l k,p i j l k⟩⟩
end
def WJ(P:Program)(c g:Nat)(o:Oper)(s:St)(d:D):Prop:=
 ∀(Z:Nat->Prop) f a w,Rel Z c g s f a w->∃v,QF Z s.h f w d v/\∀e:World,(∀b,b<w.heap.size->e.heap[b]? = w.heap[b]?)->(execOp a.eval o).run P e=.ok (.value v) e
def Qnb{w c:World}(e:∀b,b<w.heap.size->c.heap[b]? = w.heap[b]?){a}{v}(h:w.cell? a=some v):c.cell? a=some v:=by
 rw[World.cell?_of_block (w:=w) (e a.block (block_lt_of_cell h))];exact h
def j6(w b:World):Prop:=∀(a:Addr) (v:Value),w.cell? a=some v->b.cell? a=some v
def j6.trans{a b c}(h:j6 a b)(k:j6 b c):j6 a c:=λx v hx=>k x v (h x v hx)
def j6.ext{w a:World}(e:∀b,b<w.heap.size->a.heap[b]? = w.heap[b]?):j6 w a:=λ_ _ h=>Qnb e h
def cA(P:Program)(b f:Nat)(o:Oper)(s:St)(d:D):Prop:=
 ∀(Z:Nat->Prop) e a w,Rel Z b f s e a w->∃v,QF Z s.h e w d v/\∀c:World,j6 w c->(execOp a.eval o).run P c=.ok (.value v) c
def cA.up{P}{b c}{o}{s}{d}(h:cA P b c o s d):WJ P b c o s d:=λZ g a w r=>by
 obtain⟨v,j,i⟩:=h Z g a w r;exact⟨v,j,λf e=>i f (.ext e)⟩
abbrev Ev:=Option (Prop × D)
def cB(c:BinOp)(k:IntKind)(a b:Int):Ev:=
 match c with
 | .add=>some (True,.raw (.int k (k.wrap (a+b))))
 | .sub=>some (True,.raw (.int k (k.wrap (a - b))))
 | .mul=>some (True,.raw (.int k (k.wrap (a*b))))
 | .quo=>some (b≠0,.raw (.int k (k.wrap (a.tdiv b))))
 | .rem=>some (b≠0,.raw (.int k (a.tmod b)))
 | .and=>some (True,.raw (.int k (bits .and k a b)))
 | .or=>some (True,.raw (.int k (bits .or k a b)))
 | .xor=>some (True,.raw (.int k (bits .xor k a b)))
 | .andNot=>some (True,.raw (.int k (bits .andNot k a b)))
 | .eql=>some (True,.raw (.bool (a==b)))
 | .neq=>some (True,.raw (.bool (a != b)))
 | .lss=>some (True,.raw (.bool (decide (a<b))))
 | .leq=>some (True,.raw (.bool (decide (a<=b))))
 | .gtr=>some (True,.raw (.bool (decide (b<a))))
 | .geq=>some (True,.raw (.bool (decide (b<=a))))
 | _=>none
def cC(c:BinOp)(k:IntKind)(a b:Int):Ev:=
 match c with
 | .shl=>some (0<=b,.raw (.int k (k.wrap (a*2 ^ (min b.toNat k.bits)))))
 | .shr=>some (0<=b,.raw (.int k (a.fdiv (2 ^ (min b.toNat k.bits)))))
 | _=>none
def IntKind.same:IntKind->IntKind->Bool
 | .i8,.i8 | .i16,.i16 | .i32,.i32 | .i64,.i64 | .u8,.u8 | .u16,.u16 | .u32,.u32 | .u64,.u64=>true
 | _,_=>false
def IntKind.n9{k a}(h:IntKind.same k a=true):k=a:=by cases k<;>cases a<;>first|rfl|cases h
def oa:BinOp->Bool
 | .shl | .shr=>true
 | _=>false
def cD(c:BinOp)(a b:Bool):Ev:=
 match c with
 | .eql=>some (True,.raw (.bool (a==b)))
 | .neq=>some (True,.raw (.bool (a != b)))
 | _=>none
def cE(c:BinOp)(a b:ByteArray):Ev:=
 match c with
 | .add=>some (a.size+b.size<=9223372036854775807,.raw (.string (a++b)))
 | .eql=>some (True,.raw (.bool (a.toList==b.toList)))
 | .neq=>some (True,.raw (.bool (!(a.toList==b.toList))))
 | .lss=>some (True,.raw (.bool (Op.bytesLess a.toList b.toList)))
 | _=>none
def GX(b:BinOp)(a:Bool):Ev:=
 match b with
 | .eql=>some (True,.raw (.bool a))
 | .neq=>some (True,.raw (.bool (!a)))
 | _=>none
def GY(L:Jr)(t:TypeId):Bool:=match ty L t with|some ⟨.ptr _,_,_,_⟩=>true|_=>false
def cF(L:Jr)(t:TypeId):Bool:=match ty L t with|some ⟨.bool,_,_,_⟩=>true|_=>false
def cG(L:Jr)(c:BinOp)(t:TypeId):D->D->Ev
 | .raw (.int k a),.raw (.int d b)=>bif oa c then cC c k a b else bif IntKind.same k d then cB c k a b else none
 | .raw (.bool a),.raw (.bool b)=>bif cF L t then cD c a b else none
 | .raw (.string a),.raw (.string b)=>cE c a b
 | .raw (.pointer none),.raw (.pointer none)=>bif GY L t then GX c true else none
 | .ptr _ _ _ _,.raw (.pointer none)=>bif GY L t then GX c false else none
 | .ip _,.raw (.pointer none)=>bif GY L t then GX c false else none
 | .raw (.pointer none),.ptr _ _ _ _=>bif GY L t then GX c false else none
 | .raw (.pointer none),.ip _=>bif GY L t then GX c false else none
 | _,_=>none
def Qnc(P)(w){s:Sem Value}{v}(h:s.run P w=.ok v w):(do pure (Next.value (<- s)):Sem Next).run P w=.ok (.value v) w:=by
 simp[h]
def Qnd{P}{c}{k}{a b}{p}{d}(t)(h:cB c k a b=some (p,d))(e:p):∃v,d=.raw v/\∀w,(Go.binOp c t (.int k a) (.int k b)).run P w=.ok v w:=by
 cases c<;>simp only[cB,Q4,Zh,reduceCtorEq]at h<;>obtain⟨rfl,rfl⟩:=h<;>refine⟨_,rfl,λw=>?_⟩ <;>
  simp_all[Go.binOp,Op.intArith,Op.intDiv,Op.intBits,Op.intCmp,bits]
def Qne{P}{c}{k e}{a b}{p}{d}(t)(h:cC c k a b=some (p,d))(f:p):∃v,d=.raw v/\∀w,(Go.binOp c t (.int k a) (.int e b)).run P w=.ok v w:=by
 cases c<;>simp only[cC,Q4,Zh,reduceCtorEq]at h<;>obtain⟨rfl,rfl⟩:=h<;>refine⟨_,rfl,λw=>?_⟩ <;>
  (have:¬ b<0:=ω
   simp[Go.binOp,Op.shift,this])
def Qnf{P}{c}{a b}{p}{d}(t)(h:cE c a b=some (p,d))(e:p):∃v,d=.raw v/\∀w,(Go.binOp c t (.string a) (.string b)).run P w=.ok v w:=by
 cases c<;>simp only[cE,Q4,Zh,reduceCtorEq]at h<;>obtain⟨rfl,rfl⟩:=h<;>refine⟨_,rfl,λw=>?_⟩ <;>
  simp[Go.binOp,Op.stringOp]
 omega
def Qng{P:Program}{t e:TypeId}(a:P.underlying t=some (.pointer e))(n){x y:Option Addr}(b:x=none\/y=none)(w):(Op.equalIn (n+1) t (.pointer x) (.pointer y)).run P w=.ok (x.isNone&&y.isNone) w:=by
 rcases b with rfl|rfl
 .simp[Op.equalIn,run_underlying a]
 .cases x<;>simp[Op.equalIn,run_underlying a]
def oc{P}{t:TypeId}{x y:Value}{b}{w}(a:∀n,(Op.equalIn (n+1) t x y).run P w=.ok b w):(Op.equal t x y).run P w=.ok b w:=a 9999
def Qnh{P:Program}{c}{a b}{p}{d}(t)(f:P.underlying t=some .bool)(h:cD c a b=some (p,d)):∃v,d=.raw v/\∀w,(Go.binOp c t (.bool a) (.bool b)).run P w=.ok v w:=by
 have e:∀w,(Op.equal t (.bool a) (.bool b)).run P w=.ok (a==b) w:=λw=>oc λn=>run_equalIn_bool' w n t a b f;cases c<;>simp only[cD,Q4,Zh,reduceCtorEq]at h<;>obtain⟨rfl,rfl⟩:=h<;>refine⟨_,rfl,λw=>?_⟩<;>simp only[Go.binOp]
 .simp[e]
 .simp[e,bne]
def SC{P:Program}{a}{x y:Option Addr}(c:x=none\/y=none){p}{d}{t e:TypeId}(f:P.underlying t=some (.pointer e))(h:GX a (x.isNone&&y.isNone)=some (p,d)):∃v,d=.raw v/\∀w,(Go.binOp a t (.pointer x) (.pointer y)).run P w=.ok v w:=by
 have b:∀w,(Op.equal t (.pointer x) (.pointer y)).run P w=.ok (x.isNone&&y.isNone) w:=λw=>oc λn=>Qng f n c w;cases a<;>simp only[GX,Q4,Zh,reduceCtorEq]at h<;>obtain⟨rfl,rfl⟩:=h<;>refine⟨_,rfl,λw=>?_⟩<;>simp only[Go.binOp]
 .simp[b]
 .simp[b]
def SD{P:Program}{L}(b:Jl P L){t:TypeId}(h:GY L t=true):∃e,P.underlying t=some (.pointer e):=by
 unfold GY at h;split at h
 .rename_i e _ _ _ a;exact⟨e,Qm8 (b _ _ a) rfl⟩
 .cases h
def Qni{P:Program}{L}(b:Jl P L){t:TypeId}(h:cF L t=true):P.underlying t=some .bool:=by
 unfold cF at h;split at h
 .rename_i a;exact Qm7 (b _ _ a) rfl
 .cases h
def j7{a:Type}{c:Bool}{x:Option a}{y:a}(h:(bif c then x else none)=some y):c=true/\x=some y:=by cases c<;>simp at h;exact⟨rfl,h⟩
def Qnj{P}{L}(q:Jl P L){z M}{s}{o:Oper}{f}{t J:TypeId}{x y}(N:o.op=.binOp f t x y J){p}{d}
  (h:cG L f t (Qp s.fr x) (Qp s.fr y)=some (p,d)) (E:p):WJ P z M o s d:=by
 intro Z K a w r;have hx:=r.eval x;have n:=r.eval y;generalize Qp s.fr x=W at *;generalize Qp s.fr y=V at *;have c:∀(C B:Value),a.eval x=C->a.eval y=B->(∀w,(eqGuard f t x y C B).run P w=.ok () w)->(∃v,d=.raw v/\∀w,(Go.binOp f t C B).run P w=.ok v w) ->
   ∃v,QF Z s.h K w d v/\∀u:World,(∀b,b<w.heap.size->u.heap[b]? = w.heap[b]?)->(execOp a.eval o).run P u=.ok (.value v) u:=by
  intro C B H F Q ⟨v,R,l⟩;refine⟨v,R▸.cl _ _ (.raw v),λu _=>?_⟩;simp only[execOp,N,H,F];refine Qnc P u ?_;simp[Q,l]
 unfold cG at h;split at h
 .rename_i k i U j;have H:=JJ hx;have F:=JJ n;refine c _ _ H F (λw=>by cases f<;>simp[eqGuard]) ?_;cases I:oa f
  .rw[I]at h;simp only[js]at h;obtain⟨O,S⟩:=j7 h;have:=IntKind.n9 O;subst this;exact Qnd t S E
  .rw[I]at h;exact Qne t h E
 .obtain⟨g,h⟩:=j7 h;exact c _ _ (JJ hx) (JJ n) (λw=>by cases f<;>simp[eqGuard]) (Qnh t (Qni q g) h)
 .exact c _ _ (JJ hx) (JJ n) (λw=>by cases f<;>simp[eqGuard]) (Qnf t h E)
 .obtain⟨g,h⟩:=j7 h;obtain⟨e,m⟩:=SD q g;exact c _ _ (JJ hx) (JJ n) (λw=>by cases f<;>simp[eqGuard]) (SC (.inl rfl) m h)
 .obtain⟨g,h⟩:=j7 h;obtain⟨e,m⟩:=SD q g;obtain⟨_,_,T,l,_⟩:=Fi hx;exact c _ _ l (JJ n) (λw=>by cases f<;>simp[eqGuard]) (SC (.inr rfl) m h)
 .obtain⟨g,h⟩:=j7 h;obtain⟨e,m⟩:=SD q g;obtain⟨_,_,_,l,_⟩:=Lr hx;exact c _ _ l (JJ n) (λw=>by cases f<;>simp[eqGuard]) (SC (.inr rfl) m h)
 .obtain⟨g,h⟩:=j7 h;obtain⟨e,m⟩:=SD q g;obtain⟨_,_,T,l,_⟩:=Fi n;exact c _ _ (JJ hx) l (λw=>by cases f<;>simp[eqGuard]) (SC (.inl rfl) m h)
 .obtain⟨g,h⟩:=j7 h;obtain⟨e,m⟩:=SD q g;obtain⟨_,_,_,l,_⟩:=Lr n;exact c _ _ (JJ hx) l (λw=>by cases f<;>simp[eqGuard]) (SC (.inl rfl) m h)
 .cases h
variable {Z:Nat->Prop}
section
variable {P:Program}{L:Jr}{base nt:Nat}{s:St}{o:Oper}
def Qcl{x}(ho:o.op=.move x\/o.op=.assign x):WJ P base nt o s (Qp s.fr x):=by
 intro Z c a w r;refine⟨_,r.eval x,λb _=>?_⟩;rcases ho with ho|ho<;>simp[execOp,ho]
def Qnk{c x y}(d:o.op=.pick c x y){b}(g:Qp s.fr c=.raw (.bool b)):WJ P base nt o s (bif b then Qp s.fr x else Qp s.fr y):=by
 intro Z i a w r;have h:=r.eval c;rw[g]at h;have e:=JJ h;cases b
 .exact⟨_,r.eval y,λf _=>by simp[execOp,d,e,asBool]⟩
 .exact⟨_,r.eval x,λf _=>by simp[execOp,d,e,asBool]⟩
def mk(y:Ty)(a:List D):D:=bif y.k.agg then .agg (a.take y.size) else nth a 0
def DB(y:Ty):D:=bif y.k.agg then .agg (y.zero.map Km) else nth (y.zero.map Km) 0
def od{P}{t:TypeId}{y}(h:Xe P t y){N}(w):∃z,Cl N w (DB y) z/\∀e,(Go.zeroValue t).run P e=.ok z e:=by
 have b:=h.info;have d:=h.zag;cases a:P.info? t with
 | none=>rw[a]at b;cases b
 | some i=>
  rw[a]at b d;simp at b;obtain⟨_,_,z,hz,f⟩:=b;simp[hz]at d;refine⟨z,?_,λw=>by simp[Go.zeroValue,Go.typeInfo,a,hz]⟩;unfold DB;rw[<- d,<- f];cases z with
  | agg c=>
   simp only[cz,wB];refine .agg _ c.toList (by simp[Value.cells]) λi a=>?_;have j:i<c.size:=by simpa[Value.cells] using a
   have g:nth ((Value.agg c).cells.toList.map Km) i=Km (Q5 c.toList i):=by
    simp[nth,Q5,Value.cells,Q7,j]
   rw[g];exact Dz N w _
  | _=>simp only[cz,js,Value.cells,nth,Jo,List.map_nil,List.getD_cons_zero];exact Dz N w _
def oe{a:List D}{k i}(h:i<k):nth (a.take k) i=nth a i:=by
 simp only[nth,Q7,X7,h,VB]
def GZ{a:List D}{k i}:nth (a.drop k) i=nth a (k+i):=by
 simp only[nth,Q7,GO]
def Qcm{t:TypeId}{y:Ty}(e:Xe P t y)(w:World)(c:Addr)(a:List D){h:List Ob}{pl:List Pl}(p:World)(B:y.size<=a.length)(x:y.k.agg=false->y.size=1)
  (l:∀j,j<y.size->∃v,w.cell? (c.add j)=some v/\QF Z h pl p (nth a j) v) :
  ∃v,QF Z h pl p (mk y a) v/\∀b,(∀j v,j<y.size->w.cell? (c.add j)=some v->b.cell? (c.add j)=some v)->(loadVar t c).run P b=.ok v b:=by
 unfold mk;cases k:y.k.agg
 .have z:=x k;obtain⟨v,d,g⟩:=l 0 ω;refine⟨v,g,λb m=>?_⟩;have:=m 0 v ω d;simp only[Addr.add_zero']at this;simp[loadVar,e.isAgg,k,this]
 .let f:Nat->Value:=λj=>(w.cell? (c.add j)).getD Go.undef;refine⟨.agg ((List.range y.size).map f).toArray,.agg _ _ ξ (λi u=>?_),λb m=>?_⟩
  .have n:i<y.size:=by simp at u;omega
   obtain⟨v,d,g⟩:=l i n;rw[oe n];have:Q5 ((List.range y.size).map f) i=v:=by
    simp[Q5,Q7,n,f,d]
   rw[this];exact g
  .have r:(loadCells c y.size).run P b=.ok ((List.range y.size).map f).toArray b:=run_loadCells b c y.size f (λj q=>by
    obtain⟨v,d,_⟩:=l j q;rw[m j v q d];simp[f,d])
   simp[loadVar,e.isAgg,k,e.sizeOf,r]
def Ls(L:Jr)(h:List Ob)(t:TypeId)(d:D):Ev:=
 match ty L t with
 | none=>none
 | some y=>
  match d with
  | .ptr l g i j=>match h[l]? with
   | some o=>some (g=o.gen/\i<o.n/\j+y.size<=o.sz/\(y.k.agg=false->y.size=1),mk y ((o.row i).drop j))
   | none=>none
  | .ip a=>some (y.size<=a.length/\(y.k.agg=false->y.size=1),mk y a)
  | _=>none
def AY(b o n):(⟨b,o,none⟩:Addr).add n=⟨b,o+n,none⟩:=Addr.add_lit b o n
def Qcn(W:Jl P L){t:TypeId}{x}(K:o.op=.load t x){p}{d}(h:Ls L s.h t (Qp s.fr x)=some (p,d))(J:p):cA P base nt o s d:=by
 intro Z H a w r;have hx:=r.eval x;unfold Ls at h;cases B:ty L t with
 | none=>rw[B]at h;cases h
 | some y=>
  have I:=W t y B;rw[B]at h;dsimp only at h;generalize Qp s.fr x=dx at *;split at h
  .rename_i l g i j;split at h
   .rename_i z N;simp only[Q4,Zh]at h;obtain⟨rfl,rfl⟩:=h;obtain⟨T,M,hj,E⟩:=J;obtain⟨o',p',ad,f,O,Jg,Z5,vk,KP⟩:=Fi hx;rw[N]at O;cases O;obtain⟨b,q,rfl,rfl⟩:=KP T;obtain⟨Q6,R⟩:=r.o.at_ l z b q N Jg;obtain⟨c,el,V,Q,Kx,ZN⟩:=R.cells Z5;obtain⟨v,n,F⟩:=Qcm I w ⟨b,q+(i*z.sz+j),none⟩ ((z.row i).drop j) (h:=s.h) (pl:=H) w (by simp[Kx i M];omega) E (λk C=>by
     obtain⟨v,f,n⟩:=ZN i (j+k) M ω;refine⟨v,?_,by rw[GZ];exact n⟩;rw[AY,cell_of_row w b _ c el (0,0) V,<- f];congr 1;omega)
    refine⟨v,n,λu e=>?_⟩;have:=F u (λk v C f=>e _ _ f);simp[execOp,K,f,Instr.loadAt,Instr.sureAddr,this]
   .cases h
  .rename_i m;simp only[Q4,Zh]at h;obtain⟨rfl,rfl⟩:=h;obtain⟨Q,E⟩:=J;obtain⟨b,q,S,f,U⟩:=Lr hx;obtain⟨v,n,F⟩:=Qcm I w ⟨b,q,none⟩ m (h:=s.h) (pl:=H) w Q E (λk C=>by
    obtain⟨⟨_,h2⟩,Y⟩:=U k ω;exact⟨S k,by rw[AY];exact h2,.cl _ _ Y⟩)
   refine⟨v,n,λu e=>?_⟩;have:=F u (λk v C f=>e _ _ f);simp[execOp,K,f,Instr.loadAt,Instr.sureAddr,this]
  .cases h
def Qco(c:Jl P L){t:TypeId}{x}(b:o.op=.load t x){p}{d}(h:Ls L s.h t (Qp s.fr x)=some (p,d))(a:p):WJ P base nt o s d:=(Qcn c b h a).up
def N9(L:Jr)(t:TypeId)(f:Nat):Option (Nat × Ty):=
 match ty L t with
 | some ⟨.struct b,_,_,_⟩=>match b[f]? with
  | some (a,u)=>match ty L u with
   | some y=>some (a,y)
   | none=>none
  | none=>none
 | _=>none
def og(d:Jl P L){t:TypeId}{f b}{y}(h:N9 L t f=some (b,y)):∃g a,P.underlying t=some (.struct g)/\g[f]? = some a/\a.offset=b/\Xe P a.type y:=by
 unfold N9 at h;split at h
 .rename_i r _ _ _ k;split at h
  .rename_i q u c;split at h
   .rename_i p e;simp only[Q4,Zh]at h;obtain⟨rfl,rfl⟩:=h;obtain⟨g,j,i⟩:=Qck (d _ _ k) rfl;rw[<- i]at c;simp only[KX,WH,Zh]at c;obtain⟨a,n,m,l⟩:=c;exact⟨g,a,j,by simpa using n,m,by rw[l];exact d _ _ e⟩
   .cases h
  .cases h
 .cases h
def cH(L:Jr)(t:TypeId)(f:Nat)(d:D):Ev:=
 match N9 L t f with
 | none=>none
 | some (b,y)=>match d with
  | .ptr l g i j=>some (y.size≠0,.ptr l g i (j+b))
  | .ip a=>some (y.size≠0,.ip (a.drop b))
  | _=>none
def Qnl(Y:Jl P L){t:TypeId}{f}{x}(C:o.op=.fieldAddr t x f){p}{d}(h:cH L t f (Qp s.fr x)=some (p,d))(u:p):WJ P base nt o s d:=by
 intro Z pl a w r;have hx:=r.eval x;unfold cH at h;split at h
 .cases h
 .rename_i a0 y V;obtain⟨g,e,F,Q,rfl,B⟩:=og Y V;have k:∀(b q:Nat),y.size≠0->a.eval x=.pointer (some ⟨b,q,none⟩)->∀c:World,(execOp a.eval o).run P c=.ok (.value (.pointer (some ⟨b,q+e.offset,none⟩))) c:=by
   intro b q U W c;simp[execOp,C,W,Instr.fieldAt,run_underlying F,Q,Instr.sureAddr,fieldPlace,B.sizeOf,U,AY]
  generalize Qp s.fr x=dx at *;split at h
  .rename_i l g i j;simp only[Q4,Zh]at h;obtain⟨rfl,rfl⟩:=h;obtain⟨n,pp,ad,m,M,O,N,R,KP⟩:=Fi hx;by_cases E:g=n.gen
   .obtain⟨b,q,rfl,rfl⟩:=KP E;exact⟨_,.ptr _ _ _ _ n _ _ M O N R (λ_=>⟨b,q,rfl,by simp only[Addr.mk.injEq,and_true,AT];omega⟩),λc _=>k _ _ u m c⟩
   .obtain⟨b,q,T⟩:=ad;refine⟨.pointer (some ((⟨b,q,T⟩:Addr).add e.offset)),.ptr _ _ _ _ n _ _ M O N R (λh=>absurd h E),λc _=>?_⟩;simp[execOp,C,m,Instr.fieldAt,run_underlying F,Q,Instr.sureAddr,fieldPlace,B.sizeOf,u]
  .rename_i z;simp only[Q4,Zh]at h;obtain⟨rfl,rfl⟩:=h;obtain⟨b,q,S,m,H⟩:=Lr hx;refine⟨_,.cl _ _ (.ip _ b (q+e.offset) (λj=>S (e.offset+j)) (λj v=>?_) (λj v=>?_)),λc _=>k _ _ u m c⟩
   .obtain⟨⟨K,J⟩,I⟩:=H (e.offset+j) (by simp at v;omega);exact⟨K,by rw[Nat.add_assoc];exact J⟩
   .obtain⟨⟨K,J⟩,I⟩:=H (e.offset+j) (by simp at v;omega);rw[GZ];exact I
  .cases h
def Qcp{t:TypeId}{y}(e:Xe P t y)(c:List D)(b:List Value){h}{j}{g}(q:b.length=c.length)(k:∀i,i<c.length->QF Z h j g (nth c i) (Q5 b i))(a)
  (r:a+y.size<=c.length) (n:y.k.agg=false->y.size=1):∃v,QF Z h j g (mk y (c.drop a)) v/\∀d,(part t b.toArray a).run P d=.ok v d:=by
 unfold mk;cases f:y.k.agg
 .have p:=n f;refine⟨Q5 b a,by simp only[js];rw[GZ];exact k a ω,λd=>?_⟩;have Qc:a<b.length:=ω;simp[part,e.isAgg,f,Q5,Q7,Qc]
 .refine⟨.agg ((b.drop a).take y.size).toArray,.agg _ _ ξ (λi m=>?_),λd=>?_⟩
  .have l:i<y.size:=by simp at m;omega
   rw[oe l,GZ];have:Q5 ((b.drop a).take y.size) i=Q5 b (a+i):=by
    simp[Q5,Q7,l]
   rw[this];exact k _ ω
  .simp[part,e.isAgg,f,e.sizeOf]
def cI(L:Jr)(t:TypeId)(f:Nat)(d:D):Ev:=
 match N9 L t f with
 | none=>none
 | some (a,y)=>match d with
  | .agg b=>some (a+y.size<=b.length/\(y.k.agg=false->y.size=1),mk y (b.drop a))
  | _=>none
def Qnm(u:Jl P L){t:TypeId}{f}{x}(l:o.op=.field t x f){p}{d}(h:cI L t f (Qp s.fr x)=some (p,d))(b:p):WJ P base nt o s d:=by
 intro Z I a w r;have hx:=r.eval x;unfold cI at h;split at h
 .cases h
 .rename_i F y q;obtain⟨g,z,n,E,rfl,i⟩:=og u q;generalize Qp s.fr x=J at *;split at h
  .rename_i B;simp only[Q4,Zh]at h;obtain⟨rfl,rfl⟩:=h;obtain⟨c,j,m,k⟩:=Lq hx;obtain⟨v,e,C⟩:=Qcp i B c m k z.offset b.1 b.2;refine⟨v,e,λH _=>?_⟩;simp[execOp,l,j,Instr.field,run_underlying n,E,asAgg,C]
  .cases h
def Oa(L:Jr)(t:TypeId):Option (Nat × Bool × Nat):=
 match ty L t with
 | some ⟨.slice e,_,_,_⟩=>match ty L e with
  | some y=>some (y.size,true,0)
  | none=>none
 | some ⟨.array n e,_,_,_⟩=>match ty L e with
  | some y=>some (y.size,false,n)
  | none=>none
 | _=>none
def Qnn(b:Jl P L){t:TypeId}{a n}(h:Oa L t=some (a,true,n)):∃e y,P.underlying t=some (.slice e)/\Xe P e y/\y.size=a:=by
 unfold Oa at h;split at h
 .rename_i e _ _ _ d;split at h
  .rename_i y c;simp only[Q4,Zh]at h;exact⟨e,y,yM (b _ _ d) rfl,b _ _ c,h.1⟩
  .cases h
 .split at h
  .simp at h
  .cases h
 .cases h
def Qno(b:Jl P L){t:TypeId}{a n}(h:Oa L t=some (a,false,n)):∃e y,P.underlying t=some (.array n e)/\Xe P e y/\y.size=a:=by
 unfold Oa at h;split at h
 .split at h
  .simp at h
  .cases h
 .rename_i e _ _ _ d;split at h
  .rename_i y c;simp only[Q4,Zh]at h;obtain⟨rfl,_,rfl⟩:=h;exact⟨e,y,nZ (b _ _ d) rfl,b _ _ c,rfl⟩
  .cases h
 .cases h
def cJ(L:Jr)(h:List Ob)(t:TypeId)(d m:D):Ev:=
 match m with
 | .raw (.int _ i)=>match Oa L t with
  | some (c,true,_)=>match d with
   | .ref l g f k=>match h[l]? with
    | some o=>some (g=o.gen/\o.sz=c/\0<=i/\i<k,.ptr l g (f+i.toNat) 0)
    | none=>none
   | .imm z n e=>some (z=c/\0<=i/\i<n,.ip (e i.toNat))
   | _=>none
  | some (c,false,n)=>match d with
   | .ptr l g a j=>some (0<=i/\i<n,.ptr l g a (j+i.toNat*c))
   | .ip b=>some (0<=i/\i<n,.ip (b.drop (i.toNat*c)))
   | _=>none
  | none=>none
 | _=>none
def Qnp(hL:Jl P L){t:TypeId}{x I}(K:o.op=.indexAddr t x I){p}{d}(h:cJ L s.h t (Qp s.fr x) (Qp s.fr I)=some (p,d))(J:p):WJ P base nt o s d:=by
 intro Z pl a w r;have hx:=r.eval x;have ot:=r.eval I;unfold cJ at h;generalize Qp s.fr x=dx at *;generalize Qp s.fr I=di at *;split at h
 .rename_i k i;have M:=JJ ot;split at h
  .rename_i sz _ U;obtain⟨e,y,E,C,rfl⟩:=Qnn hL U;split at h
   .rename_i l g a0 a4;split at h
    .rename_i H O;simp only[Q4,Zh]at h;obtain⟨rfl,rfl⟩:=h;obtain⟨T,JQ,v,f⟩:=J;obtain⟨o',p',V,a1,u,ZU,Jg,W,vk,KP⟩:=Fh hx;rw[O]at ZU;cases ZU;rcases KP T with ⟨F,_⟩|⟨b,q,c,el,Y,Q,hb,B,DC⟩
     .omega
     .refine⟨.pointer (some ⟨b,q+((a0+i.toNat)*H.sz+0),none⟩),.ptr _ _ _ _ H _ _ O Jg W vk (λ_=>⟨b,q,Y,rfl⟩),λR _=>?_⟩;simp[execOp,K,u,M,Q,Instr.indexAt,asIntOf,run_underlying E,v,f,C.sizeOf,AY,JQ];rw[Kh];omega
    .cases h
   .rename_i z n a3;simp only[Q4,Zh]at h;obtain⟨rfl,rfl⟩:=h;obtain⟨rfl,v,f⟩:=J;obtain⟨V,a1,b,q,S,u,Q,DC,hs,B⟩:=SB hx;have Qc:i.toNat<n:=ω;refine⟨.pointer (some ⟨b,q+i.toNat*y.size,none⟩),.cl _ _ (.ip _ b _ (λj=>S i.toNat j) (λj m=>?_) (λj m=>?_)),λR _=>?_⟩
    .rw[hs _ Qc]at m;obtain⟨⟨F,N⟩,h4⟩:=B i.toNat j Qc m;exact⟨F,by rw[Nat.add_assoc];exact N⟩
    .rw[hs _ Qc]at m;exact(B i.toNat j Qc m).2
    .simp[execOp,K,u,M,Q ω,Instr.indexAt,asIntOf,run_underlying E,v,f,C.sizeOf,AY]
   .cases h
  .rename_i sz n U;obtain⟨e,y,E,C,rfl⟩:=Qno hL U;split at h
   .rename_i l g i0 j;simp only[Q4,Zh]at h;obtain⟨rfl,rfl⟩:=h;obtain⟨v,f⟩:=J;obtain⟨H,pp,V,u,O,Y,W,Ca,KP⟩:=Fi hx;refine⟨.pointer (some (V.add (i.toNat*y.size))),.ptr _ _ _ _ H _ _ O Y W Ca (λT=>?_),λR _=>?_⟩
    .obtain⟨b,q,rfl,rfl⟩:=KP T;exact⟨b,q,rfl,by rw[AY];simp only[Addr.mk.injEq,and_true,AT];omega⟩
    .simp[execOp,K,u,M,Instr.indexAt,asIntOf,run_underlying E,v,f,C.sizeOf,Instr.sureAddr]
   .rename_i a2;simp only[Q4,Zh]at h;obtain⟨rfl,rfl⟩:=h;obtain⟨v,f⟩:=J;obtain⟨b,q,S,u,B⟩:=Lr hx;refine⟨_,.cl _ _ (.ip _ b (q+i.toNat*y.size) (λj=>S (i.toNat*y.size+j)) (λj m=>?_) (λj m=>?_)),λR _=>?_⟩
    .obtain⟨⟨f,F⟩,N⟩:=B (i.toNat*y.size+j) (by simp at m;omega);exact⟨f,by rw[Nat.add_assoc];exact F⟩
    .obtain⟨⟨f,F⟩,N⟩:=B (i.toNat*y.size+j) (by simp at m;omega);rw[GZ];exact N
    .simp[execOp,K,u,M,Instr.indexAt,asIntOf,run_underlying E,v,f,C.sizeOf,Instr.sureAddr,AY]
   .cases h
  .cases h
 .cases h
def cK(L:Jr)(t:TypeId)(d c:D):Ev:=
 match c with
 | .raw (.int _ i)=>match d with
  | .agg a=>match ty L t with
   | some ⟨.array n e,_,_,_⟩=>match ty L e with
    | some y=>some (0<=i/\i<n/\i.toNat*y.size+y.size<=a.length/\(y.k.agg=false->y.size=1),mk y (a.drop (i.toNat*y.size)))
    | none=>none
   | _=>none
  | .raw (.string b)=>match ty L t with
   | some ⟨.str,_,_,_⟩=>some (0<=i/\i<b.size,.raw (.int .u8 (b.data.getD i.toNat 0).toNat))
   | _=>none
  | _=>none
 | _=>none
def ou(j:Jl P L){t:TypeId}{x c}(u:o.op=.index t x c){p}{d}(h:cK L t (Qp s.fr x) (Qp s.fr c)=some (p,d))(q:p):WJ P base nt o s d:=by
 intro Z R a w r;have hx:=r.eval x;have F:=r.eval c;unfold cK at h;generalize Qp s.fr x=S at *;generalize Qp s.fr c=T at *;split at h
 .rename_i k i;have z:=JJ F;split at h
  .rename_i N;split at h
   .rename_i n e _ _ _ g;split at h
    .rename_i y Q;have m:=j _ _ Q;simp only[Q4,Zh]at h;obtain⟨rfl,rfl⟩:=h;obtain⟨l,B,M,K⟩:=q;obtain⟨E,f,J,I⟩:=Lq hx;obtain⟨v,H,O⟩:=Qcp m N E J I _ M K;refine⟨v,H,λC _=>?_⟩;simp[execOp,u,f,z,Instr.index,asIntOf,run_underlying (nZ (j _ _ g) rfl),l,B,m.sizeOf,O]
    .cases h
   .cases h
  .rename_i b;split at h
   .rename_i g;simp only[Q4,Zh]at h;obtain⟨rfl,rfl⟩:=h;obtain⟨l,B⟩:=q;have f:=JJ hx;refine⟨_,.cl _ _ (.raw _),λC _=>?_⟩;have Qc:i.toNat<b.size:=ω;have:b[i.toNat]? = some (b.data.getD i.toNat 0):=by
     rw[getElem?_pos b i.toNat Qc];show some (b.data[i.toNat])=_;rw[yH,jV (by exact Qc)];rfl
    simp[execOp,u,f,z,Instr.index,asIntOf,run_underlying (SA (j _ _ g) rfl),l,this]
   .cases h
  .cases h
 .cases h
def Qnq{x}{i}(g:o.op=.extract x i){b:List D}(d:Qp s.fr x=.tup b)(j:i<b.length):WJ P base nt o s (nth b i):=by
 intro Z l a w r;have h:=r.eval x;rw[d]at h;obtain⟨c,e,m,f⟩:=Qna h;refine⟨_,f i j,λk _=>?_⟩;have:i<c.length:=ω;simp[execOp,g,e,Instr.extract,Q5,Q7,this]
def Qnr{u}{t:TypeId}{x}(f:o.op=.unOp u t x){b}(e:u=.not)(c:Qp s.fr x=.raw (.bool b)):WJ P base nt o s (.raw (.bool (!b))):=by
 intro Z i a w r;have h:=r.eval x;rw[c]at h;have d:=JJ h;exact⟨_,.cl _ _ (.raw _),λg _=>by simp[execOp,f,d,e,Op.unary]⟩
def Qns{u}{t:TypeId}{x}(e:o.op=.unOp u t x){k:IntKind}{n}(d:u=.neg)(b:Qp s.fr x=.raw (.int k n)):WJ P base nt o s (.raw (.int k (k.wrap (0 - n)))):=by
 intro Z g a w r;have h:=r.eval x;rw[b]at h;have c:=JJ h;exact⟨_,.cl _ _ (.raw _),λf _=>by simp[execOp,e,c,d,Op.unary,Op.intArith]⟩
def Qnt{u}{t:TypeId}{x}(e:o.op=.unOp u t x){k:IntKind}{n}(d:u=.xor)(b:Qp s.fr x=.raw (.int k n)):WJ P base nt o s (.raw (.int k (bits .xor k (if k.signed then -1 else k.max) n))):=by
 intro Z g a w r;have h:=r.eval x;rw[b]at h;have c:=JJ h;exact⟨_,.cl _ _ (.raw _),λf _=>by simp[execOp,e,c,d,Op.unary,Op.intBits,bits]⟩
def D.there:D->Bool
 | .ptr _ _ _ _ | .ip _ | .clo _ _ _=>true
 | .raw (.func (.func _) _ _)=>true
 | _=>false
def Qnu{x}(c:o.op=.nilCheck x){d:D}(m:Qp s.fr x=d)(k:d.there=true):WJ P base nt o s d:=by
 intro Z t a w r;have h:=r.eval x;rw[m]at h;cases d<;>try (simp only[D.there,YF]at k;done)
 case ptr l g i j=>
  obtain⟨_,_,y,b,_⟩:=Fi h;exact⟨_,h,λe _=>by simp[execOp,c,b]⟩
 case ip p=>
  obtain⟨_,_,_,b,_⟩:=Lr h;exact⟨_,h,λe _=>by simp[execOp,c,b]⟩
 case raw v=>
  have b:=JJ h;cases v with
  | func n first z=>
   cases n with
   | func f=>exact⟨_,h,λe _=>by simp[execOp,c,b]⟩
   | _=>simp only[D.there,YF]at k
  | _=>simp only[D.there,YF]at k
 case clo f u p=>
  obtain⟨q,b,_⟩:=n8 h;exact⟨_,h,λe _=>by simp[execOp,c,b]⟩
def cM(L:Jr)(a c:TypeId):D->Ev
 | .raw (.int _ n)=>match ty L c,ty L a with
  | some ⟨.int k,_,_,_⟩,some _=>some (True,.raw (.int k (k.wrap n)))
  | _,_=>none
 | .raw (.string b)=>match ty L c,ty L a with
  | some ⟨.str,_,_,_⟩,some ⟨.str,_,_,_⟩=>some (True,.raw (.string b))
  | _,_=>none
 | _=>none
def Qnv(e:Jl P L){b c:TypeId}{x}(j:o.op=.convert b c x){p}{d}(h:cM L b c (Qp s.fr x)=some (p,d)):WJ P base nt o s d:=by
 intro Z t a w r;have hx:=r.eval x;unfold cM at h;generalize Qp s.fr x=v at *;split at h
 .split at h
  .rename_i k _ _ _ n i g;simp only[Q4,Zh]at h;obtain⟨rfl,rfl⟩:=h;have f:=JJ hx;refine⟨_,.cl _ _ (.raw _),λl _=>?_⟩;obtain⟨q,m,u⟩:=(e _ _ g).under;simp[execOp,j,f,convert,run_underlying m,run_underlying (Dy (e _ _ i) rfl),Conv.intToInt]
  .cases h
 .split at h
  .rename_i i g;simp only[Q4,Zh]at h;obtain⟨rfl,rfl⟩:=h;have f:=JJ hx;refine⟨_,.cl _ _ (.raw _),λl _=>?_⟩;simp[execOp,j,f,convert,run_underlying (SA (e _ _ g) rfl),run_underlying (SA (e _ _ i) rfl)]
  .cases h
 .cases h
def cO(L:Jr)(t:TypeId):D->Ev
 | .ref _ _ _ n=>match ty L t with
  | some ⟨.slice _,_,_,_⟩=>some (True,.raw (.int .i64 n))
  | _=>none
 | .imm _ n _=>match ty L t with
  | some ⟨.slice _,_,_,_⟩=>some (True,.raw (.int .i64 n))
  | _=>none
 | .nil=>match ty L t with
  | some ⟨.slice _,_,_,_⟩=>some (True,.raw (.int .i64 0))
  | _=>none
 | .raw (.string b)=>match ty L t with
  | some ⟨.str,_,_,_⟩=>some (True,.raw (.int .i64 b.size))
  | _=>none
 | _=>none
def vn{P:Program}{o:Oper}{a:Act}{c:Builtin}{b:Array Operand}{d:Array TypeId}(e:o.op=.call ⟨.builtin c,b,d⟩)(w:World):
  (execOp a.eval o).run P w=(builtin c d o.type (b.map fun | .const _=>true|_=>false) (b.map a.eval)).run P w:=by
 simp[execOp,e,resolve,invoke];rfl
def cP(f:Jl P L){x}{t:TypeId}(e:o.op=.call ⟨.builtin .len,#[x],#[t]⟩){p}{d}(h:cO L t (Qp s.fr x)=some (p,d)):WJ P base nt o s d:=by
 intro Z k a w r;have hx:=r.eval x;unfold cO at h;generalize Qp s.fr x=l at *;split at h
 .split at h
  .rename_i c;simp only[Q4,Zh]at h;obtain⟨rfl,rfl⟩:=h;obtain⟨_,_,j,i,b,_⟩:=Fh hx;refine⟨_,.cl _ _ (.raw _),λg _=>?_⟩;rw[vn e];simp[builtin,Builtin.len_,b,run_underlying (yM (f _ _ c) rfl),goInt]
  .cases h
 .split at h
  .rename_i c;simp only[Q4,Zh]at h;obtain⟨rfl,rfl⟩:=h;obtain⟨j,i,_,_,_,b,_⟩:=SB hx;refine⟨_,.cl _ _ (.raw _),λg _=>?_⟩;rw[vn e];simp[builtin,Builtin.len_,b,run_underlying (yM (f _ _ c) rfl),goInt]
  .cases h
 .split at h
  .rename_i c;simp only[Q4,Zh]at h;obtain⟨rfl,rfl⟩:=h;obtain⟨j,b⟩:=Ff hx;refine⟨_,.cl _ _ (.raw _),λg _=>?_⟩;rw[vn e];simp[builtin,Builtin.len_,b,run_underlying (yM (f _ _ c) rfl),goInt]
  .cases h
 .split at h
  .rename_i c;simp only[Q4,Zh]at h;obtain⟨rfl,rfl⟩:=h;have b:=JJ hx;refine⟨_,.cl _ _ (.raw _),λg _=>?_⟩;rw[vn e];simp[builtin,Builtin.len_,b,run_underlying (SA (f _ _ c) rfl),goInt]
  .cases h
 .cases h
def Qnw{x y}{h:Array TypeId}(g:o.op=.call ⟨.builtin .max,#[x,y],h⟩){k d}{m n}(f:Qp s.fr x=.raw (.int k m))(e:Qp s.fr y=.raw (.int d n)):WJ P base nt o s (.raw (.int k (max m n))):=by
 intro Z j a w r;have c:=r.eval x;have b:=r.eval y;rw[f]at c;rw[e]at b;refine⟨_,.cl _ _ (.raw _),λi _=>?_⟩;rw[vn g];simp[builtin,Builtin.max_,JJ c,JJ b,Builtin.max2];split<;>omega
def Qnx{x y}{h:Array TypeId}(g:o.op=.call ⟨.builtin .min,#[x,y],h⟩){k d}{m n}(f:Qp s.fr x=.raw (.int k m))(e:Qp s.fr y=.raw (.int d n)):WJ P base nt o s (.raw (.int k (min m n))):=by
 intro Z j a w r;have c:=r.eval x;have b:=r.eval y;rw[f]at c;rw[e]at b;refine⟨_,.cl _ _ (.raw _),λi _=>?_⟩;rw[vn g];simp[builtin,Builtin.min_,JJ c,JJ b,Builtin.min2];split<;>omega
def Qny{f}{first b:Array Operand}(c:o.op=.makeFunc (.func f) first b):WJ P base nt o s (.clo f first.size ((first.toList++b.toList).map (Qp s.fr))):=by
 intro Z m a w r;refine⟨.func (.func f) (((first.toList++b.toList).map a.eval).take first.size).toArray (((first.toList++b.toList).map a.eval).drop first.size).toArray,.clo f first.size _ ((first.toList++b.toList).map a.eval) σ (λi d=>?_),λl _=>?_⟩
 .have k:i<(first.toList++b.toList).length:=by simpa using d
  simp only[nth,Q5,Q7,KX];rw[QT k];exact r.eval _
 .have j:Array.map a.eval b=(List.map a.eval b.toList).toArray:=Array.ext' σ;have h:Array.map a.eval first=(List.map a.eval first.toList).toArray:=Array.ext' σ;have g:((first.toList++b.toList).map a.eval).take first.size=first.toList.map a.eval:=by rw[jZ,List.take_append_of_le_length σ,List.take_of_length_le σ]
  have e:((first.toList++b.toList).map a.eval).drop first.size=b.toList.map a.eval:=by rw[jZ,List.drop_append_of_le_length σ,List.drop_of_length_le σ,Yr]
  rw[g,e];simp[execOp,c,Instr.makeFunc,j,h]
end
variable {Z:Nat->Prop}
def Ext(w a:World):Prop:=∀b,b<w.heap.size->a.heap[b]? = w.heap[b]?
def Ext.refl(w):Ext w w:=λ_ _=>rfl
def Ext.trans{a b c}(h:Ext a b)(k:Ext b c):Ext a c:=λi e=>by
 have d:=h i e;have f:i<b.heap.size:=by
  rw[jV e]at d;exact(WO.1 d).1
 rw[k i f,d]
def calm(o:Oper):Bool:=match o.op with
 | .store .. | .mapUpdate .. | .insert .. | .entryStore .. | .next ..=>false
 | .call ⟨.builtin .len,_,_⟩ | .call ⟨.builtin .min,_,_⟩ | .call ⟨.builtin .max,_,_⟩=>true
 | .call ⟨.builtin _,_,_⟩=>false
 | _=>true
def j8(P:Program)(b h:Nat)(o:Oper)(s:St)(e:List Ob)(d:D):Prop:=
 ∀(Z:Nat->Prop) g a w,Rel Z b h s g a w->b<=w.heap.size->∃v c f,((execOp a.eval o).run P w=.ok (.value v) c\/((execOp a.eval o).run P w=.ok .skip c/\v=Go.undef)) /\
  Tr s.h g w e f c/\Zo Z b e f c/\QF Z e f c d v/\Below b w c/\(calm o=true->Ext w c)
def Lu(P:Program)(b h:Nat)(o:Oper)(s:St)(e:List Ob)(d:D):Prop:=
 ∀(Z:Nat->Prop) g a w,Rel Z b h s g a w->b<=w.heap.size->∃v c f,((execOp a.eval o).run P w=.ok (.value v) c\/((execOp a.eval o).run P w=.ok .skip c/\v=Go.undef)) /\
  Tr s.h g w e f c/\Zo Z b e f c/\QF Z e f c d v/\Below b w c
def Lu.up{P}{b c}{o}{s}{f}{d}(h:Lu P b c o s f d)(j:calm o=false):j8 P b c o s f d:=λZ i a w r k=>
 let ⟨v,g,t,q,p,n,m,l⟩:=h Z i a w r k
 ⟨v,g,t,q,p,n,m,l,λe=>by rw[j]at e;cases e⟩
def AZ:Value->Bool
 | .agg _ | .tuple _=>false
 | _=>true
def D.VI:D->Bool
 | .raw v=>AZ v
 | .undef | .agg _ | .tup _=>false
 | _=>true
def Yu:D->Option (List D)
 | .agg a=>bif a.all D.VI then some a else none
 | d=>bif d.VI then some [d] else none
def ov{h}{c}{w}{d:D}{v}(r:QF Z h c w d v)(a:d.VI=true):AZ v=true:=by
 cases r with
 | cl _ _ f=>cases f<;>first|rfl|exact a|(simp[D.VI]at a)
 | ref=>rfl
 | ptr=>rfl
 | mref _ _ o p b j i e k g=>rw[e.2];unfold Sx;split<;>rfl
 | clo=>rfl
 | agg=>simp[D.VI]at a
 | tup=>simp[D.VI]at a
def Qnz{v:Value}(h:AZ v=true):v.cells=#[v]:=by cases v<;>first|rfl|cases h
def ox{h}{b}{w}{d}{v}(r:QF Z h b w d v){a}(e:Yu d=some a):
  v.cells.size=a.length/\∀i,i<a.length->QF Z h b w (nth a i) (Q5 v.cells.toList i)/\AZ (Q5 v.cells.toList i)=true:=by
 have one:∀g:D,QF Z h b w g v->(bif g.VI then some [g] else none)=some a->v.cells.size=a.length/\∀i,i<a.length->QF Z h b w (nth a i) (Q5 v.cells.toList i)/\AZ (Q5 v.cells.toList i)=true:=by
  intro g k f;cases j:g.VI
  .rw[j]at f;cases f
  .rw[j]at f;simp only[wB,Q4]at f;subst f;have m:=ov k j;rw[Qnz m];refine⟨rfl,λi c=>?_⟩;have:i=0:=by simp at c;omega
   subst this;exact⟨k,m⟩
 cases d with
 | agg p=>
  simp only[Yu]at e;obtain⟨n,e⟩:=j7 e;cases e;obtain⟨q,rfl,o,l⟩:=Lq r;refine⟨by simp[Value.cells,o],λi c=>⟨by simpa[Value.cells] using l i c,?_⟩⟩;refine ov (by simpa[Value.cells] using l i c:QF Z h b w (nth a i) _) ?_;rw[jo]at n;have:=n (nth a i) (by simp[nth,Q7,c]);exact this
 | _=>exact one _ r e
def cQ{P}(b)(e):∀(d:List Value) (i q:Nat) (w:World) (c:Array Value),w.heap[b]? = some (.cells c e (0,0))->q+i+d.length<=c.size->(∀j,j<d.length->AZ (Q5 d j)=true) ->
  ∃a g,(storeCells ⟨b,q,none⟩ d i).run P w=.ok () a/\a.heap[b]? = some (.cells g e (0,0))/\g.size=c.size /\
   (∀k,g[k]? = if q+i<=k/\k<q+i+d.length then d[k - (q+i)]? else c[k]?)/\(∀k,k≠b->a.heap[k]? = w.heap[k]?)/\a.heap.size=w.heap.size/\a.os=w.os/\a.tape=w.tape/\a.output=w.output
 | [],i,q,w,c,f,o,l=>⟨w,c,by simp[storeCells],f,rfl,λk=>by rw[Qe];simp,λ_ _=>rfl,rfl,rfl,rfl,rfl⟩
 | v::d,i,q,w,c,f,o,l=>by
  simp only[VQ]at o;have H:AZ v=true:=l 0 σ;have Qc:q+i<c.size:=ω;have J:w.cell? ⟨b,q+i,none⟩=some c[q+i]:=by rw[cell_of_row w b _ c e (0,0) f];simp[Qc]
  have n:w.frozen? ⟨b,q+i,none⟩=false:=frozen_of_row w b _ c e f;have s:=heap_setCell_same w b (q+i) c e v f;obtain⟨a,g,F,E,C,B,z,y,x,u,t⟩:=cQ (P:=P) b e d (i+1) q (w.setCell ⟨b,q+i,none⟩ v) _ s ξ (λj K=>by
   have:=l (j+1) ξ;simpa[Q5] using this)
  refine⟨a,g,?_,E,by rw[C];simp,λk=>?_,λk p=>by rw[z k p];exact Below.heap_setCell _ _ _ _ p,by rw[y];simp,by rw[x];rfl,by rw[u];rfl,by rw[t];rfl⟩
  .have I:(store (⟨b,q+i,none⟩:Addr) v).run P w=.ok () (w.setCell ⟨b,q+i,none⟩ v):=by
    cases v<;>first|(simp[AZ]at H;done)|(simp[store,Sem.run,J,n])
   simp only[storeCells,Sem.run_bind,AY,I,Result.andThen_ok];exact F
  .rw[B k];by_cases r:q+i=k
   .subst r;rw[Qe ω,Qf σ];simp[Qc]
   .by_cases h:q+i<=k/\k<q+i+(v::d).length
    .rw[Qf h,Qf (by simp at h;omega)];obtain⟨m,rfl⟩:∃m,k=q+i+(m+1):=⟨k - (q+i) - 1,ω⟩;rw[show q+i+(m+1) - (q+i)=m+1 by omega,show q+i+(m+1) - (q+(i+1))=m by omega];simp
    .rw[Qe h,Qe (by simp at h;omega),nQ ω]
def Cd(b:List D)(j:Nat)(a:List D):List D:=b.take j++a++b.drop (j+a.length)
def cR{a:List D}{j}{b:List D}(h:j+b.length<=a.length):(Cd a j b).length=a.length:=by simp[Cd];omega
def Qcq{b:List D}{j}{a:List D}(h:j+a.length<=b.length)(i):nth (Cd b j a) i=if j<=i/\i<j+a.length then nth a (i - j) else nth b i:=by
 simp only[nth,Cd,Q7];by_cases d:i<j
 .rw[Qe ω,Wu,JY ξ];simp[d]
 .by_cases c:i<j+a.length
  .rw[Qf ⟨ω,c⟩,Wu,Kw ξ,JY ξ];simp;congr 3;omega
  .rw[Qe ω,Kw ξ];simp only[GO,ZT,Qau];congr 2;omega
def setRow(o:Ob)(i:Nat)(a:List D):Ob:=
 { o with row:=bif o.kd.Lm then λ_=>a else λk=>bif Nat.beq k i then a else o.row k }
def Qcr{o:Ob}{i}{a:List D}(c:o.kd.Lm=true->o.n=1){k}(e:i<o.n)(d:k<o.n):(setRow o i a).row k=if k=i then a else o.row k:=by
 unfold setRow;cases h:o.kd.Lm
 .simp only[js];by_cases b:k=i
  .subst b;simp
  .have:Nat.beq k i=false:=by rw[<- qk,WG];exact b
   rw[this,Qe b];rfl
 .have:=c h;simp only[wB];rw[Qf ω]
section
variable {P:Program}{L:Jr}{base nt:Nat}{s:St}{o:Oper}
def Od{w a:World}{b}(h:base<=b)(f:∀k,k≠b->a.heap[k]? = w.heap[k]?)(i:a.heap.size=w.heap.size)(e:a.os=w.os)(d:a.tape=w.tape)(c:a.output=w.output):Below base w a:=
 ⟨e,d,c,ω,λk g=>f k ω⟩
def SE(L:Jr)(h:List Ob)(t:TypeId)(b x:D):Option (Prop × List Ob):=
 match ty L t,b,Yu x with
 | some y,.ptr l g i j,some a=>match h[l]? with
  | some o=>some (g=o.gen/\i<o.n/\j+a.length<=o.sz/\a.length=y.size/\(o.kd.Lm=true->o.n=1)/\o.kd.ro=false,h.set l (setRow o i (Cd (o.row i) j a)))
  | none=>none
 | _,_,_=>none
def QnB(hL:Jl P L){t:TypeId}{K x}(ho:o.op=.store t K x){p}{Y}(h:SE L s.h t (Qp s.fr K) (Qp s.fr x)=some (p,Y))(hp:p):Lu P base nt o s Y .undef:=by
 intro Z E a w r KZ;have hx:=r.eval x;have U:=r.eval K;unfold SE at h;split at h
 .rename_i y l g i j J Cc oy J2;rw[oy]at U;split at h
  .rename_i d C;simp only[Q4,Zh]at h;obtain⟨rfl,rfl⟩:=h;obtain⟨hg,n,hj,JQ,W,S⟩:=hp;have hy:=hL _ _ Cc;obtain⟨o',p',a1,hv,ZU,Q,f,vk,KP⟩:=Fi U;rw[C]at ZU;cases ZU;obtain⟨b,q,rfl,rfl⟩:=KP hg;obtain⟨Q6,xx⟩:=r.o.at_ l d b q C Q;obtain⟨c,el,F,Lw,O,ZN⟩:=xx.cells f;obtain⟨u,cS⟩:=ox hx J2;have B:j+J.length<=(d.row i).length:=by rw[O i n];exact hj
   have a0:i*d.sz+d.sz<=d.n*d.sz:=by
    have:=Vm d.sz (show i+1<=d.n from n);rw[Kh]at this;omega
   obtain⟨V,c',g1,g2,I,g4,H,g6,g7,g8,g9⟩:=cQ (P:=P) b el (a.eval x).cells.toList 0 (q+(i*d.sz+j)) w c F (by simp[u];omega) (λk e=>(cS k (by simpa[u] using e)).2);have T:Tr s.h E w (s.h.set l (setRow d i (Cd (d.row i) j J))) E V:=Tr.QY r.o C Q rfl rfl rfl (λk e _=>H k e) (λc1 nX e1=>by rw[F]at e1;cases e1;exact⟨c',g2,I⟩);refine⟨Go.undef,V,E,.inr ⟨?_,rfl⟩,T,?_,.cl _ _ (.undef _),Od (Q6 S) H g6 g7 g8 g9⟩
   .simp[execOp,ho,hv,Instr.storeAt,Instr.sureAddr,storeVar,hy.sizeOf,u,JQ,g1]
   .refine Zo.QY (hro:=rfl) r.o C Q f f rfl rfl (λk e _=>H k e) F g2 I (by rw[I];exact Lw) (λk e=>?_) (λk m e hm=>?_)
    .rw[Qcr W n e];split
     .rw[cR B,O i n];rfl
     .exact O k e
    .rw[Qcr W n e];have f:k<d.n:=e;have Oe:m<d.sz:=hm;show ∃v,c'[q+(k*d.sz+m)]? = some v/\_;rw[g4];simp only[xG,Array.length_toList,u];by_cases N:k=i
     .subst N;rw[Qf rfl,Qcq B];by_cases z:j<=m/\m<j+J.length
      .rw[Qf z,Qf ω];refine⟨Q5 (a.eval x).cells.toList (m - j),?_,((cS (m - j) ω).1).tr T⟩;rw[show q+(k*d.sz+m) - (q+(k*d.sz+j))=m - j by omega];simp only[Q5,Q7];rw[QT (by simp[u];omega)];rfl
      .rw[Qe z,Qe ω];obtain⟨v,R,M⟩:=ZN k m f Oe;exact⟨v,R,M.tr T⟩
     .rw[Qe N,Qe]
      .obtain⟨v,R,M⟩:=ZN k m f Oe;exact⟨v,R,M.tr T⟩
      .intro a2;rcases Nat.lt_or_gt_of_ne N with Qc|Qc
       .have:=Vm d.sz (show k+1<=i from Qc);rw[Kh]at this;omega
       .have:=Vm d.sz (show i+1<=k from Qc);rw[Kh]at this;omega
  .cases h
 .cases h
def Fj{w:World}(h:base<=w.heap.size)(a:Obj):Below base w (w.alloc a):=(Below.refl base w).alloc h a
def Qcu{d}{a}{w:World}(r:Rel Z base nt s d a w)(u:base<=w.heap.size)(f)(v:Value)(c:List D)(g:v.cells.size=c.length)(m:∀i,i<c.length->QF Z s.h d w (nth c i) (Q5 v.cells.toList i)):
  Tr s.h d w (s.h++[⟨.one,0,c.length,1,λ_=>c⟩]) (d++[some (w.heap.size,0)]) (w.alloc (.cells v.cells f))/\Zo Z base (s.h++[⟨.one,0,c.length,1,λ_=>c⟩]) (d++[some (w.heap.size,0)]) (w.alloc (.cells v.cells f)) /\
   QF Z (s.h++[⟨.one,0,c.length,1,λ_=>c⟩]) (d++[some (w.heap.size,0)]) (w.alloc (.cells v.cells f)) (.ptr s.h.length 0 0 0) (.pointer (some ⟨w.heap.size,0,none⟩)):=by
 have e:∀b,b<w.heap.size->(w.alloc (.cells v.cells f)).heap[b]? = w.heap[b]? := λb p=>xK w _ b p;have x:(w.alloc (.cells v.cells f)).heap[w.heap.size]? = some (.cells v.cells f (0,0)):=heap_alloc_new w _;have T:Tr s.h d w (s.h++[⟨.one,0,c.length,1,λ_=>c⟩]) (d++[some (w.heap.size,0)]) (w.alloc (.cells v.cells f)):=Tr.push r.o e _ _ (by intro b q h;simp at h;omega);refine⟨T,?_,?_⟩
 .refine Zo.push r.o e _ rfl (Qs _) u x (by simp[g]) (λ_ _=>rfl) (λi j n k=>?_);have l:i=0:=by simp at n;omega
  subst l;refine⟨Q5 v.cells.toList j,?_,(m j k).tr T⟩;simp only[E9,JM,Q5,Q7];have:j<v.cells.size:=by rw[g];exact k
  rw[wv,jV this];rfl
 .have t:d.length=s.h.length:=r.o.len;exact .ptr _ _ _ _ ⟨.one,0,c.length,1,λ_=>c⟩ (some (w.heap.size,0)) _ σ (by rw[<- t];simp) rfl (Qs _) (λ_=>⟨_,_,rfl,σ⟩)
def QnC(e:Jl P L){t:TypeId}{c x}(a:o.op=.store t c x){p}{b}(h:SE L s.h t (Qp s.fr c) (Qp s.fr x)=some (p,b))(d:p):j8 P base nt o s b .undef:=
 (QnB e a h d).up (by simp[calm,a])
def QnD{t:TypeId}{x}(f:o.op=.box t x){c:List D}(e:Yu (Qp s.fr x)=some c):j8 P base nt o s (s.h++[⟨.one,0,c.length,1,λ_=>c⟩]) (.ptr s.h.length 0 0 0):=by
 intro Z p a w r d;obtain⟨n,m⟩:=ox (r.eval x) e;obtain⟨l,k,j⟩:=Qcu r d t (a.eval x) c n (λi g=>(m i g).1);refine⟨_,_,_,.inl ?_,l,k,j,Fj d _,λ_ b h=>xK _ _ b h⟩;simp[execOp,f,Instr.box,newVar,newRow]
def QnE(h:Jl P L){t:TypeId}(f:o.op=.alloc t){y:Ty}(e:ty L t=some y):j8 P base nt o s (s.h++[⟨.one,0,(y.zero.map Km).length,1,λ_=>y.zero.map Km⟩]) (.ptr s.h.length 0 0 0):=by
 intro Z p a w r d;obtain⟨z,hz,m⟩:=(h _ _ e).zeroValue;obtain⟨l,k,j⟩:=Qcu r d t z (y.zero.map Km) (by rw[<- hz];simp) (λi c=>by
  rw[<- hz]at c ⊢;have n:i<z.cells.size:=by simpa using c
  refine .cl _ _ ?_;simp only[nth,Q5,Q7,KX,wv,jV n,KA,Vn];exact Dz _ _ _)
 refine⟨_,_,_,.inl ?_,l,k,j,Fj d _,λ_ b g=>xK _ _ b g⟩;simp[execOp,f,Instr.alloc,newVar,newRow,m]
end
variable {Z:Nat->Prop}
def SG(h:List Ob):D->Option (Prop × Nat × Nat × (Nat->List D))
 | .ref l g a n=>match h[l]? with
  | some o=>some (g=o.gen/\a+n<=o.n,n,o.sz,λk=>o.row (a+k))
  | none=>none
 | .imm c n b=>some (True,n,c,b)
 | _=>none
structure Src (Z:Nat->Prop) (h:List Ob) (pl:List Pl) (w:World) (v:Value) (n sz:Nat) (rows:Nat->List D) (a:Option Addr) (cap:Nat) (vs:Nat->Nat->Value):Prop where
 v:v=.slice a n cap
 len:∀i,i<n->(rows i).length=sz
 cell:∀i j,i<n->j<sz->∃b q,a=some ⟨b,q,none⟩/\w.cell? ⟨b,q+(i*sz+j),none⟩=some (vs i j)
 rel:∀i j,i<n->j<sz->QF Z h pl w (nth (rows i) j) (vs i j)
def oA{x}{h}{B}{w}(R:Zo Z x h B w){d}{v}(r:QF Z h B w d v){p}{n sz}{rows}(e:SG h d=some (p,n,sz,rows))(I:p):∃a m z,Src Z h B w v n sz rows a m z:=by
 unfold SG at e;split at e
 .rename_i l g f k;split at e
  .rename_i o J;simp only[Q4,Zh]at e;obtain⟨rfl,rfl,rfl,rfl⟩:=e;obtain⟨o',p',a,m,y,L,W,S,Y,V⟩:=Fh r;rw[J]at L;cases L;have hn:=I.2;rcases V I.1 with ⟨Q,h2⟩|⟨b,q,c,el,T,F,K,E,P⟩
   .subst Q;exact⟨a,m,λ_ _=>Go.undef,y,λi s=>ω,λi j s=>ω,λi j s=>ω⟩
   .subst T;obtain⟨Q6,N⟩:=R.at_ l o b q J W;obtain⟨c',cT,M,J2,U,ZN⟩:=N.cells S;rw[K]at M;cases M;refine⟨a,m,λi j=>(c[q+((f+i)*o.sz+j)]?).getD Go.undef,y,λi s=>U _ ω,λi j s t=>?_,λi j s t=>?_⟩
    .obtain⟨u,C,H⟩:=ZN (f+i) j ω t;refine⟨b,q+f*o.sz,F,?_⟩;rw[cell_of_row w b _ c el (0,0) K,show q+f*o.sz+(i*o.sz+j)=q+((f+i)*o.sz+j) by rw[Kh];omega,C];rfl
    .obtain⟨u,C,H⟩:=ZN (f+i) j ω t;simp only[C,Vn];exact H
  .cases e
 .simp only[Q4,Zh]at e;obtain⟨rfl,rfl,rfl,rfl⟩:=e;obtain⟨a,m,b,q,z,y,F,P,O,E⟩:=SB r;exact⟨a,m,z,y,O,λi j s t=>⟨b,q,F ω,(E i j s t).1.2⟩,λi j s t=>.cl _ _ (E i j s t).2⟩
 .cases e
def flat(n a:Nat)(b:Nat->Nat->Value):List Value:=(List.range (n*a)).map λk=>b (k / a) (k % a)
def zH(n a)(b:Nat->Nat->Value):(flat n a b).length=n*a:=by simp[flat]
def G3{n a}{vs}{i j}(c:i<n)(b:j<a):(flat n a vs)[i*a+j]? = some (vs i j):=by
 have f:i*a+j<n*a:=by have:=Vm a (show i+1<=n from c);rw[Kh]at this;omega
 have e:(i*a+j) / a=i:=by rw[E6,Nat.mul_add_div ω,Nat.div_eq_of_lt b];rfl
 have d:(i*a+j) % a=j:=by rw[E6,Nat.mul_add_mod,jq b]
 simp[flat,f,e,d]
def div_lt{n sz k:Nat}(h:k<n*sz):k / sz<n/\k % sz<sz/\k / sz*sz+k % sz=k:=by
 have a:0<sz:=Nat.pos_of_ne_zero (λe=>by subst e;simp at h);exact⟨Nat.div_lt_of_lt_mul (by rw[E6];exact h),YI _ a,by rw[E6];exact NV k sz⟩
def Src.first{P}{h}{p}{w:World}{v}{n c}{e}{a}{d}{o}(S:Src Z h p w v n c e a d o)(f:World)(r:f.heap=w.heap):
  (Builtin.firstCells c n v).run P f=.ok (flat n c o).toArray f:=by
 rw[S.v];cases a with
 | none=>
  have:n*c=0:=by
   by_cases h:n*c=0
   .exact h
   .obtain⟨i,g,_⟩:=div_lt (n:=n) (sz:=c) (k:=0) ω;obtain⟨b,q,l,_⟩:=S.cell _ _ i g;cases l
  simp[Builtin.firstCells,flat,this]
 | some x=>
  refine run_firstCells_some f c n x n d _ (zH _ _ _) (λk u j=>?_);have s:k<n*c:=by have:=(Xa.1 j).1;rw[zH]at this;exact this
  obtain⟨i,g,m⟩:=div_lt s;obtain⟨b,q,l,t⟩:=S.cell _ _ i g;cases l;rw[<- m,G3 i g]at j;cases j;rw[AY,World.cell?_of_block (w:=w) (by rw[r]),<- m,t];simp only[m]
def oB(z:Array Value)(n:Nat):(Builtin.zeroCells z n).size=n*z.size:=by simp[Builtin.zeroCells]
def Qcv{P:Program}{t ty e:TypeId}{y:Ty}(I:P.underlying t=some (.slice e))(j:Xe P e y)(F:y.zero.length=y.size)(w:World)(b:Option Addr)(a d:Nat)(l:List Value)(c:Option Addr)(n r:Nat)(g:List Value)
  (m:∀h:World,h.heap=w.heap->(Builtin.firstCells y.size a (.slice b a d)).run P h=.ok l.toArray h) (N:∀h:World,h.heap=w.heap->(Builtin.firstCells y.size n (.slice c n r)).run P h=.ok g.toArray h)
  (L:d<a+n) (v:a+n<=4294967296) (E:y.bytes<=1024) :
  ∃o f,(Builtin.append_ #[t,t] ty #[.slice b a d,.slice c n r]).run P w=.ok (.slice (some ⟨w.heap.size,0,none⟩) (a+n) o) (w.drew.alloc (.cells (l.toArray++g.toArray++f) e)) /\
   a+n<=o/\f.size=(o - (a+n))*y.size:=by
 obtain⟨z,u,s⟩:=j.zeroValue;obtain⟨i,p,U,x⟩:=j.typeInfo w;refine⟨grownCap w (a+n) d e,Builtin.zeroCells z.cells (grownCap w (a+n) d e - (a+n)),?_,grownCap_ge _ _ _ _,by rw[oB];congr 1;rw[<- F,<- u];simp⟩;have M:∀w,(typeInfo e).run P w=.ok i w:=λw=>by
  obtain⟨Q,T,S,R⟩:=j.typeInfo w;have q:=j.info;cases hx:P.info? e with
  | none=>rw[hx]at q;cases q
  | some k=>
   simp[typeInfo,hx]at p ⊢;exact p
 have K:¬ (a+n<=d):=ω;have C:¬ (9223372036854775807<((a:Int)+(n:Int))):=ω;have O:Builtin.nextslicecap (a+n) d*y.bytes<=281474976710656:=growslice_fits L (by
  have:=X8 (show a+n<=4294967296 from v) E;omega)
 have B:¬ (281474976710656<Builtin.nextslicecap (a+n) d*i.bytes):=by rw[x];omega
 have J:=m w.drew rfl;have H:=N w.drew rfl;simp[Builtin.append_,run_underlying I,j.sizeOf,M,s,Builtin.lenOf,K,C,B,Question.forced,newRow,grownCap,J,H,askRoom,mark,Sem.run];rw[<- Array.append_assoc];simp
def QnF{P:Program}{t ty e:TypeId}{y}(j:P.underlying t=some (.slice e))(i:Xe P e y)(w)(b q d f)(c)(n h)(a)
  (l:(Builtin.firstCells y.size n (.slice c n h)).run P w=.ok a.toArray w) (k:d+n<=f) {g:World} (m:(storeCells ⟨b,q+d*y.size,none⟩ a).run P w=.ok () g) :
  (Builtin.append_ #[t,t] ty #[.slice (some ⟨b,q,none⟩) d f,.slice c n h]).run P w=.ok (.slice (some ⟨b,q,none⟩) (d+n) f) g:=by
 simp[Builtin.append_,run_underlying j,i.sizeOf,Builtin.lenOf,k,l,AY,m]
def Qcx{P:Program}{t ty e:TypeId}{y}(d:P.underlying t=some (.slice e))(a:Xe P e y)(w)(b)(c)(f):
  (Builtin.append_ #[t,t] ty #[.slice b 0 0,.slice c 0 f]).run P w=.ok (.slice b 0 0) w:=by
 cases b<;>cases c<;>simp[Builtin.append_,run_underlying d,a.sizeOf,Builtin.lenOf,Builtin.firstCells,loadCells,loadCellsFrom,storeCells]
def KB(a b:Nat)(d c:Nat->List D):Nat->List D:=λk=>bif Nat.blt k a then d (b+k) else c (k - a)
def A4{a b k}{c d}(h:k<a):KB a b c d k=c (b+k):=by
 have:Nat.blt k a=true:=by simpa[xH] using h
 simp[KB,this]
def xM{a b k}{d c}(h:a<=k):KB a b d c k=c (k - a):=by
 have:Nat.blt k a=false:=by rw[<- qk,xH];omega
 simp[KB,this]
def oE(y:Ty)(n:Nat):Prop:=n<=4294967296/\y.bytes<=1024/\y.zero.length=y.size
def DE(L:Jr)(h:List Ob)(t:TypeId)(s x:D):Option (Prop × List Ob × D):=
 match ty L t,SG h x with
 | some ⟨.slice e,_,_,_⟩,some (f,n,d,a)=>match ty L e,s with
  | some y,.nil=>some (f/\d=y.size/\oE y n/\(∀k,k<n->(a k).all D.VI=true),h++[⟨.arr,0,y.size,n,a⟩],.ref h.length 0 0 n)
  | some y,.ref l g c b=>match h[l]? with
   | some o=>some (f/\g=o.gen/\c+b=o.n/\o.sz=y.size/\d=y.size/\oE y (b+n)/\(∀k,k<n->(a k).all D.VI=true)/\o.kd.ro=false,h.set l ⟨.arr,o.gen+1,y.size,b+n,KB b c o.row a⟩,.ref l (o.gen+1) 0 (b+n))
   | none=>none
  | _,_=>none
 | _,_=>none
def Tr.Fk{j:Nat}{h:List Ob}{g:List Pl}{w u:World}(R:Zo Z j h g w){l:Nat}{o o':Ob}{p p':Pl}(n:h[l]? = some o)(m:g[l]? = some p)(I:o'.kd.ty=o.kd.ty)(K:o.gen<o'.gen)
  (e:∀k,k<w.heap.size->(∀q,p≠some (k,q))->u.heap[k]? = w.heap[k]?) (H:∀b q,p'=some (b,q)->(∃s,p=some (b,s))\/w.heap.size<=b):Tr h g w (h.set l o') (g.set l p') u where
 Kl:=λk x Qc=>by
  have B:∀q,p≠some (k,q):=λq t=>x l q (by rw[m,t]);refine⟨λd q i=>?_,e k Qc B⟩;by_cases a:l=d
  .subst a;have:(g.set l p')[l]? = some p':=by simp[WR m]
   rw[this]at i;simp only[Q4]at i;rcases H k q i with ⟨s,h1⟩|h1
   .exact B s h1
   .omega
  .rw[JZ a]at i;exact x d q i
 obj:=λd v E f r=>by
  by_cases a:l=d
  .subst a;rw[n]at f;cases f;exact⟨o',p',by simp[KY n],by simp[WR m],ω,I,λh=>ω⟩
  .exact⟨v,E,by rw[JZ a];exact f,by rw[JZ a];exact r,Qs _,rfl,λ_=>⟨rfl,rfl⟩⟩
 shape:=λd v J y C f z L r c el F=>by
  by_cases a:l=d
  .subst a;rw[n]at f;cases f;have:(h.set l o')[l]? = some o':=by simp[KY n]
   rw[this]at z;cases z;omega
  .refine⟨c,?_,rfl⟩;rw[e y (R.lt r).1 (λq t=>a (R.inj l d y q C (by rw[m,t]) r))];exact F
def Zo.Fk{f:Nat}{h:List Ob}{r:List Pl}{w z:World}(R:Zo Z f h r w){l:Nat}{o o':Ob}{p:Pl}(K:h[l]? = some o)(F:r[l]? = some p)(S:o.kd.ty=0)(M:o'.kd.ty=0)(U:o.gen<o'.gen)
  (e:∀k,k<w.heap.size->(∀q,p≠some (k,q))->z.heap[k]? = w.heap[k]?) {n t:Nat} (N:(∃s,p=some (n,s))\/w.heap.size<=n) (Q6:f<=n) {c:Array Value} {L:TypeId} (V:z.heap[n]? = some (.cells c L (0,0)))
  (JQ:t+o'.n*o'.sz<=c.size) (Kx:∀i,i<o'.n->(o'.row i).length=o'.sz)
  (Y:∀i j,i<o'.n->j<o'.sz->∃v,c[t+(i*o'.sz+j)]? = some v/\QF Z (h.set l o') (r.set l (some (n,t))) z (nth (o'.row i) j) v):Zo Z f (h.set l o') (r.set l (some (n,t))) z:=by
 have T:Tr h r w (h.set l o') (r.set l (some (n,t))) z:=Tr.Fk R K F (by rw[S,M]) U e (λb q B=>by simp at B;obtain⟨rfl,rfl⟩:=B;exact N);have C:(r.set l (some (n,t)))[l]? = some (some (n,t)):=by simp[WR F]
 have g:∀(d b q:Nat),l≠d->r[d]? = some (some (b,q))->b≠n:=by
  intro d b q Q a Yt;subst Yt;rcases N with ⟨s,h2⟩|h2
  .exact Q (R.inj l d b s q (by rw[F,h2]) a)
  .have:=(R.lt a).1;omega
 refine⟨by simp[R.len],?_,?_,?_⟩
 .intro d E b J I a h2;by_cases m:l=d
  .subst m;rw[C]at a;simp only[Q4,Zh]at a;by_cases y:l=E
   .exact y
   .rw[JZ y]at h2;exact absurd a.1.symm (g E b I y h2)
  .rw[JZ m]at a;by_cases y:l=E
   .subst y;rw[C]at h2;simp only[Q4,Zh]at h2;exact absurd h2.1.symm (g d b J m a)
   .rw[JZ y]at h2;exact R.inj d E b J I a h2
 .intro d H u a;by_cases m:l=d
  .subst m;rw[C]at a;cases a
  .rw[JZ m]at a u;exact R.VX d H u a
 .intro d H b q u a;by_cases m:l=d
  .subst m;rw[C]at a;simp only[Q4,Zh]at a;obtain⟨rfl,rfl⟩:=a;have:(h.set l o')[l]? = some o':=by simp[KY K]
   rw[this]at u;cases u;exact⟨λ_=>Q6,.N7 M ⟨c,L,V,JQ,Kx,Y⟩⟩
  .rw[JZ m]at a u;obtain⟨W,x⟩:=R.at_ d H b q u a;have QE:∀s,p≠some (b,s):=λs P=>m (R.inj l d b s q (by rw[F,P]) a);exact⟨W,x.to rfl rfl rfl (e b (R.lt a).1 QE) (λ_ _=>rfl) λi j v _ _ O=>O.tr T⟩
section
variable {P:Program}{L:Jr}{base nt:Nat}{s:St}{o:Oper}
def QnG(J:Jl P L){t:TypeId}{l x}(E:o.op=.call ⟨.builtin .append,#[l,x],#[t,t]⟩)(ju:Qp s.fr l=.nil){p}{K}{d}(h:DE L s.h t .nil (Qp s.fr x)=some (p,K,d))(hp:p):Lu P base nt o s K d:=by
 intro Z k a w r V;have R:=r.eval l;have Fl:=r.eval x;rw[ju]at R;unfold DE at h;split at h
 .rename_i e _ _ _ px n sz c he oF;cases u:ty L e with
  | none=>rw[u]at h;cases h
  | some y=>
   rw[u]at h;simp only[Q4,Zh]at h;obtain⟨rfl,rfl,rfl⟩:=h;obtain⟨oG,rfl,⟨vp,j9,G4⟩,cV⟩:=hp;have B:=J _ _ u;have C:=yM (J _ _ he) rfl;obtain⟨m,U⟩:=Ff R;obtain⟨N,Y,g,S⟩:=oA r.o Fl oF oG;have O:k.length=s.h.length:=r.o.len;by_cases hn:n=0
   .subst hn;have T:Tr s.h k w (s.h++[⟨.arr,0,y.size,0,c⟩]) (k++[none]) w:=Tr.push r.o (λ_ _=>rfl) _ _ (by intro b q e;cases e);refine⟨_,w,k++[none],.inl ?_,T,r.o.Dx _ rfl,.ref _ _ _ _ ⟨.arr,0,y.size,0,c⟩ none m 0 σ (by rw[<- O];simp) rfl (Qs _) (λ_=>.inl ⟨rfl,rfl⟩),Below.refl _ _⟩;rw[vn E];simp[builtin,U,S.v,Qcx C B]
   .obtain⟨v,f,Q,Ce,A5⟩:=Qcv (ty:=o.type) C B G4 w m 0 0 [] N n Y (flat n y.size g) (λz _=>by cases m<;>simp[Builtin.firstCells,loadCells,loadCellsFrom]) (λz hw=>by rw[<- S.v];exact S.first z hw) ω ω j9;simp only[JM,Array.empty_append]at Q Ce A5;have M:∀b,b<w.heap.size->(w.drew.alloc (.cells ((flat n y.size g).toArray++f) e)).heap[b]? = w.heap[b]? := λb hb=>xK w.drew _ b hb;have W:(w.drew.alloc (.cells ((flat n y.size g).toArray++f) e)).heap[w.heap.size]? = some (.cells ((flat n y.size g).toArray++f) e (0,0)):=heap_alloc_new w.drew _;have T:Tr s.h k w (s.h++[⟨.arr,0,y.size,n,c⟩]) (k++[some (w.heap.size,0)]) (w.drew.alloc (.cells ((flat n y.size g).toArray++f) e)):=Tr.push r.o M _ _ (by intro b q h;simp at h;omega);refine⟨.slice (some ⟨w.heap.size,0,none⟩) n v,_,_,.inl ?_,T,Zo.push r.o M _ rfl (Qs _) V W (by simp[zH]) S.len (λi j H F=>⟨g i j,?_,(S.rel i j H F).tr T⟩),.ref _ _ _ _ ⟨.arr,0,y.size,n,c⟩ (some (w.heap.size,0)) _ v σ (by rw[<- O];simp) rfl (Qs _) (λ_=>.inr ⟨w.heap.size,0,_,e,rfl,σ,W,?_,Ce⟩),?_⟩
    .rw[vn E];have:(Array.map a.eval #[l,x])=#[.slice m 0 0,.slice N n Y]:=by simp[U,S.v]
     rw[this];simp only[builtin,Sem.run_bind,Q,Result.andThen_ok,Sem.run_pure]
    .have I:=G3 (vs:=g) H F;have Qc:=(Xa.1 I).1;rw[JM,NK (by simpa using Qc)];simpa using I
    .simp only[JM,Array.size_append,GQ,zH,A5];rw[<- Kh];exact Vm _ ω
    .exact((Below.refl base w).drew).alloc V _
 .cases h
def QnH(hL:Jl P L){t:TypeId}{x0 x}{l g m f}(ho:o.op=.call ⟨.builtin .append,#[x0,x],#[t,t]⟩)(ju:Qp s.fr x0=.ref l g m f){p}{h'}{d}(h:DE L s.h t (.ref l g m f) (Qp s.fr x)=some (p,h',d))(hp:p):Lu P base nt o s h' d:=by
 intro Z pl a w r KZ;have Wv:=r.eval x0;have Fl:=r.eval x;rw[ju]at Wv;unfold DE at h;split at h
 .rename_i e _ _ _ px n sz z he oF;cases WT:ty L e with
  | none=>rw[WT]at h;cases h
  | some y=>
   rw[WT]at h;dsimp only at h;split at h
   .rename_i B H;simp only[Q4,Zh]at h;obtain⟨rfl,rfl,rfl⟩:=h;obtain⟨oG,hg,Lx,a5,rfl,⟨vp,j9,G4⟩,cV,a3⟩:=hp;have hy:=hL _ _ WT;have ht:=yM (hL _ _ he) rfl;obtain⟨o',p',U,O,Of,ZU,F,W,vk,KP⟩:=Fh Wv;rw[H]at ZU;cases ZU;obtain⟨ax,G5,J,S⟩:=oA r.o Fl oF oG;have wF:(Array.map a.eval #[x0,x])=#[.slice U f O,.slice ax n G5]:=by simp[Of,S.v]
    have Y:∀{v:Value} {C:World},(Builtin.append_ #[t,t] o.type #[.slice U f O,.slice ax n G5]).run P w=.ok v C->(execOp a.eval o).run P w=.ok (.value v) C:=by
     intro v C Zl;rw[vn ho,wF];simp only[builtin,Sem.run_bind,Zl,Result.andThen_ok,Sem.run_pure]
    have Q:∀(K:Nat->Nat->Value) (a1:∀C:World,C.heap=w.heap->(Builtin.firstCells y.size f (.slice U f O)).run P C=.ok (flat f y.size K).toArray C)
      (a2:∀i,i<f->(B.row (m+i)).length=y.size) (cW:∀i j,i<f->j<y.size->QF Z s.h pl w (nth (B.row (m+i)) j) (K i j)),O<f+n ->
      ∃v C Qk,((execOp a.eval o).run P w=.ok (.value v) C\/((execOp a.eval o).run P w=.ok .skip C/\v=Go.undef))/\Tr s.h pl w (s.h.set l ⟨.arr,B.gen+1,y.size,f+n,KB f m B.row z⟩) Qk C /\
       Zo Z base (s.h.set l ⟨.arr,B.gen+1,y.size,f+n,KB f m B.row z⟩) Qk C/\QF Z (s.h.set l ⟨.arr,B.gen+1,y.size,f+n,KB f m B.row z⟩) Qk C (.ref l (B.gen+1) 0 (f+n)) v/\Below base w C:=by
     intro K a1 a2 cW Qc;obtain⟨wE,I,Zl,Ce,A5⟩:=Qcv (ty:=o.type) ht hy G4 w U f O (flat f y.size K) ax n G5 (flat n y.size J) a1 (λC hw=>by rw[<- S.v];exact S.first C hw) Qc vp j9;have e1:∀b,b<w.heap.size->(w.drew.alloc (.cells ((flat f y.size K).toArray++(flat n y.size J).toArray++I) e)).heap[b]? = w.heap[b]? := λb hb=>xK w.drew _ b hb;have JN:(w.drew.alloc (.cells ((flat f y.size K).toArray++(flat n y.size J).toArray++I) e)).heap[w.heap.size]? = some (.cells ((flat f y.size K).toArray++(flat n y.size J).toArray++I) e (0,0)):=heap_alloc_new w.drew _;have T:=Tr.Fk (o':=⟨.arr,B.gen+1,y.size,f+n,KB f m B.row z⟩) (p':=some (w.heap.size,0)) r.o H F W.symm (E0 _) (λk N _=>e1 k N) (by intro b q h;simp at h;exact .inr ω);refine⟨_,_,_,.inl (Y Zl),T,Zo.Fk r.o H F W rfl (E0 _) (λk N _=>e1 k N) (.inr (Qs _)) KZ JN ?_ (λi E=>?_) (λi j E V=>?_),.ref _ _ _ _ ⟨.arr,B.gen+1,y.size,f+n,KB f m B.row z⟩ (some (w.heap.size,0)) _ wE (by simp[KY H]) (by simp[WR F]) rfl (Qs _) (λ_=>.inr ⟨w.heap.size,0,_,e,rfl,σ,JN,?_,Ce⟩),((Below.refl base w).drew).alloc KZ _⟩
     .simp[zH,Kh]
     .by_cases M:i<f
      .show (KB f m B.row z i).length=_;rw[A4 M];exact a2 i M
      .show (KB f m B.row z i).length=_;rw[xM ω];exact S.len _ (by have:i<f+n:=E;omega)
     .have WU:j<y.size:=V;have JR:i<f+n:=E;show ∃v,((flat f y.size K).toArray++(flat n y.size J).toArray++I)[0+(i*y.size+j)]? = some v/\QF _ _ _ _ (nth (KB f m B.row z i) j) v;by_cases M:i<f
      .rw[A4 M];refine⟨K i j,?_,(cW i j M WU).tr T⟩;have G6:=G3 (vs:=K) M WU;have SH:=(Xa.1 G6).1;rw[JM,NK ξ,NK (by simpa using SH)];simpa using G6
      .rw[xM ω];refine⟨J (i - f) j,?_,(S.rel (i - f) j ω WU).tr T⟩;have G6:=G3 (vs:=J) (show i - f<n from ω) WU;have SH:=(Xa.1 G6).1;have e2:i*y.size+j - (flat f y.size K).length=(i - f)*y.size+j:=by
        rw[zH];have:i=(i - f)+f:=ω
        conv=>lhs;rw[this,Kh]
        omega
       have e3:(flat f y.size K).length<=i*y.size+j:=by
        rw[zH];have:=Vm y.size (show f<=i from ω);omega
       rw[JM,NK ξ,Array.getElem?_append_right (by simpa using e3)];simp only[GQ];rw[e2];simpa using G6
     .simp only[JM,Array.size_append,GQ,zH,A5];rw[<- Kh,<- Kh];exact Vm _ ω
    rcases KP hg with ⟨R,h2⟩|⟨b,q,c,el,VW,kb,hb,J2,DC⟩
    .subst R;subst h2;by_cases hn:n=0
     .subst hn;have Zl:=Qcx (ty:=o.type) ht hy w U ax G5;cases cX:p' with
      | none=>
       subst cX;have T:=Tr.Fk (o':=⟨.arr,B.gen+1,y.size,0+0,KB 0 m B.row z⟩) (p':=none) r.o H F W.symm (E0 _) (λk N _=>rfl) (by intro b q h;cases h);have jt:pl.set l none=pl:=by
        apply AO;intro i;by_cases E:l=i
        .subst E;rw[F];simp[WR F]
        .rw[JZ E]
       rw[jt]at T;refine⟨_,w,pl,.inl (Y Zl),T,?_,.ref _ _ _ _ ⟨.arr,B.gen+1,y.size,0+0,KB 0 m B.row z⟩ none U 0 (by simp[KY H]) F rfl (Qs _) (λ_=>.inl ⟨rfl,rfl⟩),Below.refl _ _⟩;refine⟨by simp[r.o.len],r.o.inj,λl1 o1 ZI R=>?_,λl1 o1 b q ZI R=>?_⟩
       .by_cases e1:l=l1
        .subst e1;rw[Xb (KY H)]at ZI;cases ZI;rfl
        .rw[JZ e1]at ZI;exact r.o.VX l1 o1 ZI R
       .by_cases e1:l=l1
        .subst e1;rw[F]at R;cases R
        .rw[JZ e1]at ZI;obtain⟨g1,x⟩:=r.o.at_ l1 o1 b q ZI R;exact⟨g1,x.to rfl rfl rfl rfl (λ_ _=>rfl) λi j v _ _ hr=>hr.tr T⟩
      | some bq=>
       obtain⟨b,q⟩:=bq;subst cX;obtain⟨g1,x⟩:=r.o.at_ l B b q H F;obtain⟨c,el,g2,g3,g4,g5⟩:=x.cells W;have T:=Tr.Fk (o':=⟨.arr,B.gen+1,y.size,0+0,KB 0 m B.row z⟩) (p':=some (b,q)) r.o H F W.symm (E0 _) (λk N _=>rfl) (by intro b1 q1 h;simp at h;exact .inl ⟨q,by rw[h.1]⟩);exact⟨_,w,_,.inl (Y Zl),T,Zo.Fk r.o H F W rfl (E0 _) (λk N _=>rfl) (.inl ⟨q,rfl⟩) (g1 a3) g2 ξ (λi E=>by simp at E) (λi j E=>by simp at E),
        .ref _ _ _ _ ⟨.arr,B.gen+1,y.size,0+0,KB 0 m B.row z⟩ (some (b,q)) U 0 (by simp[KY H]) (by simp[WR F]) rfl (Qs _) (λ_=>.inl ⟨rfl,rfl⟩),Below.refl _ _⟩
     .exact Q (λ_ _=>Go.undef) (λC _=>by cases U<;>simp[Builtin.firstCells,loadCells,loadCellsFrom,flat]) (λi E=>ω) (λi j E=>ω) ω
    .subst VW;obtain⟨Q6,x⟩:=r.o.at_ l B b q H F;have Q6:=Q6 a3;obtain⟨c',cT,Va,Lw,Kx,ZN⟩:=x.cells W;rw[hb]at Va;cases Va;rw[a5]at J2 Lw Kx ZN kb;by_cases cU:f+n<=O
     ·
      have G7:q+m*y.size+f*y.size+n*y.size<=c.size:=by
       have R:=Vm y.size (show m+(f+n)<=m+O from ω);simp only[Kh]at R J2;omega
      obtain⟨C,c',g1,g2,g3,g4,g5,g6,g7,g8,g9⟩:=cQ (P:=P) b el (flat n y.size J) 0 (q+m*y.size+f*y.size) w c hb (by simp[zH];omega) (λk N=>by
       rw[zH]at N;obtain⟨k1,k2,k3⟩:=div_lt N;have hg:=G3 (vs:=J) k1 k2;rw[k3]at hg;have:Q5 (flat n y.size J) k=J (k / y.size) (k % y.size):=by simp[Q5,Q7,hg]
       rw[this];refine ov (S.rel _ _ k1 k2) ?_;have h2:=cV _ k1;rw[jo]at h2;refine h2 _ ?_;have h3:k % y.size<(z (k / y.size)).length:=by rw[S.len _ k1];exact k2
       simp only[nth,Q7,QT h3,Vn];exact zF h3)
      subst kb;have Zl:=QnF (ty:=o.type) ht hy w b (q+m*y.size) f O ax n G5 (flat n y.size J) (by rw[<- S.v];exact S.first w rfl) cU g1;have he:∀k,k<w.heap.size->(∀q1,(some (b,q):Pl)≠some (k,q1))->C.heap[k]? = w.heap[k]? := λk _ N=>g5 k (λa4=>N q (by rw[a4]));have T:=Tr.Fk (o':=⟨.arr,B.gen+1,y.size,f+n,KB f m B.row z⟩) (p':=some (b,q+m*y.size)) r.o H F W.symm (E0 _) he (by intro b1 q1 h;simp at h;exact .inl ⟨q,by rw[h.1]⟩);refine⟨_,C,_,.inl (Y Zl),T,Zo.Fk r.o H F W rfl (E0 _) he (.inl ⟨q,rfl⟩) Q6 g2 ?_ (λi E=>?_) (λi j E V=>?_),.ref _ _ _ _ ⟨.arr,B.gen+1,y.size,f+n,KB f m B.row z⟩ (some (b,q+m*y.size)) _ O (by simp[KY H]) (by simp[WR F]) rfl (Qs _) (λ_=>.inr ⟨b,q+m*y.size,c',el,rfl,σ,g2,?_,cU⟩),Od Q6 g5 g6 g7 g8 g9⟩
      .rw[g3];simp only[Kh];omega
      .by_cases M:i<f
       .show (KB f m B.row z i).length=_;rw[A4 M];exact Kx _ ω
       .show (KB f m B.row z i).length=_;rw[xM ω];exact S.len _ (by have:i<f+n:=E;omega)
      .have WU:j<y.size:=V;have JR:i<f+n:=E;show ∃v,c'[q+m*y.size+(i*y.size+j)]? = some v/\QF _ _ _ _ (nth (KB f m B.row z i) j) v;rw[g4];simp only[zH,xG];by_cases M:i<f
       .rw[A4 M,Qe]
        .obtain⟨v,hv,hr⟩:=ZN (m+i) j ω WU;refine⟨v,?_,hr.tr T⟩;rw[<- hv];congr 1;rw[Kh];omega
        .have:=Vm y.size (show i+1<=f from M);rw[Kh]at this;omega
       .have R:=Vm y.size (show f<=i from ω);have h2:i*y.size=(i - f)*y.size+f*y.size:=by rw[<- Kh];congr 1;omega
        have h3:=Vm y.size (show (i - f)+1<=n from ω);rw[Kh]at h3;rw[xM ω,Qf ω];refine⟨J (i - f) j,?_,(S.rel (i - f) j ω WU).tr T⟩;rw[show q+m*y.size+(i*y.size+j) - (q+m*y.size+f*y.size)=(i - f)*y.size+j by omega];exact G3 ω WU
      .rw[g3];simp only[JM,Kh]at J2 ⊢;omega
     .refine Q (λi j=>(c[q+((m+i)*y.size+j)]?).getD Go.undef) (λC hw=>?_) (λi E=>Kx _ ω) (λi j E V=>?_) ω
      .have S0:Src Z s.h pl w (.slice U f O) f y.size (λk=>B.row (m+k)) U O (λi j=>(c[q+((m+i)*y.size+j)]?).getD Go.undef):=by
        refine⟨rfl,λi E=>Kx _ ω,λi j E V=>⟨b,q+m*y.size,kb,?_⟩,λi j E V=>?_⟩
        .obtain⟨u,hu,hr⟩:=ZN (m+i) j ω V;rw[cell_of_row w b _ c el (0,0) hb,show q+m*y.size+(i*y.size+j)=q+((m+i)*y.size+j) by rw[Kh];omega,hu];rfl
        .obtain⟨u,hu,hr⟩:=ZN (m+i) j ω V;simp only[hu,Vn];exact hr
       exact S0.first C hw
      .obtain⟨u,hu,hr⟩:=ZN (m+i) j ω V;simp only[hu,Vn];exact hr
   .cases h
 .cases h
def QnK(g:Jl P L){t:TypeId}{a x}(b:o.op=.call ⟨.builtin .append,#[a,x],#[t,t]⟩)(e:Qp s.fr a=.nil){p}{c}{d}(h:DE L s.h t .nil (Qp s.fr x)=some (p,c,d))(f:p):j8 P base nt o s c d:=
 (QnG g b e h f).up (by simp[calm,b])
def QnL(k:Jl P L){t:TypeId}{c x}{l g a b}(e:o.op=.call ⟨.builtin .append,#[c,x],#[t,t]⟩)(i:Qp s.fr c=.ref l g a b){p}{f}{d}(h:DE L s.h t (.ref l g a b) (Qp s.fr x)=some (p,f,d))(j:p):j8 P base nt o s f d:=
 (QnH k e i h j).up (by simp[calm,e])
end
variable {Z:Nat->Prop}
def A7(Z:Nat->Prop)(h:List Ob)(c:List Pl)(w:World)(a:List D)(b:Array Value):Prop:=b.size=a.length/\∀i,i<a.length->QF Z h c w (nth a i) (Q5 b.toList i)
def Qcz(a):∀(l:List Value) (n:Nat) (c:Array Value),((l.zipIdx n).foldl (λ(d:Array Value) (x:Value × Nat)=>d.setIfInBounds (a+x.2) x.1) c).size=c.size /\
  ∀k,(((l.zipIdx n).foldl (λ(d:Array Value) (x:Value × Nat)=>d.setIfInBounds (a+x.2) x.1) c)[k]?)=if a+n<=k/\k<a+n+l.length/\k<c.size then l[k - (a+n)]? else c[k]?
 | [],n,c=>⟨rfl,λk=>by rw[Qe ξ];rfl⟩
 | v::l,n,c=>by
  obtain⟨h,g⟩:=Qcz a l (n+1) (c.setIfInBounds (a+n) v);simp only[List.zipIdx_cons,xE];refine⟨by rw[h];simp,λk=>?_⟩;rw[g k];simp only[Array.size_setIfInBounds,VQ];by_cases f:k=a+n
  .subst f;rw[Qe ω,Array.getElem?_setIfInBounds_self];by_cases b:a+n<c.size
   .rw[Qf b,Qf ⟨ω,ω,b⟩];simp
   .rw[Qe b,Qe ω];simp;omega
  .rw[nQ ω];by_cases e:a+n<=k/\k<a+n+(l.length+1)/\k<c.size
   .rw[Qf e,Qf ω];obtain⟨m,rfl⟩:∃m,k=a+n+(m+1):=⟨k - (a+n) - 1,ω⟩;rw[show a+n+(m+1) - (a+(n+1))=m by omega,show a+n+(m+1) - (a+n)=m+1 by omega];simp
   .rw[Qe e,Qe ω]
def QnM(a)(v:Array Value)(c):v.zipIdx.foldl (λ(b:Array Value) (x:Value × Nat)=>b.setIfInBounds (a+x.2) x.1) c=(v.toList.zipIdx 0).foldl (λ(b:Array Value) (x:Value × Nat)=>b.setIfInBounds (a+x.2) x.1) c:=by
 rw[<- Array.foldl_toList,Array.toList_zipIdx]
def A7.Cd{h}{j}{w}{b f:List D}{c d}{a}(r:A7 Z h j w b c)(q:A7 Z h j w f d)(k:a+f.length<=b.length):
  A7 Z h j w (Cd b a f) (d.zipIdx.foldl (λ(b:Array Value) (x:Value × Nat)=>b.setIfInBounds (a+x.2) x.1) c):=by
 obtain⟨n,m⟩:=Qcz a d.toList 0 c;rw[QnM];refine⟨by rw[n,r.1,cR k],λi l=>?_⟩;rw[cR k]at l;rw[Qcq k];have e:Q5 (List.foldl (λ(b:Array Value) (x:Value × Nat)=>b.setIfInBounds (a+x.2) x.1) c (d.toList.zipIdx 0)).toList i=if a<=i/\i<a+f.length then Q5 d.toList (i - a) else Q5 c.toList i:=by
  simp only[Q5,Q7,wv,m i,xG,Array.length_toList,q.1,r.1];by_cases g:a<=i/\i<a+f.length
  .rw[Qf ⟨g.1,g.2,l⟩,Qf g]
  .rw[Qe ω,Qe g]
 rw[e];split
 .exact q.2 _ ω
 .exact r.2 _ l
def yO(b:Nat->Option (Nat × Nat))(a:List D):List (Nat × Option (List D))->Option (List D)
 | []=>some a
 | (i,some f)::e=>match b i with
  | some (c,d)=>bif Nat.beq f.length d&&Nat.ble (c+f.length) a.length then yO b (Cd a c f) e else none
  | none=>none
 | (_,none)::_=>none
def SI{h:List Ob}{pl:List Pl}{w:World}(b:Nat->Option (Nat × Nat))(f:Operand->D)(a:Act)(m:∀x,QF Z h pl w (f x) (a.eval x)):∀(parts:List (Nat × Operand)) (c j:List D) (e:Array Value),A7 Z h pl w c e ->
  yO b c (parts.map λx=>(x.1,Yu (f x.2)))=some j->∃g,Instr.fill b e (parts.map λx=>(x.1,a.eval x.2))=some g/\A7 Z h pl w j g
 | [],c,j,e,r,d=>by simp[yO]at d;subst d;exact⟨e,rfl,r⟩
 | (i,x)::parts,c,j,e,r,d=>by
  simp only[Jo]at d ⊢;cases l:Yu (f x) with
  | none=>rw[l]at d;simp[yO]at d
  | some z=>
   rw[l]at d;simp only[yO]at d;cases k:b i with
   | none=>rw[k]at d;cases d
   | some t=>
    obtain⟨B,p⟩:=t;rw[k]at d;obtain⟨o,d⟩:=j7 d;simp only[ZX,WG,Lk]at o;obtain⟨n,s⟩:=ox (m x) l;have q:A7 Z h pl w z (a.eval x).cells:=⟨n,λi u=>(s i u).1⟩;obtain⟨g,y,v⟩:=SI b f a m parts _ _ _ (r.Cd q o.2) d;refine⟨g,?_,v⟩;simp only[Instr.fill,k];rw[Qe (by simp only[n,r.1];simp;omega)];exact y
def oH{h}{pl}{w}{y:Ty}{z:Value}(a:z.cells.toList=y.zero):A7 Z h pl w (y.zero.map Km) z.cells:=by
 refine⟨by rw[<- a];simp,λi b=>?_⟩;rw[<- a]at b ⊢;have c:i<z.cells.size:=by simpa using b
 refine .cl _ _ ?_;simp only[nth,Q5,Q7,KX,wv,jV c,KA,Vn];exact Dz _ _ _
def Og(L:Jr):List (Nat × TypeId)->Option (List (Nat × Nat))
 | []=>some []
 | (a,u)::r=>match ty L u,Og L r with
  | some y,some b=>some ((a,y.size)::b)
  | _,_=>none
def QcA{P}{L}(d:Jl P L)(w):∀(b:List Field) (a:List (Nat × Nat)),Og L (b.map λf=>(f.offset,f.type))=some a->(b.mapM λf=>Prod.mk f.offset <$> sizeOf f.type).run P w=.ok a w
 | [],a,h=>by simp[Og]at h;subst h;simp
 | f::b,a,h=>by
  simp only[Jo,Og]at h;split at h
  .rename_i y c g e;simp only[Q4]at h;subst h;simp[List.mapM_cons,(d _ _ g).sizeOf,QcA d w b c e]
  .cases h
def cY(L:Jr)(d:List (Nat × D))(t:TypeId)(a:List (Nat × Operand)):Option D:=
 match ty L t with
 | some y=>match y.k with
  | .struct g=>match Og L g with
   | some f=>match yO (λi=>f[i]?) (y.zero.map Km) (a.map λx=>(x.1,Yu (Qp d x.2))) with
    | some b=>some (.agg b)
    | none=>none
   | none=>none
  | .array _ e=>match ty L e with
   | some c=>match yO (λi=>some (i*c.size,c.size)) (y.zero.map Km) (a.map λx=>(x.1,Yu (Qp d x.2))) with
    | some b=>some (.agg b)
    | none=>none
   | none=>none
  | _=>none
 | none=>none
section
variable {P:Program}{L:Jr}{base nt:Nat}{s:St}{o:Oper}
def A7.agg{h}{pl}{w}{b}{a}(r:A7 Z h pl w b a):QF Z h pl w (.agg b) (.agg a):=by
 have:=QF.agg (h:=h) (pl:=pl) (w:=w) b a.toList (by simpa using r.1) r.2;simpa using this
def QnO(i:Jl P L){t:TypeId}{b:Array (Nat × Operand)}(v:o.op=.build t b){d}(h:cY L s.fr t b.toList=some d):WJ P base nt o s d:=by
 intro Z u a w r;unfold cY at h;split at h
 .rename_i y M;have c:=i _ _ M;obtain⟨z,hz,m⟩:=c.zeroValue;split at h
  .rename_i O f;split at h
   .rename_i q C;split at h
    .rename_i H l;simp only[Q4]at h;subst h;obtain⟨g,F,E⟩:=Qck c f;obtain⟨B,k,j⟩:=SI (h:=s.h) (pl:=u) (w:=w) _ (Qp s.fr) a (λx=>r.eval x) b.toList _ _ _ (oH hz) l;refine⟨_,j.agg,λp _=>?_⟩;have I:=QcA i p g.toList q (by rw[E];exact C);have K:Instr.fill (λx=>q[x]?) z.cells (List.map (λx=>(x.fst,a.eval x.snd)) b.toList)=some B:=k;simp[execOp,v,Instr.build,m,run_underlying F,Array.mapM_eq_mapM_toList,I,K]
    .cases h
   .cases h
  .rename_i n e f;split at h
   .rename_i N J;split at h
    .rename_i H l;simp only[Q4]at h;subst h;obtain⟨B,k,j⟩:=SI (h:=s.h) (pl:=u) (w:=w) _ (Qp s.fr) a (λx=>r.eval x) b.toList _ _ _ (oH hz) l;refine⟨_,j.agg,λp _=>?_⟩;simp[execOp,v,Instr.build,m,run_underlying (nZ c f),(i _ _ J).sizeOf,k]
    .cases h
   .cases h
  .cases h
 .cases h
def oJ{a b:List D}{i}(h:i<a.length):nth (a++b) i=nth a i:=by simp only[nth,Q7,JY h]
def oK{a b:List D}{i}(h:a.length<=i):nth (a++b) i=nth b (i - a.length):=by simp only[nth,Q7,Kw h]
def oL(n)(a:List D):(List.replicate n a).flatten.length=n*a.length:=σ
def QcB(a:List D):∀(n i:Nat),i<n*a.length->nth (List.replicate n a).flatten i=nth a (i % a.length)
 | 0,i,h=>by simp at h
 | n+1,i,h=>by
  rw[bO,List.flatten_cons];rw[Kh]at h;by_cases b:i<a.length
  .rw[oJ b,jq b]
  .rw[oK ω,QcB a n _ ω];congr 1;rw[Nat.mod_eq_sub_mod (by omega:a.length<=i)]
def Ch(b c:Nat)(a:List D):Nat->List D:=bif Nat.beq b 1 then λ_=>a else λk=>(a.drop (k*c)).take c
def cZ(L:Jr)(c:List (Nat × D))(h:List Ob)(t:TypeId)(a:Nat)(b:List (Nat × Operand)):Option (Prop × List Ob × D):=
 match ty L t with
 | some ⟨.slice e,_,_,_⟩=>match ty L e with
  | some y=>match yO (λi=>some (i*y.size,y.size)) (List.replicate a (y.zero.map Km)).flatten (b.map λx=>(x.1,Yu (Qp c x.2))) with
   | some d=>some (a*y.size<=16777216/\y.zero.length=y.size,h++[⟨.arr,0,y.size,a,Ch a y.size d⟩],.ref h.length 0 0 a)
   | none=>none
  | none=>none
 | _=>none
def QcC(b):∀(d:List (Nat × Option (List D))) (a c:List D),yO b a d=some c->c.length=a.length
 | [],a,c,h=>by simp[yO]at h;rw[h]
 | (i,none)::d,a,c,h=>by simp[yO]at h
 | (i,some f)::d,a,c,h=>by
  simp only[yO]at h;split at h
  .obtain⟨e,h⟩:=j7 h;simp only[ZX,WG,Lk]at e;rw[QcC b d _ _ h,cR e.2]
  .cases h
def QnP(W:Jl P L){t:TypeId}{c}{g:Array (Nat × Operand)}(V:o.op=.buildSlice t c g){p}{h'}{d}(h:cZ L s.fr s.h t c g.toList=some (p,h',d))(hp:p):j8 P base nt o s h' d:=by
 intro Z u a w r KZ;unfold cZ at h;split at h
 .rename_i e _ _ _ he;split at h
  .rename_i y Cc;split at h
   .rename_i m R;simp only[Q4,Zh]at h;obtain⟨rfl,rfl,rfl⟩:=h;obtain⟨a0,G4⟩:=hp;have N:=W _ _ Cc;obtain⟨z,hz,zI⟩:=N.zeroValue;have Fm:z.cells.size=y.size:=by rw[<- G4,<- hz];simp
    have U:=yM (W _ _ he) rfl;have zr:=oH (Z:=Z) (h:=s.h) (pl:=u) (w:=w) hz;have I:(y.zero.map Km).length=y.size:=by simp[G4]
    have l:m.length=c*y.size:=by rw[QcC _ _ _ _ R,oL,I]
    have E:∀zc:Array Value,(c*y.size=0->zc=#[])->(c*y.size≠0->zc=z.cells)->A7 Z s.h u w (List.replicate c (y.zero.map Km)).flatten ((Array.range (c*y.size)).map (zc[· % zc.size]!)):=by
     intro zc H n;refine⟨by rw[oL,I];simp,λi B=>?_⟩;rw[oL,I]at B;have QE:c*y.size≠0:=ω;have Fo:=n QE;subst Fo;have XI:0<y.size:=Nat.pos_of_ne_zero (λe=>QE (by rw[e];simp));rw[QcB _ _ _ (by rw[I];exact B),I];have C:=zr.2 (i % y.size) (by rw[I];exact YI _ XI);have Y:i % y.size<z.cells.size:=by rw[Fm];exact YI _ XI
     have:Q5 (Array.map (λx=>z.cells[x % z.cells.size]!) (Array.range (c*y.size))).toList i=Q5 z.cells.toList (i % y.size):=by
      simp only[Q5,Q7,wv,Array.getElem?_map,Array.getElem?_range,B,VB,KA,Vn,Fm];rw[getElem!_pos z.cells _ Y,jV Y];rfl
     rw[this];exact C
    have K:∀k:Array Value,A7 Z s.h u w m k->(execOp a.eval o).run P w=.ok (.value (.slice (some ⟨w.heap.size,0,none⟩) c c)) (w.alloc (.cells k e)) ->
      ∃v F Q,((execOp a.eval o).run P w=.ok (.value v) F\/((execOp a.eval o).run P w=.ok .skip F/\v=Go.undef))/\Tr s.h u w (s.h++[⟨.arr,0,y.size,c,Ch c y.size m⟩]) Q F /\
       Zo Z base (s.h++[⟨.arr,0,y.size,c,Ch c y.size m⟩]) Q F/\QF Z (s.h++[⟨.arr,0,y.size,c,Ch c y.size m⟩]) Q F (.ref s.h.length 0 0 c) v/\Below base w F/\(calm o=true->Ext w F):=by
     intro k M Zl;have J:∀b,b<w.heap.size->(w.alloc (.cells k e)).heap[b]? = w.heap[b]? := λb hb=>xK w _ b hb;have JN:(w.alloc (.cells k e)).heap[w.heap.size]? = some (.cells k e (0,0)):=heap_alloc_new w _;have Zn:u.length=s.h.length:=r.o.len;have T:Tr s.h u w (s.h++[⟨.arr,0,y.size,c,Ch c y.size m⟩]) (u++[some (w.heap.size,0)]) (w.alloc (.cells k e)):=Tr.push r.o J _ _ (by intro b q h;simp at h;omega);have ZN:∀i,i<c->(Ch c y.size m i).length=y.size/\∀j,j<y.size->nth (Ch c y.size m i) j=nth m (i*y.size+j):=by
      intro i B;unfold Ch;by_cases n:c=1
      .subst n;have:i=0:=ω;subst this;simp[l]
      .have:Nat.beq c 1=false:=by rw[<- qk,WG];exact n
       rw[this];have C:=Vm y.size (show i+1<=c from B);rw[Kh]at C;refine⟨by simp[l];omega,λj O=>?_⟩;simp only[js];rw[oe O,GZ]
     refine⟨_,_,_,.inl Zl,T,Zo.push r.o J _ rfl (Qs _) KZ JN (by simp[M.1,l]) (λi B=>(ZN i B).1) (λi j B O=>?_),.ref _ _ _ _ ⟨.arr,0,y.size,c,Ch c y.size m⟩ (some (w.heap.size,0)) _ c σ (by rw[<- Zn];simp) rfl (Qs _) (λ_=>.inr ⟨w.heap.size,0,k,e,rfl,σ,JN,by simp[M.1,l],Qs _⟩),Fj KZ _,λ_=>J⟩;have WU:j<y.size:=O;have JR:i<c:=B;have C:=Vm y.size (show i+1<=c from JR);rw[Kh]at C;have Qc:i*y.size+j<m.length:=ω;refine⟨Q5 k.toList (i*y.size+j),?_,?_⟩
     .have:i*y.size+j<k.size:=by rw[M.1];exact Qc
      simp only[JM,Q5,Q7,wv,jV this,Vn]
     .show QF _ _ _ _ (nth (Ch c y.size m i) j) _;rw[(ZN i JR).2 j WU];exact(M.2 _ Qc).tr T
    by_cases H:c*y.size=0
    .obtain⟨k,n,C⟩:=SI (h:=s.h) (pl:=u) (w:=w) _ (Qp s.fr) a (λx=>r.eval x) g.toList _ _ _ (E #[] (λ_=>rfl) (λh=>absurd H h)) R;rw[H]at n;have e0:Array.map (λx=>(#[]:Array Value)[x % (#[]:Array Value).size]!) (Array.range 0)=#[]:=σ;rw[e0]at n;have J:∀f:Nat->Value,Array.map f (Array.range 0)=#[]:=λf=>Array.eq_empty_of_size_eq_zero σ;refine K k C ?_;simp[execOp,V,Instr.buildSlice,run_underlying U,N.sizeOf,H,newRow,n,J]
    .obtain⟨k,n,C⟩:=SI (h:=s.h) (pl:=u) (w:=w) _ (Qp s.fr) a (λx=>r.eval x) g.toList _ _ _ (E z.cells (λh=>absurd h H) (λ_=>rfl)) R;refine K k C ?_;have S:¬ (16777216<c*y.size):=ω;simp[execOp,V,Instr.buildSlice,run_underlying U,N.sizeOf,zI,H,S,newRow,n]
   .cases h
  .cases h
 .cases h
end
variable {Z:Nat->Prop}
def vr(b:List (Nat × D))(a:Int):Option Operand->Option Int
 | none=>some a
 | some x=>match Qp b x with
  | .raw (.int _ i)=>some i
  | _=>none
def QcD{P:Program}(w:World){k:IntKind}{i:Int}{y:Nat}{c:BoundsCode}(b:0<=i)(a:i<=y):(Instr.sliceBound (.int k i) y c).run P w=.ok i.toNat w:=by
 simp[Instr.sliceBound,asIntOf,b,a]
def db{P:Program}{p F:Nat}{s:St}{E:List Pl}{a:Act}{C:World}(r:Rel Z p F s E a C)(w:World)(b:Bool)(e f:Nat)(t q:Option Operand){l u:Int}(y:vr s.fr 0 t=some l)(g:vr s.fr e q=some u)
  (J:0<=l) (L:l<=u) (K:u<=e) (N:e<=f):(Instr.sliceBounds b e f (t.map a.eval) (q.map a.eval) none).run P w=.ok (l.toNat,u.toNat,f) w:=by
 have get:∀(x:Operand) (d:Int) (i:Int),vr s.fr d (some x)=some i->∃k,a.eval x=.int k i:=by
  intro x d i h;have H:=r.eval x;simp only[vr]at h;generalize Qp s.fr x=M at *;split at h
  .rename_i k j;simp only[Q4]at h;subst h;exact⟨k,JJ H⟩
  .cases h
 have o:∀(v:Value) (m:Nat) (c:BoundsCode),(∃k,v=.int k u)->u<=m->(Instr.sliceBound v m c).run P w=.ok u.toNat w:=by
  rintro v m c ⟨k,rfl⟩ I;exact QcD w ω I
 have n:∀(v:Value) (c:BoundsCode),(∃k,v=.int k l)->(Instr.sliceBound v u.toNat c).run P w=.ok l.toNat w:=by
  rintro v c ⟨k,rfl⟩;exact QcD w J ω
 cases t with
 | none=>
  simp only[vr,Q4]at y;subst y;cases q with
  | none=>simp only[vr,Q4]at g;subst g;simp[Instr.sliceBounds]
  | some x=>
   have hx:=get x e u g;cases b<;>simp[Instr.sliceBounds,o _ f _ hx ω]
 | some z=>
  have hz:=get z 0 l y;cases q with
  | none=>
   simp only[vr,Q4]at g;have:u.toNat=e:=ω;have B:=λc=>n (a.eval z) c hz;rw[this]at B;simp[Instr.sliceBounds,B,this]
  | some x=>
   have hx:=get x e u g;cases b<;>simp[Instr.sliceBounds,o _ f _ hx ω,n _ _ hz]
def dc(L:Jr)(c:List (Nat × D))(h:List Ob)(t:TypeId)(d:D)(j k:Option Operand):Ev:=
 match ty L t with
 | some ⟨.slice e,_,_,_⟩=>match ty L e with
  | some y=>match d with
   | .ref l g p f=>match h[l]?,vr c 0 j,vr c f k with
    | some o,some a,some b=>some (g=o.gen/\o.sz=y.size/\0<=a/\a<=b/\b<=f,.ref l g (p+a.toNat) (b - a).toNat)
    | _,_,_=>none
   | .imm z n m=>match vr c 0 j,vr c n k with
    | some a,some b=>some (z=y.size/\0<=a/\a<=b/\b<=n,.imm z (b - a).toNat λi=>m (a.toNat+i))
    | _,_=>none
   | .nil=>match vr c 0 j,vr c 0 k with
    | some a,some b=>some (a=0/\b=0,.nil)
    | _,_=>none
   | _=>none
  | none=>none
 | some ⟨.str,_,_,_⟩=>match d with
  | .raw (.string s)=>match vr c 0 j,vr c s.size k with
   | some a,some b=>some (0<=a/\a<=b/\b<=s.size,.raw (.string (s.extract a.toNat b.toNat)))
   | _,_=>none
  | _=>none
 | _=>none
section
variable {P:Program}{L:Jr}{base nt:Nat}{s:St}{o:Oper}
def QnS(hL:Jl P L){t:TypeId}{x}{H m}(T:o.op=.slice t x H m none){p}{d}(h:dc L s.fr s.h t (Qp s.fr x) H m=some (p,d))(S:p):WJ P base nt o s d:=by
 intro Z pl a w r;have hx:=r.eval x;unfold dc at h;split at h
 .rename_i e _ _ _ he;have I:=yM (hL _ _ he) rfl;split at h
  .rename_i y Cc;have W:=hL _ _ Cc;generalize Qp s.fr x=dx at *;split at h
   .rename_i l g Q R;split at h
    .rename_i ob k N Zm E F;simp only[Q4,Zh]at h;obtain⟨rfl,rfl⟩:=h;obtain⟨hg,JQ,M,K,J⟩:=S;obtain⟨o',p',C,f,B,ZU,Jg,Z5,vk,KP⟩:=Fh hx;rw[Zm]at ZU;cases ZU;have DC:R<=f:=by
      rcases KP hg with ⟨h3,h4⟩|⟨_,_,_,_,_,_,_,_,h3⟩<;>omega
     refine⟨.slice (if f=k.toNat then C else C.map (·.add (k.toNat*y.size))) (N - k).toNat (f - k.toNat),?_,λv _=>?_⟩
     .refine .ref _ _ _ _ ob p' _ _ Zm Jg Z5 vk (λ_=>?_);rcases KP hg with ⟨h3,h4⟩|⟨b,q,c,el,VW,V,u,J2,h3⟩
      .exact .inl ⟨ω,ω⟩
      .by_cases U:f=k.toNat
       .exact .inl ⟨ω,ω⟩
       .refine .inr ⟨b,q,c,el,VW,?_,u,?_,ω⟩
        .rw[Qe U,V,KA,AY,JQ,Kh];simp only[Q4,Addr.mk.injEq,and_true,AT];omega
        .rw[show Q+k.toNat+(f - k.toNat)=Q+f by omega];exact J2
     .have u:=db (P:=P) r v true R f H m E F M K J DC;simp[execOp,T,Instr.sliceAt,run_underlying I,Instr.slice,B,u,W.sizeOf];omega
    .cases h
   .rename_i z n a0;split at h
    .rename_i k N E F;simp only[Q4,Zh]at h;obtain⟨rfl,rfl⟩:=h;obtain⟨rfl,M,K,J⟩:=S;obtain⟨C,f,b,q,vs,B,V,DC,hs,U⟩:=SB hx;refine⟨.slice (if f=k.toNat then C else C.map (·.add (k.toNat*y.size))) (N - k).toNat (f - k.toNat),.cl _ _ ?_,λv _=>?_⟩
     .refine .imm _ _ _ _ _ b (q+k.toNat*y.size) (λi j=>vs (k.toNat+i) j) (λXI=>?_) ω (λi m=>hs _ ω) (λi j m Y=>?_) (λi j m Y=>(U (k.toNat+i) j ω Y).2)
      .rw[Qe ω,V ω,KA,AY]
      .obtain⟨⟨g1,g2⟩,_⟩:=U (k.toNat+i) j ω Y;refine⟨g1,?_⟩;rw[<- g2];congr 2;rw[Kh];omega
     .have u:=db (P:=P) r v true n f H m E F M K J DC;simp[execOp,T,Instr.sliceAt,run_underlying I,Instr.slice,B,u,W.sizeOf];omega
    .cases h
   .split at h
    .rename_i k N E F;simp only[Q4,Zh]at h;obtain⟨rfl,rfl⟩:=h;obtain⟨rfl,rfl⟩:=S;obtain⟨C,B⟩:=Ff hx;refine⟨.slice C 0 0,.cl _ _ (.nil _),λv _=>?_⟩;have u:=db (P:=P) r v true 0 0 H m E F ω ω ω (Qs _);simp[execOp,T,Instr.sliceAt,run_underlying I,Instr.slice,B,u,W.sizeOf]
    .cases h
   .cases h
  .cases h
 .rename_i he;have I:=SA (hL _ _ he) rfl;generalize Qp s.fr x=dx at *;split at h
  .rename_i O;split at h
   .rename_i k N E F;simp only[Q4,Zh]at h;obtain⟨rfl,rfl⟩:=h;obtain⟨M,K,J⟩:=S;have B:=JJ hx;refine⟨_,.cl _ _ (.raw _),λv _=>?_⟩;have u:=db (P:=P) r v false O.size O.size H m E F M K J (Qs _);simp[execOp,T,Instr.sliceAt,run_underlying I,Instr.slice,B,u]
   .cases h
  .cases h
 .cases h
end
def zJ:Value->Value->Option Bool
 | .int k a,.int c b=>bif IntKind.same k c then some (a==b) else none
 | .bool a,.bool b=>some (a==b)
 | .string a,.string b=>some (a.toList==b.toList)
 | _,_=>none
def vu:List Value->List Value->Option Bool
 | [],[]=>some true
 | a::r,b::q=>match zJ a b,vu r q with
  | some x,some y=>some (x&&y)
  | _,_=>none
 | _,_=>none
def cat:Value->Nat
 | .int _ _=>0
 | .bool _=>1
 | .string _=>2
 | _=>3
def Oh(P:Program)(b:TypeId->Option (List Nat)):List Field->Nat->Option (List Nat)
 | [],_=>some []
 | f::c,a=>match b f.type with
  | some l => if f.name ≠ "_" /\ f.offset = a /\ P.cellsOf f.type = l.length then (Oh P b c (a + l.length)).map (l ++ ·) else none
  | none=>none
def qY(P:Program):Nat->TypeId->Option (List Nat)
 | 0,_=>none
 | d+1,t=>match P.underlying t with
  | some (.int _)=>some [0]
  | some .bool=>some [1]
  | some .string=>some [2]
  | some (.struct a)=>if P.stoodInHeld t then none else Oh P (qY P d) a.toList 0
  | some (.array n e)=>match qY P d e with
   | some l=>if P.cellsOf e=l.length then some (List.replicate n l).flatten else none
   | none=>none
  | _=>none
def oM:∀(a b c d:List Value) (r:Bool),a.length=b.length->vu (a++c) (b++d)=some r->∃x y,vu a b=some x/\vu c d=some y/\r=(x&&y)
 | [],[],c,d,r,_,h=>⟨true,r,rfl,h,σ⟩
 | [],_::_,_,_,_,h,_=>by simp at h
 | _::_,[],_,_,_,h,_=>by simp at h
 | u::a,v::b,c,d,r,i,h=>by
  simp only[YG,vu]at h;split at h
  .rename_i x y hx g;simp only[Q4]at h;obtain⟨f,e,l,k,j⟩:=oM a b c d y (by simpa using i) g;exact⟨x&&f,e,by simp[vu,hx,l],k,by rw[<- h,j,Bool.and_assoc]⟩
  .cases h
def valOf(P:Program)(t:TypeId)(a:List Value):Value:=
 match P.underlying t with
 | some (.struct _)|some (.array _ _)=>.agg a.toArray
 | _=>Q5 a 0
def oN(P:Program)(D:Nat)(t:TypeId)(l:List Nat):Prop:=
 ∀(w:World) (b a:List Value) (r:Bool),b.map cat=l->a.map cat=l->vu b a=some r->(Op.equalIn D t (valOf P t b) (valOf P t a)).run P w=.ok r w
def SJ{P:Program}{d}{t:TypeId}{l:List Nat}(h:qY P d t=some l)(j:P.cellsOf t=l.length)(w)(c:List Value)(b)(e:b+l.length<=c.length):
  (part t c.toArray b).run P w=.ok (valOf P t ((c.drop b).take l.length)) w:=by
 cases d with
 | zero=>simp[qY]at h
 | succ d=>
  unfold qY at h;cases a:P.underlying t with
  | none=>rw[a]at h;cases h
  | some k=>
   obtain⟨i,g⟩:=info_of_underlying a;have f:(sizeOf t).run P w=.ok l.length w:=by
    rw[run_sizeOf w g,j]
   rw[a]at h;cases k<;>first|(cases h;done)|skip
   case bool=>
    cases h;have:b<c.length:=by simp at e;omega
    simp[part,isAgg,run_underlying a,valOf,a,Q5,this]
   case int=>
    cases h;have:b<c.length:=by simp at e;omega
    simp[part,isAgg,run_underlying a,valOf,a,Q5,this]
   case string=>
    cases h;have:b<c.length:=by simp at e;omega
    simp[part,isAgg,run_underlying a,valOf,a,Q5,this]
   case array=>simp[part,isAgg,run_underlying a,valOf,a,f]
   case struct=>simp[part,isAgg,run_underlying a,valOf,a,f]
def QcE{P}(d D)(u:∀t l,qY P d t=some l->oN P D t l)(w):∀(m:List Field) (a:Nat) (l:List Nat) (c b:List Value) (r:Bool),Oh P (qY P d) m a=some l ->
  (c.drop a).map cat=l->(b.drop a).map cat=l->a<=c.length->a<=b.length->vu (c.drop a) (b.drop a)=some r->(Op.eqFields D c.toArray b.toArray m).run P w=.ok r w
 | [],a,l,c,b,r,h,hx,g,L,K,i=>by
  simp[Oh]at h;subst h;simp only[List.map_eq_nil_iff]at hx g;rw[hx,g]at i;simp[vu]at i;simp[Op.eqFields,i]
 | f::m,a,l,c,b,r,h,hx,g,L,K,i=>by
  simp only[Oh]at h;split at h
  .rename_i e o;split at h
   .rename_i J;obtain⟨I,H,s⟩:=J;simp only[WH]at h;obtain⟨n,R,rfl⟩:=h;have j:(c.drop a).length=e.length+n.length:=by rw[<- KK (f:=cat),hx,ZT]
    have k:(b.drop a).length=e.length+n.length:=by rw[<- KK (f:=cat),g,ZT]
    have q:c.drop a=(c.drop a).take e.length++c.drop (a+e.length):=by rw[<- List.drop_drop,EY]
    have p:b.drop a=(b.drop a).take e.length++b.drop (a+e.length):=by rw[<- List.drop_drop,EY]
    rw[q,jZ]at hx;rw[p,jZ]at g;obtain⟨O,Q⟩:=bE hx (by simp at j ⊢;omega);obtain⟨F,v⟩:=bE g (by simp at k ⊢;omega);rw[q,p]at i;obtain⟨x,y,N,M,rfl⟩:=oM _ _ _ _ _ (by simp at j k ⊢;omega) i;have E:=SJ o s w c a (by simp at j;omega);have C:=SJ o s w b a (by simp at k;omega);have B:=u _ _ o w _ _ x O F N;have z:=QcE d D u w m (a+e.length) n c b y R Q v (by simp at j;omega) (by simp at k;omega) M;simp only[Op.eqFields,I,ne_eq,not_false_eq_true,VB,Sem.run_bind,H,E,C,B,Result.andThen_ok];cases x
    .simp
    .simpa using z
   .cases h
  .cases h
def QcF{P:Program}{d D}{e:TypeId}{l:List Nat}(n:qY P d e=some l)(h:P.cellsOf e=l.length)(t:oN P D e l)(w):∀(m i:Nat) (b a:List Value) (r:Bool),
  (b.drop (i*l.length)).map cat=(List.replicate m l).flatten->(a.drop (i*l.length)).map cat=(List.replicate m l).flatten->i*l.length<=b.length->i*l.length<=a.length->vu (b.drop (i*l.length)) (a.drop (i*l.length))=some r ->
  (Op.eqItems D e (P.cellsOf e) b.toArray a.toArray (List.range' i m)).run P w=.ok r w
 | 0,i,b,a,r,hx,c,_,_,g=>by
  simp only[List.replicate_zero,List.flatten_nil,List.map_eq_nil_iff]at hx c;rw[hx,c]at g;simp[vu]at g;simp[Op.eqItems,g]
 | m+1,i,b,a,r,hx,c,K,J,g=>by
  rw[bO,List.flatten_cons]at hx c;have j:(b.drop (i*l.length)).length=l.length+(List.replicate m l).flatten.length:=by rw[<- KK (f:=cat),hx,ZT]
  have k:(a.drop (i*l.length)).length=l.length+(List.replicate m l).flatten.length:=by rw[<- KK (f:=cat),c,ZT]
  have p:i*l.length+l.length=(i+1)*l.length:=by rw[Kh];omega
  have s:b.drop (i*l.length)=(b.drop (i*l.length)).take l.length++b.drop ((i+1)*l.length):=by rw[<- p,<- List.drop_drop,EY]
  have q:a.drop (i*l.length)=(a.drop (i*l.length)).take l.length++a.drop ((i+1)*l.length):=by rw[<- p,<- List.drop_drop,EY]
  rw[s,jZ]at hx;rw[q,jZ]at c;obtain⟨H,I⟩:=bE hx (by simp at j ⊢;omega);obtain⟨C,u⟩:=bE c (by simp at k ⊢;omega);rw[s,q]at g;obtain⟨x,y,F,E,rfl⟩:=oM _ _ _ _ _ (by simp at j k ⊢;omega) g;have B:=SJ n h w b (i*l.length) (by simp at j;omega);have z:=SJ n h w a (i*l.length) (by simp at k;omega);have v:=t w _ _ x H C F;have o:=QcF n h t w m (i+1) b a y I u (by simp at j;omega) (by simp at k;omega) E;rw[List.range'_succ];simp only[Op.eqItems,Sem.run_bind,h,B,z,v,Result.andThen_ok];cases x
  .simp
  .rw[h]at o;simpa using o
def de{P}:∀(d D:Nat) (t:TypeId) (l:List Nat),d<=D->qY P d t=some l->oN P D t l
 | 0,_,_,_,_,h=>by simp[qY]at h
 | d+1,0,_,_,R,_=>ω
 | d+1,D+1,t,l,R,h=>by
  intro w p o r hx C j;have U:=h;unfold qY at h;cases g:P.underlying t with
  | none=>rw[g]at h;cases h
  | some k=>
   rw[g]at h;have one:∀c:Nat,l=[c]->∃a b,p=[a]/\o=[b]/\cat a=c/\cat b=c/\zJ a b=some r:=by
    intro c N;subst N;have I:p.length=1:=by rw[<- KK (f:=cat),hx];rfl
    have J:o.length=1:=by rw[<- KK (f:=cat),C];rfl
    match p,o,I,J with
    | [a],[b],_,_=>
     refine⟨a,b,rfl,rfl,by simpa using hx,by simpa using C,?_⟩;simp only[vu]at j;split at j
     .rename_i x y T F;simp at F j;subst F;simp at j;rw[T,j]
     .cases j
   cases k<;>first|(cases h;done)|skip
   case bool=>
    simp only[Q4]at h;obtain⟨a,b,rfl,rfl,v,u,m⟩:=one 1 h.symm;cases a<;>simp[cat]at v;cases b<;>simp[cat]at u;simp[zJ]at m;subst m;simp[valOf,g,Q5,run_equalIn_bool' w D t _ _ g]
   case int q=>
    simp only[Q4]at h;obtain⟨a,b,rfl,rfl,v,u,m⟩:=one 0 h.symm;cases a<;>simp[cat]at v;cases b<;>simp[cat]at u;simp only[zJ]at m;obtain⟨O,B⟩:=j7 m;have:=IntKind.n9 O;subst this;simp only[Q4]at B;subst B;simp[valOf,g,Q5,run_equalIn_int w D t _ _ _ _ g]
   case string=>
    simp only[Q4]at h;obtain⟨a,b,rfl,rfl,v,u,m⟩:=one 2 h.symm;cases a<;>simp[cat]at v;cases b<;>simp[cat]at u;simp only[zJ,Q4]at m;subst m;simp[valOf,g,Q5,run_equalIn_string w D t _ _ g]
   case array n e=>
    replace h:(match qY P d e with|some l=>if P.cellsOf e=l.length then some (List.replicate n l).flatten else none|none=>none)=some l:=h;split at h
    .rename_i L s;split at h
     .rename_i S;simp only[Q4]at h;subst h;have K:∃i,P.info? e=some i:=by
       cases d with
       | zero=>simp[qY]at s
       | succ V=>
        unfold qY at s;cases z:P.underlying e with
        | none=>rw[z]at s;cases s
        | some _=>exact info_of_underlying z
      obtain⟨i,Q⟩:=K;have:=QcF s S (de d D e L ω s) w n 0 p o r (by simpa using hx) (by simpa using C) σ σ (by simpa using j);rw[<- List.range_eq_range']at this;simp only[valOf,g];rw[run_equalIn_array w D p.toArray o.toArray g Q];exact this
     .cases h
    .cases h
   case struct E=>
    replace h:(if P.stoodInHeld t then none else Oh P (qY P d) E.toList 0)=some l:=h;split at h
    .cases h
    .rename_i M;have H:P.fieldsOf t=E:=by simp[Program.fieldsOf,g]
     simp only[valOf,g];rw[run_equalIn_struct w D t _ _ (by rw[H];exact g) (by simpa using M),H];exact QcE d D (λt l h=>de d D t l ω h) w E.toList 0 l p o r h (by simpa using hx) (by simpa using C) σ σ (by simpa using j)
abbrev DG:=List (TypeId × List Nat)
def Ci:DG->TypeId->Option (List Nat)
 | [],_=>none
 | (u,l)::r,t=>bif Nat.beq u t then some l else Ci r t
structure oP (P:Program) (t:TypeId) (l:List Nat):Prop where
 shape:qY P 60 t=some l
 guard:P.eqGuardType P.depth t=false
 agg:(match P.underlying t with|some (.struct _)|some (.array _ _)=>true|_=>false)=true
def Ba(P:Program)(E:DG):Prop:=∀t l,Ci E t=some l->oP P t l
def Ba.nil(P):Ba P []:=λ_ _ h=>by simp[Ci]at h
def Ba.cons{P}{E}{t:TypeId}{l}(h:oP P t l)(r:Ba P E):Ba P ((t,l)::E):=λu z e=>by
 simp only[Ci]at e;by_cases a:t=u
 .subst a;simp at e;subst e;exact h
 .have:Nat.beq t u=false:=by rw[<- qk,WG];exact a
  rw[this]at e;exact r u z e
def Fp:List D->Option (List Value)
 | []=>some []
 | .raw v::r=>match Fp r with
  | some l=>some (v::l)
  | none=>none
 | _=>none
def LC:List Nat->List Nat->Bool
 | [],[]=>true
 | a::r,b::q=>Nat.beq a b&&LC r q
 | _,_=>false
def df:∀{a b:List Nat},LC a b=true->a=b
 | [],[],_=>rfl
 | [],_::_,h=>by cases h
 | _::_,[],h=>by cases h
 | a::r,b::q,h=>by
  simp only[LC,ZX,WG]at h;rw[h.1,df h.2]
def dh{h}{f}{w}:∀{d:List D} {l:List Value},Fp d=some l->∀(a:List Value),a.length=d.length->(∀i,i<d.length->QF Z h f w (nth d i) (Q5 a i))->a=l
 | [],l,e,a,b,_=>by simp[Fp]at e;subst e;exact List.eq_nil_of_length_eq_zero (by simpa using b)
 | c::d,l,e,a,b,g=>by
  cases c<;>simp only[Fp,reduceCtorEq]at e;rename_i v;split at e
  .rename_i o m;simp only[Q4]at e;subst e;match a,b with
   | u::j,b=>
    have k:=JJ (g 0 σ:QF Z h f w (.raw v) u);have:=dh m j (by simpa using b) (λi p=>by have:=g (i+1) ξ;simpa[nth,Q5] using this);have n:u=v:=k;rw[n,this]
  .cases e
def dw(E:DG)(c:BinOp)(t:TypeId):D->D->Ev
 | .agg a,.agg b=>match Ci E t,Fp a,Fp b with
  | some l,some x,some y=>bif LC (x.map cat) l&&LC (y.map cat) l then match vu x y with
   | some r=>match c with
    | .eql=>some (True,.raw (.bool r))
    | .neq=>some (True,.raw (.bool (!r)))
    | _=>none
   | none=>none
   else none
  | _,_,_=>none
 | _,_=>none
def QnT{P}{E}(N:Ba P E){g J}{s}{o:Oper}{v}{t H:TypeId}{x y}(C:o.op=.binOp v t x y H){p}{d}
  (h:dw E v t (Qp s.fr x) (Qp s.fr y)=some (p,d)):WJ P g J o s d:=by
 intro Z pl a w r;have hx:=r.eval x;have K:=r.eval y;unfold dw at h;generalize Qp s.fr x=dx at *;generalize Qp s.fr y=dy at *;split at h
 .split at h
  .rename_i l xs ys M V U;obtain⟨k,b⟩:=j7 h;simp only[ZX]at k;have I:=df k.1;have q:=df k.2;split at b
   .rename_i u L;obtain⟨j,B,T,Y⟩:=Lq hx;obtain⟨i,z,n,S⟩:=Lq K;have R:=dh V j T Y;have Q:=dh U i n S;subst R;subst Q;obtain⟨W,F,f⟩:=N _ _ M;have e:∀c,(Op.equalIn 10000 t (.agg j.toArray) (.agg i.toArray)).run P c=.ok u c:=by
     intro c;have:=de 60 10000 t l ω W c j i u I q L;unfold valOf at this;split at this
     .exact this
     .exact this
     .rename_i O b;split at f
      .rename_i m;exact absurd m (O _)
      .rename_i m;exact absurd m (b _ _)
      .cases f
    split at b
    .simp only[Q4,Zh]at b;obtain⟨rfl,rfl⟩:=b;refine⟨_,.cl _ _ (.raw _),λc _=>?_⟩;simp[execOp,C,B,z,run_eqGuard_agg c .eql t x y _ _ F,run_eql_struct,e]
    .simp only[Q4,Zh]at b;obtain⟨rfl,rfl⟩:=b;refine⟨_,.cl _ _ (.raw _),λc _=>?_⟩;simp[execOp,C,B,z,run_eqGuard_agg c .neq t x y _ _ F,run_neq_struct,e]
    .cases b
   .cases b
  .cases h
 .cases h
end Go.Fg
namespace Go.Fg
def VC(P:Program){c:Type}(m:Sem c):Prop:=∀w x a,m.run P w=.ok x a->a=w/\∀b,m.run P b=.ok x b
section
variable {P:Program}{α β:Type}
def VC.pure(a:α):VC P (pure a:Sem α):=λw x b h=>by
 simp at h;obtain⟨rfl,rfl⟩:=h;exact⟨rfl,λc=>σ⟩
def VC.never{m:Sem α}(b:∀w x a,m.run P w≠.ok x a):VC P m:=λw x a h=>absurd h (b w x a)
def VC.bind{m:Sem α}{k:α->Sem β}(l:VC P m)(j:∀a,VC P (k a)):VC P (m >>= k):=λw x f h=>by
 rw[Sem.run_bind]at h;cases b:m.run P w with
 | halt e c=>rw[b]at h;cases h
 | ok a c=>
  rw[b]at h;simp only[Result.andThen_ok]at h;obtain⟨rfl,i⟩:=l w a c b;obtain⟨rfl,g⟩:=j a _ x f h;exact⟨rfl,λd=>by rw[Sem.run_bind,i d];simp only[Result.andThen_ok];exact g d⟩
def VC.stuck(s:String):VC P (Go.stuck s:Sem α):=VC.never λw x a h=>by cases h
def VC.halt(e:Halt):VC P (.halt e:Sem α):=VC.never λw x a h=>by cases h
def VC.program:VC P program:=λw x a h=>by
 simp at h;obtain⟨rfl,rfl⟩:=h;exact⟨rfl,λb=>σ⟩
def VC.typeInfo(t):VC P (typeInfo t):=.bind .program λp=>by
 split
 .exact .pure _
 .exact .stuck _
def VC.underlying(t):VC P (underlying t):=.bind .program λp=>by
 split
 .exact .pure _
 .exact .stuck _
def VC.panic:VC P (runtimePanic .nilDeref:Sem α):=.bind .program λp=>.halt _
def VC.sizeOf(t):VC P (sizeOf t):=.bind (.typeInfo t) λ_=>.pure _
def VC.isAgg(t):VC P (isAgg t):=.bind (.underlying t) λd=>by
 split<;>exact .pure _
def VC.part(t)(a)(i):VC P (part t a i):=by
 unfold Go.part
 repeat' (first|exact .pure _|exact .stuck _|refine .bind (.isAgg _) λ_=>?_|refine .bind (.sizeOf _) λ_=>?_|refine .bind (.typeInfo _) λ_=>?_|refine .bind (.underlying _) λ_=>?_|split)
def VC.blind:∀(l:List FieldStep) (t:TypeId) (x:Option Value),VC P (Go.followBlind l t x)
 | [],_,_=>.pure _
 | s::r,t,x=>by
  unfold Go.followBlind
  repeat' (first|exact .pure _|exact .stuck _|exact VC.blind r _ _|refine .bind (.part _ _ _) λ_=>?_|refine .bind (.underlying _) λ_=>?_|split)
def VC.nilAhead:∀(n:Nat) (t:TypeId) (v:Value) (a:String),VC P (Go.nilAhead n t v a)
 | 0,_,_,_=>.pure _
 | n+1,t,v,a=>by
  unfold Go.nilAhead
  repeat' (first|exact .pure _|exact .stuck _|exact VC.nilAhead n _ _ _|refine .bind (.blind _ _ _) λ_=>?_|refine .bind (.typeInfo _) λ_=>?_|refine .bind (.underlying _) λ_=>?_|split)
def VC.nilCheck{o:Oper}{x}(b:o.op=.nilCheck x)(a):VC P (execOp a o):=by
 simp only[execOp,b]
 repeat' (first|exact .pure _|exact .stuck _|exact .panic|exact .halt _|(refine .bind (.halt _) λ_=>?_)|refine .bind (.nilAhead _ _ _ _) λ_=>?_|refine .bind .program λ_=>?_|split)
end
end Go.Fg
namespace Go.Fg
open Go.RowKit (Below)
open Go.Instr
def LD(q:IntKind)(a:List MapEntry):Prop:=∀e∈a,∃n,e.key=.int q n
def dB{q}{k}:∀{a:List MapEntry} {i:Nat},LD q a->(∀e∈a,e.key≠.int q k)->findNow (.int q) (.int q k) a i=some none
 | [],_,_,_=>rfl
 | e::a,i,h,c=>by
  obtain⟨n,d⟩:=h e (Z3 ..);have f:(k==n)=false:=by
   rw[j5];rintro rfl;exact c e (Z3 ..) d
  simp only[findNow,d,sameNow,VB,f];exact dB (λe b=>h e (Jw _ b)) (λe b=>c e (Jw _ b))
def dC{q}{k}:∀{a:List MapEntry} {i0 i:Nat} {e:MapEntry},LD q a->a[i]? = some e->e.key=.int q k->(∀(j:Nat) (b:MapEntry),j<i->a[j]? = some b->b.key≠.int q k) ->
  findNow (.int q) (.int q k) a i0=some (some (i0+i,e.val))
 | [],_,_,_,_,h,_,_=>by simp at h
 | x::a,i0,i,e,g,h,c,f=>by
  obtain⟨n,hx⟩:=g x (Z3 ..);cases i with
  | zero=>
   simp at h;subst h;rw[hx]at c;obtain rfl:n=k:=by simpa using c
   simp[findNow,hx,sameNow]
  | succ i=>
   have l:(k==n)=false:=by
    rw[j5];rintro rfl;exact f 0 x ω rfl hx
   simp only[findNow,hx,sameNow,VB,l];rw[dC (i0:=i0+1) (λe d=>g e (Jw _ d)) (by simpa using h) c (λj b m d=>f (j+1) b ω (by simpa using d))];simp;omega
section
variable {P:Program}{w:World}{q:IntKind}{k:Int}
def G8{a:TypeId}(b:P.underlying a=some (.int q))(c)(n):(checkKey c (n+1) a (.int q k)).run P w=.ok () w:=by
 simp[checkKey,underlying,b]
def LF{a:TypeId}(b:P.underlying a=some (.int q)){es:List MapEntry}{r}(h:findNow (.int q) (.int q k) es 0=some r):(findKey a (.int q k) es).run P w=.ok r w:=by
 simp[findKey,underlying,b,h]
def Cj{e:Type}{b}{d}{a}(f:w.heap[b]? = some (.map d a))(c:Obj->Sem e):(Sem.getObj b c).run P w=(c (.map d a)).run P w:=by
 simp only[Sem.run,f]
def SM{d:Type}{b}{f}{a}(e:w.heap[b]? = some (.map f a))(o:Obj)(c:Sem d):(Sem.setObj b o c).run P w=c.run P { w with heap:=w.heap.setIfInBounds b o }:=by
 simp only[Sem.run,e]
def QnW{f g y:TypeId}{b}{c:Array MapEntry}{a}(p:P.underlying f=some (.map g y))(l:P.underlying g=some (.int q))(o:w.heap[b]? = some (.map c a))(t:LD q c.toList)
  {i:Nat} {e:MapEntry} (m:c[i]? = some e) (n:e.key=.int q k) (r:∀(j:Nat) (d:MapEntry),j<i->c[j]? = some d->d.key≠.int q k) (v:Value) :
  (mapUpdate f (.map (some b)) (.int q k) v).run P w=.ok () { w with heap:=w.heap.setIfInBounds b (.map (c.modify i λe=>{ e with key:=.int q k,val:=v }) a) }:=by
 have h:=dC (i0:=0) t (by simpa using m) n (λj d s z=>r j d s (by simpa using z));have x:=LF (P:=P) (w:=w) l h;have u:=G8 (P:=P) (w:=w) (k:=k) l false 9999;simp[mapUpdate,underlying,p,getObj,Cj o,x,u,m,n,keyThatStays,sameBits,setObj,SM o]
def QnX{d f p:TypeId}{b}{c:Array MapEntry}{a}(j:P.underlying d=some (.map f p))(g:P.underlying f=some (.int q))(h:w.heap[b]? = some (.map c a))(m:LD q c.toList)
  (l:∀e∈c.toList,e.key≠.int q k) (v:Value) :
  (mapUpdate d (.map (some b)) (.int q k) v).run P w=.ok () { w with heap:=w.heap.setIfInBounds b (.map (c.push { key:=.int q k,val:=v,born:=a }) (a+1)) }:=by
 have o:=LF (P:=P) (w:=w) g (dB (i:=0) m l);have n:=G8 (P:=P) (w:=w) (k:=k) g false 9999;simp[mapUpdate,underlying,j,getObj,Cj h,o,n,setObj,SM h]
def QnY{f g x ty kt2:TypeId}{b}{c:Array MapEntry}{a}(n:P.underlying f=some (.map g x))(l:P.underlying g=some (.int q))(m:w.heap[b]? = some (.map c a))(t:LD q c.toList)
  {i:Nat} {e:MapEntry} (r:c[i]? = some e) (s:e.key=.int q k) (o:∀(j:Nat) (d:MapEntry),j<i->c[j]? = some d->d.key≠.int q k) :
  (Builtin.delete_ #[f,kt2] ty #[.map (some b),.int q k]).run P w=.ok (.tuple #[]) { w with heap:=w.heap.setIfInBounds b (.map (c.eraseIdxIfInBounds i) a) }:=by
 have h:=dC (i0:=0) t (by simpa using r) s (λj d p y=>o j d p (by simpa using y));have v:=LF (P:=P) (w:=w) l h;have u:=G8 (P:=P) (w:=w) (k:=k) l c.isEmpty 9999;simp[Builtin.delete_,underlying,n,getObj,Cj m,v,u,setObj,SM m]
def QnZ{d f p ty kt2:TypeId}{b}{c:Array MapEntry}{a}(j:P.underlying d=some (.map f p))(g:P.underlying f=some (.int q))(h:w.heap[b]? = some (.map c a))(m:LD q c.toList)
  (l:∀e∈c.toList,e.key≠.int q k) :
  (Builtin.delete_ #[d,kt2] ty #[.map (some b),.int q k]).run P w=.ok (.tuple #[]) { w with heap:=w.heap.setIfInBounds b (.map c a) }:=by
 have o:=LF (P:=P) (w:=w) g (dB (i:=0) m l);have n:=G8 (P:=P) (w:=w) (k:=k) g c.isEmpty 9999;simp[Builtin.delete_,underlying,j,getObj,Cj h,o,n,setObj,SM h]
def Qn0{c d g:TypeId}{b}{h}{a}(e:P.underlying c=some (.map d g))(f:w.heap[b]? = some (.map h a)):
  (Instr.range c (.map (some b))).run P w=.ok (.pointer (some ⟨w.heap.size,0,none⟩)) { w with heap:=w.heap.push (.mapIter (some b) a #[] a) }:=by
 simp[Instr.range,underlying,e,getObj,Cj f,newObj,Sem.run]
end
def Tr.LG{Z:Nat->Prop}{d:Nat}{h:List Ob}{f:List Pl}{w w':World}(R:Zo Z d h f w){l:Nat}{o o':Ob}{b:Nat}(m:h[l]? = some o)(v:f[l]? = some (some (b,0)))(e:∀c,c≠b->w'.heap[c]? = w.heap[c]?)
  (z:o'.gen=o.gen) (x:o'.kd.ty=o.kd.ty) (u:o'.sz=o.sz) (t:∀c el,w.heap[b]?≠some (.cells c el (0,0))):Tr h f w (h.set l o') f w' where
 Kl:=λc a _=>⟨a,e c (λh=>by subst h;exact a l 0 v)⟩
 obj:=λk j p g i=>by
  by_cases n:l=k
  .subst n;rw[m]at g;cases g;exact⟨o',p,Xb (KY m),i,ω,x,λ_=>⟨u,rfl⟩⟩
  .exact⟨j,p,by rw[JZ n];exact g,i,Qs _,rfl,λ_=>⟨rfl,rfl⟩⟩
 shape:=λk j y c q g i _ B s el a=>by
  by_cases r:c=b
  .subst r;exact absurd a (t s el)
  .exact⟨s,by rw[e c r];exact a,rfl⟩
def Zo.LG{Z:Nat->Prop}{d:Nat}{h:List Ob}{g:List Pl}{w w':World}(R:Zo Z d h g w){l:Nat}{o o':Ob}{b:Nat}(s:h[l]? = some o)(n:g[l]? = some (some (b,0)))(e:∀c,c≠b->w'.heap[c]? = w.heap[c]?)
  (T:Tr h g w (h.set l o') g w') (t:KL Z (h.set l o') g w' o' b 0) (hro:o'.kd.ro=o.kd.ro):Zo Z d (h.set l o') g w' where
 len:=by rw[XG];exact R.len
 inj:=R.inj
 VX:=λk p f a=>by
  by_cases m:l=k
  .subst m;rw[n]at a;cases a
  .rw[JZ m]at f;exact R.VX k p f a
 at_:=λk p c q f a=>by
  by_cases m:l=k
  .subst m;rw[Xb (KY s)]at f;cases f;rw[n]at a;cases a;exact⟨λr=>(R.at_ l o b 0 s n).1 (by rw[<- hro,r]),t⟩
  .rw[JZ m]at f;obtain⟨y,x⟩:=R.at_ k p c q f a;have u:c≠b:=λh=>by subst h;exact m (R.inj l k c 0 q n a)
   exact⟨y,x.to rfl rfl rfl (e c u) (λ_ _=>rfl) λi j v _ _ r=>r.tr T⟩
structure ZQ where
 k:Int
 v:D
 b:Nat
def Bb(q:IntKind)(c:Nat)(a:List ZQ):Nat->List D
 | 0=>[.raw (.int .i64 c),.undef,.undef]
 | r+1=>match a[r]? with
  | some e=>[.raw (.int q e.k),e.v,.raw (.int .i64 e.b)]
  | none=>[.undef,.undef,.undef]
def Ww(b:Kd)(q:IntKind)(c:Nat)(a:List ZQ):Ob:=⟨b,0,3,a.length+1,Bb q c a⟩
def QR(q:IntKind)(c:Nat)(a:List ZQ):Ob:=Ww .map q c a
def Ja:List ZQ->Int->Option D
 | [],_=>none
 | e::r,k=>if e.k=k then some e.v else Ja r k
def kg:List ZQ->Int->D->List ZQ
 | [],_,_=>[]
 | e::r,k,v=>if e.k=k then ⟨k,v,e.b⟩::r else e::kg r k v
def Kc:List ZQ->Int->List ZQ
 | [],_=>[]
 | e::r,k=>if e.k=k then r else e::Kc r k
def Ki(q:IntKind)(c:Nat)(a:List ZQ)(k:Int)(v:D):Ob:=match Ja a k with
 | some _=>QR q c (kg a k v)
 | none=>QR q (c+1) (a++[⟨k,v,c⟩])
def G9:D->Int
 | .raw (.int _ n)=>n
 | _=>0
def clockOf(o:Ob):Nat:=(G9 (nth (o.row 0) 0)).toNat
def DI(o:Ob):List ZQ:=(List.range (o.n - 1)).map λi=>⟨G9 (nth (o.row (i+1)) 0),nth (o.row (i+1)) 1,(G9 (nth (o.row (i+1)) 2)).toNat⟩
def Ob.ro(o:Ob):Ob:=⟨o.kd.toRo,o.gen,o.sz,o.n,o.row⟩
def IsMap(q:IntKind)(o:Ob):Prop:=o.kd.ty=1/\o=Ww o.kd q (clockOf o) (DI o)
theorem QcJ(a:Kd)(q)(c)(b):clockOf (Ww a q c b)=c:=by simp[clockOf,Ww,Bb,nth,G9]
theorem oS(q)(c)(a):clockOf (QR q c a)=c:=QcJ _ _ _ _
theorem QcK(b:Kd)(q)(c)(a):DI (Ww b q c a)=a:=by
 apply AO;intro i;simp only[DI,Ww,Bb,Lj,KX,bI];by_cases h:i<a.length
 .simp[bI h,nth,G9,h]
 .rw[B4 (by simpa using h)];simp[h]
theorem oT(q)(c)(a):DI (QR q c a)=a:=QcK _ _ _ _
theorem QcL(q)(c)(a):IsMap q (QR q c a)=True:=by
 refine eq_true ⟨rfl,?_⟩;exact(by rw[oS,oT];rfl)
theorem oU(o:Ob):clockOf o.ro=clockOf o:=rfl
theorem QcM(o:Ob):DI o.ro=DI o:=rfl
theorem Qn1(q)(o:Ob):IsMap q o.ro=IsMap q o:=by
 obtain⟨k,g,z,n,r⟩:=o;simp only[IsMap,oU,QcM];simp only[Ob.ro,Ww,Kd.toRo_ty,Ob.mk.injEq,AT]
theorem Qn2(q)(c)(a:List ZQ):(QR q c a).kd=.map:=rfl
theorem Qn3(q)(c)(a:List ZQ):(QR q c a).n=a.length+1:=rfl
theorem Qn4(q)(c)(a:List ZQ):(QR q c a).gen=0:=rfl
theorem dD(o:Ob):o.ro.kd=o.kd.toRo:=rfl
theorem Qn5(o:Ob):o.ro.n=o.n:=rfl
theorem Qn6(o:Ob):o.ro.gen=o.gen:=rfl
def IsMap.get{q}{o:Ob}(h:IsMap q o):∃a c b,a.ty=1/\o.kd=a/\clockOf o=c/\DI o=b/\o=Ww a q c b:=⟨_,_,_,h.1,rfl,rfl,rfl,h.2⟩
def dF:∀{b:List ZQ} {k:Int} {v:D},Ja b k=some v->∃(j:Nat) (e:ZQ),b[j]? = some e/\e.k=k/\e.v=v/\(∀(i:Nat) (c:ZQ),i<j->b[i]? = some c->c.k≠k)/\(∀u,kg b k u=b.set j ⟨k,u,e.b⟩)/\Kc b k=b.eraseIdx j
 | [],_,_,h=>by simp[Ja]at h
 | e::r,k,v,h=>by
  simp only[Ja]at h;by_cases a:e.k=k
  .rw[Qf a]at h;cases h;exact⟨0,e,rfl,a,rfl,λi _ d=>absurd d (Xc i),λu=>by simp[kg,a],by simp[Kc,a]⟩
  .rw[Qe a]at h;obtain⟨j,c,o,n,m,l,g,f⟩:=dF h;refine⟨j+1,c,by simpa using o,n,m,λi x d hx=>?_,λu=>by simp[kg,a,g u],by simp[Kc,a,f]⟩;cases i with
   | zero=>simp at hx;subst hx;exact a
   | succ i=>exact l i x ω (by simpa using hx)
def SN:∀{a:List ZQ} {k:Int},Ja a k=none->(∀e∈a,e.k≠k)/\(∀u,kg a k u=a)/\Kc a k=a
 | [],_,_=>⟨σ,λ_=>rfl,rfl⟩
 | e::r,k,h=>by
  simp only[Ja]at h;by_cases b:e.k=k
  .rw[Qf b]at h;cases h
  .rw[Qe b]at h;obtain⟨f,d,c⟩:=SN h;exact⟨λx hx=>by
    rcases QG.1 hx with rfl|h
    .exact b
    .exact f x h,λu=>by simp[kg,b,d u],by simp[Kc,b,c]⟩
def QcN:∀{c:List ZQ} {k:Int} (v:D) (a:Int),Ja (kg c k v) a=if a=k then (Ja c k).map (λ_=>v) else Ja c a
 | [],k,v,a=>by simp[kg,Ja]
 | e::r,k,v,a=>by
  by_cases h:e.k=k
  .simp only[kg,Qf h,Ja];by_cases b:k=a
   .simp[b]
   .rw[Qe b,Qe (λe=>b e.symm),Qe (by rw[h];exact b)]
  .simp only[kg,Qe h,Ja];rw[QcN v a];by_cases b:a=k
   .subst b;simp[h]
   .simp[b]
def QcO:∀(b a:List ZQ) (k:Int),Ja (b++a) k=(Ja b k).or (Ja a k)
 | [],_,_=>by simp[Ja]
 | e::r,a,k=>by
  by_cases h:e.k=k
  .simp[Ja,h]
  .simp[Ja,h,QcO r a k]
def QcP(q)(c)(b)(k)(v):∃g e,Ki q c b k v=QR q g e/\∀a,Ja e a=if a=k then some v else Ja b a:=by
 unfold Ki;cases h:Ja b k with
 | some d=>
  refine⟨c,kg b k v,rfl,λa=>?_⟩;rw[QcN,h];rfl
 | none=>
  refine⟨c+1,b++[⟨k,v,c⟩],rfl,λa=>?_⟩;rw[QcO];by_cases f:a=k
  .subst f;simp[h,Ja]
  .rw[Qe f];cases Ja b a<;>simp[Ja,Q8 f]
def Yc(a:List ZQ):Prop:=(a.map (·.k)).Nodup
structure vv (Z:Nat->Prop) (h:List Ob) (pl:List Pl) (w:World) (q:IntKind) (c:Nat) (es:List ZQ) (QV:List MapEntry):Prop where
 len:es.length=QV.length
 at_:∀(i:Nat) (e:ZQ) (a:MapEntry),es[i]? = some e->QV[i]? = some a->a.key=.int q e.k/\QF Z h pl w e.v a.val/\a.born=e.b/\a.born<c
 inc:∀(i j:Nat) (a a':MapEntry),i<j->QV[i]? = some a->QV[j]? = some a'->a.born<a'.born
def oV{Z}{h}{e}{w:World}{q}{c}{d}{b}{k:Array MapEntry}(n:w.heap[b]? = some (.map k c))(E:vv Z h e w q c d k.toList){kd:Kd}(u:kd.ty=1):KL Z h e w (Ww kd q c d) b 0:=by
 refine KL.ofMap u ⟨rfl,rfl,k,c,n,by have:=E.len;simp at this;simp[Ww,this],λi _=>?_,.cl _ _ (.raw _),λi a m=>?_,λi j a s t g f=>E.inc i j a s t (by simpa using g) (by simpa using f)⟩
 .show (Bb q c d i).length=3;cases i with
  | zero=>rfl
  | succ i=>simp only[Bb];split<;>rfl
 .have Qc:=(WO.1 m).1;have l:i<d.length:=by have:=E.len;simp at this;omega
  obtain⟨g,f,p,o⟩:=E.at_ i d[i] a (QT l) (by simpa using m);have r:Bb q c d (i+1)=[.raw (.int q d[i].k),d[i].v,.raw (.int .i64 d[i].b)]:=by simp[Bb,l]
  show _/\QF Z h e w (nth (Bb q c d (i+1)) 0) _/\QF Z h e w (nth (Bb q c d (i+1)) 1) _/\QF Z h e w (nth (Bb q c d (i+1)) 2) _;rw[r];exact⟨o,by rw[g];exact .cl _ _ (.raw _),f,by rw[p];exact .cl _ _ (.raw _)⟩
def dG{Z}{h}{l}{w:World}{q}{c}{g}{b p}{k:Kd}(N:k.ty=1)(x:KL Z h l w (Ww k q c g) b p):p=0/\∃f:Array MapEntry,w.heap[b]? = some (.map f c)/\vv Z h l w q c g f.toList:=by
 obtain⟨H,_,f,d,F,E,_,C,B,z⟩:=x.map N;have u:d=c:=by
  have:=JJ C;simp at this;omega
 subst u;have s:g.length=f.size:=by simpa[Ww] using E
 refine⟨H,f,F,by simpa using s,λi e a t v=>?_,λi j a L M J I=>z i j a L M (by simpa using J) (by simpa using I)⟩;obtain⟨r,o,n,m⟩:=B i a (by simpa using v);have K:(Ww k q d g).row (i+1)=[.raw (.int q e.k),e.v,.raw (.int .i64 e.b)]:=by simp[Ww,Bb,t]
 rw[K]at o n m;have:=JJ o;have y:=JJ m;refine⟨this,n,?_,r⟩;simp at y;omega
def vv.keys{Z}{h}{f}{w}{q}{c}{b}{e}(E:vv Z h f w q c b e):LD q e:=λa g=>by
 obtain⟨i,d⟩:=GP g;have Qc:i<b.length:=by rw[E.len];exact(Xa.1 d).1
 exact⟨_,(E.at_ i b[i] a (QT Qc) d).1⟩
def vv.XW{Z}{h}{l}{w}{q}{c}{d:List ZQ}{b:Array MapEntry}(E:vv Z h l w q c d b.toList){k}{j}{e:ZQ}(g:d[j]? = some e)(o:e.k=k)(n:∀(i:Nat) (f:ZQ),i<j->d[i]? = some f->f.k≠k):
  ∃a,b[j]? = some a/\a.key=.int q k/\QF Z h l w e.v a.val/\a.born=e.b/\a.born<c/\∀(i:Nat) (f:MapEntry),i<j->b[i]? = some f->f.key≠.int q k:=by
 have Qc:j<b.toList.length:=by rw[<- E.len];exact(Xa.1 g).1
 obtain⟨u,t,s,r⟩:=E.at_ j e b.toList[j] g (QT Qc);refine⟨b.toList[j],σ,by rw[u,o],t,s,r,λi x z y=>?_⟩;have m:i<d.length:=by have:=(Xa.1 g).1;omega
 obtain⟨v,_⟩:=E.at_ i d[i] x (QT m) (by simpa using y);rw[v];intro p;exact n i _ z (QT m) (by simpa using p)
def vv.Fq{Z}{h}{g}{w}{q}{c}{b}{f}(E:vv Z h g w q c b f){k}(j:∀e∈b,e.k≠k):∀a∈f,a.key≠.int q k:=λa m=>by
 obtain⟨i,d⟩:=GP m;have Qc:i<b.length:=by rw[E.len];exact(Xa.1 d).1
 rw[(E.at_ i b[i] a (QT Qc) d).1];intro l;exact j _ (zF Qc) (by simpa using l)
def vv.tr{Z}{h f}{d j}{w b}(T:Tr h d w f j b){q}{c}{g}{k}(E:vv Z h d w q c g k):vv Z f j b q c g k:=
 ⟨E.len,λi e a m l=>let ⟨p,o,n⟩:=E.at_ i e a m l;⟨p,o.tr T,n⟩,E.inc⟩
section
variable {P:Program}{L:Jr}{base nt:Nat}{s:St}{o:Oper}{q:IntKind}{t kt et:TypeId}{x i:Operand}{l g n:Nat}{ob:Ob}{k:Int}
def dH{Z}{e}{a}{w}(r:Rel Z base nt s e a w){c}{j}{kd:Kd}(z:kd.ty=1)(C:Qp s.fr x=.mref l 0)(y:s.h[l]? = some (Ww kd q c j)):
  ∃b d,a.eval x=.map (some b)/\e[l]? = some (some (b,0))/\(kd.ro=false->base<=b)/\w.heap[b]? = some (.map d c)/\vv Z s.h e w q c j d.toList:=by
 have v:=r.eval x;rw[C]at v;obtain⟨J,p,b,u,h,H,K,f⟩:=GW v;rw[y]at u;cases u;have f:=f rfl;rw[f]at h;obtain⟨I,B⟩:=r.o.at_ l _ b 0 y h;obtain⟨_,d,F,E⟩:=dG z B;have m:=H.2;have:(Ww kd q c j).kd.ty=1:=z;rw[this]at m;exact⟨b,d,m,h,I,F,E⟩
def dI{Z}{f:List Pl}{a}{w:World}(r:Rel Z base nt s f a w){c}{B}(u:s.h[l]? = some (QR q c B)){b}(m:f[l]? = some (some (b,0)))(C:base<=b){F}(p:w.heap[b]? = some (.map F c))
  {c':Nat} {es':List ZQ} {ens':Array MapEntry} (E:∀v d,Tr s.h f w (s.h.set l (QR q c' es')) v d->vv Z (s.h.set l (QR q c' es')) v d q c' es' ens'.toList) :
  ∃d,d={ w with heap:=w.heap.setIfInBounds b (.map ens' c') }/\Tr s.h f w (s.h.set l (QR q c' es')) f d/\Zo Z base (s.h.set l (QR q c' es')) f d/\Below base w d:=by
 have y:=vm p;generalize j:({ w with heap:=w.heap.setIfInBounds b (.map ens' c') }:World)=d;have e:∀c,c≠b->d.heap[c]? = w.heap[c]? := λc z=>by rw[<- j];simp[AN,Q8 z]
 have H:d.heap[b]? = some (.map ens' c'):=by rw[<- j];simp[AN,y]
 have T:=Tr.LG (w':=d) r.o u m e (o':=QR q c' es') rfl rfl rfl (by rw[p];intro c el h;cases h);exact⟨d,rfl,T,Zo.LG (hro:=rfl) r.o u m e T (oV H (E f d T) rfl),Od C e (by rw[<- j];simp) (by rw[<- j]) (by rw[<- j]) (by rw[<- j])⟩
def Qn7(p:Jl P L){u m y:Ty}(U:ty L t=some u)(T:u.k=.map kt et)(C:ty L kt=some m)(B:m.k=.int q)(WT:ty L et=some y)
  {Z:Nat->Prop} {h:List Ob} {F:List Pl} {w:World} {b c:Nat} {r:List ZQ} {K:Array MapEntry} (Q:w.heap[b]? = some (.map K c)) (E:vv Z h F w q c r K.toList) (M:Bool) :
  ∃v,QF Z h F w (match Ja r k with|some d=>d|none=>DB y) v/\∀f:World,f.heap[b]? = w.heap[b]? ->
   (lookup t (.map (some b)) (.int q k) M).run P f=.ok (if M then .tuple #[v,.bool (Ja r k).isSome] else v) f:=by
 have R:=λw:World=>G8 (P:=P) (w:=w) (k:=k) (Dy (p kt m C) B) K.isEmpty 9999;have hx:=Fe (p t u U) T;cases O:Ja r k with
 | some d=>
  obtain⟨j,e,J,g2,Y,W,_⟩:=dF O;obtain⟨a,a1,a2,a3,a4,a5,a6⟩:=E.XW J g2 W;refine⟨a.val,by rw[<- Y];exact a3,λf H=>?_⟩;have h:=dC (i0:=0) E.keys (by simpa using a1) a2 (λj e' V WU=>a6 j e' V (by simpa using WU));have I:=LF (P:=P) (w:=f) (Dy (p kt m C) B) h;simp[lookup,underlying,hx,getObj,Cj (H.trans Q),I,R]
 | none=>
  obtain⟨J,_⟩:=SN O;obtain⟨z,hz,S⟩:=od (p et y WT) (N:=free Z F) w;refine⟨z,.cl _ _ hz,λf H=>?_⟩;have I:=LF (P:=P) (w:=f) (Dy (p kt m C) B) (dB (i:=0) E.keys (E.Fq J));simp[lookup,underlying,hx,getObj,Cj (H.trans Q),I,R,S f]
def Qn8(c:Jl P L){d b e:Ty}(u:ty L t=some d)(p:d.k=.map kt et)(h:ty L kt=some b)(f:b.k=.int q)(C:ty L et=some e)
  {N:Nat->Prop} {w:World} (j:Bool):∃v,Cl N w (DB e) v/\∀a:World,(lookup t (.map none) (.int q k) j).run P a=.ok (if j then .tuple #[v,.bool false] else v) a:=by
 obtain⟨z,hz,m⟩:=od (c et e C) (N:=N) w;refine⟨z,hz,λa=>?_⟩;have y:=G8 (P:=P) (w:=a) (k:=k) (Dy (c kt b h) f) true 9999;have B:=LF (P:=P) (w:=a) (k:=k) (Dy (c kt b h) f) (es:=[]) (r:=none) rfl;simp[lookup,underlying,Fe (c t d u) p,B,y,m a]
def dJ(L:Jr)(h:List Ob)(t:TypeId)(x i:D)(b:Bool):Ev:=match ty L t with
 | some ⟨.map kt et,_,_,_⟩=>match ty L kt,ty L et with
  | some ⟨.int q,_,_,_⟩,some a=>match i with
   | .raw (.int c k)=>match x with
    | .mref l g=>match h[l]? with
     | some o=>some (IsMap q o/\c=q/\g=0,match Ja (DI o) k with
      | some d=>bif b then .tup [d,.raw (.bool true)] else d
      | none=>bif b then .tup [DB a,.raw (.bool false)] else DB a)
     | none=>none
    | .raw (.map none)=>some (c=q,bif b then .tup [DB a,.raw (.bool false)] else DB a)
    | _=>none
   | _=>none
  | _,_=>none
 | _=>none
def look_ok(O:Jl P L){z}(C:o.op=.lookup t x i z){p}{d}(h:dJ L s.h t (Qp s.fr x) (Qp s.fr i) z=some (p,d))(K:p):WJ P base nt o s d:=by
 intro Z S a w r;unfold dJ at h;split at h;case h_2=>cases h
 rename_i kt et m1 m2 m3 J;split at h;case h_2=>cases h
 rename_i q n1 n2 n3 W I Q;split at h;case h_2=>cases h
 rename_i Y k B;have u:=r.eval i;rw[B]at u;have u:=JJ u;split at h;case h_3=>cases h
 case h_2 hx=>
  simp only[Q4,Zh]at h;obtain⟨rfl,rfl⟩:=h;subst K;have f:=r.eval x;rw[hx]at f;have f:=JJ f;obtain⟨v,m,y⟩:=Qn8 (k:=k) O J rfl I rfl Q (N:=free Z S) (w:=w) z;cases z with
  | false=>exact⟨v,.cl _ _ m,λe j=>by simp[execOp,C,f,u,y e]⟩
  | true=>
   refine⟨.tuple #[v,.bool false],.tup _ [v,.bool false] rfl (λi B=>match i,B with
    | 0,_=>.cl _ _ m
    | 1,_=>.cl _ _ (.raw _)),λe j=>by simp[execOp,C,f,u,y e]⟩
 case h_1 l g hx=>
  split at h;case h_2=>cases h
  rename_i ob U;simp only[Q4,Zh]at h;obtain⟨rfl,rfl⟩:=h;obtain⟨H,rfl,rfl⟩:=K;obtain⟨kd,c,T,V,_,_,R,H⟩:=H.get;rw[R];subst H;obtain⟨b,QV,f,_,_,F,E⟩:=dH r V hx U;obtain⟨v,m,y⟩:=Qn7 (k:=k) O J rfl I rfl Q F E z;cases M:Ja T k with
  | some d=>
   rw[M]at m y;cases z with
   | false=>exact⟨v,m,λe j=>by simp[execOp,C,f,u,y e (j b (vm F))]⟩
   | true=>
    refine⟨.tuple #[v,.bool true],.tup _ [v,.bool true] rfl (λi B=>match i,B with
     | 0,_=>m
     | 1,_=>.cl _ _ (.raw _)),λe j=>by simp[execOp,C,f,u,y e (j b (vm F))]⟩
  | none=>
   rw[M]at m y;cases z with
   | false=>exact⟨v,m,λe j=>by simp[execOp,C,f,u,y e (j b (vm F))]⟩
   | true=>
    refine⟨.tuple #[v,.bool false],.tup _ [v,.bool false] rfl (λi B=>match i,B with
     | 0,_=>m
     | 1,_=>.cl _ _ (.raw _)),λe j=>by simp[execOp,C,f,u,y e (j b (vm F))]⟩
def dK(L:Jr)(h:List Ob)(t:TypeId)(x:D):Ev:=match ty L t with
 | some ⟨.map _ _,_,_,_⟩=>match x with
  | .mref l g=>match h[l]? with
   | some o=>some (o.kd.ty=1/\g=o.gen,.raw (.int .i64 ((o.n - 1:Nat):Int)))
   | none=>none
  | .raw (.map none)=>some (True,.raw (.int .i64 0))
  | _=>none
 | _=>none
def Qn9(M:Jl P L){F:Array TypeId}(y:o.op=.call ⟨.builtin .len,#[x],F⟩)(S:F=#[t]){p}{d}(h:dK L s.h t (Qp s.fr x)=some (p,d))(K:p):WJ P base nt o s d:=by
 subst S;intro Z T a w r;unfold dK at h;split at h;case h_2=>cases h
 rename_i kt et Y W V J;have v:=Fe (M t _ J) rfl;have e:=r.eval x;split at h;case h_3=>cases h
 case h_2 hx=>
  simp only[Q4,Zh]at h;obtain⟨rfl,rfl⟩:=h;rw[hx]at e;have e:=JJ e;refine⟨.int .i64 0,.cl _ _ (.raw _),λj m=>?_⟩;rw[vn y];simp[e,builtin,Builtin.len_,underlying,v,goInt]
 case h_1 l g hx=>
  split at h;case h_2=>cases h
  rename_i ob H;simp only[Q4,Zh]at h;obtain⟨rfl,rfl⟩:=h;obtain⟨z,rfl⟩:=K;rw[hx]at e;obtain⟨U,p,b,E,C,O,h4,f⟩:=GW e;rw[H]at E;cases E;have f:=f rfl;rw[f]at C;obtain⟨ZF,I⟩:=r.o.at_ l _ b 0 H C;obtain⟨_,_,R,c,B,N,_⟩:=I.map z;have u:=O.2;rw[z]at u;refine⟨.int .i64 ((ob.n - 1:Nat):Int),.cl _ _ (.raw _),λj m=>?_⟩;rw[vn y];have Q:j.heap[b]? = some (.map R c):=by rw[m b (vm B)];exact B
  simp[u,Sx,builtin,Builtin.len_,underlying,v,getObj,Cj Q,N,goInt]
def Oi(L:Jr)(h:List Ob)(t:TypeId):Option (Prop × List Ob × D):=match ty L t with
 | some ⟨.map kt _,_,_,_⟩=>match ty L kt with
  | some ⟨.int q,_,_,_⟩=>some (True,h++[QR q 0 []],.mref h.length 0)
  | _=>some (True,h++[QR .i64 0 []],.mref h.length 0)
 | _=>none
def QcQ(H:Jl P L){u}(C:u=none\/∃k n,u=some (.const (.int k n))/\0<=n)(z:o.op=.makeMap t u){p}{y}{d}(h:Oi L s.h t=some (p,y,d)):j8 P base nt o s y d:=by
 have E:∃q,p=True/\y=s.h++[QR q 0 []]/\d=.mref s.h.length 0/\∃kt m a b c,ty L t=some ⟨.map kt m,a,b,c⟩:=by
  unfold Oi at h;split at h;case h_2=>cases h
  rename_i kt m _ _ _ v;split at h;all_goals
   simp only[Q4,Zh]at h;obtain⟨rfl,rfl,rfl⟩:=h;exact⟨_,rfl,rfl,rfl,_,_,_,_,_,v⟩
 obtain⟨q,rfl,rfl,rfl,kt,m,_,_,_,v⟩:=E;intro Z f a w r B;have e:∀b,b<w.heap.size->(w.alloc (.map #[] 0)).heap[b]? = w.heap[b]? := λb F=>xK w _ b F;have J:(w.alloc (.map #[] 0)).heap[w.heap.size]? = some (.map #[] 0):=heap_alloc_new w _;have T:Tr s.h f w (s.h++[QR q 0 []]) (f++[some (w.heap.size,0)]) (w.alloc (.map #[] 0)):=Tr.push r.o e _ _ (by intro b q h;simp at h;omega);have I:f.length=s.h.length:=r.o.len;refine⟨.map (some w.heap.size),w.alloc (.map #[] 0),f++[some (w.heap.size,0)],.inl ?_,T,?_,?_,Fj B _,λ_=>e⟩
 .rcases C with rfl|⟨k,n,rfl,K⟩
  .simp[execOp,z,makeMap]
  .simp[execOp,z,makeMap,Act.eval,underlying,Fe (H t _ v) rfl,asInt,asIntOf]
 .exact Zo.Sz r.o e _ (Qs _) B (oV (kd:=.map) J ⟨rfl,λi e a h=>by simp at h,λi j a M _ h=>by simp at h⟩ rfl)
 .exact .mref _ _ (QR q 0 []) (some (w.heap.size,0)) w.heap.size σ (by rw[<- I];simp) ⟨by simp[QR,Ww,Kd.ty],rfl⟩ (Qs _) (λ_=>rfl)
def Ha(L:Jr)(h:List Ob)(t:TypeId)(x i v:D):Option (Prop × List Ob):=match ty L t with
 | some ⟨.map kt _,_,_,_⟩=>match ty L kt with
  | some ⟨.int q,_,_,_⟩=>match x,i with
   | .mref l g,.raw (.int a k)=>match h[l]? with
    | some o=>some (IsMap q o/\a=q/\g=0/\o.kd.ro=false,h.set l (Ki q (clockOf o) (DI o) k v))
    | none=>none
   | _,_=>none
  | _=>none
 | _=>none
def QcR{w:World}{b}{f}{c}(d:w.heap[b]? = some (.map f c))(o:Obj):j6 w { w with heap:=w.heap.setIfInBounds b o }:=λa v h=>by
 by_cases e:a.block=b
 .simp[World.cell?,e,d]at h
 .rw[World.cell?_of_block (w:=w)]
  .exact h
  .simp[AN,Q8 e]
def QcS(hL:Jl P L){v}(ho:o.op=.mapUpdate t x i v){p}{h'}(h:Ha L s.h t (Qp s.fr x) (Qp s.fr i) (Qp s.fr v)=some (p,h'))(hp:p):∀(Z:Nat->Prop) R a w,Rel Z base nt s R a w->base<=w.heap.size->∃v u V,((execOp a.eval o).run P w=.ok (.value v) u\/((execOp a.eval o).run P w=.ok .skip u/\v=Go.undef))/\Tr s.h R w h' V u/\Zo Z base h' V u/\QF Z h' V u .undef v/\Below base w u/\j6 w u:=by
 unfold Ha at h;split at h;case h_2=>cases h
 split at h;case h_2=>cases h
 rename_i kt et _ _ _ ht _ q _ _ _ wK;split at h;case h_2=>cases h
 rename_i l g f k hx hi;split at h;case h_2=>cases h
 rename_i ob Zm;simp only[Q4,Zh]at h;obtain⟨rfl,rfl⟩:=h;obtain⟨J,rfl,rfl,W⟩:=hp;obtain⟨kd,c,C,J1,Bc,J2,wL,J⟩:=J.get;rw[wL,J2];have Qr:kd=.map:=by rw[Bc]at W;cases kd<;>first|rfl|(exfalso;revert J1;decide)|(exfalso;revert W;decide)
 subst Qr;rw[show Ww .map f c C=QR f c C from rfl]at J;subst J;intro Z R a w r KZ;have U:=r.eval i;rw[hi]at U;have U:=JJ U;have e3:=r.eval v;obtain⟨b,F,e1,h2,ZF,N,E⟩:=dH (kd:=.map) r rfl hx Zm;have ZF:=ZF rfl;have Hb:=Fe (hL t _ ht) rfl;have Z5:=Dy (hL kt _ wK) rfl;cases Y:Ja C k with
 | some d=>
  obtain⟨j,e,g1,g2,g3,g4,g5,_⟩:=dF Y;obtain⟨a1,b1,b2,b3,b4,b5,b6⟩:=E.XW g1 g2 g4;have Zl:=QnW (P:=P) (w:=w) (k:=k) Hb Z5 N E.keys b1 b2 b6 (a.eval v);have J:Ki f c C k (Qp s.fr v)=QR f c (C.set j ⟨k,Qp s.fr v,e.b⟩):=by simp only[Ki,Y];rw[g5]
  rw[J];obtain⟨u,rfl,T,O,B⟩:=dI r Zm h2 ZF N (c':=c) (es':=C.set j ⟨k,Qp s.fr v,e.b⟩) (ens':=F.modify j λe=>{ e with key:=.int f k,val:=a.eval v }) (λV u T=>by
   have E':=E.tr T;have qo:∀(m:Nat) (x:MapEntry),(F.modify j λe=>{ e with key:=.int f k,val:=a.eval v }).toList[m]? = some x->∃y,F.toList[m]? = some y/\x.born=y.born/\(m≠j->x=y)/\(m=j->x.key=.int f k/\x.val=a.eval v):=λm x hx=>by
    have hx:(F.modify j λe=>{ e with key:=.int f k,val:=a.eval v })[m]? = some x:=by rw[<- wv];exact hx
    rw[nP]at hx;split at hx
    .rename_i K;subst K;rw[b1]at hx;simp at hx;subst hx;exact⟨a1,by simpa using b1,rfl,λh=>absurd rfl h,λ_=>⟨rfl,rfl⟩⟩
    .rename_i K;exact⟨x,by simpa using hx,rfl,λ_=>rfl,λh=>absurd h.symm K⟩
   refine⟨by have:=E.len;simp at this ⊢;exact this,λm e' a' Q I=>?_,λM S x y Hc hx H=>?_⟩
   .obtain⟨y,y1,y2,y3,y4⟩:=qo m a' I;by_cases K:m=j
    .subst K;have Qc:=(Xa.1 g1).1;rw[Xb Qc]at Q;cases Q;obtain⟨d1,d2⟩:=y4 rfl;have:y=a1:=by have dL:F.toList[m]? = some a1:=(by simpa using b1);rw [y1] at dL; simpa using dL
     subst this;exact⟨d1,by rw[d2];exact e3.tr T,by rw[y2,b4],by rw[y2];exact b5⟩
    .rw[JZ (Q8 K)]at Q;rw[y3 K];exact E'.at_ m e' y Q y1
   .obtain⟨x',yR,KF,_⟩:=qo M x hx;obtain⟨y',Cc,ZW,_⟩:=qo S y H;rw[KF,ZW];exact E.inc M S x' y' Hc yR Cc)
  exact⟨Go.undef,_,R,.inr ⟨by simp[execOp,ho,e1,U,Zl],rfl⟩,T,O,.cl _ _ (.undef _),B,QcR N _⟩
 | none=>
  obtain⟨g1,_⟩:=SN Y;have Zl:=QnX (P:=P) (w:=w) (k:=k) Hb Z5 N E.keys (E.Fq g1) (a.eval v);have J:Ki f c C k (Qp s.fr v)=QR f (c+1) (C++[⟨k,Qp s.fr v,c⟩]):=by simp only[Ki,Y]
  rw[J];obtain⟨u,rfl,T,O,B⟩:=dI r Zm h2 ZF N (c':=c+1) (es':=C++[⟨k,Qp s.fr v,c⟩]) (ens':=F.push { key:=.int f k,val:=a.eval v,born:=c }) (λV u T=>by
   have E':=E.tr T;have hl:C.length=F.size:=by have:=E.len;simpa using this
   refine⟨by simp[hl],λm e' a' Q I=>?_,λM S x y Hc hx H=>?_⟩
   .have I:(F.push { key:=.int f k,val:=a.eval v,born:=c })[m]? = some a':=by rw[<- wv];exact I
    rw[bA]at I;rcases Ys Q with h1|⟨h1,JC⟩
    .have:=(Xa.1 h1).1;rw[Qe ω]at I;obtain⟨k1,k2,k3,k4⟩:=E'.at_ m e' a' h1 (by simpa using I);exact⟨k1,k2,k3,ω⟩
    .subst JC;rw[Qf ω]at I;cases I;exact⟨rfl,e3.tr T,rfl,σ⟩
   .have hx:(F.push { key:=.int f k,val:=a.eval v,born:=c })[M]? = some x:=by rw[<- wv];exact hx
    have H:(F.push { key:=.int f k,val:=a.eval v,born:=c })[S]? = some y:=by rw[<- wv];exact H
    rw[bA]at hx H;have Kl:∀(i:Nat) (z:MapEntry),F[i]? = some z->z.born<c:=λi z hz=>by
     have Qc:=(WO.1 hz).1;exact(E.at_ i (C[i]'ω) z (QT ω) (by simpa using hz)).2.2.2
    split at hx
    .split at H
     .omega
     .have:=(WO.1 H).1;omega
    .split at H
     .cases H;exact Kl M x hx
     .exact E.inc M S x y Hc (by simpa using hx) (by simpa using H))
  exact⟨Go.undef,_,R,.inr ⟨by simp[execOp,ho,e1,U,Zl],rfl⟩,T,O,.cl _ _ (.undef _),B,QcR N _⟩
def Qoa(u:Jl P L){v}(b:o.op=.mapUpdate t x i v){p}{c}(h:Ha L s.h t (Qp s.fr x) (Qp s.fr i) (Qp s.fr v)=some (p,c))(f:p):j8 P base nt o s c .undef:=λZ e a w r m=>by
 obtain⟨v,d,F,E,C,B,z,y,_⟩:=QcS u b h f Z e a w r m;exact⟨v,d,F,E,C,B,z,y,λj=>by simp[calm,b]at j⟩
def dM(L:Jr)(h:List Ob)(t:TypeId)(x i:D):Option (Prop × List Ob):=match ty L t with
 | some ⟨.map kt _,_,_,_⟩=>match ty L kt with
  | some ⟨.int q,_,_,_⟩=>match i with
   | .raw (.int a k)=>match x with
    | .mref l g=>match h[l]? with
     | some o=>some (IsMap q o/\a=q/\g=0/\o.kd.ro=false,h.set l (QR q (clockOf o) (Kc (DI o) k)))
     | none=>none
    | .raw (.map none)=>some (a=q,h)
    | _=>none
   | _=>none
  | _=>none
 | _=>none
def Qob(hL:Jl P L){R:TypeId}(C:o.op=.call ⟨.builtin .delete,#[x,i],#[t,R]⟩){p}{h'}(h:dM L s.h t (Qp s.fr x) (Qp s.fr i)=some (p,h'))(hp:p):j8 P base nt o s h' (.tup []):=by
 unfold dM at h;split at h;case h_2=>cases h
 split at h;case h_2=>cases h
 rename_i kt et _ _ _ ht _ q _ _ _ wK;have Hb:=Fe (hL t _ ht) rfl;have Z5:=Dy (hL kt _ wK) rfl;split at h;case h_2=>cases h
 rename_i q' k m;split at h;case h_3=>cases h
 case h_2 hx=>
  simp only[Q4,Zh]at h;obtain⟨rfl,rfl⟩:=h;subst hp;intro Z I a w r KZ;have f:=r.eval i;rw[m]at f;have f:=JJ f;have u:=r.eval x;rw[hx]at u;have u:=JJ u;have h3:=G8 (P:=P) (w:=w) (k:=k) Z5 true 9999;refine⟨.tuple #[],w,I,.inl ?_,Tr.refl _ _ _,r.o,.tup [] [] rfl (λi m=>absurd m (Xc i)),Below.refl _ _,λ_=>Ext.refl w⟩;rw[vn C];simp[u,f,builtin,Builtin.delete_,underlying,Hb,h3]
 case h_1 l g hx=>
  split at h;case h_2=>cases h
  rename_i ob Y;simp only[Q4,Zh]at h;obtain⟨rfl,rfl⟩:=h;obtain⟨J,rfl,rfl,H⟩:=hp;obtain⟨kd,c,v,J1,Bc,J2,wL,J⟩:=J.get;rw[wL,J2];have Qr:kd=.map:=by rw[Bc]at H;cases kd<;>first|rfl|(exfalso;revert J1;decide)|(exfalso;revert H;decide)
  subst Qr;rw[show Ww .map q' c v=QR q' c v from rfl]at J;subst J;intro Z I a w r KZ;have f:=r.eval i;rw[m]at f;have f:=JJ f;obtain⟨b,z,u,h2,M,K,E⟩:=dH (kd:=.map) r rfl hx Y;have M:=M rfl;cases hf:Ja v k with
  | some d=>
   obtain⟨j,e,W,g2,g3,g4,g5,V⟩:=dF hf;obtain⟨a1,b1,b2,b3,b4,b5,b6⟩:=E.XW W g2 g4;have Zl:=QnY (P:=P) (w:=w) (k:=k) (ty:=o.type) (kt2:=R) Hb Z5 K E.keys b1 b2 b6;rw[V];have a2:j<z.size:=(WO.1 b1).1;obtain⟨Q,rfl,T,O,B⟩:=dI r Y h2 M K (c':=c) (es':=v.eraseIdx j) (ens':=z.eraseIdxIfInBounds j) (λQk Q T=>by
    have E':=E.tr T;have hl:v.length=z.size:=by have:=E.len;simpa using this
    have a0:(z.eraseIdxIfInBounds j).toList=z.toList.eraseIdx j:=by simp[Array.eraseIdxIfInBounds,a2,Array.toList_eraseIdx]
    rw[a0];refine⟨by simp[List.length_eraseIdx,hl],λi' e' a' N F=>?_,λi1 i2 x y Hc hx S=>?_⟩
    .rw[List.getElem?_eraseIdx]at N F;split at N
     .rw[Qf ‹_›]at F;exact E'.at_ _ _ _ N F
     .rw[Qe ‹_›]at F;exact E'.at_ _ _ _ N F
    .rw[List.getElem?_eraseIdx]at hx S;split at hx<;>split at S<;>exact E.inc _ _ x y ω hx S)
   refine⟨.tuple #[],_,I,.inl ?_,T,O,.tup [] [] rfl (λi m=>absurd m (Xc i)),B,λU=>by simp[calm,C]at U⟩;rw[vn C];simp[u,f,builtin,Zl]
  | none=>
   obtain⟨W,_,V⟩:=SN hf;have Zl:=QnZ (P:=P) (w:=w) (k:=k) (ty:=o.type) (kt2:=R) Hb Z5 K E.keys (E.Fq W);rw[V];obtain⟨Q,rfl,T,O,B⟩:=dI r Y h2 M K (c':=c) (es':=v) (ens':=z) (λQk Q T=>E.tr T);refine⟨.tuple #[],_,I,.inl ?_,T,O,.tup [] [] rfl (λi m=>absurd m (Xc i)),B,λU=>by simp[calm,C]at U⟩;rw[vn C];simp[u,f,builtin,Zl]
def He(l c d:Nat)(a:List Nat):Nat->List D
 | 0=>[.mref l 0]
 | 1=>[.raw (.int .i64 c)]
 | 2=>[.raw (.int .i64 d)]
 | r+3=>match a[r]? with
  | some b=>[.raw (.int .i64 b)]
  | none=>[.undef]
def Yw(l c b:Nat)(a:List Nat):Ob:=⟨.iter,0,1,a.length+3,He l c b a⟩
def dN(L:Jr)(h:List Ob)(t:TypeId)(x:D):Option (Prop × List Ob × D):=match ty L t with
 | some ⟨.map _ _,_,_,_⟩=>match x with
  | .mref l g=>match h[l]? with
   | some o=>some (IsMap .i64 o/\g=0,h++[Yw l (clockOf o) (clockOf o) []],.mref h.length 0)
   | none=>none
  | _=>none
 | _=>none
def QcT{Z}{h}{j}{w:World}{l c e}{a}{b m}{d:Array Nat}(r:w.heap[b]? = some (.mapIter (some m) c d e))(f:d.toList=a)(p:QF Z h j w (.mref l 0) (.map (some m))):KL Z h j w (Yw l c e a) b 0:=by
 subst f;refine KL.Qcj rfl ⟨rfl,rfl,m,c,e,d,r,by simp[Yw],λi _=>?_,p,.cl _ _ (.raw _),.cl _ _ (.raw _),λi s f=>?_⟩
 .show (He l c e d.toList i).length=1;unfold He;split<;>(try split)<;>rfl
 .have f:d.toList[i]? = some s:=by simpa using f
  show QF Z h j w (nth (He l c e d.toList (i+3)) 0) _;have:He l c e d.toList (i+3)=[.raw (.int .i64 s)]:=by simp only[He,f]
  rw[this];exact .cl _ _ (.raw _)
def QcU{Z}{h}{r}{w:World}{l c j}{a}{b p}(x:KL Z h r w (Yw l c j a) b p):p=0/\∃(m:Nat) (f:Array Nat),w.heap[b]? = some (.mapIter (some m) c f j)/\f.toList=a/\QF Z h r w (.mref l 0) (.map (some m)):=by
 obtain⟨H,_,m,d,e,f,F,E,_,C,B,z,y⟩:=x.iter rfl;have K:d=c:=by have:=JJ B;simp at this;omega
 have J:e=j:=by have:=JJ z;simp at this;omega
 subst K;subst J;refine⟨H,m,f,F,?_,C⟩;have M:a.length=f.size:=by simpa[Yw] using E
 apply AO;intro i;by_cases u:i<f.size
 .have v:=y i f[i] (jV u);have I:(Yw l d e a).row (i+3)=[.raw (.int .i64 (a[i]'ω))]:=by
   show He l d e a (i+3)=_;simp only[He,QT (show i<a.length from ω)]
  rw[I]at v;have:=JJ v;simp at this;rw[QT (show i<f.toList.length by simpa using u),QT (show i<a.length from ω)];simp only[Array.getElem_toList,Q4];omega
 .rw[B4 ξ,B4 ω]
def Qoe(I:Jl P L)(H:o.op=.range t x){p}{y}{d}(h:dN L s.h t (Qp s.fr x)=some (p,y,d))(F:p):j8 P base nt o s y d:=by
 unfold dN at h;split at h;case h_2=>cases h
 rename_i kt et _ _ _ C;split at h;case h_2=>cases h
 rename_i l g hx;split at h;case h_2=>cases h
 rename_i ob K;simp only[Q4,Zh]at h;obtain⟨rfl,rfl,rfl⟩:=h;obtain⟨m,rfl⟩:=F;obtain⟨R,c,U,Q,_,O,_,m⟩:=m.get;rw[O];subst m;intro Z j a w r B;obtain⟨b,V,z,S,_,u,E⟩:=dH r Q hx K;have M:=Qn0 (P:=P) (w:=w) (Fe (I t _ C) rfl) u;have e:∀f,f<w.heap.size->(w.alloc (.mapIter (some b) c #[] c)).heap[f]? = w.heap[f]? := λf u=>xK w _ f u;have N:(w.alloc (.mapIter (some b) c #[] c)).heap[w.heap.size]? = some (.mapIter (some b) c #[] c):=heap_alloc_new w _;have T:Tr s.h j w (s.h++[Yw l c c []]) (j++[some (w.heap.size,0)]) (w.alloc (.mapIter (some b) c #[] c)):=Tr.push r.o e _ _ (by intro b q h;simp at h;omega);have J:j.length=s.h.length:=r.o.len;have v:=r.eval x;rw[hx,z]at v;refine⟨.pointer (some ⟨w.heap.size,0,none⟩),w.alloc (.mapIter (some b) c #[] c),j++[some (w.heap.size,0)],.inl ?_,T,?_,?_,Fj B _,λ_=>e⟩
 .simp[execOp,H,z,M]
 .exact Zo.Sz r.o e _ (Qs _) B (QcT N rfl (v.tr T))
 .exact .mref _ _ (Yw l c c []) (some (w.heap.size,0)) w.heap.size σ (by rw[<- J];simp) ⟨by simp[Yw,Kd.ty],rfl⟩ (Qs _) (λ_=>rfl)
def Qof(ho:o.op=.next x false){Z}{M}{a}{w:World}(r:Rel Z base nt s M a w)(KZ:base<=w.heap.size){J c}{u}{d}(hx:Qp s.fr x=.mref J 0)(S:s.h[J]? = some (Yw l c c d)){W:Kd}(J1:W.ty=1)(Zm:s.h[l]? = some (Ww W q c u)):
  ((∀e∈u,e.b∈d)/\(execOp a.eval o).run P w=.ok (.value (.tuple #[.bool false])) w) \/
  ∃e∈u,e.b ∉ d/\∃v f,(execOp a.eval o).run P w=.ok (.value v) f/\Tr s.h M w (s.h.set J (Yw l c c (d++[e.b]))) M f/\Zo Z base (s.h.set J (Yw l c c (d++[e.b]))) M f /\
   QF Z (s.h.set J (Yw l c c (d++[e.b]))) M f (.tup [.raw (.bool true),.raw (.int q e.k),e.v]) v/\Below base w f:=by
 have e1:=r.eval x;rw[hx]at e1;obtain⟨o',p,b,h1,O,h3,h4,h5⟩:=GW e1;rw[S]at h1;cases h1;have h5:=h5 rfl;rw[h5]at O;obtain⟨ZF,yP⟩:=r.o.at_ J _ b 0 S O;obtain⟨_,m,I,hb,Cn,SO⟩:=QcU yP;have hv:a.eval x=.pointer (some ⟨b,0,none⟩):=h3.2;obtain⟨o2,p2,bm,k1,k2,K,k4,Y⟩:=GW SO;rw[Zm]at k1;cases k1;have Y:=Y rfl;rw[Y]at k2;have K:=K.2;rw[show (Ww W q c u).kd.ty=1 from J1]at K;have K:m=bm:=by simpa[Sx] using K
 subst K;obtain⟨Bd,oW⟩:=r.o.at_ l _ m 0 Zm k2;obtain⟨_,H,LI,E⟩:=dG J1 oW;have hl:u.length=H.toList.length:=E.len;have N:∀y∈H.toList,y.born<c:=λy hy=>by
  obtain⟨j,C⟩:=GP hy;have Qc:=(Xa.1 C).1;exact(E.at_ j (u[j]'ω) y (QT ω) C).2.2.2
 rcases run_next_at (P:=P) w o.type b m c c I H c hb LI N (Qs _) with ⟨F,Q⟩|⟨y,F,U,Q,g3⟩
 .refine .inl ⟨λe he=>?_,by simp[execOp,ho,hv,Q]⟩;obtain⟨j,C⟩:=GP he;have Qc:=(Xa.1 C).1;obtain⟨_,_,e3,_⟩:=E.at_ j e (H.toList[j]'ω) C (QT ω);have oX:∀z∈H.toList,I.contains z.born=true:=λz hz=>by
   have:leftOf H I=#[]:=Array.eq_empty_of_size_eq_zero F;unfold leftOf at this;rw[Array.filter_eq_empty_iff]at this;have:=this z (by simpa using hz);simpa using this
  have:=oX _ (zF (show j<H.toList.length from ω));rw[e3]at this;rw[<- Cn];simpa using this
 .obtain⟨j,C⟩:=GP (show y∈H.toList by unfold leftOf at F;simp at F;simpa using F.1);have Qc:=(Xa.1 C).1;obtain⟨d1,d2,d3,d4⟩:=E.at_ j (u[j]'ω) y (QT ω) C;have Hf:y.born ∉ I.toList:=by unfold leftOf at F;simp at F;simpa using F.2
  refine .inr ⟨u[j]'ω,zF _,by rw[<- d3,<- Cn];exact Hf,?_⟩;rw[<- d3];have hh:U.heap=w.heap:=by rcases Q with rfl|rfl<;>rfl
  generalize R:ChangeMaps.setBlock U b (.mapIter (some m) c (I.push y.born) c)=f at g3;have kh:=vm hb;have V:f.heap=w.heap.setIfInBounds b (.mapIter (some m) c (I.push y.born) c):=by rw[<- R,<- hh];rfl
  have e:∀k,k≠b->f.heap[k]? = w.heap[k]? := λk hk=>by rw[V];simp[AN,Q8 hk]
  have JN:f.heap[b]? = some (.mapIter (some m) c (I.push y.born) c):=by rw[V];simp[AN,kh]
  have T:=Tr.LG (w':=f) r.o S O e (o':=Yw l c c (d++[y.born])) rfl rfl rfl (by rw[hb];intro c el h;cases h);refine⟨_,f,by simp only[execOp,ho,hv,Sem.run_bind,g3,Result.andThen_ok];rfl,T,Zo.LG (hro:=rfl) r.o S O e T (QcT JN (by rw[Array.toList_push,Cn]) (SO.tr T)),?_,?_⟩
  .rw[d1];exact .tup _ [.bool true,.int q (u[j]'ω).k,y.val] rfl λi hi=>match i,hi with
    | 0,_=>.cl _ _ (.raw _)
    | 1,_=>.cl _ _ (.raw _)
    | 2,_=>d2.tr T
  .have B:Below base w U:=by
    rcases Q with rfl|rfl
    .exact .refl _ _
    .exact(Below.refl _ _).drew
   refine B.trans (Od (ZF rfl) (λk hk=>by rw[hh];exact e k hk) (by rw[V,hh];simp) (by rw[<- R];rfl) (by rw[<- R];rfl) (by rw[<- R];rfl))
end
def WV(k:List Int):Value:=.agg (k.map (Value.int .u16)).toArray
structure XX where
 k:List Int
 v:D
 b:Nat
def ZN(c:Nat)(a:List XX):Nat->List D
 | 0=>[.raw (.int .i64 c),.undef,.undef]
 | r+1=>match a[r]? with
  | some e=>[.raw (WV e.k),e.v,.raw (.int .i64 e.b)]
  | none=>[.undef,.undef,.undef]
def vw(b:Kd)(c:Nat)(a:List XX):Ob:=⟨b,0,3,a.length+1,ZN c a⟩
def wN(c:Nat)(a:List XX):Ob:=vw .map c a
def Xt:List XX->List Int->Option D
 | [],_=>none
 | e::r,k=>if e.k=k then some e.v else Xt r k
def Qog:Value->Int
 | .int _ n=>n
 | _=>0
def oZ:D->List Int
 | .raw (.agg a)=>a.toList.map Qog
 | _=>[]
def Be(o:Ob):List XX:=(List.range (o.n - 1)).map λi=>⟨oZ (nth (o.row (i+1)) 0),nth (o.row (i+1)) 1,(G9 (nth (o.row (i+1)) 2)).toNat⟩
def Oj(o:Ob):Prop:=o.kd.ty=1/\o=vw o.kd (clockOf o) (Be o)/\∀e∈Be o,e.k.length=4
def Qoh(k):oZ (.raw (WV k))=k:=by
 simp only[oZ,WV,Dw]
 conv=>rhs;rw[<- List.map_id k]
 exact EX λn _=>rfl
theorem QcV(a:Kd)(c)(b:List XX):clockOf (vw a c b)=c:=by simp[clockOf,vw,ZN,nth,G9]
theorem QcW(b:Kd)(c)(a:List XX):Be (vw b c a)=a:=by
 apply AO;intro i;simp only[Be,vw,ZN,Lj,KX,bI];by_cases h:i<a.length
 .simp[bI h,nth,G9,h,Qoh]
 .rw[B4 (by simpa using h)];simp[h]
theorem QcX(c)(a:List XX):clockOf (wN c a)=c:=QcV _ _ _
theorem dO(c)(a:List XX):Be (wN c a)=a:=QcW _ _ _
theorem Qoi(c)(a:List XX):Oj (wN c a)=∀e∈a,e.k.length=4:=by
 refine propext ⟨λh=>by have:=h.2.2;rwa [dO]at this,λh=>⟨rfl,?_,by rwa [dO]⟩⟩;rw[QcX,dO];rfl
theorem QcY(o:Ob):Be o.ro=Be o:=rfl
theorem Qoj(o:Ob):Oj o.ro=Oj o:=by
 obtain⟨k,g,z,n,r⟩:=o;simp only[Oj,oU,QcY];simp only[Ob.ro,vw,Kd.toRo_ty,Ob.mk.injEq,AT]
theorem Qok(c)(a:List XX):(wN c a).kd=.map:=rfl
def QcZ(q):QR q 0 []=wN 0 []:=by
 have:Bb q 0 []=ZN 0 []:=by
  funext r;cases r<;>rfl
 unfold QR Ww wN vw;rw[this];rfl
def Qc0:∀{c:List XX} {k:List Int} {v:D},Xt c k=some v->∃(j:Nat) (e:XX),c[j]? = some e/\e.k=k/\e.v=v/\∀(i:Nat) (b:XX),i<j->c[i]? = some b->b.k≠k
 | [],_,_,h=>by simp[Xt]at h
 | e::r,k,v,h=>by
  simp only[Xt]at h;by_cases a:e.k=k
  .rw[Qf a]at h;cases h;exact⟨0,e,rfl,a,rfl,λi _ d=>absurd d (Xc i)⟩
  .rw[Qe a]at h;obtain⟨j,b,m,l,g,f⟩:=Qc0 h;refine⟨j+1,b,by simpa using m,l,g,λi x d hx=>?_⟩;cases i with
   | zero=>simp at hx;subst hx;exact a
   | succ i=>exact f i x ω (by simpa using hx)
def Qc1:∀{b:List XX} {k:List Int},Xt b k=none->∀e∈b,e.k≠k
 | [],_,_=>σ
 | e::r,k,h=>by
  simp only[Xt]at h;by_cases a:e.k=k
  .rw[Qf a]at h;cases h
  .rw[Qe a]at h;intro x hx;rcases QG.1 hx with rfl|h2
   .exact a
   .exact Qc1 h x h2
def Qc2:∀(a b:List Int),a.length=b.length->vu (a.map (Value.int .u16)) (b.map (Value.int .u16))=some (decide (a=b))
 | [],[],_=>rfl
 | [],_::_,h=>by simp at h
 | _::_,[],h=>by simp at h
 | x::a,y::b,h=>by
  simp only[Jo,vu,zJ,Qc2 a b (by simpa using h)];have:IntKind.same .u16 .u16=true:=rfl;simp only[this,wB,Q4,yI];by_cases d:x=y<;>by_cases c:a=b<;>simp[d,c]
def Qc3(k:List Int):(k.map (Value.int .u16)).map cat=List.replicate k.length 0:=by
 induction k with
 | nil=>rfl
 | cons a k b=>simp only[Jo,VQ,bO,b];rfl
structure HK (P:Program) (kt:TypeId):Prop where
 eq:oP P kt [0,0,0,0]
 arr:∃u,P.underlying kt=some (.array 4 u)/\P.underlying u=some (.int .u16)
section
variable {P:Program}{kt:TypeId}(H:HK P kt)
include H
theorem HK.equal(w){a b:List Int}(d:a.length=4)(c:b.length=4):(Op.equal kt (WV a) (WV b)).run P w=.ok (decide (a=b)) w:=by
 obtain⟨u,e,_⟩:=H.arr;have:=de 60 10000 kt [0,0,0,0] ω H.eq.shape w (a.map (.int .u16)) (b.map (.int .u16)) (decide (a=b)) (by rw[Qc3,d];rfl) (by rw[Qc3,c];rfl) (Qc2 a b (by rw[d,c]));unfold valOf at this;rw[e]at this;exact this
theorem HK.check(l)(w){k:List Int}(t:k.length=4):(checkKey l 10000 kt (WV k)).run P w=.ok () w:=by
 obtain⟨u,g,a⟩:=H.arr;obtain⟨i,s⟩:=info_of_underlying a;have d:qY P 59 u=some [0]:=by unfold qY;rw[a]
 have f:P.cellsOf u=1:=by
  have h:=H.eq.shape;unfold qY at h;rw[g]at h;simp only[d]at h;split at h
  .assumption
  .cases h
 have m:∀j,j<4->∃n,(part u (k.map (Value.int .u16)).toArray j).run P w=.ok (.int .u16 n) w:=λj e=>by
  have:=SJ d f w (k.map (Value.int .u16)) j ξ;refine⟨k.getD j 0,?_⟩;rw[this];unfold valOf;rw[a];have:j<k.length:=ω;simp[Q5,this]
 rw[show (10000:Nat)=9999+1 from rfl];unfold WV;rw[Instr.checkKey];simp only[Sem.run_bind,run_underlying g,Result.andThen_ok];simp only[Std.Legacy.Range.forIn_eq_forIn_range',Std.Legacy.Range.size,B8,Nat.add_one_sub_one,Nat.div_one];have b:∀j∈List.range' 0 4 1,j<4:=λj e=>by simp[List.mem_range']at e;omega
 generalize List.range' 0 4 1=c at b;induction c with
 | nil=>simp
 | cons j c q=>
  obtain⟨n,p⟩:=m j (b j σ);have o:=G8 (P:=P) (w:=w) (k:=n) a l 9998;simp only[List.forIn_cons,Sem.run_bind,run_sizeOf w s,Result.andThen_ok,f,Nat.mul_one,p,o,Sem.run_pure];exact q λy r=>b y (by simp[r])
theorem HK.Fq(w){k:List Int}(c:k.length=4):∀(b:List MapEntry) (i:Nat),(∀e∈b,∃a,a.length=4/\e.key=WV a/\a≠k)->(findAsking kt (WV k) b i).run P w=.ok none w
 | [],_,_=>by simp[findAsking]
 | e::b,i,h=>by
  obtain⟨a,g,f,d⟩:=h e σ;have:=H.equal w c g;rw[QU (Q8 d)]at this;simp[findAsking,f,this,HK.Fq w c b (i+1) λx hx=>h x (by simp[hx])]
theorem HK.XW(w){k:List Int}(d:k.length=4):∀(a:List MapEntry) (b j:Nat) (e:MapEntry),a[j]? = some e->e.key=WV k->(∀(i:Nat) (f:MapEntry),i<j->a[i]? = some f->∃c,c.length=4/\f.key=WV c/\c≠k) ->
  (findAsking kt (WV k) a b).run P w=.ok (some (b+j,e.val)) w
 | [],_,_,_,h,_,_=>by simp at h
 | x::a,b,0,e,h,hx,_=>by
  simp at h;subst h;have:=H.equal w d d;rw[Q1 rfl]at this;simp[findAsking,hx,this]
 | x::a,b,j+1,e,h,hx,g=>by
  obtain⟨c,p,o,n⟩:=g 0 x ω rfl;have:=H.equal w d p;rw[QU (Q8 n)]at this;have l:=HK.XW w d a (b+1) j e (by simpa using h) hx λi f q m=>g (i+1) f ω (by simpa using m);simp[findAsking,o,this,l];omega
theorem HK.find(w){k}{a:List MapEntry}{r}(h:(findAsking kt (WV k) a 0).run P w=.ok r w):(findKey kt (WV k) a).run P w=.ok r w:=by
 obtain⟨u,b,_⟩:=H.arr;cases a with
 | nil=>simpa[findKey,underlying,b,findNow,findAsking] using h
 | cons e a=>
  simp only[findKey,underlying,b,findNow,sameNow,Sem.run_bind];simpa[underlying,b] using h
end
structure Co (Z:Nat->Prop) (h:List Ob) (pl:List Pl) (w:World) (c:Nat) (es:List XX) (QV:List MapEntry):Prop where
 len:es.length=QV.length
 at_:∀(i:Nat) (e:XX) (a:MapEntry),es[i]? = some e->QV[i]? = some a->a.key=WV e.k/\QF Z h pl w e.v a.val/\a.born=e.b/\a.born<c
 inc:∀(i j:Nat) (a a':MapEntry),i<j->QV[i]? = some a->QV[j]? = some a'->a.born<a'.born
def Qol{Z}{h}{e}{w:World}{c}{d}{b}{k:Array MapEntry}(o:w.heap[b]? = some (.map k c))(E:Co Z h e w c d k.toList){l:Kd}(u:l.ty=1):KL Z h e w (vw l c d) b 0:=by
 refine KL.ofMap u ⟨rfl,rfl,k,c,o,by have:=E.len;simp at this;simp[vw,this],λi _=>?_,.cl _ _ (.raw _),λi a n=>?_,λi j a s t g f=>E.inc i j a s t (by simpa using g) (by simpa using f)⟩
 .show (ZN c d i).length=3;cases i with
  | zero=>rfl
  | succ i=>simp only[ZN];split<;>rfl
 .have Qc:=(WO.1 n).1;have m:i<d.length:=by have:=E.len;simp at this;omega
  obtain⟨g,f,q,p⟩:=E.at_ i d[i] a (QT m) (by simpa using n);have r:ZN c d (i+1)=[.raw (WV d[i].k),d[i].v,.raw (.int .i64 d[i].b)]:=by simp[ZN,m]
  show _/\QF Z h e w (nth (ZN c d (i+1)) 0) _/\QF Z h e w (nth (ZN c d (i+1)) 1) _/\QF Z h e w (nth (ZN c d (i+1)) 2) _;rw[r];exact⟨p,by rw[g];exact .cl _ _ (.raw _),f,by rw[q];exact .cl _ _ (.raw _)⟩
def Qom{Z}{h}{l}{w:World}{c}{g}{b p}{k:Kd}(M:k.ty=1)(x:KL Z h l w (vw k c g) b p):p=0/\∃f:Array MapEntry,w.heap[b]? = some (.map f c)/\Co Z h l w c g f.toList:=by
 obtain⟨F,_,f,d,E,C,_,B,z,y⟩:=x.map M;have t:d=c:=by
  have:=JJ B;simp at this;omega
 subst t;have r:g.length=f.size:=by simpa[vw] using C
 refine⟨F,f,E,by simpa using r,λi e a s u=>?_,λi j a K L I H=>y i j a K L (by simpa using I) (by simpa using H)⟩;obtain⟨q,o,n,m⟩:=z i a (by simpa using u);have J:(vw k d g).row (i+1)=[.raw (WV e.k),e.v,.raw (.int .i64 e.b)]:=by simp[vw,ZN,s]
 rw[J]at o n m;have:=JJ o;have v:=JJ m;refine⟨this,n,?_,q⟩;simp at v;omega
def Co.tr{Z}{h f}{d j}{w b}(T:Tr h d w f j b){c}{g}{k}(E:Co Z h d w c g k):Co Z f j b c g k:=
 ⟨E.len,λi e a m l=>let ⟨p,o,n⟩:=E.at_ i e a m l;⟨p,o.tr T,n⟩,E.inc⟩
def Hg:List D->Option (List Int)
 | []=>some []
 | .raw (.int .u16 n)::r=>match Hg r with
  | some l=>some (n::l)
  | none=>none
 | _=>none
def Qc4:∀{b:List D} {l:List Int},Hg b=some l->Fp b=some (l.map (Value.int .u16))
 | [],l,e=>by simp[Hg]at e;subst e;rfl
 | c::b,l,e=>by
  unfold Hg at e;split at e
  .rename_i a;cases a
  .rename_i n r a;simp only[yI]at a;obtain⟨rfl,rfl⟩:=a;split at e
   .rename_i f d;simp only[Q4]at e;subst e;simp[Fp,Qc4 d]
   .cases e
  .cases e
def xO(L:Jr)(E:DG)(a:TypeId)(b:List D):Option (List Int):=match ty L a with
 | some ⟨.array n u,_,_,_⟩=>match ty L u,Ci E a with
  | some ⟨.int q,_,_,_⟩,some l=>bif Nat.beq n 4&&IntKind.same q .u16&&LC l [0,0,0,0] then match Hg b with
    | some k=>bif Nat.beq k.length 4 then some k else none
    | none=>none
   else none
  | _,_=>none
 | _=>none
def Qon{P:Program}{t e:TypeId}{n}{y:Ty}(h:Xe P t y)(b:y.k=.array n e):P.underlying t=some (.array n e):=by
 obtain⟨d,c,a⟩:=h.under;rw[b]at a;rw[c];cases d<;>simp[TK.of]at a;rw[a.1,a.2]
def Qc5{P}{L}{E}(d:Jl P L)(r:Ba P E){b:TypeId}{e}{k:List Int}(h:xO L E b e=some k):HK P b/\k.length=4/\Hg e=some k:=by
 unfold xO at h;split at h;case h_2=>cases h
 rename_i n u _ _ _ i;split at h;case h_2=>cases h
 rename_i q _ _ _ l g p;obtain⟨a,h⟩:=j7 h;simp only[ZX]at a;have m:=Sq a.1.1;have j:=IntKind.n9 a.1.2;have o:=df a.2;subst m;subst j;subst o;split at h;case h_2=>cases h
 rename_i f s;cases c:Nat.beq f.length 4 with
 | false=>rw[c]at h;cases h
 | true=>
  rw[c]at h;cases h;exact⟨⟨r _ _ p,u,Qon (d b _ i) rfl,Dy (d u _ g) rfl⟩,Sq c,s⟩
section
variable {P:Program}{L:Jr}{E:DG}{base nt:Nat}{s:St}{o:Oper}{t:TypeId}{x i:Operand}
def Qc6{Z}{e}{a:Act}{w}(r:Rel Z base nt s e a w){c}{k}(h:Qp s.fr i=.agg c)(g:Hg c=some k):a.eval i=WV k:=by
 have b:=r.eval i;rw[h]at b;obtain⟨d,f,j,l⟩:=Lq b;rw[f,dh (Qc4 g) d j l];rfl
def Qc7{Z}{f}{a}{w}(r:Rel Z base nt s f a w){l c}{j}{d:Kd}(u:d.ty=1)(y:Qp s.fr x=.mref l 0)(q:s.h[l]? = some (vw d c j)):
  ∃b e,a.eval x=.map (some b)/\f[l]? = some (some (b,0))/\(d.ro=false->base<=b)/\w.heap[b]? = some (.map e c)/\Co Z s.h f w c j e.toList:=by
 have n:=r.eval x;rw[y]at n;obtain⟨F,p,b,m,h,B,H,g⟩:=GW n;rw[q]at m;cases m;have g:=g rfl;rw[g]at h;obtain⟨C,v⟩:=r.o.at_ l _ b 0 q h;obtain⟨_,e,z,E⟩:=Qom u v;have k:=B.2;have:(vw d c j).kd.ty=1:=u;rw[this]at k;exact⟨b,e,k,h,C,z,E⟩
def dP(L:Jr)(E:DG)(h:List Ob)(t:TypeId)(x i:D):Ev:=match ty L t with
 | some ⟨.map b c,_,_,_⟩=>match ty L c,i,x with
  | some a,.agg e,.mref l g=>match xO L E b e,h[l]? with
   | some k,some o=>some (Oj o/\g=0,match Xt (Be o) k with
    | some d=>.tup [d,.raw (.bool true)]
    | none=>.tup [DB a,.raw (.bool false)])
   | _,_=>none
  | _,_,_=>none
 | _=>none
def Co.keyed{Z:Nat->Prop}{h:List Ob}{j:List Pl}{w:World}{c:Nat}{b:List XX}{g:List MapEntry}(R:Co Z h j w c b g)(k:∀e∈b,e.k.length=4)(i:Nat)(a:MapEntry)(f:g[i]? = some a):∃e,b[i]? = some e/\e.k.length=4/\a.key=WV e.k:=by
 have d:i<b.length:=by have:=(Xa.1 f).1;rw[R.len];exact this
 exact⟨b[i],QT d,k _ (zF d),(R.at_ i b[i] a (QT d) f).1⟩
def Co.Fq{Z}{h}{j}{w}{c}{d}{f:List MapEntry}(R:Co Z h j w c d f)(q:∀e∈d,e.k.length=4){g:TypeId}(H:HK P g){k:List Int}(m:k.length=4)(l:Xt d k=none)(b):(findKey g (WV k) f).run P b=.ok none b:=by
 refine H.find b (H.Fq b m f 0 λa p=>?_);obtain⟨i,n⟩:=GP p;obtain⟨e,v,u,r⟩:=R.keyed q i a n;exact⟨e.k,u,r,Qc1 l e (NR v)⟩
def Qoo(B:Jl P L)(hE:Ba P E)(Q:o.op=.lookup t x i true){p}{d}(h:dP L E s.h t (Qp s.fr x) (Qp s.fr i)=some (p,d))(hp:p):WJ P base nt o s d:=by
 intro Z pl a w r;unfold dP at h;split at h;case h_2=>cases h
 rename_i kt et _ _ _ ht;split at h;case h_2=>cases h
 rename_i ye cs l g WT n hx;split at h;case h_2=>cases h
 rename_i k u hk Zm;simp only[Q4,Zh]at h;obtain⟨rfl,rfl⟩:=h;obtain⟨⟨LH,y,C⟩,rfl⟩:=hp;obtain⟨H,J,J2⟩:=Qc5 B hE hk;have W:=Qc6 r n J2;obtain⟨M,J1⟩:∃M,M=u.kd:=⟨_,rfl⟩;obtain⟨c,hc⟩:∃c,c=clockOf u:=⟨_,rfl⟩;obtain⟨I,K⟩:∃I,I=Be u:=⟨_,rfl⟩;rw[<- J1]at LH y;rw[<- hc,<- K]at y;rw[<- K]at C ⊢;rw[y]at Zm;obtain⟨b,m,Y,_,_,q,R⟩:=Qc7 r LH hx Zm;have hx:=Fe (B t _ ht) rfl;have U:=λf:World=>H.check m.isEmpty f J;cases T:Xt I k with
 | some d=>
  obtain⟨j,e,V,g2,g3,g4⟩:=Qc0 T;have S:j<m.toList.length:=by rw[<- R.len];exact(Xa.1 V).1
  obtain⟨k1,k2,_⟩:=R.at_ j e m.toList[j] V (QT S);have F:∀f:World,(findKey kt (WV k) m.toList).run P f=.ok (some (j,m.toList[j].val)) f:=λf=>by
   have:=H.find f (H.XW f J m.toList 0 j m.toList[j] (QT S) (by rw[k1,g2]) λO a' JR We=>by
    obtain⟨e',q1,q2,q3⟩:=R.keyed C O a' We;exact⟨e'.k,q2,q3,g4 O e' JR q1⟩)
   rwa [JM]at this
  refine⟨.tuple #[m.toList[j].val,.bool true],.tup _ [_,.bool true] rfl (λi n=>match i,n with
   | 0,_=>by rw[<- g3];exact k2
   | 1,_=>.cl _ _ (.raw _)),λf v=>?_⟩
  simp[execOp,Q,Y,W,lookup,underlying,hx,getObj,Cj ((v b (vm q)).trans q),F f,U f]
 | none=>
  obtain⟨z,hz,zI⟩:=od (B et ye WT) (N:=free Z pl) w;refine⟨.tuple #[z,.bool false],.tup _ [z,.bool false] rfl (λi n=>match i,n with
   | 0,_=>.cl _ _ hz
   | 1,_=>.cl _ _ (.raw _)),λf v=>?_⟩
  have F:=R.Fq C H J T f;simp[execOp,Q,Y,W,lookup,underlying,hx,getObj,Cj ((v b (vm q)).trans q),F,U f,zI f]
def dQ(L:Jr)(E:DG)(h:List Ob)(t:TypeId)(x i v:D):Option (Prop × List Ob):=match ty L t with
 | some ⟨.map a _,_,_,_⟩=>match i,x with
  | .agg b,.mref l g=>match xO L E a b,h[l]? with
   | some k,some o=>some (Oj o/\Xt (Be o) k=none/\g=0/\o.kd.ro=false,h.set l (wN (clockOf o+1) (Be o++[⟨k,v,clockOf o⟩])))
   | _,_=>none
  | _,_=>none
 | _=>none
def Qop(hL:Jl P L)(hE:Ba P E){v}(W:o.op=.mapUpdate t x i v){p}{h'}(h:dQ L E s.h t (Qp s.fr x) (Qp s.fr i) (Qp s.fr v)=some (p,h'))(hp:p):j8 P base nt o s h' .undef:=by
 unfold dQ at h;split at h;case h_2=>cases h
 rename_i kt et _ _ _ ht;split at h;case h_2=>cases h
 rename_i cs l g hi hx;split at h;case h_2=>cases h
 rename_i k J hk I;simp only[Q4,Zh]at h;obtain⟨rfl,rfl⟩:=h;obtain⟨⟨LH,M,h4⟩,Y,rfl,B⟩:=hp;obtain⟨H,Hh,J2⟩:=Qc5 hL hE hk;obtain⟨C,J1⟩:∃C,C=J.kd:=⟨_,rfl⟩;obtain⟨c,n⟩:∃c,c=clockOf J:=⟨_,rfl⟩;obtain⟨j,Q⟩:∃j,j=Be J:=⟨_,rfl⟩;rw[<- J1]at LH M B;rw[<- n,<- Q]at M;rw[<- Q]at h4 Y ⊢;rw[<- n];have Qr:C=.map:=by cases C<;>first|rfl|(exfalso;revert LH;decide)|(exfalso;revert B;decide)
 rw[M,Qr]at I;intro Z S a w r KZ;have e2:=Qc6 r hi J2;have e3:=r.eval v;obtain⟨b,d,e1,h2,O,F,R⟩:=Qc7 r rfl hx I;have O:=O rfl;have Hb:=Fe (hL t _ ht) rfl;have q2:=R.Fq h4 H Hh Y w;have q3:=H.check false w Hh;have Zl:(mapUpdate t (.map (some b)) (WV k) (a.eval v)).run P w=.ok () { w with heap:=w.heap.setIfInBounds b (.map (d.push { key:=WV k,val:=a.eval v,born:=c }) (c+1)) }:=by
  simp[mapUpdate,underlying,Hb,getObj,Cj F,q2,q3,setObj,SM F]
 have kh:=vm F;generalize q:({ w with heap:=w.heap.setIfInBounds b (.map (d.push { key:=WV k,val:=a.eval v,born:=c }) (c+1)) }:World)=u at Zl;have e:∀c,c≠b->u.heap[c]? = w.heap[c]? := λc n=>by rw[<- q];simp[AN,Q8 n]
 have JN:u.heap[b]? = some (.map (d.push { key:=WV k,val:=a.eval v,born:=c }) (c+1)):=by rw[<- q];simp[AN,kh]
 have T:=Tr.LG (w':=u) r.o I h2 e (o':=wN (c+1) (j++[⟨k,Qp s.fr v,c⟩])) rfl rfl rfl (by rw[F];intro c el h;cases h);have R':=R.tr T;have hl:j.length=d.size:=by have:=R.len;simpa using this
 have RR:Co Z (s.h.set l (wN (c+1) (j++[⟨k,Qp s.fr v,c⟩]))) S u (c+1) (j++[⟨k,Qp s.fr v,c⟩]) (d.push { key:=WV k,val:=a.eval v,born:=c }).toList:=by
  refine⟨by simp[hl],λV e' a' Xs m=>?_,λK U x y Hc hx f=>?_⟩
  .have m:(d.push { key:=WV k,val:=a.eval v,born:=c })[V]? = some a':=by rw[<- wv];exact m
   rw[bA]at m;rcases Ys Xs with N|⟨N,JC⟩
   .have:=(Xa.1 N).1;rw[Qe ω]at m;obtain⟨k1,k2,k3,k4⟩:=R'.at_ V e' a' N (by simpa using m);exact⟨k1,k2,k3,ω⟩
   .subst JC;rw[Qf ω]at m;cases m;exact⟨rfl,e3.tr T,rfl,σ⟩
  .have hx:(d.push { key:=WV k,val:=a.eval v,born:=c })[K]? = some x:=by rw[<- wv];exact hx
   have f:(d.push { key:=WV k,val:=a.eval v,born:=c })[U]? = some y:=by rw[<- wv];exact f
   rw[bA]at hx f;have Kl:∀(i:Nat) (z:MapEntry),d[i]? = some z->z.born<c:=λi z hz=>by
    have Qc:=(WO.1 hz).1;exact(R.at_ i (j[i]'ω) z (QT ω) (by simpa using hz)).2.2.2
   split at hx
   .split at f
    .omega
    .have:=(WO.1 f).1;omega
   .split at f
    .cases f;exact Kl K x hx
    .exact R.inc K U x y Hc (by simpa using hx) (by simpa using f)
 refine⟨Go.undef,u,S,.inr ⟨by simp[execOp,W,e1,e2,Zl],rfl⟩,T,Zo.LG (hro:=rfl) r.o I h2 e T (Qol JN RR rfl),.cl _ _ (.undef _),?_,λn=>by simp[calm,W]at n⟩;exact Od O e (by rw[<- q];simp) (by rw[<- q]) (by rw[<- q]) (by rw[<- q])
end
end Go.Fg
