/- Contracts and laws on the way to the statement. No conditions. -/
import Derived.KernelRfl
import Derived.WalkKit
import Derived.WalkLawsBesides
import Derived.WalkSpells
import Derived.ChangeKeysEq
import Derived.Maps.RangeRun
set_option maxRecDepth 100000
set_option maxHeartbeats 16000000
set_option linter.unusedVariables false
set_option linter.unusedSimpArgs false
set_option linter.unusedSectionVars false
set_option linter.defProp false
namespace Go.Fg
open Go.RowKit (Below)
theorem Zc{α:Type}(x:α):∃y,y=x:=⟨x,rfl⟩
theorem zC{p q:Prop}(h:p)(e:p->q:=by (intro h;simpa using h)):q:=e h
theorem ω{p:Prop}(h:p:=by (omega)):p:=h
theorem σ{p:Prop}(h:p:=by (simp)):p:=h
theorem π{p:Prop}(h:p:=by (decide)):p:=h
theorem τ{p:Prop}(h:p:=by (kernel_rfl)):p:=h
theorem ξ{p:Prop}(h:p:=by ((simp;omega))):p:=h
theorem η{p:Prop}(h:p:=by (first|assumption|omega)):p:=h
theorem κ{p:Prop}(h:p:=by ((rw[IntKind.wrap_u64];omega))):p:=h
def yw:=@Array.getD_eq_getD_getElem?
def N7:=@Array.getElem!_eq_getD
def N8:=@Array.getElem?_append_left
def jY:=@Array.getElem?_eq_getElem
def W0:=@Array.getElem?_eq_some_iff
def nR:=@Array.getElem?_modify
def bL:=@Array.getElem?_push
def nS:=@Array.getElem?_setIfInBounds_ne
def wy:=@Array.getElem?_toList
def GU:=@Bool.and_eq_false_iff
def ZM:=@Bool.and_eq_true
def Lb:=@Bool.and_false
def jZ:=@Bool.eq_false_iff
def wz:=@Bool.eq_iff_iff
def N9:=@Bool.false_and
def qq:=@Bool.false_eq_true
def xE:=@Bool.false_ne_true
def GV:=@Bool.false_or
def Yx:=@Bool.not_eq_true
def qV:=@Bool.not_eq_true'
def GW:=@Bool.not_false
def BI:=@Bool.not_true
def EP:=@Bool.or_eq_false_iff
def BJ:=@Bool.or_eq_true
def Sj:=@Bool.true_and
def Sk:=@Bool.true_or
def j5:=@Classical.byContradiction
def Oa:=@Classical.not_forall
def bM:=@Function.comp_def
def qW:=@Int.le_refl
def ER:=@Int.mul_add
def Sl:=@Int.mul_le_mul_of_nonneg_left
def zO:=@Int.natCast_mul
def ES:=@Int.natCast_nonneg
def bO:=@Int.natCast_sub
def Oc:=@Int.toNat_natCast
def ET:=@Int.toNat_of_nonneg
def Od:=@List.Pairwise.filter
def nT:=@List.Pairwise.of_cons
def Oe:=@List.Perm.refl
def jt:=@List.all_eq_true
def Of:=@List.any_eq_false
def j6:=@List.any_eq_true
def WJ:=@List.append_assoc
def bT:=@List.append_inj
def JN:=@List.append_nil
def xF:=@List.cons.inj
def Lc:=@List.cons.injEq
def qs:=@List.cons_append
def bU:=@List.cons_ne_nil
def Sm:=@List.drop_eq_getElem_cons
def bV:=@List.drop_eq_nil_of_le
def nU:=@List.eq_nil_iff_forall_not_mem
def AA:=@List.ext_getElem?
def EU:=@List.filter_append
def bW:=@List.filter_congr
def vk:=@List.filter_cons
def Ld:=@List.filter_cons_of_neg
def Le:=@List.filter_cons_of_pos
def nV:=@List.filter_eq_nil_iff
def yx:=@List.filter_eq_self
def Sn:=@List.filter_map
def vm:=@List.find?_cons
def j7:=@List.find?_eq_none
def yy:=@List.find?_some
def EV:=@List.findIdx?_eq_none_iff
def Di:=@List.findIdx?_eq_some_iff_getElem
def qu:=@List.foldl_append
def qX:=@List.foldl_cons
def QU:=@List.getD_eq_getElem?_getD
def JX:=@List.getElem?_append_left
def Ks:=@List.getElem?_append_right
def GX:=@List.getElem?_drop
def QH:=@List.getElem?_eq_getElem
def EW:=@List.getElem?_eq_none
def Xh:=@List.getElem?_eq_some_iff
def KR:=@List.getElem?_map
def GY:=@List.getElem?_of_mem
def JT:=@List.getElem?_set_ne
def Xi:=@List.getElem?_set_self
def XJ:=@List.getElem?_take
def XK:=@List.getElem_mem
def j8:=@List.getElem_of_mem
def Zn:=@List.length_append
def Kx:=@List.length_cons
def bX:=@List.length_drop
def Sq:=@List.length_eq_zero_iff
def Yg:=@List.length_filter_le
def KJ:=@List.length_map
def Lf:=@List.length_nil
def Sr:=@List.length_pos_iff
def Ky:=@List.length_set
def K9:=@List.length_singleton
def Og:=@List.length_take
def zP:=@List.map_append
def AB:=@List.map_congr_left
def Jr:=@List.map_cons
def Dj:=@List.map_map
def Q3:=@List.mem_append
def GZ:=@List.mem_append_left
def Lg:=@List.mem_append_right
def QK:=@List.mem_cons
def Js:=@List.mem_cons_of_mem
def Jo:=@List.mem_cons_self
def JB:=@List.mem_filter
def Lh:=@List.mem_iff_getElem
def Jw:=@List.mem_map
def xG:=@List.mem_of_find?_eq_some
def Oh:=@List.mem_of_getElem?
def Oi:=@List.mem_of_mem_take
def Ss:=@List.mem_range
def Xj:=@List.mem_singleton
def Oj:=@List.mem_singleton_self
def qv:=@List.nil_append
def Ka:=@List.nodup_append
def Z6:=@List.nodup_cons
def nW:=@List.nodup_iff_pairwise_ne
def bY:=@List.pairwise_append
def AD:=@List.pairwise_cons
def Su:=@List.pairwise_map
def bZ:=@List.replicate_succ
def cn:=@List.set_append_left
def Li:=@List.set_append_right
def J4:=@List.set_set
def G0:=@List.size_toArray
def j9:=@List.sum_cons
def cr:=@List.takeWhile_cons
def ct:=@List.takeWhile_sublist
def zQ:=@List.take_add_one
def AF:=@List.take_append_drop
def Wo:=@List.take_length
def Ol:=@Nat.add_comm
def KE:=@Nat.add_mul
def cu:=@Nat.add_sub_cancel
def cw:=@Nat.add_sub_cancel_left
def vn:=@Nat.add_zero
def cz:=@Nat.and_lt_two_pow
def Wz:=@Nat.beq_eq
def Om:=@Nat.beq_refl
def Lj:=@Nat.ble_eq
def xH:=@Nat.blt_eq
def Sv:=@Nat.div_add_mod
def cA:=@Nat.div_le_self
def cB:=@Nat.div_mod_unique
def Sw:=@Nat.eq_of_beq_eq_true
def Lk:=@Nat.le_add_right
def Sx:=@Nat.le_of_ble_eq_true
def On:=@Nat.le_of_lt
def Ll:=@Nat.le_of_not_lt
def Qv:=@Nat.le_refl
def Lm:=@Nat.le_succ
def J5:=@Nat.le_trans
def BK:=@Nat.lt_irrefl
def Oo:=@Nat.lt_of_le_of_lt
def wB:=@Nat.lt_of_lt_of_le
def cC:=@Nat.lt_of_not_le
def xI:=@Nat.lt_or_ge
def xJ:=@Nat.lt_succ_iff_lt_or_eq
def EX:=@Nat.lt_succ_self
def wC:=@Nat.min_eq_left
def kb:=@Nat.min_eq_right
def kg:=@Nat.mod_eq_of_lt
def Xt:=@Nat.mod_lt
def Dl:=@Nat.mul_add
def Lo:=@Nat.mul_assoc
def EY:=@Nat.mul_comm
def Xk:=@Nat.mul_le_mul
def Dm:=@Nat.mul_le_mul_left
def V6:=@Nat.mul_le_mul_right
def cD:=@Nat.mul_right_comm
def EZ:=@Nat.mul_zero
def Yy:=@Nat.not_lt_zero
def Lp:=@Nat.one_mul
def E0:=@Nat.shiftRight_eq_div_pow
def YO:=@Nat.sub_self
def Dn:=@Nat.sub_zero
def cE:=@Nat.two_pow_pos
def Sy:=@Nat.xor_lt_two_pow
def JG:=@Nat.zero_add
def Z7:=@Nat.zero_le
def Dp:=@Nat.zero_lt_succ
def G1:=@Nat.zero_mul
def Zb:=@Ne.symm
def cF:=@Option.bind_some
def Va:=@Option.getD_some
def E6:=@Option.isSome_iff_exists
def E7:=@Option.isSome_none
def BL:=@Option.isSome_some
def cG:=@Option.map_eq_none_iff
def WK:=@Option.map_eq_some_iff
def Sz:=@Option.map_map
def qY:=@Option.map_none
def Kq:=@Option.map_some
def Oq:=@Option.some.inj
def Q7:=@Option.some.injEq
def BM:=@Option.toList_some
def Zg:=@Prod.mk.injEq
def kh:=@beq_eq_false_iff_ne
def qZ:=@beq_iff_eq
def Ot:=@beq_self_eq_true
def ju:=@cond_false
def wD:=@cond_true
def cH:=@decide_eq_decide
def QN:=@decide_eq_false
def G2:=@decide_eq_false_iff_not
def QY:=@decide_eq_true
def W3:=@decide_eq_true_eq
def Lq:=@eq_iff_iff
def q5:=@if_false
def Qd:=@if_neg
def Qe:=@if_pos
def Vu:=@if_true
def E8:=@not_exists
def q6:=@not_or
def Dq:=@of_decide_eq_false
def qw:=@of_decide_eq_true
def yz:=@true_and
inductive D where
 | raw (v:Value)
 | nil
 | undef
 | imm (sz n:Nat) (row:Nat->List D)
 | ip (cells:List D)
 | ref (l g off len:Nat)
 | ptr (l g i j:Nat)
 | mref (l g:Nat)
 | clo (f:FuncId) (first:Nat) (Qx:List D)
 | agg (cs:List D)
 | tup (cs:List D)
def nth(a:List D)(i:Nat):D:=a.getD i .undef
def Q8(a:List Value)(i:Nat):Value:=a.getD i Go.undef
inductive Kd where
 | one
 | arr
 | map
 | iter
 | Wp
 | AH
 | SA
 | QcI
def Kd.Lr:Kd->Bool
 | .one=>true
 | .Wp=>true
 | _=>false
def Kd.ty:Kd->Nat
 | .one=>0
 | .arr=>0
 | .map=>1
 | .iter=>2
 | .Wp=>0
 | .AH=>0
 | .SA=>1
 | .QcI=>2
def Kd.ro:Kd->Bool
 | .one=>false
 | .arr=>false
 | .map=>false
 | .iter=>false
 | _=>true
def Kd.toRo:Kd->Kd
 | .one=>.Wp
 | .arr=>.AH
 | .map=>.SA
 | .iter=>.QcI
 | k=>k
def Kd.toRo_ty(k:Kd):k.toRo.ty=k.ty:=by cases k<;>rfl
def Kd.toRo_ro(k:Kd):k.toRo.ro=true:=by cases k<;>rfl
def SB:Nat->Nat->Value
 | 1,b=>.map (some b)
 | _,b=>.pointer (some ⟨b,0,none⟩)
def MOk(t b:Nat)(v:Value):Prop:=t≠0/\v=SB t b
structure Ob where
 kd:Kd
 gen:Nat
 sz:Nat
 n:Nat
 row:Nat->List D
abbrev Pl:=Option (Nat × Nat)
def XL(a:List Pl)(b:Nat):Prop:=∀l q:Nat,a[l]?≠some (some (b,q))
def free(Z:Nat->Prop)(a:List Pl)(b:Nat):Prop:=Z b/\XL a b
variable {Z:Nat->Prop}
inductive Cl (N:Nat->Prop) (w:World):D->Value->Prop
 | raw (v:Value):Cl N w (.raw v) v
 | undef (v:Value):Cl N w .undef v
 | nil (a:Option Addr):Cl N w .nil (.slice a 0 0)
 | imm (sz n:Nat) (row:Nat->List D) (a:Option Addr) (cap b o:Nat) (vs:Nat->Nat->Value)
   (ha:0<n->a=some ⟨b,o,none⟩) (hl:n<=cap) (hs:∀i,i<n->(row i).length=sz)
   (hc:∀i j,i<n->j<sz->N b/\w.cell? ⟨b,o+(i*sz+j),none⟩=some (vs i j))
   (hr:∀i j,i<n->j<sz->Cl N w (nth (row i) j) (vs i j)):Cl N w (.imm sz n row) (.slice a n cap)
 | ip (cells:List D) (b o:Nat) (vs:Nat->Value)
   (hc:∀j,j<cells.length->N b/\w.cell? ⟨b,o+j,none⟩=some (vs j))
   (hr:∀j,j<cells.length->Cl N w (nth cells j) (vs j)):Cl N w (.ip cells) (.pointer (some ⟨b,o,none⟩))
 | clo (f:FuncId) (nf:Nat) (cs:List D) (vs:List Value) (hl:vs.length=cs.length) (hr:∀i,i<cs.length->Cl N w (nth cs i) (Q8 vs i)):Cl N w (.clo f nf cs) (.func (.func f) (vs.take nf).toArray (vs.drop nf).toArray)
 | agg (cs:List D) (vs:List Value) (hl:vs.length=cs.length) (hr:∀i,i<cs.length->Cl N w (nth cs i) (Q8 vs i)):Cl N w (.agg cs) (.agg vs.toArray)
 | tup (cs:List D) (vs:List Value) (hl:vs.length=cs.length) (hr:∀i,i<cs.length->Cl N w (nth cs i) (Q8 vs i)):Cl N w (.tup cs) (.tuple vs.toArray)
def Cl.mono{N N' w w' d v}(h:Cl N w d v)
  (C:∀b,N b->b<w.heap.size->N' b/\w'.heap[b]? = w.heap[b]?):Cl N' w' d v:=by
 have p:∀(b o:Nat) (u:Value),N b/\w.cell? ⟨b,o,none⟩=some u->N' b/\w'.cell? ⟨b,o,none⟩=some u:=by rintro b o u ⟨B,l⟩;obtain⟨I,H⟩:=C b B (block_lt_of_cell l);exact⟨I,by rw[World.cell?_of_block (w:=w) (a:=⟨b,o,none⟩) H];exact l⟩
 induction h with
 | raw v=>exact .raw v
 | undef v=>exact .undef v
 | nil a=>exact .nil a
 | imm x n s a t b o c F g z l q e=>exact .imm x n s a t b o c F g z (λi j E r=>p _ _ _ (l i j E r)) e
 | ip k b o c l q e=>exact .ip k b o c (λj r=>p _ _ _ (l j r)) e
 | clo f y m c g q e=>exact .clo f y m c g e
 | agg m c g q e=>exact .agg m c g e
 | tup m c g q e=>exact .tup m c g e
def QcK(w:World)(g:Nat)(p:Pl)(e f:Nat)(a:Option Addr)(d:Nat):Prop:=
 (f=0/\d=0)\/∃b q c el,p=some (b,q)/\a=some ⟨b,q+e*g,none⟩/\w.heap[b]?=some (.cells c el (0,0))/\q+(e+d)*g<=c.size/\f<=d
inductive QF (Z:Nat->Prop) (h:List Ob) (pl:List Pl) (w:World):D->Value->Prop
 | cl (d:D) (v:Value) (hc:Cl (free Z pl) w d v):QF Z h pl w d v
 | ref (l g off len:Nat) (o:Ob) (p:Pl) (a:Option Addr) (cap:Nat) (ho:h[l]?=some o) (hp:pl[l]?=some p) (hk:o.kd.ty=0) (hg:g<=o.gen)
   (hs:g=o.gen->QcK w o.sz p off len a cap):QF Z h pl w (.ref l g off len) (.slice a len cap)
 | ptr (l g i j:Nat) (o:Ob) (p:Pl) (a:Addr) (ho:h[l]?=some o) (hp:pl[l]?=some p) (hk:o.kd.ty=0) (hg:g<=o.gen)
   (hs:g=o.gen->∃b q,p=some (b,q)/\a=⟨b,q+(i*o.sz+j),none⟩):QF Z h pl w (.ptr l g i j) (.pointer (some a))
 | mref (l g:Nat) {v:Value} (o:Ob) (p:Pl) (b:Nat) (ho:h[l]?=some o) (hp:pl[l]?=some p) (hk:MOk o.kd.ty b v) (hg:g<=o.gen)
   (hs:g=o.gen->p=some (b,0)):QF Z h pl w (.mref l g) v
 | clo (f:FuncId) (nf:Nat) (cs:List D) (vs:List Value) (hl:vs.length=cs.length) (hr:∀i,i<cs.length->QF Z h pl w (nth cs i) (Q8 vs i)):QF Z h pl w (.clo f nf cs) (.func (.func f) (vs.take nf).toArray (vs.drop nf).toArray)
 | agg (cs:List D) (vs:List Value) (hl:vs.length=cs.length) (hr:∀i,i<cs.length->QF Z h pl w (nth cs i) (Q8 vs i)):QF Z h pl w (.agg cs) (.agg vs.toArray)
 | tup (cs:List D) (vs:List Value) (hl:vs.length=cs.length) (hr:∀i,i<cs.length->QF Z h pl w (nth cs i) (Q8 vs i)):QF Z h pl w (.tup cs) (.tuple vs.toArray)
structure Tr (h:List Ob) (pl:List Pl) (w:World) (h':List Ob) (Qk:List Pl) (w':World):Prop where
 Kz:∀b,XL pl b->b<w.heap.size->XL Qk b/\w'.heap[b]? = w.heap[b]?
 obj:∀(l:Nat) (o:Ob) (p:Pl),h[l]?=some o->pl[l]?=some p->∃o' p',h'[l]?=some o'/\Qk[l]?=some p'/\o.gen<=o'.gen/\o'.kd.ty=o.kd.ty/\(o'.gen=o.gen->o'.sz=o.sz/\p'=p)
 shape:∀(l:Nat) (o o':Ob) (b q:Nat),h[l]?=some o->h'[l]?=some o'->o'.gen=o.gen->pl[l]?=some (some (b,q))->∀c el,w.heap[b]?=some (.cells c el (0,0)) ->
  ∃c',w'.heap[b]?=some (.cells c' el (0,0))/\c'.size=c.size
def Tr.Qoe{h d}{w:World}{g f}{c:World}(T:Tr h d w g f c){b}(a:free Z d b)(e:b<w.heap.size):free Z f b/\c.heap[b]? = w.heap[b]? :=
 ⟨⟨a.1,(T.Kz b a.2 e).1⟩,(T.Kz b a.2 e).2⟩
def QF.tr{h V w Y Qk U}(T:Tr h V w Y Qk U){d v}(r:QF Z h V w d v):QF Z Y Qk U d v:=by
 induction r with
 | cl d v N=>exact .cl d v (N.mono λb O Qb=>T.Qoe O Qb)
 | ref l g Q R o p a S n m C E B=>obtain⟨e,y,t,L,x,K,F⟩:=T.obj l o p n m;refine .ref l g Q R e y a S t L (by rw[K,C]) (J5 E x) λBN=>?_;have s:e.gen=o.gen:=ω;obtain⟨I,H⟩:=F s;rcases B ω with h1|⟨b,q,c,el,M,P,O,N,k⟩;exact .inl h1;obtain⟨c',Xu,W5⟩:=T.shape l o e b q n t s (by rw[m,M]) c el O;exact .inr ⟨b,q,c',el,by rw[H,M],by rw[I];exact P,Xu,by rw[I,W5];exact N,k⟩
 | ptr l g i j o p a n m C E B=>obtain⟨e,y,t,L,x,K,F⟩:=T.obj l o p n m;refine .ptr l g i j e y a t L (by rw[K,C]) (J5 E x) λBN=>?_;have s:e.gen=o.gen:=ω;obtain⟨I,H⟩:=F s;obtain⟨b,q,M,P⟩:=B ω;exact⟨b,q,by rw[H,M],by rw[I];exact P⟩
 | mref l g o p b n m C E B=>obtain⟨e,y,t,L,x,K,F⟩:=T.obj l o p n m;refine .mref l g e y b t L (by rw[K];exact C) (J5 E x) λBN=>?_;have s:e.gen=o.gen:=ω;obtain⟨I,H⟩:=F s;rw[H];exact B ω
 | clo f nf J u k W z=>exact .clo f nf J u k z
 | agg J u k W z=>exact .agg J u k z
 | tup J u k W z=>exact .tup J u k z
def Ou(Z:Nat->Prop)(h:List Ob)(a:List Pl)(w:World)(o:Ob)(b q:Nat):Prop:=
 ∃c el,w.heap[b]?=some (.cells c el (0,0))/\q+o.n*o.sz<=c.size/\(∀i,i<o.n->(o.row i).length=o.sz) /\
  ∀i j,i<o.n->j<o.sz->∃v,c[q+(i*o.sz+j)]?=some v/\QF Z h a w (nth (o.row i) j) v
def cI(Z:Nat->Prop)(h:List Ob)(d:List Pl)(w:World)(o:Ob)(b q:Nat):Prop:=
 q=0/\o.sz=3/\∃(c:Array MapEntry) (a:Nat),w.heap[b]?=some (.map c a)/\o.n=c.size+1/\(∀i,i<o.n->(o.row i).length=3) /\
  QF Z h d w (nth (o.row 0) 0) (.int .i64 a) /\
  (∀(i:Nat) (e:MapEntry),c[i]?=some e->e.born<a/\QF Z h d w (nth (o.row (i+1)) 0) e.key/\QF Z h d w (nth (o.row (i+1)) 1) e.val/\QF Z h d w (nth (o.row (i+1)) 2) (.int .i64 e.born)) /\
  ∀(i j:Nat) (e f:MapEntry),i<j->c[i]?=some e->c[j]?=some f->e.born<f.born
def nX(Z:Nat->Prop)(h:List Ob)(d:List Pl)(w:World)(o:Ob)(b q:Nat):Prop:=
 q=0/\o.sz=1/\∃(m a c:Nat) (seen:Array Nat),w.heap[b]?=some (.mapIter (some m) a seen c)/\o.n=seen.size+3/\(∀i,i<o.n->(o.row i).length=1) /\
  QF Z h d w (nth (o.row 0) 0) (.map (some m))/\QF Z h d w (nth (o.row 1) 0) (.int .i64 a)/\QF Z h d w (nth (o.row 2) 0) (.int .i64 c) /\
  ∀(i s:Nat),seen[i]?=some s->QF Z h d w (nth (o.row (i+3)) 0) (.int .i64 s)
def KK(Z:Nat->Prop)(h:List Ob)(a:List Pl)(w:World)(o:Ob)(b q:Nat):Prop:=match o.kd.ty with
 | 0=>Ou Z h a w o b q
 | 1=>cI Z h a w o b q
 | _=>nX Z h a w o b q
def KK.cells{h pl w}{o:Ob}{b q}(a:o.kd.ty=0)(x:KK Z h pl w o b q):Ou Z h pl w o b q:=by unfold KK at x;rw[a]at x;exact x
def KK.map{h a w}{o:Ob}{b q}(c:o.kd.ty=1)(x:KK Z h a w o b q):cI Z h a w o b q:=by unfold KK at x;rw[c]at x;exact x
def KK.iter{h a w}{o:Ob}{b q}(c:o.kd.ty=2)(x:KK Z h a w o b q):nX Z h a w o b q:=by unfold KK at x;rw[c]at x;exact x
def KK.Ov{h a w}{o:Ob}{b q}(c:o.kd.ty=0)(x:Ou Z h a w o b q):KK Z h a w o b q:=by unfold KK;rw[c];exact x
def KK.ofMap{h a w}{o:Ob}{b q}(c:o.kd.ty=1)(x:cI Z h a w o b q):KK Z h a w o b q:=by unfold KK;rw[c];exact x
def KK.QcL{h a w}{o:Ob}{b q}(c:o.kd.ty=2)(x:nX Z h a w o b q):KK Z h a w o b q:=by unfold KK;rw[c];exact x
def Kd.cases(k:Kd):k.ty=0\/k.ty=1\/k.ty=2:=by cases k<;>simp[Kd.ty]
def KK.lt{h d}{w:World}{o b q}(x:KK Z h d w o b q):b<w.heap.size:=by rcases o.kd.cases with hk|hk|hk;obtain⟨c,el,a,_⟩:=x.cells hk;exact(W0.1 a).1;obtain⟨_,_,c,el,a,_⟩:=x.map hk;exact(W0.1 a).1;obtain⟨_,_,m,s,l,e,a,_⟩:=x.iter hk;exact(W0.1 a).1
def KK.len{h e w}{o:Ob}{b q}(x:KK Z h e w o b q){i:Nat}(d:i<o.n):(o.row i).length=o.sz:=by rcases o.kd.cases with hk|hk|hk;obtain⟨c,el,_,_,a,_⟩:=x.cells hk;exact a i d;obtain⟨_,hz,c,el,_,_,a,_⟩:=x.map hk;rw[a i d,hz];obtain⟨_,hz,m,s,l,f,_,_,a,_⟩:=x.iter hk;rw[a i d,hz]
def KK.to{E h C B F w n}{o d:Ob}{b q}(x:KK Z h B w o b q)(K:d.kd.ty=o.kd.ty)(l:d.sz=o.sz)(g:d.n=o.n)
  (L:n.heap[b]? = w.heap[b]?) (J:∀i,i<o.n->(d.row i).length=(o.row i).length)
  (I:∀i j v,i<o.n->j<(o.row i).length->QF Z h B w (nth (o.row i) j) v->QF E C F n (nth (d.row i) j) v):KK E C F n d b q:=by
 rcases o.kd.cases with hm|hm|hm;obtain⟨c,el,y,u,f,t⟩:=x.cells hm;refine KK.Ov (by rw[K,hm]) ⟨c,el,by rw[L];exact y,by rw[g,l];exact u,λi a=>?_,λi j a p=>?_⟩;rw[g]at a;rw[J i a,f i a,l];rw[g]at a;rw[l]at p;obtain⟨v,V,BO⟩:=t i j a p;exact⟨v,by rw[l];exact V,I i j v a (by rw[f i a];exact p) BO⟩;obtain⟨O,H,Y,ck,y,u,f,t,N,M⟩:=x.map hm;have up:∀i j v,i<o.n->j<3->QF Z h B w (nth (o.row i) j) v->QF E C F n (nth (d.row i) j) v:=λi j v a p r=>I i j v a (by rw[f i a];exact p) r;refine KK.ofMap (by rw[K,hm]) ⟨O,by rw[l];exact H,Y,ck,by rw[L];exact y,by rw[g];exact u,λi a=>?_,up 0 0 _ ω ω t,λi e Q=>?_,M⟩;rw[g]at a;rw[J i a,f i a];obtain⟨U,T,S,R⟩:=N i e Q;have a:i+1<o.n:=by have:=(W0.1 Q).1;omega
 exact⟨U,up _ 0 _ a ω T,up _ 1 _ a ω S,up _ 2 _ a ω R⟩;obtain⟨O,H,m,k,z,seen,y,u,f,t,N,M,W⟩:=x.iter hm;have up:∀i v,i<o.n->QF Z h B w (nth (o.row i) 0) v->QF E C F n (nth (d.row i) 0) v:=λi v a r=>I i 0 v a (by rw[f i a];omega) r;refine KK.QcL (by rw[K,hm]) ⟨O,by rw[l];exact H,m,k,z,seen,by rw[L];exact y,by rw[g];exact u,λi a=>?_,up 0 _ ω t,up 1 _ ω N,up 2 _ ω M,λi s P=>?_⟩;rw[g]at a;rw[J i a,f i a];exact up _ _ (by have:=(W0.1 P).1;omega) (W i s P)
structure Zo (Z:Nat->Prop) (base:Nat) (h:List Ob) (pl:List Pl) (w:World):Prop where
 len:pl.length=h.length
 inj:∀(l l':Nat) (b q q':Nat),pl[l]?=some (some (b,q))->pl[l']?=some (some (b,q'))->l=l'
 V7:∀(l:Nat) (o:Ob),h[l]?=some o->pl[l]?=some none->o.n=0
 at_:∀(l:Nat) (o:Ob) (b q:Nat),h[l]?=some o->pl[l]?=some (some (b,q))->(o.kd.ro=false->base<=b)/\KK Z h pl w o b q
structure St where
 fr:List (Nat × D)
 h:List Ob
def get:List (Nat × D)->Nat->D
 | [],_=>.undef
 | (t,d)::r,u=>bif Nat.beq t u then d else get r u
def put:List (Nat × D)->Nat->D->List (Nat × D)
 | [],u,d=>[(u,d)]
 | (t,e)::r,u,d=>bif Nat.beq t u then (u,d)::r else (t,e)::put r u d
structure Rel (Z:Nat->Prop) (base nt:Nat) (s:St) (pl:List Pl) (a:Act) (w:World):Prop where
 nt:a.tmps.size=nt
 defers:a.defers=[]
 fr:∀t,QF Z s.h pl w (get s.fr t) (a.tmps.getD t Go.undef)
 o:Zo Z base s.h pl w
def E9(e u d t):get (put e u d) t=if t=u then d else get e t:=by
 induction e with
 | nil=>
  simp only[put,get];by_cases h:u=t;subst h;simp;have b:Nat.beq u t=false:=by rw[<-Yx,Wz];exact h
  rw[b,Qd (Zb h)];rfl
 | cons x r f=>
  obtain⟨a,i⟩:=x;simp only[put];by_cases c:a=u;subst c;simp only[Om,wD,get];by_cases h:a=t;subst h;simp;have b:Nat.beq a t=false:=by rw[<-Yx,Wz];exact h
  rw[b,Qd (Zb h)];rfl;have b:Nat.beq a u=false:=by rw[<-Yx,Wz];exact c
  rw[b];simp only[ju,get];by_cases h:a=t;subst h;simp[c];have g:Nat.beq a t=false:=by rw[<-Yx,Wz];exact h
  rw[g];simpa using f
def KL{h:List Ob}{l o}(e:h[l]?=some o):l<h.length:=(Xh.1 e).1
def WA{h:List Pl}{l o}(e:h[l]?=some o):l<h.length:=(Xh.1 e).1
def vq{w:World}{b o}(h:w.heap[b]?=some o):b<w.heap.size:=(W0.1 h).1
def Zo.lt{a:Nat}{h:List Ob}{c:List Pl}{w:World}(R:Zo Z a h c w){l b q:Nat}(e:c[l]?=some (some (b,q))):b<w.heap.size/\∀o,h[l]?=some o->o.kd.ro=false->a<=b:=by
 have f:l<h.length:=by have:=WA e;rw[R.len]at this;exact this
 obtain⟨i,x⟩:=R.at_ l (h[l]) b q (QH f) e;exact⟨x.lt,λo d g=>by rw[QH f]at d;cases d;exact i g⟩
def Tr.ext{a h d}{w i:World}(R:Zo Z a h d w)(e:∀b,b<w.heap.size->i.heap[b]? = w.heap[b]?):Tr h d w h d i where
 Kz:=λb g Qb=>⟨g,e b Qb⟩
 obj:=λl o p j f=>⟨o,p,j,f,Qv _,rfl,λ_=>⟨rfl,rfl⟩⟩
 shape:=λl o k b q j n m f c el g=>⟨c,by rw[e b (R.lt f).1];exact g,rfl⟩
def Zo.ext{a h d}{w c:World}(R:Zo Z a h d w)(e:∀b,b<w.heap.size->c.heap[b]? = w.heap[b]?):Zo Z a h d c where
 len:=R.len
 inj:=R.inj
 V7:=R.V7
 at_:=λl o b q k f=>by obtain⟨m,x⟩:=R.at_ l o b q k f;exact⟨m,x.to rfl rfl rfl (e b (R.lt f).1) (λ_ _=>rfl) λi j v _ _ g=>g.tr (Tr.ext R e)⟩
def Tr.refl(h d w):Tr h d w h d w where
 Kz:=λb a Qb=>⟨a,rfl⟩
 obj:=λl o p f e=>⟨o,p,f,e,Qv _,rfl,λ_=>⟨rfl,rfl⟩⟩
 shape:=λl o g b q f j i e c el a=>⟨c,a,rfl⟩
def Tr.trans{h h' v x K N w m M}(T:Tr h x w h' K m)(U:Tr h' K m v N M):Tr h x w v N M where
 Kz:=λb r Qb=>by
  obtain⟨V,s⟩:=T.Kz b r Qb;have S:b<m.heap.size:=by rw[jY Qb]at s;exact(W0.1 s).1
  obtain⟨R,Q⟩:=U.Kz b V S;exact⟨R,by rw[Q,s]⟩
 obj:=λl o p g f=>by obtain⟨a,n,d,j,J,I,t⟩:=T.obj l o p g f;obtain⟨z,y,i,H,F,E,C⟩:=U.obj l a n d j;refine⟨z,y,i,H,J5 J F,by rw[E,I],λe=>?_⟩;obtain⟨u,k⟩:=t ω;obtain⟨P,O⟩:=C ω;exact⟨by rw[P,u],by rw[O,k]⟩
 shape:=λl o W b q g L hg f c el r=>by obtain⟨a,n,d,j,J,I,t⟩:=T.obj l o _ g f;obtain⟨z,y,i,H,F,E,C⟩:=U.obj l a n d j;rw[L]at i;cases i;have B:a.gen=o.gen:=ω;obtain⟨u,k⟩:=t B;subst k;obtain⟨Y,d1,d2⟩:=T.shape l o a b q g d B f c el r;obtain⟨c2,f1,f2⟩:=U.shape l a W b q d L ω j Y el d1;exact⟨c2,f1,ω⟩
def Rel.ext{c g s f a}{w d:World}(r:Rel Z c g s f a w)(e:∀b,b<w.heap.size->d.heap[b]? = w.heap[b]?):Rel Z c g s f a d:=
 ⟨r.nt,r.defers,λt=>(r.fr t).tr (Tr.ext r.o e),r.o.ext e⟩
def Qof(a:Array Value)(d t)(v:Value)(b:d<a.size):(a.setIfInBounds d v).getD t Go.undef=if t=d then v else a.getD t Go.undef:=by simp only[yw,Array.getElem?_setIfInBounds];by_cases h:d=t;subst h;simp[b];rw[Qd h,Qd (Zb h)]
def Rel.to{b nt}{s:St}{g a w}(r:Rel Z b nt s g a w){e f c}(T:Tr s.h g w e f c)(k:Zo Z b e f c)
  {t:Nat} (j:t<nt) {d:D} {v:Value} (i:QF Z e f c d v):Rel Z b nt ⟨put s.fr t d,e⟩ f (a.put (some t) v) c where
 nt:=by simp[Act.put,r.nt]
 defers:=r.defers
 fr:=λu=>by simp only[Act.put];rw[E9,Qof _ _ _ _ (by rw[r.nt];exact j)];by_cases h:u=t;rw[Qe h,Qe h];exact i;rw[Qd h,Qd h];exact(r.fr u).tr T
 o:=k
def Rel.AI{b g}{s:St}{f a w}(r:Rel Z b g s f a w){d e c}(T:Tr s.h f w d e c)(h:Zo Z b d e c)
  (v:Value):Rel Z b g ⟨s.fr,d⟩ e (a.put none v) c:=
 ⟨r.nt,r.defers,λu=>(r.fr u).tr T,h⟩
def SC{a:List Pl}{p:Pl}{b:Nat}(f:XL a b)(c:∀q,p≠some (b,q)):XL (a++[p]) b:=λl q e=>by
 by_cases d:l<a.length;rw[JX d]at e;exact f l q e;rw[Ks ω]at e;have:l-a.length=0:=by have:=(Xh.1 e).1;simp at this;exact this
 rw[this]at e;simp at e;exact c q e
def BP{a:Type}{l:List a}{x y:a}{i:Nat}(e:l[i]?=some x):(l++[y])[i]?=some x:=by rw[JX (Xh.1 e).1];exact e
def Yz{a:Type}{l:List a}{x y i}(e:(l++[y])[i]?=some x):l[i]?=some x\/(i=l.length/\x=y):=by by_cases b:i<l.length;rw[JX b]at e;exact .inl e;rw[Ks ω]at e;have d:=(Xh.1 e).1;simp at d;have c:i=l.length:=ω;subst c;simp at e;exact .inr ⟨rfl,e.symm⟩
def xK(w:World)(o:Obj)(b)(h:b<w.heap.size):(w.alloc o).heap[b]? = w.heap[b]? := Below.heap_alloc w o b h
def Tr.push{d:Nat}{h:List Ob}{f:List Pl}{w i:World}(R:Zo Z d h f w)(e:∀b,b<w.heap.size->i.heap[b]? = w.heap[b]?)(k:Ob)(p:Pl)(a:∀b q,p=some (b,q)->w.heap.size<=b):Tr h f w (h++[k]) (f++[p]) i where
 Kz:=λb g Qb=>⟨SC g λq m=>by have:=a b q m;omega,e b Qb⟩
 obj:=λl o p j a=>⟨o,p,BP j,BP a,Qv _,rfl,λ_=>⟨rfl,rfl⟩⟩
 shape:=λl o n b q j s r a c el g=>⟨c,by rw[e b (R.lt a).1];exact g,rfl⟩
def Zo.SD{d h m}{w p:World}(R:Zo Z d h m w)(e:∀b,b<w.heap.size->p.heap[b]? = w.heap[b]?)(n){f r}(I:w.heap.size<=f)(H:d<=f)
  (z:KK Z (h++[n]) (m++[some (f,r)]) p n f r):Zo Z d (h++[n]) (m++[some (f,r)]) p:=by
 have T:Tr h m w (h++[n]) (m++[some (f,r)]) p:=Tr.push R e n _ (by intro b q e;simp at e;omega);refine⟨by simp[R.len],?_,?_,?_⟩;intro l y b q u t E;rcases Yz t with c|⟨c,g⟩<;>rcases Yz E with a|⟨a,k⟩;exact R.inj l y b q u c a;have:=(R.lt c).1;simp at k;omega;have:=(R.lt a).1;simp at g;omega;omega;intro l o s t;rcases Yz t with c|⟨c,g⟩;rcases Yz s with a|⟨a,k⟩;exact R.V7 l o a c;have:=WA c;have:=R.len;omega;simp at g;intro l o b q s F;rcases Yz F with c|⟨c,g⟩;rcases Yz s with a|⟨a,k⟩;obtain⟨C,x⟩:=R.at_ l o b q a c;exact⟨C,x.to rfl rfl rfl (e b (R.lt c).1) (λ_ _=>rfl) λi j v _ _ B=>B.tr T⟩;have:=WA c;have:=R.len;omega;rcases Yz s with a|⟨a,k⟩;have:=KL a;have:=R.len;omega;subst k;simp at g;obtain⟨rfl,rfl⟩:=g;exact⟨λ_=>H,z⟩
def Zo.push{d h l}{w g:World}(R:Zo Z d h l w)(e:∀b,b<w.heap.size->g.heap[b]? = w.heap[b]?)(a:Ob)(o:a.kd.ty=0){f k}(n:w.heap.size<=f)(r:d<=f)
  {c:Array Value} {m:TypeId} (p:g.heap[f]?=some (.cells c m (0,0))) (t:k+a.n*a.sz<=c.size) (s:∀i,i<a.n->(a.row i).length=a.sz)
  (q:∀i j,i<a.n->j<a.sz->∃v,c[k+(i*a.sz+j)]?=some v/\QF Z (h++[a]) (l++[some (f,k)]) g (nth (a.row i) j) v):Zo Z d (h++[a]) (l++[some (f,k)]) g:=
 R.SD e a n r (.Ov o ⟨c,m,p,t,s,q⟩)
def Zo.vr{d h g w}(R:Zo Z d h g w)(k:Ob)(u:k.n=0):Zo Z d (h++[k]) (g++[none]) w:=by have T:Tr h g w (h++[k]) (g++[none]) w:=Tr.push R (λ_ _=>rfl) k _ (by intro b q e;simp at e);refine⟨by simp[R.len],?_,?_,?_⟩;intro l s b q r p z;rcases Yz p with c|⟨c,m⟩;rcases Yz z with a|⟨a,f⟩;exact R.inj l s b q r c a;simp at f;simp at m;intro l o n p;rcases Yz n with a|⟨a,f⟩;rcases Yz p with c|⟨c,m⟩;exact R.V7 l o a c;have:=KL a;have:=R.len;omega;subst f;exact u;intro l o b q n B;rcases Yz B with c|⟨c,m⟩;rcases Yz n with a|⟨a,f⟩;obtain⟨y,x⟩:=R.at_ l o b q a c;exact⟨y,x.to rfl rfl rfl rfl (λ_ _=>rfl) λi j v _ _ t=>t.tr T⟩;have:=WA c;have:=R.len;omega;simp at m
def Tr.Q5{d:Nat}{h:List Ob}{f:List Pl}{w w':World}(R:Zo Z d h f w){l:Nat}{o o':Ob}{b q:Nat}(r:h[l]?=some o)(x:f[l]?=some (some (b,q)))(z:o'.kd.ty=o.kd.ty)(E:o'.gen=o.gen)(v:o'.sz=o.sz)
  (e:∀k,k≠b->k<w.heap.size->w'.heap[k]? = w.heap[k]?) (y:∀c el,w.heap[b]?=some (.cells c el (0,0))->∃t,w'.heap[b]?=some (.cells t el (0,0))/\t.size=c.size):Tr h f w (h.set l o') f w' where
 Kz:=λk s Qb=>⟨s,e k (λg=>s l q (by rw[g];exact x)) Qb⟩
 obj:=λn m p i j=>by by_cases a:l=n;subst a;rw[r]at i;cases i;exact⟨o',p,by simp[KL r],j,ω,z,λ_=>⟨v,rfl⟩⟩;exact⟨m,p,by rw[JT a];exact i,j,Qv _,rfl,λ_=>⟨rfl,rfl⟩⟩
 shape:=λn m C u B i F H j c el g=>by by_cases a:u=b;subst a;exact y c el g;exact⟨c,by rw[e u a (R.lt j).1];exact g,rfl⟩
def Zo.Qog{c:Nat}{h:List Ob}{g:List Pl}{w p:World}(R:Zo Z c h g w){l:Nat}{o d:Ob}{b q:Nat}(z:h[l]?=some o)(r:g[l]?=some (some (b,q)))
  (T:Tr h g w (h.set l d) g p) (e:∀k,k≠b->k<w.heap.size->p.heap[k]? = w.heap[k]?) (C:KK Z (h.set l d) g p d b q) (hro:d.kd.ro=o.kd.ro):Zo Z c (h.set l d) g p:=by
 refine⟨by simp[R.len],R.inj,?_,?_⟩;intro m s f a;by_cases n:l=m;subst n;rw[r]at a;cases a;rw[JT n]at f;exact R.V7 m s f a;intro m s u y f a;by_cases n:l=m;subst n;rw[r]at a;cases a;have:(h.set l d)[l]?=some d:=by simp[KL z]
 rw[this]at f;cases f;exact⟨λt=>(R.lt r).2 o z (by rw[<-hro,t]),C⟩;rw[JT n]at f;obtain⟨E,x⟩:=R.at_ m s u y f a;have F:u≠b:=λB=>n (R.inj l m b q y r (by rw[<-B];exact a));exact⟨E,x.to rfl rfl rfl (e u F (R.lt a).1) (λ_ _=>rfl) λi j v _ _ t=>t.tr T⟩
def Zo.Q5{a:Nat}{h:List Ob}{d:List Pl}{w w':World}(R:Zo Z a h d w){l:Nat}{o o':Ob}{b q:Nat}(m:h[l]?=some o)(g:d[l]?=some (some (b,q)))(u:o.kd.ty=0)(s:o'.kd.ty=0)(x:o'.gen=o.gen)(t:o'.sz=o.sz)
  (e:∀k,k≠b->k<w.heap.size->w'.heap[k]? = w.heap[k]?) {r c:Array Value} {f:TypeId} (z:w.heap[b]?=some (.cells r f (0,0))) (n:w'.heap[b]?=some (.cells c f (0,0))) (y:c.size=r.size)
  (E:q+o'.n*o'.sz<=c.size) (C:∀i,i<o'.n->(o'.row i).length=o'.sz)
  (B:∀i j,i<o'.n->j<o'.sz->∃v,c[q+(i*o'.sz+j)]?=some v/\QF Z (h.set l o') d w' (nth (o'.row i) j) v) (hro:o'.kd.ro=o.kd.ro):Zo Z a (h.set l o') d w':=
 R.Qog (hro:=hro) m g (Tr.Q5 R m g (by rw[u,s]) x t e (λH F p=>by rw[z]at p;cases p;exact⟨c,n,y⟩)) e (.Ov s ⟨c,f,n,E,C,B⟩)
variable {Z:Nat->Prop}
inductive TK where
 | int (k:IntKind)|bool|str|slice (e:TypeId)|array (n:Nat) (e:TypeId)|struct (fs:List (Nat × TypeId))|ptr (e:TypeId)|map (k e:TypeId)|fn|iface|other
def TK.of:TypeDesc->TK
 | .int k=>.int k
 | .bool=>.bool
 | .string=>.str
 | .slice e=>.slice e
 | .array n e=>.array n e
 | .struct a=>.struct (a.toList.map λf=>(f.offset,f.type))
 | .pointer e=>.ptr e
 | .map k e=>.map k e
 | .func _ _ _=>.fn
 | .interface _=>.iface
 | _=>.other
structure Ty where
 k:TK
 size:Nat
 bytes:Nat
 zero:List Value
def TK.agg:TK->Bool
 | .struct _ | .array _ _=>true
 | _=>false
def cK:Value->Bool
 | .agg _=>true
 | _=>false
structure Xl (P:Program) (t:TypeId) (y:Ty):Prop where
 k:(P.underlying t).map TK.of=some y.k
 info:(P.info? t).map (λi=>(i.size,i.bytes,i.zero.map λz=>z.cells.toList))=some (y.size,y.bytes,some y.zero)
 zag:((P.info? t).bind (·.zero)).map cK=some y.k.agg
abbrev Jt:=List (TypeId × Ty)
def ty:Jt->TypeId->Option Ty
 | [],_=>none
 | (u,y)::r,t=>bif Nat.beq u t then some y else ty r t
def Jm(P:Program)(L:Jt):Prop:=∀t y,ty L t=some y->Xl P t y
def Jm.nil(P):Jm P []:=λ_ _ h=>by simp[ty]at h
def Jm.cons{P L}{t:TypeId}{y}(h:Xl P t y)(r:Jm P L):Jm P ((t,y)::L):=λu z e=>by
 simp only[ty]at e;by_cases a:t=u;subst a;simp at e;subst e;exact h;have:Nat.beq t u=false:=by rw[<-Yx,Wz];exact a
 rw[this]at e;exact r u z e
section
variable {P:Program}{t:TypeId}{y:Ty}(h:Xl P t y)
include h
theorem Xl.under:∃d,P.underlying t=some d/\TK.of d=y.k:=by
 have:=h.k;cases a:P.underlying t with
 | none=>rw[a]at this;cases this
 | some d=>rw[a]at this;exact⟨d,rfl,by simpa using this⟩
theorem Xl.sizeOf(w):(Go.sizeOf t).run P w=.ok y.size w:=by
 have:=h.info;cases a:P.info? t with
 | none=>rw[a]at this;cases this
 | some i=>rw[a]at this;simp at this;simp[Go.sizeOf,typeInfo,a,this.1]
theorem Xl.typeInfo(w):∃i,(Go.typeInfo t).run P w=.ok i w/\i.size=y.size/\i.bytes=y.bytes:=by
 have:=h.info;cases a:P.info? t with
 | none=>rw[a]at this;cases this
 | some i=>rw[a]at this;simp at this;exact⟨i,by simp[Go.typeInfo,a],this.1,this.2.1⟩
theorem Xl.zeroValue:∃z,z.cells.toList=y.zero/\∀w,(Go.zeroValue t).run P w=.ok z w:=by
 have:=h.info;cases a:P.info? t with
 | none=>rw[a]at this;cases this
 | some i=>rw[a]at this;simp at this;obtain⟨_,_,z,hz,b⟩:=this;exact⟨z,b,λw=>by simp[Go.zeroValue,Go.typeInfo,a,hz]⟩
theorem Xl.isAgg(w):(Go.isAgg t).run P w=.ok y.k.agg w:=by obtain⟨d,b,a⟩:=h.under;rw[<-a];cases d<;>simp[Go.isAgg,run_underlying b,TK.of,TK.agg]
end
def TK.of_slice{d:TypeDesc}{e:TypeId}(h:TK.of d=.slice e):d=.slice e:=by cases d<;>simp[TK.of]at h;rw[h]
def TK.of_array{d:TypeDesc}{n}{e:TypeId}(h:TK.of d=.array n e):d=.array n e:=by cases d<;>simp[TK.of]at h;rw[h.1,h.2]
def TK.of_struct{d:TypeDesc}{a:List (Nat × TypeId)}(h:TK.of d=.struct a):∃g,d=.struct g/\g.toList.map (λf=>(f.offset,f.type))=a:=by cases d<;>simp[TK.of]at h;exact⟨_,rfl,by simpa using h⟩
def TK.of_int{d:TypeDesc}{k}(h:TK.of d=.int k):d=.int k:=by cases d<;>simp[TK.of]at h;rw[h]
def TK.of_bool{d:TypeDesc}(h:TK.of d=.bool):d=.bool:=by cases d<;>simp[TK.of]at h;rfl
def TK.Qoi{d:TypeDesc}(h:TK.of d=.str):d=.string:=by cases d<;>simp[TK.of]at h;rfl
def TK.Qoj{d:TypeDesc}{e:TypeId}(h:TK.of d=.ptr e):d=.pointer e:=by cases d<;>simp[TK.of]at h;rw[h]
def TK.of_map{d:TypeDesc}{k e:TypeId}(h:TK.of d=.map k e):d=.map k e:=by cases d<;>simp[TK.of]at h;rw[h.1,h.2]
def yA{P:Program}{t e:TypeId}{y:Ty}(h:Xl P t y)(b:y.k=.slice e):P.underlying t=some (.slice e):=by obtain⟨d,c,a⟩:=h.under;rw[b]at a;rw[c,TK.of_slice a]
def n9{P:Program}{t e:TypeId}{n}{y:Ty}(h:Xl P t y)(b:y.k=.array n e):P.underlying t=some (.array n e):=by obtain⟨d,c,a⟩:=h.under;rw[b]at a;rw[c,TK.of_array a]
def QcM{P:Program}{t:TypeId}{b:List (Nat × TypeId)}{y:Ty}(h:Xl P t y)(e:y.k=.struct b):∃g,P.underlying t=some (.struct g)/\g.toList.map (λf=>(f.offset,f.type))=b:=by obtain⟨d,j,a⟩:=h.under;rw[e]at a;obtain⟨g,i,c⟩:=TK.of_struct a;exact⟨g,by rw[j,i],c⟩
def Dr{P:Program}{t:TypeId}{k}{y:Ty}(h:Xl P t y)(b:y.k=.int k):P.underlying t=some (.int k):=by obtain⟨d,c,a⟩:=h.under;rw[b]at a;rw[c,TK.of_int a]
def Qok{P:Program}{t:TypeId}{y:Ty}(h:Xl P t y)(b:y.k=.bool):P.underlying t=some .bool:=by obtain⟨d,c,a⟩:=h.under;rw[b]at a;rw[c,TK.of_bool a]
def SE{P:Program}{t:TypeId}{y:Ty}(h:Xl P t y)(b:y.k=.str):P.underlying t=some .string:=by obtain⟨d,c,a⟩:=h.under;rw[b]at a;rw[c,TK.Qoi a]
def Qol{P:Program}{t e:TypeId}{y:Ty}(h:Xl P t y)(b:y.k=.ptr e):P.underlying t=some (.pointer e):=by obtain⟨d,c,a⟩:=h.under;rw[b]at a;rw[c,TK.Qoj a]
def Fa{P:Program}{t k e:TypeId}{y:Ty}(h:Xl P t y)(b:y.k=.map k e):P.underlying t=some (.map k e):=by obtain⟨d,c,a⟩:=h.under;rw[b]at a;rw[c,TK.of_map a]
def Ke:Value->D
 | .slice none 0 0=>.nil
 | v=>.raw v
def YP:Value->D
 | .agg a=>.agg (a.toList.map Ke)
 | v=>Ke v
def Qr(a:List (Nat × D)):Operand->D
 | .tmp t=>get a t
 | .const v=>YP v
 | .global _=>.undef
 | .func f=>.raw (.func (.func f) #[] #[])
def Ds(N w v):Cl N w (Ke v) v:=by unfold Ke;split;exact .nil none;exact .raw _
def Qom(N w v):Cl N w (YP v) v:=by
 unfold YP;split;rename_i a;have:=Cl.agg (N:=N) (w:=w) (a.toList.map Ke) a.toList σ (λi b=>by
  have c:i<a.size:=by simpa using b
  simp only[nth,Q8,QU,KR];rw[QH (zC c)];exact Ds N w _)
 simpa using this;exact Ds N w _
def Rel.eval{b d}{s:St}{c}{a:Act}{w}(r:Rel Z b d s c a w)(x):QF Z s.h c w (Qr s.fr x) (a.eval x):=by
 cases x with
 | tmp t=>exact r.fr t
 | const v=>exact .cl _ _ (Qom _ _ v)
 | global g=>exact .cl _ _ (.undef _)
 | func f=>exact .cl _ _ (.raw _)
section
variable {h:List Ob}{pl:List Pl}{w:World}{v:Value}
def JI{u}(r:QF Z h pl w (.raw u) v):v=u:=by cases r with|cl _ _ a=>cases a;rfl
def AJ(r:QF Z h pl w .nil v):∃a,v=.slice a 0 0:=by cases r with|cl _ _ b=>cases b;exact⟨_,rfl⟩
def Fb{l g d c}(r:QF Z h pl w (.ref l g d c) v):∃o p a b,v=.slice a c b/\h[l]?=some o/\pl[l]?=some p/\o.kd.ty=0/\g<=o.gen/\(g=o.gen->QcK w o.sz p d c a b):=by
 cases r with
 | cl _ _ m=>cases m
 | ref _ _ _ _ o p a b i f j k e=>exact⟨o,p,a,b,rfl,i,f,j,k,e⟩
def Fc{l g i j}(r:QF Z h pl w (.ptr l g i j) v):∃o p a,v=.pointer (some a)/\h[l]?=some o/\pl[l]?=some p/\o.kd.ty=0/\g<=o.gen/\(g=o.gen->∃b q,p=some (b,q)/\a=⟨b,q+(i*o.sz+j),none⟩):=by
 cases r with
 | cl _ _ m=>cases m
 | ptr _ _ _ _ o p a e d f k c=>exact⟨o,p,a,rfl,e,d,f,k,c⟩
def G3{l g}(r:QF Z h pl w (.mref l g) v):∃o p b,h[l]?=some o/\pl[l]?=some p/\MOk o.kd.ty b v/\g<=o.gen/\(g=o.gen->p=some (b,0)):=by
 cases r with
 | cl _ _ i=>cases i
 | mref _ _ o p b d c e f a=>exact⟨o,p,b,d,c,e,f,a⟩
def Lw{b:List D}(r:QF Z h pl w (.agg b) v):∃a:List Value,v=.agg a.toArray/\a.length=b.length/\∀i,i<b.length->QF Z h pl w (nth b i) (Q8 a i):=by
 cases r with
 | cl _ _ f=>cases f with|agg _ a d c=>exact⟨a,rfl,d,λi e=>.cl _ _ (c i e)⟩
 | agg _ a d c=>exact⟨a,rfl,d,c⟩
def Qon{b:List D}(r:QF Z h pl w (.tup b) v):∃a:List Value,v=.tuple a.toArray/\a.length=b.length/\∀i,i<b.length->QF Z h pl w (nth b i) (Q8 a i):=by
 cases r with
 | cl _ _ f=>cases f with|tup _ a d c=>exact⟨a,rfl,d,λi e=>.cl _ _ (c i e)⟩
 | tup _ a d c=>exact⟨a,rfl,d,c⟩
def oa{f}{c:Nat}{b:List D}(r:QF Z h pl w (.clo f c b) v):∃a:List Value,v=.func (.func f) (a.take c).toArray (a.drop c).toArray/\a.length=b.length/\∀i,i<b.length->QF Z h pl w (nth b i) (Q8 a i):=by
 cases r with
 | cl _ _ j=>cases j with|clo _ _ _ a e d=>exact⟨a,rfl,e,λi g=>.cl _ _ (d i g)⟩
 | clo _ _ _ a e d=>exact⟨a,rfl,e,d⟩
def Lx{d:List D}(r:QF Z h pl w (.ip d) v):∃b o,∃a:Nat->Value,v=.pointer (some ⟨b,o,none⟩)/\∀j,j<d.length->(free Z pl b/\w.cell? ⟨b,o+j,none⟩=some (a j))/\Cl (free Z pl) w (nth d j) (a j):=by
 cases r with
 | cl _ _ c=>cases c with|ip _ b o a c f=>exact⟨b,o,a,rfl,λj e=>⟨c j e,f j e⟩⟩
def SF{f n d}(r:QF Z h pl w (.imm f n d) v):∃a c b o,∃e:Nat->Nat->Value,v=.slice a n c/\(0<n->a=some ⟨b,o,none⟩)/\n<=c/\(∀i,i<n->(d i).length=f) /\
  ∀i j,i<n->j<f->(free Z pl b/\w.cell? ⟨b,o+(i*f+j),none⟩=some (e i j))/\Cl (free Z pl) w (nth (d i) j) (e i j):=by
 cases r with
 | cl _ _ g=>cases g with|imm _ _ _ a c b o e s q m g p=>exact⟨a,c,b,o,e,rfl,s,q,m,λi j l k=>⟨g i j l k,p i j l k⟩⟩
end
def WL(P:Program)(c g:Nat)(o:Oper)(s:St)(d:D):Prop:=
 ∀(Z:Nat->Prop) f a w,Rel Z c g s f a w->∃v,QF Z s.h f w d v/\∀e:World,(∀b,b<w.heap.size->e.heap[b]? = w.heap[b]?)->(execOp a.eval o).run P e=.ok (.value v) e
def Qoo{w c:World}(e:∀b,b<w.heap.size->c.heap[b]? = w.heap[b]?){a v}(h:w.cell? a=some v):c.cell? a=some v:=by rw[World.cell?_of_block (w:=w) (e a.block (block_lt_of_cell h))];exact h
def kj(w b:World):Prop:=∀(a:Addr) (v:Value),w.cell? a=some v->b.cell? a=some v
def kj.trans{a b c}(h:kj a b)(k:kj b c):kj a c:=λx v hx=>k x v (h x v hx)
def kj.ext{w a:World}(e:∀b,b<w.heap.size->a.heap[b]? = w.heap[b]?):kj w a:=λ_ _ h=>Qoo e h
def cM(P:Program)(b f:Nat)(o:Oper)(s:St)(d:D):Prop:=
 ∀(Z:Nat->Prop) e a w,Rel Z b f s e a w->∃v,QF Z s.h e w d v/\∀c:World,kj w c->(execOp a.eval o).run P c=.ok (.value v) c
def cM.up{P b c o s d}(h:cM P b c o s d):WL P b c o s d:=λZ g a w r=>by obtain⟨v,j,i⟩:=h Z g a w r;exact⟨v,j,λf e=>i f (.ext e)⟩
abbrev Ev:=Option (Prop × D)
def cO(c:BinOp)(k:IntKind)(a b:Int):Ev:=
 match c with
 | .add=>some (True,.raw (.int k (k.wrap (a+b))))
 | .sub=>some (True,.raw (.int k (k.wrap (a-b))))
 | .mul=>some (True,.raw (.int k (k.wrap (a*b))))
 | .quo=>some (b≠0,.raw (.int k (k.wrap (a.tdiv b))))
 | .rem=>some (b≠0,.raw (.int k (a.tmod b)))
 | .and=>some (True,.raw (.int k (bits .and k a b)))
 | .or=>some (True,.raw (.int k (bits .or k a b)))
 | .xor=>some (True,.raw (.int k (bits .xor k a b)))
 | .andNot=>some (True,.raw (.int k (bits .andNot k a b)))
 | .eql=>some (True,.raw (.bool (a==b)))
 | .neq=>some (True,.raw (.bool (a != b)))
 | .lss=>some (True,.raw (.bool (decide (a<b))))
 | .leq=>some (True,.raw (.bool (decide (a<=b))))
 | .gtr=>some (True,.raw (.bool (decide (b<a))))
 | .geq=>some (True,.raw (.bool (decide (b<=a))))
 | _=>none
def cP(c:BinOp)(k:IntKind)(a b:Int):Ev:=
 match c with
 | .shl=>some (0<=b,.raw (.int k (k.wrap (a*2^(min b.toNat k.bits)))))
 | .shr=>some (0<=b,.raw (.int k (a.fdiv (2^(min b.toNat k.bits)))))
 | _=>none
def IntKind.same:IntKind->IntKind->Bool
 | .i8,.i8 | .i16,.i16 | .i32,.i32 | .i64,.i64 | .u8,.u8 | .u16,.u16 | .u32,.u32 | .u64,.u64=>true
 | _,_=>false
def IntKind.oc{k a}(h:IntKind.same k a=true):k=a:=by cases k<;>cases a<;>first|rfl|cases h
def od:BinOp->Bool
 | .shl | .shr=>true
 | _=>false
def cQ(c:BinOp)(a b:Bool):Ev:=
 match c with
 | .eql=>some (True,.raw (.bool (a==b)))
 | .neq=>some (True,.raw (.bool (a != b)))
 | _=>none
def cR(c:BinOp)(a b:ByteArray):Ev:=
 match c with
 | .add=>some (a.size+b.size<=9223372036854775807,.raw (.string (a++b)))
 | .eql=>some (True,.raw (.bool (a.toList==b.toList)))
 | .neq=>some (True,.raw (.bool (!(a.toList==b.toList))))
 | .lss=>some (True,.raw (.bool (Op.bytesLess a.toList b.toList)))
 | _=>none
def G4(b:BinOp)(a:Bool):Ev:=
 match b with
 | .eql=>some (True,.raw (.bool a))
 | .neq=>some (True,.raw (.bool (!a)))
 | _=>none
def G5(L:Jt)(t:TypeId):Bool:=match ty L t with|some ⟨.ptr _,_,_,_⟩=>true|_=>false
def cS(L:Jt)(t:TypeId):Bool:=match ty L t with|some ⟨.bool,_,_,_⟩=>true|_=>false
def cT(L:Jt)(c:BinOp)(t:TypeId):D->D->Ev
 | .raw (.int k a),.raw (.int d b)=>bif od c then cP c k a b else bif IntKind.same k d then cO c k a b else none
 | .raw (.bool a),.raw (.bool b)=>bif cS L t then cQ c a b else none
 | .raw (.string a),.raw (.string b)=>cR c a b
 | .raw (.pointer none),.raw (.pointer none)=>bif G5 L t then G4 c true else none
 | .ptr _ _ _ _,.raw (.pointer none)=>bif G5 L t then G4 c false else none
 | .ip _,.raw (.pointer none)=>bif G5 L t then G4 c false else none
 | .raw (.pointer none),.ptr _ _ _ _=>bif G5 L t then G4 c false else none
 | .raw (.pointer none),.ip _=>bif G5 L t then G4 c false else none
 | _,_=>none
def Qop(P w){s:Sem Value}{v}(h:s.run P w=.ok v w):(do pure (Next.value (<-s)):Sem Next).run P w=.ok (.value v) w:=by simp[h]
def Qoq{P c k a b p d}(t)(h:cO c k a b=some (p,d))(e:p):∃v,d=.raw v/\∀w,(Go.binOp c t (.int k a) (.int k b)).run P w=.ok v w:=by
 cases c<;>simp only[cO,Q7,Zg,reduceCtorEq]at h<;>obtain⟨rfl,rfl⟩:=h<;>refine⟨_,rfl,λw=>?_⟩ <;>
  simp_all[Go.binOp,Op.intArith,Op.intDiv,Op.intBits,Op.intCmp,bits]
def Qor{P c k e a b p d}(t)(h:cP c k a b=some (p,d))(f:p):∃v,d=.raw v/\∀w,(Go.binOp c t (.int k a) (.int e b)).run P w=.ok v w:=by
 cases c<;>simp only[cP,Q7,Zg,reduceCtorEq]at h<;>obtain⟨rfl,rfl⟩:=h<;>refine⟨_,rfl,λw=>?_⟩ <;>
  (have:¬ b<0:=ω
   simp[Go.binOp,Op.shift,this])
def Qos{P c a b p d}(t)(h:cR c a b=some (p,d))(e:p):∃v,d=.raw v/\∀w,(Go.binOp c t (.string a) (.string b)).run P w=.ok v w:=by
 cases c<;>simp only[cR,Q7,Zg,reduceCtorEq]at h<;>obtain⟨rfl,rfl⟩:=h<;>refine⟨_,rfl,λw=>?_⟩ <;>
  simp[Go.binOp,Op.stringOp]
 omega
def Qot{P:Program}{t e:TypeId}(a:P.underlying t=some (.pointer e))(n){x y:Option Addr}(b:x=none\/y=none)(w):(Op.equalIn (n+1) t (.pointer x) (.pointer y)).run P w=.ok (x.isNone&&y.isNone) w:=by rcases b with rfl|rfl;simp[Op.equalIn,run_underlying a];cases x<;>simp[Op.equalIn,run_underlying a]
def oe{P}{t:TypeId}{x y:Value}{b w}(a:∀n,(Op.equalIn (n+1) t x y).run P w=.ok b w):(Op.equal t x y).run P w=.ok b w:=a 9999
def Qou{P:Program}{c a b p d}(t)(f:P.underlying t=some .bool)(h:cQ c a b=some (p,d)):∃v,d=.raw v/\∀w,(Go.binOp c t (.bool a) (.bool b)).run P w=.ok v w:=by have e:∀w,(Op.equal t (.bool a) (.bool b)).run P w=.ok (a==b) w:=λw=>oe λn=>run_equalIn_bool' w n t a b f;cases c<;>simp only[cQ,Q7,Zg,reduceCtorEq]at h<;>obtain⟨rfl,rfl⟩:=h<;>refine⟨_,rfl,λw=>?_⟩<;>simp only[Go.binOp];simp[e];simp[e,bne]
def SG{P:Program}{a}{x y:Option Addr}(c:x=none\/y=none){p d}{t e:TypeId}(f:P.underlying t=some (.pointer e))(h:G4 a (x.isNone&&y.isNone)=some (p,d)):∃v,d=.raw v/\∀w,(Go.binOp a t (.pointer x) (.pointer y)).run P w=.ok v w:=by have b:∀w,(Op.equal t (.pointer x) (.pointer y)).run P w=.ok (x.isNone&&y.isNone) w:=λw=>oe λn=>Qot f n c w;cases a<;>simp only[G4,Q7,Zg,reduceCtorEq]at h<;>obtain⟨rfl,rfl⟩:=h<;>refine⟨_,rfl,λw=>?_⟩<;>simp only[Go.binOp];simp[b];simp[b]
def SH{P:Program}{L}(b:Jm P L){t:TypeId}(h:G5 L t=true):∃e,P.underlying t=some (.pointer e):=by unfold G5 at h;split at h;rename_i e _ _ _ a;exact⟨e,Qol (b _ _ a) rfl⟩;cases h
def Qov{P:Program}{L}(b:Jm P L){t:TypeId}(h:cS L t=true):P.underlying t=some .bool:=by unfold cS at h;split at h;rename_i a;exact Qok (b _ _ a) rfl;cases h
def km{a:Type}{c:Bool}{x:Option a}{y:a}(h:(bif c then x else none)=some y):c=true/\x=some y:=by cases c<;>simp at h;exact⟨rfl,h⟩
def Qow{P L}(q:Jm P L){z M s}{o:Oper}{f}{t J:TypeId}{x y}(N:o.op=.binOp f t x y J){p d}
  (h:cT L f t (Qr s.fr x) (Qr s.fr y)=some (p,d)) (E:p):WL P z M o s d:=by
 intro Z K a w r;have hx:=r.eval x;have n:=r.eval y;generalize Qr s.fr x=W at *;generalize Qr s.fr y=V at *;have c:∀(C B:Value),a.eval x=C->a.eval y=B->(∀w,(eqGuard f t x y C B).run P w=.ok () w)->(∃v,d=.raw v/\∀w,(Go.binOp f t C B).run P w=.ok v w) ->
   ∃v,QF Z s.h K w d v/\∀u:World,(∀b,b<w.heap.size->u.heap[b]? = w.heap[b]?)->(execOp a.eval o).run P u=.ok (.value v) u:=by
  intro C B H F Q ⟨v,R,l⟩;refine⟨v,R▸.cl _ _ (.raw v),λu _=>?_⟩;simp only[execOp,N,H,F];refine Qop P u ?_;simp[Q,l]
 unfold cT at h;split at h;rename_i k i U j;have H:=JI hx;have F:=JI n;refine c _ _ H F (λw=>by cases f<;>simp[eqGuard]) ?_;cases I:od f;rw[I]at h;simp only[ju]at h;obtain⟨O,S⟩:=km h;have:=IntKind.oc O;subst this;exact Qoq t S E;rw[I]at h;exact Qor t h E;obtain⟨g,h⟩:=km h;exact c _ _ (JI hx) (JI n) (λw=>by cases f<;>simp[eqGuard]) (Qou t (Qov q g) h);exact c _ _ (JI hx) (JI n) (λw=>by cases f<;>simp[eqGuard]) (Qos t h E);obtain⟨g,h⟩:=km h;obtain⟨e,m⟩:=SH q g;exact c _ _ (JI hx) (JI n) (λw=>by cases f<;>simp[eqGuard]) (SG (.inl rfl) m h);obtain⟨g,h⟩:=km h;obtain⟨e,m⟩:=SH q g;obtain⟨_,_,T,l,_⟩:=Fc hx;exact c _ _ l (JI n) (λw=>by cases f<;>simp[eqGuard]) (SG (.inr rfl) m h);obtain⟨g,h⟩:=km h;obtain⟨e,m⟩:=SH q g;obtain⟨_,_,_,l,_⟩:=Lx hx;exact c _ _ l (JI n) (λw=>by cases f<;>simp[eqGuard]) (SG (.inr rfl) m h);obtain⟨g,h⟩:=km h;obtain⟨e,m⟩:=SH q g;obtain⟨_,_,T,l,_⟩:=Fc n;exact c _ _ (JI hx) l (λw=>by cases f<;>simp[eqGuard]) (SG (.inl rfl) m h);obtain⟨g,h⟩:=km h;obtain⟨e,m⟩:=SH q g;obtain⟨_,_,_,l,_⟩:=Lx n;exact c _ _ (JI hx) l (λw=>by cases f<;>simp[eqGuard]) (SG (.inl rfl) m h);cases h
variable {Z:Nat->Prop}
section
variable {P:Program}{L:Jt}{base nt:Nat}{s:St}{o:Oper}
def QcN{x}(ho:o.op=.move x\/o.op=.assign x):WL P base nt o s (Qr s.fr x):=by intro Z c a w r;refine⟨_,r.eval x,λb _=>?_⟩;rcases ho with ho|ho<;>simp[execOp,ho]
def Qox{c x y}(d:o.op=.pick c x y){b}(g:Qr s.fr c=.raw (.bool b)):WL P base nt o s (bif b then Qr s.fr x else Qr s.fr y):=by intro Z i a w r;have h:=r.eval c;rw[g]at h;have e:=JI h;cases b;exact⟨_,r.eval y,λf _=>by simp[execOp,d,e,asBool]⟩;exact⟨_,r.eval x,λf _=>by simp[execOp,d,e,asBool]⟩
def mk(y:Ty)(a:List D):D:=bif y.k.agg then .agg (a.take y.size) else nth a 0
def Dt(y:Ty):D:=bif y.k.agg then .agg (y.zero.map Ke) else nth (y.zero.map Ke) 0
def og{P}{t:TypeId}{y}(h:Xl P t y){N}(w):∃z,Cl N w (Dt y) z/\∀e,(Go.zeroValue t).run P e=.ok z e:=by
 have b:=h.info;have d:=h.zag;cases a:P.info? t with
 | none=>rw[a]at b;cases b
 | some i=>
  rw[a]at b d;simp at b;obtain⟨_,_,z,hz,f⟩:=b;simp[hz]at d;refine⟨z,?_,λw=>by simp[Go.zeroValue,Go.typeInfo,a,hz]⟩;unfold Dt;rw[<-d,<-f];cases z with
  | agg c=>
   simp only[cK,wD];refine .agg _ c.toList (by simp[Value.cells]) λi a=>?_;have j:i<c.size:=by simpa[Value.cells] using a
   have g:nth ((Value.agg c).cells.toList.map Ke) i=Ke (Q8 c.toList i):=by simp[nth,Q8,Value.cells,QU,j]
   rw[g];exact Ds N w _
  | _=>simp only[cK,ju,Value.cells,nth,Jr,List.map_nil,List.getD_cons_zero];exact Ds N w _
def oh{a:List D}{k i}(h:i<k):nth (a.take k) i=nth a i:=by simp only[nth,QU,XJ,h,Vu]
def G6{a:List D}{k i}:nth (a.drop k) i=nth a (k+i):=by simp only[nth,QU,GX]
def QcO{t:TypeId}{y:Ty}(e:Xl P t y)(w:World)(c:Addr)(a:List D){h:List Ob}{pl:List Pl}(p:World)(B:y.size<=a.length)(x:y.k.agg=false->y.size=1)
  (l:∀j,j<y.size->∃v,w.cell? (c.add j)=some v/\QF Z h pl p (nth a j) v) :
  ∃v,QF Z h pl p (mk y a) v/\∀b,(∀j v,j<y.size->w.cell? (c.add j)=some v->b.cell? (c.add j)=some v)->(loadVar t c).run P b=.ok v b:=by
 unfold mk;cases k:y.k.agg;have z:=x k;obtain⟨v,d,g⟩:=l 0 ω;refine⟨v,g,λb m=>?_⟩;have:=m 0 v ω d;simp only[Addr.add_zero']at this;simp[loadVar,e.isAgg,k,this];let f:Nat->Value:=λj=>(w.cell? (c.add j)).getD Go.undef;refine⟨.agg ((List.range y.size).map f).toArray,.agg _ _ ξ (λi u=>?_),λb m=>?_⟩;have n:i<y.size:=by simp at u;omega
 obtain⟨v,d,g⟩:=l i n;rw[oh n];have:Q8 ((List.range y.size).map f) i=v:=by simp[Q8,QU,n,f,d]
 rw[this];exact g;have r:(loadCells c y.size).run P b=.ok ((List.range y.size).map f).toArray b:=run_loadCells b c y.size f (λj q=>by obtain⟨v,d,_⟩:=l j q;rw[m j v q d];simp[f,d])
 simp[loadVar,e.isAgg,k,e.sizeOf,r]
def Lz(L:Jt)(h:List Ob)(t:TypeId)(d:D):Ev:=
 match ty L t with
 | none=>none
 | some y=>
  match d with
  | .ptr l g i j=>match h[l]? with
   | some o=>some (g=o.gen/\i<o.n/\j+y.size<=o.sz/\(y.k.agg=false->y.size=1),mk y ((o.row i).drop j))
   | none=>none
  | .ip a=>some (y.size<=a.length/\(y.k.agg=false->y.size=1),mk y a)
  | _=>none
def AK(b o n):(⟨b,o,none⟩:Addr).add n=⟨b,o+n,none⟩:=Addr.add_lit b o n
def QcP(W:Jm P L){t:TypeId}{x}(K:o.op=.load t x){p d}(h:Lz L s.h t (Qr s.fr x)=some (p,d))(J:p):cM P base nt o s d:=by
 intro Z H a w r;have hx:=r.eval x;unfold Lz at h;cases B:ty L t with
 | none=>rw[B]at h;cases h
 | some y=>
  have I:=W t y B;rw[B]at h;dsimp only at h;generalize Qr s.fr x=dx at *;split at h;rename_i l g i j;split at h;rename_i z N;simp only[Q7,Zg]at h;obtain⟨rfl,rfl⟩:=h;obtain⟨T,M,hj,E⟩:=J;obtain⟨o',p',ad,f,O,Jd,ZO,vp,KS⟩:=Fc hx;rw[N]at O;cases O;obtain⟨b,q,rfl,rfl⟩:=KS T;obtain⟨Q6,R⟩:=r.o.at_ l z b q N Jd;obtain⟨c,el,V,Q,Kf,Z3⟩:=R.cells ZO;obtain⟨v,n,F⟩:=QcO I w ⟨b,q+(i*z.sz+j),none⟩ ((z.row i).drop j) (h:=s.h) (pl:=H) w (by simp[Kf i M];omega) E (λk C=>by obtain⟨v,f,n⟩:=Z3 i (j+k) M ω;refine⟨v,?_,by rw[G6];exact n⟩;rw[AK,cell_of_row w b _ c el (0,0) V,<-f];congr 1;omega)
  refine⟨v,n,λu e=>?_⟩;have:=F u (λk v C f=>e _ _ f);simp[execOp,K,f,Instr.loadAt,Instr.sureAddr,this];cases h;rename_i m;simp only[Q7,Zg]at h;obtain⟨rfl,rfl⟩:=h;obtain⟨Q,E⟩:=J;obtain⟨b,q,S,f,U⟩:=Lx hx;obtain⟨v,n,F⟩:=QcO I w ⟨b,q,none⟩ m (h:=s.h) (pl:=H) w Q E (λk C=>by obtain⟨⟨_,h2⟩,Y⟩:=U k ω;exact⟨S k,by rw[AK];exact h2,.cl _ _ Y⟩)
  refine⟨v,n,λu e=>?_⟩;have:=F u (λk v C f=>e _ _ f);simp[execOp,K,f,Instr.loadAt,Instr.sureAddr,this];cases h
def QcQ(c:Jm P L){t:TypeId}{x}(b:o.op=.load t x){p d}(h:Lz L s.h t (Qr s.fr x)=some (p,d))(a:p):WL P base nt o s d:=(QcP c b h a).up
def Ox(L:Jt)(t:TypeId)(f:Nat):Option (Nat × Ty):=
 match ty L t with
 | some ⟨.struct b,_,_,_⟩=>match b[f]? with
  | some (a,u)=>match ty L u with
   | some y=>some (a,y)
   | none=>none
  | none=>none
 | _=>none
def oq(d:Jm P L){t:TypeId}{f b y}(h:Ox L t f=some (b,y)):∃g a,P.underlying t=some (.struct g)/\g[f]?=some a/\a.offset=b/\Xl P a.type y:=by unfold Ox at h;split at h;rename_i q _ _ _ k;split at h;rename_i r u c;split at h;rename_i p e;simp only[Q7,Zg]at h;obtain⟨rfl,rfl⟩:=h;obtain⟨g,j,i⟩:=QcM (d _ _ k) rfl;rw[<-i]at c;simp only[KR,WK,Zg]at c;obtain⟨a,n,m,l⟩:=c;exact⟨g,a,j,by simpa using n,m,by rw[l];exact d _ _ e⟩;cases h;cases h;cases h
def cU(L:Jt)(t:TypeId)(f:Nat)(d:D):Ev:=
 match Ox L t f with
 | none=>none
 | some (b,y)=>match d with
  | .ptr l g i j=>some (y.size≠0,.ptr l g i (j+b))
  | .ip a=>some (y.size≠0,.ip (a.drop b))
  | _=>none
def Qoy(Y:Jm P L){t:TypeId}{f x}(C:o.op=.fieldAddr t x f){p d}(h:cU L t f (Qr s.fr x)=some (p,d))(u:p):WL P base nt o s d:=by
 intro Z pl a w r;have hx:=r.eval x;unfold cU at h;split at h;cases h;rename_i a0 y V;obtain⟨g,e,F,Q,rfl,B⟩:=oq Y V;have k:∀(b q:Nat),y.size≠0->a.eval x=.pointer (some ⟨b,q,none⟩)->∀c:World,(execOp a.eval o).run P c=.ok (.value (.pointer (some ⟨b,q+e.offset,none⟩))) c:=by intro b q U W c;simp[execOp,C,W,Instr.fieldAt,run_underlying F,Q,Instr.sureAddr,fieldPlace,B.sizeOf,U,AK]
 generalize Qr s.fr x=dx at *;split at h;rename_i l g i j;simp only[Q7,Zg]at h;obtain⟨rfl,rfl⟩:=h;obtain⟨n,pp,ad,m,M,O,N,R,KS⟩:=Fc hx;by_cases E:g=n.gen;obtain⟨b,q,rfl,rfl⟩:=KS E;exact⟨_,.ptr _ _ _ _ n _ _ M O N R (λ_=>⟨b,q,rfl,by simp only[Addr.mk.injEq,and_true,yz];omega⟩),λc _=>k _ _ u m c⟩;obtain⟨b,q,T⟩:=ad;refine⟨.pointer (some ((⟨b,q,T⟩:Addr).add e.offset)),.ptr _ _ _ _ n _ _ M O N R (λh=>absurd h E),λc _=>?_⟩;simp[execOp,C,m,Instr.fieldAt,run_underlying F,Q,Instr.sureAddr,fieldPlace,B.sizeOf,u];rename_i z;simp only[Q7,Zg]at h;obtain⟨rfl,rfl⟩:=h;obtain⟨b,q,S,m,H⟩:=Lx hx;refine⟨_,.cl _ _ (.ip _ b (q+e.offset) (λj=>S (e.offset+j)) (λj v=>?_) (λj v=>?_)),λc _=>k _ _ u m c⟩;obtain⟨⟨K,J⟩,I⟩:=H (e.offset+j) (by simp at v;omega);exact⟨K,by rw[Nat.add_assoc];exact J⟩;obtain⟨⟨K,J⟩,I⟩:=H (e.offset+j) (by simp at v;omega);rw[G6];exact I;cases h
def QcR{t:TypeId}{y}(e:Xl P t y)(c:List D)(b:List Value){h j g}(q:b.length=c.length)(k:∀i,i<c.length->QF Z h j g (nth c i) (Q8 b i))(a)
  (r:a+y.size<=c.length) (n:y.k.agg=false->y.size=1):∃v,QF Z h j g (mk y (c.drop a)) v/\∀d,(part t b.toArray a).run P d=.ok v d:=by
 unfold mk;cases f:y.k.agg;have p:=n f;refine⟨Q8 b a,by simp only[ju];rw[G6];exact k a ω,λd=>?_⟩;have Qb:a<b.length:=ω;simp[part,e.isAgg,f,Q8,QU,Qb];refine⟨.agg ((b.drop a).take y.size).toArray,.agg _ _ ξ (λi m=>?_),λd=>?_⟩;have l:i<y.size:=by simp at m;omega
 rw[oh l,G6];have:Q8 ((b.drop a).take y.size) i=Q8 b (a+i):=by simp[Q8,QU,l]
 rw[this];exact k _ ω;simp[part,e.isAgg,f,e.sizeOf]
def cV(L:Jt)(t:TypeId)(f:Nat)(d:D):Ev:=
 match Ox L t f with
 | none=>none
 | some (a,y)=>match d with
  | .agg b=>some (a+y.size<=b.length/\(y.k.agg=false->y.size=1),mk y (b.drop a))
  | _=>none
def Qoz(u:Jm P L){t:TypeId}{f x}(l:o.op=.field t x f){p d}(h:cV L t f (Qr s.fr x)=some (p,d))(b:p):WL P base nt o s d:=by intro Z I a w r;have hx:=r.eval x;unfold cV at h;split at h;cases h;rename_i F y q;obtain⟨g,z,n,E,rfl,i⟩:=oq u q;generalize Qr s.fr x=J at *;split at h;rename_i B;simp only[Q7,Zg]at h;obtain⟨rfl,rfl⟩:=h;obtain⟨c,j,m,k⟩:=Lw hx;obtain⟨v,e,C⟩:=QcR i B c m k z.offset b.1 b.2;refine⟨v,e,λH _=>?_⟩;simp[execOp,l,j,Instr.field,run_underlying n,E,asAgg,C];cases h
def Oy(L:Jt)(t:TypeId):Option (Nat × Bool × Nat):=
 match ty L t with
 | some ⟨.slice e,_,_,_⟩=>match ty L e with
  | some y=>some (y.size,true,0)
  | none=>none
 | some ⟨.array n e,_,_,_⟩=>match ty L e with
  | some y=>some (y.size,false,n)
  | none=>none
 | _=>none
def QoA(b:Jm P L){t:TypeId}{a n}(h:Oy L t=some (a,true,n)):∃e y,P.underlying t=some (.slice e)/\Xl P e y/\y.size=a:=by unfold Oy at h;split at h;rename_i e _ _ _ d;split at h;rename_i y c;simp only[Q7,Zg]at h;exact⟨e,y,yA (b _ _ d) rfl,b _ _ c,h.1⟩;cases h;split at h;simp at h;cases h;cases h
def QoB(b:Jm P L){t:TypeId}{a n}(h:Oy L t=some (a,false,n)):∃e y,P.underlying t=some (.array n e)/\Xl P e y/\y.size=a:=by unfold Oy at h;split at h;split at h;simp at h;cases h;rename_i e _ _ _ d;split at h;rename_i y c;simp only[Q7,Zg]at h;obtain⟨rfl,_,rfl⟩:=h;exact⟨e,y,n9 (b _ _ d) rfl,b _ _ c,rfl⟩;cases h;cases h
def cW(L:Jt)(h:List Ob)(t:TypeId)(d m:D):Ev:=
 match m with
 | .raw (.int _ i)=>match Oy L t with
  | some (c,true,_)=>match d with
   | .ref l g f k=>match h[l]? with
    | some o=>some (g=o.gen/\o.sz=c/\0<=i/\i<k,.ptr l g (f+i.toNat) 0)
    | none=>none
   | .imm z n e=>some (z=c/\0<=i/\i<n,.ip (e i.toNat))
   | _=>none
  | some (c,false,n)=>match d with
   | .ptr l g a j=>some (0<=i/\i<n,.ptr l g a (j+i.toNat*c))
   | .ip b=>some (0<=i/\i<n,.ip (b.drop (i.toNat*c)))
   | _=>none
  | none=>none
 | _=>none
def QoC(hL:Jm P L){t:TypeId}{x I}(K:o.op=.indexAddr t x I){p d}(h:cW L s.h t (Qr s.fr x) (Qr s.fr I)=some (p,d))(J:p):WL P base nt o s d:=by intro Z pl a w r;have hx:=r.eval x;have ov:=r.eval I;unfold cW at h;generalize Qr s.fr x=dx at *;generalize Qr s.fr I=di at *;split at h;rename_i k i;have M:=JI ov;split at h;rename_i sz _ U;obtain⟨e,y,E,C,rfl⟩:=QoA hL U;split at h;rename_i l g a0 a4;split at h;rename_i H O;simp only[Q7,Zg]at h;obtain⟨rfl,rfl⟩:=h;obtain⟨T,JO,v,f⟩:=J;obtain⟨o',p',V,a1,u,ZR,Jd,W,vp,KS⟩:=Fb hx;rw[O]at ZR;cases ZR;rcases KS T with ⟨F,_⟩|⟨b,q,c,el,Y,Q,hb,B,Dv⟩;omega;refine⟨.pointer (some ⟨b,q+((a0+i.toNat)*H.sz+0),none⟩),.ptr _ _ _ _ H _ _ O Jd W vp (λ_=>⟨b,q,Y,rfl⟩),λR _=>?_⟩;simp[execOp,K,u,M,Q,Instr.indexAt,asIntOf,run_underlying E,v,f,C.sizeOf,AK,JO];rw[KE];omega;cases h;rename_i z n a3;simp only[Q7,Zg]at h;obtain⟨rfl,rfl⟩:=h;obtain⟨rfl,v,f⟩:=J;obtain⟨V,a1,b,q,S,u,Q,Dv,hs,B⟩:=SF hx;have Qb:i.toNat<n:=ω;refine⟨.pointer (some ⟨b,q+i.toNat*y.size,none⟩),.cl _ _ (.ip _ b _ (λj=>S i.toNat j) (λj m=>?_) (λj m=>?_)),λR _=>?_⟩;rw[hs _ Qb]at m;obtain⟨⟨F,N⟩,h4⟩:=B i.toNat j Qb m;exact⟨F,by rw[Nat.add_assoc];exact N⟩;rw[hs _ Qb]at m;exact(B i.toNat j Qb m).2;simp[execOp,K,u,M,Q ω,Instr.indexAt,asIntOf,run_underlying E,v,f,C.sizeOf,AK];cases h;rename_i sz n U;obtain⟨e,y,E,C,rfl⟩:=QoB hL U;split at h;rename_i l g i0 j;simp only[Q7,Zg]at h;obtain⟨rfl,rfl⟩:=h;obtain⟨v,f⟩:=J;obtain⟨H,pp,V,u,O,Y,W,BN,KS⟩:=Fc hx;refine⟨.pointer (some (V.add (i.toNat*y.size))),.ptr _ _ _ _ H _ _ O Y W BN (λT=>?_),λR _=>?_⟩;obtain⟨b,q,rfl,rfl⟩:=KS T;exact⟨b,q,rfl,by rw[AK];simp only[Addr.mk.injEq,and_true,yz];omega⟩;simp[execOp,K,u,M,Instr.indexAt,asIntOf,run_underlying E,v,f,C.sizeOf,Instr.sureAddr];rename_i a2;simp only[Q7,Zg]at h;obtain⟨rfl,rfl⟩:=h;obtain⟨v,f⟩:=J;obtain⟨b,q,S,u,B⟩:=Lx hx;refine⟨_,.cl _ _ (.ip _ b (q+i.toNat*y.size) (λj=>S (i.toNat*y.size+j)) (λj m=>?_) (λj m=>?_)),λR _=>?_⟩;obtain⟨⟨f,F⟩,N⟩:=B (i.toNat*y.size+j) (by simp at m;omega);exact⟨f,by rw[Nat.add_assoc];exact F⟩;obtain⟨⟨f,F⟩,N⟩:=B (i.toNat*y.size+j) (by simp at m;omega);rw[G6];exact N;simp[execOp,K,u,M,Instr.indexAt,asIntOf,run_underlying E,v,f,C.sizeOf,Instr.sureAddr,AK];cases h;cases h;cases h
def cX(L:Jt)(t:TypeId)(d c:D):Ev:=
 match c with
 | .raw (.int _ i)=>match d with
  | .agg a=>match ty L t with
   | some ⟨.array n e,_,_,_⟩=>match ty L e with
    | some y=>some (0<=i/\i<n/\i.toNat*y.size+y.size<=a.length/\(y.k.agg=false->y.size=1),mk y (a.drop (i.toNat*y.size)))
    | none=>none
   | _=>none
  | .raw (.string b)=>match ty L t with
   | some ⟨.str,_,_,_⟩=>some (0<=i/\i<b.size,.raw (.int .u8 (b.data.getD i.toNat 0).toNat))
   | _=>none
  | _=>none
 | _=>none
def QcS(j:Jm P L){t:TypeId}{x c}(u:o.op=.index t x c){p d}(h:cX L t (Qr s.fr x) (Qr s.fr c)=some (p,d))(q:p):WL P base nt o s d:=by
 intro Z R a w r;have hx:=r.eval x;have F:=r.eval c;unfold cX at h;generalize Qr s.fr x=S at *;generalize Qr s.fr c=T at *;split at h;rename_i k i;have z:=JI F;split at h;rename_i N;split at h;rename_i n e _ _ _ g;split at h;rename_i y Q;have m:=j _ _ Q;simp only[Q7,Zg]at h;obtain⟨rfl,rfl⟩:=h;obtain⟨l,B,M,K⟩:=q;obtain⟨E,f,J,I⟩:=Lw hx;obtain⟨v,H,O⟩:=QcR m N E J I _ M K;refine⟨v,H,λC _=>?_⟩;simp[execOp,u,f,z,Instr.index,asIntOf,run_underlying (n9 (j _ _ g) rfl),l,B,m.sizeOf,O];cases h;cases h;rename_i b;split at h;rename_i g;simp only[Q7,Zg]at h;obtain⟨rfl,rfl⟩:=h;obtain⟨l,B⟩:=q;have f:=JI hx;refine⟨_,.cl _ _ (.raw _),λC _=>?_⟩;have Qb:i.toNat<b.size:=ω;have:b[i.toNat]?=some (b.data.getD i.toNat 0):=by rw[getElem?_pos b i.toNat Qb];show some (b.data[i.toNat])=_;rw[yw,jY (by exact Qb)];rfl
 simp[execOp,u,f,z,Instr.index,asIntOf,run_underlying (SE (j _ _ g) rfl),l,this];cases h;cases h;cases h
def QoD{x i}(g:o.op=.extract x i){b:List D}(d:Qr s.fr x=.tup b)(j:i<b.length):WL P base nt o s (nth b i):=by intro Z l a w r;have h:=r.eval x;rw[d]at h;obtain⟨c,e,m,f⟩:=Qon h;refine⟨_,f i j,λk _=>?_⟩;have:i<c.length:=ω;simp[execOp,g,e,Instr.extract,Q8,QU,this]
def QoE{u}{t:TypeId}{x}(f:o.op=.unOp u t x){b}(e:u=.not)(c:Qr s.fr x=.raw (.bool b)):WL P base nt o s (.raw (.bool (!b))):=by intro Z i a w r;have h:=r.eval x;rw[c]at h;have d:=JI h;exact⟨_,.cl _ _ (.raw _),λg _=>by simp[execOp,f,d,e,Op.unary]⟩
def QoF{u}{t:TypeId}{x}(e:o.op=.unOp u t x){k:IntKind}{n}(d:u=.neg)(b:Qr s.fr x=.raw (.int k n)):WL P base nt o s (.raw (.int k (k.wrap (0-n)))):=by intro Z g a w r;have h:=r.eval x;rw[b]at h;have c:=JI h;exact⟨_,.cl _ _ (.raw _),λf _=>by simp[execOp,e,c,d,Op.unary,Op.intArith]⟩
def QoG{u}{t:TypeId}{x}(e:o.op=.unOp u t x){k:IntKind}{n}(d:u=.xor)(b:Qr s.fr x=.raw (.int k n)):WL P base nt o s (.raw (.int k (bits .xor k (if k.signed then -1 else k.max) n))):=by intro Z g a w r;have h:=r.eval x;rw[b]at h;have c:=JI h;exact⟨_,.cl _ _ (.raw _),λf _=>by simp[execOp,e,c,d,Op.unary,Op.intBits,bits]⟩
def D.there:D->Bool
 | .ptr _ _ _ _ | .ip _ | .clo _ _ _=>true
 | .raw (.func (.func _) _ _)=>true
 | _=>false
def QoH{x}(c:o.op=.nilCheck x){d:D}(m:Qr s.fr x=d)(k:d.there=true):WL P base nt o s d:=by
 intro Z t a w r;have h:=r.eval x;rw[m]at h;cases d<;>try (simp only[D.there,qq]at k;done)
 case ptr l g i j=>obtain⟨_,_,y,b,_⟩:=Fc h;exact⟨_,h,λe _=>by simp[execOp,c,b]⟩
 case ip p=>obtain⟨_,_,_,b,_⟩:=Lx h;exact⟨_,h,λe _=>by simp[execOp,c,b]⟩
 case raw v=>
  have b:=JI h;cases v with
  | func n first z=>
   cases n with
   | func f=>exact⟨_,h,λe _=>by simp[execOp,c,b]⟩
   | _=>simp only[D.there,qq]at k
  | _=>simp only[D.there,qq]at k
 case clo f u p=>obtain⟨q,b,_⟩:=oa h;exact⟨_,h,λe _=>by simp[execOp,c,b]⟩
def cY(L:Jt)(a c:TypeId):D->Ev
 | .raw (.int _ n)=>match ty L c,ty L a with
  | some ⟨.int k,_,_,_⟩,some _=>some (True,.raw (.int k (k.wrap n)))
  | _,_=>none
 | .raw (.string b)=>match ty L c,ty L a with
  | some ⟨.str,_,_,_⟩,some ⟨.str,_,_,_⟩=>some (True,.raw (.string b))
  | _,_=>none
 | _=>none
def QoI(e:Jm P L){b c:TypeId}{x}(j:o.op=.convert b c x){p d}(h:cY L b c (Qr s.fr x)=some (p,d)):WL P base nt o s d:=by intro Z t a w r;have hx:=r.eval x;unfold cY at h;generalize Qr s.fr x=v at *;split at h;split at h;rename_i k _ _ _ n i g;simp only[Q7,Zg]at h;obtain⟨rfl,rfl⟩:=h;have f:=JI hx;refine⟨_,.cl _ _ (.raw _),λl _=>?_⟩;obtain⟨q,m,u⟩:=(e _ _ g).under;simp[execOp,j,f,convert,run_underlying m,run_underlying (Dr (e _ _ i) rfl),Conv.intToInt];cases h;split at h;rename_i i g;simp only[Q7,Zg]at h;obtain⟨rfl,rfl⟩:=h;have f:=JI hx;refine⟨_,.cl _ _ (.raw _),λl _=>?_⟩;simp[execOp,j,f,convert,run_underlying (SE (e _ _ g) rfl),run_underlying (SE (e _ _ i) rfl)];cases h;cases h
def cZ(L:Jt)(t:TypeId):D->Ev
 | .ref _ _ _ n=>match ty L t with
  | some ⟨.slice _,_,_,_⟩=>some (True,.raw (.int .i64 n))
  | _=>none
 | .imm _ n _=>match ty L t with
  | some ⟨.slice _,_,_,_⟩=>some (True,.raw (.int .i64 n))
  | _=>none
 | .nil=>match ty L t with
  | some ⟨.slice _,_,_,_⟩=>some (True,.raw (.int .i64 0))
  | _=>none
 | .raw (.string b)=>match ty L t with
  | some ⟨.str,_,_,_⟩=>some (True,.raw (.int .i64 b.size))
  | _=>none
 | _=>none
def vu{P:Program}{o:Oper}{a:Act}{c:Builtin}{b:Array Operand}{d:Array TypeId}(e:o.op=.call ⟨.builtin c,b,d⟩)(w:World):
  (execOp a.eval o).run P w=(builtin c d o.type (b.map fun | .const _=>true|_=>false) (b.map a.eval)).run P w:=by
 simp[execOp,e,resolve,invoke];rfl
def db(f:Jm P L){x}{t:TypeId}(e:o.op=.call ⟨.builtin .len,#[x],#[t]⟩){p d}(h:cZ L t (Qr s.fr x)=some (p,d)):WL P base nt o s d:=by intro Z k a w r;have hx:=r.eval x;unfold cZ at h;generalize Qr s.fr x=l at *;split at h;split at h;rename_i c;simp only[Q7,Zg]at h;obtain⟨rfl,rfl⟩:=h;obtain⟨_,_,j,i,b,_⟩:=Fb hx;refine⟨_,.cl _ _ (.raw _),λg _=>?_⟩;rw[vu e];simp[builtin,Builtin.len_,b,run_underlying (yA (f _ _ c) rfl),goInt];cases h;split at h;rename_i c;simp only[Q7,Zg]at h;obtain⟨rfl,rfl⟩:=h;obtain⟨j,i,_,_,_,b,_⟩:=SF hx;refine⟨_,.cl _ _ (.raw _),λg _=>?_⟩;rw[vu e];simp[builtin,Builtin.len_,b,run_underlying (yA (f _ _ c) rfl),goInt];cases h;split at h;rename_i c;simp only[Q7,Zg]at h;obtain⟨rfl,rfl⟩:=h;obtain⟨j,b⟩:=AJ hx;refine⟨_,.cl _ _ (.raw _),λg _=>?_⟩;rw[vu e];simp[builtin,Builtin.len_,b,run_underlying (yA (f _ _ c) rfl),goInt];cases h;split at h;rename_i c;simp only[Q7,Zg]at h;obtain⟨rfl,rfl⟩:=h;have b:=JI hx;refine⟨_,.cl _ _ (.raw _),λg _=>?_⟩;rw[vu e];simp[builtin,Builtin.len_,b,run_underlying (SE (f _ _ c) rfl),goInt];cases h;cases h
def QoJ{x y}{h:Array TypeId}(g:o.op=.call ⟨.builtin .max,#[x,y],h⟩){k d m n}(f:Qr s.fr x=.raw (.int k m))(e:Qr s.fr y=.raw (.int d n)):WL P base nt o s (.raw (.int k (max m n))):=by intro Z j a w r;have c:=r.eval x;have b:=r.eval y;rw[f]at c;rw[e]at b;refine⟨_,.cl _ _ (.raw _),λi _=>?_⟩;rw[vu g];simp[builtin,Builtin.max_,JI c,JI b,Builtin.max2];split<;>omega
def QoK{x y}{h:Array TypeId}(g:o.op=.call ⟨.builtin .min,#[x,y],h⟩){k d m n}(f:Qr s.fr x=.raw (.int k m))(e:Qr s.fr y=.raw (.int d n)):WL P base nt o s (.raw (.int k (min m n))):=by intro Z j a w r;have c:=r.eval x;have b:=r.eval y;rw[f]at c;rw[e]at b;refine⟨_,.cl _ _ (.raw _),λi _=>?_⟩;rw[vu g];simp[builtin,Builtin.min_,JI c,JI b,Builtin.min2];split<;>omega
def QoL{f}{first b:Array Operand}(c:o.op=.makeFunc (.func f) first b):WL P base nt o s (.clo f first.size ((first.toList++b.toList).map (Qr s.fr))):=by
 intro Z m a w r;refine⟨.func (.func f) (((first.toList++b.toList).map a.eval).take first.size).toArray (((first.toList++b.toList).map a.eval).drop first.size).toArray,.clo f first.size _ ((first.toList++b.toList).map a.eval) σ (λi d=>?_),λl _=>?_⟩;have k:i<(first.toList++b.toList).length:=by simpa using d
 simp only[nth,Q8,QU,KR];rw[QH k];exact r.eval _;have j:Array.map a.eval b=(List.map a.eval b.toList).toArray:=Array.ext' σ;have h:Array.map a.eval first=(List.map a.eval first.toList).toArray:=Array.ext' σ;have g:((first.toList++b.toList).map a.eval).take first.size=first.toList.map a.eval:=by rw[zP,List.take_append_of_le_length σ,List.take_of_length_le σ]
 have e:((first.toList++b.toList).map a.eval).drop first.size=b.toList.map a.eval:=by rw[zP,List.drop_append_of_le_length σ,List.drop_of_length_le σ,qv]
 rw[g,e];simp[execOp,c,Instr.makeFunc,j,h]
end
variable {Z:Nat->Prop}
def Ext(w a:World):Prop:=∀b,b<w.heap.size->a.heap[b]? = w.heap[b]?
def Ext.refl(w):Ext w w:=λ_ _=>rfl
def Ext.trans{a b c}(h:Ext a b)(k:Ext b c):Ext a c:=λi e=>by
 have d:=h i e;have f:i<b.heap.size:=by rw[jY e]at d;exact(W0.1 d).1
 rw[k i f,d]
def calm(o:Oper):Bool:=match o.op with
 | .store .. | .mapUpdate .. | .insert .. | .entryStore .. | .next ..=>false
 | .call ⟨.builtin .len,_,_⟩ | .call ⟨.builtin .min,_,_⟩ | .call ⟨.builtin .max,_,_⟩=>true
 | .call ⟨.builtin _,_,_⟩=>false
 | _=>true
def ko(P:Program)(b h:Nat)(o:Oper)(s:St)(e:List Ob)(d:D):Prop:=
 ∀(Z:Nat->Prop) g a w,Rel Z b h s g a w->b<=w.heap.size->∃v c f,((execOp a.eval o).run P w=.ok (.value v) c\/((execOp a.eval o).run P w=.ok .skip c/\v=Go.undef)) /\
  Tr s.h g w e f c/\Zo Z b e f c/\QF Z e f c d v/\Below b w c/\(calm o=true->Ext w c)
def LA(P:Program)(b h:Nat)(o:Oper)(s:St)(e:List Ob)(d:D):Prop:=
 ∀(Z:Nat->Prop) g a w,Rel Z b h s g a w->b<=w.heap.size->∃v c f,((execOp a.eval o).run P w=.ok (.value v) c\/((execOp a.eval o).run P w=.ok .skip c/\v=Go.undef)) /\
  Tr s.h g w e f c/\Zo Z b e f c/\QF Z e f c d v/\Below b w c
def LA.up{P b c o s f d}(h:LA P b c o s f d)(j:calm o=false):ko P b c o s f d:=λZ i a w r k=>
 let ⟨v,g,t,q,p,n,m,l⟩:=h Z i a w r k
 ⟨v,g,t,q,p,n,m,l,λe=>by rw[j]at e;cases e⟩
def AM:Value->Bool
 | .agg _ | .tuple _=>false
 | _=>true
def D.VF:D->Bool
 | .raw v=>AM v
 | .undef | .agg _ | .tup _=>false
 | _=>true
def YA:D->Option (List D)
 | .agg a=>bif a.all D.VF then some a else none
 | d=>bif d.VF then some [d] else none
def ox{h c w}{d:D}{v}(r:QF Z h c w d v)(a:d.VF=true):AM v=true:=by
 cases r with
 | cl _ _ f=>cases f<;>first|rfl|exact a|(simp[D.VF]at a)
 | ref=>rfl
 | ptr=>rfl
 | mref _ _ o p b j i e k g=>rw[e.2];unfold SB;split<;>rfl
 | clo=>rfl
 | agg=>simp[D.VF]at a
 | tup=>simp[D.VF]at a
def QoM{v:Value}(h:AM v=true):v.cells=#[v]:=by cases v<;>first|rfl|cases h
def oy{h b w d v}(r:QF Z h b w d v){a}(e:YA d=some a):
  v.cells.size=a.length/\∀i,i<a.length->QF Z h b w (nth a i) (Q8 v.cells.toList i)/\AM (Q8 v.cells.toList i)=true:=by
 have one:∀g:D,QF Z h b w g v->(bif g.VF then some [g] else none)=some a->v.cells.size=a.length/\∀i,i<a.length->QF Z h b w (nth a i) (Q8 v.cells.toList i)/\AM (Q8 v.cells.toList i)=true:=by
  intro g k f;cases j:g.VF;rw[j]at f;cases f;rw[j]at f;simp only[wD,Q7]at f;subst f;have m:=ox k j;rw[QoM m];refine⟨rfl,λi c=>?_⟩;have:i=0:=by simp at c;omega
  subst this;exact⟨k,m⟩
 cases d with
 | agg p=>simp only[YA]at e;obtain⟨n,e⟩:=km e;cases e;obtain⟨q,rfl,o,l⟩:=Lw r;refine⟨by simp[Value.cells,o],λi c=>⟨by simpa[Value.cells] using l i c,?_⟩⟩;refine ox (by simpa[Value.cells] using l i c:QF Z h b w (nth a i) _) ?_;rw[jt]at n;have:=n (nth a i) (by simp[nth,QU,c]);exact this
 | _=>exact one _ r e
def dc{P}(b e):∀(d:List Value) (i q:Nat) (w:World) (c:Array Value),w.heap[b]?=some (.cells c e (0,0))->q+i+d.length<=c.size->(∀j,j<d.length->AM (Q8 d j)=true) ->
  ∃a g,(storeCells ⟨b,q,none⟩ d i).run P w=.ok () a/\a.heap[b]?=some (.cells g e (0,0))/\g.size=c.size /\
   (∀k,g[k]? = if q+i<=k/\k<q+i+d.length then d[k-(q+i)]? else c[k]?)/\(∀k,k≠b->a.heap[k]? = w.heap[k]?)/\a.heap.size=w.heap.size/\a.os=w.os/\a.tape=w.tape/\a.output=w.output
 | [],i,q,w,c,f,o,l=>⟨w,c,by simp[storeCells],f,rfl,λk=>by rw[Qd];simp,λ_ _=>rfl,rfl,rfl,rfl,rfl⟩
 | v::d,i,q,w,c,f,o,l=>by
  simp only[Kx]at o;have H:AM v=true:=l 0 σ;have Qb:q+i<c.size:=ω;have J:w.cell? ⟨b,q+i,none⟩=some c[q+i]:=by rw[cell_of_row w b _ c e (0,0) f];simp[Qb]
  have n:w.frozen? ⟨b,q+i,none⟩=false:=frozen_of_row w b _ c e f;have s:=heap_setCell_same w b (q+i) c e v f;obtain⟨a,g,F,E,C,B,z,y,x,u,t⟩:=dc (P:=P) b e d (i+1) q (w.setCell ⟨b,q+i,none⟩ v) _ s ξ (λj K=>by have:=l (j+1) ξ;simpa[Q8] using this)
  refine⟨a,g,?_,E,by rw[C];simp,λk=>?_,λk p=>by rw[z k p];exact Below.heap_setCell _ _ _ _ p,by rw[y];simp,by rw[x];rfl,by rw[u];rfl,by rw[t];rfl⟩
  .have I:(store (⟨b,q+i,none⟩:Addr) v).run P w=.ok () (w.setCell ⟨b,q+i,none⟩ v):=by cases v<;>first|(simp[AM]at H;done)|(simp[store,Sem.run,J,n])
   simp only[storeCells,Sem.run_bind,AK,I,Result.andThen_ok];exact F
  rw[B k];by_cases r:q+i=k;subst r;rw[Qd ω,Qe σ];simp[Qb];by_cases h:q+i<=k/\k<q+i+(v::d).length;rw[Qe h,Qe (by simp at h;omega)];obtain⟨m,rfl⟩:∃m,k=q+i+(m+1):=⟨k-(q+i)-1,ω⟩;rw[show q+i+(m+1)-(q+i)=m+1 by omega,show q+i+(m+1)-(q+(i+1))=m by omega];simp;rw[Qd h,Qd (by simp at h;omega),nS ω]
def BR(b:List D)(j:Nat)(a:List D):List D:=b.take j++a++b.drop (j+a.length)
def de{a:List D}{j}{b:List D}(h:j+b.length<=a.length):(BR a j b).length=a.length:=by simp[BR];omega
def QcT{b:List D}{j}{a:List D}(h:j+a.length<=b.length)(i):nth (BR b j a) i=if j<=i/\i<j+a.length then nth a (i-j) else nth b i:=by simp only[nth,BR,QU];by_cases d:i<j;rw[Qd ω,WJ,JX ξ];simp[d];by_cases c:i<j+a.length;rw[Qe ⟨ω,c⟩,WJ,Ks ξ,JX ξ];simp;congr 3;omega;rw[Qd ω,Ks ξ];simp only[GX,Zn,Og];congr 2;omega
def setRow(o:Ob)(i:Nat)(a:List D):Ob:=
 { o with row:=bif o.kd.Lr then λ_=>a else λk=>bif Nat.beq k i then a else o.row k }
def QcU{o:Ob}{i}{a:List D}(c:o.kd.Lr=true->o.n=1){k}(e:i<o.n)(d:k<o.n):(setRow o i a).row k=if k=i then a else o.row k:=by
 unfold setRow;cases h:o.kd.Lr;simp only[ju];by_cases b:k=i;subst b;simp;have:Nat.beq k i=false:=by rw[<-Yx,Wz];exact b
 rw[this,Qd b];rfl;have:=c h;simp only[wD];rw[Qe ω]
section
variable {P:Program}{L:Jt}{base nt:Nat}{s:St}{o:Oper}
def OA{w a:World}{b}(h:base<=b)(f:∀k,k≠b->a.heap[k]? = w.heap[k]?)(i:a.heap.size=w.heap.size)(e:a.os=w.os)(d:a.tape=w.tape)(c:a.output=w.output):Below base w a:=
 ⟨e,d,c,ω,λk g=>f k ω⟩
def SI(L:Jt)(h:List Ob)(t:TypeId)(b x:D):Option (Prop × List Ob):=
 match ty L t,b,YA x with
 | some y,.ptr l g i j,some a=>match h[l]? with
  | some o=>some (g=o.gen/\i<o.n/\j+a.length<=o.sz/\a.length=y.size/\(o.kd.Lr=true->o.n=1)/\o.kd.ro=false,h.set l (setRow o i (BR (o.row i) j a)))
  | none=>none
 | _,_,_=>none
def QoO(hL:Jm P L){t:TypeId}{K x}(ho:o.op=.store t K x){p Y}(h:SI L s.h t (Qr s.fr K) (Qr s.fr x)=some (p,Y))(hp:p):LA P base nt o s Y .undef:=by
 intro Z E a w r Vb;have hx:=r.eval x;have U:=r.eval K;unfold SI at h;split at h;rename_i y l g i j J BQ oz JV;rw[oz]at U;split at h;rename_i d C;simp only[Q7,Zg]at h;obtain⟨rfl,rfl⟩:=h;obtain⟨hg,n,hj,JO,W,S⟩:=hp;have hy:=hL _ _ BQ;obtain⟨o',p',a1,hv,ZR,O,f,vp,KS⟩:=Fc U;rw[C]at ZR;cases ZR;obtain⟨b,q,rfl,rfl⟩:=KS hg;obtain⟨Q6,xx⟩:=r.o.at_ l d b q C O;obtain⟨c,el,F,LB,N,Z3⟩:=xx.cells f;obtain⟨u,df⟩:=oy hx JV;have B:j+J.length<=(d.row i).length:=by rw[N i n];exact hj
 have a0:i*d.sz+d.sz<=d.n*d.sz:=by have:=V6 d.sz (show i+1<=d.n from n);rw[KE]at this;omega
 obtain⟨V,c',g1,g2,I,g4,H,g6,g7,g8,g9⟩:=dc (P:=P) b el (a.eval x).cells.toList 0 (q+(i*d.sz+j)) w c F (by simp[u];omega) (λk e=>(df k (by simpa[u] using e)).2);have T:Tr s.h E w (s.h.set l (setRow d i (BR (d.row i) j J))) E V:=Tr.Q5 r.o C O rfl rfl rfl (λk e _=>H k e) (λc1 nZ e1=>by rw[F]at e1;cases e1;exact⟨c',g2,I⟩);refine⟨Go.undef,V,E,.inr ⟨?_,rfl⟩,T,?_,.cl _ _ (.undef _),OA (Q6 S) H g6 g7 g8 g9⟩;simp[execOp,ho,hv,Instr.storeAt,Instr.sureAddr,storeVar,hy.sizeOf,u,JO,g1];refine Zo.Q5 (hro:=rfl) r.o C O f f rfl rfl (λk e _=>H k e) F g2 I (by rw[I];exact LB) (λk e=>?_) (λk m e hm=>?_);rw[QcU W n e];split;rw[de B,N i n];rfl;exact N k e;rw[QcU W n e];have f:k<d.n:=e;have OB:m<d.sz:=hm;show ∃v,c'[q+(k*d.sz+m)]?=some v/\_;rw[g4];simp only[vn,Array.length_toList,u];by_cases R:k=i;subst R;rw[Qe rfl,QcT B];by_cases z:j<=m/\m<j+J.length;rw[Qe z,Qe ω];refine⟨Q8 (a.eval x).cells.toList (m-j),?_,((df (m-j) ω).1).tr T⟩;rw[show q+(k*d.sz+m)-(q+(k*d.sz+j))=m-j by omega];simp only[Q8,QU];rw[QH (by simp[u];omega)];rfl;rw[Qd z,Qd ω];obtain⟨v,Q,M⟩:=Z3 k m f OB;exact⟨v,Q,M.tr T⟩;rw[Qd R,Qd];obtain⟨v,Q,M⟩:=Z3 k m f OB;exact⟨v,Q,M.tr T⟩;intro a2;rcases Nat.lt_or_gt_of_ne R with Qb|Qb;have:=V6 d.sz (show k+1<=i from Qb);rw[KE]at this;omega;have:=V6 d.sz (show i+1<=k from Qb);rw[KE]at this;omega;cases h;cases h
def Fe{w:World}(h:base<=w.heap.size)(a:Obj):Below base w (w.alloc a):=(Below.refl base w).alloc h a
def QcX{d a}{w:World}(r:Rel Z base nt s d a w)(u:base<=w.heap.size)(f)(v:Value)(c:List D)(g:v.cells.size=c.length)(m:∀i,i<c.length->QF Z s.h d w (nth c i) (Q8 v.cells.toList i)):
  Tr s.h d w (s.h++[⟨.one,0,c.length,1,λ_=>c⟩]) (d++[some (w.heap.size,0)]) (w.alloc (.cells v.cells f))/\Zo Z base (s.h++[⟨.one,0,c.length,1,λ_=>c⟩]) (d++[some (w.heap.size,0)]) (w.alloc (.cells v.cells f)) /\
   QF Z (s.h++[⟨.one,0,c.length,1,λ_=>c⟩]) (d++[some (w.heap.size,0)]) (w.alloc (.cells v.cells f)) (.ptr s.h.length 0 0 0) (.pointer (some ⟨w.heap.size,0,none⟩)):=by
 have e:∀b,b<w.heap.size->(w.alloc (.cells v.cells f)).heap[b]? = w.heap[b]? := λb p=>xK w _ b p;have x:(w.alloc (.cells v.cells f)).heap[w.heap.size]?=some (.cells v.cells f (0,0)):=heap_alloc_new w _;have T:Tr s.h d w (s.h++[⟨.one,0,c.length,1,λ_=>c⟩]) (d++[some (w.heap.size,0)]) (w.alloc (.cells v.cells f)):=Tr.push r.o e _ _ (by intro b q h;simp at h;omega);refine⟨T,?_,?_⟩;refine Zo.push r.o e _ rfl (Qv _) u x (by simp[g]) (λ_ _=>rfl) (λi j n k=>?_);have l:i=0:=by simp at n;omega
 subst l;refine⟨Q8 v.cells.toList j,?_,(m j k).tr T⟩;simp only[G1,JG,Q8,QU];have:j<v.cells.size:=by rw[g];exact k
 rw[wy,jY this];rfl;have t:d.length=s.h.length:=r.o.len;exact .ptr _ _ _ _ ⟨.one,0,c.length,1,λ_=>c⟩ (some (w.heap.size,0)) _ σ (by rw[<-t];simp) rfl (Qv _) (λ_=>⟨_,_,rfl,σ⟩)
def QoP(e:Jm P L){t:TypeId}{c x}(a:o.op=.store t c x){p b}(h:SI L s.h t (Qr s.fr c) (Qr s.fr x)=some (p,b))(d:p):ko P base nt o s b .undef:=
 (QoO e a h d).up (by simp[calm,a])
def QoQ{t:TypeId}{x}(f:o.op=.box t x){c:List D}(e:YA (Qr s.fr x)=some c):ko P base nt o s (s.h++[⟨.one,0,c.length,1,λ_=>c⟩]) (.ptr s.h.length 0 0 0):=by intro Z p a w r d;obtain⟨n,m⟩:=oy (r.eval x) e;obtain⟨l,k,j⟩:=QcX r d t (a.eval x) c n (λi g=>(m i g).1);refine⟨_,_,_,.inl ?_,l,k,j,Fe d _,λ_ b h=>xK _ _ b h⟩;simp[execOp,f,Instr.box,newVar,newRow]
def QoR(h:Jm P L){t:TypeId}(f:o.op=.alloc t){y:Ty}(e:ty L t=some y):ko P base nt o s (s.h++[⟨.one,0,(y.zero.map Ke).length,1,λ_=>y.zero.map Ke⟩]) (.ptr s.h.length 0 0 0):=by
 intro Z p a w r d;obtain⟨z,hz,m⟩:=(h _ _ e).zeroValue;obtain⟨l,k,j⟩:=QcX r d t z (y.zero.map Ke) (by rw[<-hz];simp) (λi c=>by
  rw[<-hz]at c ⊢;have n:i<z.cells.size:=by simpa using c
  refine .cl _ _ ?_;simp only[nth,Q8,QU,KR,wy,jY n,Kq,Va];exact Ds _ _ _)
 refine⟨_,_,_,.inl ?_,l,k,j,Fe d _,λ_ b g=>xK _ _ b g⟩;simp[execOp,f,Instr.alloc,newVar,newRow,m]
end
variable {Z:Nat->Prop}
def SJ(h:List Ob):D->Option (Prop × Nat × Nat × (Nat->List D))
 | .ref l g a n=>match h[l]? with
  | some o=>some (g=o.gen/\a+n<=o.n,n,o.sz,λk=>o.row (a+k))
  | none=>none
 | .imm c n b=>some (True,n,c,b)
 | _=>none
structure Src (Z:Nat->Prop) (h:List Ob) (pl:List Pl) (w:World) (v:Value) (n sz:Nat) (rows:Nat->List D) (a:Option Addr) (cap:Nat) (vs:Nat->Nat->Value):Prop where
 v:v=.slice a n cap
 len:∀i,i<n->(rows i).length=sz
 cell:∀i j,i<n->j<sz->∃b q,a=some ⟨b,q,none⟩/\w.cell? ⟨b,q+(i*sz+j),none⟩=some (vs i j)
 rel:∀i j,i<n->j<sz->QF Z h pl w (nth (rows i) j) (vs i j)
def oB{x h B w}(R:Zo Z x h B w){d v}(r:QF Z h B w d v){p n sz rows}(e:SJ h d=some (p,n,sz,rows))(I:p):∃a m z,Src Z h B w v n sz rows a m z:=by unfold SJ at e;split at e;rename_i l g f k;split at e;rename_i o J;simp only[Q7,Zg]at e;obtain⟨rfl,rfl,rfl,rfl⟩:=e;obtain⟨o',p',a,m,y,L,W,S,Y,V⟩:=Fb r;rw[J]at L;cases L;have hn:=I.2;rcases V I.1 with ⟨Q,h2⟩|⟨b,q,c,el,T,F,K,E,P⟩;subst Q;exact⟨a,m,λ_ _=>Go.undef,y,λi s=>ω,λi j s=>ω,λi j s=>ω⟩;subst T;obtain⟨Q6,N⟩:=R.at_ l o b q J W;obtain⟨c',dh,M,JV,U,Z3⟩:=N.cells S;rw[K]at M;cases M;refine⟨a,m,λi j=>(c[q+((f+i)*o.sz+j)]?).getD Go.undef,y,λi s=>U _ ω,λi j s t=>?_,λi j s t=>?_⟩;obtain⟨u,C,H⟩:=Z3 (f+i) j ω t;refine⟨b,q+f*o.sz,F,?_⟩;rw[cell_of_row w b _ c el (0,0) K,show q+f*o.sz+(i*o.sz+j)=q+((f+i)*o.sz+j) by rw[KE];omega,C];rfl;obtain⟨u,C,H⟩:=Z3 (f+i) j ω t;simp only[C,Va];exact H;cases e;simp only[Q7,Zg]at e;obtain⟨rfl,rfl,rfl,rfl⟩:=e;obtain⟨a,m,b,q,z,y,F,P,O,E⟩:=SF r;exact⟨a,m,z,y,O,λi j s t=>⟨b,q,F ω,(E i j s t).1.2⟩,λi j s t=>.cl _ _ (E i j s t).2⟩;cases e
def flat(n a:Nat)(b:Nat->Nat->Value):List Value:=(List.range (n*a)).map λk=>b (k/a) (k%a)
def zS(n a)(b:Nat->Nat->Value):(flat n a b).length=n*a:=by simp[flat]
def Ha{n a vs i j}(c:i<n)(b:j<a):(flat n a vs)[i*a+j]?=some (vs i j):=by
 have f:i*a+j<n*a:=by have:=V6 a (show i+1<=n from c);rw[KE]at this;omega
 have e:(i*a+j)/a=i:=by rw[EY,Nat.mul_add_div ω,Nat.div_eq_of_lt b];rfl
 have d:(i*a+j)%a=j:=by rw[EY,Nat.mul_add_mod,kg b]
 simp[flat,f,e,d]
def div_lt{n sz k:Nat}(h:k<n*sz):k/sz<n/\k%sz<sz/\k/sz*sz+k%sz=k:=by have a:0<sz:=Nat.pos_of_ne_zero (λe=>by subst e;simp at h);exact⟨Nat.div_lt_of_lt_mul (by rw[EY];exact h),Xt _ a,by rw[EY];exact Sv k sz⟩
def Src.first{P h p}{w:World}{v n c e a d o}(S:Src Z h p w v n c e a d o)(f:World)(r:f.heap=w.heap):
  (Builtin.firstCells c n v).run P f=.ok (flat n c o).toArray f:=by
 rw[S.v];cases a with
 | none=>
  have:n*c=0:=by by_cases h:n*c=0;exact h;obtain⟨i,g,_⟩:=div_lt (n:=n) (sz:=c) (k:=0) ω;obtain⟨b,q,l,_⟩:=S.cell _ _ i g;cases l
  simp[Builtin.firstCells,flat,this]
 | some x=>
  refine run_firstCells_some f c n x n d _ (zS _ _ _) (λk u j=>?_);have s:k<n*c:=by have:=(Xh.1 j).1;rw[zS]at this;exact this
  obtain⟨i,g,m⟩:=div_lt s;obtain⟨b,q,l,t⟩:=S.cell _ _ i g;cases l;rw[<-m,Ha i g]at j;cases j;rw[AK,World.cell?_of_block (w:=w) (by rw[r]),<-m,t];simp only[m]
def oC(z:Array Value)(n:Nat):(Builtin.zeroCells z n).size=n*z.size:=by simp[Builtin.zeroCells]
def QcY{P:Program}{t ty e:TypeId}{y:Ty}(H:P.underlying t=some (.slice e))(j:Xl P e y)(E:y.zero.length=y.size)(w:World)(b:Option Addr)(a d:Nat)(l:List Value)(c:Option Addr)(n r:Nat)(g:List Value)
  (m:∀h:World,h.heap=w.heap->(Builtin.firstCells y.size a (.slice b a d)).run P h=.ok l.toArray h) (M:∀h:World,h.heap=w.heap->(Builtin.firstCells y.size n (.slice c n r)).run P h=.ok g.toArray h)
  (K:d<a+n) (u:a+n<=4294967296) (B:y.bytes<=1024) :
  ∃o f,(Builtin.append_ #[t,t] ty #[.slice b a d,.slice c n r]).run P w=.ok (.slice (some ⟨w.heap.size,0,none⟩) (a+n) o) (w.drew.alloc (.cells (l.toArray++g.toArray++f) e)) /\
   a+n<=o/\f.size=(o-(a+n))*y.size:=by
 obtain⟨z,s,C⟩:=j.zeroValue;obtain⟨i,p,Q,L⟩:=j.typeInfo w;refine⟨grownCap w (a+n) d e,Builtin.zeroCells z.cells (grownCap w (a+n) d e-(a+n)),?_,grownCap_ge _ _ _ _,by rw[oC];congr 1;rw[<-E,<-s];simp⟩;have N:∀w,(typeInfo e).run P w=.ok i w:=λw=>by
  obtain⟨R,U,T,S⟩:=j.typeInfo w;have q:=j.info;cases hx:P.info? e with
  | none=>rw[hx]at q;cases q
  | some k=>simp[typeInfo,hx]at p ⊢;exact p
 have J:¬ (a+n<=d):=ω;have x:¬ (9223372036854775807<((a:Int)+(n:Int))):=ω;have O:Builtin.nextslicecap (a+n) d*y.bytes<=281474976710656:=growslice_fits K (by have:=Xk (show a+n<=4294967296 from u) B;omega)
 have v:¬ (281474976710656<Builtin.nextslicecap (a+n) d*i.bytes):=by rw[L];omega
 have I:=m w.drew rfl;have F:=M w.drew rfl;simp[Builtin.append_,run_underlying H,j.sizeOf,N,C,Builtin.lenOf,J,x,v,Question.forced,newRow,grownCap,I,F,askRoom,mark,Sem.run];rw[<-Array.append_assoc];simp
def QoS{P:Program}{t ty e:TypeId}{y}(j:P.underlying t=some (.slice e))(i:Xl P e y)(w b q d f c n h)(a)
  (m:(Builtin.firstCells y.size n (.slice c n h)).run P w=.ok a.toArray w) (k:d+n<=f) {g:World} (l:(storeCells ⟨b,q+d*y.size,none⟩ a).run P w=.ok () g) :
  (Builtin.append_ #[t,t] ty #[.slice (some ⟨b,q,none⟩) d f,.slice c n h]).run P w=.ok (.slice (some ⟨b,q,none⟩) (d+n) f) g:=by
 simp[Builtin.append_,run_underlying j,i.sizeOf,Builtin.lenOf,k,m,AK,l]
def Qc0{P:Program}{t ty e:TypeId}{y}(d:P.underlying t=some (.slice e))(a:Xl P e y)(w b c f):
  (Builtin.append_ #[t,t] ty #[.slice b 0 0,.slice c 0 f]).run P w=.ok (.slice b 0 0) w:=by
 cases b<;>cases c<;>simp[Builtin.append_,run_underlying d,a.sizeOf,Builtin.lenOf,Builtin.firstCells,loadCells,loadCellsFrom,storeCells]
def J8(a b:Nat)(d c:Nat->List D):Nat->List D:=λk=>bif Nat.blt k a then d (b+k) else c (k-a)
def BS{a b k c d}(h:k<a):J8 a b c d k=c (b+k):=by
 have:Nat.blt k a=true:=by simpa[xH] using h
 simp[J8,this]
def yC{a b k d c}(h:a<=k):J8 a b d c k=c (k-a):=by
 have:Nat.blt k a=false:=by rw[<-Yx,xH];omega
 simp[J8,this]
def oG(y:Ty)(n:Nat):Prop:=n<=4294967296/\y.bytes<=1024/\y.zero.length=y.size
def Dx(L:Jt)(h:List Ob)(t:TypeId)(s x:D):Option (Prop × List Ob × D):=
 match ty L t,SJ h x with
 | some ⟨.slice e,_,_,_⟩,some (f,n,d,a)=>match ty L e,s with
  | some y,.nil=>some (f/\d=y.size/\oG y n/\(∀k,k<n->(a k).all D.VF=true),h++[⟨.arr,0,y.size,n,a⟩],.ref h.length 0 0 n)
  | some y,.ref l g c b=>match h[l]? with
   | some o=>some (f/\g=o.gen/\c+b=o.n/\o.sz=y.size/\d=y.size/\oG y (b+n)/\(∀k,k<n->(a k).all D.VF=true)/\o.kd.ro=false,h.set l ⟨.arr,o.gen+1,y.size,b+n,J8 b c o.row a⟩,.ref l (o.gen+1) 0 (b+n))
   | none=>none
  | _,_=>none
 | _,_=>none
def Tr.Ff{j:Nat}{h:List Ob}{g:List Pl}{w u:World}(R:Zo Z j h g w){l:Nat}{o o':Ob}{p p':Pl}(n:h[l]?=some o)(m:g[l]?=some p)(I:o'.kd.ty=o.kd.ty)(K:o.gen<o'.gen)
  (e:∀k,k<w.heap.size->(∀q,p≠some (k,q))->u.heap[k]? = w.heap[k]?) (H:∀b q,p'=some (b,q)->(∃s,p=some (b,s))\/w.heap.size<=b):Tr h g w (h.set l o') (g.set l p') u where
 Kz:=λk x Qb=>by
  have B:∀q,p≠some (k,q):=λq t=>x l q (by rw[m,t]);refine⟨λd q i=>?_,e k Qb B⟩;by_cases a:l=d;subst a;have:(g.set l p')[l]?=some p':=by simp[WA m]
  rw[this]at i;simp only[Q7]at i;rcases H k q i with ⟨s,h1⟩|h1;exact B s h1;omega;rw[JT a]at i;exact x d q i
 obj:=λd v E f r=>by by_cases a:l=d;subst a;rw[n]at f;cases f;exact⟨o',p',by simp[KL n],by simp[WA m],ω,I,λh=>ω⟩;exact⟨v,E,by rw[JT a];exact f,by rw[JT a];exact r,Qv _,rfl,λ_=>⟨rfl,rfl⟩⟩
 shape:=λd v J y C f z L r c el F=>by
  by_cases a:l=d;subst a;rw[n]at f;cases f;have:(h.set l o')[l]?=some o':=by simp[KL n]
  rw[this]at z;cases z;omega;refine⟨c,?_,rfl⟩;rw[e y (R.lt r).1 (λq t=>a (R.inj l d y q C (by rw[m,t]) r))];exact F
def Zo.Ff{f:Nat}{h:List Ob}{r:List Pl}{w z:World}(R:Zo Z f h r w){l:Nat}{o o':Ob}{p:Pl}(K:h[l]?=some o)(F:r[l]?=some p)(U:o.kd.ty=0)(M:o'.kd.ty=0)(V:o.gen<o'.gen)
  (e:∀k,k<w.heap.size->(∀q,p≠some (k,q))->z.heap[k]? = w.heap[k]?) {n t:Nat} (N:(∃s,p=some (n,s))\/w.heap.size<=n) (Q6:f<=n) {c:Array Value} {L:TypeId} (W:z.heap[n]?=some (.cells c L (0,0)))
  (JO:t+o'.n*o'.sz<=c.size) (Kf:∀i,i<o'.n->(o'.row i).length=o'.sz)
  (Z3:∀i j,i<o'.n->j<o'.sz->∃v,c[t+(i*o'.sz+j)]?=some v/\QF Z (h.set l o') (r.set l (some (n,t))) z (nth (o'.row i) j) v):Zo Z f (h.set l o') (r.set l (some (n,t))) z:=by
 have T:Tr h r w (h.set l o') (r.set l (some (n,t))) z:=Tr.Ff R K F (by rw[U,M]) V e (λb q B=>by simp at B;obtain⟨rfl,rfl⟩:=B;exact N);have C:(r.set l (some (n,t)))[l]?=some (some (n,t)):=by simp[WA F]
 have g:∀(d b q:Nat),l≠d->r[d]?=some (some (b,q))->b≠n:=by intro d b q S a O;subst O;rcases N with ⟨s,h2⟩|h2;exact S (R.inj l d b s q (by rw[F,h2]) a);have:=(R.lt a).1;omega
 refine⟨by simp[R.len],?_,?_,?_⟩;intro d E b J I a h2;by_cases m:l=d;subst m;rw[C]at a;simp only[Q7,Zg]at a;by_cases y:l=E;exact y;rw[JT y]at h2;exact absurd a.1.symm (g E b I y h2);rw[JT m]at a;by_cases y:l=E;subst y;rw[C]at h2;simp only[Q7,Zg]at h2;exact absurd h2.1.symm (g d b J m a);rw[JT y]at h2;exact R.inj d E b J I a h2;intro d H u a;by_cases m:l=d;subst m;rw[C]at a;cases a;rw[JT m]at a u;exact R.V7 d H u a;intro d H b q u a;by_cases m:l=d;subst m;rw[C]at a;simp only[Q7,Zg]at a;obtain⟨rfl,rfl⟩:=a;have:(h.set l o')[l]?=some o':=by simp[KL K]
 rw[this]at u;cases u;exact⟨λ_=>Q6,.Ov M ⟨c,L,W,JO,Kf,Z3⟩⟩;rw[JT m]at a u;obtain⟨Y,x⟩:=R.at_ d H b q u a;have QE:∀s,p≠some (b,s):=λs Q=>m (R.inj l d b s q (by rw[F,Q]) a);exact⟨Y,x.to rfl rfl rfl (e b (R.lt a).1 QE) (λ_ _=>rfl) λi j v _ _ P=>P.tr T⟩
section
variable {P:Program}{L:Jt}{base nt:Nat}{s:St}{o:Oper}
def QoT(J:Jm P L){t:TypeId}{l x}(E:o.op=.call ⟨.builtin .append,#[l,x],#[t,t]⟩)(BT:Qr s.fr l=.nil){p K d}(h:Dx L s.h t .nil (Qr s.fr x)=some (p,K,d))(hp:p):LA P base nt o s K d:=by
 intro Z k a w r U;have R:=r.eval l;have vw:=r.eval x;rw[BT]at R;unfold Dx at h;split at h;rename_i e _ _ _ px n sz c he oH;cases u:ty L e with
 | none=>rw[u]at h;cases h
 | some y=>
  rw[u]at h;simp only[Q7,Zg]at h;obtain⟨rfl,rfl,rfl⟩:=h;obtain⟨oI,rfl,⟨vv,kp,Hb⟩,LC⟩:=hp;have B:=J _ _ u;have C:=yA (J _ _ he) rfl;obtain⟨m,V⟩:=AJ R;obtain⟨N,Hc,g,S⟩:=oB r.o vw oH oI;have O:k.length=s.h.length:=r.o.len;by_cases hn:n=0;subst hn;have T:Tr s.h k w (s.h++[⟨.arr,0,y.size,0,c⟩]) (k++[none]) w:=Tr.push r.o (λ_ _=>rfl) _ _ (by intro b q e;cases e);refine⟨_,w,k++[none],.inl ?_,T,r.o.vr _ rfl,.ref _ _ _ _ ⟨.arr,0,y.size,0,c⟩ none m 0 σ (by rw[<-O];simp) rfl (Qv _) (λ_=>.inl ⟨rfl,rfl⟩),Below.refl _ _⟩;rw[vu E];simp[builtin,V,S.v,Qc0 C B];obtain⟨v,f,Q,Y,AO⟩:=QcY (ty:=o.type) C B Hb w m 0 0 [] N n Hc (flat n y.size g) (λz _=>by cases m<;>simp[Builtin.firstCells,loadCells,loadCellsFrom]) (λz hw=>by rw[<-S.v];exact S.first z hw) ω ω kp;simp only[JG,Array.empty_append]at Q Y AO;have M:∀b,b<w.heap.size->(w.drew.alloc (.cells ((flat n y.size g).toArray++f) e)).heap[b]? = w.heap[b]? := λb hb=>xK w.drew _ b hb;have W:(w.drew.alloc (.cells ((flat n y.size g).toArray++f) e)).heap[w.heap.size]?=some (.cells ((flat n y.size g).toArray++f) e (0,0)):=heap_alloc_new w.drew _;have T:Tr s.h k w (s.h++[⟨.arr,0,y.size,n,c⟩]) (k++[some (w.heap.size,0)]) (w.drew.alloc (.cells ((flat n y.size g).toArray++f) e)):=Tr.push r.o M _ _ (by intro b q h;simp at h;omega);refine⟨.slice (some ⟨w.heap.size,0,none⟩) n v,_,_,.inl ?_,T,Zo.push r.o M _ rfl (Qv _) U W (by simp[zS]) S.len (λi j H F=>⟨g i j,?_,(S.rel i j H F).tr T⟩),.ref _ _ _ _ ⟨.arr,0,y.size,n,c⟩ (some (w.heap.size,0)) _ v σ (by rw[<-O];simp) rfl (Qv _) (λ_=>.inr ⟨w.heap.size,0,_,e,rfl,σ,W,?_,Y⟩),?_⟩;rw[vu E];have:(Array.map a.eval #[l,x])=#[.slice m 0 0,.slice N n Hc]:=by simp[V,S.v]
  rw[this];simp only[builtin,Sem.run_bind,Q,Result.andThen_ok,Sem.run_pure];have I:=Ha (vs:=g) H F;have Qb:=(Xh.1 I).1;rw[JG,N8 (zC Qb)];simpa using I;simp only[JG,Array.size_append,G0,zS,AO];rw[<-KE];exact V6 _ ω;exact((Below.refl base w).drew).alloc U _
 cases h
def QoU(hL:Jm P L){t:TypeId}{x0 x l g m f}(ho:o.op=.call ⟨.builtin .append,#[x0,x],#[t,t]⟩)(BT:Qr s.fr x0=.ref l g m f){p h' d}(h:Dx L s.h t (.ref l g m f) (Qr s.fr x)=some (p,h',d))(hp:p):LA P base nt o s h' d:=by
 intro Z pl a w r Vb;have Xv:=r.eval x0;have vw:=r.eval x;rw[BT]at Xv;unfold Dx at h;split at h;rename_i e _ _ _ px n sz z he oH;cases W7:ty L e with
 | none=>rw[W7]at h;cases h
 | some y=>
  rw[W7]at h;dsimp only at h;split at h;rename_i B H;simp only[Q7,Zg]at h;obtain⟨rfl,rfl,rfl⟩:=h;obtain⟨oI,hg,LD,a4,rfl,⟨vv,kp,Hb⟩,LC,a3⟩:=hp;have hy:=hL _ _ W7;have ht:=yA (hL _ _ he) rfl;obtain⟨o',p',U,O,OC,ZR,F,W,vp,KS⟩:=Fb Xv;rw[H]at ZR;cases ZR;obtain⟨ax,Hc,J,S⟩:=oB r.o vw oH oI;have xM:(Array.map a.eval #[x0,x])=#[.slice U f O,.slice ax n Hc]:=by simp[OC,S.v]
  have Y:∀{v:Value} {C:World},(Builtin.append_ #[t,t] o.type #[.slice U f O,.slice ax n Hc]).run P w=.ok v C->(execOp a.eval o).run P w=.ok (.value v) C:=by intro v C Zh;rw[vu ho,xM];simp only[builtin,Sem.run_bind,Zh,Result.andThen_ok,Sem.run_pure]
  have Q:∀(K:Nat->Nat->Value) (a1:∀C:World,C.heap=w.heap->(Builtin.firstCells y.size f (.slice U f O)).run P C=.ok (flat f y.size K).toArray C)
    (a2:∀i,i<f->(B.row (m+i)).length=y.size) (dw:∀i j,i<f->j<y.size->QF Z s.h pl w (nth (B.row (m+i)) j) (K i j)),O<f+n ->
    ∃v C Qk,((execOp a.eval o).run P w=.ok (.value v) C\/((execOp a.eval o).run P w=.ok .skip C/\v=Go.undef))/\Tr s.h pl w (s.h.set l ⟨.arr,B.gen+1,y.size,f+n,J8 f m B.row z⟩) Qk C /\
     Zo Z base (s.h.set l ⟨.arr,B.gen+1,y.size,f+n,J8 f m B.row z⟩) Qk C/\QF Z (s.h.set l ⟨.arr,B.gen+1,y.size,f+n,J8 f m B.row z⟩) Qk C (.ref l (B.gen+1) 0 (f+n)) v/\Below base w C:=by
   intro K a1 a2 dw Qb;obtain⟨wH,I,Zh,He,AO⟩:=QcY (ty:=o.type) ht hy Hb w U f O (flat f y.size K) ax n Hc (flat n y.size J) a1 (λC hw=>by rw[<-S.v];exact S.first C hw) Qb vv kp;have e1:∀b,b<w.heap.size->(w.drew.alloc (.cells ((flat f y.size K).toArray++(flat n y.size J).toArray++I) e)).heap[b]? = w.heap[b]? := λb hb=>xK w.drew _ b hb;have JW:(w.drew.alloc (.cells ((flat f y.size K).toArray++(flat n y.size J).toArray++I) e)).heap[w.heap.size]?=some (.cells ((flat f y.size K).toArray++(flat n y.size J).toArray++I) e (0,0)):=heap_alloc_new w.drew _;have T:=Tr.Ff (o':=⟨.arr,B.gen+1,y.size,f+n,J8 f m B.row z⟩) (p':=some (w.heap.size,0)) r.o H F W.symm (EX _) (λk M _=>e1 k M) (by intro b q h;simp at h;exact .inr ω);refine⟨_,_,_,.inl (Y Zh),T,Zo.Ff r.o H F W rfl (EX _) (λk M _=>e1 k M) (.inr (Qv _)) Vb JW ?_ (λi E=>?_) (λi j E V=>?_),.ref _ _ _ _ ⟨.arr,B.gen+1,y.size,f+n,J8 f m B.row z⟩ (some (w.heap.size,0)) _ wH (by simp[KL H]) (by simp[WA F]) rfl (Qv _) (λ_=>.inr ⟨w.heap.size,0,_,e,rfl,σ,JW,?_,He⟩),((Below.refl base w).drew).alloc Vb _⟩;simp[zS,KE];by_cases N:i<f;show (J8 f m B.row z i).length=_;rw[BS N];exact a2 i N;show (J8 f m B.row z i).length=_;rw[yC ω];exact S.len _ (by have:i<f+n:=E;omega);have W8:j<y.size:=V;have JH:i<f+n:=E;show ∃v,((flat f y.size K).toArray++(flat n y.size J).toArray++I)[0+(i*y.size+j)]?=some v/\QF _ _ _ _ (nth (J8 f m B.row z i) j) v;by_cases N:i<f;rw[BS N];refine⟨K i j,?_,(dw i j N W8).tr T⟩;have Hf:=Ha (vs:=K) N W8;have SK:=(Xh.1 Hf).1;rw[JG,N8 ξ,N8 (zC SK)];simpa using Hf;rw[yC ω];refine⟨J (i-f) j,?_,(S.rel (i-f) j ω W8).tr T⟩;have Hf:=Ha (vs:=J) (show i-f<n from ω) W8;have SK:=(Xh.1 Hf).1;have e2:i*y.size+j-(flat f y.size K).length=(i-f)*y.size+j:=by
    rw[zS];have:i=(i-f)+f:=ω
    conv=>lhs;rw[this,KE]
    omega
   have e3:(flat f y.size K).length<=i*y.size+j:=by rw[zS];have:=V6 y.size (show f<=i from ω);omega
   rw[JG,N8 ξ,Array.getElem?_append_right (zC e3)];simp only[G0];rw[e2];simpa using Hf;simp only[JG,Array.size_append,G0,zS,AO];rw[<-KE,<-KE];exact V6 _ ω
  rcases KS hg with ⟨R,h2⟩|⟨b,q,c,el,Wh,yD,hb,JV,Dv⟩;subst R;subst h2;by_cases hn:n=0;subst hn;have Zh:=Qc0 (ty:=o.type) ht hy w U ax Hc;cases dB:p' with
  | none=>
   subst dB;have T:=Tr.Ff (o':=⟨.arr,B.gen+1,y.size,0+0,J8 0 m B.row z⟩) (p':=none) r.o H F W.symm (EX _) (λk M _=>rfl) (by intro b q h;cases h);have jv:pl.set l none=pl:=by apply AA;intro i;by_cases E:l=i;subst E;rw[F];simp[WA F];rw[JT E]
   rw[jv]at T;refine⟨_,w,pl,.inl (Y Zh),T,?_,.ref _ _ _ _ ⟨.arr,B.gen+1,y.size,0+0,J8 0 m B.row z⟩ none U 0 (by simp[KL H]) F rfl (Qv _) (λ_=>.inl ⟨rfl,rfl⟩),Below.refl _ _⟩;refine⟨by simp[r.o.len],r.o.inj,λl1 o1 Z9 R=>?_,λl1 o1 b q Z9 R=>?_⟩;by_cases e1:l=l1;subst e1;rw[Xi (KL H)]at Z9;cases Z9;rfl;rw[JT e1]at Z9;exact r.o.V7 l1 o1 Z9 R;by_cases e1:l=l1;subst e1;rw[F]at R;cases R;rw[JT e1]at Z9;obtain⟨g1,x⟩:=r.o.at_ l1 o1 b q Z9 R;exact⟨g1,x.to rfl rfl rfl rfl (λ_ _=>rfl) λi j v _ _ hr=>hr.tr T⟩
  | some bq=>
   obtain⟨b,q⟩:=bq;subst dB;obtain⟨g1,x⟩:=r.o.at_ l B b q H F;obtain⟨c,el,g2,g3,g4,g5⟩:=x.cells W;have T:=Tr.Ff (o':=⟨.arr,B.gen+1,y.size,0+0,J8 0 m B.row z⟩) (p':=some (b,q)) r.o H F W.symm (EX _) (λk M _=>rfl) (by intro b1 q1 h;simp at h;exact .inl ⟨q,by rw[h.1]⟩);exact⟨_,w,_,.inl (Y Zh),T,Zo.Ff r.o H F W rfl (EX _) (λk M _=>rfl) (.inl ⟨q,rfl⟩) (g1 a3) g2 ξ (λi E=>by simp at E) (λi j E=>by simp at E),
    .ref _ _ _ _ ⟨.arr,B.gen+1,y.size,0+0,J8 0 m B.row z⟩ (some (b,q)) U 0 (by simp[KL H]) (by simp[WA F]) rfl (Qv _) (λ_=>.inl ⟨rfl,rfl⟩),Below.refl _ _⟩
  exact Q (λ_ _=>Go.undef) (λC _=>by cases U<;>simp[Builtin.firstCells,loadCells,loadCellsFrom,flat]) (λi E=>ω) (λi j E=>ω) ω;subst Wh;obtain⟨Q6,x⟩:=r.o.at_ l B b q H F;have Q6:=Q6 a3;obtain⟨c',dh,Xu,LB,Kf,Z3⟩:=x.cells W;rw[hb]at Xu;cases Xu;rw[a4]at JV LB Kf Z3 yD;by_cases dt:f+n<=O
  ·
   have Hg:q+m*y.size+f*y.size+n*y.size<=c.size:=by have R:=V6 y.size (show m+(f+n)<=m+O from ω);simp only[KE]at R JV;omega
   obtain⟨C,c',g1,g2,g3,g4,g5,g6,g7,g8,g9⟩:=dc (P:=P) b el (flat n y.size J) 0 (q+m*y.size+f*y.size) w c hb (by simp[zS];omega) (λk M=>by
    rw[zS]at M;obtain⟨k1,k2,k3⟩:=div_lt M;have hg:=Ha (vs:=J) k1 k2;rw[k3]at hg;have:Q8 (flat n y.size J) k=J (k/y.size) (k%y.size):=by simp[Q8,QU,hg]
    rw[this];refine ox (S.rel _ _ k1 k2) ?_;have h2:=LC _ k1;rw[jt]at h2;refine h2 _ ?_;have h3:k%y.size<(z (k/y.size)).length:=by rw[S.len _ k1];exact k2
    simp only[nth,QU,QH h3,Va];exact XK h3)
   subst yD;have Zh:=QoS (ty:=o.type) ht hy w b (q+m*y.size) f O ax n Hc (flat n y.size J) (by rw[<-S.v];exact S.first w rfl) dt g1;have he:∀k,k<w.heap.size->(∀q1,(some (b,q):Pl)≠some (k,q1))->C.heap[k]? = w.heap[k]? := λk _ M=>g5 k (λoJ=>M q (by rw[oJ]));have T:=Tr.Ff (o':=⟨.arr,B.gen+1,y.size,f+n,J8 f m B.row z⟩) (p':=some (b,q+m*y.size)) r.o H F W.symm (EX _) he (by intro b1 q1 h;simp at h;exact .inl ⟨q,by rw[h.1]⟩);refine⟨_,C,_,.inl (Y Zh),T,Zo.Ff r.o H F W rfl (EX _) he (.inl ⟨q,rfl⟩) Q6 g2 ?_ (λi E=>?_) (λi j E V=>?_),.ref _ _ _ _ ⟨.arr,B.gen+1,y.size,f+n,J8 f m B.row z⟩ (some (b,q+m*y.size)) _ O (by simp[KL H]) (by simp[WA F]) rfl (Qv _) (λ_=>.inr ⟨b,q+m*y.size,c',el,rfl,σ,g2,?_,dt⟩),OA Q6 g5 g6 g7 g8 g9⟩;rw[g3];simp only[KE];omega;by_cases N:i<f;show (J8 f m B.row z i).length=_;rw[BS N];exact Kf _ ω;show (J8 f m B.row z i).length=_;rw[yC ω];exact S.len _ (by have:i<f+n:=E;omega);have W8:j<y.size:=V;have JH:i<f+n:=E;show ∃v,c'[q+m*y.size+(i*y.size+j)]?=some v/\QF _ _ _ _ (nth (J8 f m B.row z i) j) v;rw[g4];simp only[zS,vn];by_cases N:i<f;rw[BS N,Qd];obtain⟨v,hv,hr⟩:=Z3 (m+i) j ω W8;refine⟨v,?_,hr.tr T⟩;rw[<-hv];congr 1;rw[KE];omega;have:=V6 y.size (show i+1<=f from N);rw[KE]at this;omega;have R:=V6 y.size (show f<=i from ω);have h2:i*y.size=(i-f)*y.size+f*y.size:=by rw[<-KE];congr 1;omega
   have h3:=V6 y.size (show (i-f)+1<=n from ω);rw[KE]at h3;rw[yC ω,Qe ω];refine⟨J (i-f) j,?_,(S.rel (i-f) j ω W8).tr T⟩;rw[show q+m*y.size+(i*y.size+j)-(q+m*y.size+f*y.size)=(i-f)*y.size+j by omega];exact Ha ω W8;rw[g3];simp only[JG,KE]at JV ⊢;omega
  refine Q (λi j=>(c[q+((m+i)*y.size+j)]?).getD Go.undef) (λC hw=>?_) (λi E=>Kf _ ω) (λi j E V=>?_) ω;have S0:Src Z s.h pl w (.slice U f O) f y.size (λk=>B.row (m+k)) U O (λi j=>(c[q+((m+i)*y.size+j)]?).getD Go.undef):=by refine⟨rfl,λi E=>Kf _ ω,λi j E V=>⟨b,q+m*y.size,yD,?_⟩,λi j E V=>?_⟩;obtain⟨u,hu,hr⟩:=Z3 (m+i) j ω V;rw[cell_of_row w b _ c el (0,0) hb,show q+m*y.size+(i*y.size+j)=q+((m+i)*y.size+j) by rw[KE];omega,hu];rfl;obtain⟨u,hu,hr⟩:=Z3 (m+i) j ω V;simp only[hu,Va];exact hr
  exact S0.first C hw;obtain⟨u,hu,hr⟩:=Z3 (m+i) j ω V;simp only[hu,Va];exact hr;cases h
 cases h
def QoW(f:Jm P L){t:TypeId}{a x}(b:o.op=.call ⟨.builtin .append,#[a,x],#[t,t]⟩)(g:Qr s.fr a=.nil){p c d}(h:Dx L s.h t .nil (Qr s.fr x)=some (p,c,d))(e:p):ko P base nt o s c d:=
 (QoT f b g h e).up (by simp[calm,b])
def QoX(j:Jm P L){t:TypeId}{c x l g a b}(e:o.op=.call ⟨.builtin .append,#[c,x],#[t,t]⟩)(k:Qr s.fr c=.ref l g a b){p f d}(h:Dx L s.h t (.ref l g a b) (Qr s.fr x)=some (p,f,d))(i:p):ko P base nt o s f d:=
 (QoU j e k h i).up (by simp[calm,e])
end
variable {Z:Nat->Prop}
def AP(Z:Nat->Prop)(h:List Ob)(c:List Pl)(w:World)(a:List D)(b:Array Value):Prop:=b.size=a.length/\∀i,i<a.length->QF Z h c w (nth a i) (Q8 b.toList i)
def Qc2(a):∀(l:List Value) (n:Nat) (c:Array Value),((l.zipIdx n).foldl (λ(d:Array Value) (x:Value × Nat)=>d.setIfInBounds (a+x.2) x.1) c).size=c.size /\
  ∀k,(((l.zipIdx n).foldl (λ(d:Array Value) (x:Value × Nat)=>d.setIfInBounds (a+x.2) x.1) c)[k]?)=if a+n<=k/\k<a+n+l.length/\k<c.size then l[k-(a+n)]? else c[k]?
 | [],n,c=>⟨rfl,λk=>by rw[Qd ξ];rfl⟩
 | v::l,n,c=>by obtain⟨h,g⟩:=Qc2 a l (n+1) (c.setIfInBounds (a+n) v);simp only[List.zipIdx_cons,qX];refine⟨by rw[h];simp,λk=>?_⟩;rw[g k];simp only[Array.size_setIfInBounds,Kx];by_cases f:k=a+n;subst f;rw[Qd ω,Array.getElem?_setIfInBounds_self];by_cases b:a+n<c.size;rw[Qe b,Qe ⟨ω,ω,b⟩];simp;rw[Qd b,Qd ω];simp;omega;rw[nS ω];by_cases e:a+n<=k/\k<a+n+(l.length+1)/\k<c.size;rw[Qe e,Qe ω];obtain⟨m,rfl⟩:∃m,k=a+n+(m+1):=⟨k-(a+n)-1,ω⟩;rw[show a+n+(m+1)-(a+(n+1))=m by omega,show a+n+(m+1)-(a+n)=m+1 by omega];simp;rw[Qd e,Qd ω]
def QoY(a)(v:Array Value)(c):v.zipIdx.foldl (λ(b:Array Value) (x:Value × Nat)=>b.setIfInBounds (a+x.2) x.1) c=(v.toList.zipIdx 0).foldl (λ(b:Array Value) (x:Value × Nat)=>b.setIfInBounds (a+x.2) x.1) c:=by rw[<-Array.foldl_toList,Array.toList_zipIdx]
def AP.BR{h j w}{b f:List D}{c d a}(r:AP Z h j w b c)(q:AP Z h j w f d)(k:a+f.length<=b.length):
  AP Z h j w (BR b a f) (d.zipIdx.foldl (λ(b:Array Value) (x:Value × Nat)=>b.setIfInBounds (a+x.2) x.1) c):=by
 obtain⟨n,m⟩:=Qc2 a d.toList 0 c;rw[QoY];refine⟨by rw[n,r.1,de k],λi l=>?_⟩;rw[de k]at l;rw[QcT k];have e:Q8 (List.foldl (λ(b:Array Value) (x:Value × Nat)=>b.setIfInBounds (a+x.2) x.1) c (d.toList.zipIdx 0)).toList i=if a<=i/\i<a+f.length then Q8 d.toList (i-a) else Q8 c.toList i:=by simp only[Q8,QU,wy,m i,vn,Array.length_toList,q.1,r.1];by_cases g:a<=i/\i<a+f.length;rw[Qe ⟨g.1,g.2,l⟩,Qe g];rw[Qd ω,Qd g]
 rw[e];split;exact q.2 _ ω;exact r.2 _ l
def yE(b:Nat->Option (Nat × Nat))(a:List D):List (Nat × Option (List D))->Option (List D)
 | []=>some a
 | (i,some f)::e=>match b i with
  | some (c,d)=>bif Nat.beq f.length d&&Nat.ble (c+f.length) a.length then yE b (BR a c f) e else none
  | none=>none
 | (_,none)::_=>none
def SL{h:List Ob}{pl:List Pl}{w:World}(b:Nat->Option (Nat × Nat))(f:Operand->D)(a:Act)(m:∀x,QF Z h pl w (f x) (a.eval x)):∀(parts:List (Nat × Operand)) (c j:List D) (e:Array Value),AP Z h pl w c e ->
  yE b c (parts.map λx=>(x.1,YA (f x.2)))=some j->∃g,Instr.fill b e (parts.map λx=>(x.1,a.eval x.2))=some g/\AP Z h pl w j g
 | [],c,j,e,r,d=>by simp[yE]at d;subst d;exact⟨e,rfl,r⟩
 | (i,x)::parts,c,j,e,r,d=>by
  simp only[Jr]at d ⊢;cases l:YA (f x) with
  | none=>rw[l]at d;simp[yE]at d
  | some z=>
   rw[l]at d;simp only[yE]at d;cases k:b i with
   | none=>rw[k]at d;cases d
   | some t=>obtain⟨B,p⟩:=t;rw[k]at d;obtain⟨n,d⟩:=km d;simp only[ZM,Wz,Lj]at n;obtain⟨o,s⟩:=oy (m x) l;have q:AP Z h pl w z (a.eval x).cells:=⟨o,λi u=>(s i u).1⟩;obtain⟨g,y,v⟩:=SL b f a m parts _ _ _ (r.BR q n.2) d;refine⟨g,?_,v⟩;simp only[Instr.fill,k];rw[Qd (by simp only[o,r.1];simp;omega)];exact y
def oK{h pl w}{y:Ty}{z:Value}(a:z.cells.toList=y.zero):AP Z h pl w (y.zero.map Ke) z.cells:=by
 refine⟨by rw[<-a];simp,λi b=>?_⟩;rw[<-a]at b ⊢;have c:i<z.cells.size:=by simpa using b
 refine .cl _ _ ?_;simp only[nth,Q8,QU,KR,wy,jY c,Kq,Va];exact Ds _ _ _
def OD(L:Jt):List (Nat × TypeId)->Option (List (Nat × Nat))
 | []=>some []
 | (a,u)::r=>match ty L u,OD L r with
  | some y,some b=>some ((a,y.size)::b)
  | _,_=>none
def Qc3{P L}(d:Jm P L)(w):∀(b:List Field) (a:List (Nat × Nat)),OD L (b.map λf=>(f.offset,f.type))=some a->(b.mapM λf=>Prod.mk f.offset <$> sizeOf f.type).run P w=.ok a w
 | [],a,h=>by simp[OD]at h;subst h;simp
 | f::b,a,h=>by simp only[Jr,OD]at h;split at h;rename_i y c g e;simp only[Q7]at h;subst h;simp[List.mapM_cons,(d _ _ g).sizeOf,Qc3 d w b c e];cases h
def dC(L:Jt)(d:List (Nat × D))(t:TypeId)(a:List (Nat × Operand)):Option D:=
 match ty L t with
 | some y=>match y.k with
  | .struct g=>match OD L g with
   | some f=>match yE (λi=>f[i]?) (y.zero.map Ke) (a.map λx=>(x.1,YA (Qr d x.2))) with
    | some b=>some (.agg b)
    | none=>none
   | none=>none
  | .array _ e=>match ty L e with
   | some c=>match yE (λi=>some (i*c.size,c.size)) (y.zero.map Ke) (a.map λx=>(x.1,YA (Qr d x.2))) with
    | some b=>some (.agg b)
    | none=>none
   | none=>none
  | _=>none
 | none=>none
section
variable {P:Program}{L:Jt}{base nt:Nat}{s:St}{o:Oper}
def AP.agg{h pl w b a}(r:AP Z h pl w b a):QF Z h pl w (.agg b) (.agg a):=by have:=QF.agg (h:=h) (pl:=pl) (w:=w) b a.toList (by simpa using r.1) r.2;simpa using this
def Qo0(i:Jm P L){t:TypeId}{b:Array (Nat × Operand)}(v:o.op=.build t b){d}(h:dC L s.fr t b.toList=some d):WL P base nt o s d:=by intro Z q a w r;unfold dC at h;split at h;rename_i y M;have c:=i _ _ M;obtain⟨z,hz,u⟩:=c.zeroValue;split at h;rename_i O f;split at h;rename_i p C;split at h;rename_i H l;simp only[Q7]at h;subst h;obtain⟨g,F,E⟩:=QcM c f;obtain⟨B,k,j⟩:=SL (h:=s.h) (pl:=q) (w:=w) _ (Qr s.fr) a (λx=>r.eval x) b.toList _ _ _ (oK hz) l;refine⟨_,j.agg,λm _=>?_⟩;have I:=Qc3 i m g.toList p (by rw[E];exact C);have K:Instr.fill (λx=>p[x]?) z.cells (List.map (λx=>(x.fst,a.eval x.snd)) b.toList)=some B:=k;simp[execOp,v,Instr.build,u,run_underlying F,Array.mapM_eq_mapM_toList,I,K];cases h;cases h;rename_i n e f;split at h;rename_i N J;split at h;rename_i H l;simp only[Q7]at h;subst h;obtain⟨B,k,j⟩:=SL (h:=s.h) (pl:=q) (w:=w) _ (Qr s.fr) a (λx=>r.eval x) b.toList _ _ _ (oK hz) l;refine⟨_,j.agg,λm _=>?_⟩;simp[execOp,v,Instr.build,u,run_underlying (n9 c f),(i _ _ J).sizeOf,k];cases h;cases h;cases h;cases h
def oM{a b:List D}{i}(h:i<a.length):nth (a++b) i=nth a i:=by simp only[nth,QU,JX h]
def oN{a b:List D}{i}(h:a.length<=i):nth (a++b) i=nth b (i-a.length):=by simp only[nth,QU,Ks h]
def oO(n)(a:List D):(List.replicate n a).flatten.length=n*a.length:=σ
def Qc4(a:List D):∀(n i:Nat),i<n*a.length->nth (List.replicate n a).flatten i=nth a (i%a.length)
 | 0,i,h=>by simp at h
 | n+1,i,h=>by rw[bZ,List.flatten_cons];rw[KE]at h;by_cases b:i<a.length;rw[oM b,kg b];rw[oN ω,Qc4 a n _ ω];congr 1;rw[Nat.mod_eq_sub_mod (by omega:a.length<=i)]
def BW(b c:Nat)(a:List D):Nat->List D:=bif Nat.beq b 1 then λ_=>a else λk=>(a.drop (k*c)).take c
def dD(L:Jt)(c:List (Nat × D))(h:List Ob)(t:TypeId)(a:Nat)(b:List (Nat × Operand)):Option (Prop × List Ob × D):=
 match ty L t with
 | some ⟨.slice e,_,_,_⟩=>match ty L e with
  | some y=>match yE (λi=>some (i*y.size,y.size)) (List.replicate a (y.zero.map Ke)).flatten (b.map λx=>(x.1,YA (Qr c x.2))) with
   | some d=>some (a*y.size<=16777216/\y.zero.length=y.size,h++[⟨.arr,0,y.size,a,BW a y.size d⟩],.ref h.length 0 0 a)
   | none=>none
  | none=>none
 | _=>none
def Qc5(b):∀(d:List (Nat × Option (List D))) (a c:List D),yE b a d=some c->c.length=a.length
 | [],a,c,h=>by simp[yE]at h;rw[h]
 | (i,none)::d,a,c,h=>by simp[yE]at h
 | (i,some f)::d,a,c,h=>by simp only[yE]at h;split at h;obtain⟨e,h⟩:=km h;simp only[ZM,Wz,Lj]at e;rw[Qc5 b d _ _ h,de e.2];cases h
def Qo1(W:Jm P L){t:TypeId}{c}{g:Array (Nat × Operand)}(V:o.op=.buildSlice t c g){p h' d}(h:dD L s.fr s.h t c g.toList=some (p,h',d))(hp:p):ko P base nt o s h' d:=by
 intro Z u a w r Vb;unfold dD at h;split at h;rename_i e _ _ _ he;split at h;rename_i y BQ;split at h;rename_i m R;simp only[Q7,Zg]at h;obtain⟨rfl,rfl,rfl⟩:=h;obtain⟨a0,Hb⟩:=hp;have N:=W _ _ BQ;obtain⟨z,hz,jw⟩:=N.zeroValue;have Fh:z.cells.size=y.size:=by rw[<-Hb,<-hz];simp
 have U:=yA (W _ _ he) rfl;have zr:=oK (Z:=Z) (h:=s.h) (pl:=u) (w:=w) hz;have I:(y.zero.map Ke).length=y.size:=by simp[Hb]
 have l:m.length=c*y.size:=by rw[Qc5 _ _ _ _ R,oO,I]
 have E:∀zc:Array Value,(c*y.size=0->zc=#[])->(c*y.size≠0->zc=z.cells)->AP Z s.h u w (List.replicate c (y.zero.map Ke)).flatten ((Array.range (c*y.size)).map (zc[· % zc.size]!)):=by
  intro zc H n;refine⟨by rw[oO,I];simp,λi B=>?_⟩;rw[oO,I]at B;have QE:c*y.size≠0:=ω;have Fi:=n QE;subst Fi;have Yh:0<y.size:=Nat.pos_of_ne_zero (λe=>QE (by rw[e];simp));rw[Qc4 _ _ _ (by rw[I];exact B),I];have C:=zr.2 (i%y.size) (by rw[I];exact Xt _ Yh);have Y:i%y.size<z.cells.size:=by rw[Fh];exact Xt _ Yh
  have:Q8 (Array.map (λx=>z.cells[x%z.cells.size]!) (Array.range (c*y.size))).toList i=Q8 z.cells.toList (i%y.size):=by simp only[Q8,QU,wy,Array.getElem?_map,Array.getElem?_range,B,Vu,Kq,Va,Fh];rw[getElem!_pos z.cells _ Y,jY Y];rfl
  rw[this];exact C
 have K:∀k:Array Value,AP Z s.h u w m k->(execOp a.eval o).run P w=.ok (.value (.slice (some ⟨w.heap.size,0,none⟩) c c)) (w.alloc (.cells k e)) ->
   ∃v F Q,((execOp a.eval o).run P w=.ok (.value v) F\/((execOp a.eval o).run P w=.ok .skip F/\v=Go.undef))/\Tr s.h u w (s.h++[⟨.arr,0,y.size,c,BW c y.size m⟩]) Q F /\
    Zo Z base (s.h++[⟨.arr,0,y.size,c,BW c y.size m⟩]) Q F/\QF Z (s.h++[⟨.arr,0,y.size,c,BW c y.size m⟩]) Q F (.ref s.h.length 0 0 c) v/\Below base w F/\(calm o=true->Ext w F):=by
  intro k M Zh;have J:∀b,b<w.heap.size->(w.alloc (.cells k e)).heap[b]? = w.heap[b]? := λb hb=>xK w _ b hb;have JW:(w.alloc (.cells k e)).heap[w.heap.size]?=some (.cells k e (0,0)):=heap_alloc_new w _;have Zk:u.length=s.h.length:=r.o.len;have T:Tr s.h u w (s.h++[⟨.arr,0,y.size,c,BW c y.size m⟩]) (u++[some (w.heap.size,0)]) (w.alloc (.cells k e)):=Tr.push r.o J _ _ (by intro b q h;simp at h;omega);have Z3:∀i,i<c->(BW c y.size m i).length=y.size/\∀j,j<y.size->nth (BW c y.size m i) j=nth m (i*y.size+j):=by
   intro i B;unfold BW;by_cases n:c=1;subst n;have:i=0:=ω;subst this;simp[l];have:Nat.beq c 1=false:=by rw[<-Yx,Wz];exact n
   rw[this];have C:=V6 y.size (show i+1<=c from B);rw[KE]at C;refine⟨by simp[l];omega,λj O=>?_⟩;simp only[ju];rw[oh O,G6]
  refine⟨_,_,_,.inl Zh,T,Zo.push r.o J _ rfl (Qv _) Vb JW (by simp[M.1,l]) (λi B=>(Z3 i B).1) (λi j B O=>?_),.ref _ _ _ _ ⟨.arr,0,y.size,c,BW c y.size m⟩ (some (w.heap.size,0)) _ c σ (by rw[<-Zk];simp) rfl (Qv _) (λ_=>.inr ⟨w.heap.size,0,k,e,rfl,σ,JW,by simp[M.1,l],Qv _⟩),Fe Vb _,λ_=>J⟩;have W8:j<y.size:=O;have JH:i<c:=B;have C:=V6 y.size (show i+1<=c from JH);rw[KE]at C;have Qb:i*y.size+j<m.length:=ω;refine⟨Q8 k.toList (i*y.size+j),?_,?_⟩;have:i*y.size+j<k.size:=by rw[M.1];exact Qb
  simp only[JG,Q8,QU,wy,jY this,Va];show QF _ _ _ _ (nth (BW c y.size m i) j) _;rw[(Z3 i JH).2 j W8];exact(M.2 _ Qb).tr T
 by_cases H:c*y.size=0;obtain⟨k,n,C⟩:=SL (h:=s.h) (pl:=u) (w:=w) _ (Qr s.fr) a (λx=>r.eval x) g.toList _ _ _ (E #[] (λ_=>rfl) (λh=>absurd H h)) R;rw[H]at n;have e0:Array.map (λx=>(#[]:Array Value)[x%(#[]:Array Value).size]!) (Array.range 0)=#[]:=σ;rw[e0]at n;have J:∀f:Nat->Value,Array.map f (Array.range 0)=#[]:=λf=>Array.eq_empty_of_size_eq_zero σ;refine K k C ?_;simp[execOp,V,Instr.buildSlice,run_underlying U,N.sizeOf,H,newRow,n,J];obtain⟨k,n,C⟩:=SL (h:=s.h) (pl:=u) (w:=w) _ (Qr s.fr) a (λx=>r.eval x) g.toList _ _ _ (E z.cells (λh=>absurd h H) (λ_=>rfl)) R;refine K k C ?_;have S:¬ (16777216<c*y.size):=ω;simp[execOp,V,Instr.buildSlice,run_underlying U,N.sizeOf,jw,H,S,newRow,n];cases h;cases h;cases h
end
variable {Z:Nat->Prop}
def vz(b:List (Nat × D))(a:Int):Option Operand->Option Int
 | none=>some a
 | some x=>match Qr b x with
  | .raw (.int _ i)=>some i
  | _=>none
def Qc6{P:Program}(w:World){k:IntKind}{i:Int}{y:Nat}{c:BoundsCode}(b:0<=i)(a:i<=y):(Instr.sliceBound (.int k i) y c).run P w=.ok i.toNat w:=by simp[Instr.sliceBound,asIntOf,b,a]
def dF{P:Program}{p F:Nat}{s:St}{E:List Pl}{a:Act}{C:World}(r:Rel Z p F s E a C)(w:World)(b:Bool)(e f:Nat)(t q:Option Operand){l u:Int}(y:vz s.fr 0 t=some l)(g:vz s.fr e q=some u)
  (J:0<=l) (L:l<=u) (K:u<=e) (N:e<=f):(Instr.sliceBounds b e f (t.map a.eval) (q.map a.eval) none).run P w=.ok (l.toNat,u.toNat,f) w:=by
 have get:∀(x:Operand) (d:Int) (i:Int),vz s.fr d (some x)=some i->∃k,a.eval x=.int k i:=by intro x d i h;have H:=r.eval x;simp only[vz]at h;generalize Qr s.fr x=M at *;split at h;rename_i k j;simp only[Q7]at h;subst h;exact⟨k,JI H⟩;cases h
 have o:∀(v:Value) (m:Nat) (c:BoundsCode),(∃k,v=.int k u)->u<=m->(Instr.sliceBound v m c).run P w=.ok u.toNat w:=by rintro v m c ⟨k,rfl⟩ I;exact Qc6 w ω I
 have n:∀(v:Value) (c:BoundsCode),(∃k,v=.int k l)->(Instr.sliceBound v u.toNat c).run P w=.ok l.toNat w:=by rintro v c ⟨k,rfl⟩;exact Qc6 w J ω
 cases t with
 | none=>
  simp only[vz,Q7]at y;subst y;cases q with
  | none=>simp only[vz,Q7]at g;subst g;simp[Instr.sliceBounds]
  | some x=>have hx:=get x e u g;cases b<;>simp[Instr.sliceBounds,o _ f _ hx ω]
 | some z=>
  have hz:=get z 0 l y;cases q with
  | none=>simp only[vz,Q7]at g;have:u.toNat=e:=ω;have B:=λc=>n (a.eval z) c hz;rw[this]at B;simp[Instr.sliceBounds,B,this]
  | some x=>have hx:=get x e u g;cases b<;>simp[Instr.sliceBounds,o _ f _ hx ω,n _ _ hz]
def dG(L:Jt)(c:List (Nat × D))(h:List Ob)(t:TypeId)(d:D)(j k:Option Operand):Ev:=
 match ty L t with
 | some ⟨.slice e,_,_,_⟩=>match ty L e with
  | some y=>match d with
   | .ref l g p f=>match h[l]?,vz c 0 j,vz c f k with
    | some o,some a,some b=>some (g=o.gen/\o.sz=y.size/\0<=a/\a<=b/\b<=f,.ref l g (p+a.toNat) (b-a).toNat)
    | _,_,_=>none
   | .imm z n m=>match vz c 0 j,vz c n k with
    | some a,some b=>some (z=y.size/\0<=a/\a<=b/\b<=n,.imm z (b-a).toNat λi=>m (a.toNat+i))
    | _,_=>none
   | .nil=>match vz c 0 j,vz c 0 k with
    | some a,some b=>some (a=0/\b=0,.nil)
    | _,_=>none
   | _=>none
  | none=>none
 | some ⟨.str,_,_,_⟩=>match d with
  | .raw (.string s)=>match vz c 0 j,vz c s.size k with
   | some a,some b=>some (0<=a/\a<=b/\b<=s.size,.raw (.string (s.extract a.toNat b.toNat)))
   | _,_=>none
  | _=>none
 | _=>none
section
variable {P:Program}{L:Jt}{base nt:Nat}{s:St}{o:Oper}
def Qo4(hL:Jm P L){t:TypeId}{x H m}(T:o.op=.slice t x H m none){p d}(h:dG L s.fr s.h t (Qr s.fr x) H m=some (p,d))(S:p):WL P base nt o s d:=by
 intro Z pl a w r;have hx:=r.eval x;unfold dG at h;split at h;rename_i e _ _ _ he;have I:=yA (hL _ _ he) rfl;split at h;rename_i y BQ;have W:=hL _ _ BQ;generalize Qr s.fr x=dx at *;split at h;rename_i l g Q R;split at h;rename_i ob k N Zm E F;simp only[Q7,Zg]at h;obtain⟨rfl,rfl⟩:=h;obtain⟨hg,JO,M,K,J⟩:=S;obtain⟨o',p',C,f,B,ZR,Jd,ZO,vp,KS⟩:=Fb hx;rw[Zm]at ZR;cases ZR;have Dv:R<=f:=by rcases KS hg with ⟨h3,h4⟩|⟨_,_,_,_,_,_,_,_,h3⟩<;>omega
 refine⟨.slice (if f=k.toNat then C else C.map (·.add (k.toNat*y.size))) (N-k).toNat (f-k.toNat),?_,λv _=>?_⟩;refine .ref _ _ _ _ ob p' _ _ Zm Jd ZO vp (λ_=>?_);rcases KS hg with ⟨h3,h4⟩|⟨b,q,c,el,Wh,V,u,JV,h3⟩;exact .inl ⟨ω,ω⟩;by_cases U:f=k.toNat
 exact .inl ⟨ω,ω⟩;refine .inr ⟨b,q,c,el,Wh,?_,u,?_,ω⟩;rw[Qd U,V,Kq,AK,JO,KE];simp only[Q7,Addr.mk.injEq,and_true,yz];omega;rw[show Q+k.toNat+(f-k.toNat)=Q+f by omega];exact JV;have u:=dF (P:=P) r v true R f H m E F M K J Dv;simp[execOp,T,Instr.sliceAt,run_underlying I,Instr.slice,B,u,W.sizeOf];omega;cases h;rename_i z n a0;split at h;rename_i k N E F;simp only[Q7,Zg]at h;obtain⟨rfl,rfl⟩:=h;obtain⟨rfl,M,K,J⟩:=S;obtain⟨C,f,b,q,vs,B,V,Dv,hs,U⟩:=SF hx;refine⟨.slice (if f=k.toNat then C else C.map (·.add (k.toNat*y.size))) (N-k).toNat (f-k.toNat),.cl _ _ ?_,λv _=>?_⟩;refine .imm _ _ _ _ _ b (q+k.toNat*y.size) (λi j=>vs (k.toNat+i) j) (λYh=>?_) ω (λi m=>hs _ ω) (λi j m Y=>?_) (λi j m Y=>(U (k.toNat+i) j ω Y).2);rw[Qd ω,V ω,Kq,AK];obtain⟨⟨g1,g2⟩,_⟩:=U (k.toNat+i) j ω Y;refine⟨g1,?_⟩;rw[<-g2];congr 2;rw[KE];omega;have u:=dF (P:=P) r v true n f H m E F M K J Dv;simp[execOp,T,Instr.sliceAt,run_underlying I,Instr.slice,B,u,W.sizeOf];omega;cases h;split at h;rename_i k N E F;simp only[Q7,Zg]at h;obtain⟨rfl,rfl⟩:=h;obtain⟨rfl,rfl⟩:=S;obtain⟨C,B⟩:=AJ hx;refine⟨.slice C 0 0,.cl _ _ (.nil _),λv _=>?_⟩;have u:=dF (P:=P) r v true 0 0 H m E F ω ω ω (Qv _);simp[execOp,T,Instr.sliceAt,run_underlying I,Instr.slice,B,u,W.sizeOf];cases h;cases h;cases h;rename_i he;have I:=SE (hL _ _ he) rfl;generalize Qr s.fr x=dx at *;split at h;rename_i O;split at h;rename_i k N E F;simp only[Q7,Zg]at h;obtain⟨rfl,rfl⟩:=h;obtain⟨M,K,J⟩:=S;have B:=JI hx;refine⟨_,.cl _ _ (.raw _),λv _=>?_⟩;have u:=dF (P:=P) r v false O.size O.size H m E F M K J (Qv _);simp[execOp,T,Instr.sliceAt,run_underlying I,Instr.slice,B,u];cases h;cases h;cases h
end
def zT:Value->Value->Option Bool
 | .int k a,.int c b=>bif IntKind.same k c then some (a==b) else none
 | .bool a,.bool b=>some (a==b)
 | .string a,.string b=>some (a.toList==b.toList)
 | _,_=>none
def vA:List Value->List Value->Option Bool
 | [],[]=>some true
 | a::r,b::q=>match zT a b,vA r q with
  | some x,some y=>some (x&&y)
  | _,_=>none
 | _,_=>none
def cat:Value->Nat
 | .int _ _=>0
 | .bool _=>1
 | .string _=>2
 | _=>3
def OE(P:Program)(b:TypeId->Option (List Nat)):List Field->Nat->Option (List Nat)
 | [],_=>some []
 | f::c,a=>match b f.type with
  | some l => if f.name ≠ "_" /\ f.offset = a /\ P.cellsOf f.type = l.length then (OE P b c (a + l.length)).map (l ++ ·) else none
  | none=>none
def q7(P:Program):Nat->TypeId->Option (List Nat)
 | 0,_=>none
 | d+1,t=>match P.underlying t with
  | some (.int _)=>some [0]
  | some .bool=>some [1]
  | some .string=>some [2]
  | some (.struct a)=>if P.stoodInHeld t then none else OE P (q7 P d) a.toList 0
  | some (.array n e)=>match q7 P d e with
   | some l=>if P.cellsOf e=l.length then some (List.replicate n l).flatten else none
   | none=>none
  | _=>none
def oP:∀(a b c d:List Value) (r:Bool),a.length=b.length->vA (a++c) (b++d)=some r->∃x y,vA a b=some x/\vA c d=some y/\r=(x&&y)
 | [],[],c,d,r,_,h=>⟨true,r,rfl,h,σ⟩
 | [],_::_,_,_,_,h,_=>by simp at h
 | _::_,[],_,_,_,h,_=>by simp at h
 | u::a,v::b,c,d,r,i,h=>by simp only[qs,vA]at h;split at h;rename_i x y hx g;simp only[Q7]at h;obtain⟨f,e,l,k,j⟩:=oP a b c d y (zC i) g;exact⟨x&&f,e,by simp[vA,hx,l],k,by rw[<-h,j,Bool.and_assoc]⟩;cases h
def valOf(P:Program)(t:TypeId)(a:List Value):Value:=
 match P.underlying t with
 | some (.struct _)|some (.array _ _)=>.agg a.toArray
 | _=>Q8 a 0
def oQ(P:Program)(D:Nat)(t:TypeId)(l:List Nat):Prop:=
 ∀(w:World) (b a:List Value) (r:Bool),b.map cat=l->a.map cat=l->vA b a=some r->(Op.equalIn D t (valOf P t b) (valOf P t a)).run P w=.ok r w
def SM{P:Program}{d}{t:TypeId}{l:List Nat}(h:q7 P d t=some l)(j:P.cellsOf t=l.length)(w)(c:List Value)(b)(e:b+l.length<=c.length):
  (part t c.toArray b).run P w=.ok (valOf P t ((c.drop b).take l.length)) w:=by
 cases d with
 | zero=>simp[q7]at h
 | succ d=>
  unfold q7 at h;cases a:P.underlying t with
  | none=>rw[a]at h;cases h
  | some k=>
   obtain⟨i,g⟩:=info_of_underlying a;have f:(sizeOf t).run P w=.ok l.length w:=by rw[run_sizeOf w g,j]
   rw[a]at h;cases k<;>first|(cases h;done)|skip
   case bool=>
    cases h;have:b<c.length:=by simp at e;omega
    simp[part,isAgg,run_underlying a,valOf,a,Q8,this]
   case int=>
    cases h;have:b<c.length:=by simp at e;omega
    simp[part,isAgg,run_underlying a,valOf,a,Q8,this]
   case string=>
    cases h;have:b<c.length:=by simp at e;omega
    simp[part,isAgg,run_underlying a,valOf,a,Q8,this]
   case array=>simp[part,isAgg,run_underlying a,valOf,a,f]
   case struct=>simp[part,isAgg,run_underlying a,valOf,a,f]
def Qc7{P}(d D)(u:∀t l,q7 P d t=some l->oQ P D t l)(w):∀(k:List Field) (a:Nat) (l:List Nat) (c b:List Value) (r:Bool),OE P (q7 P d) k a=some l ->
  (c.drop a).map cat=l->(b.drop a).map cat=l->a<=c.length->a<=b.length->vA (c.drop a) (b.drop a)=some r->(Op.eqFields D c.toArray b.toArray k).run P w=.ok r w
 | [],a,l,c,b,r,h,hx,g,L,K,i=>by simp[OE]at h;subst h;simp only[List.map_eq_nil_iff]at hx g;rw[hx,g]at i;simp[vA]at i;simp[Op.eqFields,i]
 | f::k,a,l,c,b,r,h,hx,g,L,K,i=>by
  simp only[OE]at h;split at h;rename_i e o;split at h;rename_i J;obtain⟨I,H,s⟩:=J;simp only[WK]at h;obtain⟨n,R,rfl⟩:=h;have j:(c.drop a).length=e.length+n.length:=by rw[<-KJ (f:=cat),hx,Zn]
  have m:(b.drop a).length=e.length+n.length:=by rw[<-KJ (f:=cat),g,Zn]
  have q:c.drop a=(c.drop a).take e.length++c.drop (a+e.length):=by rw[<-List.drop_drop,AF]
  have p:b.drop a=(b.drop a).take e.length++b.drop (a+e.length):=by rw[<-List.drop_drop,AF]
  rw[q,zP]at hx;rw[p,zP]at g;obtain⟨O,Q⟩:=bT hx (by simp at j ⊢;omega);obtain⟨F,v⟩:=bT g (by simp at m ⊢;omega);rw[q,p]at i;obtain⟨x,y,N,M,rfl⟩:=oP _ _ _ _ _ (by simp at j m ⊢;omega) i;have E:=SM o s w c a (by simp at j;omega);have C:=SM o s w b a (by simp at m;omega);have B:=u _ _ o w _ _ x O F N;have z:=Qc7 d D u w k (a+e.length) n c b y R Q v (by simp at j;omega) (by simp at m;omega) M;simp only[Op.eqFields,I,ne_eq,not_false_eq_true,Vu,Sem.run_bind,H,E,C,B,Result.andThen_ok];cases x;simp;simpa using z;cases h;cases h
def Qc8{P:Program}{d D}{e:TypeId}{l:List Nat}(n:q7 P d e=some l)(h:P.cellsOf e=l.length)(t:oQ P D e l)(w):∀(m i:Nat) (b a:List Value) (r:Bool),
  (b.drop (i*l.length)).map cat=(List.replicate m l).flatten->(a.drop (i*l.length)).map cat=(List.replicate m l).flatten->i*l.length<=b.length->i*l.length<=a.length->vA (b.drop (i*l.length)) (a.drop (i*l.length))=some r ->
  (Op.eqItems D e (P.cellsOf e) b.toArray a.toArray (List.range' i m)).run P w=.ok r w
 | 0,i,b,a,r,hx,c,_,_,g=>by simp only[List.replicate_zero,List.flatten_nil,List.map_eq_nil_iff]at hx c;rw[hx,c]at g;simp[vA]at g;simp[Op.eqItems,g]
 | m+1,i,b,a,r,hx,c,K,J,g=>by
  rw[bZ,List.flatten_cons]at hx c;have j:(b.drop (i*l.length)).length=l.length+(List.replicate m l).flatten.length:=by rw[<-KJ (f:=cat),hx,Zn]
  have k:(a.drop (i*l.length)).length=l.length+(List.replicate m l).flatten.length:=by rw[<-KJ (f:=cat),c,Zn]
  have p:i*l.length+l.length=(i+1)*l.length:=by rw[KE];omega
  have s:b.drop (i*l.length)=(b.drop (i*l.length)).take l.length++b.drop ((i+1)*l.length):=by rw[<-p,<-List.drop_drop,AF]
  have q:a.drop (i*l.length)=(a.drop (i*l.length)).take l.length++a.drop ((i+1)*l.length):=by rw[<-p,<-List.drop_drop,AF]
  rw[s,zP]at hx;rw[q,zP]at c;obtain⟨H,I⟩:=bT hx (by simp at j ⊢;omega);obtain⟨C,u⟩:=bT c (by simp at k ⊢;omega);rw[s,q]at g;obtain⟨x,y,F,E,rfl⟩:=oP _ _ _ _ _ (by simp at j k ⊢;omega) g;have B:=SM n h w b (i*l.length) (by simp at j;omega);have z:=SM n h w a (i*l.length) (by simp at k;omega);have v:=t w _ _ x H C F;have o:=Qc8 n h t w m (i+1) b a y I u (by simp at j;omega) (by simp at k;omega) E;rw[List.range'_succ];simp only[Op.eqItems,Sem.run_bind,h,B,z,v,Result.andThen_ok];cases x;simp;rw[h]at o;simpa using o
def dH{P}:∀(d D:Nat) (t:TypeId) (l:List Nat),d<=D->q7 P d t=some l->oQ P D t l
 | 0,_,_,_,_,h=>by simp[q7]at h
 | d+1,0,_,_,Q,_=>ω
 | d+1,D+1,t,l,Q,h=>by
  intro w p o r hx C j;have U:=h;unfold q7 at h;cases g:P.underlying t with
  | none=>rw[g]at h;cases h
  | some k=>
   rw[g]at h;have one:∀c:Nat,l=[c]->∃a b,p=[a]/\o=[b]/\cat a=c/\cat b=c/\zT a b=some r:=by
    intro c M;subst M;have K:p.length=1:=by rw[<-KJ (f:=cat),hx];rfl
    have T:o.length=1:=by rw[<-KJ (f:=cat),C];rfl
    match p,o,K,T with
    | [a],[b],_,_=>refine⟨a,b,rfl,rfl,by simpa using hx,by simpa using C,?_⟩;simp only[vA]at j;split at j;rename_i x y S F;simp at F j;subst F;simp at j;rw[S,j];cases j
   cases k<;>first|(cases h;done)|skip
   case bool=>simp only[Q7]at h;obtain⟨a,b,rfl,rfl,v,u,m⟩:=one 1 h.symm;cases a<;>simp[cat]at v;cases b<;>simp[cat]at u;simp[zT]at m;subst m;simp[valOf,g,Q8,run_equalIn_bool' w D t _ _ g]
   case int q=>simp only[Q7]at h;obtain⟨a,b,rfl,rfl,v,u,m⟩:=one 0 h.symm;cases a<;>simp[cat]at v;cases b<;>simp[cat]at u;simp only[zT]at m;obtain⟨N,B⟩:=km m;have:=IntKind.oc N;subst this;simp only[Q7]at B;subst B;simp[valOf,g,Q8,run_equalIn_int w D t _ _ _ _ g]
   case string=>simp only[Q7]at h;obtain⟨a,b,rfl,rfl,v,u,m⟩:=one 2 h.symm;cases a<;>simp[cat]at v;cases b<;>simp[cat]at u;simp only[zT,Q7]at m;subst m;simp[valOf,g,Q8,run_equalIn_string w D t _ _ g]
   case array n e=>
    replace h:(match q7 P d e with|some l=>if P.cellsOf e=l.length then some (List.replicate n l).flatten else none|none=>none)=some l:=h;split at h;rename_i J s;split at h;rename_i R;simp only[Q7]at h;subst h;have I:∃i,P.info? e=some i:=by
     cases d with
     | zero=>simp[q7]at s
     | succ V=>
      unfold q7 at s;cases z:P.underlying e with
      | none=>rw[z]at s;cases s
      | some _=>exact info_of_underlying z
    obtain⟨i,O⟩:=I;have:=Qc8 s R (dH d D e J ω s) w n 0 p o r (zC hx) (zC C) σ σ (zC j);rw[<-List.range_eq_range']at this;simp only[valOf,g];rw[run_equalIn_array w D p.toArray o.toArray g O];exact this;cases h;cases h
   case struct E=>
    replace h:(if P.stoodInHeld t then none else OE P (q7 P d) E.toList 0)=some l:=h;split at h;cases h;rename_i L;have H:P.fieldsOf t=E:=by simp[Program.fieldsOf,g]
    simp only[valOf,g];rw[run_equalIn_struct w D t _ _ (by rw[H];exact g) (zC L),H];exact Qc7 d D (λt l h=>dH d D t l ω h) w E.toList 0 l p o r h (zC hx) (zC C) σ σ (zC j)
abbrev DB:=List (TypeId × List Nat)
def BY:DB->TypeId->Option (List Nat)
 | [],_=>none
 | (u,l)::r,t=>bif Nat.beq u t then some l else BY r t
structure oT (P:Program) (t:TypeId) (l:List Nat):Prop where
 shape:q7 P 60 t=some l
 guard:P.eqGuardType P.depth t=false
 agg:(match P.underlying t with|some (.struct _)|some (.array _ _)=>true|_=>false)=true
def AR(P:Program)(E:DB):Prop:=∀t l,BY E t=some l->oT P t l
def AR.nil(P):AR P []:=λ_ _ h=>by simp[BY]at h
def AR.cons{P E}{t:TypeId}{l}(h:oT P t l)(r:AR P E):AR P ((t,l)::E):=λu z e=>by
 simp only[BY]at e;by_cases a:t=u;subst a;simp at e;subst e;exact h;have:Nat.beq t u=false:=by rw[<-Yx,Wz];exact a
 rw[this]at e;exact r u z e
def Fj:List D->Option (List Value)
 | []=>some []
 | .raw v::r=>match Fj r with
  | some l=>some (v::l)
  | none=>none
 | _=>none
def LI:List Nat->List Nat->Bool
 | [],[]=>true
 | a::r,b::q=>Nat.beq a b&&LI r q
 | _,_=>false
def dI:∀{a b:List Nat},LI a b=true->a=b
 | [],[],_=>rfl
 | [],_::_,h=>by cases h
 | _::_,[],h=>by cases h
 | a::r,b::q,h=>by simp only[LI,ZM,Wz]at h;rw[h.1,dI h.2]
def dJ{h f w}:∀{d:List D} {l:List Value},Fj d=some l->∀(a:List Value),a.length=d.length->(∀i,i<d.length->QF Z h f w (nth d i) (Q8 a i))->a=l
 | [],l,e,a,b,_=>by simp[Fj]at e;subst e;exact List.eq_nil_of_length_eq_zero (zC b)
 | c::d,l,e,a,b,g=>by
  cases c<;>simp only[Fj,reduceCtorEq]at e;rename_i v;split at e;rename_i o m;simp only[Q7]at e;subst e;match a,b with
  | u::j,b=>have k:=JI (g 0 σ:QF Z h f w (.raw v) u);have:=dJ m j (zC b) (λi p=>by have:=g (i+1) ξ;simpa[nth,Q8] using this);have n:u=v:=k;rw[n,this]
  cases e
def dK(E:DB)(c:BinOp)(t:TypeId):D->D->Ev
 | .agg a,.agg b=>match BY E t,Fj a,Fj b with
  | some l,some x,some y=>bif LI (x.map cat) l&&LI (y.map cat) l then match vA x y with
   | some r=>match c with
    | .eql=>some (True,.raw (.bool r))
    | .neq=>some (True,.raw (.bool (!r)))
    | _=>none
   | none=>none
   else none
  | _,_,_=>none
 | _,_=>none
def Qo5{P E}(N:AR P E){g J s}{o:Oper}{u}{t F:TypeId}{x y}(B:o.op=.binOp u t x y F){p d}
  (h:dK E u t (Qr s.fr x) (Qr s.fr y)=some (p,d)):WL P g J o s d:=by
 intro Z pl a w r;have hx:=r.eval x;have K:=r.eval y;unfold dK at h;generalize Qr s.fr x=dx at *;generalize Qr s.fr y=dy at *;split at h;split at h;rename_i l xs ys M V U;obtain⟨k,b⟩:=km h;simp only[ZM]at k;have I:=dI k.1;have n:=dI k.2;split at b;rename_i q L;obtain⟨j,z,H,Y⟩:=Lw hx;obtain⟨i,v,S,T⟩:=Lw K;have R:=dJ V j H Y;have Q:=dJ U i S T;subst R;subst Q;obtain⟨W,C,f⟩:=N _ _ M;have e:∀c,(Op.equalIn 10000 t (.agg j.toArray) (.agg i.toArray)).run P c=.ok q c:=by intro c;have:=dH 60 10000 t l ω W c j i q I n L;unfold valOf at this;split at this;exact this;exact this;rename_i O b;split at f;rename_i m;exact absurd m (O _);rename_i m;exact absurd m (b _ _);cases f
 split at b;simp only[Q7,Zg]at b;obtain⟨rfl,rfl⟩:=b;refine⟨_,.cl _ _ (.raw _),λc _=>?_⟩;simp[execOp,B,z,v,run_eqGuard_agg c .eql t x y _ _ C,run_eql_struct,e];simp only[Q7,Zg]at b;obtain⟨rfl,rfl⟩:=b;refine⟨_,.cl _ _ (.raw _),λc _=>?_⟩;simp[execOp,B,z,v,run_eqGuard_agg c .neq t x y _ _ C,run_neq_struct,e];cases b;cases b;cases h;cases h
end Go.Fg
namespace Go.Fg
def VH(P:Program){c:Type}(m:Sem c):Prop:=∀w x a,m.run P w=.ok x a->a=w/\∀b,m.run P b=.ok x b
section
variable {P:Program}{α β:Type}
def VH.pure(a:α):VH P (pure a:Sem α):=λw x b h=>by simp at h;obtain⟨rfl,rfl⟩:=h;exact⟨rfl,λc=>σ⟩
def VH.never{m:Sem α}(b:∀w x a,m.run P w≠.ok x a):VH P m:=λw x a h=>absurd h (b w x a)
def VH.bind{m:Sem α}{k:α->Sem β}(l:VH P m)(j:∀a,VH P (k a)):VH P (m >>= k):=λw x f h=>by
 rw[Sem.run_bind]at h;cases b:m.run P w with
 | halt e c=>rw[b]at h;cases h
 | ok a c=>rw[b]at h;simp only[Result.andThen_ok]at h;obtain⟨rfl,i⟩:=l w a c b;obtain⟨rfl,g⟩:=j a _ x f h;exact⟨rfl,λd=>by rw[Sem.run_bind,i d];simp only[Result.andThen_ok];exact g d⟩
def VH.stuck(s:String):VH P (Go.stuck s:Sem α):=VH.never λw x a h=>by cases h
def VH.halt(e:Halt):VH P (.halt e:Sem α):=VH.never λw x a h=>by cases h
def VH.program:VH P program:=λw x a h=>by simp at h;obtain⟨rfl,rfl⟩:=h;exact⟨rfl,λb=>σ⟩
def VH.typeInfo(t):VH P (typeInfo t):=.bind .program λp=>by split;exact .pure _;exact .stuck _
def VH.underlying(t):VH P (underlying t):=.bind .program λp=>by split;exact .pure _;exact .stuck _
def VH.panic:VH P (runtimePanic .nilDeref:Sem α):=.bind .program λp=>.halt _
def VH.sizeOf(t):VH P (sizeOf t):=.bind (.typeInfo t) λ_=>.pure _
def VH.isAgg(t):VH P (isAgg t):=.bind (.underlying t) λd=>by split<;>exact .pure _
def VH.part(t a i):VH P (part t a i):=by
 unfold Go.part
 repeat' (first|exact .pure _|exact .stuck _|refine .bind (.isAgg _) λ_=>?_|refine .bind (.sizeOf _) λ_=>?_|refine .bind (.typeInfo _) λ_=>?_|refine .bind (.underlying _) λ_=>?_|split)
def VH.blind:∀(l:List FieldStep) (t:TypeId) (x:Option Value),VH P (Go.followBlind l t x)
 | [],_,_=>.pure _
 | s::r,t,x=>by
  unfold Go.followBlind
  repeat' (first|exact .pure _|exact .stuck _|exact VH.blind r _ _|refine .bind (.part _ _ _) λ_=>?_|refine .bind (.underlying _) λ_=>?_|split)
def VH.nilAhead:∀(n:Nat) (t:TypeId) (v:Value) (a:String),VH P (Go.nilAhead n t v a)
 | 0,_,_,_=>.pure _
 | n+1,t,v,a=>by
  unfold Go.nilAhead
  repeat' (first|exact .pure _|exact .stuck _|exact VH.nilAhead n _ _ _|refine .bind (.blind _ _ _) λ_=>?_|refine .bind (.typeInfo _) λ_=>?_|refine .bind (.underlying _) λ_=>?_|split)
def VH.nilCheck{o:Oper}{x}(b:o.op=.nilCheck x)(a):VH P (execOp a o):=by
 simp only[execOp,b]
 repeat' (first|exact .pure _|exact .stuck _|exact .panic|exact .halt _|(refine .bind (.halt _) λ_=>?_)|refine .bind (.nilAhead _ _ _ _) λ_=>?_|refine .bind .program λ_=>?_|split)
end
end Go.Fg
namespace Go.Fg
open Go.RowKit (Below)
open Go.Instr
def LJ(q:IntKind)(a:List MapEntry):Prop:=∀e∈a,∃n,e.key=.int q n
def dM{q k}:∀{a:List MapEntry} {i:Nat},LJ q a->(∀e∈a,e.key≠.int q k)->findNow (.int q) (.int q k) a i=some none
 | [],_,_,_=>rfl
 | e::a,i,h,c=>by
  obtain⟨n,d⟩:=h e (Jo ..);have f:(k==n)=false:=by rw[kh];rintro rfl;exact c e (Jo ..) d
  simp only[findNow,d,sameNow,Vu,f];exact dM (λe b=>h e (Js _ b)) (λe b=>c e (Js _ b))
def dN{q k}:∀{a:List MapEntry} {i0 i:Nat} {e:MapEntry},LJ q a->a[i]?=some e->e.key=.int q k->(∀(j:Nat) (b:MapEntry),j<i->a[j]?=some b->b.key≠.int q k) ->
  findNow (.int q) (.int q k) a i0=some (some (i0+i,e.val))
 | [],_,_,_,_,h,_,_=>by simp at h
 | x::a,i0,i,e,g,h,c,f=>by
  obtain⟨n,hx⟩:=g x (Jo ..);cases i with
  | zero=>
   simp at h;subst h;rw[hx]at c;obtain rfl:n=k:=by simpa using c
   simp[findNow,hx,sameNow]
  | succ i=>
   have l:(k==n)=false:=by rw[kh];rintro rfl;exact f 0 x ω rfl hx
   simp only[findNow,hx,sameNow,Vu,l];rw[dN (i0:=i0+1) (λe d=>g e (Js _ d)) (zC h) c (λj b m d=>f (j+1) b ω (zC d))];simp;omega
section
variable {P:Program}{w:World}{q:IntKind}{k:Int}
def Hh{a:TypeId}(b:P.underlying a=some (.int q))(c n):(checkKey c (n+1) a (.int q k)).run P w=.ok () w:=by simp[checkKey,underlying,b]
def LK{a:TypeId}(b:P.underlying a=some (.int q)){es:List MapEntry}{r}(h:findNow (.int q) (.int q k) es 0=some r):(findKey a (.int q k) es).run P w=.ok r w:=by simp[findKey,underlying,b,h]
def BZ{e:Type}{b d a}(f:w.heap[b]?=some (.map d a))(c:Obj->Sem e):(Sem.getObj b c).run P w=(c (.map d a)).run P w:=by simp only[Sem.run,f]
def SO{d:Type}{b f a}(e:w.heap[b]?=some (.map f a))(o:Obj)(c:Sem d):(Sem.setObj b o c).run P w=c.run P { w with heap:=w.heap.setIfInBounds b o }:=by simp only[Sem.run,e]
def Qo7{f g y:TypeId}{b}{c:Array MapEntry}{a}(p:P.underlying f=some (.map g y))(l:P.underlying g=some (.int q))(o:w.heap[b]?=some (.map c a))(t:LJ q c.toList)
  {i:Nat} {e:MapEntry} (m:c[i]?=some e) (n:e.key=.int q k) (r:∀(j:Nat) (d:MapEntry),j<i->c[j]?=some d->d.key≠.int q k) (v:Value) :
  (mapUpdate f (.map (some b)) (.int q k) v).run P w=.ok () { w with heap:=w.heap.setIfInBounds b (.map (c.modify i λe=>{ e with key:=.int q k,val:=v }) a) }:=by
 have h:=dN (i0:=0) t (zC m) n (λj d s z=>r j d s (zC z));have x:=LK (P:=P) (w:=w) l h;have u:=Hh (P:=P) (w:=w) (k:=k) l false 9999;simp[mapUpdate,underlying,p,getObj,BZ o,x,u,m,n,keyThatStays,sameBits,setObj,SO o]
def Qo8{d f p:TypeId}{b}{c:Array MapEntry}{a}(j:P.underlying d=some (.map f p))(g:P.underlying f=some (.int q))(h:w.heap[b]?=some (.map c a))(m:LJ q c.toList)
  (l:∀e∈c.toList,e.key≠.int q k) (v:Value) :
  (mapUpdate d (.map (some b)) (.int q k) v).run P w=.ok () { w with heap:=w.heap.setIfInBounds b (.map (c.push { key:=.int q k,val:=v,born:=a }) (a+1)) }:=by
 have o:=LK (P:=P) (w:=w) g (dM (i:=0) m l);have n:=Hh (P:=P) (w:=w) (k:=k) g false 9999;simp[mapUpdate,underlying,j,getObj,BZ h,o,n,setObj,SO h]
def Qo9{f g x ty kt2:TypeId}{b}{c:Array MapEntry}{a}(n:P.underlying f=some (.map g x))(l:P.underlying g=some (.int q))(m:w.heap[b]?=some (.map c a))(t:LJ q c.toList)
  {i:Nat} {e:MapEntry} (r:c[i]?=some e) (s:e.key=.int q k) (o:∀(j:Nat) (d:MapEntry),j<i->c[j]?=some d->d.key≠.int q k) :
  (Builtin.delete_ #[f,kt2] ty #[.map (some b),.int q k]).run P w=.ok (.tuple #[]) { w with heap:=w.heap.setIfInBounds b (.map (c.eraseIdxIfInBounds i) a) }:=by
 have h:=dN (i0:=0) t (zC r) s (λj d p y=>o j d p (zC y));have v:=LK (P:=P) (w:=w) l h;have u:=Hh (P:=P) (w:=w) (k:=k) l c.isEmpty 9999;simp[Builtin.delete_,underlying,n,getObj,BZ m,v,u,setObj,SO m]
def Qpa{d f p ty kt2:TypeId}{b}{c:Array MapEntry}{a}(j:P.underlying d=some (.map f p))(g:P.underlying f=some (.int q))(h:w.heap[b]?=some (.map c a))(m:LJ q c.toList)
  (l:∀e∈c.toList,e.key≠.int q k) :
  (Builtin.delete_ #[d,kt2] ty #[.map (some b),.int q k]).run P w=.ok (.tuple #[]) { w with heap:=w.heap.setIfInBounds b (.map c a) }:=by
 have o:=LK (P:=P) (w:=w) g (dM (i:=0) m l);have n:=Hh (P:=P) (w:=w) (k:=k) g c.isEmpty 9999;simp[Builtin.delete_,underlying,j,getObj,BZ h,o,n,setObj,SO h]
def Qpb{c d g:TypeId}{b h a}(e:P.underlying c=some (.map d g))(f:w.heap[b]?=some (.map h a)):
  (Instr.range c (.map (some b))).run P w=.ok (.pointer (some ⟨w.heap.size,0,none⟩)) { w with heap:=w.heap.push (.mapIter (some b) a #[] a) }:=by
 simp[Instr.range,underlying,e,getObj,BZ f,newObj,Sem.run]
end
def Tr.LM{Z:Nat->Prop}{d:Nat}{h:List Ob}{f:List Pl}{w w':World}(R:Zo Z d h f w){l:Nat}{o o':Ob}{b:Nat}(n:h[l]?=some o)(v:f[l]?=some (some (b,0)))(e:∀c,c≠b->w'.heap[c]? = w.heap[c]?)
  (z:o'.gen=o.gen) (x:o'.kd.ty=o.kd.ty) (u:o'.sz=o.sz) (j:∀c el,w.heap[b]?≠some (.cells c el (0,0))):Tr h f w (h.set l o') f w' where
 Kz:=λc a _=>⟨a,e c (λh=>by subst h;exact a l 0 v)⟩
 obj:=λm k p g i=>by by_cases r:l=m;subst r;rw[n]at g;cases g;exact⟨o',p,Xi (KL n),i,ω,x,λ_=>⟨u,rfl⟩⟩;exact⟨k,p,by rw[JT r];exact g,i,Qv _,rfl,λ_=>⟨rfl,rfl⟩⟩
 shape:=λm k y c q g i _ B t el a=>by by_cases s:c=b;subst s;exact absurd a (j t el);exact⟨t,by rw[e c s];exact a,rfl⟩
def Zo.LM{Z:Nat->Prop}{d:Nat}{h:List Ob}{g:List Pl}{w w':World}(R:Zo Z d h g w){l:Nat}{o o':Ob}{b:Nat}(s:h[l]?=some o)(n:g[l]?=some (some (b,0)))(e:∀c,c≠b->w'.heap[c]? = w.heap[c]?)
  (T:Tr h g w (h.set l o') g w') (t:KK Z (h.set l o') g w' o' b 0) (hro:o'.kd.ro=o.kd.ro):Zo Z d (h.set l o') g w' where
 len:=by rw[Ky];exact R.len
 inj:=R.inj
 V7:=λk p f a=>by by_cases m:l=k;subst m;rw[n]at a;cases a;rw[JT m]at f;exact R.V7 k p f a
 at_:=λk p c q f a=>by
  by_cases m:l=k;subst m;rw[Xi (KL s)]at f;cases f;rw[n]at a;cases a;exact⟨λr=>(R.at_ l o b 0 s n).1 (by rw[<-hro,r]),t⟩;rw[JT m]at f;obtain⟨y,x⟩:=R.at_ k p c q f a;have u:c≠b:=λh=>by subst h;exact m (R.inj l k c 0 q n a)
  exact⟨y,x.to rfl rfl rfl (e c u) (λ_ _=>rfl) λi j v _ _ r=>r.tr T⟩
structure ZL where
 k:Int
 v:D
 b:Nat
def AS(q:IntKind)(c:Nat)(a:List ZL):Nat->List D
 | 0=>[.raw (.int .i64 c),.undef,.undef]
 | r+1=>match a[r]? with
  | some e=>[.raw (.int q e.k),e.v,.raw (.int .i64 e.b)]
  | none=>[.undef,.undef,.undef]
def WB(b:Kd)(q:IntKind)(c:Nat)(a:List ZL):Ob:=⟨b,0,3,a.length+1,AS q c a⟩
def QT(q:IntKind)(c:Nat)(a:List ZL):Ob:=WB .map q c a
def Je:List ZL->Int->Option D
 | [],_=>none
 | e::r,k=>if e.k=k then some e.v else Je r k
def ku:List ZL->Int->D->List ZL
 | [],_,_=>[]
 | e::r,k,v=>if e.k=k then ⟨k,v,e.b⟩::r else e::ku r k v
def J9:List ZL->Int->List ZL
 | [],_=>[]
 | e::r,k=>if e.k=k then r else e::J9 r k
def Kb(q:IntKind)(c:Nat)(a:List ZL)(k:Int)(v:D):Ob:=match Je a k with
 | some _=>QT q c (ku a k v)
 | none=>QT q (c+1) (a++[⟨k,v,c⟩])
def Hi:D->Int
 | .raw (.int _ n)=>n
 | _=>0
def clockOf(o:Ob):Nat:=(Hi (nth (o.row 0) 0)).toNat
def DD(o:Ob):List ZL:=(List.range (o.n-1)).map λi=>⟨Hi (nth (o.row (i+1)) 0),nth (o.row (i+1)) 1,(Hi (nth (o.row (i+1)) 2)).toNat⟩
def Ob.ro(o:Ob):Ob:=⟨o.kd.toRo,o.gen,o.sz,o.n,o.row⟩
def IsMap(q:IntKind)(o:Ob):Prop:=o.kd.ty=1/\o=WB o.kd q (clockOf o) (DD o)
theorem Qdc(a:Kd)(q c b):clockOf (WB a q c b)=c:=by simp[clockOf,WB,AS,nth,Hi]
theorem oW(q c a):clockOf (QT q c a)=c:=Qdc _ _ _ _
theorem Qdd(b:Kd)(q c a):DD (WB b q c a)=a:=by apply AA;intro i;simp only[DD,WB,AS,cu,KR];by_cases h:i<a.length;simp[nth,Hi,h];rw[EW (zC h)];simp[h]
theorem oX(q c a):DD (QT q c a)=a:=Qdd _ _ _ _
theorem Qde(q c a):IsMap q (QT q c a)=True:=by refine eq_true ⟨rfl,?_⟩;exact(by rw[oW,oX];rfl)
theorem oY(o:Ob):clockOf o.ro=clockOf o:=rfl
theorem Qdf(o:Ob):DD o.ro=DD o:=rfl
theorem Qpd(q)(o:Ob):IsMap q o.ro=IsMap q o:=by obtain⟨k,g,z,n,r⟩:=o;simp only[IsMap,oY,Qdf];simp only[Ob.ro,WB,Kd.toRo_ty,Ob.mk.injEq,yz]
theorem Qpe(q c)(a:List ZL):(QT q c a).kd=.map:=rfl
theorem Qpf(q c)(a:List ZL):(QT q c a).n=a.length+1:=rfl
theorem Qpg(q c)(a:List ZL):(QT q c a).gen=0:=rfl
theorem dO(o:Ob):o.ro.kd=o.kd.toRo:=rfl
theorem Qph(o:Ob):o.ro.n=o.n:=rfl
theorem Qpi(o:Ob):o.ro.gen=o.gen:=rfl
def IsMap.get{q}{o:Ob}(h:IsMap q o):∃a c b,a.ty=1/\o.kd=a/\clockOf o=c/\DD o=b/\o=WB a q c b:=⟨_,_,_,h.1,rfl,rfl,rfl,h.2⟩
def dP:∀{b:List ZL} {k:Int} {v:D},Je b k=some v->∃(j:Nat) (e:ZL),b[j]?=some e/\e.k=k/\e.v=v/\(∀(i:Nat) (c:ZL),i<j->b[i]?=some c->c.k≠k)/\(∀u,ku b k u=b.set j ⟨k,u,e.b⟩)/\J9 b k=b.eraseIdx j
 | [],_,_,h=>by simp[Je]at h
 | e::r,k,v,h=>by
  simp only[Je]at h;by_cases a:e.k=k;rw[Qe a]at h;cases h;exact⟨0,e,rfl,a,rfl,λi _ d=>absurd d (Yy i),λu=>by simp[ku,a],by simp[J9,a]⟩;rw[Qd a]at h;obtain⟨j,c,o,n,m,l,g,f⟩:=dP h;refine⟨j+1,c,by simpa using o,n,m,λi x d hx=>?_,λu=>by simp[ku,a,g u],by simp[J9,a,f]⟩;cases i with
  | zero=>simp at hx;subst hx;exact a
  | succ i=>exact l i x ω (zC hx)
def SQ:∀{a:List ZL} {k:Int},Je a k=none->(∀e∈a,e.k≠k)/\(∀u,ku a k u=a)/\J9 a k=a
 | [],_,_=>⟨σ,λ_=>rfl,rfl⟩
 | e::r,k,h=>by
  simp only[Je]at h;by_cases b:e.k=k;rw[Qe b]at h;cases h;rw[Qd b]at h;obtain⟨f,d,c⟩:=SQ h;exact⟨λx hx=>by rcases QK.1 hx with rfl|h;exact b;exact f x h,λu=>by simp[ku,b,d u],by simp[J9,b,c]⟩
def Qdg:∀{c:List ZL} {k:Int} (v:D) (a:Int),Je (ku c k v) a=if a=k then (Je c k).map (λ_=>v) else Je c a
 | [],k,v,a=>by simp[ku,Je]
 | e::r,k,v,a=>by by_cases h:e.k=k;simp only[ku,Qe h,Je];by_cases b:k=a;simp[b];rw[Qd b,Qd (λe=>b e.symm),Qd (by rw[h];exact b)];simp only[ku,Qd h,Je];rw[Qdg v a];by_cases b:a=k;subst b;simp[h];simp[b]
def Qdh:∀(b a:List ZL) (k:Int),Je (b++a) k=(Je b k).or (Je a k)
 | [],_,_=>by simp[Je]
 | e::r,a,k=>by by_cases h:e.k=k;simp[Je,h];simp[Je,h,Qdh r a k]
def Qdi(q c b k v):∃g e,Kb q c b k v=QT q g e/\∀a,Je e a=if a=k then some v else Je b a:=by
 unfold Kb;cases h:Je b k with
 | some d=>refine⟨c,ku b k v,rfl,λa=>?_⟩;rw[Qdg,h];rfl
 | none=>refine⟨c+1,b++[⟨k,v,c⟩],rfl,λa=>?_⟩;rw[Qdh];by_cases f:a=k;subst f;simp[h,Je];rw[Qd f];cases Je b a<;>simp[Je,Zb f]
def Yj(a:List ZL):Prop:=(a.map (·.k)).Nodup
structure vB (Z:Nat->Prop) (h:List Ob) (pl:List Pl) (w:World) (q:IntKind) (c:Nat) (es:List ZL) (QW:List MapEntry):Prop where
 len:es.length=QW.length
 at_:∀(i:Nat) (e:ZL) (a:MapEntry),es[i]?=some e->QW[i]?=some a->a.key=.int q e.k/\QF Z h pl w e.v a.val/\a.born=e.b/\a.born<c
 inc:∀(i j:Nat) (a a':MapEntry),i<j->QW[i]?=some a->QW[j]?=some a'->a.born<a'.born
def oZ{Z h e}{w:World}{q c d b}{k:Array MapEntry}(n:w.heap[b]?=some (.map k c))(E:vB Z h e w q c d k.toList){kd:Kd}(u:kd.ty=1):KK Z h e w (WB kd q c d) b 0:=by
 refine KK.ofMap u ⟨rfl,rfl,k,c,n,by have:=E.len;simp at this;simp[WB,this],λi _=>?_,.cl _ _ (.raw _),λi a m=>?_,λi j a s t g f=>E.inc i j a s t (zC g) (zC f)⟩;show (AS q c d i).length=3;cases i with
 | zero=>rfl
 | succ i=>simp only[AS];split<;>rfl
 have Qb:=(W0.1 m).1;have l:i<d.length:=by have:=E.len;simp at this;omega
 obtain⟨g,f,p,o⟩:=E.at_ i d[i] a (QH l) (zC m);have r:AS q c d (i+1)=[.raw (.int q d[i].k),d[i].v,.raw (.int .i64 d[i].b)]:=by simp[AS,l]
 show _/\QF Z h e w (nth (AS q c d (i+1)) 0) _/\QF Z h e w (nth (AS q c d (i+1)) 1) _/\QF Z h e w (nth (AS q c d (i+1)) 2) _;rw[r];exact⟨o,by rw[g];exact .cl _ _ (.raw _),f,by rw[p];exact .cl _ _ (.raw _)⟩
def dQ{Z h l}{w:World}{q c g b p}{k:Kd}(N:k.ty=1)(x:KK Z h l w (WB k q c g) b p):p=0/\∃f:Array MapEntry,w.heap[b]?=some (.map f c)/\vB Z h l w q c g f.toList:=by
 obtain⟨H,_,f,d,F,E,_,C,B,z⟩:=x.map N;have u:d=c:=by have:=JI C;simp at this;omega
 subst u;have s:g.length=f.size:=by simpa[WB] using E
 refine⟨H,f,F,by simpa using s,λi e a t v=>?_,λi j a L M J I=>z i j a L M (zC J) (zC I)⟩;obtain⟨r,o,n,m⟩:=B i a (zC v);have K:(WB k q d g).row (i+1)=[.raw (.int q e.k),e.v,.raw (.int .i64 e.b)]:=by simp[WB,AS,t]
 rw[K]at o n m;have:=JI o;have y:=JI m;refine⟨this,n,?_,r⟩;simp at y;omega
def vB.keys{Z h f w q c b e}(E:vB Z h f w q c b e):LJ q e:=λa g=>by
 obtain⟨i,d⟩:=GY g;have Qb:i<b.length:=by rw[E.len];exact(Xh.1 d).1
 exact⟨_,(E.at_ i b[i] a (QH Qb) d).1⟩
def vB.XZ{Z h l w q c}{d:List ZL}{b:Array MapEntry}(E:vB Z h l w q c d b.toList){k j}{e:ZL}(g:d[j]?=some e)(o:e.k=k)(n:∀(i:Nat) (f:ZL),i<j->d[i]?=some f->f.k≠k):
  ∃a,b[j]?=some a/\a.key=.int q k/\QF Z h l w e.v a.val/\a.born=e.b/\a.born<c/\∀(i:Nat) (f:MapEntry),i<j->b[i]?=some f->f.key≠.int q k:=by
 have Qb:j<b.toList.length:=by rw[<-E.len];exact(Xh.1 g).1
 obtain⟨u,t,s,r⟩:=E.at_ j e b.toList[j] g (QH Qb);refine⟨b.toList[j],σ,by rw[u,o],t,s,r,λi x z y=>?_⟩;have m:i<d.length:=by have:=(Xh.1 g).1;omega
 obtain⟨v,_⟩:=E.at_ i d[i] x (QH m) (zC y);rw[v];intro p;exact n i _ z (QH m) (zC p)
def vB.Fk{Z h g w q c b f}(E:vB Z h g w q c b f){k}(j:∀e∈b,e.k≠k):∀a∈f,a.key≠.int q k:=λa m=>by
 obtain⟨i,d⟩:=GY m;have Qb:i<b.length:=by rw[E.len];exact(Xh.1 d).1
 rw[(E.at_ i b[i] a (QH Qb) d).1];intro l;exact j _ (XK Qb) (zC l)
def vB.tr{Z h f d j w b}(T:Tr h d w f j b){q c g k}(E:vB Z h d w q c g k):vB Z f j b q c g k:=
 ⟨E.len,λi e a m l=>let ⟨p,o,n⟩:=E.at_ i e a m l;⟨p,o.tr T,n⟩,E.inc⟩
section
variable {P:Program}{L:Jt}{base nt:Nat}{s:St}{o:Oper}{q:IntKind}{t kt et:TypeId}{x i:Operand}{l g n:Nat}{ob:Ob}{k:Int}
def dS{Z e a w}(r:Rel Z base nt s e a w){c j}{kd:Kd}(z:kd.ty=1)(C:Qr s.fr x=.mref l 0)(y:s.h[l]?=some (WB kd q c j)):
  ∃b d,a.eval x=.map (some b)/\e[l]?=some (some (b,0))/\(kd.ro=false->base<=b)/\w.heap[b]?=some (.map d c)/\vB Z s.h e w q c j d.toList:=by
 have v:=r.eval x;rw[C]at v;obtain⟨J,p,b,u,h,H,K,f⟩:=G3 v;rw[y]at u;cases u;have f:=f rfl;rw[f]at h;obtain⟨I,B⟩:=r.o.at_ l _ b 0 y h;obtain⟨_,d,F,E⟩:=dQ z B;have m:=H.2;have:(WB kd q c j).kd.ty=1:=z;rw[this]at m;exact⟨b,d,m,h,I,F,E⟩
def dU{Z}{f:List Pl}{a}{w:World}(r:Rel Z base nt s f a w){c z}(u:s.h[l]?=some (QT q c z)){b}(m:f[l]?=some (some (b,0)))(B:base<=b){C}(p:w.heap[b]?=some (.map C c))
  {c':Nat} {es':List ZL} {ens':Array MapEntry} (E:∀v d,Tr s.h f w (s.h.set l (QT q c' es')) v d->vB Z (s.h.set l (QT q c' es')) v d q c' es' ens'.toList) :
  ∃d,d={ w with heap:=w.heap.setIfInBounds b (.map ens' c') }/\Tr s.h f w (s.h.set l (QT q c' es')) f d/\Zo Z base (s.h.set l (QT q c' es')) f d/\Below base w d:=by
 have H:=vq p;generalize j:({ w with heap:=w.heap.setIfInBounds b (.map ens' c') }:World)=d;have e:∀c,c≠b->d.heap[c]? = w.heap[c]? := λc y=>by rw[<-j];simp[Zb y]
 have F:d.heap[b]?=some (.map ens' c'):=by rw[<-j];simp[H]
 have T:=Tr.LM (w':=d) r.o u m e (o':=QT q c' es') rfl rfl rfl (by rw[p];intro c el h;cases h);exact⟨d,rfl,T,Zo.LM (hro:=rfl) r.o u m e T (oZ F (E f d T) rfl),OA B e (by rw[<-j];simp) (by rw[<-j]) (by rw[<-j]) (by rw[<-j])⟩
def Qpj(p:Jm P L){u m y:Ty}(T:ty L t=some u)(YB:u.k=.map kt et)(C:ty L kt=some m)(B:m.k=.int q)(W7:ty L et=some y)
  {Z:Nat->Prop} {h:List Ob} {F:List Pl} {w:World} {b c:Nat} {r:List ZL} {K:Array MapEntry} (Q:w.heap[b]?=some (.map K c)) (E:vB Z h F w q c r K.toList) (M:Bool) :
  ∃v,QF Z h F w (match Je r k with|some d=>d|none=>Dt y) v/\∀f:World,f.heap[b]? = w.heap[b]? ->
   (lookup t (.map (some b)) (.int q k) M).run P f=.ok (if M then .tuple #[v,.bool (Je r k).isSome] else v) f:=by
 have R:=λw:World=>Hh (P:=P) (w:=w) (k:=k) (Dr (p kt m C) B) K.isEmpty 9999;have hx:=Fa (p t u T) YB;cases O:Je r k with
 | some d=>obtain⟨j,e,J,Y,W,V,_⟩:=dP O;obtain⟨a,a1,a2,a3,a4,a5,a6⟩:=E.XZ J Y V;refine⟨a.val,by rw[<-W];exact a3,λf H=>?_⟩;have h:=dN (i0:=0) E.keys (zC a1) a2 (λj e' U W8=>a6 j e' U (zC W8));have I:=LK (P:=P) (w:=f) (Dr (p kt m C) B) h;simp[lookup,underlying,hx,getObj,BZ (H.trans Q),I,R]
 | none=>obtain⟨J,_⟩:=SQ O;obtain⟨z,hz,S⟩:=og (p et y W7) (N:=free Z F) w;refine⟨z,.cl _ _ hz,λf H=>?_⟩;have I:=LK (P:=P) (w:=f) (Dr (p kt m C) B) (dM (i:=0) E.keys (E.Fk J));simp[lookup,underlying,hx,getObj,BZ (H.trans Q),I,R,S f]
def Qpk(c:Jm P L){d b e:Ty}(p:ty L t=some d)(B:d.k=.map kt et)(h:ty L kt=some b)(f:b.k=.int q)(C:ty L et=some e)
  {N:Nat->Prop} {w:World} (j:Bool):∃v,Cl N w (Dt e) v/\∀a:World,(lookup t (.map none) (.int q k) j).run P a=.ok (if j then .tuple #[v,.bool false] else v) a:=by
 obtain⟨z,hz,m⟩:=og (c et e C) (N:=N) w;refine⟨z,hz,λa=>?_⟩;have u:=Hh (P:=P) (w:=a) (k:=k) (Dr (c kt b h) f) true 9999;have y:=LK (P:=P) (w:=a) (k:=k) (Dr (c kt b h) f) (es:=[]) (r:=none) rfl;simp[lookup,underlying,Fa (c t d p) B,y,u,m a]
def dV(L:Jt)(h:List Ob)(t:TypeId)(x i:D)(b:Bool):Ev:=match ty L t with
 | some ⟨.map kt et,_,_,_⟩=>match ty L kt,ty L et with
  | some ⟨.int q,_,_,_⟩,some a=>match i with
   | .raw (.int c k)=>match x with
    | .mref l g=>match h[l]? with
     | some o=>some (IsMap q o/\c=q/\g=0,match Je (DD o) k with
      | some d=>bif b then .tup [d,.raw (.bool true)] else d
      | none=>bif b then .tup [Dt a,.raw (.bool false)] else Dt a)
     | none=>none
    | .raw (.map none)=>some (c=q,bif b then .tup [Dt a,.raw (.bool false)] else Dt a)
    | _=>none
   | _=>none
  | _,_=>none
 | _=>none
def look_ok(O:Jm P L){z}(C:o.op=.lookup t x i z){p d}(h:dV L s.h t (Qr s.fr x) (Qr s.fr i) z=some (p,d))(K:p):WL P base nt o s d:=by
 intro Z S a w r;unfold dV at h;split at h;case h_2=>cases h
 rename_i kt et m1 m2 m3 J;split at h;case h_2=>cases h
 rename_i q n1 n2 n3 W I Q;split at h;case h_2=>cases h
 rename_i Y k B;have u:=r.eval i;rw[B]at u;have u:=JI u;split at h;case h_3=>cases h
 case h_2 hx=>
  simp only[Q7,Zg]at h;obtain⟨rfl,rfl⟩:=h;subst K;have f:=r.eval x;rw[hx]at f;have f:=JI f;obtain⟨v,m,y⟩:=Qpk (k:=k) O J rfl I rfl Q (N:=free Z S) (w:=w) z;cases z with
  | false=>exact⟨v,.cl _ _ m,λe j=>by simp[execOp,C,f,u,y e]⟩
  | true=>
   refine⟨.tuple #[v,.bool false],.tup _ [v,.bool false] rfl (λi B=>match i,B with
    | 0,_=>.cl _ _ m
    | 1,_=>.cl _ _ (.raw _)),λe j=>by simp[execOp,C,f,u,y e]⟩
 case h_1 l g hx=>
  split at h;case h_2=>cases h
  rename_i ob U;simp only[Q7,Zg]at h;obtain⟨rfl,rfl⟩:=h;obtain⟨H,rfl,rfl⟩:=K;obtain⟨kd,c,T,V,_,_,R,H⟩:=H.get;rw[R];subst H;obtain⟨b,QW,f,_,_,F,E⟩:=dS r V hx U;obtain⟨v,m,y⟩:=Qpj (k:=k) O J rfl I rfl Q F E z;cases M:Je T k with
  | some d=>
   rw[M]at m y;cases z with
   | false=>exact⟨v,m,λe j=>by simp[execOp,C,f,u,y e (j b (vq F))]⟩
   | true=>
    refine⟨.tuple #[v,.bool true],.tup _ [v,.bool true] rfl (λi B=>match i,B with
     | 0,_=>m
     | 1,_=>.cl _ _ (.raw _)),λe j=>by simp[execOp,C,f,u,y e (j b (vq F))]⟩
  | none=>
   rw[M]at m y;cases z with
   | false=>exact⟨v,m,λe j=>by simp[execOp,C,f,u,y e (j b (vq F))]⟩
   | true=>
    refine⟨.tuple #[v,.bool false],.tup _ [v,.bool false] rfl (λi B=>match i,B with
     | 0,_=>m
     | 1,_=>.cl _ _ (.raw _)),λe j=>by simp[execOp,C,f,u,y e (j b (vq F))]⟩
def dW(L:Jt)(h:List Ob)(t:TypeId)(x:D):Ev:=match ty L t with
 | some ⟨.map _ _,_,_,_⟩=>match x with
  | .mref l g=>match h[l]? with
   | some o=>some (o.kd.ty=1/\g=o.gen,.raw (.int .i64 ((o.n-1:Nat):Int)))
   | none=>none
  | .raw (.map none)=>some (True,.raw (.int .i64 0))
  | _=>none
 | _=>none
def Qpl(M:Jm P L){F:Array TypeId}(y:o.op=.call ⟨.builtin .len,#[x],F⟩)(S:F=#[t]){p d}(h:dW L s.h t (Qr s.fr x)=some (p,d))(K:p):WL P base nt o s d:=by
 subst S;intro Z T a w r;unfold dW at h;split at h;case h_2=>cases h
 rename_i kt et Y W V J;have v:=Fa (M t _ J) rfl;have e:=r.eval x;split at h;case h_3=>cases h
 case h_2 hx=>simp only[Q7,Zg]at h;obtain⟨rfl,rfl⟩:=h;rw[hx]at e;have e:=JI e;refine⟨.int .i64 0,.cl _ _ (.raw _),λj m=>?_⟩;rw[vu y];simp[e,builtin,Builtin.len_,underlying,v,goInt]
 case h_1 l g hx=>
  split at h;case h_2=>cases h
  rename_i ob H;simp only[Q7,Zg]at h;obtain⟨rfl,rfl⟩:=h;obtain⟨z,rfl⟩:=K;rw[hx]at e;obtain⟨U,p,b,E,C,O,h4,f⟩:=G3 e;rw[H]at E;cases E;have f:=f rfl;rw[f]at C;obtain⟨ZF,I⟩:=r.o.at_ l _ b 0 H C;obtain⟨_,_,R,c,B,N,_⟩:=I.map z;have u:=O.2;rw[z]at u;refine⟨.int .i64 ((ob.n-1:Nat):Int),.cl _ _ (.raw _),λj m=>?_⟩;rw[vu y];have Q:j.heap[b]?=some (.map R c):=by rw[m b (vq B)];exact B
  simp[u,SB,builtin,Builtin.len_,underlying,v,getObj,BZ Q,N,goInt]
def OF(L:Jt)(h:List Ob)(t:TypeId):Option (Prop × List Ob × D):=match ty L t with
 | some ⟨.map kt _,_,_,_⟩=>match ty L kt with
  | some ⟨.int q,_,_,_⟩=>some (True,h++[QT q 0 []],.mref h.length 0)
  | _=>some (True,h++[QT .i64 0 []],.mref h.length 0)
 | _=>none
def Qdj(H:Jm P L){u}(C:u=none\/∃k n,u=some (.const (.int k n))/\0<=n)(z:o.op=.makeMap t u){p y d}(h:OF L s.h t=some (p,y,d)):ko P base nt o s y d:=by
 have E:∃q,p=True/\y=s.h++[QT q 0 []]/\d=.mref s.h.length 0/\∃kt m a b c,ty L t=some ⟨.map kt m,a,b,c⟩:=by
  unfold OF at h;split at h;case h_2=>cases h
  rename_i kt m _ _ _ v;split at h;all_goals
   simp only[Q7,Zg]at h;obtain⟨rfl,rfl,rfl⟩:=h;exact⟨_,rfl,rfl,rfl,_,_,_,_,_,v⟩
 obtain⟨q,rfl,rfl,rfl,kt,m,_,_,_,v⟩:=E;intro Z f a w r B;have e:∀b,b<w.heap.size->(w.alloc (.map #[] 0)).heap[b]? = w.heap[b]? := λb F=>xK w _ b F;have J:(w.alloc (.map #[] 0)).heap[w.heap.size]?=some (.map #[] 0):=heap_alloc_new w _;have T:Tr s.h f w (s.h++[QT q 0 []]) (f++[some (w.heap.size,0)]) (w.alloc (.map #[] 0)):=Tr.push r.o e _ _ (by intro b q h;simp at h;omega);have I:f.length=s.h.length:=r.o.len;refine⟨.map (some w.heap.size),w.alloc (.map #[] 0),f++[some (w.heap.size,0)],.inl ?_,T,?_,?_,Fe B _,λ_=>e⟩;rcases C with rfl|⟨k,n,rfl,K⟩;simp[execOp,z,makeMap];simp[execOp,z,makeMap,Act.eval,underlying,Fa (H t _ v) rfl,asInt,asIntOf];exact Zo.SD r.o e _ (Qv _) B (oZ (kd:=.map) J ⟨rfl,λi e a h=>by simp at h,λi j a M _ h=>by simp at h⟩ rfl);exact .mref _ _ (QT q 0 []) (some (w.heap.size,0)) w.heap.size σ (by rw[<-I];simp) ⟨by simp[QT,WB,Kd.ty],rfl⟩ (Qv _) (λ_=>rfl)
def Hj(L:Jt)(h:List Ob)(t:TypeId)(x i v:D):Option (Prop × List Ob):=match ty L t with
 | some ⟨.map kt _,_,_,_⟩=>match ty L kt with
  | some ⟨.int q,_,_,_⟩=>match x,i with
   | .mref l g,.raw (.int a k)=>match h[l]? with
    | some o=>some (IsMap q o/\a=q/\g=0/\o.kd.ro=false,h.set l (Kb q (clockOf o) (DD o) k v))
    | none=>none
   | _,_=>none
  | _=>none
 | _=>none
def Qdk{w:World}{b f c}(d:w.heap[b]?=some (.map f c))(o:Obj):kj w { w with heap:=w.heap.setIfInBounds b o }:=λa v h=>by by_cases e:a.block=b;simp[World.cell?,e,d]at h;rw[World.cell?_of_block (w:=w)];exact h;simp[Zb e]
def Qdl(hL:Jm P L){v}(ho:o.op=.mapUpdate t x i v){p h'}(h:Hj L s.h t (Qr s.fr x) (Qr s.fr i) (Qr s.fr v)=some (p,h'))(hp:p):∀(Z:Nat->Prop) R a w,Rel Z base nt s R a w->base<=w.heap.size->∃v u V,((execOp a.eval o).run P w=.ok (.value v) u\/((execOp a.eval o).run P w=.ok .skip u/\v=Go.undef))/\Tr s.h R w h' V u/\Zo Z base h' V u/\QF Z h' V u .undef v/\Below base w u/\kj w u:=by
 unfold Hj at h;split at h;case h_2=>cases h
 split at h;case h_2=>cases h
 rename_i kt et _ _ _ ht _ q _ _ _ wK;split at h;case h_2=>cases h
 rename_i l g f k hx hi;split at h;case h_2=>cases h
 rename_i ob Zm;simp only[Q7,Zg]at h;obtain⟨rfl,rfl⟩:=h;obtain⟨J,rfl,rfl,W⟩:=hp;obtain⟨kd,c,C,JU,yH,JV,wL,J⟩:=J.get;rw[wL,JV];have Qf:kd=.map:=by rw[yH]at W;cases kd<;>first|rfl|(exfalso;revert JU;decide)|(exfalso;revert W;decide)
 subst Qf;rw[show WB .map f c C=QT f c C from rfl]at J;subst J;intro Z R a w r Vb;have U:=r.eval i;rw[hi]at U;have U:=JI U;have e3:=r.eval v;obtain⟨b,F,e1,h2,ZF,N,E⟩:=dS (kd:=.map) r rfl hx Zm;have ZF:=ZF rfl;have Hl:=Fa (hL t _ ht) rfl;have ZO:=Dr (hL kt _ wK) rfl;cases Y:Je C k with
 | some d=>
  obtain⟨j,e,g1,g2,g3,g4,g5,_⟩:=dP Y;obtain⟨a1,b1,b2,b3,b4,b5,b6⟩:=E.XZ g1 g2 g4;have Zh:=Qo7 (P:=P) (w:=w) (k:=k) Hl ZO N E.keys b1 b2 b6 (a.eval v);have J:Kb f c C k (Qr s.fr v)=QT f c (C.set j ⟨k,Qr s.fr v,e.b⟩):=by simp only[Kb,Y];rw[g5]
  rw[J];obtain⟨u,rfl,T,O,B⟩:=dU r Zm h2 ZF N (c':=c) (es':=C.set j ⟨k,Qr s.fr v,e.b⟩) (ens':=F.modify j λe=>{ e with key:=.int f k,val:=a.eval v }) (λV u T=>by
   have E':=E.tr T;have YC:∀(m:Nat) (x:MapEntry),(F.modify j λe=>{ e with key:=.int f k,val:=a.eval v }).toList[m]?=some x->∃y,F.toList[m]?=some y/\x.born=y.born/\(m≠j->x=y)/\(m=j->x.key=.int f k/\x.val=a.eval v):=λm x hx=>by
    have hx:(F.modify j λe=>{ e with key:=.int f k,val:=a.eval v })[m]?=some x:=by rw[<-wy];exact hx
    rw[nR]at hx;split at hx;rename_i K;subst K;rw[b1]at hx;simp at hx;subst hx;exact⟨a1,by simpa using b1,rfl,λh=>absurd rfl h,λ_=>⟨rfl,rfl⟩⟩;rename_i K;exact⟨x,by simpa using hx,rfl,λ_=>rfl,λh=>absurd h.symm K⟩
   refine⟨by have:=E.len;simp at this ⊢;exact this,λm e' a' Q I=>?_,λM S x y Hm hx H=>?_⟩;obtain⟨y,y1,y2,y3,y4⟩:=YC m a' I;by_cases K:m=j;subst K;have Qb:=(Xh.1 g1).1;rw[Xi Qb]at Q;cases Q;obtain⟨d1,d2⟩:=y4 rfl;have:y=a1:=by have dY:F.toList[m]?=some a1:=(zC b1);rw [y1] at dY; simpa using dY
   subst this;exact⟨d1,by rw[d2];exact e3.tr T,by rw[y2,b4],by rw[y2];exact b5⟩;rw[JT (Zb K)]at Q;rw[y3 K];exact E'.at_ m e' y Q y1;obtain⟨x',yI,KU,_⟩:=YC M x hx;obtain⟨y',BQ,ZX,_⟩:=YC S y H;rw[KU,ZX];exact E.inc M S x' y' Hm yI BQ)
  exact⟨Go.undef,_,R,.inr ⟨by simp[execOp,ho,e1,U,Zh],rfl⟩,T,O,.cl _ _ (.undef _),B,Qdk N _⟩
 | none=>
  obtain⟨g1,_⟩:=SQ Y;have Zh:=Qo8 (P:=P) (w:=w) (k:=k) Hl ZO N E.keys (E.Fk g1) (a.eval v);have J:Kb f c C k (Qr s.fr v)=QT f (c+1) (C++[⟨k,Qr s.fr v,c⟩]):=by simp only[Kb,Y]
  rw[J];obtain⟨u,rfl,T,O,B⟩:=dU r Zm h2 ZF N (c':=c+1) (es':=C++[⟨k,Qr s.fr v,c⟩]) (ens':=F.push { key:=.int f k,val:=a.eval v,born:=c }) (λV u T=>by
   have E':=E.tr T;have hl:C.length=F.size:=by have:=E.len;simpa using this
   refine⟨by simp[hl],λm e' a' Q I=>?_,λM S x y Hm hx H=>?_⟩;have I:(F.push { key:=.int f k,val:=a.eval v,born:=c })[m]?=some a':=by rw[<-wy];exact I
   rw[bL]at I;rcases Yz Q with h1|⟨h1,Jy⟩;have:=(Xh.1 h1).1;rw[Qd ω]at I;obtain⟨k1,k2,k3,k4⟩:=E'.at_ m e' a' h1 (zC I);exact⟨k1,k2,k3,ω⟩;subst Jy;rw[Qe ω]at I;cases I;exact⟨rfl,e3.tr T,rfl,σ⟩;have hx:(F.push { key:=.int f k,val:=a.eval v,born:=c })[M]?=some x:=by rw[<-wy];exact hx
   have H:(F.push { key:=.int f k,val:=a.eval v,born:=c })[S]?=some y:=by rw[<-wy];exact H
   rw[bL]at hx H;have Kz:∀(i:Nat) (z:MapEntry),F[i]?=some z->z.born<c:=λi z hz=>by have Qb:=(W0.1 hz).1;exact(E.at_ i (C[i]'ω) z (QH ω) (zC hz)).2.2.2
   split at hx;split at H;omega;have:=(W0.1 H).1;omega;split at H;cases H;exact Kz M x hx;exact E.inc M S x y Hm (zC hx) (zC H))
  exact⟨Go.undef,_,R,.inr ⟨by simp[execOp,ho,e1,U,Zh],rfl⟩,T,O,.cl _ _ (.undef _),B,Qdk N _⟩
def Qpm(u:Jm P L){v}(b:o.op=.mapUpdate t x i v){p c}(h:Hj L s.h t (Qr s.fr x) (Qr s.fr i) (Qr s.fr v)=some (p,c))(f:p):ko P base nt o s c .undef:=λZ e a w r m=>by obtain⟨v,d,F,E,C,B,z,y,_⟩:=Qdl u b h f Z e a w r m;exact⟨v,d,F,E,C,B,z,y,λj=>by simp[calm,b]at j⟩
def dZ(L:Jt)(h:List Ob)(t:TypeId)(x i:D):Option (Prop × List Ob):=match ty L t with
 | some ⟨.map kt _,_,_,_⟩=>match ty L kt with
  | some ⟨.int q,_,_,_⟩=>match i with
   | .raw (.int a k)=>match x with
    | .mref l g=>match h[l]? with
     | some o=>some (IsMap q o/\a=q/\g=0/\o.kd.ro=false,h.set l (QT q (clockOf o) (J9 (DD o) k)))
     | none=>none
    | .raw (.map none)=>some (a=q,h)
    | _=>none
   | _=>none
  | _=>none
 | _=>none
def Qpn(hL:Jm P L){R:TypeId}(C:o.op=.call ⟨.builtin .delete,#[x,i],#[t,R]⟩){p h'}(h:dZ L s.h t (Qr s.fr x) (Qr s.fr i)=some (p,h'))(hp:p):ko P base nt o s h' (.tup []):=by
 unfold dZ at h;split at h;case h_2=>cases h
 split at h;case h_2=>cases h
 rename_i kt et _ _ _ ht _ q _ _ _ wK;have Hl:=Fa (hL t _ ht) rfl;have ZO:=Dr (hL kt _ wK) rfl;split at h;case h_2=>cases h
 rename_i q' k m;split at h;case h_3=>cases h
 case h_2 hx=>simp only[Q7,Zg]at h;obtain⟨rfl,rfl⟩:=h;subst hp;intro Z I a w r Vb;have f:=r.eval i;rw[m]at f;have f:=JI f;have u:=r.eval x;rw[hx]at u;have u:=JI u;have h3:=Hh (P:=P) (w:=w) (k:=k) ZO true 9999;refine⟨.tuple #[],w,I,.inl ?_,Tr.refl _ _ _,r.o,.tup [] [] rfl (λi m=>absurd m (Yy i)),Below.refl _ _,λ_=>Ext.refl w⟩;rw[vu C];simp[u,f,builtin,Builtin.delete_,underlying,Hl,h3]
 case h_1 l g hx=>
  split at h;case h_2=>cases h
  rename_i ob Y;simp only[Q7,Zg]at h;obtain⟨rfl,rfl⟩:=h;obtain⟨J,rfl,rfl,H⟩:=hp;obtain⟨kd,c,v,JU,yH,JV,wL,J⟩:=J.get;rw[wL,JV];have Qf:kd=.map:=by rw[yH]at H;cases kd<;>first|rfl|(exfalso;revert JU;decide)|(exfalso;revert H;decide)
  subst Qf;rw[show WB .map q' c v=QT q' c v from rfl]at J;subst J;intro Z I a w r Vb;have f:=r.eval i;rw[m]at f;have f:=JI f;obtain⟨b,z,u,h2,M,K,E⟩:=dS (kd:=.map) r rfl hx Y;have M:=M rfl;cases hf:Je v k with
  | some d=>
   obtain⟨j,e,W,g2,g3,g4,g5,V⟩:=dP hf;obtain⟨a1,b1,b2,b3,b4,b5,b6⟩:=E.XZ W g2 g4;have Zh:=Qo9 (P:=P) (w:=w) (k:=k) (ty:=o.type) (kt2:=R) Hl ZO K E.keys b1 b2 b6;rw[V];have a2:j<z.size:=(W0.1 b1).1;obtain⟨Q,rfl,T,O,B⟩:=dU r Y h2 M K (c':=c) (es':=v.eraseIdx j) (ens':=z.eraseIdxIfInBounds j) (λQk Q T=>by
    have E':=E.tr T;have hl:v.length=z.size:=by have:=E.len;simpa using this
    have a0:(z.eraseIdxIfInBounds j).toList=z.toList.eraseIdx j:=by simp[Array.eraseIdxIfInBounds,a2,Array.toList_eraseIdx]
    rw[a0];refine⟨by simp[List.length_eraseIdx,hl],λi' e' a' N F=>?_,λi1 i2 x y Hm hx S=>?_⟩;rw[List.getElem?_eraseIdx]at N F;split at N;rw[Qe ‹_›]at F;exact E'.at_ _ _ _ N F;rw[Qd ‹_›]at F;exact E'.at_ _ _ _ N F;rw[List.getElem?_eraseIdx]at hx S;split at hx<;>split at S<;>exact E.inc _ _ x y ω hx S)
   refine⟨.tuple #[],_,I,.inl ?_,T,O,.tup [] [] rfl (λi m=>absurd m (Yy i)),B,λU=>by simp[calm,C]at U⟩;rw[vu C];simp[u,f,builtin,Zh]
  | none=>obtain⟨W,_,V⟩:=SQ hf;have Zh:=Qpa (P:=P) (w:=w) (k:=k) (ty:=o.type) (kt2:=R) Hl ZO K E.keys (E.Fk W);rw[V];obtain⟨Q,rfl,T,O,B⟩:=dU r Y h2 M K (c':=c) (es':=v) (ens':=z) (λQk Q T=>E.tr T);refine⟨.tuple #[],_,I,.inl ?_,T,O,.tup [] [] rfl (λi m=>absurd m (Yy i)),B,λU=>by simp[calm,C]at U⟩;rw[vu C];simp[u,f,builtin,Zh]
def Hn(l c d:Nat)(a:List Nat):Nat->List D
 | 0=>[.mref l 0]
 | 1=>[.raw (.int .i64 c)]
 | 2=>[.raw (.int .i64 d)]
 | r+3=>match a[r]? with
  | some b=>[.raw (.int .i64 b)]
  | none=>[.undef]
def YT(l c b:Nat)(a:List Nat):Ob:=⟨.iter,0,1,a.length+3,Hn l c b a⟩
def eh(L:Jt)(h:List Ob)(t:TypeId)(x:D):Option (Prop × List Ob × D):=match ty L t with
 | some ⟨.map _ _,_,_,_⟩=>match x with
  | .mref l g=>match h[l]? with
   | some o=>some (IsMap .i64 o/\g=0,h++[YT l (clockOf o) (clockOf o) []],.mref h.length 0)
   | none=>none
  | _=>none
 | _=>none
def Qdm{Z h j}{w:World}{l c e a b m}{d:Array Nat}(r:w.heap[b]?=some (.mapIter (some m) c d e))(f:d.toList=a)(p:QF Z h j w (.mref l 0) (.map (some m))):KK Z h j w (YT l c e a) b 0:=by
 subst f;refine KK.QcL rfl ⟨rfl,rfl,m,c,e,d,r,by simp[YT],λi _=>?_,p,.cl _ _ (.raw _),.cl _ _ (.raw _),λi s f=>?_⟩;show (Hn l c e d.toList i).length=1;unfold Hn;split<;>(try split)<;>rfl;have f:d.toList[i]?=some s:=by simpa using f
 show QF Z h j w (nth (Hn l c e d.toList (i+3)) 0) _;have:Hn l c e d.toList (i+3)=[.raw (.int .i64 s)]:=by simp only[Hn,f]
 rw[this];exact .cl _ _ (.raw _)
def Qdn{Z h r}{w:World}{l c j a b p}(x:KK Z h r w (YT l c j a) b p):p=0/\∃(m:Nat) (f:Array Nat),w.heap[b]?=some (.mapIter (some m) c f j)/\f.toList=a/\QF Z h r w (.mref l 0) (.map (some m)):=by
 obtain⟨H,_,m,d,e,f,F,E,_,C,B,z,y⟩:=x.iter rfl;have K:d=c:=by have:=JI B;simp at this;omega
 have J:e=j:=by have:=JI z;simp at this;omega
 subst K;subst J;refine⟨H,m,f,F,?_,C⟩;have M:a.length=f.size:=by simpa[YT] using E
 apply AA;intro i;by_cases u:i<f.size;have v:=y i f[i] (jY u);have I:(YT l d e a).row (i+3)=[.raw (.int .i64 (a[i]'ω))]:=by show Hn l d e a (i+3)=_;simp only[Hn,QH (show i<a.length from ω)]
 rw[I]at v;have:=JI v;simp at this;rw[QH (show i<f.toList.length by simpa using u),QH (show i<a.length from ω)];simp only[Array.getElem_toList,Q7];omega;rw[EW ξ,EW ω]
def Qpq(I:Jm P L)(H:o.op=.range t x){p y d}(h:eh L s.h t (Qr s.fr x)=some (p,y,d))(F:p):ko P base nt o s y d:=by
 unfold eh at h;split at h;case h_2=>cases h
 rename_i kt et _ _ _ C;split at h;case h_2=>cases h
 rename_i l g hx;split at h;case h_2=>cases h
 rename_i ob J;simp only[Q7,Zg]at h;obtain⟨rfl,rfl,rfl⟩:=h;obtain⟨m,rfl⟩:=F;obtain⟨R,c,U,Q,_,O,_,m⟩:=m.get;rw[O];subst m;intro Z j a w r B;obtain⟨b,V,z,S,_,u,E⟩:=dS r Q hx J;have M:=Qpb (P:=P) (w:=w) (Fa (I t _ C) rfl) u;have e:∀f,f<w.heap.size->(w.alloc (.mapIter (some b) c #[] c)).heap[f]? = w.heap[f]? := λf u=>xK w _ f u;have N:(w.alloc (.mapIter (some b) c #[] c)).heap[w.heap.size]?=some (.mapIter (some b) c #[] c):=heap_alloc_new w _;have T:Tr s.h j w (s.h++[YT l c c []]) (j++[some (w.heap.size,0)]) (w.alloc (.mapIter (some b) c #[] c)):=Tr.push r.o e _ _ (by intro b q h;simp at h;omega);have K:j.length=s.h.length:=r.o.len;have v:=r.eval x;rw[hx,z]at v;refine⟨.pointer (some ⟨w.heap.size,0,none⟩),w.alloc (.mapIter (some b) c #[] c),j++[some (w.heap.size,0)],.inl ?_,T,?_,?_,Fe B _,λ_=>e⟩;simp[execOp,H,z,M];exact Zo.SD r.o e _ (Qv _) B (Qdm N rfl (v.tr T));exact .mref _ _ (YT l c c []) (some (w.heap.size,0)) w.heap.size σ (by rw[<-K];simp) ⟨by simp[YT,Kd.ty],rfl⟩ (Qv _) (λ_=>rfl)
def Qpr(ho:o.op=.next x false){Z M a}{w:World}(r:Rel Z base nt s M a w)(Vb:base<=w.heap.size){J c u d}(hx:Qr s.fr x=.mref J 0)(S:s.h[J]?=some (YT l c c d)){Y:Kd}(JU:Y.ty=1)(Zm:s.h[l]?=some (WB Y q c u)):
  ((∀e∈u,e.b∈d)/\(execOp a.eval o).run P w=.ok (.value (.tuple #[.bool false])) w) \/
  ∃e∈u,e.b ∉ d/\∃v f,(execOp a.eval o).run P w=.ok (.value v) f/\Tr s.h M w (s.h.set J (YT l c c (d++[e.b]))) M f/\Zo Z base (s.h.set J (YT l c c (d++[e.b]))) M f /\
   QF Z (s.h.set J (YT l c c (d++[e.b]))) M f (.tup [.raw (.bool true),.raw (.int q e.k),e.v]) v/\Below base w f:=by
 have e1:=r.eval x;rw[hx]at e1;obtain⟨o',p,b,h1,O,h3,h4,h5⟩:=G3 e1;rw[S]at h1;cases h1;have h5:=h5 rfl;rw[h5]at O;obtain⟨ZF,yF⟩:=r.o.at_ J _ b 0 S O;obtain⟨_,m,I,hb,V,SR⟩:=Qdn yF;have hv:a.eval x=.pointer (some ⟨b,0,none⟩):=h3.2;obtain⟨o2,p2,bm,k1,k2,K,k4,k5⟩:=G3 SR;rw[Zm]at k1;cases k1;have k5:=k5 rfl;rw[k5]at k2;have K:=K.2;rw[show (WB Y q c u).kd.ty=1 from JU]at K;have K:m=bm:=by simpa[SB] using K
 subst K;obtain⟨DE,o4⟩:=r.o.at_ l _ m 0 Zm k2;obtain⟨_,H,OG,E⟩:=dQ JU o4;have hl:u.length=H.toList.length:=E.len;have N:∀y∈H.toList,y.born<c:=λy hy=>by obtain⟨j,C⟩:=GY hy;have Qb:=(Xh.1 C).1;exact(E.at_ j (u[j]'ω) y (QH ω) C).2.2.2
 rcases run_next_at (P:=P) w o.type b m c c I H c hb OG N (Qv _) with ⟨F,Q⟩|⟨y,F,U,Q,g3⟩;refine .inl ⟨λe he=>?_,by simp[execOp,ho,hv,Q]⟩;obtain⟨j,C⟩:=GY he;have Qb:=(Xh.1 C).1;obtain⟨_,_,e3,_⟩:=E.at_ j e (H.toList[j]'ω) C (QH ω);have o5:∀z∈H.toList,I.contains z.born=true:=λz hz=>by have:leftOf H I=#[]:=Array.eq_empty_of_size_eq_zero F;unfold leftOf at this;rw[Array.filter_eq_empty_iff]at this;have:=this z (zC hz);simpa using this
 have:=o5 _ (XK (show j<H.toList.length from ω));rw[e3]at this;rw[<-V];simpa using this;obtain⟨j,C⟩:=GY (show y∈H.toList by unfold leftOf at F;simp at F;simpa using F.1);have Qb:=(Xh.1 C).1;obtain⟨d1,d2,d3,d4⟩:=E.at_ j (u[j]'ω) y (QH ω) C;have Ho:y.born ∉ I.toList:=by unfold leftOf at F;simp at F;simpa using F.2
 refine .inr ⟨u[j]'ω,XK _,by rw[<-d3,<-V];exact Ho,?_⟩;rw[<-d3];have hh:U.heap=w.heap:=by rcases Q with rfl|rfl<;>rfl
 generalize R:ChangeMaps.setBlock U b (.mapIter (some m) c (I.push y.born) c)=f at g3;have AT:=vq hb;have W:f.heap=w.heap.setIfInBounds b (.mapIter (some m) c (I.push y.born) c):=by rw[<-R,<-hh];rfl
 have e:∀k,k≠b->f.heap[k]? = w.heap[k]? := λk hk=>by rw[W];simp[Zb hk]
 have JW:f.heap[b]?=some (.mapIter (some m) c (I.push y.born) c):=by rw[W];simp[AT]
 have T:=Tr.LM (w':=f) r.o S O e (o':=YT l c c (d++[y.born])) rfl rfl rfl (by rw[hb];intro c el h;cases h);refine⟨_,f,by simp only[execOp,ho,hv,Sem.run_bind,g3,Result.andThen_ok];rfl,T,Zo.LM (hro:=rfl) r.o S O e T (Qdm JW (by rw[Array.toList_push,V]) (SR.tr T)),?_,?_⟩;rw[d1];exact .tup _ [.bool true,.int q (u[j]'ω).k,y.val] rfl λi hi=>match i,hi with
  | 0,_=>.cl _ _ (.raw _)
  | 1,_=>.cl _ _ (.raw _)
  | 2,_=>d2.tr T
 have B:Below base w U:=by rcases Q with rfl|rfl;exact .refl _ _;exact(Below.refl _ _).drew
 refine B.trans (OA (ZF rfl) (λk hk=>by rw[hh];exact e k hk) (by rw[W,hh];simp) (by rw[<-R];rfl) (by rw[<-R];rfl) (by rw[<-R];rfl))
end
def W9(k:List Int):Value:=.agg (k.map (Value.int .u16)).toArray
structure X0 where
 k:List Int
 v:D
 b:Nat
def Z3(c:Nat)(a:List X0):Nat->List D
 | 0=>[.raw (.int .i64 c),.undef,.undef]
 | r+1=>match a[r]? with
  | some e=>[.raw (W9 e.k),e.v,.raw (.int .i64 e.b)]
  | none=>[.undef,.undef,.undef]
def vD(b:Kd)(c:Nat)(a:List X0):Ob:=⟨b,0,3,a.length+1,Z3 c a⟩
def wN(c:Nat)(a:List X0):Ob:=vD .map c a
def Xy:List X0->List Int->Option D
 | [],_=>none
 | e::r,k=>if e.k=k then some e.v else Xy r k
def Qps:Value->Int
 | .int _ n=>n
 | _=>0
def o7:D->List Int
 | .raw (.agg a)=>a.toList.map Qps
 | _=>[]
def AU(o:Ob):List X0:=(List.range (o.n-1)).map λi=>⟨o7 (nth (o.row (i+1)) 0),nth (o.row (i+1)) 1,(Hi (nth (o.row (i+1)) 2)).toNat⟩
def OH(o:Ob):Prop:=o.kd.ty=1/\o=vD o.kd (clockOf o) (AU o)/\∀e∈AU o,e.k.length=4
def Qpt(k):o7 (.raw (W9 k))=k:=by
 simp only[o7,W9,Dj]
 conv=>rhs;rw[<-List.map_id k]
 exact AB λn _=>rfl
theorem Qdo(a:Kd)(c)(b:List X0):clockOf (vD a c b)=c:=by simp[clockOf,vD,Z3,nth,Hi]
theorem Qdp(b:Kd)(c)(a:List X0):AU (vD b c a)=a:=by apply AA;intro i;simp only[AU,vD,Z3,cu,KR];by_cases h:i<a.length;simp[nth,Hi,h,Qpt];rw[EW (zC h)];simp[h]
theorem Qdq(c)(a:List X0):clockOf (wN c a)=c:=Qdo _ _ _
theorem ei(c)(a:List X0):AU (wN c a)=a:=Qdp _ _ _
theorem Qpu(c)(a:List X0):OH (wN c a)=∀e∈a,e.k.length=4:=by refine propext ⟨λh=>by have:=h.2.2;rwa [ei]at this,λh=>⟨rfl,?_,by rwa [ei]⟩⟩;rw[Qdq,ei];rfl
theorem Qdr(o:Ob):AU o.ro=AU o:=rfl
theorem Qpv(o:Ob):OH o.ro=OH o:=by obtain⟨k,g,z,n,r⟩:=o;simp only[OH,oY,Qdr];simp only[Ob.ro,vD,Kd.toRo_ty,Ob.mk.injEq,yz]
theorem Qpw(c)(a:List X0):(wN c a).kd=.map:=rfl
def Qds(q):QT q 0 []=wN 0 []:=by
 have:AS q 0 []=Z3 0 []:=by funext r;cases r<;>rfl
 unfold QT WB wN vD;rw[this];rfl
def Qdt:∀{c:List X0} {k:List Int} {v:D},Xy c k=some v->∃(j:Nat) (e:X0),c[j]?=some e/\e.k=k/\e.v=v/\∀(i:Nat) (b:X0),i<j->c[i]?=some b->b.k≠k
 | [],_,_,h=>by simp[Xy]at h
 | e::r,k,v,h=>by
  simp only[Xy]at h;by_cases a:e.k=k;rw[Qe a]at h;cases h;exact⟨0,e,rfl,a,rfl,λi _ d=>absurd d (Yy i)⟩;rw[Qd a]at h;obtain⟨j,b,m,l,g,f⟩:=Qdt h;refine⟨j+1,b,by simpa using m,l,g,λi x d hx=>?_⟩;cases i with
  | zero=>simp at hx;subst hx;exact a
  | succ i=>exact f i x ω (zC hx)
def Qdu:∀{b:List X0} {k:List Int},Xy b k=none->∀e∈b,e.k≠k
 | [],_,_=>σ
 | e::r,k,h=>by simp only[Xy]at h;by_cases a:e.k=k;rw[Qe a]at h;cases h;rw[Qd a]at h;intro x hx;rcases QK.1 hx with rfl|h2;exact a;exact Qdu h x h2
def Qdv:∀(a b:List Int),a.length=b.length->vA (a.map (Value.int .u16)) (b.map (Value.int .u16))=some (decide (a=b))
 | [],[],_=>rfl
 | [],_::_,h=>by simp at h
 | _::_,[],h=>by simp at h
 | x::a,y::b,h=>by simp only[Jr,vA,zT,Qdv a b (zC h)];have:IntKind.same .u16 .u16=true:=rfl;simp only[this,wD,Q7,Lc];by_cases d:x=y<;>by_cases c:a=b<;>simp[d,c]
def Qdw(k:List Int):(k.map (Value.int .u16)).map cat=List.replicate k.length 0:=by
 induction k with
 | nil=>rfl
 | cons a k b=>simp only[Jr,Kx,bZ,b];rfl
structure HK (P:Program) (kt:TypeId):Prop where
 eq:oT P kt [0,0,0,0]
 arr:∃u,P.underlying kt=some (.array 4 u)/\P.underlying u=some (.int .u16)
section
variable {P:Program}{kt:TypeId}(H:HK P kt)
include H
theorem HK.equal(w){a b:List Int}(d:a.length=4)(c:b.length=4):(Op.equal kt (W9 a) (W9 b)).run P w=.ok (decide (a=b)) w:=by obtain⟨u,e,_⟩:=H.arr;have:=dH 60 10000 kt [0,0,0,0] ω H.eq.shape w (a.map (.int .u16)) (b.map (.int .u16)) (decide (a=b)) (by rw[Qdw,d];rfl) (by rw[Qdw,c];rfl) (Qdv a b (by rw[d,c]));unfold valOf at this;rw[e]at this;exact this
theorem HK.check(l w){k:List Int}(t:k.length=4):(checkKey l 10000 kt (W9 k)).run P w=.ok () w:=by
 obtain⟨u,g,a⟩:=H.arr;obtain⟨i,s⟩:=info_of_underlying a;have d:q7 P 59 u=some [0]:=by unfold q7;rw[a]
 have f:P.cellsOf u=1:=by have h:=H.eq.shape;unfold q7 at h;rw[g]at h;simp only[d]at h;split at h;assumption;cases h
 have m:∀j,j<4->∃n,(part u (k.map (Value.int .u16)).toArray j).run P w=.ok (.int .u16 n) w:=λj e=>by have:=SM d f w (k.map (Value.int .u16)) j ξ;refine⟨k.getD j 0,?_⟩;rw[this];unfold valOf;rw[a];have:j<k.length:=ω;simp[Q8,this]
 rw[show (10000:Nat)=9999+1 from rfl];unfold W9;rw[Instr.checkKey];simp only[Sem.run_bind,run_underlying g,Result.andThen_ok];simp only[Std.Legacy.Range.forIn_eq_forIn_range',Std.Legacy.Range.size,Dn,Nat.add_one_sub_one,Nat.div_one];have b:∀j∈List.range' 0 4 1,j<4:=λj e=>by simp[List.mem_range']at e;omega
 generalize List.range' 0 4 1=c at b;induction c with
 | nil=>simp
 | cons j c q=>obtain⟨n,p⟩:=m j (b j σ);have o:=Hh (P:=P) (w:=w) (k:=n) a l 9998;simp only[List.forIn_cons,Sem.run_bind,run_sizeOf w s,Result.andThen_ok,f,Nat.mul_one,p,o,Sem.run_pure];exact q λy r=>b y (by simp[r])
theorem HK.Fk(w){k:List Int}(c:k.length=4):∀(b:List MapEntry) (i:Nat),(∀e∈b,∃a,a.length=4/\e.key=W9 a/\a≠k)->(findAsking kt (W9 k) b i).run P w=.ok none w
 | [],_,_=>by simp[findAsking]
 | e::b,i,h=>by obtain⟨a,g,f,d⟩:=h e σ;have:=H.equal w c g;rw[QN (Zb d)]at this;simp[findAsking,f,this,HK.Fk w c b (i+1) λx hx=>h x (by simp[hx])]
theorem HK.XZ(w){k:List Int}(d:k.length=4):∀(a:List MapEntry) (b j:Nat) (e:MapEntry),a[j]?=some e->e.key=W9 k->(∀(i:Nat) (f:MapEntry),i<j->a[i]?=some f->∃c,c.length=4/\f.key=W9 c/\c≠k) ->
  (findAsking kt (W9 k) a b).run P w=.ok (some (b+j,e.val)) w
 | [],_,_,_,h,_,_=>by simp at h
 | x::a,b,0,e,h,hx,_=>by simp at h;subst h;have:=H.equal w d d;rw[QY rfl]at this;simp[findAsking,hx,this]
 | x::a,b,j+1,e,h,hx,g=>by obtain⟨c,p,o,n⟩:=g 0 x ω rfl;have:=H.equal w d p;rw[QN (Zb n)]at this;have l:=HK.XZ w d a (b+1) j e (zC h) hx λi f q m=>g (i+1) f ω (zC m);simp[findAsking,o,this,l];omega
theorem HK.find(w){k}{a:List MapEntry}{r}(h:(findAsking kt (W9 k) a 0).run P w=.ok r w):(findKey kt (W9 k) a).run P w=.ok r w:=by
 obtain⟨u,b,_⟩:=H.arr;cases a with
 | nil=>simpa[findKey,underlying,b,findNow,findAsking] using h
 | cons e a=>simp only[findKey,underlying,findNow,sameNow,Sem.run_bind];simpa[underlying,b] using h
end
structure B0 (Z:Nat->Prop) (h:List Ob) (pl:List Pl) (w:World) (c:Nat) (es:List X0) (QW:List MapEntry):Prop where
 len:es.length=QW.length
 at_:∀(i:Nat) (e:X0) (a:MapEntry),es[i]?=some e->QW[i]?=some a->a.key=W9 e.k/\QF Z h pl w e.v a.val/\a.born=e.b/\a.born<c
 inc:∀(i j:Nat) (a a':MapEntry),i<j->QW[i]?=some a->QW[j]?=some a'->a.born<a'.born
def Qpx{Z h e}{w:World}{c d b}{k:Array MapEntry}(o:w.heap[b]?=some (.map k c))(E:B0 Z h e w c d k.toList){l:Kd}(u:l.ty=1):KK Z h e w (vD l c d) b 0:=by
 refine KK.ofMap u ⟨rfl,rfl,k,c,o,by have:=E.len;simp at this;simp[vD,this],λi _=>?_,.cl _ _ (.raw _),λi a n=>?_,λi j a s t g f=>E.inc i j a s t (zC g) (zC f)⟩;show (Z3 c d i).length=3;cases i with
 | zero=>rfl
 | succ i=>simp only[Z3];split<;>rfl
 have Qb:=(W0.1 n).1;have m:i<d.length:=by have:=E.len;simp at this;omega
 obtain⟨g,f,q,p⟩:=E.at_ i d[i] a (QH m) (zC n);have r:Z3 c d (i+1)=[.raw (W9 d[i].k),d[i].v,.raw (.int .i64 d[i].b)]:=by simp[Z3,m]
 show _/\QF Z h e w (nth (Z3 c d (i+1)) 0) _/\QF Z h e w (nth (Z3 c d (i+1)) 1) _/\QF Z h e w (nth (Z3 c d (i+1)) 2) _;rw[r];exact⟨p,by rw[g];exact .cl _ _ (.raw _),f,by rw[q];exact .cl _ _ (.raw _)⟩
def Qpy{Z h l}{w:World}{c g b p}{k:Kd}(M:k.ty=1)(x:KK Z h l w (vD k c g) b p):p=0/\∃f:Array MapEntry,w.heap[b]?=some (.map f c)/\B0 Z h l w c g f.toList:=by
 obtain⟨F,_,f,d,E,C,_,B,z,y⟩:=x.map M;have t:d=c:=by have:=JI B;simp at this;omega
 subst t;have r:g.length=f.size:=by simpa[vD] using C
 refine⟨F,f,E,by simpa using r,λi e a s u=>?_,λi j a K L I H=>y i j a K L (zC I) (zC H)⟩;obtain⟨q,o,n,m⟩:=z i a (zC u);have J:(vD k d g).row (i+1)=[.raw (W9 e.k),e.v,.raw (.int .i64 e.b)]:=by simp[vD,Z3,s]
 rw[J]at o n m;have:=JI o;have v:=JI m;refine⟨this,n,?_,q⟩;simp at v;omega
def B0.tr{Z h f d j w b}(T:Tr h d w f j b){c g k}(E:B0 Z h d w c g k):B0 Z f j b c g k:=
 ⟨E.len,λi e a m l=>let ⟨p,o,n⟩:=E.at_ i e a m l;⟨p,o.tr T,n⟩,E.inc⟩
def Hp:List D->Option (List Int)
 | []=>some []
 | .raw (.int .u16 n)::r=>match Hp r with
  | some l=>some (n::l)
  | none=>none
 | _=>none
def Qdx:∀{b:List D} {l:List Int},Hp b=some l->Fj b=some (l.map (Value.int .u16))
 | [],l,e=>by simp[Hp]at e;subst e;rfl
 | c::b,l,e=>by unfold Hp at e;split at e;rename_i a;cases a;rename_i n r a;simp only[Lc]at a;obtain⟨rfl,rfl⟩:=a;split at e;rename_i f d;simp only[Q7]at e;subst e;simp[Fj,Qdx d];cases e;cases e
def xN(L:Jt)(E:DB)(a:TypeId)(b:List D):Option (List Int):=match ty L a with
 | some ⟨.array n u,_,_,_⟩=>match ty L u,BY E a with
  | some ⟨.int q,_,_,_⟩,some l=>bif Nat.beq n 4&&IntKind.same q .u16&&LI l [0,0,0,0] then match Hp b with
    | some k=>bif Nat.beq k.length 4 then some k else none
    | none=>none
   else none
  | _,_=>none
 | _=>none
def Qpz{P:Program}{t e:TypeId}{n}{y:Ty}(h:Xl P t y)(b:y.k=.array n e):P.underlying t=some (.array n e):=by obtain⟨d,c,a⟩:=h.under;rw[b]at a;rw[c];cases d<;>simp[TK.of]at a;rw[a.1,a.2]
def Qdy{P L E}(d:Jm P L)(r:AR P E){b:TypeId}{e}{k:List Int}(h:xN L E b e=some k):HK P b/\k.length=4/\Hp e=some k:=by
 unfold xN at h;split at h;case h_2=>cases h
 rename_i n u _ _ _ i;split at h;case h_2=>cases h
 rename_i q _ _ _ l g p;obtain⟨a,h⟩:=km h;simp only[ZM]at a;have m:=Sw a.1.1;have j:=IntKind.oc a.1.2;have o:=dI a.2;subst m;subst j;subst o;split at h;case h_2=>cases h
 rename_i f s;cases c:Nat.beq f.length 4 with
 | false=>rw[c]at h;cases h
 | true=>rw[c]at h;cases h;exact⟨⟨r _ _ p,u,Qpz (d b _ i) rfl,Dr (d u _ g) rfl⟩,Sw c,s⟩
section
variable {P:Program}{L:Jt}{E:DB}{base nt:Nat}{s:St}{o:Oper}{t:TypeId}{x i:Operand}
def Qdz{Z e}{a:Act}{w}(r:Rel Z base nt s e a w){c k}(j:Qr s.fr i=.agg c)(h:Hp c=some k):a.eval i=W9 k:=by have b:=r.eval i;rw[j]at b;obtain⟨d,g,f,l⟩:=Lw b;rw[g,dJ (Qdx h) d f l];rfl
def QdA{Z f a w}(r:Rel Z base nt s f a w){l c j}{d:Kd}(u:d.ty=1)(y:Qr s.fr x=.mref l 0)(q:s.h[l]?=some (vD d c j)):
  ∃b e,a.eval x=.map (some b)/\f[l]?=some (some (b,0))/\(d.ro=false->base<=b)/\w.heap[b]?=some (.map e c)/\B0 Z s.h f w c j e.toList:=by
 have n:=r.eval x;rw[y]at n;obtain⟨F,p,b,m,h,B,H,g⟩:=G3 n;rw[q]at m;cases m;have g:=g rfl;rw[g]at h;obtain⟨C,v⟩:=r.o.at_ l _ b 0 q h;obtain⟨_,e,z,E⟩:=Qpy u v;have k:=B.2;have:(vD d c j).kd.ty=1:=u;rw[this]at k;exact⟨b,e,k,h,C,z,E⟩
def eu(L:Jt)(E:DB)(h:List Ob)(t:TypeId)(x i:D):Ev:=match ty L t with
 | some ⟨.map b c,_,_,_⟩=>match ty L c,i,x with
  | some a,.agg e,.mref l g=>match xN L E b e,h[l]? with
   | some k,some o=>some (OH o/\g=0,match Xy (AU o) k with
    | some d=>.tup [d,.raw (.bool true)]
    | none=>.tup [Dt a,.raw (.bool false)])
   | _,_=>none
  | _,_,_=>none
 | _=>none
def B0.keyed{Z:Nat->Prop}{h:List Ob}{j:List Pl}{w:World}{c:Nat}{b:List X0}{g:List MapEntry}(R:B0 Z h j w c b g)(k:∀e∈b,e.k.length=4)(i:Nat)(a:MapEntry)(f:g[i]?=some a):∃e,b[i]?=some e/\e.k.length=4/\a.key=W9 e.k:=by
 have d:i<b.length:=by have:=(Xh.1 f).1;rw[R.len];exact this
 exact⟨b[i],QH d,k _ (XK d),(R.at_ i b[i] a (QH d) f).1⟩
def B0.Fk{Z h j w c d}{f:List MapEntry}(R:B0 Z h j w c d f)(q:∀e∈d,e.k.length=4){g:TypeId}(H:HK P g){k:List Int}(m:k.length=4)(l:Xy d k=none)(b):(findKey g (W9 k) f).run P b=.ok none b:=by refine H.find b (H.Fk b m f 0 λa p=>?_);obtain⟨i,n⟩:=GY p;obtain⟨e,v,u,r⟩:=R.keyed q i a n;exact⟨e.k,u,r,Qdu l e (Oh v)⟩
def QpA(B:Jm P L)(hE:AR P E)(Q:o.op=.lookup t x i true){p d}(h:eu L E s.h t (Qr s.fr x) (Qr s.fr i)=some (p,d))(hp:p):WL P base nt o s d:=by
 intro Z pl a w r;unfold eu at h;split at h;case h_2=>cases h
 rename_i kt et _ _ _ ht;split at h;case h_2=>cases h
 rename_i ye cs l g W7 n hx;split at h;case h_2=>cases h
 rename_i k u hk Zm;simp only[Q7,Zg]at h;obtain⟨rfl,rfl⟩:=h;obtain⟨⟨LN,y,C⟩,rfl⟩:=hp;obtain⟨H,J,JV⟩:=Qdy B hE hk;have W:=Qdz r n JV;obtain⟨M,JU⟩:=Zc u.kd;obtain⟨c,hc⟩:=Zc (clockOf u);obtain⟨I,K⟩:=Zc (AU u);rw[<-JU]at LN y;rw[<-hc,<-K]at y;rw[<-K]at C ⊢;rw[y]at Zm;obtain⟨b,m,Y,_,_,q,R⟩:=QdA r LN hx Zm;have hx:=Fa (B t _ ht) rfl;have U:=λf:World=>H.check m.isEmpty f J;cases T:Xy I k with
 | some d=>
  obtain⟨j,e,V,g2,g3,g4⟩:=Qdt T;have S:j<m.toList.length:=by rw[<-R.len];exact(Xh.1 V).1
  obtain⟨k1,k2,_⟩:=R.at_ j e m.toList[j] V (QH S);have F:∀f:World,(findKey kt (W9 k) m.toList).run P f=.ok (some (j,m.toList[j].val)) f:=λf=>by
   have:=H.find f (H.XZ f J m.toList 0 j m.toList[j] (QH S) (by rw[k1,g2]) λO a' JH Wi=>by obtain⟨e',q1,q2,q3⟩:=R.keyed C O a' Wi;exact⟨e'.k,q2,q3,g4 O e' JH q1⟩)
   rwa [JG]at this
  refine⟨.tuple #[m.toList[j].val,.bool true],.tup _ [_,.bool true] rfl (λi n=>match i,n with
   | 0,_=>by rw[<-g3];exact k2
   | 1,_=>.cl _ _ (.raw _)),λf v=>?_⟩
  simp[execOp,Q,Y,W,lookup,underlying,hx,getObj,BZ ((v b (vq q)).trans q),F f,U f]
 | none=>
  obtain⟨z,hz,jw⟩:=og (B et ye W7) (N:=free Z pl) w;refine⟨.tuple #[z,.bool false],.tup _ [z,.bool false] rfl (λi n=>match i,n with
   | 0,_=>.cl _ _ hz
   | 1,_=>.cl _ _ (.raw _)),λf v=>?_⟩
  have F:=R.Fk C H J T f;simp[execOp,Q,Y,W,lookup,underlying,hx,getObj,BZ ((v b (vq q)).trans q),F,U f,jw f]
def ez(L:Jt)(E:DB)(h:List Ob)(t:TypeId)(x i v:D):Option (Prop × List Ob):=match ty L t with
 | some ⟨.map a _,_,_,_⟩=>match i,x with
  | .agg b,.mref l g=>match xN L E a b,h[l]? with
   | some k,some o=>some (OH o/\Xy (AU o) k=none/\g=0/\o.kd.ro=false,h.set l (wN (clockOf o+1) (AU o++[⟨k,v,clockOf o⟩])))
   | _,_=>none
  | _,_=>none
 | _=>none
def QpB(hL:Jm P L)(hE:AR P E){v}(W:o.op=.mapUpdate t x i v){p h'}(h:ez L E s.h t (Qr s.fr x) (Qr s.fr i) (Qr s.fr v)=some (p,h'))(hp:p):ko P base nt o s h' .undef:=by
 unfold ez at h;split at h;case h_2=>cases h
 rename_i kt et _ _ _ ht;split at h;case h_2=>cases h
 rename_i cs l g hi hx;split at h;case h_2=>cases h
 rename_i k J hk I;simp only[Q7,Zg]at h;obtain⟨rfl,rfl⟩:=h;obtain⟨⟨LN,M,h4⟩,Y,rfl,B⟩:=hp;obtain⟨H,Hq,JV⟩:=Qdy hL hE hk;obtain⟨C,JU⟩:=Zc J.kd;obtain⟨c,n⟩:=Zc (clockOf J);obtain⟨j,Q⟩:=Zc (AU J);rw[<-JU]at LN M B;rw[<-n,<-Q]at M;rw[<-Q]at h4 Y ⊢;rw[<-n];have Qf:C=.map:=by cases C<;>first|rfl|(exfalso;revert LN;decide)|(exfalso;revert B;decide)
 rw[M,Qf]at I;intro Z S a w r Vb;have e2:=Qdz r hi JV;have e3:=r.eval v;obtain⟨b,d,e1,h2,O,F,R⟩:=QdA r rfl hx I;have O:=O rfl;have Hl:=Fa (hL t _ ht) rfl;have q2:=R.Fk h4 H Hq Y w;have q3:=H.check false w Hq;have Zh:(mapUpdate t (.map (some b)) (W9 k) (a.eval v)).run P w=.ok () { w with heap:=w.heap.setIfInBounds b (.map (d.push { key:=W9 k,val:=a.eval v,born:=c }) (c+1)) }:=by simp[mapUpdate,underlying,Hl,getObj,BZ F,q2,q3,setObj,SO F]
 have AT:=vq F;generalize q:({ w with heap:=w.heap.setIfInBounds b (.map (d.push { key:=W9 k,val:=a.eval v,born:=c }) (c+1)) }:World)=u at Zh;have e:∀c,c≠b->u.heap[c]? = w.heap[c]? := λc n=>by rw[<-q];simp[Zb n]
 have JW:u.heap[b]?=some (.map (d.push { key:=W9 k,val:=a.eval v,born:=c }) (c+1)):=by rw[<-q];simp[AT]
 have T:=Tr.LM (w':=u) r.o I h2 e (o':=wN (c+1) (j++[⟨k,Qr s.fr v,c⟩])) rfl rfl rfl (by rw[F];intro c el h;cases h);have R':=R.tr T;have hl:j.length=d.size:=by have:=R.len;simpa using this
 have RR:B0 Z (s.h.set l (wN (c+1) (j++[⟨k,Qr s.fr v,c⟩]))) S u (c+1) (j++[⟨k,Qr s.fr v,c⟩]) (d.push { key:=W9 k,val:=a.eval v,born:=c }).toList:=by
  refine⟨by simp[hl],λV e' a' Xx m=>?_,λK U x y Hm hx f=>?_⟩;have m:(d.push { key:=W9 k,val:=a.eval v,born:=c })[V]?=some a':=by rw[<-wy];exact m
  rw[bL]at m;rcases Yz Xx with N|⟨N,Jy⟩;have:=(Xh.1 N).1;rw[Qd ω]at m;obtain⟨k1,k2,k3,k4⟩:=R'.at_ V e' a' N (zC m);exact⟨k1,k2,k3,ω⟩;subst Jy;rw[Qe ω]at m;cases m;exact⟨rfl,e3.tr T,rfl,σ⟩;have hx:(d.push { key:=W9 k,val:=a.eval v,born:=c })[K]?=some x:=by rw[<-wy];exact hx
  have f:(d.push { key:=W9 k,val:=a.eval v,born:=c })[U]?=some y:=by rw[<-wy];exact f
  rw[bL]at hx f;have Kz:∀(i:Nat) (z:MapEntry),d[i]?=some z->z.born<c:=λi z hz=>by have Qb:=(W0.1 hz).1;exact(R.at_ i (j[i]'ω) z (QH ω) (zC hz)).2.2.2
  split at hx;split at f;omega;have:=(W0.1 f).1;omega;split at f;cases f;exact Kz K x hx;exact R.inc K U x y Hm (zC hx) (zC f)
 refine⟨Go.undef,u,S,.inr ⟨by simp[execOp,W,e1,e2,Zh],rfl⟩,T,Zo.LM (hro:=rfl) r.o I h2 e T (Qpx JW RR rfl),.cl _ _ (.undef _),?_,λn=>by simp[calm,W]at n⟩;exact OA O e (by rw[<-q];simp) (by rw[<-q]) (by rw[<-q]) (by rw[<-q])
end
end Go.Fg
