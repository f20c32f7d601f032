/- Contracts and laws on the way to the statement. No conditions. -/
import Derived.KernelRfl
import Derived.WalkKit
import Derived.WalkLawsBesides
import Derived.WalkSpells
import Derived.ChangeKeysEq
import Derived.Maps.RangeRun
set_option maxRecDepth 100000
set_option maxHeartbeats 16000000
set_option linter.unusedVariables false
set_option linter.unusedSimpArgs false
set_option linter.unusedSectionVars false
set_option linter.defProp false
namespace Go.Fg
open Go.RowKit (Below)
theorem ω{p:Prop}(h:p:=by (omega)):p:=h
theorem σ{p:Prop}(h:p:=by (simp)):p:=h
theorem π{p:Prop}(h:p:=by (decide)):p:=h
theorem τ{p:Prop}(h:p:=by (kernel_rfl)):p:=h
theorem ξ{p:Prop}(h:p:=by ((simp;omega))):p:=h
theorem δ{p:Prop}(h:p:=by (first|assumption|omega)):p:=h
theorem η{p:Prop}(h:p:=by ((rw[IntKind.wrap_u64];omega))):p:=h
def yh:=@Array.getD_eq_getD_getElem?
def Nu:=@Array.getElem!_eq_getD
def Nv:=@Array.getElem?_append_left
def jK:=@Array.getElem?_eq_getElem
def WL:=@Array.getElem?_eq_some_iff
def mG:=@Array.getElem?_modify
def aS:=@Array.getElem?_push
def Al:=@Array.getElem?_setIfInBounds
def mH:=@Array.getElem?_setIfInBounds_ne
def vW:=@Array.getElem?_toList
def mI:=@Array.getElem_setIfInBounds
def Gv:=@Bool.and_eq_false_iff
def ZL:=@Bool.and_eq_true
def RG:=@Bool.and_false
def jj:=@Bool.eq_false_iff
def vX:=@Bool.eq_iff_iff
def Gw:=@Bool.false_and
def XZ:=@Bool.false_eq_true
def BF:=@Bool.false_ne_true
def IA:=@Bool.false_or
def Yq:=@Bool.not_eq_true
def zB:=@Bool.not_eq_true'
def Gx:=@Bool.not_false
def Da:=@Bool.not_true
def Db:=@Bool.or_eq_false_iff
def yi:=@Bool.or_eq_true
def IB:=@Bool.true_and
def RH:=@Bool.true_or
def jk:=@Classical.byContradiction
def Nw:=@Classical.not_forall
def aT:=@Function.comp_def
def EF:=@Int.natCast_mul
def IC:=@Int.toNat_natCast
def EG:=@Int.toNat_of_nonneg
def Nx:=@List.Pairwise.filter
def mJ:=@List.Pairwise.of_cons
def Ny:=@List.Perm.refl
def zC:=@List.all_eq_true
def aU:=@List.any_eq_false
def vY:=@List.any_eq_true
def W9:=@List.append_assoc
def aV:=@List.append_inj
def JZ:=@List.append_nil
def xj:=@List.cons.inj
def ID:=@List.cons.injEq
def qc:=@List.cons_append
def RI:=@List.drop_eq_getElem_cons
def aW:=@List.drop_eq_nil_of_le
def mK:=@List.eq_nil_iff_forall_not_mem
def Am:=@List.ext_getElem?
def IE:=@List.filter_append
def aX:=@List.filter_congr
def xk:=@List.filter_cons
def IF:=@List.filter_cons_of_neg
def IG:=@List.filter_cons_of_pos
def An:=@List.filter_eq_self
def RJ:=@List.filter_map
def vZ:=@List.find?_cons
def jL:=@List.find?_eq_none
def yj:=@List.find?_some
def EH:=@List.findIdx?_eq_none_iff
def Dc:=@List.findIdx?_eq_some_iff_getElem
def qd:=@List.foldl_append
def v8:=@List.foldl_cons
def QY:=@List.getD_eq_getElem?_getD
def JO:=@List.getElem?_append_left
def Kh:=@List.getElem?_append_right
def Gy:=@List.getElem?_drop
def QG:=@List.getElem?_eq_getElem
def Gz:=@List.getElem?_eq_none
def Xa:=@List.getElem?_eq_some_iff
def KP:=@List.getElem?_map
def GA:=@List.getElem?_of_mem
def aY:=@List.getElem?_range
def JP:=@List.getElem?_set_ne
def Xb:=@List.getElem?_set_self
def XK:=@List.getElem?_take
def X0:=@List.getElem_mem
def xl:=@List.getElem_of_mem
def Zo:=@List.length_append
def Vo:=@List.length_cons
def aZ:=@List.length_drop
def RK:=@List.length_eq_zero_iff
def Yr:=@List.length_filter_le
def KK:=@List.length_map
def bc:=@List.length_pos_iff
def K0:=@List.length_set
def Kc:=@List.length_singleton
def be:=@List.length_take
def wa:=@List.map_append
def Dd:=@List.map_congr_left
def JQ:=@List.map_cons
def GB:=@List.map_map
def Q3:=@List.mem_append
def II:=@List.mem_append_left
def Nz:=@List.mem_append_right
def QF:=@List.mem_cons
def Ki:=@List.mem_cons_of_mem
def Kx:=@List.mem_cons_self
def JH:=@List.mem_filter
def Jl:=@List.mem_map
def wc:=@List.mem_of_find?_eq_some
def NA:=@List.mem_of_getElem?
def bg:=@List.mem_of_mem_take
def RL:=@List.mem_range
def X1:=@List.mem_singleton
def jM:=@List.nil_append
def J5:=@List.nodup_append
def ZY:=@List.nodup_cons
def RM:=@List.nodup_iff_pairwise_ne
def bj:=@List.pairwise_append
def Ao:=@List.pairwise_cons
def IJ:=@List.pairwise_map
def bk:=@List.replicate_succ
def bn:=@List.set_append_left
def NB:=@List.set_append_right
def JE:=@List.set_set
def GC:=@List.size_toArray
def RN:=@List.sum_cons
def br:=@List.takeWhile_cons
def bt:=@List.takeWhile_sublist
def zD:=@List.take_add_one
def De:=@List.take_append_drop
def Wc:=@List.take_length
def NC:=@Nat.add_comm
def VM:=@Nat.add_mul
def ND:=@Nat.add_sub_cancel
def bu:=@Nat.add_sub_cancel_left
def Ap:=@Nat.add_zero
def bw:=@Nat.and_lt_two_pow
def Wo:=@Nat.beq_eq
def NF:=@Nat.beq_refl
def IK:=@Nat.ble_eq
def xm:=@Nat.blt_eq
def bx:=@Nat.div_add_mod
def bA:=@Nat.div_le_self
def bB:=@Nat.div_mod_unique
def RO:=@Nat.eq_of_beq_eq_true
def RP:=@Nat.le_of_ble_eq_true
def QB:=@Nat.le_refl
def IM:=@Nat.le_succ
def Kv:=@Nat.le_trans
def GD:=@Nat.lt_irrefl
def NG:=@Nat.lt_of_le_of_lt
def wg:=@Nat.lt_of_lt_of_le
def xn:=@Nat.lt_or_ge
def xo:=@Nat.lt_succ_iff_lt_or_eq
def BG:=@Nat.lt_succ_self
def NH:=@Nat.min_eq_left
def NI:=@Nat.min_eq_right
def Aq:=@Nat.mod_eq_of_lt
def Xx:=@Nat.mod_lt
def IN:=@Nat.mul_assoc
def IP:=@Nat.mul_comm
def Ys:=@Nat.mul_le_mul
def XL:=@Nat.mul_le_mul_right
def X2:=@Nat.not_lt_zero
def NJ:=@Nat.one_mul
def EI:=@Nat.shiftRight_eq_div_pow
def Df:=@Nat.sub_self
def EJ:=@Nat.sub_zero
def bC:=@Nat.two_pow_pos
def RQ:=@Nat.xor_lt_two_pow
def JR:=@Nat.zero_add
def Jj:=@Nat.zero_le
def Ar:=@Nat.zero_lt_succ
def Q9:=@Ne.symm
def bD:=@Option.bind_some
def NK:=@Option.getD_none
def Ky:=@Option.getD_some
def EK:=@Option.isSome_iff_exists
def xp:=@Option.isSome_none
def wh:=@Option.isSome_some
def mL:=@Option.map_eq_none_iff
def X3:=@Option.map_eq_some_iff
def RS:=@Option.map_map
def zE:=@Option.map_none
def K6:=@Option.map_some
def NL:=@Option.some.inj
def Q6:=@Option.some.injEq
def BH:=@Option.toList_some
def Ze:=@Prod.mk.injEq
def jN:=@beq_eq_false_iff_ne
def zF:=@beq_iff_eq
def NM:=@beq_self_eq_true
def jl:=@cond_false
def wi:=@cond_true
def bE:=@decide_eq_decide
def QH:=@decide_eq_false
def GF:=@decide_eq_false_iff_not
def QT:=@decide_eq_true
def X4:=@decide_eq_true_eq
def IQ:=@eq_iff_iff
def YF:=@if_false
def Qd:=@if_neg
def Qe:=@if_pos
def Vp:=@if_true
def EL:=@not_exists
def qP:=@not_or
def Dg:=@of_decide_eq_false
def qQ:=@of_decide_eq_true
def yl:=@true_and
inductive D where
 | raw (v:Value)
 | nil
 | undef
 | imm (sz n:Nat) (row:Nat->List D)
 | ip (cells:List D)
 | ref (l g off len:Nat)
 | ptr (l g i j:Nat)
 | mref (l g:Nat)
 | clo (f:FuncId) (first:Nat) (Qv:List D)
 | agg (cs:List D)
 | tup (cs:List D)
def nth(a:List D)(i:Nat):D:=a.getD i .undef
def Q7(a:List Value)(i:Nat):Value:=a.getD i Go.undef
inductive Kd where
 | one
 | arr
 | map
 | iter
 | Wh
 | As
 | RU
 | QbA
def Kd.IS:Kd->Bool
 | .one=>true
 | .Wh=>true
 | _=>false
def Kd.ty:Kd->Nat
 | .one=>0
 | .arr=>0
 | .map=>1
 | .iter=>2
 | .Wh=>0
 | .As=>0
 | .RU=>1
 | .QbA=>2
def Kd.ro:Kd->Bool
 | .one=>false
 | .arr=>false
 | .map=>false
 | .iter=>false
 | _=>true
def Kd.toRo:Kd->Kd
 | .one=>.Wh
 | .arr=>.As
 | .map=>.RU
 | .iter=>.QbA
 | k=>k
def Kd.toRo_ty(k:Kd):k.toRo.ty=k.ty:=by cases k<;>rfl
def Kd.toRo_ro(k:Kd):k.toRo.ro=true:=by cases k<;>rfl
def RV:Nat->Nat->Value
 | 1,b=>.map (some b)
 | _,b=>.pointer (some ⟨b,0,none⟩)
def MOk(t b:Nat)(v:Value):Prop:=t≠0/\v=RV t b
structure Ob where
 kd:Kd
 gen:Nat
 sz:Nat
 n:Nat
 row:Nat->List D
abbrev Pl:=Option (Nat × Nat)
def Xy(a:List Pl)(b:Nat):Prop:=∀l q:Nat,a[l]?≠some (some (b,q))
def free(Z:Nat->Prop)(a:List Pl)(b:Nat):Prop:=Z b/\Xy a b
variable {Z:Nat->Prop}
inductive Cl (N:Nat->Prop) (w:World):D->Value->Prop
 | raw (v:Value):Cl N w (.raw v) v
 | undef (v:Value):Cl N w .undef v
 | nil (a:Option Addr):Cl N w .nil (.slice a 0 0)
 | imm (sz n:Nat) (row:Nat->List D) (a:Option Addr) (cap b o:Nat) (vs:Nat->Nat->Value)
   (ha:0<n->a=some ⟨b,o,none⟩) (hl:n<=cap) (hs:∀i,i<n->(row i).length=sz)
   (hc:∀i j,i<n->j<sz->N b/\w.cell? ⟨b,o+(i*sz+j),none⟩=some (vs i j))
   (hr:∀i j,i<n->j<sz->Cl N w (nth (row i) j) (vs i j)):Cl N w (.imm sz n row) (.slice a n cap)
 | ip (cells:List D) (b o:Nat) (vs:Nat->Value)
   (hc:∀j,j<cells.length->N b/\w.cell? ⟨b,o+j,none⟩=some (vs j))
   (hr:∀j,j<cells.length->Cl N w (nth cells j) (vs j)):Cl N w (.ip cells) (.pointer (some ⟨b,o,none⟩))
 | clo (f:FuncId) (nf:Nat) (cs:List D) (vs:List Value) (hl:vs.length=cs.length) (hr:∀i,i<cs.length->Cl N w (nth cs i) (Q7 vs i)):Cl N w (.clo f nf cs) (.func (.func f) (vs.take nf).toArray (vs.drop nf).toArray)
 | agg (cs:List D) (vs:List Value) (hl:vs.length=cs.length) (hr:∀i,i<cs.length->Cl N w (nth cs i) (Q7 vs i)):Cl N w (.agg cs) (.agg vs.toArray)
 | tup (cs:List D) (vs:List Value) (hl:vs.length=cs.length) (hr:∀i,i<cs.length->Cl N w (nth cs i) (Q7 vs i)):Cl N w (.tup cs) (.tuple vs.toArray)
def Cl.mono{N N'}{w w'}{d}{v}(h:Cl N w d v)
  (C:∀b,N b->b<w.heap.size->N' b/\w'.heap[b]? = w.heap[b]?):Cl N' w' d v:=by
 have p:∀(b o:Nat) (u:Value),N b/\w.cell? ⟨b,o,none⟩=some u->N' b/\w'.cell? ⟨b,o,none⟩=some u:=by
  rintro b o u ⟨B,l⟩;obtain⟨I,H⟩:=C b B (block_lt_of_cell l);exact⟨I,by rw[World.cell?_of_block (w:=w) (a:=⟨b,o,none⟩) H];exact l⟩
 induction h with
 | raw v=>exact .raw v
 | undef v=>exact .undef v
 | nil a=>exact .nil a
 | imm x n s a t b o c F g z l q e=>exact .imm x n s a t b o c F g z (λi j E r=>p _ _ _ (l i j E r)) e
 | ip k b o c l q e=>exact .ip k b o c (λj r=>p _ _ _ (l j r)) e
 | clo f y m c g q e=>exact .clo f y m c g e
 | agg m c g q e=>exact .agg m c g e
 | tup m c g q e=>exact .tup m c g e
def QbC(w:World)(g:Nat)(p:Pl)(e f:Nat)(a:Option Addr)(d:Nat):Prop:=
 (f=0/\d=0)\/∃b q c el,p=some (b,q)/\a=some ⟨b,q+e*g,none⟩/\w.heap[b]? = some (.cells c el (0,0))/\q+(e+d)*g<=c.size/\f<=d
inductive QC (Z:Nat->Prop) (h:List Ob) (pl:List Pl) (w:World):D->Value->Prop
 | cl (d:D) (v:Value) (hc:Cl (free Z pl) w d v):QC Z h pl w d v
 | ref (l g off len:Nat) (o:Ob) (p:Pl) (a:Option Addr) (cap:Nat) (ho:h[l]? = some o) (hp:pl[l]? = some p) (hk:o.kd.ty=0) (hg:g<=o.gen)
   (hs:g=o.gen->QbC w o.sz p off len a cap):QC Z h pl w (.ref l g off len) (.slice a len cap)
 | ptr (l g i j:Nat) (o:Ob) (p:Pl) (a:Addr) (ho:h[l]? = some o) (hp:pl[l]? = some p) (hk:o.kd.ty=0) (hg:g<=o.gen)
   (hs:g=o.gen->∃b q,p=some (b,q)/\a=⟨b,q+(i*o.sz+j),none⟩):QC Z h pl w (.ptr l g i j) (.pointer (some a))
 | mref (l g:Nat) {v:Value} (o:Ob) (p:Pl) (b:Nat) (ho:h[l]? = some o) (hp:pl[l]? = some p) (hk:MOk o.kd.ty b v) (hg:g<=o.gen)
   (hs:g=o.gen->p=some (b,0)):QC Z h pl w (.mref l g) v
 | clo (f:FuncId) (nf:Nat) (cs:List D) (vs:List Value) (hl:vs.length=cs.length) (hr:∀i,i<cs.length->QC Z h pl w (nth cs i) (Q7 vs i)):QC Z h pl w (.clo f nf cs) (.func (.func f) (vs.take nf).toArray (vs.drop nf).toArray)
 | agg (cs:List D) (vs:List Value) (hl:vs.length=cs.length) (hr:∀i,i<cs.length->QC Z h pl w (nth cs i) (Q7 vs i)):QC Z h pl w (.agg cs) (.agg vs.toArray)
 | tup (cs:List D) (vs:List Value) (hl:vs.length=cs.length) (hr:∀i,i<cs.length->QC Z h pl w (nth cs i) (Q7 vs i)):QC Z h pl w (.tup cs) (.tuple vs.toArray)
structure Tr (h:List Ob) (pl:List Pl) (w:World) (h':List Ob) (Qj:List Pl) (w':World):Prop where
 Ko:∀b,Xy pl b->b<w.heap.size->Xy Qj b/\w'.heap[b]? = w.heap[b]?
 obj:∀(l:Nat) (o:Ob) (p:Pl),h[l]? = some o->pl[l]? = some p->∃o' p',h'[l]? = some o'/\Qj[l]? = some p'/\o.gen<=o'.gen/\o'.kd.ty=o.kd.ty/\(o'.gen=o.gen->o'.sz=o.sz/\p'=p)
 shape:∀(l:Nat) (o o':Ob) (b q:Nat),h[l]? = some o->h'[l]? = some o'->o'.gen=o.gen->pl[l]? = some (some (b,q))->∀c el,w.heap[b]? = some (.cells c el (0,0)) ->
  ∃c',w'.heap[b]? = some (.cells c' el (0,0))/\c'.size=c.size
def Tr.Qmr{h}{d}{w:World}{g}{f}{c:World}(T:Tr h d w g f c){b}(a:free Z d b)(e:b<w.heap.size):free Z f b/\c.heap[b]? = w.heap[b]? :=
 ⟨⟨a.1,(T.Ko b a.2 e).1⟩,(T.Ko b a.2 e).2⟩
def QC.tr{h}{W}{w}{h'}{Qj}{V}(T:Tr h W w h' Qj V){d}{v}(r:QC Z h W w d v):QC Z h' Qj V d v:=by
 induction r with
 | cl d v N=>exact .cl d v (N.mono λb O Qc=>T.Qmr O Qc)
 | ref l g Q R o p a U n m C E B=>
  obtain⟨e,x,t,L,y,K,F⟩:=T.obj l o p n m;refine .ref l g Q R e x a U t L (by rw[K,C]) (Kv E y) λBI=>?_;have s:e.gen=o.gen:=ω;obtain⟨I,H⟩:=F s;rcases B ω with h1|⟨b,q,c,el,M,P,O,N,k⟩
  .exact .inl h1
  .obtain⟨c',K7,S⟩:=T.shape l o e b q n t s (by rw[m,M]) c el O;exact .inr ⟨b,q,c',el,by rw[H,M],by rw[I];exact P,K7,by rw[I,S];exact N,k⟩
 | ptr l g i j o p a n m C E B=>
  obtain⟨e,x,t,L,y,K,F⟩:=T.obj l o p n m;refine .ptr l g i j e x a t L (by rw[K,C]) (Kv E y) λBI=>?_;have s:e.gen=o.gen:=ω;obtain⟨I,H⟩:=F s;obtain⟨b,q,M,P⟩:=B ω;exact⟨b,q,by rw[H,M],by rw[I];exact P⟩
 | mref l g o p b n m C E B=>
  obtain⟨e,x,t,L,y,K,F⟩:=T.obj l o p n m;refine .mref l g e x b t L (by rw[K];exact C) (Kv E y) λBI=>?_;have s:e.gen=o.gen:=ω;obtain⟨I,H⟩:=F s;rw[H];exact B ω
 | clo f nf J u k Y z=>exact .clo f nf J u k z
 | agg J u k Y z=>exact .agg J u k z
 | tup J u k Y z=>exact .tup J u k z
def NN(Z:Nat->Prop)(h:List Ob)(a:List Pl)(w:World)(o:Ob)(b q:Nat):Prop:=
 ∃c el,w.heap[b]? = some (.cells c el (0,0))/\q+o.n*o.sz<=c.size/\(∀i,i<o.n->(o.row i).length=o.sz) /\
  ∀i j,i<o.n->j<o.sz->∃v,c[q+(i*o.sz+j)]? = some v/\QC Z h a w (nth (o.row i) j) v
def bF(Z:Nat->Prop)(h:List Ob)(d:List Pl)(w:World)(o:Ob)(b q:Nat):Prop:=
 q=0/\o.sz=3/\∃(c:Array MapEntry) (a:Nat),w.heap[b]? = some (.map c a)/\o.n=c.size+1/\(∀i,i<o.n->(o.row i).length=3) /\
  QC Z h d w (nth (o.row 0) 0) (.int .i64 a) /\
  (∀(i:Nat) (e:MapEntry),c[i]? = some e->e.born<a/\QC Z h d w (nth (o.row (i+1)) 0) e.key/\QC Z h d w (nth (o.row (i+1)) 1) e.val/\QC Z h d w (nth (o.row (i+1)) 2) (.int .i64 e.born)) /\
  ∀(i j:Nat) (e f:MapEntry),i<j->c[i]? = some e->c[j]? = some f->e.born<f.born
def mM(Z:Nat->Prop)(h:List Ob)(d:List Pl)(w:World)(o:Ob)(b q:Nat):Prop:=
 q=0/\o.sz=1/\∃(m a c:Nat) (seen:Array Nat),w.heap[b]? = some (.mapIter (some m) a seen c)/\o.n=seen.size+3/\(∀i,i<o.n->(o.row i).length=1) /\
  QC Z h d w (nth (o.row 0) 0) (.map (some m))/\QC Z h d w (nth (o.row 1) 0) (.int .i64 a)/\QC Z h d w (nth (o.row 2) 0) (.int .i64 c) /\
  ∀(i s:Nat),seen[i]? = some s->QC Z h d w (nth (o.row (i+3)) 0) (.int .i64 s)
def Kz(Z:Nat->Prop)(h:List Ob)(a:List Pl)(w:World)(o:Ob)(b q:Nat):Prop:=match o.kd.ty with
 | 0=>NN Z h a w o b q
 | 1=>bF Z h a w o b q
 | _=>mM Z h a w o b q
def Kz.cells{h}{pl}{w}{o:Ob}{b q}(a:o.kd.ty=0)(x:Kz Z h pl w o b q):NN Z h pl w o b q:=by
 unfold Kz at x;rw[a]at x;exact x
def Kz.map{h}{a}{w}{o:Ob}{b q}(c:o.kd.ty=1)(x:Kz Z h a w o b q):bF Z h a w o b q:=by
 unfold Kz at x;rw[c]at x;exact x
def Kz.iter{h}{a}{w}{o:Ob}{b q}(c:o.kd.ty=2)(x:Kz Z h a w o b q):mM Z h a w o b q:=by
 unfold Kz at x;rw[c]at x;exact x
def Kz.NO{h}{a}{w}{o:Ob}{b q}(c:o.kd.ty=0)(x:NN Z h a w o b q):Kz Z h a w o b q:=by
 unfold Kz;rw[c];exact x
def Kz.ofMap{h}{a}{w}{o:Ob}{b q}(c:o.kd.ty=1)(x:bF Z h a w o b q):Kz Z h a w o b q:=by
 unfold Kz;rw[c];exact x
def Kz.QbD{h}{a}{w}{o:Ob}{b q}(c:o.kd.ty=2)(x:mM Z h a w o b q):Kz Z h a w o b q:=by
 unfold Kz;rw[c];exact x
def Kd.cases(k:Kd):k.ty=0\/k.ty=1\/k.ty=2:=by cases k<;>simp[Kd.ty]
def Kz.lt{h}{d}{w:World}{o}{b q}(x:Kz Z h d w o b q):b<w.heap.size:=by
 rcases o.kd.cases with hk|hk|hk
 .obtain⟨c,el,a,_⟩:=x.cells hk;exact(WL.1 a).1
 .obtain⟨_,_,c,el,a,_⟩:=x.map hk;exact(WL.1 a).1
 .obtain⟨_,_,m,s,l,e,a,_⟩:=x.iter hk;exact(WL.1 a).1
def Kz.len{h}{e}{w}{o:Ob}{b q}(x:Kz Z h e w o b q){i:Nat}(d:i<o.n):(o.row i).length=o.sz:=by
 rcases o.kd.cases with hk|hk|hk
 .obtain⟨c,el,_,_,a,_⟩:=x.cells hk;exact a i d
 .obtain⟨_,hz,c,el,_,_,a,_⟩:=x.map hk;rw[a i d,hz]
 .obtain⟨_,hz,m,s,l,f,_,_,a,_⟩:=x.iter hk;rw[a i d,hz]
def Kz.to{E}{h C}{B F}{w n}{o d:Ob}{b q}(x:Kz Z h B w o b q)(K:d.kd.ty=o.kd.ty)(l:d.sz=o.sz)(g:d.n=o.n)
  (L:n.heap[b]? = w.heap[b]?) (J:∀i,i<o.n->(d.row i).length=(o.row i).length)
  (I:∀i j v,i<o.n->j<(o.row i).length->QC Z h B w (nth (o.row i) j) v->QC E C F n (nth (d.row i) j) v):Kz E C F n d b q:=by
 rcases o.kd.cases with hm|hm|hm
 .obtain⟨c,el,y,u,f,t⟩:=x.cells hm;refine Kz.NO (by rw[K,hm]) ⟨c,el,by rw[L];exact y,by rw[g,l];exact u,λi a=>?_,λi j a p=>?_⟩
  .rw[g]at a;rw[J i a,f i a,l]
  .rw[g]at a;rw[l]at p;obtain⟨v,V,Au⟩:=t i j a p;exact⟨v,by rw[l];exact V,I i j v a (by rw[f i a];exact p) Au⟩
 .obtain⟨O,H,Y,ck,y,u,f,t,N,M⟩:=x.map hm;have up:∀i j v,i<o.n->j<3->QC Z h B w (nth (o.row i) j) v->QC E C F n (nth (d.row i) j) v:=λi j v a p r=>I i j v a (by rw[f i a];exact p) r;refine Kz.ofMap (by rw[K,hm]) ⟨O,by rw[l];exact H,Y,ck,by rw[L];exact y,by rw[g];exact u,λi a=>?_,up 0 0 _ ω ω t,λi e Q=>?_,M⟩
  .rw[g]at a;rw[J i a,f i a]
  .obtain⟨U,T,S,R⟩:=N i e Q;have a:i+1<o.n:=by have:=(WL.1 Q).1;omega
   exact⟨U,up _ 0 _ a ω T,up _ 1 _ a ω S,up _ 2 _ a ω R⟩
 .obtain⟨O,H,m,k,z,seen,y,u,f,t,N,M,W⟩:=x.iter hm;have up:∀i v,i<o.n->QC Z h B w (nth (o.row i) 0) v->QC E C F n (nth (d.row i) 0) v:=λi v a r=>I i 0 v a (by rw[f i a];omega) r;refine Kz.QbD (by rw[K,hm]) ⟨O,by rw[l];exact H,m,k,z,seen,by rw[L];exact y,by rw[g];exact u,λi a=>?_,up 0 _ ω t,up 1 _ ω N,up 2 _ ω M,λi s P=>?_⟩
  .rw[g]at a;rw[J i a,f i a]
  .exact up _ _ (by have:=(WL.1 P).1;omega) (W i s P)
structure Zl (Z:Nat->Prop) (base:Nat) (h:List Ob) (pl:List Pl) (w:World):Prop where
 len:pl.length=h.length
 inj:∀(l l':Nat) (b q q':Nat),pl[l]? = some (some (b,q))->pl[l']? = some (some (b,q'))->l=l'
 V0:∀(l:Nat) (o:Ob),h[l]? = some o->pl[l]? = some none->o.n=0
 at_:∀(l:Nat) (o:Ob) (b q:Nat),h[l]? = some o->pl[l]? = some (some (b,q))->(o.kd.ro=false->base<=b)/\Kz Z h pl w o b q
structure St where
 fr:List (Nat × D)
 h:List Ob
def get:List (Nat × D)->Nat->D
 | [],_=>.undef
 | (t,d)::r,u=>bif Nat.beq t u then d else get r u
def put:List (Nat × D)->Nat->D->List (Nat × D)
 | [],u,d=>[(u,d)]
 | (t,e)::r,u,d=>bif Nat.beq t u then (u,d)::r else (t,e)::put r u d
structure Rel (Z:Nat->Prop) (base nt:Nat) (s:St) (pl:List Pl) (a:Act) (w:World):Prop where
 nt:a.tmps.size=nt
 defers:a.defers=[]
 fr:∀t,QC Z s.h pl w (get s.fr t) (a.tmps.getD t Go.undef)
 o:Zl Z base s.h pl w
def EM(e)(u)(d)(t):get (put e u d) t=if t=u then d else get e t:=by
 induction e with
 | nil=>
  simp only[put,get];by_cases h:u=t
  .subst h;simp
  .have b:Nat.beq u t=false:=by rw[<- Yq,Wo];exact h
   rw[b,Qd (Q9 h)];rfl
 | cons x r f=>
  obtain⟨a,i⟩:=x;simp only[put];by_cases c:a=u
  .subst c;simp only[NF,wi,get];by_cases h:a=t
   .subst h;simp
   .have b:Nat.beq a t=false:=by rw[<- Yq,Wo];exact h
    rw[b,Qd (Q9 h)];rfl
  .have b:Nat.beq a u=false:=by rw[<- Yq,Wo];exact c
   rw[b];simp only[jl,get];by_cases h:a=t
   .subst h;simp[c]
   .have g:Nat.beq a t=false:=by rw[<- Yq,Wo];exact h
    rw[g];simpa using f
def KA{h:List Ob}{l}{o}(e:h[l]? = some o):l<h.length:=(Xa.1 e).1
def Wp{h:List Pl}{l}{o}(e:h[l]? = some o):l<h.length:=(Xa.1 e).1
def kO{w:World}{b}{o}(h:w.heap[b]? = some o):b<w.heap.size:=(WL.1 h).1
def Zl.lt{a:Nat}{h:List Ob}{c:List Pl}{w:World}(R:Zl Z a h c w){l b q:Nat}(e:c[l]? = some (some (b,q))):b<w.heap.size/\∀o,h[l]? = some o->o.kd.ro=false->a<=b:=by
 have f:l<h.length:=by have:=Wp e;rw[R.len]at this;exact this
 obtain⟨i,x⟩:=R.at_ l (h[l]) b q (QG f) e;exact⟨x.lt,λo d g=>by rw[QG f]at d;cases d;exact i g⟩
def Tr.ext{a}{h}{d}{w i:World}(R:Zl Z a h d w)(e:∀b,b<w.heap.size->i.heap[b]? = w.heap[b]?):Tr h d w h d i where
 Ko:=λb g Qc=>⟨g,e b Qc⟩
 obj:=λl o p j f=>⟨o,p,j,f,QB _,rfl,λ_=>⟨rfl,rfl⟩⟩
 shape:=λl o k b q j n m f c el g=>⟨c,by rw[e b (R.lt f).1];exact g,rfl⟩
def Zl.ext{a}{h}{d}{w c:World}(R:Zl Z a h d w)(e:∀b,b<w.heap.size->c.heap[b]? = w.heap[b]?):Zl Z a h d c where
 len:=R.len
 inj:=R.inj
 V0:=R.V0
 at_:=λl o b q k f=>by
  obtain⟨m,x⟩:=R.at_ l o b q k f;exact⟨m,x.to rfl rfl rfl (e b (R.lt f).1) (λ_ _=>rfl) λi j v _ _ g=>g.tr (Tr.ext R e)⟩
def Tr.refl(h)(d)(w):Tr h d w h d w where
 Ko:=λb a Qc=>⟨a,rfl⟩
 obj:=λl o p f e=>⟨o,p,f,e,QB _,rfl,λ_=>⟨rfl,rfl⟩⟩
 shape:=λl o g b q f j i e c el a=>⟨c,a,rfl⟩
def Tr.trans{h h' v}{x K N}{w m M}(T:Tr h x w h' K m)(U:Tr h' K m v N M):Tr h x w v N M where
 Ko:=λb r Qc=>by
  obtain⟨V,s⟩:=T.Ko b r Qc;have S:b<m.heap.size:=by
   rw[jK Qc]at s;exact(WL.1 s).1
  obtain⟨R,Q⟩:=U.Ko b V S;exact⟨R,by rw[Q,s]⟩
 obj:=λl o p g f=>by
  obtain⟨a,n,d,j,J,I,t⟩:=T.obj l o p g f;obtain⟨z,y,i,H,F,E,C⟩:=U.obj l a n d j;refine⟨z,y,i,H,Kv J F,by rw[E,I],λe=>?_⟩;obtain⟨u,k⟩:=t ω;obtain⟨P,O⟩:=C ω;exact⟨by rw[P,u],by rw[O,k]⟩
 shape:=λl o bG b q g L hg f c el r=>by
  obtain⟨a,n,d,j,J,I,t⟩:=T.obj l o _ g f;obtain⟨z,y,i,H,F,E,C⟩:=U.obj l a n d j;rw[L]at i;cases i;have B:a.gen=o.gen:=ω;obtain⟨u,k⟩:=t B;subst k;obtain⟨Y,d1,d2⟩:=T.shape l o a b q g d B f c el r;obtain⟨W,f1,f2⟩:=U.shape l a bG b q d L ω j Y el d1;exact⟨W,f1,ω⟩
def Rel.ext{c g}{s}{f}{a}{w d:World}(r:Rel Z c g s f a w)(e:∀b,b<w.heap.size->d.heap[b]? = w.heap[b]?):Rel Z c g s f a d:=
 ⟨r.nt,r.defers,λt=>(r.fr t).tr (Tr.ext r.o e),r.o.ext e⟩
def Qmt(a:Array Value)(d t)(v:Value)(b:d<a.size):(a.setIfInBounds d v).getD t Go.undef=if t=d then v else a.getD t Go.undef:=by
 simp only[yh,Al];by_cases h:d=t
 .subst h;simp[b]
 .rw[Qd h,Qd (Q9 h)]
def Rel.to{b nt}{s:St}{g}{a}{w}(r:Rel Z b nt s g a w){e}{f}{c}(T:Tr s.h g w e f c)(k:Zl Z b e f c)
  {t:Nat} (j:t<nt) {d:D} {v:Value} (i:QC Z e f c d v):Rel Z b nt ⟨put s.fr t d,e⟩ f (a.put (some t) v) c where
 nt:=by simp[Act.put,r.nt]
 defers:=r.defers
 fr:=λu=>by
  simp only[Act.put];rw[EM,Qmt _ _ _ _ (by rw[r.nt];exact j)];by_cases h:u=t
  .rw[Qe h,Qe h];exact i
  .rw[Qd h,Qd h];exact(r.fr u).tr T
 o:=k
def Rel.Av{b g}{s:St}{f}{a}{w}(r:Rel Z b g s f a w){d}{e}{c}(T:Tr s.h f w d e c)(h:Zl Z b d e c)
  (v:Value):Rel Z b g ⟨s.fr,d⟩ e (a.put none v) c:=
 ⟨r.nt,r.defers,λu=>(r.fr u).tr T,h⟩
def RW{a:List Pl}{p:Pl}{b:Nat}(f:Xy a b)(c:∀q,p≠some (b,q)):Xy (a++[p]) b:=λl q e=>by
 by_cases d:l<a.length
 .rw[JO d]at e;exact f l q e
 .rw[Kh ω]at e;have:l - a.length=0:=by
   have:=(Xa.1 e).1;simp at this;exact this
  rw[this]at e;simp at e;exact c q e
def BJ{a:Type}{l:List a}{x y:a}{i:Nat}(e:l[i]? = some x):(l++[y])[i]? = some x:=by
 rw[JO (Xa.1 e).1];exact e
def Yt{a:Type}{l:List a}{x y}{i}(e:(l++[y])[i]? = some x):l[i]? = some x\/(i=l.length/\x=y):=by
 by_cases b:i<l.length
 .rw[JO b]at e;exact .inl e
 .rw[Kh ω]at e;have d:=(Xa.1 e).1;simp at d;have c:i=l.length:=ω;subst c;simp at e;exact .inr ⟨rfl,e.symm⟩
def xq(w:World)(o:Obj)(b)(h:b<w.heap.size):(w.alloc o).heap[b]? = w.heap[b]? := Below.heap_alloc w o b h
def Tr.push{d:Nat}{h:List Ob}{f:List Pl}{w i:World}(R:Zl Z d h f w)(e:∀b,b<w.heap.size->i.heap[b]? = w.heap[b]?)(k:Ob)(p:Pl)(a:∀b q,p=some (b,q)->w.heap.size<=b):Tr h f w (h++[k]) (f++[p]) i where
 Ko:=λb g Qc=>⟨RW g λq m=>by have:=a b q m;omega,e b Qc⟩
 obj:=λl o p j a=>⟨o,p,BJ j,BJ a,QB _,rfl,λ_=>⟨rfl,rfl⟩⟩
 shape:=λl o n b q j s r a c el g=>⟨c,by rw[e b (R.lt a).1];exact g,rfl⟩
def Zl.RX{d}{h}{m}{w p:World}(R:Zl Z d h m w)(e:∀b,b<w.heap.size->p.heap[b]? = w.heap[b]?)(n){f r}(I:w.heap.size<=f)(H:d<=f)
  (z:Kz Z (h++[n]) (m++[some (f,r)]) p n f r):Zl Z d (h++[n]) (m++[some (f,r)]) p:=by
 have T:Tr h m w (h++[n]) (m++[some (f,r)]) p:=Tr.push R e n _ (by intro b q e;simp at e;omega);refine⟨by simp[R.len],?_,?_,?_⟩
 .intro l y b q u t E;rcases Yt t with c|⟨c,g⟩<;>rcases Yt E with a|⟨a,k⟩
  .exact R.inj l y b q u c a
  .have:=(R.lt c).1;simp at k;omega
  .have:=(R.lt a).1;simp at g;omega
  .omega
 .intro l o s t;rcases Yt t with c|⟨c,g⟩
  .rcases Yt s with a|⟨a,k⟩
   .exact R.V0 l o a c
   .have:=Wp c;have:=R.len;omega
  .simp at g
 .intro l o b q s F;rcases Yt F with c|⟨c,g⟩
  .rcases Yt s with a|⟨a,k⟩
   .obtain⟨C,x⟩:=R.at_ l o b q a c;exact⟨C,x.to rfl rfl rfl (e b (R.lt c).1) (λ_ _=>rfl) λi j v _ _ B=>B.tr T⟩
   .have:=Wp c;have:=R.len;omega
  .rcases Yt s with a|⟨a,k⟩
   .have:=KA a;have:=R.len;omega
   .subst k;simp at g;obtain⟨rfl,rfl⟩:=g;exact⟨λ_=>H,z⟩
def Zl.push{d}{h}{l}{w g:World}(R:Zl Z d h l w)(e:∀b,b<w.heap.size->g.heap[b]? = w.heap[b]?)(a:Ob)(o:a.kd.ty=0){f k}(n:w.heap.size<=f)(r:d<=f)
  {c:Array Value} {m:TypeId} (p:g.heap[f]? = some (.cells c m (0,0))) (t:k+a.n*a.sz<=c.size) (s:∀i,i<a.n->(a.row i).length=a.sz)
  (q:∀i j,i<a.n->j<a.sz->∃v,c[k+(i*a.sz+j)]? = some v/\QC Z (h++[a]) (l++[some (f,k)]) g (nth (a.row i) j) v):Zl Z d (h++[a]) (l++[some (f,k)]) g:=
 R.RX e a n r (.NO o ⟨c,m,p,t,s,q⟩)
def Zl.kP{d}{h}{g}{w}(R:Zl Z d h g w)(k:Ob)(u:k.n=0):Zl Z d (h++[k]) (g++[none]) w:=by
 have T:Tr h g w (h++[k]) (g++[none]) w:=Tr.push R (λ_ _=>rfl) k _ (by intro b q e;simp at e);refine⟨by simp[R.len],?_,?_,?_⟩
 .intro l s b q r p z;rcases Yt p with c|⟨c,m⟩
  .rcases Yt z with a|⟨a,f⟩
   .exact R.inj l s b q r c a
   .simp at f
  .simp at m
 .intro l o n p;rcases Yt n with a|⟨a,f⟩
  .rcases Yt p with c|⟨c,m⟩
   .exact R.V0 l o a c
   .have:=KA a;have:=R.len;omega
  .subst f;exact u
 .intro l o b q n B;rcases Yt B with c|⟨c,m⟩
  .rcases Yt n with a|⟨a,f⟩
   .obtain⟨y,x⟩:=R.at_ l o b q a c;exact⟨y,x.to rfl rfl rfl rfl (λ_ _=>rfl) λi j v _ _ t=>t.tr T⟩
   .have:=Wp c;have:=R.len;omega
  .simp at m
def Tr.Q4{d:Nat}{h:List Ob}{f:List Pl}{w w':World}(R:Zl Z d h f w){l:Nat}{o o':Ob}{b q:Nat}(r:h[l]? = some o)(x:f[l]? = some (some (b,q)))(z:o'.kd.ty=o.kd.ty)(E:o'.gen=o.gen)(v:o'.sz=o.sz)
  (e:∀k,k≠b->k<w.heap.size->w'.heap[k]? = w.heap[k]?) (y:∀c el,w.heap[b]? = some (.cells c el (0,0))->∃t,w'.heap[b]? = some (.cells t el (0,0))/\t.size=c.size):Tr h f w (h.set l o') f w' where
 Ko:=λk s Qc=>⟨s,e k (λg=>s l q (by rw[g];exact x)) Qc⟩
 obj:=λn m p i j=>by
  by_cases a:l=n
  .subst a;rw[r]at i;cases i;exact⟨o',p,by simp[KA r],j,ω,z,λ_=>⟨v,rfl⟩⟩
  .exact⟨m,p,by rw[JP a];exact i,j,QB _,rfl,λ_=>⟨rfl,rfl⟩⟩
 shape:=λn m C u B i F H j c el g=>by
  by_cases a:u=b
  .subst a;exact y c el g
  .exact⟨c,by rw[e u a (R.lt j).1];exact g,rfl⟩
def Zl.Qmu{c:Nat}{h:List Ob}{g:List Pl}{w p:World}(R:Zl Z c h g w){l:Nat}{o d:Ob}{b q:Nat}(z:h[l]? = some o)(r:g[l]? = some (some (b,q)))
  (T:Tr h g w (h.set l d) g p) (e:∀k,k≠b->k<w.heap.size->p.heap[k]? = w.heap[k]?) (B:Kz Z (h.set l d) g p d b q) (hro:d.kd.ro=o.kd.ro):Zl Z c (h.set l d) g p:=by
 refine⟨by simp[R.len],R.inj,?_,?_⟩
 .intro m s f a;by_cases n:l=m
  .subst n;rw[r]at a;cases a
  .rw[JP n]at f;exact R.V0 m s f a
 .intro m s u y f a;by_cases n:l=m
  .subst n;rw[r]at a;cases a;have:(h.set l d)[l]? = some d:=by simp[KA z]
   rw[this]at f;cases f;exact⟨λt=>(R.lt r).2 o z (by rw[<- hro,t]),B⟩
  .rw[JP n]at f;obtain⟨C,x⟩:=R.at_ m s u y f a;have E:u≠b:=λF=>n (R.inj l m b q y r (by rw[<- F];exact a));exact⟨C,x.to rfl rfl rfl (e u E (R.lt a).1) (λ_ _=>rfl) λi j v _ _ t=>t.tr T⟩
def Zl.Q4{a:Nat}{h:List Ob}{d:List Pl}{w w':World}(R:Zl Z a h d w){l:Nat}{o o':Ob}{b q:Nat}(m:h[l]? = some o)(g:d[l]? = some (some (b,q)))(u:o.kd.ty=0)(s:o'.kd.ty=0)(x:o'.gen=o.gen)(t:o'.sz=o.sz)
  (e:∀k,k≠b->k<w.heap.size->w'.heap[k]? = w.heap[k]?) {r c:Array Value} {f:TypeId} (z:w.heap[b]? = some (.cells r f (0,0))) (n:w'.heap[b]? = some (.cells c f (0,0))) (y:c.size=r.size)
  (E:q+o'.n*o'.sz<=c.size) (C:∀i,i<o'.n->(o'.row i).length=o'.sz)
  (B:∀i j,i<o'.n->j<o'.sz->∃v,c[q+(i*o'.sz+j)]? = some v/\QC Z (h.set l o') d w' (nth (o'.row i) j) v) (hro:o'.kd.ro=o.kd.ro):Zl Z a (h.set l o') d w':=
 R.Qmu (hro:=hro) m g (Tr.Q4 R m g (by rw[u,s]) x t e (λH F p=>by rw[z]at p;cases p;exact⟨c,n,y⟩)) e (.NO s ⟨c,f,n,E,C,B⟩)
variable {Z:Nat->Prop}
inductive TK where
 | int (k:IntKind)|bool|str|slice (e:TypeId)|array (n:Nat) (e:TypeId)|struct (fs:List (Nat × TypeId))|ptr (e:TypeId)|map (k e:TypeId)|fn|iface|other
def TK.of:TypeDesc->TK
 | .int k=>.int k
 | .bool=>.bool
 | .string=>.str
 | .slice e=>.slice e
 | .array n e=>.array n e
 | .struct a=>.struct (a.toList.map λf=>(f.offset,f.type))
 | .pointer e=>.ptr e
 | .map k e=>.map k e
 | .func _ _ _=>.fn
 | .interface _=>.iface
 | _=>.other
structure Ty where
 k:TK
 size:Nat
 bytes:Nat
 zero:List Value
def TK.agg:TK->Bool
 | .struct _ | .array _ _=>true
 | _=>false
def bH:Value->Bool
 | .agg _=>true
 | _=>false
structure Xc (P:Program) (t:TypeId) (y:Ty):Prop where
 k:(P.underlying t).map TK.of=some y.k
 info:(P.info? t).map (λi=>(i.size,i.bytes,i.zero.map λz=>z.cells.toList))=some (y.size,y.bytes,some y.zero)
 zag:((P.info? t).bind (·.zero)).map bH=some y.k.agg
abbrev Je:=List (TypeId × Ty)
def ty:Je->TypeId->Option Ty
 | [],_=>none
 | (u,y)::r,t=>bif Nat.beq u t then some y else ty r t
def Z9(P:Program)(L:Je):Prop:=∀t y,ty L t=some y->Xc P t y
def Z9.nil(P):Z9 P []:=λ_ _ h=>by simp[ty]at h
def Z9.cons{P}{L}{t:TypeId}{y}(h:Xc P t y)(r:Z9 P L):Z9 P ((t,y)::L):=λu z e=>by
 simp only[ty]at e;by_cases a:t=u
 .subst a;simp at e;subst e;exact h
 .have:Nat.beq t u=false:=by rw[<- Yq,Wo];exact a
  rw[this]at e;exact r u z e
section
variable {P:Program}{t:TypeId}{y:Ty}(h:Xc P t y)
include h
theorem Xc.under:∃d,P.underlying t=some d/\TK.of d=y.k:=by
 have:=h.k;cases a:P.underlying t with
 | none=>rw[a]at this;cases this
 | some d=>rw[a]at this;exact⟨d,rfl,by simpa using this⟩
theorem Xc.sizeOf(w):(Go.sizeOf t).run P w=.ok y.size w:=by
 have:=h.info;cases a:P.info? t with
 | none=>rw[a]at this;cases this
 | some i=>
  rw[a]at this;simp at this;simp[Go.sizeOf,typeInfo,a,this.1]
theorem Xc.typeInfo(w):∃i,(Go.typeInfo t).run P w=.ok i w/\i.size=y.size/\i.bytes=y.bytes:=by
 have:=h.info;cases a:P.info? t with
 | none=>rw[a]at this;cases this
 | some i=>
  rw[a]at this;simp at this;exact⟨i,by simp[Go.typeInfo,a],this.1,this.2.1⟩
theorem Xc.zeroValue:∃z,z.cells.toList=y.zero/\∀w,(Go.zeroValue t).run P w=.ok z w:=by
 have:=h.info;cases a:P.info? t with
 | none=>rw[a]at this;cases this
 | some i=>
  rw[a]at this;simp at this;obtain⟨_,_,z,hz,b⟩:=this;exact⟨z,b,λw=>by simp[Go.zeroValue,Go.typeInfo,a,hz]⟩
theorem Xc.isAgg(w):(Go.isAgg t).run P w=.ok y.k.agg w:=by
 obtain⟨d,b,a⟩:=h.under;rw[<- a];cases d<;>simp[Go.isAgg,run_underlying b,TK.of,TK.agg]
end
def TK.of_slice{d:TypeDesc}{e:TypeId}(h:TK.of d=.slice e):d=.slice e:=by cases d<;>simp[TK.of]at h;rw[h]
def TK.of_array{d:TypeDesc}{n}{e:TypeId}(h:TK.of d=.array n e):d=.array n e:=by cases d<;>simp[TK.of]at h;rw[h.1,h.2]
def TK.of_struct{d:TypeDesc}{a:List (Nat × TypeId)}(h:TK.of d=.struct a):∃g,d=.struct g/\g.toList.map (λf=>(f.offset,f.type))=a:=by cases d<;>simp[TK.of]at h;exact⟨_,rfl,by simpa using h⟩
def TK.of_int{d:TypeDesc}{k}(h:TK.of d=.int k):d=.int k:=by cases d<;>simp[TK.of]at h;rw[h]
def TK.of_bool{d:TypeDesc}(h:TK.of d=.bool):d=.bool:=by cases d<;>simp[TK.of]at h;rfl
def TK.Qmw{d:TypeDesc}(h:TK.of d=.str):d=.string:=by cases d<;>simp[TK.of]at h;rfl
def TK.Qmx{d:TypeDesc}{e:TypeId}(h:TK.of d=.ptr e):d=.pointer e:=by cases d<;>simp[TK.of]at h;rw[h]
def TK.of_map{d:TypeDesc}{k e:TypeId}(h:TK.of d=.map k e):d=.map k e:=by cases d<;>simp[TK.of]at h;rw[h.1,h.2]
def ym{P:Program}{t e:TypeId}{y:Ty}(h:Xc P t y)(b:y.k=.slice e):P.underlying t=some (.slice e):=by
 obtain⟨d,c,a⟩:=h.under;rw[b]at a;rw[c,TK.of_slice a]
def mQ{P:Program}{t e:TypeId}{n}{y:Ty}(h:Xc P t y)(b:y.k=.array n e):P.underlying t=some (.array n e):=by
 obtain⟨d,c,a⟩:=h.under;rw[b]at a;rw[c,TK.of_array a]
def QbE{P:Program}{t:TypeId}{b:List (Nat × TypeId)}{y:Ty}(h:Xc P t y)(e:y.k=.struct b):∃g,P.underlying t=some (.struct g)/\g.toList.map (λf=>(f.offset,f.type))=b:=by
 obtain⟨d,j,a⟩:=h.under;rw[e]at a;obtain⟨g,i,c⟩:=TK.of_struct a;exact⟨g,by rw[j,i],c⟩
def Dh{P:Program}{t:TypeId}{k}{y:Ty}(h:Xc P t y)(b:y.k=.int k):P.underlying t=some (.int k):=by
 obtain⟨d,c,a⟩:=h.under;rw[b]at a;rw[c,TK.of_int a]
def Qmy{P:Program}{t:TypeId}{y:Ty}(h:Xc P t y)(b:y.k=.bool):P.underlying t=some .bool:=by
 obtain⟨d,c,a⟩:=h.under;rw[b]at a;rw[c,TK.of_bool a]
def RY{P:Program}{t:TypeId}{y:Ty}(h:Xc P t y)(b:y.k=.str):P.underlying t=some .string:=by
 obtain⟨d,c,a⟩:=h.under;rw[b]at a;rw[c,TK.Qmw a]
def Qmz{P:Program}{t e:TypeId}{y:Ty}(h:Xc P t y)(b:y.k=.ptr e):P.underlying t=some (.pointer e):=by
 obtain⟨d,c,a⟩:=h.under;rw[b]at a;rw[c,TK.Qmx a]
def EN{P:Program}{t k e:TypeId}{y:Ty}(h:Xc P t y)(b:y.k=.map k e):P.underlying t=some (.map k e):=by
 obtain⟨d,c,a⟩:=h.under;rw[b]at a;rw[c,TK.of_map a]
def J8:Value->D
 | .slice none 0 0=>.nil
 | v=>.raw v
def YG:Value->D
 | .agg a=>.agg (a.toList.map J8)
 | v=>J8 v
def Qq(a:List (Nat × D)):Operand->D
 | .tmp t=>get a t
 | .const v=>YG v
 | .global _=>.undef
 | .func f=>.raw (.func (.func f) #[] #[])
def Di(N)(w)(v):Cl N w (J8 v) v:=by
 unfold J8;split
 .exact .nil none
 .exact .raw _
def QmA(N)(w)(v):Cl N w (YG v) v:=by
 unfold YG;split
 .rename_i a;have:=Cl.agg (N:=N) (w:=w) (a.toList.map J8) a.toList σ (λi b=>by
   have c:i<a.size:=by simpa using b
   simp only[nth,Q7,QY,KP];rw[QG (by simpa using c)];exact Di N w _)
  simpa using this
 .exact Di N w _
def Rel.eval{b d}{s:St}{c}{a:Act}{w}(r:Rel Z b d s c a w)(x):QC Z s.h c w (Qq s.fr x) (a.eval x):=by
 cases x with
 | tmp t=>exact r.fr t
 | const v=>exact .cl _ _ (QmA _ _ v)
 | global g=>exact .cl _ _ (.undef _)
 | func f=>exact .cl _ _ (.raw _)
section
variable {h:List Ob}{pl:List Pl}{w:World}{v:Value}
def Jt{u}(r:QC Z h pl w (.raw u) v):v=u:=by
 cases r with|cl _ _ a=>cases a;rfl
def Ax(r:QC Z h pl w .nil v):∃a,v=.slice a 0 0:=by
 cases r with|cl _ _ b=>cases b;exact⟨_,rfl⟩
def EO{l g d c}(r:QC Z h pl w (.ref l g d c) v):∃o p a b,v=.slice a c b/\h[l]? = some o/\pl[l]? = some p/\o.kd.ty=0/\g<=o.gen/\(g=o.gen->QbC w o.sz p d c a b):=by
 cases r with
 | cl _ _ m=>cases m
 | ref _ _ _ _ o p a b i f j k e=>exact⟨o,p,a,b,rfl,i,f,j,k,e⟩
def EP{l g i j}(r:QC Z h pl w (.ptr l g i j) v):∃o p a,v=.pointer (some a)/\h[l]? = some o/\pl[l]? = some p/\o.kd.ty=0/\g<=o.gen/\(g=o.gen->∃b q,p=some (b,q)/\a=⟨b,q+(i*o.sz+j),none⟩):=by
 cases r with
 | cl _ _ m=>cases m
 | ptr _ _ _ _ o p a e d f k c=>exact⟨o,p,a,rfl,e,d,f,k,c⟩
def GG{l g}(r:QC Z h pl w (.mref l g) v):∃o p b,h[l]? = some o/\pl[l]? = some p/\MOk o.kd.ty b v/\g<=o.gen/\(g=o.gen->p=some (b,0)):=by
 cases r with
 | cl _ _ i=>cases i
 | mref _ _ o p b d c e f a=>exact⟨o,p,b,d,c,e,f,a⟩
def IW{b:List D}(r:QC Z h pl w (.agg b) v):∃a:List Value,v=.agg a.toArray/\a.length=b.length/\∀i,i<b.length->QC Z h pl w (nth b i) (Q7 a i):=by
 cases r with
 | cl _ _ f=>cases f with|agg _ a d c=>exact⟨a,rfl,d,λi e=>.cl _ _ (c i e)⟩
 | agg _ a d c=>exact⟨a,rfl,d,c⟩
def QmB{b:List D}(r:QC Z h pl w (.tup b) v):∃a:List Value,v=.tuple a.toArray/\a.length=b.length/\∀i,i<b.length->QC Z h pl w (nth b i) (Q7 a i):=by
 cases r with
 | cl _ _ f=>cases f with|tup _ a d c=>exact⟨a,rfl,d,λi e=>.cl _ _ (c i e)⟩
 | tup _ a d c=>exact⟨a,rfl,d,c⟩
def mR{f}{c:Nat}{b:List D}(r:QC Z h pl w (.clo f c b) v):∃a:List Value,v=.func (.func f) (a.take c).toArray (a.drop c).toArray/\a.length=b.length/\∀i,i<b.length->QC Z h pl w (nth b i) (Q7 a i):=by
 cases r with
 | cl _ _ j=>cases j with|clo _ _ _ a e d=>exact⟨a,rfl,e,λi g=>.cl _ _ (d i g)⟩
 | clo _ _ _ a e d=>exact⟨a,rfl,e,d⟩
def IX{d:List D}(r:QC Z h pl w (.ip d) v):∃b o,∃a:Nat->Value,v=.pointer (some ⟨b,o,none⟩)/\∀j,j<d.length->(free Z pl b/\w.cell? ⟨b,o+j,none⟩=some (a j))/\Cl (free Z pl) w (nth d j) (a j):=by
 cases r with
 | cl _ _ c=>cases c with|ip _ b o a c f=>exact⟨b,o,a,rfl,λj e=>⟨c j e,f j e⟩⟩
def RZ{f n}{d}(r:QC Z h pl w (.imm f n d) v):∃a c b o,∃e:Nat->Nat->Value,v=.slice a n c/\(0<n->a=some ⟨b,o,none⟩)/\n<=c/\(∀i,i<n->(d i).length=f) /\
  ∀i j,i<n->j<f->(free Z pl b/\w.cell? ⟨b,o+(i*f+j),none⟩=some (e i j))/\Cl (free Z pl) w (nth (d i) j) (e i j):=by
 cases r with
 | cl _ _ g=>cases g with|imm _ _ _ a c b o e s q m g p=>exact⟨a,c,b,o,e,rfl,s,q,m,λi j l k=>⟨g i j l k,p i j l k⟩⟩
end
def WA(P:Program)(c g:Nat)(o:Oper)(s:St)(d:D):Prop:=
 ∀(Z:Nat->Prop) f a w,Rel Z c g s f a w->∃v,QC Z s.h f w d v/\∀e:World,(∀b,b<w.heap.size->e.heap[b]? = w.heap[b]?)->(execOp a.eval o).run P e=.ok (.value v) e
def QmC{w c:World}(e:∀b,b<w.heap.size->c.heap[b]? = w.heap[b]?){a}{v}(h:w.cell? a=some v):c.cell? a=some v:=by
 rw[World.cell?_of_block (w:=w) (e a.block (block_lt_of_cell h))];exact h
def jO(w b:World):Prop:=∀(a:Addr) (v:Value),w.cell? a=some v->b.cell? a=some v
def jO.trans{a b c}(h:jO a b)(k:jO b c):jO a c:=λx v hx=>k x v (h x v hx)
def jO.ext{w a:World}(e:∀b,b<w.heap.size->a.heap[b]? = w.heap[b]?):jO w a:=λ_ _ h=>QmC e h
def bI(P:Program)(b f:Nat)(o:Oper)(s:St)(d:D):Prop:=
 ∀(Z:Nat->Prop) e a w,Rel Z b f s e a w->∃v,QC Z s.h e w d v/\∀c:World,jO w c->(execOp a.eval o).run P c=.ok (.value v) c
def bI.up{P}{b c}{o}{s}{d}(h:bI P b c o s d):WA P b c o s d:=λZ g a w r=>by
 obtain⟨v,j,i⟩:=h Z g a w r;exact⟨v,j,λf e=>i f (.ext e)⟩
abbrev Ev:=Option (Prop × D)
def bJ(c:BinOp)(k:IntKind)(a b:Int):Ev:=
 match c with
 | .add=>some (True,.raw (.int k (k.wrap (a+b))))
 | .sub=>some (True,.raw (.int k (k.wrap (a - b))))
 | .mul=>some (True,.raw (.int k (k.wrap (a*b))))
 | .quo=>some (b≠0,.raw (.int k (k.wrap (a.tdiv b))))
 | .rem=>some (b≠0,.raw (.int k (a.tmod b)))
 | .and=>some (True,.raw (.int k (bits .and k a b)))
 | .or=>some (True,.raw (.int k (bits .or k a b)))
 | .xor=>some (True,.raw (.int k (bits .xor k a b)))
 | .andNot=>some (True,.raw (.int k (bits .andNot k a b)))
 | .eql=>some (True,.raw (.bool (a==b)))
 | .neq=>some (True,.raw (.bool (a != b)))
 | .lss=>some (True,.raw (.bool (decide (a<b))))
 | .leq=>some (True,.raw (.bool (decide (a<=b))))
 | .gtr=>some (True,.raw (.bool (decide (b<a))))
 | .geq=>some (True,.raw (.bool (decide (b<=a))))
 | _=>none
def bK(c:BinOp)(k:IntKind)(a b:Int):Ev:=
 match c with
 | .shl=>some (0<=b,.raw (.int k (k.wrap (a*2 ^ (min b.toNat k.bits)))))
 | .shr=>some (0<=b,.raw (.int k (a.fdiv (2 ^ (min b.toNat k.bits)))))
 | _=>none
def IntKind.same:IntKind->IntKind->Bool
 | .i8,.i8 | .i16,.i16 | .i32,.i32 | .i64,.i64 | .u8,.u8 | .u16,.u16 | .u32,.u32 | .u64,.u64=>true
 | _,_=>false
def IntKind.mS{k a}(h:IntKind.same k a=true):k=a:=by cases k<;>cases a<;>first|rfl|cases h
def mT:BinOp->Bool
 | .shl | .shr=>true
 | _=>false
def bL(c:BinOp)(a b:Bool):Ev:=
 match c with
 | .eql=>some (True,.raw (.bool (a==b)))
 | .neq=>some (True,.raw (.bool (a != b)))
 | _=>none
def bM(c:BinOp)(a b:ByteArray):Ev:=
 match c with
 | .add=>some (a.size+b.size<=9223372036854775807,.raw (.string (a++b)))
 | .eql=>some (True,.raw (.bool (a.toList==b.toList)))
 | .neq=>some (True,.raw (.bool (!(a.toList==b.toList))))
 | .lss=>some (True,.raw (.bool (Op.bytesLess a.toList b.toList)))
 | _=>none
def GH(b:BinOp)(a:Bool):Ev:=
 match b with
 | .eql=>some (True,.raw (.bool a))
 | .neq=>some (True,.raw (.bool (!a)))
 | _=>none
def GI(L:Je)(t:TypeId):Bool:=match ty L t with|some ⟨.ptr _,_,_,_⟩=>true|_=>false
def bO(L:Je)(t:TypeId):Bool:=match ty L t with|some ⟨.bool,_,_,_⟩=>true|_=>false
def bT(L:Je)(c:BinOp)(t:TypeId):D->D->Ev
 | .raw (.int k a),.raw (.int d b)=>bif mT c then bK c k a b else bif IntKind.same k d then bJ c k a b else none
 | .raw (.bool a),.raw (.bool b)=>bif bO L t then bL c a b else none
 | .raw (.string a),.raw (.string b)=>bM c a b
 | .raw (.pointer none),.raw (.pointer none)=>bif GI L t then GH c true else none
 | .ptr _ _ _ _,.raw (.pointer none)=>bif GI L t then GH c false else none
 | .ip _,.raw (.pointer none)=>bif GI L t then GH c false else none
 | .raw (.pointer none),.ptr _ _ _ _=>bif GI L t then GH c false else none
 | .raw (.pointer none),.ip _=>bif GI L t then GH c false else none
 | _,_=>none
def QmD(P)(w){s:Sem Value}{v}(h:s.run P w=.ok v w):(do pure (Next.value (<- s)):Sem Next).run P w=.ok (.value v) w:=by
 simp[h]
def QmE{P}{c}{k}{a b}{p}{d}(t)(h:bJ c k a b=some (p,d))(e:p):∃v,d=.raw v/\∀w,(Go.binOp c t (.int k a) (.int k b)).run P w=.ok v w:=by
 cases c<;>simp only[bJ,Q6,Ze,reduceCtorEq]at h<;>obtain⟨rfl,rfl⟩:=h<;>refine⟨_,rfl,λw=>?_⟩ <;>
  simp_all[Go.binOp,Op.intArith,Op.intDiv,Op.intBits,Op.intCmp,bits]
def QmF{P}{c}{k e}{a b}{p}{d}(t)(h:bK c k a b=some (p,d))(f:p):∃v,d=.raw v/\∀w,(Go.binOp c t (.int k a) (.int e b)).run P w=.ok v w:=by
 cases c<;>simp only[bK,Q6,Ze,reduceCtorEq]at h<;>obtain⟨rfl,rfl⟩:=h<;>refine⟨_,rfl,λw=>?_⟩ <;>
  (have:¬ b<0:=ω
   simp[Go.binOp,Op.shift,this])
def QmG{P}{c}{a b}{p}{d}(t)(h:bM c a b=some (p,d))(e:p):∃v,d=.raw v/\∀w,(Go.binOp c t (.string a) (.string b)).run P w=.ok v w:=by
 cases c<;>simp only[bM,Q6,Ze,reduceCtorEq]at h<;>obtain⟨rfl,rfl⟩:=h<;>refine⟨_,rfl,λw=>?_⟩ <;>
  simp[Go.binOp,Op.stringOp]
 omega
def QmH{P:Program}{t e:TypeId}(a:P.underlying t=some (.pointer e))(n){x y:Option Addr}(b:x=none\/y=none)(w):(Op.equalIn (n+1) t (.pointer x) (.pointer y)).run P w=.ok (x.isNone&&y.isNone) w:=by
 rcases b with rfl|rfl
 .simp[Op.equalIn,run_underlying a]
 .cases x<;>simp[Op.equalIn,run_underlying a]
def mU{P}{t:TypeId}{x y:Value}{b}{w}(a:∀n,(Op.equalIn (n+1) t x y).run P w=.ok b w):(Op.equal t x y).run P w=.ok b w:=a 9999
def QmI{P:Program}{c}{a b}{p}{d}(t)(f:P.underlying t=some .bool)(h:bL c a b=some (p,d)):∃v,d=.raw v/\∀w,(Go.binOp c t (.bool a) (.bool b)).run P w=.ok v w:=by
 have e:∀w,(Op.equal t (.bool a) (.bool b)).run P w=.ok (a==b) w:=λw=>mU λn=>run_equalIn_bool' w n t a b f;cases c<;>simp only[bL,Q6,Ze,reduceCtorEq]at h<;>obtain⟨rfl,rfl⟩:=h<;>refine⟨_,rfl,λw=>?_⟩<;>simp only[Go.binOp]
 .simp[e]
 .simp[e,bne]
def R0{P:Program}{a}{x y:Option Addr}(c:x=none\/y=none){p}{d}{t e:TypeId}(f:P.underlying t=some (.pointer e))(h:GH a (x.isNone&&y.isNone)=some (p,d)):∃v,d=.raw v/\∀w,(Go.binOp a t (.pointer x) (.pointer y)).run P w=.ok v w:=by
 have b:∀w,(Op.equal t (.pointer x) (.pointer y)).run P w=.ok (x.isNone&&y.isNone) w:=λw=>mU λn=>QmH f n c w;cases a<;>simp only[GH,Q6,Ze,reduceCtorEq]at h<;>obtain⟨rfl,rfl⟩:=h<;>refine⟨_,rfl,λw=>?_⟩<;>simp only[Go.binOp]
 .simp[b]
 .simp[b]
def R3{P:Program}{L}(b:Z9 P L){t:TypeId}(h:GI L t=true):∃e,P.underlying t=some (.pointer e):=by
 unfold GI at h;split at h
 .rename_i e _ _ _ a;exact⟨e,Qmz (b _ _ a) rfl⟩
 .cases h
def QmJ{P:Program}{L}(b:Z9 P L){t:TypeId}(h:bO L t=true):P.underlying t=some .bool:=by
 unfold bO at h;split at h
 .rename_i a;exact Qmy (b _ _ a) rfl
 .cases h
def jP{a:Type}{c:Bool}{x:Option a}{y:a}(h:(bif c then x else none)=some y):c=true/\x=some y:=by cases c<;>simp at h;exact⟨rfl,h⟩
def QmK{P}{L}(q:Z9 P L){z M}{s}{o:Oper}{f}{t J:TypeId}{x y}(N:o.op=.binOp f t x y J){p}{d}
  (h:bT L f t (Qq s.fr x) (Qq s.fr y)=some (p,d)) (E:p):WA P z M o s d:=by
 intro Z K a w r;have hx:=r.eval x;have n:=r.eval y;generalize Qq s.fr x=W at *;generalize Qq s.fr y=V at *;have c:∀(C B:Value),a.eval x=C->a.eval y=B->(∀w,(eqGuard f t x y C B).run P w=.ok () w)->(∃v,d=.raw v/\∀w,(Go.binOp f t C B).run P w=.ok v w) ->
   ∃v,QC Z s.h K w d v/\∀u:World,(∀b,b<w.heap.size->u.heap[b]? = w.heap[b]?)->(execOp a.eval o).run P u=.ok (.value v) u:=by
  intro C B H F Q ⟨v,R,l⟩;refine⟨v,R▸.cl _ _ (.raw v),λu _=>?_⟩;simp only[execOp,N,H,F];refine QmD P u ?_;simp[Q,l]
 unfold bT at h;split at h
 .rename_i k i U j;have H:=Jt hx;have F:=Jt n;refine c _ _ H F (λw=>by cases f<;>simp[eqGuard]) ?_;cases I:mT f
  .rw[I]at h;simp only[jl]at h;obtain⟨O,S⟩:=jP h;have:=IntKind.mS O;subst this;exact QmE t S E
  .rw[I]at h;exact QmF t h E
 .obtain⟨g,h⟩:=jP h;exact c _ _ (Jt hx) (Jt n) (λw=>by cases f<;>simp[eqGuard]) (QmI t (QmJ q g) h)
 .exact c _ _ (Jt hx) (Jt n) (λw=>by cases f<;>simp[eqGuard]) (QmG t h E)
 .obtain⟨g,h⟩:=jP h;obtain⟨e,m⟩:=R3 q g;exact c _ _ (Jt hx) (Jt n) (λw=>by cases f<;>simp[eqGuard]) (R0 (.inl rfl) m h)
 .obtain⟨g,h⟩:=jP h;obtain⟨e,m⟩:=R3 q g;obtain⟨_,_,T,l,_⟩:=EP hx;exact c _ _ l (Jt n) (λw=>by cases f<;>simp[eqGuard]) (R0 (.inr rfl) m h)
 .obtain⟨g,h⟩:=jP h;obtain⟨e,m⟩:=R3 q g;obtain⟨_,_,_,l,_⟩:=IX hx;exact c _ _ l (Jt n) (λw=>by cases f<;>simp[eqGuard]) (R0 (.inr rfl) m h)
 .obtain⟨g,h⟩:=jP h;obtain⟨e,m⟩:=R3 q g;obtain⟨_,_,T,l,_⟩:=EP n;exact c _ _ (Jt hx) l (λw=>by cases f<;>simp[eqGuard]) (R0 (.inl rfl) m h)
 .obtain⟨g,h⟩:=jP h;obtain⟨e,m⟩:=R3 q g;obtain⟨_,_,_,l,_⟩:=IX n;exact c _ _ (Jt hx) l (λw=>by cases f<;>simp[eqGuard]) (R0 (.inl rfl) m h)
 .cases h
variable {Z:Nat->Prop}
section
variable {P:Program}{L:Je}{base nt:Nat}{s:St}{o:Oper}
def QbF{x}(ho:o.op=.move x\/o.op=.assign x):WA P base nt o s (Qq s.fr x):=by
 intro Z c a w r;refine⟨_,r.eval x,λb _=>?_⟩;rcases ho with ho|ho<;>simp[execOp,ho]
def QmL{c x y}(d:o.op=.pick c x y){b}(g:Qq s.fr c=.raw (.bool b)):WA P base nt o s (bif b then Qq s.fr x else Qq s.fr y):=by
 intro Z i a w r;have h:=r.eval c;rw[g]at h;have e:=Jt h;cases b
 .exact⟨_,r.eval y,λf _=>by simp[execOp,d,e,asBool]⟩
 .exact⟨_,r.eval x,λf _=>by simp[execOp,d,e,asBool]⟩
def mk(y:Ty)(a:List D):D:=bif y.k.agg then .agg (a.take y.size) else nth a 0
def Dj(y:Ty):D:=bif y.k.agg then .agg (y.zero.map J8) else nth (y.zero.map J8) 0
def mV{P}{t:TypeId}{y}(h:Xc P t y){N}(w):∃z,Cl N w (Dj y) z/\∀e,(Go.zeroValue t).run P e=.ok z e:=by
 have b:=h.info;have d:=h.zag;cases a:P.info? t with
 | none=>rw[a]at b;cases b
 | some i=>
  rw[a]at b d;simp at b;obtain⟨_,_,z,hz,f⟩:=b;simp[hz]at d;refine⟨z,?_,λw=>by simp[Go.zeroValue,Go.typeInfo,a,hz]⟩;unfold Dj;rw[<- d,<- f];cases z with
  | agg c=>
   simp only[bH,wi];refine .agg _ c.toList (by simp[Value.cells]) λi a=>?_;have j:i<c.size:=by simpa[Value.cells] using a
   have g:nth ((Value.agg c).cells.toList.map J8) i=J8 (Q7 c.toList i):=by
    simp[nth,Q7,Value.cells,QY,j]
   rw[g];exact Di N w _
  | _=>simp only[bH,jl,Value.cells,nth,JQ,List.map_nil,List.getD_cons_zero];exact Di N w _
def mW{a:List D}{k i}(h:i<k):nth (a.take k) i=nth a i:=by
 simp only[nth,QY,XK,h,Vp]
def GJ{a:List D}{k i}:nth (a.drop k) i=nth a (k+i):=by
 simp only[nth,QY,Gy]
def QbG{t:TypeId}{y:Ty}(e:Xc P t y)(w:World)(c:Addr)(a:List D){h:List Ob}{pl:List Pl}(p:World)(B:y.size<=a.length)(x:y.k.agg=false->y.size=1)
  (l:∀j,j<y.size->∃v,w.cell? (c.add j)=some v/\QC Z h pl p (nth a j) v) :
  ∃v,QC Z h pl p (mk y a) v/\∀b,(∀j v,j<y.size->w.cell? (c.add j)=some v->b.cell? (c.add j)=some v)->(loadVar t c).run P b=.ok v b:=by
 unfold mk;cases k:y.k.agg
 .have z:=x k;obtain⟨v,d,g⟩:=l 0 ω;refine⟨v,g,λb m=>?_⟩;have:=m 0 v ω d;simp only[Addr.add_zero']at this;simp[loadVar,e.isAgg,k,this]
 .let f:Nat->Value:=λj=>(w.cell? (c.add j)).getD Go.undef;refine⟨.agg ((List.range y.size).map f).toArray,.agg _ _ ξ (λi u=>?_),λb m=>?_⟩
  .have n:i<y.size:=by simp at u;omega
   obtain⟨v,d,g⟩:=l i n;rw[mW n];have:Q7 ((List.range y.size).map f) i=v:=by
    simp[Q7,QY,n,f,d]
   rw[this];exact g
  .have r:(loadCells c y.size).run P b=.ok ((List.range y.size).map f).toArray b:=run_loadCells b c y.size f (λj q=>by
    obtain⟨v,d,_⟩:=l j q;rw[m j v q d];simp[f,d])
   simp[loadVar,e.isAgg,k,e.sizeOf,r]
def IY(L:Je)(h:List Ob)(t:TypeId)(d:D):Ev:=
 match ty L t with
 | none=>none
 | some y=>
  match d with
  | .ptr l g i j=>match h[l]? with
   | some o=>some (g=o.gen/\i<o.n/\j+y.size<=o.sz/\(y.k.agg=false->y.size=1),mk y ((o.row i).drop j))
   | none=>none
  | .ip a=>some (y.size<=a.length/\(y.k.agg=false->y.size=1),mk y a)
  | _=>none
def Ay(b o n):(⟨b,o,none⟩:Addr).add n=⟨b,o+n,none⟩:=Addr.add_lit b o n
def QbH(W:Z9 P L){t:TypeId}{x}(K:o.op=.load t x){p}{d}(h:IY L s.h t (Qq s.fr x)=some (p,d))(J:p):bI P base nt o s d:=by
 intro Z H a w r;have hx:=r.eval x;unfold IY at h;cases B:ty L t with
 | none=>rw[B]at h;cases h
 | some y=>
  have I:=W t y B;rw[B]at h;dsimp only at h;generalize Qq s.fr x=dx at *;split at h
  .rename_i l g i j;split at h
   .rename_i z N;simp only[Q6,Ze]at h;obtain⟨rfl,rfl⟩:=h;obtain⟨T,M,hj,E⟩:=J;obtain⟨o',p',ad,f,O,Z2,ZK,kN,Vq⟩:=EP hx;rw[N]at O;cases O;obtain⟨b,q,rfl,rfl⟩:=Vq T;obtain⟨Q5,R⟩:=r.o.at_ l z b q N Z2;obtain⟨c,el,V,Q,JS,ZU⟩:=R.cells ZK;obtain⟨v,n,F⟩:=QbG I w ⟨b,q+(i*z.sz+j),none⟩ ((z.row i).drop j) (h:=s.h) (pl:=H) w (by simp[JS i M];omega) E (λk C=>by
     obtain⟨v,f,n⟩:=ZU i (j+k) M ω;refine⟨v,?_,by rw[GJ];exact n⟩;rw[Ay,cell_of_row w b _ c el (0,0) V,<- f];congr 1;omega)
    refine⟨v,n,λu e=>?_⟩;have:=F u (λk v C f=>e _ _ f);simp[execOp,K,f,Instr.loadAt,Instr.sureAddr,this]
   .cases h
  .rename_i m;simp only[Q6,Ze]at h;obtain⟨rfl,rfl⟩:=h;obtain⟨Q,E⟩:=J;obtain⟨b,q,S,f,U⟩:=IX hx;obtain⟨v,n,F⟩:=QbG I w ⟨b,q,none⟩ m (h:=s.h) (pl:=H) w Q E (λk C=>by
    obtain⟨⟨_,h2⟩,Y⟩:=U k ω;exact⟨S k,by rw[Ay];exact h2,.cl _ _ Y⟩)
   refine⟨v,n,λu e=>?_⟩;have:=F u (λk v C f=>e _ _ f);simp[execOp,K,f,Instr.loadAt,Instr.sureAddr,this]
  .cases h
def QbI(c:Z9 P L){t:TypeId}{x}(b:o.op=.load t x){p}{d}(h:IY L s.h t (Qq s.fr x)=some (p,d))(a:p):WA P base nt o s d:=(QbH c b h a).up
def NQ(L:Je)(t:TypeId)(f:Nat):Option (Nat × Ty):=
 match ty L t with
 | some ⟨.struct b,_,_,_⟩=>match b[f]? with
  | some (a,u)=>match ty L u with
   | some y=>some (a,y)
   | none=>none
  | none=>none
 | _=>none
def mX(d:Z9 P L){t:TypeId}{f b}{y}(h:NQ L t f=some (b,y)):∃g a,P.underlying t=some (.struct g)/\g[f]? = some a/\a.offset=b/\Xc P a.type y:=by
 unfold NQ at h;split at h
 .rename_i r _ _ _ k;split at h
  .rename_i q u c;split at h
   .rename_i p e;simp only[Q6,Ze]at h;obtain⟨rfl,rfl⟩:=h;obtain⟨g,j,i⟩:=QbE (d _ _ k) rfl;rw[<- i]at c;simp only[KP,X3,Ze]at c;obtain⟨a,n,m,l⟩:=c;exact⟨g,a,j,by simpa using n,m,by rw[l];exact d _ _ e⟩
   .cases h
  .cases h
 .cases h
def bU(L:Je)(t:TypeId)(f:Nat)(d:D):Ev:=
 match NQ L t f with
 | none=>none
 | some (b,y)=>match d with
  | .ptr l g i j=>some (y.size≠0,.ptr l g i (j+b))
  | .ip a=>some (y.size≠0,.ip (a.drop b))
  | _=>none
def QmM(Y:Z9 P L){t:TypeId}{f}{x}(C:o.op=.fieldAddr t x f){p}{d}(h:bU L t f (Qq s.fr x)=some (p,d))(u:p):WA P base nt o s d:=by
 intro Z pl a w r;have hx:=r.eval x;unfold bU at h;split at h
 .cases h
 .rename_i a0 y V;obtain⟨g,e,F,Q,rfl,B⟩:=mX Y V;have k:∀(b q:Nat),y.size≠0->a.eval x=.pointer (some ⟨b,q,none⟩)->∀c:World,(execOp a.eval o).run P c=.ok (.value (.pointer (some ⟨b,q+e.offset,none⟩))) c:=by
   intro b q U W c;simp[execOp,C,W,Instr.fieldAt,run_underlying F,Q,Instr.sureAddr,fieldPlace,B.sizeOf,U,Ay]
  generalize Qq s.fr x=dx at *;split at h
  .rename_i l g i j;simp only[Q6,Ze]at h;obtain⟨rfl,rfl⟩:=h;obtain⟨n,pp,ad,m,M,O,N,R,Vq⟩:=EP hx;by_cases E:g=n.gen
   .obtain⟨b,q,rfl,rfl⟩:=Vq E;exact⟨_,.ptr _ _ _ _ n _ _ M O N R (λ_=>⟨b,q,rfl,by simp only[Addr.mk.injEq,and_true,yl];omega⟩),λc _=>k _ _ u m c⟩
   .obtain⟨b,q,T⟩:=ad;refine⟨.pointer (some ((⟨b,q,T⟩:Addr).add e.offset)),.ptr _ _ _ _ n _ _ M O N R (λh=>absurd h E),λc _=>?_⟩;simp[execOp,C,m,Instr.fieldAt,run_underlying F,Q,Instr.sureAddr,fieldPlace,B.sizeOf,u]
  .rename_i z;simp only[Q6,Ze]at h;obtain⟨rfl,rfl⟩:=h;obtain⟨b,q,S,m,H⟩:=IX hx;refine⟨_,.cl _ _ (.ip _ b (q+e.offset) (λj=>S (e.offset+j)) (λj v=>?_) (λj v=>?_)),λc _=>k _ _ u m c⟩
   .obtain⟨⟨K,J⟩,I⟩:=H (e.offset+j) (by simp at v;omega);exact⟨K,by rw[Nat.add_assoc];exact J⟩
   .obtain⟨⟨K,J⟩,I⟩:=H (e.offset+j) (by simp at v;omega);rw[GJ];exact I
  .cases h
def QbJ{t:TypeId}{y}(e:Xc P t y)(c:List D)(b:List Value){h}{j}{g}(q:b.length=c.length)(k:∀i,i<c.length->QC Z h j g (nth c i) (Q7 b i))(a)
  (r:a+y.size<=c.length) (n:y.k.agg=false->y.size=1):∃v,QC Z h j g (mk y (c.drop a)) v/\∀d,(part t b.toArray a).run P d=.ok v d:=by
 unfold mk;cases f:y.k.agg
 .have p:=n f;refine⟨Q7 b a,by simp only[jl];rw[GJ];exact k a ω,λd=>?_⟩;have Qc:a<b.length:=ω;simp[part,e.isAgg,f,Q7,QY,Qc]
 .refine⟨.agg ((b.drop a).take y.size).toArray,.agg _ _ ξ (λi m=>?_),λd=>?_⟩
  .have l:i<y.size:=by simp at m;omega
   rw[mW l,GJ];have:Q7 ((b.drop a).take y.size) i=Q7 b (a+i):=by
    simp[Q7,QY,l]
   rw[this];exact k _ ω
  .simp[part,e.isAgg,f,e.sizeOf]
def bV(L:Je)(t:TypeId)(f:Nat)(d:D):Ev:=
 match NQ L t f with
 | none=>none
 | some (a,y)=>match d with
  | .agg b=>some (a+y.size<=b.length/\(y.k.agg=false->y.size=1),mk y (b.drop a))
  | _=>none
def QmN(u:Z9 P L){t:TypeId}{f}{x}(l:o.op=.field t x f){p}{d}(h:bV L t f (Qq s.fr x)=some (p,d))(b:p):WA P base nt o s d:=by
 intro Z I a w r;have hx:=r.eval x;unfold bV at h;split at h
 .cases h
 .rename_i F y q;obtain⟨g,z,n,E,rfl,i⟩:=mX u q;generalize Qq s.fr x=J at *;split at h
  .rename_i B;simp only[Q6,Ze]at h;obtain⟨rfl,rfl⟩:=h;obtain⟨c,j,m,k⟩:=IW hx;obtain⟨v,e,C⟩:=QbJ i B c m k z.offset b.1 b.2;refine⟨v,e,λH _=>?_⟩;simp[execOp,l,j,Instr.field,run_underlying n,E,asAgg,C]
  .cases h
def NR(L:Je)(t:TypeId):Option (Nat × Bool × Nat):=
 match ty L t with
 | some ⟨.slice e,_,_,_⟩=>match ty L e with
  | some y=>some (y.size,true,0)
  | none=>none
 | some ⟨.array n e,_,_,_⟩=>match ty L e with
  | some y=>some (y.size,false,n)
  | none=>none
 | _=>none
def QmO(b:Z9 P L){t:TypeId}{a n}(h:NR L t=some (a,true,n)):∃e y,P.underlying t=some (.slice e)/\Xc P e y/\y.size=a:=by
 unfold NR at h;split at h
 .rename_i e _ _ _ d;split at h
  .rename_i y c;simp only[Q6,Ze]at h;exact⟨e,y,ym (b _ _ d) rfl,b _ _ c,h.1⟩
  .cases h
 .split at h
  .simp at h
  .cases h
 .cases h
def QmP(b:Z9 P L){t:TypeId}{a n}(h:NR L t=some (a,false,n)):∃e y,P.underlying t=some (.array n e)/\Xc P e y/\y.size=a:=by
 unfold NR at h;split at h
 .split at h
  .simp at h
  .cases h
 .rename_i e _ _ _ d;split at h
  .rename_i y c;simp only[Q6,Ze]at h;obtain⟨rfl,_,rfl⟩:=h;exact⟨e,y,mQ (b _ _ d) rfl,b _ _ c,rfl⟩
  .cases h
 .cases h
def bW(L:Je)(h:List Ob)(t:TypeId)(d m:D):Ev:=
 match m with
 | .raw (.int _ i)=>match NR L t with
  | some (c,true,_)=>match d with
   | .ref l g f k=>match h[l]? with
    | some o=>some (g=o.gen/\o.sz=c/\0<=i/\i<k,.ptr l g (f+i.toNat) 0)
    | none=>none
   | .imm z n e=>some (z=c/\0<=i/\i<n,.ip (e i.toNat))
   | _=>none
  | some (c,false,n)=>match d with
   | .ptr l g a j=>some (0<=i/\i<n,.ptr l g a (j+i.toNat*c))
   | .ip b=>some (0<=i/\i<n,.ip (b.drop (i.toNat*c)))
   | _=>none
  | none=>none
 | _=>none
def QmQ(hL:Z9 P L){t:TypeId}{x I}(K:o.op=.indexAddr t x I){p}{d}(h:bW L s.h t (Qq s.fr x) (Qq s.fr I)=some (p,d))(J:p):WA P base nt o s d:=by
 intro Z pl a w r;have hx:=r.eval x;have m6:=r.eval I;unfold bW at h;generalize Qq s.fr x=dx at *;generalize Qq s.fr I=di at *;split at h
 .rename_i k i;have M:=Jt m6;split at h
  .rename_i sz _ U;obtain⟨e,y,E,C,rfl⟩:=QmO hL U;split at h
   .rename_i l g a0 a4;split at h
    .rename_i H O;simp only[Q6,Ze]at h;obtain⟨rfl,rfl⟩:=h;obtain⟨T,JA,v,f⟩:=J;obtain⟨o',p',V,a1,u,ZM,Z2,W,kN,Vq⟩:=EO hx;rw[O]at ZM;cases ZM;rcases Vq T with ⟨F,_⟩|⟨b,q,c,el,Y,Q,hb,B,Dl⟩
     .omega
     .refine⟨.pointer (some ⟨b,q+((a0+i.toNat)*H.sz+0),none⟩),.ptr _ _ _ _ H _ _ O Z2 W kN (λ_=>⟨b,q,Y,rfl⟩),λR _=>?_⟩;simp[execOp,K,u,M,Q,Instr.indexAt,asIntOf,run_underlying E,v,f,C.sizeOf,Ay,JA];rw[VM];omega
    .cases h
   .rename_i z n a3;simp only[Q6,Ze]at h;obtain⟨rfl,rfl⟩:=h;obtain⟨rfl,v,f⟩:=J;obtain⟨V,a1,b,q,S,u,Q,Dl,hs,B⟩:=RZ hx;have Qc:i.toNat<n:=ω;refine⟨.pointer (some ⟨b,q+i.toNat*y.size,none⟩),.cl _ _ (.ip _ b _ (λj=>S i.toNat j) (λj m=>?_) (λj m=>?_)),λR _=>?_⟩
    .rw[hs _ Qc]at m;obtain⟨⟨F,N⟩,h4⟩:=B i.toNat j Qc m;exact⟨F,by rw[Nat.add_assoc];exact N⟩
    .rw[hs _ Qc]at m;exact(B i.toNat j Qc m).2
    .simp[execOp,K,u,M,Q ω,Instr.indexAt,asIntOf,run_underlying E,v,f,C.sizeOf,Ay]
   .cases h
  .rename_i sz n U;obtain⟨e,y,E,C,rfl⟩:=QmP hL U;split at h
   .rename_i l g i0 j;simp only[Q6,Ze]at h;obtain⟨rfl,rfl⟩:=h;obtain⟨v,f⟩:=J;obtain⟨H,pp,V,u,O,Y,W,BI,Vq⟩:=EP hx;refine⟨.pointer (some (V.add (i.toNat*y.size))),.ptr _ _ _ _ H _ _ O Y W BI (λT=>?_),λR _=>?_⟩
    .obtain⟨b,q,rfl,rfl⟩:=Vq T;exact⟨b,q,rfl,by rw[Ay];simp only[Addr.mk.injEq,and_true,yl];omega⟩
    .simp[execOp,K,u,M,Instr.indexAt,asIntOf,run_underlying E,v,f,C.sizeOf,Instr.sureAddr]
   .rename_i a2;simp only[Q6,Ze]at h;obtain⟨rfl,rfl⟩:=h;obtain⟨v,f⟩:=J;obtain⟨b,q,S,u,B⟩:=IX hx;refine⟨_,.cl _ _ (.ip _ b (q+i.toNat*y.size) (λj=>S (i.toNat*y.size+j)) (λj m=>?_) (λj m=>?_)),λR _=>?_⟩
    .obtain⟨⟨f,F⟩,N⟩:=B (i.toNat*y.size+j) (by simp at m;omega);exact⟨f,by rw[Nat.add_assoc];exact F⟩
    .obtain⟨⟨f,F⟩,N⟩:=B (i.toNat*y.size+j) (by simp at m;omega);rw[GJ];exact N
    .simp[execOp,K,u,M,Instr.indexAt,asIntOf,run_underlying E,v,f,C.sizeOf,Instr.sureAddr,Ay]
   .cases h
  .cases h
 .cases h
def bX(L:Je)(t:TypeId)(d c:D):Ev:=
 match c with
 | .raw (.int _ i)=>match d with
  | .agg a=>match ty L t with
   | some ⟨.array n e,_,_,_⟩=>match ty L e with
    | some y=>some (0<=i/\i<n/\i.toNat*y.size+y.size<=a.length/\(y.k.agg=false->y.size=1),mk y (a.drop (i.toNat*y.size)))
    | none=>none
   | _=>none
  | .raw (.string b)=>match ty L t with
   | some ⟨.str,_,_,_⟩=>some (0<=i/\i<b.size,.raw (.int .u8 (b.data.getD i.toNat 0).toNat))
   | _=>none
  | _=>none
 | _=>none
def QbK(j:Z9 P L){t:TypeId}{x c}(u:o.op=.index t x c){p}{d}(h:bX L t (Qq s.fr x) (Qq s.fr c)=some (p,d))(q:p):WA P base nt o s d:=by
 intro Z R a w r;have hx:=r.eval x;have H:=r.eval c;unfold bX at h;generalize Qq s.fr x=S at *;generalize Qq s.fr c=T at *;split at h
 .rename_i k i;have z:=Jt H;split at h
  .rename_i N;split at h
   .rename_i n e _ _ _ g;split at h
    .rename_i y Q;have m:=j _ _ Q;simp only[Q6,Ze]at h;obtain⟨rfl,rfl⟩:=h;obtain⟨l,B,M,K⟩:=q;obtain⟨E,f,J,I⟩:=IW hx;obtain⟨v,F,O⟩:=QbJ m N E J I _ M K;refine⟨v,F,λC _=>?_⟩;simp[execOp,u,f,z,Instr.index,asIntOf,run_underlying (mQ (j _ _ g) rfl),l,B,m.sizeOf,O]
    .cases h
   .cases h
  .rename_i b;split at h
   .rename_i g;simp only[Q6,Ze]at h;obtain⟨rfl,rfl⟩:=h;obtain⟨l,B⟩:=q;have f:=Jt hx;refine⟨_,.cl _ _ (.raw _),λC _=>?_⟩;have Qc:i.toNat<b.size:=ω;have:b[i.toNat]? = some (b.data.getD i.toNat 0):=by
     rw[getElem?_pos b i.toNat Qc];show some (b.data[i.toNat])=_;rw[yh,jK (by exact Qc)];rfl
    simp[execOp,u,f,z,Instr.index,asIntOf,run_underlying (RY (j _ _ g) rfl),l,this]
   .cases h
  .cases h
 .cases h
def QmR{x}{i}(g:o.op=.extract x i){b:List D}(d:Qq s.fr x=.tup b)(j:i<b.length):WA P base nt o s (nth b i):=by
 intro Z l a w r;have h:=r.eval x;rw[d]at h;obtain⟨c,e,m,f⟩:=QmB h;refine⟨_,f i j,λk _=>?_⟩;have:i<c.length:=ω;simp[execOp,g,e,Instr.extract,Q7,QY,this]
def QmS{u}{t:TypeId}{x}(f:o.op=.unOp u t x){b}(e:u=.not)(c:Qq s.fr x=.raw (.bool b)):WA P base nt o s (.raw (.bool (!b))):=by
 intro Z i a w r;have h:=r.eval x;rw[c]at h;have d:=Jt h;exact⟨_,.cl _ _ (.raw _),λg _=>by simp[execOp,f,d,e,Op.unary]⟩
def QmT{u}{t:TypeId}{x}(e:o.op=.unOp u t x){k:IntKind}{n}(d:u=.neg)(b:Qq s.fr x=.raw (.int k n)):WA P base nt o s (.raw (.int k (k.wrap (0 - n)))):=by
 intro Z g a w r;have h:=r.eval x;rw[b]at h;have c:=Jt h;exact⟨_,.cl _ _ (.raw _),λf _=>by simp[execOp,e,c,d,Op.unary,Op.intArith]⟩
def QmU{u}{t:TypeId}{x}(e:o.op=.unOp u t x){k:IntKind}{n}(d:u=.xor)(b:Qq s.fr x=.raw (.int k n)):WA P base nt o s (.raw (.int k (bits .xor k (if k.signed then -1 else k.max) n))):=by
 intro Z g a w r;have h:=r.eval x;rw[b]at h;have c:=Jt h;exact⟨_,.cl _ _ (.raw _),λf _=>by simp[execOp,e,c,d,Op.unary,Op.intBits,bits]⟩
def D.there:D->Bool
 | .ptr _ _ _ _ | .ip _ | .clo _ _ _=>true
 | .raw (.func (.func _) _ _)=>true
 | _=>false
def QmV{x}(c:o.op=.nilCheck x){d:D}(m:Qq s.fr x=d)(k:d.there=true):WA P base nt o s d:=by
 intro Z t a w r;have h:=r.eval x;rw[m]at h;cases d<;>try (simp only[D.there,XZ]at k;done)
 case ptr l g i j=>
  obtain⟨_,_,y,b,_⟩:=EP h;exact⟨_,h,λe _=>by simp[execOp,c,b]⟩
 case ip p=>
  obtain⟨_,_,_,b,_⟩:=IX h;exact⟨_,h,λe _=>by simp[execOp,c,b]⟩
 case raw v=>
  have b:=Jt h;cases v with
  | func n first z=>
   cases n with
   | func f=>exact⟨_,h,λe _=>by simp[execOp,c,b]⟩
   | _=>simp only[D.there,XZ]at k
  | _=>simp only[D.there,XZ]at k
 case clo f u p=>
  obtain⟨q,b,_⟩:=mR h;exact⟨_,h,λe _=>by simp[execOp,c,b]⟩
def bY(L:Je)(a c:TypeId):D->Ev
 | .raw (.int _ n)=>match ty L c,ty L a with
  | some ⟨.int k,_,_,_⟩,some _=>some (True,.raw (.int k (k.wrap n)))
  | _,_=>none
 | .raw (.string b)=>match ty L c,ty L a with
  | some ⟨.str,_,_,_⟩,some ⟨.str,_,_,_⟩=>some (True,.raw (.string b))
  | _,_=>none
 | _=>none
def QmW(e:Z9 P L){b c:TypeId}{x}(j:o.op=.convert b c x){p}{d}(h:bY L b c (Qq s.fr x)=some (p,d)):WA P base nt o s d:=by
 intro Z t a w r;have hx:=r.eval x;unfold bY at h;generalize Qq s.fr x=v at *;split at h
 .split at h
  .rename_i k _ _ _ n i g;simp only[Q6,Ze]at h;obtain⟨rfl,rfl⟩:=h;have f:=Jt hx;refine⟨_,.cl _ _ (.raw _),λl _=>?_⟩;obtain⟨q,m,u⟩:=(e _ _ g).under;simp[execOp,j,f,convert,run_underlying m,run_underlying (Dh (e _ _ i) rfl),Conv.intToInt]
  .cases h
 .split at h
  .rename_i i g;simp only[Q6,Ze]at h;obtain⟨rfl,rfl⟩:=h;have f:=Jt hx;refine⟨_,.cl _ _ (.raw _),λl _=>?_⟩;simp[execOp,j,f,convert,run_underlying (RY (e _ _ g) rfl),run_underlying (RY (e _ _ i) rfl)]
  .cases h
 .cases h
def bZ(L:Je)(t:TypeId):D->Ev
 | .ref _ _ _ n=>match ty L t with
  | some ⟨.slice _,_,_,_⟩=>some (True,.raw (.int .i64 n))
  | _=>none
 | .imm _ n _=>match ty L t with
  | some ⟨.slice _,_,_,_⟩=>some (True,.raw (.int .i64 n))
  | _=>none
 | .nil=>match ty L t with
  | some ⟨.slice _,_,_,_⟩=>some (True,.raw (.int .i64 0))
  | _=>none
 | .raw (.string b)=>match ty L t with
  | some ⟨.str,_,_,_⟩=>some (True,.raw (.int .i64 b.size))
  | _=>none
 | _=>none
def kQ{P:Program}{o:Oper}{a:Act}{c:Builtin}{b:Array Operand}{d:Array TypeId}(e:o.op=.call ⟨.builtin c,b,d⟩)(w:World):
  (execOp a.eval o).run P w=(builtin c d o.type (b.map fun | .const _=>true|_=>false) (b.map a.eval)).run P w:=by
 simp[execOp,e,resolve,invoke];rfl
def cn(f:Z9 P L){x}{t:TypeId}(e:o.op=.call ⟨.builtin .len,#[x],#[t]⟩){p}{d}(h:bZ L t (Qq s.fr x)=some (p,d)):WA P base nt o s d:=by
 intro Z k a w r;have hx:=r.eval x;unfold bZ at h;generalize Qq s.fr x=l at *;split at h
 .split at h
  .rename_i c;simp only[Q6,Ze]at h;obtain⟨rfl,rfl⟩:=h;obtain⟨_,_,j,i,b,_⟩:=EO hx;refine⟨_,.cl _ _ (.raw _),λg _=>?_⟩;rw[kQ e];simp[builtin,Builtin.len_,b,run_underlying (ym (f _ _ c) rfl),goInt]
  .cases h
 .split at h
  .rename_i c;simp only[Q6,Ze]at h;obtain⟨rfl,rfl⟩:=h;obtain⟨j,i,_,_,_,b,_⟩:=RZ hx;refine⟨_,.cl _ _ (.raw _),λg _=>?_⟩;rw[kQ e];simp[builtin,Builtin.len_,b,run_underlying (ym (f _ _ c) rfl),goInt]
  .cases h
 .split at h
  .rename_i c;simp only[Q6,Ze]at h;obtain⟨rfl,rfl⟩:=h;obtain⟨j,b⟩:=Ax hx;refine⟨_,.cl _ _ (.raw _),λg _=>?_⟩;rw[kQ e];simp[builtin,Builtin.len_,b,run_underlying (ym (f _ _ c) rfl),goInt]
  .cases h
 .split at h
  .rename_i c;simp only[Q6,Ze]at h;obtain⟨rfl,rfl⟩:=h;have b:=Jt hx;refine⟨_,.cl _ _ (.raw _),λg _=>?_⟩;rw[kQ e];simp[builtin,Builtin.len_,b,run_underlying (RY (f _ _ c) rfl),goInt]
  .cases h
 .cases h
def QmX{x y}{h:Array TypeId}(g:o.op=.call ⟨.builtin .max,#[x,y],h⟩){k d}{m n}(f:Qq s.fr x=.raw (.int k m))(e:Qq s.fr y=.raw (.int d n)):WA P base nt o s (.raw (.int k (max m n))):=by
 intro Z j a w r;have c:=r.eval x;have b:=r.eval y;rw[f]at c;rw[e]at b;refine⟨_,.cl _ _ (.raw _),λi _=>?_⟩;rw[kQ g];simp[builtin,Builtin.max_,Jt c,Jt b,Builtin.max2];split<;>omega
def QmY{x y}{h:Array TypeId}(g:o.op=.call ⟨.builtin .min,#[x,y],h⟩){k d}{m n}(f:Qq s.fr x=.raw (.int k m))(e:Qq s.fr y=.raw (.int d n)):WA P base nt o s (.raw (.int k (min m n))):=by
 intro Z j a w r;have c:=r.eval x;have b:=r.eval y;rw[f]at c;rw[e]at b;refine⟨_,.cl _ _ (.raw _),λi _=>?_⟩;rw[kQ g];simp[builtin,Builtin.min_,Jt c,Jt b,Builtin.min2];split<;>omega
def QmZ{f}{first b:Array Operand}(c:o.op=.makeFunc (.func f) first b):WA P base nt o s (.clo f first.size ((first.toList++b.toList).map (Qq s.fr))):=by
 intro Z m a w r;refine⟨.func (.func f) (((first.toList++b.toList).map a.eval).take first.size).toArray (((first.toList++b.toList).map a.eval).drop first.size).toArray,.clo f first.size _ ((first.toList++b.toList).map a.eval) σ (λi d=>?_),λl _=>?_⟩
 .have k:i<(first.toList++b.toList).length:=by simpa using d
  simp only[nth,Q7,QY,KP];rw[QG k];exact r.eval _
 .have j:Array.map a.eval b=(List.map a.eval b.toList).toArray:=Array.ext' σ;have h:Array.map a.eval first=(List.map a.eval first.toList).toArray:=Array.ext' σ;have g:((first.toList++b.toList).map a.eval).take first.size=first.toList.map a.eval:=by rw[wa,List.take_append_of_le_length σ,List.take_of_length_le σ]
  have e:((first.toList++b.toList).map a.eval).drop first.size=b.toList.map a.eval:=by rw[wa,List.drop_append_of_le_length σ,List.drop_of_length_le σ,jM]
  rw[g,e];simp[execOp,c,Instr.makeFunc,j,h]
end
variable {Z:Nat->Prop}
def Ext(w a:World):Prop:=∀b,b<w.heap.size->a.heap[b]? = w.heap[b]?
def Ext.refl(w):Ext w w:=λ_ _=>rfl
def Ext.trans{a b c}(h:Ext a b)(k:Ext b c):Ext a c:=λi e=>by
 have d:=h i e;have f:i<b.heap.size:=by
  rw[jK e]at d;exact(WL.1 d).1
 rw[k i f,d]
def calm(o:Oper):Bool:=match o.op with
 | .store .. | .mapUpdate .. | .insert .. | .entryStore .. | .next ..=>false
 | .call ⟨.builtin .len,_,_⟩ | .call ⟨.builtin .min,_,_⟩ | .call ⟨.builtin .max,_,_⟩=>true
 | .call ⟨.builtin _,_,_⟩=>false
 | _=>true
def jQ(P:Program)(b h:Nat)(o:Oper)(s:St)(e:List Ob)(d:D):Prop:=
 ∀(Z:Nat->Prop) g a w,Rel Z b h s g a w->b<=w.heap.size->∃v c f,((execOp a.eval o).run P w=.ok (.value v) c\/((execOp a.eval o).run P w=.ok .skip c/\v=Go.undef)) /\
  Tr s.h g w e f c/\Zl Z b e f c/\QC Z e f c d v/\Below b w c/\(calm o=true->Ext w c)
def IZ(P:Program)(b h:Nat)(o:Oper)(s:St)(e:List Ob)(d:D):Prop:=
 ∀(Z:Nat->Prop) g a w,Rel Z b h s g a w->b<=w.heap.size->∃v c f,((execOp a.eval o).run P w=.ok (.value v) c\/((execOp a.eval o).run P w=.ok .skip c/\v=Go.undef)) /\
  Tr s.h g w e f c/\Zl Z b e f c/\QC Z e f c d v/\Below b w c
def IZ.up{P}{b c}{o}{s}{f}{d}(h:IZ P b c o s f d)(j:calm o=false):jQ P b c o s f d:=λZ i a w r k=>
 let ⟨v,g,t,q,p,n,m,l⟩:=h Z i a w r k
 ⟨v,g,t,q,p,n,m,l,λe=>by rw[j]at e;cases e⟩
def Az:Value->Bool
 | .agg _ | .tuple _=>false
 | _=>true
def D.Vr:D->Bool
 | .raw v=>Az v
 | .undef | .agg _ | .tup _=>false
 | _=>true
def Yu:D->Option (List D)
 | .agg a=>bif a.all D.Vr then some a else none
 | d=>bif d.Vr then some [d] else none
def m7{h}{c}{w}{d:D}{v}(r:QC Z h c w d v)(a:d.Vr=true):Az v=true:=by
 cases r with
 | cl _ _ f=>cases f<;>first|rfl|exact a|(simp[D.Vr]at a)
 | ref=>rfl
 | ptr=>rfl
 | mref _ _ o p b j i e k g=>rw[e.2];unfold RV;split<;>rfl
 | clo=>rfl
 | agg=>simp[D.Vr]at a
 | tup=>simp[D.Vr]at a
def Qm0{v:Value}(h:Az v=true):v.cells=#[v]:=by cases v<;>first|rfl|cases h
def m8{h}{b}{w}{d}{v}(r:QC Z h b w d v){a}(e:Yu d=some a):
  v.cells.size=a.length/\∀i,i<a.length->QC Z h b w (nth a i) (Q7 v.cells.toList i)/\Az (Q7 v.cells.toList i)=true:=by
 have one:∀g:D,QC Z h b w g v->(bif g.Vr then some [g] else none)=some a->v.cells.size=a.length/\∀i,i<a.length->QC Z h b w (nth a i) (Q7 v.cells.toList i)/\Az (Q7 v.cells.toList i)=true:=by
  intro g k f;cases j:g.Vr
  .rw[j]at f;cases f
  .rw[j]at f;simp only[wi,Q6]at f;subst f;have m:=m7 k j;rw[Qm0 m];refine⟨rfl,λi c=>?_⟩;have:i=0:=by simp at c;omega
   subst this;exact⟨k,m⟩
 cases d with
 | agg p=>
  simp only[Yu]at e;obtain⟨n,e⟩:=jP e;cases e;obtain⟨q,rfl,o,l⟩:=IW r;refine⟨by simp[Value.cells,o],λi c=>⟨by simpa[Value.cells] using l i c,?_⟩⟩;refine m7 (by simpa[Value.cells] using l i c:QC Z h b w (nth a i) _) ?_;rw[zC]at n;have:=n (nth a i) (by simp[nth,QY,c]);exact this
 | _=>exact one _ r e
def cr{P}(b)(e):∀(d:List Value) (i q:Nat) (w:World) (c:Array Value),w.heap[b]? = some (.cells c e (0,0))->q+i+d.length<=c.size->(∀j,j<d.length->Az (Q7 d j)=true) ->
  ∃a g,(storeCells ⟨b,q,none⟩ d i).run P w=.ok () a/\a.heap[b]? = some (.cells g e (0,0))/\g.size=c.size /\
   (∀k,g[k]? = if q+i<=k/\k<q+i+d.length then d[k - (q+i)]? else c[k]?)/\(∀k,k≠b->a.heap[k]? = w.heap[k]?)/\a.heap.size=w.heap.size/\a.os=w.os/\a.tape=w.tape/\a.output=w.output
 | [],i,q,w,c,f,o,l=>⟨w,c,by simp[storeCells],f,rfl,λk=>by rw[Qd];simp,λ_ _=>rfl,rfl,rfl,rfl,rfl⟩
 | v::d,i,q,w,c,f,o,l=>by
  simp only[Vo]at o;have H:Az v=true:=l 0 σ;have Qc:q+i<c.size:=ω;have J:w.cell? ⟨b,q+i,none⟩=some c[q+i]:=by rw[cell_of_row w b _ c e (0,0) f];simp[Qc]
  have n:w.frozen? ⟨b,q+i,none⟩=false:=frozen_of_row w b _ c e f;have s:=heap_setCell_same w b (q+i) c e v f;obtain⟨a,g,F,E,C,B,z,y,x,u,t⟩:=cr (P:=P) b e d (i+1) q (w.setCell ⟨b,q+i,none⟩ v) _ s ξ (λj K=>by
   have:=l (j+1) ξ;simpa[Q7] using this)
  refine⟨a,g,?_,E,by rw[C];simp,λk=>?_,λk p=>by rw[z k p];exact Below.heap_setCell _ _ _ _ p,by rw[y];simp,by rw[x];rfl,by rw[u];rfl,by rw[t];rfl⟩
  .have I:(store (⟨b,q+i,none⟩:Addr) v).run P w=.ok () (w.setCell ⟨b,q+i,none⟩ v):=by
    cases v<;>first|(simp[Az]at H;done)|(simp[store,Sem.run,J,n])
   simp only[storeCells,Sem.run_bind,Ay,I,Result.andThen_ok];exact F
  .rw[B k];by_cases r:q+i=k
   .subst r;rw[Qd ω,Qe σ];simp[Qc]
   .by_cases h:q+i<=k/\k<q+i+(v::d).length
    .rw[Qe h,Qe (by simp at h;omega)];obtain⟨m,rfl⟩:∃m,k=q+i+(m+1):=⟨k - (q+i) - 1,ω⟩;rw[show q+i+(m+1) - (q+i)=m+1 by omega,show q+i+(m+1) - (q+(i+1))=m by omega];simp
    .rw[Qd h,Qd (by simp at h;omega),mH ω]
def BL(b:List D)(j:Nat)(a:List D):List D:=b.take j++a++b.drop (j+a.length)
def ct{a:List D}{j}{b:List D}(h:j+b.length<=a.length):(BL a j b).length=a.length:=by simp[BL];omega
def QbL{b:List D}{j}{a:List D}(h:j+a.length<=b.length)(i):nth (BL b j a) i=if j<=i/\i<j+a.length then nth a (i - j) else nth b i:=by
 simp only[nth,BL,QY];by_cases d:i<j
 .rw[Qd ω,W9,JO ξ];simp[d]
 .by_cases c:i<j+a.length
  .rw[Qe ⟨ω,c⟩,W9,Kh ξ,JO ξ];simp;congr 3;omega
  .rw[Qd ω,Kh ξ];simp only[Gy,Zo,be];congr 2;omega
def setRow(o:Ob)(i:Nat)(a:List D):Ob:=
 { o with row:=bif o.kd.IS then λ_=>a else λk=>bif Nat.beq k i then a else o.row k }
def QbM{o:Ob}{i}{a:List D}(c:o.kd.IS=true->o.n=1){k}(e:i<o.n)(d:k<o.n):(setRow o i a).row k=if k=i then a else o.row k:=by
 unfold setRow;cases h:o.kd.IS
 .simp only[jl];by_cases b:k=i
  .subst b;simp
  .have:Nat.beq k i=false:=by rw[<- Yq,Wo];exact b
   rw[this,Qd b];rfl
 .have:=c h;simp only[wi];rw[Qe ω]
section
variable {P:Program}{L:Je}{base nt:Nat}{s:St}{o:Oper}
def NT{w a:World}{b}(h:base<=b)(f:∀k,k≠b->a.heap[k]? = w.heap[k]?)(i:a.heap.size=w.heap.size)(e:a.os=w.os)(d:a.tape=w.tape)(c:a.output=w.output):Below base w a:=
 ⟨e,d,c,ω,λk g=>f k ω⟩
def R4(L:Je)(h:List Ob)(t:TypeId)(b x:D):Option (Prop × List Ob):=
 match ty L t,b,Yu x with
 | some y,.ptr l g i j,some a=>match h[l]? with
  | some o=>some (g=o.gen/\i<o.n/\j+a.length<=o.sz/\a.length=y.size/\(o.kd.IS=true->o.n=1)/\o.kd.ro=false,h.set l (setRow o i (BL (o.row i) j a)))
  | none=>none
 | _,_,_=>none
def Qm2(hL:Z9 P L){t:TypeId}{K x}(ho:o.op=.store t K x){p}{Y}(h:R4 L s.h t (Qq s.fr K) (Qq s.fr x)=some (p,Y))(hp:p):IZ P base nt o s Y .undef:=by
 intro Z E a w r KQ;have hx:=r.eval x;have U:=r.eval K;unfold R4 at h;split at h
 .rename_i y l g i j J BK m9 JM;rw[m9]at U;split at h
  .rename_i d C;simp only[Q6,Ze]at h;obtain⟨rfl,rfl⟩:=h;obtain⟨hg,n,hj,JA,W,S⟩:=hp;have hy:=hL _ _ BK;obtain⟨o',p',a1,hv,ZM,M,f,kN,Vq⟩:=EP U;rw[C]at ZM;cases ZM;obtain⟨b,q,rfl,rfl⟩:=Vq hg;obtain⟨Q5,xx⟩:=r.o.at_ l d b q C M;obtain⟨c,el,F,La,O,ZU⟩:=xx.cells f;obtain⟨u,Lb⟩:=m8 hx JM;have B:j+J.length<=(d.row i).length:=by rw[O i n];exact hj
   have a0:i*d.sz+d.sz<=d.n*d.sz:=by
    have:=XL d.sz (show i+1<=d.n from n);rw[VM]at this;omega
   obtain⟨V,c',g1,g2,I,g4,H,g6,g7,g8,g9⟩:=cr (P:=P) b el (a.eval x).cells.toList 0 (q+(i*d.sz+j)) w c F (by simp[u];omega) (λk e=>(Lb k (by simpa[u] using e)).2);have T:Tr s.h E w (s.h.set l (setRow d i (BL (d.row i) j J))) E V:=Tr.Q4 r.o C M rfl rfl rfl (λk e _=>H k e) (λc1 mO e1=>by rw[F]at e1;cases e1;exact⟨c',g2,I⟩);refine⟨Go.undef,V,E,.inr ⟨?_,rfl⟩,T,?_,.cl _ _ (.undef _),NT (Q5 S) H g6 g7 g8 g9⟩
   .simp[execOp,ho,hv,Instr.storeAt,Instr.sureAddr,storeVar,hy.sizeOf,u,JA,g1]
   .refine Zl.Q4 (hro:=rfl) r.o C M f f rfl rfl (λk e _=>H k e) F g2 I (by rw[I];exact La) (λk e=>?_) (λk m e hm=>?_)
    .rw[QbM W n e];split
     .rw[ct B,O i n];rfl
     .exact O k e
    .rw[QbM W n e];have f:k<d.n:=e;have NU:m<d.sz:=hm;show ∃v,c'[q+(k*d.sz+m)]? = some v/\_;rw[g4];simp only[Ap,Array.length_toList,u];by_cases R:k=i
     .subst R;rw[Qe rfl,QbL B];by_cases z:j<=m/\m<j+J.length
      .rw[Qe z,Qe ω];refine⟨Q7 (a.eval x).cells.toList (m - j),?_,((Lb (m - j) ω).1).tr T⟩;rw[show q+(k*d.sz+m) - (q+(k*d.sz+j))=m - j by omega];simp only[Q7,QY];rw[QG (by simp[u];omega)];rfl
      .rw[Qd z,Qd ω];obtain⟨v,Q,N⟩:=ZU k m f NU;exact⟨v,Q,N.tr T⟩
     .rw[Qd R,Qd]
      .obtain⟨v,Q,N⟩:=ZU k m f NU;exact⟨v,Q,N.tr T⟩
      .intro a2;rcases Nat.lt_or_gt_of_ne R with Qc|Qc
       .have:=XL d.sz (show k+1<=i from Qc);rw[VM]at this;omega
       .have:=XL d.sz (show i+1<=k from Qc);rw[VM]at this;omega
  .cases h
 .cases h
def ER{w:World}(h:base<=w.heap.size)(a:Obj):Below base w (w.alloc a):=(Below.refl base w).alloc h a
def QbP{d}{a}{w:World}(r:Rel Z base nt s d a w)(u:base<=w.heap.size)(f)(v:Value)(c:List D)(g:v.cells.size=c.length)(m:∀i,i<c.length->QC Z s.h d w (nth c i) (Q7 v.cells.toList i)):
  Tr s.h d w (s.h++[⟨.one,0,c.length,1,λ_=>c⟩]) (d++[some (w.heap.size,0)]) (w.alloc (.cells v.cells f))/\Zl Z base (s.h++[⟨.one,0,c.length,1,λ_=>c⟩]) (d++[some (w.heap.size,0)]) (w.alloc (.cells v.cells f)) /\
   QC Z (s.h++[⟨.one,0,c.length,1,λ_=>c⟩]) (d++[some (w.heap.size,0)]) (w.alloc (.cells v.cells f)) (.ptr s.h.length 0 0 0) (.pointer (some ⟨w.heap.size,0,none⟩)):=by
 have e:∀b,b<w.heap.size->(w.alloc (.cells v.cells f)).heap[b]? = w.heap[b]? := λb p=>xq w _ b p;have x:(w.alloc (.cells v.cells f)).heap[w.heap.size]? = some (.cells v.cells f (0,0)):=heap_alloc_new w _;have T:Tr s.h d w (s.h++[⟨.one,0,c.length,1,λ_=>c⟩]) (d++[some (w.heap.size,0)]) (w.alloc (.cells v.cells f)):=Tr.push r.o e _ _ (by intro b q h;simp at h;omega);refine⟨T,?_,?_⟩
 .refine Zl.push r.o e _ rfl (QB _) u x (by simp[g]) (λ_ _=>rfl) (λi j n k=>?_);have l:i=0:=by simp at n;omega
  subst l;refine⟨Q7 v.cells.toList j,?_,(m j k).tr T⟩;simp only[Nat.zero_mul,JR,Q7,QY];have:j<v.cells.size:=by rw[g];exact k
  rw[vW,jK this];rfl
 .have t:d.length=s.h.length:=r.o.len;exact .ptr _ _ _ _ ⟨.one,0,c.length,1,λ_=>c⟩ (some (w.heap.size,0)) _ σ (by rw[<- t];simp) rfl (QB _) (λ_=>⟨_,_,rfl,σ⟩)
def Qm3(e:Z9 P L){t:TypeId}{c x}(a:o.op=.store t c x){p}{b}(h:R4 L s.h t (Qq s.fr c) (Qq s.fr x)=some (p,b))(d:p):jQ P base nt o s b .undef:=
 (Qm2 e a h d).up (by simp[calm,a])
def Qm4{t:TypeId}{x}(f:o.op=.box t x){c:List D}(e:Yu (Qq s.fr x)=some c):jQ P base nt o s (s.h++[⟨.one,0,c.length,1,λ_=>c⟩]) (.ptr s.h.length 0 0 0):=by
 intro Z p a w r d;obtain⟨m,n⟩:=m8 (r.eval x) e;obtain⟨l,k,j⟩:=QbP r d t (a.eval x) c m (λi g=>(n i g).1);refine⟨_,_,_,.inl ?_,l,k,j,ER d _,λ_ b h=>xq _ _ b h⟩;simp[execOp,f,Instr.box,newVar,newRow]
def Qm5(h:Z9 P L){t:TypeId}(f:o.op=.alloc t){y:Ty}(e:ty L t=some y):jQ P base nt o s (s.h++[⟨.one,0,(y.zero.map J8).length,1,λ_=>y.zero.map J8⟩]) (.ptr s.h.length 0 0 0):=by
 intro Z p a w r d;obtain⟨z,hz,m⟩:=(h _ _ e).zeroValue;obtain⟨l,k,j⟩:=QbP r d t z (y.zero.map J8) (by rw[<- hz];simp) (λi c=>by
  rw[<- hz]at c ⊢;have n:i<z.cells.size:=by simpa using c
  refine .cl _ _ ?_;simp only[nth,Q7,QY,KP,vW,jK n,K6,Ky];exact Di _ _ _)
 refine⟨_,_,_,.inl ?_,l,k,j,ER d _,λ_ b g=>xq _ _ b g⟩;simp[execOp,f,Instr.alloc,newVar,newRow,m]
end
variable {Z:Nat->Prop}
def R5(h:List Ob):D->Option (Prop × Nat × Nat × (Nat->List D))
 | .ref l g a n=>match h[l]? with
  | some o=>some (g=o.gen/\a+n<=o.n,n,o.sz,λk=>o.row (a+k))
  | none=>none
 | .imm c n b=>some (True,n,c,b)
 | _=>none
structure Src (Z:Nat->Prop) (h:List Ob) (pl:List Pl) (w:World) (v:Value) (n sz:Nat) (rows:Nat->List D) (a:Option Addr) (cap:Nat) (vs:Nat->Nat->Value):Prop where
 v:v=.slice a n cap
 len:∀i,i<n->(rows i).length=sz
 cell:∀i j,i<n->j<sz->∃b q,a=some ⟨b,q,none⟩/\w.cell? ⟨b,q+(i*sz+j),none⟩=some (vs i j)
 rel:∀i j,i<n->j<sz->QC Z h pl w (nth (rows i) j) (vs i j)
def nh{x}{h}{B}{w}(R:Zl Z x h B w){d}{v}(r:QC Z h B w d v){p}{n sz}{rows}(e:R5 h d=some (p,n,sz,rows))(I:p):∃a m z,Src Z h B w v n sz rows a m z:=by
 unfold R5 at e;split at e
 .rename_i l g f k;split at e
  .rename_i o J;simp only[Q6,Ze]at e;obtain⟨rfl,rfl,rfl,rfl⟩:=e;obtain⟨o',Y,a,m,y,L,T,S,kN,V⟩:=EO r;rw[J]at L;cases L;have hn:=I.2;rcases V I.1 with ⟨Q,h2⟩|⟨b,q,c,el,U,F,K,E,P⟩
   .subst Q;exact⟨a,m,λ_ _=>Go.undef,y,λi s=>ω,λi j s=>ω,λi j s=>ω⟩
   .subst U;obtain⟨Q5,N⟩:=R.at_ l o b q J T;obtain⟨c',cu,M,JM,W,ZU⟩:=N.cells S;rw[K]at M;cases M;refine⟨a,m,λi j=>(c[q+((f+i)*o.sz+j)]?).getD Go.undef,y,λi s=>W _ ω,λi j s t=>?_,λi j s t=>?_⟩
    .obtain⟨u,C,H⟩:=ZU (f+i) j ω t;refine⟨b,q+f*o.sz,F,?_⟩;rw[cell_of_row w b _ c el (0,0) K,show q+f*o.sz+(i*o.sz+j)=q+((f+i)*o.sz+j) by rw[VM];omega,C];rfl
    .obtain⟨u,C,H⟩:=ZU (f+i) j ω t;simp only[C,Ky];exact H
  .cases e
 .simp only[Q6,Ze]at e;obtain⟨rfl,rfl,rfl,rfl⟩:=e;obtain⟨a,m,b,q,z,y,F,P,O,E⟩:=RZ r;exact⟨a,m,z,y,O,λi j s t=>⟨b,q,F ω,(E i j s t).1.2⟩,λi j s t=>.cl _ _ (E i j s t).2⟩
 .cases e
def flat(n a:Nat)(b:Nat->Nat->Value):List Value:=(List.range (n*a)).map λk=>b (k / a) (k % a)
def zH(n a)(b:Nat->Nat->Value):(flat n a b).length=n*a:=by simp[flat]
def GM{n a}{vs}{i j}(c:i<n)(b:j<a):(flat n a vs)[i*a+j]? = some (vs i j):=by
 have f:i*a+j<n*a:=by have:=XL a (show i+1<=n from c);rw[VM]at this;omega
 have e:(i*a+j) / a=i:=by rw[IP,Nat.mul_add_div ω,Nat.div_eq_of_lt b];rfl
 have d:(i*a+j) % a=j:=by rw[IP,Nat.mul_add_mod,Aq b]
 simp[flat,f,e,d]
def div_lt{n sz k:Nat}(h:k<n*sz):k / sz<n/\k % sz<sz/\k / sz*sz+k % sz=k:=by
 have a:0<sz:=Nat.pos_of_ne_zero (λe=>by subst e;simp at h);exact⟨Nat.div_lt_of_lt_mul (by rw[IP];exact h),Xx _ a,by rw[IP];exact bx k sz⟩
def Src.first{P}{h}{p}{w:World}{v}{n c}{e}{a}{d}{o}(S:Src Z h p w v n c e a d o)(f:World)(r:f.heap=w.heap):
  (Builtin.firstCells c n v).run P f=.ok (flat n c o).toArray f:=by
 rw[S.v];cases a with
 | none=>
  have:n*c=0:=by
   by_cases h:n*c=0
   .exact h
   .obtain⟨i,g,_⟩:=div_lt (n:=n) (sz:=c) (k:=0) ω;obtain⟨b,q,l,_⟩:=S.cell _ _ i g;cases l
  simp[Builtin.firstCells,flat,this]
 | some x=>
  refine run_firstCells_some f c n x n d _ (zH _ _ _) (λk u j=>?_);have s:k<n*c:=by have:=(Xa.1 j).1;rw[zH]at this;exact this
  obtain⟨i,g,m⟩:=div_lt s;obtain⟨b,q,l,t⟩:=S.cell _ _ i g;cases l;rw[<- m,GM i g]at j;cases j;rw[Ay,World.cell?_of_block (w:=w) (by rw[r]),<- m,t];simp only[m]
def ni(z:Array Value)(n:Nat):(Builtin.zeroCells z n).size=n*z.size:=by simp[Builtin.zeroCells]
def QbQ{P:Program}{t ty e:TypeId}{y:Ty}(I:P.underlying t=some (.slice e))(j:Xc P e y)(F:y.zero.length=y.size)(w:World)(b:Option Addr)(a d:Nat)(l:List Value)(c:Option Addr)(n r:Nat)(g:List Value)
  (m:∀h:World,h.heap=w.heap->(Builtin.firstCells y.size a (.slice b a d)).run P h=.ok l.toArray h) (N:∀h:World,h.heap=w.heap->(Builtin.firstCells y.size n (.slice c n r)).run P h=.ok g.toArray h)
  (L:d<a+n) (E:a+n<=4294967296) (u:y.bytes<=1024) :
  ∃o f,(Builtin.append_ #[t,t] ty #[.slice b a d,.slice c n r]).run P w=.ok (.slice (some ⟨w.heap.size,0,none⟩) (a+n) o) (w.drew.alloc (.cells (l.toArray++g.toArray++f) e)) /\
   a+n<=o/\f.size=(o - (a+n))*y.size:=by
 obtain⟨z,v,s⟩:=j.zeroValue;obtain⟨i,p,U,x⟩:=j.typeInfo w;refine⟨grownCap w (a+n) d e,Builtin.zeroCells z.cells (grownCap w (a+n) d e - (a+n)),?_,grownCap_ge _ _ _ _,by rw[ni];congr 1;rw[<- F,<- v];simp⟩;have M:∀w,(typeInfo e).run P w=.ok i w:=λw=>by
  obtain⟨Q,T,S,R⟩:=j.typeInfo w;have q:=j.info;cases hx:P.info? e with
  | none=>rw[hx]at q;cases q
  | some k=>
   simp[typeInfo,hx]at p ⊢;exact p
 have K:¬ (a+n<=d):=ω;have C:¬ (9223372036854775807<((a:Int)+(n:Int))):=ω;have O:Builtin.nextslicecap (a+n) d*y.bytes<=281474976710656:=growslice_fits L (by
  have:=Ys (show a+n<=4294967296 from E) u;omega)
 have B:¬ (281474976710656<Builtin.nextslicecap (a+n) d*i.bytes):=by rw[x];omega
 have J:=m w.drew rfl;have H:=N w.drew rfl;simp[Builtin.append_,run_underlying I,j.sizeOf,M,s,Builtin.lenOf,K,C,B,Question.forced,newRow,grownCap,J,H,askRoom,mark,Sem.run];rw[<- Array.append_assoc];simp
def Qm6{P:Program}{t ty e:TypeId}{y}(j:P.underlying t=some (.slice e))(i:Xc P e y)(w)(b q d f)(c)(n h)(a)
  (m:(Builtin.firstCells y.size n (.slice c n h)).run P w=.ok a.toArray w) (k:d+n<=f) {g:World} (l:(storeCells ⟨b,q+d*y.size,none⟩ a).run P w=.ok () g) :
  (Builtin.append_ #[t,t] ty #[.slice (some ⟨b,q,none⟩) d f,.slice c n h]).run P w=.ok (.slice (some ⟨b,q,none⟩) (d+n) f) g:=by
 simp[Builtin.append_,run_underlying j,i.sizeOf,Builtin.lenOf,k,m,Ay,l]
def QbS{P:Program}{t ty e:TypeId}{y}(d:P.underlying t=some (.slice e))(a:Xc P e y)(w)(b)(c)(f):
  (Builtin.append_ #[t,t] ty #[.slice b 0 0,.slice c 0 f]).run P w=.ok (.slice b 0 0) w:=by
 cases b<;>cases c<;>simp[Builtin.append_,run_underlying d,a.sizeOf,Builtin.lenOf,Builtin.firstCells,loadCells,loadCellsFrom,storeCells]
def JC(a b:Nat)(d c:Nat->List D):Nat->List D:=λk=>bif Nat.blt k a then d (b+k) else c (k - a)
def AD{a b k}{c d}(h:k<a):JC a b c d k=c (b+k):=by
 have:Nat.blt k a=true:=by simpa[xm] using h
 simp[JC,this]
def kS{a b k}{d c}(h:a<=k):JC a b d c k=c (k - a):=by
 have:Nat.blt k a=false:=by rw[<- Yq,xm];omega
 simp[JC,this]
def nu(y:Ty)(n:Nat):Prop:=n<=4294967296/\y.bytes<=1024/\y.zero.length=y.size
def Dp(L:Je)(h:List Ob)(t:TypeId)(s x:D):Option (Prop × List Ob × D):=
 match ty L t,R5 h x with
 | some ⟨.slice e,_,_,_⟩,some (f,n,d,a)=>match ty L e,s with
  | some y,.nil=>some (f/\d=y.size/\nu y n/\(∀k,k<n->(a k).all D.Vr=true),h++[⟨.arr,0,y.size,n,a⟩],.ref h.length 0 0 n)
  | some y,.ref l g c b=>match h[l]? with
   | some o=>some (f/\g=o.gen/\c+b=o.n/\o.sz=y.size/\d=y.size/\nu y (b+n)/\(∀k,k<n->(a k).all D.Vr=true)/\o.kd.ro=false,h.set l ⟨.arr,o.gen+1,y.size,b+n,JC b c o.row a⟩,.ref l (o.gen+1) 0 (b+n))
   | none=>none
  | _,_=>none
 | _,_=>none
def Tr.BM{j:Nat}{h:List Ob}{g:List Pl}{w u:World}(R:Zl Z j h g w){l:Nat}{o o':Ob}{p p':Pl}(n:h[l]? = some o)(m:g[l]? = some p)(I:o'.kd.ty=o.kd.ty)(K:o.gen<o'.gen)
  (e:∀k,k<w.heap.size->(∀q,p≠some (k,q))->u.heap[k]? = w.heap[k]?) (H:∀b q,p'=some (b,q)->(∃s,p=some (b,s))\/w.heap.size<=b):Tr h g w (h.set l o') (g.set l p') u where
 Ko:=λk x Qc=>by
  have B:∀q,p≠some (k,q):=λq t=>x l q (by rw[m,t]);refine⟨λd q i=>?_,e k Qc B⟩;by_cases a:l=d
  .subst a;have:(g.set l p')[l]? = some p':=by simp[Wp m]
   rw[this]at i;simp only[Q6]at i;rcases H k q i with ⟨s,h1⟩|h1
   .exact B s h1
   .omega
  .rw[JP a]at i;exact x d q i
 obj:=λd v E f r=>by
  by_cases a:l=d
  .subst a;rw[n]at f;cases f;exact⟨o',p',by simp[KA n],by simp[Wp m],ω,I,λh=>ω⟩
  .exact⟨v,E,by rw[JP a];exact f,by rw[JP a];exact r,QB _,rfl,λ_=>⟨rfl,rfl⟩⟩
 shape:=λd v J y C f z L r c el F=>by
  by_cases a:l=d
  .subst a;rw[n]at f;cases f;have:(h.set l o')[l]? = some o':=by simp[KA n]
   rw[this]at z;cases z;omega
  .refine⟨c,?_,rfl⟩;rw[e y (R.lt r).1 (λq t=>a (R.inj l d y q C (by rw[m,t]) r))];exact F
def Zl.BM{f:Nat}{h:List Ob}{r:List Pl}{w z:World}(R:Zl Z f h r w){l:Nat}{o o':Ob}{p:Pl}(K:h[l]? = some o)(F:r[l]? = some p)(S:o.kd.ty=0)(M:o'.kd.ty=0)(U:o.gen<o'.gen)
  (e:∀k,k<w.heap.size->(∀q,p≠some (k,q))->z.heap[k]? = w.heap[k]?) {n t:Nat} (N:(∃s,p=some (n,s))\/w.heap.size<=n) (Q5:f<=n) {c:Array Value} {L:TypeId} (V:z.heap[n]? = some (.cells c L (0,0)))
  (JA:t+o'.n*o'.sz<=c.size) (JS:∀i,i<o'.n->(o'.row i).length=o'.sz)
  (Y:∀i j,i<o'.n->j<o'.sz->∃v,c[t+(i*o'.sz+j)]? = some v/\QC Z (h.set l o') (r.set l (some (n,t))) z (nth (o'.row i) j) v):Zl Z f (h.set l o') (r.set l (some (n,t))) z:=by
 have T:Tr h r w (h.set l o') (r.set l (some (n,t))) z:=Tr.BM R K F (by rw[S,M]) U e (λb q B=>by simp at B;obtain⟨rfl,rfl⟩:=B;exact N);have C:(r.set l (some (n,t)))[l]? = some (some (n,t)):=by simp[Wp F]
 have g:∀(d b q:Nat),l≠d->r[d]? = some (some (b,q))->b≠n:=by
  intro d b q Q a Aw;subst Aw;rcases N with ⟨s,h2⟩|h2
  .exact Q (R.inj l d b s q (by rw[F,h2]) a)
  .have:=(R.lt a).1;omega
 refine⟨by simp[R.len],?_,?_,?_⟩
 .intro d E b J I a h2;by_cases m:l=d
  .subst m;rw[C]at a;simp only[Q6,Ze]at a;by_cases y:l=E
   .exact y
   .rw[JP y]at h2;exact absurd a.1.symm (g E b I y h2)
  .rw[JP m]at a;by_cases y:l=E
   .subst y;rw[C]at h2;simp only[Q6,Ze]at h2;exact absurd h2.1.symm (g d b J m a)
   .rw[JP y]at h2;exact R.inj d E b J I a h2
 .intro d H u a;by_cases m:l=d
  .subst m;rw[C]at a;cases a
  .rw[JP m]at a u;exact R.V0 d H u a
 .intro d H b q u a;by_cases m:l=d
  .subst m;rw[C]at a;simp only[Q6,Ze]at a;obtain⟨rfl,rfl⟩:=a;have:(h.set l o')[l]? = some o':=by simp[KA K]
   rw[this]at u;cases u;exact⟨λ_=>Q5,.NO M ⟨c,L,V,JA,JS,Y⟩⟩
  .rw[JP m]at a u;obtain⟨W,x⟩:=R.at_ d H b q u a;have QA:∀s,p≠some (b,s):=λs P=>m (R.inj l d b s q (by rw[F,P]) a);exact⟨W,x.to rfl rfl rfl (e b (R.lt a).1 QA) (λ_ _=>rfl) λi j v _ _ O=>O.tr T⟩
section
variable {P:Program}{L:Je}{base nt:Nat}{s:St}{o:Oper}
def Qm7(J:Z9 P L){t:TypeId}{l x}(E:o.op=.call ⟨.builtin .append,#[l,x],#[t,t]⟩)(BN:Qq s.fr l=.nil){p}{K}{d}(h:Dp L s.h t .nil (Qq s.fr x)=some (p,K,d))(hp:p):IZ P base nt o s K d:=by
 intro Z k a w r V;have R:=r.eval l;have kU:=r.eval x;rw[BN]at R;unfold Dp at h;split at h
 .rename_i e _ _ _ px n sz c he nv;cases u:ty L e with
  | none=>rw[u]at h;cases h
  | some y=>
   rw[u]at h;simp only[Q6,Ze]at h;obtain⟨rfl,rfl,rfl⟩:=h;obtain⟨nw,rfl,⟨kR,zI,GN⟩,Lc⟩:=hp;have B:=J _ _ u;have C:=ym (J _ _ he) rfl;obtain⟨m,U⟩:=Ax R;obtain⟨N,GO,g,S⟩:=nh r.o kU nv nw;have Q:k.length=s.h.length:=r.o.len;by_cases hn:n=0
   .subst hn;have T:Tr s.h k w (s.h++[⟨.arr,0,y.size,0,c⟩]) (k++[none]) w:=Tr.push r.o (λ_ _=>rfl) _ _ (by intro b q e;cases e);refine⟨_,w,k++[none],.inl ?_,T,r.o.kP _ rfl,.ref _ _ _ _ ⟨.arr,0,y.size,0,c⟩ none m 0 σ (by rw[<- Q];simp) rfl (QB _) (λ_=>.inl ⟨rfl,rfl⟩),Below.refl _ _⟩;rw[kQ E];simp[builtin,U,S.v,QbS C B]
   .obtain⟨v,f,O,Y,AF⟩:=QbQ (ty:=o.type) C B GN w m 0 0 [] N n GO (flat n y.size g) (λz _=>by cases m<;>simp[Builtin.firstCells,loadCells,loadCellsFrom]) (λz hw=>by rw[<- S.v];exact S.first z hw) ω ω zI;simp only[JR,Array.empty_append]at O Y AF;have M:∀b,b<w.heap.size->(w.drew.alloc (.cells ((flat n y.size g).toArray++f) e)).heap[b]? = w.heap[b]? := λb hb=>xq w.drew _ b hb;have W:(w.drew.alloc (.cells ((flat n y.size g).toArray++f) e)).heap[w.heap.size]? = some (.cells ((flat n y.size g).toArray++f) e (0,0)):=heap_alloc_new w.drew _;have T:Tr s.h k w (s.h++[⟨.arr,0,y.size,n,c⟩]) (k++[some (w.heap.size,0)]) (w.drew.alloc (.cells ((flat n y.size g).toArray++f) e)):=Tr.push r.o M _ _ (by intro b q h;simp at h;omega);refine⟨.slice (some ⟨w.heap.size,0,none⟩) n v,_,_,.inl ?_,T,Zl.push r.o M _ rfl (QB _) V W (by simp[zH]) S.len (λi j H F=>⟨g i j,?_,(S.rel i j H F).tr T⟩),.ref _ _ _ _ ⟨.arr,0,y.size,n,c⟩ (some (w.heap.size,0)) _ v σ (by rw[<- Q];simp) rfl (QB _) (λ_=>.inr ⟨w.heap.size,0,_,e,rfl,σ,W,?_,Y⟩),?_⟩
    .rw[kQ E];have:(Array.map a.eval #[l,x])=#[.slice m 0 0,.slice N n GO]:=by simp[U,S.v]
     rw[this];simp only[builtin,Sem.run_bind,O,Result.andThen_ok,Sem.run_pure]
    .have I:=GM (vs:=g) H F;have Qc:=(Xa.1 I).1;rw[JR,Nv (by simpa using Qc)];simpa using I
    .simp only[JR,Array.size_append,GC,zH,AF];rw[<- VM];exact XL _ ω
    .exact((Below.refl base w).drew).alloc V _
 .cases h
def Qm8(hL:Z9 P L){t:TypeId}{x0 x}{l g m f}(ho:o.op=.call ⟨.builtin .append,#[x0,x],#[t,t]⟩)(BN:Qq s.fr x0=.ref l g m f){p}{h'}{d}(h:Dp L s.h t (.ref l g m f) (Qq s.fr x)=some (p,h',d))(hp:p):IZ P base nt o s h' d:=by
 intro Z pl a w r KQ;have Xl:=r.eval x0;have kU:=r.eval x;rw[BN]at Xl;unfold Dp at h;split at h
 .rename_i e _ _ _ px n sz z he nv;cases WM:ty L e with
  | none=>rw[WM]at h;cases h
  | some y=>
   rw[WM]at h;dsimp only at h;split at h
   .rename_i B H;simp only[Q6,Ze]at h;obtain⟨rfl,rfl,rfl⟩:=h;obtain⟨nw,hg,Ld,a5,rfl,⟨kR,zI,GN⟩,Lc,a3⟩:=hp;have hy:=hL _ _ WM;have ht:=ym (hL _ _ he) rfl;obtain⟨o',p',U,O,NV,ZM,F,W,kN,Vq⟩:=EO Xl;rw[H]at ZM;cases ZM;obtain⟨ax,GO,J,S⟩:=nh r.o kU nv nw;have BP:(Array.map a.eval #[x0,x])=#[.slice U f O,.slice ax n GO]:=by simp[NV,S.v]
    have Y:∀{v:Value} {C:World},(Builtin.append_ #[t,t] o.type #[.slice U f O,.slice ax n GO]).run P w=.ok v C->(execOp a.eval o).run P w=.ok (.value v) C:=by
     intro v C Zf;rw[kQ ho,BP];simp only[builtin,Sem.run_bind,Zf,Result.andThen_ok,Sem.run_pure]
    have Q:∀(K:Nat->Nat->Value) (a1:∀C:World,C.heap=w.heap->(Builtin.firstCells y.size f (.slice U f O)).run P C=.ok (flat f y.size K).toArray C)
      (a2:∀i,i<f->(B.row (m+i)).length=y.size) (cw:∀i j,i<f->j<y.size->QC Z s.h pl w (nth (B.row (m+i)) j) (K i j)),O<f+n ->
      ∃v C Qj,((execOp a.eval o).run P w=.ok (.value v) C\/((execOp a.eval o).run P w=.ok .skip C/\v=Go.undef))/\Tr s.h pl w (s.h.set l ⟨.arr,B.gen+1,y.size,f+n,JC f m B.row z⟩) Qj C /\
       Zl Z base (s.h.set l ⟨.arr,B.gen+1,y.size,f+n,JC f m B.row z⟩) Qj C/\QC Z (s.h.set l ⟨.arr,B.gen+1,y.size,f+n,JC f m B.row z⟩) Qj C (.ref l (B.gen+1) 0 (f+n)) v/\Below base w C:=by
     intro K a1 a2 cw Qc;obtain⟨wm,I,Zf,GP,AF⟩:=QbQ (ty:=o.type) ht hy GN w U f O (flat f y.size K) ax n GO (flat n y.size J) a1 (λC hw=>by rw[<- S.v];exact S.first C hw) Qc kR zI;have e1:∀b,b<w.heap.size->(w.drew.alloc (.cells ((flat f y.size K).toArray++(flat n y.size J).toArray++I) e)).heap[b]? = w.heap[b]? := λb hb=>xq w.drew _ b hb;have J6:(w.drew.alloc (.cells ((flat f y.size K).toArray++(flat n y.size J).toArray++I) e)).heap[w.heap.size]? = some (.cells ((flat f y.size K).toArray++(flat n y.size J).toArray++I) e (0,0)):=heap_alloc_new w.drew _;have T:=Tr.BM (o':=⟨.arr,B.gen+1,y.size,f+n,JC f m B.row z⟩) (p':=some (w.heap.size,0)) r.o H F W.symm (BG _) (λk M _=>e1 k M) (by intro b q h;simp at h;exact .inr ω);refine⟨_,_,_,.inl (Y Zf),T,Zl.BM r.o H F W rfl (BG _) (λk M _=>e1 k M) (.inr (QB _)) KQ J6 ?_ (λi E=>?_) (λi j E V=>?_),.ref _ _ _ _ ⟨.arr,B.gen+1,y.size,f+n,JC f m B.row z⟩ (some (w.heap.size,0)) _ wm (by simp[KA H]) (by simp[Wp F]) rfl (QB _) (λ_=>.inr ⟨w.heap.size,0,_,e,rfl,σ,J6,?_,GP⟩),((Below.refl base w).drew).alloc KQ _⟩
     .simp[zH,VM]
     .by_cases N:i<f
      .show (JC f m B.row z i).length=_;rw[AD N];exact a2 i N
      .show (JC f m B.row z i).length=_;rw[kS ω];exact S.len _ (by have:i<f+n:=E;omega)
     .have WN:j<y.size:=V;have JB:i<f+n:=E;show ∃v,((flat f y.size K).toArray++(flat n y.size J).toArray++I)[0+(i*y.size+j)]? = some v/\QC _ _ _ _ (nth (JC f m B.row z i) j) v;by_cases N:i<f
      .rw[AD N];refine⟨K i j,?_,(cw i j N WN).tr T⟩;have R8:=GM (vs:=K) N WN;have R9:=(Xa.1 R8).1;rw[JR,Nv ξ,Nv (by simpa using R9)];simpa using R8
      .rw[kS ω];refine⟨J (i - f) j,?_,(S.rel (i - f) j ω WN).tr T⟩;have R8:=GM (vs:=J) (show i - f<n from ω) WN;have R9:=(Xa.1 R8).1;have e2:i*y.size+j - (flat f y.size K).length=(i - f)*y.size+j:=by
        rw[zH];have:i=(i - f)+f:=ω
        conv=>lhs;rw[this,VM]
        omega
       have e3:(flat f y.size K).length<=i*y.size+j:=by
        rw[zH];have:=XL y.size (show f<=i from ω);omega
       rw[JR,Nv ξ,Array.getElem?_append_right (by simpa using e3)];simp only[GC];rw[e2];simpa using R8
     .simp only[JR,Array.size_append,GC,zH,AF];rw[<- VM,<- VM];exact XL _ ω
    rcases Vq hg with ⟨R,h2⟩|⟨b,q,c,el,Wz,yo,hb,JM,Dl⟩
    .subst R;subst h2;by_cases hn:n=0
     .subst hn;have Zf:=QbS (ty:=o.type) ht hy w U ax GO;cases cz:p' with
      | none=>
       subst cz;have T:=Tr.BM (o':=⟨.arr,B.gen+1,y.size,0+0,JC 0 m B.row z⟩) (p':=none) r.o H F W.symm (BG _) (λk M _=>rfl) (by intro b q h;cases h);have jm:pl.set l none=pl:=by
        apply Am;intro i;by_cases E:l=i
        .subst E;rw[F];simp[Wp F]
        .rw[JP E]
       rw[jm]at T;refine⟨_,w,pl,.inl (Y Zf),T,?_,.ref _ _ _ _ ⟨.arr,B.gen+1,y.size,0+0,JC 0 m B.row z⟩ none U 0 (by simp[KA H]) F rfl (QB _) (λ_=>.inl ⟨rfl,rfl⟩),Below.refl _ _⟩;refine⟨by simp[r.o.len],r.o.inj,λl1 o1 Zz R=>?_,λl1 o1 b q Zz R=>?_⟩
       .by_cases e1:l=l1
        .subst e1;rw[Xb (KA H)]at Zz;cases Zz;rfl
        .rw[JP e1]at Zz;exact r.o.V0 l1 o1 Zz R
       .by_cases e1:l=l1
        .subst e1;rw[F]at R;cases R
        .rw[JP e1]at Zz;obtain⟨g1,x⟩:=r.o.at_ l1 o1 b q Zz R;exact⟨g1,x.to rfl rfl rfl rfl (λ_ _=>rfl) λi j v _ _ hr=>hr.tr T⟩
      | some bq=>
       obtain⟨b,q⟩:=bq;subst cz;obtain⟨g1,x⟩:=r.o.at_ l B b q H F;obtain⟨c,el,g2,g3,g4,g5⟩:=x.cells W;have T:=Tr.BM (o':=⟨.arr,B.gen+1,y.size,0+0,JC 0 m B.row z⟩) (p':=some (b,q)) r.o H F W.symm (BG _) (λk M _=>rfl) (by intro b1 q1 h;simp at h;exact .inl ⟨q,by rw[h.1]⟩);exact⟨_,w,_,.inl (Y Zf),T,Zl.BM r.o H F W rfl (BG _) (λk M _=>rfl) (.inl ⟨q,rfl⟩) (g1 a3) g2 ξ (λi E=>by simp at E) (λi j E=>by simp at E),
        .ref _ _ _ _ ⟨.arr,B.gen+1,y.size,0+0,JC 0 m B.row z⟩ (some (b,q)) U 0 (by simp[KA H]) (by simp[Wp F]) rfl (QB _) (λ_=>.inl ⟨rfl,rfl⟩),Below.refl _ _⟩
     .exact Q (λ_ _=>Go.undef) (λC _=>by cases U<;>simp[Builtin.firstCells,loadCells,loadCellsFrom,flat]) (λi E=>ω) (λi j E=>ω) ω
    .subst Wz;obtain⟨Q5,x⟩:=r.o.at_ l B b q H F;have Q5:=Q5 a3;obtain⟨c',cu,K7,La,JS,ZU⟩:=x.cells W;rw[hb]at K7;cases K7;rw[a5]at JM La JS ZU yo;by_cases cv:f+n<=O
     ·
      have GQ:q+m*y.size+f*y.size+n*y.size<=c.size:=by
       have R:=XL y.size (show m+(f+n)<=m+O from ω);simp only[VM]at R JM;omega
      obtain⟨C,c',g1,g2,g3,g4,g5,g6,g7,g8,g9⟩:=cr (P:=P) b el (flat n y.size J) 0 (q+m*y.size+f*y.size) w c hb (by simp[zH];omega) (λk M=>by
       rw[zH]at M;obtain⟨k1,k2,k3⟩:=div_lt M;have hg:=GM (vs:=J) k1 k2;rw[k3]at hg;have:Q7 (flat n y.size J) k=J (k / y.size) (k % y.size):=by simp[Q7,QY,hg]
       rw[this];refine m7 (S.rel _ _ k1 k2) ?_;have h2:=Lc _ k1;rw[zC]at h2;refine h2 _ ?_;have h3:k % y.size<(z (k / y.size)).length:=by rw[S.len _ k1];exact k2
       simp only[nth,QY,QG h3,Ky];exact X0 h3)
      subst yo;have Zf:=Qm6 (ty:=o.type) ht hy w b (q+m*y.size) f O ax n GO (flat n y.size J) (by rw[<- S.v];exact S.first w rfl) cv g1;have he:∀k,k<w.heap.size->(∀q1,(some (b,q):Pl)≠some (k,q1))->C.heap[k]? = w.heap[k]? := λk _ M=>g5 k (λa4=>M q (by rw[a4]));have T:=Tr.BM (o':=⟨.arr,B.gen+1,y.size,f+n,JC f m B.row z⟩) (p':=some (b,q+m*y.size)) r.o H F W.symm (BG _) he (by intro b1 q1 h;simp at h;exact .inl ⟨q,by rw[h.1]⟩);refine⟨_,C,_,.inl (Y Zf),T,Zl.BM r.o H F W rfl (BG _) he (.inl ⟨q,rfl⟩) Q5 g2 ?_ (λi E=>?_) (λi j E V=>?_),.ref _ _ _ _ ⟨.arr,B.gen+1,y.size,f+n,JC f m B.row z⟩ (some (b,q+m*y.size)) _ O (by simp[KA H]) (by simp[Wp F]) rfl (QB _) (λ_=>.inr ⟨b,q+m*y.size,c',el,rfl,σ,g2,?_,cv⟩),NT Q5 g5 g6 g7 g8 g9⟩
      .rw[g3];simp only[VM];omega
      .by_cases N:i<f
       .show (JC f m B.row z i).length=_;rw[AD N];exact JS _ ω
       .show (JC f m B.row z i).length=_;rw[kS ω];exact S.len _ (by have:i<f+n:=E;omega)
      .have WN:j<y.size:=V;have JB:i<f+n:=E;show ∃v,c'[q+m*y.size+(i*y.size+j)]? = some v/\QC _ _ _ _ (nth (JC f m B.row z i) j) v;rw[g4];simp only[zH,Ap];by_cases N:i<f
       .rw[AD N,Qd]
        .obtain⟨v,hv,hr⟩:=ZU (m+i) j ω WN;refine⟨v,?_,hr.tr T⟩;rw[<- hv];congr 1;rw[VM];omega
        .have:=XL y.size (show i+1<=f from N);rw[VM]at this;omega
       .have R:=XL y.size (show f<=i from ω);have h2:i*y.size=(i - f)*y.size+f*y.size:=by rw[<- VM];congr 1;omega
        have h3:=XL y.size (show (i - f)+1<=n from ω);rw[VM]at h3;rw[kS ω,Qe ω];refine⟨J (i - f) j,?_,(S.rel (i - f) j ω WN).tr T⟩;rw[show q+m*y.size+(i*y.size+j) - (q+m*y.size+f*y.size)=(i - f)*y.size+j by omega];exact GM ω WN
      .rw[g3];simp only[JR,VM]at JM ⊢;omega
     .refine Q (λi j=>(c[q+((m+i)*y.size+j)]?).getD Go.undef) (λC hw=>?_) (λi E=>JS _ ω) (λi j E V=>?_) ω
      .have S0:Src Z s.h pl w (.slice U f O) f y.size (λk=>B.row (m+k)) U O (λi j=>(c[q+((m+i)*y.size+j)]?).getD Go.undef):=by
        refine⟨rfl,λi E=>JS _ ω,λi j E V=>⟨b,q+m*y.size,yo,?_⟩,λi j E V=>?_⟩
        .obtain⟨u,hu,hr⟩:=ZU (m+i) j ω V;rw[cell_of_row w b _ c el (0,0) hb,show q+m*y.size+(i*y.size+j)=q+((m+i)*y.size+j) by rw[VM];omega,hu];rfl
        .obtain⟨u,hu,hr⟩:=ZU (m+i) j ω V;simp only[hu,Ky];exact hr
       exact S0.first C hw
      .obtain⟨u,hu,hr⟩:=ZU (m+i) j ω V;simp only[hu,Ky];exact hr
   .cases h
 .cases h
def Qnb(f:Z9 P L){t:TypeId}{a x}(b:o.op=.call ⟨.builtin .append,#[a,x],#[t,t]⟩)(g:Qq s.fr a=.nil){p}{c}{d}(h:Dp L s.h t .nil (Qq s.fr x)=some (p,c,d))(e:p):jQ P base nt o s c d:=
 (Qm7 f b g h e).up (by simp[calm,b])
def Qnc(j:Z9 P L){t:TypeId}{c x}{l g a b}(e:o.op=.call ⟨.builtin .append,#[c,x],#[t,t]⟩)(k:Qq s.fr c=.ref l g a b){p}{f}{d}(h:Dp L s.h t (.ref l g a b) (Qq s.fr x)=some (p,f,d))(i:p):jQ P base nt o s f d:=
 (Qm8 j e k h i).up (by simp[calm,e])
end
variable {Z:Nat->Prop}
def AH(Z:Nat->Prop)(h:List Ob)(c:List Pl)(w:World)(a:List D)(b:Array Value):Prop:=b.size=a.length/\∀i,i<a.length->QC Z h c w (nth a i) (Q7 b.toList i)
def QbU(a):∀(l:List Value) (n:Nat) (c:Array Value),((l.zipIdx n).foldl (λ(d:Array Value) (x:Value × Nat)=>d.setIfInBounds (a+x.2) x.1) c).size=c.size /\
  ∀k,(((l.zipIdx n).foldl (λ(d:Array Value) (x:Value × Nat)=>d.setIfInBounds (a+x.2) x.1) c)[k]?)=if a+n<=k/\k<a+n+l.length/\k<c.size then l[k - (a+n)]? else c[k]?
 | [],n,c=>⟨rfl,λk=>by rw[Qd ξ];rfl⟩
 | v::l,n,c=>by
  obtain⟨h,g⟩:=QbU a l (n+1) (c.setIfInBounds (a+n) v);simp only[List.zipIdx_cons,v8];refine⟨by rw[h];simp,λk=>?_⟩;rw[g k];simp only[Array.size_setIfInBounds,Vo];by_cases f:k=a+n
  .subst f;rw[Qd ω,Array.getElem?_setIfInBounds_self];by_cases b:a+n<c.size
   .rw[Qe b,Qe ⟨ω,ω,b⟩];simp
   .rw[Qd b,Qd ω];simp;omega
  .rw[mH ω];by_cases e:a+n<=k/\k<a+n+(l.length+1)/\k<c.size
   .rw[Qe e,Qe ω];obtain⟨m,rfl⟩:∃m,k=a+n+(m+1):=⟨k - (a+n) - 1,ω⟩;rw[show a+n+(m+1) - (a+(n+1))=m by omega,show a+n+(m+1) - (a+n)=m+1 by omega];simp
   .rw[Qd e,Qd ω]
def Qnd(a)(v:Array Value)(c):v.zipIdx.foldl (λ(b:Array Value) (x:Value × Nat)=>b.setIfInBounds (a+x.2) x.1) c=(v.toList.zipIdx 0).foldl (λ(b:Array Value) (x:Value × Nat)=>b.setIfInBounds (a+x.2) x.1) c:=by
 rw[<- Array.foldl_toList,Array.toList_zipIdx]
def AH.BL{h}{j}{w}{b f:List D}{c d}{a}(r:AH Z h j w b c)(q:AH Z h j w f d)(k:a+f.length<=b.length):
  AH Z h j w (BL b a f) (d.zipIdx.foldl (λ(b:Array Value) (x:Value × Nat)=>b.setIfInBounds (a+x.2) x.1) c):=by
 obtain⟨n,m⟩:=QbU a d.toList 0 c;rw[Qnd];refine⟨by rw[n,r.1,ct k],λi l=>?_⟩;rw[ct k]at l;rw[QbL k];have e:Q7 (List.foldl (λ(b:Array Value) (x:Value × Nat)=>b.setIfInBounds (a+x.2) x.1) c (d.toList.zipIdx 0)).toList i=if a<=i/\i<a+f.length then Q7 d.toList (i - a) else Q7 c.toList i:=by
  simp only[Q7,QY,vW,m i,Ap,Array.length_toList,q.1,r.1];by_cases g:a<=i/\i<a+f.length
  .rw[Qe ⟨g.1,g.2,l⟩,Qe g]
  .rw[Qd ω,Qd g]
 rw[e];split
 .exact q.2 _ ω
 .exact r.2 _ l
def yp(b:Nat->Option (Nat × Nat))(a:List D):List (Nat × Option (List D))->Option (List D)
 | []=>some a
 | (i,some f)::e=>match b i with
  | some (c,d)=>bif Nat.beq f.length d&&Nat.ble (c+f.length) a.length then yp b (BL a c f) e else none
  | none=>none
 | (_,none)::_=>none
def Sa{h:List Ob}{pl:List Pl}{w:World}(b:Nat->Option (Nat × Nat))(f:Operand->D)(a:Act)(o:∀x,QC Z h pl w (f x) (a.eval x)):∀(parts:List (Nat × Operand)) (c j:List D) (e:Array Value),AH Z h pl w c e ->
  yp b c (parts.map λx=>(x.1,Yu (f x.2)))=some j->∃g,Instr.fill b e (parts.map λx=>(x.1,a.eval x.2))=some g/\AH Z h pl w j g
 | [],c,j,e,r,d=>by simp[yp]at d;subst d;exact⟨e,rfl,r⟩
 | (i,x)::parts,c,j,e,r,d=>by
  simp only[JQ]at d ⊢;cases l:Yu (f x) with
  | none=>rw[l]at d;simp[yp]at d
  | some y=>
   rw[l]at d;simp only[yp]at d;cases k:b i with
   | none=>rw[k]at d;cases d
   | some s=>
    obtain⟨B,p⟩:=s;rw[k]at d;obtain⟨m,d⟩:=jP d;simp only[ZL,Wo,IK]at m;obtain⟨n,z⟩:=m8 (o x) l;have q:AH Z h pl w y (a.eval x).cells:=⟨n,λi t=>(z i t).1⟩;obtain⟨g,v,u⟩:=Sa b f a o parts _ _ _ (r.BL q m.2) d;refine⟨g,?_,u⟩;simp only[Instr.fill,k];rw[Qd (by simp only[n,r.1];simp;omega)];exact v
def ny{h}{pl}{w}{y:Ty}{z:Value}(a:z.cells.toList=y.zero):AH Z h pl w (y.zero.map J8) z.cells:=by
 refine⟨by rw[<- a];simp,λi b=>?_⟩;rw[<- a]at b ⊢;have c:i<z.cells.size:=by simpa using b
 refine .cl _ _ ?_;simp only[nth,Q7,QY,KP,vW,jK c,K6,Ky];exact Di _ _ _
def NW(L:Je):List (Nat × TypeId)->Option (List (Nat × Nat))
 | []=>some []
 | (a,u)::r=>match ty L u,NW L r with
  | some y,some b=>some ((a,y.size)::b)
  | _,_=>none
def QbV{P}{L}(d:Z9 P L)(w):∀(b:List Field) (a:List (Nat × Nat)),NW L (b.map λf=>(f.offset,f.type))=some a->(b.mapM λf=>Prod.mk f.offset <$> sizeOf f.type).run P w=.ok a w
 | [],a,h=>by simp[NW]at h;subst h;simp
 | f::b,a,h=>by
  simp only[JQ,NW]at h;split at h
  .rename_i y c g e;simp only[Q6]at h;subst h;simp[List.mapM_cons,(d _ _ g).sizeOf,QbV d w b c e]
  .cases h
def cA(L:Je)(d:List (Nat × D))(t:TypeId)(a:List (Nat × Operand)):Option D:=
 match ty L t with
 | some y=>match y.k with
  | .struct g=>match NW L g with
   | some f=>match yp (λi=>f[i]?) (y.zero.map J8) (a.map λx=>(x.1,Yu (Qq d x.2))) with
    | some b=>some (.agg b)
    | none=>none
   | none=>none
  | .array _ e=>match ty L e with
   | some c=>match yp (λi=>some (i*c.size,c.size)) (y.zero.map J8) (a.map λx=>(x.1,Yu (Qq d x.2))) with
    | some b=>some (.agg b)
    | none=>none
   | none=>none
  | _=>none
 | none=>none
section
variable {P:Program}{L:Je}{base nt:Nat}{s:St}{o:Oper}
def AH.agg{h}{pl}{w}{b}{a}(r:AH Z h pl w b a):QC Z h pl w (.agg b) (.agg a):=by
 have:=QC.agg (h:=h) (pl:=pl) (w:=w) b a.toList (by simpa using r.1) r.2;simpa using this
def Qnf(i:Z9 P L){t:TypeId}{b:Array (Nat × Operand)}(v:o.op=.build t b){d}(h:cA L s.fr t b.toList=some d):WA P base nt o s d:=by
 intro Z u a w r;unfold cA at h;split at h
 .rename_i y M;have c:=i _ _ M;obtain⟨z,hz,m⟩:=c.zeroValue;split at h
  .rename_i O f;split at h
   .rename_i q C;split at h
    .rename_i H l;simp only[Q6]at h;subst h;obtain⟨g,F,E⟩:=QbE c f;obtain⟨B,k,j⟩:=Sa (h:=s.h) (pl:=u) (w:=w) _ (Qq s.fr) a (λx=>r.eval x) b.toList _ _ _ (ny hz) l;refine⟨_,j.agg,λp _=>?_⟩;have I:=QbV i p g.toList q (by rw[E];exact C);have K:Instr.fill (λx=>q[x]?) z.cells (List.map (λx=>(x.fst,a.eval x.snd)) b.toList)=some B:=k;simp[execOp,v,Instr.build,m,run_underlying F,Array.mapM_eq_mapM_toList,I,K]
    .cases h
   .cases h
  .rename_i n e f;split at h
   .rename_i N J;split at h
    .rename_i H l;simp only[Q6]at h;subst h;obtain⟨B,k,j⟩:=Sa (h:=s.h) (pl:=u) (w:=w) _ (Qq s.fr) a (λx=>r.eval x) b.toList _ _ _ (ny hz) l;refine⟨_,j.agg,λp _=>?_⟩;simp[execOp,v,Instr.build,m,run_underlying (mQ c f),(i _ _ J).sizeOf,k]
    .cases h
   .cases h
  .cases h
 .cases h
def nA{a b:List D}{i}(h:i<a.length):nth (a++b) i=nth a i:=by simp only[nth,QY,JO h]
def nB{a b:List D}{i}(h:a.length<=i):nth (a++b) i=nth b (i - a.length):=by simp only[nth,QY,Kh h]
def nC(n)(a:List D):(List.replicate n a).flatten.length=n*a.length:=σ
def QbW(a:List D):∀(n i:Nat),i<n*a.length->nth (List.replicate n a).flatten i=nth a (i % a.length)
 | 0,i,h=>by simp at h
 | n+1,i,h=>by
  rw[bk,List.flatten_cons];rw[VM]at h;by_cases b:i<a.length
  .rw[nA b,Aq b]
  .rw[nB ω,QbW a n _ ω];congr 1;rw[Nat.mod_eq_sub_mod (by omega:a.length<=i)]
def BR(b c:Nat)(a:List D):Nat->List D:=bif Nat.beq b 1 then λ_=>a else λk=>(a.drop (k*c)).take c
def cB(L:Je)(c:List (Nat × D))(h:List Ob)(t:TypeId)(a:Nat)(b:List (Nat × Operand)):Option (Prop × List Ob × D):=
 match ty L t with
 | some ⟨.slice e,_,_,_⟩=>match ty L e with
  | some y=>match yp (λi=>some (i*y.size,y.size)) (List.replicate a (y.zero.map J8)).flatten (b.map λx=>(x.1,Yu (Qq c x.2))) with
   | some d=>some (a*y.size<=16777216/\y.zero.length=y.size,h++[⟨.arr,0,y.size,a,BR a y.size d⟩],.ref h.length 0 0 a)
   | none=>none
  | none=>none
 | _=>none
def QbX(b):∀(d:List (Nat × Option (List D))) (a c:List D),yp b a d=some c->c.length=a.length
 | [],a,c,h=>by simp[yp]at h;rw[h]
 | (i,none)::d,a,c,h=>by simp[yp]at h
 | (i,some f)::d,a,c,h=>by
  simp only[yp]at h;split at h
  .obtain⟨e,h⟩:=jP h;simp only[ZL,Wo,IK]at e;rw[QbX b d _ _ h,ct e.2]
  .cases h
def Qng(Y:Z9 P L){t:TypeId}{c}{g:Array (Nat × Operand)}(W:o.op=.buildSlice t c g){p}{h'}{d}(h:cB L s.fr s.h t c g.toList=some (p,h',d))(hp:p):jQ P base nt o s h' d:=by
 intro Z u a w r KQ;unfold cB at h;split at h
 .rename_i e _ _ _ he;split at h
  .rename_i y BK;split at h
   .rename_i m R;simp only[Q6,Ze]at h;obtain⟨rfl,rfl,rfl⟩:=h;obtain⟨a0,GN⟩:=hp;have N:=Y _ _ BK;obtain⟨z,hz,zJ⟩:=N.zeroValue;have ES:z.cells.size=y.size:=by rw[<- GN,<- hz];simp
    have V:=ym (Y _ _ he) rfl;have zr:=ny (Z:=Z) (h:=s.h) (pl:=u) (w:=w) hz;have I:(y.zero.map J8).length=y.size:=by simp[GN]
    have l:m.length=c*y.size:=by rw[QbX _ _ _ _ R,nC,I]
    have E:∀zc:Array Value,(c*y.size=0->zc=#[])->(c*y.size≠0->zc=z.cells)->AH Z s.h u w (List.replicate c (y.zero.map J8)).flatten ((Array.range (c*y.size)).map (zc[· % zc.size]!)):=by
     intro zc H n;refine⟨by rw[nC,I];simp,λi B=>?_⟩;rw[nC,I]at B;have QA:c*y.size≠0:=ω;have ET:=n QA;subst ET;have U:0<y.size:=Nat.pos_of_ne_zero (λe=>QA (by rw[e];simp));rw[QbW _ _ _ (by rw[I];exact B),I];have C:=zr.2 (i % y.size) (by rw[I];exact Xx _ U);have h3:i % y.size<z.cells.size:=by rw[ES];exact Xx _ U
     have:Q7 (Array.map (λx=>z.cells[x % z.cells.size]!) (Array.range (c*y.size))).toList i=Q7 z.cells.toList (i % y.size):=by
      simp only[Q7,QY,vW,Array.getElem?_map,Array.getElem?_range,B,Vp,K6,Ky,ES];rw[getElem!_pos z.cells _ h3,jK h3];rfl
     rw[this];exact C
    have K:∀k:Array Value,AH Z s.h u w m k->(execOp a.eval o).run P w=.ok (.value (.slice (some ⟨w.heap.size,0,none⟩) c c)) (w.alloc (.cells k e)) ->
      ∃v F Q,((execOp a.eval o).run P w=.ok (.value v) F\/((execOp a.eval o).run P w=.ok .skip F/\v=Go.undef))/\Tr s.h u w (s.h++[⟨.arr,0,y.size,c,BR c y.size m⟩]) Q F /\
       Zl Z base (s.h++[⟨.arr,0,y.size,c,BR c y.size m⟩]) Q F/\QC Z (s.h++[⟨.arr,0,y.size,c,BR c y.size m⟩]) Q F (.ref s.h.length 0 0 c) v/\Below base w F/\(calm o=true->Ext w F):=by
     intro k M Zf;have J:∀b,b<w.heap.size->(w.alloc (.cells k e)).heap[b]? = w.heap[b]? := λb hb=>xq w _ b hb;have J6:(w.alloc (.cells k e)).heap[w.heap.size]? = some (.cells k e (0,0)):=heap_alloc_new w _;have Zb:u.length=s.h.length:=r.o.len;have T:Tr s.h u w (s.h++[⟨.arr,0,y.size,c,BR c y.size m⟩]) (u++[some (w.heap.size,0)]) (w.alloc (.cells k e)):=Tr.push r.o J _ _ (by intro b q h;simp at h;omega);have ZU:∀i,i<c->(BR c y.size m i).length=y.size/\∀j,j<y.size->nth (BR c y.size m i) j=nth m (i*y.size+j):=by
      intro i B;unfold BR;by_cases n:c=1
      .subst n;have:i=0:=ω;subst this;simp[l]
      .have:Nat.beq c 1=false:=by rw[<- Yq,Wo];exact n
       rw[this];have C:=XL y.size (show i+1<=c from B);rw[VM]at C;refine⟨by simp[l];omega,λj O=>?_⟩;simp only[jl];rw[mW O,GJ]
     refine⟨_,_,_,.inl Zf,T,Zl.push r.o J _ rfl (QB _) KQ J6 (by simp[M.1,l]) (λi B=>(ZU i B).1) (λi j B O=>?_),.ref _ _ _ _ ⟨.arr,0,y.size,c,BR c y.size m⟩ (some (w.heap.size,0)) _ c σ (by rw[<- Zb];simp) rfl (QB _) (λ_=>.inr ⟨w.heap.size,0,k,e,rfl,σ,J6,by simp[M.1,l],QB _⟩),ER KQ _,λ_=>J⟩;have WN:j<y.size:=O;have JB:i<c:=B;have C:=XL y.size (show i+1<=c from JB);rw[VM]at C;have Qc:i*y.size+j<m.length:=ω;refine⟨Q7 k.toList (i*y.size+j),?_,?_⟩
     .have:i*y.size+j<k.size:=by rw[M.1];exact Qc
      simp only[JR,Q7,QY,vW,jK this,Ky]
     .show QC _ _ _ _ (nth (BR c y.size m i) j) _;rw[(ZU i JB).2 j WN];exact(M.2 _ Qc).tr T
    by_cases H:c*y.size=0
    .obtain⟨k,n,C⟩:=Sa (h:=s.h) (pl:=u) (w:=w) _ (Qq s.fr) a (λx=>r.eval x) g.toList _ _ _ (E #[] (λ_=>rfl) (λh=>absurd H h)) R;rw[H]at n;have e0:Array.map (λx=>(#[]:Array Value)[x % (#[]:Array Value).size]!) (Array.range 0)=#[]:=σ;rw[e0]at n;have J:∀f:Nat->Value,Array.map f (Array.range 0)=#[]:=λf=>Array.eq_empty_of_size_eq_zero σ;refine K k C ?_;simp[execOp,W,Instr.buildSlice,run_underlying V,N.sizeOf,H,newRow,n,J]
    .obtain⟨k,n,C⟩:=Sa (h:=s.h) (pl:=u) (w:=w) _ (Qq s.fr) a (λx=>r.eval x) g.toList _ _ _ (E z.cells (λh=>absurd h H) (λ_=>rfl)) R;refine K k C ?_;have S:¬ (16777216<c*y.size):=ω;simp[execOp,W,Instr.buildSlice,run_underlying V,N.sizeOf,zJ,H,S,newRow,n]
   .cases h
  .cases h
 .cases h
end
variable {Z:Nat->Prop}
def kV(b:List (Nat × D))(a:Int):Option Operand->Option Int
 | none=>some a
 | some x=>match Qq b x with
  | .raw (.int _ i)=>some i
  | _=>none
def QbY{P:Program}(w:World){k:IntKind}{i:Int}{y:Nat}{c:BoundsCode}(b:0<=i)(a:i<=y):(Instr.sliceBound (.int k i) y c).run P w=.ok i.toNat w:=by
 simp[Instr.sliceBound,asIntOf,b,a]
def cC{P:Program}{p F:Nat}{s:St}{E:List Pl}{a:Act}{C:World}(r:Rel Z p F s E a C)(w:World)(b:Bool)(e f:Nat)(t q:Option Operand){l u:Int}(y:kV s.fr 0 t=some l)(g:kV s.fr e q=some u)
  (J:0<=l) (L:l<=u) (K:u<=e) (N:e<=f):(Instr.sliceBounds b e f (t.map a.eval) (q.map a.eval) none).run P w=.ok (l.toNat,u.toNat,f) w:=by
 have get:∀(x:Operand) (d:Int) (i:Int),kV s.fr d (some x)=some i->∃k,a.eval x=.int k i:=by
  intro x d i h;have H:=r.eval x;simp only[kV]at h;generalize Qq s.fr x=M at *;split at h
  .rename_i k j;simp only[Q6]at h;subst h;exact⟨k,Jt H⟩
  .cases h
 have o:∀(v:Value) (m:Nat) (c:BoundsCode),(∃k,v=.int k u)->u<=m->(Instr.sliceBound v m c).run P w=.ok u.toNat w:=by
  rintro v m c ⟨k,rfl⟩ I;exact QbY w ω I
 have n:∀(v:Value) (c:BoundsCode),(∃k,v=.int k l)->(Instr.sliceBound v u.toNat c).run P w=.ok l.toNat w:=by
  rintro v c ⟨k,rfl⟩;exact QbY w J ω
 cases t with
 | none=>
  simp only[kV,Q6]at y;subst y;cases q with
  | none=>simp only[kV,Q6]at g;subst g;simp[Instr.sliceBounds]
  | some x=>
   have hx:=get x e u g;cases b<;>simp[Instr.sliceBounds,o _ f _ hx ω]
 | some z=>
  have hz:=get z 0 l y;cases q with
  | none=>
   simp only[kV,Q6]at g;have:u.toNat=e:=ω;have B:=λc=>n (a.eval z) c hz;rw[this]at B;simp[Instr.sliceBounds,B,this]
  | some x=>
   have hx:=get x e u g;cases b<;>simp[Instr.sliceBounds,o _ f _ hx ω,n _ _ hz]
def cD(L:Je)(c:List (Nat × D))(h:List Ob)(t:TypeId)(d:D)(j k:Option Operand):Ev:=
 match ty L t with
 | some ⟨.slice e,_,_,_⟩=>match ty L e with
  | some y=>match d with
   | .ref l g p f=>match h[l]?,kV c 0 j,kV c f k with
    | some o,some a,some b=>some (g=o.gen/\o.sz=y.size/\0<=a/\a<=b/\b<=f,.ref l g (p+a.toNat) (b - a).toNat)
    | _,_,_=>none
   | .imm z n m=>match kV c 0 j,kV c n k with
    | some a,some b=>some (z=y.size/\0<=a/\a<=b/\b<=n,.imm z (b - a).toNat λi=>m (a.toNat+i))
    | _,_=>none
   | .nil=>match kV c 0 j,kV c 0 k with
    | some a,some b=>some (a=0/\b=0,.nil)
    | _,_=>none
   | _=>none
  | none=>none
 | some ⟨.str,_,_,_⟩=>match d with
  | .raw (.string s)=>match kV c 0 j,kV c s.size k with
   | some a,some b=>some (0<=a/\a<=b/\b<=s.size,.raw (.string (s.extract a.toNat b.toNat)))
   | _,_=>none
  | _=>none
 | _=>none
section
variable {P:Program}{L:Je}{base nt:Nat}{s:St}{o:Oper}
def Qnj(hL:Z9 P L){t:TypeId}{x}{H m}(T:o.op=.slice t x H m none){p}{d}(h:cD L s.fr s.h t (Qq s.fr x) H m=some (p,d))(S:p):WA P base nt o s d:=by
 intro Z pl a w r;have hx:=r.eval x;unfold cD at h;split at h
 .rename_i e _ _ _ he;have I:=ym (hL _ _ he) rfl;split at h
  .rename_i y BK;have W:=hL _ _ BK;generalize Qq s.fr x=dx at *;split at h
   .rename_i l g Q R;split at h
    .rename_i ob k N Zj E F;simp only[Q6,Ze]at h;obtain⟨rfl,rfl⟩:=h;obtain⟨hg,JA,M,K,J⟩:=S;obtain⟨o',p',C,f,B,ZM,Z2,ZK,kN,Vq⟩:=EO hx;rw[Zj]at ZM;cases ZM;have Dl:R<=f:=by
      rcases Vq hg with ⟨h3,h4⟩|⟨_,_,_,_,_,_,_,_,h3⟩<;>omega
     refine⟨.slice (if f=k.toNat then C else C.map (·.add (k.toNat*y.size))) (N - k).toNat (f - k.toNat),?_,λv _=>?_⟩
     .refine .ref _ _ _ _ ob p' _ _ Zj Z2 ZK kN (λ_=>?_);rcases Vq hg with ⟨h3,h4⟩|⟨b,q,c,el,Wz,V,u,JM,h3⟩
      .exact .inl ⟨ω,ω⟩
      .by_cases U:f=k.toNat
       .exact .inl ⟨ω,ω⟩
       .refine .inr ⟨b,q,c,el,Wz,?_,u,?_,ω⟩
        .rw[Qd U,V,K6,Ay,JA,VM];simp only[Q6,Addr.mk.injEq,and_true,yl];omega
        .rw[show Q+k.toNat+(f - k.toNat)=Q+f by omega];exact JM
     .have u:=cC (P:=P) r v true R f H m E F M K J Dl;simp[execOp,T,Instr.sliceAt,run_underlying I,Instr.slice,B,u,W.sizeOf];omega
    .cases h
   .rename_i z n a0;split at h
    .rename_i k N E F;simp only[Q6,Ze]at h;obtain⟨rfl,rfl⟩:=h;obtain⟨rfl,M,K,J⟩:=S;obtain⟨C,f,b,q,vs,B,V,Dl,hs,U⟩:=RZ hx;refine⟨.slice (if f=k.toNat then C else C.map (·.add (k.toNat*y.size))) (N - k).toNat (f - k.toNat),.cl _ _ ?_,λv _=>?_⟩
     .refine .imm _ _ _ _ _ b (q+k.toNat*y.size) (λi j=>vs (k.toNat+i) j) (λqS=>?_) ω (λi m=>hs _ ω) (λi j m Y=>?_) (λi j m Y=>(U (k.toNat+i) j ω Y).2)
      .rw[Qd ω,V ω,K6,Ay]
      .obtain⟨⟨g1,g2⟩,_⟩:=U (k.toNat+i) j ω Y;refine⟨g1,?_⟩;rw[<- g2];congr 2;rw[VM];omega
     .have u:=cC (P:=P) r v true n f H m E F M K J Dl;simp[execOp,T,Instr.sliceAt,run_underlying I,Instr.slice,B,u,W.sizeOf];omega
    .cases h
   .split at h
    .rename_i k N E F;simp only[Q6,Ze]at h;obtain⟨rfl,rfl⟩:=h;obtain⟨rfl,rfl⟩:=S;obtain⟨C,B⟩:=Ax hx;refine⟨.slice C 0 0,.cl _ _ (.nil _),λv _=>?_⟩;have u:=cC (P:=P) r v true 0 0 H m E F ω ω ω (QB _);simp[execOp,T,Instr.sliceAt,run_underlying I,Instr.slice,B,u,W.sizeOf]
    .cases h
   .cases h
  .cases h
 .rename_i he;have I:=RY (hL _ _ he) rfl;generalize Qq s.fr x=dx at *;split at h
  .rename_i O;split at h
   .rename_i k N E F;simp only[Q6,Ze]at h;obtain⟨rfl,rfl⟩:=h;obtain⟨M,K,J⟩:=S;have B:=Jt hx;refine⟨_,.cl _ _ (.raw _),λv _=>?_⟩;have u:=cC (P:=P) r v false O.size O.size H m E F M K J (QB _);simp[execOp,T,Instr.sliceAt,run_underlying I,Instr.slice,B,u]
   .cases h
  .cases h
 .cases h
end
def zK:Value->Value->Option Bool
 | .int k a,.int c b=>bif IntKind.same k c then some (a==b) else none
 | .bool a,.bool b=>some (a==b)
 | .string a,.string b=>some (a.toList==b.toList)
 | _,_=>none
def kW:List Value->List Value->Option Bool
 | [],[]=>some true
 | a::r,b::q=>match zK a b,kW r q with
  | some x,some y=>some (x&&y)
  | _,_=>none
 | _,_=>none
def cat:Value->Nat
 | .int _ _=>0
 | .bool _=>1
 | .string _=>2
 | _=>3
def NX(P:Program)(b:TypeId->Option (List Nat)):List Field->Nat->Option (List Nat)
 | [],_=>some []
 | f::c,a=>match b f.type with
  | some l => if f.name ≠ "_" /\ f.offset = a /\ P.cellsOf f.type = l.length then (NX P b c (a + l.length)).map (l ++ ·) else none
  | none=>none
def qT(P:Program):Nat->TypeId->Option (List Nat)
 | 0,_=>none
 | d+1,t=>match P.underlying t with
  | some (.int _)=>some [0]
  | some .bool=>some [1]
  | some .string=>some [2]
  | some (.struct a)=>if P.stoodInHeld t then none else NX P (qT P d) a.toList 0
  | some (.array n e)=>match qT P d e with
   | some l=>if P.cellsOf e=l.length then some (List.replicate n l).flatten else none
   | none=>none
  | _=>none
def nD:∀(a b c d:List Value) (r:Bool),a.length=b.length->kW (a++c) (b++d)=some r->∃x y,kW a b=some x/\kW c d=some y/\r=(x&&y)
 | [],[],c,d,r,_,h=>⟨true,r,rfl,h,σ⟩
 | [],_::_,_,_,_,h,_=>by simp at h
 | _::_,[],_,_,_,h,_=>by simp at h
 | u::a,v::b,c,d,r,i,h=>by
  simp only[qc,kW]at h;split at h
  .rename_i x y hx g;simp only[Q6]at h;obtain⟨f,e,l,k,j⟩:=nD a b c d y (by simpa using i) g;exact⟨x&&f,e,by simp[kW,hx,l],k,by rw[<- h,j,Bool.and_assoc]⟩
  .cases h
def valOf(P:Program)(t:TypeId)(a:List Value):Value:=
 match P.underlying t with
 | some (.struct _)|some (.array _ _)=>.agg a.toArray
 | _=>Q7 a 0
def nE(P:Program)(D:Nat)(t:TypeId)(l:List Nat):Prop:=
 ∀(w:World) (b a:List Value) (r:Bool),b.map cat=l->a.map cat=l->kW b a=some r->(Op.equalIn D t (valOf P t b) (valOf P t a)).run P w=.ok r w
def Sb{P:Program}{d}{t:TypeId}{l:List Nat}(h:qT P d t=some l)(j:P.cellsOf t=l.length)(w)(c:List Value)(b)(e:b+l.length<=c.length):
  (part t c.toArray b).run P w=.ok (valOf P t ((c.drop b).take l.length)) w:=by
 cases d with
 | zero=>simp[qT]at h
 | succ d=>
  unfold qT at h;cases a:P.underlying t with
  | none=>rw[a]at h;cases h
  | some k=>
   obtain⟨i,g⟩:=info_of_underlying a;have f:(sizeOf t).run P w=.ok l.length w:=by
    rw[run_sizeOf w g,j]
   rw[a]at h;cases k<;>first|(cases h;done)|skip
   case bool=>
    cases h;have:b<c.length:=by simp at e;omega
    simp[part,isAgg,run_underlying a,valOf,a,Q7,this]
   case int=>
    cases h;have:b<c.length:=by simp at e;omega
    simp[part,isAgg,run_underlying a,valOf,a,Q7,this]
   case string=>
    cases h;have:b<c.length:=by simp at e;omega
    simp[part,isAgg,run_underlying a,valOf,a,Q7,this]
   case array=>simp[part,isAgg,run_underlying a,valOf,a,f]
   case struct=>simp[part,isAgg,run_underlying a,valOf,a,f]
def QbZ{P}(d D)(u:∀t l,qT P d t=some l->nE P D t l)(w):∀(k:List Field) (a:Nat) (l:List Nat) (c b:List Value) (r:Bool),NX P (qT P d) k a=some l ->
  (c.drop a).map cat=l->(b.drop a).map cat=l->a<=c.length->a<=b.length->kW (c.drop a) (b.drop a)=some r->(Op.eqFields D c.toArray b.toArray k).run P w=.ok r w
 | [],a,l,c,b,r,h,hx,g,L,K,i=>by
  simp[NX]at h;subst h;simp only[List.map_eq_nil_iff]at hx g;rw[hx,g]at i;simp[kW]at i;simp[Op.eqFields,i]
 | f::k,a,l,c,b,r,h,hx,g,L,K,i=>by
  simp only[NX]at h;split at h
  .rename_i e o;split at h
   .rename_i J;obtain⟨I,H,s⟩:=J;simp only[X3]at h;obtain⟨n,R,rfl⟩:=h;have j:(c.drop a).length=e.length+n.length:=by rw[<- KK (f:=cat),hx,Zo]
    have m:(b.drop a).length=e.length+n.length:=by rw[<- KK (f:=cat),g,Zo]
    have q:c.drop a=(c.drop a).take e.length++c.drop (a+e.length):=by rw[<- List.drop_drop,De]
    have p:b.drop a=(b.drop a).take e.length++b.drop (a+e.length):=by rw[<- List.drop_drop,De]
    rw[q,wa]at hx;rw[p,wa]at g;obtain⟨O,Q⟩:=aV hx (by simp at j ⊢;omega);obtain⟨E,F⟩:=aV g (by simp at m ⊢;omega);rw[q,p]at i;obtain⟨x,y,N,M,rfl⟩:=nD _ _ _ _ _ (by simp at j m ⊢;omega) i;have C:=Sb o s w c a (by simp at j;omega);have B:=Sb o s w b a (by simp at m;omega);have z:=u _ _ o w _ _ x O E N;have v:=QbZ d D u w k (a+e.length) n c b y R Q F (by simp at j;omega) (by simp at m;omega) M;simp only[Op.eqFields,I,ne_eq,not_false_eq_true,Vp,Sem.run_bind,H,C,B,z,Result.andThen_ok];cases x
    .simp
    .simpa using v
   .cases h
  .cases h
def Qb0{P:Program}{d D}{e:TypeId}{l:List Nat}(n:qT P d e=some l)(h:P.cellsOf e=l.length)(t:nE P D e l)(w):∀(m i:Nat) (b a:List Value) (r:Bool),
  (b.drop (i*l.length)).map cat=(List.replicate m l).flatten->(a.drop (i*l.length)).map cat=(List.replicate m l).flatten->i*l.length<=b.length->i*l.length<=a.length->kW (b.drop (i*l.length)) (a.drop (i*l.length))=some r ->
  (Op.eqItems D e (P.cellsOf e) b.toArray a.toArray (List.range' i m)).run P w=.ok r w
 | 0,i,b,a,r,hx,c,_,_,g=>by
  simp only[List.replicate_zero,List.flatten_nil,List.map_eq_nil_iff]at hx c;rw[hx,c]at g;simp[kW]at g;simp[Op.eqItems,g]
 | m+1,i,b,a,r,hx,c,K,J,g=>by
  rw[bk,List.flatten_cons]at hx c;have j:(b.drop (i*l.length)).length=l.length+(List.replicate m l).flatten.length:=by rw[<- KK (f:=cat),hx,Zo]
  have k:(a.drop (i*l.length)).length=l.length+(List.replicate m l).flatten.length:=by rw[<- KK (f:=cat),c,Zo]
  have p:i*l.length+l.length=(i+1)*l.length:=by rw[VM];omega
  have s:b.drop (i*l.length)=(b.drop (i*l.length)).take l.length++b.drop ((i+1)*l.length):=by rw[<- p,<- List.drop_drop,De]
  have q:a.drop (i*l.length)=(a.drop (i*l.length)).take l.length++a.drop ((i+1)*l.length):=by rw[<- p,<- List.drop_drop,De]
  rw[s,wa]at hx;rw[q,wa]at c;obtain⟨H,I⟩:=aV hx (by simp at j ⊢;omega);obtain⟨B,C⟩:=aV c (by simp at k ⊢;omega);rw[s,q]at g;obtain⟨x,y,F,E,rfl⟩:=nD _ _ _ _ _ (by simp at j k ⊢;omega) g;have z:=Sb n h w b (i*l.length) (by simp at j;omega);have v:=Sb n h w a (i*l.length) (by simp at k;omega);have u:=t w _ _ x H B F;have o:=Qb0 n h t w m (i+1) b a y I C (by simp at j;omega) (by simp at k;omega) E;rw[List.range'_succ];simp only[Op.eqItems,Sem.run_bind,h,z,v,u,Result.andThen_ok];cases x
  .simp
  .rw[h]at o;simpa using o
def cE{P}:∀(d D:Nat) (t:TypeId) (l:List Nat),d<=D->qT P d t=some l->nE P D t l
 | 0,_,_,_,_,h=>by simp[qT]at h
 | d+1,0,_,_,Q,_=>ω
 | d+1,D+1,t,l,Q,h=>by
  intro w p o r hx C j;have U:=h;unfold qT at h;cases g:P.underlying t with
  | none=>rw[g]at h;cases h
  | some k=>
   rw[g]at h;have one:∀c:Nat,l=[c]->∃a b,p=[a]/\o=[b]/\cat a=c/\cat b=c/\zK a b=some r:=by
    intro c M;subst M;have K:p.length=1:=by rw[<- KK (f:=cat),hx];rfl
    have T:o.length=1:=by rw[<- KK (f:=cat),C];rfl
    match p,o,K,T with
    | [a],[b],_,_=>
     refine⟨a,b,rfl,rfl,by simpa using hx,by simpa using C,?_⟩;simp only[kW]at j;split at j
     .rename_i x y S F;simp at F j;subst F;simp at j;rw[S,j]
     .cases j
   cases k<;>first|(cases h;done)|skip
   case bool=>
    simp only[Q6]at h;obtain⟨a,b,rfl,rfl,v,u,m⟩:=one 1 h.symm;cases a<;>simp[cat]at v;cases b<;>simp[cat]at u;simp[zK]at m;subst m;simp[valOf,g,Q7,run_equalIn_bool' w D t _ _ g]
   case int q=>
    simp only[Q6]at h;obtain⟨a,b,rfl,rfl,v,u,m⟩:=one 0 h.symm;cases a<;>simp[cat]at v;cases b<;>simp[cat]at u;simp only[zK]at m;obtain⟨N,B⟩:=jP m;have:=IntKind.mS N;subst this;simp only[Q6]at B;subst B;simp[valOf,g,Q7,run_equalIn_int w D t _ _ _ _ g]
   case string=>
    simp only[Q6]at h;obtain⟨a,b,rfl,rfl,v,u,m⟩:=one 2 h.symm;cases a<;>simp[cat]at v;cases b<;>simp[cat]at u;simp only[zK,Q6]at m;subst m;simp[valOf,g,Q7,run_equalIn_string w D t _ _ g]
   case array n e=>
    replace h:(match qT P d e with|some l=>if P.cellsOf e=l.length then some (List.replicate n l).flatten else none|none=>none)=some l:=h;split at h
    .rename_i J s;split at h
     .rename_i R;simp only[Q6]at h;subst h;have I:∃i,P.info? e=some i:=by
       cases d with
       | zero=>simp[qT]at s
       | succ V=>
        unfold qT at s;cases z:P.underlying e with
        | none=>rw[z]at s;cases s
        | some _=>exact info_of_underlying z
      obtain⟨i,O⟩:=I;have:=Qb0 s R (cE d D e J ω s) w n 0 p o r (by simpa using hx) (by simpa using C) σ σ (by simpa using j);rw[<- List.range_eq_range']at this;simp only[valOf,g];rw[run_equalIn_array w D p.toArray o.toArray g O];exact this
     .cases h
    .cases h
   case struct E=>
    replace h:(if P.stoodInHeld t then none else NX P (qT P d) E.toList 0)=some l:=h;split at h
    .cases h
    .rename_i L;have H:P.fieldsOf t=E:=by simp[Program.fieldsOf,g]
     simp only[valOf,g];rw[run_equalIn_struct w D t _ _ (by rw[H];exact g) (by simpa using L),H];exact QbZ d D (λt l h=>cE d D t l ω h) w E.toList 0 l p o r h (by simpa using hx) (by simpa using C) σ σ (by simpa using j)
abbrev Dr:=List (TypeId × List Nat)
def BT:Dr->TypeId->Option (List Nat)
 | [],_=>none
 | (u,l)::r,t=>bif Nat.beq u t then some l else BT r t
structure nG (P:Program) (t:TypeId) (l:List Nat):Prop where
 shape:qT P 60 t=some l
 guard:P.eqGuardType P.depth t=false
 agg:(match P.underlying t with|some (.struct _)|some (.array _ _)=>true|_=>false)=true
def AK(P:Program)(E:Dr):Prop:=∀t l,BT E t=some l->nG P t l
def AK.nil(P):AK P []:=λ_ _ h=>by simp[BT]at h
def AK.cons{P}{E}{t:TypeId}{l}(h:nG P t l)(r:AK P E):AK P ((t,l)::E):=λu z e=>by
 simp only[BT]at e;by_cases a:t=u
 .subst a;simp at e;subst e;exact h
 .have:Nat.beq t u=false:=by rw[<- Yq,Wo];exact a
  rw[this]at e;exact r u z e
def EU:List D->Option (List Value)
 | []=>some []
 | .raw v::r=>match EU r with
  | some l=>some (v::l)
  | none=>none
 | _=>none
def Lh:List Nat->List Nat->Bool
 | [],[]=>true
 | a::r,b::q=>Nat.beq a b&&Lh r q
 | _,_=>false
def cF:∀{a b:List Nat},Lh a b=true->a=b
 | [],[],_=>rfl
 | [],_::_,h=>by cases h
 | _::_,[],h=>by cases h
 | a::r,b::q,h=>by
  simp only[Lh,ZL,Wo]at h;rw[h.1,cF h.2]
def cG{h}{f}{w}:∀{d:List D} {l:List Value},EU d=some l->∀(a:List Value),a.length=d.length->(∀i,i<d.length->QC Z h f w (nth d i) (Q7 a i))->a=l
 | [],l,e,a,b,_=>by simp[EU]at e;subst e;exact List.eq_nil_of_length_eq_zero (by simpa using b)
 | c::d,l,e,a,b,g=>by
  cases c<;>simp only[EU,reduceCtorEq]at e;rename_i v;split at e
  .rename_i o m;simp only[Q6]at e;subst e;match a,b with
   | u::j,b=>
    have k:=Jt (g 0 σ:QC Z h f w (.raw v) u);have:=cG m j (by simpa using b) (λi p=>by have:=g (i+1) ξ;simpa[nth,Q7] using this);have n:u=v:=k;rw[n,this]
  .cases e
def cH(E:Dr)(c:BinOp)(t:TypeId):D->D->Ev
 | .agg a,.agg b=>match BT E t,EU a,EU b with
  | some l,some x,some y=>bif Lh (x.map cat) l&&Lh (y.map cat) l then match kW x y with
   | some r=>match c with
    | .eql=>some (True,.raw (.bool r))
    | .neq=>some (True,.raw (.bool (!r)))
    | _=>none
   | none=>none
   else none
  | _,_,_=>none
 | _,_=>none
def Qnk{P}{E}(O:AK P E){g J}{s}{o:Oper}{z}{t I:TypeId}{x y}(F:o.op=.binOp z t x y I){p}{d}
  (h:cH E z t (Qq s.fr x) (Qq s.fr y)=some (p,d)):WA P g J o s d:=by
 intro Z pl a w r;have hx:=r.eval x;have L:=r.eval y;unfold cH at h;generalize Qq s.fr x=dx at *;generalize Qq s.fr y=dy at *;split at h
 .split at h
  .rename_i l xs ys N V U;obtain⟨k,b⟩:=jP h;simp only[ZL]at k;have u:=cF k.1;have q:=cF k.2;split at b
   .rename_i v M;obtain⟨j,C,K,Y⟩:=IW hx;obtain⟨i,B,n,T⟩:=IW L;have S:=cG V j K Y;have R:=cG U i n T;subst S;subst R;obtain⟨W,H,f⟩:=O _ _ N;have e:∀c,(Op.equalIn 10000 t (.agg j.toArray) (.agg i.toArray)).run P c=.ok v c:=by
     intro c;have:=cE 60 10000 t l ω W c j i v u q M;unfold valOf at this;split at this
     .exact this
     .exact this
     .rename_i Q b;split at f
      .rename_i m;exact absurd m (Q _)
      .rename_i m;exact absurd m (b _ _)
      .cases f
    split at b
    .simp only[Q6,Ze]at b;obtain⟨rfl,rfl⟩:=b;refine⟨_,.cl _ _ (.raw _),λc _=>?_⟩;simp[execOp,F,C,B,run_eqGuard_agg c .eql t x y _ _ H,run_eql_struct,e]
    .simp only[Q6,Ze]at b;obtain⟨rfl,rfl⟩:=b;refine⟨_,.cl _ _ (.raw _),λc _=>?_⟩;simp[execOp,F,C,B,run_eqGuard_agg c .neq t x y _ _ H,run_neq_struct,e]
    .cases b
   .cases b
  .cases h
 .cases h
end Go.Fg
namespace Go.Fg
def VC(P:Program){c:Type}(m:Sem c):Prop:=∀w x a,m.run P w=.ok x a->a=w/\∀b,m.run P b=.ok x b
section
variable {P:Program}{α β:Type}
def VC.pure(a:α):VC P (pure a:Sem α):=λw x b h=>by
 simp at h;obtain⟨rfl,rfl⟩:=h;exact⟨rfl,λc=>σ⟩
def VC.never{m:Sem α}(b:∀w x a,m.run P w≠.ok x a):VC P m:=λw x a h=>absurd h (b w x a)
def VC.bind{m:Sem α}{k:α->Sem β}(l:VC P m)(j:∀a,VC P (k a)):VC P (m >>= k):=λw x f h=>by
 rw[Sem.run_bind]at h;cases b:m.run P w with
 | halt e c=>rw[b]at h;cases h
 | ok a c=>
  rw[b]at h;simp only[Result.andThen_ok]at h;obtain⟨rfl,i⟩:=l w a c b;obtain⟨rfl,g⟩:=j a _ x f h;exact⟨rfl,λd=>by rw[Sem.run_bind,i d];simp only[Result.andThen_ok];exact g d⟩
def VC.stuck(s:String):VC P (Go.stuck s:Sem α):=VC.never λw x a h=>by cases h
def VC.halt(e:Halt):VC P (.halt e:Sem α):=VC.never λw x a h=>by cases h
def VC.program:VC P program:=λw x a h=>by
 simp at h;obtain⟨rfl,rfl⟩:=h;exact⟨rfl,λb=>σ⟩
def VC.typeInfo(t):VC P (typeInfo t):=.bind .program λp=>by
 split
 .exact .pure _
 .exact .stuck _
def VC.underlying(t):VC P (underlying t):=.bind .program λp=>by
 split
 .exact .pure _
 .exact .stuck _
def VC.panic:VC P (runtimePanic .nilDeref:Sem α):=.bind .program λp=>.halt _
def VC.sizeOf(t):VC P (sizeOf t):=.bind (.typeInfo t) λ_=>.pure _
def VC.isAgg(t):VC P (isAgg t):=.bind (.underlying t) λd=>by
 split<;>exact .pure _
def VC.part(t)(a)(i):VC P (part t a i):=by
 unfold Go.part
 repeat' (first|exact .pure _|exact .stuck _|refine .bind (.isAgg _) λ_=>?_|refine .bind (.sizeOf _) λ_=>?_|refine .bind (.typeInfo _) λ_=>?_|refine .bind (.underlying _) λ_=>?_|split)
def VC.blind:∀(l:List FieldStep) (t:TypeId) (x:Option Value),VC P (Go.followBlind l t x)
 | [],_,_=>.pure _
 | s::r,t,x=>by
  unfold Go.followBlind
  repeat' (first|exact .pure _|exact .stuck _|exact VC.blind r _ _|refine .bind (.part _ _ _) λ_=>?_|refine .bind (.underlying _) λ_=>?_|split)
def VC.nilAhead:∀(n:Nat) (t:TypeId) (v:Value) (a:String),VC P (Go.nilAhead n t v a)
 | 0,_,_,_=>.pure _
 | n+1,t,v,a=>by
  unfold Go.nilAhead
  repeat' (first|exact .pure _|exact .stuck _|exact VC.nilAhead n _ _ _|refine .bind (.blind _ _ _) λ_=>?_|refine .bind (.typeInfo _) λ_=>?_|refine .bind (.underlying _) λ_=>?_|split)
def VC.nilCheck{o:Oper}{x}(b:o.op=.nilCheck x)(a):VC P (execOp a o):=by
 simp only[execOp,b]
 repeat' (first|exact .pure _|exact .stuck _|exact .panic|exact .halt _|(refine .bind (.halt _) λ_=>?_)|refine .bind (.nilAhead _ _ _ _) λ_=>?_|refine .bind .program λ_=>?_|split)
end
end Go.Fg
namespace Go.Fg
open Go.RowKit (Below)
open Go.Instr
def Li(q:IntKind)(a:List MapEntry):Prop:=∀e∈a,∃n,e.key=.int q n
def cI{q}{k}:∀{a:List MapEntry} {i:Nat},Li q a->(∀e∈a,e.key≠.int q k)->findNow (.int q) (.int q k) a i=some none
 | [],_,_,_=>rfl
 | e::a,i,h,c=>by
  obtain⟨n,d⟩:=h e (Kx ..);have f:(k==n)=false:=by
   rw[jN];rintro rfl;exact c e (Kx ..) d
  simp only[findNow,d,sameNow,Vp,f];exact cI (λe b=>h e (Ki _ b)) (λe b=>c e (Ki _ b))
def cJ{q}{k}:∀{a:List MapEntry} {i0 i:Nat} {e:MapEntry},Li q a->a[i]? = some e->e.key=.int q k->(∀(j:Nat) (b:MapEntry),j<i->a[j]? = some b->b.key≠.int q k) ->
  findNow (.int q) (.int q k) a i0=some (some (i0+i,e.val))
 | [],_,_,_,_,h,_,_=>by simp at h
 | x::a,i0,i,e,g,h,c,f=>by
  obtain⟨n,hx⟩:=g x (Kx ..);cases i with
  | zero=>
   simp at h;subst h;rw[hx]at c;obtain rfl:n=k:=by simpa using c
   simp[findNow,hx,sameNow]
  | succ i=>
   have l:(k==n)=false:=by
    rw[jN];rintro rfl;exact f 0 x ω rfl hx
   simp only[findNow,hx,sameNow,Vp,l];rw[cJ (i0:=i0+1) (λe d=>g e (Ki _ d)) (by simpa using h) c (λj b m d=>f (j+1) b ω (by simpa using d))];simp;omega
section
variable {P:Program}{w:World}{q:IntKind}{k:Int}
def GS{a:TypeId}(b:P.underlying a=some (.int q))(c)(n):(checkKey c (n+1) a (.int q k)).run P w=.ok () w:=by
 simp[checkKey,underlying,b]
def Lj{a:TypeId}(b:P.underlying a=some (.int q)){es:List MapEntry}{r}(h:findNow (.int q) (.int q k) es 0=some r):(findKey a (.int q k) es).run P w=.ok r w:=by
 simp[findKey,underlying,b,h]
def BU{e:Type}{b}{d}{a}(f:w.heap[b]? = some (.map d a))(c:Obj->Sem e):(Sem.getObj b c).run P w=(c (.map d a)).run P w:=by
 simp only[Sem.run,f]
def Sd{d:Type}{b}{f}{a}(e:w.heap[b]? = some (.map f a))(o:Obj)(c:Sem d):(Sem.setObj b o c).run P w=c.run P { w with heap:=w.heap.setIfInBounds b o }:=by
 simp only[Sem.run,e]
def Qno{f g y:TypeId}{b}{c:Array MapEntry}{a}(p:P.underlying f=some (.map g y))(l:P.underlying g=some (.int q))(o:w.heap[b]? = some (.map c a))(t:Li q c.toList)
  {i:Nat} {e:MapEntry} (m:c[i]? = some e) (n:e.key=.int q k) (r:∀(j:Nat) (d:MapEntry),j<i->c[j]? = some d->d.key≠.int q k) (v:Value) :
  (mapUpdate f (.map (some b)) (.int q k) v).run P w=.ok () { w with heap:=w.heap.setIfInBounds b (.map (c.modify i λe=>{ e with key:=.int q k,val:=v }) a) }:=by
 have h:=cJ (i0:=0) t (by simpa using m) n (λj d s z=>r j d s (by simpa using z));have x:=Lj (P:=P) (w:=w) l h;have u:=GS (P:=P) (w:=w) (k:=k) l false 9999;simp[mapUpdate,underlying,p,getObj,BU o,x,u,m,n,keyThatStays,sameBits,setObj,Sd o]
def Qnp{d f p:TypeId}{b}{c:Array MapEntry}{a}(j:P.underlying d=some (.map f p))(g:P.underlying f=some (.int q))(h:w.heap[b]? = some (.map c a))(m:Li q c.toList)
  (l:∀e∈c.toList,e.key≠.int q k) (v:Value) :
  (mapUpdate d (.map (some b)) (.int q k) v).run P w=.ok () { w with heap:=w.heap.setIfInBounds b (.map (c.push { key:=.int q k,val:=v,born:=a }) (a+1)) }:=by
 have o:=Lj (P:=P) (w:=w) g (cI (i:=0) m l);have n:=GS (P:=P) (w:=w) (k:=k) g false 9999;simp[mapUpdate,underlying,j,getObj,BU h,o,n,setObj,Sd h]
def Qnq{f g x ty kt2:TypeId}{b}{c:Array MapEntry}{a}(n:P.underlying f=some (.map g x))(l:P.underlying g=some (.int q))(m:w.heap[b]? = some (.map c a))(t:Li q c.toList)
  {i:Nat} {e:MapEntry} (r:c[i]? = some e) (s:e.key=.int q k) (o:∀(j:Nat) (d:MapEntry),j<i->c[j]? = some d->d.key≠.int q k) :
  (Builtin.delete_ #[f,kt2] ty #[.map (some b),.int q k]).run P w=.ok (.tuple #[]) { w with heap:=w.heap.setIfInBounds b (.map (c.eraseIdxIfInBounds i) a) }:=by
 have h:=cJ (i0:=0) t (by simpa using r) s (λj d p y=>o j d p (by simpa using y));have v:=Lj (P:=P) (w:=w) l h;have u:=GS (P:=P) (w:=w) (k:=k) l c.isEmpty 9999;simp[Builtin.delete_,underlying,n,getObj,BU m,v,u,setObj,Sd m]
def Qnr{d f p ty kt2:TypeId}{b}{c:Array MapEntry}{a}(j:P.underlying d=some (.map f p))(g:P.underlying f=some (.int q))(h:w.heap[b]? = some (.map c a))(m:Li q c.toList)
  (l:∀e∈c.toList,e.key≠.int q k) :
  (Builtin.delete_ #[d,kt2] ty #[.map (some b),.int q k]).run P w=.ok (.tuple #[]) { w with heap:=w.heap.setIfInBounds b (.map c a) }:=by
 have o:=Lj (P:=P) (w:=w) g (cI (i:=0) m l);have n:=GS (P:=P) (w:=w) (k:=k) g c.isEmpty 9999;simp[Builtin.delete_,underlying,j,getObj,BU h,o,n,setObj,Sd h]
def Qns{c d g:TypeId}{b}{h}{a}(e:P.underlying c=some (.map d g))(f:w.heap[b]? = some (.map h a)):
  (Instr.range c (.map (some b))).run P w=.ok (.pointer (some ⟨w.heap.size,0,none⟩)) { w with heap:=w.heap.push (.mapIter (some b) a #[] a) }:=by
 simp[Instr.range,underlying,e,getObj,BU f,newObj,Sem.run]
end
def Tr.Lk{Z:Nat->Prop}{d:Nat}{h:List Ob}{f:List Pl}{w w':World}(R:Zl Z d h f w){l:Nat}{o o':Ob}{b:Nat}(n:h[l]? = some o)(v:f[l]? = some (some (b,0)))(e:∀c,c≠b->w'.heap[c]? = w.heap[c]?)
  (z:o'.gen=o.gen) (x:o'.kd.ty=o.kd.ty) (u:o'.sz=o.sz) (j:∀c el,w.heap[b]?≠some (.cells c el (0,0))):Tr h f w (h.set l o') f w' where
 Ko:=λc a _=>⟨a,e c (λh=>by subst h;exact a l 0 v)⟩
 obj:=λm k p g i=>by
  by_cases r:l=m
  .subst r;rw[n]at g;cases g;exact⟨o',p,Xb (KA n),i,ω,x,λ_=>⟨u,rfl⟩⟩
  .exact⟨k,p,by rw[JP r];exact g,i,QB _,rfl,λ_=>⟨rfl,rfl⟩⟩
 shape:=λm k y c q g i _ B t el a=>by
  by_cases s:c=b
  .subst s;exact absurd a (j t el)
  .exact⟨t,by rw[e c s];exact a,rfl⟩
def Zl.Lk{Z:Nat->Prop}{d:Nat}{h:List Ob}{g:List Pl}{w w':World}(R:Zl Z d h g w){l:Nat}{o o':Ob}{b:Nat}(s:h[l]? = some o)(n:g[l]? = some (some (b,0)))(e:∀c,c≠b->w'.heap[c]? = w.heap[c]?)
  (T:Tr h g w (h.set l o') g w') (t:Kz Z (h.set l o') g w' o' b 0) (hro:o'.kd.ro=o.kd.ro):Zl Z d (h.set l o') g w' where
 len:=by rw[K0];exact R.len
 inj:=R.inj
 V0:=λk p f a=>by
  by_cases m:l=k
  .subst m;rw[n]at a;cases a
  .rw[JP m]at f;exact R.V0 k p f a
 at_:=λk p c q f a=>by
  by_cases m:l=k
  .subst m;rw[Xb (KA s)]at f;cases f;rw[n]at a;cases a;exact⟨λr=>(R.at_ l o b 0 s n).1 (by rw[<- hro,r]),t⟩
  .rw[JP m]at f;obtain⟨y,x⟩:=R.at_ k p c q f a;have u:c≠b:=λh=>by subst h;exact m (R.inj l k c 0 q n a)
   exact⟨y,x.to rfl rfl rfl (e c u) (λ_ _=>rfl) λi j v _ _ r=>r.tr T⟩
structure ZF where
 k:Int
 v:D
 b:Nat
def AL(q:IntKind)(c:Nat)(a:List ZF):Nat->List D
 | 0=>[.raw (.int .i64 c),.undef,.undef]
 | r+1=>match a[r]? with
  | some e=>[.raw (.int q e.k),e.v,.raw (.int .i64 e.b)]
  | none=>[.undef,.undef,.undef]
def Wr(b:Kd)(q:IntKind)(c:Nat)(a:List ZF):Ob:=⟨b,0,3,a.length+1,AL q c a⟩
def QS(q:IntKind)(c:Nat)(a:List ZF):Ob:=Wr .map q c a
def ZZ:List ZF->Int->Option D
 | [],_=>none
 | e::r,k=>if e.k=k then some e.v else ZZ r k
def jT:List ZF->Int->D->List ZF
 | [],_,_=>[]
 | e::r,k,v=>if e.k=k then ⟨k,v,e.b⟩::r else e::jT r k v
def J1:List ZF->Int->List ZF
 | [],_=>[]
 | e::r,k=>if e.k=k then r else e::J1 r k
def J7(q:IntKind)(c:Nat)(a:List ZF)(k:Int)(v:D):Ob:=match ZZ a k with
 | some _=>QS q c (jT a k v)
 | none=>QS q (c+1) (a++[⟨k,v,c⟩])
def GU:D->Int
 | .raw (.int _ n)=>n
 | _=>0
def clockOf(o:Ob):Nat:=(GU (nth (o.row 0) 0)).toNat
def Dt(o:Ob):List ZF:=(List.range (o.n - 1)).map λi=>⟨GU (nth (o.row (i+1)) 0),nth (o.row (i+1)) 1,(GU (nth (o.row (i+1)) 2)).toNat⟩
def Ob.ro(o:Ob):Ob:=⟨o.kd.toRo,o.gen,o.sz,o.n,o.row⟩
def IsMap(q:IntKind)(o:Ob):Prop:=o.kd.ty=1/\o=Wr o.kd q (clockOf o) (Dt o)
theorem Qb4(a:Kd)(q)(c)(b):clockOf (Wr a q c b)=c:=by simp[clockOf,Wr,AL,nth,GU]
theorem nI(q)(c)(a):clockOf (QS q c a)=c:=Qb4 _ _ _ _
theorem Qb5(b:Kd)(q)(c)(a):Dt (Wr b q c a)=a:=by
 apply Am;intro i;simp only[Dt,Wr,AL,ND,KP,aY];by_cases h:i<a.length
 .simp[aY h,nth,GU,h]
 .rw[Gz (by simpa using h)];simp[h]
theorem nJ(q)(c)(a):Dt (QS q c a)=a:=Qb5 _ _ _ _
theorem Qb6(q)(c)(a):IsMap q (QS q c a)=True:=by
 refine eq_true ⟨rfl,?_⟩;exact(by rw[nI,nJ];rfl)
theorem nK(o:Ob):clockOf o.ro=clockOf o:=rfl
theorem Qb7(o:Ob):Dt o.ro=Dt o:=rfl
theorem Qnu(q)(o:Ob):IsMap q o.ro=IsMap q o:=by
 obtain⟨k,g,z,n,r⟩:=o;simp only[IsMap,nK,Qb7];simp only[Ob.ro,Wr,Kd.toRo_ty,Ob.mk.injEq,yl]
theorem Qnv(q)(c)(a:List ZF):(QS q c a).kd=.map:=rfl
theorem Qnw(q)(c)(a:List ZF):(QS q c a).n=a.length+1:=rfl
theorem Qnx(q)(c)(a:List ZF):(QS q c a).gen=0:=rfl
theorem cK(o:Ob):o.ro.kd=o.kd.toRo:=rfl
theorem Qny(o:Ob):o.ro.n=o.n:=rfl
theorem Qnz(o:Ob):o.ro.gen=o.gen:=rfl
def IsMap.get{q}{o:Ob}(h:IsMap q o):∃a c b,a.ty=1/\o.kd=a/\clockOf o=c/\Dt o=b/\o=Wr a q c b:=⟨_,_,_,h.1,rfl,rfl,rfl,h.2⟩
def cM:∀{b:List ZF} {k:Int} {v:D},ZZ b k=some v->∃(j:Nat) (e:ZF),b[j]? = some e/\e.k=k/\e.v=v/\(∀(i:Nat) (c:ZF),i<j->b[i]? = some c->c.k≠k)/\(∀u,jT b k u=b.set j ⟨k,u,e.b⟩)/\J1 b k=b.eraseIdx j
 | [],_,_,h=>by simp[ZZ]at h
 | e::r,k,v,h=>by
  simp only[ZZ]at h;by_cases a:e.k=k
  .rw[Qe a]at h;cases h;exact⟨0,e,rfl,a,rfl,λi _ d=>absurd d (X2 i),λu=>by simp[jT,a],by simp[J1,a]⟩
  .rw[Qd a]at h;obtain⟨j,c,o,n,m,l,g,f⟩:=cM h;refine⟨j+1,c,by simpa using o,n,m,λi x d hx=>?_,λu=>by simp[jT,a,g u],by simp[J1,a,f]⟩;cases i with
   | zero=>simp at hx;subst hx;exact a
   | succ i=>exact l i x ω (by simpa using hx)
def Se:∀{a:List ZF} {k:Int},ZZ a k=none->(∀e∈a,e.k≠k)/\(∀u,jT a k u=a)/\J1 a k=a
 | [],_,_=>⟨σ,λ_=>rfl,rfl⟩
 | e::r,k,h=>by
  simp only[ZZ]at h;by_cases b:e.k=k
  .rw[Qe b]at h;cases h
  .rw[Qd b]at h;obtain⟨f,d,c⟩:=Se h;exact⟨λx hx=>by
    rcases QF.1 hx with rfl|h
    .exact b
    .exact f x h,λu=>by simp[jT,b,d u],by simp[J1,b,c]⟩
def Qb8:∀{c:List ZF} {k:Int} (v:D) (a:Int),ZZ (jT c k v) a=if a=k then (ZZ c k).map (λ_=>v) else ZZ c a
 | [],k,v,a=>by simp[jT,ZZ]
 | e::r,k,v,a=>by
  by_cases h:e.k=k
  .simp only[jT,Qe h,ZZ];by_cases b:k=a
   .simp[b]
   .rw[Qd b,Qd (λe=>b e.symm),Qd (by rw[h];exact b)]
  .simp only[jT,Qd h,ZZ];rw[Qb8 v a];by_cases b:a=k
   .subst b;simp[h]
   .simp[b]
def Qb9:∀(b a:List ZF) (k:Int),ZZ (b++a) k=(ZZ b k).or (ZZ a k)
 | [],_,_=>by simp[ZZ]
 | e::r,a,k=>by
  by_cases h:e.k=k
  .simp[ZZ,h]
  .simp[ZZ,h,Qb9 r a k]
def Qca(q)(c)(b)(k)(v):∃g e,J7 q c b k v=QS q g e/\∀a,ZZ e a=if a=k then some v else ZZ b a:=by
 unfold J7;cases h:ZZ b k with
 | some d=>
  refine⟨c,jT b k v,rfl,λa=>?_⟩;rw[Qb8,h];rfl
 | none=>
  refine⟨c+1,b++[⟨k,v,c⟩],rfl,λa=>?_⟩;rw[Qb9];by_cases f:a=k
  .subst f;simp[h,ZZ]
  .rw[Qd f];cases ZZ b a<;>simp[ZZ,Q9 f]
def X7(a:List ZF):Prop:=(a.map (·.k)).Nodup
structure kX (Z:Nat->Prop) (h:List Ob) (pl:List Pl) (w:World) (q:IntKind) (c:Nat) (es:List ZF) (QW:List MapEntry):Prop where
 len:es.length=QW.length
 at_:∀(i:Nat) (e:ZF) (a:MapEntry),es[i]? = some e->QW[i]? = some a->a.key=.int q e.k/\QC Z h pl w e.v a.val/\a.born=e.b/\a.born<c
 inc:∀(i j:Nat) (a a':MapEntry),i<j->QW[i]? = some a->QW[j]? = some a'->a.born<a'.born
def nN{Z}{h}{e}{w:World}{q}{c}{d}{b}{k:Array MapEntry}(n:w.heap[b]? = some (.map k c))(E:kX Z h e w q c d k.toList){kd:Kd}(u:kd.ty=1):Kz Z h e w (Wr kd q c d) b 0:=by
 refine Kz.ofMap u ⟨rfl,rfl,k,c,n,by have:=E.len;simp at this;simp[Wr,this],λi _=>?_,.cl _ _ (.raw _),λi a m=>?_,λi j a s t g f=>E.inc i j a s t (by simpa using g) (by simpa using f)⟩
 .show (AL q c d i).length=3;cases i with
  | zero=>rfl
  | succ i=>simp only[AL];split<;>rfl
 .have Qc:=(WL.1 m).1;have l:i<d.length:=by have:=E.len;simp at this;omega
  obtain⟨g,f,p,o⟩:=E.at_ i d[i] a (QG l) (by simpa using m);have r:AL q c d (i+1)=[.raw (.int q d[i].k),d[i].v,.raw (.int .i64 d[i].b)]:=by simp[AL,l]
  show _/\QC Z h e w (nth (AL q c d (i+1)) 0) _/\QC Z h e w (nth (AL q c d (i+1)) 1) _/\QC Z h e w (nth (AL q c d (i+1)) 2) _;rw[r];exact⟨o,by rw[g];exact .cl _ _ (.raw _),f,by rw[p];exact .cl _ _ (.raw _)⟩
def cO{Z}{h}{l}{w:World}{q}{c}{g}{b p}{k:Kd}(N:k.ty=1)(x:Kz Z h l w (Wr k q c g) b p):p=0/\∃f:Array MapEntry,w.heap[b]? = some (.map f c)/\kX Z h l w q c g f.toList:=by
 obtain⟨H,_,f,d,F,E,_,C,B,z⟩:=x.map N;have u:d=c:=by
  have:=Jt C;simp at this;omega
 subst u;have s:g.length=f.size:=by simpa[Wr] using E
 refine⟨H,f,F,by simpa using s,λi e a t v=>?_,λi j a L M J I=>z i j a L M (by simpa using J) (by simpa using I)⟩;obtain⟨r,o,n,m⟩:=B i a (by simpa using v);have K:(Wr k q d g).row (i+1)=[.raw (.int q e.k),e.v,.raw (.int .i64 e.b)]:=by simp[Wr,AL,t]
 rw[K]at o n m;have:=Jt o;have y:=Jt m;refine⟨this,n,?_,r⟩;simp at y;omega
def kX.keys{Z}{h}{f}{w}{q}{c}{b}{e}(E:kX Z h f w q c b e):Li q e:=λa g=>by
 obtain⟨i,d⟩:=GA g;have Qc:i<b.length:=by rw[E.len];exact(Xa.1 d).1
 exact⟨_,(E.at_ i b[i] a (QG Qc) d).1⟩
def kX.XM{Z}{h}{l}{w}{q}{c}{d:List ZF}{b:Array MapEntry}(E:kX Z h l w q c d b.toList){k}{j}{e:ZF}(g:d[j]? = some e)(o:e.k=k)(n:∀(i:Nat) (f:ZF),i<j->d[i]? = some f->f.k≠k):
  ∃a,b[j]? = some a/\a.key=.int q k/\QC Z h l w e.v a.val/\a.born=e.b/\a.born<c/\∀(i:Nat) (f:MapEntry),i<j->b[i]? = some f->f.key≠.int q k:=by
 have Qc:j<b.toList.length:=by rw[<- E.len];exact(Xa.1 g).1
 obtain⟨u,t,s,r⟩:=E.at_ j e b.toList[j] g (QG Qc);refine⟨b.toList[j],σ,by rw[u,o],t,s,r,λi x z y=>?_⟩;have m:i<d.length:=by have:=(Xa.1 g).1;omega
 obtain⟨v,_⟩:=E.at_ i d[i] x (QG m) (by simpa using y);rw[v];intro p;exact n i _ z (QG m) (by simpa using p)
def kX.EV{Z}{h}{g}{w}{q}{c}{b}{f}(E:kX Z h g w q c b f){k}(j:∀e∈b,e.k≠k):∀a∈f,a.key≠.int q k:=λa m=>by
 obtain⟨i,d⟩:=GA m;have Qc:i<b.length:=by rw[E.len];exact(Xa.1 d).1
 rw[(E.at_ i b[i] a (QG Qc) d).1];intro l;exact j _ (X0 Qc) (by simpa using l)
def kX.tr{Z}{h f}{d j}{w b}(T:Tr h d w f j b){q}{c}{g}{k}(E:kX Z h d w q c g k):kX Z f j b q c g k:=
 ⟨E.len,λi e a m l=>let ⟨p,o,n⟩:=E.at_ i e a m l;⟨p,o.tr T,n⟩,E.inc⟩
section
variable {P:Program}{L:Je}{base nt:Nat}{s:St}{o:Oper}{q:IntKind}{t kt et:TypeId}{x i:Operand}{l g n:Nat}{ob:Ob}{k:Int}
def cP{Z}{e}{a}{w}(r:Rel Z base nt s e a w){c}{j}{kd:Kd}(z:kd.ty=1)(C:Qq s.fr x=.mref l 0)(y:s.h[l]? = some (Wr kd q c j)):
  ∃b d,a.eval x=.map (some b)/\e[l]? = some (some (b,0))/\(kd.ro=false->base<=b)/\w.heap[b]? = some (.map d c)/\kX Z s.h e w q c j d.toList:=by
 have v:=r.eval x;rw[C]at v;obtain⟨J,p,b,u,h,H,K,f⟩:=GG v;rw[y]at u;cases u;have f:=f rfl;rw[f]at h;obtain⟨I,B⟩:=r.o.at_ l _ b 0 y h;obtain⟨_,d,F,E⟩:=cO z B;have m:=H.2;have:(Wr kd q c j).kd.ty=1:=z;rw[this]at m;exact⟨b,d,m,h,I,F,E⟩
def cQ{Z}{f:List Pl}{a}{w:World}(r:Rel Z base nt s f a w){c}{z}(u:s.h[l]? = some (QS q c z)){b}(m:f[l]? = some (some (b,0)))(B:base<=b){C}(p:w.heap[b]? = some (.map C c))
  {c':Nat} {es':List ZF} {ens':Array MapEntry} (E:∀v d,Tr s.h f w (s.h.set l (QS q c' es')) v d->kX Z (s.h.set l (QS q c' es')) v d q c' es' ens'.toList) :
  ∃d,d={ w with heap:=w.heap.setIfInBounds b (.map ens' c') }/\Tr s.h f w (s.h.set l (QS q c' es')) f d/\Zl Z base (s.h.set l (QS q c' es')) f d/\Below base w d:=by
 have H:=kO p;generalize j:({ w with heap:=w.heap.setIfInBounds b (.map ens' c') }:World)=d;have e:∀c,c≠b->d.heap[c]? = w.heap[c]? := λc y=>by rw[<- j];simp[Al,Q9 y]
 have F:d.heap[b]? = some (.map ens' c'):=by rw[<- j];simp[Al,H]
 have T:=Tr.Lk (w':=d) r.o u m e (o':=QS q c' es') rfl rfl rfl (by rw[p];intro c el h;cases h);exact⟨d,rfl,T,Zl.Lk (hro:=rfl) r.o u m e T (nN F (E f d T) rfl),NT B e (by rw[<- j];simp) (by rw[<- j]) (by rw[<- j]) (by rw[<- j])⟩
def QnA(p:Z9 P L){u m B:Ty}(T:ty L t=some u)(Xn:u.k=.map kt et)(C:ty L kt=some m)(y:m.k=.int q)(WM:ty L et=some B)
  {Z:Nat->Prop} {h:List Ob} {F:List Pl} {w:World} {b c:Nat} {r:List ZF} {K:Array MapEntry} (Q:w.heap[b]? = some (.map K c)) (E:kX Z h F w q c r K.toList) (M:Bool) :
  ∃v,QC Z h F w (match ZZ r k with|some d=>d|none=>Dj B) v/\∀f:World,f.heap[b]? = w.heap[b]? ->
   (lookup t (.map (some b)) (.int q k) M).run P f=.ok (if M then .tuple #[v,.bool (ZZ r k).isSome] else v) f:=by
 have R:=λw:World=>GS (P:=P) (w:=w) (k:=k) (Dh (p kt m C) y) K.isEmpty 9999;have hx:=EN (p t u T) Xn;cases O:ZZ r k with
 | some d=>
  obtain⟨j,e,J,Y,W,V,_⟩:=cM O;obtain⟨a,a1,a2,a3,a4,a5,a6⟩:=E.XM J Y V;refine⟨a.val,by rw[<- W];exact a3,λf H=>?_⟩;have h:=cJ (i0:=0) E.keys (by simpa using a1) a2 (λj e' U WN=>a6 j e' U (by simpa using WN));have I:=Lj (P:=P) (w:=f) (Dh (p kt m C) y) h;simp[lookup,underlying,hx,getObj,BU (H.trans Q),I,R]
 | none=>
  obtain⟨J,_⟩:=Se O;obtain⟨z,hz,S⟩:=mV (p et B WM) (N:=free Z F) w;refine⟨z,.cl _ _ hz,λf H=>?_⟩;have I:=Lj (P:=P) (w:=f) (Dh (p kt m C) y) (cI (i:=0) E.keys (E.EV J));simp[lookup,underlying,hx,getObj,BU (H.trans Q),I,R,S f]
def QnB(c:Z9 P L){d b e:Ty}(p:ty L t=some d)(B:d.k=.map kt et)(h:ty L kt=some b)(f:b.k=.int q)(C:ty L et=some e)
  {N:Nat->Prop} {w:World} (j:Bool):∃v,Cl N w (Dj e) v/\∀a:World,(lookup t (.map none) (.int q k) j).run P a=.ok (if j then .tuple #[v,.bool false] else v) a:=by
 obtain⟨z,hz,m⟩:=mV (c et e C) (N:=N) w;refine⟨z,hz,λa=>?_⟩;have u:=GS (P:=P) (w:=a) (k:=k) (Dh (c kt b h) f) true 9999;have y:=Lj (P:=P) (w:=a) (k:=k) (Dh (c kt b h) f) (es:=[]) (r:=none) rfl;simp[lookup,underlying,EN (c t d p) B,y,u,m a]
def cR(L:Je)(h:List Ob)(t:TypeId)(x i:D)(b:Bool):Ev:=match ty L t with
 | some ⟨.map kt et,_,_,_⟩=>match ty L kt,ty L et with
  | some ⟨.int q,_,_,_⟩,some a=>match i with
   | .raw (.int c k)=>match x with
    | .mref l g=>match h[l]? with
     | some o=>some (IsMap q o/\c=q/\g=0,match ZZ (Dt o) k with
      | some d=>bif b then .tup [d,.raw (.bool true)] else d
      | none=>bif b then .tup [Dj a,.raw (.bool false)] else Dj a)
     | none=>none
    | .raw (.map none)=>some (c=q,bif b then .tup [Dj a,.raw (.bool false)] else Dj a)
    | _=>none
   | _=>none
  | _,_=>none
 | _=>none
def look_ok(O:Z9 P L){z}(C:o.op=.lookup t x i z){p}{d}(h:cR L s.h t (Qq s.fr x) (Qq s.fr i) z=some (p,d))(K:p):WA P base nt o s d:=by
 intro Z S a w r;unfold cR at h;split at h;case h_2=>cases h
 rename_i kt et m1 m2 m3 J;split at h;case h_2=>cases h
 rename_i q n1 n2 n3 W I Q;split at h;case h_2=>cases h
 rename_i Y k B;have u:=r.eval i;rw[B]at u;have u:=Jt u;split at h;case h_3=>cases h
 case h_2 hx=>
  simp only[Q6,Ze]at h;obtain⟨rfl,rfl⟩:=h;subst K;have f:=r.eval x;rw[hx]at f;have f:=Jt f;obtain⟨v,m,y⟩:=QnB (k:=k) O J rfl I rfl Q (N:=free Z S) (w:=w) z;cases z with
  | false=>exact⟨v,.cl _ _ m,λe j=>by simp[execOp,C,f,u,y e]⟩
  | true=>
   refine⟨.tuple #[v,.bool false],.tup _ [v,.bool false] rfl (λi B=>match i,B with
    | 0,_=>.cl _ _ m
    | 1,_=>.cl _ _ (.raw _)),λe j=>by simp[execOp,C,f,u,y e]⟩
 case h_1 l g hx=>
  split at h;case h_2=>cases h
  rename_i ob U;simp only[Q6,Ze]at h;obtain⟨rfl,rfl⟩:=h;obtain⟨H,rfl,rfl⟩:=K;obtain⟨kd,c,T,V,_,_,R,H⟩:=H.get;rw[R];subst H;obtain⟨b,QW,f,_,_,F,E⟩:=cP r V hx U;obtain⟨v,m,y⟩:=QnA (k:=k) O J rfl I rfl Q F E z;cases M:ZZ T k with
  | some d=>
   rw[M]at m y;cases z with
   | false=>exact⟨v,m,λe j=>by simp[execOp,C,f,u,y e (j b (kO F))]⟩
   | true=>
    refine⟨.tuple #[v,.bool true],.tup _ [v,.bool true] rfl (λi B=>match i,B with
     | 0,_=>m
     | 1,_=>.cl _ _ (.raw _)),λe j=>by simp[execOp,C,f,u,y e (j b (kO F))]⟩
  | none=>
   rw[M]at m y;cases z with
   | false=>exact⟨v,m,λe j=>by simp[execOp,C,f,u,y e (j b (kO F))]⟩
   | true=>
    refine⟨.tuple #[v,.bool false],.tup _ [v,.bool false] rfl (λi B=>match i,B with
     | 0,_=>m
     | 1,_=>.cl _ _ (.raw _)),λe j=>by simp[execOp,C,f,u,y e (j b (kO F))]⟩
def cS(L:Je)(h:List Ob)(t:TypeId)(x:D):Ev:=match ty L t with
 | some ⟨.map _ _,_,_,_⟩=>match x with
  | .mref l g=>match h[l]? with
   | some o=>some (o.kd.ty=1/\g=o.gen,.raw (.int .i64 ((o.n - 1:Nat):Int)))
   | none=>none
  | .raw (.map none)=>some (True,.raw (.int .i64 0))
  | _=>none
 | _=>none
def QnC(M:Z9 P L){F:Array TypeId}(y:o.op=.call ⟨.builtin .len,#[x],F⟩)(R:F=#[t]){p}{d}(h:cS L s.h t (Qq s.fr x)=some (p,d))(K:p):WA P base nt o s d:=by
 subst R;intro Z T a w r;unfold cS at h;split at h;case h_2=>cases h
 rename_i kt et Y W V J;have v:=EN (M t _ J) rfl;have e:=r.eval x;split at h;case h_3=>cases h
 case h_2 hx=>
  simp only[Q6,Ze]at h;obtain⟨rfl,rfl⟩:=h;rw[hx]at e;have e:=Jt e;refine⟨.int .i64 0,.cl _ _ (.raw _),λj m=>?_⟩;rw[kQ y];simp[e,builtin,Builtin.len_,underlying,v,goInt]
 case h_1 l g hx=>
  split at h;case h_2=>cases h
  rename_i ob H;simp only[Q6,Ze]at h;obtain⟨rfl,rfl⟩:=h;obtain⟨z,rfl⟩:=K;rw[hx]at e;obtain⟨U,p,b,E,C,O,h4,f⟩:=GG e;rw[H]at E;cases E;have f:=f rfl;rw[f]at C;obtain⟨Zw,I⟩:=r.o.at_ l _ b 0 H C;obtain⟨_,_,Q,c,B,N,_⟩:=I.map z;have u:=O.2;rw[z]at u;refine⟨.int .i64 ((ob.n - 1:Nat):Int),.cl _ _ (.raw _),λj m=>?_⟩;rw[kQ y];have S:j.heap[b]? = some (.map Q c):=by rw[m b (kO B)];exact B
  simp[u,RV,builtin,Builtin.len_,underlying,v,getObj,BU S,N,goInt]
def NY(L:Je)(h:List Ob)(t:TypeId):Option (Prop × List Ob × D):=match ty L t with
 | some ⟨.map kt _,_,_,_⟩=>match ty L kt with
  | some ⟨.int q,_,_,_⟩=>some (True,h++[QS q 0 []],.mref h.length 0)
  | _=>some (True,h++[QS .i64 0 []],.mref h.length 0)
 | _=>none
def Qcb(H:Z9 P L){u}(C:u=none\/∃k n,u=some (.const (.int k n))/\0<=n)(z:o.op=.makeMap t u){p}{y}{d}(h:NY L s.h t=some (p,y,d)):jQ P base nt o s y d:=by
 have E:∃q,p=True/\y=s.h++[QS q 0 []]/\d=.mref s.h.length 0/\∃kt m a b c,ty L t=some ⟨.map kt m,a,b,c⟩:=by
  unfold NY at h;split at h;case h_2=>cases h
  rename_i kt m _ _ _ v;split at h;all_goals
   simp only[Q6,Ze]at h;obtain⟨rfl,rfl,rfl⟩:=h;exact⟨_,rfl,rfl,rfl,_,_,_,_,_,v⟩
 obtain⟨q,rfl,rfl,rfl,kt,m,_,_,_,v⟩:=E;intro Z f a w r B;have e:∀b,b<w.heap.size->(w.alloc (.map #[] 0)).heap[b]? = w.heap[b]? := λb F=>xq w _ b F;have J:(w.alloc (.map #[] 0)).heap[w.heap.size]? = some (.map #[] 0):=heap_alloc_new w _;have T:Tr s.h f w (s.h++[QS q 0 []]) (f++[some (w.heap.size,0)]) (w.alloc (.map #[] 0)):=Tr.push r.o e _ _ (by intro b q h;simp at h;omega);have I:f.length=s.h.length:=r.o.len;refine⟨.map (some w.heap.size),w.alloc (.map #[] 0),f++[some (w.heap.size,0)],.inl ?_,T,?_,?_,ER B _,λ_=>e⟩
 .rcases C with rfl|⟨k,n,rfl,K⟩
  .simp[execOp,z,makeMap]
  .simp[execOp,z,makeMap,Act.eval,underlying,EN (H t _ v) rfl,asInt,asIntOf]
 .exact Zl.RX r.o e _ (QB _) B (nN (kd:=.map) J ⟨rfl,λi e a h=>by simp at h,λi j a M _ h=>by simp at h⟩ rfl)
 .exact .mref _ _ (QS q 0 []) (some (w.heap.size,0)) w.heap.size σ (by rw[<- I];simp) ⟨by simp[QS,Wr,Kd.ty],rfl⟩ (QB _) (λ_=>rfl)
def GV(L:Je)(h:List Ob)(t:TypeId)(x i v:D):Option (Prop × List Ob):=match ty L t with
 | some ⟨.map kt _,_,_,_⟩=>match ty L kt with
  | some ⟨.int q,_,_,_⟩=>match x,i with
   | .mref l g,.raw (.int a k)=>match h[l]? with
    | some o=>some (IsMap q o/\a=q/\g=0/\o.kd.ro=false,h.set l (J7 q (clockOf o) (Dt o) k v))
    | none=>none
   | _,_=>none
  | _=>none
 | _=>none
def Qcc{w:World}{b}{f}{c}(d:w.heap[b]? = some (.map f c))(o:Obj):jO w { w with heap:=w.heap.setIfInBounds b o }:=λa v h=>by
 by_cases e:a.block=b
 .simp[World.cell?,e,d]at h
 .rw[World.cell?_of_block (w:=w)]
  .exact h
  .simp[Al,Q9 e]
def Qcd(hL:Z9 P L){v}(ho:o.op=.mapUpdate t x i v){p}{h'}(h:GV L s.h t (Qq s.fr x) (Qq s.fr i) (Qq s.fr v)=some (p,h'))(hp:p):∀(Z:Nat->Prop) R a w,Rel Z base nt s R a w->base<=w.heap.size->∃v u V,((execOp a.eval o).run P w=.ok (.value v) u\/((execOp a.eval o).run P w=.ok .skip u/\v=Go.undef))/\Tr s.h R w h' V u/\Zl Z base h' V u/\QC Z h' V u .undef v/\Below base w u/\jO w u:=by
 unfold GV at h;split at h;case h_2=>cases h
 split at h;case h_2=>cases h
 rename_i kt et _ _ _ ht _ q _ _ _ wo;split at h;case h_2=>cases h
 rename_i l g f k hx hi;split at h;case h_2=>cases h
 rename_i ob Zj;simp only[Q6,Ze]at h;obtain⟨rfl,rfl⟩:=h;obtain⟨J,rfl,rfl,W⟩:=hp;obtain⟨kd,c,C,JL,yu,JM,wu,J⟩:=J.get;rw[wu,JM];have Qi:kd=.map:=by rw[yu]at W;cases kd<;>first|rfl|(exfalso;revert JL;decide)|(exfalso;revert W;decide)
 subst Qi;rw[show Wr .map f c C=QS f c C from rfl]at J;subst J;intro Z R a w r KQ;have U:=r.eval i;rw[hi]at U;have U:=Jt U;have e3:=r.eval v;obtain⟨b,F,e1,h2,Zw,N,E⟩:=cP (kd:=.map) r rfl hx Zj;have Zw:=Zw rfl;have GW:=EN (hL t _ ht) rfl;have ZK:=Dh (hL kt _ wo) rfl;cases Y:ZZ C k with
 | some d=>
  obtain⟨j,e,g1,g2,g3,g4,g5,_⟩:=cM Y;obtain⟨a1,b1,b2,b3,b4,b5,b6⟩:=E.XM g1 g2 g4;have Zf:=Qno (P:=P) (w:=w) (k:=k) GW ZK N E.keys b1 b2 b6 (a.eval v);have J:J7 f c C k (Qq s.fr v)=QS f c (C.set j ⟨k,Qq s.fr v,e.b⟩):=by simp only[J7,Y];rw[g5]
  rw[J];obtain⟨u,rfl,T,O,B⟩:=cQ r Zj h2 Zw N (c':=c) (es':=C.set j ⟨k,Qq s.fr v,e.b⟩) (ens':=F.modify j λe=>{ e with key:=.int f k,val:=a.eval v }) (λV u T=>by
   have E':=E.tr T;have qi:∀(m:Nat) (x:MapEntry),(F.modify j λe=>{ e with key:=.int f k,val:=a.eval v }).toList[m]? = some x->∃y,F.toList[m]? = some y/\x.born=y.born/\(m≠j->x=y)/\(m=j->x.key=.int f k/\x.val=a.eval v):=λm x hx=>by
    have hx:(F.modify j λe=>{ e with key:=.int f k,val:=a.eval v })[m]? = some x:=by rw[<- vW];exact hx
    rw[mG]at hx;split at hx
    .rename_i K;subst K;rw[b1]at hx;simp at hx;subst hx;exact⟨a1,by simpa using b1,rfl,λh=>absurd rfl h,λ_=>⟨rfl,rfl⟩⟩
    .rename_i K;exact⟨x,by simpa using hx,rfl,λ_=>rfl,λh=>absurd h.symm K⟩
   refine⟨by have:=E.len;simp at this ⊢;exact this,λm e' a' Q I=>?_,λM S x y GX hx H=>?_⟩
   .obtain⟨y,y1,y2,y3,y4⟩:=qi m a' I;by_cases K:m=j
    .subst K;have Qc:=(Xa.1 g1).1;rw[Xb Qc]at Q;cases Q;obtain⟨d1,d2⟩:=y4 rfl;have:y=a1:=by have cT:F.toList[m]? = some a1:=(by simpa using b1);rw [y1] at cT; simpa using cT
     subst this;exact⟨d1,by rw[d2];exact e3.tr T,by rw[y2,b4],by rw[y2];exact b5⟩
    .rw[JP (Q9 K)]at Q;rw[y3 K];exact E'.at_ m e' y Q y1
   .obtain⟨x',yv,KB,_⟩:=qi M x hx;obtain⟨y',BK,ZN,_⟩:=qi S y H;rw[KB,ZN];exact E.inc M S x' y' GX yv BK)
  exact⟨Go.undef,_,R,.inr ⟨by simp[execOp,ho,e1,U,Zf],rfl⟩,T,O,.cl _ _ (.undef _),B,Qcc N _⟩
 | none=>
  obtain⟨g1,_⟩:=Se Y;have Zf:=Qnp (P:=P) (w:=w) (k:=k) GW ZK N E.keys (E.EV g1) (a.eval v);have J:J7 f c C k (Qq s.fr v)=QS f (c+1) (C++[⟨k,Qq s.fr v,c⟩]):=by simp only[J7,Y]
  rw[J];obtain⟨u,rfl,T,O,B⟩:=cQ r Zj h2 Zw N (c':=c+1) (es':=C++[⟨k,Qq s.fr v,c⟩]) (ens':=F.push { key:=.int f k,val:=a.eval v,born:=c }) (λV u T=>by
   have E':=E.tr T;have hl:C.length=F.size:=by have:=E.len;simpa using this
   refine⟨by simp[hl],λm e' a' Q I=>?_,λM S x y GX hx H=>?_⟩
   .have I:(F.push { key:=.int f k,val:=a.eval v,born:=c })[m]? = some a':=by rw[<- vW];exact I
    rw[aS]at I;rcases Yt Q with h1|⟨h1,Jo⟩
    .have:=(Xa.1 h1).1;rw[Qd ω]at I;obtain⟨k1,k2,k3,k4⟩:=E'.at_ m e' a' h1 (by simpa using I);exact⟨k1,k2,k3,ω⟩
    .subst Jo;rw[Qe ω]at I;cases I;exact⟨rfl,e3.tr T,rfl,σ⟩
   .have hx:(F.push { key:=.int f k,val:=a.eval v,born:=c })[M]? = some x:=by rw[<- vW];exact hx
    have H:(F.push { key:=.int f k,val:=a.eval v,born:=c })[S]? = some y:=by rw[<- vW];exact H
    rw[aS]at hx H;have Ko:∀(i:Nat) (z:MapEntry),F[i]? = some z->z.born<c:=λi z hz=>by
     have Qc:=(WL.1 hz).1;exact(E.at_ i (C[i]'ω) z (QG ω) (by simpa using hz)).2.2.2
    split at hx
    .split at H
     .omega
     .have:=(WL.1 H).1;omega
    .split at H
     .cases H;exact Ko M x hx
     .exact E.inc M S x y GX (by simpa using hx) (by simpa using H))
  exact⟨Go.undef,_,R,.inr ⟨by simp[execOp,ho,e1,U,Zf],rfl⟩,T,O,.cl _ _ (.undef _),B,Qcc N _⟩
def QnD(u:Z9 P L){v}(b:o.op=.mapUpdate t x i v){p}{c}(h:GV L s.h t (Qq s.fr x) (Qq s.fr i) (Qq s.fr v)=some (p,c))(f:p):jQ P base nt o s c .undef:=λZ e a w r m=>by
 obtain⟨v,d,F,E,C,B,z,y,_⟩:=Qcd u b h f Z e a w r m;exact⟨v,d,F,E,C,B,z,y,λj=>by simp[calm,b]at j⟩
def cU(L:Je)(h:List Ob)(t:TypeId)(x i:D):Option (Prop × List Ob):=match ty L t with
 | some ⟨.map kt _,_,_,_⟩=>match ty L kt with
  | some ⟨.int q,_,_,_⟩=>match i with
   | .raw (.int a k)=>match x with
    | .mref l g=>match h[l]? with
     | some o=>some (IsMap q o/\a=q/\g=0/\o.kd.ro=false,h.set l (QS q (clockOf o) (J1 (Dt o) k)))
     | none=>none
    | .raw (.map none)=>some (a=q,h)
    | _=>none
   | _=>none
  | _=>none
 | _=>none
def QnE(hL:Z9 P L){R:TypeId}(C:o.op=.call ⟨.builtin .delete,#[x,i],#[t,R]⟩){p}{h'}(h:cU L s.h t (Qq s.fr x) (Qq s.fr i)=some (p,h'))(hp:p):jQ P base nt o s h' (.tup []):=by
 unfold cU at h;split at h;case h_2=>cases h
 split at h;case h_2=>cases h
 rename_i kt et _ _ _ ht _ q _ _ _ wo;have GW:=EN (hL t _ ht) rfl;have ZK:=Dh (hL kt _ wo) rfl;split at h;case h_2=>cases h
 rename_i q' k m;split at h;case h_3=>cases h
 case h_2 hx=>
  simp only[Q6,Ze]at h;obtain⟨rfl,rfl⟩:=h;subst hp;intro Z I a w r KQ;have f:=r.eval i;rw[m]at f;have f:=Jt f;have u:=r.eval x;rw[hx]at u;have u:=Jt u;have h3:=GS (P:=P) (w:=w) (k:=k) ZK true 9999;refine⟨.tuple #[],w,I,.inl ?_,Tr.refl _ _ _,r.o,.tup [] [] rfl (λi m=>absurd m (X2 i)),Below.refl _ _,λ_=>Ext.refl w⟩;rw[kQ C];simp[u,f,builtin,Builtin.delete_,underlying,GW,h3]
 case h_1 l g hx=>
  split at h;case h_2=>cases h
  rename_i ob Y;simp only[Q6,Ze]at h;obtain⟨rfl,rfl⟩:=h;obtain⟨J,rfl,rfl,H⟩:=hp;obtain⟨kd,c,v,JL,yu,JM,wu,J⟩:=J.get;rw[wu,JM];have Qi:kd=.map:=by rw[yu]at H;cases kd<;>first|rfl|(exfalso;revert JL;decide)|(exfalso;revert H;decide)
  subst Qi;rw[show Wr .map q' c v=QS q' c v from rfl]at J;subst J;intro Z I a w r KQ;have f:=r.eval i;rw[m]at f;have f:=Jt f;obtain⟨b,z,u,h2,M,K,E⟩:=cP (kd:=.map) r rfl hx Y;have M:=M rfl;cases hf:ZZ v k with
  | some d=>
   obtain⟨j,e,W,g2,g3,g4,g5,V⟩:=cM hf;obtain⟨a1,b1,b2,b3,b4,b5,b6⟩:=E.XM W g2 g4;have Zf:=Qnq (P:=P) (w:=w) (k:=k) (ty:=o.type) (kt2:=R) GW ZK K E.keys b1 b2 b6;rw[V];have a2:j<z.size:=(WL.1 b1).1;obtain⟨Q,rfl,T,O,B⟩:=cQ r Y h2 M K (c':=c) (es':=v.eraseIdx j) (ens':=z.eraseIdxIfInBounds j) (λQj Q T=>by
    have E':=E.tr T;have hl:v.length=z.size:=by have:=E.len;simpa using this
    have a0:(z.eraseIdxIfInBounds j).toList=z.toList.eraseIdx j:=by simp[Array.eraseIdxIfInBounds,a2,Array.toList_eraseIdx]
    rw[a0];refine⟨by simp[List.length_eraseIdx,hl],λi' e' a' N F=>?_,λi1 i2 x y GX hx S=>?_⟩
    .rw[List.getElem?_eraseIdx]at N F;split at N
     .rw[Qe ‹_›]at F;exact E'.at_ _ _ _ N F
     .rw[Qd ‹_›]at F;exact E'.at_ _ _ _ N F
    .rw[List.getElem?_eraseIdx]at hx S;split at hx<;>split at S<;>exact E.inc _ _ x y ω hx S)
   refine⟨.tuple #[],_,I,.inl ?_,T,O,.tup [] [] rfl (λi m=>absurd m (X2 i)),B,λU=>by simp[calm,C]at U⟩;rw[kQ C];simp[u,f,builtin,Zf]
  | none=>
   obtain⟨W,_,V⟩:=Se hf;have Zf:=Qnr (P:=P) (w:=w) (k:=k) (ty:=o.type) (kt2:=R) GW ZK K E.keys (E.EV W);rw[V];obtain⟨Q,rfl,T,O,B⟩:=cQ r Y h2 M K (c':=c) (es':=v) (ens':=z) (λQj Q T=>E.tr T);refine⟨.tuple #[],_,I,.inl ?_,T,O,.tup [] [] rfl (λi m=>absurd m (X2 i)),B,λU=>by simp[calm,C]at U⟩;rw[kQ C];simp[u,f,builtin,Zf]
def GY(l c d:Nat)(a:List Nat):Nat->List D
 | 0=>[.mref l 0]
 | 1=>[.raw (.int .i64 c)]
 | 2=>[.raw (.int .i64 d)]
 | r+3=>match a[r]? with
  | some b=>[.raw (.int .i64 b)]
  | none=>[.undef]
def Yv(l c b:Nat)(a:List Nat):Ob:=⟨.iter,0,1,a.length+3,GY l c b a⟩
def cV(L:Je)(h:List Ob)(t:TypeId)(x:D):Option (Prop × List Ob × D):=match ty L t with
 | some ⟨.map _ _,_,_,_⟩=>match x with
  | .mref l g=>match h[l]? with
   | some o=>some (IsMap .i64 o/\g=0,h++[Yv l (clockOf o) (clockOf o) []],.mref h.length 0)
   | none=>none
  | _=>none
 | _=>none
def Qce{Z}{h}{j}{w:World}{l c e}{a}{b m}{d:Array Nat}(r:w.heap[b]? = some (.mapIter (some m) c d e))(f:d.toList=a)(p:QC Z h j w (.mref l 0) (.map (some m))):Kz Z h j w (Yv l c e a) b 0:=by
 subst f;refine Kz.QbD rfl ⟨rfl,rfl,m,c,e,d,r,by simp[Yv],λi _=>?_,p,.cl _ _ (.raw _),.cl _ _ (.raw _),λi s f=>?_⟩
 .show (GY l c e d.toList i).length=1;unfold GY;split<;>(try split)<;>rfl
 .have f:d.toList[i]? = some s:=by simpa using f
  show QC Z h j w (nth (GY l c e d.toList (i+3)) 0) _;have:GY l c e d.toList (i+3)=[.raw (.int .i64 s)]:=by simp only[GY,f]
  rw[this];exact .cl _ _ (.raw _)
def Qcf{Z}{h}{r}{w:World}{l c j}{a}{b p}(x:Kz Z h r w (Yv l c j a) b p):p=0/\∃(m:Nat) (f:Array Nat),w.heap[b]? = some (.mapIter (some m) c f j)/\f.toList=a/\QC Z h r w (.mref l 0) (.map (some m)):=by
 obtain⟨H,_,m,d,e,f,F,E,_,C,B,z,y⟩:=x.iter rfl;have K:d=c:=by have:=Jt B;simp at this;omega
 have J:e=j:=by have:=Jt z;simp at this;omega
 subst K;subst J;refine⟨H,m,f,F,?_,C⟩;have M:a.length=f.size:=by simpa[Yv] using E
 apply Am;intro i;by_cases u:i<f.size
 .have v:=y i f[i] (jK u);have I:(Yv l d e a).row (i+3)=[.raw (.int .i64 (a[i]'ω))]:=by
   show GY l d e a (i+3)=_;simp only[GY,QG (show i<a.length from ω)]
  rw[I]at v;have:=Jt v;simp at this;rw[QG (show i<f.toList.length by simpa using u),QG (show i<a.length from ω)];simp only[Array.getElem_toList,Q6];omega
 .rw[Gz ξ,Gz ω]
def QnH(I:Z9 P L)(H:o.op=.range t x){p}{y}{d}(h:cV L s.h t (Qq s.fr x)=some (p,y,d))(F:p):jQ P base nt o s y d:=by
 unfold cV at h;split at h;case h_2=>cases h
 rename_i kt et _ _ _ C;split at h;case h_2=>cases h
 rename_i l g hx;split at h;case h_2=>cases h
 rename_i ob J;simp only[Q6,Ze]at h;obtain⟨rfl,rfl,rfl⟩:=h;obtain⟨m,rfl⟩:=F;obtain⟨R,c,U,O,_,N,_,m⟩:=m.get;rw[N];subst m;intro Z j a w r B;obtain⟨b,V,z,S,_,u,E⟩:=cP r O hx J;have K:=Qns (P:=P) (w:=w) (EN (I t _ C) rfl) u;have e:∀f,f<w.heap.size->(w.alloc (.mapIter (some b) c #[] c)).heap[f]? = w.heap[f]? := λf u=>xq w _ f u;have Q:(w.alloc (.mapIter (some b) c #[] c)).heap[w.heap.size]? = some (.mapIter (some b) c #[] c):=heap_alloc_new w _;have T:Tr s.h j w (s.h++[Yv l c c []]) (j++[some (w.heap.size,0)]) (w.alloc (.mapIter (some b) c #[] c)):=Tr.push r.o e _ _ (by intro b q h;simp at h;omega);have M:j.length=s.h.length:=r.o.len;have v:=r.eval x;rw[hx,z]at v;refine⟨.pointer (some ⟨w.heap.size,0,none⟩),w.alloc (.mapIter (some b) c #[] c),j++[some (w.heap.size,0)],.inl ?_,T,?_,?_,ER B _,λ_=>e⟩
 .simp[execOp,H,z,K]
 .exact Zl.RX r.o e _ (QB _) B (Qce Q rfl (v.tr T))
 .exact .mref _ _ (Yv l c c []) (some (w.heap.size,0)) w.heap.size σ (by rw[<- M];simp) ⟨by simp[Yv,Kd.ty],rfl⟩ (QB _) (λ_=>rfl)
def QnI(ho:o.op=.next x false){Z}{M}{a}{w:World}(r:Rel Z base nt s M a w)(KQ:base<=w.heap.size){J c}{u}{d}(hx:Qq s.fr x=.mref J 0)(S:s.h[J]? = some (Yv l c c d)){W:Kd}(JL:W.ty=1)(Zj:s.h[l]? = some (Wr W q c u)):
  ((∀e∈u,e.b∈d)/\(execOp a.eval o).run P w=.ok (.value (.tuple #[.bool false])) w) \/
  ∃e∈u,e.b ∉ d/\∃v f,(execOp a.eval o).run P w=.ok (.value v) f/\Tr s.h M w (s.h.set J (Yv l c c (d++[e.b]))) M f/\Zl Z base (s.h.set J (Yv l c c (d++[e.b]))) M f /\
   QC Z (s.h.set J (Yv l c c (d++[e.b]))) M f (.tup [.raw (.bool true),.raw (.int q e.k),e.v]) v/\Below base w f:=by
 have e1:=r.eval x;rw[hx]at e1;obtain⟨o',p,b,h1,O,h3,h4,h5⟩:=GG e1;rw[S]at h1;cases h1;have h5:=h5 rfl;rw[h5]at O;obtain⟨Zw,yq⟩:=r.o.at_ J _ b 0 S O;obtain⟨_,m,I,hb,BV,Sf⟩:=Qcf yq;have hv:a.eval x=.pointer (some ⟨b,0,none⟩):=h3.2;obtain⟨o2,p2,bm,k1,k2,K,k4,Y⟩:=GG Sf;rw[Zj]at k1;cases k1;have Y:=Y rfl;rw[Y]at k2;have K:=K.2;rw[show (Wr W q c u).kd.ty=1 from JL]at K;have K:m=bm:=by simpa[RV] using K
 subst K;obtain⟨Lm,nO⟩:=r.o.at_ l _ m 0 Zj k2;obtain⟨_,H,EW,E⟩:=cO JL nO;have hl:u.length=H.toList.length:=E.len;have N:∀y∈H.toList,y.born<c:=λy hy=>by
  obtain⟨j,C⟩:=GA hy;have Qc:=(Xa.1 C).1;exact(E.at_ j (u[j]'ω) y (QG ω) C).2.2.2
 rcases run_next_at (P:=P) w o.type b m c c I H c hb EW N (QB _) with ⟨F,Q⟩|⟨y,F,U,Q,g3⟩
 .refine .inl ⟨λe he=>?_,by simp[execOp,ho,hv,Q]⟩;obtain⟨j,C⟩:=GA he;have Qc:=(Xa.1 C).1;obtain⟨_,_,e3,_⟩:=E.at_ j e (H.toList[j]'ω) C (QG ω);have nP:∀z∈H.toList,I.contains z.born=true:=λz hz=>by
   have:leftOf H I=#[]:=Array.eq_empty_of_size_eq_zero F;unfold leftOf at this;rw[Array.filter_eq_empty_iff]at this;have:=this z (by simpa using hz);simpa using this
  have:=nP _ (X0 (show j<H.toList.length from ω));rw[e3]at this;rw[<- BV];simpa using this
 .obtain⟨j,C⟩:=GA (show y∈H.toList by unfold leftOf at F;simp at F;simpa using F.1);have Qc:=(Xa.1 C).1;obtain⟨d1,d2,d3,d4⟩:=E.at_ j (u[j]'ω) y (QG ω) C;have GZ:y.born ∉ I.toList:=by unfold leftOf at F;simp at F;simpa using F.2
  refine .inr ⟨u[j]'ω,X0 _,by rw[<- d3,<- BV];exact GZ,?_⟩;rw[<- d3];have hh:U.heap=w.heap:=by rcases Q with rfl|rfl<;>rfl
  generalize R:ChangeMaps.setBlock U b (.mapIter (some m) c (I.push y.born) c)=f at g3;have AM:=kO hb;have V:f.heap=w.heap.setIfInBounds b (.mapIter (some m) c (I.push y.born) c):=by rw[<- R,<- hh];rfl
  have e:∀k,k≠b->f.heap[k]? = w.heap[k]? := λk hk=>by rw[V];simp[Al,Q9 hk]
  have J6:f.heap[b]? = some (.mapIter (some m) c (I.push y.born) c):=by rw[V];simp[Al,AM]
  have T:=Tr.Lk (w':=f) r.o S O e (o':=Yv l c c (d++[y.born])) rfl rfl rfl (by rw[hb];intro c el h;cases h);refine⟨_,f,by simp only[execOp,ho,hv,Sem.run_bind,g3,Result.andThen_ok];rfl,T,Zl.Lk (hro:=rfl) r.o S O e T (Qce J6 (by rw[Array.toList_push,BV]) (Sf.tr T)),?_,?_⟩
  .rw[d1];exact .tup _ [.bool true,.int q (u[j]'ω).k,y.val] rfl λi hi=>match i,hi with
    | 0,_=>.cl _ _ (.raw _)
    | 1,_=>.cl _ _ (.raw _)
    | 2,_=>d2.tr T
  .have B:Below base w U:=by
    rcases Q with rfl|rfl
    .exact .refl _ _
    .exact(Below.refl _ _).drew
   refine B.trans (NT (Zw rfl) (λk hk=>by rw[hh];exact e k hk) (by rw[V,hh];simp) (by rw[<- R];rfl) (by rw[<- R];rfl) (by rw[<- R];rfl))
end
def WO(k:List Int):Value:=.agg (k.map (Value.int .u16)).toArray
structure XN where
 k:List Int
 v:D
 b:Nat
def ZU(c:Nat)(a:List XN):Nat->List D
 | 0=>[.raw (.int .i64 c),.undef,.undef]
 | r+1=>match a[r]? with
  | some e=>[.raw (WO e.k),e.v,.raw (.int .i64 e.b)]
  | none=>[.undef,.undef,.undef]
def kY(b:Kd)(c:Nat)(a:List XN):Ob:=⟨b,0,3,a.length+1,ZU c a⟩
def wv(c:Nat)(a:List XN):Ob:=kY .map c a
def Xp:List XN->List Int->Option D
 | [],_=>none
 | e::r,k=>if e.k=k then some e.v else Xp r k
def QnJ:Value->Int
 | .int _ n=>n
 | _=>0
def nR:D->List Int
 | .raw (.agg a)=>a.toList.map QnJ
 | _=>[]
def AN(o:Ob):List XN:=(List.range (o.n - 1)).map λi=>⟨nR (nth (o.row (i+1)) 0),nth (o.row (i+1)) 1,(GU (nth (o.row (i+1)) 2)).toNat⟩
def NZ(o:Ob):Prop:=o.kd.ty=1/\o=kY o.kd (clockOf o) (AN o)/\∀e∈AN o,e.k.length=4
def QnK(k):nR (.raw (WO k))=k:=by
 simp only[nR,WO,GB]
 conv=>rhs;rw[<- List.map_id k]
 exact Dd λn _=>rfl
theorem Qcg(a:Kd)(c)(b:List XN):clockOf (kY a c b)=c:=by simp[clockOf,kY,ZU,nth,GU]
theorem Qch(b:Kd)(c)(a:List XN):AN (kY b c a)=a:=by
 apply Am;intro i;simp only[AN,kY,ZU,ND,KP,aY];by_cases h:i<a.length
 .simp[aY h,nth,GU,h,QnK]
 .rw[Gz (by simpa using h)];simp[h]
theorem Qci(c)(a:List XN):clockOf (wv c a)=c:=Qcg _ _ _
theorem cW(c)(a:List XN):AN (wv c a)=a:=Qch _ _ _
theorem QnL(c)(a:List XN):NZ (wv c a)=∀e∈a,e.k.length=4:=by
 refine propext ⟨λh=>by have:=h.2.2;rwa [cW]at this,λh=>⟨rfl,?_,by rwa [cW]⟩⟩;rw[Qci,cW];rfl
theorem Qcj(o:Ob):AN o.ro=AN o:=rfl
theorem QnM(o:Ob):NZ o.ro=NZ o:=by
 obtain⟨k,g,z,n,r⟩:=o;simp only[NZ,nK,Qcj];simp only[Ob.ro,kY,Kd.toRo_ty,Ob.mk.injEq,yl]
theorem QnN(c)(a:List XN):(wv c a).kd=.map:=rfl
def Qck(q):QS q 0 []=wv 0 []:=by
 have:AL q 0 []=ZU 0 []:=by
  funext r;cases r<;>rfl
 unfold QS Wr wv kY;rw[this];rfl
def Qcl:∀{c:List XN} {k:List Int} {v:D},Xp c k=some v->∃(j:Nat) (e:XN),c[j]? = some e/\e.k=k/\e.v=v/\∀(i:Nat) (b:XN),i<j->c[i]? = some b->b.k≠k
 | [],_,_,h=>by simp[Xp]at h
 | e::r,k,v,h=>by
  simp only[Xp]at h;by_cases a:e.k=k
  .rw[Qe a]at h;cases h;exact⟨0,e,rfl,a,rfl,λi _ d=>absurd d (X2 i)⟩
  .rw[Qd a]at h;obtain⟨j,b,m,l,g,f⟩:=Qcl h;refine⟨j+1,b,by simpa using m,l,g,λi x d hx=>?_⟩;cases i with
   | zero=>simp at hx;subst hx;exact a
   | succ i=>exact f i x ω (by simpa using hx)
def Qcm:∀{b:List XN} {k:List Int},Xp b k=none->∀e∈b,e.k≠k
 | [],_,_=>σ
 | e::r,k,h=>by
  simp only[Xp]at h;by_cases a:e.k=k
  .rw[Qe a]at h;cases h
  .rw[Qd a]at h;intro x hx;rcases QF.1 hx with rfl|h2
   .exact a
   .exact Qcm h x h2
def Qcn:∀(a b:List Int),a.length=b.length->kW (a.map (Value.int .u16)) (b.map (Value.int .u16))=some (decide (a=b))
 | [],[],_=>rfl
 | [],_::_,h=>by simp at h
 | _::_,[],h=>by simp at h
 | x::a,y::b,h=>by
  simp only[JQ,kW,zK,Qcn a b (by simpa using h)];have:IntKind.same .u16 .u16=true:=rfl;simp only[this,wi,Q6,ID];by_cases d:x=y<;>by_cases c:a=b<;>simp[d,c]
def Qco(k:List Int):(k.map (Value.int .u16)).map cat=List.replicate k.length 0:=by
 induction k with
 | nil=>rfl
 | cons a k b=>simp only[JQ,Vo,bk,b];rfl
structure HK (P:Program) (kt:TypeId):Prop where
 eq:nG P kt [0,0,0,0]
 arr:∃u,P.underlying kt=some (.array 4 u)/\P.underlying u=some (.int .u16)
section
variable {P:Program}{kt:TypeId}(H:HK P kt)
include H
theorem HK.equal(w){a b:List Int}(d:a.length=4)(c:b.length=4):(Op.equal kt (WO a) (WO b)).run P w=.ok (decide (a=b)) w:=by
 obtain⟨u,e,_⟩:=H.arr;have:=cE 60 10000 kt [0,0,0,0] ω H.eq.shape w (a.map (.int .u16)) (b.map (.int .u16)) (decide (a=b)) (by rw[Qco,d];rfl) (by rw[Qco,c];rfl) (Qcn a b (by rw[d,c]));unfold valOf at this;rw[e]at this;exact this
theorem HK.check(l)(w){k:List Int}(t:k.length=4):(checkKey l 10000 kt (WO k)).run P w=.ok () w:=by
 obtain⟨u,g,a⟩:=H.arr;obtain⟨i,s⟩:=info_of_underlying a;have d:qT P 59 u=some [0]:=by unfold qT;rw[a]
 have f:P.cellsOf u=1:=by
  have h:=H.eq.shape;unfold qT at h;rw[g]at h;simp only[d]at h;split at h
  .assumption
  .cases h
 have m:∀j,j<4->∃n,(part u (k.map (Value.int .u16)).toArray j).run P w=.ok (.int .u16 n) w:=λj e=>by
  have:=Sb d f w (k.map (Value.int .u16)) j ξ;refine⟨k.getD j 0,?_⟩;rw[this];unfold valOf;rw[a];have:j<k.length:=ω;simp[Q7,this]
 rw[show (10000:Nat)=9999+1 from rfl];unfold WO;rw[Instr.checkKey];simp only[Sem.run_bind,run_underlying g,Result.andThen_ok];simp only[Std.Legacy.Range.forIn_eq_forIn_range',Std.Legacy.Range.size,EJ,Nat.add_one_sub_one,Nat.div_one];have b:∀j∈List.range' 0 4 1,j<4:=λj e=>by simp[List.mem_range']at e;omega
 generalize List.range' 0 4 1=c at b;induction c with
 | nil=>simp
 | cons j c q=>
  obtain⟨n,p⟩:=m j (b j σ);have o:=GS (P:=P) (w:=w) (k:=n) a l 9998;simp only[List.forIn_cons,Sem.run_bind,run_sizeOf w s,Result.andThen_ok,f,Nat.mul_one,p,o,Sem.run_pure];exact q λy r=>b y (by simp[r])
theorem HK.EV(w){k:List Int}(c:k.length=4):∀(b:List MapEntry) (i:Nat),(∀e∈b,∃a,a.length=4/\e.key=WO a/\a≠k)->(findAsking kt (WO k) b i).run P w=.ok none w
 | [],_,_=>by simp[findAsking]
 | e::b,i,h=>by
  obtain⟨a,g,f,d⟩:=h e σ;have:=H.equal w c g;rw[QH (Q9 d)]at this;simp[findAsking,f,this,HK.EV w c b (i+1) λx hx=>h x (by simp[hx])]
theorem HK.XM(w){k:List Int}(d:k.length=4):∀(a:List MapEntry) (b j:Nat) (e:MapEntry),a[j]? = some e->e.key=WO k->(∀(i:Nat) (f:MapEntry),i<j->a[i]? = some f->∃c,c.length=4/\f.key=WO c/\c≠k) ->
  (findAsking kt (WO k) a b).run P w=.ok (some (b+j,e.val)) w
 | [],_,_,_,h,_,_=>by simp at h
 | x::a,b,0,e,h,hx,_=>by
  simp at h;subst h;have:=H.equal w d d;rw[QT rfl]at this;simp[findAsking,hx,this]
 | x::a,b,j+1,e,h,hx,g=>by
  obtain⟨c,p,o,n⟩:=g 0 x ω rfl;have:=H.equal w d p;rw[QH (Q9 n)]at this;have l:=HK.XM w d a (b+1) j e (by simpa using h) hx λi f q m=>g (i+1) f ω (by simpa using m);simp[findAsking,o,this,l];omega
theorem HK.find(w){k}{a:List MapEntry}{r}(h:(findAsking kt (WO k) a 0).run P w=.ok r w):(findKey kt (WO k) a).run P w=.ok r w:=by
 obtain⟨u,b,_⟩:=H.arr;cases a with
 | nil=>simpa[findKey,underlying,b,findNow,findAsking] using h
 | cons e a=>
  simp only[findKey,underlying,b,findNow,sameNow,Sem.run_bind];simpa[underlying,b] using h
end
structure BW (Z:Nat->Prop) (h:List Ob) (pl:List Pl) (w:World) (c:Nat) (es:List XN) (QW:List MapEntry):Prop where
 len:es.length=QW.length
 at_:∀(i:Nat) (e:XN) (a:MapEntry),es[i]? = some e->QW[i]? = some a->a.key=WO e.k/\QC Z h pl w e.v a.val/\a.born=e.b/\a.born<c
 inc:∀(i j:Nat) (a a':MapEntry),i<j->QW[i]? = some a->QW[j]? = some a'->a.born<a'.born
def QnO{Z}{h}{e}{w:World}{c}{d}{b}{k:Array MapEntry}(o:w.heap[b]? = some (.map k c))(E:BW Z h e w c d k.toList){l:Kd}(u:l.ty=1):Kz Z h e w (kY l c d) b 0:=by
 refine Kz.ofMap u ⟨rfl,rfl,k,c,o,by have:=E.len;simp at this;simp[kY,this],λi _=>?_,.cl _ _ (.raw _),λi a n=>?_,λi j a s t g f=>E.inc i j a s t (by simpa using g) (by simpa using f)⟩
 .show (ZU c d i).length=3;cases i with
  | zero=>rfl
  | succ i=>simp only[ZU];split<;>rfl
 .have Qc:=(WL.1 n).1;have m:i<d.length:=by have:=E.len;simp at this;omega
  obtain⟨g,f,q,p⟩:=E.at_ i d[i] a (QG m) (by simpa using n);have r:ZU c d (i+1)=[.raw (WO d[i].k),d[i].v,.raw (.int .i64 d[i].b)]:=by simp[ZU,m]
  show _/\QC Z h e w (nth (ZU c d (i+1)) 0) _/\QC Z h e w (nth (ZU c d (i+1)) 1) _/\QC Z h e w (nth (ZU c d (i+1)) 2) _;rw[r];exact⟨p,by rw[g];exact .cl _ _ (.raw _),f,by rw[q];exact .cl _ _ (.raw _)⟩
def QnP{Z}{h}{l}{w:World}{c}{g}{b p}{k:Kd}(M:k.ty=1)(x:Kz Z h l w (kY k c g) b p):p=0/\∃f:Array MapEntry,w.heap[b]? = some (.map f c)/\BW Z h l w c g f.toList:=by
 obtain⟨F,_,f,d,E,C,_,B,z,y⟩:=x.map M;have t:d=c:=by
  have:=Jt B;simp at this;omega
 subst t;have r:g.length=f.size:=by simpa[kY] using C
 refine⟨F,f,E,by simpa using r,λi e a s u=>?_,λi j a K L I H=>y i j a K L (by simpa using I) (by simpa using H)⟩;obtain⟨q,o,n,m⟩:=z i a (by simpa using u);have J:(kY k d g).row (i+1)=[.raw (WO e.k),e.v,.raw (.int .i64 e.b)]:=by simp[kY,ZU,s]
 rw[J]at o n m;have:=Jt o;have v:=Jt m;refine⟨this,n,?_,q⟩;simp at v;omega
def BW.tr{Z}{h f}{d j}{w b}(T:Tr h d w f j b){c}{g}{k}(E:BW Z h d w c g k):BW Z f j b c g k:=
 ⟨E.len,λi e a m l=>let ⟨p,o,n⟩:=E.at_ i e a m l;⟨p,o.tr T,n⟩,E.inc⟩
def G0:List D->Option (List Int)
 | []=>some []
 | .raw (.int .u16 n)::r=>match G0 r with
  | some l=>some (n::l)
  | none=>none
 | _=>none
def Qcp:∀{b:List D} {l:List Int},G0 b=some l->EU b=some (l.map (Value.int .u16))
 | [],l,e=>by simp[G0]at e;subst e;rfl
 | c::b,l,e=>by
  unfold G0 at e;split at e
  .rename_i a;cases a
  .rename_i n r a;simp only[ID]at a;obtain⟨rfl,rfl⟩:=a;split at e
   .rename_i f d;simp only[Q6]at e;subst e;simp[EU,Qcp d]
   .cases e
  .cases e
def xv(L:Je)(E:Dr)(a:TypeId)(b:List D):Option (List Int):=match ty L a with
 | some ⟨.array n u,_,_,_⟩=>match ty L u,BT E a with
  | some ⟨.int q,_,_,_⟩,some l=>bif Nat.beq n 4&&IntKind.same q .u16&&Lh l [0,0,0,0] then match G0 b with
    | some k=>bif Nat.beq k.length 4 then some k else none
    | none=>none
   else none
  | _,_=>none
 | _=>none
def QnQ{P:Program}{t e:TypeId}{n}{y:Ty}(h:Xc P t y)(b:y.k=.array n e):P.underlying t=some (.array n e):=by
 obtain⟨d,c,a⟩:=h.under;rw[b]at a;rw[c];cases d<;>simp[TK.of]at a;rw[a.1,a.2]
def Qcq{P}{L}{E}(d:Z9 P L)(r:AK P E){b:TypeId}{e}{k:List Int}(h:xv L E b e=some k):HK P b/\k.length=4/\G0 e=some k:=by
 unfold xv at h;split at h;case h_2=>cases h
 rename_i n u _ _ _ i;split at h;case h_2=>cases h
 rename_i q _ _ _ l g p;obtain⟨a,h⟩:=jP h;simp only[ZL]at a;have m:=RO a.1.1;have j:=IntKind.mS a.1.2;have o:=cF a.2;subst m;subst j;subst o;split at h;case h_2=>cases h
 rename_i f s;cases c:Nat.beq f.length 4 with
 | false=>rw[c]at h;cases h
 | true=>
  rw[c]at h;cases h;exact⟨⟨r _ _ p,u,QnQ (d b _ i) rfl,Dh (d u _ g) rfl⟩,RO c,s⟩
section
variable {P:Program}{L:Je}{E:Dr}{base nt:Nat}{s:St}{o:Oper}{t:TypeId}{x i:Operand}
def Qcr{Z}{e}{a:Act}{w}(r:Rel Z base nt s e a w){c}{k}(j:Qq s.fr i=.agg c)(h:G0 c=some k):a.eval i=WO k:=by
 have b:=r.eval i;rw[j]at b;obtain⟨d,g,f,l⟩:=IW b;rw[g,cG (Qcp h) d f l];rfl
def Qcs{Z}{f}{a}{w}(r:Rel Z base nt s f a w){l c}{j}{d:Kd}(u:d.ty=1)(y:Qq s.fr x=.mref l 0)(q:s.h[l]? = some (kY d c j)):
  ∃b e,a.eval x=.map (some b)/\f[l]? = some (some (b,0))/\(d.ro=false->base<=b)/\w.heap[b]? = some (.map e c)/\BW Z s.h f w c j e.toList:=by
 have n:=r.eval x;rw[y]at n;obtain⟨F,p,b,m,h,B,H,g⟩:=GG n;rw[q]at m;cases m;have g:=g rfl;rw[g]at h;obtain⟨C,v⟩:=r.o.at_ l _ b 0 q h;obtain⟨_,e,z,E⟩:=QnP u v;have k:=B.2;have:(kY d c j).kd.ty=1:=u;rw[this]at k;exact⟨b,e,k,h,C,z,E⟩
def cX(L:Je)(E:Dr)(h:List Ob)(t:TypeId)(x i:D):Ev:=match ty L t with
 | some ⟨.map b c,_,_,_⟩=>match ty L c,i,x with
  | some a,.agg e,.mref l g=>match xv L E b e,h[l]? with
   | some k,some o=>some (NZ o/\g=0,match Xp (AN o) k with
    | some d=>.tup [d,.raw (.bool true)]
    | none=>.tup [Dj a,.raw (.bool false)])
   | _,_=>none
  | _,_,_=>none
 | _=>none
def BW.keyed{Z:Nat->Prop}{h:List Ob}{j:List Pl}{w:World}{c:Nat}{b:List XN}{g:List MapEntry}(R:BW Z h j w c b g)(k:∀e∈b,e.k.length=4)(i:Nat)(a:MapEntry)(f:g[i]? = some a):∃e,b[i]? = some e/\e.k.length=4/\a.key=WO e.k:=by
 have d:i<b.length:=by have:=(Xa.1 f).1;rw[R.len];exact this
 exact⟨b[i],QG d,k _ (X0 d),(R.at_ i b[i] a (QG d) f).1⟩
def BW.EV{Z}{h}{j}{w}{c}{d}{f:List MapEntry}(R:BW Z h j w c d f)(q:∀e∈d,e.k.length=4){g:TypeId}(H:HK P g){k:List Int}(m:k.length=4)(l:Xp d k=none)(b):(findKey g (WO k) f).run P b=.ok none b:=by
 refine H.find b (H.EV b m f 0 λa p=>?_);obtain⟨i,n⟩:=GA p;obtain⟨e,v,u,r⟩:=R.keyed q i a n;exact⟨e.k,u,r,Qcm l e (NA v)⟩
def QnR(B:Z9 P L)(hE:AK P E)(Q:o.op=.lookup t x i true){p}{d}(h:cX L E s.h t (Qq s.fr x) (Qq s.fr i)=some (p,d))(hp:p):WA P base nt o s d:=by
 intro Z pl a w r;unfold cX at h;split at h;case h_2=>cases h
 rename_i kt et _ _ _ ht;split at h;case h_2=>cases h
 rename_i ye cs l g WM n hx;split at h;case h_2=>cases h
 rename_i k u hk Zj;simp only[Q6,Ze]at h;obtain⟨rfl,rfl⟩:=h;obtain⟨⟨Ll,y,C⟩,rfl⟩:=hp;obtain⟨H,J,JM⟩:=Qcq B hE hk;have W:=Qcr r n JM;obtain⟨M,JL⟩:∃M,M=u.kd:=⟨_,rfl⟩;obtain⟨c,hc⟩:∃c,c=clockOf u:=⟨_,rfl⟩;obtain⟨I,K⟩:∃I,I=AN u:=⟨_,rfl⟩;rw[<- JL]at Ll y;rw[<- hc,<- K]at y;rw[<- K]at C ⊢;rw[y]at Zj;obtain⟨b,m,Y,_,_,q,R⟩:=Qcs r Ll hx Zj;have hx:=EN (B t _ ht) rfl;have U:=λf:World=>H.check m.isEmpty f J;cases T:Xp I k with
 | some d=>
  obtain⟨j,e,V,g2,g3,g4⟩:=Qcl T;have S:j<m.toList.length:=by rw[<- R.len];exact(Xa.1 V).1
  obtain⟨k1,k2,_⟩:=R.at_ j e m.toList[j] V (QG S);have F:∀f:World,(findKey kt (WO k) m.toList).run P f=.ok (some (j,m.toList[j].val)) f:=λf=>by
   have:=H.find f (H.XM f J m.toList 0 j m.toList[j] (QG S) (by rw[k1,g2]) λO a' JB We=>by
    obtain⟨e',q1,q2,q3⟩:=R.keyed C O a' We;exact⟨e'.k,q2,q3,g4 O e' JB q1⟩)
   rwa [JR]at this
  refine⟨.tuple #[m.toList[j].val,.bool true],.tup _ [_,.bool true] rfl (λi n=>match i,n with
   | 0,_=>by rw[<- g3];exact k2
   | 1,_=>.cl _ _ (.raw _)),λf v=>?_⟩
  simp[execOp,Q,Y,W,lookup,underlying,hx,getObj,BU ((v b (kO q)).trans q),F f,U f]
 | none=>
  obtain⟨z,hz,zJ⟩:=mV (B et ye WM) (N:=free Z pl) w;refine⟨.tuple #[z,.bool false],.tup _ [z,.bool false] rfl (λi n=>match i,n with
   | 0,_=>.cl _ _ hz
   | 1,_=>.cl _ _ (.raw _)),λf v=>?_⟩
  have F:=R.EV C H J T f;simp[execOp,Q,Y,W,lookup,underlying,hx,getObj,BU ((v b (kO q)).trans q),F,U f,zJ f]
def cY(L:Je)(E:Dr)(h:List Ob)(t:TypeId)(x i v:D):Option (Prop × List Ob):=match ty L t with
 | some ⟨.map a _,_,_,_⟩=>match i,x with
  | .agg b,.mref l g=>match xv L E a b,h[l]? with
   | some k,some o=>some (NZ o/\Xp (AN o) k=none/\g=0/\o.kd.ro=false,h.set l (wv (clockOf o+1) (AN o++[⟨k,v,clockOf o⟩])))
   | _,_=>none
  | _,_=>none
 | _=>none
def QnS(hL:Z9 P L)(hE:AK P E){v}(W:o.op=.mapUpdate t x i v){p}{h'}(h:cY L E s.h t (Qq s.fr x) (Qq s.fr i) (Qq s.fr v)=some (p,h'))(hp:p):jQ P base nt o s h' .undef:=by
 unfold cY at h;split at h;case h_2=>cases h
 rename_i kt et _ _ _ ht;split at h;case h_2=>cases h
 rename_i cs l g hi hx;split at h;case h_2=>cases h
 rename_i k J hk I;simp only[Q6,Ze]at h;obtain⟨rfl,rfl⟩:=h;obtain⟨⟨Ll,M,h4⟩,Y,rfl,B⟩:=hp;obtain⟨H,G1,JM⟩:=Qcq hL hE hk;obtain⟨C,JL⟩:∃C,C=J.kd:=⟨_,rfl⟩;obtain⟨c,n⟩:∃c,c=clockOf J:=⟨_,rfl⟩;obtain⟨j,Q⟩:∃j,j=AN J:=⟨_,rfl⟩;rw[<- JL]at Ll M B;rw[<- n,<- Q]at M;rw[<- Q]at h4 Y ⊢;rw[<- n];have Qi:C=.map:=by cases C<;>first|rfl|(exfalso;revert Ll;decide)|(exfalso;revert B;decide)
 rw[M,Qi]at I;intro Z S a w r KQ;have e2:=Qcr r hi JM;have e3:=r.eval v;obtain⟨b,d,e1,h2,O,F,R⟩:=Qcs r rfl hx I;have O:=O rfl;have GW:=EN (hL t _ ht) rfl;have q2:=R.EV h4 H G1 Y w;have q3:=H.check false w G1;have Zf:(mapUpdate t (.map (some b)) (WO k) (a.eval v)).run P w=.ok () { w with heap:=w.heap.setIfInBounds b (.map (d.push { key:=WO k,val:=a.eval v,born:=c }) (c+1)) }:=by
  simp[mapUpdate,underlying,GW,getObj,BU F,q2,q3,setObj,Sd F]
 have AM:=kO F;generalize q:({ w with heap:=w.heap.setIfInBounds b (.map (d.push { key:=WO k,val:=a.eval v,born:=c }) (c+1)) }:World)=u at Zf;have e:∀c,c≠b->u.heap[c]? = w.heap[c]? := λc n=>by rw[<- q];simp[Al,Q9 n]
 have J6:u.heap[b]? = some (.map (d.push { key:=WO k,val:=a.eval v,born:=c }) (c+1)):=by rw[<- q];simp[Al,AM]
 have T:=Tr.Lk (w':=u) r.o I h2 e (o':=wv (c+1) (j++[⟨k,Qq s.fr v,c⟩])) rfl rfl rfl (by rw[F];intro c el h;cases h);have R':=R.tr T;have hl:j.length=d.size:=by have:=R.len;simpa using this
 have RR:BW Z (s.h.set l (wv (c+1) (j++[⟨k,Qq s.fr v,c⟩]))) S u (c+1) (j++[⟨k,Qq s.fr v,c⟩]) (d.push { key:=WO k,val:=a.eval v,born:=c }).toList:=by
  refine⟨by simp[hl],λV e' a' Xo m=>?_,λK U x y GX hx f=>?_⟩
  .have m:(d.push { key:=WO k,val:=a.eval v,born:=c })[V]? = some a':=by rw[<- vW];exact m
   rw[aS]at m;rcases Yt Xo with N|⟨N,Jo⟩
   .have:=(Xa.1 N).1;rw[Qd ω]at m;obtain⟨k1,k2,k3,k4⟩:=R'.at_ V e' a' N (by simpa using m);exact⟨k1,k2,k3,ω⟩
   .subst Jo;rw[Qe ω]at m;cases m;exact⟨rfl,e3.tr T,rfl,σ⟩
  .have hx:(d.push { key:=WO k,val:=a.eval v,born:=c })[K]? = some x:=by rw[<- vW];exact hx
   have f:(d.push { key:=WO k,val:=a.eval v,born:=c })[U]? = some y:=by rw[<- vW];exact f
   rw[aS]at hx f;have Ko:∀(i:Nat) (z:MapEntry),d[i]? = some z->z.born<c:=λi z hz=>by
    have Qc:=(WL.1 hz).1;exact(R.at_ i (j[i]'ω) z (QG ω) (by simpa using hz)).2.2.2
   split at hx
   .split at f
    .omega
    .have:=(WL.1 f).1;omega
   .split at f
    .cases f;exact Ko K x hx
    .exact R.inc K U x y GX (by simpa using hx) (by simpa using f)
 refine⟨Go.undef,u,S,.inr ⟨by simp[execOp,W,e1,e2,Zf],rfl⟩,T,Zl.Lk (hro:=rfl) r.o I h2 e T (QnO J6 RR rfl),.cl _ _ (.undef _),?_,λn=>by simp[calm,W]at n⟩;exact NT O e (by rw[<- q];simp) (by rw[<- q]) (by rw[<- q]) (by rw[<- q])
end
end Go.Fg
