/- Contracts and laws on the way to the statement. No conditions. -/
import Derived.KernelRfl
import Derived.WalkKit
import Derived.WalkLawsBesides
import Derived.WalkSpells
import Derived.ChangeKeysEq
import Derived.Maps.RangeRun
set_option maxRecDepth 100000
set_option maxHeartbeats 16000000
set_option linter.unusedVariables false
set_option linter.unusedSimpArgs false
set_option linter.unusedSectionVars false
set_option linter.defProp false
namespace Go.Fg
open Go.RowKit (Below)
theorem ω{p:Prop}(h:p:=by (omega)):p:=h
theorem σ{p:Prop}(h:p:=by (simp)):p:=h
theorem π{p:Prop}(h:p:=by (decide)):p:=h
theorem τ{p:Prop}(h:p:=by (kernel_rfl)):p:=h
theorem ξ{p:Prop}(h:p:=by ((simp;omega))):p:=h
theorem δ{p:Prop}(h:p:=by (first|assumption|omega)):p:=h
theorem η{p:Prop}(h:p:=by ((rw[IntKind.wrap_u64];omega))):p:=h
def x5:=@Array.getD_eq_getD_getElem?
def Ns:=@Array.getElem!_eq_getD
def Nt:=@Array.getElem?_append_left
def jr:=@Array.getElem?_eq_getElem
def WK:=@Array.getElem?_eq_some_iff
def mW:=@Array.getElem?_modify
def aM:=@Array.getElem?_push
def mX:=@Array.getElem?_setIfInBounds_ne
def vE:=@Array.getElem?_toList
def Gm:=@Bool.and_eq_false_iff
def ZE:=@Bool.and_eq_true
def X9:=@Bool.eq_false_iff
def vF:=@Bool.eq_iff_iff
def Ie:=@Bool.false_and
def qu:=@Bool.false_eq_true
def CL:=@Bool.false_ne_true
def Gn:=@Bool.false_or
def Ya:=@Bool.not_eq_true
def qv:=@Bool.not_eq_true'
def Gp:=@Bool.not_false
def Be:=@Bool.not_true
def Gq:=@Bool.or_eq_false_iff
def Bf:=@Bool.or_eq_true
def If:=@Bool.true_and
def RD:=@Bool.true_or
def wP:=@Classical.byContradiction
def Nu:=@Classical.not_forall
def aN:=@Function.comp_def
def Eh:=@Int.le_refl
def Nv:=@Int.le_trans
def Bg:=@Int.natCast_mul
def Ei:=@Int.toNat_of_nonneg
def aO:=@List.Nodup.sublist
def Nw:=@List.Pairwise.filter
def mY:=@List.Pairwise.of_cons
def Nx:=@List.Perm.refl
def qV:=@List.all_eq_true
def aP:=@List.any_eq_false
def vG:=@List.any_eq_true
def WL:=@List.append_assoc
def aQ:=@List.append_inj
def JS:=@List.append_nil
def wQ:=@List.cons.inj
def Ig:=@List.cons.injEq
def YT:=@List.cons_append
def RE:=@List.drop_eq_getElem_cons
def aR:=@List.drop_eq_nil_of_le
def mZ:=@List.eq_nil_iff_forall_not_mem
def y8:=@List.ext_getElem?
def Ih:=@List.filter_append
def RF:=@List.filter_congr
def wR:=@List.filter_cons
def Ii:=@List.filter_cons_of_neg
def Ij:=@List.filter_cons_of_pos
def y9:=@List.filter_eq_self
def Ny:=@List.filter_map
def km:=@List.find?_cons
def js:=@List.find?_eq_none
def wS:=@List.find?_some
def Ej:=@List.findIdx?_eq_none_iff
def CM:=@List.findIdx?_eq_some_iff_getElem
def zQ:=@List.foldl_append
def jt:=@List.foldl_cons
def QW:=@List.getD_eq_getElem?_getD
def JJ:=@List.getElem?_append_left
def Kc:=@List.getElem?_append_right
def Gr:=@List.getElem?_drop
def QJ:=@List.getElem?_eq_getElem
def Ek:=@List.getElem?_eq_none
def W3:=@List.getElem?_eq_some_iff
def KL:=@List.getElem?_map
def Gs:=@List.getElem?_of_mem
def JG:=@List.getElem?_set_ne
def W5:=@List.getElem?_set_self
def XB:=@List.getElem?_take
def Xn:=@List.getElem_mem
def vH:=@List.getElem_of_mem
def Nz:=@List.idxOf_append
def Zk:=@List.length_append
def Kw:=@List.length_cons
def aS:=@List.length_drop
def El:=@List.length_eq_zero_iff
def XS:=@List.length_filter_le
def Kj:=@List.length_map
def RG:=@List.length_nil
def aT:=@List.length_pos_iff
def Kx:=@List.length_set
def Kr:=@List.length_singleton
def aU:=@List.length_take
def ju:=@List.map_append
def Il:=@List.map_congr_left
def JT:=@List.map_cons
def Gt:=@List.map_map
def Q1:=@List.mem_append
def Gu:=@List.mem_append_left
def NA:=@List.mem_append_right
def QK:=@List.mem_cons
def J8:=@List.mem_cons_of_mem
def Ky:=@List.mem_cons_self
def Jt:=@List.mem_filter
def aV:=@List.mem_iff_getElem
def Ji:=@List.mem_map
def vI:=@List.mem_of_find?_eq_some
def NB:=@List.mem_of_getElem?
def aW:=@List.mem_of_mem_take
def RH:=@List.mem_range
def Yx:=@List.mem_singleton
def zR:=@List.nil_append
def JK:=@List.nodup_append
def ZV:=@List.nodup_cons
def aX:=@List.not_mem_nil
def aY:=@List.pairwise_append
def Aa:=@List.pairwise_cons
def RI:=@List.pairwise_map
def aZ:=@List.replicate_succ
def bc:=@List.set_append_left
def Im:=@List.set_append_right
def JN:=@List.set_set
def Gv:=@List.size_toArray
def m6:=@List.takeWhile_append_of_pos
def RJ:=@List.takeWhile_cons
def RK:=@List.takeWhile_sublist
def m7:=@List.takeWhile_subset
def zS:=@List.take_add_one
def Bh:=@List.take_append_drop
def Wn:=@List.take_length
def NC:=@Nat.add_comm
def VM:=@Nat.add_mul
def be:=@Nat.add_sub_cancel
def bg:=@Nat.add_sub_cancel_left
def x6:=@Nat.add_zero
def bj:=@Nat.and_lt_two_pow
def Wo:=@Nat.beq_eq
def ND:=@Nat.beq_refl
def Ip:=@Nat.ble_eq
def wT:=@Nat.blt_eq
def RL:=@Nat.div_add_mod
def bk:=@Nat.div_div_eq_div_mul
def Gw:=@Nat.div_le_self
def bn:=@Nat.div_mod_unique
def RM:=@Nat.eq_of_beq_eq_true
def br:=@Nat.le_add_right
def RN:=@Nat.le_of_ble_eq_true
def QB:=@Nat.le_refl
def Em:=@Nat.le_succ
def JY:=@Nat.le_trans
def Gx:=@Nat.lt_irrefl
def Iq:=@Nat.lt_of_le_of_lt
def vJ:=@Nat.lt_of_lt_of_le
def wU:=@Nat.lt_or_ge
def vK:=@Nat.lt_succ_iff_lt_or_eq
def Ir:=@Nat.lt_succ_self
def Gy:=@Nat.min_eq_left
def NF:=@Nat.min_eq_right
def qW:=@Nat.mod_eq_of_lt
def WM:=@Nat.mod_lt
def Is:=@Nat.mul_assoc
def Iu:=@Nat.mul_comm
def Yb:=@Nat.mul_le_mul
def Iv:=@Nat.mul_le_mul_left
def XC:=@Nat.mul_le_mul_right
def RO:=@Nat.mul_zero
def Yc:=@Nat.not_lt_zero
def NG:=@Nat.one_mul
def RP:=@Nat.pow_succ
def Eo:=@Nat.shiftRight_eq_div_pow
def wV:=@Nat.sub_self
def Ep:=@Nat.sub_zero
def bt:=@Nat.two_pow_pos
def RQ:=@Nat.xor_lt_two_pow
def Jz:=@Nat.zero_add
def Jj:=@Nat.zero_le
def CN:=@Nat.zero_lt_succ
def Q8:=@Ne.symm
def bu:=@Option.bind_some
def KW:=@Option.getD_some
def Er:=@Option.isSome_iff_exists
def Es:=@Option.isSome_none
def Ab:=@Option.isSome_some
def bw:=@Option.map_eq_none_iff
def VT:=@Option.map_eq_some_iff
def Iw:=@Option.map_map
def qw:=@Option.map_none
def KM:=@Option.map_some
def Ix:=@Option.some.inj
def Q5:=@Option.some.injEq
def Bi:=@Option.toList_some
def Q9:=@Prod.mk.injEq
def jv:=@beq_eq_false_iff_ne
def qX:=@beq_iff_eq
def NH:=@beq_self_eq_true
def zT:=@cond_false
def vL:=@cond_true
def bx:=@decide_eq_decide
def QG:=@decide_eq_false
def Iy:=@decide_eq_false_iff_not
def QS:=@decide_eq_true
def Xo:=@decide_eq_true_eq
def Iz:=@eq_iff_iff
def qY:=@if_false
def Qc:=@if_neg
def Qd:=@if_pos
def Vu:=@if_true
def Et:=@not_exists
def qx:=@not_or
def CO:=@of_decide_eq_false
def qZ:=@of_decide_eq_true
def vM:=@true_and
inductive D where
 | raw (v:Value)
 | nil
 | undef
 | imm (sz n:Nat) (row:Nat->List D)
 | ip (cells:List D)
 | ref (l g off len:Nat)
 | ptr (l g i j:Nat)
 | mref (l g:Nat)
 | clo (f:FuncId) (first:Nat) (Qx:List D)
 | agg (cs:List D)
 | tup (cs:List D)
def nth(a:List D)(i:Nat):D:=a.getD i .undef
def Q6(a:List Value)(i:Nat):Value:=a.getD i Go.undef
inductive Kd where
 | one
 | arr
 | map
 | iter
 | Wb
 | Ac
 | RS
 | QbS
def Kd.IA:Kd->Bool
 | .one=>true
 | .Wb=>true
 | _=>false
def Kd.ty:Kd->Nat
 | .one=>0
 | .arr=>0
 | .map=>1
 | .iter=>2
 | .Wb=>0
 | .Ac=>0
 | .RS=>1
 | .QbS=>2
def Kd.ro:Kd->Bool
 | .one=>false
 | .arr=>false
 | .map=>false
 | .iter=>false
 | _=>true
def Kd.toRo:Kd->Kd
 | .one=>.Wb
 | .arr=>.Ac
 | .map=>.RS
 | .iter=>.QbS
 | k=>k
def Kd.toRo_ty(k:Kd):k.toRo.ty=k.ty:=by cases k<;>rfl
def Kd.toRo_ro(k:Kd):k.toRo.ro=true:=by cases k<;>rfl
def RU:Nat->Nat->Value
 | 1,b=>.map (some b)
 | _,b=>.pointer (some ⟨b,0,none⟩)
def MOk(t b:Nat)(v:Value):Prop:=t≠0/\v=RU t b
structure Ob where
 kd:Kd
 gen:Nat
 sz:Nat
 n:Nat
 row:Nat->List D
abbrev Pl:=Option (Nat × Nat)
def Xp(a:List Pl)(b:Nat):Prop:=∀l q:Nat,a[l]?≠some (some (b,q))
def free(Z:Nat->Prop)(a:List Pl)(b:Nat):Prop:=Z b/\Xp a b
variable {Z:Nat->Prop}
inductive Cl (N:Nat->Prop) (w:World):D->Value->Prop
 | raw (v:Value):Cl N w (.raw v) v
 | undef (v:Value):Cl N w .undef v
 | nil (a:Option Addr):Cl N w .nil (.slice a 0 0)
 | imm (sz n:Nat) (row:Nat->List D) (a:Option Addr) (cap b o:Nat) (vs:Nat->Nat->Value)
   (ha:0<n->a=some ⟨b,o,none⟩) (hl:n<=cap) (hs:∀i,i<n->(row i).length=sz)
   (hc:∀i j,i<n->j<sz->N b/\w.cell? ⟨b,o+(i*sz+j),none⟩=some (vs i j))
   (hr:∀i j,i<n->j<sz->Cl N w (nth (row i) j) (vs i j)):Cl N w (.imm sz n row) (.slice a n cap)
 | ip (cells:List D) (b o:Nat) (vs:Nat->Value)
   (hc:∀j,j<cells.length->N b/\w.cell? ⟨b,o+j,none⟩=some (vs j))
   (hr:∀j,j<cells.length->Cl N w (nth cells j) (vs j)):Cl N w (.ip cells) (.pointer (some ⟨b,o,none⟩))
 | clo (f:FuncId) (nf:Nat) (cs:List D) (vs:List Value) (hl:vs.length=cs.length) (hr:∀i,i<cs.length->Cl N w (nth cs i) (Q6 vs i)):Cl N w (.clo f nf cs) (.func (.func f) (vs.take nf).toArray (vs.drop nf).toArray)
 | agg (cs:List D) (vs:List Value) (hl:vs.length=cs.length) (hr:∀i,i<cs.length->Cl N w (nth cs i) (Q6 vs i)):Cl N w (.agg cs) (.agg vs.toArray)
 | tup (cs:List D) (vs:List Value) (hl:vs.length=cs.length) (hr:∀i,i<cs.length->Cl N w (nth cs i) (Q6 vs i)):Cl N w (.tup cs) (.tuple vs.toArray)
def Cl.mono{N N'}{w w'}{d}{v}(h:Cl N w d v)
  (C:∀b,N b->b<w.heap.size->N' b/\w'.heap[b]? = w.heap[b]?):Cl N' w' d v:=by
 have p:∀(b o:Nat) (u:Value),N b/\w.cell? ⟨b,o,none⟩=some u->N' b/\w'.cell? ⟨b,o,none⟩=some u:=by
  rintro b o u ⟨B,l⟩;obtain⟨I,H⟩:=C b B (block_lt_of_cell l);exact⟨I,by rw[World.cell?_of_block (w:=w) (a:=⟨b,o,none⟩) H];exact l⟩
 induction h with
 | raw v=>exact .raw v
 | undef v=>exact .undef v
 | nil a=>exact .nil a
 | imm x n s a t b o c F g z l q e=>exact .imm x n s a t b o c F g z (λi j E r=>p _ _ _ (l i j E r)) e
 | ip k b o c l q e=>exact .ip k b o c (λj r=>p _ _ _ (l j r)) e
 | clo f y m c g q e=>exact .clo f y m c g e
 | agg m c g q e=>exact .agg m c g e
 | tup m c g q e=>exact .tup m c g e
def QbU(w:World)(g:Nat)(p:Pl)(e f:Nat)(a:Option Addr)(d:Nat):Prop:=
 (f=0/\d=0)\/∃b q c el,p=some (b,q)/\a=some ⟨b,q+e*g,none⟩/\w.heap[b]?=some (.cells c el (0,0))/\q+(e+d)*g<=c.size/\f<=d
inductive QD (Z:Nat->Prop) (h:List Ob) (pl:List Pl) (w:World):D->Value->Prop
 | cl (d:D) (v:Value) (hc:Cl (free Z pl) w d v):QD Z h pl w d v
 | ref (l g off len:Nat) (o:Ob) (p:Pl) (a:Option Addr) (cap:Nat) (ho:h[l]?=some o) (hp:pl[l]?=some p) (hk:o.kd.ty=0) (hg:g<=o.gen)
   (hs:g=o.gen->QbU w o.sz p off len a cap):QD Z h pl w (.ref l g off len) (.slice a len cap)
 | ptr (l g i j:Nat) (o:Ob) (p:Pl) (a:Addr) (ho:h[l]?=some o) (hp:pl[l]?=some p) (hk:o.kd.ty=0) (hg:g<=o.gen)
   (hs:g=o.gen->∃b q,p=some (b,q)/\a=⟨b,q+(i*o.sz+j),none⟩):QD Z h pl w (.ptr l g i j) (.pointer (some a))
 | mref (l g:Nat) {v:Value} (o:Ob) (p:Pl) (b:Nat) (ho:h[l]?=some o) (hp:pl[l]?=some p) (hk:MOk o.kd.ty b v) (hg:g<=o.gen)
   (hs:g=o.gen->p=some (b,0)):QD Z h pl w (.mref l g) v
 | clo (f:FuncId) (nf:Nat) (cs:List D) (vs:List Value) (hl:vs.length=cs.length) (hr:∀i,i<cs.length->QD Z h pl w (nth cs i) (Q6 vs i)):QD Z h pl w (.clo f nf cs) (.func (.func f) (vs.take nf).toArray (vs.drop nf).toArray)
 | agg (cs:List D) (vs:List Value) (hl:vs.length=cs.length) (hr:∀i,i<cs.length->QD Z h pl w (nth cs i) (Q6 vs i)):QD Z h pl w (.agg cs) (.agg vs.toArray)
 | tup (cs:List D) (vs:List Value) (hl:vs.length=cs.length) (hr:∀i,i<cs.length->QD Z h pl w (nth cs i) (Q6 vs i)):QD Z h pl w (.tup cs) (.tuple vs.toArray)
structure Tr (h:List Ob) (pl:List Pl) (w:World) (h':List Ob) (Qk:List Pl) (w':World):Prop where
 JU:∀b,Xp pl b->b<w.heap.size->Xp Qk b/\w'.heap[b]? = w.heap[b]?
 obj:∀(l:Nat) (o:Ob) (p:Pl),h[l]?=some o->pl[l]?=some p->∃o' p',h'[l]?=some o'/\Qk[l]?=some p'/\o.gen<=o'.gen/\o'.kd.ty=o.kd.ty/\(o'.gen=o.gen->o'.sz=o.sz/\p'=p)
 shape:∀(l:Nat) (o o':Ob) (b q:Nat),h[l]?=some o->h'[l]?=some o'->o'.gen=o.gen->pl[l]?=some (some (b,q))->∀c el,w.heap[b]?=some (.cells c el (0,0)) ->
  ∃c',w'.heap[b]?=some (.cells c' el (0,0))/\c'.size=c.size
def Tr.QmQ{h}{d}{w:World}{g}{f}{c:World}(T:Tr h d w g f c){b}(a:free Z d b)(e:b<w.heap.size):free Z f b/\c.heap[b]? = w.heap[b]? :=
 ⟨⟨a.1,(T.JU b a.2 e).1⟩,(T.JU b a.2 e).2⟩
def QD.tr{h}{W}{w}{h'}{Qk}{V}(T:Tr h W w h' Qk V){d}{v}(r:QD Z h W w d v):QD Z h' Qk V d v:=by
 induction r with
 | cl d v N=>exact .cl d v (N.mono λb O Qb=>T.QmQ O Qb)
 | ref l g Q R o p a U n m C E B=>
  obtain⟨e,x,t,L,y,K,F⟩:=T.obj l o p n m;refine .ref l g Q R e x a U t L (by rw[K,C]) (JY E y) λBj=>?_;have s:e.gen=o.gen:=ω;obtain⟨I,H⟩:=F s;rcases B ω with h1|⟨b,q,c,el,M,P,O,N,k⟩;exact .inl h1;obtain⟨c',Xd,S⟩:=T.shape l o e b q n t s (by rw[m,M]) c el O;exact .inr ⟨b,q,c',el,by rw[H,M],by rw[I];exact P,Xd,by rw[I,S];exact N,k⟩
 | ptr l g i j o p a n m C E B=>
  obtain⟨e,x,t,L,y,K,F⟩:=T.obj l o p n m;refine .ptr l g i j e x a t L (by rw[K,C]) (JY E y) λBj=>?_;have s:e.gen=o.gen:=ω;obtain⟨I,H⟩:=F s;obtain⟨b,q,M,P⟩:=B ω;exact⟨b,q,by rw[H,M],by rw[I];exact P⟩
 | mref l g o p b n m C E B=>
  obtain⟨e,x,t,L,y,K,F⟩:=T.obj l o p n m;refine .mref l g e x b t L (by rw[K];exact C) (JY E y) λBj=>?_;have s:e.gen=o.gen:=ω;obtain⟨I,H⟩:=F s;rw[H];exact B ω
 | clo f nf J u k Y z=>exact .clo f nf J u k z
 | agg J u k Y z=>exact .agg J u k z
 | tup J u k Y z=>exact .tup J u k z
def NI(Z:Nat->Prop)(h:List Ob)(a:List Pl)(w:World)(o:Ob)(b q:Nat):Prop:=
 ∃c el,w.heap[b]?=some (.cells c el (0,0))/\q+o.n*o.sz<=c.size/\(∀i,i<o.n->(o.row i).length=o.sz) /\
  ∀i j,i<o.n->j<o.sz->∃v,c[q+(i*o.sz+j)]?=some v/\QD Z h a w (nth (o.row i) j) v
def bA(Z:Nat->Prop)(h:List Ob)(d:List Pl)(w:World)(o:Ob)(b q:Nat):Prop:=
 q=0/\o.sz=3/\∃(c:Array MapEntry) (a:Nat),w.heap[b]?=some (.map c a)/\o.n=c.size+1/\(∀i,i<o.n->(o.row i).length=3) /\
  QD Z h d w (nth (o.row 0) 0) (.int .i64 a) /\
  (∀(i:Nat) (e:MapEntry),c[i]?=some e->e.born<a/\QD Z h d w (nth (o.row (i+1)) 0) e.key/\QD Z h d w (nth (o.row (i+1)) 1) e.val/\QD Z h d w (nth (o.row (i+1)) 2) (.int .i64 e.born)) /\
  ∀(i j:Nat) (e f:MapEntry),i<j->c[i]?=some e->c[j]?=some f->e.born<f.born
def m8(Z:Nat->Prop)(h:List Ob)(d:List Pl)(w:World)(o:Ob)(b q:Nat):Prop:=
 q=0/\o.sz=1/\∃(m a c:Nat) (seen:Array Nat),w.heap[b]?=some (.mapIter (some m) a seen c)/\o.n=seen.size+3/\(∀i,i<o.n->(o.row i).length=1) /\
  QD Z h d w (nth (o.row 0) 0) (.map (some m))/\QD Z h d w (nth (o.row 1) 0) (.int .i64 a)/\QD Z h d w (nth (o.row 2) 0) (.int .i64 c) /\
  ∀(i s:Nat),seen[i]?=some s->QD Z h d w (nth (o.row (i+3)) 0) (.int .i64 s)
def Kz(Z:Nat->Prop)(h:List Ob)(a:List Pl)(w:World)(o:Ob)(b q:Nat):Prop:=match o.kd.ty with
 | 0=>NI Z h a w o b q
 | 1=>bA Z h a w o b q
 | _=>m8 Z h a w o b q
def Kz.cells{h}{pl}{w}{o:Ob}{b q}(a:o.kd.ty=0)(x:Kz Z h pl w o b q):NI Z h pl w o b q:=by
 unfold Kz at x;rw[a]at x;exact x
def Kz.map{h}{a}{w}{o:Ob}{b q}(c:o.kd.ty=1)(x:Kz Z h a w o b q):bA Z h a w o b q:=by
 unfold Kz at x;rw[c]at x;exact x
def Kz.iter{h}{a}{w}{o:Ob}{b q}(c:o.kd.ty=2)(x:Kz Z h a w o b q):m8 Z h a w o b q:=by
 unfold Kz at x;rw[c]at x;exact x
def Kz.NJ{h}{a}{w}{o:Ob}{b q}(c:o.kd.ty=0)(x:NI Z h a w o b q):Kz Z h a w o b q:=by
 unfold Kz;rw[c];exact x
def Kz.ofMap{h}{a}{w}{o:Ob}{b q}(c:o.kd.ty=1)(x:bA Z h a w o b q):Kz Z h a w o b q:=by
 unfold Kz;rw[c];exact x
def Kz.QbV{h}{a}{w}{o:Ob}{b q}(c:o.kd.ty=2)(x:m8 Z h a w o b q):Kz Z h a w o b q:=by
 unfold Kz;rw[c];exact x
def Kd.cases(k:Kd):k.ty=0\/k.ty=1\/k.ty=2:=by cases k<;>simp[Kd.ty]
def Kz.lt{h}{d}{w:World}{o}{b q}(x:Kz Z h d w o b q):b<w.heap.size:=by
 rcases o.kd.cases with hk|hk|hk;obtain⟨c,el,a,_⟩:=x.cells hk;exact(WK.1 a).1;obtain⟨_,_,c,el,a,_⟩:=x.map hk;exact(WK.1 a).1;obtain⟨_,_,m,s,l,e,a,_⟩:=x.iter hk;exact(WK.1 a).1
def Kz.len{h}{e}{w}{o:Ob}{b q}(x:Kz Z h e w o b q){i:Nat}(d:i<o.n):(o.row i).length=o.sz:=by
 rcases o.kd.cases with hk|hk|hk;obtain⟨c,el,_,_,a,_⟩:=x.cells hk;exact a i d;obtain⟨_,hz,c,el,_,_,a,_⟩:=x.map hk;rw[a i d,hz];obtain⟨_,hz,m,s,l,f,_,_,a,_⟩:=x.iter hk;rw[a i d,hz]
def Kz.to{E}{h C}{B F}{w n}{o d:Ob}{b q}(x:Kz Z h B w o b q)(K:d.kd.ty=o.kd.ty)(l:d.sz=o.sz)(g:d.n=o.n)
  (L:n.heap[b]? = w.heap[b]?) (J:∀i,i<o.n->(d.row i).length=(o.row i).length)
  (I:∀i j v,i<o.n->j<(o.row i).length->QD Z h B w (nth (o.row i) j) v->QD E C F n (nth (d.row i) j) v):Kz E C F n d b q:=by
 rcases o.kd.cases with hm|hm|hm;obtain⟨c,el,y,u,f,t⟩:=x.cells hm;refine Kz.NJ (by rw[K,hm]) ⟨c,el,by rw[L];exact y,by rw[g,l];exact u,λi a=>?_,λi j a p=>?_⟩;rw[g]at a;rw[J i a,f i a,l];rw[g]at a;rw[l]at p;obtain⟨v,V,Bk⟩:=t i j a p;exact⟨v,by rw[l];exact V,I i j v a (by rw[f i a];exact p) Bk⟩;obtain⟨O,H,Y,ck,y,u,f,t,N,M⟩:=x.map hm;have up:∀i j v,i<o.n->j<3->QD Z h B w (nth (o.row i) j) v->QD E C F n (nth (d.row i) j) v:=λi j v a p r=>I i j v a (by rw[f i a];exact p) r;refine Kz.ofMap (by rw[K,hm]) ⟨O,by rw[l];exact H,Y,ck,by rw[L];exact y,by rw[g];exact u,λi a=>?_,up 0 0 _ ω ω t,λi e Q=>?_,M⟩;rw[g]at a;rw[J i a,f i a];obtain⟨U,T,S,R⟩:=N i e Q;have a:i+1<o.n:=by have:=(WK.1 Q).1;omega
 exact⟨U,up _ 0 _ a ω T,up _ 1 _ a ω S,up _ 2 _ a ω R⟩;obtain⟨O,H,m,k,z,seen,y,u,f,t,N,M,W⟩:=x.iter hm;have up:∀i v,i<o.n->QD Z h B w (nth (o.row i) 0) v->QD E C F n (nth (d.row i) 0) v:=λi v a r=>I i 0 v a (by rw[f i a];omega) r;refine Kz.QbV (by rw[K,hm]) ⟨O,by rw[l];exact H,m,k,z,seen,by rw[L];exact y,by rw[g];exact u,λi a=>?_,up 0 _ ω t,up 1 _ ω N,up 2 _ ω M,λi s P=>?_⟩;rw[g]at a;rw[J i a,f i a];exact up _ _ (by have:=(WK.1 P).1;omega) (W i s P)
structure Zh (Z:Nat->Prop) (base:Nat) (h:List Ob) (pl:List Pl) (w:World):Prop where
 len:pl.length=h.length
 inj:∀(l l':Nat) (b q q':Nat),pl[l]?=some (some (b,q))->pl[l']?=some (some (b,q'))->l=l'
 VU:∀(l:Nat) (o:Ob),h[l]?=some o->pl[l]?=some none->o.n=0
 at_:∀(l:Nat) (o:Ob) (b q:Nat),h[l]?=some o->pl[l]?=some (some (b,q))->(o.kd.ro=false->base<=b)/\Kz Z h pl w o b q
structure St where
 fr:List (Nat × D)
 h:List Ob
def get:List (Nat × D)->Nat->D
 | [],_=>.undef
 | (t,d)::r,u=>bif Nat.beq t u then d else get r u
def put:List (Nat × D)->Nat->D->List (Nat × D)
 | [],u,d=>[(u,d)]
 | (t,e)::r,u,d=>bif Nat.beq t u then (u,d)::r else (t,e)::put r u d
structure Rel (Z:Nat->Prop) (base nt:Nat) (s:St) (pl:List Pl) (a:Act) (w:World):Prop where
 nt:a.tmps.size=nt
 defers:a.defers=[]
 fr:∀t,QD Z s.h pl w (get s.fr t) (a.tmps.getD t Go.undef)
 o:Zh Z base s.h pl w
def Eu(e)(u)(d)(t):get (put e u d) t=if t=u then d else get e t:=by
 induction e with
 | nil=>
  simp only[put,get];by_cases h:u=t;subst h;simp;have b:Nat.beq u t=false:=by rw[<- Ya,Wo];exact h
  rw[b,Qc (Q8 h)];rfl
 | cons x r f=>
  obtain⟨a,i⟩:=x;simp only[put];by_cases c:a=u;subst c;simp only[ND,vL,get];by_cases h:a=t;subst h;simp;have b:Nat.beq a t=false:=by rw[<- Ya,Wo];exact h
  rw[b,Qc (Q8 h)];rfl;have b:Nat.beq a u=false:=by rw[<- Ya,Wo];exact c
  rw[b];simp only[zT,get];by_cases h:a=t;subst h;simp[c];have g:Nat.beq a t=false:=by rw[<- Ya,Wo];exact h
  rw[g];simpa using f
def KA{h:List Ob}{l}{o}(e:h[l]?=some o):l<h.length:=(W3.1 e).1
def Wp{h:List Pl}{l}{o}(e:h[l]?=some o):l<h.length:=(W3.1 e).1
def kr{w:World}{b}{o}(h:w.heap[b]?=some o):b<w.heap.size:=(WK.1 h).1
def Zh.lt{a:Nat}{h:List Ob}{c:List Pl}{w:World}(R:Zh Z a h c w){l b q:Nat}(e:c[l]?=some (some (b,q))):b<w.heap.size/\∀o,h[l]?=some o->o.kd.ro=false->a<=b:=by
 have f:l<h.length:=by have:=Wp e;rw[R.len]at this;exact this
 obtain⟨i,x⟩:=R.at_ l (h[l]) b q (QJ f) e;exact⟨x.lt,λo d g=>by rw[QJ f]at d;cases d;exact i g⟩
def Tr.ext{a}{h}{d}{w i:World}(R:Zh Z a h d w)(e:∀b,b<w.heap.size->i.heap[b]? = w.heap[b]?):Tr h d w h d i where
 JU:=λb g Qb=>⟨g,e b Qb⟩
 obj:=λl o p j f=>⟨o,p,j,f,QB _,rfl,λ_=>⟨rfl,rfl⟩⟩
 shape:=λl o k b q j n m f c el g=>⟨c,by rw[e b (R.lt f).1];exact g,rfl⟩
def Zh.ext{a}{h}{d}{w c:World}(R:Zh Z a h d w)(e:∀b,b<w.heap.size->c.heap[b]? = w.heap[b]?):Zh Z a h d c where
 len:=R.len
 inj:=R.inj
 VU:=R.VU
 at_:=λl o b q k f=>by
  obtain⟨m,x⟩:=R.at_ l o b q k f;exact⟨m,x.to rfl rfl rfl (e b (R.lt f).1) (λ_ _=>rfl) λi j v _ _ g=>g.tr (Tr.ext R e)⟩
def Tr.refl(h)(d)(w):Tr h d w h d w where
 JU:=λb a Qb=>⟨a,rfl⟩
 obj:=λl o p f e=>⟨o,p,f,e,QB _,rfl,λ_=>⟨rfl,rfl⟩⟩
 shape:=λl o g b q f j i e c el a=>⟨c,a,rfl⟩
def Tr.trans{h h' J}{v K N}{w m M}(T:Tr h v w h' K m)(U:Tr h' K m J N M):Tr h v w J N M where
 JU:=λb r Qb=>by
  obtain⟨V,s⟩:=T.JU b r Qb;have S:b<m.heap.size:=by
   rw[jr Qb]at s;exact(WK.1 s).1
  obtain⟨R,Q⟩:=U.JU b V S;exact⟨R,by rw[Q,s]⟩
 obj:=λl o p g f=>by
  obtain⟨a,n,d,j,I,H,t⟩:=T.obj l o p g f;obtain⟨y,x,i,F,E,C,B⟩:=U.obj l a n d j;refine⟨y,x,i,F,JY I E,by rw[C,H],λe=>?_⟩;obtain⟨u,k⟩:=t ω;obtain⟨P,O⟩:=B ω;exact⟨by rw[P,u],by rw[O,k]⟩
 shape:=λl o Y b q g L hg f c el r=>by
  obtain⟨a,n,d,j,I,H,t⟩:=T.obj l o _ g f;obtain⟨y,x,i,F,E,C,B⟩:=U.obj l a n d j;rw[L]at i;cases i;have z:a.gen=o.gen:=ω;obtain⟨u,k⟩:=t z;subst k;obtain⟨W,d1,d2⟩:=T.shape l o a b q g d z f c el r;obtain⟨c2,f1,f2⟩:=U.shape l a Y b q d L ω j W el d1;exact⟨c2,f1,ω⟩
def Rel.ext{c g}{s}{f}{a}{w d:World}(r:Rel Z c g s f a w)(e:∀b,b<w.heap.size->d.heap[b]? = w.heap[b]?):Rel Z c g s f a d:=
 ⟨r.nt,r.defers,λt=>(r.fr t).tr (Tr.ext r.o e),r.o.ext e⟩
def QmS(a:Array Value)(d t)(v:Value)(b:d<a.size):(a.setIfInBounds d v).getD t Go.undef=if t=d then v else a.getD t Go.undef:=by
 simp only[x5,Array.getElem?_setIfInBounds];by_cases h:d=t;subst h;simp[b];rw[Qc h,Qc (Q8 h)]
def Rel.to{b nt}{s:St}{g}{a}{w}(r:Rel Z b nt s g a w){e}{f}{c}(T:Tr s.h g w e f c)(k:Zh Z b e f c)
  {t:Nat} (j:t<nt) {d:D} {v:Value} (i:QD Z e f c d v):Rel Z b nt ⟨put s.fr t d,e⟩ f (a.put (some t) v) c where
 nt:=by simp[Act.put,r.nt]
 defers:=r.defers
 fr:=λu=>by
  simp only[Act.put];rw[Eu,QmS _ _ _ _ (by rw[r.nt];exact j)];by_cases h:u=t;rw[Qd h,Qd h];exact i;rw[Qc h,Qc h];exact(r.fr u).tr T
 o:=k
def Rel.Ad{b g}{s:St}{f}{a}{w}(r:Rel Z b g s f a w){d}{e}{c}(T:Tr s.h f w d e c)(h:Zh Z b d e c)
  (v:Value):Rel Z b g ⟨s.fr,d⟩ e (a.put none v) c:=
 ⟨r.nt,r.defers,λu=>(r.fr u).tr T,h⟩
def RV{a:List Pl}{p:Pl}{b:Nat}(f:Xp a b)(c:∀q,p≠some (b,q)):Xp (a++[p]) b:=λl q e=>by
 by_cases d:l<a.length;rw[JJ d]at e;exact f l q e;rw[Kc ω]at e;have:l-a.length=0:=by
  have:=(W3.1 e).1;simp at this;exact this
 rw[this]at e;simp at e;exact c q e
def Bl{a:Type}{l:List a}{x y:a}{i:Nat}(e:l[i]?=some x):(l++[y])[i]?=some x:=by
 rw[JJ (W3.1 e).1];exact e
def Yd{a:Type}{l:List a}{x y}{i}(e:(l++[y])[i]?=some x):l[i]?=some x\/(i=l.length/\x=y):=by
 by_cases b:i<l.length;rw[JJ b]at e;exact .inl e;rw[Kc ω]at e;have d:=(W3.1 e).1;simp at d;have c:i=l.length:=ω;subst c;simp at e;exact .inr ⟨rfl,e.symm⟩
def wW(w:World)(o:Obj)(b)(h:b<w.heap.size):(w.alloc o).heap[b]? = w.heap[b]? := Below.heap_alloc w o b h
def Tr.push{d:Nat}{h:List Ob}{f:List Pl}{w i:World}(R:Zh Z d h f w)(e:∀b,b<w.heap.size->i.heap[b]? = w.heap[b]?)(k:Ob)(p:Pl)(a:∀b q,p=some (b,q)->w.heap.size<=b):Tr h f w (h++[k]) (f++[p]) i where
 JU:=λb g Qb=>⟨RV g λq m=>by have:=a b q m;omega,e b Qb⟩
 obj:=λl o p j a=>⟨o,p,Bl j,Bl a,QB _,rfl,λ_=>⟨rfl,rfl⟩⟩
 shape:=λl o n b q j s r a c el g=>⟨c,by rw[e b (R.lt a).1];exact g,rfl⟩
def Zh.RW{d}{h}{k}{w p:World}(R:Zh Z d h k w)(e:∀b,b<w.heap.size->p.heap[b]? = w.heap[b]?)(m){f r}(I:w.heap.size<=f)(H:d<=f)
  (z:Kz Z (h++[m]) (k++[some (f,r)]) p m f r):Zh Z d (h++[m]) (k++[some (f,r)]) p:=by
 have T:Tr h k w (h++[m]) (k++[some (f,r)]) p:=Tr.push R e m _ (by intro b q e;simp at e;omega);refine⟨by simp[R.len],?_,?_,?_⟩;intro l y b q u t E;rcases Yd t with c|⟨c,g⟩<;>rcases Yd E with a|⟨a,n⟩;exact R.inj l y b q u c a;have:=(R.lt c).1;simp at n;omega;have:=(R.lt a).1;simp at g;omega;omega;intro l o s t;rcases Yd t with c|⟨c,g⟩;rcases Yd s with a|⟨a,n⟩;exact R.VU l o a c;have:=Wp c;have:=R.len;omega;simp at g;intro l o b q s F;rcases Yd F with c|⟨c,g⟩;rcases Yd s with a|⟨a,n⟩;obtain⟨C,x⟩:=R.at_ l o b q a c;exact⟨C,x.to rfl rfl rfl (e b (R.lt c).1) (λ_ _=>rfl) λi j v _ _ B=>B.tr T⟩;have:=Wp c;have:=R.len;omega;rcases Yd s with a|⟨a,n⟩;have:=KA a;have:=R.len;omega;subst n;simp at g;obtain⟨rfl,rfl⟩:=g;exact⟨λ_=>H,z⟩
def Zh.push{d}{h}{l}{w g:World}(R:Zh Z d h l w)(e:∀b,b<w.heap.size->g.heap[b]? = w.heap[b]?)(a:Ob)(o:a.kd.ty=0){f k}(n:w.heap.size<=f)(r:d<=f)
  {c:Array Value} {m:TypeId} (p:g.heap[f]?=some (.cells c m (0,0))) (s:k+a.n*a.sz<=c.size) (t:∀i,i<a.n->(a.row i).length=a.sz)
  (q:∀i j,i<a.n->j<a.sz->∃v,c[k+(i*a.sz+j)]?=some v/\QD Z (h++[a]) (l++[some (f,k)]) g (nth (a.row i) j) v):Zh Z d (h++[a]) (l++[some (f,k)]) g:=
 R.RW e a n r (.NJ o ⟨c,m,p,s,t,q⟩)
def Zh.jw{d}{h}{f}{w}(R:Zh Z d h f w)(g:Ob)(u:g.n=0):Zh Z d (h++[g]) (f++[none]) w:=by
 have T:Tr h f w (h++[g]) (f++[none]) w:=Tr.push R (λ_ _=>rfl) g _ (by intro b q e;simp at e);refine⟨by simp[R.len],?_,?_,?_⟩;intro l s b q r p z;rcases Yd p with c|⟨c,m⟩;rcases Yd z with a|⟨a,k⟩;exact R.inj l s b q r c a;simp at k;simp at m;intro l o n p;rcases Yd n with a|⟨a,k⟩;rcases Yd p with c|⟨c,m⟩;exact R.VU l o a c;have:=KA a;have:=R.len;omega;subst k;exact u;intro l o b q n B;rcases Yd B with c|⟨c,m⟩;rcases Yd n with a|⟨a,k⟩;obtain⟨y,x⟩:=R.at_ l o b q a c;exact⟨y,x.to rfl rfl rfl rfl (λ_ _=>rfl) λi j v _ _ t=>t.tr T⟩;have:=Wp c;have:=R.len;omega;simp at m
def Tr.Q3{d:Nat}{h:List Ob}{f:List Pl}{w w':World}(R:Zh Z d h f w){l:Nat}{o o':Ob}{b q:Nat}(r:h[l]?=some o)(x:f[l]?=some (some (b,q)))(y:o'.kd.ty=o.kd.ty)(E:o'.gen=o.gen)(v:o'.sz=o.sz)
  (e:∀k,k≠b->k<w.heap.size->w'.heap[k]? = w.heap[k]?) (z:∀c el,w.heap[b]?=some (.cells c el (0,0))->∃t,w'.heap[b]?=some (.cells t el (0,0))/\t.size=c.size):Tr h f w (h.set l o') f w' where
 JU:=λk s Qb=>⟨s,e k (λg=>s l q (by rw[g];exact x)) Qb⟩
 obj:=λn m p i j=>by
  by_cases a:l=n;subst a;rw[r]at i;cases i;exact⟨o',p,by simp[KA r],j,ω,y,λ_=>⟨v,rfl⟩⟩;exact⟨m,p,by rw[JG a];exact i,j,QB _,rfl,λ_=>⟨rfl,rfl⟩⟩
 shape:=λn m C u B i F H j c el g=>by
  by_cases a:u=b;subst a;exact z c el g;exact⟨c,by rw[e u a (R.lt j).1];exact g,rfl⟩
def Zh.QmT{c:Nat}{h:List Ob}{g:List Pl}{w p:World}(R:Zh Z c h g w){l:Nat}{o d:Ob}{b q:Nat}(z:h[l]?=some o)(r:g[l]?=some (some (b,q)))
  (T:Tr h g w (h.set l d) g p) (e:∀k,k≠b->k<w.heap.size->p.heap[k]? = w.heap[k]?) (C:Kz Z (h.set l d) g p d b q) (hro:d.kd.ro=o.kd.ro):Zh Z c (h.set l d) g p:=by
 refine⟨by simp[R.len],R.inj,?_,?_⟩;intro m s f a;by_cases n:l=m;subst n;rw[r]at a;cases a;rw[JG n]at f;exact R.VU m s f a;intro m s u y f a;by_cases n:l=m;subst n;rw[r]at a;cases a;have:(h.set l d)[l]?=some d:=by simp[KA z]
 rw[this]at f;cases f;exact⟨λt=>(R.lt r).2 o z (by rw[<- hro,t]),C⟩;rw[JG n]at f;obtain⟨E,x⟩:=R.at_ m s u y f a;have F:u≠b:=λB=>n (R.inj l m b q y r (by rw[<- B];exact a));exact⟨E,x.to rfl rfl rfl (e u F (R.lt a).1) (λ_ _=>rfl) λi j v _ _ t=>t.tr T⟩
def Zh.Q3{a:Nat}{h:List Ob}{d:List Pl}{w w':World}(R:Zh Z a h d w){l:Nat}{o o':Ob}{b q:Nat}(m:h[l]?=some o)(g:d[l]?=some (some (b,q)))(u:o.kd.ty=0)(s:o'.kd.ty=0)(x:o'.gen=o.gen)(t:o'.sz=o.sz)
  (e:∀k,k≠b->k<w.heap.size->w'.heap[k]? = w.heap[k]?) {r c:Array Value} {f:TypeId} (z:w.heap[b]?=some (.cells r f (0,0))) (n:w'.heap[b]?=some (.cells c f (0,0))) (y:c.size=r.size)
  (C:q+o'.n*o'.sz<=c.size) (E:∀i,i<o'.n->(o'.row i).length=o'.sz)
  (B:∀i j,i<o'.n->j<o'.sz->∃v,c[q+(i*o'.sz+j)]?=some v/\QD Z (h.set l o') d w' (nth (o'.row i) j) v) (hro:o'.kd.ro=o.kd.ro):Zh Z a (h.set l o') d w':=
 R.QmT (hro:=hro) m g (Tr.Q3 R m g (by rw[u,s]) x t e (λH F p=>by rw[z]at p;cases p;exact⟨c,n,y⟩)) e (.NJ s ⟨c,f,n,C,E,B⟩)
variable {Z:Nat->Prop}
inductive TK where
 | int (k:IntKind)|bool|str|slice (e:TypeId)|array (n:Nat) (e:TypeId)|struct (fs:List (Nat × TypeId))|ptr (e:TypeId)|map (k e:TypeId)|fn|iface|other
def TK.of:TypeDesc->TK
 | .int k=>.int k
 | .bool=>.bool
 | .string=>.str
 | .slice e=>.slice e
 | .array n e=>.array n e
 | .struct a=>.struct (a.toList.map λf=>(f.offset,f.type))
 | .pointer e=>.ptr e
 | .map k e=>.map k e
 | .func _ _ _=>.fn
 | .interface _=>.iface
 | _=>.other
structure Ty where
 k:TK
 size:Nat
 bytes:Nat
 zero:List Value
def TK.agg:TK->Bool
 | .struct _ | .array _ _=>true
 | _=>false
def bC:Value->Bool
 | .agg _=>true
 | _=>false
structure W6 (P:Program) (t:TypeId) (y:Ty):Prop where
 k:(P.underlying t).map TK.of=some y.k
 info:(P.info? t).map (λi=>(i.size,i.bytes,i.zero.map λz=>z.cells.toList))=some (y.size,y.bytes,some y.zero)
 zag:((P.info? t).bind (·.zero)).map bC=some y.k.agg
abbrev Jf:=List (TypeId × Ty)
def ty:Jf->TypeId->Option Ty
 | [],_=>none
 | (u,y)::r,t=>bif Nat.beq u t then some y else ty r t
def Z8(P:Program)(L:Jf):Prop:=∀t y,ty L t=some y->W6 P t y
def Z8.nil(P):Z8 P []:=λ_ _ h=>by simp[ty]at h
def Z8.cons{P}{L}{t:TypeId}{y}(h:W6 P t y)(r:Z8 P L):Z8 P ((t,y)::L):=λu z e=>by
 simp only[ty]at e;by_cases a:t=u;subst a;simp at e;subst e;exact h;have:Nat.beq t u=false:=by rw[<- Ya,Wo];exact a
 rw[this]at e;exact r u z e
section
variable {P:Program}{t:TypeId}{y:Ty}(h:W6 P t y)
include h
theorem W6.under:∃d,P.underlying t=some d/\TK.of d=y.k:=by
 have:=h.k;cases a:P.underlying t with
 | none=>rw[a]at this;cases this
 | some d=>rw[a]at this;exact⟨d,rfl,by simpa using this⟩
theorem W6.sizeOf(w):(Go.sizeOf t).run P w=.ok y.size w:=by
 have:=h.info;cases a:P.info? t with
 | none=>rw[a]at this;cases this
 | some i=>
  rw[a]at this;simp at this;simp[Go.sizeOf,typeInfo,a,this.1]
theorem W6.typeInfo(w):∃i,(Go.typeInfo t).run P w=.ok i w/\i.size=y.size/\i.bytes=y.bytes:=by
 have:=h.info;cases a:P.info? t with
 | none=>rw[a]at this;cases this
 | some i=>
  rw[a]at this;simp at this;exact⟨i,by simp[Go.typeInfo,a],this.1,this.2.1⟩
theorem W6.zeroValue:∃z,z.cells.toList=y.zero/\∀w,(Go.zeroValue t).run P w=.ok z w:=by
 have:=h.info;cases a:P.info? t with
 | none=>rw[a]at this;cases this
 | some i=>
  rw[a]at this;simp at this;obtain⟨_,_,z,hz,b⟩:=this;exact⟨z,b,λw=>by simp[Go.zeroValue,Go.typeInfo,a,hz]⟩
theorem W6.isAgg(w):(Go.isAgg t).run P w=.ok y.k.agg w:=by
 obtain⟨d,b,a⟩:=h.under;rw[<- a];cases d<;>simp[Go.isAgg,run_underlying b,TK.of,TK.agg]
end
def TK.of_slice{d:TypeDesc}{e:TypeId}(h:TK.of d=.slice e):d=.slice e:=by cases d<;>simp[TK.of]at h;rw[h]
def TK.of_array{d:TypeDesc}{n}{e:TypeId}(h:TK.of d=.array n e):d=.array n e:=by cases d<;>simp[TK.of]at h;rw[h.1,h.2]
def TK.of_struct{d:TypeDesc}{a:List (Nat × TypeId)}(h:TK.of d=.struct a):∃g,d=.struct g/\g.toList.map (λf=>(f.offset,f.type))=a:=by cases d<;>simp[TK.of]at h;exact⟨_,rfl,by simpa using h⟩
def TK.of_int{d:TypeDesc}{k}(h:TK.of d=.int k):d=.int k:=by cases d<;>simp[TK.of]at h;rw[h]
def TK.of_bool{d:TypeDesc}(h:TK.of d=.bool):d=.bool:=by cases d<;>simp[TK.of]at h;rfl
def TK.QmV{d:TypeDesc}(h:TK.of d=.str):d=.string:=by cases d<;>simp[TK.of]at h;rfl
def TK.QmW{d:TypeDesc}{e:TypeId}(h:TK.of d=.ptr e):d=.pointer e:=by cases d<;>simp[TK.of]at h;rw[h]
def TK.of_map{d:TypeDesc}{k e:TypeId}(h:TK.of d=.map k e):d=.map k e:=by cases d<;>simp[TK.of]at h;rw[h.1,h.2]
def x7{P:Program}{t e:TypeId}{y:Ty}(h:W6 P t y)(b:y.k=.slice e):P.underlying t=some (.slice e):=by
 obtain⟨d,c,a⟩:=h.under;rw[b]at a;rw[c,TK.of_slice a]
def ni{P:Program}{t e:TypeId}{n}{y:Ty}(h:W6 P t y)(b:y.k=.array n e):P.underlying t=some (.array n e):=by
 obtain⟨d,c,a⟩:=h.under;rw[b]at a;rw[c,TK.of_array a]
def QbW{P:Program}{t:TypeId}{b:List (Nat × TypeId)}{y:Ty}(h:W6 P t y)(e:y.k=.struct b):∃g,P.underlying t=some (.struct g)/\g.toList.map (λf=>(f.offset,f.type))=b:=by
 obtain⟨d,j,a⟩:=h.under;rw[e]at a;obtain⟨g,i,c⟩:=TK.of_struct a;exact⟨g,by rw[j,i],c⟩
def CP{P:Program}{t:TypeId}{k}{y:Ty}(h:W6 P t y)(b:y.k=.int k):P.underlying t=some (.int k):=by
 obtain⟨d,c,a⟩:=h.under;rw[b]at a;rw[c,TK.of_int a]
def QmX{P:Program}{t:TypeId}{y:Ty}(h:W6 P t y)(b:y.k=.bool):P.underlying t=some .bool:=by
 obtain⟨d,c,a⟩:=h.under;rw[b]at a;rw[c,TK.of_bool a]
def RX{P:Program}{t:TypeId}{y:Ty}(h:W6 P t y)(b:y.k=.str):P.underlying t=some .string:=by
 obtain⟨d,c,a⟩:=h.under;rw[b]at a;rw[c,TK.QmV a]
def QmY{P:Program}{t e:TypeId}{y:Ty}(h:W6 P t y)(b:y.k=.ptr e):P.underlying t=some (.pointer e):=by
 obtain⟨d,c,a⟩:=h.under;rw[b]at a;rw[c,TK.QmW a]
def Ew{P:Program}{t k e:TypeId}{y:Ty}(h:W6 P t y)(b:y.k=.map k e):P.underlying t=some (.map k e):=by
 obtain⟨d,c,a⟩:=h.under;rw[b]at a;rw[c,TK.of_map a]
def J2:Value->D
 | .slice none 0 0=>.nil
 | v=>.raw v
def Yy:Value->D
 | .agg a=>.agg (a.toList.map J2)
 | v=>J2 v
def Qs(a:List (Nat × D)):Operand->D
 | .tmp t=>get a t
 | .const v=>Yy v
 | .global _=>.undef
 | .func f=>.raw (.func (.func f) #[] #[])
def CQ(N)(w)(v):Cl N w (J2 v) v:=by
 unfold J2;split;exact .nil none;exact .raw _
def QmZ(N)(w)(v):Cl N w (Yy v) v:=by
 unfold Yy;split;rename_i a;have:=Cl.agg (N:=N) (w:=w) (a.toList.map J2) a.toList σ (λi b=>by
  have c:i<a.size:=by simpa using b
  simp only[nth,Q6,QW,KL];rw[QJ (by simpa using c)];exact CQ N w _)
 simpa using this;exact CQ N w _
def Rel.eval{b d}{s:St}{c}{a:Act}{w}(r:Rel Z b d s c a w)(x):QD Z s.h c w (Qs s.fr x) (a.eval x):=by
 cases x with
 | tmp t=>exact r.fr t
 | const v=>exact .cl _ _ (QmZ _ _ v)
 | global g=>exact .cl _ _ (.undef _)
 | func f=>exact .cl _ _ (.raw _)
section
variable {h:List Ob}{pl:List Pl}{w:World}{v:Value}
def Ju{u}(r:QD Z h pl w (.raw u) v):v=u:=by
 cases r with|cl _ _ a=>cases a;rfl
def Ae(r:QD Z h pl w .nil v):∃a,v=.slice a 0 0:=by
 cases r with|cl _ _ b=>cases b;exact⟨_,rfl⟩
def Ex{l g d c}(r:QD Z h pl w (.ref l g d c) v):∃o p a b,v=.slice a c b/\h[l]?=some o/\pl[l]?=some p/\o.kd.ty=0/\g<=o.gen/\(g=o.gen->QbU w o.sz p d c a b):=by
 cases r with
 | cl _ _ m=>cases m
 | ref _ _ _ _ o p a b i f j k e=>exact⟨o,p,a,b,rfl,i,f,j,k,e⟩
def Ey{l g i j}(r:QD Z h pl w (.ptr l g i j) v):∃o p a,v=.pointer (some a)/\h[l]?=some o/\pl[l]?=some p/\o.kd.ty=0/\g<=o.gen/\(g=o.gen->∃b q,p=some (b,q)/\a=⟨b,q+(i*o.sz+j),none⟩):=by
 cases r with
 | cl _ _ m=>cases m
 | ptr _ _ _ _ o p a e d f k c=>exact⟨o,p,a,rfl,e,d,f,k,c⟩
def Gz{l g}(r:QD Z h pl w (.mref l g) v):∃o p b,h[l]?=some o/\pl[l]?=some p/\MOk o.kd.ty b v/\g<=o.gen/\(g=o.gen->p=some (b,0)):=by
 cases r with
 | cl _ _ i=>cases i
 | mref _ _ o p b d c e f a=>exact⟨o,p,b,d,c,e,f,a⟩
def ID{b:List D}(r:QD Z h pl w (.agg b) v):∃a:List Value,v=.agg a.toArray/\a.length=b.length/\∀i,i<b.length->QD Z h pl w (nth b i) (Q6 a i):=by
 cases r with
 | cl _ _ f=>cases f with|agg _ a d c=>exact⟨a,rfl,d,λi e=>.cl _ _ (c i e)⟩
 | agg _ a d c=>exact⟨a,rfl,d,c⟩
def Qm0{b:List D}(r:QD Z h pl w (.tup b) v):∃a:List Value,v=.tuple a.toArray/\a.length=b.length/\∀i,i<b.length->QD Z h pl w (nth b i) (Q6 a i):=by
 cases r with
 | cl _ _ f=>cases f with|tup _ a d c=>exact⟨a,rfl,d,λi e=>.cl _ _ (c i e)⟩
 | tup _ a d c=>exact⟨a,rfl,d,c⟩
def nj{f}{c:Nat}{b:List D}(r:QD Z h pl w (.clo f c b) v):∃a:List Value,v=.func (.func f) (a.take c).toArray (a.drop c).toArray/\a.length=b.length/\∀i,i<b.length->QD Z h pl w (nth b i) (Q6 a i):=by
 cases r with
 | cl _ _ j=>cases j with|clo _ _ _ a e d=>exact⟨a,rfl,e,λi g=>.cl _ _ (d i g)⟩
 | clo _ _ _ a e d=>exact⟨a,rfl,e,d⟩
def IE{d:List D}(r:QD Z h pl w (.ip d) v):∃b o,∃a:Nat->Value,v=.pointer (some ⟨b,o,none⟩)/\∀j,j<d.length->(free Z pl b/\w.cell? ⟨b,o+j,none⟩=some (a j))/\Cl (free Z pl) w (nth d j) (a j):=by
 cases r with
 | cl _ _ c=>cases c with|ip _ b o a c f=>exact⟨b,o,a,rfl,λj e=>⟨c j e,f j e⟩⟩
def RY{f n}{d}(r:QD Z h pl w (.imm f n d) v):∃a c b o,∃e:Nat->Nat->Value,v=.slice a n c/\(0<n->a=some ⟨b,o,none⟩)/\n<=c/\(∀i,i<n->(d i).length=f) /\
  ∀i j,i<n->j<f->(free Z pl b/\w.cell? ⟨b,o+(i*f+j),none⟩=some (e i j))/\Cl (free Z pl) w (nth (d i) j) (e i j):=by
 cases r with
 | cl _ _ g=>cases g with|imm _ _ _ a c b o e s q m g p=>exact⟨a,c,b,o,e,rfl,s,q,m,λi j l k=>⟨g i j l k,p i j l k⟩⟩
end
def Ww(P:Program)(c g:Nat)(o:Oper)(s:St)(d:D):Prop:=
 ∀(Z:Nat->Prop) f a w,Rel Z c g s f a w->∃v,QD Z s.h f w d v/\∀e:World,(∀b,b<w.heap.size->e.heap[b]? = w.heap[b]?)->(execOp a.eval o).run P e=.ok (.value v) e
def Qm1{w c:World}(e:∀b,b<w.heap.size->c.heap[b]? = w.heap[b]?){a}{v}(h:w.cell? a=some v):c.cell? a=some v:=by
 rw[World.cell?_of_block (w:=w) (e a.block (block_lt_of_cell h))];exact h
def jx(w b:World):Prop:=∀(a:Addr) (v:Value),w.cell? a=some v->b.cell? a=some v
def jx.trans{a b c}(h:jx a b)(k:jx b c):jx a c:=λx v hx=>k x v (h x v hx)
def jx.ext{w a:World}(e:∀b,b<w.heap.size->a.heap[b]? = w.heap[b]?):jx w a:=λ_ _ h=>Qm1 e h
def bD(P:Program)(b f:Nat)(o:Oper)(s:St)(d:D):Prop:=
 ∀(Z:Nat->Prop) e a w,Rel Z b f s e a w->∃v,QD Z s.h e w d v/\∀c:World,jx w c->(execOp a.eval o).run P c=.ok (.value v) c
def bD.up{P}{b c}{o}{s}{d}(h:bD P b c o s d):Ww P b c o s d:=λZ g a w r=>by
 obtain⟨v,j,i⟩:=h Z g a w r;exact⟨v,j,λf e=>i f (.ext e)⟩
abbrev Ev:=Option (Prop × D)
def bE(c:BinOp)(k:IntKind)(a b:Int):Ev:=
 match c with
 | .add=>some (True,.raw (.int k (k.wrap (a+b))))
 | .sub=>some (True,.raw (.int k (k.wrap (a-b))))
 | .mul=>some (True,.raw (.int k (k.wrap (a*b))))
 | .quo=>some (b≠0,.raw (.int k (k.wrap (a.tdiv b))))
 | .rem=>some (b≠0,.raw (.int k (a.tmod b)))
 | .and=>some (True,.raw (.int k (bits .and k a b)))
 | .or=>some (True,.raw (.int k (bits .or k a b)))
 | .xor=>some (True,.raw (.int k (bits .xor k a b)))
 | .andNot=>some (True,.raw (.int k (bits .andNot k a b)))
 | .eql=>some (True,.raw (.bool (a==b)))
 | .neq=>some (True,.raw (.bool (a != b)))
 | .lss=>some (True,.raw (.bool (decide (a<b))))
 | .leq=>some (True,.raw (.bool (decide (a<=b))))
 | .gtr=>some (True,.raw (.bool (decide (b<a))))
 | .geq=>some (True,.raw (.bool (decide (b<=a))))
 | _=>none
def bF(c:BinOp)(k:IntKind)(a b:Int):Ev:=
 match c with
 | .shl=>some (0<=b,.raw (.int k (k.wrap (a*2^(min b.toNat k.bits)))))
 | .shr=>some (0<=b,.raw (.int k (a.fdiv (2^(min b.toNat k.bits)))))
 | _=>none
def IntKind.same:IntKind->IntKind->Bool
 | .i8,.i8 | .i16,.i16 | .i32,.i32 | .i64,.i64 | .u8,.u8 | .u16,.u16 | .u32,.u32 | .u64,.u64=>true
 | _,_=>false
def IntKind.ns{k a}(h:IntKind.same k a=true):k=a:=by cases k<;>cases a<;>first|rfl|cases h
def nu:BinOp->Bool
 | .shl | .shr=>true
 | _=>false
def bG(c:BinOp)(a b:Bool):Ev:=
 match c with
 | .eql=>some (True,.raw (.bool (a==b)))
 | .neq=>some (True,.raw (.bool (a != b)))
 | _=>none
def bH(c:BinOp)(a b:ByteArray):Ev:=
 match c with
 | .add=>some (a.size+b.size<=9223372036854775807,.raw (.string (a++b)))
 | .eql=>some (True,.raw (.bool (a.toList==b.toList)))
 | .neq=>some (True,.raw (.bool (!(a.toList==b.toList))))
 | .lss=>some (True,.raw (.bool (Op.bytesLess a.toList b.toList)))
 | _=>none
def GA(b:BinOp)(a:Bool):Ev:=
 match b with
 | .eql=>some (True,.raw (.bool a))
 | .neq=>some (True,.raw (.bool (!a)))
 | _=>none
def GB(L:Jf)(t:TypeId):Bool:=match ty L t with|some ⟨.ptr _,_,_,_⟩=>true|_=>false
def bI(L:Jf)(t:TypeId):Bool:=match ty L t with|some ⟨.bool,_,_,_⟩=>true|_=>false
def bJ(L:Jf)(c:BinOp)(t:TypeId):D->D->Ev
 | .raw (.int k a),.raw (.int d b)=>bif nu c then bF c k a b else bif IntKind.same k d then bE c k a b else none
 | .raw (.bool a),.raw (.bool b)=>bif bI L t then bG c a b else none
 | .raw (.string a),.raw (.string b)=>bH c a b
 | .raw (.pointer none),.raw (.pointer none)=>bif GB L t then GA c true else none
 | .ptr _ _ _ _,.raw (.pointer none)=>bif GB L t then GA c false else none
 | .ip _,.raw (.pointer none)=>bif GB L t then GA c false else none
 | .raw (.pointer none),.ptr _ _ _ _=>bif GB L t then GA c false else none
 | .raw (.pointer none),.ip _=>bif GB L t then GA c false else none
 | _,_=>none
def Qm2(P)(w){s:Sem Value}{v}(h:s.run P w=.ok v w):(do pure (Next.value (<- s)):Sem Next).run P w=.ok (.value v) w:=by
 simp[h]
def Qm3{P}{c}{k}{a b}{p}{d}(t)(h:bE c k a b=some (p,d))(e:p):∃v,d=.raw v/\∀w,(Go.binOp c t (.int k a) (.int k b)).run P w=.ok v w:=by
 cases c<;>simp only[bE,Q5,Q9,reduceCtorEq]at h<;>obtain⟨rfl,rfl⟩:=h<;>refine⟨_,rfl,λw=>?_⟩ <;>
  simp_all[Go.binOp,Op.intArith,Op.intDiv,Op.intBits,Op.intCmp,bits]
def Qm4{P}{c}{k e}{a b}{p}{d}(t)(h:bF c k a b=some (p,d))(f:p):∃v,d=.raw v/\∀w,(Go.binOp c t (.int k a) (.int e b)).run P w=.ok v w:=by
 cases c<;>simp only[bF,Q5,Q9,reduceCtorEq]at h<;>obtain⟨rfl,rfl⟩:=h<;>refine⟨_,rfl,λw=>?_⟩ <;>
  (have:¬ b<0:=ω
   simp[Go.binOp,Op.shift,this])
def Qm5{P}{c}{a b}{p}{d}(t)(h:bH c a b=some (p,d))(e:p):∃v,d=.raw v/\∀w,(Go.binOp c t (.string a) (.string b)).run P w=.ok v w:=by
 cases c<;>simp only[bH,Q5,Q9,reduceCtorEq]at h<;>obtain⟨rfl,rfl⟩:=h<;>refine⟨_,rfl,λw=>?_⟩ <;>
  simp[Go.binOp,Op.stringOp]
 omega
def Qm6{P:Program}{t e:TypeId}(a:P.underlying t=some (.pointer e))(n){x y:Option Addr}(b:x=none\/y=none)(w):(Op.equalIn (n+1) t (.pointer x) (.pointer y)).run P w=.ok (x.isNone&&y.isNone) w:=by
 rcases b with rfl|rfl;simp[Op.equalIn,run_underlying a];cases x<;>simp[Op.equalIn,run_underlying a]
def nw{P}{t:TypeId}{x y:Value}{b}{w}(a:∀n,(Op.equalIn (n+1) t x y).run P w=.ok b w):(Op.equal t x y).run P w=.ok b w:=a 9999
def Qm7{P:Program}{c}{a b}{p}{d}(t)(f:P.underlying t=some .bool)(h:bG c a b=some (p,d)):∃v,d=.raw v/\∀w,(Go.binOp c t (.bool a) (.bool b)).run P w=.ok v w:=by
 have e:∀w,(Op.equal t (.bool a) (.bool b)).run P w=.ok (a==b) w:=λw=>nw λn=>run_equalIn_bool' w n t a b f;cases c<;>simp only[bG,Q5,Q9,reduceCtorEq]at h<;>obtain⟨rfl,rfl⟩:=h<;>refine⟨_,rfl,λw=>?_⟩<;>simp only[Go.binOp];simp[e];simp[e,bne]
def RZ{P:Program}{a}{x y:Option Addr}(c:x=none\/y=none){p}{d}{t e:TypeId}(f:P.underlying t=some (.pointer e))(h:GA a (x.isNone&&y.isNone)=some (p,d)):∃v,d=.raw v/\∀w,(Go.binOp a t (.pointer x) (.pointer y)).run P w=.ok v w:=by
 have b:∀w,(Op.equal t (.pointer x) (.pointer y)).run P w=.ok (x.isNone&&y.isNone) w:=λw=>nw λn=>Qm6 f n c w;cases a<;>simp only[GA,Q5,Q9,reduceCtorEq]at h<;>obtain⟨rfl,rfl⟩:=h<;>refine⟨_,rfl,λw=>?_⟩<;>simp only[Go.binOp];simp[b];simp[b]
def R0{P:Program}{L}(b:Z8 P L){t:TypeId}(h:GB L t=true):∃e,P.underlying t=some (.pointer e):=by
 unfold GB at h;split at h;rename_i e _ _ _ a;exact⟨e,QmY (b _ _ a) rfl⟩;cases h
def Qm8{P:Program}{L}(b:Z8 P L){t:TypeId}(h:bI L t=true):P.underlying t=some .bool:=by
 unfold bI at h;split at h;rename_i a;exact QmX (b _ _ a) rfl;cases h
def jy{a:Type}{c:Bool}{x:Option a}{y:a}(h:(bif c then x else none)=some y):c=true/\x=some y:=by cases c<;>simp at h;exact⟨rfl,h⟩
def Qm9{P}{L}(q:Z8 P L){z M}{s}{o:Oper}{f}{t J:TypeId}{x y}(N:o.op=.binOp f t x y J){p}{d}
  (h:bJ L f t (Qs s.fr x) (Qs s.fr y)=some (p,d)) (E:p):Ww P z M o s d:=by
 intro Z K a w r;have hx:=r.eval x;have n:=r.eval y;generalize Qs s.fr x=W at *;generalize Qs s.fr y=V at *;have c:∀(C B:Value),a.eval x=C->a.eval y=B->(∀w,(eqGuard f t x y C B).run P w=.ok () w)->(∃v,d=.raw v/\∀w,(Go.binOp f t C B).run P w=.ok v w) ->
   ∃v,QD Z s.h K w d v/\∀u:World,(∀b,b<w.heap.size->u.heap[b]? = w.heap[b]?)->(execOp a.eval o).run P u=.ok (.value v) u:=by
  intro C B H F Q ⟨v,R,l⟩;refine⟨v,R▸.cl _ _ (.raw v),λu _=>?_⟩;simp only[execOp,N,H,F];refine Qm2 P u ?_;simp[Q,l]
 unfold bJ at h;split at h;rename_i k i U j;have H:=Ju hx;have F:=Ju n;refine c _ _ H F (λw=>by cases f<;>simp[eqGuard]) ?_;cases I:nu f;rw[I]at h;simp only[zT]at h;obtain⟨O,S⟩:=jy h;have:=IntKind.ns O;subst this;exact Qm3 t S E;rw[I]at h;exact Qm4 t h E;obtain⟨g,h⟩:=jy h;exact c _ _ (Ju hx) (Ju n) (λw=>by cases f<;>simp[eqGuard]) (Qm7 t (Qm8 q g) h);exact c _ _ (Ju hx) (Ju n) (λw=>by cases f<;>simp[eqGuard]) (Qm5 t h E);obtain⟨g,h⟩:=jy h;obtain⟨e,m⟩:=R0 q g;exact c _ _ (Ju hx) (Ju n) (λw=>by cases f<;>simp[eqGuard]) (RZ (.inl rfl) m h);obtain⟨g,h⟩:=jy h;obtain⟨e,m⟩:=R0 q g;obtain⟨_,_,T,l,_⟩:=Ey hx;exact c _ _ l (Ju n) (λw=>by cases f<;>simp[eqGuard]) (RZ (.inr rfl) m h);obtain⟨g,h⟩:=jy h;obtain⟨e,m⟩:=R0 q g;obtain⟨_,_,_,l,_⟩:=IE hx;exact c _ _ l (Ju n) (λw=>by cases f<;>simp[eqGuard]) (RZ (.inr rfl) m h);obtain⟨g,h⟩:=jy h;obtain⟨e,m⟩:=R0 q g;obtain⟨_,_,T,l,_⟩:=Ey n;exact c _ _ (Ju hx) l (λw=>by cases f<;>simp[eqGuard]) (RZ (.inl rfl) m h);obtain⟨g,h⟩:=jy h;obtain⟨e,m⟩:=R0 q g;obtain⟨_,_,_,l,_⟩:=IE n;exact c _ _ (Ju hx) l (λw=>by cases f<;>simp[eqGuard]) (RZ (.inl rfl) m h);cases h
variable {Z:Nat->Prop}
section
variable {P:Program}{L:Jf}{base nt:Nat}{s:St}{o:Oper}
def QbX{x}(ho:o.op=.move x\/o.op=.assign x):Ww P base nt o s (Qs s.fr x):=by
 intro Z c a w r;refine⟨_,r.eval x,λb _=>?_⟩;rcases ho with ho|ho<;>simp[execOp,ho]
def Qna{c x y}(d:o.op=.pick c x y){b}(g:Qs s.fr c=.raw (.bool b)):Ww P base nt o s (bif b then Qs s.fr x else Qs s.fr y):=by
 intro Z i a w r;have h:=r.eval c;rw[g]at h;have e:=Ju h;cases b;exact⟨_,r.eval y,λf _=>by simp[execOp,d,e,asBool]⟩;exact⟨_,r.eval x,λf _=>by simp[execOp,d,e,asBool]⟩
def mk(y:Ty)(a:List D):D:=bif y.k.agg then .agg (a.take y.size) else nth a 0
def CS(y:Ty):D:=bif y.k.agg then .agg (y.zero.map J2) else nth (y.zero.map J2) 0
def ny{P}{t:TypeId}{y}(h:W6 P t y){N}(w):∃z,Cl N w (CS y) z/\∀e,(Go.zeroValue t).run P e=.ok z e:=by
 have b:=h.info;have d:=h.zag;cases a:P.info? t with
 | none=>rw[a]at b;cases b
 | some i=>
  rw[a]at b d;simp at b;obtain⟨_,_,z,hz,f⟩:=b;simp[hz]at d;refine⟨z,?_,λw=>by simp[Go.zeroValue,Go.typeInfo,a,hz]⟩;unfold CS;rw[<- d,<- f];cases z with
  | agg c=>
   simp only[bC,vL];refine .agg _ c.toList (by simp[Value.cells]) λi a=>?_;have j:i<c.size:=by simpa[Value.cells] using a
   have g:nth ((Value.agg c).cells.toList.map J2) i=J2 (Q6 c.toList i):=by
    simp[nth,Q6,Value.cells,QW,j]
   rw[g];exact CQ N w _
  | _=>simp only[bC,zT,Value.cells,nth,JT,List.map_nil,List.getD_cons_zero];exact CQ N w _
def nz{a:List D}{k i}(h:i<k):nth (a.take k) i=nth a i:=by
 simp only[nth,QW,XB,h,Vu]
def GC{a:List D}{k i}:nth (a.drop k) i=nth a (k+i):=by
 simp only[nth,QW,Gr]
def QbY{t:TypeId}{y:Ty}(e:W6 P t y)(w:World)(c:Addr)(a:List D){h:List Ob}{pl:List Pl}(p:World)(B:y.size<=a.length)(x:y.k.agg=false->y.size=1)
  (l:∀j,j<y.size->∃v,w.cell? (c.add j)=some v/\QD Z h pl p (nth a j) v) :
  ∃v,QD Z h pl p (mk y a) v/\∀b,(∀j v,j<y.size->w.cell? (c.add j)=some v->b.cell? (c.add j)=some v)->(loadVar t c).run P b=.ok v b:=by
 unfold mk;cases k:y.k.agg;have z:=x k;obtain⟨v,d,g⟩:=l 0 ω;refine⟨v,g,λb m=>?_⟩;have:=m 0 v ω d;simp only[Addr.add_zero']at this;simp[loadVar,e.isAgg,k,this];let f:Nat->Value:=λj=>(w.cell? (c.add j)).getD Go.undef;refine⟨.agg ((List.range y.size).map f).toArray,.agg _ _ ξ (λi u=>?_),λb m=>?_⟩;have n:i<y.size:=by simp at u;omega
 obtain⟨v,d,g⟩:=l i n;rw[nz n];have:Q6 ((List.range y.size).map f) i=v:=by
  simp[Q6,QW,n,f,d]
 rw[this];exact g;have r:(loadCells c y.size).run P b=.ok ((List.range y.size).map f).toArray b:=run_loadCells b c y.size f (λj q=>by
  obtain⟨v,d,_⟩:=l j q;rw[m j v q d];simp[f,d])
 simp[loadVar,e.isAgg,k,e.sizeOf,r]
def IF(L:Jf)(h:List Ob)(t:TypeId)(d:D):Ev:=
 match ty L t with
 | none=>none
 | some y=>
  match d with
  | .ptr l g i j=>match h[l]? with
   | some o=>some (g=o.gen/\i<o.n/\j+y.size<=o.sz/\(y.k.agg=false->y.size=1),mk y ((o.row i).drop j))
   | none=>none
  | .ip a=>some (y.size<=a.length/\(y.k.agg=false->y.size=1),mk y a)
  | _=>none
def Af(b o n):(⟨b,o,none⟩:Addr).add n=⟨b,o+n,none⟩:=Addr.add_lit b o n
def QbZ(W:Z8 P L){t:TypeId}{x}(K:o.op=.load t x){p}{d}(h:IF L s.h t (Qs s.fr x)=some (p,d))(J:p):bD P base nt o s d:=by
 intro Z H a w r;have hx:=r.eval x;unfold IF at h;cases B:ty L t with
 | none=>rw[B]at h;cases h
 | some y=>
  have I:=W t y B;rw[B]at h;dsimp only at h;generalize Qs s.fr x=dx at *;split at h;rename_i l g i j;split at h;rename_i z N;simp only[Q5,Q9]at h;obtain⟨rfl,rfl⟩:=h;obtain⟨T,M,hj,E⟩:=J;obtain⟨o',p',ad,f,O,Z3,ZI,ko,KN⟩:=Ey hx;rw[N]at O;cases O;obtain⟨b,q,rfl,rfl⟩:=KN T;obtain⟨Q4,R⟩:=r.o.at_ l z b q N Z3;obtain⟨c,el,V,Q,J3,ZW⟩:=R.cells ZI;obtain⟨v,n,F⟩:=QbY I w ⟨b,q+(i*z.sz+j),none⟩ ((z.row i).drop j) (h:=s.h) (pl:=H) w (by simp[J3 i M];omega) E (λk C=>by
   obtain⟨v,f,n⟩:=ZW i (j+k) M ω;refine⟨v,?_,by rw[GC];exact n⟩;rw[Af,cell_of_row w b _ c el (0,0) V,<- f];congr 1;omega)
  refine⟨v,n,λu e=>?_⟩;have:=F u (λk v C f=>e _ _ f);simp[execOp,K,f,Instr.loadAt,Instr.sureAddr,this];cases h;rename_i m;simp only[Q5,Q9]at h;obtain⟨rfl,rfl⟩:=h;obtain⟨Q,E⟩:=J;obtain⟨b,q,S,f,U⟩:=IE hx;obtain⟨v,n,F⟩:=QbY I w ⟨b,q,none⟩ m (h:=s.h) (pl:=H) w Q E (λk C=>by
   obtain⟨⟨_,h2⟩,Y⟩:=U k ω;exact⟨S k,by rw[Af];exact h2,.cl _ _ Y⟩)
  refine⟨v,n,λu e=>?_⟩;have:=F u (λk v C f=>e _ _ f);simp[execOp,K,f,Instr.loadAt,Instr.sureAddr,this];cases h
def Qb0(c:Z8 P L){t:TypeId}{x}(b:o.op=.load t x){p}{d}(h:IF L s.h t (Qs s.fr x)=some (p,d))(a:p):Ww P base nt o s d:=(QbZ c b h a).up
def NL(L:Jf)(t:TypeId)(f:Nat):Option (Nat × Ty):=
 match ty L t with
 | some ⟨.struct b,_,_,_⟩=>match b[f]? with
  | some (a,u)=>match ty L u with
   | some y=>some (a,y)
   | none=>none
  | none=>none
 | _=>none
def nA(d:Z8 P L){t:TypeId}{f b}{y}(h:NL L t f=some (b,y)):∃g a,P.underlying t=some (.struct g)/\g[f]?=some a/\a.offset=b/\W6 P a.type y:=by
 unfold NL at h;split at h;rename_i r _ _ _ k;split at h;rename_i q u c;split at h;rename_i p e;simp only[Q5,Q9]at h;obtain⟨rfl,rfl⟩:=h;obtain⟨g,j,i⟩:=QbW (d _ _ k) rfl;rw[<- i]at c;simp only[KL,VT,Q9]at c;obtain⟨a,n,m,l⟩:=c;exact⟨g,a,j,by simpa using n,m,by rw[l];exact d _ _ e⟩;cases h;cases h;cases h
def bK(L:Jf)(t:TypeId)(f:Nat)(d:D):Ev:=
 match NL L t f with
 | none=>none
 | some (b,y)=>match d with
  | .ptr l g i j=>some (y.size≠0,.ptr l g i (j+b))
  | .ip a=>some (y.size≠0,.ip (a.drop b))
  | _=>none
def Qnb(Y:Z8 P L){t:TypeId}{f}{x}(C:o.op=.fieldAddr t x f){p}{d}(h:bK L t f (Qs s.fr x)=some (p,d))(u:p):Ww P base nt o s d:=by
 intro Z pl a w r;have hx:=r.eval x;unfold bK at h;split at h;cases h;rename_i a0 y V;obtain⟨g,e,F,Q,rfl,B⟩:=nA Y V;have k:∀(b q:Nat),y.size≠0->a.eval x=.pointer (some ⟨b,q,none⟩)->∀c:World,(execOp a.eval o).run P c=.ok (.value (.pointer (some ⟨b,q+e.offset,none⟩))) c:=by
  intro b q U W c;simp[execOp,C,W,Instr.fieldAt,run_underlying F,Q,Instr.sureAddr,fieldPlace,B.sizeOf,U,Af]
 generalize Qs s.fr x=dx at *;split at h;rename_i l g i j;simp only[Q5,Q9]at h;obtain⟨rfl,rfl⟩:=h;obtain⟨n,pp,ad,m,M,O,N,R,KN⟩:=Ey hx;by_cases E:g=n.gen;obtain⟨b,q,rfl,rfl⟩:=KN E;exact⟨_,.ptr _ _ _ _ n _ _ M O N R (λ_=>⟨b,q,rfl,by simp only[Addr.mk.injEq,and_true,vM];omega⟩),λc _=>k _ _ u m c⟩;obtain⟨b,q,T⟩:=ad;refine⟨.pointer (some ((⟨b,q,T⟩:Addr).add e.offset)),.ptr _ _ _ _ n _ _ M O N R (λh=>absurd h E),λc _=>?_⟩;simp[execOp,C,m,Instr.fieldAt,run_underlying F,Q,Instr.sureAddr,fieldPlace,B.sizeOf,u];rename_i z;simp only[Q5,Q9]at h;obtain⟨rfl,rfl⟩:=h;obtain⟨b,q,S,m,H⟩:=IE hx;refine⟨_,.cl _ _ (.ip _ b (q+e.offset) (λj=>S (e.offset+j)) (λj v=>?_) (λj v=>?_)),λc _=>k _ _ u m c⟩;obtain⟨⟨K,J⟩,I⟩:=H (e.offset+j) (by simp at v;omega);exact⟨K,by rw[Nat.add_assoc];exact J⟩;obtain⟨⟨K,J⟩,I⟩:=H (e.offset+j) (by simp at v;omega);rw[GC];exact I;cases h
def Qb1{t:TypeId}{y}(e:W6 P t y)(c:List D)(b:List Value){h}{j}{g}(q:b.length=c.length)(k:∀i,i<c.length->QD Z h j g (nth c i) (Q6 b i))(a)
  (r:a+y.size<=c.length) (n:y.k.agg=false->y.size=1):∃v,QD Z h j g (mk y (c.drop a)) v/\∀d,(part t b.toArray a).run P d=.ok v d:=by
 unfold mk;cases f:y.k.agg;have p:=n f;refine⟨Q6 b a,by simp only[zT];rw[GC];exact k a ω,λd=>?_⟩;have Qb:a<b.length:=ω;simp[part,e.isAgg,f,Q6,QW,Qb];refine⟨.agg ((b.drop a).take y.size).toArray,.agg _ _ ξ (λi m=>?_),λd=>?_⟩;have l:i<y.size:=by simp at m;omega
 rw[nz l,GC];have:Q6 ((b.drop a).take y.size) i=Q6 b (a+i):=by
  simp[Q6,QW,l]
 rw[this];exact k _ ω;simp[part,e.isAgg,f,e.sizeOf]
def bL(L:Jf)(t:TypeId)(f:Nat)(d:D):Ev:=
 match NL L t f with
 | none=>none
 | some (a,y)=>match d with
  | .agg b=>some (a+y.size<=b.length/\(y.k.agg=false->y.size=1),mk y (b.drop a))
  | _=>none
def Qnc(u:Z8 P L){t:TypeId}{f}{x}(l:o.op=.field t x f){p}{d}(h:bL L t f (Qs s.fr x)=some (p,d))(b:p):Ww P base nt o s d:=by
 intro Z I a w r;have hx:=r.eval x;unfold bL at h;split at h;cases h;rename_i F y q;obtain⟨g,z,n,E,rfl,i⟩:=nA u q;generalize Qs s.fr x=J at *;split at h;rename_i B;simp only[Q5,Q9]at h;obtain⟨rfl,rfl⟩:=h;obtain⟨c,j,m,k⟩:=ID hx;obtain⟨v,e,C⟩:=Qb1 i B c m k z.offset b.1 b.2;refine⟨v,e,λH _=>?_⟩;simp[execOp,l,j,Instr.field,run_underlying n,E,asAgg,C];cases h
def NM(L:Jf)(t:TypeId):Option (Nat × Bool × Nat):=
 match ty L t with
 | some ⟨.slice e,_,_,_⟩=>match ty L e with
  | some y=>some (y.size,true,0)
  | none=>none
 | some ⟨.array n e,_,_,_⟩=>match ty L e with
  | some y=>some (y.size,false,n)
  | none=>none
 | _=>none
def Qnd(b:Z8 P L){t:TypeId}{a n}(h:NM L t=some (a,true,n)):∃e y,P.underlying t=some (.slice e)/\W6 P e y/\y.size=a:=by
 unfold NM at h;split at h;rename_i e _ _ _ d;split at h;rename_i y c;simp only[Q5,Q9]at h;exact⟨e,y,x7 (b _ _ d) rfl,b _ _ c,h.1⟩;cases h;split at h;simp at h;cases h;cases h
def Qne(b:Z8 P L){t:TypeId}{a n}(h:NM L t=some (a,false,n)):∃e y,P.underlying t=some (.array n e)/\W6 P e y/\y.size=a:=by
 unfold NM at h;split at h;split at h;simp at h;cases h;rename_i e _ _ _ d;split at h;rename_i y c;simp only[Q5,Q9]at h;obtain⟨rfl,_,rfl⟩:=h;exact⟨e,y,ni (b _ _ d) rfl,b _ _ c,rfl⟩;cases h;cases h
def bM(L:Jf)(h:List Ob)(t:TypeId)(d m:D):Ev:=
 match m with
 | .raw (.int _ i)=>match NM L t with
  | some (c,true,_)=>match d with
   | .ref l g f k=>match h[l]? with
    | some o=>some (g=o.gen/\o.sz=c/\0<=i/\i<k,.ptr l g (f+i.toNat) 0)
    | none=>none
   | .imm z n e=>some (z=c/\0<=i/\i<n,.ip (e i.toNat))
   | _=>none
  | some (c,false,n)=>match d with
   | .ptr l g a j=>some (0<=i/\i<n,.ptr l g a (j+i.toNat*c))
   | .ip b=>some (0<=i/\i<n,.ip (b.drop (i.toNat*c)))
   | _=>none
  | none=>none
 | _=>none
def Qnf(hL:Z8 P L){t:TypeId}{x I}(K:o.op=.indexAddr t x I){p}{d}(h:bM L s.h t (Qs s.fr x) (Qs s.fr I)=some (p,d))(J:p):Ww P base nt o s d:=by
 intro Z pl a w r;have hx:=r.eval x;have nD:=r.eval I;unfold bM at h;generalize Qs s.fr x=dx at *;generalize Qs s.fr I=di at *;split at h;rename_i k i;have M:=Ju nD;split at h;rename_i sz _ U;obtain⟨e,y,E,C,rfl⟩:=Qnd hL U;split at h;rename_i l g a0 a4;split at h;rename_i H O;simp only[Q5,Q9]at h;obtain⟨rfl,rfl⟩:=h;obtain⟨T,JA,v,f⟩:=J;obtain⟨o',p',V,a1,u,ZG,Z3,W,ko,KN⟩:=Ex hx;rw[O]at ZG;cases ZG;rcases KN T with ⟨F,_⟩|⟨b,q,c,el,Y,S,hb,B,CU⟩;omega;refine⟨.pointer (some ⟨b,q+((a0+i.toNat)*H.sz+0),none⟩),.ptr _ _ _ _ H _ _ O Z3 W ko (λ_=>⟨b,q,Y,rfl⟩),λQ _=>?_⟩;simp[execOp,K,u,M,S,Instr.indexAt,asIntOf,run_underlying E,v,f,C.sizeOf,Af,JA];rw[VM];omega;cases h;rename_i z n a3;simp only[Q5,Q9]at h;obtain⟨rfl,rfl⟩:=h;obtain⟨rfl,v,f⟩:=J;obtain⟨V,a1,b,q,R,u,S,CU,hs,B⟩:=RY hx;have Qb:i.toNat<n:=ω;refine⟨.pointer (some ⟨b,q+i.toNat*y.size,none⟩),.cl _ _ (.ip _ b _ (λj=>R i.toNat j) (λj m=>?_) (λj m=>?_)),λQ _=>?_⟩;rw[hs _ Qb]at m;obtain⟨⟨F,N⟩,h4⟩:=B i.toNat j Qb m;exact⟨F,by rw[Nat.add_assoc];exact N⟩;rw[hs _ Qb]at m;exact(B i.toNat j Qb m).2;simp[execOp,K,u,M,S ω,Instr.indexAt,asIntOf,run_underlying E,v,f,C.sizeOf,Af];cases h;rename_i sz n U;obtain⟨e,y,E,C,rfl⟩:=Qne hL U;split at h;rename_i l g i0 j;simp only[Q5,Q9]at h;obtain⟨rfl,rfl⟩:=h;obtain⟨v,f⟩:=J;obtain⟨H,pp,V,u,O,Y,W,Bj,KN⟩:=Ey hx;refine⟨.pointer (some (V.add (i.toNat*y.size))),.ptr _ _ _ _ H _ _ O Y W Bj (λT=>?_),λQ _=>?_⟩;obtain⟨b,q,rfl,rfl⟩:=KN T;exact⟨b,q,rfl,by rw[Af];simp only[Addr.mk.injEq,and_true,vM];omega⟩;simp[execOp,K,u,M,Instr.indexAt,asIntOf,run_underlying E,v,f,C.sizeOf,Instr.sureAddr];rename_i a2;simp only[Q5,Q9]at h;obtain⟨rfl,rfl⟩:=h;obtain⟨v,f⟩:=J;obtain⟨b,q,R,u,B⟩:=IE hx;refine⟨_,.cl _ _ (.ip _ b (q+i.toNat*y.size) (λj=>R (i.toNat*y.size+j)) (λj m=>?_) (λj m=>?_)),λQ _=>?_⟩;obtain⟨⟨f,F⟩,N⟩:=B (i.toNat*y.size+j) (by simp at m;omega);exact⟨f,by rw[Nat.add_assoc];exact F⟩;obtain⟨⟨f,F⟩,N⟩:=B (i.toNat*y.size+j) (by simp at m;omega);rw[GC];exact N;simp[execOp,K,u,M,Instr.indexAt,asIntOf,run_underlying E,v,f,C.sizeOf,Instr.sureAddr,Af];cases h;cases h;cases h
def bO(L:Jf)(t:TypeId)(d c:D):Ev:=
 match c with
 | .raw (.int _ i)=>match d with
  | .agg a=>match ty L t with
   | some ⟨.array n e,_,_,_⟩=>match ty L e with
    | some y=>some (0<=i/\i<n/\i.toNat*y.size+y.size<=a.length/\(y.k.agg=false->y.size=1),mk y (a.drop (i.toNat*y.size)))
    | none=>none
   | _=>none
  | .raw (.string b)=>match ty L t with
   | some ⟨.str,_,_,_⟩=>some (0<=i/\i<b.size,.raw (.int .u8 (b.data.getD i.toNat 0).toNat))
   | _=>none
  | _=>none
 | _=>none
def Qb2(j:Z8 P L){t:TypeId}{x c}(u:o.op=.index t x c){p}{d}(h:bO L t (Qs s.fr x) (Qs s.fr c)=some (p,d))(q:p):Ww P base nt o s d:=by
 intro Z R a w r;have hx:=r.eval x;have F:=r.eval c;unfold bO at h;generalize Qs s.fr x=S at *;generalize Qs s.fr c=T at *;split at h;rename_i k i;have z:=Ju F;split at h;rename_i N;split at h;rename_i n e _ _ _ g;split at h;rename_i y Q;have m:=j _ _ Q;simp only[Q5,Q9]at h;obtain⟨rfl,rfl⟩:=h;obtain⟨l,B,M,K⟩:=q;obtain⟨E,f,J,I⟩:=ID hx;obtain⟨v,H,O⟩:=Qb1 m N E J I _ M K;refine⟨v,H,λC _=>?_⟩;simp[execOp,u,f,z,Instr.index,asIntOf,run_underlying (ni (j _ _ g) rfl),l,B,m.sizeOf,O];cases h;cases h;rename_i b;split at h;rename_i g;simp only[Q5,Q9]at h;obtain⟨rfl,rfl⟩:=h;obtain⟨l,B⟩:=q;have f:=Ju hx;refine⟨_,.cl _ _ (.raw _),λC _=>?_⟩;have Qb:i.toNat<b.size:=ω;have:b[i.toNat]?=some (b.data.getD i.toNat 0):=by
  rw[getElem?_pos b i.toNat Qb];show some (b.data[i.toNat])=_;rw[x5,jr (by exact Qb)];rfl
 simp[execOp,u,f,z,Instr.index,asIntOf,run_underlying (RX (j _ _ g) rfl),l,this];cases h;cases h;cases h
def Qng{x}{i}(g:o.op=.extract x i){b:List D}(d:Qs s.fr x=.tup b)(j:i<b.length):Ww P base nt o s (nth b i):=by
 intro Z l a w r;have h:=r.eval x;rw[d]at h;obtain⟨c,e,m,f⟩:=Qm0 h;refine⟨_,f i j,λk _=>?_⟩;have:i<c.length:=ω;simp[execOp,g,e,Instr.extract,Q6,QW,this]
def Qnh{u}{t:TypeId}{x}(f:o.op=.unOp u t x){b}(e:u=.not)(c:Qs s.fr x=.raw (.bool b)):Ww P base nt o s (.raw (.bool (!b))):=by
 intro Z i a w r;have h:=r.eval x;rw[c]at h;have d:=Ju h;exact⟨_,.cl _ _ (.raw _),λg _=>by simp[execOp,f,d,e,Op.unary]⟩
def Qni{u}{t:TypeId}{x}(e:o.op=.unOp u t x){k:IntKind}{n}(d:u=.neg)(b:Qs s.fr x=.raw (.int k n)):Ww P base nt o s (.raw (.int k (k.wrap (0-n)))):=by
 intro Z g a w r;have h:=r.eval x;rw[b]at h;have c:=Ju h;exact⟨_,.cl _ _ (.raw _),λf _=>by simp[execOp,e,c,d,Op.unary,Op.intArith]⟩
def Qnj{u}{t:TypeId}{x}(e:o.op=.unOp u t x){k:IntKind}{n}(d:u=.xor)(b:Qs s.fr x=.raw (.int k n)):Ww P base nt o s (.raw (.int k (bits .xor k (if k.signed then -1 else k.max) n))):=by
 intro Z g a w r;have h:=r.eval x;rw[b]at h;have c:=Ju h;exact⟨_,.cl _ _ (.raw _),λf _=>by simp[execOp,e,c,d,Op.unary,Op.intBits,bits]⟩
def D.there:D->Bool
 | .ptr _ _ _ _ | .ip _ | .clo _ _ _=>true
 | .raw (.func (.func _) _ _)=>true
 | _=>false
def Qnk{x}(c:o.op=.nilCheck x){d:D}(m:Qs s.fr x=d)(k:d.there=true):Ww P base nt o s d:=by
 intro Z t a w r;have h:=r.eval x;rw[m]at h;cases d<;>try (simp only[D.there,qu]at k;done)
 case ptr l g i j=>
  obtain⟨_,_,y,b,_⟩:=Ey h;exact⟨_,h,λe _=>by simp[execOp,c,b]⟩
 case ip p=>
  obtain⟨_,_,_,b,_⟩:=IE h;exact⟨_,h,λe _=>by simp[execOp,c,b]⟩
 case raw v=>
  have b:=Ju h;cases v with
  | func n first z=>
   cases n with
   | func f=>exact⟨_,h,λe _=>by simp[execOp,c,b]⟩
   | _=>simp only[D.there,qu]at k
  | _=>simp only[D.there,qu]at k
 case clo f u p=>
  obtain⟨q,b,_⟩:=nj h;exact⟨_,h,λe _=>by simp[execOp,c,b]⟩
def bT(L:Jf)(a c:TypeId):D->Ev
 | .raw (.int _ n)=>match ty L c,ty L a with
  | some ⟨.int k,_,_,_⟩,some _=>some (True,.raw (.int k (k.wrap n)))
  | _,_=>none
 | .raw (.string b)=>match ty L c,ty L a with
  | some ⟨.str,_,_,_⟩,some ⟨.str,_,_,_⟩=>some (True,.raw (.string b))
  | _,_=>none
 | _=>none
def Qnl(e:Z8 P L){b c:TypeId}{x}(j:o.op=.convert b c x){p}{d}(h:bT L b c (Qs s.fr x)=some (p,d)):Ww P base nt o s d:=by
 intro Z t a w r;have hx:=r.eval x;unfold bT at h;generalize Qs s.fr x=v at *;split at h;split at h;rename_i k _ _ _ n i g;simp only[Q5,Q9]at h;obtain⟨rfl,rfl⟩:=h;have f:=Ju hx;refine⟨_,.cl _ _ (.raw _),λl _=>?_⟩;obtain⟨q,m,u⟩:=(e _ _ g).under;simp[execOp,j,f,convert,run_underlying m,run_underlying (CP (e _ _ i) rfl),Conv.intToInt];cases h;split at h;rename_i i g;simp only[Q5,Q9]at h;obtain⟨rfl,rfl⟩:=h;have f:=Ju hx;refine⟨_,.cl _ _ (.raw _),λl _=>?_⟩;simp[execOp,j,f,convert,run_underlying (RX (e _ _ g) rfl),run_underlying (RX (e _ _ i) rfl)];cases h;cases h
def bU(L:Jf)(t:TypeId):D->Ev
 | .ref _ _ _ n=>match ty L t with
  | some ⟨.slice _,_,_,_⟩=>some (True,.raw (.int .i64 n))
  | _=>none
 | .imm _ n _=>match ty L t with
  | some ⟨.slice _,_,_,_⟩=>some (True,.raw (.int .i64 n))
  | _=>none
 | .nil=>match ty L t with
  | some ⟨.slice _,_,_,_⟩=>some (True,.raw (.int .i64 0))
  | _=>none
 | .raw (.string b)=>match ty L t with
  | some ⟨.str,_,_,_⟩=>some (True,.raw (.int .i64 b.size))
  | _=>none
 | _=>none
def ku{P:Program}{o:Oper}{a:Act}{c:Builtin}{b:Array Operand}{d:Array TypeId}(e:o.op=.call ⟨.builtin c,b,d⟩)(w:World):
  (execOp a.eval o).run P w=(builtin c d o.type (b.map fun | .const _=>true|_=>false) (b.map a.eval)).run P w:=by
 simp[execOp,e,resolve,invoke];rfl
def bV(f:Z8 P L){x}{t:TypeId}(e:o.op=.call ⟨.builtin .len,#[x],#[t]⟩){p}{d}(h:bU L t (Qs s.fr x)=some (p,d)):Ww P base nt o s d:=by
 intro Z k a w r;have hx:=r.eval x;unfold bU at h;generalize Qs s.fr x=l at *;split at h;split at h;rename_i c;simp only[Q5,Q9]at h;obtain⟨rfl,rfl⟩:=h;obtain⟨_,_,j,i,b,_⟩:=Ex hx;refine⟨_,.cl _ _ (.raw _),λg _=>?_⟩;rw[ku e];simp[builtin,Builtin.len_,b,run_underlying (x7 (f _ _ c) rfl),goInt];cases h;split at h;rename_i c;simp only[Q5,Q9]at h;obtain⟨rfl,rfl⟩:=h;obtain⟨j,i,_,_,_,b,_⟩:=RY hx;refine⟨_,.cl _ _ (.raw _),λg _=>?_⟩;rw[ku e];simp[builtin,Builtin.len_,b,run_underlying (x7 (f _ _ c) rfl),goInt];cases h;split at h;rename_i c;simp only[Q5,Q9]at h;obtain⟨rfl,rfl⟩:=h;obtain⟨j,b⟩:=Ae hx;refine⟨_,.cl _ _ (.raw _),λg _=>?_⟩;rw[ku e];simp[builtin,Builtin.len_,b,run_underlying (x7 (f _ _ c) rfl),goInt];cases h;split at h;rename_i c;simp only[Q5,Q9]at h;obtain⟨rfl,rfl⟩:=h;have b:=Ju hx;refine⟨_,.cl _ _ (.raw _),λg _=>?_⟩;rw[ku e];simp[builtin,Builtin.len_,b,run_underlying (RX (f _ _ c) rfl),goInt];cases h;cases h
def Qnm{x y}{h:Array TypeId}(g:o.op=.call ⟨.builtin .max,#[x,y],h⟩){k d}{m n}(f:Qs s.fr x=.raw (.int k m))(e:Qs s.fr y=.raw (.int d n)):Ww P base nt o s (.raw (.int k (max m n))):=by
 intro Z j a w r;have c:=r.eval x;have b:=r.eval y;rw[f]at c;rw[e]at b;refine⟨_,.cl _ _ (.raw _),λi _=>?_⟩;rw[ku g];simp[builtin,Builtin.max_,Ju c,Ju b,Builtin.max2];split<;>omega
def Qnn{x y}{h:Array TypeId}(g:o.op=.call ⟨.builtin .min,#[x,y],h⟩){k d}{m n}(f:Qs s.fr x=.raw (.int k m))(e:Qs s.fr y=.raw (.int d n)):Ww P base nt o s (.raw (.int k (min m n))):=by
 intro Z j a w r;have c:=r.eval x;have b:=r.eval y;rw[f]at c;rw[e]at b;refine⟨_,.cl _ _ (.raw _),λi _=>?_⟩;rw[ku g];simp[builtin,Builtin.min_,Ju c,Ju b,Builtin.min2];split<;>omega
def Qno{f}{first b:Array Operand}(c:o.op=.makeFunc (.func f) first b):Ww P base nt o s (.clo f first.size ((first.toList++b.toList).map (Qs s.fr))):=by
 intro Z m a w r;refine⟨.func (.func f) (((first.toList++b.toList).map a.eval).take first.size).toArray (((first.toList++b.toList).map a.eval).drop first.size).toArray,.clo f first.size _ ((first.toList++b.toList).map a.eval) σ (λi d=>?_),λl _=>?_⟩;have k:i<(first.toList++b.toList).length:=by simpa using d
 simp only[nth,Q6,QW,KL];rw[QJ k];exact r.eval _;have j:Array.map a.eval b=(List.map a.eval b.toList).toArray:=Array.ext' σ;have h:Array.map a.eval first=(List.map a.eval first.toList).toArray:=Array.ext' σ;have g:((first.toList++b.toList).map a.eval).take first.size=first.toList.map a.eval:=by rw[ju,List.take_append_of_le_length σ,List.take_of_length_le σ]
 have e:((first.toList++b.toList).map a.eval).drop first.size=b.toList.map a.eval:=by rw[ju,List.drop_append_of_le_length σ,List.drop_of_length_le σ,zR]
 rw[g,e];simp[execOp,c,Instr.makeFunc,j,h]
end
variable {Z:Nat->Prop}
def Ext(w a:World):Prop:=∀b,b<w.heap.size->a.heap[b]? = w.heap[b]?
def Ext.refl(w):Ext w w:=λ_ _=>rfl
def Ext.trans{a b c}(h:Ext a b)(k:Ext b c):Ext a c:=λi e=>by
 have d:=h i e;have f:i<b.heap.size:=by
  rw[jr e]at d;exact(WK.1 d).1
 rw[k i f,d]
def calm(o:Oper):Bool:=match o.op with
 | .store .. | .mapUpdate .. | .insert .. | .entryStore .. | .next ..=>false
 | .call ⟨.builtin .len,_,_⟩ | .call ⟨.builtin .min,_,_⟩ | .call ⟨.builtin .max,_,_⟩=>true
 | .call ⟨.builtin _,_,_⟩=>false
 | _=>true
def jz(P:Program)(b h:Nat)(o:Oper)(s:St)(e:List Ob)(d:D):Prop:=
 ∀(Z:Nat->Prop) g a w,Rel Z b h s g a w->b<=w.heap.size->∃v c f,((execOp a.eval o).run P w=.ok (.value v) c\/((execOp a.eval o).run P w=.ok .skip c/\v=Go.undef)) /\
  Tr s.h g w e f c/\Zh Z b e f c/\QD Z e f c d v/\Below b w c/\(calm o=true->Ext w c)
def IG(P:Program)(b h:Nat)(o:Oper)(s:St)(e:List Ob)(d:D):Prop:=
 ∀(Z:Nat->Prop) g a w,Rel Z b h s g a w->b<=w.heap.size->∃v c f,((execOp a.eval o).run P w=.ok (.value v) c\/((execOp a.eval o).run P w=.ok .skip c/\v=Go.undef)) /\
  Tr s.h g w e f c/\Zh Z b e f c/\QD Z e f c d v/\Below b w c
def IG.up{P}{b c}{o}{s}{f}{d}(h:IG P b c o s f d)(j:calm o=false):jz P b c o s f d:=λZ i a w r k=>
 let ⟨v,g,t,q,p,n,m,l⟩:=h Z i a w r k
 ⟨v,g,t,q,p,n,m,l,λe=>by rw[j]at e;cases e⟩
def Ag:Value->Bool
 | .agg _ | .tuple _=>false
 | _=>true
def D.Vh:D->Bool
 | .raw v=>Ag v
 | .undef | .agg _ | .tup _=>false
 | _=>true
def Yf:D->Option (List D)
 | .agg a=>bif a.all D.Vh then some a else none
 | d=>bif d.Vh then some [d] else none
def nE{h}{c}{w}{d:D}{v}(r:QD Z h c w d v)(a:d.Vh=true):Ag v=true:=by
 cases r with
 | cl _ _ f=>cases f<;>first|rfl|exact a|(simp[D.Vh]at a)
 | ref=>rfl
 | ptr=>rfl
 | mref _ _ o p b j i e k g=>rw[e.2];unfold RU;split<;>rfl
 | clo=>rfl
 | agg=>simp[D.Vh]at a
 | tup=>simp[D.Vh]at a
def Qnp{v:Value}(h:Ag v=true):v.cells=#[v]:=by cases v<;>first|rfl|cases h
def nF{h}{b}{w}{d}{v}(r:QD Z h b w d v){a}(e:Yf d=some a):
  v.cells.size=a.length/\∀i,i<a.length->QD Z h b w (nth a i) (Q6 v.cells.toList i)/\Ag (Q6 v.cells.toList i)=true:=by
 have one:∀g:D,QD Z h b w g v->(bif g.Vh then some [g] else none)=some a->v.cells.size=a.length/\∀i,i<a.length->QD Z h b w (nth a i) (Q6 v.cells.toList i)/\Ag (Q6 v.cells.toList i)=true:=by
  intro g k f;cases j:g.Vh;rw[j]at f;cases f;rw[j]at f;simp only[vL,Q5]at f;subst f;have m:=nE k j;rw[Qnp m];refine⟨rfl,λi c=>?_⟩;have:i=0:=by simp at c;omega
  subst this;exact⟨k,m⟩
 cases d with
 | agg p=>
  simp only[Yf]at e;obtain⟨n,e⟩:=jy e;cases e;obtain⟨q,rfl,o,l⟩:=ID r;refine⟨by simp[Value.cells,o],λi c=>⟨by simpa[Value.cells] using l i c,?_⟩⟩;refine nE (by simpa[Value.cells] using l i c:QD Z h b w (nth a i) _) ?_;rw[qV]at n;have:=n (nth a i) (by simp[nth,QW,c]);exact this
 | _=>exact one _ r e
def bW{P}(b)(e):∀(d:List Value) (i q:Nat) (w:World) (c:Array Value),w.heap[b]?=some (.cells c e (0,0))->q+i+d.length<=c.size->(∀j,j<d.length->Ag (Q6 d j)=true) ->
  ∃a g,(storeCells ⟨b,q,none⟩ d i).run P w=.ok () a/\a.heap[b]?=some (.cells g e (0,0))/\g.size=c.size /\
   (∀k,g[k]? = if q+i<=k/\k<q+i+d.length then d[k-(q+i)]? else c[k]?)/\(∀k,k≠b->a.heap[k]? = w.heap[k]?)/\a.heap.size=w.heap.size/\a.os=w.os/\a.tape=w.tape/\a.output=w.output
 | [],i,q,w,c,f,o,l=>⟨w,c,by simp[storeCells],f,rfl,λk=>by rw[Qc];simp,λ_ _=>rfl,rfl,rfl,rfl,rfl⟩
 | v::d,i,q,w,c,f,o,l=>by
  simp only[Kw]at o;have H:Ag v=true:=l 0 σ;have Qb:q+i<c.size:=ω;have J:w.cell? ⟨b,q+i,none⟩=some c[q+i]:=by rw[cell_of_row w b _ c e (0,0) f];simp[Qb]
  have n:w.frozen? ⟨b,q+i,none⟩=false:=frozen_of_row w b _ c e f;have r:=heap_setCell_same w b (q+i) c e v f;obtain⟨a,g,F,E,C,B,z,y,x,u,t⟩:=bW (P:=P) b e d (i+1) q (w.setCell ⟨b,q+i,none⟩ v) _ r ξ (λj K=>by
   have:=l (j+1) ξ;simpa[Q6] using this)
  refine⟨a,g,?_,E,by rw[C];simp,λk=>?_,λk p=>by rw[z k p];exact Below.heap_setCell _ _ _ _ p,by rw[y];simp,by rw[x];rfl,by rw[u];rfl,by rw[t];rfl⟩
  .have I:(store (⟨b,q+i,none⟩:Addr) v).run P w=.ok () (w.setCell ⟨b,q+i,none⟩ v):=by
    cases v<;>first|(simp[Ag]at H;done)|(simp[store,Sem.run,J,n])
   simp only[storeCells,Sem.run_bind,Af,I,Result.andThen_ok];exact F
  rw[B k];by_cases s:q+i=k;subst s;rw[Qc ω,Qd σ];simp[Qb];by_cases h:q+i<=k/\k<q+i+(v::d).length;rw[Qd h,Qd (by simp at h;omega)];obtain⟨m,rfl⟩:∃m,k=q+i+(m+1):=⟨k-(q+i)-1,ω⟩;rw[show q+i+(m+1)-(q+i)=m+1 by omega,show q+i+(m+1)-(q+(i+1))=m by omega];simp;rw[Qc h,Qc (by simp at h;omega),mX ω]
def Bn(b:List D)(j:Nat)(a:List D):List D:=b.take j++a++b.drop (j+a.length)
def bX{a:List D}{j}{b:List D}(h:j+b.length<=a.length):(Bn a j b).length=a.length:=by simp[Bn];omega
def Qb3{b:List D}{j}{a:List D}(h:j+a.length<=b.length)(i):nth (Bn b j a) i=if j<=i/\i<j+a.length then nth a (i-j) else nth b i:=by
 simp only[nth,Bn,QW];by_cases d:i<j;rw[Qc ω,WL,JJ ξ];simp[d];by_cases c:i<j+a.length;rw[Qd ⟨ω,c⟩,WL,Kc ξ,JJ ξ];simp;congr 3;omega;rw[Qc ω,Kc ξ];simp only[Gr,Zk,aU];congr 2;omega
def setRow(o:Ob)(i:Nat)(a:List D):Ob:=
 { o with row:=bif o.kd.IA then λ_=>a else λk=>bif Nat.beq k i then a else o.row k }
def Qb4{o:Ob}{i}{a:List D}(c:o.kd.IA=true->o.n=1){k}(e:i<o.n)(d:k<o.n):(setRow o i a).row k=if k=i then a else o.row k:=by
 unfold setRow;cases h:o.kd.IA;simp only[zT];by_cases b:k=i;subst b;simp;have:Nat.beq k i=false:=by rw[<- Ya,Wo];exact b
 rw[this,Qc b];rfl;have:=c h;simp only[vL];rw[Qd ω]
section
variable {P:Program}{L:Jf}{base nt:Nat}{s:St}{o:Oper}
def NO{w a:World}{b}(h:base<=b)(f:∀k,k≠b->a.heap[k]? = w.heap[k]?)(i:a.heap.size=w.heap.size)(e:a.os=w.os)(d:a.tape=w.tape)(c:a.output=w.output):Below base w a:=
 ⟨e,d,c,ω,λk g=>f k ω⟩
def R3(L:Jf)(h:List Ob)(t:TypeId)(b x:D):Option (Prop × List Ob):=
 match ty L t,b,Yf x with
 | some y,.ptr l g i j,some a=>match h[l]? with
  | some o=>some (g=o.gen/\i<o.n/\j+a.length<=o.sz/\a.length=y.size/\(o.kd.IA=true->o.n=1)/\o.kd.ro=false,h.set l (setRow o i (Bn (o.row i) j a)))
  | none=>none
 | _,_,_=>none
def Qnr(hL:Z8 P L){t:TypeId}{K x}(ho:o.op=.store t K x){p}{Y}(h:R3 L s.h t (Qs s.fr K) (Qs s.fr x)=some (p,Y))(hp:p):IG P base nt o s Y .undef:=by
 intro Z E a w r KX;have hx:=r.eval x;have V:=r.eval K;unfold R3 at h;split at h;rename_i y l g i j J Bm nG JI;rw[nG]at V;split at h;rename_i d C;simp only[Q5,Q9]at h;obtain⟨rfl,rfl⟩:=h;obtain⟨hg,n,hj,JA,W,S⟩:=hp;have hy:=hL _ _ Bm;obtain⟨o',p',a1,hv,ZG,M,f,ko,KN⟩:=Ey V;rw[C]at ZG;cases ZG;obtain⟨b,q,rfl,rfl⟩:=KN hg;obtain⟨Q4,xx⟩:=r.o.at_ l d b q C M;obtain⟨c,el,F,II,O,ZW⟩:=xx.cells f;obtain⟨u,bY⟩:=nF hx JI;have B:j+J.length<=(d.row i).length:=by rw[O i n];exact hj
 have a0:i*d.sz+d.sz<=d.n*d.sz:=by
  have:=XC d.sz (show i+1<=d.n from n);rw[VM]at this;omega
 obtain⟨U,c',g1,g2,I,g4,H,g6,g7,g8,g9⟩:=bW (P:=P) b el (a.eval x).cells.toList 0 (q+(i*d.sz+j)) w c F (by simp[u];omega) (λk e=>(bY k (by simpa[u] using e)).2);have T:Tr s.h E w (s.h.set l (setRow d i (Bn (d.row i) j J))) E U:=Tr.Q3 r.o C M rfl rfl rfl (λk e _=>H k e) (λc1 ng e1=>by rw[F]at e1;cases e1;exact⟨c',g2,I⟩);refine⟨Go.undef,U,E,.inr ⟨?_,rfl⟩,T,?_,.cl _ _ (.undef _),NO (Q4 S) H g6 g7 g8 g9⟩;simp[execOp,ho,hv,Instr.storeAt,Instr.sureAddr,storeVar,hy.sizeOf,u,JA,g1];refine Zh.Q3 (hro:=rfl) r.o C M f f rfl rfl (λk e _=>H k e) F g2 I (by rw[I];exact II) (λk e=>?_) (λk m e hm=>?_);rw[Qb4 W n e];split;rw[bX B,O i n];rfl;exact O k e;rw[Qb4 W n e];have f:k<d.n:=e;have NP:m<d.sz:=hm;show ∃v,c'[q+(k*d.sz+m)]?=some v/\_;rw[g4];simp only[x6,Array.length_toList,u];by_cases R:k=i;subst R;rw[Qd rfl,Qb3 B];by_cases z:j<=m/\m<j+J.length;rw[Qd z,Qd ω];refine⟨Q6 (a.eval x).cells.toList (m-j),?_,((bY (m-j) ω).1).tr T⟩;rw[show q+(k*d.sz+m)-(q+(k*d.sz+j))=m-j by omega];simp only[Q6,QW];rw[QJ (by simp[u];omega)];rfl;rw[Qc z,Qc ω];obtain⟨v,Q,N⟩:=ZW k m f NP;exact⟨v,Q,N.tr T⟩;rw[Qc R,Qc];obtain⟨v,Q,N⟩:=ZW k m f NP;exact⟨v,Q,N.tr T⟩;intro Ez;rcases Nat.lt_or_gt_of_ne R with Qb|Qb;have:=XC d.sz (show k+1<=i from Qb);rw[VM]at this;omega;have:=XC d.sz (show i+1<=k from Qb);rw[VM]at this;omega;cases h;cases h
def EA{w:World}(h:base<=w.heap.size)(a:Obj):Below base w (w.alloc a):=(Below.refl base w).alloc h a
def Qb7{d}{a}{w:World}(r:Rel Z base nt s d a w)(u:base<=w.heap.size)(f)(v:Value)(c:List D)(g:v.cells.size=c.length)(m:∀i,i<c.length->QD Z s.h d w (nth c i) (Q6 v.cells.toList i)):
  Tr s.h d w (s.h++[⟨.one,0,c.length,1,λ_=>c⟩]) (d++[some (w.heap.size,0)]) (w.alloc (.cells v.cells f))/\Zh Z base (s.h++[⟨.one,0,c.length,1,λ_=>c⟩]) (d++[some (w.heap.size,0)]) (w.alloc (.cells v.cells f)) /\
   QD Z (s.h++[⟨.one,0,c.length,1,λ_=>c⟩]) (d++[some (w.heap.size,0)]) (w.alloc (.cells v.cells f)) (.ptr s.h.length 0 0 0) (.pointer (some ⟨w.heap.size,0,none⟩)):=by
 have e:∀b,b<w.heap.size->(w.alloc (.cells v.cells f)).heap[b]? = w.heap[b]? := λb p=>wW w _ b p;have x:(w.alloc (.cells v.cells f)).heap[w.heap.size]?=some (.cells v.cells f (0,0)):=heap_alloc_new w _;have T:Tr s.h d w (s.h++[⟨.one,0,c.length,1,λ_=>c⟩]) (d++[some (w.heap.size,0)]) (w.alloc (.cells v.cells f)):=Tr.push r.o e _ _ (by intro b q h;simp at h;omega);refine⟨T,?_,?_⟩;refine Zh.push r.o e _ rfl (QB _) u x (by simp[g]) (λ_ _=>rfl) (λi j n k=>?_);have l:i=0:=by simp at n;omega
 subst l;refine⟨Q6 v.cells.toList j,?_,(m j k).tr T⟩;simp only[Nat.zero_mul,Jz,Q6,QW];have:j<v.cells.size:=by rw[g];exact k
 rw[vE,jr this];rfl;have t:d.length=s.h.length:=r.o.len;exact .ptr _ _ _ _ ⟨.one,0,c.length,1,λ_=>c⟩ (some (w.heap.size,0)) _ σ (by rw[<- t];simp) rfl (QB _) (λ_=>⟨_,_,rfl,σ⟩)
def Qns(e:Z8 P L){t:TypeId}{c x}(a:o.op=.store t c x){p}{b}(h:R3 L s.h t (Qs s.fr c) (Qs s.fr x)=some (p,b))(d:p):jz P base nt o s b .undef:=
 (Qnr e a h d).up (by simp[calm,a])
def Qnt{t:TypeId}{x}(f:o.op=.box t x){c:List D}(e:Yf (Qs s.fr x)=some c):jz P base nt o s (s.h++[⟨.one,0,c.length,1,λ_=>c⟩]) (.ptr s.h.length 0 0 0):=by
 intro Z p a w r d;obtain⟨n,m⟩:=nF (r.eval x) e;obtain⟨l,k,j⟩:=Qb7 r d t (a.eval x) c n (λi g=>(m i g).1);refine⟨_,_,_,.inl ?_,l,k,j,EA d _,λ_ b h=>wW _ _ b h⟩;simp[execOp,f,Instr.box,newVar,newRow]
def Qnu(h:Z8 P L){t:TypeId}(f:o.op=.alloc t){y:Ty}(e:ty L t=some y):jz P base nt o s (s.h++[⟨.one,0,(y.zero.map J2).length,1,λ_=>y.zero.map J2⟩]) (.ptr s.h.length 0 0 0):=by
 intro Z p a w r d;obtain⟨z,hz,m⟩:=(h _ _ e).zeroValue;obtain⟨l,k,j⟩:=Qb7 r d t z (y.zero.map J2) (by rw[<- hz];simp) (λi c=>by
  rw[<- hz]at c ⊢;have n:i<z.cells.size:=by simpa using c
  refine .cl _ _ ?_;simp only[nth,Q6,QW,KL,vE,jr n,KM,KW];exact CQ _ _ _)
 refine⟨_,_,_,.inl ?_,l,k,j,EA d _,λ_ b g=>wW _ _ b g⟩;simp[execOp,f,Instr.alloc,newVar,newRow,m]
end
variable {Z:Nat->Prop}
def R4(h:List Ob):D->Option (Prop × Nat × Nat × (Nat->List D))
 | .ref l g a n=>match h[l]? with
  | some o=>some (g=o.gen/\a+n<=o.n,n,o.sz,λk=>o.row (a+k))
  | none=>none
 | .imm c n b=>some (True,n,c,b)
 | _=>none
structure Src (Z:Nat->Prop) (h:List Ob) (pl:List Pl) (w:World) (v:Value) (n sz:Nat) (rows:Nat->List D) (a:Option Addr) (cap:Nat) (vs:Nat->Nat->Value):Prop where
 v:v=.slice a n cap
 len:∀i,i<n->(rows i).length=sz
 cell:∀i j,i<n->j<sz->∃b q,a=some ⟨b,q,none⟩/\w.cell? ⟨b,q+(i*sz+j),none⟩=some (vs i j)
 rel:∀i j,i<n->j<sz->QD Z h pl w (nth (rows i) j) (vs i j)
def nI{x}{h}{B}{w}(R:Zh Z x h B w){d}{v}(r:QD Z h B w d v){p}{n sz}{rows}(e:R4 h d=some (p,n,sz,rows))(I:p):∃a m z,Src Z h B w v n sz rows a m z:=by
 unfold R4 at e;split at e;rename_i l g f k;split at e;rename_i o J;simp only[Q5,Q9]at e;obtain⟨rfl,rfl,rfl,rfl⟩:=e;obtain⟨o',Y,a,m,y,L,T,S,ko,V⟩:=Ex r;rw[J]at L;cases L;have hn:=I.2;rcases V I.1 with ⟨Q,h2⟩|⟨b,q,c,el,U,F,K,E,P⟩;subst Q;exact⟨a,m,λ_ _=>Go.undef,y,λi s=>ω,λi j s=>ω,λi j s=>ω⟩;subst U;obtain⟨Q4,N⟩:=R.at_ l o b q J T;obtain⟨c',bZ,M,JI,W,ZW⟩:=N.cells S;rw[K]at M;cases M;refine⟨a,m,λi j=>(c[q+((f+i)*o.sz+j)]?).getD Go.undef,y,λi s=>W _ ω,λi j s t=>?_,λi j s t=>?_⟩;obtain⟨u,C,H⟩:=ZW (f+i) j ω t;refine⟨b,q+f*o.sz,F,?_⟩;rw[cell_of_row w b _ c el (0,0) K,show q+f*o.sz+(i*o.sz+j)=q+((f+i)*o.sz+j) by rw[VM];omega,C];rfl;obtain⟨u,C,H⟩:=ZW (f+i) j ω t;simp only[C,KW];exact H;cases e;simp only[Q5,Q9]at e;obtain⟨rfl,rfl,rfl,rfl⟩:=e;obtain⟨a,m,b,q,z,y,F,P,O,E⟩:=RY r;exact⟨a,m,z,y,O,λi j s t=>⟨b,q,F ω,(E i j s t).1.2⟩,λi j s t=>.cl _ _ (E i j s t).2⟩;cases e
def flat(n a:Nat)(b:Nat->Nat->Value):List Value:=(List.range (n*a)).map λk=>b (k/a) (k%a)
def q6(n a)(b:Nat->Nat->Value):(flat n a b).length=n*a:=by simp[flat]
def GH{n a}{vs}{i j}(c:i<n)(b:j<a):(flat n a vs)[i*a+j]?=some (vs i j):=by
 have f:i*a+j<n*a:=by have:=XC a (show i+1<=n from c);rw[VM]at this;omega
 have e:(i*a+j)/a=i:=by rw[Iu,Nat.mul_add_div ω,Nat.div_eq_of_lt b];rfl
 have d:(i*a+j)%a=j:=by rw[Iu,Nat.mul_add_mod,qW b]
 simp[flat,f,e,d]
def div_lt{n sz k:Nat}(h:k<n*sz):k/sz<n/\k%sz<sz/\k/sz*sz+k%sz=k:=by
 have a:0<sz:=Nat.pos_of_ne_zero (λe=>by subst e;simp at h);exact⟨Nat.div_lt_of_lt_mul (by rw[Iu];exact h),WM _ a,by rw[Iu];exact RL k sz⟩
def Src.first{P}{h}{p}{w:World}{v}{n c}{e}{a}{d}{o}(S:Src Z h p w v n c e a d o)(f:World)(r:f.heap=w.heap):
  (Builtin.firstCells c n v).run P f=.ok (flat n c o).toArray f:=by
 rw[S.v];cases a with
 | none=>
  have:n*c=0:=by
   by_cases h:n*c=0;exact h;obtain⟨i,g,_⟩:=div_lt (n:=n) (sz:=c) (k:=0) ω;obtain⟨b,q,l,_⟩:=S.cell _ _ i g;cases l
  simp[Builtin.firstCells,flat,this]
 | some x=>
  refine run_firstCells_some f c n x n d _ (q6 _ _ _) (λk u j=>?_);have s:k<n*c:=by have:=(W3.1 j).1;rw[q6]at this;exact this
  obtain⟨i,g,m⟩:=div_lt s;obtain⟨b,q,l,t⟩:=S.cell _ _ i g;cases l;rw[<- m,GH i g]at j;cases j;rw[Af,World.cell?_of_block (w:=w) (by rw[r]),<- m,t];simp only[m]
def nJ(z:Array Value)(n:Nat):(Builtin.zeroCells z n).size=n*z.size:=by simp[Builtin.zeroCells]
def Qb8{P:Program}{t ty e:TypeId}{y:Ty}(H:P.underlying t=some (.slice e))(j:W6 P e y)(E:y.zero.length=y.size)(w:World)(b:Option Addr)(a d:Nat)(l:List Value)(c:Option Addr)(n r:Nat)(g:List Value)
  (m:∀h:World,h.heap=w.heap->(Builtin.firstCells y.size a (.slice b a d)).run P h=.ok l.toArray h) (N:∀h:World,h.heap=w.heap->(Builtin.firstCells y.size n (.slice c n r)).run P h=.ok g.toArray h)
  (K:d<a+n) (B:a+n<=4294967296) (C:y.bytes<=1024) :
  ∃o f,(Builtin.append_ #[t,t] ty #[.slice b a d,.slice c n r]).run P w=.ok (.slice (some ⟨w.heap.size,0,none⟩) (a+n) o) (w.drew.alloc (.cells (l.toArray++g.toArray++f) e)) /\
   a+n<=o/\f.size=(o-(a+n))*y.size:=by
 obtain⟨z,u,s⟩:=j.zeroValue;obtain⟨i,p,U,L⟩:=j.typeInfo w;refine⟨grownCap w (a+n) d e,Builtin.zeroCells z.cells (grownCap w (a+n) d e-(a+n)),?_,grownCap_ge _ _ _ _,by rw[nJ];congr 1;rw[<- E,<- u];simp⟩;have M:∀w,(typeInfo e).run P w=.ok i w:=λw=>by
  obtain⟨Q,T,S,R⟩:=j.typeInfo w;have q:=j.info;cases hx:P.info? e with
  | none=>rw[hx]at q;cases q
  | some k=>
   simp[typeInfo,hx]at p ⊢;exact p
 have J:¬ (a+n<=d):=ω;have x:¬ (9223372036854775807<((a:Int)+(n:Int))):=ω;have O:Builtin.nextslicecap (a+n) d*y.bytes<=281474976710656:=growslice_fits K (by
  have:=Yb (show a+n<=4294967296 from B) C;omega)
 have v:¬ (281474976710656<Builtin.nextslicecap (a+n) d*i.bytes):=by rw[L];omega
 have I:=m w.drew rfl;have F:=N w.drew rfl;simp[Builtin.append_,run_underlying H,j.sizeOf,M,s,Builtin.lenOf,J,x,v,Question.forced,newRow,grownCap,I,F,askRoom,mark,Sem.run];rw[<- Array.append_assoc];simp
def Qnv{P:Program}{t ty e:TypeId}{y}(j:P.underlying t=some (.slice e))(i:W6 P e y)(w)(b q d f)(c)(n h)(a)
  (m:(Builtin.firstCells y.size n (.slice c n h)).run P w=.ok a.toArray w) (k:d+n<=f) {g:World} (l:(storeCells ⟨b,q+d*y.size,none⟩ a).run P w=.ok () g) :
  (Builtin.append_ #[t,t] ty #[.slice (some ⟨b,q,none⟩) d f,.slice c n h]).run P w=.ok (.slice (some ⟨b,q,none⟩) (d+n) f) g:=by
 simp[Builtin.append_,run_underlying j,i.sizeOf,Builtin.lenOf,k,m,Af,l]
def Qca{P:Program}{t ty e:TypeId}{y}(d:P.underlying t=some (.slice e))(a:W6 P e y)(w)(b)(c)(f):
  (Builtin.append_ #[t,t] ty #[.slice b 0 0,.slice c 0 f]).run P w=.ok (.slice b 0 0) w:=by
 cases b<;>cases c<;>simp[Builtin.append_,run_underlying d,a.sizeOf,Builtin.lenOf,Builtin.firstCells,loadCells,loadCellsFrom,storeCells]
def JO(a b:Nat)(d c:Nat->List D):Nat->List D:=λk=>bif Nat.blt k a then d (b+k) else c (k-a)
def Bo{a b k}{c d}(h:k<a):JO a b c d k=c (b+k):=by
 have:Nat.blt k a=true:=by simpa[wT] using h
 simp[JO,this]
def x9{a b k}{d c}(h:a<=k):JO a b d c k=c (k-a):=by
 have:Nat.blt k a=false:=by rw[<- Ya,wT];omega
 simp[JO,this]
def nO(y:Ty)(n:Nat):Prop:=n<=4294967296/\y.bytes<=1024/\y.zero.length=y.size
def CW(L:Jf)(h:List Ob)(t:TypeId)(s x:D):Option (Prop × List Ob × D):=
 match ty L t,R4 h x with
 | some ⟨.slice e,_,_,_⟩,some (f,n,d,a)=>match ty L e,s with
  | some y,.nil=>some (f/\d=y.size/\nO y n/\(∀k,k<n->(a k).all D.Vh=true),h++[⟨.arr,0,y.size,n,a⟩],.ref h.length 0 0 n)
  | some y,.ref l g c b=>match h[l]? with
   | some o=>some (f/\g=o.gen/\c+b=o.n/\o.sz=y.size/\d=y.size/\nO y (b+n)/\(∀k,k<n->(a k).all D.Vh=true)/\o.kd.ro=false,h.set l ⟨.arr,o.gen+1,y.size,b+n,JO b c o.row a⟩,.ref l (o.gen+1) 0 (b+n))
   | none=>none
  | _,_=>none
 | _,_=>none
def Tr.Bp{j:Nat}{h:List Ob}{g:List Pl}{w u:World}(R:Zh Z j h g w){l:Nat}{o o':Ob}{p p':Pl}(n:h[l]?=some o)(m:g[l]?=some p)(I:o'.kd.ty=o.kd.ty)(K:o.gen<o'.gen)
  (e:∀k,k<w.heap.size->(∀q,p≠some (k,q))->u.heap[k]? = w.heap[k]?) (H:∀b q,p'=some (b,q)->(∃s,p=some (b,s))\/w.heap.size<=b):Tr h g w (h.set l o') (g.set l p') u where
 JU:=λk x Qb=>by
  have B:∀q,p≠some (k,q):=λq t=>x l q (by rw[m,t]);refine⟨λd q i=>?_,e k Qb B⟩;by_cases a:l=d;subst a;have:(g.set l p')[l]?=some p':=by simp[Wp m]
  rw[this]at i;simp only[Q5]at i;rcases H k q i with ⟨s,h1⟩|h1;exact B s h1;omega;rw[JG a]at i;exact x d q i
 obj:=λd v E f r=>by
  by_cases a:l=d;subst a;rw[n]at f;cases f;exact⟨o',p',by simp[KA n],by simp[Wp m],ω,I,λh=>ω⟩;exact⟨v,E,by rw[JG a];exact f,by rw[JG a];exact r,QB _,rfl,λ_=>⟨rfl,rfl⟩⟩
 shape:=λd v J y C f z L r c el F=>by
  by_cases a:l=d;subst a;rw[n]at f;cases f;have:(h.set l o')[l]?=some o':=by simp[KA n]
  rw[this]at z;cases z;omega;refine⟨c,?_,rfl⟩;rw[e y (R.lt r).1 (λq t=>a (R.inj l d y q C (by rw[m,t]) r))];exact F
def Zh.Bp{f:Nat}{h:List Ob}{r:List Pl}{w z:World}(R:Zh Z f h r w){l:Nat}{o o':Ob}{p:Pl}(K:h[l]?=some o)(F:r[l]?=some p)(U:o.kd.ty=0)(M:o'.kd.ty=0)(V:o.gen<o'.gen)
  (e:∀k,k<w.heap.size->(∀q,p≠some (k,q))->z.heap[k]? = w.heap[k]?) {n t:Nat} (N:(∃s,p=some (n,s))\/w.heap.size<=n) (Q4:f<=n) {c:Array Value} {L:TypeId} (W:z.heap[n]?=some (.cells c L (0,0)))
  (JA:t+o'.n*o'.sz<=c.size) (J3:∀i,i<o'.n->(o'.row i).length=o'.sz)
  (ZW:∀i j,i<o'.n->j<o'.sz->∃v,c[t+(i*o'.sz+j)]?=some v/\QD Z (h.set l o') (r.set l (some (n,t))) z (nth (o'.row i) j) v):Zh Z f (h.set l o') (r.set l (some (n,t))) z:=by
 have T:Tr h r w (h.set l o') (r.set l (some (n,t))) z:=Tr.Bp R K F (by rw[U,M]) V e (λb q B=>by simp at B;obtain⟨rfl,rfl⟩:=B;exact N);have C:(r.set l (some (n,t)))[l]?=some (some (n,t)):=by simp[Wp F]
 have g:∀(d b q:Nat),l≠d->r[d]?=some (some (b,q))->b≠n:=by
  intro d b q S a O;subst O;rcases N with ⟨s,h2⟩|h2;exact S (R.inj l d b s q (by rw[F,h2]) a);have:=(R.lt a).1;omega
 refine⟨by simp[R.len],?_,?_,?_⟩;intro d E b J I a h2;by_cases m:l=d;subst m;rw[C]at a;simp only[Q5,Q9]at a;by_cases y:l=E;exact y;rw[JG y]at h2;exact absurd a.1.symm (g E b I y h2);rw[JG m]at a;by_cases y:l=E;subst y;rw[C]at h2;simp only[Q5,Q9]at h2;exact absurd h2.1.symm (g d b J m a);rw[JG y]at h2;exact R.inj d E b J I a h2;intro d H u a;by_cases m:l=d;subst m;rw[C]at a;cases a;rw[JG m]at a u;exact R.VU d H u a;intro d H b q u a;by_cases m:l=d;subst m;rw[C]at a;simp only[Q5,Q9]at a;obtain⟨rfl,rfl⟩:=a;have:(h.set l o')[l]?=some o':=by simp[KA K]
 rw[this]at u;cases u;exact⟨λ_=>Q4,.NJ M ⟨c,L,W,JA,J3,ZW⟩⟩;rw[JG m]at a u;obtain⟨Y,x⟩:=R.at_ d H b q u a;have QC:∀s,p≠some (b,s):=λs Q=>m (R.inj l d b s q (by rw[F,Q]) a);exact⟨Y,x.to rfl rfl rfl (e b (R.lt a).1 QC) (λ_ _=>rfl) λi j v _ _ P=>P.tr T⟩
section
variable {P:Program}{L:Jf}{base nt:Nat}{s:St}{o:Oper}
def Qnw(J:Z8 P L){t:TypeId}{l x}(E:o.op=.call ⟨.builtin .append,#[l,x],#[t,t]⟩)(Bq:Qs s.fr l=.nil){p}{K}{d}(h:CW L s.h t .nil (Qs s.fr x)=some (p,K,d))(hp:p):IG P base nt o s K d:=by
 intro Z k a w r V;have R:=r.eval l;have kx:=r.eval x;rw[Bq]at R;unfold CW at h;split at h;rename_i e _ _ _ px n sz c he nP;cases u:ty L e with
 | none=>rw[u]at h;cases h
 | some y=>
  rw[u]at h;simp only[Q5,Q9]at h;obtain⟨rfl,rfl,rfl⟩:=h;obtain⟨nQ,rfl,⟨kv,jA,GI⟩,IJ⟩:=hp;have B:=J _ _ u;have C:=x7 (J _ _ he) rfl;obtain⟨m,U⟩:=Ae R;obtain⟨N,GJ,g,S⟩:=nI r.o kx nP nQ;have O:k.length=s.h.length:=r.o.len;by_cases hn:n=0;subst hn;have T:Tr s.h k w (s.h++[⟨.arr,0,y.size,0,c⟩]) (k++[none]) w:=Tr.push r.o (λ_ _=>rfl) _ _ (by intro b q e;cases e);refine⟨_,w,k++[none],.inl ?_,T,r.o.jw _ rfl,.ref _ _ _ _ ⟨.arr,0,y.size,0,c⟩ none m 0 σ (by rw[<- O];simp) rfl (QB _) (λ_=>.inl ⟨rfl,rfl⟩),Below.refl _ _⟩;rw[ku E];simp[builtin,U,S.v,Qca C B];obtain⟨z,f,Q,Y,Ai⟩:=Qb8 (ty:=o.type) C B GI w m 0 0 [] N n GJ (flat n y.size g) (λv _=>by cases m<;>simp[Builtin.firstCells,loadCells,loadCellsFrom]) (λv hw=>by rw[<- S.v];exact S.first v hw) ω ω jA;simp only[Jz,Array.empty_append]at Q Y Ai;have M:∀b,b<w.heap.size->(w.drew.alloc (.cells ((flat n y.size g).toArray++f) e)).heap[b]? = w.heap[b]? := λb hb=>wW w.drew _ b hb;have W:(w.drew.alloc (.cells ((flat n y.size g).toArray++f) e)).heap[w.heap.size]?=some (.cells ((flat n y.size g).toArray++f) e (0,0)):=heap_alloc_new w.drew _;have T:Tr s.h k w (s.h++[⟨.arr,0,y.size,n,c⟩]) (k++[some (w.heap.size,0)]) (w.drew.alloc (.cells ((flat n y.size g).toArray++f) e)):=Tr.push r.o M _ _ (by intro b q h;simp at h;omega);refine⟨.slice (some ⟨w.heap.size,0,none⟩) n z,_,_,.inl ?_,T,Zh.push r.o M _ rfl (QB _) V W (by simp[q6]) S.len (λi j H F=>⟨g i j,?_,(S.rel i j H F).tr T⟩),.ref _ _ _ _ ⟨.arr,0,y.size,n,c⟩ (some (w.heap.size,0)) _ z σ (by rw[<- O];simp) rfl (QB _) (λ_=>.inr ⟨w.heap.size,0,_,e,rfl,σ,W,?_,Y⟩),?_⟩;rw[ku E];have:(Array.map a.eval #[l,x])=#[.slice m 0 0,.slice N n GJ]:=by simp[U,S.v]
  rw[this];simp only[builtin,Sem.run_bind,Q,Result.andThen_ok,Sem.run_pure];have I:=GH (vs:=g) H F;have Qb:=(W3.1 I).1;rw[Jz,Nt (by simpa using Qb)];simpa using I;simp only[Jz,Array.size_append,Gv,q6,Ai];rw[<- VM];exact XC _ ω;exact((Below.refl base w).drew).alloc V _
 cases h
def Qnx(hL:Z8 P L){t:TypeId}{x0 x}{l g m f}(ho:o.op=.call ⟨.builtin .append,#[x0,x],#[t,t]⟩)(Bq:Qs s.fr x0=.ref l g m f){p}{h'}{d}(h:CW L s.h t (.ref l g m f) (Qs s.fr x)=some (p,h',d))(hp:p):IG P base nt o s h' d:=by
 intro Z pl a w r KX;have Xe:=r.eval x0;have kx:=r.eval x;rw[Bq]at Xe;unfold CW at h;split at h;rename_i e _ _ _ px n sz z he nP;cases WO:ty L e with
 | none=>rw[WO]at h;cases h
 | some y=>
  rw[WO]at h;dsimp only at h;split at h;rename_i B H;simp only[Q5,Q9]at h;obtain⟨rfl,rfl,rfl⟩:=h;obtain⟨nQ,hg,IK,a5,rfl,⟨kv,jA,GI⟩,IJ,a3⟩:=hp;have hy:=hL _ _ WO;have ht:=x7 (hL _ _ he) rfl;obtain⟨o',p',U,O,NQ,ZG,F,W,ko,KN⟩:=Ex Xe;rw[H]at ZG;cases ZG;obtain⟨ax,GJ,J,S⟩:=nI r.o kx nP nQ;have Bs:(Array.map a.eval #[x0,x])=#[.slice U f O,.slice ax n GJ]:=by simp[NQ,S.v]
  have Y:∀{v:Value} {C:World},(Builtin.append_ #[t,t] o.type #[.slice U f O,.slice ax n GJ]).run P w=.ok v C->(execOp a.eval o).run P w=.ok (.value v) C:=by
   intro v C Za;rw[ku ho,Bs];simp only[builtin,Sem.run_bind,Za,Result.andThen_ok,Sem.run_pure]
  have Q:∀(K:Nat->Nat->Value) (a1:∀C:World,C.heap=w.heap->(Builtin.firstCells y.size f (.slice U f O)).run P C=.ok (flat f y.size K).toArray C)
    (a2:∀i,i<f->(B.row (m+i)).length=y.size) (cr:∀i j,i<f->j<y.size->QD Z s.h pl w (nth (B.row (m+i)) j) (K i j)),O<f+n ->
    ∃v C Qk,((execOp a.eval o).run P w=.ok (.value v) C\/((execOp a.eval o).run P w=.ok .skip C/\v=Go.undef))/\Tr s.h pl w (s.h.set l ⟨.arr,B.gen+1,y.size,f+n,JO f m B.row z⟩) Qk C /\
     Zh Z base (s.h.set l ⟨.arr,B.gen+1,y.size,f+n,JO f m B.row z⟩) Qk C/\QD Z (s.h.set l ⟨.arr,B.gen+1,y.size,f+n,JO f m B.row z⟩) Qk C (.ref l (B.gen+1) 0 (f+n)) v/\Below base w C:=by
   intro K a1 a2 cr Qb;obtain⟨vQ,I,Za,GK,Ai⟩:=Qb8 (ty:=o.type) ht hy GI w U f O (flat f y.size K) ax n GJ (flat n y.size J) a1 (λC hw=>by rw[<- S.v];exact S.first C hw) Qb kv jA;have e1:∀b,b<w.heap.size->(w.drew.alloc (.cells ((flat f y.size K).toArray++(flat n y.size J).toArray++I) e)).heap[b]? = w.heap[b]? := λb hb=>wW w.drew _ b hb;have JZ:(w.drew.alloc (.cells ((flat f y.size K).toArray++(flat n y.size J).toArray++I) e)).heap[w.heap.size]?=some (.cells ((flat f y.size K).toArray++(flat n y.size J).toArray++I) e (0,0)):=heap_alloc_new w.drew _;have T:=Tr.Bp (o':=⟨.arr,B.gen+1,y.size,f+n,JO f m B.row z⟩) (p':=some (w.heap.size,0)) r.o H F W.symm (Ir _) (λk M _=>e1 k M) (by intro b q h;simp at h;exact .inr ω);refine⟨_,_,_,.inl (Y Za),T,Zh.Bp r.o H F W rfl (Ir _) (λk M _=>e1 k M) (.inr (QB _)) KX JZ ?_ (λi E=>?_) (λi j E V=>?_),.ref _ _ _ _ ⟨.arr,B.gen+1,y.size,f+n,JO f m B.row z⟩ (some (w.heap.size,0)) _ vQ (by simp[KA H]) (by simp[Wp F]) rfl (QB _) (λ_=>.inr ⟨w.heap.size,0,_,e,rfl,σ,JZ,?_,GK⟩),((Below.refl base w).drew).alloc KX _⟩;simp[q6,VM];by_cases N:i<f;show (JO f m B.row z i).length=_;rw[Bo N];exact a2 i N;show (JO f m B.row z i).length=_;rw[x9 ω];exact S.len _ (by have:i<f+n:=E;omega);have Wc:j<y.size:=V;have Jl:i<f+n:=E;show ∃v,((flat f y.size K).toArray++(flat n y.size J).toArray++I)[0+(i*y.size+j)]?=some v/\QD _ _ _ _ (nth (JO f m B.row z i) j) v;by_cases N:i<f;rw[Bo N];refine⟨K i j,?_,(cr i j N Wc).tr T⟩;have R5:=GH (vs:=K) N Wc;have R8:=(W3.1 R5).1;rw[Jz,Nt ξ,Nt (by simpa using R8)];simpa using R5;rw[x9 ω];refine⟨J (i-f) j,?_,(S.rel (i-f) j ω Wc).tr T⟩;have R5:=GH (vs:=J) (show i-f<n from ω) Wc;have R8:=(W3.1 R5).1;have e2:i*y.size+j-(flat f y.size K).length=(i-f)*y.size+j:=by
    rw[q6];have:i=(i-f)+f:=ω
    conv=>lhs;rw[this,VM]
    omega
   have e3:(flat f y.size K).length<=i*y.size+j:=by
    rw[q6];have:=XC y.size (show f<=i from ω);omega
   rw[Jz,Nt ξ,Array.getElem?_append_right (by simpa using e3)];simp only[Gv];rw[e2];simpa using R5;simp only[Jz,Array.size_append,Gv,q6,Ai];rw[<- VM,<- VM];exact XC _ ω
  rcases KN hg with ⟨R,h2⟩|⟨b,q,c,el,Wv,ya,hb,JI,CU⟩;subst R;subst h2;by_cases hn:n=0;subst hn;have Za:=Qca (ty:=o.type) ht hy w U ax GJ;cases ct:p' with
  | none=>
   subst ct;have T:=Tr.Bp (o':=⟨.arr,B.gen+1,y.size,0+0,JO 0 m B.row z⟩) (p':=none) r.o H F W.symm (Ir _) (λk M _=>rfl) (by intro b q h;cases h);have zU:pl.set l none=pl:=by
    apply y8;intro i;by_cases E:l=i;subst E;rw[F];simp[Wp F];rw[JG E]
   rw[zU]at T;refine⟨_,w,pl,.inl (Y Za),T,?_,.ref _ _ _ _ ⟨.arr,B.gen+1,y.size,0+0,JO 0 m B.row z⟩ none U 0 (by simp[KA H]) F rfl (QB _) (λ_=>.inl ⟨rfl,rfl⟩),Below.refl _ _⟩;refine⟨by simp[r.o.len],r.o.inj,λl1 o1 ZZ R=>?_,λl1 o1 b q ZZ R=>?_⟩;by_cases e1:l=l1;subst e1;rw[W5 (KA H)]at ZZ;cases ZZ;rfl;rw[JG e1]at ZZ;exact r.o.VU l1 o1 ZZ R;by_cases e1:l=l1;subst e1;rw[F]at R;cases R;rw[JG e1]at ZZ;obtain⟨g1,x⟩:=r.o.at_ l1 o1 b q ZZ R;exact⟨g1,x.to rfl rfl rfl rfl (λ_ _=>rfl) λi j v _ _ hr=>hr.tr T⟩
  | some bq=>
   obtain⟨b,q⟩:=bq;subst ct;obtain⟨g1,x⟩:=r.o.at_ l B b q H F;obtain⟨c,el,g2,g3,g4,g5⟩:=x.cells W;have T:=Tr.Bp (o':=⟨.arr,B.gen+1,y.size,0+0,JO 0 m B.row z⟩) (p':=some (b,q)) r.o H F W.symm (Ir _) (λk M _=>rfl) (by intro b1 q1 h;simp at h;exact .inl ⟨q,by rw[h.1]⟩);exact⟨_,w,_,.inl (Y Za),T,Zh.Bp r.o H F W rfl (Ir _) (λk M _=>rfl) (.inl ⟨q,rfl⟩) (g1 a3) g2 ξ (λi E=>by simp at E) (λi j E=>by simp at E),
    .ref _ _ _ _ ⟨.arr,B.gen+1,y.size,0+0,JO 0 m B.row z⟩ (some (b,q)) U 0 (by simp[KA H]) (by simp[Wp F]) rfl (QB _) (λ_=>.inl ⟨rfl,rfl⟩),Below.refl _ _⟩
  exact Q (λ_ _=>Go.undef) (λC _=>by cases U<;>simp[Builtin.firstCells,loadCells,loadCellsFrom,flat]) (λi E=>ω) (λi j E=>ω) ω;subst Wv;obtain⟨Q4,x⟩:=r.o.at_ l B b q H F;have Q4:=Q4 a3;obtain⟨c',bZ,Xd,II,J3,ZW⟩:=x.cells W;rw[hb]at Xd;cases Xd;rw[a5]at JI II J3 ZW ya;by_cases cn:f+n<=O
  ·
   have NR:q+m*y.size+f*y.size+n*y.size<=c.size:=by
    have R:=XC y.size (show m+(f+n)<=m+O from ω);simp only[VM]at R JI;omega
   obtain⟨C,c',g1,g2,g3,g4,g5,g6,g7,g8,g9⟩:=bW (P:=P) b el (flat n y.size J) 0 (q+m*y.size+f*y.size) w c hb (by simp[q6];omega) (λk M=>by
    rw[q6]at M;obtain⟨k1,k2,k3⟩:=div_lt M;have hg:=GH (vs:=J) k1 k2;rw[k3]at hg;have:Q6 (flat n y.size J) k=J (k/y.size) (k%y.size):=by simp[Q6,QW,hg]
    rw[this];refine nE (S.rel _ _ k1 k2) ?_;have h2:=IJ _ k1;rw[qV]at h2;refine h2 _ ?_;have h3:k%y.size<(z (k/y.size)).length:=by rw[S.len _ k1];exact k2
    simp only[nth,QW,QJ h3,KW];exact Xn h3)
   subst ya;have Za:=Qnv (ty:=o.type) ht hy w b (q+m*y.size) f O ax n GJ (flat n y.size J) (by rw[<- S.v];exact S.first w rfl) cn g1;have he:∀k,k<w.heap.size->(∀q1,(some (b,q):Pl)≠some (k,q1))->C.heap[k]? = w.heap[k]? := λk _ M=>g5 k (λa4=>M q (by rw[a4]));have T:=Tr.Bp (o':=⟨.arr,B.gen+1,y.size,f+n,JO f m B.row z⟩) (p':=some (b,q+m*y.size)) r.o H F W.symm (Ir _) he (by intro b1 q1 h;simp at h;exact .inl ⟨q,by rw[h.1]⟩);refine⟨_,C,_,.inl (Y Za),T,Zh.Bp r.o H F W rfl (Ir _) he (.inl ⟨q,rfl⟩) Q4 g2 ?_ (λi E=>?_) (λi j E V=>?_),.ref _ _ _ _ ⟨.arr,B.gen+1,y.size,f+n,JO f m B.row z⟩ (some (b,q+m*y.size)) _ O (by simp[KA H]) (by simp[Wp F]) rfl (QB _) (λ_=>.inr ⟨b,q+m*y.size,c',el,rfl,σ,g2,?_,cn⟩),NO Q4 g5 g6 g7 g8 g9⟩;rw[g3];simp only[VM];omega;by_cases N:i<f;show (JO f m B.row z i).length=_;rw[Bo N];exact J3 _ ω;show (JO f m B.row z i).length=_;rw[x9 ω];exact S.len _ (by have:i<f+n:=E;omega);have Wc:j<y.size:=V;have Jl:i<f+n:=E;show ∃v,c'[q+m*y.size+(i*y.size+j)]?=some v/\QD _ _ _ _ (nth (JO f m B.row z i) j) v;rw[g4];simp only[q6,x6];by_cases N:i<f;rw[Bo N,Qc];obtain⟨v,hv,hr⟩:=ZW (m+i) j ω Wc;refine⟨v,?_,hr.tr T⟩;rw[<- hv];congr 1;rw[VM];omega;have:=XC y.size (show i+1<=f from N);rw[VM]at this;omega;have R:=XC y.size (show f<=i from ω);have h2:i*y.size=(i-f)*y.size+f*y.size:=by rw[<- VM];congr 1;omega
   have h3:=XC y.size (show (i-f)+1<=n from ω);rw[VM]at h3;rw[x9 ω,Qd ω];refine⟨J (i-f) j,?_,(S.rel (i-f) j ω Wc).tr T⟩;rw[show q+m*y.size+(i*y.size+j)-(q+m*y.size+f*y.size)=(i-f)*y.size+j by omega];exact GH ω Wc;rw[g3];simp only[Jz,VM]at JI ⊢;omega
  refine Q (λi j=>(c[q+((m+i)*y.size+j)]?).getD Go.undef) (λC hw=>?_) (λi E=>J3 _ ω) (λi j E V=>?_) ω;have S0:Src Z s.h pl w (.slice U f O) f y.size (λk=>B.row (m+k)) U O (λi j=>(c[q+((m+i)*y.size+j)]?).getD Go.undef):=by
   refine⟨rfl,λi E=>J3 _ ω,λi j E V=>⟨b,q+m*y.size,ya,?_⟩,λi j E V=>?_⟩;obtain⟨u,hu,hr⟩:=ZW (m+i) j ω V;rw[cell_of_row w b _ c el (0,0) hb,show q+m*y.size+(i*y.size+j)=q+((m+i)*y.size+j) by rw[VM];omega,hu];rfl;obtain⟨u,hu,hr⟩:=ZW (m+i) j ω V;simp only[hu,KW];exact hr
  exact S0.first C hw;obtain⟨u,hu,hr⟩:=ZW (m+i) j ω V;simp only[hu,KW];exact hr;cases h
 cases h
def QnA(f:Z8 P L){t:TypeId}{a x}(b:o.op=.call ⟨.builtin .append,#[a,x],#[t,t]⟩)(g:Qs s.fr a=.nil){p}{c}{d}(h:CW L s.h t .nil (Qs s.fr x)=some (p,c,d))(e:p):jz P base nt o s c d:=
 (Qnw f b g h e).up (by simp[calm,b])
def QnB(j:Z8 P L){t:TypeId}{c x}{l g a b}(e:o.op=.call ⟨.builtin .append,#[c,x],#[t,t]⟩)(k:Qs s.fr c=.ref l g a b){p}{f}{d}(h:CW L s.h t (.ref l g a b) (Qs s.fr x)=some (p,f,d))(i:p):jz P base nt o s f d:=
 (Qnx j e k h i).up (by simp[calm,e])
end
variable {Z:Nat->Prop}
def Aj(Z:Nat->Prop)(h:List Ob)(c:List Pl)(w:World)(a:List D)(b:Array Value):Prop:=b.size=a.length/\∀i,i<a.length->QD Z h c w (nth a i) (Q6 b.toList i)
def Qcc(a):∀(l:List Value) (n:Nat) (c:Array Value),((l.zipIdx n).foldl (λ(d:Array Value) (x:Value × Nat)=>d.setIfInBounds (a+x.2) x.1) c).size=c.size /\
  ∀k,(((l.zipIdx n).foldl (λ(d:Array Value) (x:Value × Nat)=>d.setIfInBounds (a+x.2) x.1) c)[k]?)=if a+n<=k/\k<a+n+l.length/\k<c.size then l[k-(a+n)]? else c[k]?
 | [],n,c=>⟨rfl,λk=>by rw[Qc ξ];rfl⟩
 | v::l,n,c=>by
  obtain⟨h,g⟩:=Qcc a l (n+1) (c.setIfInBounds (a+n) v);simp only[List.zipIdx_cons,jt];refine⟨by rw[h];simp,λk=>?_⟩;rw[g k];simp only[Array.size_setIfInBounds,Kw];by_cases f:k=a+n;subst f;rw[Qc ω,Array.getElem?_setIfInBounds_self];by_cases b:a+n<c.size;rw[Qd b,Qd ⟨ω,ω,b⟩];simp;rw[Qc b,Qc ω];simp;omega;rw[mX ω];by_cases e:a+n<=k/\k<a+n+(l.length+1)/\k<c.size;rw[Qd e,Qd ω];obtain⟨m,rfl⟩:∃m,k=a+n+(m+1):=⟨k-(a+n)-1,ω⟩;rw[show a+n+(m+1)-(a+(n+1))=m by omega,show a+n+(m+1)-(a+n)=m+1 by omega];simp;rw[Qc e,Qc ω]
def QnC(a)(v:Array Value)(c):v.zipIdx.foldl (λ(b:Array Value) (x:Value × Nat)=>b.setIfInBounds (a+x.2) x.1) c=(v.toList.zipIdx 0).foldl (λ(b:Array Value) (x:Value × Nat)=>b.setIfInBounds (a+x.2) x.1) c:=by
 rw[<- Array.foldl_toList,Array.toList_zipIdx]
def Aj.Bn{h}{j}{w}{b f:List D}{c d}{a}(r:Aj Z h j w b c)(q:Aj Z h j w f d)(k:a+f.length<=b.length):
  Aj Z h j w (Bn b a f) (d.zipIdx.foldl (λ(b:Array Value) (x:Value × Nat)=>b.setIfInBounds (a+x.2) x.1) c):=by
 obtain⟨n,m⟩:=Qcc a d.toList 0 c;rw[QnC];refine⟨by rw[n,r.1,bX k],λi l=>?_⟩;rw[bX k]at l;rw[Qb3 k];have e:Q6 (List.foldl (λ(b:Array Value) (x:Value × Nat)=>b.setIfInBounds (a+x.2) x.1) c (d.toList.zipIdx 0)).toList i=if a<=i/\i<a+f.length then Q6 d.toList (i-a) else Q6 c.toList i:=by
  simp only[Q6,QW,vE,m i,x6,Array.length_toList,q.1,r.1];by_cases g:a<=i/\i<a+f.length;rw[Qd ⟨g.1,g.2,l⟩,Qd g];rw[Qc ω,Qc g]
 rw[e];split;exact q.2 _ ω;exact r.2 _ l
def yc(b:Nat->Option (Nat × Nat))(a:List D):List (Nat × Option (List D))->Option (List D)
 | []=>some a
 | (i,some f)::e=>match b i with
  | some (c,d)=>bif Nat.beq f.length d&&Nat.ble (c+f.length) a.length then yc b (Bn a c f) e else none
  | none=>none
 | (_,none)::_=>none
def R9{h:List Ob}{pl:List Pl}{w:World}(b:Nat->Option (Nat × Nat))(f:Operand->D)(a:Act)(n:∀x,QD Z h pl w (f x) (a.eval x)):∀(parts:List (Nat × Operand)) (c j:List D) (e:Array Value),Aj Z h pl w c e ->
  yc b c (parts.map λx=>(x.1,Yf (f x.2)))=some j->∃g,Instr.fill b e (parts.map λx=>(x.1,a.eval x.2))=some g/\Aj Z h pl w j g
 | [],c,j,e,r,d=>by simp[yc]at d;subst d;exact⟨e,rfl,r⟩
 | (i,x)::parts,c,j,e,r,d=>by
  simp only[JT]at d ⊢;cases l:Yf (f x) with
  | none=>rw[l]at d;simp[yc]at d
  | some z=>
   rw[l]at d;simp only[yc]at d;cases k:b i with
   | none=>rw[k]at d;cases d
   | some s=>
    obtain⟨B,p⟩:=s;rw[k]at d;obtain⟨m,d⟩:=jy d;simp only[ZE,Wo,Ip]at m;obtain⟨o,t⟩:=nF (n x) l;have q:Aj Z h pl w z (a.eval x).cells:=⟨o,λi u=>(t i u).1⟩;obtain⟨g,y,v⟩:=R9 b f a n parts _ _ _ (r.Bn q m.2) d;refine⟨g,?_,v⟩;simp only[Instr.fill,k];rw[Qc (by simp only[o,r.1];simp;omega)];exact y
def nR{h}{pl}{w}{y:Ty}{z:Value}(a:z.cells.toList=y.zero):Aj Z h pl w (y.zero.map J2) z.cells:=by
 refine⟨by rw[<- a];simp,λi b=>?_⟩;rw[<- a]at b ⊢;have c:i<z.cells.size:=by simpa using b
 refine .cl _ _ ?_;simp only[nth,Q6,QW,KL,vE,jr c,KM,KW];exact CQ _ _ _
def NS(L:Jf):List (Nat × TypeId)->Option (List (Nat × Nat))
 | []=>some []
 | (a,u)::r=>match ty L u,NS L r with
  | some y,some b=>some ((a,y.size)::b)
  | _,_=>none
def Qcd{P}{L}(d:Z8 P L)(w):∀(b:List Field) (a:List (Nat × Nat)),NS L (b.map λf=>(f.offset,f.type))=some a->(b.mapM λf=>Prod.mk f.offset <$> sizeOf f.type).run P w=.ok a w
 | [],a,h=>by simp[NS]at h;subst h;simp
 | f::b,a,h=>by
  simp only[JT,NS]at h;split at h;rename_i y c g e;simp only[Q5]at h;subst h;simp[List.mapM_cons,(d _ _ g).sizeOf,Qcd d w b c e];cases h
def cu(L:Jf)(d:List (Nat × D))(t:TypeId)(a:List (Nat × Operand)):Option D:=
 match ty L t with
 | some y=>match y.k with
  | .struct g=>match NS L g with
   | some f=>match yc (λi=>f[i]?) (y.zero.map J2) (a.map λx=>(x.1,Yf (Qs d x.2))) with
    | some b=>some (.agg b)
    | none=>none
   | none=>none
  | .array _ e=>match ty L e with
   | some c=>match yc (λi=>some (i*c.size,c.size)) (y.zero.map J2) (a.map λx=>(x.1,Yf (Qs d x.2))) with
    | some b=>some (.agg b)
    | none=>none
   | none=>none
  | _=>none
 | none=>none
section
variable {P:Program}{L:Jf}{base nt:Nat}{s:St}{o:Oper}
def Aj.agg{h}{pl}{w}{b}{a}(r:Aj Z h pl w b a):QD Z h pl w (.agg b) (.agg a):=by
 have:=QD.agg (h:=h) (pl:=pl) (w:=w) b a.toList (by simpa using r.1) r.2;simpa using this
def QnE(i:Z8 P L){t:TypeId}{b:Array (Nat × Operand)}(v:o.op=.build t b){d}(h:cu L s.fr t b.toList=some d):Ww P base nt o s d:=by
 intro Z u a w r;unfold cu at h;split at h;rename_i y M;have c:=i _ _ M;obtain⟨z,hz,m⟩:=c.zeroValue;split at h;rename_i O f;split at h;rename_i q C;split at h;rename_i H l;simp only[Q5]at h;subst h;obtain⟨g,F,E⟩:=QbW c f;obtain⟨B,k,j⟩:=R9 (h:=s.h) (pl:=u) (w:=w) _ (Qs s.fr) a (λx=>r.eval x) b.toList _ _ _ (nR hz) l;refine⟨_,j.agg,λp _=>?_⟩;have I:=Qcd i p g.toList q (by rw[E];exact C);have K:Instr.fill (λx=>q[x]?) z.cells (List.map (λx=>(x.fst,a.eval x.snd)) b.toList)=some B:=k;simp[execOp,v,Instr.build,m,run_underlying F,Array.mapM_eq_mapM_toList,I,K];cases h;cases h;rename_i n e f;split at h;rename_i N J;split at h;rename_i H l;simp only[Q5]at h;subst h;obtain⟨B,k,j⟩:=R9 (h:=s.h) (pl:=u) (w:=w) _ (Qs s.fr) a (λx=>r.eval x) b.toList _ _ _ (nR hz) l;refine⟨_,j.agg,λp _=>?_⟩;simp[execOp,v,Instr.build,m,run_underlying (ni c f),(i _ _ J).sizeOf,k];cases h;cases h;cases h;cases h
def nT{a b:List D}{i}(h:i<a.length):nth (a++b) i=nth a i:=by simp only[nth,QW,JJ h]
def nU{a b:List D}{i}(h:a.length<=i):nth (a++b) i=nth b (i-a.length):=by simp only[nth,QW,Kc h]
def nV(n)(a:List D):(List.replicate n a).flatten.length=n*a.length:=σ
def Qce(a:List D):∀(n i:Nat),i<n*a.length->nth (List.replicate n a).flatten i=nth a (i%a.length)
 | 0,i,h=>by simp at h
 | n+1,i,h=>by
  rw[aZ,List.flatten_cons];rw[VM]at h;by_cases b:i<a.length;rw[nT b,qW b];rw[nU ω,Qce a n _ ω];congr 1;rw[Nat.mod_eq_sub_mod (by omega:a.length<=i)]
def Bv(b c:Nat)(a:List D):Nat->List D:=bif Nat.beq b 1 then λ_=>a else λk=>(a.drop (k*c)).take c
def cv(L:Jf)(c:List (Nat × D))(h:List Ob)(t:TypeId)(a:Nat)(b:List (Nat × Operand)):Option (Prop × List Ob × D):=
 match ty L t with
 | some ⟨.slice e,_,_,_⟩=>match ty L e with
  | some y=>match yc (λi=>some (i*y.size,y.size)) (List.replicate a (y.zero.map J2)).flatten (b.map λx=>(x.1,Yf (Qs c x.2))) with
   | some d=>some (a*y.size<=16777216/\y.zero.length=y.size,h++[⟨.arr,0,y.size,a,Bv a y.size d⟩],.ref h.length 0 0 a)
   | none=>none
  | none=>none
 | _=>none
def Qcf(b):∀(d:List (Nat × Option (List D))) (a c:List D),yc b a d=some c->c.length=a.length
 | [],a,c,h=>by simp[yc]at h;rw[h]
 | (i,none)::d,a,c,h=>by simp[yc]at h
 | (i,some f)::d,a,c,h=>by
  simp only[yc]at h;split at h;obtain⟨e,h⟩:=jy h;simp only[ZE,Wo,Ip]at e;rw[Qcf b d _ _ h,bX e.2];cases h
def QnF(W:Z8 P L){t:TypeId}{c}{g:Array (Nat × Operand)}(V:o.op=.buildSlice t c g){p}{h'}{d}(h:cv L s.fr s.h t c g.toList=some (p,h',d))(hp:p):jz P base nt o s h' d:=by
 intro Z u a w r KX;unfold cv at h;split at h;rename_i e _ _ _ he;split at h;rename_i y Bm;split at h;rename_i m R;simp only[Q5,Q9]at h;obtain⟨rfl,rfl,rfl⟩:=h;obtain⟨a0,GI⟩:=hp;have N:=W _ _ Bm;obtain⟨z,hz,zV⟩:=N.zeroValue;have EB:z.cells.size=y.size:=by rw[<- GI,<- hz];simp
 have U:=x7 (W _ _ he) rfl;have zr:=nR (Z:=Z) (h:=s.h) (pl:=u) (w:=w) hz;have I:(y.zero.map J2).length=y.size:=by simp[GI]
 have l:m.length=c*y.size:=by rw[Qcf _ _ _ _ R,nV,I]
 have E:∀zc:Array Value,(c*y.size=0->zc=#[])->(c*y.size≠0->zc=z.cells)->Aj Z s.h u w (List.replicate c (y.zero.map J2)).flatten ((Array.range (c*y.size)).map (zc[· % zc.size]!)):=by
  intro zc H n;refine⟨by rw[nV,I];simp,λi B=>?_⟩;rw[nV,I]at B;have QC:c*y.size≠0:=ω;have EC:=n QC;subst EC;have YX:0<y.size:=Nat.pos_of_ne_zero (λe=>QC (by rw[e];simp));rw[Qce _ _ _ (by rw[I];exact B),I];have C:=zr.2 (i%y.size) (by rw[I];exact WM _ YX);have Y:i%y.size<z.cells.size:=by rw[EB];exact WM _ YX
  have:Q6 (Array.map (λx=>z.cells[x%z.cells.size]!) (Array.range (c*y.size))).toList i=Q6 z.cells.toList (i%y.size):=by
   simp only[Q6,QW,vE,Array.getElem?_map,Array.getElem?_range,B,Vu,KM,KW,EB];rw[getElem!_pos z.cells _ Y,jr Y];rfl
  rw[this];exact C
 have K:∀k:Array Value,Aj Z s.h u w m k->(execOp a.eval o).run P w=.ok (.value (.slice (some ⟨w.heap.size,0,none⟩) c c)) (w.alloc (.cells k e)) ->
   ∃v F Q,((execOp a.eval o).run P w=.ok (.value v) F\/((execOp a.eval o).run P w=.ok .skip F/\v=Go.undef))/\Tr s.h u w (s.h++[⟨.arr,0,y.size,c,Bv c y.size m⟩]) Q F /\
    Zh Z base (s.h++[⟨.arr,0,y.size,c,Bv c y.size m⟩]) Q F/\QD Z (s.h++[⟨.arr,0,y.size,c,Bv c y.size m⟩]) Q F (.ref s.h.length 0 0 c) v/\Below base w F/\(calm o=true->Ext w F):=by
  intro k M Za;have J:∀b,b<w.heap.size->(w.alloc (.cells k e)).heap[b]? = w.heap[b]? := λb hb=>wW w _ b hb;have JZ:(w.alloc (.cells k e)).heap[w.heap.size]?=some (.cells k e (0,0)):=heap_alloc_new w _;have Ze:u.length=s.h.length:=r.o.len;have T:Tr s.h u w (s.h++[⟨.arr,0,y.size,c,Bv c y.size m⟩]) (u++[some (w.heap.size,0)]) (w.alloc (.cells k e)):=Tr.push r.o J _ _ (by intro b q h;simp at h;omega);have ZW:∀i,i<c->(Bv c y.size m i).length=y.size/\∀j,j<y.size->nth (Bv c y.size m i) j=nth m (i*y.size+j):=by
   intro i B;unfold Bv;by_cases n:c=1;subst n;have:i=0:=ω;subst this;simp[l];have:Nat.beq c 1=false:=by rw[<- Ya,Wo];exact n
   rw[this];have C:=XC y.size (show i+1<=c from B);rw[VM]at C;refine⟨by simp[l];omega,λj O=>?_⟩;simp only[zT];rw[nz O,GC]
  refine⟨_,_,_,.inl Za,T,Zh.push r.o J _ rfl (QB _) KX JZ (by simp[M.1,l]) (λi B=>(ZW i B).1) (λi j B O=>?_),.ref _ _ _ _ ⟨.arr,0,y.size,c,Bv c y.size m⟩ (some (w.heap.size,0)) _ c σ (by rw[<- Ze];simp) rfl (QB _) (λ_=>.inr ⟨w.heap.size,0,k,e,rfl,σ,JZ,by simp[M.1,l],QB _⟩),EA KX _,λ_=>J⟩;have Wc:j<y.size:=O;have Jl:i<c:=B;have C:=XC y.size (show i+1<=c from Jl);rw[VM]at C;have Qb:i*y.size+j<m.length:=ω;refine⟨Q6 k.toList (i*y.size+j),?_,?_⟩;have:i*y.size+j<k.size:=by rw[M.1];exact Qb
  simp only[Jz,Q6,QW,vE,jr this,KW];show QD _ _ _ _ (nth (Bv c y.size m i) j) _;rw[(ZW i Jl).2 j Wc];exact(M.2 _ Qb).tr T
 by_cases H:c*y.size=0;obtain⟨k,n,C⟩:=R9 (h:=s.h) (pl:=u) (w:=w) _ (Qs s.fr) a (λx=>r.eval x) g.toList _ _ _ (E #[] (λ_=>rfl) (λh=>absurd H h)) R;rw[H]at n;have e0:Array.map (λx=>(#[]:Array Value)[x%(#[]:Array Value).size]!) (Array.range 0)=#[]:=σ;rw[e0]at n;have J:∀f:Nat->Value,Array.map f (Array.range 0)=#[]:=λf=>Array.eq_empty_of_size_eq_zero σ;refine K k C ?_;simp[execOp,V,Instr.buildSlice,run_underlying U,N.sizeOf,H,newRow,n,J];obtain⟨k,n,C⟩:=R9 (h:=s.h) (pl:=u) (w:=w) _ (Qs s.fr) a (λx=>r.eval x) g.toList _ _ _ (E z.cells (λh=>absurd h H) (λ_=>rfl)) R;refine K k C ?_;have S:¬ (16777216<c*y.size):=ω;simp[execOp,V,Instr.buildSlice,run_underlying U,N.sizeOf,zV,H,S,newRow,n];cases h;cases h;cases h
end
variable {Z:Nat->Prop}
def kz(b:List (Nat × D))(a:Int):Option Operand->Option Int
 | none=>some a
 | some x=>match Qs b x with
  | .raw (.int _ i)=>some i
  | _=>none
def Qcg{P:Program}(w:World){k:IntKind}{i:Int}{y:Nat}{c:BoundsCode}(b:0<=i)(a:i<=y):(Instr.sliceBound (.int k i) y c).run P w=.ok i.toNat w:=by
 simp[Instr.sliceBound,asIntOf,b,a]
def cw{P:Program}{p F:Nat}{s:St}{E:List Pl}{a:Act}{C:World}(r:Rel Z p F s E a C)(w:World)(b:Bool)(e f:Nat)(t q:Option Operand){l u:Int}(y:kz s.fr 0 t=some l)(g:kz s.fr e q=some u)
  (J:0<=l) (L:l<=u) (K:u<=e) (N:e<=f):(Instr.sliceBounds b e f (t.map a.eval) (q.map a.eval) none).run P w=.ok (l.toNat,u.toNat,f) w:=by
 have get:∀(x:Operand) (d:Int) (i:Int),kz s.fr d (some x)=some i->∃k,a.eval x=.int k i:=by
  intro x d i h;have H:=r.eval x;simp only[kz]at h;generalize Qs s.fr x=M at *;split at h;rename_i k j;simp only[Q5]at h;subst h;exact⟨k,Ju H⟩;cases h
 have o:∀(v:Value) (m:Nat) (c:BoundsCode),(∃k,v=.int k u)->u<=m->(Instr.sliceBound v m c).run P w=.ok u.toNat w:=by
  rintro v m c ⟨k,rfl⟩ I;exact Qcg w ω I
 have n:∀(v:Value) (c:BoundsCode),(∃k,v=.int k l)->(Instr.sliceBound v u.toNat c).run P w=.ok l.toNat w:=by
  rintro v c ⟨k,rfl⟩;exact Qcg w J ω
 cases t with
 | none=>
  simp only[kz,Q5]at y;subst y;cases q with
  | none=>simp only[kz,Q5]at g;subst g;simp[Instr.sliceBounds]
  | some x=>
   have hx:=get x e u g;cases b<;>simp[Instr.sliceBounds,o _ f _ hx ω]
 | some z=>
  have hz:=get z 0 l y;cases q with
  | none=>
   simp only[kz,Q5]at g;have:u.toNat=e:=ω;have B:=λc=>n (a.eval z) c hz;rw[this]at B;simp[Instr.sliceBounds,B,this]
  | some x=>
   have hx:=get x e u g;cases b<;>simp[Instr.sliceBounds,o _ f _ hx ω,n _ _ hz]
def cz(L:Jf)(c:List (Nat × D))(h:List Ob)(t:TypeId)(d:D)(j k:Option Operand):Ev:=
 match ty L t with
 | some ⟨.slice e,_,_,_⟩=>match ty L e with
  | some y=>match d with
   | .ref l g p f=>match h[l]?,kz c 0 j,kz c f k with
    | some o,some a,some b=>some (g=o.gen/\o.sz=y.size/\0<=a/\a<=b/\b<=f,.ref l g (p+a.toNat) (b-a).toNat)
    | _,_,_=>none
   | .imm z n m=>match kz c 0 j,kz c n k with
    | some a,some b=>some (z=y.size/\0<=a/\a<=b/\b<=n,.imm z (b-a).toNat λi=>m (a.toNat+i))
    | _,_=>none
   | .nil=>match kz c 0 j,kz c 0 k with
    | some a,some b=>some (a=0/\b=0,.nil)
    | _,_=>none
   | _=>none
  | none=>none
 | some ⟨.str,_,_,_⟩=>match d with
  | .raw (.string s)=>match kz c 0 j,kz c s.size k with
   | some a,some b=>some (0<=a/\a<=b/\b<=s.size,.raw (.string (s.extract a.toNat b.toNat)))
   | _,_=>none
  | _=>none
 | _=>none
section
variable {P:Program}{L:Jf}{base nt:Nat}{s:St}{o:Oper}
def QnI(hL:Z8 P L){t:TypeId}{x}{H m}(T:o.op=.slice t x H m none){p}{d}(h:cz L s.fr s.h t (Qs s.fr x) H m=some (p,d))(S:p):Ww P base nt o s d:=by
 intro Z pl a w r;have hx:=r.eval x;unfold cz at h;split at h;rename_i e _ _ _ he;have I:=x7 (hL _ _ he) rfl;split at h;rename_i y Bm;have W:=hL _ _ Bm;generalize Qs s.fr x=dx at *;split at h;rename_i l g Q R;split at h;rename_i ob k N Zg E F;simp only[Q5,Q9]at h;obtain⟨rfl,rfl⟩:=h;obtain⟨hg,JA,M,K,J⟩:=S;obtain⟨o',p',C,f,B,ZG,Z3,ZI,ko,KN⟩:=Ex hx;rw[Zg]at ZG;cases ZG;have CU:R<=f:=by
  rcases KN hg with ⟨h3,h4⟩|⟨_,_,_,_,_,_,_,_,h3⟩<;>omega
 refine⟨.slice (if f=k.toNat then C else C.map (·.add (k.toNat*y.size))) (N-k).toNat (f-k.toNat),?_,λv _=>?_⟩;refine .ref _ _ _ _ ob p' _ _ Zg Z3 ZI ko (λ_=>?_);rcases KN hg with ⟨h3,h4⟩|⟨b,q,c,el,Wv,V,u,JI,h3⟩;exact .inl ⟨ω,ω⟩;by_cases U:f=k.toNat
 exact .inl ⟨ω,ω⟩;refine .inr ⟨b,q,c,el,Wv,?_,u,?_,ω⟩;rw[Qc U,V,KM,Af,JA,VM];simp only[Q5,Addr.mk.injEq,and_true,vM];omega;rw[show Q+k.toNat+(f-k.toNat)=Q+f by omega];exact JI;have u:=cw (P:=P) r v true R f H m E F M K J CU;simp[execOp,T,Instr.sliceAt,run_underlying I,Instr.slice,B,u,W.sizeOf];omega;cases h;rename_i z n a0;split at h;rename_i k N E F;simp only[Q5,Q9]at h;obtain⟨rfl,rfl⟩:=h;obtain⟨rfl,M,K,J⟩:=S;obtain⟨C,f,b,q,vs,B,V,CU,hs,U⟩:=RY hx;refine⟨.slice (if f=k.toNat then C else C.map (·.add (k.toNat*y.size))) (N-k).toNat (f-k.toNat),.cl _ _ ?_,λv _=>?_⟩;refine .imm _ _ _ _ _ b (q+k.toNat*y.size) (λi j=>vs (k.toNat+i) j) (λYX=>?_) ω (λi m=>hs _ ω) (λi j m Y=>?_) (λi j m Y=>(U (k.toNat+i) j ω Y).2);rw[Qc ω,V ω,KM,Af];obtain⟨⟨g1,g2⟩,_⟩:=U (k.toNat+i) j ω Y;refine⟨g1,?_⟩;rw[<- g2];congr 2;rw[VM];omega;have u:=cw (P:=P) r v true n f H m E F M K J CU;simp[execOp,T,Instr.sliceAt,run_underlying I,Instr.slice,B,u,W.sizeOf];omega;cases h;split at h;rename_i k N E F;simp only[Q5,Q9]at h;obtain⟨rfl,rfl⟩:=h;obtain⟨rfl,rfl⟩:=S;obtain⟨C,B⟩:=Ae hx;refine⟨.slice C 0 0,.cl _ _ (.nil _),λv _=>?_⟩;have u:=cw (P:=P) r v true 0 0 H m E F ω ω ω (QB _);simp[execOp,T,Instr.sliceAt,run_underlying I,Instr.slice,B,u,W.sizeOf];cases h;cases h;cases h;rename_i he;have I:=RX (hL _ _ he) rfl;generalize Qs s.fr x=dx at *;split at h;rename_i O;split at h;rename_i k N E F;simp only[Q5,Q9]at h;obtain⟨rfl,rfl⟩:=h;obtain⟨M,K,J⟩:=S;have B:=Ju hx;refine⟨_,.cl _ _ (.raw _),λv _=>?_⟩;have u:=cw (P:=P) r v false O.size O.size H m E F M K J (QB _);simp[execOp,T,Instr.sliceAt,run_underlying I,Instr.slice,B,u];cases h;cases h;cases h
end
def q7:Value->Value->Option Bool
 | .int k a,.int c b=>bif IntKind.same k c then some (a==b) else none
 | .bool a,.bool b=>some (a==b)
 | .string a,.string b=>some (a.toList==b.toList)
 | _,_=>none
def kB:List Value->List Value->Option Bool
 | [],[]=>some true
 | a::r,b::q=>match q7 a b,kB r q with
  | some x,some y=>some (x&&y)
  | _,_=>none
 | _,_=>none
def cat:Value->Nat
 | .int _ _=>0
 | .bool _=>1
 | .string _=>2
 | _=>3
def NT(P:Program)(b:TypeId->Option (List Nat)):List Field->Nat->Option (List Nat)
 | [],_=>some []
 | f::c,a=>match b f.type with
  | some l => if f.name ≠ "_" /\ f.offset = a /\ P.cellsOf f.type = l.length then (NT P b c (a + l.length)).map (l ++ ·) else none
  | none=>none
def qy(P:Program):Nat->TypeId->Option (List Nat)
 | 0,_=>none
 | d+1,t=>match P.underlying t with
  | some (.int _)=>some [0]
  | some .bool=>some [1]
  | some .string=>some [2]
  | some (.struct a)=>if P.stoodInHeld t then none else NT P (qy P d) a.toList 0
  | some (.array n e)=>match qy P d e with
   | some l=>if P.cellsOf e=l.length then some (List.replicate n l).flatten else none
   | none=>none
  | _=>none
def nW:∀(a b c d:List Value) (r:Bool),a.length=b.length->kB (a++c) (b++d)=some r->∃x y,kB a b=some x/\kB c d=some y/\r=(x&&y)
 | [],[],c,d,r,_,h=>⟨true,r,rfl,h,σ⟩
 | [],_::_,_,_,_,h,_=>by simp at h
 | _::_,[],_,_,_,h,_=>by simp at h
 | u::a,v::b,c,d,r,i,h=>by
  simp only[YT,kB]at h;split at h;rename_i x y hx g;simp only[Q5]at h;obtain⟨f,e,l,k,j⟩:=nW a b c d y (by simpa using i) g;exact⟨x&&f,e,by simp[kB,hx,l],k,by rw[<- h,j,Bool.and_assoc]⟩;cases h
def valOf(P:Program)(t:TypeId)(a:List Value):Value:=
 match P.underlying t with
 | some (.struct _)|some (.array _ _)=>.agg a.toArray
 | _=>Q6 a 0
def nX(P:Program)(D:Nat)(t:TypeId)(l:List Nat):Prop:=
 ∀(w:World) (b a:List Value) (r:Bool),b.map cat=l->a.map cat=l->kB b a=some r->(Op.equalIn D t (valOf P t b) (valOf P t a)).run P w=.ok r w
def Sa{P:Program}{d}{t:TypeId}{l:List Nat}(h:qy P d t=some l)(j:P.cellsOf t=l.length)(w)(c:List Value)(b)(e:b+l.length<=c.length):
  (part t c.toArray b).run P w=.ok (valOf P t ((c.drop b).take l.length)) w:=by
 cases d with
 | zero=>simp[qy]at h
 | succ d=>
  unfold qy at h;cases a:P.underlying t with
  | none=>rw[a]at h;cases h
  | some k=>
   obtain⟨i,g⟩:=info_of_underlying a;have f:(sizeOf t).run P w=.ok l.length w:=by
    rw[run_sizeOf w g,j]
   rw[a]at h;cases k<;>first|(cases h;done)|skip
   case bool=>
    cases h;have:b<c.length:=by simp at e;omega
    simp[part,isAgg,run_underlying a,valOf,a,Q6,this]
   case int=>
    cases h;have:b<c.length:=by simp at e;omega
    simp[part,isAgg,run_underlying a,valOf,a,Q6,this]
   case string=>
    cases h;have:b<c.length:=by simp at e;omega
    simp[part,isAgg,run_underlying a,valOf,a,Q6,this]
   case array=>simp[part,isAgg,run_underlying a,valOf,a,f]
   case struct=>simp[part,isAgg,run_underlying a,valOf,a,f]
def Qch{P}(d D)(u:∀t l,qy P d t=some l->nX P D t l)(w):∀(k:List Field) (a:Nat) (l:List Nat) (c b:List Value) (r:Bool),NT P (qy P d) k a=some l ->
  (c.drop a).map cat=l->(b.drop a).map cat=l->a<=c.length->a<=b.length->kB (c.drop a) (b.drop a)=some r->(Op.eqFields D c.toArray b.toArray k).run P w=.ok r w
 | [],a,l,c,b,r,h,hx,g,L,K,i=>by
  simp[NT]at h;subst h;simp only[List.map_eq_nil_iff]at hx g;rw[hx,g]at i;simp[kB]at i;simp[Op.eqFields,i]
 | f::k,a,l,c,b,r,h,hx,g,L,K,i=>by
  simp only[NT]at h;split at h;rename_i e o;split at h;rename_i J;obtain⟨I,H,p⟩:=J;simp only[VT]at h;obtain⟨n,R,rfl⟩:=h;have j:(c.drop a).length=e.length+n.length:=by rw[<- Kj (f:=cat),hx,Zk]
  have m:(b.drop a).length=e.length+n.length:=by rw[<- Kj (f:=cat),g,Zk]
  have s:c.drop a=(c.drop a).take e.length++c.drop (a+e.length):=by rw[<- List.drop_drop,Bh]
  have q:b.drop a=(b.drop a).take e.length++b.drop (a+e.length):=by rw[<- List.drop_drop,Bh]
  rw[s,ju]at hx;rw[q,ju]at g;obtain⟨O,Q⟩:=aQ hx (by simp at j ⊢;omega);obtain⟨z,v⟩:=aQ g (by simp at m ⊢;omega);rw[s,q]at i;obtain⟨x,y,N,M,rfl⟩:=nW _ _ _ _ _ (by simp at j m ⊢;omega) i;have F:=Sa o p w c a (by simp at j;omega);have E:=Sa o p w b a (by simp at m;omega);have C:=u _ _ o w _ _ x O z N;have B:=Qch d D u w k (a+e.length) n c b y R Q v (by simp at j;omega) (by simp at m;omega) M;simp only[Op.eqFields,I,ne_eq,not_false_eq_true,Vu,Sem.run_bind,H,F,E,C,Result.andThen_ok];cases x;simp;simpa using B;cases h;cases h
def Qci{P:Program}{d D}{e:TypeId}{l:List Nat}(n:qy P d e=some l)(h:P.cellsOf e=l.length)(t:nX P D e l)(w):∀(m i:Nat) (b a:List Value) (r:Bool),
  (b.drop (i*l.length)).map cat=(List.replicate m l).flatten->(a.drop (i*l.length)).map cat=(List.replicate m l).flatten->i*l.length<=b.length->i*l.length<=a.length->kB (b.drop (i*l.length)) (a.drop (i*l.length))=some r ->
  (Op.eqItems D e (P.cellsOf e) b.toArray a.toArray (List.range' i m)).run P w=.ok r w
 | 0,i,b,a,r,hx,c,_,_,g=>by
  simp only[List.replicate_zero,List.flatten_nil,List.map_eq_nil_iff]at hx c;rw[hx,c]at g;simp[kB]at g;simp[Op.eqItems,g]
 | m+1,i,b,a,r,hx,c,K,J,g=>by
  rw[aZ,List.flatten_cons]at hx c;have j:(b.drop (i*l.length)).length=l.length+(List.replicate m l).flatten.length:=by rw[<- Kj (f:=cat),hx,Zk]
  have k:(a.drop (i*l.length)).length=l.length+(List.replicate m l).flatten.length:=by rw[<- Kj (f:=cat),c,Zk]
  have p:i*l.length+l.length=(i+1)*l.length:=by rw[VM];omega
  have s:b.drop (i*l.length)=(b.drop (i*l.length)).take l.length++b.drop ((i+1)*l.length):=by rw[<- p,<- List.drop_drop,Bh]
  have q:a.drop (i*l.length)=(a.drop (i*l.length)).take l.length++a.drop ((i+1)*l.length):=by rw[<- p,<- List.drop_drop,Bh]
  rw[s,ju]at hx;rw[q,ju]at c;obtain⟨H,I⟩:=aQ hx (by simp at j ⊢;omega);obtain⟨v,u⟩:=aQ c (by simp at k ⊢;omega);rw[s,q]at g;obtain⟨x,y,F,E,rfl⟩:=nW _ _ _ _ _ (by simp at j k ⊢;omega) g;have C:=Sa n h w b (i*l.length) (by simp at j;omega);have B:=Sa n h w a (i*l.length) (by simp at k;omega);have z:=t w _ _ x H v F;have o:=Qci n h t w m (i+1) b a y I u (by simp at j;omega) (by simp at k;omega) E;rw[List.range'_succ];simp only[Op.eqItems,Sem.run_bind,h,C,B,z,Result.andThen_ok];cases x;simp;rw[h]at o;simpa using o
def cA{P}:∀(d D:Nat) (t:TypeId) (l:List Nat),d<=D->qy P d t=some l->nX P D t l
 | 0,_,_,_,_,h=>by simp[qy]at h
 | d+1,0,_,_,Q,_=>ω
 | d+1,D+1,t,l,Q,h=>by
  intro w p o r hx C j;have U:=h;unfold qy at h;cases g:P.underlying t with
  | none=>rw[g]at h;cases h
  | some k=>
   rw[g]at h;have one:∀c:Nat,l=[c]->∃a b,p=[a]/\o=[b]/\cat a=c/\cat b=c/\q7 a b=some r:=by
    intro c M;subst M;have K:p.length=1:=by rw[<- Kj (f:=cat),hx];rfl
    have T:o.length=1:=by rw[<- Kj (f:=cat),C];rfl
    match p,o,K,T with
    | [a],[b],_,_=>
     refine⟨a,b,rfl,rfl,by simpa using hx,by simpa using C,?_⟩;simp only[kB]at j;split at j;rename_i x y S F;simp at F j;subst F;simp at j;rw[S,j];cases j
   cases k<;>first|(cases h;done)|skip
   case bool=>
    simp only[Q5]at h;obtain⟨a,b,rfl,rfl,v,u,m⟩:=one 1 h.symm;cases a<;>simp[cat]at v;cases b<;>simp[cat]at u;simp[q7]at m;subst m;simp[valOf,g,Q6,run_equalIn_bool' w D t _ _ g]
   case int q=>
    simp only[Q5]at h;obtain⟨a,b,rfl,rfl,v,u,m⟩:=one 0 h.symm;cases a<;>simp[cat]at v;cases b<;>simp[cat]at u;simp only[q7]at m;obtain⟨N,B⟩:=jy m;have:=IntKind.ns N;subst this;simp only[Q5]at B;subst B;simp[valOf,g,Q6,run_equalIn_int w D t _ _ _ _ g]
   case string=>
    simp only[Q5]at h;obtain⟨a,b,rfl,rfl,v,u,m⟩:=one 2 h.symm;cases a<;>simp[cat]at v;cases b<;>simp[cat]at u;simp only[q7,Q5]at m;subst m;simp[valOf,g,Q6,run_equalIn_string w D t _ _ g]
   case array n e=>
    replace h:(match qy P d e with|some l=>if P.cellsOf e=l.length then some (List.replicate n l).flatten else none|none=>none)=some l:=h;split at h;rename_i J s;split at h;rename_i R;simp only[Q5]at h;subst h;have I:∃i,P.info? e=some i:=by
     cases d with
     | zero=>simp[qy]at s
     | succ V=>
      unfold qy at s;cases z:P.underlying e with
      | none=>rw[z]at s;cases s
      | some _=>exact info_of_underlying z
    obtain⟨i,O⟩:=I;have:=Qci s R (cA d D e J ω s) w n 0 p o r (by simpa using hx) (by simpa using C) σ σ (by simpa using j);rw[<- List.range_eq_range']at this;simp only[valOf,g];rw[run_equalIn_array w D p.toArray o.toArray g O];exact this;cases h;cases h
   case struct E=>
    replace h:(if P.stoodInHeld t then none else NT P (qy P d) E.toList 0)=some l:=h;split at h;cases h;rename_i L;have H:P.fieldsOf t=E:=by simp[Program.fieldsOf,g]
    simp only[valOf,g];rw[run_equalIn_struct w D t _ _ (by rw[H];exact g) (by simpa using L),H];exact Qch d D (λt l h=>cA d D t l ω h) w E.toList 0 l p o r h (by simpa using hx) (by simpa using C) σ σ (by simpa using j)
abbrev CY:=List (TypeId × List Nat)
def Bx:CY->TypeId->Option (List Nat)
 | [],_=>none
 | (u,l)::r,t=>bif Nat.beq u t then some l else Bx r t
structure nZ (P:Program) (t:TypeId) (l:List Nat):Prop where
 shape:qy P 60 t=some l
 guard:P.eqGuardType P.depth t=false
 agg:(match P.underlying t with|some (.struct _)|some (.array _ _)=>true|_=>false)=true
def An(P:Program)(E:CY):Prop:=∀t l,Bx E t=some l->nZ P t l
def An.nil(P):An P []:=λ_ _ h=>by simp[Bx]at h
def An.cons{P}{E}{t:TypeId}{l}(h:nZ P t l)(r:An P E):An P ((t,l)::E):=λu z e=>by
 simp only[Bx]at e;by_cases a:t=u;subst a;simp at e;subst e;exact h;have:Nat.beq t u=false:=by rw[<- Ya,Wo];exact a
 rw[this]at e;exact r u z e
def ED:List D->Option (List Value)
 | []=>some []
 | .raw v::r=>match ED r with
  | some l=>some (v::l)
  | none=>none
 | _=>none
def IQ:List Nat->List Nat->Bool
 | [],[]=>true
 | a::r,b::q=>Nat.beq a b&&IQ r q
 | _,_=>false
def cB:∀{a b:List Nat},IQ a b=true->a=b
 | [],[],_=>rfl
 | [],_::_,h=>by cases h
 | _::_,[],h=>by cases h
 | a::r,b::q,h=>by
  simp only[IQ,ZE,Wo]at h;rw[h.1,cB h.2]
def cC{h}{f}{w}:∀{d:List D} {l:List Value},ED d=some l->∀(a:List Value),a.length=d.length->(∀i,i<d.length->QD Z h f w (nth d i) (Q6 a i))->a=l
 | [],l,e,a,b,_=>by simp[ED]at e;subst e;exact List.eq_nil_of_length_eq_zero (by simpa using b)
 | c::d,l,e,a,b,g=>by
  cases c<;>simp only[ED,reduceCtorEq]at e;rename_i v;split at e;rename_i o m;simp only[Q5]at e;subst e;match a,b with
  | u::j,b=>
   have k:=Ju (g 0 σ:QD Z h f w (.raw v) u);have:=cC m j (by simpa using b) (λi p=>by have:=g (i+1) ξ;simpa[nth,Q6] using this);have n:u=v:=k;rw[n,this]
  cases e
def cD(E:CY)(c:BinOp)(t:TypeId):D->D->Ev
 | .agg a,.agg b=>match Bx E t,ED a,ED b with
  | some l,some x,some y=>bif IQ (x.map cat) l&&IQ (y.map cat) l then match kB x y with
   | some r=>match c with
    | .eql=>some (True,.raw (.bool r))
    | .neq=>some (True,.raw (.bool (!r)))
    | _=>none
   | none=>none
   else none
  | _,_,_=>none
 | _,_=>none
def QnJ{P}{E}(N:An P E){g I}{s}{o:Oper}{v}{t H:TypeId}{x y}(C:o.op=.binOp v t x y H){p}{d}
  (h:cD E v t (Qs s.fr x) (Qs s.fr y)=some (p,d)):Ww P g I o s d:=by
 intro Z pl a w r;have hx:=r.eval x;have K:=r.eval y;unfold cD at h;generalize Qs s.fr x=dx at *;generalize Qs s.fr y=dy at *;split at h;split at h;rename_i l xs ys M W V;obtain⟨k,b⟩:=jy h;simp only[ZE]at k;have q:=cB k.1;have n:=cB k.2;split at b;rename_i u L;obtain⟨j,B,J,Y⟩:=ID hx;obtain⟨i,z,S,T⟩:=ID K;have R:=cC W j J Y;have Q:=cC V i S T;subst R;subst Q;obtain⟨U,F,f⟩:=N _ _ M;have e:∀c,(Op.equalIn 10000 t (.agg j.toArray) (.agg i.toArray)).run P c=.ok u c:=by
  intro c;have:=cA 60 10000 t l ω U c j i u q n L;unfold valOf at this;split at this;exact this;exact this;rename_i O b;split at f;rename_i m;exact absurd m (O _);rename_i m;exact absurd m (b _ _);cases f
 split at b;simp only[Q5,Q9]at b;obtain⟨rfl,rfl⟩:=b;refine⟨_,.cl _ _ (.raw _),λc _=>?_⟩;simp[execOp,C,B,z,run_eqGuard_agg c .eql t x y _ _ F,run_eql_struct,e];simp only[Q5,Q9]at b;obtain⟨rfl,rfl⟩:=b;refine⟨_,.cl _ _ (.raw _),λc _=>?_⟩;simp[execOp,C,B,z,run_eqGuard_agg c .neq t x y _ _ F,run_neq_struct,e];cases b;cases b;cases h;cases h
end Go.Fg
namespace Go.Fg
def Vv(P:Program){c:Type}(m:Sem c):Prop:=∀w x a,m.run P w=.ok x a->a=w/\∀b,m.run P b=.ok x b
section
variable {P:Program}{α β:Type}
def Vv.pure(a:α):Vv P (pure a:Sem α):=λw x b h=>by
 simp at h;obtain⟨rfl,rfl⟩:=h;exact⟨rfl,λc=>σ⟩
def Vv.never{m:Sem α}(b:∀w x a,m.run P w≠.ok x a):Vv P m:=λw x a h=>absurd h (b w x a)
def Vv.bind{m:Sem α}{k:α->Sem β}(l:Vv P m)(j:∀a,Vv P (k a)):Vv P (m >>= k):=λw x f h=>by
 rw[Sem.run_bind]at h;cases b:m.run P w with
 | halt e c=>rw[b]at h;cases h
 | ok a c=>
  rw[b]at h;simp only[Result.andThen_ok]at h;obtain⟨rfl,i⟩:=l w a c b;obtain⟨rfl,g⟩:=j a _ x f h;exact⟨rfl,λd=>by rw[Sem.run_bind,i d];simp only[Result.andThen_ok];exact g d⟩
def Vv.stuck(s:String):Vv P (Go.stuck s:Sem α):=Vv.never λw x a h=>by cases h
def Vv.halt(e:Halt):Vv P (.halt e:Sem α):=Vv.never λw x a h=>by cases h
def Vv.program:Vv P program:=λw x a h=>by
 simp at h;obtain⟨rfl,rfl⟩:=h;exact⟨rfl,λb=>σ⟩
def Vv.typeInfo(t):Vv P (typeInfo t):=.bind .program λp=>by
 split;exact .pure _;exact .stuck _
def Vv.underlying(t):Vv P (underlying t):=.bind .program λp=>by
 split;exact .pure _;exact .stuck _
def Vv.panic:Vv P (runtimePanic .nilDeref:Sem α):=.bind .program λp=>.halt _
def Vv.sizeOf(t):Vv P (sizeOf t):=.bind (.typeInfo t) λ_=>.pure _
def Vv.isAgg(t):Vv P (isAgg t):=.bind (.underlying t) λd=>by
 split<;>exact .pure _
def Vv.part(t)(a)(i):Vv P (part t a i):=by
 unfold Go.part
 repeat' (first|exact .pure _|exact .stuck _|refine .bind (.isAgg _) λ_=>?_|refine .bind (.sizeOf _) λ_=>?_|refine .bind (.typeInfo _) λ_=>?_|refine .bind (.underlying _) λ_=>?_|split)
def Vv.blind:∀(l:List FieldStep) (t:TypeId) (x:Option Value),Vv P (Go.followBlind l t x)
 | [],_,_=>.pure _
 | s::r,t,x=>by
  unfold Go.followBlind
  repeat' (first|exact .pure _|exact .stuck _|exact Vv.blind r _ _|refine .bind (.part _ _ _) λ_=>?_|refine .bind (.underlying _) λ_=>?_|split)
def Vv.nilAhead:∀(n:Nat) (t:TypeId) (v:Value) (a:String),Vv P (Go.nilAhead n t v a)
 | 0,_,_,_=>.pure _
 | n+1,t,v,a=>by
  unfold Go.nilAhead
  repeat' (first|exact .pure _|exact .stuck _|exact Vv.nilAhead n _ _ _|refine .bind (.blind _ _ _) λ_=>?_|refine .bind (.typeInfo _) λ_=>?_|refine .bind (.underlying _) λ_=>?_|split)
def Vv.nilCheck{o:Oper}{x}(b:o.op=.nilCheck x)(a):Vv P (execOp a o):=by
 simp only[execOp,b]
 repeat' (first|exact .pure _|exact .stuck _|exact .panic|exact .halt _|(refine .bind (.halt _) λ_=>?_)|refine .bind (.nilAhead _ _ _ _) λ_=>?_|refine .bind .program λ_=>?_|split)
end
end Go.Fg
namespace Go.Fg
open Go.RowKit (Below)
open Go.Instr
def IS(q:IntKind)(a:List MapEntry):Prop:=∀e∈a,∃n,e.key=.int q n
def cF{q}{k}:∀{a:List MapEntry} {i:Nat},IS q a->(∀e∈a,e.key≠.int q k)->findNow (.int q) (.int q k) a i=some none
 | [],_,_,_=>rfl
 | e::a,i,h,c=>by
  obtain⟨n,d⟩:=h e (Ky ..);have f:(k==n)=false:=by
   rw[jv];rintro rfl;exact c e (Ky ..) d
  simp only[findNow,d,sameNow,Vu,f];exact cF (λe b=>h e (J8 _ b)) (λe b=>c e (J8 _ b))
def cG{q}{k}:∀{a:List MapEntry} {i0 i:Nat} {e:MapEntry},IS q a->a[i]?=some e->e.key=.int q k->(∀(j:Nat) (b:MapEntry),j<i->a[j]?=some b->b.key≠.int q k) ->
  findNow (.int q) (.int q k) a i0=some (some (i0+i,e.val))
 | [],_,_,_,_,h,_,_=>by simp at h
 | x::a,i0,i,e,g,h,c,f=>by
  obtain⟨n,hx⟩:=g x (Ky ..);cases i with
  | zero=>
   simp at h;subst h;rw[hx]at c;obtain rfl:n=k:=by simpa using c
   simp[findNow,hx,sameNow]
  | succ i=>
   have l:(k==n)=false:=by
    rw[jv];rintro rfl;exact f 0 x ω rfl hx
   simp only[findNow,hx,sameNow,Vu,l];rw[cG (i0:=i0+1) (λe d=>g e (J8 _ d)) (by simpa using h) c (λj b m d=>f (j+1) b ω (by simpa using d))];simp;omega
section
variable {P:Program}{w:World}{q:IntKind}{k:Int}
def GL{a:TypeId}(b:P.underlying a=some (.int q))(c)(n):(checkKey c (n+1) a (.int q k)).run P w=.ok () w:=by
 simp[checkKey,underlying,b]
def IU{a:TypeId}(b:P.underlying a=some (.int q)){es:List MapEntry}{r}(h:findNow (.int q) (.int q k) es 0=some r):(findKey a (.int q k) es).run P w=.ok r w:=by
 simp[findKey,underlying,b,h]
def By{e:Type}{b}{d}{a}(f:w.heap[b]?=some (.map d a))(c:Obj->Sem e):(Sem.getObj b c).run P w=(c (.map d a)).run P w:=by
 simp only[Sem.run,f]
def Sc{d:Type}{b}{f}{a}(e:w.heap[b]?=some (.map f a))(o:Obj)(c:Sem d):(Sem.setObj b o c).run P w=c.run P { w with heap:=w.heap.setIfInBounds b o }:=by
 simp only[Sem.run,e]
def QnM{f g y:TypeId}{b}{c:Array MapEntry}{a}(p:P.underlying f=some (.map g y))(l:P.underlying g=some (.int q))(o:w.heap[b]?=some (.map c a))(t:IS q c.toList)
  {i:Nat} {e:MapEntry} (m:c[i]?=some e) (n:e.key=.int q k) (r:∀(j:Nat) (d:MapEntry),j<i->c[j]?=some d->d.key≠.int q k) (v:Value) :
  (mapUpdate f (.map (some b)) (.int q k) v).run P w=.ok () { w with heap:=w.heap.setIfInBounds b (.map (c.modify i λe=>{ e with key:=.int q k,val:=v }) a) }:=by
 have h:=cG (i0:=0) t (by simpa using m) n (λj d s z=>r j d s (by simpa using z));have x:=IU (P:=P) (w:=w) l h;have u:=GL (P:=P) (w:=w) (k:=k) l false 9999;simp[mapUpdate,underlying,p,getObj,By o,x,u,m,n,keyThatStays,sameBits,setObj,Sc o]
def QnN{d f p:TypeId}{b}{c:Array MapEntry}{a}(j:P.underlying d=some (.map f p))(g:P.underlying f=some (.int q))(h:w.heap[b]?=some (.map c a))(m:IS q c.toList)
  (l:∀e∈c.toList,e.key≠.int q k) (v:Value) :
  (mapUpdate d (.map (some b)) (.int q k) v).run P w=.ok () { w with heap:=w.heap.setIfInBounds b (.map (c.push { key:=.int q k,val:=v,born:=a }) (a+1)) }:=by
 have o:=IU (P:=P) (w:=w) g (cF (i:=0) m l);have n:=GL (P:=P) (w:=w) (k:=k) g false 9999;simp[mapUpdate,underlying,j,getObj,By h,o,n,setObj,Sc h]
def QnO{f g x ty kt2:TypeId}{b}{c:Array MapEntry}{a}(n:P.underlying f=some (.map g x))(l:P.underlying g=some (.int q))(m:w.heap[b]?=some (.map c a))(t:IS q c.toList)
  {i:Nat} {e:MapEntry} (r:c[i]?=some e) (s:e.key=.int q k) (o:∀(j:Nat) (d:MapEntry),j<i->c[j]?=some d->d.key≠.int q k) :
  (Builtin.delete_ #[f,kt2] ty #[.map (some b),.int q k]).run P w=.ok (.tuple #[]) { w with heap:=w.heap.setIfInBounds b (.map (c.eraseIdxIfInBounds i) a) }:=by
 have h:=cG (i0:=0) t (by simpa using r) s (λj d p y=>o j d p (by simpa using y));have v:=IU (P:=P) (w:=w) l h;have u:=GL (P:=P) (w:=w) (k:=k) l c.isEmpty 9999;simp[Builtin.delete_,underlying,n,getObj,By m,v,u,setObj,Sc m]
def QnP{d f p ty kt2:TypeId}{b}{c:Array MapEntry}{a}(j:P.underlying d=some (.map f p))(g:P.underlying f=some (.int q))(h:w.heap[b]?=some (.map c a))(m:IS q c.toList)
  (l:∀e∈c.toList,e.key≠.int q k) :
  (Builtin.delete_ #[d,kt2] ty #[.map (some b),.int q k]).run P w=.ok (.tuple #[]) { w with heap:=w.heap.setIfInBounds b (.map c a) }:=by
 have o:=IU (P:=P) (w:=w) g (cF (i:=0) m l);have n:=GL (P:=P) (w:=w) (k:=k) g c.isEmpty 9999;simp[Builtin.delete_,underlying,j,getObj,By h,o,n,setObj,Sc h]
def QnQ{c d g:TypeId}{b}{h}{a}(e:P.underlying c=some (.map d g))(f:w.heap[b]?=some (.map h a)):
  (Instr.range c (.map (some b))).run P w=.ok (.pointer (some ⟨w.heap.size,0,none⟩)) { w with heap:=w.heap.push (.mapIter (some b) a #[] a) }:=by
 simp[Instr.range,underlying,e,getObj,By f,newObj,Sem.run]
end
def Tr.IV{Z:Nat->Prop}{d:Nat}{h:List Ob}{f:List Pl}{w w':World}(R:Zh Z d h f w){l:Nat}{o o':Ob}{b:Nat}(n:h[l]?=some o)(v:f[l]?=some (some (b,0)))(e:∀c,c≠b->w'.heap[c]? = w.heap[c]?)
  (z:o'.gen=o.gen) (x:o'.kd.ty=o.kd.ty) (u:o'.sz=o.sz) (j:∀c el,w.heap[b]?≠some (.cells c el (0,0))):Tr h f w (h.set l o') f w' where
 JU:=λc a _=>⟨a,e c (λh=>by subst h;exact a l 0 v)⟩
 obj:=λm k p g i=>by
  by_cases r:l=m;subst r;rw[n]at g;cases g;exact⟨o',p,W5 (KA n),i,ω,x,λ_=>⟨u,rfl⟩⟩;exact⟨k,p,by rw[JG r];exact g,i,QB _,rfl,λ_=>⟨rfl,rfl⟩⟩
 shape:=λm k y c q g i _ B t el a=>by
  by_cases s:c=b;subst s;exact absurd a (j t el);exact⟨t,by rw[e c s];exact a,rfl⟩
def Zh.IV{Z:Nat->Prop}{d:Nat}{h:List Ob}{g:List Pl}{w w':World}(R:Zh Z d h g w){l:Nat}{o o':Ob}{b:Nat}(s:h[l]?=some o)(n:g[l]?=some (some (b,0)))(e:∀c,c≠b->w'.heap[c]? = w.heap[c]?)
  (T:Tr h g w (h.set l o') g w') (t:Kz Z (h.set l o') g w' o' b 0) (hro:o'.kd.ro=o.kd.ro):Zh Z d (h.set l o') g w' where
 len:=by rw[Kx];exact R.len
 inj:=R.inj
 VU:=λk p f a=>by
  by_cases m:l=k;subst m;rw[n]at a;cases a;rw[JG m]at f;exact R.VU k p f a
 at_:=λk p c q f a=>by
  by_cases m:l=k;subst m;rw[W5 (KA s)]at f;cases f;rw[n]at a;cases a;exact⟨λr=>(R.at_ l o b 0 s n).1 (by rw[<- hro,r]),t⟩;rw[JG m]at f;obtain⟨y,x⟩:=R.at_ k p c q f a;have u:c≠b:=λh=>by subst h;exact m (R.inj l k c 0 q n a)
  exact⟨y,x.to rfl rfl rfl (e c u) (λ_ _=>rfl) λi j v _ _ r=>r.tr T⟩
structure ZC where
 k:Int
 v:D
 b:Nat
def Ao(q:IntKind)(c:Nat)(a:List ZC):Nat->List D
 | 0=>[.raw (.int .i64 c),.undef,.undef]
 | r+1=>match a[r]? with
  | some e=>[.raw (.int q e.k),e.v,.raw (.int .i64 e.b)]
  | none=>[.undef,.undef,.undef]
def Wq(b:Kd)(q:IntKind)(c:Nat)(a:List ZC):Ob:=⟨b,0,3,a.length+1,Ao q c a⟩
def QR(q:IntKind)(c:Nat)(a:List ZC):Ob:=Wq .map q c a
def ZY:List ZC->Int->Option D
 | [],_=>none
 | e::r,k=>if e.k=k then some e.v else ZY r k
def jC:List ZC->Int->D->List ZC
 | [],_,_=>[]
 | e::r,k,v=>if e.k=k then ⟨k,v,e.b⟩::r else e::jC r k v
def JV:List ZC->Int->List ZC
 | [],_=>[]
 | e::r,k=>if e.k=k then r else e::JV r k
def J1(q:IntKind)(c:Nat)(a:List ZC)(k:Int)(v:D):Ob:=match ZY a k with
 | some _=>QR q c (jC a k v)
 | none=>QR q (c+1) (a++[⟨k,v,c⟩])
def GM:D->Int
 | .raw (.int _ n)=>n
 | _=>0
def clockOf(o:Ob):Nat:=(GM (nth (o.row 0) 0)).toNat
def Da(o:Ob):List ZC:=(List.range (o.n-1)).map λi=>⟨GM (nth (o.row (i+1)) 0),nth (o.row (i+1)) 1,(GM (nth (o.row (i+1)) 2)).toNat⟩
def Ob.ro(o:Ob):Ob:=⟨o.kd.toRo,o.gen,o.sz,o.n,o.row⟩
def IsMap(q:IntKind)(o:Ob):Prop:=o.kd.ty=1/\o=Wq o.kd q (clockOf o) (Da o)
theorem Qcm(a:Kd)(q)(c)(b):clockOf (Wq a q c b)=c:=by simp[clockOf,Wq,Ao,nth,GM]
theorem n9(q)(c)(a):clockOf (QR q c a)=c:=Qcm _ _ _ _
theorem Qcn(b:Kd)(q)(c)(a):Da (Wq b q c a)=a:=by
 apply y8;intro i;simp only[Da,Wq,Ao,be,KL];by_cases h:i<a.length;simp[nth,GM,h];rw[Ek (by simpa using h)];simp[h]
theorem oa(q)(c)(a):Da (QR q c a)=a:=Qcn _ _ _ _
theorem Qco(q)(c)(a):IsMap q (QR q c a)=True:=by
 refine eq_true ⟨rfl,?_⟩;exact(by rw[n9,oa];rfl)
theorem oc(o:Ob):clockOf o.ro=clockOf o:=rfl
theorem Qcp(o:Ob):Da o.ro=Da o:=rfl
theorem QnS(q)(o:Ob):IsMap q o.ro=IsMap q o:=by
 obtain⟨k,g,z,n,r⟩:=o;simp only[IsMap,oc,Qcp];simp only[Ob.ro,Wq,Kd.toRo_ty,Ob.mk.injEq,vM]
theorem QnT(q)(c)(a:List ZC):(QR q c a).kd=.map:=rfl
theorem QnU(q)(c)(a:List ZC):(QR q c a).n=a.length+1:=rfl
theorem QnV(q)(c)(a:List ZC):(QR q c a).gen=0:=rfl
theorem cH(o:Ob):o.ro.kd=o.kd.toRo:=rfl
theorem QnW(o:Ob):o.ro.n=o.n:=rfl
theorem QnX(o:Ob):o.ro.gen=o.gen:=rfl
def IsMap.get{q}{o:Ob}(h:IsMap q o):∃a c b,a.ty=1/\o.kd=a/\clockOf o=c/\Da o=b/\o=Wq a q c b:=⟨_,_,_,h.1,rfl,rfl,rfl,h.2⟩
def cI:∀{b:List ZC} {k:Int} {v:D},ZY b k=some v->∃(j:Nat) (e:ZC),b[j]?=some e/\e.k=k/\e.v=v/\(∀(i:Nat) (c:ZC),i<j->b[i]?=some c->c.k≠k)/\(∀u,jC b k u=b.set j ⟨k,u,e.b⟩)/\JV b k=b.eraseIdx j
 | [],_,_,h=>by simp[ZY]at h
 | e::r,k,v,h=>by
  simp only[ZY]at h;by_cases a:e.k=k;rw[Qd a]at h;cases h;exact⟨0,e,rfl,a,rfl,λi _ d=>absurd d (Yc i),λu=>by simp[jC,a],by simp[JV,a]⟩;rw[Qc a]at h;obtain⟨j,c,o,n,m,l,g,f⟩:=cI h;refine⟨j+1,c,by simpa using o,n,m,λi x d hx=>?_,λu=>by simp[jC,a,g u],by simp[JV,a,f]⟩;cases i with
  | zero=>simp at hx;subst hx;exact a
  | succ i=>exact l i x ω (by simpa using hx)
def Sd:∀{a:List ZC} {k:Int},ZY a k=none->(∀e∈a,e.k≠k)/\(∀u,jC a k u=a)/\JV a k=a
 | [],_,_=>⟨σ,λ_=>rfl,rfl⟩
 | e::r,k,h=>by
  simp only[ZY]at h;by_cases b:e.k=k;rw[Qd b]at h;cases h;rw[Qc b]at h;obtain⟨f,d,c⟩:=Sd h;exact⟨λx hx=>by
   rcases QK.1 hx with rfl|h;exact b;exact f x h,λu=>by simp[jC,b,d u],by simp[JV,b,c]⟩
def Qcq:∀{c:List ZC} {k:Int} (v:D) (a:Int),ZY (jC c k v) a=if a=k then (ZY c k).map (λ_=>v) else ZY c a
 | [],k,v,a=>by simp[jC,ZY]
 | e::r,k,v,a=>by
  by_cases h:e.k=k;simp only[jC,Qd h,ZY];by_cases b:k=a;simp[b];rw[Qc b,Qc (λe=>b e.symm),Qc (by rw[h];exact b)];simp only[jC,Qc h,ZY];rw[Qcq v a];by_cases b:a=k;subst b;simp[h];simp[b]
def Qcr:∀(b a:List ZC) (k:Int),ZY (b++a) k=(ZY b k).or (ZY a k)
 | [],_,_=>by simp[ZY]
 | e::r,a,k=>by
  by_cases h:e.k=k;simp[ZY,h];simp[ZY,h,Qcr r a k]
def Qcs(q)(c)(b)(k)(v):∃g e,J1 q c b k v=QR q g e/\∀a,ZY e a=if a=k then some v else ZY b a:=by
 unfold J1;cases h:ZY b k with
 | some d=>
  refine⟨c,jC b k v,rfl,λa=>?_⟩;rw[Qcq,h];rfl
 | none=>
  refine⟨c+1,b++[⟨k,v,c⟩],rfl,λa=>?_⟩;rw[Qcr];by_cases f:a=k;subst f;simp[h,ZY];rw[Qc f];cases ZY b a<;>simp[ZY,Q8 f]
def XU(a:List ZC):Prop:=(a.map (·.k)).Nodup
structure kC (Z:Nat->Prop) (h:List Ob) (pl:List Pl) (w:World) (q:IntKind) (c:Nat) (es:List ZC) (QX:List MapEntry):Prop where
 len:es.length=QX.length
 at_:∀(i:Nat) (e:ZC) (a:MapEntry),es[i]?=some e->QX[i]?=some a->a.key=.int q e.k/\QD Z h pl w e.v a.val/\a.born=e.b/\a.born<c
 inc:∀(i j:Nat) (a a':MapEntry),i<j->QX[i]?=some a->QX[j]?=some a'->a.born<a'.born
def od{Z}{h}{e}{w:World}{q}{c}{d}{b}{k:Array MapEntry}(n:w.heap[b]?=some (.map k c))(E:kC Z h e w q c d k.toList){kd:Kd}(u:kd.ty=1):Kz Z h e w (Wq kd q c d) b 0:=by
 refine Kz.ofMap u ⟨rfl,rfl,k,c,n,by have:=E.len;simp at this;simp[Wq,this],λi _=>?_,.cl _ _ (.raw _),λi a m=>?_,λi j a s t g f=>E.inc i j a s t (by simpa using g) (by simpa using f)⟩;show (Ao q c d i).length=3;cases i with
 | zero=>rfl
 | succ i=>simp only[Ao];split<;>rfl
 have Qb:=(WK.1 m).1;have l:i<d.length:=by have:=E.len;simp at this;omega
 obtain⟨g,f,p,o⟩:=E.at_ i d[i] a (QJ l) (by simpa using m);have r:Ao q c d (i+1)=[.raw (.int q d[i].k),d[i].v,.raw (.int .i64 d[i].b)]:=by simp[Ao,l]
 show _/\QD Z h e w (nth (Ao q c d (i+1)) 0) _/\QD Z h e w (nth (Ao q c d (i+1)) 1) _/\QD Z h e w (nth (Ao q c d (i+1)) 2) _;rw[r];exact⟨o,by rw[g];exact .cl _ _ (.raw _),f,by rw[p];exact .cl _ _ (.raw _)⟩
def cJ{Z}{h}{l}{w:World}{q}{c}{g}{b p}{k:Kd}(N:k.ty=1)(x:Kz Z h l w (Wq k q c g) b p):p=0/\∃f:Array MapEntry,w.heap[b]?=some (.map f c)/\kC Z h l w q c g f.toList:=by
 obtain⟨H,_,f,d,F,E,_,C,B,z⟩:=x.map N;have u:d=c:=by
  have:=Ju C;simp at this;omega
 subst u;have s:g.length=f.size:=by simpa[Wq] using E
 refine⟨H,f,F,by simpa using s,λi e a t v=>?_,λi j a L M J I=>z i j a L M (by simpa using J) (by simpa using I)⟩;obtain⟨r,o,n,m⟩:=B i a (by simpa using v);have K:(Wq k q d g).row (i+1)=[.raw (.int q e.k),e.v,.raw (.int .i64 e.b)]:=by simp[Wq,Ao,t]
 rw[K]at o n m;have:=Ju o;have y:=Ju m;refine⟨this,n,?_,r⟩;simp at y;omega
def kC.keys{Z}{h}{f}{w}{q}{c}{b}{e}(E:kC Z h f w q c b e):IS q e:=λa g=>by
 obtain⟨i,d⟩:=Gs g;have Qb:i<b.length:=by rw[E.len];exact(W3.1 d).1
 exact⟨_,(E.at_ i b[i] a (QJ Qb) d).1⟩
def kC.XE{Z}{h}{l}{w}{q}{c}{d:List ZC}{b:Array MapEntry}(E:kC Z h l w q c d b.toList){k}{j}{e:ZC}(g:d[j]?=some e)(o:e.k=k)(n:∀(i:Nat) (f:ZC),i<j->d[i]?=some f->f.k≠k):
  ∃a,b[j]?=some a/\a.key=.int q k/\QD Z h l w e.v a.val/\a.born=e.b/\a.born<c/\∀(i:Nat) (f:MapEntry),i<j->b[i]?=some f->f.key≠.int q k:=by
 have Qb:j<b.toList.length:=by rw[<- E.len];exact(W3.1 g).1
 obtain⟨u,t,s,r⟩:=E.at_ j e b.toList[j] g (QJ Qb);refine⟨b.toList[j],σ,by rw[u,o],t,s,r,λi x y z=>?_⟩;have m:i<d.length:=by have:=(W3.1 g).1;omega
 obtain⟨v,_⟩:=E.at_ i d[i] x (QJ m) (by simpa using z);rw[v];intro p;exact n i _ y (QJ m) (by simpa using p)
def kC.EF{Z}{h}{g}{w}{q}{c}{b}{f}(E:kC Z h g w q c b f){k}(j:∀e∈b,e.k≠k):∀a∈f,a.key≠.int q k:=λa m=>by
 obtain⟨i,d⟩:=Gs m;have Qb:i<b.length:=by rw[E.len];exact(W3.1 d).1
 rw[(E.at_ i b[i] a (QJ Qb) d).1];intro l;exact j _ (Xn Qb) (by simpa using l)
def kC.tr{Z}{h f}{d j}{w b}(T:Tr h d w f j b){q}{c}{g}{k}(E:kC Z h d w q c g k):kC Z f j b q c g k:=
 ⟨E.len,λi e a m l=>let ⟨p,o,n⟩:=E.at_ i e a m l;⟨p,o.tr T,n⟩,E.inc⟩
section
variable {P:Program}{L:Jf}{base nt:Nat}{s:St}{o:Oper}{q:IntKind}{t kt et:TypeId}{x i:Operand}{l g n:Nat}{ob:Ob}{k:Int}
def cK{Z}{e}{a}{w}(r:Rel Z base nt s e a w){c}{j}{kd:Kd}(z:kd.ty=1)(C:Qs s.fr x=.mref l 0)(y:s.h[l]?=some (Wq kd q c j)):
  ∃b d,a.eval x=.map (some b)/\e[l]?=some (some (b,0))/\(kd.ro=false->base<=b)/\w.heap[b]?=some (.map d c)/\kC Z s.h e w q c j d.toList:=by
 have v:=r.eval x;rw[C]at v;obtain⟨J,p,b,u,h,H,K,f⟩:=Gz v;rw[y]at u;cases u;have f:=f rfl;rw[f]at h;obtain⟨I,B⟩:=r.o.at_ l _ b 0 y h;obtain⟨_,d,F,E⟩:=cJ z B;have m:=H.2;have:(Wq kd q c j).kd.ty=1:=z;rw[this]at m;exact⟨b,d,m,h,I,F,E⟩
def cM{Z}{f:List Pl}{a}{w:World}(r:Rel Z base nt s f a w){c}{z}(u:s.h[l]?=some (QR q c z)){b}(m:f[l]?=some (some (b,0)))(B:base<=b){C}(p:w.heap[b]?=some (.map C c))
  {c':Nat} {es':List ZC} {ens':Array MapEntry} (E:∀v d,Tr s.h f w (s.h.set l (QR q c' es')) v d->kC Z (s.h.set l (QR q c' es')) v d q c' es' ens'.toList) :
  ∃d,d={ w with heap:=w.heap.setIfInBounds b (.map ens' c') }/\Tr s.h f w (s.h.set l (QR q c' es')) f d/\Zh Z base (s.h.set l (QR q c' es')) f d/\Below base w d:=by
 have H:=kr p;generalize j:({ w with heap:=w.heap.setIfInBounds b (.map ens' c') }:World)=d;have e:∀c,c≠b->d.heap[c]? = w.heap[c]? := λc y=>by rw[<- j];simp[Q8 y]
 have F:d.heap[b]?=some (.map ens' c'):=by rw[<- j];simp[H]
 have T:=Tr.IV (w':=d) r.o u m e (o':=QR q c' es') rfl rfl rfl (by rw[p];intro c el h;cases h);exact⟨d,rfl,T,Zh.IV (hro:=rfl) r.o u m e T (od F (E f d T) rfl),NO B e (by rw[<- j];simp) (by rw[<- j]) (by rw[<- j]) (by rw[<- j])⟩
def QnY(p:Z8 P L){u m y:Ty}(U:ty L t=some u)(T:u.k=.map kt et)(B:ty L kt=some m)(F:m.k=.int q)(WO:ty L et=some y)
  {Z:Nat->Prop} {h:List Ob} {C:List Pl} {w:World} {b c:Nat} {r:List ZC} {K:Array MapEntry} (Q:w.heap[b]?=some (.map K c)) (E:kC Z h C w q c r K.toList) (M:Bool) :
  ∃v,QD Z h C w (match ZY r k with|some d=>d|none=>CS y) v/\∀f:World,f.heap[b]? = w.heap[b]? ->
   (lookup t (.map (some b)) (.int q k) M).run P f=.ok (if M then .tuple #[v,.bool (ZY r k).isSome] else v) f:=by
 have R:=λw:World=>GL (P:=P) (w:=w) (k:=k) (CP (p kt m B) F) K.isEmpty 9999;have hx:=Ew (p t u U) T;cases O:ZY r k with
 | some d=>
  obtain⟨j,e,J,g2,Y,W,_⟩:=cI O;obtain⟨a,a1,a2,a3,a4,a5,a6⟩:=E.XE J g2 W;refine⟨a.val,by rw[<- Y];exact a3,λf H=>?_⟩;have h:=cG (i0:=0) E.keys (by simpa using a1) a2 (λj e' V Wc=>a6 j e' V (by simpa using Wc));have I:=IU (P:=P) (w:=f) (CP (p kt m B) F) h;simp[lookup,underlying,hx,getObj,By (H.trans Q),I,R]
 | none=>
  obtain⟨J,_⟩:=Sd O;obtain⟨z,hz,S⟩:=ny (p et y WO) (N:=free Z C) w;refine⟨z,.cl _ _ hz,λf H=>?_⟩;have I:=IU (P:=P) (w:=f) (CP (p kt m B) F) (cF (i:=0) E.keys (E.EF J));simp[lookup,underlying,hx,getObj,By (H.trans Q),I,R,S f]
def QnZ(c:Z8 P L){d b e:Ty}(u:ty L t=some d)(p:d.k=.map kt et)(f:ty L kt=some b)(j:b.k=.int q)(C:ty L et=some e)
  {N:Nat->Prop} {w:World} (h:Bool):∃v,Cl N w (CS e) v/\∀a:World,(lookup t (.map none) (.int q k) h).run P a=.ok (if h then .tuple #[v,.bool false] else v) a:=by
 obtain⟨z,hz,m⟩:=ny (c et e C) (N:=N) w;refine⟨z,hz,λa=>?_⟩;have y:=GL (P:=P) (w:=a) (k:=k) (CP (c kt b f) j) true 9999;have B:=IU (P:=P) (w:=a) (k:=k) (CP (c kt b f) j) (es:=[]) (r:=none) rfl;simp[lookup,underlying,Ew (c t d u) p,B,y,m a]
def cO(L:Jf)(h:List Ob)(t:TypeId)(x i:D)(b:Bool):Ev:=match ty L t with
 | some ⟨.map kt et,_,_,_⟩=>match ty L kt,ty L et with
  | some ⟨.int q,_,_,_⟩,some a=>match i with
   | .raw (.int c k)=>match x with
    | .mref l g=>match h[l]? with
     | some o=>some (IsMap q o/\c=q/\g=0,match ZY (Da o) k with
      | some d=>bif b then .tup [d,.raw (.bool true)] else d
      | none=>bif b then .tup [CS a,.raw (.bool false)] else CS a)
     | none=>none
    | .raw (.map none)=>some (c=q,bif b then .tup [CS a,.raw (.bool false)] else CS a)
    | _=>none
   | _=>none
  | _,_=>none
 | _=>none
def look_ok(O:Z8 P L){z}(C:o.op=.lookup t x i z){p}{d}(h:cO L s.h t (Qs s.fr x) (Qs s.fr i) z=some (p,d))(K:p):Ww P base nt o s d:=by
 intro Z S a w r;unfold cO at h;split at h;case h_2=>cases h
 rename_i kt et m1 m2 m3 J;split at h;case h_2=>cases h
 rename_i q n1 n2 n3 W I Q;split at h;case h_2=>cases h
 rename_i Y k B;have u:=r.eval i;rw[B]at u;have u:=Ju u;split at h;case h_3=>cases h
 case h_2 hx=>
  simp only[Q5,Q9]at h;obtain⟨rfl,rfl⟩:=h;subst K;have f:=r.eval x;rw[hx]at f;have f:=Ju f;obtain⟨v,m,y⟩:=QnZ (k:=k) O J rfl I rfl Q (N:=free Z S) (w:=w) z;cases z with
  | false=>exact⟨v,.cl _ _ m,λe j=>by simp[execOp,C,f,u,y e]⟩
  | true=>
   refine⟨.tuple #[v,.bool false],.tup _ [v,.bool false] rfl (λi B=>match i,B with
    | 0,_=>.cl _ _ m
    | 1,_=>.cl _ _ (.raw _)),λe j=>by simp[execOp,C,f,u,y e]⟩
 case h_1 l g hx=>
  split at h;case h_2=>cases h
  rename_i ob U;simp only[Q5,Q9]at h;obtain⟨rfl,rfl⟩:=h;obtain⟨H,rfl,rfl⟩:=K;obtain⟨kd,c,T,V,_,_,R,H⟩:=H.get;rw[R];subst H;obtain⟨b,QX,f,_,_,F,E⟩:=cK r V hx U;obtain⟨v,m,y⟩:=QnY (k:=k) O J rfl I rfl Q F E z;cases M:ZY T k with
  | some d=>
   rw[M]at m y;cases z with
   | false=>exact⟨v,m,λe j=>by simp[execOp,C,f,u,y e (j b (kr F))]⟩
   | true=>
    refine⟨.tuple #[v,.bool true],.tup _ [v,.bool true] rfl (λi B=>match i,B with
     | 0,_=>m
     | 1,_=>.cl _ _ (.raw _)),λe j=>by simp[execOp,C,f,u,y e (j b (kr F))]⟩
  | none=>
   rw[M]at m y;cases z with
   | false=>exact⟨v,m,λe j=>by simp[execOp,C,f,u,y e (j b (kr F))]⟩
   | true=>
    refine⟨.tuple #[v,.bool false],.tup _ [v,.bool false] rfl (λi B=>match i,B with
     | 0,_=>m
     | 1,_=>.cl _ _ (.raw _)),λe j=>by simp[execOp,C,f,u,y e (j b (kr F))]⟩
def cP(L:Jf)(h:List Ob)(t:TypeId)(x:D):Ev:=match ty L t with
 | some ⟨.map _ _,_,_,_⟩=>match x with
  | .mref l g=>match h[l]? with
   | some o=>some (o.kd.ty=1/\g=o.gen,.raw (.int .i64 ((o.n-1:Nat):Int)))
   | none=>none
  | .raw (.map none)=>some (True,.raw (.int .i64 0))
  | _=>none
 | _=>none
def Qn0(M:Z8 P L){F:Array TypeId}(y:o.op=.call ⟨.builtin .len,#[x],F⟩)(S:F=#[t]){p}{d}(h:cP L s.h t (Qs s.fr x)=some (p,d))(K:p):Ww P base nt o s d:=by
 subst S;intro Z T a w r;unfold cP at h;split at h;case h_2=>cases h
 rename_i kt et Y W V J;have v:=Ew (M t _ J) rfl;have e:=r.eval x;split at h;case h_3=>cases h
 case h_2 hx=>
  simp only[Q5,Q9]at h;obtain⟨rfl,rfl⟩:=h;rw[hx]at e;have e:=Ju e;refine⟨.int .i64 0,.cl _ _ (.raw _),λj m=>?_⟩;rw[ku y];simp[e,builtin,Builtin.len_,underlying,v,goInt]
 case h_1 l g hx=>
  split at h;case h_2=>cases h
  rename_i ob H;simp only[Q5,Q9]at h;obtain⟨rfl,rfl⟩:=h;obtain⟨z,rfl⟩:=K;rw[hx]at e;obtain⟨U,p,b,E,C,O,h4,f⟩:=Gz e;rw[H]at E;cases E;have f:=f rfl;rw[f]at C;obtain⟨Zr,I⟩:=r.o.at_ l _ b 0 H C;obtain⟨_,_,R,c,B,N,_⟩:=I.map z;have u:=O.2;rw[z]at u;refine⟨.int .i64 ((ob.n-1:Nat):Int),.cl _ _ (.raw _),λj m=>?_⟩;rw[ku y];have Q:j.heap[b]?=some (.map R c):=by rw[m b (kr B)];exact B
  simp[u,RU,builtin,Builtin.len_,underlying,v,getObj,By Q,N,goInt]
def NU(L:Jf)(h:List Ob)(t:TypeId):Option (Prop × List Ob × D):=match ty L t with
 | some ⟨.map kt _,_,_,_⟩=>match ty L kt with
  | some ⟨.int q,_,_,_⟩=>some (True,h++[QR q 0 []],.mref h.length 0)
  | _=>some (True,h++[QR .i64 0 []],.mref h.length 0)
 | _=>none
def Qct(H:Z8 P L){u}(C:u=none\/∃k n,u=some (.const (.int k n))/\0<=n)(z:o.op=.makeMap t u){p}{y}{d}(h:NU L s.h t=some (p,y,d)):jz P base nt o s y d:=by
 have E:∃q,p=True/\y=s.h++[QR q 0 []]/\d=.mref s.h.length 0/\∃kt m a b c,ty L t=some ⟨.map kt m,a,b,c⟩:=by
  unfold NU at h;split at h;case h_2=>cases h
  rename_i kt m _ _ _ v;split at h;all_goals
   simp only[Q5,Q9]at h;obtain⟨rfl,rfl,rfl⟩:=h;exact⟨_,rfl,rfl,rfl,_,_,_,_,_,v⟩
 obtain⟨q,rfl,rfl,rfl,kt,m,_,_,_,v⟩:=E;intro Z f a w r B;have e:∀b,b<w.heap.size->(w.alloc (.map #[] 0)).heap[b]? = w.heap[b]? := λb F=>wW w _ b F;have J:(w.alloc (.map #[] 0)).heap[w.heap.size]?=some (.map #[] 0):=heap_alloc_new w _;have T:Tr s.h f w (s.h++[QR q 0 []]) (f++[some (w.heap.size,0)]) (w.alloc (.map #[] 0)):=Tr.push r.o e _ _ (by intro b q h;simp at h;omega);have I:f.length=s.h.length:=r.o.len;refine⟨.map (some w.heap.size),w.alloc (.map #[] 0),f++[some (w.heap.size,0)],.inl ?_,T,?_,?_,EA B _,λ_=>e⟩;rcases C with rfl|⟨k,n,rfl,K⟩;simp[execOp,z,makeMap];simp[execOp,z,makeMap,Act.eval,underlying,Ew (H t _ v) rfl,asInt,asIntOf];exact Zh.RW r.o e _ (QB _) B (od (kd:=.map) J ⟨rfl,λi e a h=>by simp at h,λi j a M _ h=>by simp at h⟩ rfl);exact .mref _ _ (QR q 0 []) (some (w.heap.size,0)) w.heap.size σ (by rw[<- I];simp) ⟨by simp[QR,Wq,Kd.ty],rfl⟩ (QB _) (λ_=>rfl)
def GN(L:Jf)(h:List Ob)(t:TypeId)(x i v:D):Option (Prop × List Ob):=match ty L t with
 | some ⟨.map kt _,_,_,_⟩=>match ty L kt with
  | some ⟨.int q,_,_,_⟩=>match x,i with
   | .mref l g,.raw (.int a k)=>match h[l]? with
    | some o=>some (IsMap q o/\a=q/\g=0/\o.kd.ro=false,h.set l (J1 q (clockOf o) (Da o) k v))
    | none=>none
   | _,_=>none
  | _=>none
 | _=>none
def Qcu{w:World}{b}{f}{c}(d:w.heap[b]?=some (.map f c))(o:Obj):jx w { w with heap:=w.heap.setIfInBounds b o }:=λa v h=>by
 by_cases e:a.block=b;simp[World.cell?,e,d]at h;rw[World.cell?_of_block (w:=w)];exact h;simp[Q8 e]
def Qcv(hL:Z8 P L){v}(ho:o.op=.mapUpdate t x i v){p}{h'}(h:GN L s.h t (Qs s.fr x) (Qs s.fr i) (Qs s.fr v)=some (p,h'))(hp:p):∀(Z:Nat->Prop) R a w,Rel Z base nt s R a w->base<=w.heap.size->∃v u V,((execOp a.eval o).run P w=.ok (.value v) u\/((execOp a.eval o).run P w=.ok .skip u/\v=Go.undef))/\Tr s.h R w h' V u/\Zh Z base h' V u/\QD Z h' V u .undef v/\Below base w u/\jx w u:=by
 unfold GN at h;split at h;case h_2=>cases h
 split at h;case h_2=>cases h
 rename_i kt et _ _ _ ht _ q _ _ _ vR;split at h;case h_2=>cases h
 rename_i l g f k hx hi;split at h;case h_2=>cases h
 rename_i ob Zg;simp only[Q5,Q9]at h;obtain⟨rfl,rfl⟩:=h;obtain⟨J,rfl,rfl,W⟩:=hp;obtain⟨kd,c,C,JH,yf,JI,vS,J⟩:=J.get;rw[vS,JI];have Qf:kd=.map:=by rw[yf]at W;cases kd<;>first|rfl|(exfalso;revert JH;decide)|(exfalso;revert W;decide)
 subst Qf;rw[show Wq .map f c C=QR f c C from rfl]at J;subst J;intro Z R a w r KX;have U:=r.eval i;rw[hi]at U;have U:=Ju U;have e3:=r.eval v;obtain⟨b,F,e1,h2,Zr,N,E⟩:=cK (kd:=.map) r rfl hx Zg;have Zr:=Zr rfl;have GO:=Ew (hL t _ ht) rfl;have ZI:=CP (hL kt _ vR) rfl;cases Y:ZY C k with
 | some d=>
  obtain⟨j,e,g1,g2,g3,g4,g5,_⟩:=cI Y;obtain⟨a1,b1,b2,b3,b4,b5,b6⟩:=E.XE g1 g2 g4;have Za:=QnM (P:=P) (w:=w) (k:=k) GO ZI N E.keys b1 b2 b6 (a.eval v);have J:J1 f c C k (Qs s.fr v)=QR f c (C.set j ⟨k,Qs s.fr v,e.b⟩):=by simp only[J1,Y];rw[g5]
  rw[J];obtain⟨u,rfl,T,O,B⟩:=cM r Zg h2 Zr N (c':=c) (es':=C.set j ⟨k,Qs s.fr v,e.b⟩) (ens':=F.modify j λe=>{ e with key:=.int f k,val:=a.eval v }) (λV u T=>by
   have E':=E.tr T;have q8:∀(m:Nat) (x:MapEntry),(F.modify j λe=>{ e with key:=.int f k,val:=a.eval v }).toList[m]?=some x->∃y,F.toList[m]?=some y/\x.born=y.born/\(m≠j->x=y)/\(m=j->x.key=.int f k/\x.val=a.eval v):=λm x hx=>by
    have hx:(F.modify j λe=>{ e with key:=.int f k,val:=a.eval v })[m]?=some x:=by rw[<- vE];exact hx
    rw[mW]at hx;split at hx;rename_i K;subst K;rw[b1]at hx;simp at hx;subst hx;exact⟨a1,by simpa using b1,rfl,λh=>absurd rfl h,λ_=>⟨rfl,rfl⟩⟩;rename_i K;exact⟨x,by simpa using hx,rfl,λ_=>rfl,λh=>absurd h.symm K⟩
   refine⟨by have:=E.len;simp at this ⊢;exact this,λm e' a' Q I=>?_,λM S x y GP hx H=>?_⟩;obtain⟨y,y1,y2,y3,y4⟩:=q8 m a' I;by_cases K:m=j;subst K;have Qb:=(W3.1 g1).1;rw[W5 Qb]at Q;cases Q;obtain⟨d1,d2⟩:=y4 rfl;have:y=a1:=by have cQ:F.toList[m]?=some a1:=(by simpa using b1);rw [y1] at cQ; simpa using cQ
   subst this;exact⟨d1,by rw[d2];exact e3.tr T,by rw[y2,b4],by rw[y2];exact b5⟩;rw[JG (Q8 K)]at Q;rw[y3 K];exact E'.at_ m e' y Q y1;obtain⟨x',yg,KO,_⟩:=q8 M x hx;obtain⟨y',Bm,ZR,_⟩:=q8 S y H;rw[KO,ZR];exact E.inc M S x' y' GP yg Bm)
  exact⟨Go.undef,_,R,.inr ⟨by simp[execOp,ho,e1,U,Za],rfl⟩,T,O,.cl _ _ (.undef _),B,Qcu N _⟩
 | none=>
  obtain⟨g1,_⟩:=Sd Y;have Za:=QnN (P:=P) (w:=w) (k:=k) GO ZI N E.keys (E.EF g1) (a.eval v);have J:J1 f c C k (Qs s.fr v)=QR f (c+1) (C++[⟨k,Qs s.fr v,c⟩]):=by simp only[J1,Y]
  rw[J];obtain⟨u,rfl,T,O,B⟩:=cM r Zg h2 Zr N (c':=c+1) (es':=C++[⟨k,Qs s.fr v,c⟩]) (ens':=F.push { key:=.int f k,val:=a.eval v,born:=c }) (λV u T=>by
   have E':=E.tr T;have hl:C.length=F.size:=by have:=E.len;simpa using this
   refine⟨by simp[hl],λm e' a' Q I=>?_,λM S x y GP hx H=>?_⟩;have I:(F.push { key:=.int f k,val:=a.eval v,born:=c })[m]?=some a':=by rw[<- vE];exact I
   rw[aM]at I;rcases Yd Q with h1|⟨h1,Jo⟩;have:=(W3.1 h1).1;rw[Qc ω]at I;obtain⟨k1,k2,k3,k4⟩:=E'.at_ m e' a' h1 (by simpa using I);exact⟨k1,k2,k3,ω⟩;subst Jo;rw[Qd ω]at I;cases I;exact⟨rfl,e3.tr T,rfl,σ⟩;have hx:(F.push { key:=.int f k,val:=a.eval v,born:=c })[M]?=some x:=by rw[<- vE];exact hx
   have H:(F.push { key:=.int f k,val:=a.eval v,born:=c })[S]?=some y:=by rw[<- vE];exact H
   rw[aM]at hx H;have JU:∀(i:Nat) (z:MapEntry),F[i]?=some z->z.born<c:=λi z hz=>by
    have Qb:=(WK.1 hz).1;exact(E.at_ i (C[i]'ω) z (QJ ω) (by simpa using hz)).2.2.2
   split at hx;split at H;omega;have:=(WK.1 H).1;omega;split at H;cases H;exact JU M x hx;exact E.inc M S x y GP (by simpa using hx) (by simpa using H))
  exact⟨Go.undef,_,R,.inr ⟨by simp[execOp,ho,e1,U,Za],rfl⟩,T,O,.cl _ _ (.undef _),B,Qcu N _⟩
def Qn1(u:Z8 P L){v}(b:o.op=.mapUpdate t x i v){p}{c}(h:GN L s.h t (Qs s.fr x) (Qs s.fr i) (Qs s.fr v)=some (p,c))(f:p):jz P base nt o s c .undef:=λZ e a w r m=>by
 obtain⟨v,d,F,E,C,B,z,y,_⟩:=Qcv u b h f Z e a w r m;exact⟨v,d,F,E,C,B,z,y,λj=>by simp[calm,b]at j⟩
def cR(L:Jf)(h:List Ob)(t:TypeId)(x i:D):Option (Prop × List Ob):=match ty L t with
 | some ⟨.map kt _,_,_,_⟩=>match ty L kt with
  | some ⟨.int q,_,_,_⟩=>match i with
   | .raw (.int a k)=>match x with
    | .mref l g=>match h[l]? with
     | some o=>some (IsMap q o/\a=q/\g=0/\o.kd.ro=false,h.set l (QR q (clockOf o) (JV (Da o) k)))
     | none=>none
    | .raw (.map none)=>some (a=q,h)
    | _=>none
   | _=>none
  | _=>none
 | _=>none
def Qn2(hL:Z8 P L){R:TypeId}(C:o.op=.call ⟨.builtin .delete,#[x,i],#[t,R]⟩){p}{h'}(h:cR L s.h t (Qs s.fr x) (Qs s.fr i)=some (p,h'))(hp:p):jz P base nt o s h' (.tup []):=by
 unfold cR at h;split at h;case h_2=>cases h
 split at h;case h_2=>cases h
 rename_i kt et _ _ _ ht _ q _ _ _ vR;have GO:=Ew (hL t _ ht) rfl;have ZI:=CP (hL kt _ vR) rfl;split at h;case h_2=>cases h
 rename_i q' k m;split at h;case h_3=>cases h
 case h_2 hx=>
  simp only[Q5,Q9]at h;obtain⟨rfl,rfl⟩:=h;subst hp;intro Z I a w r KX;have f:=r.eval i;rw[m]at f;have f:=Ju f;have u:=r.eval x;rw[hx]at u;have u:=Ju u;have h3:=GL (P:=P) (w:=w) (k:=k) ZI true 9999;refine⟨.tuple #[],w,I,.inl ?_,Tr.refl _ _ _,r.o,.tup [] [] rfl (λi m=>absurd m (Yc i)),Below.refl _ _,λ_=>Ext.refl w⟩;rw[ku C];simp[u,f,builtin,Builtin.delete_,underlying,GO,h3]
 case h_1 l g hx=>
  split at h;case h_2=>cases h
  rename_i ob Y;simp only[Q5,Q9]at h;obtain⟨rfl,rfl⟩:=h;obtain⟨J,rfl,rfl,H⟩:=hp;obtain⟨kd,c,v,JH,yf,JI,vS,J⟩:=J.get;rw[vS,JI];have Qf:kd=.map:=by rw[yf]at H;cases kd<;>first|rfl|(exfalso;revert JH;decide)|(exfalso;revert H;decide)
  subst Qf;rw[show Wq .map q' c v=QR q' c v from rfl]at J;subst J;intro Z I a w r KX;have f:=r.eval i;rw[m]at f;have f:=Ju f;obtain⟨b,z,u,h2,M,K,E⟩:=cK (kd:=.map) r rfl hx Y;have M:=M rfl;cases hf:ZY v k with
  | some d=>
   obtain⟨j,e,W,g2,g3,g4,g5,V⟩:=cI hf;obtain⟨a1,b1,b2,b3,b4,b5,b6⟩:=E.XE W g2 g4;have Za:=QnO (P:=P) (w:=w) (k:=k) (ty:=o.type) (kt2:=R) GO ZI K E.keys b1 b2 b6;rw[V];have a2:j<z.size:=(WK.1 b1).1;obtain⟨Q,rfl,T,O,B⟩:=cM r Y h2 M K (c':=c) (es':=v.eraseIdx j) (ens':=z.eraseIdxIfInBounds j) (λQk Q T=>by
    have E':=E.tr T;have hl:v.length=z.size:=by have:=E.len;simpa using this
    have a0:(z.eraseIdxIfInBounds j).toList=z.toList.eraseIdx j:=by simp[Array.eraseIdxIfInBounds,a2,Array.toList_eraseIdx]
    rw[a0];refine⟨by simp[List.length_eraseIdx,hl],λi' e' a' N F=>?_,λi1 i2 x y GP hx S=>?_⟩;rw[List.getElem?_eraseIdx]at N F;split at N;rw[Qd ‹_›]at F;exact E'.at_ _ _ _ N F;rw[Qc ‹_›]at F;exact E'.at_ _ _ _ N F;rw[List.getElem?_eraseIdx]at hx S;split at hx<;>split at S<;>exact E.inc _ _ x y ω hx S)
   refine⟨.tuple #[],_,I,.inl ?_,T,O,.tup [] [] rfl (λi m=>absurd m (Yc i)),B,λU=>by simp[calm,C]at U⟩;rw[ku C];simp[u,f,builtin,Za]
  | none=>
   obtain⟨W,_,V⟩:=Sd hf;have Za:=QnP (P:=P) (w:=w) (k:=k) (ty:=o.type) (kt2:=R) GO ZI K E.keys (E.EF W);rw[V];obtain⟨Q,rfl,T,O,B⟩:=cM r Y h2 M K (c':=c) (es':=v) (ens':=z) (λQk Q T=>E.tr T);refine⟨.tuple #[],_,I,.inl ?_,T,O,.tup [] [] rfl (λi m=>absurd m (Yc i)),B,λU=>by simp[calm,C]at U⟩;rw[ku C];simp[u,f,builtin,Za]
def GQ(l c d:Nat)(a:List Nat):Nat->List D
 | 0=>[.mref l 0]
 | 1=>[.raw (.int .i64 c)]
 | 2=>[.raw (.int .i64 d)]
 | r+3=>match a[r]? with
  | some b=>[.raw (.int .i64 b)]
  | none=>[.undef]
def Yg(l c b:Nat)(a:List Nat):Ob:=⟨.iter,0,1,a.length+3,GQ l c b a⟩
def cS(L:Jf)(h:List Ob)(t:TypeId)(x:D):Option (Prop × List Ob × D):=match ty L t with
 | some ⟨.map _ _,_,_,_⟩=>match x with
  | .mref l g=>match h[l]? with
   | some o=>some (IsMap .i64 o/\g=0,h++[Yg l (clockOf o) (clockOf o) []],.mref h.length 0)
   | none=>none
  | _=>none
 | _=>none
def Qcw{Z}{h}{j}{w:World}{l c e}{a}{b m}{d:Array Nat}(r:w.heap[b]?=some (.mapIter (some m) c d e))(f:d.toList=a)(p:QD Z h j w (.mref l 0) (.map (some m))):Kz Z h j w (Yg l c e a) b 0:=by
 subst f;refine Kz.QbV rfl ⟨rfl,rfl,m,c,e,d,r,by simp[Yg],λi _=>?_,p,.cl _ _ (.raw _),.cl _ _ (.raw _),λi s f=>?_⟩;show (GQ l c e d.toList i).length=1;unfold GQ;split<;>(try split)<;>rfl;have f:d.toList[i]?=some s:=by simpa using f
 show QD Z h j w (nth (GQ l c e d.toList (i+3)) 0) _;have:GQ l c e d.toList (i+3)=[.raw (.int .i64 s)]:=by simp only[GQ,f]
 rw[this];exact .cl _ _ (.raw _)
def Qcx{Z}{h}{r}{w:World}{l c j}{a}{b p}(x:Kz Z h r w (Yg l c j a) b p):p=0/\∃(m:Nat) (f:Array Nat),w.heap[b]?=some (.mapIter (some m) c f j)/\f.toList=a/\QD Z h r w (.mref l 0) (.map (some m)):=by
 obtain⟨H,_,m,d,e,f,F,E,_,C,B,z,y⟩:=x.iter rfl;have K:d=c:=by have:=Ju B;simp at this;omega
 have J:e=j:=by have:=Ju z;simp at this;omega
 subst K;subst J;refine⟨H,m,f,F,?_,C⟩;have M:a.length=f.size:=by simpa[Yg] using E
 apply y8;intro i;by_cases u:i<f.size;have v:=y i f[i] (jr u);have I:(Yg l d e a).row (i+3)=[.raw (.int .i64 (a[i]'ω))]:=by
  show GQ l d e a (i+3)=_;simp only[GQ,QJ (show i<a.length from ω)]
 rw[I]at v;have:=Ju v;simp at this;rw[QJ (show i<f.toList.length by simpa using u),QJ (show i<a.length from ω)];simp only[Array.getElem_toList,Q5];omega;rw[Ek ξ,Ek ω]
def Qn5(I:Z8 P L)(H:o.op=.range t x){p}{y}{d}(h:cS L s.h t (Qs s.fr x)=some (p,y,d))(F:p):jz P base nt o s y d:=by
 unfold cS at h;split at h;case h_2=>cases h
 rename_i kt et _ _ _ C;split at h;case h_2=>cases h
 rename_i l g hx;split at h;case h_2=>cases h
 rename_i ob J;simp only[Q5,Q9]at h;obtain⟨rfl,rfl,rfl⟩:=h;obtain⟨m,rfl⟩:=F;obtain⟨R,c,U,Q,_,O,_,m⟩:=m.get;rw[O];subst m;intro Z j a w r B;obtain⟨b,V,z,S,_,u,E⟩:=cK r Q hx J;have M:=QnQ (P:=P) (w:=w) (Ew (I t _ C) rfl) u;have e:∀f,f<w.heap.size->(w.alloc (.mapIter (some b) c #[] c)).heap[f]? = w.heap[f]? := λf u=>wW w _ f u;have N:(w.alloc (.mapIter (some b) c #[] c)).heap[w.heap.size]?=some (.mapIter (some b) c #[] c):=heap_alloc_new w _;have T:Tr s.h j w (s.h++[Yg l c c []]) (j++[some (w.heap.size,0)]) (w.alloc (.mapIter (some b) c #[] c)):=Tr.push r.o e _ _ (by intro b q h;simp at h;omega);have K:j.length=s.h.length:=r.o.len;have v:=r.eval x;rw[hx,z]at v;refine⟨.pointer (some ⟨w.heap.size,0,none⟩),w.alloc (.mapIter (some b) c #[] c),j++[some (w.heap.size,0)],.inl ?_,T,?_,?_,EA B _,λ_=>e⟩;simp[execOp,H,z,M];exact Zh.RW r.o e _ (QB _) B (Qcw N rfl (v.tr T));exact .mref _ _ (Yg l c c []) (some (w.heap.size,0)) w.heap.size σ (by rw[<- K];simp) ⟨by simp[Yg,Kd.ty],rfl⟩ (QB _) (λ_=>rfl)
def Qn6(ho:o.op=.next x false){Z}{M}{a}{w:World}(r:Rel Z base nt s M a w)(KX:base<=w.heap.size){J c}{u}{d}(hx:Qs s.fr x=.mref J 0)(S:s.h[J]?=some (Yg l c c d)){W:Kd}(JH:W.ty=1)(Zg:s.h[l]?=some (Wq W q c u)):
  ((∀e∈u,e.b∈d)/\(execOp a.eval o).run P w=.ok (.value (.tuple #[.bool false])) w) \/
  ∃e∈u,e.b ∉ d/\∃v f,(execOp a.eval o).run P w=.ok (.value v) f/\Tr s.h M w (s.h.set J (Yg l c c (d++[e.b]))) M f/\Zh Z base (s.h.set J (Yg l c c (d++[e.b]))) M f /\
   QD Z (s.h.set J (Yg l c c (d++[e.b]))) M f (.tup [.raw (.bool true),.raw (.int q e.k),e.v]) v/\Below base w f:=by
 have e1:=r.eval x;rw[hx]at e1;obtain⟨o',p,b,h1,O,h3,h4,h5⟩:=Gz e1;rw[S]at h1;cases h1;have h5:=h5 rfl;rw[h5]at O;obtain⟨Zr,yd⟩:=r.o.at_ J _ b 0 S O;obtain⟨_,m,I,hb,Bz,Se⟩:=Qcx yd;have hv:a.eval x=.pointer (some ⟨b,0,none⟩):=h3.2;obtain⟨o2,p2,bm,k1,k2,K,k4,Y⟩:=Gz Se;rw[Zg]at k1;cases k1;have Y:=Y rfl;rw[Y]at k2;have K:=K.2;rw[show (Wq W q c u).kd.ty=1 from JH]at K;have K:m=bm:=by simpa[RU] using K
 subst K;obtain⟨Sf,oe⟩:=r.o.at_ l _ m 0 Zg k2;obtain⟨_,H,NV,E⟩:=cJ JH oe;have hl:u.length=H.toList.length:=E.len;have N:∀y∈H.toList,y.born<c:=λy hy=>by
  obtain⟨j,C⟩:=Gs hy;have Qb:=(W3.1 C).1;exact(E.at_ j (u[j]'ω) y (QJ ω) C).2.2.2
 rcases run_next_at (P:=P) w o.type b m c c I H c hb NV N (QB _) with ⟨F,Q⟩|⟨y,F,U,Q,g3⟩;refine .inl ⟨λe he=>?_,by simp[execOp,ho,hv,Q]⟩;obtain⟨j,C⟩:=Gs he;have Qb:=(W3.1 C).1;obtain⟨_,_,e3,_⟩:=E.at_ j e (H.toList[j]'ω) C (QJ ω);have og:∀z∈H.toList,I.contains z.born=true:=λz hz=>by
  have:leftOf H I=#[]:=Array.eq_empty_of_size_eq_zero F;unfold leftOf at this;rw[Array.filter_eq_empty_iff]at this;have:=this z (by simpa using hz);simpa using this
 have:=og _ (Xn (show j<H.toList.length from ω));rw[e3]at this;rw[<- Bz];simpa using this;obtain⟨j,C⟩:=Gs (show y∈H.toList by unfold leftOf at F;simp at F;simpa using F.1);have Qb:=(W3.1 C).1;obtain⟨d1,d2,d3,d4⟩:=E.at_ j (u[j]'ω) y (QJ ω) C;have GR:y.born ∉ I.toList:=by unfold leftOf at F;simp at F;simpa using F.2
 refine .inr ⟨u[j]'ω,Xn _,by rw[<- d3,<- Bz];exact GR,?_⟩;rw[<- d3];have hh:U.heap=w.heap:=by rcases Q with rfl|rfl<;>rfl
 generalize R:ChangeMaps.setBlock U b (.mapIter (some m) c (I.push y.born) c)=f at g3;have Ap:=kr hb;have V:f.heap=w.heap.setIfInBounds b (.mapIter (some m) c (I.push y.born) c):=by rw[<- R,<- hh];rfl
 have e:∀k,k≠b->f.heap[k]? = w.heap[k]? := λk hk=>by rw[V];simp[Q8 hk]
 have JZ:f.heap[b]?=some (.mapIter (some m) c (I.push y.born) c):=by rw[V];simp[Ap]
 have T:=Tr.IV (w':=f) r.o S O e (o':=Yg l c c (d++[y.born])) rfl rfl rfl (by rw[hb];intro c el h;cases h);refine⟨_,f,by simp only[execOp,ho,hv,Sem.run_bind,g3,Result.andThen_ok];rfl,T,Zh.IV (hro:=rfl) r.o S O e T (Qcw JZ (by rw[Array.toList_push,Bz]) (Se.tr T)),?_,?_⟩;rw[d1];exact .tup _ [.bool true,.int q (u[j]'ω).k,y.val] rfl λi hi=>match i,hi with
  | 0,_=>.cl _ _ (.raw _)
  | 1,_=>.cl _ _ (.raw _)
  | 2,_=>d2.tr T
 have B:Below base w U:=by
  rcases Q with rfl|rfl;exact .refl _ _;exact(Below.refl _ _).drew
 refine B.trans (NO (Zr rfl) (λk hk=>by rw[hh];exact e k hk) (by rw[V,hh];simp) (by rw[<- R];rfl) (by rw[<- R];rfl) (by rw[<- R];rfl))
end
def WR(k:List Int):Value:=.agg (k.map (Value.int .u16)).toArray
structure XF where
 k:List Int
 v:D
 b:Nat
def ZW(c:Nat)(a:List XF):Nat->List D
 | 0=>[.raw (.int .i64 c),.undef,.undef]
 | r+1=>match a[r]? with
  | some e=>[.raw (WR e.k),e.v,.raw (.int .i64 e.b)]
  | none=>[.undef,.undef,.undef]
def kE(b:Kd)(c:Nat)(a:List XF):Ob:=⟨b,0,3,a.length+1,ZW c a⟩
def vT(c:Nat)(a:List XF):Ob:=kE .map c a
def Xh:List XF->List Int->Option D
 | [],_=>none
 | e::r,k=>if e.k=k then some e.v else Xh r k
def Qn7:Value->Int
 | .int _ n=>n
 | _=>0
def oq:D->List Int
 | .raw (.agg a)=>a.toList.map Qn7
 | _=>[]
def Aq(o:Ob):List XF:=(List.range (o.n-1)).map λi=>⟨oq (nth (o.row (i+1)) 0),nth (o.row (i+1)) 1,(GM (nth (o.row (i+1)) 2)).toNat⟩
def NW(o:Ob):Prop:=o.kd.ty=1/\o=kE o.kd (clockOf o) (Aq o)/\∀e∈Aq o,e.k.length=4
def Qn8(k):oq (.raw (WR k))=k:=by
 simp only[oq,WR,Gt]
 conv=>rhs;rw[<- List.map_id k]
 exact Il λn _=>rfl
theorem Qcy(a:Kd)(c)(b:List XF):clockOf (kE a c b)=c:=by simp[clockOf,kE,ZW,nth,GM]
theorem Qcz(b:Kd)(c)(a:List XF):Aq (kE b c a)=a:=by
 apply y8;intro i;simp only[Aq,kE,ZW,be,KL];by_cases h:i<a.length;simp[nth,GM,h,Qn8];rw[Ek (by simpa using h)];simp[h]
theorem QcA(c)(a:List XF):clockOf (vT c a)=c:=Qcy _ _ _
theorem cT(c)(a:List XF):Aq (vT c a)=a:=Qcz _ _ _
theorem Qn9(c)(a:List XF):NW (vT c a)=∀e∈a,e.k.length=4:=by
 refine propext ⟨λh=>by have:=h.2.2;rwa [cT]at this,λh=>⟨rfl,?_,by rwa [cT]⟩⟩;rw[QcA,cT];rfl
theorem QcB(o:Ob):Aq o.ro=Aq o:=rfl
theorem Qoa(o:Ob):NW o.ro=NW o:=by
 obtain⟨k,g,z,n,r⟩:=o;simp only[NW,oc,QcB];simp only[Ob.ro,kE,Kd.toRo_ty,Ob.mk.injEq,vM]
theorem Qob(c)(a:List XF):(vT c a).kd=.map:=rfl
def QcC(q):QR q 0 []=vT 0 []:=by
 have:Ao q 0 []=ZW 0 []:=by
  funext r;cases r<;>rfl
 unfold QR Wq vT kE;rw[this];rfl
def QcD:∀{c:List XF} {k:List Int} {v:D},Xh c k=some v->∃(j:Nat) (e:XF),c[j]?=some e/\e.k=k/\e.v=v/\∀(i:Nat) (b:XF),i<j->c[i]?=some b->b.k≠k
 | [],_,_,h=>by simp[Xh]at h
 | e::r,k,v,h=>by
  simp only[Xh]at h;by_cases a:e.k=k;rw[Qd a]at h;cases h;exact⟨0,e,rfl,a,rfl,λi _ d=>absurd d (Yc i)⟩;rw[Qc a]at h;obtain⟨j,b,m,l,g,f⟩:=QcD h;refine⟨j+1,b,by simpa using m,l,g,λi x d hx=>?_⟩;cases i with
  | zero=>simp at hx;subst hx;exact a
  | succ i=>exact f i x ω (by simpa using hx)
def QcE:∀{b:List XF} {k:List Int},Xh b k=none->∀e∈b,e.k≠k
 | [],_,_=>σ
 | e::r,k,h=>by
  simp only[Xh]at h;by_cases a:e.k=k;rw[Qd a]at h;cases h;rw[Qc a]at h;intro x hx;rcases QK.1 hx with rfl|h2;exact a;exact QcE h x h2
def QcF:∀(a b:List Int),a.length=b.length->kB (a.map (Value.int .u16)) (b.map (Value.int .u16))=some (decide (a=b))
 | [],[],_=>rfl
 | [],_::_,h=>by simp at h
 | _::_,[],h=>by simp at h
 | x::a,y::b,h=>by
  simp only[JT,kB,q7,QcF a b (by simpa using h)];have:IntKind.same .u16 .u16=true:=rfl;simp only[this,vL,Q5,Ig];by_cases d:x=y<;>by_cases c:a=b<;>simp[d,c]
def QcG(k:List Int):(k.map (Value.int .u16)).map cat=List.replicate k.length 0:=by
 induction k with
 | nil=>rfl
 | cons a k b=>simp only[JT,Kw,aZ,b];rfl
structure HK (P:Program) (kt:TypeId):Prop where
 eq:nZ P kt [0,0,0,0]
 arr:∃u,P.underlying kt=some (.array 4 u)/\P.underlying u=some (.int .u16)
section
variable {P:Program}{kt:TypeId}(H:HK P kt)
include H
theorem HK.equal(w){a b:List Int}(d:a.length=4)(c:b.length=4):(Op.equal kt (WR a) (WR b)).run P w=.ok (decide (a=b)) w:=by
 obtain⟨u,e,_⟩:=H.arr;have:=cA 60 10000 kt [0,0,0,0] ω H.eq.shape w (a.map (.int .u16)) (b.map (.int .u16)) (decide (a=b)) (by rw[QcG,d];rfl) (by rw[QcG,c];rfl) (QcF a b (by rw[d,c]));unfold valOf at this;rw[e]at this;exact this
theorem HK.check(l)(w){k:List Int}(t:k.length=4):(checkKey l 10000 kt (WR k)).run P w=.ok () w:=by
 obtain⟨u,g,a⟩:=H.arr;obtain⟨i,s⟩:=info_of_underlying a;have d:qy P 59 u=some [0]:=by unfold qy;rw[a]
 have f:P.cellsOf u=1:=by
  have h:=H.eq.shape;unfold qy at h;rw[g]at h;simp only[d]at h;split at h;assumption;cases h
 have m:∀j,j<4->∃n,(part u (k.map (Value.int .u16)).toArray j).run P w=.ok (.int .u16 n) w:=λj e=>by
  have:=Sa d f w (k.map (Value.int .u16)) j ξ;refine⟨k.getD j 0,?_⟩;rw[this];unfold valOf;rw[a];have:j<k.length:=ω;simp[Q6,this]
 rw[show (10000:Nat)=9999+1 from rfl];unfold WR;rw[Instr.checkKey];simp only[Sem.run_bind,run_underlying g,Result.andThen_ok];simp only[Std.Legacy.Range.forIn_eq_forIn_range',Std.Legacy.Range.size,Ep,Nat.add_one_sub_one,Nat.div_one];have b:∀j∈List.range' 0 4 1,j<4:=λj e=>by simp[List.mem_range']at e;omega
 generalize List.range' 0 4 1=c at b;induction c with
 | nil=>simp
 | cons j c q=>
  obtain⟨n,p⟩:=m j (b j σ);have o:=GL (P:=P) (w:=w) (k:=n) a l 9998;simp only[List.forIn_cons,Sem.run_bind,run_sizeOf w s,Result.andThen_ok,f,Nat.mul_one,p,o,Sem.run_pure];exact q λy r=>b y (by simp[r])
theorem HK.EF(w){k:List Int}(c:k.length=4):∀(b:List MapEntry) (i:Nat),(∀e∈b,∃a,a.length=4/\e.key=WR a/\a≠k)->(findAsking kt (WR k) b i).run P w=.ok none w
 | [],_,_=>by simp[findAsking]
 | e::b,i,h=>by
  obtain⟨a,g,f,d⟩:=h e σ;have:=H.equal w c g;rw[QG (Q8 d)]at this;simp[findAsking,f,this,HK.EF w c b (i+1) λx hx=>h x (by simp[hx])]
theorem HK.XE(w){k:List Int}(d:k.length=4):∀(a:List MapEntry) (b j:Nat) (e:MapEntry),a[j]?=some e->e.key=WR k->(∀(i:Nat) (f:MapEntry),i<j->a[i]?=some f->∃c,c.length=4/\f.key=WR c/\c≠k) ->
  (findAsking kt (WR k) a b).run P w=.ok (some (b+j,e.val)) w
 | [],_,_,_,h,_,_=>by simp at h
 | x::a,b,0,e,h,hx,_=>by
  simp at h;subst h;have:=H.equal w d d;rw[QS rfl]at this;simp[findAsking,hx,this]
 | x::a,b,j+1,e,h,hx,g=>by
  obtain⟨c,p,o,n⟩:=g 0 x ω rfl;have:=H.equal w d p;rw[QG (Q8 n)]at this;have l:=HK.XE w d a (b+1) j e (by simpa using h) hx λi f q m=>g (i+1) f ω (by simpa using m);simp[findAsking,o,this,l];omega
theorem HK.find(w){k}{a:List MapEntry}{r}(h:(findAsking kt (WR k) a 0).run P w=.ok r w):(findKey kt (WR k) a).run P w=.ok r w:=by
 obtain⟨u,b,_⟩:=H.arr;cases a with
 | nil=>simpa[findKey,underlying,b,findNow,findAsking] using h
 | cons e a=>
  simp only[findKey,underlying,findNow,sameNow,Sem.run_bind];simpa[underlying,b] using h
end
structure BA (Z:Nat->Prop) (h:List Ob) (pl:List Pl) (w:World) (c:Nat) (es:List XF) (QX:List MapEntry):Prop where
 len:es.length=QX.length
 at_:∀(i:Nat) (e:XF) (a:MapEntry),es[i]?=some e->QX[i]?=some a->a.key=WR e.k/\QD Z h pl w e.v a.val/\a.born=e.b/\a.born<c
 inc:∀(i j:Nat) (a a':MapEntry),i<j->QX[i]?=some a->QX[j]?=some a'->a.born<a'.born
def Qoc{Z}{h}{e}{w:World}{c}{d}{b}{k:Array MapEntry}(o:w.heap[b]?=some (.map k c))(E:BA Z h e w c d k.toList){l:Kd}(u:l.ty=1):Kz Z h e w (kE l c d) b 0:=by
 refine Kz.ofMap u ⟨rfl,rfl,k,c,o,by have:=E.len;simp at this;simp[kE,this],λi _=>?_,.cl _ _ (.raw _),λi a n=>?_,λi j a s t g f=>E.inc i j a s t (by simpa using g) (by simpa using f)⟩;show (ZW c d i).length=3;cases i with
 | zero=>rfl
 | succ i=>simp only[ZW];split<;>rfl
 have Qb:=(WK.1 n).1;have m:i<d.length:=by have:=E.len;simp at this;omega
 obtain⟨g,f,q,p⟩:=E.at_ i d[i] a (QJ m) (by simpa using n);have r:ZW c d (i+1)=[.raw (WR d[i].k),d[i].v,.raw (.int .i64 d[i].b)]:=by simp[ZW,m]
 show _/\QD Z h e w (nth (ZW c d (i+1)) 0) _/\QD Z h e w (nth (ZW c d (i+1)) 1) _/\QD Z h e w (nth (ZW c d (i+1)) 2) _;rw[r];exact⟨p,by rw[g];exact .cl _ _ (.raw _),f,by rw[q];exact .cl _ _ (.raw _)⟩
def Qod{Z}{h}{l}{w:World}{c}{g}{b p}{k:Kd}(M:k.ty=1)(x:Kz Z h l w (kE k c g) b p):p=0/\∃f:Array MapEntry,w.heap[b]?=some (.map f c)/\BA Z h l w c g f.toList:=by
 obtain⟨F,_,f,d,E,C,_,B,z,y⟩:=x.map M;have t:d=c:=by
  have:=Ju B;simp at this;omega
 subst t;have r:g.length=f.size:=by simpa[kE] using C
 refine⟨F,f,E,by simpa using r,λi e a s u=>?_,λi j a K L I H=>y i j a K L (by simpa using I) (by simpa using H)⟩;obtain⟨q,o,n,m⟩:=z i a (by simpa using u);have J:(kE k d g).row (i+1)=[.raw (WR e.k),e.v,.raw (.int .i64 e.b)]:=by simp[kE,ZW,s]
 rw[J]at o n m;have:=Ju o;have v:=Ju m;refine⟨this,n,?_,q⟩;simp at v;omega
def BA.tr{Z}{h f}{d j}{w b}(T:Tr h d w f j b){c}{g}{k}(E:BA Z h d w c g k):BA Z f j b c g k:=
 ⟨E.len,λi e a m l=>let ⟨p,o,n⟩:=E.at_ i e a m l;⟨p,o.tr T,n⟩,E.inc⟩
def GS:List D->Option (List Int)
 | []=>some []
 | .raw (.int .u16 n)::r=>match GS r with
  | some l=>some (n::l)
  | none=>none
 | _=>none
def QcH:∀{b:List D} {l:List Int},GS b=some l->ED b=some (l.map (Value.int .u16))
 | [],l,e=>by simp[GS]at e;subst e;rfl
 | c::b,l,e=>by
  unfold GS at e;split at e;rename_i a;cases a;rename_i n r a;simp only[Ig]at a;obtain⟨rfl,rfl⟩:=a;split at e;rename_i f d;simp only[Q5]at e;subst e;simp[ED,QcH d];cases e;cases e
def w9(L:Jf)(E:CY)(a:TypeId)(b:List D):Option (List Int):=match ty L a with
 | some ⟨.array n u,_,_,_⟩=>match ty L u,Bx E a with
  | some ⟨.int q,_,_,_⟩,some l=>bif Nat.beq n 4&&IntKind.same q .u16&&IQ l [0,0,0,0] then match GS b with
    | some k=>bif Nat.beq k.length 4 then some k else none
    | none=>none
   else none
  | _,_=>none
 | _=>none
def Qoe{P:Program}{t e:TypeId}{n}{y:Ty}(h:W6 P t y)(b:y.k=.array n e):P.underlying t=some (.array n e):=by
 obtain⟨d,c,a⟩:=h.under;rw[b]at a;rw[c];cases d<;>simp[TK.of]at a;rw[a.1,a.2]
def QcI{P}{L}{E}(d:Z8 P L)(r:An P E){b:TypeId}{e}{k:List Int}(h:w9 L E b e=some k):HK P b/\k.length=4/\GS e=some k:=by
 unfold w9 at h;split at h;case h_2=>cases h
 rename_i n u _ _ _ i;split at h;case h_2=>cases h
 rename_i q _ _ _ l g p;obtain⟨a,h⟩:=jy h;simp only[ZE]at a;have m:=RM a.1.1;have j:=IntKind.ns a.1.2;have o:=cB a.2;subst m;subst j;subst o;split at h;case h_2=>cases h
 rename_i f s;cases c:Nat.beq f.length 4 with
 | false=>rw[c]at h;cases h
 | true=>
  rw[c]at h;cases h;exact⟨⟨r _ _ p,u,Qoe (d b _ i) rfl,CP (d u _ g) rfl⟩,RM c,s⟩
section
variable {P:Program}{L:Jf}{E:CY}{base nt:Nat}{s:St}{o:Oper}{t:TypeId}{x i:Operand}
def QcJ{Z}{e}{a:Act}{w}(r:Rel Z base nt s e a w){c}{k}(j:Qs s.fr i=.agg c)(h:GS c=some k):a.eval i=WR k:=by
 have b:=r.eval i;rw[j]at b;obtain⟨d,g,f,l⟩:=ID b;rw[g,cC (QcH h) d f l];rfl
def QcK{Z}{f}{a}{w}(r:Rel Z base nt s f a w){l c}{j}{d:Kd}(u:d.ty=1)(y:Qs s.fr x=.mref l 0)(q:s.h[l]?=some (kE d c j)):
  ∃b e,a.eval x=.map (some b)/\f[l]?=some (some (b,0))/\(d.ro=false->base<=b)/\w.heap[b]?=some (.map e c)/\BA Z s.h f w c j e.toList:=by
 have n:=r.eval x;rw[y]at n;obtain⟨F,p,b,m,h,B,H,g⟩:=Gz n;rw[q]at m;cases m;have g:=g rfl;rw[g]at h;obtain⟨C,v⟩:=r.o.at_ l _ b 0 q h;obtain⟨_,e,z,E⟩:=Qod u v;have k:=B.2;have:(kE d c j).kd.ty=1:=u;rw[this]at k;exact⟨b,e,k,h,C,z,E⟩
def cU(L:Jf)(E:CY)(h:List Ob)(t:TypeId)(x i:D):Ev:=match ty L t with
 | some ⟨.map b c,_,_,_⟩=>match ty L c,i,x with
  | some a,.agg e,.mref l g=>match w9 L E b e,h[l]? with
   | some k,some o=>some (NW o/\g=0,match Xh (Aq o) k with
    | some d=>.tup [d,.raw (.bool true)]
    | none=>.tup [CS a,.raw (.bool false)])
   | _,_=>none
  | _,_,_=>none
 | _=>none
def BA.keyed{Z:Nat->Prop}{h:List Ob}{j:List Pl}{w:World}{c:Nat}{b:List XF}{g:List MapEntry}(R:BA Z h j w c b g)(k:∀e∈b,e.k.length=4)(i:Nat)(a:MapEntry)(f:g[i]?=some a):∃e,b[i]?=some e/\e.k.length=4/\a.key=WR e.k:=by
 have d:i<b.length:=by have:=(W3.1 f).1;rw[R.len];exact this
 exact⟨b[i],QJ d,k _ (Xn d),(R.at_ i b[i] a (QJ d) f).1⟩
def BA.EF{Z}{h}{j}{w}{c}{d}{f:List MapEntry}(R:BA Z h j w c d f)(q:∀e∈d,e.k.length=4){g:TypeId}(H:HK P g){k:List Int}(m:k.length=4)(l:Xh d k=none)(b):(findKey g (WR k) f).run P b=.ok none b:=by
 refine H.find b (H.EF b m f 0 λa p=>?_);obtain⟨i,n⟩:=Gs p;obtain⟨e,v,u,r⟩:=R.keyed q i a n;exact⟨e.k,u,r,QcE l e (NB v)⟩
def Qof(B:Z8 P L)(hE:An P E)(Q:o.op=.lookup t x i true){p}{d}(h:cU L E s.h t (Qs s.fr x) (Qs s.fr i)=some (p,d))(hp:p):Ww P base nt o s d:=by
 intro Z pl a w r;unfold cU at h;split at h;case h_2=>cases h
 rename_i kt et _ _ _ ht;split at h;case h_2=>cases h
 rename_i ye cs l g WO n hx;split at h;case h_2=>cases h
 rename_i k u hk Zg;simp only[Q5,Q9]at h;obtain⟨rfl,rfl⟩:=h;obtain⟨⟨IW,y,C⟩,rfl⟩:=hp;obtain⟨H,J,JI⟩:=QcI B hE hk;have W:=QcJ r n JI;obtain⟨M,JH⟩:∃M,M=u.kd:=⟨_,rfl⟩;obtain⟨c,hc⟩:∃c,c=clockOf u:=⟨_,rfl⟩;obtain⟨I,K⟩:∃I,I=Aq u:=⟨_,rfl⟩;rw[<- JH]at IW y;rw[<- hc,<- K]at y;rw[<- K]at C ⊢;rw[y]at Zg;obtain⟨b,m,Y,_,_,q,R⟩:=QcK r IW hx Zg;have hx:=Ew (B t _ ht) rfl;have U:=λf:World=>H.check m.isEmpty f J;cases T:Xh I k with
 | some d=>
  obtain⟨j,e,V,g2,g3,g4⟩:=QcD T;have S:j<m.toList.length:=by rw[<- R.len];exact(W3.1 V).1
  obtain⟨k1,k2,_⟩:=R.at_ j e m.toList[j] V (QJ S);have F:∀f:World,(findKey kt (WR k) m.toList).run P f=.ok (some (j,m.toList[j].val)) f:=λf=>by
   have:=H.find f (H.XE f J m.toList 0 j m.toList[j] (QJ S) (by rw[k1,g2]) λO a' Jl V6=>by
    obtain⟨e',q1,q2,q3⟩:=R.keyed C O a' V6;exact⟨e'.k,q2,q3,g4 O e' Jl q1⟩)
   rwa [Jz]at this
  refine⟨.tuple #[m.toList[j].val,.bool true],.tup _ [_,.bool true] rfl (λi n=>match i,n with
   | 0,_=>by rw[<- g3];exact k2
   | 1,_=>.cl _ _ (.raw _)),λf v=>?_⟩
  simp[execOp,Q,Y,W,lookup,underlying,hx,getObj,By ((v b (kr q)).trans q),F f,U f]
 | none=>
  obtain⟨z,hz,zV⟩:=ny (B et ye WO) (N:=free Z pl) w;refine⟨.tuple #[z,.bool false],.tup _ [z,.bool false] rfl (λi n=>match i,n with
   | 0,_=>.cl _ _ hz
   | 1,_=>.cl _ _ (.raw _)),λf v=>?_⟩
  have F:=R.EF C H J T f;simp[execOp,Q,Y,W,lookup,underlying,hx,getObj,By ((v b (kr q)).trans q),F,U f,zV f]
def cV(L:Jf)(E:CY)(h:List Ob)(t:TypeId)(x i v:D):Option (Prop × List Ob):=match ty L t with
 | some ⟨.map a _,_,_,_⟩=>match i,x with
  | .agg b,.mref l g=>match w9 L E a b,h[l]? with
   | some k,some o=>some (NW o/\Xh (Aq o) k=none/\g=0/\o.kd.ro=false,h.set l (vT (clockOf o+1) (Aq o++[⟨k,v,clockOf o⟩])))
   | _,_=>none
  | _,_=>none
 | _=>none
def Qog(hL:Z8 P L)(hE:An P E){v}(W:o.op=.mapUpdate t x i v){p}{h'}(h:cV L E s.h t (Qs s.fr x) (Qs s.fr i) (Qs s.fr v)=some (p,h'))(hp:p):jz P base nt o s h' .undef:=by
 unfold cV at h;split at h;case h_2=>cases h
 rename_i kt et _ _ _ ht;split at h;case h_2=>cases h
 rename_i cs l g hi hx;split at h;case h_2=>cases h
 rename_i k J hk I;simp only[Q5,Q9]at h;obtain⟨rfl,rfl⟩:=h;obtain⟨⟨IW,M,h4⟩,Y,rfl,B⟩:=hp;obtain⟨H,GU,JI⟩:=QcI hL hE hk;obtain⟨C,JH⟩:∃C,C=J.kd:=⟨_,rfl⟩;obtain⟨c,n⟩:∃c,c=clockOf J:=⟨_,rfl⟩;obtain⟨j,Q⟩:∃j,j=Aq J:=⟨_,rfl⟩;rw[<- JH]at IW M B;rw[<- n,<- Q]at M;rw[<- Q]at h4 Y ⊢;rw[<- n];have Qf:C=.map:=by cases C<;>first|rfl|(exfalso;revert IW;decide)|(exfalso;revert B;decide)
 rw[M,Qf]at I;intro Z S a w r KX;have e2:=QcJ r hi JI;have e3:=r.eval v;obtain⟨b,d,e1,h2,O,F,R⟩:=QcK r rfl hx I;have O:=O rfl;have GO:=Ew (hL t _ ht) rfl;have q2:=R.EF h4 H GU Y w;have q3:=H.check false w GU;have Za:(mapUpdate t (.map (some b)) (WR k) (a.eval v)).run P w=.ok () { w with heap:=w.heap.setIfInBounds b (.map (d.push { key:=WR k,val:=a.eval v,born:=c }) (c+1)) }:=by
  simp[mapUpdate,underlying,GO,getObj,By F,q2,q3,setObj,Sc F]
 have Ap:=kr F;generalize q:({ w with heap:=w.heap.setIfInBounds b (.map (d.push { key:=WR k,val:=a.eval v,born:=c }) (c+1)) }:World)=u at Za;have e:∀c,c≠b->u.heap[c]? = w.heap[c]? := λc n=>by rw[<- q];simp[Q8 n]
 have JZ:u.heap[b]?=some (.map (d.push { key:=WR k,val:=a.eval v,born:=c }) (c+1)):=by rw[<- q];simp[Ap]
 have T:=Tr.IV (w':=u) r.o I h2 e (o':=vT (c+1) (j++[⟨k,Qs s.fr v,c⟩])) rfl rfl rfl (by rw[F];intro c el h;cases h);have R':=R.tr T;have hl:j.length=d.size:=by have:=R.len;simpa using this
 have RR:BA Z (s.h.set l (vT (c+1) (j++[⟨k,Qs s.fr v,c⟩]))) S u (c+1) (j++[⟨k,Qs s.fr v,c⟩]) (d.push { key:=WR k,val:=a.eval v,born:=c }).toList:=by
  refine⟨by simp[hl],λV e' a' Xg m=>?_,λK U x y GP hx f=>?_⟩;have m:(d.push { key:=WR k,val:=a.eval v,born:=c })[V]?=some a':=by rw[<- vE];exact m
  rw[aM]at m;rcases Yd Xg with N|⟨N,Jo⟩;have:=(W3.1 N).1;rw[Qc ω]at m;obtain⟨k1,k2,k3,k4⟩:=R'.at_ V e' a' N (by simpa using m);exact⟨k1,k2,k3,ω⟩;subst Jo;rw[Qd ω]at m;cases m;exact⟨rfl,e3.tr T,rfl,σ⟩;have hx:(d.push { key:=WR k,val:=a.eval v,born:=c })[K]?=some x:=by rw[<- vE];exact hx
  have f:(d.push { key:=WR k,val:=a.eval v,born:=c })[U]?=some y:=by rw[<- vE];exact f
  rw[aM]at hx f;have JU:∀(i:Nat) (z:MapEntry),d[i]?=some z->z.born<c:=λi z hz=>by
   have Qb:=(WK.1 hz).1;exact(R.at_ i (j[i]'ω) z (QJ ω) (by simpa using hz)).2.2.2
  split at hx;split at f;omega;have:=(WK.1 f).1;omega;split at f;cases f;exact JU K x hx;exact R.inc K U x y GP (by simpa using hx) (by simpa using f)
 refine⟨Go.undef,u,S,.inr ⟨by simp[execOp,W,e1,e2,Za],rfl⟩,T,Zh.IV (hro:=rfl) r.o I h2 e T (Qoc JZ RR rfl),.cl _ _ (.undef _),?_,λn=>by simp[calm,W]at n⟩;exact NO O e (by rw[<- q];simp) (by rw[<- q]) (by rw[<- q]) (by rw[<- q])
end
end Go.Fg
