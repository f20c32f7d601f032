/- Contracts and laws on the way to the statement. No conditions. -/
import Derived.KernelRfl
import Derived.WalkKit
import Derived.WalkLawsBesides
import Derived.WalkSpells
import Derived.ChangeKeysEq
import Derived.Maps.RangeRun
import Derived.Scope
set_option maxRecDepth 100000
set_option maxHeartbeats 16000000
set_option linter.unusedVariables false
set_option linter.unusedSimpArgs false
set_option linter.unusedSectionVars false
set_option linter.defProp false
namespace Go.Fg
open Go.RowKit (Below)
theorem ω{p:Prop}(h:p:=by (omega)):p:=h
theorem σ{p:Prop}(h:p:=by (simp)):p:=h
theorem π{p:Prop}(h:p:=by (decide)):p:=h
theorem τ{p:Prop}(h:p:=by (kernel_rfl)):p:=h
theorem ξ{p:Prop}(h:p:=by ((simp;omega))):p:=h
theorem δ{p:Prop}(h:p:=by (first|assumption|omega)):p:=h
theorem η{p:Prop}(h:p:=by ((rw[IntKind.wrap_u64];omega))):p:=h
def w9:=@Array.getD_eq_getD_getElem?
def Lk:=@Array.getElem!_eq_getD
def Ll:=@Array.getElem?_append_left
def zF:=@Array.getElem?_eq_getElem
def Wg:=@Array.getElem?_eq_some_iff
def fo:=@Array.getElem?_modify
def Tf:=@Array.getElem?_push
def yd:=@Array.getElem?_setIfInBounds
def fp:=@Array.getElem?_setIfInBounds_ne
def ku:=@Array.getElem?_toList
def fq:=@Array.getElem_setIfInBounds
def EV:=@Bool.and_eq_false_iff
def ZH:=@Bool.and_eq_true
def Ym:=@Bool.eq_false_iff
def vE:=@Bool.eq_iff_iff
def EW:=@Bool.false_and
def YR:=@Bool.false_eq_true
def vF:=@Bool.false_ne_true
def OC:=@Bool.false_or
def XY:=@Bool.not_eq_true
def qZ:=@Bool.not_eq_true'
def GV:=@Bool.not_false
def De:=@Bool.not_true
def EX:=@Bool.or_eq_false_iff
def Aq:=@Bool.or_eq_true
def Df:=@Bool.true_and
def xg:=@Classical.byContradiction
def Lm:=@Classical.not_forall
def Tg:=@Function.comp_def
def Th:=@Int.natCast_mul
def GW:=@Int.toNat_of_nonneg
def Lo:=@List.Pairwise.filter
def Lp:=@List.Perm.refl
def YS:=@List.all_eq_true
def EY:=@List.any_eq_true
def Wx:=@List.append_assoc
def Ti:=@List.append_inj
def Jl:=@List.append_nil
def vG:=@List.cons.inj
def EZ:=@List.cons.injEq
def YT:=@List.cons_append
def OD:=@List.drop_eq_getElem_cons
def Tj:=@List.drop_eq_nil_of_le
def ft:=@List.eq_nil_iff_forall_not_mem
def xh:=@List.ext_getElem?
def OF:=@List.filter_append
def Tl:=@List.filter_congr
def vH:=@List.filter_cons
def OG:=@List.filter_cons_of_neg
def OH:=@List.filter_cons_of_pos
def yf:=@List.filter_eq_self
def OI:=@List.filter_map
def vI:=@List.find?_cons
def js:=@List.find?_eq_none
def xi:=@List.find?_some
def GX:=@List.findIdx?_eq_none_iff
def E0:=@List.findIdx?_eq_some_iff_getElem
def GY:=@List.foldl_append
def yg:=@List.foldl_cons
def Q5:=@List.getD_eq_getElem?_getD
def JD:=@List.getElem?_append_left
def JE:=@List.getElem?_append_right
def GZ:=@List.getElem?_drop
def QP:=@List.getElem?_eq_getElem
def Dg:=@List.getElem?_eq_none
def Wh:=@List.getElem?_eq_some_iff
def Kl:=@List.getElem?_map
def E6:=@List.getElem?_of_mem
def Tm:=@List.getElem?_range
def Jf:=@List.getElem?_set_ne
def VX:=@List.getElem?_set_self
def Xc:=@List.getElem?_take
def XK:=@List.getElem_mem
def yh:=@List.getElem_of_mem
def JJ:=@List.length_append
def VK:=@List.length_cons
def G0:=@List.length_eq_zero_iff
def YU:=@List.length_filter_le
def JV:=@List.length_map
def Xd:=@List.length_set
def jt:=@List.length_singleton
def Tp:=@List.length_take
def ju:=@List.map_append
def Tq:=@List.map_congr_left
def JN:=@List.map_cons
def E7:=@List.map_map
def QW:=@List.mem_append
def Ts:=@List.mem_append_left
def Lq:=@List.mem_append_right
def QE:=@List.mem_cons
def Km:=@List.mem_cons_of_mem
def K8:=@List.mem_cons_self
def JO:=@List.mem_filter
def Jm:=@List.mem_map
def xj:=@List.mem_of_find?_eq_some
def OJ:=@List.mem_of_getElem?
def G1:=@List.mem_range
def qz:=@List.mem_singleton
def q4:=@List.nil_append
def JP:=@List.nodup_append
def ZN:=@List.nodup_cons
def Tt:=@List.not_mem_nil
def Tu:=@List.pairwise_append
def yi:=@List.pairwise_cons
def OK:=@List.pairwise_map
def Tv:=@List.replicate_succ
def Tw:=@List.set_append_left
def Lr:=@List.set_append_right
def Jn:=@List.set_set
def E8:=@List.size_toArray
def Tz:=@List.takeWhile_cons
def QaJ:=@List.takeWhile_sublist
def E9:=@List.take_add_one
def Fa:=@List.take_append_drop
def TB:=@List.take_left'
def zG:=@List.take_length
def Vw:=@Nat.add_mul
def Ls:=@Nat.add_sub_cancel
def TC:=@Nat.add_sub_cancel_left
def G2:=@Nat.add_zero
def TD:=@Nat.and_lt_two_pow
def VL:=@Nat.beq_eq
def Lu:=@Nat.beq_refl
def vJ:=@Nat.blt_eq
def TE:=@Nat.div_add_mod
def TF:=@Nat.div_le_self
def TG:=@Nat.div_mod_unique
def OL:=@Nat.eq_of_beq_eq_true
def TH:=@Nat.le_of_ble_eq_true
def QB:=@Nat.le_refl
def K9:=@Nat.le_trans
def G4:=@Nat.lt_irrefl
def OM:=@Nat.lt_of_le_of_lt
def kv:=@Nat.lt_of_lt_of_le
def Ar:=@Nat.lt_or_ge
def vK:=@Nat.lt_succ_iff_lt_or_eq
def G5:=@Nat.lt_succ_self
def As:=@Nat.mod_eq_of_lt
def Yn:=@Nat.mod_lt
def ON:=@Nat.mul_assoc
def Lw:=@Nat.mul_comm
def vL:=@Nat.mul_le_mul
def YV:=@Nat.mul_le_mul_right
def XL:=@Nat.not_lt_zero
def Dh:=@Nat.shiftRight_eq_div_pow
def Di:=@Nat.sub_self
def Fb:=@Nat.sub_zero
def TI:=@Nat.two_pow_pos
def OO:=@Nat.xor_lt_two_pow
def Jv:=@Nat.zero_add
def KF:=@Nat.zero_le
def BF:=@Nat.zero_lt_succ
def Q1:=@Ne.symm
def TJ:=@Option.bind_some
def Lx:=@Option.getD_none
def KV:=@Option.getD_some
def Dj:=@Option.isSome_iff_exists
def vM:=@Option.isSome_none
def kx:=@Option.isSome_some
def fu:=@Option.map_eq_none_iff
def Xq:=@Option.map_eq_some_iff
def OP:=@Option.map_map
def YW:=@Option.map_none
def Kx:=@Option.map_some
def G6:=@Option.some.inj
def QX:=@Option.some.injEq
def Q9:=@Prod.mk.injEq
def jv:=@beq_eq_false_iff_ne
def zH:=@beq_iff_eq
def Fc:=@beq_self_eq_true
def q5:=@cond_false
def ky:=@cond_true
def QS:=@decide_eq_false
def OQ:=@decide_eq_false_iff_not
def Q3:=@decide_eq_true
def XZ:=@decide_eq_true_eq
def vN:=@if_false
def Qe:=@if_neg
def Qf:=@if_pos
def Va:=@if_true
def Dl:=@not_exists
def YX:=@not_or
def BG:=@of_decide_eq_false
def Yo:=@of_decide_eq_true
def yj:=@true_and
inductive D where
 | raw (v:Value)
 | nil
 | undef
 | imm (sz n:Nat) (row:Nat->List D)
 | ip (cells:List D)
 | ref (l g off len:Nat)
 | ptr (l g i j:Nat)
 | mref (l g:Nat)
 | clo (f:FuncId) (first:Nat) (Qs:List D)
 | agg (cs:List D)
 | tup (cs:List D)
def nth(a:List D)(i:Nat):D:=a.getD i .undef
def QY(a:List Value)(i:Nat):Value:=a.getD i Go.undef
inductive Kd where
 | one
 | arr
 | map
 | iter
 | Wy
 | vO
 | OR
 | td
def Kd.G7:Kd->Bool
 | .one=>true
 | .Wy=>true
 | _=>false
def Kd.ty:Kd->Nat
 | .one=>0
 | .arr=>0
 | .map=>1
 | .iter=>2
 | .Wy=>0
 | .vO=>0
 | .OR=>1
 | .td=>2
def Kd.ro:Kd->Bool
 | .one=>false
 | .arr=>false
 | .map=>false
 | .iter=>false
 | _=>true
def Kd.toRo:Kd->Kd
 | .one=>.Wy
 | .arr=>.vO
 | .map=>.OR
 | .iter=>.td
 | k=>k
def Kd.toRo_ty(k:Kd):k.toRo.ty=k.ty:=by cases k<;>rfl
def Kd.toRo_ro(k:Kd):k.toRo.ro=true:=by cases k<;>rfl
def OS:Nat->Nat->Value
 | 1,b=>.map (some b)
 | _,b=>.pointer (some ⟨b,0,none⟩)
def te(t b:Nat)(v:Value):Prop:=t≠0/\v=OS t b
structure Ob where
 kd:Kd
 gen:Nat
 sz:Nat
 n:Nat
 row:Nat->List D
abbrev Pl:=Option (Nat × Nat)
def W0(a:List Pl)(b:Nat):Prop:=∀l q:Nat,a[l]?≠some (some (b,q))
def free(Z:Nat->Prop)(a:List Pl)(b:Nat):Prop:=Z b/\W0 a b
variable {Z:Nat->Prop}
inductive Cl (N:Nat->Prop) (w:World):D->Value->Prop
 | raw (v:Value):Cl N w (.raw v) v
 | undef (v:Value):Cl N w .undef v
 | nil (a:Option Addr):Cl N w .nil (.slice a 0 0)
 | imm (sz n:Nat) (row:Nat->List D) (a:Option Addr) (cap b o:Nat) (vs:Nat->Nat->Value)
   (ha:0<n->a=some ⟨b,o,none⟩) (hl:n<=cap) (hs:∀i,i<n->(row i).length=sz)
   (hc:∀i j,i<n->j<sz->N b/\w.cell? ⟨b,o+(i*sz+j),none⟩=some (vs i j))
   (hr:∀i j,i<n->j<sz->Cl N w (nth (row i) j) (vs i j)):Cl N w (.imm sz n row) (.slice a n cap)
 | ip (cells:List D) (b o:Nat) (vs:Nat->Value)
   (hc:∀j,j<cells.length->N b/\w.cell? ⟨b,o+j,none⟩=some (vs j))
   (hr:∀j,j<cells.length->Cl N w (nth cells j) (vs j)):Cl N w (.ip cells) (.pointer (some ⟨b,o,none⟩))
 | clo (f:FuncId) (nf:Nat) (cs:List D) (vs:List Value) (hl:vs.length=cs.length) (hr:∀i,i<cs.length->Cl N w (nth cs i) (QY vs i)):Cl N w (.clo f nf cs) (.func (.func f) (vs.take nf).toArray (vs.drop nf).toArray)
 | agg (cs:List D) (vs:List Value) (hl:vs.length=cs.length) (hr:∀i,i<cs.length->Cl N w (nth cs i) (QY vs i)):Cl N w (.agg cs) (.agg vs.toArray)
 | tup (cs:List D) (vs:List Value) (hl:vs.length=cs.length) (hr:∀i,i<cs.length->Cl N w (nth cs i) (QY vs i)):Cl N w (.tup cs) (.tuple vs.toArray)
def Cl.mono{N N'}{w w'}{d}{v}(h:Cl N w d v)
  (C:∀b,N b->b<w.heap.size->N' b/\w'.heap[b]? = w.heap[b]?):Cl N' w' d v:=by
 have p:∀(b o:Nat) (u:Value),N b/\w.cell? ⟨b,o,none⟩=some u->N' b/\w'.cell? ⟨b,o,none⟩=some u:=by
  rintro b o u ⟨B,l⟩;obtain⟨I,H⟩:=C b B (block_lt_of_cell l);exact⟨I,by rw[World.cell?_of_block (w:=w) (a:=⟨b,o,none⟩) H];exact l⟩
 induction h with
 | raw v=>exact .raw v
 | undef v=>exact .undef v
 | nil a=>exact .nil a
 | imm x n s a t b o c F g z l q e=>exact .imm x n s a t b o c F g z (λi j E r=>p _ _ _ (l i j E r)) e
 | ip k b o c l q e=>exact .ip k b o c (λj r=>p _ _ _ (l j r)) e
 | clo f y m c g q e=>exact .clo f y m c g e
 | agg m c g q e=>exact .agg m c g e
 | tup m c g q e=>exact .tup m c g e
def tf(w:World)(g:Nat)(p:Pl)(e f:Nat)(a:Option Addr)(d:Nat):Prop:=
 (f=0/\d=0)\/∃b q c el,p=some (b,q)/\a=some ⟨b,q+e*g,none⟩/\w.heap[b]? = some (.cells c el (0,0))/\q+(e+d)*g<=c.size/\f<=d
inductive Qy (Z:Nat->Prop) (h:List Ob) (pl:List Pl) (w:World):D->Value->Prop
 | cl (d:D) (v:Value) (hc:Cl (free Z pl) w d v):Qy Z h pl w d v
 | ref (l g off len:Nat) (o:Ob) (p:Pl) (a:Option Addr) (cap:Nat) (ho:h[l]? = some o) (hp:pl[l]? = some p) (hk:o.kd.ty=0) (hg:g<=o.gen)
   (hs:g=o.gen->tf w o.sz p off len a cap):Qy Z h pl w (.ref l g off len) (.slice a len cap)
 | ptr (l g i j:Nat) (o:Ob) (p:Pl) (a:Addr) (ho:h[l]? = some o) (hp:pl[l]? = some p) (hk:o.kd.ty=0) (hg:g<=o.gen)
   (hs:g=o.gen->∃b q,p=some (b,q)/\a=⟨b,q+(i*o.sz+j),none⟩):Qy Z h pl w (.ptr l g i j) (.pointer (some a))
 | mref (l g:Nat) {v:Value} (o:Ob) (p:Pl) (b:Nat) (ho:h[l]? = some o) (hp:pl[l]? = some p) (hk:te o.kd.ty b v) (hg:g<=o.gen)
   (hs:g=o.gen->p=some (b,0)):Qy Z h pl w (.mref l g) v
 | clo (f:FuncId) (nf:Nat) (cs:List D) (vs:List Value) (hl:vs.length=cs.length) (hr:∀i,i<cs.length->Qy Z h pl w (nth cs i) (QY vs i)):Qy Z h pl w (.clo f nf cs) (.func (.func f) (vs.take nf).toArray (vs.drop nf).toArray)
 | agg (cs:List D) (vs:List Value) (hl:vs.length=cs.length) (hr:∀i,i<cs.length->Qy Z h pl w (nth cs i) (QY vs i)):Qy Z h pl w (.agg cs) (.agg vs.toArray)
 | tup (cs:List D) (vs:List Value) (hl:vs.length=cs.length) (hr:∀i,i<cs.length->Qy Z h pl w (nth cs i) (QY vs i)):Qy Z h pl w (.tup cs) (.tuple vs.toArray)
structure Tr (h:List Ob) (pl:List Pl) (w:World) (h':List Ob) (Qh:List Pl) (w':World):Prop where
 Kg:∀b,W0 pl b->b<w.heap.size->W0 Qh b/\w'.heap[b]? = w.heap[b]?
 obj:∀(l:Nat) (o:Ob) (p:Pl),h[l]? = some o->pl[l]? = some p->∃o' p',h'[l]? = some o'/\Qh[l]? = some p'/\o.gen<=o'.gen/\o'.kd.ty=o.kd.ty/\(o'.gen=o.gen->o'.sz=o.sz/\p'=p)
 shape:∀(l:Nat) (o o':Ob) (b q:Nat),h[l]? = some o->h'[l]? = some o'->o'.gen=o.gen->pl[l]? = some (some (b,q))->∀c el,w.heap[b]? = some (.cells c el (0,0)) ->
  ∃c',w'.heap[b]? = some (.cells c' el (0,0))/\c'.size=c.size
def Tr.Qil{h}{d}{w:World}{g}{f}{c:World}(T:Tr h d w g f c){b}(a:free Z d b)(e:b<w.heap.size):free Z f b/\c.heap[b]? = w.heap[b]? :=
 ⟨⟨a.1,(T.Kg b a.2 e).1⟩,(T.Kg b a.2 e).2⟩
def Qy.tr{h}{Y}{w}{h'}{Qh}{W}(T:Tr h Y w h' Qh W){d}{v}(r:Qy Z h Y w d v):Qy Z h' Qh W d v:=by
 induction r with
 | cl d v N=>exact .cl d v (N.mono λb O Qc=>T.Qil O Qc)
 | ref l g Q R o p a U n m C E B=>
  obtain⟨e,x,t,L,y,K,F⟩:=T.obj l o p n m;refine .ref l g Q R e x a U t L (by rw[K,C]) (K9 E y) λV=>?_;have s:e.gen=o.gen:=ω;obtain⟨I,H⟩:=F s;rcases B ω with h1|⟨b,q,c,el,M,P,O,N,k⟩
  .exact .inl h1
  .obtain⟨c',Ky,S⟩:=T.shape l o e b q n t s (by rw[m,M]) c el O;exact .inr ⟨b,q,c',el,by rw[H,M],by rw[I];exact P,Ky,by rw[I,S];exact N,k⟩
 | ptr l g i j o p a n m C E B=>
  obtain⟨e,x,t,L,y,K,F⟩:=T.obj l o p n m;refine .ptr l g i j e x a t L (by rw[K,C]) (K9 E y) λV=>?_;have s:e.gen=o.gen:=ω;obtain⟨I,H⟩:=F s;obtain⟨b,q,M,P⟩:=B ω;exact⟨b,q,by rw[H,M],by rw[I];exact P⟩
 | mref l g o p b n m C E B=>
  obtain⟨e,x,t,L,y,K,F⟩:=T.obj l o p n m;refine .mref l g e x b t L (by rw[K];exact C) (K9 E y) λV=>?_;have s:e.gen=o.gen:=ω;obtain⟨I,H⟩:=F s;rw[H];exact B ω
 | clo f nf J u k hr z=>exact .clo f nf J u k z
 | agg J u k hr z=>exact .agg J u k z
 | tup J u k hr z=>exact .tup J u k z
def Lz(Z:Nat->Prop)(h:List Ob)(a:List Pl)(w:World)(o:Ob)(b q:Nat):Prop:=
 ∃c el,w.heap[b]? = some (.cells c el (0,0))/\q+o.n*o.sz<=c.size/\(∀i,i<o.n->(o.row i).length=o.sz) /\
  ∀i j,i<o.n->j<o.sz->∃v,c[q+(i*o.sz+j)]? = some v/\Qy Z h a w (nth (o.row i) j) v
def OT(Z:Nat->Prop)(h:List Ob)(d:List Pl)(w:World)(o:Ob)(b q:Nat):Prop:=
 q=0/\o.sz=3/\∃(c:Array MapEntry) (a:Nat),w.heap[b]? = some (.map c a)/\o.n=c.size+1/\(∀i,i<o.n->(o.row i).length=3) /\
  Qy Z h d w (nth (o.row 0) 0) (.int .i64 a) /\
  (∀(i:Nat) (e:MapEntry),c[i]? = some e->e.born<a/\Qy Z h d w (nth (o.row (i+1)) 0) e.key/\Qy Z h d w (nth (o.row (i+1)) 1) e.val/\Qy Z h d w (nth (o.row (i+1)) 2) (.int .i64 e.born)) /\
  ∀(i j:Nat) (e f:MapEntry),i<j->c[i]? = some e->c[j]? = some f->e.born<f.born
def fv(Z:Nat->Prop)(h:List Ob)(d:List Pl)(w:World)(o:Ob)(b q:Nat):Prop:=
 q=0/\o.sz=1/\∃(m a c:Nat) (seen:Array Nat),w.heap[b]? = some (.mapIter (some m) a seen c)/\o.n=seen.size+3/\(∀i,i<o.n->(o.row i).length=1) /\
  Qy Z h d w (nth (o.row 0) 0) (.map (some m))/\Qy Z h d w (nth (o.row 1) 0) (.int .i64 a)/\Qy Z h d w (nth (o.row 2) 0) (.int .i64 c) /\
  ∀(i s:Nat),seen[i]? = some s->Qy Z h d w (nth (o.row (i+3)) 0) (.int .i64 s)
def Kb(Z:Nat->Prop)(h:List Ob)(a:List Pl)(w:World)(o:Ob)(b q:Nat):Prop:=match o.kd.ty with
 | 0=>Lz Z h a w o b q
 | 1=>OT Z h a w o b q
 | _=>fv Z h a w o b q
def Kb.cells{h}{pl}{w}{o:Ob}{b q}(a:o.kd.ty=0)(x:Kb Z h pl w o b q):Lz Z h pl w o b q:=by
 unfold Kb at x;rw[a]at x;exact x
def Kb.map{h}{a}{w}{o:Ob}{b q}(c:o.kd.ty=1)(x:Kb Z h a w o b q):OT Z h a w o b q:=by
 unfold Kb at x;rw[c]at x;exact x
def Kb.iter{h}{a}{w}{o:Ob}{b q}(c:o.kd.ty=2)(x:Kb Z h a w o b q):fv Z h a w o b q:=by
 unfold Kb at x;rw[c]at x;exact x
def Kb.LA{h}{a}{w}{o:Ob}{b q}(c:o.kd.ty=0)(x:Lz Z h a w o b q):Kb Z h a w o b q:=by
 unfold Kb;rw[c];exact x
def Kb.ofMap{h}{a}{w}{o:Ob}{b q}(c:o.kd.ty=1)(x:OT Z h a w o b q):Kb Z h a w o b q:=by
 unfold Kb;rw[c];exact x
def Kb.th{h}{a}{w}{o:Ob}{b q}(c:o.kd.ty=2)(x:fv Z h a w o b q):Kb Z h a w o b q:=by
 unfold Kb;rw[c];exact x
def Kd.cases(k:Kd):k.ty=0\/k.ty=1\/k.ty=2:=by cases k<;>simp[Kd.ty]
def Kb.lt{h}{d}{w:World}{o}{b q}(x:Kb Z h d w o b q):b<w.heap.size:=by
 rcases o.kd.cases with hk|hk|hk
 .obtain⟨c,el,a,_⟩:=x.cells hk;exact(Wg.1 a).1
 .obtain⟨_,_,c,el,a,_⟩:=x.map hk;exact(Wg.1 a).1
 .obtain⟨_,_,m,s,l,e,a,_⟩:=x.iter hk;exact(Wg.1 a).1
def Kb.len{h}{e}{w}{o:Ob}{b q}(x:Kb Z h e w o b q){i:Nat}(d:i<o.n):(o.row i).length=o.sz:=by
 rcases o.kd.cases with hk|hk|hk
 .obtain⟨c,el,_,_,a,_⟩:=x.cells hk;exact a i d
 .obtain⟨_,hz,c,el,_,_,a,_⟩:=x.map hk;rw[a i d,hz]
 .obtain⟨_,hz,m,s,l,f,_,_,a,_⟩:=x.iter hk;rw[a i d,hz]
def Kb.to{E}{h C}{B F}{w n}{o d:Ob}{b q}(x:Kb Z h B w o b q)(J:d.kd.ty=o.kd.ty)(l:d.sz=o.sz)(g:d.n=o.n)
  (K:n.heap[b]? = w.heap[b]?) (I:∀i,i<o.n->(d.row i).length=(o.row i).length)
  (H:∀i j v,i<o.n->j<(o.row i).length->Qy Z h B w (nth (o.row i) j) v->Qy E C F n (nth (d.row i) j) v):Kb E C F n d b q:=by
 rcases o.kd.cases with hm|hm|hm
 .obtain⟨c,el,y,u,f,t⟩:=x.cells hm;refine Kb.LA (by rw[J,hm]) ⟨c,el,by rw[K];exact y,by rw[g,l];exact u,λi a=>?_,λi j a p=>?_⟩
  .rw[g]at a;rw[I i a,f i a,l]
  .rw[g]at a;rw[l]at p;obtain⟨v,W,R⟩:=t i j a p;exact⟨v,by rw[l];exact W,H i j v a (by rw[f i a];exact p) R⟩
 .obtain⟨N,O,es,ck,y,u,f,t,M,L⟩:=x.map hm;have up:∀i j v,i<o.n->j<3->Qy Z h B w (nth (o.row i) j) v->Qy E C F n (nth (d.row i) j) v:=λi j v a p r=>H i j v a (by rw[f i a];exact p) r;refine Kb.ofMap (by rw[J,hm]) ⟨N,by rw[l];exact O,es,ck,by rw[K];exact y,by rw[g];exact u,λi a=>?_,up 0 0 _ ω ω t,λi e Q=>?_,L⟩
  .rw[g]at a;rw[I i a,f i a]
  .obtain⟨V,U,T,S⟩:=M i e Q;have a:i+1<o.n:=by have:=(Wg.1 Q).1;omega
   exact⟨V,up _ 0 _ a ω U,up _ 1 _ a ω T,up _ 2 _ a ω S⟩
 .obtain⟨N,O,m,k,z,seen,y,u,f,t,M,L,Y⟩:=x.iter hm;have up:∀i v,i<o.n->Qy Z h B w (nth (o.row i) 0) v->Qy E C F n (nth (d.row i) 0) v:=λi v a r=>H i 0 v a (by rw[f i a];omega) r;refine Kb.th (by rw[J,hm]) ⟨N,by rw[l];exact O,m,k,z,seen,by rw[K];exact y,by rw[g];exact u,λi a=>?_,up 0 _ ω t,up 1 _ ω M,up 2 _ ω L,λi s P=>?_⟩
  .rw[g]at a;rw[I i a,f i a]
  .exact up _ _ (by have:=(Wg.1 P).1;omega) (Y i s P)
structure Zg (Z:Nat->Prop) (base:Nat) (h:List Ob) (pl:List Pl) (w:World):Prop where
 len:pl.length=h.length
 inj:∀(l l':Nat) (b q q':Nat),pl[l]? = some (some (b,q))->pl[l']? = some (some (b,q'))->l=l'
 Vh:∀(l:Nat) (o:Ob),h[l]? = some o->pl[l]? = some none->o.n=0
 at_:∀(l:Nat) (o:Ob) (b q:Nat),h[l]? = some o->pl[l]? = some (some (b,q))->(o.kd.ro=false->base<=b)/\Kb Z h pl w o b q
structure St where
 fr:List (Nat × D)
 h:List Ob
def get:List (Nat × D)->Nat->D
 | [],_=>.undef
 | (t,d)::r,u=>bif Nat.beq t u then d else get r u
def put:List (Nat × D)->Nat->D->List (Nat × D)
 | [],u,d=>[(u,d)]
 | (t,e)::r,u,d=>bif Nat.beq t u then (u,d)::r else (t,e)::put r u d
structure Rel (Z:Nat->Prop) (base nt:Nat) (s:St) (pl:List Pl) (a:Act) (w:World):Prop where
 nt:a.tmps.size=nt
 defers:a.defers=[]
 fr:∀t,Qy Z s.h pl w (get s.fr t) (a.tmps.getD t Go.undef)
 o:Zg Z base s.h pl w
def Dm(e)(u)(d)(t):get (put e u d) t=if t=u then d else get e t:=by
 induction e with
 | nil=>
  simp only[put,get];by_cases h:u=t
  .subst h;simp
  .have b:Nat.beq u t=false:=by rw[<- XY,VL];exact h
   rw[b,Qe (Q1 h)];rfl
 | cons x r f=>
  obtain⟨a,i⟩:=x;simp only[put];by_cases c:a=u
  .subst c;simp only[Lu,ky,get];by_cases h:a=t
   .subst h;simp
   .have b:Nat.beq a t=false:=by rw[<- XY,VL];exact h
    rw[b,Qe (Q1 h)];rfl
  .have b:Nat.beq a u=false:=by rw[<- XY,VL];exact c
   rw[b];simp only[q5,get];by_cases h:a=t
   .subst h;simp[c]
   .have g:Nat.beq a t=false:=by rw[<- XY,VL];exact h
    rw[g];simpa using f
def Kh{h:List Ob}{l}{o}(e:h[l]? = some o):l<h.length:=(Wh.1 e).1
def VM{h:List Pl}{l}{o}(e:h[l]? = some o):l<h.length:=(Wh.1 e).1
def jx{w:World}{b}{o}(h:w.heap[b]? = some o):b<w.heap.size:=(Wg.1 h).1
def Zg.lt{a:Nat}{h:List Ob}{c:List Pl}{w:World}(R:Zg Z a h c w){l b q:Nat}(e:c[l]? = some (some (b,q))):b<w.heap.size/\∀o,h[l]? = some o->o.kd.ro=false->a<=b:=by
 have f:l<h.length:=by have:=VM e;rw[R.len]at this;exact this
 obtain⟨i,x⟩:=R.at_ l (h[l]) b q (QP f) e;exact⟨x.lt,λo d g=>by rw[QP f]at d;cases d;exact i g⟩
def Tr.ext{a}{h}{d}{w i:World}(R:Zg Z a h d w)(e:∀b,b<w.heap.size->i.heap[b]? = w.heap[b]?):Tr h d w h d i where
 Kg:=λb g Qc=>⟨g,e b Qc⟩
 obj:=λl o p j f=>⟨o,p,j,f,QB _,rfl,λ_=>⟨rfl,rfl⟩⟩
 shape:=λl o k b q j n m f c el g=>⟨c,by rw[e b (R.lt f).1];exact g,rfl⟩
def Zg.ext{a}{h}{d}{w c:World}(R:Zg Z a h d w)(e:∀b,b<w.heap.size->c.heap[b]? = w.heap[b]?):Zg Z a h d c where
 len:=R.len
 inj:=R.inj
 Vh:=R.Vh
 at_:=λl o b q k f=>by
  obtain⟨m,x⟩:=R.at_ l o b q k f;exact⟨m,x.to rfl rfl rfl (e b (R.lt f).1) (λ_ _=>rfl) λi j v _ _ g=>g.tr (Tr.ext R e)⟩
def Tr.refl(h)(d)(w):Tr h d w h d w where
 Kg:=λb a Qc=>⟨a,rfl⟩
 obj:=λl o p f e=>⟨o,p,f,e,QB _,rfl,λ_=>⟨rfl,rfl⟩⟩
 shape:=λl o g b q f j i e c el a=>⟨c,a,rfl⟩
def Tr.trans{h h' J}{v K N}{w m M}(T:Tr h v w h' K m)(U:Tr h' K m J N M):Tr h v w J N M where
 Kg:=λb r Qc=>by
  obtain⟨V,s⟩:=T.Kg b r Qc;have S:b<m.heap.size:=by
   rw[zF Qc]at s;exact(Wg.1 s).1
  obtain⟨R,Q⟩:=U.Kg b V S;exact⟨R,by rw[Q,s]⟩
 obj:=λl o p g f=>by
  obtain⟨a,n,d,j,I,H,t⟩:=T.obj l o p g f;obtain⟨y,x,i,F,E,C,B⟩:=U.obj l a n d j;refine⟨y,x,i,F,K9 I E,by rw[C,H],λe=>?_⟩;obtain⟨u,k⟩:=t ω;obtain⟨P,O⟩:=B ω;exact⟨by rw[P,u],by rw[O,k]⟩
 shape:=λl o TL b q g L hg f c el r=>by
  obtain⟨a,n,d,j,I,H,t⟩:=T.obj l o _ g f;obtain⟨y,x,i,F,E,C,B⟩:=U.obj l a n d j;rw[L]at i;cases i;have z:a.gen=o.gen:=ω;obtain⟨u,k⟩:=t z;subst k;obtain⟨Y,d1,d2⟩:=T.shape l o a b q g d z f c el r;obtain⟨W,f1,f2⟩:=U.shape l a TL b q d L ω j Y el d1;exact⟨W,f1,ω⟩
def Rel.ext{c g}{s}{f}{a}{w d:World}(r:Rel Z c g s f a w)(e:∀b,b<w.heap.size->d.heap[b]? = w.heap[b]?):Rel Z c g s f a d:=
 ⟨r.nt,r.defers,λt=>(r.fr t).tr (Tr.ext r.o e),r.o.ext e⟩
def Qin(a:Array Value)(d t)(v:Value)(b:d<a.size):(a.setIfInBounds d v).getD t Go.undef=if t=d then v else a.getD t Go.undef:=by
 simp only[w9,yd];by_cases h:d=t
 .subst h;simp[b]
 .rw[Qe h,Qe (Q1 h)]
def Rel.to{b nt}{s:St}{g}{a}{w}(r:Rel Z b nt s g a w){e}{f}{c}(T:Tr s.h g w e f c)(k:Zg Z b e f c)
  {t:Nat} (j:t<nt) {d:D} {v:Value} (i:Qy Z e f c d v):Rel Z b nt ⟨put s.fr t d,e⟩ f (a.put (some t) v) c where
 nt:=by simp[Act.put,r.nt]
 defers:=r.defers
 fr:=λu=>by
  simp only[Act.put];rw[Dm,Qin _ _ _ _ (by rw[r.nt];exact j)];by_cases h:u=t
  .rw[Qf h,Qf h];exact i
  .rw[Qe h,Qe h];exact(r.fr u).tr T
 o:=k
def Rel.ym{b g}{s:St}{f}{a}{w}(r:Rel Z b g s f a w){d}{e}{c}(T:Tr s.h f w d e c)(h:Zg Z b d e c)
  (v:Value):Rel Z b g ⟨s.fr,d⟩ e (a.put none v) c:=
 ⟨r.nt,r.defers,λu=>(r.fr u).tr T,h⟩
def OU{a:List Pl}{p:Pl}{b:Nat}(f:W0 a b)(c:∀q,p≠some (b,q)):W0 (a++[p]) b:=λl q e=>by
 by_cases d:l<a.length
 .rw[JD d]at e;exact f l q e
 .rw[JE ω]at e;have:l - a.length=0:=by
   have:=(Wh.1 e).1;simp at this;exact this
  rw[this]at e;simp at e;exact c q e
def xl{a:Type}{l:List a}{x y:a}{i:Nat}(e:l[i]? = some x):(l++[y])[i]? = some x:=by
 rw[JD (Wh.1 e).1];exact e
def XM{a:Type}{l:List a}{x y}{i}(e:(l++[y])[i]? = some x):l[i]? = some x\/(i=l.length/\x=y):=by
 by_cases b:i<l.length
 .rw[JD b]at e;exact .inl e
 .rw[JE ω]at e;have d:=(Wh.1 e).1;simp at d;have c:i=l.length:=ω;subst c;simp at e;exact .inr ⟨rfl,e.symm⟩
def kz(w:World)(o:Obj)(b)(h:b<w.heap.size):(w.alloc o).heap[b]? = w.heap[b]? := Below.heap_alloc w o b h
def Tr.push{d:Nat}{h:List Ob}{f:List Pl}{w i:World}(R:Zg Z d h f w)(e:∀b,b<w.heap.size->i.heap[b]? = w.heap[b]?)(k:Ob)(p:Pl)(a:∀b q,p=some (b,q)->w.heap.size<=b):Tr h f w (h++[k]) (f++[p]) i where
 Kg:=λb g Qc=>⟨OU g λq m=>by have:=a b q m;omega,e b Qc⟩
 obj:=λl o p j a=>⟨o,p,xl j,xl a,QB _,rfl,λ_=>⟨rfl,rfl⟩⟩
 shape:=λl o n b q j s r a c el g=>⟨c,by rw[e b (R.lt a).1];exact g,rfl⟩
def Zg.LC{d}{h}{m}{w p:World}(R:Zg Z d h m w)(e:∀b,b<w.heap.size->p.heap[b]? = w.heap[b]?)(n){f r}(I:w.heap.size<=f)(H:d<=f)
  (z:Kb Z (h++[n]) (m++[some (f,r)]) p n f r):Zg Z d (h++[n]) (m++[some (f,r)]) p:=by
 have T:Tr h m w (h++[n]) (m++[some (f,r)]) p:=Tr.push R e n _ (by intro b q e;simp at e;omega);refine⟨by simp[R.len],?_,?_,?_⟩
 .intro l y b q u t E;rcases XM t with c|⟨c,g⟩<;>rcases XM E with a|⟨a,k⟩
  .exact R.inj l y b q u c a
  .have:=(R.lt c).1;simp at k;omega
  .have:=(R.lt a).1;simp at g;omega
  .omega
 .intro l o s t;rcases XM t with c|⟨c,g⟩
  .rcases XM s with a|⟨a,k⟩
   .exact R.Vh l o a c
   .have:=VM c;have:=R.len;omega
  .simp at g
 .intro l o b q s F;rcases XM F with c|⟨c,g⟩
  .rcases XM s with a|⟨a,k⟩
   .obtain⟨C,x⟩:=R.at_ l o b q a c;exact⟨C,x.to rfl rfl rfl (e b (R.lt c).1) (λ_ _=>rfl) λi j v _ _ B=>B.tr T⟩
   .have:=VM c;have:=R.len;omega
  .rcases XM s with a|⟨a,k⟩
   .have:=Kh a;have:=R.len;omega
   .subst k;simp at g;obtain⟨rfl,rfl⟩:=g;exact⟨λ_=>H,z⟩
def Zg.push{d}{h}{l}{w g:World}(R:Zg Z d h l w)(e:∀b,b<w.heap.size->g.heap[b]? = w.heap[b]?)(a:Ob)(o:a.kd.ty=0){f k}(n:w.heap.size<=f)(r:d<=f)
  {c:Array Value} {m:TypeId} (p:g.heap[f]? = some (.cells c m (0,0))) (s:k+a.n*a.sz<=c.size) (t:∀i,i<a.n->(a.row i).length=a.sz)
  (q:∀i j,i<a.n->j<a.sz->∃v,c[k+(i*a.sz+j)]? = some v/\Qy Z (h++[a]) (l++[some (f,k)]) g (nth (a.row i) j) v):Zg Z d (h++[a]) (l++[some (f,k)]) g:=
 R.LC e a n r (.LA o ⟨c,m,p,s,t,q⟩)
def Zg.BH{d}{h}{g}{w}(R:Zg Z d h g w)(k:Ob)(u:k.n=0):Zg Z d (h++[k]) (g++[none]) w:=by
 have T:Tr h g w (h++[k]) (g++[none]) w:=Tr.push R (λ_ _=>rfl) k _ (by intro b q e;simp at e);refine⟨by simp[R.len],?_,?_,?_⟩
 .intro l s b q r p z;rcases XM p with c|⟨c,m⟩
  .rcases XM z with a|⟨a,f⟩
   .exact R.inj l s b q r c a
   .simp at f
  .simp at m
 .intro l o n p;rcases XM n with a|⟨a,f⟩
  .rcases XM p with c|⟨c,m⟩
   .exact R.Vh l o a c
   .have:=Kh a;have:=R.len;omega
  .subst f;exact u
 .intro l o b q n B;rcases XM B with c|⟨c,m⟩
  .rcases XM n with a|⟨a,f⟩
   .obtain⟨y,x⟩:=R.at_ l o b q a c;exact⟨y,x.to rfl rfl rfl rfl (λ_ _=>rfl) λi j v _ _ t=>t.tr T⟩
   .have:=VM c;have:=R.len;omega
  .simp at m
def Tr.QV{d:Nat}{h:List Ob}{f:List Pl}{w w':World}(R:Zg Z d h f w){l:Nat}{o o':Ob}{b q:Nat}(r:h[l]? = some o)(x:f[l]? = some (some (b,q)))(y:o'.kd.ty=o.kd.ty)(F:o'.gen=o.gen)(v:o'.sz=o.sz)
  (e:∀k,k≠b->k<w.heap.size->w'.heap[k]? = w.heap[k]?) (z:∀c el,w.heap[b]? = some (.cells c el (0,0))->∃t,w'.heap[b]? = some (.cells t el (0,0))/\t.size=c.size):Tr h f w (h.set l o') f w' where
 Kg:=λk s Qc=>⟨s,e k (λg=>s l q (by rw[g];exact x)) Qc⟩
 obj:=λn m p i j=>by
  by_cases a:l=n
  .subst a;rw[r]at i;cases i;exact⟨o',p,by simp[Kh r],j,ω,y,λ_=>⟨v,rfl⟩⟩
  .exact⟨m,p,by rw[Jf a];exact i,j,QB _,rfl,λ_=>⟨rfl,rfl⟩⟩
 shape:=λn m E u C i H B j c el g=>by
  by_cases a:u=b
  .subst a;exact z c el g
  .exact⟨c,by rw[e u a (R.lt j).1];exact g,rfl⟩
def Zg.Qio{c:Nat}{h:List Ob}{g:List Pl}{w p:World}(R:Zg Z c h g w){l:Nat}{o d:Ob}{b q:Nat}(z:h[l]? = some o)(r:g[l]? = some (some (b,q)))
  (T:Tr h g w (h.set l d) g p) (e:∀k,k≠b->k<w.heap.size->p.heap[k]? = w.heap[k]?) (C:Kb Z (h.set l d) g p d b q) (hro:d.kd.ro=o.kd.ro):Zg Z c (h.set l d) g p:=by
 refine⟨by simp[R.len],R.inj,?_,?_⟩
 .intro m s f a;by_cases n:l=m
  .subst n;rw[r]at a;cases a
  .rw[Jf n]at f;exact R.Vh m s f a
 .intro m s u y f a;by_cases n:l=m
  .subst n;rw[r]at a;cases a;have:(h.set l d)[l]? = some d:=by simp[Kh z]
   rw[this]at f;cases f;exact⟨λt=>(R.lt r).2 o z (by rw[<- hro,t]),C⟩
  .rw[Jf n]at f;obtain⟨E,x⟩:=R.at_ m s u y f a;have F:u≠b:=λB=>n (R.inj l m b q y r (by rw[<- B];exact a));exact⟨E,x.to rfl rfl rfl (e u F (R.lt a).1) (λ_ _=>rfl) λi j v _ _ t=>t.tr T⟩
def Zg.QV{a:Nat}{h:List Ob}{d:List Pl}{w w':World}(R:Zg Z a h d w){l:Nat}{o o':Ob}{b q:Nat}(m:h[l]? = some o)(g:d[l]? = some (some (b,q)))(u:o.kd.ty=0)(s:o'.kd.ty=0)(x:o'.gen=o.gen)(t:o'.sz=o.sz)
  (e:∀k,k≠b->k<w.heap.size->w'.heap[k]? = w.heap[k]?) {r c:Array Value} {f:TypeId} (z:w.heap[b]? = some (.cells r f (0,0))) (n:w'.heap[b]? = some (.cells c f (0,0))) (y:c.size=r.size)
  (C:q+o'.n*o'.sz<=c.size) (E:∀i,i<o'.n->(o'.row i).length=o'.sz)
  (B:∀i j,i<o'.n->j<o'.sz->∃v,c[q+(i*o'.sz+j)]? = some v/\Qy Z (h.set l o') d w' (nth (o'.row i) j) v) (hro:o'.kd.ro=o.kd.ro):Zg Z a (h.set l o') d w':=
 R.Qio (hro:=hro) m g (Tr.QV R m g (by rw[u,s]) x t e (λH F p=>by rw[z]at p;cases p;exact⟨c,n,y⟩)) e (.LA s ⟨c,f,n,C,E,B⟩)
variable {Z:Nat->Prop}
inductive TK where
 | int (k:IntKind)|bool|str|slice (e:TypeId)|array (n:Nat) (e:TypeId)|struct (fs:List (Nat × TypeId))|ptr (e:TypeId)|map (k e:TypeId)|fn|iface|other
def TK.of:TypeDesc->TK
 | .int k=>.int k
 | .bool=>.bool
 | .string=>.str
 | .slice e=>.slice e
 | .array n e=>.array n e
 | .struct a=>.struct (a.toList.map λf=>(f.offset,f.type))
 | .pointer e=>.ptr e
 | .map k e=>.map k e
 | .func _ _ _=>.fn
 | .interface _=>.iface
 | _=>.other
structure Ty where
 k:TK
 size:Nat
 bytes:Nat
 zero:List Value
def TK.agg:TK->Bool
 | .struct _ | .array _ _=>true
 | _=>false
def TM:Value->Bool
 | .agg _=>true
 | _=>false
structure Wz (P:Program) (t:TypeId) (y:Ty):Prop where
 k:(P.underlying t).map TK.of=some y.k
 info:(P.info? t).map (λi=>(i.size,i.bytes,i.zero.map λz=>z.cells.toList))=some (y.size,y.bytes,some y.zero)
 zag:((P.info? t).bind (·.zero)).map TM=some y.k.agg
abbrev ZW:=List (TypeId × Ty)
def ty:ZW->TypeId->Option Ty
 | [],_=>none
 | (u,y)::r,t=>bif Nat.beq u t then some y else ty r t
def ZU(P:Program)(L:ZW):Prop:=∀t y,ty L t=some y->Wz P t y
def ZU.nil(P):ZU P []:=λ_ _ h=>by simp[ty]at h
def ZU.cons{P}{L}{t:TypeId}{y}(h:Wz P t y)(r:ZU P L):ZU P ((t,y)::L):=λu z e=>by
 simp only[ty]at e;by_cases a:t=u
 .subst a;simp at e;subst e;exact h
 .have:Nat.beq t u=false:=by rw[<- XY,VL];exact a
  rw[this]at e;exact r u z e
section
variable {P:Program}{t:TypeId}{y:Ty}(h:Wz P t y)
include h
theorem Wz.under:∃d,P.underlying t=some d/\TK.of d=y.k:=by
 have:=h.k;cases a:P.underlying t with
 | none=>rw[a]at this;cases this
 | some d=>rw[a]at this;exact⟨d,rfl,by simpa using this⟩
theorem Wz.sizeOf(w):(Go.sizeOf t).run P w=.ok y.size w:=by
 have:=h.info;cases a:P.info? t with
 | none=>rw[a]at this;cases this
 | some i=>
  rw[a]at this;simp at this;simp[Go.sizeOf,typeInfo,a,this.1]
theorem Wz.typeInfo(w):∃i,(Go.typeInfo t).run P w=.ok i w/\i.size=y.size/\i.bytes=y.bytes:=by
 have:=h.info;cases a:P.info? t with
 | none=>rw[a]at this;cases this
 | some i=>
  rw[a]at this;simp at this;exact⟨i,by simp[Go.typeInfo,a],this.1,this.2.1⟩
theorem Wz.zeroValue:∃z,z.cells.toList=y.zero/\∀w,(Go.zeroValue t).run P w=.ok z w:=by
 have:=h.info;cases a:P.info? t with
 | none=>rw[a]at this;cases this
 | some i=>
  rw[a]at this;simp at this;obtain⟨_,_,z,hz,b⟩:=this;exact⟨z,b,λw=>by simp[Go.zeroValue,Go.typeInfo,a,hz]⟩
theorem Wz.isAgg(w):(Go.isAgg t).run P w=.ok y.k.agg w:=by
 obtain⟨d,b,a⟩:=h.under;rw[<- a];cases d<;>simp[Go.isAgg,run_underlying b,TK.of,TK.agg]
end
def TK.of_slice{d:TypeDesc}{e:TypeId}(h:TK.of d=.slice e):d=.slice e:=by cases d<;>simp[TK.of]at h;rw[h]
def TK.of_array{d:TypeDesc}{n}{e:TypeId}(h:TK.of d=.array n e):d=.array n e:=by cases d<;>simp[TK.of]at h;rw[h.1,h.2]
def TK.of_struct{d:TypeDesc}{a:List (Nat × TypeId)}(h:TK.of d=.struct a):∃g,d=.struct g/\g.toList.map (λf=>(f.offset,f.type))=a:=by cases d<;>simp[TK.of]at h;exact⟨_,rfl,by simpa using h⟩
def TK.of_int{d:TypeDesc}{k}(h:TK.of d=.int k):d=.int k:=by cases d<;>simp[TK.of]at h;rw[h]
def TK.of_bool{d:TypeDesc}(h:TK.of d=.bool):d=.bool:=by cases d<;>simp[TK.of]at h;rfl
def TK.Qiq{d:TypeDesc}(h:TK.of d=.str):d=.string:=by cases d<;>simp[TK.of]at h;rfl
def TK.Qir{d:TypeDesc}{e:TypeId}(h:TK.of d=.ptr e):d=.pointer e:=by cases d<;>simp[TK.of]at h;rw[h]
def TK.of_map{d:TypeDesc}{k e:TypeId}(h:TK.of d=.map k e):d=.map k e:=by cases d<;>simp[TK.of]at h;rw[h.1,h.2]
def vP{P:Program}{t e:TypeId}{y:Ty}(h:Wz P t y)(b:y.k=.slice e):P.underlying t=some (.slice e):=by
 obtain⟨d,c,a⟩:=h.under;rw[b]at a;rw[c,TK.of_slice a]
def fA{P:Program}{t e:TypeId}{n}{y:Ty}(h:Wz P t y)(b:y.k=.array n e):P.underlying t=some (.array n e):=by
 obtain⟨d,c,a⟩:=h.under;rw[b]at a;rw[c,TK.of_array a]
def tj{P:Program}{t:TypeId}{b:List (Nat × TypeId)}{y:Ty}(h:Wz P t y)(e:y.k=.struct b):∃g,P.underlying t=some (.struct g)/\g.toList.map (λf=>(f.offset,f.type))=b:=by
 obtain⟨d,j,a⟩:=h.under;rw[e]at a;obtain⟨g,i,c⟩:=TK.of_struct a;exact⟨g,by rw[j,i],c⟩
def BI{P:Program}{t:TypeId}{k}{y:Ty}(h:Wz P t y)(b:y.k=.int k):P.underlying t=some (.int k):=by
 obtain⟨d,c,a⟩:=h.under;rw[b]at a;rw[c,TK.of_int a]
def Qis{P:Program}{t:TypeId}{y:Ty}(h:Wz P t y)(b:y.k=.bool):P.underlying t=some .bool:=by
 obtain⟨d,c,a⟩:=h.under;rw[b]at a;rw[c,TK.of_bool a]
def OV{P:Program}{t:TypeId}{y:Ty}(h:Wz P t y)(b:y.k=.str):P.underlying t=some .string:=by
 obtain⟨d,c,a⟩:=h.under;rw[b]at a;rw[c,TK.Qiq a]
def Qit{P:Program}{t e:TypeId}{y:Ty}(h:Wz P t y)(b:y.k=.ptr e):P.underlying t=some (.pointer e):=by
 obtain⟨d,c,a⟩:=h.under;rw[b]at a;rw[c,TK.Qir a]
def Dn{P:Program}{t k e:TypeId}{y:Ty}(h:Wz P t y)(b:y.k=.map k e):P.underlying t=some (.map k e):=by
 obtain⟨d,c,a⟩:=h.under;rw[b]at a;rw[c,TK.of_map a]
def JT:Value->D
 | .slice none 0 0=>.nil
 | v=>.raw v
def X0:Value->D
 | .agg a=>.agg (a.toList.map JT)
 | v=>JT v
def Qo(a:List (Nat × D)):Operand->D
 | .tmp t=>get a t
 | .const v=>X0 v
 | .global _=>.undef
 | .func f=>.raw (.func (.func f) #[] #[])
def BJ(N)(w)(v):Cl N w (JT v) v:=by
 unfold JT;split
 .exact .nil none
 .exact .raw _
def Qiu(N)(w)(v):Cl N w (X0 v) v:=by
 unfold X0;split
 .rename_i a;have:=Cl.agg (N:=N) (w:=w) (a.toList.map JT) a.toList σ (λi b=>by
   have c:i<a.size:=by simpa using b
   simp only[nth,QY,Q5,Kl];rw[QP (by simpa using c)];exact BJ N w _)
  simpa using this
 .exact BJ N w _
def Rel.eval{b d}{s:St}{c}{a:Act}{w}(r:Rel Z b d s c a w)(x):Qy Z s.h c w (Qo s.fr x) (a.eval x):=by
 cases x with
 | tmp t=>exact r.fr t
 | const v=>exact .cl _ _ (Qiu _ _ v)
 | global g=>exact .cl _ _ (.undef _)
 | func f=>exact .cl _ _ (.raw _)
section
variable {h:List Ob}{pl:List Pl}{w:World}{v:Value}
def Jh{u}(r:Qy Z h pl w (.raw u) v):v=u:=by
 cases r with|cl _ _ a=>cases a;rfl
def BK(r:Qy Z h pl w .nil v):∃a,v=.slice a 0 0:=by
 cases r with|cl _ _ b=>cases b;exact⟨_,rfl⟩
def BL{l g d c}(r:Qy Z h pl w (.ref l g d c) v):∃o p a b,v=.slice a c b/\h[l]? = some o/\pl[l]? = some p/\o.kd.ty=0/\g<=o.gen/\(g=o.gen->tf w o.sz p d c a b):=by
 cases r with
 | cl _ _ m=>cases m
 | ref _ _ _ _ o p a b i f j k e=>exact⟨o,p,a,b,rfl,i,f,j,k,e⟩
def Dp{l g i j}(r:Qy Z h pl w (.ptr l g i j) v):∃o p a,v=.pointer (some a)/\h[l]? = some o/\pl[l]? = some p/\o.kd.ty=0/\g<=o.gen/\(g=o.gen->∃b q,p=some (b,q)/\a=⟨b,q+(i*o.sz+j),none⟩):=by
 cases r with
 | cl _ _ m=>cases m
 | ptr _ _ _ _ o p a e d f k c=>exact⟨o,p,a,rfl,e,d,f,k,c⟩
def Dq{l g}(r:Qy Z h pl w (.mref l g) v):∃o p b,h[l]? = some o/\pl[l]? = some p/\te o.kd.ty b v/\g<=o.gen/\(g=o.gen->p=some (b,0)):=by
 cases r with
 | cl _ _ i=>cases i
 | mref _ _ o p b d c e f a=>exact⟨o,p,b,d,c,e,f,a⟩
def Ha{b:List D}(r:Qy Z h pl w (.agg b) v):∃a:List Value,v=.agg a.toArray/\a.length=b.length/\∀i,i<b.length->Qy Z h pl w (nth b i) (QY a i):=by
 cases r with
 | cl _ _ f=>cases f with|agg _ a d c=>exact⟨a,rfl,d,λi e=>.cl _ _ (c i e)⟩
 | agg _ a d c=>exact⟨a,rfl,d,c⟩
def Qiv{b:List D}(r:Qy Z h pl w (.tup b) v):∃a:List Value,v=.tuple a.toArray/\a.length=b.length/\∀i,i<b.length->Qy Z h pl w (nth b i) (QY a i):=by
 cases r with
 | cl _ _ f=>cases f with|tup _ a d c=>exact⟨a,rfl,d,λi e=>.cl _ _ (c i e)⟩
 | tup _ a d c=>exact⟨a,rfl,d,c⟩
def fB{f}{c:Nat}{b:List D}(r:Qy Z h pl w (.clo f c b) v):∃a:List Value,v=.func (.func f) (a.take c).toArray (a.drop c).toArray/\a.length=b.length/\∀i,i<b.length->Qy Z h pl w (nth b i) (QY a i):=by
 cases r with
 | cl _ _ j=>cases j with|clo _ _ _ a e d=>exact⟨a,rfl,e,λi g=>.cl _ _ (d i g)⟩
 | clo _ _ _ a e d=>exact⟨a,rfl,e,d⟩
def Hb{d:List D}(r:Qy Z h pl w (.ip d) v):∃b o,∃a:Nat->Value,v=.pointer (some ⟨b,o,none⟩)/\∀j,j<d.length->(free Z pl b/\w.cell? ⟨b,o+j,none⟩=some (a j))/\Cl (free Z pl) w (nth d j) (a j):=by
 cases r with
 | cl _ _ c=>cases c with|ip _ b o a c f=>exact⟨b,o,a,rfl,λj e=>⟨c j e,f j e⟩⟩
def OW{f n}{d}(r:Qy Z h pl w (.imm f n d) v):∃a c b o,∃e:Nat->Nat->Value,v=.slice a n c/\(0<n->a=some ⟨b,o,none⟩)/\n<=c/\(∀i,i<n->(d i).length=f) /\
  ∀i j,i<n->j<f->(free Z pl b/\w.cell? ⟨b,o+(i*f+j),none⟩=some (e i j))/\Cl (free Z pl) w (nth (d i) j) (e i j):=by
 cases r with
 | cl _ _ g=>cases g with|imm _ _ _ a c b o e s q m g p=>exact⟨a,c,b,o,e,rfl,s,q,m,λi j l k=>⟨g i j l k,p i j l k⟩⟩
end
def VZ(P:Program)(c g:Nat)(o:Oper)(s:St)(d:D):Prop:=
 ∀(Z:Nat->Prop) f a w,Rel Z c g s f a w->∃v,Qy Z s.h f w d v/\∀e:World,(∀b,b<w.heap.size->e.heap[b]? = w.heap[b]?)->(execOp a.eval o).run P e=.ok (.value v) e
def Qiw{w c:World}(e:∀b,b<w.heap.size->c.heap[b]? = w.heap[b]?){a}{v}(h:w.cell? a=some v):c.cell? a=some v:=by
 rw[World.cell?_of_block (w:=w) (e a.block (block_lt_of_cell h))];exact h
def zI(w b:World):Prop:=∀(a:Addr) (v:Value),w.cell? a=some v->b.cell? a=some v
def zI.trans{a b c}(h:zI a b)(k:zI b c):zI a c:=λx v hx=>k x v (h x v hx)
def zI.ext{w a:World}(e:∀b,b<w.heap.size->a.heap[b]? = w.heap[b]?):zI w a:=λ_ _ h=>Qiw e h
def TN(P:Program)(b f:Nat)(o:Oper)(s:St)(d:D):Prop:=
 ∀(Z:Nat->Prop) e a w,Rel Z b f s e a w->∃v,Qy Z s.h e w d v/\∀c:World,zI w c->(execOp a.eval o).run P c=.ok (.value v) c
def TN.up{P}{b c}{o}{s}{d}(h:TN P b c o s d):VZ P b c o s d:=λZ g a w r=>by
 obtain⟨v,j,i⟩:=h Z g a w r;exact⟨v,j,λf e=>i f (.ext e)⟩
abbrev Ev:=Option (Prop × D)
def TO(c:BinOp)(k:IntKind)(a b:Int):Ev:=
 match c with
 | .add=>some (True,.raw (.int k (k.wrap (a+b))))
 | .sub=>some (True,.raw (.int k (k.wrap (a - b))))
 | .mul=>some (True,.raw (.int k (k.wrap (a*b))))
 | .quo=>some (b≠0,.raw (.int k (k.wrap (a.tdiv b))))
 | .rem=>some (b≠0,.raw (.int k (a.tmod b)))
 | .and=>some (True,.raw (.int k (bits .and k a b)))
 | .or=>some (True,.raw (.int k (bits .or k a b)))
 | .xor=>some (True,.raw (.int k (bits .xor k a b)))
 | .andNot=>some (True,.raw (.int k (bits .andNot k a b)))
 | .eql=>some (True,.raw (.bool (a==b)))
 | .neq=>some (True,.raw (.bool (a != b)))
 | .lss=>some (True,.raw (.bool (decide (a<b))))
 | .leq=>some (True,.raw (.bool (decide (a<=b))))
 | .gtr=>some (True,.raw (.bool (decide (b<a))))
 | .geq=>some (True,.raw (.bool (decide (b<=a))))
 | _=>none
def TP(c:BinOp)(k:IntKind)(a b:Int):Ev:=
 match c with
 | .shl=>some (0<=b,.raw (.int k (k.wrap (a*2 ^ (min b.toNat k.bits)))))
 | .shr=>some (0<=b,.raw (.int k (a.fdiv (2 ^ (min b.toNat k.bits)))))
 | _=>none
def IntKind.same:IntKind->IntKind->Bool
 | .i8,.i8 | .i16,.i16 | .i32,.i32 | .i64,.i64 | .u8,.u8 | .u16,.u16 | .u32,.u32 | .u64,.u64=>true
 | _,_=>false
def IntKind.fC{k a}(h:IntKind.same k a=true):k=a:=by cases k<;>cases a<;>first|rfl|cases h
def fD:BinOp->Bool
 | .shl | .shr=>true
 | _=>false
def TQ(c:BinOp)(a b:Bool):Ev:=
 match c with
 | .eql=>some (True,.raw (.bool (a==b)))
 | .neq=>some (True,.raw (.bool (a != b)))
 | _=>none
def TR(c:BinOp)(a b:ByteArray):Ev:=
 match c with
 | .add=>some (a.size+b.size<=9223372036854775807,.raw (.string (a++b)))
 | .eql=>some (True,.raw (.bool (a.toList==b.toList)))
 | .neq=>some (True,.raw (.bool (!(a.toList==b.toList))))
 | .lss=>some (True,.raw (.bool (Op.bytesLess a.toList b.toList)))
 | _=>none
def Fe(b:BinOp)(a:Bool):Ev:=
 match b with
 | .eql=>some (True,.raw (.bool a))
 | .neq=>some (True,.raw (.bool (!a)))
 | _=>none
def Ff(L:ZW)(t:TypeId):Bool:=match ty L t with|some ⟨.ptr _,_,_,_⟩=>true|_=>false
def TS(L:ZW)(t:TypeId):Bool:=match ty L t with|some ⟨.bool,_,_,_⟩=>true|_=>false
def TU(L:ZW)(c:BinOp)(t:TypeId):D->D->Ev
 | .raw (.int k a),.raw (.int d b)=>bif fD c then TP c k a b else bif IntKind.same k d then TO c k a b else none
 | .raw (.bool a),.raw (.bool b)=>bif TS L t then TQ c a b else none
 | .raw (.string a),.raw (.string b)=>TR c a b
 | .raw (.pointer none),.raw (.pointer none)=>bif Ff L t then Fe c true else none
 | .ptr _ _ _ _,.raw (.pointer none)=>bif Ff L t then Fe c false else none
 | .ip _,.raw (.pointer none)=>bif Ff L t then Fe c false else none
 | .raw (.pointer none),.ptr _ _ _ _=>bif Ff L t then Fe c false else none
 | .raw (.pointer none),.ip _=>bif Ff L t then Fe c false else none
 | _,_=>none
def Qix(P)(w){s:Sem Value}{v}(h:s.run P w=.ok v w):(do pure (Next.value (<- s)):Sem Next).run P w=.ok (.value v) w:=by
 simp[h]
def Qiy{P}{c}{k}{a b}{p}{d}(t)(h:TO c k a b=some (p,d))(e:p):∃v,d=.raw v/\∀w,(Go.binOp c t (.int k a) (.int k b)).run P w=.ok v w:=by
 cases c<;>simp only[TO,QX,Q9,reduceCtorEq]at h<;>obtain⟨rfl,rfl⟩:=h<;>refine⟨_,rfl,λw=>?_⟩ <;>
  simp_all[Go.binOp,Op.intArith,Op.intDiv,Op.intBits,Op.intCmp,bits]
def Qiz{P}{c}{k e}{a b}{p}{d}(t)(h:TP c k a b=some (p,d))(f:p):∃v,d=.raw v/\∀w,(Go.binOp c t (.int k a) (.int e b)).run P w=.ok v w:=by
 cases c<;>simp only[TP,QX,Q9,reduceCtorEq]at h<;>obtain⟨rfl,rfl⟩:=h<;>refine⟨_,rfl,λw=>?_⟩ <;>
  (have:¬ b<0:=ω
   simp[Go.binOp,Op.shift,this])
def QiA{P}{c}{a b}{p}{d}(t)(h:TR c a b=some (p,d))(e:p):∃v,d=.raw v/\∀w,(Go.binOp c t (.string a) (.string b)).run P w=.ok v w:=by
 cases c<;>simp only[TR,QX,Q9,reduceCtorEq]at h<;>obtain⟨rfl,rfl⟩:=h<;>refine⟨_,rfl,λw=>?_⟩ <;>
  simp[Go.binOp,Op.stringOp]
 omega
def QiB{P:Program}{t e:TypeId}(a:P.underlying t=some (.pointer e))(n){x y:Option Addr}(b:x=none\/y=none)(w):(Op.equalIn (n+1) t (.pointer x) (.pointer y)).run P w=.ok (x.isNone&&y.isNone) w:=by
 rcases b with rfl|rfl
 .simp[Op.equalIn,run_underlying a]
 .cases x<;>simp[Op.equalIn,run_underlying a]
def TV{P}{t:TypeId}{x y:Value}{b}{w}(a:∀n,(Op.equalIn (n+1) t x y).run P w=.ok b w):(Op.equal t x y).run P w=.ok b w:=a 9999
def QiC{P:Program}{c}{a b}{p}{d}(t)(f:P.underlying t=some .bool)(h:TQ c a b=some (p,d)):∃v,d=.raw v/\∀w,(Go.binOp c t (.bool a) (.bool b)).run P w=.ok v w:=by
 have e:∀w,(Op.equal t (.bool a) (.bool b)).run P w=.ok (a==b) w:=λw=>TV λn=>run_equalIn_bool' w n t a b f;cases c<;>simp only[TQ,QX,Q9,reduceCtorEq]at h<;>obtain⟨rfl,rfl⟩:=h<;>refine⟨_,rfl,λw=>?_⟩<;>simp only[Go.binOp]
 .simp[e]
 .simp[e,bne]
def OX{P:Program}{a}{x y:Option Addr}(c:x=none\/y=none){p}{d}{t e:TypeId}(f:P.underlying t=some (.pointer e))(h:Fe a (x.isNone&&y.isNone)=some (p,d)):∃v,d=.raw v/\∀w,(Go.binOp a t (.pointer x) (.pointer y)).run P w=.ok v w:=by
 have b:∀w,(Op.equal t (.pointer x) (.pointer y)).run P w=.ok (x.isNone&&y.isNone) w:=λw=>TV λn=>QiB f n c w;cases a<;>simp only[Fe,QX,Q9,reduceCtorEq]at h<;>obtain⟨rfl,rfl⟩:=h<;>refine⟨_,rfl,λw=>?_⟩<;>simp only[Go.binOp]
 .simp[b]
 .simp[b]
def OY{P:Program}{L}(b:ZU P L){t:TypeId}(h:Ff L t=true):∃e,P.underlying t=some (.pointer e):=by
 unfold Ff at h;split at h
 .rename_i e _ _ _ a;exact⟨e,Qit (b _ _ a) rfl⟩
 .cases h
def QiD{P:Program}{L}(b:ZU P L){t:TypeId}(h:TS L t=true):P.underlying t=some .bool:=by
 unfold TS at h;split at h
 .rename_i a;exact Qis (b _ _ a) rfl
 .cases h
def zJ{a:Type}{c:Bool}{x:Option a}{y:a}(h:(bif c then x else none)=some y):c=true/\x=some y:=by cases c<;>simp at h;exact⟨rfl,h⟩
def QiE{P}{L}(q:ZU P L){z M}{s}{o:Oper}{f}{t J:TypeId}{x y}(N:o.op=.binOp f t x y J){p}{d}
  (h:TU L f t (Qo s.fr x) (Qo s.fr y)=some (p,d)) (E:p):VZ P z M o s d:=by
 intro Z K a w r;have hx:=r.eval x;have n:=r.eval y;generalize Qo s.fr x=W at *;generalize Qo s.fr y=V at *;have c:∀(C B:Value),a.eval x=C->a.eval y=B->(∀w,(eqGuard f t x y C B).run P w=.ok () w)->(∃v,d=.raw v/\∀w,(Go.binOp f t C B).run P w=.ok v w) ->
   ∃v,Qy Z s.h K w d v/\∀u:World,(∀b,b<w.heap.size->u.heap[b]? = w.heap[b]?)->(execOp a.eval o).run P u=.ok (.value v) u:=by
  intro C B H F Q ⟨v,R,l⟩;refine⟨v,R▸.cl _ _ (.raw v),λu _=>?_⟩;simp only[execOp,N,H,F];refine Qix P u ?_;simp[Q,l]
 unfold TU at h;split at h
 .rename_i k i U j;have H:=Jh hx;have F:=Jh n;refine c _ _ H F (λw=>by cases f<;>simp[eqGuard]) ?_;cases I:fD f
  .rw[I]at h;simp only[q5]at h;obtain⟨O,S⟩:=zJ h;have:=IntKind.fC O;subst this;exact Qiy t S E
  .rw[I]at h;exact Qiz t h E
 .obtain⟨g,h⟩:=zJ h;exact c _ _ (Jh hx) (Jh n) (λw=>by cases f<;>simp[eqGuard]) (QiC t (QiD q g) h)
 .exact c _ _ (Jh hx) (Jh n) (λw=>by cases f<;>simp[eqGuard]) (QiA t h E)
 .obtain⟨g,h⟩:=zJ h;obtain⟨e,m⟩:=OY q g;exact c _ _ (Jh hx) (Jh n) (λw=>by cases f<;>simp[eqGuard]) (OX (.inl rfl) m h)
 .obtain⟨g,h⟩:=zJ h;obtain⟨e,m⟩:=OY q g;obtain⟨_,_,T,l,_⟩:=Dp hx;exact c _ _ l (Jh n) (λw=>by cases f<;>simp[eqGuard]) (OX (.inr rfl) m h)
 .obtain⟨g,h⟩:=zJ h;obtain⟨e,m⟩:=OY q g;obtain⟨_,_,_,l,_⟩:=Hb hx;exact c _ _ l (Jh n) (λw=>by cases f<;>simp[eqGuard]) (OX (.inr rfl) m h)
 .obtain⟨g,h⟩:=zJ h;obtain⟨e,m⟩:=OY q g;obtain⟨_,_,T,l,_⟩:=Dp n;exact c _ _ (Jh hx) l (λw=>by cases f<;>simp[eqGuard]) (OX (.inl rfl) m h)
 .obtain⟨g,h⟩:=zJ h;obtain⟨e,m⟩:=OY q g;obtain⟨_,_,_,l,_⟩:=Hb n;exact c _ _ (Jh hx) l (λw=>by cases f<;>simp[eqGuard]) (OX (.inl rfl) m h)
 .cases h
variable {Z:Nat->Prop}
section
variable {P:Program}{L:ZW}{base nt:Nat}{s:St}{o:Oper}
def tm{x}(ho:o.op=.move x\/o.op=.assign x):VZ P base nt o s (Qo s.fr x):=by
 intro Z c a w r;refine⟨_,r.eval x,λb _=>?_⟩;rcases ho with ho|ho<;>simp[execOp,ho]
def QiF{c x y}(d:o.op=.pick c x y){b}(g:Qo s.fr c=.raw (.bool b)):VZ P base nt o s (bif b then Qo s.fr x else Qo s.fr y):=by
 intro Z i a w r;have h:=r.eval c;rw[g]at h;have e:=Jh h;cases b
 .exact⟨_,r.eval y,λf _=>by simp[execOp,d,e,asBool]⟩
 .exact⟨_,r.eval x,λf _=>by simp[execOp,d,e,asBool]⟩
def mk(y:Ty)(a:List D):D:=bif y.k.agg then .agg (a.take y.size) else nth a 0
def BM(y:Ty):D:=bif y.k.agg then .agg (y.zero.map JT) else nth (y.zero.map JT) 0
def fF{P}{t:TypeId}{y}(h:Wz P t y){N}(w):∃z,Cl N w (BM y) z/\∀e,(Go.zeroValue t).run P e=.ok z e:=by
 have b:=h.info;have d:=h.zag;cases a:P.info? t with
 | none=>rw[a]at b;cases b
 | some i=>
  rw[a]at b d;simp at b;obtain⟨_,_,z,hz,f⟩:=b;simp[hz]at d;refine⟨z,?_,λw=>by simp[Go.zeroValue,Go.typeInfo,a,hz]⟩;unfold BM;rw[<- d,<- f];cases z with
  | agg c=>
   simp only[TM,ky];refine .agg _ c.toList (by simp[Value.cells]) λi a=>?_;have j:i<c.size:=by simpa[Value.cells] using a
   have g:nth ((Value.agg c).cells.toList.map JT) i=JT (QY c.toList i):=by
    simp[nth,QY,Value.cells,Q5,j]
   rw[g];exact BJ N w _
  | _=>simp only[TM,q5,Value.cells,nth,JN,List.map_nil,List.getD_cons_zero];exact BJ N w _
def fG{a:List D}{k i}(h:i<k):nth (a.take k) i=nth a i:=by
 simp only[nth,Q5,Xc,h,Va]
def Fh{a:List D}{k i}:nth (a.drop k) i=nth a (k+i):=by
 simp only[nth,Q5,GZ]
def tn{t:TypeId}{y:Ty}(e:Wz P t y)(w:World)(c:Addr)(a:List D){h:List Ob}{pl:List Pl}(p:World)(B:y.size<=a.length)(x:y.k.agg=false->y.size=1)
  (l:∀j,j<y.size->∃v,w.cell? (c.add j)=some v/\Qy Z h pl p (nth a j) v) :
  ∃v,Qy Z h pl p (mk y a) v/\∀b,(∀j v,j<y.size->w.cell? (c.add j)=some v->b.cell? (c.add j)=some v)->(loadVar t c).run P b=.ok v b:=by
 unfold mk;cases k:y.k.agg
 .have z:=x k;obtain⟨v,d,g⟩:=l 0 ω;refine⟨v,g,λb m=>?_⟩;have:=m 0 v ω d;simp only[Addr.add_zero']at this;simp[loadVar,e.isAgg,k,this]
 .let f:Nat->Value:=λj=>(w.cell? (c.add j)).getD Go.undef;refine⟨.agg ((List.range y.size).map f).toArray,.agg _ _ ξ (λi u=>?_),λb m=>?_⟩
  .have n:i<y.size:=by simp at u;omega
   obtain⟨v,d,g⟩:=l i n;rw[fG n];have:QY ((List.range y.size).map f) i=v:=by
    simp[QY,Q5,n,f,d]
   rw[this];exact g
  .have r:(loadCells c y.size).run P b=.ok ((List.range y.size).map f).toArray b:=run_loadCells b c y.size f (λj q=>by
    obtain⟨v,d,_⟩:=l j q;rw[m j v q d];simp[f,d])
   simp[loadVar,e.isAgg,k,e.sizeOf,r]
def Hc(L:ZW)(h:List Ob)(t:TypeId)(d:D):Ev:=
 match ty L t with
 | none=>none
 | some y=>
  match d with
  | .ptr l g i j=>match h[l]? with
   | some o=>some (g=o.gen/\i<o.n/\j+y.size<=o.sz/\(y.k.agg=false->y.size=1),mk y ((o.row i).drop j))
   | none=>none
  | .ip a=>some (y.size<=a.length/\(y.k.agg=false->y.size=1),mk y a)
  | _=>none
def yo(b o n):(⟨b,o,none⟩:Addr).add n=⟨b,o+n,none⟩:=Addr.add_lit b o n
def tq(W:ZU P L){t:TypeId}{x}(K:o.op=.load t x){p}{d}(h:Hc L s.h t (Qo s.fr x)=some (p,d))(J:p):TN P base nt o s d:=by
 intro Z H a w r;have hx:=r.eval x;unfold Hc at h;cases B:ty L t with
 | none=>rw[B]at h;cases h
 | some y=>
  have I:=W t y B;rw[B]at h;dsimp only at h;generalize Qo s.fr x=dx at *;split at h
  .rename_i l g i j;split at h
   .rename_i z O;simp only[QX,Q9]at h;obtain⟨rfl,rfl⟩:=h;obtain⟨T,M,hj,E⟩:=J;obtain⟨o',p',ad,f,N,ZI,ZL,jw,Vx⟩:=Dp hx;rw[O]at N;cases N;obtain⟨b,q,rfl,rfl⟩:=Vx T;obtain⟨QU,R⟩:=r.o.at_ l z b q O ZI;obtain⟨c,el,V,Q,JS,ZR⟩:=R.cells ZL;obtain⟨v,n,F⟩:=tn I w ⟨b,q+(i*z.sz+j),none⟩ ((z.row i).drop j) (h:=s.h) (pl:=H) w (by simp[JS i M];omega) E (λk C=>by
     obtain⟨v,f,n⟩:=ZR i (j+k) M ω;refine⟨v,?_,by rw[Fh];exact n⟩;rw[yo,cell_of_row w b _ c el (0,0) V,<- f];congr 1;omega)
    refine⟨v,n,λu e=>?_⟩;have:=F u (λk v C f=>e _ _ f);simp[execOp,K,f,Instr.loadAt,Instr.sureAddr,this]
   .cases h
  .rename_i m;simp only[QX,Q9]at h;obtain⟨rfl,rfl⟩:=h;obtain⟨Q,E⟩:=J;obtain⟨b,q,S,f,U⟩:=Hb hx;obtain⟨v,n,F⟩:=tn I w ⟨b,q,none⟩ m (h:=s.h) (pl:=H) w Q E (λk C=>by
    obtain⟨⟨_,h2⟩,Y⟩:=U k ω;exact⟨S k,by rw[yo];exact h2,.cl _ _ Y⟩)
   refine⟨v,n,λu e=>?_⟩;have:=F u (λk v C f=>e _ _ f);simp[execOp,K,f,Instr.loadAt,Instr.sureAddr,this]
  .cases h
def tt(c:ZU P L){t:TypeId}{x}(b:o.op=.load t x){p}{d}(h:Hc L s.h t (Qo s.fr x)=some (p,d))(a:p):VZ P base nt o s d:=(tq c b h a).up
def LD(L:ZW)(t:TypeId)(f:Nat):Option (Nat × Ty):=
 match ty L t with
 | some ⟨.struct b,_,_,_⟩=>match b[f]? with
  | some (a,u)=>match ty L u with
   | some y=>some (a,y)
   | none=>none
  | none=>none
 | _=>none
def fH(d:ZU P L){t:TypeId}{f b}{y}(h:LD L t f=some (b,y)):∃g a,P.underlying t=some (.struct g)/\g[f]? = some a/\a.offset=b/\Wz P a.type y:=by
 unfold LD at h;split at h
 .rename_i r _ _ _ k;split at h
  .rename_i p u c;split at h
   .rename_i q e;simp only[QX,Q9]at h;obtain⟨rfl,rfl⟩:=h;obtain⟨g,j,i⟩:=tj (d _ _ k) rfl;rw[<- i]at c;simp only[Kl,Xq,Q9]at c;obtain⟨a,n,m,l⟩:=c;exact⟨g,a,j,by simpa using n,m,by rw[l];exact d _ _ e⟩
   .cases h
  .cases h
 .cases h
def TW(L:ZW)(t:TypeId)(f:Nat)(d:D):Ev:=
 match LD L t f with
 | none=>none
 | some (b,y)=>match d with
  | .ptr l g i j=>some (y.size≠0,.ptr l g i (j+b))
  | .ip a=>some (y.size≠0,.ip (a.drop b))
  | _=>none
def QiG(W:ZU P L){t:TypeId}{f}{x}(E:o.op=.fieldAddr t x f){p}{d}(h:TW L t f (Qo s.fr x)=some (p,d))(u:p):VZ P base nt o s d:=by
 intro Z pl a w r;have hx:=r.eval x;unfold TW at h;split at h
 .cases h
 .rename_i a0 y U;obtain⟨g,e,H,R,rfl,C⟩:=fH W U;have k:∀(b q:Nat),y.size≠0->a.eval x=.pointer (some ⟨b,q,none⟩)->∀c:World,(execOp a.eval o).run P c=.ok (.value (.pointer (some ⟨b,q+e.offset,none⟩))) c:=by
   intro b q Y V c;simp[execOp,E,V,Instr.fieldAt,run_underlying H,R,Instr.sureAddr,fieldPlace,C.sizeOf,Y,yo]
  generalize Qo s.fr x=dx at *;split at h
  .rename_i l g i j;simp only[QX,Q9]at h;obtain⟨rfl,rfl⟩:=h;obtain⟨n,pp,ad,m,N,Q,O,B,Vx⟩:=Dp hx;by_cases F:g=n.gen
   .obtain⟨b,q,rfl,rfl⟩:=Vx F;exact⟨_,.ptr _ _ _ _ n _ _ N Q O B (λ_=>⟨b,q,rfl,by simp only[Addr.mk.injEq,and_true,yj];omega⟩),λc _=>k _ _ u m c⟩
   .obtain⟨b,q,T⟩:=ad;refine⟨.pointer (some ((⟨b,q,T⟩:Addr).add e.offset)),.ptr _ _ _ _ n _ _ N Q O B (λh=>absurd h F),λc _=>?_⟩;simp[execOp,E,m,Instr.fieldAt,run_underlying H,R,Instr.sureAddr,fieldPlace,C.sizeOf,u]
  .rename_i z;simp only[QX,Q9]at h;obtain⟨rfl,rfl⟩:=h;obtain⟨b,q,S,m,I⟩:=Hb hx;refine⟨_,.cl _ _ (.ip _ b (q+e.offset) (λj=>S (e.offset+j)) (λj v=>?_) (λj v=>?_)),λc _=>k _ _ u m c⟩
   .obtain⟨⟨M,K⟩,J⟩:=I (e.offset+j) (by simp at v;omega);exact⟨M,by rw[Nat.add_assoc];exact K⟩
   .obtain⟨⟨M,K⟩,J⟩:=I (e.offset+j) (by simp at v;omega);rw[Fh];exact J
  .cases h
def tu{t:TypeId}{y}(e:Wz P t y)(c:List D)(b:List Value){h}{j}{g}(q:b.length=c.length)(k:∀i,i<c.length->Qy Z h j g (nth c i) (QY b i))(a)
  (r:a+y.size<=c.length) (n:y.k.agg=false->y.size=1):∃v,Qy Z h j g (mk y (c.drop a)) v/\∀d,(part t b.toArray a).run P d=.ok v d:=by
 unfold mk;cases f:y.k.agg
 .have p:=n f;refine⟨QY b a,by simp only[q5];rw[Fh];exact k a ω,λd=>?_⟩;have Qc:a<b.length:=ω;simp[part,e.isAgg,f,QY,Q5,Qc]
 .refine⟨.agg ((b.drop a).take y.size).toArray,.agg _ _ ξ (λi m=>?_),λd=>?_⟩
  .have l:i<y.size:=by simp at m;omega
   rw[fG l,Fh];have:QY ((b.drop a).take y.size) i=QY b (a+i):=by
    simp[QY,Q5,l]
   rw[this];exact k _ ω
  .simp[part,e.isAgg,f,e.sizeOf]
def TX(L:ZW)(t:TypeId)(f:Nat)(d:D):Ev:=
 match LD L t f with
 | none=>none
 | some (a,y)=>match d with
  | .agg b=>some (a+y.size<=b.length/\(y.k.agg=false->y.size=1),mk y (b.drop a))
  | _=>none
def QiH(q:ZU P L){t:TypeId}{f}{x}(k:o.op=.field t x f){p}{d}(h:TX L t f (Qo s.fr x)=some (p,d))(b:p):VZ P base nt o s d:=by
 intro Z I a w r;have hx:=r.eval x;unfold TX at h;split at h
 .cases h
 .rename_i F y n;obtain⟨g,u,m,E,rfl,e⟩:=fH q n;generalize Qo s.fr x=J at *;split at h
  .rename_i B;simp only[QX,Q9]at h;obtain⟨rfl,rfl⟩:=h;obtain⟨c,i,l,j⟩:=Ha hx;obtain⟨v,z,C⟩:=tu e B c l j u.offset b.1 b.2;refine⟨v,z,λH _=>?_⟩;simp[execOp,k,i,Instr.field,run_underlying m,E,asAgg,C]
  .cases h
def LF(L:ZW)(t:TypeId):Option (Nat × Bool × Nat):=
 match ty L t with
 | some ⟨.slice e,_,_,_⟩=>match ty L e with
  | some y=>some (y.size,true,0)
  | none=>none
 | some ⟨.array n e,_,_,_⟩=>match ty L e with
  | some y=>some (y.size,false,n)
  | none=>none
 | _=>none
def QiI(b:ZU P L){t:TypeId}{a n}(h:LF L t=some (a,true,n)):∃e y,P.underlying t=some (.slice e)/\Wz P e y/\y.size=a:=by
 unfold LF at h;split at h
 .rename_i e _ _ _ d;split at h
  .rename_i y c;simp only[QX,Q9]at h;exact⟨e,y,vP (b _ _ d) rfl,b _ _ c,h.1⟩
  .cases h
 .split at h
  .simp at h
  .cases h
 .cases h
def QiJ(b:ZU P L){t:TypeId}{a n}(h:LF L t=some (a,false,n)):∃e y,P.underlying t=some (.array n e)/\Wz P e y/\y.size=a:=by
 unfold LF at h;split at h
 .split at h
  .simp at h
  .cases h
 .rename_i e _ _ _ d;split at h
  .rename_i y c;simp only[QX,Q9]at h;obtain⟨rfl,_,rfl⟩:=h;exact⟨e,y,fA (b _ _ d) rfl,b _ _ c,rfl⟩
  .cases h
 .cases h
def TY(L:ZW)(h:List Ob)(t:TypeId)(d m:D):Ev:=
 match m with
 | .raw (.int _ i)=>match LF L t with
  | some (c,true,_)=>match d with
   | .ref l g f k=>match h[l]? with
    | some o=>some (g=o.gen/\o.sz=c/\0<=i/\i<k,.ptr l g (f+i.toNat) 0)
    | none=>none
   | .imm z n e=>some (z=c/\0<=i/\i<n,.ip (e i.toNat))
   | _=>none
  | some (c,false,n)=>match d with
   | .ptr l g a j=>some (0<=i/\i<n,.ptr l g a (j+i.toNat*c))
   | .ip b=>some (0<=i/\i<n,.ip (b.drop (i.toNat*c)))
   | _=>none
  | none=>none
 | _=>none
def QiK(hL:ZU P L){t:TypeId}{x I}(K:o.op=.indexAddr t x I){p}{d}(h:TY L s.h t (Qo s.fr x) (Qo s.fr I)=some (p,d))(J:p):VZ P base nt o s d:=by
 intro Z pl a w r;have hx:=r.eval x;have fK:=r.eval I;unfold TY at h;generalize Qo s.fr x=dx at *;generalize Qo s.fr I=di at *;split at h
 .rename_i k i;have M:=Jh fK;split at h
  .rename_i sz _ U;obtain⟨e,y,E,C,rfl⟩:=QiI hL U;split at h
   .rename_i l g a0 a4;split at h
    .rename_i H O;simp only[QX,Q9]at h;obtain⟨rfl,rfl⟩:=h;obtain⟨T,Jg,v,f⟩:=J;obtain⟨o',p',V,a1,u,Zw,ZI,W,jw,Y⟩:=BL hx;rw[O]at Zw;cases Zw;rcases Y T with ⟨F,_⟩|⟨b,q,c,el,VY,S,hb,B,BN⟩
     .omega
     .refine⟨.pointer (some ⟨b,q+((a0+i.toNat)*H.sz+0),none⟩),.ptr _ _ _ _ H _ _ O ZI W jw (λ_=>⟨b,q,VY,rfl⟩),λQ _=>?_⟩;simp[execOp,K,u,M,S,Instr.indexAt,asIntOf,run_underlying E,v,f,C.sizeOf,yo,Jg];rw[Vw];omega
    .cases h
   .rename_i z n a3;simp only[QX,Q9]at h;obtain⟨rfl,rfl⟩:=h;obtain⟨rfl,v,f⟩:=J;obtain⟨V,a1,b,q,R,u,S,BN,hs,B⟩:=OW hx;have Qc:i.toNat<n:=ω;refine⟨.pointer (some ⟨b,q+i.toNat*y.size,none⟩),.cl _ _ (.ip _ b _ (λj=>R i.toNat j) (λj m=>?_) (λj m=>?_)),λQ _=>?_⟩
    .rw[hs _ Qc]at m;obtain⟨⟨F,N⟩,h4⟩:=B i.toNat j Qc m;exact⟨F,by rw[Nat.add_assoc];exact N⟩
    .rw[hs _ Qc]at m;exact(B i.toNat j Qc m).2
    .simp[execOp,K,u,M,S ω,Instr.indexAt,asIntOf,run_underlying E,v,f,C.sizeOf,yo]
   .cases h
  .rename_i sz n U;obtain⟨e,y,E,C,rfl⟩:=QiJ hL U;split at h
   .rename_i l g i0 j;simp only[QX,Q9]at h;obtain⟨rfl,rfl⟩:=h;obtain⟨v,f⟩:=J;obtain⟨H,pp,V,u,O,VY,W,xk,Y⟩:=Dp hx;refine⟨.pointer (some (V.add (i.toNat*y.size))),.ptr _ _ _ _ H _ _ O VY W xk (λT=>?_),λQ _=>?_⟩
    .obtain⟨b,q,rfl,rfl⟩:=Y T;exact⟨b,q,rfl,by rw[yo];simp only[Addr.mk.injEq,and_true,yj];omega⟩
    .simp[execOp,K,u,M,Instr.indexAt,asIntOf,run_underlying E,v,f,C.sizeOf,Instr.sureAddr]
   .rename_i a2;simp only[QX,Q9]at h;obtain⟨rfl,rfl⟩:=h;obtain⟨v,f⟩:=J;obtain⟨b,q,R,u,B⟩:=Hb hx;refine⟨_,.cl _ _ (.ip _ b (q+i.toNat*y.size) (λj=>R (i.toNat*y.size+j)) (λj m=>?_) (λj m=>?_)),λQ _=>?_⟩
    .obtain⟨⟨f,F⟩,N⟩:=B (i.toNat*y.size+j) (by simp at m;omega);exact⟨f,by rw[Nat.add_assoc];exact F⟩
    .obtain⟨⟨f,F⟩,N⟩:=B (i.toNat*y.size+j) (by simp at m;omega);rw[Fh];exact N
    .simp[execOp,K,u,M,Instr.indexAt,asIntOf,run_underlying E,v,f,C.sizeOf,Instr.sureAddr,yo]
   .cases h
  .cases h
 .cases h
def TZ(L:ZW)(t:TypeId)(d c:D):Ev:=
 match c with
 | .raw (.int _ i)=>match d with
  | .agg a=>match ty L t with
   | some ⟨.array n e,_,_,_⟩=>match ty L e with
    | some y=>some (0<=i/\i<n/\i.toNat*y.size+y.size<=a.length/\(y.k.agg=false->y.size=1),mk y (a.drop (i.toNat*y.size)))
    | none=>none
   | _=>none
  | .raw (.string b)=>match ty L t with
   | some ⟨.str,_,_,_⟩=>some (0<=i/\i<b.size,.raw (.int .u8 (b.data.getD i.toNat 0).toNat))
   | _=>none
  | _=>none
 | _=>none
def QiL(j:ZU P L){t:TypeId}{x c}(u:o.op=.index t x c){p}{d}(h:TZ L t (Qo s.fr x) (Qo s.fr c)=some (p,d))(q:p):VZ P base nt o s d:=by
 intro Z R a w r;have hx:=r.eval x;have K:=r.eval c;unfold TZ at h;generalize Qo s.fr x=S at *;generalize Qo s.fr c=T at *;split at h
 .rename_i k i;have z:=Jh K;split at h
  .rename_i N;split at h
   .rename_i n e _ _ _ g;split at h
    .rename_i y Q;have m:=j _ _ Q;simp only[QX,Q9]at h;obtain⟨rfl,rfl⟩:=h;obtain⟨l,B,J,I⟩:=q;obtain⟨E,f,H,F⟩:=Ha hx;obtain⟨v,M,O⟩:=tu m N E H F _ J I;refine⟨v,M,λC _=>?_⟩;simp[execOp,u,f,z,Instr.index,asIntOf,run_underlying (fA (j _ _ g) rfl),l,B,m.sizeOf,O]
    .cases h
   .cases h
  .rename_i b;split at h
   .rename_i g;simp only[QX,Q9]at h;obtain⟨rfl,rfl⟩:=h;obtain⟨l,B⟩:=q;have f:=Jh hx;refine⟨_,.cl _ _ (.raw _),λC _=>?_⟩;have Qc:i.toNat<b.size:=ω;have:b[i.toNat]? = some (b.data.getD i.toNat 0):=by
     rw[getElem?_pos b i.toNat Qc];show some (b.data[i.toNat])=_;rw[w9,zF (by exact Qc)];rfl
    simp[execOp,u,f,z,Instr.index,asIntOf,run_underlying (OV (j _ _ g) rfl),l,this]
   .cases h
  .cases h
 .cases h
def QiM{x}{i}(g:o.op=.extract x i){b:List D}(d:Qo s.fr x=.tup b)(j:i<b.length):VZ P base nt o s (nth b i):=by
 intro Z l a w r;have h:=r.eval x;rw[d]at h;obtain⟨c,e,m,f⟩:=Qiv h;refine⟨_,f i j,λk _=>?_⟩;have:i<c.length:=ω;simp[execOp,g,e,Instr.extract,QY,Q5,this]
def QiN{u}{t:TypeId}{x}(f:o.op=.unOp u t x){b}(e:u=.not)(c:Qo s.fr x=.raw (.bool b)):VZ P base nt o s (.raw (.bool (!b))):=by
 intro Z i a w r;have h:=r.eval x;rw[c]at h;have d:=Jh h;exact⟨_,.cl _ _ (.raw _),λg _=>by simp[execOp,f,d,e,Op.unary]⟩
def QiO{u}{t:TypeId}{x}(e:o.op=.unOp u t x){k:IntKind}{n}(d:u=.neg)(b:Qo s.fr x=.raw (.int k n)):VZ P base nt o s (.raw (.int k (k.wrap (0 - n)))):=by
 intro Z g a w r;have h:=r.eval x;rw[b]at h;have c:=Jh h;exact⟨_,.cl _ _ (.raw _),λf _=>by simp[execOp,e,c,d,Op.unary,Op.intArith]⟩
def QiP{u}{t:TypeId}{x}(e:o.op=.unOp u t x){k:IntKind}{n}(d:u=.xor)(b:Qo s.fr x=.raw (.int k n)):VZ P base nt o s (.raw (.int k (bits .xor k (if k.signed then -1 else k.max) n))):=by
 intro Z g a w r;have h:=r.eval x;rw[b]at h;have c:=Jh h;exact⟨_,.cl _ _ (.raw _),λf _=>by simp[execOp,e,c,d,Op.unary,Op.intBits,bits]⟩
def D.there:D->Bool
 | .ptr _ _ _ _ | .ip _ | .clo _ _ _=>true
 | .raw (.func (.func _) _ _)=>true
 | _=>false
def QiQ{x}(c:o.op=.nilCheck x){d:D}(m:Qo s.fr x=d)(k:d.there=true):VZ P base nt o s d:=by
 intro Z t a w r;have h:=r.eval x;rw[m]at h;cases d<;>try (simp only[D.there,YR]at k;done)
 case ptr l g i j=>
  obtain⟨_,_,y,b,_⟩:=Dp h;exact⟨_,h,λe _=>by simp[execOp,c,b]⟩
 case ip p=>
  obtain⟨_,_,_,b,_⟩:=Hb h;exact⟨_,h,λe _=>by simp[execOp,c,b]⟩
 case raw v=>
  have b:=Jh h;cases v with
  | func n first z=>
   cases n with
   | func f=>exact⟨_,h,λe _=>by simp[execOp,c,b]⟩
   | _=>simp only[D.there,YR]at k
  | _=>simp only[D.there,YR]at k
 case clo f u p=>
  obtain⟨q,b,_⟩:=fB h;exact⟨_,h,λe _=>by simp[execOp,c,b]⟩
def T6(L:ZW)(a c:TypeId):D->Ev
 | .raw (.int _ n)=>match ty L c,ty L a with
  | some ⟨.int k,_,_,_⟩,some _=>some (True,.raw (.int k (k.wrap n)))
  | _,_=>none
 | .raw (.string b)=>match ty L c,ty L a with
  | some ⟨.str,_,_,_⟩,some ⟨.str,_,_,_⟩=>some (True,.raw (.string b))
  | _,_=>none
 | _=>none
def QiR(e:ZU P L){b c:TypeId}{x}(j:o.op=.convert b c x){p}{d}(h:T6 L b c (Qo s.fr x)=some (p,d)):VZ P base nt o s d:=by
 intro Z t a w r;have hx:=r.eval x;unfold T6 at h;generalize Qo s.fr x=v at *;split at h
 .split at h
  .rename_i k _ _ _ n i g;simp only[QX,Q9]at h;obtain⟨rfl,rfl⟩:=h;have f:=Jh hx;refine⟨_,.cl _ _ (.raw _),λl _=>?_⟩;obtain⟨q,m,u⟩:=(e _ _ g).under;simp[execOp,j,f,convert,run_underlying m,run_underlying (BI (e _ _ i) rfl),Conv.intToInt]
  .cases h
 .split at h
  .rename_i i g;simp only[QX,Q9]at h;obtain⟨rfl,rfl⟩:=h;have f:=Jh hx;refine⟨_,.cl _ _ (.raw _),λl _=>?_⟩;simp[execOp,j,f,convert,run_underlying (OV (e _ _ g) rfl),run_underlying (OV (e _ _ i) rfl)]
  .cases h
 .cases h
def T7(L:ZW)(t:TypeId):D->Ev
 | .ref _ _ _ n=>match ty L t with
  | some ⟨.slice _,_,_,_⟩=>some (True,.raw (.int .i64 n))
  | _=>none
 | .imm _ n _=>match ty L t with
  | some ⟨.slice _,_,_,_⟩=>some (True,.raw (.int .i64 n))
  | _=>none
 | .nil=>match ty L t with
  | some ⟨.slice _,_,_,_⟩=>some (True,.raw (.int .i64 0))
  | _=>none
 | .raw (.string b)=>match ty L t with
  | some ⟨.str,_,_,_⟩=>some (True,.raw (.int .i64 b.size))
  | _=>none
 | _=>none
def jy{P:Program}{o:Oper}{a:Act}{c:Builtin}{b:Array Operand}{d:Array TypeId}(e:o.op=.call ⟨.builtin c,b,d⟩)(w:World):
  (execOp a.eval o).run P w=(builtin c d o.type (b.map fun | .const _=>true|_=>false) (b.map a.eval)).run P w:=by
 simp[execOp,e,resolve,invoke];rfl
def Ua(f:ZU P L){x}{t:TypeId}(e:o.op=.call ⟨.builtin .len,#[x],#[t]⟩){p}{d}(h:T7 L t (Qo s.fr x)=some (p,d)):VZ P base nt o s d:=by
 intro Z k a w r;have hx:=r.eval x;unfold T7 at h;generalize Qo s.fr x=l at *;split at h
 .split at h
  .rename_i c;simp only[QX,Q9]at h;obtain⟨rfl,rfl⟩:=h;obtain⟨_,_,j,i,b,_⟩:=BL hx;refine⟨_,.cl _ _ (.raw _),λg _=>?_⟩;rw[jy e];simp[builtin,Builtin.len_,b,run_underlying (vP (f _ _ c) rfl),goInt]
  .cases h
 .split at h
  .rename_i c;simp only[QX,Q9]at h;obtain⟨rfl,rfl⟩:=h;obtain⟨j,i,_,_,_,b,_⟩:=OW hx;refine⟨_,.cl _ _ (.raw _),λg _=>?_⟩;rw[jy e];simp[builtin,Builtin.len_,b,run_underlying (vP (f _ _ c) rfl),goInt]
  .cases h
 .split at h
  .rename_i c;simp only[QX,Q9]at h;obtain⟨rfl,rfl⟩:=h;obtain⟨j,b⟩:=BK hx;refine⟨_,.cl _ _ (.raw _),λg _=>?_⟩;rw[jy e];simp[builtin,Builtin.len_,b,run_underlying (vP (f _ _ c) rfl),goInt]
  .cases h
 .split at h
  .rename_i c;simp only[QX,Q9]at h;obtain⟨rfl,rfl⟩:=h;have b:=Jh hx;refine⟨_,.cl _ _ (.raw _),λg _=>?_⟩;rw[jy e];simp[builtin,Builtin.len_,b,run_underlying (OV (f _ _ c) rfl),goInt]
  .cases h
 .cases h
def QiS{x y}{h:Array TypeId}(g:o.op=.call ⟨.builtin .max,#[x,y],h⟩){k d}{m n}(f:Qo s.fr x=.raw (.int k m))(e:Qo s.fr y=.raw (.int d n)):VZ P base nt o s (.raw (.int k (max m n))):=by
 intro Z j a w r;have c:=r.eval x;have b:=r.eval y;rw[f]at c;rw[e]at b;refine⟨_,.cl _ _ (.raw _),λi _=>?_⟩;rw[jy g];simp[builtin,Builtin.max_,Jh c,Jh b,Builtin.max2];split<;>omega
def QiT{x y}{h:Array TypeId}(g:o.op=.call ⟨.builtin .min,#[x,y],h⟩){k d}{m n}(f:Qo s.fr x=.raw (.int k m))(e:Qo s.fr y=.raw (.int d n)):VZ P base nt o s (.raw (.int k (min m n))):=by
 intro Z j a w r;have c:=r.eval x;have b:=r.eval y;rw[f]at c;rw[e]at b;refine⟨_,.cl _ _ (.raw _),λi _=>?_⟩;rw[jy g];simp[builtin,Builtin.min_,Jh c,Jh b,Builtin.min2];split<;>omega
def QiU{f}{first b:Array Operand}(c:o.op=.makeFunc (.func f) first b):VZ P base nt o s (.clo f first.size ((first.toList++b.toList).map (Qo s.fr))):=by
 intro Z m a w r;refine⟨.func (.func f) (((first.toList++b.toList).map a.eval).take first.size).toArray (((first.toList++b.toList).map a.eval).drop first.size).toArray,.clo f first.size _ ((first.toList++b.toList).map a.eval) σ (λi d=>?_),λl _=>?_⟩
 .have k:i<(first.toList++b.toList).length:=by simpa using d
  simp only[nth,QY,Q5,Kl];rw[QP k];exact r.eval _
 .have j:Array.map a.eval b=(List.map a.eval b.toList).toArray:=Array.ext' σ;have h:Array.map a.eval first=(List.map a.eval first.toList).toArray:=Array.ext' σ;have g:((first.toList++b.toList).map a.eval).take first.size=first.toList.map a.eval:=by rw[ju,List.take_append_of_le_length σ,List.take_of_length_le σ]
  have e:((first.toList++b.toList).map a.eval).drop first.size=b.toList.map a.eval:=by rw[ju,List.drop_append_of_le_length σ,List.drop_of_length_le σ,q4]
  rw[g,e];simp[execOp,c,Instr.makeFunc,j,h]
end
variable {Z:Nat->Prop}
def Ext(w a:World):Prop:=∀b,b<w.heap.size->a.heap[b]? = w.heap[b]?
def Ext.refl(w):Ext w w:=λ_ _=>rfl
def Ext.trans{a b c}(h:Ext a b)(k:Ext b c):Ext a c:=λi e=>by
 have d:=h i e;have f:i<b.heap.size:=by
  rw[zF e]at d;exact(Wg.1 d).1
 rw[k i f,d]
def calm(o:Oper):Bool:=match o.op with
 | .store .. | .mapUpdate .. | .insert .. | .entryStore .. | .next ..=>false
 | .call ⟨.builtin .len,_,_⟩ | .call ⟨.builtin .min,_,_⟩ | .call ⟨.builtin .max,_,_⟩=>true
 | .call ⟨.builtin _,_,_⟩=>false
 | _=>true
def zK(P:Program)(b h:Nat)(o:Oper)(s:St)(e:List Ob)(d:D):Prop:=
 ∀(Z:Nat->Prop) g a w,Rel Z b h s g a w->b<=w.heap.size->∃v c f,((execOp a.eval o).run P w=.ok (.value v) c\/((execOp a.eval o).run P w=.ok .skip c/\v=Go.undef)) /\
  Tr s.h g w e f c/\Zg Z b e f c/\Qy Z e f c d v/\Below b w c/\(calm o=true->Ext w c)
def He(P:Program)(b h:Nat)(o:Oper)(s:St)(e:List Ob)(d:D):Prop:=
 ∀(Z:Nat->Prop) g a w,Rel Z b h s g a w->b<=w.heap.size->∃v c f,((execOp a.eval o).run P w=.ok (.value v) c\/((execOp a.eval o).run P w=.ok .skip c/\v=Go.undef)) /\
  Tr s.h g w e f c/\Zg Z b e f c/\Qy Z e f c d v/\Below b w c
def He.up{P}{b c}{o}{s}{f}{d}(h:He P b c o s f d)(j:calm o=false):zK P b c o s f d:=λZ i a w r k=>
 let ⟨v,g,t,q,p,n,m,l⟩:=h Z i a w r k
 ⟨v,g,t,q,p,n,m,l,λe=>by rw[j]at e;cases e⟩
def yq:Value->Bool
 | .agg _ | .tuple _=>false
 | _=>true
def D.Vi:D->Bool
 | .raw v=>yq v
 | .undef | .agg _ | .tup _=>false
 | _=>true
def XN:D->Option (List D)
 | .agg a=>bif a.all D.Vi then some a else none
 | d=>bif d.Vi then some [d] else none
def fM{h}{c}{w}{d:D}{v}(r:Qy Z h c w d v)(a:d.Vi=true):yq v=true:=by
 cases r with
 | cl _ _ f=>cases f<;>first|rfl|exact a|(simp[D.Vi]at a)
 | ref=>rfl
 | ptr=>rfl
 | mref _ _ o p b j i e k g=>rw[e.2];unfold OS;split<;>rfl
 | clo=>rfl
 | agg=>simp[D.Vi]at a
 | tup=>simp[D.Vi]at a
def QiV{v:Value}(h:yq v=true):v.cells=#[v]:=by cases v<;>first|rfl|cases h
def fN{h}{b}{w}{d}{v}(r:Qy Z h b w d v){a}(e:XN d=some a):
  v.cells.size=a.length/\∀i,i<a.length->Qy Z h b w (nth a i) (QY v.cells.toList i)/\yq (QY v.cells.toList i)=true:=by
 have one:∀g:D,Qy Z h b w g v->(bif g.Vi then some [g] else none)=some a->v.cells.size=a.length/\∀i,i<a.length->Qy Z h b w (nth a i) (QY v.cells.toList i)/\yq (QY v.cells.toList i)=true:=by
  intro g k f;cases j:g.Vi
  .rw[j]at f;cases f
  .rw[j]at f;simp only[ky,QX]at f;subst f;have m:=fM k j;rw[QiV m];refine⟨rfl,λi c=>?_⟩;have:i=0:=by simp at c;omega
   subst this;exact⟨k,m⟩
 cases d with
 | agg p=>
  simp only[XN]at e;obtain⟨n,e⟩:=zJ e;cases e;obtain⟨q,rfl,o,l⟩:=Ha r;refine⟨by simp[Value.cells,o],λi c=>⟨by simpa[Value.cells] using l i c,?_⟩⟩;refine fM (by simpa[Value.cells] using l i c:Qy Z h b w (nth a i) _) ?_;rw[YS]at n;have:=n (nth a i) (by simp[nth,Q5,c]);exact this
 | _=>exact one _ r e
def Ub{P}(b)(e):∀(d:List Value) (i q:Nat) (w:World) (c:Array Value),w.heap[b]? = some (.cells c e (0,0))->q+i+d.length<=c.size->(∀j,j<d.length->yq (QY d j)=true) ->
  ∃a g,(storeCells ⟨b,q,none⟩ d i).run P w=.ok () a/\a.heap[b]? = some (.cells g e (0,0))/\g.size=c.size /\
   (∀k,g[k]? = if q+i<=k/\k<q+i+d.length then d[k - (q+i)]? else c[k]?)/\(∀k,k≠b->a.heap[k]? = w.heap[k]?)/\a.heap.size=w.heap.size/\a.os=w.os/\a.tape=w.tape/\a.output=w.output
 | [],i,q,w,c,f,o,l=>⟨w,c,by simp[storeCells],f,rfl,λk=>by rw[Qe];simp,λ_ _=>rfl,rfl,rfl,rfl,rfl⟩
 | v::d,i,q,w,c,f,o,l=>by
  simp only[VK]at o;have F:yq v=true:=l 0 σ;have Qc:q+i<c.size:=ω;have J:w.cell? ⟨b,q+i,none⟩=some c[q+i]:=by rw[cell_of_row w b _ c e (0,0) f];simp[Qc]
  have n:w.frozen? ⟨b,q+i,none⟩=false:=frozen_of_row w b _ c e f;have r:=heap_setCell_same w b (q+i) c e v f;obtain⟨a,g,E,C,B,z,y,x,u,t,s⟩:=Ub (P:=P) b e d (i+1) q (w.setCell ⟨b,q+i,none⟩ v) _ r ξ (λj K=>by
   have:=l (j+1) ξ;simpa[QY] using this)
  refine⟨a,g,?_,C,by rw[B];simp,λk=>?_,λk p=>by rw[y k p];exact Below.heap_setCell _ _ _ _ p,by rw[x];simp,by rw[u];rfl,by rw[t];rfl,by rw[s];rfl⟩
  .have I:(store (⟨b,q+i,none⟩:Addr) v).run P w=.ok () (w.setCell ⟨b,q+i,none⟩ v):=by
    cases v<;>first|(simp[yq]at F;done)|(simp[store,Sem.run,J,n])
   simp only[storeCells,Sem.run_bind,yo,I,Result.andThen_ok];exact E
  .rw[z k];by_cases H:q+i=k
   .subst H;rw[Qe ω,Qf σ];simp[Qc]
   .by_cases h:q+i<=k/\k<q+i+(v::d).length
    .rw[Qf h,Qf (by simp at h;omega)];obtain⟨m,rfl⟩:∃m,k=q+i+(m+1):=⟨k - (q+i) - 1,ω⟩;rw[show q+i+(m+1) - (q+i)=m+1 by omega,show q+i+(m+1) - (q+(i+1))=m by omega];simp
    .rw[Qe h,Qe (by simp at h;omega),fp ω]
def Av(b:List D)(j:Nat)(a:List D):List D:=b.take j++a++b.drop (j+a.length)
def Uc{a:List D}{j}{b:List D}(h:j+b.length<=a.length):(Av a j b).length=a.length:=by simp[Av];omega
def tv{b:List D}{j}{a:List D}(h:j+a.length<=b.length)(i):nth (Av b j a) i=if j<=i/\i<j+a.length then nth a (i - j) else nth b i:=by
 simp only[nth,Av,Q5];by_cases d:i<j
 .rw[Qe ω,Wx,JD ξ];simp[d]
 .by_cases c:i<j+a.length
  .rw[Qf ⟨ω,c⟩,Wx,JE ξ,JD ξ];simp;congr 3;omega
  .rw[Qe ω,JE ξ];simp only[GZ,JJ,Tp];congr 2;omega
def setRow(o:Ob)(i:Nat)(a:List D):Ob:=
 { o with row:=bif o.kd.G7 then λ_=>a else λk=>bif Nat.beq k i then a else o.row k }
def tx{o:Ob}{i}{a:List D}(c:o.kd.G7=true->o.n=1){k}(e:i<o.n)(d:k<o.n):(setRow o i a).row k=if k=i then a else o.row k:=by
 unfold setRow;cases h:o.kd.G7
 .simp only[q5];by_cases b:k=i
  .subst b;simp
  .have:Nat.beq k i=false:=by rw[<- XY,VL];exact b
   rw[this,Qe b];rfl
 .have:=c h;simp only[ky];rw[Qf ω]
section
variable {P:Program}{L:ZW}{base nt:Nat}{s:St}{o:Oper}
def LH{w a:World}{b}(h:base<=b)(f:∀k,k≠b->a.heap[k]? = w.heap[k]?)(i:a.heap.size=w.heap.size)(e:a.os=w.os)(d:a.tape=w.tape)(c:a.output=w.output):Below base w a:=
 ⟨e,d,c,ω,λk g=>f k ω⟩
def OZ(L:ZW)(h:List Ob)(t:TypeId)(b x:D):Option (Prop × List Ob):=
 match ty L t,b,XN x with
 | some y,.ptr l g i j,some a=>match h[l]? with
  | some o=>some (g=o.gen/\i<o.n/\j+a.length<=o.sz/\a.length=y.size/\(o.kd.G7=true->o.n=1)/\o.kd.ro=false,h.set l (setRow o i (Av (o.row i) j a)))
  | none=>none
 | _,_,_=>none
def QiX(hL:ZU P L){t:TypeId}{I x}(ho:o.op=.store t I x){p}{Y}(h:OZ L s.h t (Qo s.fr I) (Qo s.fr x)=some (p,Y))(hp:p):He P base nt o s Y .undef:=by
 intro Z B a w r Kn;have hx:=r.eval x;have V:=r.eval I;unfold OZ at h;split at h
 .rename_i y l g i j H Au fO Jx;rw[fO]at V;split at h
  .rename_i d z;simp only[QX,Q9]at h;obtain⟨rfl,rfl⟩:=h;obtain⟨hg,n,hj,Jg,W,Q⟩:=hp;have hy:=hL _ _ Au;obtain⟨o',p',a1,hv,Zw,J,f,jw,Vx⟩:=Dp V;rw[z]at Zw;cases Zw;obtain⟨b,q,rfl,rfl⟩:=Vx hg;obtain⟨QU,xx⟩:=r.o.at_ l d b q z J;obtain⟨c,el,C,Hf,N,ZR⟩:=xx.cells f;obtain⟨u,Ud⟩:=fN hx Jx;have S:j+H.length<=(d.row i).length:=by rw[N i n];exact hj
   have a0:i*d.sz+d.sz<=d.n*d.sz:=by
    have:=YV d.sz (show i+1<=d.n from n);rw[Vw]at this;omega
   obtain⟨R,c',g1,g2,F,g4,E,g6,g7,g8,g9⟩:=Ub (P:=P) b el (a.eval x).cells.toList 0 (q+(i*d.sz+j)) w c C (by simp[u];omega) (λk e=>(Ud k (by simpa[u] using e)).2);have T:Tr s.h B w (s.h.set l (setRow d i (Av (d.row i) j H))) B R:=Tr.QV r.o z J rfl rfl rfl (λk e _=>E k e) (λc1 fx e1=>by rw[C]at e1;cases e1;exact⟨c',g2,F⟩);refine⟨Go.undef,R,B,.inr ⟨?_,rfl⟩,T,?_,.cl _ _ (.undef _),LH (QU Q) E g6 g7 g8 g9⟩
   .simp[execOp,ho,hv,Instr.storeAt,Instr.sureAddr,storeVar,hy.sizeOf,u,Jg,g1]
   .refine Zg.QV (hro:=rfl) r.o z J f f rfl rfl (λk e _=>E k e) C g2 F (by rw[F];exact Hf) (λk e=>?_) (λk m e hm=>?_)
    .rw[tx W n e];split
     .rw[Uc S,N i n];rfl
     .exact N k e
    .rw[tx W n e];have f:k<d.n:=e;have LI:m<d.sz:=hm;show ∃v,c'[q+(k*d.sz+m)]? = some v/\_;rw[g4];simp only[G2,Array.length_toList,u];by_cases M:k=i
     .subst M;rw[Qf rfl,tv S];by_cases U:j<=m/\m<j+H.length
      .rw[Qf U,Qf ω];refine⟨QY (a.eval x).cells.toList (m - j),?_,((Ud (m - j) ω).1).tr T⟩;rw[show q+(k*d.sz+m) - (q+(k*d.sz+j))=m - j by omega];simp only[QY,Q5];rw[QP (by simp[u];omega)];rfl
      .rw[Qe U,Qe ω];obtain⟨v,O,K⟩:=ZR k m f LI;exact⟨v,O,K.tr T⟩
     .rw[Qe M,Qe]
      .obtain⟨v,O,K⟩:=ZR k m f LI;exact⟨v,O,K.tr T⟩
      .intro a2;rcases Nat.lt_or_gt_of_ne M with Qc|Qc
       .have:=YV d.sz (show k+1<=i from Qc);rw[Vw]at this;omega
       .have:=YV d.sz (show i+1<=k from Qc);rw[Vw]at this;omega
  .cases h
 .cases h
def BQ{w:World}(h:base<=w.heap.size)(a:Obj):Below base w (w.alloc a):=(Below.refl base w).alloc h a
def tB{d}{a}{w:World}(r:Rel Z base nt s d a w)(u:base<=w.heap.size)(f)(v:Value)(c:List D)(g:v.cells.size=c.length)(l:∀i,i<c.length->Qy Z s.h d w (nth c i) (QY v.cells.toList i)):
  Tr s.h d w (s.h++[⟨.one,0,c.length,1,λ_=>c⟩]) (d++[some (w.heap.size,0)]) (w.alloc (.cells v.cells f))/\Zg Z base (s.h++[⟨.one,0,c.length,1,λ_=>c⟩]) (d++[some (w.heap.size,0)]) (w.alloc (.cells v.cells f)) /\
   Qy Z (s.h++[⟨.one,0,c.length,1,λ_=>c⟩]) (d++[some (w.heap.size,0)]) (w.alloc (.cells v.cells f)) (.ptr s.h.length 0 0 0) (.pointer (some ⟨w.heap.size,0,none⟩)):=by
 have e:∀b,b<w.heap.size->(w.alloc (.cells v.cells f)).heap[b]? = w.heap[b]? := λb n=>kz w _ b n;have x:(w.alloc (.cells v.cells f)).heap[w.heap.size]? = some (.cells v.cells f (0,0)):=heap_alloc_new w _;have T:Tr s.h d w (s.h++[⟨.one,0,c.length,1,λ_=>c⟩]) (d++[some (w.heap.size,0)]) (w.alloc (.cells v.cells f)):=Tr.push r.o e _ _ (by intro b q h;simp at h;omega);refine⟨T,?_,?_⟩
 .refine Zg.push r.o e _ rfl (QB _) u x (by simp[g]) (λ_ _=>rfl) (λi j m k=>?_);have t:i=0:=by simp at m;omega
  subst t;refine⟨QY v.cells.toList j,?_,(l j k).tr T⟩;simp only[Nat.zero_mul,Jv,QY,Q5];have:j<v.cells.size:=by rw[g];exact k
  rw[ku,zF this];rfl
 .have p:d.length=s.h.length:=r.o.len;exact .ptr _ _ _ _ ⟨.one,0,c.length,1,λ_=>c⟩ (some (w.heap.size,0)) _ σ (by rw[<- p];simp) rfl (QB _) (λ_=>⟨_,_,rfl,σ⟩)
def QiY(e:ZU P L){t:TypeId}{c x}(a:o.op=.store t c x){p}{b}(h:OZ L s.h t (Qo s.fr c) (Qo s.fr x)=some (p,b))(d:p):zK P base nt o s b .undef:=
 (QiX e a h d).up (by simp[calm,a])
def QiZ{t:TypeId}{x}(f:o.op=.box t x){c:List D}(e:XN (Qo s.fr x)=some c):zK P base nt o s (s.h++[⟨.one,0,c.length,1,λ_=>c⟩]) (.ptr s.h.length 0 0 0):=by
 intro Z p a w r d;obtain⟨m,n⟩:=fN (r.eval x) e;obtain⟨l,k,j⟩:=tB r d t (a.eval x) c m (λi g=>(n i g).1);refine⟨_,_,_,.inl ?_,l,k,j,BQ d _,λ_ b h=>kz _ _ b h⟩;simp[execOp,f,Instr.box,newVar,newRow]
def Qi0(h:ZU P L){t:TypeId}(f:o.op=.alloc t){y:Ty}(e:ty L t=some y):zK P base nt o s (s.h++[⟨.one,0,(y.zero.map JT).length,1,λ_=>y.zero.map JT⟩]) (.ptr s.h.length 0 0 0):=by
 intro Z p a w r d;obtain⟨z,hz,m⟩:=(h _ _ e).zeroValue;obtain⟨l,k,j⟩:=tB r d t z (y.zero.map JT) (by rw[<- hz];simp) (λi c=>by
  rw[<- hz]at c ⊢;have n:i<z.cells.size:=by simpa using c
  refine .cl _ _ ?_;simp only[nth,QY,Q5,Kl,ku,zF n,Kx,KV];exact BJ _ _ _)
 refine⟨_,_,_,.inl ?_,l,k,j,BQ d _,λ_ b g=>kz _ _ b g⟩;simp[execOp,f,Instr.alloc,newVar,newRow,m]
end
variable {Z:Nat->Prop}
def O5(h:List Ob):D->Option (Prop × Nat × Nat × (Nat->List D))
 | .ref l g a n=>match h[l]? with
  | some o=>some (g=o.gen/\a+n<=o.n,n,o.sz,λk=>o.row (a+k))
  | none=>none
 | .imm c n b=>some (True,n,c,b)
 | _=>none
structure Src (Z:Nat->Prop) (h:List Ob) (pl:List Pl) (w:World) (v:Value) (n sz:Nat) (rows:Nat->List D) (a:Option Addr) (cap:Nat) (vs:Nat->Nat->Value):Prop where
 v:v=.slice a n cap
 len:∀i,i<n->(rows i).length=sz
 cell:∀i j,i<n->j<sz->∃b q,a=some ⟨b,q,none⟩/\w.cell? ⟨b,q+(i*sz+j),none⟩=some (vs i j)
 rel:∀i j,i<n->j<sz->Qy Z h pl w (nth (rows i) j) (vs i j)
def fQ{x}{h}{B}{w}(R:Zg Z x h B w){d}{v}(r:Qy Z h B w d v){p}{n sz}{rows}(e:O5 h d=some (p,n,sz,rows))(I:p):∃a m z,Src Z h B w v n sz rows a m z:=by
 unfold O5 at e;split at e
 .rename_i l g f k;split at e
  .rename_i o J;simp only[QX,Q9]at e;obtain⟨rfl,rfl,rfl,rfl⟩:=e;obtain⟨o',Y,a,m,y,L,T,S,jw,U⟩:=BL r;rw[J]at L;cases L;have hn:=I.2;rcases U I.1 with ⟨Q,h2⟩|⟨b,q,c,el,V,F,K,E,P⟩
   .subst Q;exact⟨a,m,λ_ _=>Go.undef,y,λi s=>ω,λi j s=>ω,λi j s=>ω⟩
   .subst V;obtain⟨QU,N⟩:=R.at_ l o b q J T;obtain⟨c',Ue,M,Jx,W,ZR⟩:=N.cells S;rw[K]at M;cases M;refine⟨a,m,λi j=>(c[q+((f+i)*o.sz+j)]?).getD Go.undef,y,λi s=>W _ ω,λi j s t=>?_,λi j s t=>?_⟩
    .obtain⟨u,C,H⟩:=ZR (f+i) j ω t;refine⟨b,q+f*o.sz,F,?_⟩;rw[cell_of_row w b _ c el (0,0) K,show q+f*o.sz+(i*o.sz+j)=q+((f+i)*o.sz+j) by rw[Vw];omega,C];rfl
    .obtain⟨u,C,H⟩:=ZR (f+i) j ω t;simp only[C,KV];exact H
  .cases e
 .simp only[QX,Q9]at e;obtain⟨rfl,rfl,rfl,rfl⟩:=e;obtain⟨a,m,b,q,z,y,F,P,O,E⟩:=OW r;exact⟨a,m,z,y,O,λi j s t=>⟨b,q,F ω,(E i j s t).1.2⟩,λi j s t=>.cl _ _ (E i j s t).2⟩
 .cases e
def flat(n a:Nat)(b:Nat->Nat->Value):List Value:=(List.range (n*a)).map λk=>b (k / a) (k % a)
def qB(n a)(b:Nat->Nat->Value):(flat n a b).length=n*a:=by simp[flat]
def Fj{n a}{vs}{i j}(c:i<n)(b:j<a):(flat n a vs)[i*a+j]? = some (vs i j):=by
 have f:i*a+j<n*a:=by have:=YV a (show i+1<=n from c);rw[Vw]at this;omega
 have e:(i*a+j) / a=i:=by rw[Lw,Nat.mul_add_div ω,Nat.div_eq_of_lt b];rfl
 have d:(i*a+j) % a=j:=by rw[Lw,Nat.mul_add_mod,As b]
 simp[flat,f,e,d]
def div_lt{n sz k:Nat}(h:k<n*sz):k / sz<n/\k % sz<sz/\k / sz*sz+k % sz=k:=by
 have a:0<sz:=Nat.pos_of_ne_zero (λe=>by subst e;simp at h);exact⟨Nat.div_lt_of_lt_mul (by rw[Lw];exact h),Yn _ a,by rw[Lw];exact TE k sz⟩
def Src.first{P}{h}{p}{w:World}{v}{n c}{e}{a}{d}{o}(S:Src Z h p w v n c e a d o)(f:World)(r:f.heap=w.heap):
  (Builtin.firstCells c n v).run P f=.ok (flat n c o).toArray f:=by
 rw[S.v];cases a with
 | none=>
  have:n*c=0:=by
   by_cases h:n*c=0
   .exact h
   .obtain⟨i,g,_⟩:=div_lt (n:=n) (sz:=c) (k:=0) ω;obtain⟨b,q,l,_⟩:=S.cell _ _ i g;cases l
  simp[Builtin.firstCells,flat,this]
 | some x=>
  refine run_firstCells_some f c n x n d _ (qB _ _ _) (λk u j=>?_);have s:k<n*c:=by have:=(Wh.1 j).1;rw[qB]at this;exact this
  obtain⟨i,g,m⟩:=div_lt s;obtain⟨b,q,l,t⟩:=S.cell _ _ i g;cases l;rw[<- m,Fj i g]at j;cases j;rw[yo,World.cell?_of_block (w:=w) (by rw[r]),<- m,t];simp only[m]
def fR(z:Array Value)(n:Nat):(Builtin.zeroCells z n).size=n*z.size:=by simp[Builtin.zeroCells]
def tC{P:Program}{t ty e:TypeId}{y:Ty}(E:P.underlying t=some (.slice e))(j:Wz P e y)(B:y.zero.length=y.size)(w:World)(b:Option Addr)(a d:Nat)(o:List Value)(c:Option Addr)(n r:Nat)(g:List Value)
  (l:∀h:World,h.heap=w.heap->(Builtin.firstCells y.size a (.slice b a d)).run P h=.ok o.toArray h) (N:∀h:World,h.heap=w.heap->(Builtin.firstCells y.size n (.slice c n r)).run P h=.ok g.toArray h)
  (I:d<a+n) (x:a+n<=4294967296) (s:y.bytes<=1024) :
  ∃m f,(Builtin.append_ #[t,t] ty #[.slice b a d,.slice c n r]).run P w=.ok (.slice (some ⟨w.heap.size,0,none⟩) (a+n) m) (w.drew.alloc (.cells (o.toArray++g.toArray++f) e)) /\
   a+n<=m/\f.size=(m - (a+n))*y.size:=by
 obtain⟨z,u,v⟩:=j.zeroValue;obtain⟨i,p,Q,L⟩:=j.typeInfo w;refine⟨grownCap w (a+n) d e,Builtin.zeroCells z.cells (grownCap w (a+n) d e - (a+n)),?_,grownCap_ge _ _ _ _,by rw[fR];congr 1;rw[<- B,<- u];simp⟩;have M:∀w,(typeInfo e).run P w=.ok i w:=λw=>by
  obtain⟨R,U,T,S⟩:=j.typeInfo w;have q:=j.info;cases hx:P.info? e with
  | none=>rw[hx]at q;cases q
  | some k=>
   simp[typeInfo,hx]at p ⊢;exact p
 have H:¬ (a+n<=d):=ω;have K:¬ (9223372036854775807<((a:Int)+(n:Int))):=ω;have O:Builtin.nextslicecap (a+n) d*y.bytes<=281474976710656:=growslice_fits I (by
  have:=vL (show a+n<=4294967296 from x) s;omega)
 have J:¬ (281474976710656<Builtin.nextslicecap (a+n) d*i.bytes):=by rw[L];omega
 have F:=l w.drew rfl;have C:=N w.drew rfl;simp[Builtin.append_,run_underlying E,j.sizeOf,M,v,Builtin.lenOf,H,K,J,Question.forced,newRow,grownCap,F,C,askRoom,mark,Sem.run];rw[<- Array.append_assoc];simp
def Qi1{P:Program}{t ty e:TypeId}{y}(j:P.underlying t=some (.slice e))(i:Wz P e y)(w)(b q d f)(c)(n h)(a)
  (m:(Builtin.firstCells y.size n (.slice c n h)).run P w=.ok a.toArray w) (k:d+n<=f) {g:World} (l:(storeCells ⟨b,q+d*y.size,none⟩ a).run P w=.ok () g) :
  (Builtin.append_ #[t,t] ty #[.slice (some ⟨b,q,none⟩) d f,.slice c n h]).run P w=.ok (.slice (some ⟨b,q,none⟩) (d+n) f) g:=by
 simp[Builtin.append_,run_underlying j,i.sizeOf,Builtin.lenOf,k,m,yo,l]
def tE{P:Program}{t ty e:TypeId}{y}(d:P.underlying t=some (.slice e))(a:Wz P e y)(w)(b)(c)(f):
  (Builtin.append_ #[t,t] ty #[.slice b 0 0,.slice c 0 f]).run P w=.ok (.slice b 0 0) w:=by
 cases b<;>cases c<;>simp[Builtin.append_,run_underlying d,a.sizeOf,Builtin.lenOf,Builtin.firstCells,loadCells,loadCellsFrom,storeCells]
def J7(a b:Nat)(d c:Nat->List D):Nat->List D:=λk=>bif Nat.blt k a then d (b+k) else c (k - a)
def xn{a b k}{c d}(h:k<a):J7 a b c d k=c (b+k):=by
 have:Nat.blt k a=true:=by simpa[vJ] using h
 simp[J7,this]
def zM{a b k}{d c}(h:a<=k):J7 a b d c k=c (k - a):=by
 have:Nat.blt k a=false:=by rw[<- XY,vJ];omega
 simp[J7,this]
def fU(y:Ty)(n:Nat):Prop:=n<=4294967296/\y.bytes<=1024/\y.zero.length=y.size
def BR(L:ZW)(h:List Ob)(t:TypeId)(s x:D):Option (Prop × List Ob × D):=
 match ty L t,O5 h x with
 | some ⟨.slice e,_,_,_⟩,some (f,n,d,a)=>match ty L e,s with
  | some y,.nil=>some (f/\d=y.size/\fU y n/\(∀k,k<n->(a k).all D.Vi=true),h++[⟨.arr,0,y.size,n,a⟩],.ref h.length 0 0 n)
  | some y,.ref l g c b=>match h[l]? with
   | some o=>some (f/\g=o.gen/\c+b=o.n/\o.sz=y.size/\d=y.size/\fU y (b+n)/\(∀k,k<n->(a k).all D.Vi=true)/\o.kd.ro=false,h.set l ⟨.arr,o.gen+1,y.size,b+n,J7 b c o.row a⟩,.ref l (o.gen+1) 0 (b+n))
   | none=>none
  | _,_=>none
 | _,_=>none
def Tr.Dr{j:Nat}{h:List Ob}{g:List Pl}{w u:World}(R:Zg Z j h g w){l:Nat}{o o':Ob}{p p':Pl}(n:h[l]? = some o)(m:g[l]? = some p)(I:o'.kd.ty=o.kd.ty)(L:o.gen<o'.gen)
  (e:∀k,k<w.heap.size->(∀q,p≠some (k,q))->u.heap[k]? = w.heap[k]?) (H:∀b q,p'=some (b,q)->(∃s,p=some (b,s))\/w.heap.size<=b):Tr h g w (h.set l o') (g.set l p') u where
 Kg:=λk x Qc=>by
  have z:∀q,p≠some (k,q):=λq t=>x l q (by rw[m,t]);refine⟨λd q i=>?_,e k Qc z⟩;by_cases a:l=d
  .subst a;have:(g.set l p')[l]? = some p':=by simp[VM m]
   rw[this]at i;simp only[QX]at i;rcases H k q i with ⟨s,h1⟩|h1
   .exact z s h1
   .omega
  .rw[Jf a]at i;exact x d q i
 obj:=λd v E f r=>by
  by_cases a:l=d
  .subst a;rw[n]at f;cases f;exact⟨o',p',by simp[Kh n],by simp[VM m],ω,I,λh=>ω⟩
  .exact⟨v,E,by rw[Jf a];exact f,by rw[Jf a];exact r,QB _,rfl,λ_=>⟨rfl,rfl⟩⟩
 shape:=λd v K y C f B J r c el F=>by
  by_cases a:l=d
  .subst a;rw[n]at f;cases f;have:(h.set l o')[l]? = some o':=by simp[Kh n]
   rw[this]at B;cases B;omega
  .refine⟨c,?_,rfl⟩;rw[e y (R.lt r).1 (λq t=>a (R.inj l d y q C (by rw[m,t]) r))];exact F
def Zg.Dr{f:Nat}{h:List Ob}{r:List Pl}{w z:World}(R:Zg Z f h r w){l:Nat}{o o':Ob}{p:Pl}(K:h[l]? = some o)(E:r[l]? = some p)(U:o.kd.ty=0)(M:o'.kd.ty=0)(V:o.gen<o'.gen)
  (e:∀k,k<w.heap.size->(∀q,p≠some (k,q))->z.heap[k]? = w.heap[k]?) {n t:Nat} (N:(∃s,p=some (n,s))\/w.heap.size<=n) (QU:f<=n) {c:Array Value} {L:TypeId} (W:z.heap[n]? = some (.cells c L (0,0)))
  (Jg:t+o'.n*o'.sz<=c.size) (JS:∀i,i<o'.n->(o'.row i).length=o'.sz)
  (ZR:∀i j,i<o'.n->j<o'.sz->∃v,c[t+(i*o'.sz+j)]? = some v/\Qy Z (h.set l o') (r.set l (some (n,t))) z (nth (o'.row i) j) v):Zg Z f (h.set l o') (r.set l (some (n,t))) z:=by
 have T:Tr h r w (h.set l o') (r.set l (some (n,t))) z:=Tr.Dr R K E (by rw[U,M]) V e (λb q H=>by simp at H;obtain⟨rfl,rfl⟩:=H;exact N);have B:(r.set l (some (n,t)))[l]? = some (some (n,t)):=by simp[VM E]
 have g:∀(d b q:Nat),l≠d->r[d]? = some (some (b,q))->b≠n:=by
  intro d b q S a O;subst O;rcases N with ⟨s,h2⟩|h2
  .exact S (R.inj l d b s q (by rw[E,h2]) a)
  .have:=(R.lt a).1;omega
 refine⟨by simp[R.len],?_,?_,?_⟩
 .intro d C b J I a h2;by_cases m:l=d
  .subst m;rw[B]at a;simp only[QX,Q9]at a;by_cases y:l=C
   .exact y
   .rw[Jf y]at h2;exact absurd a.1.symm (g C b I y h2)
  .rw[Jf m]at a;by_cases y:l=C
   .subst y;rw[B]at h2;simp only[QX,Q9]at h2;exact absurd h2.1.symm (g d b J m a)
   .rw[Jf y]at h2;exact R.inj d C b J I a h2
 .intro d F u a;by_cases m:l=d
  .subst m;rw[B]at a;cases a
  .rw[Jf m]at a u;exact R.Vh d F u a
 .intro d F b q u a;by_cases m:l=d
  .subst m;rw[B]at a;simp only[QX,Q9]at a;obtain⟨rfl,rfl⟩:=a;have:(h.set l o')[l]? = some o':=by simp[Kh K]
   rw[this]at u;cases u;exact⟨λ_=>QU,.LA M ⟨c,L,W,Jg,JS,ZR⟩⟩
  .rw[Jf m]at a u;obtain⟨Y,x⟩:=R.at_ d F b q u a;have QA:∀s,p≠some (b,s):=λs Q=>m (R.inj l d b s q (by rw[E,Q]) a);exact⟨Y,x.to rfl rfl rfl (e b (R.lt a).1 QA) (λ_ _=>rfl) λi j v _ _ P=>P.tr T⟩
section
variable {P:Program}{L:ZW}{base nt:Nat}{s:St}{o:Oper}
def Qi2(K:ZU P L){t:TypeId}{l x}(F:o.op=.call ⟨.builtin .append,#[l,x],#[t,t]⟩)(Aw:Qo s.fr l=.nil){p}{M}{d}(h:BR L s.h t .nil (Qo s.fr x)=some (p,M,d))(hp:p):He P base nt o s M d:=by
 intro Z k a w r W;have U:=r.eval l;have Ds:=r.eval x;rw[Aw]at U;unfold BR at h;split at h
 .rename_i e _ _ _ px n sz c he fV;cases u:ty L e with
  | none=>rw[u]at h;cases h
  | some y=>
   rw[u]at h;simp only[QX,Q9]at h;obtain⟨rfl,rfl,rfl⟩:=h;obtain⟨fW,rfl,⟨jz,zL,Fk⟩,Ug⟩:=hp;have C:=K _ _ u;have E:=vP (K _ _ he) rfl;obtain⟨m,V⟩:=BK U;obtain⟨O,Fl,g,S⟩:=fQ r.o Ds fV fW;have Q:k.length=s.h.length:=r.o.len;by_cases hn:n=0
   .subst hn;have T:Tr s.h k w (s.h++[⟨.arr,0,y.size,0,c⟩]) (k++[none]) w:=Tr.push r.o (λ_ _=>rfl) _ _ (by intro b q e;cases e);refine⟨_,w,k++[none],.inl ?_,T,r.o.BH _ rfl,.ref _ _ _ _ ⟨.arr,0,y.size,0,c⟩ none m 0 σ (by rw[<- Q];simp) rfl (QB _) (λ_=>.inl ⟨rfl,rfl⟩),Below.refl _ _⟩;rw[jy F];simp[builtin,V,S.v,tE E C]
   .obtain⟨B,f,R,Fm,v⟩:=tC (ty:=o.type) E C Fk w m 0 0 [] O n Fl (flat n y.size g) (λz _=>by cases m<;>simp[Builtin.firstCells,loadCells,loadCellsFrom]) (λz hw=>by rw[<- S.v];exact S.first z hw) ω ω zL;simp only[Jv,Array.empty_append]at R Fm v;have N:∀b,b<w.heap.size->(w.drew.alloc (.cells ((flat n y.size g).toArray++f) e)).heap[b]? = w.heap[b]? := λb hb=>kz w.drew _ b hb;have Y:(w.drew.alloc (.cells ((flat n y.size g).toArray++f) e)).heap[w.heap.size]? = some (.cells ((flat n y.size g).toArray++f) e (0,0)):=heap_alloc_new w.drew _;have T:Tr s.h k w (s.h++[⟨.arr,0,y.size,n,c⟩]) (k++[some (w.heap.size,0)]) (w.drew.alloc (.cells ((flat n y.size g).toArray++f) e)):=Tr.push r.o N _ _ (by intro b q h;simp at h;omega);refine⟨.slice (some ⟨w.heap.size,0,none⟩) n B,_,_,.inl ?_,T,Zg.push r.o N _ rfl (QB _) W Y (by simp[qB]) S.len (λi j I H=>⟨g i j,?_,(S.rel i j I H).tr T⟩),.ref _ _ _ _ ⟨.arr,0,y.size,n,c⟩ (some (w.heap.size,0)) _ B σ (by rw[<- Q];simp) rfl (QB _) (λ_=>.inr ⟨w.heap.size,0,_,e,rfl,σ,Y,?_,Fm⟩),?_⟩
    .rw[jy F];have:(Array.map a.eval #[l,x])=#[.slice m 0 0,.slice O n Fl]:=by simp[V,S.v]
     rw[this];simp only[builtin,Sem.run_bind,R,Result.andThen_ok,Sem.run_pure]
    .have J:=Fj (vs:=g) I H;have Qc:=(Wh.1 J).1;rw[Jv,Ll (by simpa using Qc)];simpa using J
    .simp only[Jv,Array.size_append,E8,qB,v];rw[<- Vw];exact YV _ ω
    .exact((Below.refl base w).drew).alloc W _
 .cases h
def Qi3(hL:ZU P L){t:TypeId}{x0 x}{l g m f}(ho:o.op=.call ⟨.builtin .append,#[x0,x],#[t,t]⟩)(Aw:Qo s.fr x0=.ref l g m f){p}{h'}{d}(h:BR L s.h t (.ref l g m f) (Qo s.fr x)=some (p,h',d))(hp:p):He P base nt o s h' d:=by
 intro Z pl a w r Kn;have WK:=r.eval x0;have Ds:=r.eval x;rw[Aw]at WK;unfold BR at h;split at h
 .rename_i e _ _ _ px n sz z he fV;cases Wj:ty L e with
  | none=>rw[Wj]at h;cases h
  | some y=>
   rw[Wj]at h;dsimp only at h;split at h
   .rename_i B H;simp only[QX,Q9]at h;obtain⟨rfl,rfl,rfl⟩:=h;obtain⟨fW,hg,Hg,a5,rfl,⟨jz,zL,Fk⟩,Ug,a3⟩:=hp;have hy:=hL _ _ Wj;have ht:=vP (hL _ _ he) rfl;obtain⟨o',p',U,O,LJ,Zw,F,W,jw,Vx⟩:=BL WK;rw[H]at Zw;cases Zw;obtain⟨ax,Fl,J,S⟩:=fQ r.o Ds fV fW;have vS:(Array.map a.eval #[x0,x])=#[.slice U f O,.slice ax n Fl]:=by simp[LJ,S.v]
    have Y:∀{v:Value} {C:World},(Builtin.append_ #[t,t] o.type #[.slice U f O,.slice ax n Fl]).run P w=.ok v C->(execOp a.eval o).run P w=.ok (.value v) C:=by
     intro v C Zb;rw[jy ho,vS];simp only[builtin,Sem.run_bind,Zb,Result.andThen_ok,Sem.run_pure]
    have Q:∀(K:Nat->Nat->Value) (a1:∀C:World,C.heap=w.heap->(Builtin.firstCells y.size f (.slice U f O)).run P C=.ok (flat f y.size K).toArray C)
      (a2:∀i,i<f->(B.row (m+i)).length=y.size) (Uh:∀i j,i<f->j<y.size->Qy Z s.h pl w (nth (B.row (m+i)) j) (K i j)),O<f+n ->
      ∃v C Qh,((execOp a.eval o).run P w=.ok (.value v) C\/((execOp a.eval o).run P w=.ok .skip C/\v=Go.undef))/\Tr s.h pl w (s.h.set l ⟨.arr,B.gen+1,y.size,f+n,J7 f m B.row z⟩) Qh C /\
       Zg Z base (s.h.set l ⟨.arr,B.gen+1,y.size,f+n,J7 f m B.row z⟩) Qh C/\Qy Z (s.h.set l ⟨.arr,B.gen+1,y.size,f+n,J7 f m B.row z⟩) Qh C (.ref l (B.gen+1) 0 (f+n)) v/\Below base w C:=by
     intro K a1 a2 Uh Qc;obtain⟨kD,I,Zb,Fm,yv⟩:=tC (ty:=o.type) ht hy Fk w U f O (flat f y.size K) ax n Fl (flat n y.size J) a1 (λC hw=>by rw[<- S.v];exact S.first C hw) Qc jz zL;have e1:∀b,b<w.heap.size->(w.drew.alloc (.cells ((flat f y.size K).toArray++(flat n y.size J).toArray++I) e)).heap[b]? = w.heap[b]? := λb hb=>kz w.drew _ b hb;have JQ:(w.drew.alloc (.cells ((flat f y.size K).toArray++(flat n y.size J).toArray++I) e)).heap[w.heap.size]? = some (.cells ((flat f y.size K).toArray++(flat n y.size J).toArray++I) e (0,0)):=heap_alloc_new w.drew _;have T:=Tr.Dr (o':=⟨.arr,B.gen+1,y.size,f+n,J7 f m B.row z⟩) (p':=some (w.heap.size,0)) r.o H F W.symm (G5 _) (λk M _=>e1 k M) (by intro b q h;simp at h;exact .inr ω);refine⟨_,_,_,.inl (Y Zb),T,Zg.Dr r.o H F W rfl (G5 _) (λk M _=>e1 k M) (.inr (QB _)) Kn JQ ?_ (λi E=>?_) (λi j E V=>?_),.ref _ _ _ _ ⟨.arr,B.gen+1,y.size,f+n,J7 f m B.row z⟩ (some (w.heap.size,0)) _ kD (by simp[Kh H]) (by simp[VM F]) rfl (QB _) (λ_=>.inr ⟨w.heap.size,0,_,e,rfl,σ,JQ,?_,Fm⟩),((Below.refl base w).drew).alloc Kn _⟩
     .simp[qB,Vw]
     .by_cases N:i<f
      .show (J7 f m B.row z i).length=_;rw[xn N];exact a2 i N
      .show (J7 f m B.row z i).length=_;rw[zM ω];exact S.len _ (by have:i<f+n:=E;omega)
     .have Wl:j<y.size:=V;have Ji:i<f+n:=E;show ∃v,((flat f y.size K).toArray++(flat n y.size J).toArray++I)[0+(i*y.size+j)]? = some v/\Qy _ _ _ _ (nth (J7 f m B.row z i) j) v;by_cases N:i<f
      .rw[xn N];refine⟨K i j,?_,(Uh i j N Wl).tr T⟩;have O6:=Fj (vs:=K) N Wl;have O7:=(Wh.1 O6).1;rw[Jv,Ll ξ,Ll (by simpa using O7)];simpa using O6
      .rw[zM ω];refine⟨J (i - f) j,?_,(S.rel (i - f) j ω Wl).tr T⟩;have O6:=Fj (vs:=J) (show i - f<n from ω) Wl;have O7:=(Wh.1 O6).1;have e2:i*y.size+j - (flat f y.size K).length=(i - f)*y.size+j:=by
        rw[qB];have:i=(i - f)+f:=ω
        conv=>lhs;rw[this,Vw]
        omega
       have e3:(flat f y.size K).length<=i*y.size+j:=by
        rw[qB];have:=YV y.size (show f<=i from ω);omega
       rw[Jv,Ll ξ,Array.getElem?_append_right (by simpa using e3)];simp only[E8];rw[e2];simpa using O6
     .simp only[Jv,Array.size_append,E8,qB,yv];rw[<- Vw,<- Vw];exact YV _ ω
    rcases Vx hg with ⟨R,h2⟩|⟨b,q,c,el,VY,xo,hb,Jx,BN⟩
    .subst R;subst h2;by_cases hn:n=0
     .subst hn;have Zb:=tE (ty:=o.type) ht hy w U ax Fl;cases Ui:p' with
      | none=>
       subst Ui;have T:=Tr.Dr (o':=⟨.arr,B.gen+1,y.size,0+0,J7 0 m B.row z⟩) (p':=none) r.o H F W.symm (G5 _) (λk M _=>rfl) (by intro b q h;cases h);have q6:pl.set l none=pl:=by
        apply xh;intro i;by_cases E:l=i
        .subst E;rw[F];simp[VM F]
        .rw[Jf E]
       rw[q6]at T;refine⟨_,w,pl,.inl (Y Zb),T,?_,.ref _ _ _ _ ⟨.arr,B.gen+1,y.size,0+0,J7 0 m B.row z⟩ none U 0 (by simp[Kh H]) F rfl (QB _) (λ_=>.inl ⟨rfl,rfl⟩),Below.refl _ _⟩;refine⟨by simp[r.o.len],r.o.inj,λl1 o1 Zo R=>?_,λl1 o1 b q Zo R=>?_⟩
       .by_cases e1:l=l1
        .subst e1;rw[VX (Kh H)]at Zo;cases Zo;rfl
        .rw[Jf e1]at Zo;exact r.o.Vh l1 o1 Zo R
       .by_cases e1:l=l1
        .subst e1;rw[F]at R;cases R
        .rw[Jf e1]at Zo;obtain⟨g1,x⟩:=r.o.at_ l1 o1 b q Zo R;exact⟨g1,x.to rfl rfl rfl rfl (λ_ _=>rfl) λi j v _ _ hr=>hr.tr T⟩
      | some bq=>
       obtain⟨b,q⟩:=bq;subst Ui;obtain⟨g1,x⟩:=r.o.at_ l B b q H F;obtain⟨c,el,g2,g3,g4,g5⟩:=x.cells W;have T:=Tr.Dr (o':=⟨.arr,B.gen+1,y.size,0+0,J7 0 m B.row z⟩) (p':=some (b,q)) r.o H F W.symm (G5 _) (λk M _=>rfl) (by intro b1 q1 h;simp at h;exact .inl ⟨q,by rw[h.1]⟩);exact⟨_,w,_,.inl (Y Zb),T,Zg.Dr r.o H F W rfl (G5 _) (λk M _=>rfl) (.inl ⟨q,rfl⟩) (g1 a3) g2 ξ (λi E=>by simp at E) (λi j E=>by simp at E),
        .ref _ _ _ _ ⟨.arr,B.gen+1,y.size,0+0,J7 0 m B.row z⟩ (some (b,q)) U 0 (by simp[Kh H]) (by simp[VM F]) rfl (QB _) (λ_=>.inl ⟨rfl,rfl⟩),Below.refl _ _⟩
     .exact Q (λ_ _=>Go.undef) (λC _=>by cases U<;>simp[Builtin.firstCells,loadCells,loadCellsFrom,flat]) (λi E=>ω) (λi j E=>ω) ω
    .subst VY;obtain⟨QU,x⟩:=r.o.at_ l B b q H F;have QU:=QU a3;obtain⟨c',Ue,Ky,Hf,JS,ZR⟩:=x.cells W;rw[hb]at Ky;cases Ky;rw[a5]at Jx Hf JS ZR xo;by_cases Uf:f+n<=O
     ·
      have LK:q+m*y.size+f*y.size+n*y.size<=c.size:=by
       have R:=YV y.size (show m+(f+n)<=m+O from ω);simp only[Vw]at R Jx;omega
      obtain⟨C,c',g1,g2,g3,g4,g5,g6,g7,g8,g9⟩:=Ub (P:=P) b el (flat n y.size J) 0 (q+m*y.size+f*y.size) w c hb (by simp[qB];omega) (λk M=>by
       rw[qB]at M;obtain⟨k1,k2,k3⟩:=div_lt M;have hg:=Fj (vs:=J) k1 k2;rw[k3]at hg;have:QY (flat n y.size J) k=J (k / y.size) (k % y.size):=by simp[QY,Q5,hg]
       rw[this];refine fM (S.rel _ _ k1 k2) ?_;have h2:=Ug _ k1;rw[YS]at h2;refine h2 _ ?_;have h3:k % y.size<(z (k / y.size)).length:=by rw[S.len _ k1];exact k2
       simp only[nth,Q5,QP h3,KV];exact XK h3)
      subst xo;have Zb:=Qi1 (ty:=o.type) ht hy w b (q+m*y.size) f O ax n Fl (flat n y.size J) (by rw[<- S.v];exact S.first w rfl) Uf g1;have he:∀k,k<w.heap.size->(∀q1,(some (b,q):Pl)≠some (k,q1))->C.heap[k]? = w.heap[k]? := λk _ M=>g5 k (λa4=>M q (by rw[a4]));have T:=Tr.Dr (o':=⟨.arr,B.gen+1,y.size,f+n,J7 f m B.row z⟩) (p':=some (b,q+m*y.size)) r.o H F W.symm (G5 _) he (by intro b1 q1 h;simp at h;exact .inl ⟨q,by rw[h.1]⟩);refine⟨_,C,_,.inl (Y Zb),T,Zg.Dr r.o H F W rfl (G5 _) he (.inl ⟨q,rfl⟩) QU g2 ?_ (λi E=>?_) (λi j E V=>?_),.ref _ _ _ _ ⟨.arr,B.gen+1,y.size,f+n,J7 f m B.row z⟩ (some (b,q+m*y.size)) _ O (by simp[Kh H]) (by simp[VM F]) rfl (QB _) (λ_=>.inr ⟨b,q+m*y.size,c',el,rfl,σ,g2,?_,Uf⟩),LH QU g5 g6 g7 g8 g9⟩
      .rw[g3];simp only[Vw];omega
      .by_cases N:i<f
       .show (J7 f m B.row z i).length=_;rw[xn N];exact JS _ ω
       .show (J7 f m B.row z i).length=_;rw[zM ω];exact S.len _ (by have:i<f+n:=E;omega)
      .have Wl:j<y.size:=V;have Ji:i<f+n:=E;show ∃v,c'[q+m*y.size+(i*y.size+j)]? = some v/\Qy _ _ _ _ (nth (J7 f m B.row z i) j) v;rw[g4];simp only[qB,G2];by_cases N:i<f
       .rw[xn N,Qe]
        .obtain⟨v,hv,hr⟩:=ZR (m+i) j ω Wl;refine⟨v,?_,hr.tr T⟩;rw[<- hv];congr 1;rw[Vw];omega
        .have:=YV y.size (show i+1<=f from N);rw[Vw]at this;omega
       .have R:=YV y.size (show f<=i from ω);have h2:i*y.size=(i - f)*y.size+f*y.size:=by rw[<- Vw];congr 1;omega
        have h3:=YV y.size (show (i - f)+1<=n from ω);rw[Vw]at h3;rw[zM ω,Qf ω];refine⟨J (i - f) j,?_,(S.rel (i - f) j ω Wl).tr T⟩;rw[show q+m*y.size+(i*y.size+j) - (q+m*y.size+f*y.size)=(i - f)*y.size+j by omega];exact Fj ω Wl
      .rw[g3];simp only[Jv,Vw]at Jx ⊢;omega
     .refine Q (λi j=>(c[q+((m+i)*y.size+j)]?).getD Go.undef) (λC hw=>?_) (λi E=>JS _ ω) (λi j E V=>?_) ω
      .have S0:Src Z s.h pl w (.slice U f O) f y.size (λk=>B.row (m+k)) U O (λi j=>(c[q+((m+i)*y.size+j)]?).getD Go.undef):=by
        refine⟨rfl,λi E=>JS _ ω,λi j E V=>⟨b,q+m*y.size,xo,?_⟩,λi j E V=>?_⟩
        .obtain⟨u,hu,hr⟩:=ZR (m+i) j ω V;rw[cell_of_row w b _ c el (0,0) hb,show q+m*y.size+(i*y.size+j)=q+((m+i)*y.size+j) by rw[Vw];omega,hu];rfl
        .obtain⟨u,hu,hr⟩:=ZR (m+i) j ω V;simp only[hu,KV];exact hr
       exact S0.first C hw
      .obtain⟨u,hu,hr⟩:=ZR (m+i) j ω V;simp only[hu,KV];exact hr
   .cases h
 .cases h
def Qi6(f:ZU P L){t:TypeId}{a x}(b:o.op=.call ⟨.builtin .append,#[a,x],#[t,t]⟩)(g:Qo s.fr a=.nil){p}{c}{d}(h:BR L s.h t .nil (Qo s.fr x)=some (p,c,d))(e:p):zK P base nt o s c d:=
 (Qi2 f b g h e).up (by simp[calm,b])
def Qi7(j:ZU P L){t:TypeId}{c x}{l g a b}(e:o.op=.call ⟨.builtin .append,#[c,x],#[t,t]⟩)(k:Qo s.fr c=.ref l g a b){p}{f}{d}(h:BR L s.h t (.ref l g a b) (Qo s.fr x)=some (p,f,d))(i:p):zK P base nt o s f d:=
 (Qi3 j e k h i).up (by simp[calm,e])
end
variable {Z:Nat->Prop}
def yw(Z:Nat->Prop)(h:List Ob)(c:List Pl)(w:World)(a:List D)(b:Array Value):Prop:=b.size=a.length/\∀i,i<a.length->Qy Z h c w (nth a i) (QY b.toList i)
def tG(a):∀(l:List Value) (n:Nat) (c:Array Value),((l.zipIdx n).foldl (λ(d:Array Value) (x:Value × Nat)=>d.setIfInBounds (a+x.2) x.1) c).size=c.size /\
  ∀k,(((l.zipIdx n).foldl (λ(d:Array Value) (x:Value × Nat)=>d.setIfInBounds (a+x.2) x.1) c)[k]?)=if a+n<=k/\k<a+n+l.length/\k<c.size then l[k - (a+n)]? else c[k]?
 | [],n,c=>⟨rfl,λk=>by rw[Qe ξ];rfl⟩
 | v::l,n,c=>by
  obtain⟨h,g⟩:=tG a l (n+1) (c.setIfInBounds (a+n) v);simp only[List.zipIdx_cons,yg];refine⟨by rw[h];simp,λk=>?_⟩;rw[g k];simp only[Array.size_setIfInBounds,VK];by_cases f:k=a+n
  .subst f;rw[Qe ω,Array.getElem?_setIfInBounds_self];by_cases b:a+n<c.size
   .rw[Qf b,Qf ⟨ω,ω,b⟩];simp
   .rw[Qe b,Qe ω];simp;omega
  .rw[fp ω];by_cases e:a+n<=k/\k<a+n+(l.length+1)/\k<c.size
   .rw[Qf e,Qf ω];obtain⟨m,rfl⟩:∃m,k=a+n+(m+1):=⟨k - (a+n) - 1,ω⟩;rw[show a+n+(m+1) - (a+(n+1))=m by omega,show a+n+(m+1) - (a+n)=m+1 by omega];simp
   .rw[Qe e,Qe ω]
def Qi8(a)(v:Array Value)(c):v.zipIdx.foldl (λ(b:Array Value) (x:Value × Nat)=>b.setIfInBounds (a+x.2) x.1) c=(v.toList.zipIdx 0).foldl (λ(b:Array Value) (x:Value × Nat)=>b.setIfInBounds (a+x.2) x.1) c:=by
 rw[<- Array.foldl_toList,Array.toList_zipIdx]
def yw.Av{h}{j}{w}{b f:List D}{c d}{a}(r:yw Z h j w b c)(q:yw Z h j w f d)(k:a+f.length<=b.length):
  yw Z h j w (Av b a f) (d.zipIdx.foldl (λ(b:Array Value) (x:Value × Nat)=>b.setIfInBounds (a+x.2) x.1) c):=by
 obtain⟨n,m⟩:=tG a d.toList 0 c;rw[Qi8];refine⟨by rw[n,r.1,Uc k],λi l=>?_⟩;rw[Uc k]at l;rw[tv k];have e:QY (List.foldl (λ(b:Array Value) (x:Value × Nat)=>b.setIfInBounds (a+x.2) x.1) c (d.toList.zipIdx 0)).toList i=if a<=i/\i<a+f.length then QY d.toList (i - a) else QY c.toList i:=by
  simp only[QY,Q5,ku,m i,G2,Array.length_toList,q.1,r.1];by_cases g:a<=i/\i<a+f.length
  .rw[Qf ⟨g.1,g.2,l⟩,Qf g]
  .rw[Qe ω,Qe g]
 rw[e];split
 .exact q.2 _ ω
 .exact r.2 _ l
def xp(b:Nat->Option (Nat × Nat))(a:List D):List (Nat × Option (List D))->Option (List D)
 | []=>some a
 | (i,some f)::e=>match b i with
  | some (c,d)=>bif Nat.beq f.length d&&Nat.ble (c+f.length) a.length then xp b (Av a c f) e else none
  | none=>none
 | (_,none)::_=>none
def O8{h:List Ob}{pl:List Pl}{w:World}(b:Nat->Option (Nat × Nat))(f:Operand->D)(a:Act)(m:∀x,Qy Z h pl w (f x) (a.eval x)):∀(parts:List (Nat × Operand)) (c j:List D) (e:Array Value),yw Z h pl w c e ->
  xp b c (parts.map λx=>(x.1,XN (f x.2)))=some j->∃g,Instr.fill b e (parts.map λx=>(x.1,a.eval x.2))=some g/\yw Z h pl w j g
 | [],c,j,e,r,d=>by simp[xp]at d;subst d;exact⟨e,rfl,r⟩
 | (i,x)::parts,c,j,e,r,d=>by
  simp only[JN]at d ⊢;cases l:XN (f x) with
  | none=>rw[l]at d;simp[xp]at d
  | some z=>
   rw[l]at d;simp only[xp]at d;cases k:b i with
   | none=>rw[k]at d;cases d
   | some t=>
    obtain⟨B,p⟩:=t;rw[k]at d;obtain⟨n,d⟩:=zJ d;simp only[ZH,VL,Nat.ble_eq]at n;obtain⟨o,s⟩:=fN (m x) l;have q:yw Z h pl w z (a.eval x).cells:=⟨o,λi u=>(s i u).1⟩;obtain⟨g,y,v⟩:=O8 b f a m parts _ _ _ (r.Av q n.2) d;refine⟨g,?_,v⟩;simp only[Instr.fill,k];rw[Qe (by simp only[o,r.1];simp;omega)];exact y
def fX{h}{pl}{w}{y:Ty}{z:Value}(a:z.cells.toList=y.zero):yw Z h pl w (y.zero.map JT) z.cells:=by
 refine⟨by rw[<- a];simp,λi b=>?_⟩;rw[<- a]at b ⊢;have c:i<z.cells.size:=by simpa using b
 refine .cl _ _ ?_;simp only[nth,QY,Q5,Kl,ku,zF c,Kx,KV];exact BJ _ _ _
def LL(L:ZW):List (Nat × TypeId)->Option (List (Nat × Nat))
 | []=>some []
 | (a,u)::r=>match ty L u,LL L r with
  | some y,some b=>some ((a,y.size)::b)
  | _,_=>none
def tH{P}{L}(d:ZU P L)(w):∀(b:List Field) (a:List (Nat × Nat)),LL L (b.map λf=>(f.offset,f.type))=some a->(b.mapM λf=>Prod.mk f.offset <$> sizeOf f.type).run P w=.ok a w
 | [],a,h=>by simp[LL]at h;subst h;simp
 | f::b,a,h=>by
  simp only[JN,LL]at h;split at h
  .rename_i y c e g;simp only[QX]at h;subst h;simp[List.mapM_cons,(d _ _ e).sizeOf,tH d w b c g]
  .cases h
def Uj(L:ZW)(d:List (Nat × D))(t:TypeId)(a:List (Nat × Operand)):Option D:=
 match ty L t with
 | some y=>match y.k with
  | .struct g=>match LL L g with
   | some f=>match xp (λi=>f[i]?) (y.zero.map JT) (a.map λx=>(x.1,XN (Qo d x.2))) with
    | some b=>some (.agg b)
    | none=>none
   | none=>none
  | .array _ e=>match ty L e with
   | some c=>match xp (λi=>some (i*c.size,c.size)) (y.zero.map JT) (a.map λx=>(x.1,XN (Qo d x.2))) with
    | some b=>some (.agg b)
    | none=>none
   | none=>none
  | _=>none
 | none=>none
section
variable {P:Program}{L:ZW}{base nt:Nat}{s:St}{o:Oper}
def yw.agg{h}{pl}{w}{b}{a}(r:yw Z h pl w b a):Qy Z h pl w (.agg b) (.agg a):=by
 have:=Qy.agg (h:=h) (pl:=pl) (w:=w) b a.toList (by simpa using r.1) r.2;simpa using this
def Qja(i:ZU P L){t:TypeId}{b:Array (Nat × Operand)}(v:o.op=.build t b){d}(h:Uj L s.fr t b.toList=some d):VZ P base nt o s d:=by
 intro Z u a w r;unfold Uj at h;split at h
 .rename_i y M;have c:=i _ _ M;obtain⟨z,hz,p⟩:=c.zeroValue;split at h
  .rename_i O f;split at h
   .rename_i q F;split at h
    .rename_i H l;simp only[QX]at h;subst h;obtain⟨g,E,C⟩:=tj c f;obtain⟨B,k,j⟩:=O8 (h:=s.h) (pl:=u) (w:=w) _ (Qo s.fr) a (λx=>r.eval x) b.toList _ _ _ (fX hz) l;refine⟨_,j.agg,λm _=>?_⟩;have I:=tH i m g.toList q (by rw[C];exact F);have J:Instr.fill (λx=>q[x]?) z.cells (List.map (λx=>(x.fst,a.eval x.snd)) b.toList)=some B:=k;simp[execOp,v,Instr.build,p,run_underlying E,Array.mapM_eq_mapM_toList,I,J]
    .cases h
   .cases h
  .rename_i n e f;split at h
   .rename_i N K;split at h
    .rename_i H l;simp only[QX]at h;subst h;obtain⟨B,k,j⟩:=O8 (h:=s.h) (pl:=u) (w:=w) _ (Qo s.fr) a (λx=>r.eval x) b.toList _ _ _ (fX hz) l;refine⟨_,j.agg,λm _=>?_⟩;simp[execOp,v,Instr.build,p,run_underlying (fA c f),(i _ _ K).sizeOf,k]
    .cases h
   .cases h
  .cases h
 .cases h
def fZ{a b:List D}{i}(h:i<a.length):nth (a++b) i=nth a i:=by simp only[nth,Q5,JD h]
def gh{a b:List D}{i}(h:a.length<=i):nth (a++b) i=nth b (i - a.length):=by simp only[nth,Q5,JE h]
def gi(n)(a:List D):(List.replicate n a).flatten.length=n*a.length:=σ
def tI(a:List D):∀(n i:Nat),i<n*a.length->nth (List.replicate n a).flatten i=nth a (i % a.length)
 | 0,i,h=>by simp at h
 | n+1,i,h=>by
  rw[Tv,List.flatten_cons];rw[Vw]at h;by_cases b:i<a.length
  .rw[fZ b,As b]
  .rw[gh ω,tI a n _ ω];congr 1;rw[Nat.mod_eq_sub_mod (by omega:a.length<=i)]
def Az(b c:Nat)(a:List D):Nat->List D:=bif Nat.beq b 1 then λ_=>a else λk=>(a.drop (k*c)).take c
def Uk(L:ZW)(c:List (Nat × D))(h:List Ob)(t:TypeId)(a:Nat)(b:List (Nat × Operand)):Option (Prop × List Ob × D):=
 match ty L t with
 | some ⟨.slice e,_,_,_⟩=>match ty L e with
  | some y=>match xp (λi=>some (i*y.size,y.size)) (List.replicate a (y.zero.map JT)).flatten (b.map λx=>(x.1,XN (Qo c x.2))) with
   | some d=>some (a*y.size<=16777216/\y.zero.length=y.size,h++[⟨.arr,0,y.size,a,Az a y.size d⟩],.ref h.length 0 0 a)
   | none=>none
  | none=>none
 | _=>none
def tJ(b):∀(d:List (Nat × Option (List D))) (a c:List D),xp b a d=some c->c.length=a.length
 | [],a,c,h=>by simp[xp]at h;rw[h]
 | (i,none)::d,a,c,h=>by simp[xp]at h
 | (i,some f)::d,a,c,h=>by
  simp only[xp]at h;split at h
  .obtain⟨e,h⟩:=zJ h;simp only[ZH,VL,Nat.ble_eq]at e;rw[tJ b d _ _ h,Uc e.2]
  .cases h
def Qjb(W:ZU P L){t:TypeId}{c}{g:Array (Nat × Operand)}(V:o.op=.buildSlice t c g){p}{h'}{d}(h:Uk L s.fr s.h t c g.toList=some (p,h',d))(hp:p):zK P base nt o s h' d:=by
 intro Z u a w r Kn;unfold Uk at h;split at h
 .rename_i e _ _ _ he;split at h
  .rename_i y Au;split at h
   .rename_i m R;simp only[QX,Q9]at h;obtain⟨rfl,rfl,rfl⟩:=h;obtain⟨a0,Fk⟩:=hp;have N:=W _ _ Au;obtain⟨z,hz,qC⟩:=N.zeroValue;have Dt:z.cells.size=y.size:=by rw[<- Fk,<- hz];simp
    have U:=vP (W _ _ he) rfl;have zr:=fX (Z:=Z) (h:=s.h) (pl:=u) (w:=w) hz;have H:(y.zero.map JT).length=y.size:=by simp[Fk]
    have l:m.length=c*y.size:=by rw[tJ _ _ _ _ R,gi,H]
    have E:∀zc:Array Value,(c*y.size=0->zc=#[])->(c*y.size≠0->zc=z.cells)->yw Z s.h u w (List.replicate c (y.zero.map JT)).flatten ((Array.range (c*y.size)).map (zc[· % zc.size]!)):=by
     intro zc I n;refine⟨by rw[gi,H];simp,λi B=>?_⟩;rw[gi,H]at B;have QA:c*y.size≠0:=ω;have Dv:=n QA;subst Dv;have AA:0<y.size:=Nat.pos_of_ne_zero (λe=>QA (by rw[e];simp));rw[tI _ _ _ (by rw[H];exact B),H];have C:=zr.2 (i % y.size) (by rw[H];exact Yn _ AA);have Y:i % y.size<z.cells.size:=by rw[Dt];exact Yn _ AA
     have:QY (Array.map (λx=>z.cells[x % z.cells.size]!) (Array.range (c*y.size))).toList i=QY z.cells.toList (i % y.size):=by
      simp only[QY,Q5,ku,Array.getElem?_map,Array.getElem?_range,B,Va,Kx,KV,Dt];rw[getElem!_pos z.cells _ Y,zF Y];rfl
     rw[this];exact C
    have K:∀k:Array Value,yw Z s.h u w m k->(execOp a.eval o).run P w=.ok (.value (.slice (some ⟨w.heap.size,0,none⟩) c c)) (w.alloc (.cells k e)) ->
      ∃v F Q,((execOp a.eval o).run P w=.ok (.value v) F\/((execOp a.eval o).run P w=.ok .skip F/\v=Go.undef))/\Tr s.h u w (s.h++[⟨.arr,0,y.size,c,Az c y.size m⟩]) Q F /\
       Zg Z base (s.h++[⟨.arr,0,y.size,c,Az c y.size m⟩]) Q F/\Qy Z (s.h++[⟨.arr,0,y.size,c,Az c y.size m⟩]) Q F (.ref s.h.length 0 0 c) v/\Below base w F/\(calm o=true->Ext w F):=by
     intro k M Zb;have J:∀b,b<w.heap.size->(w.alloc (.cells k e)).heap[b]? = w.heap[b]? := λb hb=>kz w _ b hb;have JQ:(w.alloc (.cells k e)).heap[w.heap.size]? = some (.cells k e (0,0)):=heap_alloc_new w _;have Zf:u.length=s.h.length:=r.o.len;have T:Tr s.h u w (s.h++[⟨.arr,0,y.size,c,Az c y.size m⟩]) (u++[some (w.heap.size,0)]) (w.alloc (.cells k e)):=Tr.push r.o J _ _ (by intro b q h;simp at h;omega);have ZR:∀i,i<c->(Az c y.size m i).length=y.size/\∀j,j<y.size->nth (Az c y.size m i) j=nth m (i*y.size+j):=by
      intro i B;unfold Az;by_cases n:c=1
      .subst n;have:i=0:=ω;subst this;simp[l]
      .have:Nat.beq c 1=false:=by rw[<- XY,VL];exact n
       rw[this];have C:=YV y.size (show i+1<=c from B);rw[Vw]at C;refine⟨by simp[l];omega,λj O=>?_⟩;simp only[q5];rw[fG O,Fh]
     refine⟨_,_,_,.inl Zb,T,Zg.push r.o J _ rfl (QB _) Kn JQ (by simp[M.1,l]) (λi B=>(ZR i B).1) (λi j B O=>?_),.ref _ _ _ _ ⟨.arr,0,y.size,c,Az c y.size m⟩ (some (w.heap.size,0)) _ c σ (by rw[<- Zf];simp) rfl (QB _) (λ_=>.inr ⟨w.heap.size,0,k,e,rfl,σ,JQ,by simp[M.1,l],QB _⟩),BQ Kn _,λ_=>J⟩;have Wl:j<y.size:=O;have Ji:i<c:=B;have C:=YV y.size (show i+1<=c from Ji);rw[Vw]at C;have Qc:i*y.size+j<m.length:=ω;refine⟨QY k.toList (i*y.size+j),?_,?_⟩
     .have:i*y.size+j<k.size:=by rw[M.1];exact Qc
      simp only[Jv,QY,Q5,ku,zF this,KV]
     .show Qy _ _ _ _ (nth (Az c y.size m i) j) _;rw[(ZR i Ji).2 j Wl];exact(M.2 _ Qc).tr T
    by_cases I:c*y.size=0
    .obtain⟨k,n,C⟩:=O8 (h:=s.h) (pl:=u) (w:=w) _ (Qo s.fr) a (λx=>r.eval x) g.toList _ _ _ (E #[] (λ_=>rfl) (λh=>absurd I h)) R;rw[I]at n;have e0:Array.map (λx=>(#[]:Array Value)[x % (#[]:Array Value).size]!) (Array.range 0)=#[]:=σ;rw[e0]at n;have J:∀f:Nat->Value,Array.map f (Array.range 0)=#[]:=λf=>Array.eq_empty_of_size_eq_zero σ;refine K k C ?_;simp[execOp,V,Instr.buildSlice,run_underlying U,N.sizeOf,I,newRow,n,J]
    .obtain⟨k,n,C⟩:=O8 (h:=s.h) (pl:=u) (w:=w) _ (Qo s.fr) a (λx=>r.eval x) g.toList _ _ _ (E z.cells (λh=>absurd h I) (λ_=>rfl)) R;refine K k C ?_;have S:¬ (16777216<c*y.size):=ω;simp[execOp,V,Instr.buildSlice,run_underlying U,N.sizeOf,qC,I,S,newRow,n]
   .cases h
  .cases h
 .cases h
end
variable {Z:Nat->Prop}
def jA(b:List (Nat × D))(a:Int):Option Operand->Option Int
 | none=>some a
 | some x=>match Qo b x with
  | .raw (.int _ i)=>some i
  | _=>none
def tK{P:Program}(w:World){k:IntKind}{i:Int}{y:Nat}{c:BoundsCode}(b:0<=i)(a:i<=y):(Instr.sliceBound (.int k i) y c).run P w=.ok i.toNat w:=by
 simp[Instr.sliceBound,asIntOf,b,a]
def Ul{P:Program}{p F:Nat}{s:St}{E:List Pl}{a:Act}{C:World}(r:Rel Z p F s E a C)(w:World)(b:Bool)(e f:Nat)(t q:Option Operand){l u:Int}(y:jA s.fr 0 t=some l)(g:jA s.fr e q=some u)
  (J:0<=l) (L:l<=u) (K:u<=e) (N:e<=f):(Instr.sliceBounds b e f (t.map a.eval) (q.map a.eval) none).run P w=.ok (l.toNat,u.toNat,f) w:=by
 have get:∀(x:Operand) (d:Int) (i:Int),jA s.fr d (some x)=some i->∃k,a.eval x=.int k i:=by
  intro x d i h;have H:=r.eval x;simp only[jA]at h;generalize Qo s.fr x=M at *;split at h
  .rename_i k j;simp only[QX]at h;subst h;exact⟨k,Jh H⟩
  .cases h
 have o:∀(v:Value) (m:Nat) (c:BoundsCode),(∃k,v=.int k u)->u<=m->(Instr.sliceBound v m c).run P w=.ok u.toNat w:=by
  rintro v m c ⟨k,rfl⟩ I;exact tK w ω I
 have n:∀(v:Value) (c:BoundsCode),(∃k,v=.int k l)->(Instr.sliceBound v u.toNat c).run P w=.ok l.toNat w:=by
  rintro v c ⟨k,rfl⟩;exact tK w J ω
 cases t with
 | none=>
  simp only[jA,QX]at y;subst y;cases q with
  | none=>simp only[jA,QX]at g;subst g;simp[Instr.sliceBounds]
  | some x=>
   have hx:=get x e u g;cases b<;>simp[Instr.sliceBounds,o _ f _ hx ω]
 | some z=>
  have hz:=get z 0 l y;cases q with
  | none=>
   simp only[jA,QX]at g;have:u.toNat=e:=ω;have B:=λc=>n (a.eval z) c hz;rw[this]at B;simp[Instr.sliceBounds,B,this]
  | some x=>
   have hx:=get x e u g;cases b<;>simp[Instr.sliceBounds,o _ f _ hx ω,n _ _ hz]
def Um(L:ZW)(c:List (Nat × D))(h:List Ob)(t:TypeId)(d:D)(j k:Option Operand):Ev:=
 match ty L t with
 | some ⟨.slice e,_,_,_⟩=>match ty L e with
  | some y=>match d with
   | .ref l g p f=>match h[l]?,jA c 0 j,jA c f k with
    | some o,some a,some b=>some (g=o.gen/\o.sz=y.size/\0<=a/\a<=b/\b<=f,.ref l g (p+a.toNat) (b - a).toNat)
    | _,_,_=>none
   | .imm z n m=>match jA c 0 j,jA c n k with
    | some a,some b=>some (z=y.size/\0<=a/\a<=b/\b<=n,.imm z (b - a).toNat λi=>m (a.toNat+i))
    | _,_=>none
   | .nil=>match jA c 0 j,jA c 0 k with
    | some a,some b=>some (a=0/\b=0,.nil)
    | _,_=>none
   | _=>none
  | none=>none
 | some ⟨.str,_,_,_⟩=>match d with
  | .raw (.string s)=>match jA c 0 j,jA c s.size k with
   | some a,some b=>some (0<=a/\a<=b/\b<=s.size,.raw (.string (s.extract a.toNat b.toNat)))
   | _,_=>none
  | _=>none
 | _=>none
section
variable {P:Program}{L:ZW}{base nt:Nat}{s:St}{o:Oper}
def Qje(hL:ZU P L){t:TypeId}{x}{H m}(T:o.op=.slice t x H m none){p}{d}(h:Um L s.fr s.h t (Qo s.fr x) H m=some (p,d))(S:p):VZ P base nt o s d:=by
 intro Z pl a w r;have hx:=r.eval x;unfold Um at h;split at h
 .rename_i e _ _ _ he;have I:=vP (hL _ _ he) rfl;split at h
  .rename_i y Au;have W:=hL _ _ Au;generalize Qo s.fr x=dx at *;split at h
   .rename_i l g Q R;split at h
    .rename_i ob k N Zh E F;simp only[QX,Q9]at h;obtain⟨rfl,rfl⟩:=h;obtain⟨hg,Jg,M,K,J⟩:=S;obtain⟨o',p',C,f,B,Zw,ZI,ZL,jw,Vx⟩:=BL hx;rw[Zh]at Zw;cases Zw;have BN:R<=f:=by
      rcases Vx hg with ⟨h3,h4⟩|⟨_,_,_,_,_,_,_,_,h3⟩<;>omega
     refine⟨.slice (if f=k.toNat then C else C.map (·.add (k.toNat*y.size))) (N - k).toNat (f - k.toNat),?_,λv _=>?_⟩
     .refine .ref _ _ _ _ ob p' _ _ Zh ZI ZL jw (λ_=>?_);rcases Vx hg with ⟨h3,h4⟩|⟨b,q,c,el,VY,V,u,Jx,h3⟩
      .exact .inl ⟨ω,ω⟩
      .by_cases U:f=k.toNat
       .exact .inl ⟨ω,ω⟩
       .refine .inr ⟨b,q,c,el,VY,?_,u,?_,ω⟩
        .rw[Qe U,V,Kx,yo,Jg,Vw];simp only[QX,Addr.mk.injEq,and_true,yj];omega
        .rw[show Q+k.toNat+(f - k.toNat)=Q+f by omega];exact Jx
     .have u:=Ul (P:=P) r v true R f H m E F M K J BN;simp[execOp,T,Instr.sliceAt,run_underlying I,Instr.slice,B,u,W.sizeOf];omega
    .cases h
   .rename_i z n a0;split at h
    .rename_i k N E F;simp only[QX,Q9]at h;obtain⟨rfl,rfl⟩:=h;obtain⟨rfl,M,K,J⟩:=S;obtain⟨C,f,b,q,vs,B,V,BN,hs,U⟩:=OW hx;refine⟨.slice (if f=k.toNat then C else C.map (·.add (k.toNat*y.size))) (N - k).toNat (f - k.toNat),.cl _ _ ?_,λv _=>?_⟩
     .refine .imm _ _ _ _ _ b (q+k.toNat*y.size) (λi j=>vs (k.toNat+i) j) (λAA=>?_) ω (λi m=>hs _ ω) (λi j m Y=>?_) (λi j m Y=>(U (k.toNat+i) j ω Y).2)
      .rw[Qe ω,V ω,Kx,yo]
      .obtain⟨⟨g1,g2⟩,_⟩:=U (k.toNat+i) j ω Y;refine⟨g1,?_⟩;rw[<- g2];congr 2;rw[Vw];omega
     .have u:=Ul (P:=P) r v true n f H m E F M K J BN;simp[execOp,T,Instr.sliceAt,run_underlying I,Instr.slice,B,u,W.sizeOf];omega
    .cases h
   .split at h
    .rename_i k N E F;simp only[QX,Q9]at h;obtain⟨rfl,rfl⟩:=h;obtain⟨rfl,rfl⟩:=S;obtain⟨C,B⟩:=BK hx;refine⟨.slice C 0 0,.cl _ _ (.nil _),λv _=>?_⟩;have u:=Ul (P:=P) r v true 0 0 H m E F ω ω ω (QB _);simp[execOp,T,Instr.sliceAt,run_underlying I,Instr.slice,B,u,W.sizeOf]
    .cases h
   .cases h
  .cases h
 .rename_i he;have I:=OV (hL _ _ he) rfl;generalize Qo s.fr x=dx at *;split at h
  .rename_i O;split at h
   .rename_i k N E F;simp only[QX,Q9]at h;obtain⟨rfl,rfl⟩:=h;obtain⟨M,K,J⟩:=S;have B:=Jh hx;refine⟨_,.cl _ _ (.raw _),λv _=>?_⟩;have u:=Ul (P:=P) r v false O.size O.size H m E F M K J (QB _);simp[execOp,T,Instr.sliceAt,run_underlying I,Instr.slice,B,u]
   .cases h
  .cases h
 .cases h
end
def Yr:Value->Value->Option Bool
 | .int k a,.int c b=>bif IntKind.same k c then some (a==b) else none
 | .bool a,.bool b=>some (a==b)
 | .string a,.string b=>some (a.toList==b.toList)
 | _,_=>none
def YZ:List Value->List Value->Option Bool
 | [],[]=>some true
 | a::r,b::q=>match Yr a b,YZ r q with
  | some x,some y=>some (x&&y)
  | _,_=>none
 | _,_=>none
def cat:Value->Nat
 | .int _ _=>0
 | .bool _=>1
 | .string _=>2
 | _=>3
def LM(P:Program)(b:TypeId->Option (List Nat)):List Field->Nat->Option (List Nat)
 | [],_=>some []
 | f::c,a=>match b f.type with
  | some l => if f.name ≠ "_" /\ f.offset = a /\ P.cellsOf f.type = l.length then (LM P b c (a + l.length)).map (l ++ ·) else none
  | none=>none
def Y0(P:Program):Nat->TypeId->Option (List Nat)
 | 0,_=>none
 | d+1,t=>match P.underlying t with
  | some (.int _)=>some [0]
  | some .bool=>some [1]
  | some .string=>some [2]
  | some (.struct a)=>if P.stoodInHeld t then none else LM P (Y0 P d) a.toList 0
  | some (.array n e)=>match Y0 P d e with
   | some l=>if P.cellsOf e=l.length then some (List.replicate n l).flatten else none
   | none=>none
  | _=>none
def gj:∀(a b c d:List Value) (r:Bool),a.length=b.length->YZ (a++c) (b++d)=some r->∃x y,YZ a b=some x/\YZ c d=some y/\r=(x&&y)
 | [],[],c,d,r,_,h=>⟨true,r,rfl,h,σ⟩
 | [],_::_,_,_,_,h,_=>by simp at h
 | _::_,[],_,_,_,h,_=>by simp at h
 | u::a,v::b,c,d,r,i,h=>by
  simp only[YT,YZ]at h;split at h
  .rename_i x y hx g;simp only[QX]at h;obtain⟨f,e,l,k,j⟩:=gj a b c d y (by simpa using i) g;exact⟨x&&f,e,by simp[YZ,hx,l],k,by rw[<- h,j,Bool.and_assoc]⟩
  .cases h
def valOf(P:Program)(t:TypeId)(a:List Value):Value:=
 match P.underlying t with
 | some (.struct _)|some (.array _ _)=>.agg a.toArray
 | _=>QY a 0
def gl(P:Program)(D:Nat)(t:TypeId)(l:List Nat):Prop:=
 ∀(w:World) (b a:List Value) (r:Bool),b.map cat=l->a.map cat=l->YZ b a=some r->(Op.equalIn D t (valOf P t b) (valOf P t a)).run P w=.ok r w
def Pa{P:Program}{d}{t:TypeId}{l:List Nat}(h:Y0 P d t=some l)(j:P.cellsOf t=l.length)(w)(c:List Value)(b)(e:b+l.length<=c.length):
  (part t c.toArray b).run P w=.ok (valOf P t ((c.drop b).take l.length)) w:=by
 cases d with
 | zero=>simp[Y0]at h
 | succ d=>
  unfold Y0 at h;cases a:P.underlying t with
  | none=>rw[a]at h;cases h
  | some k=>
   obtain⟨i,g⟩:=info_of_underlying a;have f:(sizeOf t).run P w=.ok l.length w:=by
    rw[run_sizeOf w g,j]
   rw[a]at h;cases k<;>first|(cases h;done)|skip
   case bool=>
    cases h;have:b<c.length:=by simp at e;omega
    simp[part,isAgg,run_underlying a,valOf,a,QY,this]
   case int=>
    cases h;have:b<c.length:=by simp at e;omega
    simp[part,isAgg,run_underlying a,valOf,a,QY,this]
   case string=>
    cases h;have:b<c.length:=by simp at e;omega
    simp[part,isAgg,run_underlying a,valOf,a,QY,this]
   case array=>simp[part,isAgg,run_underlying a,valOf,a,f]
   case struct=>simp[part,isAgg,run_underlying a,valOf,a,f]
def tM{P}(d D)(q:∀t l,Y0 P d t=some l->gl P D t l)(w):∀(k:List Field) (a:Nat) (l:List Nat) (c b:List Value) (r:Bool),LM P (Y0 P d) k a=some l ->
  (c.drop a).map cat=l->(b.drop a).map cat=l->a<=c.length->a<=b.length->YZ (c.drop a) (b.drop a)=some r->(Op.eqFields D c.toArray b.toArray k).run P w=.ok r w
 | [],a,l,c,b,r,h,hx,g,L,K,i=>by
  simp[LM]at h;subst h;simp only[List.map_eq_nil_iff]at hx g;rw[hx,g]at i;simp[YZ]at i;simp[Op.eqFields,i]
 | f::k,a,l,c,b,r,h,hx,g,L,K,i=>by
  simp only[LM]at h;split at h
  .rename_i e o;split at h
   .rename_i J;obtain⟨I,H,p⟩:=J;simp only[Xq]at h;obtain⟨n,O,rfl⟩:=h;have j:(c.drop a).length=e.length+n.length:=by rw[<- JV (f:=cat),hx,JJ]
    have m:(b.drop a).length=e.length+n.length:=by rw[<- JV (f:=cat),g,JJ]
    have u:c.drop a=(c.drop a).take e.length++c.drop (a+e.length):=by rw[<- List.drop_drop,Fa]
    have s:b.drop a=(b.drop a).take e.length++b.drop (a+e.length):=by rw[<- List.drop_drop,Fa]
    rw[u,ju]at hx;rw[s,ju]at g;obtain⟨Q,R⟩:=Ti hx (by simp at j ⊢;omega);obtain⟨v,F⟩:=Ti g (by simp at m ⊢;omega);rw[u,s]at i;obtain⟨x,y,N,M,rfl⟩:=gj _ _ _ _ _ (by simp at j m ⊢;omega) i;have E:=Pa o p w c a (by simp at j;omega);have C:=Pa o p w b a (by simp at m;omega);have B:=q _ _ o w _ _ x Q v N;have z:=tM d D q w k (a+e.length) n c b y O R F (by simp at j;omega) (by simp at m;omega) M;simp only[Op.eqFields,I,ne_eq,not_false_eq_true,Va,Sem.run_bind,H,E,C,B,Result.andThen_ok];cases x
    .simp
    .simpa using z
   .cases h
  .cases h
def tN{P:Program}{d D}{e:TypeId}{l:List Nat}(n:Y0 P d e=some l)(h:P.cellsOf e=l.length)(q:gl P D e l)(w):∀(m i:Nat) (b a:List Value) (r:Bool),
  (b.drop (i*l.length)).map cat=(List.replicate m l).flatten->(a.drop (i*l.length)).map cat=(List.replicate m l).flatten->i*l.length<=b.length->i*l.length<=a.length->YZ (b.drop (i*l.length)) (a.drop (i*l.length))=some r ->
  (Op.eqItems D e (P.cellsOf e) b.toArray a.toArray (List.range' i m)).run P w=.ok r w
 | 0,i,b,a,r,hx,c,_,_,g=>by
  simp only[List.replicate_zero,List.flatten_nil,List.map_eq_nil_iff]at hx c;rw[hx,c]at g;simp[YZ]at g;simp[Op.eqItems,g]
 | m+1,i,b,a,r,hx,c,K,J,g=>by
  rw[Tv,List.flatten_cons]at hx c;have j:(b.drop (i*l.length)).length=l.length+(List.replicate m l).flatten.length:=by rw[<- JV (f:=cat),hx,JJ]
  have k:(a.drop (i*l.length)).length=l.length+(List.replicate m l).flatten.length:=by rw[<- JV (f:=cat),c,JJ]
  have p:i*l.length+l.length=(i+1)*l.length:=by rw[Vw];omega
  have t:b.drop (i*l.length)=(b.drop (i*l.length)).take l.length++b.drop ((i+1)*l.length):=by rw[<- p,<- List.drop_drop,Fa]
  have s:a.drop (i*l.length)=(a.drop (i*l.length)).take l.length++a.drop ((i+1)*l.length):=by rw[<- p,<- List.drop_drop,Fa]
  rw[t,ju]at hx;rw[s,ju]at c;obtain⟨H,I⟩:=Ti hx (by simp at j ⊢;omega);obtain⟨u,C⟩:=Ti c (by simp at k ⊢;omega);rw[t,s]at g;obtain⟨x,y,F,E,rfl⟩:=gj _ _ _ _ _ (by simp at j k ⊢;omega) g;have B:=Pa n h w b (i*l.length) (by simp at j;omega);have z:=Pa n h w a (i*l.length) (by simp at k;omega);have v:=q w _ _ x H u F;have o:=tN n h q w m (i+1) b a y I C (by simp at j;omega) (by simp at k;omega) E;rw[List.range'_succ];simp only[Op.eqItems,Sem.run_bind,h,B,z,v,Result.andThen_ok];cases x
  .simp
  .rw[h]at o;simpa using o
def Un{P}:∀(d D:Nat) (t:TypeId) (l:List Nat),d<=D->Y0 P d t=some l->gl P D t l
 | 0,_,_,_,_,h=>by simp[Y0]at h
 | d+1,0,_,_,O,_=>ω
 | d+1,D+1,t,l,O,h=>by
  intro w p o r hx z j;have U:=h;unfold Y0 at h;cases g:P.underlying t with
  | none=>rw[g]at h;cases h
  | some k=>
   rw[g]at h;have one:∀c:Nat,l=[c]->∃a b,p=[a]/\o=[b]/\cat a=c/\cat b=c/\Yr a b=some r:=by
    intro c L;subst L;have I:p.length=1:=by rw[<- JV (f:=cat),hx];rfl
    have T:o.length=1:=by rw[<- JV (f:=cat),z];rfl
    match p,o,I,T with
    | [a],[b],_,_=>
     refine⟨a,b,rfl,rfl,by simpa using hx,by simpa using z,?_⟩;simp only[YZ]at j;split at j
     .rename_i x y R F;simp at F j;subst F;simp at j;rw[R,j]
     .cases j
   cases k<;>first|(cases h;done)|skip
   case bool=>
    simp only[QX]at h;obtain⟨a,b,rfl,rfl,v,u,m⟩:=one 1 h.symm;cases a<;>simp[cat]at v;cases b<;>simp[cat]at u;simp[Yr]at m;subst m;simp[valOf,g,QY,run_equalIn_bool' w D t _ _ g]
   case int q=>
    simp only[QX]at h;obtain⟨a,b,rfl,rfl,v,u,m⟩:=one 0 h.symm;cases a<;>simp[cat]at v;cases b<;>simp[cat]at u;simp only[Yr]at m;obtain⟨M,E⟩:=zJ m;have:=IntKind.fC M;subst this;simp only[QX]at E;subst E;simp[valOf,g,QY,run_equalIn_int w D t _ _ _ _ g]
   case string=>
    simp only[QX]at h;obtain⟨a,b,rfl,rfl,v,u,m⟩:=one 2 h.symm;cases a<;>simp[cat]at v;cases b<;>simp[cat]at u;simp only[Yr,QX]at m;subst m;simp[valOf,g,QY,run_equalIn_string w D t _ _ g]
   case array n e=>
    replace h:(match Y0 P d e with|some l=>if P.cellsOf e=l.length then some (List.replicate n l).flatten else none|none=>none)=some l:=h;split at h
    .rename_i J s;split at h
     .rename_i Q;simp only[QX]at h;subst h;have S:∃i,P.info? e=some i:=by
       cases d with
       | zero=>simp[Y0]at s
       | succ V=>
        unfold Y0 at s;cases C:P.underlying e with
        | none=>rw[C]at s;cases s
        | some _=>exact info_of_underlying C
      obtain⟨i,N⟩:=S;have:=tN s Q (Un d D e J ω s) w n 0 p o r (by simpa using hx) (by simpa using z) σ σ (by simpa using j);rw[<- List.range_eq_range']at this;simp only[valOf,g];rw[run_equalIn_array w D p.toArray o.toArray g N];exact this
     .cases h
    .cases h
   case struct B=>
    replace h:(if P.stoodInHeld t then none else LM P (Y0 P d) B.toList 0)=some l:=h;split at h
    .cases h
    .rename_i K;have H:P.fieldsOf t=B:=by simp[Program.fieldsOf,g]
     simp only[valOf,g];rw[run_equalIn_struct w D t _ _ (by rw[H];exact g) (by simpa using K),H];exact tM d D (λt l h=>Un d D t l ω h) w B.toList 0 l p o r h (by simpa using hx) (by simpa using z) σ σ (by simpa using j)
abbrev BT:=List (TypeId × List Nat)
def kF:BT->TypeId->Option (List Nat)
 | [],_=>none
 | (u,l)::r,t=>bif Nat.beq u t then some l else kF r t
structure gp (P:Program) (t:TypeId) (l:List Nat):Prop where
 shape:Y0 P 60 t=some l
 guard:P.eqGuardType P.depth t=false
 agg:(match P.underlying t with|some (.struct _)|some (.array _ _)=>true|_=>false)=true
def yz(P:Program)(E:BT):Prop:=∀t l,kF E t=some l->gp P t l
def yz.nil(P):yz P []:=λ_ _ h=>by simp[kF]at h
def yz.cons{P}{E}{t:TypeId}{l}(h:gp P t l)(r:yz P E):yz P ((t,l)::E):=λu z e=>by
 simp only[kF]at e;by_cases a:t=u
 .subst a;simp at e;subst e;exact h
 .have:Nat.beq t u=false:=by rw[<- XY,VL];exact a
  rw[this]at e;exact r u z e
def AD:List D->Option (List Value)
 | []=>some []
 | .raw v::r=>match AD r with
  | some l=>some (v::l)
  | none=>none
 | _=>none
def Hl:List Nat->List Nat->Bool
 | [],[]=>true
 | a::r,b::q=>Nat.beq a b&&Hl r q
 | _,_=>false
def Up:∀{a b:List Nat},Hl a b=true->a=b
 | [],[],_=>rfl
 | [],_::_,h=>by cases h
 | _::_,[],h=>by cases h
 | a::r,b::q,h=>by
  simp only[Hl,ZH,VL]at h;rw[h.1,Up h.2]
def Uq{h}{f}{w}:∀{d:List D} {l:List Value},AD d=some l->∀(a:List Value),a.length=d.length->(∀i,i<d.length->Qy Z h f w (nth d i) (QY a i))->a=l
 | [],l,e,a,b,_=>by simp[AD]at e;subst e;exact List.eq_nil_of_length_eq_zero (by simpa using b)
 | c::d,l,e,a,b,g=>by
  cases c<;>simp only[AD,reduceCtorEq]at e;rename_i v;split at e
  .rename_i o m;simp only[QX]at e;subst e;match a,b with
   | u::j,b=>
    have k:=Jh (g 0 σ:Qy Z h f w (.raw v) u);have:=Uq m j (by simpa using b) (λi p=>by have:=g (i+1) ξ;simpa[nth,QY] using this);have n:u=v:=k;rw[n,this]
  .cases e
def Ur(E:BT)(c:BinOp)(t:TypeId):D->D->Ev
 | .agg a,.agg b=>match kF E t,AD a,AD b with
  | some l,some x,some y=>bif Hl (x.map cat) l&&Hl (y.map cat) l then match YZ x y with
   | some r=>match c with
    | .eql=>some (True,.raw (.bool r))
    | .neq=>some (True,.raw (.bool (!r)))
    | _=>none
   | none=>none
   else none
  | _,_,_=>none
 | _,_=>none
def Qjf{P}{E}(N:yz P E){f J}{s}{o:Oper}{z}{t I:TypeId}{x y}(F:o.op=.binOp z t x y I){p}{d}
  (h:Ur E z t (Qo s.fr x) (Qo s.fr y)=some (p,d)):VZ P f J o s d:=by
 intro Z pl a w r;have hx:=r.eval x;have K:=r.eval y;unfold Ur at h;generalize Qo s.fr x=dx at *;generalize Qo s.fr y=dy at *;split at h
 .split at h
  .rename_i l xs ys M W V;obtain⟨j,b⟩:=zJ h;simp only[ZH]at j;have q:=Up j.1;have n:=Up j.2;split at b
   .rename_i v L;obtain⟨i,C,Q,Y⟩:=Ha hx;obtain⟨g,B,m,T⟩:=Ha K;have S:=Uq W i Q Y;have R:=Uq V g m T;subst S;subst R;obtain⟨U,H,u⟩:=N _ _ M;have e:∀c,(Op.equalIn 10000 t (.agg i.toArray) (.agg g.toArray)).run P c=.ok v c:=by
     intro c;have:=Un 60 10000 t l ω U c i g v q n L;unfold valOf at this;split at this
     .exact this
     .exact this
     .rename_i O b;split at u
      .rename_i k;exact absurd k (O _)
      .rename_i k;exact absurd k (b _ _)
      .cases u
    split at b
    .simp only[QX,Q9]at b;obtain⟨rfl,rfl⟩:=b;refine⟨_,.cl _ _ (.raw _),λc _=>?_⟩;simp[execOp,F,C,B,run_eqGuard_agg c .eql t x y _ _ H,run_eql_struct,e]
    .simp only[QX,Q9]at b;obtain⟨rfl,rfl⟩:=b;refine⟨_,.cl _ _ (.raw _),λc _=>?_⟩;simp[execOp,F,C,B,run_eqGuard_agg c .neq t x y _ _ H,run_neq_struct,e]
    .cases b
   .cases b
  .cases h
 .cases h
end Go.Fg
namespace Go.Fg
def KW(P:Program){c:Type}(m:Sem c):Prop:=∀w x a,m.run P w=.ok x a->a=w/\∀b,m.run P b=.ok x b
section
variable {P:Program}{α β:Type}
def KW.pure(a:α):KW P (pure a:Sem α):=λw x b h=>by
 simp at h;obtain⟨rfl,rfl⟩:=h;exact⟨rfl,λc=>σ⟩
def KW.never{m:Sem α}(b:∀w x a,m.run P w≠.ok x a):KW P m:=λw x a h=>absurd h (b w x a)
def KW.bind{m:Sem α}{k:α->Sem β}(l:KW P m)(j:∀a,KW P (k a)):KW P (m >>= k):=λw x f h=>by
 rw[Sem.run_bind]at h;cases b:m.run P w with
 | halt e c=>rw[b]at h;cases h
 | ok a c=>
  rw[b]at h;simp only[Result.andThen_ok]at h;obtain⟨rfl,i⟩:=l w a c b;obtain⟨rfl,g⟩:=j a _ x f h;exact⟨rfl,λd=>by rw[Sem.run_bind,i d];simp only[Result.andThen_ok];exact g d⟩
def KW.stuck(s:String):KW P (Go.stuck s:Sem α):=KW.never λw x a h=>by cases h
def KW.halt(e:Halt):KW P (.halt e:Sem α):=KW.never λw x a h=>by cases h
def KW.program:KW P program:=λw x a h=>by
 simp at h;obtain⟨rfl,rfl⟩:=h;exact⟨rfl,λb=>σ⟩
def KW.typeInfo(t):KW P (typeInfo t):=.bind .program λp=>by
 split
 .exact .pure _
 .exact .stuck _
def KW.underlying(t):KW P (underlying t):=.bind .program λp=>by
 split
 .exact .pure _
 .exact .stuck _
def KW.panic:KW P (runtimePanic .nilDeref:Sem α):=.bind .program λp=>.halt _
def KW.sizeOf(t):KW P (sizeOf t):=.bind (.typeInfo t) λ_=>.pure _
def KW.isAgg(t):KW P (isAgg t):=.bind (.underlying t) λd=>by
 split<;>exact .pure _
def KW.part(t)(a)(i):KW P (part t a i):=by
 unfold Go.part
 repeat' (first|exact .pure _|exact .stuck _|refine .bind (.isAgg _) λ_=>?_|refine .bind (.sizeOf _) λ_=>?_|refine .bind (.typeInfo _) λ_=>?_|refine .bind (.underlying _) λ_=>?_|split)
def KW.blind:∀(l:List FieldStep) (t:TypeId) (x:Option Value),KW P (Go.followBlind l t x)
 | [],_,_=>.pure _
 | s::r,t,x=>by
  unfold Go.followBlind
  repeat' (first|exact .pure _|exact .stuck _|exact KW.blind r _ _|refine .bind (.part _ _ _) λ_=>?_|refine .bind (.underlying _) λ_=>?_|split)
def KW.nilAhead:∀(n:Nat) (t:TypeId) (v:Value) (a:String),KW P (Go.nilAhead n t v a)
 | 0,_,_,_=>.pure _
 | n+1,t,v,a=>by
  unfold Go.nilAhead
  repeat' (first|exact .pure _|exact .stuck _|exact KW.nilAhead n _ _ _|refine .bind (.blind _ _ _) λ_=>?_|refine .bind (.typeInfo _) λ_=>?_|refine .bind (.underlying _) λ_=>?_|split)
def KW.nilCheck{o:Oper}{x}(b:o.op=.nilCheck x)(a):KW P (execOp a o):=by
 simp only[execOp,b]
 repeat' (first|exact .pure _|exact .stuck _|exact .panic|exact .halt _|(refine .bind (.halt _) λ_=>?_)|refine .bind (.nilAhead _ _ _ _) λ_=>?_|refine .bind .program λ_=>?_|split)
end
end Go.Fg
namespace Go.Fg
open Go.RowKit (Below)
open Go.Instr
def Hm(q:IntKind)(a:List MapEntry):Prop:=∀e∈a,∃n,e.key=.int q n
def Us{q}{k}:∀{a:List MapEntry} {i:Nat},Hm q a->(∀e∈a,e.key≠.int q k)->findNow (.int q) (.int q k) a i=some none
 | [],_,_,_=>rfl
 | e::a,i,h,c=>by
  obtain⟨n,d⟩:=h e (K8 ..);have f:(k==n)=false:=by
   rw[jv];rintro rfl;exact c e (K8 ..) d
  simp only[findNow,d,sameNow,Va,f];exact Us (λe b=>h e (Km _ b)) (λe b=>c e (Km _ b))
def Ut{q}{k}:∀{a:List MapEntry} {i0 i:Nat} {e:MapEntry},Hm q a->a[i]? = some e->e.key=.int q k->(∀(j:Nat) (b:MapEntry),j<i->a[j]? = some b->b.key≠.int q k) ->
  findNow (.int q) (.int q k) a i0=some (some (i0+i,e.val))
 | [],_,_,_,_,h,_,_=>by simp at h
 | x::a,i0,i,e,g,h,c,f=>by
  obtain⟨n,hx⟩:=g x (K8 ..);cases i with
  | zero=>
   simp at h;subst h;rw[hx]at c;obtain rfl:n=k:=by simpa using c
   simp[findNow,hx,sameNow]
  | succ i=>
   have l:(k==n)=false:=by
    rw[jv];rintro rfl;exact f 0 x ω rfl hx
   simp only[findNow,hx,sameNow,Va,l];rw[Ut (i0:=i0+1) (λe d=>g e (Km _ d)) (by simpa using h) c (λj b m d=>f (j+1) b ω (by simpa using d))];simp;omega
section
variable {P:Program}{w:World}{q:IntKind}{k:Int}
def Fp{a:TypeId}(b:P.underlying a=some (.int q))(c)(n):(checkKey c (n+1) a (.int q k)).run P w=.ok () w:=by
 simp[checkKey,underlying,b]
def Hn{a:TypeId}(b:P.underlying a=some (.int q)){es:List MapEntry}{r}(h:findNow (.int q) (.int q k) es 0=some r):(findKey a (.int q k) es).run P w=.ok r w:=by
 simp[findKey,underlying,b,h]
def AF{e:Type}{b}{d}{a}(f:w.heap[b]? = some (.map d a))(c:Obj->Sem e):(Sem.getObj b c).run P w=(c (.map d a)).run P w:=by
 simp only[Sem.run,f]
def Pc{d:Type}{b}{f}{a}(e:w.heap[b]? = some (.map f a))(o:Obj)(c:Sem d):(Sem.setObj b o c).run P w=c.run P { w with heap:=w.heap.setIfInBounds b o }:=by
 simp only[Sem.run,e]
def Qjj{f g y:TypeId}{b}{c:Array MapEntry}{a}(p:P.underlying f=some (.map g y))(l:P.underlying g=some (.int q))(o:w.heap[b]? = some (.map c a))(t:Hm q c.toList)
  {i:Nat} {e:MapEntry} (m:c[i]? = some e) (n:e.key=.int q k) (r:∀(j:Nat) (d:MapEntry),j<i->c[j]? = some d->d.key≠.int q k) (v:Value) :
  (mapUpdate f (.map (some b)) (.int q k) v).run P w=.ok () { w with heap:=w.heap.setIfInBounds b (.map (c.modify i λe=>{ e with key:=.int q k,val:=v }) a) }:=by
 have h:=Ut (i0:=0) t (by simpa using m) n (λj d s z=>r j d s (by simpa using z));have x:=Hn (P:=P) (w:=w) l h;have u:=Fp (P:=P) (w:=w) (k:=k) l false 9999;simp[mapUpdate,underlying,p,getObj,AF o,x,u,m,n,keyThatStays,sameBits,setObj,Pc o]
def Qjk{d f p:TypeId}{b}{c:Array MapEntry}{a}(j:P.underlying d=some (.map f p))(g:P.underlying f=some (.int q))(h:w.heap[b]? = some (.map c a))(m:Hm q c.toList)
  (l:∀e∈c.toList,e.key≠.int q k) (v:Value) :
  (mapUpdate d (.map (some b)) (.int q k) v).run P w=.ok () { w with heap:=w.heap.setIfInBounds b (.map (c.push { key:=.int q k,val:=v,born:=a }) (a+1)) }:=by
 have o:=Hn (P:=P) (w:=w) g (Us (i:=0) m l);have n:=Fp (P:=P) (w:=w) (k:=k) g false 9999;simp[mapUpdate,underlying,j,getObj,AF h,o,n,setObj,Pc h]
def Qjl{f g x ty kt2:TypeId}{b}{c:Array MapEntry}{a}(n:P.underlying f=some (.map g x))(l:P.underlying g=some (.int q))(m:w.heap[b]? = some (.map c a))(t:Hm q c.toList)
  {i:Nat} {e:MapEntry} (r:c[i]? = some e) (s:e.key=.int q k) (o:∀(j:Nat) (d:MapEntry),j<i->c[j]? = some d->d.key≠.int q k) :
  (Builtin.delete_ #[f,kt2] ty #[.map (some b),.int q k]).run P w=.ok (.tuple #[]) { w with heap:=w.heap.setIfInBounds b (.map (c.eraseIdxIfInBounds i) a) }:=by
 have h:=Ut (i0:=0) t (by simpa using r) s (λj d p y=>o j d p (by simpa using y));have v:=Hn (P:=P) (w:=w) l h;have u:=Fp (P:=P) (w:=w) (k:=k) l c.isEmpty 9999;simp[Builtin.delete_,underlying,n,getObj,AF m,v,u,setObj,Pc m]
def Qjm{d f p ty kt2:TypeId}{b}{c:Array MapEntry}{a}(j:P.underlying d=some (.map f p))(g:P.underlying f=some (.int q))(h:w.heap[b]? = some (.map c a))(m:Hm q c.toList)
  (l:∀e∈c.toList,e.key≠.int q k) :
  (Builtin.delete_ #[d,kt2] ty #[.map (some b),.int q k]).run P w=.ok (.tuple #[]) { w with heap:=w.heap.setIfInBounds b (.map c a) }:=by
 have o:=Hn (P:=P) (w:=w) g (Us (i:=0) m l);have n:=Fp (P:=P) (w:=w) (k:=k) g c.isEmpty 9999;simp[Builtin.delete_,underlying,j,getObj,AF h,o,n,setObj,Pc h]
def Qjn{c d g:TypeId}{b}{h}{a}(e:P.underlying c=some (.map d g))(f:w.heap[b]? = some (.map h a)):
  (Instr.range c (.map (some b))).run P w=.ok (.pointer (some ⟨w.heap.size,0,none⟩)) { w with heap:=w.heap.push (.mapIter (some b) a #[] a) }:=by
 simp[Instr.range,underlying,e,getObj,AF f,newObj,Sem.run]
end
def Tr.Ho{Z:Nat->Prop}{d:Nat}{h:List Ob}{f:List Pl}{w w':World}(R:Zg Z d h f w){l:Nat}{o o':Ob}{b:Nat}(n:h[l]? = some o)(v:f[l]? = some (some (b,0)))(e:∀c,c≠b->w'.heap[c]? = w.heap[c]?)
  (z:o'.gen=o.gen) (x:o'.kd.ty=o.kd.ty) (u:o'.sz=o.sz) (j:∀c el,w.heap[b]?≠some (.cells c el (0,0))):Tr h f w (h.set l o') f w' where
 Kg:=λc a _=>⟨a,e c (λh=>by subst h;exact a l 0 v)⟩
 obj:=λm k p g i=>by
  by_cases r:l=m
  .subst r;rw[n]at g;cases g;exact⟨o',p,VX (Kh n),i,ω,x,λ_=>⟨u,rfl⟩⟩
  .exact⟨k,p,by rw[Jf r];exact g,i,QB _,rfl,λ_=>⟨rfl,rfl⟩⟩
 shape:=λm k y c q g i _ B t el a=>by
  by_cases s:c=b
  .subst s;exact absurd a (j t el)
  .exact⟨t,by rw[e c s];exact a,rfl⟩
def Zg.Ho{Z:Nat->Prop}{d:Nat}{h:List Ob}{g:List Pl}{w w':World}(R:Zg Z d h g w){l:Nat}{o o':Ob}{b:Nat}(s:h[l]? = some o)(n:g[l]? = some (some (b,0)))(e:∀c,c≠b->w'.heap[c]? = w.heap[c]?)
  (T:Tr h g w (h.set l o') g w') (t:Kb Z (h.set l o') g w' o' b 0) (hro:o'.kd.ro=o.kd.ro):Zg Z d (h.set l o') g w' where
 len:=by rw[Xd];exact R.len
 inj:=R.inj
 Vh:=λk p f a=>by
  by_cases m:l=k
  .subst m;rw[n]at a;cases a
  .rw[Jf m]at f;exact R.Vh k p f a
 at_:=λk p c q f a=>by
  by_cases m:l=k
  .subst m;rw[VX (Kh s)]at f;cases f;rw[n]at a;cases a;exact⟨λr=>(R.at_ l o b 0 s n).1 (by rw[<- hro,r]),t⟩
  .rw[Jf m]at f;obtain⟨y,x⟩:=R.at_ k p c q f a;have u:c≠b:=λh=>by subst h;exact m (R.inj l k c 0 q n a)
   exact⟨y,x.to rfl rfl rfl (e c u) (λ_ _=>rfl) λi j v _ _ r=>r.tr T⟩
structure Zy where
 k:Int
 v:D
 b:Nat
def yA(q:IntKind)(c:Nat)(a:List Zy):Nat->List D
 | 0=>[.raw (.int .i64 c),.undef,.undef]
 | r+1=>match a[r]? with
  | some e=>[.raw (.int q e.k),e.v,.raw (.int .i64 e.b)]
  | none=>[.undef,.undef,.undef]
def VE(b:Kd)(q:IntKind)(c:Nat)(a:List Zy):Ob:=⟨b,0,3,a.length+1,yA q c a⟩
def QM(q:IntKind)(c:Nat)(a:List Zy):Ob:=VE .map q c a
def ZP:List Zy->Int->Option D
 | [],_=>none
 | e::r,k=>if e.k=k then some e.v else ZP r k
def zO:List Zy->Int->D->List Zy
 | [],_,_=>[]
 | e::r,k,v=>if e.k=k then ⟨k,v,e.b⟩::r else e::zO r k v
def JK:List Zy->Int->List Zy
 | [],_=>[]
 | e::r,k=>if e.k=k then r else e::JK r k
def JR(q:IntKind)(c:Nat)(a:List Zy)(k:Int)(v:D):Ob:=match ZP a k with
 | some _=>QM q c (zO a k v)
 | none=>QM q (c+1) (a++[⟨k,v,c⟩])
def Fq:D->Int
 | .raw (.int _ n)=>n
 | _=>0
def clockOf(o:Ob):Nat:=(Fq (nth (o.row 0) 0)).toNat
def BV(o:Ob):List Zy:=(List.range (o.n - 1)).map λi=>⟨Fq (nth (o.row (i+1)) 0),nth (o.row (i+1)) 1,(Fq (nth (o.row (i+1)) 2)).toNat⟩
def Ob.ro(o:Ob):Ob:=⟨o.kd.toRo,o.gen,o.sz,o.n,o.row⟩
def IsMap(q:IntKind)(o:Ob):Prop:=o.kd.ty=1/\o=VE o.kd q (clockOf o) (BV o)
theorem tR(a:Kd)(q)(c)(b):clockOf (VE a q c b)=c:=by simp[clockOf,VE,yA,nth,Fq]
theorem gu(q)(c)(a):clockOf (QM q c a)=c:=tR _ _ _ _
theorem tS(b:Kd)(q)(c)(a):BV (VE b q c a)=a:=by
 apply xh;intro i;simp only[BV,VE,yA,Ls,Kl,Tm];by_cases h:i<a.length
 .simp[Tm h,nth,Fq,h]
 .rw[Dg (by simpa using h)];simp[h]
theorem gv(q)(c)(a):BV (QM q c a)=a:=tS _ _ _ _
theorem tT(q)(c)(a):IsMap q (QM q c a)=True:=by
 refine eq_true ⟨rfl,?_⟩;exact(by rw[gu,gv];rfl)
theorem gw(o:Ob):clockOf o.ro=clockOf o:=rfl
theorem tU(o:Ob):BV o.ro=BV o:=rfl
theorem Qjp(q)(o:Ob):IsMap q o.ro=IsMap q o:=by
 obtain⟨k,g,z,n,r⟩:=o;simp only[IsMap,gw,tU];simp only[Ob.ro,VE,Kd.toRo_ty,Ob.mk.injEq,yj]
theorem Qjq(q)(c)(a:List Zy):(QM q c a).kd=.map:=rfl
theorem Qjr(q)(c)(a:List Zy):(QM q c a).n=a.length+1:=rfl
theorem Qjs(q)(c)(a:List Zy):(QM q c a).gen=0:=rfl
theorem Pd(o:Ob):o.ro.kd=o.kd.toRo:=rfl
theorem Qjt(o:Ob):o.ro.n=o.n:=rfl
theorem Qju(o:Ob):o.ro.gen=o.gen:=rfl
def IsMap.get{q}{o:Ob}(h:IsMap q o):∃a c b,a.ty=1/\o.kd=a/\clockOf o=c/\BV o=b/\o=VE a q c b:=⟨_,_,_,h.1,rfl,rfl,rfl,h.2⟩
def Uu:∀{b:List Zy} {k:Int} {v:D},ZP b k=some v->∃(j:Nat) (e:Zy),b[j]? = some e/\e.k=k/\e.v=v/\(∀(i:Nat) (c:Zy),i<j->b[i]? = some c->c.k≠k)/\(∀u,zO b k u=b.set j ⟨k,u,e.b⟩)/\JK b k=b.eraseIdx j
 | [],_,_,h=>by simp[ZP]at h
 | e::r,k,v,h=>by
  simp only[ZP]at h;by_cases a:e.k=k
  .rw[Qf a]at h;cases h;exact⟨0,e,rfl,a,rfl,λi _ d=>absurd d (XL i),λu=>by simp[zO,a],by simp[JK,a]⟩
  .rw[Qe a]at h;obtain⟨j,c,o,n,m,l,g,f⟩:=Uu h;refine⟨j+1,c,by simpa using o,n,m,λi x d hx=>?_,λu=>by simp[zO,a,g u],by simp[JK,a,f]⟩;cases i with
   | zero=>simp at hx;subst hx;exact a
   | succ i=>exact l i x ω (by simpa using hx)
def Pe:∀{a:List Zy} {k:Int},ZP a k=none->(∀e∈a,e.k≠k)/\(∀u,zO a k u=a)/\JK a k=a
 | [],_,_=>⟨σ,λ_=>rfl,rfl⟩
 | e::r,k,h=>by
  simp only[ZP]at h;by_cases b:e.k=k
  .rw[Qf b]at h;cases h
  .rw[Qe b]at h;obtain⟨f,d,c⟩:=Pe h;exact⟨λx hx=>by
    rcases QE.1 hx with rfl|h
    .exact b
    .exact f x h,λu=>by simp[zO,b,d u],by simp[JK,b,c]⟩
def tV:∀{c:List Zy} {k:Int} (v:D) (a:Int),ZP (zO c k v) a=if a=k then (ZP c k).map (λ_=>v) else ZP c a
 | [],k,v,a=>by simp[zO,ZP]
 | e::r,k,v,a=>by
  by_cases h:e.k=k
  .simp only[zO,Qf h,ZP];by_cases b:k=a
   .simp[b]
   .rw[Qe b,Qe (λe=>b e.symm),Qe (by rw[h];exact b)]
  .simp only[zO,Qe h,ZP];rw[tV v a];by_cases b:a=k
   .subst b;simp[h]
   .simp[b]
def tW:∀(b a:List Zy) (k:Int),ZP (b++a) k=(ZP b k).or (ZP a k)
 | [],_,_=>by simp[ZP]
 | e::r,a,k=>by
  by_cases h:e.k=k
  .simp[ZP,h]
  .simp[ZP,h,tW r a k]
def tX(q)(c)(b)(k)(v):∃g e,JR q c b k v=QM q g e/\∀a,ZP e a=if a=k then some v else ZP b a:=by
 unfold JR;cases h:ZP b k with
 | some d=>
  refine⟨c,zO b k v,rfl,λa=>?_⟩;rw[tV,h];rfl
 | none=>
  refine⟨c+1,b++[⟨k,v,c⟩],rfl,λa=>?_⟩;rw[tW];by_cases f:a=k
  .subst f;simp[h,ZP]
  .rw[Qe f];cases ZP b a<;>simp[ZP,Q1 f]
def Xs(a:List Zy):Prop:=(a.map (·.k)).Nodup
structure jB (Z:Nat->Prop) (h:List Ob) (pl:List Pl) (w:World) (q:IntKind) (c:Nat) (es:List Zy) (QO:List MapEntry):Prop where
 len:es.length=QO.length
 at_:∀(i:Nat) (e:Zy) (a:MapEntry),es[i]? = some e->QO[i]? = some a->a.key=.int q e.k/\Qy Z h pl w e.v a.val/\a.born=e.b/\a.born<c
 inc:∀(i j:Nat) (a a':MapEntry),i<j->QO[i]? = some a->QO[j]? = some a'->a.born<a'.born
def gy{Z}{h}{e}{w:World}{q}{c}{d}{b}{k:Array MapEntry}(n:w.heap[b]? = some (.map k c))(E:jB Z h e w q c d k.toList){kd:Kd}(u:kd.ty=1):Kb Z h e w (VE kd q c d) b 0:=by
 refine Kb.ofMap u ⟨rfl,rfl,k,c,n,by have:=E.len;simp at this;simp[VE,this],λi _=>?_,.cl _ _ (.raw _),λi a m=>?_,λi j a s t g f=>E.inc i j a s t (by simpa using g) (by simpa using f)⟩
 .show (yA q c d i).length=3;cases i with
  | zero=>rfl
  | succ i=>simp only[yA];split<;>rfl
 .have Qc:=(Wg.1 m).1;have l:i<d.length:=by have:=E.len;simp at this;omega
  obtain⟨g,f,p,o⟩:=E.at_ i d[i] a (QP l) (by simpa using m);have r:yA q c d (i+1)=[.raw (.int q d[i].k),d[i].v,.raw (.int .i64 d[i].b)]:=by simp[yA,l]
  show _/\Qy Z h e w (nth (yA q c d (i+1)) 0) _/\Qy Z h e w (nth (yA q c d (i+1)) 1) _/\Qy Z h e w (nth (yA q c d (i+1)) 2) _;rw[r];exact⟨o,by rw[g];exact .cl _ _ (.raw _),f,by rw[p];exact .cl _ _ (.raw _)⟩
def Uv{Z}{h}{l}{w:World}{q}{c}{g}{b p}{k:Kd}(N:k.ty=1)(x:Kb Z h l w (VE k q c g) b p):p=0/\∃f:Array MapEntry,w.heap[b]? = some (.map f c)/\jB Z h l w q c g f.toList:=by
 obtain⟨H,_,f,d,F,E,_,C,B,z⟩:=x.map N;have u:d=c:=by
  have:=Jh C;simp at this;omega
 subst u;have s:g.length=f.size:=by simpa[VE] using E
 refine⟨H,f,F,by simpa using s,λi e a t v=>?_,λi j a L M J I=>z i j a L M (by simpa using J) (by simpa using I)⟩;obtain⟨r,o,n,m⟩:=B i a (by simpa using v);have K:(VE k q d g).row (i+1)=[.raw (.int q e.k),e.v,.raw (.int .i64 e.b)]:=by simp[VE,yA,t]
 rw[K]at o n m;have:=Jh o;have y:=Jh m;refine⟨this,n,?_,r⟩;simp at y;omega
def jB.keys{Z}{h}{f}{w}{q}{c}{b}{e}(E:jB Z h f w q c b e):Hm q e:=λa g=>by
 obtain⟨i,d⟩:=E6 g;have Qc:i<b.length:=by rw[E.len];exact(Wh.1 d).1
 exact⟨_,(E.at_ i b[i] a (QP Qc) d).1⟩
def jB.Xf{Z}{h}{l}{w}{q}{c}{d:List Zy}{b:Array MapEntry}(E:jB Z h l w q c d b.toList){k}{j}{e:Zy}(g:d[j]? = some e)(o:e.k=k)(n:∀(i:Nat) (f:Zy),i<j->d[i]? = some f->f.k≠k):
  ∃a,b[j]? = some a/\a.key=.int q k/\Qy Z h l w e.v a.val/\a.born=e.b/\a.born<c/\∀(i:Nat) (f:MapEntry),i<j->b[i]? = some f->f.key≠.int q k:=by
 have Qc:j<b.toList.length:=by rw[<- E.len];exact(Wh.1 g).1
 obtain⟨u,t,s,r⟩:=E.at_ j e b.toList[j] g (QP Qc);refine⟨b.toList[j],σ,by rw[u,o],t,s,r,λi x z y=>?_⟩;have m:i<d.length:=by have:=(Wh.1 g).1;omega
 obtain⟨v,_⟩:=E.at_ i d[i] x (QP m) (by simpa using y);rw[v];intro p;exact n i _ z (QP m) (by simpa using p)
def jB.Dw{Z}{h}{g}{w}{q}{c}{b}{f}(E:jB Z h g w q c b f){k}(j:∀e∈b,e.k≠k):∀a∈f,a.key≠.int q k:=λa m=>by
 obtain⟨i,d⟩:=E6 m;have Qc:i<b.length:=by rw[E.len];exact(Wh.1 d).1
 rw[(E.at_ i b[i] a (QP Qc) d).1];intro l;exact j _ (XK Qc) (by simpa using l)
def jB.tr{Z}{h f}{d j}{w b}(T:Tr h d w f j b){q}{c}{g}{k}(E:jB Z h d w q c g k):jB Z f j b q c g k:=
 ⟨E.len,λi e a m l=>let ⟨p,o,n⟩:=E.at_ i e a m l;⟨p,o.tr T,n⟩,E.inc⟩
section
variable {P:Program}{L:ZW}{base nt:Nat}{s:St}{o:Oper}{q:IntKind}{t kt et:TypeId}{x i:Operand}{l g n:Nat}{ob:Ob}{k:Int}
def Uw{Z}{e}{a}{w}(r:Rel Z base nt s e a w){c}{j}{kd:Kd}(z:kd.ty=1)(C:Qo s.fr x=.mref l 0)(y:s.h[l]? = some (VE kd q c j)):
  ∃b d,a.eval x=.map (some b)/\e[l]? = some (some (b,0))/\(kd.ro=false->base<=b)/\w.heap[b]? = some (.map d c)/\jB Z s.h e w q c j d.toList:=by
 have v:=r.eval x;rw[C]at v;obtain⟨J,p,b,u,h,H,K,f⟩:=Dq v;rw[y]at u;cases u;have f:=f rfl;rw[f]at h;obtain⟨I,B⟩:=r.o.at_ l _ b 0 y h;obtain⟨_,d,F,E⟩:=Uv z B;have m:=H.2;have:(VE kd q c j).kd.ty=1:=z;rw[this]at m;exact⟨b,d,m,h,I,F,E⟩
def Ux{Z}{f:List Pl}{a}{w:World}(r:Rel Z base nt s f a w){c}{B}(u:s.h[l]? = some (QM q c B)){b}(m:f[l]? = some (some (b,0)))(C:base<=b){F}(p:w.heap[b]? = some (.map F c))
  {c':Nat} {es':List Zy} {ens':Array MapEntry} (E:∀v d,Tr s.h f w (s.h.set l (QM q c' es')) v d->jB Z (s.h.set l (QM q c' es')) v d q c' es' ens'.toList) :
  ∃d,d={ w with heap:=w.heap.setIfInBounds b (.map ens' c') }/\Tr s.h f w (s.h.set l (QM q c' es')) f d/\Zg Z base (s.h.set l (QM q c' es')) f d/\Below base w d:=by
 have y:=jx p;generalize j:({ w with heap:=w.heap.setIfInBounds b (.map ens' c') }:World)=d;have e:∀c,c≠b->d.heap[c]? = w.heap[c]? := λc z=>by rw[<- j];simp[yd,Q1 z]
 have H:d.heap[b]? = some (.map ens' c'):=by rw[<- j];simp[yd,y]
 have T:=Tr.Ho (w':=d) r.o u m e (o':=QM q c' es') rfl rfl rfl (by rw[p];intro c el h;cases h);exact⟨d,rfl,T,Zg.Ho (hro:=rfl) r.o u m e T (gy H (E f d T) rfl),LH C e (by rw[<- j];simp) (by rw[<- j]) (by rw[<- j]) (by rw[<- j])⟩
def Qjv(p:ZU P L){u m y:Ty}(U:ty L t=some u)(T:u.k=.map kt et)(F:ty L kt=some m)(B:m.k=.int q)(Wj:ty L et=some y)
  {Z:Nat->Prop} {h:List Ob} {C:List Pl} {w:World} {b c:Nat} {r:List Zy} {K:Array MapEntry} (Q:w.heap[b]? = some (.map K c)) (E:jB Z h C w q c r K.toList) (M:Bool) :
  ∃v,Qy Z h C w (match ZP r k with|some d=>d|none=>BM y) v/\∀f:World,f.heap[b]? = w.heap[b]? ->
   (lookup t (.map (some b)) (.int q k) M).run P f=.ok (if M then .tuple #[v,.bool (ZP r k).isSome] else v) f:=by
 have R:=λw:World=>Fp (P:=P) (w:=w) (k:=k) (BI (p kt m F) B) K.isEmpty 9999;have hx:=Dn (p t u U) T;cases O:ZP r k with
 | some d=>
  obtain⟨j,e,J,g2,Y,W,_⟩:=Uu O;obtain⟨a,a1,a2,a3,a4,a5,a6⟩:=E.Xf J g2 W;refine⟨a.val,by rw[<- Y];exact a3,λf H=>?_⟩;have h:=Ut (i0:=0) E.keys (by simpa using a1) a2 (λj e' V Wl=>a6 j e' V (by simpa using Wl));have I:=Hn (P:=P) (w:=f) (BI (p kt m F) B) h;simp[lookup,underlying,hx,getObj,AF (H.trans Q),I,R]
 | none=>
  obtain⟨J,_⟩:=Pe O;obtain⟨z,hz,S⟩:=fF (p et y Wj) (N:=free Z C) w;refine⟨z,.cl _ _ hz,λf H=>?_⟩;have I:=Hn (P:=P) (w:=f) (BI (p kt m F) B) (Us (i:=0) E.keys (E.Dw J));simp[lookup,underlying,hx,getObj,AF (H.trans Q),I,R,S f]
def Qjw(c:ZU P L){d b e:Ty}(u:ty L t=some d)(p:d.k=.map kt et)(j:ty L kt=some b)(f:b.k=.int q)(C:ty L et=some e)
  {N:Nat->Prop} {w:World} (h:Bool):∃v,Cl N w (BM e) v/\∀a:World,(lookup t (.map none) (.int q k) h).run P a=.ok (if h then .tuple #[v,.bool false] else v) a:=by
 obtain⟨z,hz,m⟩:=fF (c et e C) (N:=N) w;refine⟨z,hz,λa=>?_⟩;have y:=Fp (P:=P) (w:=a) (k:=k) (BI (c kt b j) f) true 9999;have B:=Hn (P:=P) (w:=a) (k:=k) (BI (c kt b j) f) (es:=[]) (r:=none) rfl;simp[lookup,underlying,Dn (c t d u) p,B,y,m a]
def Uy(L:ZW)(h:List Ob)(t:TypeId)(x i:D)(b:Bool):Ev:=match ty L t with
 | some ⟨.map kt et,_,_,_⟩=>match ty L kt,ty L et with
  | some ⟨.int q,_,_,_⟩,some a=>match i with
   | .raw (.int c k)=>match x with
    | .mref l g=>match h[l]? with
     | some o=>some (IsMap q o/\c=q/\g=0,match ZP (BV o) k with
      | some d=>bif b then .tup [d,.raw (.bool true)] else d
      | none=>bif b then .tup [BM a,.raw (.bool false)] else BM a)
     | none=>none
    | .raw (.map none)=>some (c=q,bif b then .tup [BM a,.raw (.bool false)] else BM a)
    | _=>none
   | _=>none
  | _,_=>none
 | _=>none
def look_ok(O:ZU P L){z}(C:o.op=.lookup t x i z){p}{d}(h:Uy L s.h t (Qo s.fr x) (Qo s.fr i) z=some (p,d))(K:p):VZ P base nt o s d:=by
 intro Z R a w r;unfold Uy at h;split at h;case h_2=>cases h
 rename_i kt et m1 m2 m3 J;split at h;case h_2=>cases h
 rename_i q n1 n2 n3 W I Q;split at h;case h_2=>cases h
 rename_i Y k B;have u:=r.eval i;rw[B]at u;have u:=Jh u;split at h;case h_3=>cases h
 case h_2 hx=>
  simp only[QX,Q9]at h;obtain⟨rfl,rfl⟩:=h;subst K;have f:=r.eval x;rw[hx]at f;have f:=Jh f;obtain⟨v,m,y⟩:=Qjw (k:=k) O J rfl I rfl Q (N:=free Z R) (w:=w) z;cases z with
  | false=>exact⟨v,.cl _ _ m,λe j=>by simp[execOp,C,f,u,y e]⟩
  | true=>
   refine⟨.tuple #[v,.bool false],.tup _ [v,.bool false] rfl (λi B=>match i,B with
    | 0,_=>.cl _ _ m
    | 1,_=>.cl _ _ (.raw _)),λe j=>by simp[execOp,C,f,u,y e]⟩
 case h_1 l g hx=>
  split at h;case h_2=>cases h
  rename_i ob U;simp only[QX,Q9]at h;obtain⟨rfl,rfl⟩:=h;obtain⟨H,rfl,rfl⟩:=K;obtain⟨kd,c,T,V,_,_,S,H⟩:=H.get;rw[S];subst H;obtain⟨b,QO,f,_,_,F,E⟩:=Uw r V hx U;obtain⟨v,m,y⟩:=Qjv (k:=k) O J rfl I rfl Q F E z;cases M:ZP T k with
  | some d=>
   rw[M]at m y;cases z with
   | false=>exact⟨v,m,λe j=>by simp[execOp,C,f,u,y e (j b (jx F))]⟩
   | true=>
    refine⟨.tuple #[v,.bool true],.tup _ [v,.bool true] rfl (λi B=>match i,B with
     | 0,_=>m
     | 1,_=>.cl _ _ (.raw _)),λe j=>by simp[execOp,C,f,u,y e (j b (jx F))]⟩
  | none=>
   rw[M]at m y;cases z with
   | false=>exact⟨v,m,λe j=>by simp[execOp,C,f,u,y e (j b (jx F))]⟩
   | true=>
    refine⟨.tuple #[v,.bool false],.tup _ [v,.bool false] rfl (λi B=>match i,B with
     | 0,_=>m
     | 1,_=>.cl _ _ (.raw _)),λe j=>by simp[execOp,C,f,u,y e (j b (jx F))]⟩
def Uz(L:ZW)(h:List Ob)(t:TypeId)(x:D):Ev:=match ty L t with
 | some ⟨.map _ _,_,_,_⟩=>match x with
  | .mref l g=>match h[l]? with
   | some o=>some (o.kd.ty=1/\g=o.gen,.raw (.int .i64 ((o.n - 1:Nat):Int)))
   | none=>none
  | .raw (.map none)=>some (True,.raw (.int .i64 0))
  | _=>none
 | _=>none
def Qjx(M:ZU P L){F:Array TypeId}(y:o.op=.call ⟨.builtin .len,#[x],F⟩)(S:F=#[t]){p}{d}(h:Uz L s.h t (Qo s.fr x)=some (p,d))(K:p):VZ P base nt o s d:=by
 subst S;intro Z T a w r;unfold Uz at h;split at h;case h_2=>cases h
 rename_i kt et Y W V J;have v:=Dn (M t _ J) rfl;have e:=r.eval x;split at h;case h_3=>cases h
 case h_2 hx=>
  simp only[QX,Q9]at h;obtain⟨rfl,rfl⟩:=h;rw[hx]at e;have e:=Jh e;refine⟨.int .i64 0,.cl _ _ (.raw _),λj m=>?_⟩;rw[jy y];simp[e,builtin,Builtin.len_,underlying,v,goInt]
 case h_1 l g hx=>
  split at h;case h_2=>cases h
  rename_i ob H;simp only[QX,Q9]at h;obtain⟨rfl,rfl⟩:=h;obtain⟨z,rfl⟩:=K;rw[hx]at e;obtain⟨U,p,b,E,C,O,h4,f⟩:=Dq e;rw[H]at E;cases E;have f:=f rfl;rw[f]at C;obtain⟨Zp,I⟩:=r.o.at_ l _ b 0 H C;obtain⟨_,_,Q,c,B,N,_⟩:=I.map z;have u:=O.2;rw[z]at u;refine⟨.int .i64 ((ob.n - 1:Nat):Int),.cl _ _ (.raw _),λj m=>?_⟩;rw[jy y];have R:j.heap[b]? = some (.map Q c):=by rw[m b (jx B)];exact B
  simp[u,OS,builtin,Builtin.len_,underlying,v,getObj,AF R,N,goInt]
def LN(L:ZW)(h:List Ob)(t:TypeId):Option (Prop × List Ob × D):=match ty L t with
 | some ⟨.map kt _,_,_,_⟩=>match ty L kt with
  | some ⟨.int q,_,_,_⟩=>some (True,h++[QM q 0 []],.mref h.length 0)
  | _=>some (True,h++[QM .i64 0 []],.mref h.length 0)
 | _=>none
def tY(H:ZU P L){u}(C:u=none\/∃k n,u=some (.const (.int k n))/\0<=n)(z:o.op=.makeMap t u){p}{y}{d}(h:LN L s.h t=some (p,y,d)):zK P base nt o s y d:=by
 have E:∃q,p=True/\y=s.h++[QM q 0 []]/\d=.mref s.h.length 0/\∃kt m a b c,ty L t=some ⟨.map kt m,a,b,c⟩:=by
  unfold LN at h;split at h;case h_2=>cases h
  rename_i kt m _ _ _ v;split at h;all_goals
   simp only[QX,Q9]at h;obtain⟨rfl,rfl,rfl⟩:=h;exact⟨_,rfl,rfl,rfl,_,_,_,_,_,v⟩
 obtain⟨q,rfl,rfl,rfl,kt,m,_,_,_,v⟩:=E;intro Z f a w r B;have e:∀b,b<w.heap.size->(w.alloc (.map #[] 0)).heap[b]? = w.heap[b]? := λb F=>kz w _ b F;have J:(w.alloc (.map #[] 0)).heap[w.heap.size]? = some (.map #[] 0):=heap_alloc_new w _;have T:Tr s.h f w (s.h++[QM q 0 []]) (f++[some (w.heap.size,0)]) (w.alloc (.map #[] 0)):=Tr.push r.o e _ _ (by intro b q h;simp at h;omega);have I:f.length=s.h.length:=r.o.len;refine⟨.map (some w.heap.size),w.alloc (.map #[] 0),f++[some (w.heap.size,0)],.inl ?_,T,?_,?_,BQ B _,λ_=>e⟩
 .rcases C with rfl|⟨k,n,rfl,K⟩
  .simp[execOp,z,makeMap]
  .simp[execOp,z,makeMap,Act.eval,underlying,Dn (H t _ v) rfl,asInt,asIntOf]
 .exact Zg.LC r.o e _ (QB _) B (gy (kd:=.map) J ⟨rfl,λi e a h=>by simp at h,λi j a M _ h=>by simp at h⟩ rfl)
 .exact .mref _ _ (QM q 0 []) (some (w.heap.size,0)) w.heap.size σ (by rw[<- I];simp) ⟨by simp[QM,VE,Kd.ty],rfl⟩ (QB _) (λ_=>rfl)
def Fs(L:ZW)(h:List Ob)(t:TypeId)(x i v:D):Option (Prop × List Ob):=match ty L t with
 | some ⟨.map kt _,_,_,_⟩=>match ty L kt with
  | some ⟨.int q,_,_,_⟩=>match x,i with
   | .mref l g,.raw (.int a k)=>match h[l]? with
    | some o=>some (IsMap q o/\a=q/\g=0/\o.kd.ro=false,h.set l (JR q (clockOf o) (BV o) k v))
    | none=>none
   | _,_=>none
  | _=>none
 | _=>none
def tZ{w:World}{b}{f}{c}(d:w.heap[b]? = some (.map f c))(o:Obj):zI w { w with heap:=w.heap.setIfInBounds b o }:=λa v h=>by
 by_cases e:a.block=b
 .simp[World.cell?,e,d]at h
 .rw[World.cell?_of_block (w:=w)]
  .exact h
  .simp[yd,Q1 e]
def ua(hL:ZU P L){v}(ho:o.op=.mapUpdate t x i v){p}{h'}(h:Fs L s.h t (Qo s.fr x) (Qo s.fr i) (Qo s.fr v)=some (p,h'))(hp:p):∀(Z:Nat->Prop) R a w,Rel Z base nt s R a w->base<=w.heap.size->∃v u V,((execOp a.eval o).run P w=.ok (.value v) u\/((execOp a.eval o).run P w=.ok .skip u/\v=Go.undef))/\Tr s.h R w h' V u/\Zg Z base h' V u/\Qy Z h' V u .undef v/\Below base w u/\zI w u:=by
 unfold Fs at h;split at h;case h_2=>cases h
 split at h;case h_2=>cases h
 rename_i kt et _ _ _ ht _ q _ _ _ kI;split at h;case h_2=>cases h
 rename_i l g f k hx hi;split at h;case h_2=>cases h
 rename_i ob Zh;simp only[QX,Q9]at h;obtain⟨rfl,rfl⟩:=h;obtain⟨J,rfl,rfl,W⟩:=hp;obtain⟨kd,c,C,Jw,BW,Jx,kJ,J⟩:=J.get;rw[kJ,Jx];have Ql:kd=.map:=by rw[BW]at W;cases kd<;>first|rfl|(exfalso;revert Jw;decide)|(exfalso;revert W;decide)
 subst Ql;rw[show VE .map f c C=QM f c C from rfl]at J;subst J;intro Z R a w r Kn;have U:=r.eval i;rw[hi]at U;have U:=Jh U;have e3:=r.eval v;obtain⟨b,F,e1,h2,Zp,N,E⟩:=Uw (kd:=.map) r rfl hx Zh;have Zp:=Zp rfl;have Ft:=Dn (hL t _ ht) rfl;have ZL:=BI (hL kt _ kI) rfl;cases Y:ZP C k with
 | some d=>
  obtain⟨j,e,g1,g2,g3,g4,g5,_⟩:=Uu Y;obtain⟨a1,b1,b2,b3,b4,b5,b6⟩:=E.Xf g1 g2 g4;have Zb:=Qjj (P:=P) (w:=w) (k:=k) Ft ZL N E.keys b1 b2 b6 (a.eval v);have J:JR f c C k (Qo s.fr v)=QM f c (C.set j ⟨k,Qo s.fr v,e.b⟩):=by simp only[JR,Y];rw[g5]
  rw[J];obtain⟨u,rfl,T,O,B⟩:=Ux r Zh h2 Zp N (c':=c) (es':=C.set j ⟨k,Qo s.fr v,e.b⟩) (ens':=F.modify j λe=>{ e with key:=.int f k,val:=a.eval v }) (λV u T=>by
   have E':=E.tr T;have Ys:∀(m:Nat) (x:MapEntry),(F.modify j λe=>{ e with key:=.int f k,val:=a.eval v }).toList[m]? = some x->∃y,F.toList[m]? = some y/\x.born=y.born/\(m≠j->x=y)/\(m=j->x.key=.int f k/\x.val=a.eval v):=λm x hx=>by
    have hx:(F.modify j λe=>{ e with key:=.int f k,val:=a.eval v })[m]? = some x:=by rw[<- ku];exact hx
    rw[fo]at hx;split at hx
    .rename_i K;subst K;rw[b1]at hx;simp at hx;subst hx;exact⟨a1,by simpa using b1,rfl,λh=>absurd rfl h,λ_=>⟨rfl,rfl⟩⟩
    .rename_i K;exact⟨x,by simpa using hx,rfl,λ_=>rfl,λh=>absurd h.symm K⟩
   refine⟨by have:=E.len;simp at this ⊢;exact this,λm e' a' Q I=>?_,λM S x y Hq hx H=>?_⟩
   .obtain⟨y,y1,y2,y3,y4⟩:=Ys m a' I;by_cases K:m=j
    .subst K;have Qc:=(Wh.1 g1).1;rw[VX Qc]at Q;cases Q;obtain⟨d1,d2⟩:=y4 rfl;have:y=a1:=by have UA:F.toList[m]? = some a1:=(by simpa using b1);rw [y1] at UA; simpa using UA
     subst this;exact⟨d1,by rw[d2];exact e3.tr T,by rw[y2,b4],by rw[y2];exact b5⟩
    .rw[Jf (Q1 K)]at Q;rw[y3 K];exact E'.at_ m e' y Q y1
   .obtain⟨x',xr,Kc,_⟩:=Ys M x hx;obtain⟨y',Au,ZJ,_⟩:=Ys S y H;rw[Kc,ZJ];exact E.inc M S x' y' Hq xr Au)
  exact⟨Go.undef,_,R,.inr ⟨by simp[execOp,ho,e1,U,Zb],rfl⟩,T,O,.cl _ _ (.undef _),B,tZ N _⟩
 | none=>
  obtain⟨g1,_⟩:=Pe Y;have Zb:=Qjk (P:=P) (w:=w) (k:=k) Ft ZL N E.keys (E.Dw g1) (a.eval v);have J:JR f c C k (Qo s.fr v)=QM f (c+1) (C++[⟨k,Qo s.fr v,c⟩]):=by simp only[JR,Y]
  rw[J];obtain⟨u,rfl,T,O,B⟩:=Ux r Zh h2 Zp N (c':=c+1) (es':=C++[⟨k,Qo s.fr v,c⟩]) (ens':=F.push { key:=.int f k,val:=a.eval v,born:=c }) (λV u T=>by
   have E':=E.tr T;have hl:C.length=F.size:=by have:=E.len;simpa using this
   refine⟨by simp[hl],λm e' a' Q I=>?_,λM S x y Hq hx H=>?_⟩
   .have I:(F.push { key:=.int f k,val:=a.eval v,born:=c })[m]? = some a':=by rw[<- ku];exact I
    rw[Tf]at I;rcases XM Q with h1|⟨h1,Z6⟩
    .have:=(Wh.1 h1).1;rw[Qe ω]at I;obtain⟨k1,k2,k3,k4⟩:=E'.at_ m e' a' h1 (by simpa using I);exact⟨k1,k2,k3,ω⟩
    .subst Z6;rw[Qf ω]at I;cases I;exact⟨rfl,e3.tr T,rfl,σ⟩
   .have hx:(F.push { key:=.int f k,val:=a.eval v,born:=c })[M]? = some x:=by rw[<- ku];exact hx
    have H:(F.push { key:=.int f k,val:=a.eval v,born:=c })[S]? = some y:=by rw[<- ku];exact H
    rw[Tf]at hx H;have Kg:∀(i:Nat) (z:MapEntry),F[i]? = some z->z.born<c:=λi z hz=>by
     have Qc:=(Wg.1 hz).1;exact(E.at_ i (C[i]'ω) z (QP ω) (by simpa using hz)).2.2.2
    split at hx
    .split at H
     .omega
     .have:=(Wg.1 H).1;omega
    .split at H
     .cases H;exact Kg M x hx
     .exact E.inc M S x y Hq (by simpa using hx) (by simpa using H))
  exact⟨Go.undef,_,R,.inr ⟨by simp[execOp,ho,e1,U,Zb],rfl⟩,T,O,.cl _ _ (.undef _),B,tZ N _⟩
def Qjy(u:ZU P L){v}(b:o.op=.mapUpdate t x i v){p}{c}(h:Fs L s.h t (Qo s.fr x) (Qo s.fr i) (Qo s.fr v)=some (p,c))(f:p):zK P base nt o s c .undef:=λZ e a w r m=>by
 obtain⟨v,d,F,E,C,B,z,y,_⟩:=ua u b h f Z e a w r m;exact⟨v,d,F,E,C,B,z,y,λj=>by simp[calm,b]at j⟩
def UB(L:ZW)(h:List Ob)(t:TypeId)(x i:D):Option (Prop × List Ob):=match ty L t with
 | some ⟨.map kt _,_,_,_⟩=>match ty L kt with
  | some ⟨.int q,_,_,_⟩=>match i with
   | .raw (.int a k)=>match x with
    | .mref l g=>match h[l]? with
     | some o=>some (IsMap q o/\a=q/\g=0/\o.kd.ro=false,h.set l (QM q (clockOf o) (JK (BV o) k)))
     | none=>none
    | .raw (.map none)=>some (a=q,h)
    | _=>none
   | _=>none
  | _=>none
 | _=>none
def Qjz(hL:ZU P L){R:TypeId}(C:o.op=.call ⟨.builtin .delete,#[x,i],#[t,R]⟩){p}{h'}(h:UB L s.h t (Qo s.fr x) (Qo s.fr i)=some (p,h'))(hp:p):zK P base nt o s h' (.tup []):=by
 unfold UB at h;split at h;case h_2=>cases h
 split at h;case h_2=>cases h
 rename_i kt et _ _ _ ht _ q _ _ _ kI;have Ft:=Dn (hL t _ ht) rfl;have ZL:=BI (hL kt _ kI) rfl;split at h;case h_2=>cases h
 rename_i q' k m;split at h;case h_3=>cases h
 case h_2 hx=>
  simp only[QX,Q9]at h;obtain⟨rfl,rfl⟩:=h;subst hp;intro Z I a w r Kn;have f:=r.eval i;rw[m]at f;have f:=Jh f;have u:=r.eval x;rw[hx]at u;have u:=Jh u;have h3:=Fp (P:=P) (w:=w) (k:=k) ZL true 9999;refine⟨.tuple #[],w,I,.inl ?_,Tr.refl _ _ _,r.o,.tup [] [] rfl (λi m=>absurd m (XL i)),Below.refl _ _,λ_=>Ext.refl w⟩;rw[jy C];simp[u,f,builtin,Builtin.delete_,underlying,Ft,h3]
 case h_1 l g hx=>
  split at h;case h_2=>cases h
  rename_i ob Y;simp only[QX,Q9]at h;obtain⟨rfl,rfl⟩:=h;obtain⟨J,rfl,rfl,H⟩:=hp;obtain⟨kd,c,v,Jw,BW,Jx,kJ,J⟩:=J.get;rw[kJ,Jx];have Ql:kd=.map:=by rw[BW]at H;cases kd<;>first|rfl|(exfalso;revert Jw;decide)|(exfalso;revert H;decide)
  subst Ql;rw[show VE .map q' c v=QM q' c v from rfl]at J;subst J;intro Z I a w r Kn;have f:=r.eval i;rw[m]at f;have f:=Jh f;obtain⟨b,z,u,h2,M,K,E⟩:=Uw (kd:=.map) r rfl hx Y;have M:=M rfl;cases hf:ZP v k with
  | some d=>
   obtain⟨j,e,W,g2,g3,g4,g5,V⟩:=Uu hf;obtain⟨a1,b1,b2,b3,b4,b5,b6⟩:=E.Xf W g2 g4;have Zb:=Qjl (P:=P) (w:=w) (k:=k) (ty:=o.type) (kt2:=R) Ft ZL K E.keys b1 b2 b6;rw[V];have a2:j<z.size:=(Wg.1 b1).1;obtain⟨Q,rfl,T,O,B⟩:=Ux r Y h2 M K (c':=c) (es':=v.eraseIdx j) (ens':=z.eraseIdxIfInBounds j) (λQh Q T=>by
    have E':=E.tr T;have hl:v.length=z.size:=by have:=E.len;simpa using this
    have a0:(z.eraseIdxIfInBounds j).toList=z.toList.eraseIdx j:=by simp[Array.eraseIdxIfInBounds,a2,Array.toList_eraseIdx]
    rw[a0];refine⟨by simp[List.length_eraseIdx,hl],λi' e' a' N F=>?_,λi1 i2 x y Hq hx S=>?_⟩
    .rw[List.getElem?_eraseIdx]at N F;split at N
     .rw[Qf ‹_›]at F;exact E'.at_ _ _ _ N F
     .rw[Qe ‹_›]at F;exact E'.at_ _ _ _ N F
    .rw[List.getElem?_eraseIdx]at hx S;split at hx<;>split at S<;>exact E.inc _ _ x y ω hx S)
   refine⟨.tuple #[],_,I,.inl ?_,T,O,.tup [] [] rfl (λi m=>absurd m (XL i)),B,λU=>by simp[calm,C]at U⟩;rw[jy C];simp[u,f,builtin,Zb]
  | none=>
   obtain⟨W,_,V⟩:=Pe hf;have Zb:=Qjm (P:=P) (w:=w) (k:=k) (ty:=o.type) (kt2:=R) Ft ZL K E.keys (E.Dw W);rw[V];obtain⟨Q,rfl,T,O,B⟩:=Ux r Y h2 M K (c':=c) (es':=v) (ens':=z) (λQh Q T=>E.tr T);refine⟨.tuple #[],_,I,.inl ?_,T,O,.tup [] [] rfl (λi m=>absurd m (XL i)),B,λU=>by simp[calm,C]at U⟩;rw[jy C];simp[u,f,builtin,Zb]
def Fu(l c d:Nat)(a:List Nat):Nat->List D
 | 0=>[.mref l 0]
 | 1=>[.raw (.int .i64 c)]
 | 2=>[.raw (.int .i64 d)]
 | r+3=>match a[r]? with
  | some b=>[.raw (.int .i64 b)]
  | none=>[.undef]
def XP(l c b:Nat)(a:List Nat):Ob:=⟨.iter,0,1,a.length+3,Fu l c b a⟩
def UC(L:ZW)(h:List Ob)(t:TypeId)(x:D):Option (Prop × List Ob × D):=match ty L t with
 | some ⟨.map _ _,_,_,_⟩=>match x with
  | .mref l g=>match h[l]? with
   | some o=>some (IsMap .i64 o/\g=0,h++[XP l (clockOf o) (clockOf o) []],.mref h.length 0)
   | none=>none
  | _=>none
 | _=>none
def ub{Z}{h}{j}{w:World}{l c e}{a}{b m}{d:Array Nat}(r:w.heap[b]? = some (.mapIter (some m) c d e))(f:d.toList=a)(p:Qy Z h j w (.mref l 0) (.map (some m))):Kb Z h j w (XP l c e a) b 0:=by
 subst f;refine Kb.th rfl ⟨rfl,rfl,m,c,e,d,r,by simp[XP],λi _=>?_,p,.cl _ _ (.raw _),.cl _ _ (.raw _),λi s f=>?_⟩
 .show (Fu l c e d.toList i).length=1;unfold Fu;split<;>(try split)<;>rfl
 .have f:d.toList[i]? = some s:=by simpa using f
  show Qy Z h j w (nth (Fu l c e d.toList (i+3)) 0) _;have:Fu l c e d.toList (i+3)=[.raw (.int .i64 s)]:=by simp only[Fu,f]
  rw[this];exact .cl _ _ (.raw _)
def uc{Z}{h}{r}{w:World}{l c j}{a}{b p}(x:Kb Z h r w (XP l c j a) b p):p=0/\∃(m:Nat) (f:Array Nat),w.heap[b]? = some (.mapIter (some m) c f j)/\f.toList=a/\Qy Z h r w (.mref l 0) (.map (some m)):=by
 obtain⟨H,_,m,d,e,f,F,E,_,C,B,z,y⟩:=x.iter rfl;have K:d=c:=by have:=Jh B;simp at this;omega
 have J:e=j:=by have:=Jh z;simp at this;omega
 subst K;subst J;refine⟨H,m,f,F,?_,C⟩;have M:a.length=f.size:=by simpa[XP] using E
 apply xh;intro i;by_cases u:i<f.size
 .have v:=y i f[i] (zF u);have I:(XP l d e a).row (i+3)=[.raw (.int .i64 (a[i]'ω))]:=by
   show Fu l d e a (i+3)=_;simp only[Fu,QP (show i<a.length from ω)]
  rw[I]at v;have:=Jh v;simp at this;rw[QP (show i<f.toList.length by simpa using u),QP (show i<a.length from ω)];simp only[Array.getElem_toList,QX];omega
 .rw[Dg ξ,Dg ω]
def QjC(I:ZU P L)(H:o.op=.range t x){p}{y}{d}(h:UC L s.h t (Qo s.fr x)=some (p,y,d))(F:p):zK P base nt o s y d:=by
 unfold UC at h;split at h;case h_2=>cases h
 rename_i kt et _ _ _ C;split at h;case h_2=>cases h
 rename_i l g hx;split at h;case h_2=>cases h
 rename_i ob J;simp only[QX,Q9]at h;obtain⟨rfl,rfl,rfl⟩:=h;obtain⟨m,rfl⟩:=F;obtain⟨R,c,U,O,_,N,_,m⟩:=m.get;rw[N];subst m;intro Z j a w r B;obtain⟨b,V,z,S,_,u,E⟩:=Uw r O hx J;have M:=Qjn (P:=P) (w:=w) (Dn (I t _ C) rfl) u;have e:∀f,f<w.heap.size->(w.alloc (.mapIter (some b) c #[] c)).heap[f]? = w.heap[f]? := λf u=>kz w _ f u;have Q:(w.alloc (.mapIter (some b) c #[] c)).heap[w.heap.size]? = some (.mapIter (some b) c #[] c):=heap_alloc_new w _;have T:Tr s.h j w (s.h++[XP l c c []]) (j++[some (w.heap.size,0)]) (w.alloc (.mapIter (some b) c #[] c)):=Tr.push r.o e _ _ (by intro b q h;simp at h;omega);have K:j.length=s.h.length:=r.o.len;have v:=r.eval x;rw[hx,z]at v;refine⟨.pointer (some ⟨w.heap.size,0,none⟩),w.alloc (.mapIter (some b) c #[] c),j++[some (w.heap.size,0)],.inl ?_,T,?_,?_,BQ B _,λ_=>e⟩
 .simp[execOp,H,z,M]
 .exact Zg.LC r.o e _ (QB _) B (ub Q rfl (v.tr T))
 .exact .mref _ _ (XP l c c []) (some (w.heap.size,0)) w.heap.size σ (by rw[<- K];simp) ⟨by simp[XP,Kd.ty],rfl⟩ (QB _) (λ_=>rfl)
def QjD(ho:o.op=.next x false){Z}{M}{a}{w:World}(r:Rel Z base nt s M a w)(Kn:base<=w.heap.size){J c}{u}{d}(hx:Qo s.fr x=.mref J 0)(R:s.h[J]? = some (XP l c c d)){V:Kd}(Jw:V.ty=1)(Zh:s.h[l]? = some (VE V q c u)):
  ((∀e∈u,e.b∈d)/\(execOp a.eval o).run P w=.ok (.value (.tuple #[.bool false])) w) \/
  ∃e∈u,e.b ∉ d/\∃v f,(execOp a.eval o).run P w=.ok (.value v) f/\Tr s.h M w (s.h.set J (XP l c c (d++[e.b]))) M f/\Zg Z base (s.h.set J (XP l c c (d++[e.b]))) M f /\
   Qy Z (s.h.set J (XP l c c (d++[e.b]))) M f (.tup [.raw (.bool true),.raw (.int q e.k),e.v]) v/\Below base w f:=by
 have e1:=r.eval x;rw[hx]at e1;obtain⟨o',p,b,h1,O,h3,h4,h5⟩:=Dq e1;rw[R]at h1;cases h1;have h5:=h5 rfl;rw[h5]at O;obtain⟨Zp,kG⟩:=r.o.at_ J _ b 0 R O;obtain⟨_,m,I,hb,AH,Pf⟩:=uc kG;have hv:a.eval x=.pointer (some ⟨b,0,none⟩):=h3.2;obtain⟨o2,p2,bm,k1,k2,K,k4,W⟩:=Dq Pf;rw[Zh]at k1;cases k1;have W:=W rfl;rw[W]at k2;have K:=K.2;rw[show (VE V q c u).kd.ty=1 from Jw]at K;have K:m=bm:=by simpa[OS] using K
 subst K;obtain⟨Pg,gz⟩:=r.o.at_ l _ m 0 Zh k2;obtain⟨_,H,Hr,E⟩:=Uv Jw gz;have hl:u.length=H.toList.length:=E.len;have N:∀y∈H.toList,y.born<c:=λy hy=>by
  obtain⟨j,C⟩:=E6 hy;have Qc:=(Wh.1 C).1;exact(E.at_ j (u[j]'ω) y (QP ω) C).2.2.2
 rcases run_next_at (P:=P) w o.type b m c c I H c hb Hr N (QB _) with ⟨F,Q⟩|⟨y,F,U,Q,g3⟩
 .refine .inl ⟨λe he=>?_,by simp[execOp,ho,hv,Q]⟩;obtain⟨j,C⟩:=E6 he;have Qc:=(Wh.1 C).1;obtain⟨_,_,e3,_⟩:=E.at_ j e (H.toList[j]'ω) C (QP ω);have gA:∀z∈H.toList,I.contains z.born=true:=λz hz=>by
   have:leftOf H I=#[]:=Array.eq_empty_of_size_eq_zero F;unfold leftOf at this;rw[Array.filter_eq_empty_iff]at this;have:=this z (by simpa using hz);simpa using this
  have:=gA _ (XK (show j<H.toList.length from ω));rw[e3]at this;rw[<- AH];simpa using this
 .obtain⟨j,C⟩:=E6 (show y∈H.toList by unfold leftOf at F;simp at F;simpa using F.1);have Qc:=(Wh.1 C).1;obtain⟨d1,d2,d3,d4⟩:=E.at_ j (u[j]'ω) y (QP ω) C;have Fv:y.born ∉ I.toList:=by unfold leftOf at F;simp at F;simpa using F.2
  refine .inr ⟨u[j]'ω,XK _,by rw[<- d3,<- AH];exact Fv,?_⟩;rw[<- d3];have hh:U.heap=w.heap:=by rcases Q with rfl|rfl<;>rfl
  generalize S:ChangeMaps.setBlock U b (.mapIter (some m) c (I.push y.born) c)=f at g3;have yB:=jx hb;have gB:f.heap=w.heap.setIfInBounds b (.mapIter (some m) c (I.push y.born) c):=by rw[<- S,<- hh];rfl
  have e:∀k,k≠b->f.heap[k]? = w.heap[k]? := λk Y=>by rw[gB];simp[yd,Q1 Y]
  have JQ:f.heap[b]? = some (.mapIter (some m) c (I.push y.born) c):=by rw[gB];simp[yd,yB]
  have T:=Tr.Ho (w':=f) r.o R O e (o':=XP l c c (d++[y.born])) rfl rfl rfl (by rw[hb];intro c el h;cases h);refine⟨_,f,by simp only[execOp,ho,hv,Sem.run_bind,g3,Result.andThen_ok];rfl,T,Zg.Ho (hro:=rfl) r.o R O e T (ub JQ (by rw[Array.toList_push,AH]) (Pf.tr T)),?_,?_⟩
  .rw[d1];exact .tup _ [.bool true,.int q (u[j]'ω).k,y.val] rfl λi hi=>match i,hi with
    | 0,_=>.cl _ _ (.raw _)
    | 1,_=>.cl _ _ (.raw _)
    | 2,_=>d2.tr T
  .have B:Below base w U:=by
    rcases Q with rfl|rfl
    .exact .refl _ _
    .exact(Below.refl _ _).drew
   refine B.trans (LH (Zp rfl) (λk Y=>by rw[hh];exact e k Y) (by rw[gB,hh];simp) (by rw[<- S];rfl) (by rw[<- S];rfl) (by rw[<- S];rfl))
end
def Wm(k:List Int):Value:=.agg (k.map (Value.int .u16)).toArray
structure Xg where
 k:List Int
 v:D
 b:Nat
def ZR(c:Nat)(a:List Xg):Nat->List D
 | 0=>[.raw (.int .i64 c),.undef,.undef]
 | r+1=>match a[r]? with
  | some e=>[.raw (Wm e.k),e.v,.raw (.int .i64 e.b)]
  | none=>[.undef,.undef,.undef]
def jC(b:Kd)(c:Nat)(a:List Xg):Ob:=⟨b,0,3,a.length+1,ZR c a⟩
def kN(c:Nat)(a:List Xg):Ob:=jC .map c a
def WO:List Xg->List Int->Option D
 | [],_=>none
 | e::r,k=>if e.k=k then some e.v else WO r k
def QjE:Value->Int
 | .int _ n=>n
 | _=>0
def gD:D->List Int
 | .raw (.agg a)=>a.toList.map QjE
 | _=>[]
def yC(o:Ob):List Xg:=(List.range (o.n - 1)).map λi=>⟨gD (nth (o.row (i+1)) 0),nth (o.row (i+1)) 1,(Fq (nth (o.row (i+1)) 2)).toNat⟩
def LO(o:Ob):Prop:=o.kd.ty=1/\o=jC o.kd (clockOf o) (yC o)/\∀e∈yC o,e.k.length=4
def QjF(k):gD (.raw (Wm k))=k:=by
 simp only[gD,Wm,E7]
 conv=>rhs;rw[<- List.map_id k]
 exact Tq λn _=>rfl
theorem ud(a:Kd)(c)(b:List Xg):clockOf (jC a c b)=c:=by simp[clockOf,jC,ZR,nth,Fq]
theorem ue(b:Kd)(c)(a:List Xg):yC (jC b c a)=a:=by
 apply xh;intro i;simp only[yC,jC,ZR,Ls,Kl,Tm];by_cases h:i<a.length
 .simp[Tm h,nth,Fq,h,QjF]
 .rw[Dg (by simpa using h)];simp[h]
theorem uf(c)(a:List Xg):clockOf (kN c a)=c:=ud _ _ _
theorem UD(c)(a:List Xg):yC (kN c a)=a:=ue _ _ _
theorem QjG(c)(a:List Xg):LO (kN c a)=∀e∈a,e.k.length=4:=by
 refine propext ⟨λh=>by have:=h.2.2;rwa [UD]at this,λh=>⟨rfl,?_,by rwa [UD]⟩⟩;rw[uf,UD];rfl
theorem ug(o:Ob):yC o.ro=yC o:=rfl
theorem QjH(o:Ob):LO o.ro=LO o:=by
 obtain⟨k,g,z,n,r⟩:=o;simp only[LO,gw,ug];simp only[Ob.ro,jC,Kd.toRo_ty,Ob.mk.injEq,yj]
theorem QjI(c)(a:List Xg):(kN c a).kd=.map:=rfl
def uh(q):QM q 0 []=kN 0 []:=by
 have:yA q 0 []=ZR 0 []:=by
  funext r;cases r<;>rfl
 unfold QM VE kN jC;rw[this];rfl
def ui:∀{c:List Xg} {k:List Int} {v:D},WO c k=some v->∃(j:Nat) (e:Xg),c[j]? = some e/\e.k=k/\e.v=v/\∀(i:Nat) (b:Xg),i<j->c[i]? = some b->b.k≠k
 | [],_,_,h=>by simp[WO]at h
 | e::r,k,v,h=>by
  simp only[WO]at h;by_cases a:e.k=k
  .rw[Qf a]at h;cases h;exact⟨0,e,rfl,a,rfl,λi _ d=>absurd d (XL i)⟩
  .rw[Qe a]at h;obtain⟨j,b,m,l,g,f⟩:=ui h;refine⟨j+1,b,by simpa using m,l,g,λi x d hx=>?_⟩;cases i with
   | zero=>simp at hx;subst hx;exact a
   | succ i=>exact f i x ω (by simpa using hx)
def uj:∀{b:List Xg} {k:List Int},WO b k=none->∀e∈b,e.k≠k
 | [],_,_=>σ
 | e::r,k,h=>by
  simp only[WO]at h;by_cases a:e.k=k
  .rw[Qf a]at h;cases h
  .rw[Qe a]at h;intro x hx;rcases QE.1 hx with rfl|h2
   .exact a
   .exact uj h x h2
def uk:∀(a b:List Int),a.length=b.length->YZ (a.map (Value.int .u16)) (b.map (Value.int .u16))=some (decide (a=b))
 | [],[],_=>rfl
 | [],_::_,h=>by simp at h
 | _::_,[],h=>by simp at h
 | x::a,y::b,h=>by
  simp only[JN,YZ,Yr,uk a b (by simpa using h)];have:IntKind.same .u16 .u16=true:=rfl;simp only[this,ky,QX,EZ];by_cases d:x=y<;>by_cases c:a=b<;>simp[d,c]
def um(k:List Int):(k.map (Value.int .u16)).map cat=List.replicate k.length 0:=by
 induction k with
 | nil=>rfl
 | cons a k b=>simp only[JN,VK,Tv,b];rfl
structure HK (P:Program) (kt:TypeId):Prop where
 eq:gp P kt [0,0,0,0]
 arr:∃u,P.underlying kt=some (.array 4 u)/\P.underlying u=some (.int .u16)
section
variable {P:Program}{kt:TypeId}(H:HK P kt)
include H
theorem HK.equal(w){a b:List Int}(d:a.length=4)(c:b.length=4):(Op.equal kt (Wm a) (Wm b)).run P w=.ok (decide (a=b)) w:=by
 obtain⟨u,e,_⟩:=H.arr;have:=Un 60 10000 kt [0,0,0,0] ω H.eq.shape w (a.map (.int .u16)) (b.map (.int .u16)) (decide (a=b)) (by rw[um,d];rfl) (by rw[um,c];rfl) (uk a b (by rw[d,c]));unfold valOf at this;rw[e]at this;exact this
theorem HK.check(l)(w){k:List Int}(t:k.length=4):(checkKey l 10000 kt (Wm k)).run P w=.ok () w:=by
 obtain⟨u,g,a⟩:=H.arr;obtain⟨i,s⟩:=info_of_underlying a;have d:Y0 P 59 u=some [0]:=by unfold Y0;rw[a]
 have f:P.cellsOf u=1:=by
  have h:=H.eq.shape;unfold Y0 at h;rw[g]at h;simp only[d]at h;split at h
  .assumption
  .cases h
 have m:∀j,j<4->∃n,(part u (k.map (Value.int .u16)).toArray j).run P w=.ok (.int .u16 n) w:=λj e=>by
  have:=Pa d f w (k.map (Value.int .u16)) j ξ;refine⟨k.getD j 0,?_⟩;rw[this];unfold valOf;rw[a];have:j<k.length:=ω;simp[QY,this]
 rw[show (10000:Nat)=9999+1 from rfl];unfold Wm;rw[Instr.checkKey];simp only[Sem.run_bind,run_underlying g,Result.andThen_ok];simp only[Std.Legacy.Range.forIn_eq_forIn_range',Std.Legacy.Range.size,Fb,Nat.add_one_sub_one,Nat.div_one];have b:∀j∈List.range' 0 4 1,j<4:=λj e=>by simp[List.mem_range']at e;omega
 generalize List.range' 0 4 1=c at b;induction c with
 | nil=>simp
 | cons j c q=>
  obtain⟨n,p⟩:=m j (b j σ);have o:=Fp (P:=P) (w:=w) (k:=n) a l 9998;simp only[List.forIn_cons,Sem.run_bind,run_sizeOf w s,Result.andThen_ok,f,Nat.mul_one,p,o,Sem.run_pure];exact q λy r=>b y (by simp[r])
theorem HK.Dw(w){k:List Int}(c:k.length=4):∀(b:List MapEntry) (i:Nat),(∀e∈b,∃a,a.length=4/\e.key=Wm a/\a≠k)->(findAsking kt (Wm k) b i).run P w=.ok none w
 | [],_,_=>by simp[findAsking]
 | e::b,i,h=>by
  obtain⟨a,g,f,d⟩:=h e σ;have:=H.equal w c g;rw[QS (Q1 d)]at this;simp[findAsking,f,this,HK.Dw w c b (i+1) λx hx=>h x (by simp[hx])]
theorem HK.Xf(w){k:List Int}(d:k.length=4):∀(a:List MapEntry) (b j:Nat) (e:MapEntry),a[j]? = some e->e.key=Wm k->(∀(i:Nat) (f:MapEntry),i<j->a[i]? = some f->∃c,c.length=4/\f.key=Wm c/\c≠k) ->
  (findAsking kt (Wm k) a b).run P w=.ok (some (b+j,e.val)) w
 | [],_,_,_,h,_,_=>by simp at h
 | x::a,b,0,e,h,hx,_=>by
  simp at h;subst h;have:=H.equal w d d;rw[Q3 rfl]at this;simp[findAsking,hx,this]
 | x::a,b,j+1,e,h,hx,g=>by
  obtain⟨c,p,o,n⟩:=g 0 x ω rfl;have:=H.equal w d p;rw[QS (Q1 n)]at this;have l:=HK.Xf w d a (b+1) j e (by simpa using h) hx λi f q m=>g (i+1) f ω (by simpa using m);simp[findAsking,o,this,l];omega
theorem HK.find(w){k}{a:List MapEntry}{r}(h:(findAsking kt (Wm k) a 0).run P w=.ok r w):(findKey kt (Wm k) a).run P w=.ok r w:=by
 obtain⟨u,b,_⟩:=H.arr;cases a with
 | nil=>simpa[findKey,underlying,b,findNow,findAsking] using h
 | cons e a=>
  simp only[findKey,underlying,b,findNow,sameNow,Sem.run_bind];simpa[underlying,b] using h
end
structure AI (Z:Nat->Prop) (h:List Ob) (pl:List Pl) (w:World) (c:Nat) (es:List Xg) (QO:List MapEntry):Prop where
 len:es.length=QO.length
 at_:∀(i:Nat) (e:Xg) (a:MapEntry),es[i]? = some e->QO[i]? = some a->a.key=Wm e.k/\Qy Z h pl w e.v a.val/\a.born=e.b/\a.born<c
 inc:∀(i j:Nat) (a a':MapEntry),i<j->QO[i]? = some a->QO[j]? = some a'->a.born<a'.born
def QjJ{Z}{h}{e}{w:World}{c}{d}{b}{k:Array MapEntry}(o:w.heap[b]? = some (.map k c))(E:AI Z h e w c d k.toList){l:Kd}(u:l.ty=1):Kb Z h e w (jC l c d) b 0:=by
 refine Kb.ofMap u ⟨rfl,rfl,k,c,o,by have:=E.len;simp at this;simp[jC,this],λi _=>?_,.cl _ _ (.raw _),λi a n=>?_,λi j a s t g f=>E.inc i j a s t (by simpa using g) (by simpa using f)⟩
 .show (ZR c d i).length=3;cases i with
  | zero=>rfl
  | succ i=>simp only[ZR];split<;>rfl
 .have Qc:=(Wg.1 n).1;have m:i<d.length:=by have:=E.len;simp at this;omega
  obtain⟨g,f,q,p⟩:=E.at_ i d[i] a (QP m) (by simpa using n);have r:ZR c d (i+1)=[.raw (Wm d[i].k),d[i].v,.raw (.int .i64 d[i].b)]:=by simp[ZR,m]
  show _/\Qy Z h e w (nth (ZR c d (i+1)) 0) _/\Qy Z h e w (nth (ZR c d (i+1)) 1) _/\Qy Z h e w (nth (ZR c d (i+1)) 2) _;rw[r];exact⟨p,by rw[g];exact .cl _ _ (.raw _),f,by rw[q];exact .cl _ _ (.raw _)⟩
def QjK{Z}{h}{l}{w:World}{c}{g}{b p}{k:Kd}(M:k.ty=1)(x:Kb Z h l w (jC k c g) b p):p=0/\∃f:Array MapEntry,w.heap[b]? = some (.map f c)/\AI Z h l w c g f.toList:=by
 obtain⟨F,_,f,d,E,C,_,B,z,y⟩:=x.map M;have t:d=c:=by
  have:=Jh B;simp at this;omega
 subst t;have r:g.length=f.size:=by simpa[jC] using C
 refine⟨F,f,E,by simpa using r,λi e a s u=>?_,λi j a K L I H=>y i j a K L (by simpa using I) (by simpa using H)⟩;obtain⟨q,o,n,m⟩:=z i a (by simpa using u);have J:(jC k d g).row (i+1)=[.raw (Wm e.k),e.v,.raw (.int .i64 e.b)]:=by simp[jC,ZR,s]
 rw[J]at o n m;have:=Jh o;have v:=Jh m;refine⟨this,n,?_,q⟩;simp at v;omega
def AI.tr{Z}{h f}{d j}{w b}(T:Tr h d w f j b){c}{g}{k}(E:AI Z h d w c g k):AI Z f j b c g k:=
 ⟨E.len,λi e a m l=>let ⟨p,o,n⟩:=E.at_ i e a m l;⟨p,o.tr T,n⟩,E.inc⟩
def Fw:List D->Option (List Int)
 | []=>some []
 | .raw (.int .u16 n)::r=>match Fw r with
  | some l=>some (n::l)
  | none=>none
 | _=>none
def uo:∀{b:List D} {l:List Int},Fw b=some l->AD b=some (l.map (Value.int .u16))
 | [],l,e=>by simp[Fw]at e;subst e;rfl
 | c::b,l,e=>by
  unfold Fw at e;split at e
  .rename_i a;cases a
  .rename_i n r a;simp only[EZ]at a;obtain⟨rfl,rfl⟩:=a;split at e
   .rename_i f d;simp only[QX]at e;subst e;simp[AD,uo d]
   .cases e
  .cases e
def vT(L:ZW)(E:BT)(a:TypeId)(b:List D):Option (List Int):=match ty L a with
 | some ⟨.array n u,_,_,_⟩=>match ty L u,kF E a with
  | some ⟨.int q,_,_,_⟩,some l=>bif Nat.beq n 4&&IntKind.same q .u16&&Hl l [0,0,0,0] then match Fw b with
    | some k=>bif Nat.beq k.length 4 then some k else none
    | none=>none
   else none
  | _,_=>none
 | _=>none
def QjL{P:Program}{t e:TypeId}{n}{y:Ty}(h:Wz P t y)(b:y.k=.array n e):P.underlying t=some (.array n e):=by
 obtain⟨d,c,a⟩:=h.under;rw[b]at a;rw[c];cases d<;>simp[TK.of]at a;rw[a.1,a.2]
def uq{P}{L}{E}(d:ZU P L)(r:yz P E){b:TypeId}{e}{k:List Int}(h:vT L E b e=some k):HK P b/\k.length=4/\Fw e=some k:=by
 unfold vT at h;split at h;case h_2=>cases h
 rename_i n u _ _ _ i;split at h;case h_2=>cases h
 rename_i q _ _ _ l g p;obtain⟨a,h⟩:=zJ h;simp only[ZH]at a;have m:=OL a.1.1;have j:=IntKind.fC a.1.2;have o:=Up a.2;subst m;subst j;subst o;split at h;case h_2=>cases h
 rename_i f s;cases c:Nat.beq f.length 4 with
 | false=>rw[c]at h;cases h
 | true=>
  rw[c]at h;cases h;exact⟨⟨r _ _ p,u,QjL (d b _ i) rfl,BI (d u _ g) rfl⟩,OL c,s⟩
section
variable {P:Program}{L:ZW}{E:BT}{base nt:Nat}{s:St}{o:Oper}{t:TypeId}{x i:Operand}
def ur{Z}{e}{a:Act}{w}(r:Rel Z base nt s e a w){c}{k}(h:Qo s.fr i=.agg c)(g:Fw c=some k):a.eval i=Wm k:=by
 have b:=r.eval i;rw[h]at b;obtain⟨d,f,j,l⟩:=Ha b;rw[f,Uq (uo g) d j l];rfl
def uu{Z}{f}{a}{w}(r:Rel Z base nt s f a w){l c}{j}{d:Kd}(u:d.ty=1)(y:Qo s.fr x=.mref l 0)(q:s.h[l]? = some (jC d c j)):
  ∃b e,a.eval x=.map (some b)/\f[l]? = some (some (b,0))/\(d.ro=false->base<=b)/\w.heap[b]? = some (.map e c)/\AI Z s.h f w c j e.toList:=by
 have n:=r.eval x;rw[y]at n;obtain⟨F,p,b,m,h,B,H,g⟩:=Dq n;rw[q]at m;cases m;have g:=g rfl;rw[g]at h;obtain⟨C,v⟩:=r.o.at_ l _ b 0 q h;obtain⟨_,e,z,E⟩:=QjK u v;have k:=B.2;have:(jC d c j).kd.ty=1:=u;rw[this]at k;exact⟨b,e,k,h,C,z,E⟩
def UE(L:ZW)(E:BT)(h:List Ob)(t:TypeId)(x i:D):Ev:=match ty L t with
 | some ⟨.map b c,_,_,_⟩=>match ty L c,i,x with
  | some a,.agg e,.mref l g=>match vT L E b e,h[l]? with
   | some k,some o=>some (LO o/\g=0,match WO (yC o) k with
    | some d=>.tup [d,.raw (.bool true)]
    | none=>.tup [BM a,.raw (.bool false)])
   | _,_=>none
  | _,_,_=>none
 | _=>none
def AI.keyed{Z:Nat->Prop}{h:List Ob}{j:List Pl}{w:World}{c:Nat}{b:List Xg}{g:List MapEntry}(R:AI Z h j w c b g)(k:∀e∈b,e.k.length=4)(i:Nat)(a:MapEntry)(f:g[i]? = some a):∃e,b[i]? = some e/\e.k.length=4/\a.key=Wm e.k:=by
 have d:i<b.length:=by have:=(Wh.1 f).1;rw[R.len];exact this
 exact⟨b[i],QP d,k _ (XK d),(R.at_ i b[i] a (QP d) f).1⟩
def AI.Dw{Z}{h}{j}{w}{c}{d}{f:List MapEntry}(R:AI Z h j w c d f)(q:∀e∈d,e.k.length=4){g:TypeId}(H:HK P g){k:List Int}(m:k.length=4)(l:WO d k=none)(b):(findKey g (Wm k) f).run P b=.ok none b:=by
 refine H.find b (H.Dw b m f 0 λa p=>?_);obtain⟨i,n⟩:=E6 p;obtain⟨e,v,u,r⟩:=R.keyed q i a n;exact⟨e.k,u,r,uj l e (OJ v)⟩
def QjM(B:ZU P L)(hE:yz P E)(Q:o.op=.lookup t x i true){p}{d}(h:UE L E s.h t (Qo s.fr x) (Qo s.fr i)=some (p,d))(hp:p):VZ P base nt o s d:=by
 intro Z pl a w r;unfold UE at h;split at h;case h_2=>cases h
 rename_i kt et _ _ _ ht;split at h;case h_2=>cases h
 rename_i ye cs l g Wj n hx;split at h;case h_2=>cases h
 rename_i k u hk Zh;simp only[QX,Q9]at h;obtain⟨rfl,rfl⟩:=h;obtain⟨⟨Hp,y,C⟩,rfl⟩:=hp;obtain⟨H,J,Jx⟩:=uq B hE hk;have W:=ur r n Jx;obtain⟨K,Jw⟩:∃K,K=u.kd:=⟨_,rfl⟩;obtain⟨c,hc⟩:∃c,c=clockOf u:=⟨_,rfl⟩;obtain⟨I,M⟩:∃I,I=yC u:=⟨_,rfl⟩;rw[<- Jw]at Hp y;rw[<- hc,<- M]at y;rw[<- M]at C ⊢;rw[y]at Zh;obtain⟨b,m,Y,_,_,q,R⟩:=uu r Hp hx Zh;have hx:=Dn (B t _ ht) rfl;have U:=λf:World=>H.check m.isEmpty f J;cases T:WO I k with
 | some d=>
  obtain⟨j,e,V,g2,g3,g4⟩:=ui T;have S:j<m.toList.length:=by rw[<- R.len];exact(Wh.1 V).1
  obtain⟨k1,k2,_⟩:=R.at_ j e m.toList[j] V (QP S);have F:∀f:World,(findKey kt (Wm k) m.toList).run P f=.ok (some (j,m.toList[j].val)) f:=λf=>by
   have:=H.find f (H.Xf f J m.toList 0 j m.toList[j] (QP S) (by rw[k1,g2]) λO a' Ji Vy=>by
    obtain⟨e',q1,q2,q3⟩:=R.keyed C O a' Vy;exact⟨e'.k,q2,q3,g4 O e' Ji q1⟩)
   rwa [Jv]at this
  refine⟨.tuple #[m.toList[j].val,.bool true],.tup _ [_,.bool true] rfl (λi n=>match i,n with
   | 0,_=>by rw[<- g3];exact k2
   | 1,_=>.cl _ _ (.raw _)),λf v=>?_⟩
  simp[execOp,Q,Y,W,lookup,underlying,hx,getObj,AF ((v b (jx q)).trans q),F f,U f]
 | none=>
  obtain⟨z,hz,qC⟩:=fF (B et ye Wj) (N:=free Z pl) w;refine⟨.tuple #[z,.bool false],.tup _ [z,.bool false] rfl (λi n=>match i,n with
   | 0,_=>.cl _ _ hz
   | 1,_=>.cl _ _ (.raw _)),λf v=>?_⟩
  have F:=R.Dw C H J T f;simp[execOp,Q,Y,W,lookup,underlying,hx,getObj,AF ((v b (jx q)).trans q),F,U f,qC f]
def UF(L:ZW)(E:BT)(h:List Ob)(t:TypeId)(x i v:D):Option (Prop × List Ob):=match ty L t with
 | some ⟨.map a _,_,_,_⟩=>match i,x with
  | .agg b,.mref l g=>match vT L E a b,h[l]? with
   | some k,some o=>some (LO o/\WO (yC o) k=none/\g=0/\o.kd.ro=false,h.set l (kN (clockOf o+1) (yC o++[⟨k,v,clockOf o⟩])))
   | _,_=>none
  | _,_=>none
 | _=>none
def QjN(hL:ZU P L)(hE:yz P E){v}(W:o.op=.mapUpdate t x i v){p}{h'}(h:UF L E s.h t (Qo s.fr x) (Qo s.fr i) (Qo s.fr v)=some (p,h'))(hp:p):zK P base nt o s h' .undef:=by
 unfold UF at h;split at h;case h_2=>cases h
 rename_i kt et _ _ _ ht;split at h;case h_2=>cases h
 rename_i cs l g hi hx;split at h;case h_2=>cases h
 rename_i k J hk I;simp only[QX,Q9]at h;obtain⟨rfl,rfl⟩:=h;obtain⟨⟨Hp,M,h4⟩,Y,rfl,B⟩:=hp;obtain⟨H,Fx,Jx⟩:=uq hL hE hk;obtain⟨C,Jw⟩:∃C,C=J.kd:=⟨_,rfl⟩;obtain⟨c,n⟩:∃c,c=clockOf J:=⟨_,rfl⟩;obtain⟨j,S⟩:∃j,j=yC J:=⟨_,rfl⟩;rw[<- Jw]at Hp M B;rw[<- n,<- S]at M;rw[<- S]at h4 Y ⊢;rw[<- n];have Ql:C=.map:=by cases C<;>first|rfl|(exfalso;revert Hp;decide)|(exfalso;revert B;decide)
 rw[M,Ql]at I;intro Z Q a w r Kn;have e2:=ur r hi Jx;have e3:=r.eval v;obtain⟨b,d,e1,h2,O,F,R⟩:=uu r rfl hx I;have O:=O rfl;have Ft:=Dn (hL t _ ht) rfl;have q2:=R.Dw h4 H Fx Y w;have q3:=H.check false w Fx;have Zb:(mapUpdate t (.map (some b)) (Wm k) (a.eval v)).run P w=.ok () { w with heap:=w.heap.setIfInBounds b (.map (d.push { key:=Wm k,val:=a.eval v,born:=c }) (c+1)) }:=by
  simp[mapUpdate,underlying,Ft,getObj,AF F,q2,q3,setObj,Pc F]
 have yB:=jx F;generalize q:({ w with heap:=w.heap.setIfInBounds b (.map (d.push { key:=Wm k,val:=a.eval v,born:=c }) (c+1)) }:World)=u at Zb;have e:∀c,c≠b->u.heap[c]? = w.heap[c]? := λc n=>by rw[<- q];simp[yd,Q1 n]
 have JQ:u.heap[b]? = some (.map (d.push { key:=Wm k,val:=a.eval v,born:=c }) (c+1)):=by rw[<- q];simp[yd,yB]
 have T:=Tr.Ho (w':=u) r.o I h2 e (o':=kN (c+1) (j++[⟨k,Qo s.fr v,c⟩])) rfl rfl rfl (by rw[F];intro c el h;cases h);have R':=R.tr T;have hl:j.length=d.size:=by have:=R.len;simpa using this
 have RR:AI Z (s.h.set l (kN (c+1) (j++[⟨k,Qo s.fr v,c⟩]))) Q u (c+1) (j++[⟨k,Qo s.fr v,c⟩]) (d.push { key:=Wm k,val:=a.eval v,born:=c }).toList:=by
  refine⟨by simp[hl],λV e' a' WN m=>?_,λK U x y Hq hx f=>?_⟩
  .have m:(d.push { key:=Wm k,val:=a.eval v,born:=c })[V]? = some a':=by rw[<- ku];exact m
   rw[Tf]at m;rcases XM WN with N|⟨N,Z6⟩
   .have:=(Wh.1 N).1;rw[Qe ω]at m;obtain⟨k1,k2,k3,k4⟩:=R'.at_ V e' a' N (by simpa using m);exact⟨k1,k2,k3,ω⟩
   .subst Z6;rw[Qf ω]at m;cases m;exact⟨rfl,e3.tr T,rfl,σ⟩
  .have hx:(d.push { key:=Wm k,val:=a.eval v,born:=c })[K]? = some x:=by rw[<- ku];exact hx
   have f:(d.push { key:=Wm k,val:=a.eval v,born:=c })[U]? = some y:=by rw[<- ku];exact f
   rw[Tf]at hx f;have Kg:∀(i:Nat) (z:MapEntry),d[i]? = some z->z.born<c:=λi z hz=>by
    have Qc:=(Wg.1 hz).1;exact(R.at_ i (j[i]'ω) z (QP ω) (by simpa using hz)).2.2.2
   split at hx
   .split at f
    .omega
    .have:=(Wg.1 f).1;omega
   .split at f
    .cases f;exact Kg K x hx
    .exact R.inc K U x y Hq (by simpa using hx) (by simpa using f)
 refine⟨Go.undef,u,Q,.inr ⟨by simp[execOp,W,e1,e2,Zb],rfl⟩,T,Zg.Ho (hro:=rfl) r.o I h2 e T (QjJ JQ RR rfl),.cl _ _ (.undef _),?_,λn=>by simp[calm,W]at n⟩;exact LH O e (by rw[<- q];simp) (by rw[<- q]) (by rw[<- q]) (by rw[<- q])
end
end Go.Fg
namespace Go.Fg
open Go.RowKit (Below)
variable {Z:Nat->Prop}
structure Cx where
 L:ZW
 E:BT
def xu(X:Cx)(s:St):Op->Ev
 | .move x=>some (True,Qo s.fr x)
 | .assign x=>some (True,Qo s.fr x)
 | .pick c x y=>match Qo s.fr c with
  | .raw (.bool b)=>some (True,bif b then Qo s.fr x else Qo s.fr y)
  | _=>none
 | .binOp g t x y _=>match TU X.L g t (Qo s.fr x) (Qo s.fr y) with
  | some r=>some r
  | none=>Ur X.E g t (Qo s.fr x) (Qo s.fr y)
 | .unOp u _ x=>match u,Qo s.fr x with
  | .not,.raw (.bool b)=>some (True,.raw (.bool (!b)))
  | .neg,.raw (.int k n)=>some (True,.raw (.int k (k.wrap (0 - n))))
  | .xor,.raw (.int k n)=>some (True,.raw (.int k (bits .xor k (if k.signed then -1 else k.max) n)))
  | _,_=>none
 | .convert a b x=>T6 X.L a b (Qo s.fr x)
 | .build t parts=>match Uj X.L s.fr t parts.toList with
  | some d=>some (True,d)
  | none=>none
 | .load t x=>Hc X.L s.h t (Qo s.fr x)
 | .nilCheck x=>bif (Qo s.fr x).there then some (True,Qo s.fr x) else none
 | .fieldAddr t x f=>TW X.L t f (Qo s.fr x)
 | .field t x f=>TX X.L t f (Qo s.fr x)
 | .indexAddr t x i=>TY X.L s.h t (Qo s.fr x) (Qo s.fr i)
 | .index t x i=>TZ X.L t (Qo s.fr x) (Qo s.fr i)
 | .extract x i=>match Qo s.fr x with
  | .tup l=>some (i<l.length,nth l i)
  | _=>none
 | .slice t x p q o=>match o with
  | none=>Um X.L s.fr s.h t (Qo s.fr x) p q
  | some _=>none
 | .makeFunc v first z=>match v,first with
  | .func f,⟨j⟩=>some (True,.clo f j.length ((j++z.toList).map (Qo s.fr)))
  | _,_=>none
 | .call ⟨.builtin b,⟨e⟩,⟨w⟩⟩=>match b,e,w with
  | .len,[x],[t]=>match T7 X.L t (Qo s.fr x) with
   | some r=>some r
   | none=>Uz X.L s.h t (Qo s.fr x)
  | .max,[x,y],_=>match Qo s.fr x,Qo s.fr y with
   | .raw (.int k m),.raw (.int _ n)=>some (True,.raw (.int k (max m n)))
   | _,_=>none
  | .min,[x,y],_=>match Qo s.fr x,Qo s.fr y with
   | .raw (.int k m),.raw (.int _ n)=>some (True,.raw (.int k (min m n)))
   | _,_=>none
  | _,_,_=>none
 | .lookup t x i h=>match Uy X.L s.h t (Qo s.fr x) (Qo s.fr i) h with
  | some r=>some r
  | none=>bif h then UE X.L X.E s.h t (Qo s.fr x) (Qo s.fr i) else none
 | _=>none
structure qE (P:Program) (X:Cx):Prop where
 L:ZU P X.L
 E:yz P X.E
def uv{P}{X}(g:qE P X){base nt}{s}{o:Oper}{p}{d}(h:xu X s o.op=some (p,d))(j:p):VZ P base nt o s d:=by
 unfold xu at h;split at h;case h_1 x e=>simp only[QX,Q9]at h;obtain⟨rfl,rfl⟩:=h;exact tm (.inl e)
 case h_2 x e=>simp only[QX,Q9]at h;obtain⟨rfl,rfl⟩:=h;exact tm (.inr e)
 case h_3 c x y e=>
  split at h
  .rename_i b E;simp only[QX,Q9]at h;obtain⟨rfl,rfl⟩:=h;exact QiF e E
  .cases h
 case h_4 H t x y F e=>
  split at h
  .rename_i r l;simp only[QX]at h;subst h;exact QiE g.L e l j
  .exact Qjf g.E e h
 case h_5 u t x e=>
  split at h
  .rename_i b hx;simp only[QX,Q9]at h;obtain⟨rfl,rfl⟩:=h;exact QiN e rfl hx
  .rename_i k n hx;simp only[QX,Q9]at h;obtain⟨rfl,rfl⟩:=h;exact QiO e rfl hx
  .rename_i k n hx;simp only[QX,Q9]at h;obtain⟨rfl,rfl⟩:=h;exact QiP e rfl hx
  .cases h
 case h_6 a b x e=>exact QiR g.L e h
 case h_7 t parts e=>
  split at h
  .rename_i N C;simp only[QX,Q9]at h;obtain⟨rfl,rfl⟩:=h;exact Qja g.L e C
  .cases h
 case h_8 t x e=>exact tt g.L e h j
 case h_9 x e=>
  obtain⟨B,q⟩:=zJ h;simp only[QX,Q9]at q;obtain⟨rfl,rfl⟩:=q;exact QiQ e rfl B
 case h_10 t x f e=>exact QiG g.L e h j
 case h_11 t x f e=>exact QiH g.L e h j
 case h_12 t x i e=>exact QiK g.L e h j
 case h_13 t x i e=>exact QiL g.L e h j
 case h_14 x i e=>
  split at h
  .rename_i O hx;simp only[QX,Q9]at h;obtain⟨rfl,rfl⟩:=h;exact QiM e hx j
  .cases h
 case h_15 t x K L J e=>
  split at h
  .exact Qje g.L e h j
  .cases h
 case h_16 M first R e=>
  split at h
  .simp only[QX,Q9]at h;obtain⟨rfl,rfl⟩:=h;exact QiU e
  .cases h
 case h_17 b w Q e=>
  split at h
  .split at h
   .rename_i r l;simp only[QX]at h;subst h;exact Ua g.L e l
   .exact Qjx g.L e rfl h j
  .split at h
   .rename_i k m z n hx v;simp only[QX,Q9]at h;obtain⟨rfl,rfl⟩:=h;exact QiS e hx v
   .cases h
  .split at h
   .rename_i k m z n hx v;simp only[QX,Q9]at h;obtain⟨rfl,rfl⟩:=h;exact QiT e hx v
   .cases h
  .cases h
 case h_18 t x i I e=>
  split at h
  .rename_i r l;simp only[QX]at h;subst h;exact look_ok g.L e l j
  .obtain⟨rfl,q⟩:=zJ h;exact QjM g.L g.E e q j
 case h_19=>cases h
def yD(X:Cx)(s:St):Op->Option (Prop × List Ob × D)
 | .alloc t=>match ty X.L t with
  | some y=>some (True,s.h++[⟨.one,0,(y.zero.map JT).length,1,λ_=>y.zero.map JT⟩],.ptr s.h.length 0 0 0)
  | none=>none
 | .box _ x=>match XN (Qo s.fr x) with
  | some f=>some (True,s.h++[⟨.one,0,f.length,1,λ_=>f⟩],.ptr s.h.length 0 0 0)
  | none=>none
 | .store t a x=>match OZ X.L s.h t (Qo s.fr a) (Qo s.fr x) with
  | some (p,c)=>some (p,c,.undef)
  | none=>none
 | .buildSlice t e parts=>Uk X.L s.fr s.h t e parts.toList
 | .call ⟨.builtin b,⟨d⟩,⟨j⟩⟩=>match b,d,j with
  | .append,[x,y],[t,g]=>bif Nat.beq t g then BR X.L s.h t (Qo s.fr x) (Qo s.fr y) else none
  | .delete,[x,i],[t,_]=>match UB X.L s.h t (Qo s.fr x) (Qo s.fr i) with
   | some (p,c)=>some (p,c,.tup [])
   | none=>none
  | _,_,_=>none
 | .makeMap t h=>match h with
  | none=>LN X.L s.h t
  | some (.const (.int _ n))=>bif decide (0<=n) then LN X.L s.h t else none
  | some _=>none
 | .mapUpdate t x i v=>match Fs X.L s.h t (Qo s.fr x) (Qo s.fr i) (Qo s.fr v) with
  | some (p,c)=>some (p,c,.undef)
  | none=>match UF X.L X.E s.h t (Qo s.fr x) (Qo s.fr i) (Qo s.fr v) with
   | some (p,c)=>some (p,c,.undef)
   | none=>none
 | .range t x=>UC X.L s.h t (Qo s.fr x)
 | _=>none
def QjO{L}{h}{t:TypeId}{s x}{r}(e:BR L h t s x=some r):s=.nil\/∃l g a b,s=.ref l g a b:=by
 unfold BR at e;split at e
 .split at e
  .exact .inl rfl
  .exact .inr ⟨_,_,_,_,rfl⟩
  .cases e
 .cases e
def uw{P}{X}(f:qE P X){base nt}{s}{o:Oper}{p}{B}{d}(h:yD X s o.op=some (p,B,d))(j:p):zK P base nt o s B d:=by
 unfold yD at h;split at h;case h_1 t c=>
  split at h
  .rename_i y E;simp only[QX,Q9]at h;obtain⟨rfl,rfl,rfl⟩:=h;exact Qi0 f.L c E
  .cases h
 case h_2 t x c=>
  split at h
  .rename_i K H;simp only[QX,Q9]at h;obtain⟨rfl,rfl,rfl⟩:=h;exact QiZ c H
  .cases h
 case h_3 t a x c=>
  split at h
  .rename_i r w m;simp only[QX,Q9]at h;obtain⟨rfl,rfl,rfl⟩:=h;exact QiY f.L c m j
  .cases h
 case h_4 t z parts c=>exact Qjb f.L c h j
 case h_5 b C L c=>
  split at h
  .obtain⟨u,q⟩:=zJ h;have u:=OL u;subst u;rcases QjO q with e|⟨l,g,I,z,e⟩
   .rw[e]at q;exact Qi6 f.L c e q j
   .rw[e]at q;exact Qi7 f.L c e q j
  .split at h
   .rename_i r w m;simp only[QX,Q9]at h;obtain⟨rfl,rfl,rfl⟩:=h;exact Qjz f.L c m j
   .cases h
  .cases h
 case h_6 t J c=>
  split at h
  .exact tY f.L (.inl rfl) c h
  .rename_i k n;obtain⟨F,q⟩:=zJ h;exact tY f.L (.inr ⟨k,n,rfl,Yo F⟩) c q
  .cases h
 case h_7 t x i v c=>
  split at h
  .rename_i r w m;simp only[QX,Q9]at h;obtain⟨rfl,rfl,rfl⟩:=h;exact Qjy f.L c m j
  .split at h
   .rename_i r w m;simp only[QX,Q9]at h;obtain⟨rfl,rfl,rfl⟩:=h;exact QjN f.L f.E c m j
   .cases h
 case h_8 t x c=>exact QjC f.L c h j
 case h_9=>cases h
abbrev G:=Option (Option Nat × Bool)
def guardOf(a:Array Oper)(o:Oper):G:=match o.guard with
 | none=>none
 | some (j,b)=>some ((a[j]?).bind (·.dst),b)
def strip(o : Oper): Oper := ⟨o.dst, o.op, o.type, "", #[], none⟩
theorem QjP{P}{o:Oper}{a}{w}{K}{Q}:(strip o).wp P a w K Q=o.wp P a w K Q:=rfl
def AJ(a:Array Oper):List (Oper × G):=a.toList.map λo=>(strip o,guardOf a o)
def LP(a:Array Value)(t:Nat):Option Bool:=match a[t]? with
 | some (.bool b)=>some b
 | _=>none
def WQ(g:G)(a:Array Value):Bool:=match g with
 | none=>true
 | some (none,_)=>false
 | some (some t,b)=>LP a t==some b
def LQ(c)(o)(a):Region.wanted o (yielded c a)=WQ (guardOf c o) a:=by
 unfold Region.wanted guardOf WQ;cases g:o.guard with
 | none=>rfl
 | some e=>
  obtain⟨j,b⟩:=e;dsimp only;cases d:(c[j]?).bind (·.dst) with
  | none=>simp[yielded,d]
  | some t=>
   simp only[yielded,d,TJ,LP];cases f:a[t]? with
   | none=>rfl
   | some v=>cases v<;>rfl
def X5(P:Program)(Q:Exit->Act->World->Prop):List (Oper × G)->Act->World->Prop
 | [],a,w=>Q .normal a w
 | (o,g)::r,a,w=>if WQ g a.tmps=true then o.wp P a w (X5 P Q r) Q else X5 P Q r (a.put o.dst Go.undef) w
def gE{P}{b:Array Oper}{Q}:∀(n i:Nat) (a:Act) (w:World),i+n=b.size->X5 P Q ((AJ b).drop i) a w->wpOps P b Q (List.range' i n) a w
 | 0,i,a,w,m,h=>by
  have:(AJ b).drop i=[]:=Tj (by simp[AJ];omega);rw[this]at h;exact h
 | n+1,i,a,w,m,h=>by
  have Qc:i<b.size:=ω;have o:(AJ b).drop i=(strip b[i],guardOf b b[i])::(AJ b).drop (i+1):=by
   rw[OD (by simp[AJ];omega)];simp[AJ]
  rw[o]at h;rw[List.range'_succ];simp only[wpOps,zF Qc,LQ];simp only[X5]at h;split at h
  .rename_i g;rw[Qf g];refine .inl ?_;have d:∀(K k:Act->World->Prop),(∀a w,K a w->k a w)->b[i].wp P a w K Q->b[i].wp P a w k Q:=by
    intro K k j c;unfold Oper.wp at *;generalize (execOp a.eval b[i]).run P w=r at *;cases r with
    | ok x l=>
     cases x<;>simp only[Oper.upon]at c ⊢<;>first|exact j _ _ c|exact c|skip
     .exact c.mono λe p f=>by cases e<;>first|exact j _ _ f|exact f
     .exact c.mono λv p f=>j _ _ f
    | halt x l=>cases x<;>exact c
   rw[QjP]at h;exact d _ _ (λa w=>gE n (i+1) a w ω) h
  .rename_i g;rw[Qe g];exact gE n (i+1) _ w ω h
def QjQ{P}{c}{b}{Q}{a}{w}(h:X5 P Q (AJ b) a w):(Code.region c b false).wp P Q a w:=
 wp_region (by rw[List.range_eq_range'];exact gE b.size 0 a w ω (by simpa using h))
structure Start where
 w:World
 F:List Ob
 pl:List Pl
structure Hs (Z:Nat->Prop) (w0:Start) (pl:List Pl) (w:World):Prop where
 new:∀b,w.heap.size<=b->Z b
 own:∀(l b q:Nat),pl[l]? = some (some (b,q))->w0.w.heap.size<=b->Z b
def Hs.step{Z}{d}{h h'}{c g}{w a:World}(S:Hs Z d c w)(T:Tr h c w h' g a)(p:w.heap.size<=a.heap.size):Hs Z d g a where
 new:=λb r=>S.new b ω
 own:=λl b q e o=>by
  rcases Ar b w.heap.size with Qc|k
  .by_cases f:W0 c b
   .exact absurd e ((T.Kg b f Qc).1 l q)
   .obtain⟨j,n⟩:=Lm.1 f;obtain⟨i,m⟩:=Lm.1 n;exact S.own j b i (Classical.not_not.1 m) o
  .exact S.new b k
def Hs.start{Z}{a}{w0:Start}{h}{c}(R:Zg Z a h c w0.w)(d:∀b,w0.w.heap.size<=b->Z b):Hs Z w0 c w0.w where
 new:=d
 own:=λl b q e f=>absurd (R.lt e).1 ω
def KG(Z:Nat->Prop)(b:Nat)(a:Start)(h:List Ob)(c:List Pl)(w:World):Prop:=Below b a.w w/\Tr a.F a.pl a.w h c w/\Hs Z a c w
def KG.step{Z}{a}{d}{h h'}{e f}{w c}(S:KG Z a d h e w)(T:Tr h e w h' f c)(b:Below a w c):KG Z a d h' f c:=⟨S.1.trans b,S.2.1.trans T,S.2.2.step T b.size⟩
section
variable (P:Program)(base nt:Nat)(w0:Start)
def Ph(_:Start)(_:Nat->Prop):Prop:=True
def lift(Z:Nat->Prop)(Q:Exit->St->Prop)(e:Exit)(a:Act)(w:World):Prop:=∃s b,Q e s/\Rel Z base nt s b a w/\KG Z base w0 s.h b w
def A(c:Code)(Q:Exit->St->Prop)(s:St):Prop:=∀(Z:Nat->Prop),Ph w0 Z->∀b a w,Rel Z base nt s b a w->KG Z base w0 s.h b w->c.wp P (lift base nt w0 Z Q) a w
def AG(l:List (Oper × G))(Q:Exit->St->Prop)(s:St):Prop:=∀(Z:Nat->Prop),Ph w0 Z->∀b a w,Rel Z base nt s b a w->KG Z base w0 s.h b w->X5 P (lift base nt w0 Z Q) l a w
end
inductive Item where
 | code (c:Code)
 | ops (l:List (Oper × G))
 | inBlock (id:Nat)
 | inScope
def Qr(P:Program)(a d:Nat)(b:Start)(Q:Exit->St->Prop):List Item->Exit->St->Prop
 | [],e,s=>Q e s
 | .code c::k,.normal,s=>A P a d b c (Qr P a d b Q k) s
 | .code _::k,e,s=>Qr P a d b Q k e s
 | .ops l::k,.normal,s=>AG P a d b l (Qr P a d b Q k) s
 | .ops _::k,e,s=>Qr P a d b Q k e s
 | .inBlock id::k,.exit j,s=>if j=id then Qr P a d b Q k .normal s else Qr P a d b Q k (.exit j) s
 | .inBlock _::k,e,s=>Qr P a d b Q k e s
 | .inScope::_,.goto _,_=>False
 | .inScope::k,e,s=>Qr P a d b Q k e s
inductive Tree where
 | done (e:Exit) (s:St)
 | stop (k:List Item) (s:St)
 | vc (p:Prop) (t:Tree)
 | ite (b:Bool) (t e:Tree)
 | fail
def Tree.holds(P:Program)(a d:Nat)(c:Start)(Q:Exit->St->Prop):Tree->Prop
 | .done e s=>Q e s
 | .stop k s=>Qr P a d c Q k .normal s
 | .vc p t=>p/\t.holds P a d c Q
 | .ite b t e=>(b=true->t.holds P a d c Q)/\(b=false->e.holds P a d c Q)
 | .fail=>False
def zP(a:Nat):List Item->Option (List Item)
 | []=>none
 | .inBlock j::k=>bif Nat.beq a j then some k else zP a k
 | _::k=>zP a k
def Q8(a:List (Nat × D))(t:Option Nat)(d:D):List (Nat × D):=match t with
 | none=>a
 | some t=>put a t d
def Zj(a:Nat):Option Nat->Bool
 | none=>true
 | some t=>Nat.blt t a
def Dx:Bool->Bool->Bool
 | true,x=>x
 | false,x=>!x
def ux(b x):Dx b x=(x==b):=by cases b<;>cases x<;>rfl
def exec(X:Cx)(e:Nat):Nat->List Item->St->Tree
 | 0,k,s=>.stop k s
 | _+1,[],s=>.done .normal s
 | n+1,.inBlock _::k,s=>exec X e n k s
 | n+1,.inScope::k,s=>exec X e n k s
 | n+1,.code c::k,s=>match c with
  | .skip=>exec X e n k s
  | .label _=>exec X e n k s
  | .seq a b=>exec X e n (.code a::.code b::k) s
  | .cond c a b=>match Qo s.fr c with
   | .raw (.bool x)=>.ite x (exec X e n (.code a::k) s) (exec X e n (.code b::k) s)
   | _=>.fail
  | .block id c=>exec X e n (.code c::.inBlock id::k) s
  | .scope c=>exec X e n (.code c::.inScope::k) s
  | .exit id=>match zP id k with
   | some i=>exec X e n i s
   | none=>.done (.exit id) s
  | .ret=>.done .ret s
  | .region id f h=>bif h then .stop (.code (.region id f h)::k) s else exec X e n (.ops (AJ f)::k) s
  | c=>.stop (.code c::k) s
 | n+1,.ops []::k,s=>exec X e n k s
 | n+1,.ops ((o,g)::r)::k,s=>match g with
  | none=>match xu X s o.op with
   | some (p,d)=>bif Zj e o.dst then .vc p (exec X e n (.ops r::k) ⟨Q8 s.fr o.dst d,s.h⟩) else .fail
   | none=>match yD X s o.op with
    | some (p,j,d)=>bif Zj e o.dst then .vc p (exec X e n (.ops r::k) ⟨Q8 s.fr o.dst d,j⟩) else .fail
    | none=>.stop (.ops ((o,none)::r)::k) s
  | some (none,_)=>bif Zj e o.dst then exec X e n (.ops r::k) ⟨Q8 s.fr o.dst (.raw Go.undef),s.h⟩ else .fail
  | some (some t,b)=>match get s.fr t with
   | .raw (.bool x)=>.ite (Dx b x) (exec X e n (.ops ((o,none)::r)::k) ⟨put s.fr t (.raw (.bool b)),s.h⟩)
     (bif Zj e o.dst then exec X e n (.ops r::k) ⟨Q8 (put s.fr t (.raw (.bool (!b)))) o.dst (.raw Go.undef),s.h⟩ else .fail)
   | .raw (.tuple _)=>bif Zj e o.dst then exec X e n (.ops r::k) ⟨Q8 s.fr o.dst (.raw Go.undef),s.h⟩ else .fail
   | _=>.fail
section
variable {P:Program}{base nt:Nat}{w0:Start}{Q:Exit->St->Prop}
def A.mono{c}{Q d}{s}(h:A P base nt w0 c Q s)(i:∀e s,Q e s->d e s):A P base nt w0 c d s:=
 λZ z g a w r b=>wp_mono (h Z z g a w r b) λ_ _ _ ⟨f,m,l,k,j⟩=>⟨f,m,i _ _ l,k,j⟩
def QjR{x y}{s}(h:A P base nt w0 x (λe c=>match e with | .normal=>A P base nt w0 y Q c|e=>Q e c) s):A P base nt w0 (.seq x y) Q s:=by
 intro Z z k a w r b;refine wp_seq (wp_mono (h Z z k a w r b) λe n j m=>?_);obtain⟨c,i,g,f,d⟩:=m;cases e with
 | normal=>exact g Z z i n j f d
 | exit id=>exact⟨c,i,g,f,d⟩
 | goto l=>exact⟨c,i,g,f,d⟩
 | ret=>exact⟨c,i,g,f,d⟩
 | panic o=>exact⟨c,i,g,f,d⟩
 | outgrown=>exact⟨c,i,g,f,d⟩
def QjS{n}{c}{s}(h:A P base nt w0 c (λe d=>match e with | .exit j=>if j=n then Q .normal d else Q (.exit j) d|e=>Q e d) s):A P base nt w0 (.block n c) Q s:=by
 intro Z z o a w r b;refine wp_block (wp_mono (h Z z o a w r b) λe u q p=>?_);obtain⟨d,k,f,i,g⟩:=p;cases e with
 | exit j=>
  simp only[Exit.inBlock];dsimp only at f;split
  .rename_i m;rw[Qf m]at f;exact⟨d,k,f,i,g⟩
  .rename_i m;rw[Qe m]at f;exact⟨d,k,f,i,g⟩
 | normal=>exact⟨d,k,f,i,g⟩
 | goto l=>exact⟨d,k,f,i,g⟩
 | ret=>exact⟨d,k,f,i,g⟩
 | panic t=>exact⟨d,k,f,i,g⟩
 | outgrown=>exact⟨d,k,f,i,g⟩
def QjT{c}{s}(h:A P base nt w0 c (λe d=>match e with | .goto _=>False|e=>Q e d) s):A P base nt w0 (.scope c) Q s:=by
 intro Z z m a w r b;refine wp_scope_straight (wp_mono (h Z z m a w r b) λe q o n=>?_);obtain⟨d,k,f,i,g⟩:=n;cases e with
 | goto l=>exact f.elim
 | normal=>exact⟨d,k,f,i,g⟩
 | exit j=>exact⟨d,k,f,i,g⟩
 | ret=>exact⟨d,k,f,i,g⟩
 | panic p=>exact⟨d,k,f,i,g⟩
 | outgrown=>exact⟨d,k,f,i,g⟩
def QjU{c}{k}{s}(h:Qr P base nt w0 Q (.code c::.inScope::k) .normal s):Qr P base nt w0 Q (.code (.scope c)::k) .normal s:=by
 simp only[Qr]at h ⊢;refine QjT (h.mono λe b a=>?_);cases e<;>exact a
def Y3{a b}{k}{s}(h:Qr P base nt w0 Q (.code a::.code b::k) .normal s):Qr P base nt w0 Q (.code (.seq a b)::k) .normal s:=by
 simp only[Qr]at h ⊢;refine QjR (h.mono λe d c=>?_);cases e<;>exact c
def QjV{a}{c}{k}{s}(h:Qr P base nt w0 Q (.code c::.inBlock a::k) .normal s):Qr P base nt w0 Q (.code (.block a c)::k) .normal s:=by
 simp only[Qr]at h ⊢;refine QjS (h.mono λe d b=>?_);cases e<;>exact b
def QjW{c}{x y}{k}{s:St}{t}(h:Qo s.fr c=.raw (.bool t))(g:t=true->Qr P base nt w0 Q (.code x::k) .normal s)(f:t=false->Qr P base nt w0 Q (.code y::k) .normal s):
  Qr P base nt w0 Q (.code (.cond c x y)::k) .normal s:=by
 simp only[Qr]at g f ⊢;intro Z z d a w r b;have e:=r.eval c;rw[h]at e;have:=Jh e;cases t
 .exact wp_cond_false this (f rfl Z z d a w r b)
 .exact wp_cond_true this (g rfl Z z d a w r b)
def Pj{d}:∀{k b:List Item} {s:St},zP d k=some b->Qr P base nt w0 Q b .normal s->Qr P base nt w0 Q k (.exit d) s
 | [],b,s,h,_=>by simp[zP]at h
 | .code c::k,b,s,h,a=>by simp only[zP]at h;simp only[Qr];exact Pj h a
 | .ops c::k,b,s,h,a=>by simp only[zP]at h;simp only[Qr];exact Pj h a
 | .inScope::k,b,s,h,a=>by simp only[zP]at h;simp only[Qr];exact Pj h a
 | .inBlock j::k,b,s,h,a=>by
  simp only[zP]at h;simp only[Qr];by_cases e:d=j
  .subst e;simp at h;subst h;rw[Qf rfl];exact a
  .have:Nat.beq d j=false:=by rw[<- XY,VL];exact e
   rw[this]at h;rw[Qe e];exact Pj h a
def Pm{b}:∀{k:List Item} {s:St},zP b k=none->Q (.exit b) s->Qr P base nt w0 Q k (.exit b) s
 | [],s,_,a=>a
 | .code c::k,s,h,a=>by simp only[zP]at h;simp only[Qr];exact Pm h a
 | .ops c::k,s,h,a=>by simp only[zP]at h;simp only[Qr];exact Pm h a
 | .inScope::k,s,h,a=>by simp only[zP]at h;simp only[Qr];exact Pm h a
 | .inBlock j::k,s,h,a=>by
  simp only[zP]at h;simp only[Qr];by_cases d:b=j
  .subst d;simp at h
  .have:Nat.beq b j=false:=by rw[<- XY,VL];exact d
   rw[this]at h;rw[Qe d];exact Pm h a
def Pn:∀{k:List Item} {s:St},Q .ret s->Qr P base nt w0 Q k .ret s
 | [],_,a=>a
 | .code _::_,_,a=>by simp only[Qr];exact Pn a
 | .ops _::_,_,a=>by simp only[Qr];exact Pn a
 | .inBlock _::_,_,a=>by simp only[Qr];exact Pn a
 | .inScope::_,_,a=>by simp only[Qr];exact Pn a
def zQ{t}(h:Zj nt (some t)=true):t<nt:=by simpa[Zj,vJ] using h
def Rel.skip{s:St}{b}{a:Act}{w}(r:Rel Z base nt s b a w){t}(c:Zj nt t=true):Rel Z base nt ⟨Q8 s.fr t (.raw Go.undef),s.h⟩ b (a.put t Go.undef) w:=by
 cases t with
 | none=>exact r
 | some t=>exact r.to (Tr.ext r.o λ_ _=>rfl) r.o (zQ c) (.cl _ _ (.raw _))
def gF{o:Oper}{c}{s:St}{d}(h:VZ P base nt o s d)(f:Zj nt o.dst=true)(i:AG P base nt w0 c Q ⟨Q8 s.fr o.dst d,s.h⟩):AG P base nt w0 ((o,none)::c) Q s:=by
 intro Z z e a w r b;obtain⟨v,g,k⟩:=h Z e a w r;simp only[X5,WQ,Va];unfold Oper.wp;rw[k w λ_ _=>rfl];simp only[Oper.upon_value];refine i Z z e _ w ?_ b;cases j:o.dst with
 | none=>exact r
 | some t=>rw[j]at f;exact r.to (Tr.ext r.o λ_ _=>rfl) r.o (zQ f) g
def UG(C:base<=w0.w.heap.size){o:Oper}{c}{s:St}{j}{d}(h:zK P base nt o s j d)(l:Zj nt o.dst=true)(m:AG P base nt w0 c Q ⟨Q8 s.fr o.dst d,j⟩):AG P base nt w0 ((o,none)::c) Q s:=by
 intro Z z q a w r b;obtain⟨v,i,k,e,g,p,x,n,_⟩:=h Z q a w r (K9 C b.1.size);have f:∀u,u=v->Rel Z base nt ⟨Q8 s.fr o.dst d,j⟩ k (a.put o.dst u) i:=by
  rintro u rfl;cases B:o.dst with
  | none=>exact r.ym g p u
  | some t=>rw[B]at l;exact r.to g p (zQ l) x
 simp only[X5,WQ,Va];unfold Oper.wp;rcases e with e|⟨e,y⟩
 .rw[e];simp only[Oper.upon_value];exact m Z z k _ i (f v rfl) (b.step g n)
 .rw[e];simp only[Oper.upon_skip];exact m Z z k _ i (f _ y.symm) (b.step g n)
def gG{a:Array Value}{t}{b}(h:a.getD t Go.undef=.bool b):LP a t=some b:=by
 unfold LP;rw[w9]at h;cases c:a[t]? with
 | none=>rw[c]at h;simp[Go.undef]at h
 | some v=>rw[c]at h;simp at h;rw[h]
def gH{a:Array Value}{t}{b}(h:a.getD t Go.undef=.tuple b):LP a t=none:=by
 unfold LP;rw[w9]at h;cases c:a[t]? with
 | none=>rfl
 | some v=>rw[c]at h;simp at h;rw[h]
def Rel.tell{s:St}{b}{a:Act}{w}(r:Rel Z base nt s b a w){t}{d}(c:Qy Z s.h b w d (a.tmps.getD t Go.undef)):Rel Z base nt ⟨put s.fr t d,s.h⟩ b a w:=
 ⟨r.nt,r.defers,λu=>by
  rw[Dm];by_cases h:u=t
  .subst h;rw[Qf rfl];exact c
  .rw[Qe h];exact r.fr u,r.o⟩
def QjX{o:Oper}{c}{s:St}{t}{b x}(k:get s.fr t=.raw (.bool x))(l:Zj nt o.dst=true\/x=b)
  (p:x=b->AG P base nt w0 ((o,none)::c) Q ⟨put s.fr t (.raw (.bool b)),s.h⟩) (n:x=(!b)->AG P base nt w0 c Q ⟨Q8 (put s.fr t (.raw (.bool (!b)))) o.dst (.raw Go.undef),s.h⟩):AG P base nt w0 ((o,some (some t,b))::c) Q s:=by
 intro Z z e a w r h;have g:=r.fr t;rw[k]at g;have f:=Jh g;have m:=gG f;simp only[X5,WQ,m];by_cases d:x=b
 .have:=p d Z z e a w (r.tell (by rw[f,d];exact .cl _ _ (.raw _))) h;simp only[X5,WQ,Va]at this;rw[Qf (by simp[d])];exact this
 .have i:x=(!b):=by cases x<;>cases b<;>simp_all
  rw[Qe (by simp[d])];have j:Rel Z base nt ⟨put s.fr t (.raw (.bool (!b))),s.h⟩ e a w:=r.tell (by rw[f,i];exact .cl _ _ (.raw _));exact n i Z z e _ w (j.skip (l.resolve_right d)) h
def uy{o:Oper}{c}{s:St}{g:Option Nat × Bool}(j:g.1=none\/∃t d,g.1=some t/\get s.fr t=.raw (.tuple d))(i:Zj nt o.dst=true)(h:AG P base nt w0 c Q ⟨Q8 s.fr o.dst (.raw Go.undef),s.h⟩):AG P base nt w0 ((o,some g)::c) Q s:=by
 intro Z z f a w r l;obtain⟨k,b⟩:=g;have:WQ (some (k,b)) a.tmps=false:=by
  rcases j with rfl|⟨t,d,rfl,hx⟩
  .rfl
  .have e:=r.fr t;rw[hx]at e;simp[WQ,gH (Jh e)]
 simp only[X5,this,YR,vN];exact h Z z f _ w (r.skip i) l
def jD{X}(j:qE P X)(m:base<=w0.w.heap.size):∀(n:Nat) (k:List Item) (s:St),(exec X nt n k s).holds P base nt w0 Q->Qr P base nt w0 Q k .normal s
 | 0,k,s,h=>by cases k<;>exact h
 | n+1,[],s,h=>h
 | n+1,.inBlock id::k,s,h=>by
  simp only[exec]at h;simp only[Qr];exact jD j m n k s h
 | n+1,.inScope::k,s,h=>by
  simp only[exec]at h;simp only[Qr];exact jD j m n k s h
 | n+1,.code c::k,s,h=>by
  cases c with
  | skip=>simp only[exec]at h;have:=jD j m n k s h;simp only[Qr];exact λZ z q a w r b=>wp_skip ⟨s,q,this,r,b⟩
  | label l=>simp only[exec]at h;have:=jD j m n k s h;simp only[Qr];exact λZ z q a w r b=>wp_label ⟨s,q,this,r,b⟩
  | seq x y=>simp only[exec]at h;exact Y3 (jD j m n _ s h)
  | block id c=>simp only[exec]at h;exact QjV (jD j m n _ s h)
  | cond c x y=>
   simp only[exec]at h;split at h
   .rename_i b J;exact QjW J (λe=>jD j m n _ s (h.1 e)) (λe=>jD j m n _ s (h.2 e))
   .exact h.elim
  | exit id=>
   simp only[exec]at h;simp only[Qr];split at h
   .rename_i H C;have:=Pj C (jD j m n H s h);exact λZ z q a w r b=>wp_exit ⟨s,q,this,r,b⟩
   .rename_i C;have:=Pm (P:=P) (base:=base) (nt:=nt) (w0:=w0) C h;exact λZ z q a w r b=>wp_exit ⟨s,q,this,r,b⟩
  | ret=>
   simp only[exec]at h;simp only[Qr];exact λZ z q a w r b=>wp_ret ⟨s,q,Pn h,r,b⟩
  | region id M L=>
   simp only[exec]at h;cases L
   .have:=jD j m n _ s h;simp only[Qr]at this ⊢;exact λZ z q a w r b=>QjQ (this Z z q a w r b)
   .exact h
  | loop c=>exact h
  | rangeFunc f O a b=>exact h
  | scope b=>simp only[exec]at h;exact QjU (jD j m n _ s h)
  | goto l=>exact h
  | refuse w=>exact h
 | n+1,.ops []::k,s,h=>by
  simp only[exec]at h;simp only[Qr];have:=jD j m n k s h;exact λZ z q a w r b=>⟨s,q,this,r,b⟩
 | n+1,.ops ((o,g)::r)::k,s,h=>by
  have u:∀v,Zj nt o.dst=true\/True->(exec X nt n (.ops r::k) v).holds P base nt w0 Q->AG P base nt w0 r (Qr P base nt w0 Q k) v:=λv _ I=>by
   have:=jD j m n (.ops r::k) v I;simpa only[Qr] using this
  cases g with
  | none=>
   simp only[exec]at h;simp only[Qr];split at h
   .rename_i p d B;cases i:Zj nt o.dst
    .rw[i]at h;exact h.elim
    .rw[i]at h;exact gF (uv j B h.1) i (u _ (.inl i) h.2)
   .split at h
    .rename_i p R d B;cases i:Zj nt o.dst
     .rw[i]at h;exact h.elim
     .rw[i]at h;exact UG m (uw j B h.1) i (u _ (.inl i) h.2)
    .simpa only[Tree.holds,Qr] using h
  | some g=>
   obtain⟨K,b⟩:=g;cases K with
   | none=>
    simp only[exec]at h;simp only[Qr];cases i:Zj nt o.dst
    .rw[i]at h;exact h.elim
    .rw[i]at h;exact uy (.inl rfl) i (u _ (.inl i) h)
   | some t=>
    simp only[exec]at h;simp only[Qr];split at h
    .rename_i x hx;simp only[Tree.holds,ux,zH,jv,ne_eq]at h;have E:=λe=>jD j m n _ _ (h.1 e);simp only[Qr]at E;refine QjX hx ?_ E λe=>?_
     .by_cases F:x=b
      .exact .inr F
      .have:=h.2 F;cases i:Zj nt o.dst
       .rw[i]at this;exact this.elim
       .exact .inl rfl
     .have:=h.2 (by rw[e];cases b<;>simp);cases i:Zj nt o.dst
      .rw[i]at this;exact this.elim
      .rw[i]at this;exact u _ (.inl i) this
    .rename_i N hx;cases i:Zj nt o.dst
     .rw[i]at h;exact h.elim
     .rw[i]at h;exact uy (.inr ⟨t,_,rfl,hx⟩) i (u _ (.inl i) h)
    .exact h.elim
end
end Go.Fg
