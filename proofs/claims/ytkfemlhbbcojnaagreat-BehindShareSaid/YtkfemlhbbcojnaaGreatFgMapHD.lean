/- Contracts and laws on the way to the statement. No conditions. -/
import Derived.KernelRfl
import Derived.WalkKit
import Derived.WalkLawsBesides
import Derived.WalkSpells
import Derived.ChangeKeysEq
import Derived.Maps.RangeRun
set_option maxRecDepth 100000
set_option maxHeartbeats 16000000
set_option linter.unusedVariables false
set_option linter.unusedSimpArgs false
set_option linter.unusedSectionVars false
set_option linter.defProp false
namespace Go.Fg
open Go.RowKit (Below)
theorem ω{p:Prop}(h:p:=by (omega)):p:=h
theorem σ{p:Prop}(h:p:=by (simp)):p:=h
theorem π{p:Prop}(h:p:=by (decide)):p:=h
theorem τ{p:Prop}(h:p:=by (kernel_rfl)):p:=h
theorem ξ{p:Prop}(h:p:=by ((simp;omega))):p:=h
theorem δ{p:Prop}(h:p:=by (first|assumption|omega)):p:=h
theorem η{p:Prop}(h:p:=by ((rw[IntKind.wrap_u64];omega))):p:=h
def wX:=@Array.getD_eq_getD_getElem?
def LR:=@Array.getElem!_eq_getD
def LS:=@Array.getElem?_append_left
def zJ:=@Array.getElem?_eq_getElem
def Ws:=@Array.getElem?_eq_some_iff
def ie:=@Array.getElem?_modify
def Ui:=@Array.getElem?_push
def ig:=@Array.getElem?_setIfInBounds_ne
def kB:=@Array.getElem?_toList
def Hb:=@Bool.and_eq_false_iff
def Zy:=@Bool.and_eq_true
def Xe:=@Bool.eq_false_iff
def vG:=@Bool.eq_iff_iff
def O6:=@Bool.false_and
def q7:=@Bool.false_eq_true
def Ao:=@Bool.false_ne_true
def LU:=@Bool.false_or
def Ys:=@Bool.not_eq_true
def qB:=@Bool.not_eq_true'
def Fh:=@Bool.not_false
def Ap:=@Bool.not_true
def LV:=@Bool.or_eq_false_iff
def Df:=@Bool.or_eq_true
def O7:=@Bool.true_and
def kC:=@Classical.byContradiction
def LW:=@Classical.not_forall
def Uj:=@Function.comp_def
def Aq:=@Int.natCast_mul
def Dh:=@Int.toNat_of_nonneg
def LY:=@List.Pairwise.filter
def O8:=@List.Perm.refl
def XK:=@List.all_eq_true
def BN:=@List.any_eq_true
def V9:=@List.append_assoc
def Ul:=@List.append_inj
def JI:=@List.append_nil
def vH:=@List.cons.inj
def Hc:=@List.cons.injEq
def YT:=@List.cons_append
def Pa:=@List.drop_eq_getElem_cons
def Pb:=@List.drop_eq_nil_of_le
def ij:=@List.eq_nil_iff_forall_not_mem
def wY:=@List.ext_getElem?
def Pc:=@List.filter_append
def Um:=@List.filter_congr
def vI:=@List.filter_cons
def Pd:=@List.filter_cons_of_neg
def Pe:=@List.filter_cons_of_pos
def yi:=@List.filter_eq_self
def Pf:=@List.filter_map
def jl:=@List.find?_cons
def jm:=@List.find?_eq_none
def vJ:=@List.find?_some
def He:=@List.findIdx?_eq_none_iff
def Fi:=@List.findIdx?_eq_some_iff_getElem
def jo:=@List.foldl_append
def kD:=@List.foldl_cons
def Q5:=@List.getD_eq_getElem?_getD
def JC:=@List.getElem?_append_left
def Kb:=@List.getElem?_append_right
def Fj:=@List.getElem?_drop
def QP:=@List.getElem?_eq_getElem
def Ar:=@List.getElem?_eq_none
def WC:=@List.getElem?_eq_some_iff
def Ks:=@List.getElem?_map
def Fk:=@List.getElem?_of_mem
def Jw:=@List.getElem?_set_ne
def Wt:=@List.getElem?_set_self
def Xw:=@List.getElem?_take
def YU:=@List.getElem_mem
def wZ:=@List.getElem_of_mem
def LZ:=@List.idxOf_append
def ZW:=@List.length_append
def Kv:=@List.length_cons
def Un:=@List.length_drop
def Di:=@List.length_eq_zero_iff
def Xx:=@List.length_filter_le
def J1:=@List.length_map
def QpJ:=@List.length_pos_iff
def Wu:=@List.length_set
def kE:=@List.length_singleton
def Qgv:=@List.length_take
def vK:=@List.map_append
def Pg:=@List.map_congr_left
def JQ:=@List.map_cons
def Fl:=@List.map_map
def QX:=@List.mem_append
def Ph:=@List.mem_append_left
def Qn7:=@List.mem_append_right
def QD:=@List.mem_cons
def JR:=@List.mem_cons_of_mem
def J2:=@List.mem_cons_self
def Jt:=@List.mem_filter
def Z2:=@List.mem_map
def kF:=@List.mem_of_find?_eq_some
def Hf:=@List.mem_of_getElem?
def Pj:=@List.mem_range
def q8:=@List.mem_singleton
def zK:=@List.nil_append
def JJ:=@List.nodup_append
def Zz:=@List.nodup_cons
def ik:=@List.nodup_iff_pairwise_ne
def Pm:=@List.not_mem_nil
def Uq:=@List.pairwise_append
def yj:=@List.pairwise_cons
def L6:=@List.pairwise_map
def Ur:=@List.replicate_succ
def Us:=@List.set_append_left
def Hg:=@List.set_append_right
def JK:=@List.set_set
def Fm:=@List.size_toArray
def Qn9:=@List.sum_cons
def iq:=@List.takeWhile_append_of_pos
def Pn:=@List.takeWhile_cons
def Po:=@List.takeWhile_sublist
def iu:=@List.takeWhile_subset
def Fo:=@List.take_add_one
def BO:=@List.take_append_drop
def q9:=@List.take_length
def QfH:=@Nat.add_assoc
def Pp:=@Nat.add_comm
def Ql4:=@Nat.add_le_add_left
def Ql6:=@Nat.add_le_add_right
def Vz:=@Nat.add_mul
def Pq:=@Nat.add_sub_cancel_left
def BP:=@Nat.add_zero
def Ut:=@Nat.and_lt_two_pow
def Wa:=@Nat.beq_eq
def L7:=@Nat.beq_refl
def vL:=@Nat.blt_eq
def Pr:=@Nat.div_add_mod
def Ps:=@Nat.div_le_self
def Uu:=@Nat.div_mod_unique
def Pt:=@Nat.eq_of_beq_eq_true
def Qib:=@Nat.le_add_right
def Pu:=@Nat.le_of_ble_eq_true
def Ql7:=@Nat.le_of_not_lt
def QB:=@Nat.le_refl
def Ki:=@Nat.le_trans
def Mb:=@Nat.lt_irrefl
def Pv:=@Nat.lt_of_le_of_lt
def kG:=@Nat.lt_of_lt_of_le
def w9:=@Nat.lt_or_ge
def vM:=@Nat.lt_succ_iff_lt_or_eq
def Fp:=@Nat.lt_succ_self
def Uv:=@Nat.min_eq_right
def jq:=@Nat.mod_eq_of_lt
def X6:=@Nat.mod_lt
def Qe0:=@Nat.mul_add
def Pw:=@Nat.mul_assoc
def Mc:=@Nat.mul_comm
def qC:=@Nat.mul_le_mul
def Md:=@Nat.mul_le_mul_left
def X7:=@Nat.mul_le_mul_right
def Qkl:=@Nat.mul_left_comm
def Qkn:=@Nat.mul_one
def Qrr:=@Nat.mul_right_comm
def WZ:=@Nat.not_lt_zero
def Me:=@Nat.one_mul
def Qko:=@Nat.pos_of_ne_zero
def Dj:=@Nat.shiftRight_eq_div_pow
def xg:=@Nat.sub_self
def Dl:=@Nat.sub_zero
def Uw:=@Nat.two_pow_pos
def Px:=@Nat.xor_lt_two_pow
def JD:=@Nat.zero_add
def Jh:=@Nat.zero_le
def BQ:=@Nat.zero_lt_succ
def Qkp:=@Nat.zero_mul
def Q3:=@Ne.symm
def Ux:=@Option.bind_some
def KR:=@Option.getD_some
def As:=@Option.isSome_iff_exists
def xh:=@Option.isSome_none
def za:=@Option.isSome_some
def Uy:=@Option.map_eq_none_iff
def VA:=@Option.map_eq_some_iff
def Hi:=@Option.map_map
def YV:=@Option.map_none
def KK:=@Option.map_some
def Mf:=@Option.some.inj
def QY:=@Option.some.injEq
def Q9:=@Prod.mk.injEq
def zL:=@beq_eq_false_iff_ne
def jr:=@beq_iff_eq
def Hj:=@beq_self_eq_true
def YW:=@cond_false
def js:=@cond_true
def QI:=@decide_eq_false
def Pz:=@decide_eq_false_iff_not
def QU:=@decide_eq_true
def XL:=@decide_eq_true_eq
def vN:=@if_false
def Qc:=@if_neg
def Qd:=@if_pos
def Vs:=@if_true
def Dm:=@not_exists
def YX:=@not_or
def BR:=@of_decide_eq_false
def X8:=@of_decide_eq_true
def vO:=@true_and
inductive D where
 | raw (v:Value)
 | nil
 | undef
 | imm (sz n:Nat) (row:Nat->List D)
 | ip (cells:List D)
 | ref (l g off len:Nat)
 | ptr (l g i j:Nat)
 | mref (l g:Nat)
 | clo (f:FuncId) (first:Nat) (Qs:List D)
 | agg (cs:List D)
 | tup (cs:List D)
def nth(cs:List D)(i:Nat):D:=cs.getD i .undef
def QZ(vs:List Value)(i:Nat):Value:=vs.getD i Go.undef
inductive Kd where
 | one
 | arr
 | map
 | iter
 | Vt
 | yl
 | PA
 | uU
def Kd.Hl:Kd->Bool
 | .one=>true
 | .Vt=>true
 | _=>false
def Kd.ty:Kd->Nat
 | .one=>0
 | .arr=>0
 | .map=>1
 | .iter=>2
 | .Vt=>0
 | .yl=>0
 | .PA=>1
 | .uU=>2
def Kd.ro:Kd->Bool
 | .one=>false
 | .arr=>false
 | .map=>false
 | .iter=>false
 | _=>true
def Kd.toRo:Kd->Kd
 | .one=>.Vt
 | .arr=>.yl
 | .map=>.PA
 | .iter=>.uU
 | k=>k
def Kd.toRo_ty(k:Kd):k.toRo.ty=k.ty:=by cases k<;>rfl
def Kd.toRo_ro(k:Kd):k.toRo.ro=true:=by cases k<;>rfl
def PB:Nat->Nat->Value
 | 1,b=>.map (some b)
 | _,b=>.pointer (some ⟨b,0,none⟩)
def uV(t b:Nat)(v:Value):Prop:=t≠0/\v=PB t b
structure Ob where
 kd:Kd
 gen:Nat
 sz:Nat
 n:Nat
 row:Nat->List D
abbrev Pl:=Option (Nat × Nat)
def W0(pl:List Pl)(b:Nat):Prop:=∀l q:Nat,pl[l]?≠some (some (b,q))
def free(Z:Nat->Prop)(pl:List Pl)(b:Nat):Prop:=Z b/\W0 pl b
variable {Z:Nat->Prop}
inductive Cl (N:Nat->Prop) (w:World):D->Value->Prop
 | raw (v:Value):Cl N w (.raw v) v
 | undef (v:Value):Cl N w .undef v
 | nil (a:Option Addr):Cl N w .nil (.slice a 0 0)
 | imm (sz n:Nat) (row:Nat->List D) (a:Option Addr) (cap b o:Nat) (vs:Nat->Nat->Value)
   (ha:0<n->a=some ⟨b,o,none⟩) (hl:n<=cap) (hs:∀i,i<n->(row i).length=sz)
   (hc:∀i j,i<n->j<sz->N b/\w.cell? ⟨b,o+(i*sz+j),none⟩=some (vs i j))
   (hr:∀i j,i<n->j<sz->Cl N w (nth (row i) j) (vs i j)):Cl N w (.imm sz n row) (.slice a n cap)
 | ip (cells:List D) (b o:Nat) (vs:Nat->Value)
   (hc:∀j,j<cells.length->N b/\w.cell? ⟨b,o+j,none⟩=some (vs j))
   (hr:∀j,j<cells.length->Cl N w (nth cells j) (vs j)):Cl N w (.ip cells) (.pointer (some ⟨b,o,none⟩))
 | clo (f:FuncId) (nf:Nat) (cs:List D) (vs:List Value) (hl:vs.length=cs.length) (hr:∀i,i<cs.length->Cl N w (nth cs i) (QZ vs i)):Cl N w (.clo f nf cs) (.func (.func f) (vs.take nf).toArray (vs.drop nf).toArray)
 | agg (cs:List D) (vs:List Value) (hl:vs.length=cs.length) (hr:∀i,i<cs.length->Cl N w (nth cs i) (QZ vs i)):Cl N w (.agg cs) (.agg vs.toArray)
 | tup (cs:List D) (vs:List Value) (hl:vs.length=cs.length) (hr:∀i,i<cs.length->Cl N w (nth cs i) (QZ vs i)):Cl N w (.tup cs) (.tuple vs.toArray)
def Cl.mono{N N'}{w w'}{d}{v}(h:Cl N w d v)
  (hk:∀b,N b->b<w.heap.size->N' b/\w'.heap[b]? = w.heap[b]?):Cl N' w' d v:=by
 have key:∀(b o:Nat) (u:Value),N b/\w.cell? ⟨b,o,none⟩=some u->N' b/\w'.cell? ⟨b,o,none⟩=some u:=by
  rintro b o u ⟨hn,hc⟩;obtain⟨h1,h2⟩:=hk b hn (block_lt_of_cell hc);exact⟨h1,by rw[World.cell?_of_block (w:=w) (a:=⟨b,o,none⟩) h2];exact hc⟩
 induction h with
 | raw v=>exact .raw v
 | undef v=>exact .undef v
 | nil a=>exact .nil a
 | imm sz n row a cap b o vs ha hl hs hc hr ih=>exact .imm sz n row a cap b o vs ha hl hs (λi j hi hj=>key _ _ _ (hc i j hi hj)) ih
 | ip cells b o vs hc hr ih=>exact .ip cells b o vs (λj hj=>key _ _ _ (hc j hj)) ih
 | clo f nf cs vs hl hr ih=>exact .clo f nf cs vs hl ih
 | agg cs vs hl hr ih=>exact .agg cs vs hl ih
 | tup cs vs hl hr ih=>exact .tup cs vs hl ih
def uW(w:World)(sz:Nat)(p:Pl)(off len:Nat)(a:Option Addr)(cap:Nat):Prop:=
 (len=0/\cap=0)\/∃b q c el,p=some (b,q)/\a=some ⟨b,q+off*sz,none⟩/\w.heap[b]? = some (.cells c el (0,0))/\q+(off+cap)*sz<=c.size/\len<=cap
inductive QC (Z:Nat->Prop) (h:List Ob) (pl:List Pl) (w:World):D->Value->Prop
 | cl (d:D) (v:Value) (hc:Cl (free Z pl) w d v):QC Z h pl w d v
 | ref (l g off len:Nat) (o:Ob) (p:Pl) (a:Option Addr) (cap:Nat) (ho:h[l]? = some o) (hp:pl[l]? = some p) (hk:o.kd.ty=0) (hg:g<=o.gen)
   (hs:g=o.gen->uW w o.sz p off len a cap):QC Z h pl w (.ref l g off len) (.slice a len cap)
 | ptr (l g i j:Nat) (o:Ob) (p:Pl) (a:Addr) (ho:h[l]? = some o) (hp:pl[l]? = some p) (hk:o.kd.ty=0) (hg:g<=o.gen)
   (hs:g=o.gen->∃b q,p=some (b,q)/\a=⟨b,q+(i*o.sz+j),none⟩):QC Z h pl w (.ptr l g i j) (.pointer (some a))
 | mref (l g:Nat) {v:Value} (o:Ob) (p:Pl) (b:Nat) (ho:h[l]? = some o) (hp:pl[l]? = some p) (hk:uV o.kd.ty b v) (hg:g<=o.gen)
   (hs:g=o.gen->p=some (b,0)):QC Z h pl w (.mref l g) v
 | clo (f:FuncId) (nf:Nat) (cs:List D) (vs:List Value) (hl:vs.length=cs.length) (hr:∀i,i<cs.length->QC Z h pl w (nth cs i) (QZ vs i)):QC Z h pl w (.clo f nf cs) (.func (.func f) (vs.take nf).toArray (vs.drop nf).toArray)
 | agg (cs:List D) (vs:List Value) (hl:vs.length=cs.length) (hr:∀i,i<cs.length->QC Z h pl w (nth cs i) (QZ vs i)):QC Z h pl w (.agg cs) (.agg vs.toArray)
 | tup (cs:List D) (vs:List Value) (hl:vs.length=cs.length) (hr:∀i,i<cs.length->QC Z h pl w (nth cs i) (QZ vs i)):QC Z h pl w (.tup cs) (.tuple vs.toArray)
structure Tr (h:List Ob) (pl:List Pl) (w:World) (h':List Ob) (Qi:List Pl) (w':World):Prop where
 J3:∀b,W0 pl b->b<w.heap.size->W0 Qi b/\w'.heap[b]? = w.heap[b]?
 obj:∀(l:Nat) (o:Ob) (p:Pl),h[l]? = some o->pl[l]? = some p->∃o' p',h'[l]? = some o'/\Qi[l]? = some p'/\o.gen<=o'.gen/\o'.kd.ty=o.kd.ty/\(o'.gen=o.gen->o'.sz=o.sz/\p'=p)
 shape:∀(l:Nat) (o o':Ob) (b q:Nat),h[l]? = some o->h'[l]? = some o'->o'.gen=o.gen->pl[l]? = some (some (b,q))->∀c el,w.heap[b]? = some (.cells c el (0,0)) ->
  ∃c',w'.heap[b]? = some (.cells c' el (0,0))/\c'.size=c.size
def Tr.Qkr{h}{pl}{w:World}{h'}{Qi}{w':World}(T:Tr h pl w h' Qi w'){b}(hf:free Z pl b)(hb:b<w.heap.size):free Z Qi b/\w'.heap[b]? = w.heap[b]? :=
 ⟨⟨hf.1,(T.J3 b hf.2 hb).1⟩,(T.J3 b hf.2 hb).2⟩
def QC.tr{h}{pl}{w}{h'}{Qi}{w'}(T:Tr h pl w h' Qi w'){d}{v}(r:QC Z h pl w d v):QC Z h' Qi w' d v:=by
 induction r with
 | cl d v hc=>exact .cl d v (hc.mono λb hb Qb=>T.Qkr hb Qb)
 | ref l g off len o p a cap ho hp hk hg hs=>
  obtain⟨o',p',Zv,ZS,jt,ZJ,he⟩:=T.obj l o p ho hp;refine .ref l g off len o' p' a cap Zv ZS (by rw[ZJ,hk]) (Ki hg jt) λAu=>?_;have e1:o'.gen=o.gen:=ω;obtain⟨e2,e3⟩:=he e1;rcases hs ω with h1|⟨b,q,c,el,Wb,ha,hb,hc,hl⟩
  .exact .inl h1
  .obtain⟨c',WN,hc'⟩:=T.shape l o o' b q ho Zv e1 (by rw[hp,Wb]) c el hb;exact .inr ⟨b,q,c',el,by rw[e3,Wb],by rw[e2];exact ha,WN,by rw[e2,hc'];exact hc,hl⟩
 | ptr l g i j o p a ho hp hk hg hs=>
  obtain⟨o',p',Zv,ZS,jt,ZJ,he⟩:=T.obj l o p ho hp;refine .ptr l g i j o' p' a Zv ZS (by rw[ZJ,hk]) (Ki hg jt) λAu=>?_;have e1:o'.gen=o.gen:=ω;obtain⟨e2,e3⟩:=he e1;obtain⟨b,q,Wb,ha⟩:=hs ω;exact⟨b,q,by rw[e3,Wb],by rw[e2];exact ha⟩
 | mref l g o p b ho hp hk hg hs=>
  obtain⟨o',p',Zv,ZS,jt,ZJ,he⟩:=T.obj l o p ho hp;refine .mref l g o' p' b Zv ZS (by rw[ZJ];exact hk) (Ki hg jt) λAu=>?_;have e1:o'.gen=o.gen:=ω;obtain⟨e2,e3⟩:=he e1;rw[e3];exact hs ω
 | clo f nf cs vs hl hr ih=>exact .clo f nf cs vs hl ih
 | agg cs vs hl hr ih=>exact .agg cs vs hl ih
 | tup cs vs hl hr ih=>exact .tup cs vs hl ih
def Mg(Z:Nat->Prop)(h:List Ob)(pl:List Pl)(w:World)(o:Ob)(b q:Nat):Prop:=
 ∃c el,w.heap[b]? = some (.cells c el (0,0))/\q+o.n*o.sz<=c.size/\(∀i,i<o.n->(o.row i).length=o.sz) /\
  ∀i j,i<o.n->j<o.sz->∃v,c[q+(i*o.sz+j)]? = some v/\QC Z h pl w (nth (o.row i) j) v
def Uz(Z:Nat->Prop)(h:List Ob)(pl:List Pl)(w:World)(o:Ob)(b q:Nat):Prop:=
 q=0/\o.sz=3/\∃(es:Array MapEntry) (clock:Nat),w.heap[b]? = some (.map es clock)/\o.n=es.size+1/\(∀i,i<o.n->(o.row i).length=3) /\
  QC Z h pl w (nth (o.row 0) 0) (.int .i64 clock) /\
  (∀(i:Nat) (e:MapEntry),es[i]? = some e->e.born<clock/\QC Z h pl w (nth (o.row (i+1)) 0) e.key/\QC Z h pl w (nth (o.row (i+1)) 1) e.val/\QC Z h pl w (nth (o.row (i+1)) 2) (.int .i64 e.born)) /\
  ∀(i j:Nat) (e e':MapEntry),i<j->es[i]? = some e->es[j]? = some e'->e.born<e'.born
def iv(Z:Nat->Prop)(h:List Ob)(pl:List Pl)(w:World)(o:Ob)(b q:Nat):Prop:=
 q=0/\o.sz=1/\∃(m since last:Nat) (seen:Array Nat),w.heap[b]? = some (.mapIter (some m) since seen last)/\o.n=seen.size+3/\(∀i,i<o.n->(o.row i).length=1) /\
  QC Z h pl w (nth (o.row 0) 0) (.map (some m))/\QC Z h pl w (nth (o.row 1) 0) (.int .i64 since)/\QC Z h pl w (nth (o.row 2) 0) (.int .i64 last) /\
  ∀(i s:Nat),seen[i]? = some s->QC Z h pl w (nth (o.row (i+3)) 0) (.int .i64 s)
def Ky(Z:Nat->Prop)(h:List Ob)(pl:List Pl)(w:World)(o:Ob)(b q:Nat):Prop:=match o.kd.ty with
 | 0=>Mg Z h pl w o b q
 | 1=>Uz Z h pl w o b q
 | _=>iv Z h pl w o b q
def Ky.cells{h}{pl}{w}{o:Ob}{b q}(hk:o.kd.ty=0)(x:Ky Z h pl w o b q):Mg Z h pl w o b q:=by
 unfold Ky at x;rw[hk]at x;exact x
def Ky.map{h}{pl}{w}{o:Ob}{b q}(hk:o.kd.ty=1)(x:Ky Z h pl w o b q):Uz Z h pl w o b q:=by
 unfold Ky at x;rw[hk]at x;exact x
def Ky.iter{h}{pl}{w}{o:Ob}{b q}(hk:o.kd.ty=2)(x:Ky Z h pl w o b q):iv Z h pl w o b q:=by
 unfold Ky at x;rw[hk]at x;exact x
def Ky.Mh{h}{pl}{w}{o:Ob}{b q}(hk:o.kd.ty=0)(x:Mg Z h pl w o b q):Ky Z h pl w o b q:=by
 unfold Ky;rw[hk];exact x
def Ky.ofMap{h}{pl}{w}{o:Ob}{b q}(hk:o.kd.ty=1)(x:Uz Z h pl w o b q):Ky Z h pl w o b q:=by
 unfold Ky;rw[hk];exact x
def Ky.uX{h}{pl}{w}{o:Ob}{b q}(hk:o.kd.ty=2)(x:iv Z h pl w o b q):Ky Z h pl w o b q:=by
 unfold Ky;rw[hk];exact x
def Kd.cases(k:Kd):k.ty=0\/k.ty=1\/k.ty=2:=by cases k<;>simp[Kd.ty]
def Ky.lt{h}{pl}{w:World}{o}{b q}(x:Ky Z h pl w o b q):b<w.heap.size:=by
 rcases o.kd.cases with hk|hk|hk
 .obtain⟨c,el,hc,_⟩:=x.cells hk;exact(Ws.1 hc).1
 .obtain⟨_,_,c,el,hc,_⟩:=x.map hk;exact(Ws.1 hc).1
 .obtain⟨_,_,m,s,l,sn,hc,_⟩:=x.iter hk;exact(Ws.1 hc).1
def Ky.len{h}{pl}{w}{o:Ob}{b q}(x:Ky Z h pl w o b q){i:Nat}(hi:i<o.n):(o.row i).length=o.sz:=by
 rcases o.kd.cases with hk|hk|hk
 .obtain⟨c,el,_,_,h1,_⟩:=x.cells hk;exact h1 i hi
 .obtain⟨_,hz,c,el,_,_,h1,_⟩:=x.map hk;rw[h1 i hi,hz]
 .obtain⟨_,hz,m,s,l,sn,_,_,h1,_⟩:=x.iter hk;rw[h1 i hi,hz]
def Ky.to{Z'}{h h'}{pl Qi}{w w'}{o o':Ob}{b q}(x:Ky Z h pl w o b q)(hk:o'.kd.ty=o.kd.ty)(hz:o'.sz=o.sz)(hn:o'.n=o.n)
  (hb:w'.heap[b]? = w.heap[b]?) (hl:∀i,i<o.n->(o'.row i).length=(o.row i).length)
  (hr:∀i j v,i<o.n->j<(o.row i).length->QC Z h pl w (nth (o.row i) j) v->QC Z' h' Qi w' (nth (o'.row i) j) v):Ky Z' h' Qi w' o' b q:=by
 rcases o.kd.cases with hm|hm|hm
 .obtain⟨c,el,h1,h2,h3,h4⟩:=x.cells hm;refine Ky.Mh (by rw[hk,hm]) ⟨c,el,by rw[hb];exact h1,by rw[hn,hz];exact h2,λi hi=>?_,λi j hi hj=>?_⟩
  .rw[hn]at hi;rw[hl i hi,h3 i hi,hz]
  .rw[hn]at hi;rw[hz]at hj;obtain⟨v,hv,Av⟩:=h4 i j hi hj;exact⟨v,by rw[hz];exact hv,hr i j v hi (by rw[h3 i hi];exact hj) Av⟩
 .obtain⟨h0,iw,es,ck,h1,h2,h3,h4,h5,h6⟩:=x.map hm;have up:∀i j v,i<o.n->j<3->QC Z h pl w (nth (o.row i) j) v->QC Z' h' Qi w' (nth (o'.row i) j) v:=λi j v hi hj r=>hr i j v hi (by rw[h3 i hi];exact hj) r;refine Ky.ofMap (by rw[hk,hm]) ⟨h0,by rw[hz];exact iw,es,ck,by rw[hb];exact h1,by rw[hn];exact h2,λi hi=>?_,up 0 0 _ ω ω h4,λi e he=>?_,h6⟩
  .rw[hn]at hi;rw[hl i hi,h3 i hi]
  .obtain⟨k1,k2,k3,k4⟩:=h5 i e he;have hi:i+1<o.n:=by have:=(Ws.1 he).1;omega
   exact⟨k1,up _ 0 _ hi ω k2,up _ 1 _ hi ω k3,up _ 2 _ hi ω k4⟩
 .obtain⟨h0,iw,m,since,last,seen,h1,h2,h3,h4,h5,h6,h7⟩:=x.iter hm;have up:∀i v,i<o.n->QC Z h pl w (nth (o.row i) 0) v->QC Z' h' Qi w' (nth (o'.row i) 0) v:=λi v hi r=>hr i 0 v hi (by rw[h3 i hi];omega) r;refine Ky.uX (by rw[hk,hm]) ⟨h0,by rw[hz];exact iw,m,since,last,seen,by rw[hb];exact h1,by rw[hn];exact h2,λi hi=>?_,up 0 _ ω h4,up 1 _ ω h5,up 2 _ ω h6,λi s hs=>?_⟩
  .rw[hn]at hi;rw[hl i hi,h3 i hi]
  .exact up _ _ (by have:=(Ws.1 hs).1;omega) (h7 i s hs)
structure Zi (Z:Nat->Prop) (base:Nat) (h:List Ob) (pl:List Pl) (w:World):Prop where
 len:pl.length=h.length
 inj:∀(l l':Nat) (b q q':Nat),pl[l]? = some (some (b,q))->pl[l']? = some (some (b,q'))->l=l'
 VB:∀(l:Nat) (o:Ob),h[l]? = some o->pl[l]? = some none->o.n=0
 at_:∀(l:Nat) (o:Ob) (b q:Nat),h[l]? = some o->pl[l]? = some (some (b,q))->(o.kd.ro=false->base<=b)/\Ky Z h pl w o b q
structure St where
 fr:List (Nat × D)
 h:List Ob
def get:List (Nat × D)->Nat->D
 | [],_=>.undef
 | (t,d)::r,u=>bif Nat.beq t u then d else get r u
def put:List (Nat × D)->Nat->D->List (Nat × D)
 | [],u,d=>[(u,d)]
 | (t,e)::r,u,d=>bif Nat.beq t u then (u,d)::r else (t,e)::put r u d
structure Rel (Z:Nat->Prop) (base nt:Nat) (s:St) (pl:List Pl) (a:Act) (w:World):Prop where
 nt:a.tmps.size=nt
 defers:a.defers=[]
 fr:∀t,QC Z s.h pl w (get s.fr t) (a.tmps.getD t Go.undef)
 o:Zi Z base s.h pl w
def Fs(fr)(u)(d)(t):get (put fr u d) t=if t=u then d else get fr t:=by
 induction fr with
 | nil=>
  simp only[put,get];by_cases h:u=t
  .subst h;simp
  .have h1:Nat.beq u t=false:=by rw[<- Ys,Wa];exact h
   rw[h1,Qc (Q3 h)];rfl
 | cons x r ih=>
  obtain⟨t',d'⟩:=x;simp only[put];by_cases hb:t'=u
  .subst hb;simp only[L7,js,get];by_cases h:t'=t
   .subst h;simp
   .have h1:Nat.beq t' t=false:=by rw[<- Ys,Wa];exact h
    rw[h1,Qc (Q3 h)];rfl
  .have h1:Nat.beq t' u=false:=by rw[<- Ys,Wa];exact hb
   rw[h1];simp only[YW,get];by_cases h:t'=t
   .subst h;simp[hb]
   .have h2:Nat.beq t' t=false:=by rw[<- Ys,Wa];exact h
    rw[h2];simpa using ih
def KD{h:List Ob}{l}{o}(e:h[l]? = some o):l<h.length:=(WC.1 e).1
def Wc{h:List Pl}{l}{o}(e:h[l]? = some o):l<h.length:=(WC.1 e).1
def ju{w:World}{b}{o}(h:w.heap[b]? = some o):b<w.heap.size:=(Ws.1 h).1
def Zi.lt{base:Nat}{h:List Ob}{pl:List Pl}{w:World}(R:Zi Z base h pl w){l b q:Nat}(e:pl[l]? = some (some (b,q))):b<w.heap.size/\∀o,h[l]? = some o->o.kd.ro=false->base<=b:=by
 have hl:l<h.length:=by have:=Wc e;rw[R.len]at this;exact this
 obtain⟨hb,x⟩:=R.at_ l (h[l]) b q (QP hl) e;exact⟨x.lt,λo ho hr=>by rw[QP hl]at ho;cases ho;exact hb hr⟩
def Tr.ext{base}{h}{pl}{w w':World}(R:Zi Z base h pl w)(e:∀b,b<w.heap.size->w'.heap[b]? = w.heap[b]?):Tr h pl w h pl w' where
 J3:=λb hb Qb=>⟨hb,e b Qb⟩
 obj:=λl o p ho hp=>⟨o,p,ho,hp,QB _,rfl,λ_=>⟨rfl,rfl⟩⟩
 shape:=λl o o' b q ho Zv hg hp c el hb=>⟨c,by rw[e b (R.lt hp).1];exact hb,rfl⟩
def Zi.ext{base}{h}{pl}{w w':World}(R:Zi Z base h pl w)(e:∀b,b<w.heap.size->w'.heap[b]? = w.heap[b]?):Zi Z base h pl w' where
 len:=R.len
 inj:=R.inj
 VB:=R.VB
 at_:=λl o b q ho hp=>by
  obtain⟨h1,x⟩:=R.at_ l o b q ho hp;exact⟨h1,x.to rfl rfl rfl (e b (R.lt hp).1) (λ_ _=>rfl) λi j v _ _ hr=>hr.tr (Tr.ext R e)⟩
def Tr.refl(h)(pl)(w):Tr h pl w h pl w where
 J3:=λb hb Qb=>⟨hb,rfl⟩
 obj:=λl o p ho hp=>⟨o,p,ho,hp,QB _,rfl,λ_=>⟨rfl,rfl⟩⟩
 shape:=λl o o' b q ho Zv hg hp c el hb=>⟨c,hb,rfl⟩
def Tr.trans{h h' Yt}{pl Qi Hm}{w w' Hn}(T:Tr h pl w h' Qi w')(U:Tr h' Qi w' Yt Hm Hn):Tr h pl w Yt Hm Hn where
 J3:=λb hb Qb=>by
  obtain⟨h1,h2⟩:=T.J3 b hb Qb;have h3:b<w'.heap.size:=by
   rw[zJ Qb]at h2;exact(Ws.1 h2).1
  obtain⟨h4,h5⟩:=U.J3 b h1 h3;exact⟨h4,by rw[h5,h2]⟩
 obj:=λl o p ho hp=>by
  obtain⟨o1,p1,a1,a2,a3,a4,a5⟩:=T.obj l o p ho hp;obtain⟨o2,p2,b1,b2,b3,b4,b5⟩:=U.obj l o1 p1 a1 a2;refine⟨o2,p2,b1,b2,Ki a3 b3,by rw[b4,a4],λe=>?_⟩;obtain⟨x1,x2⟩:=a5 ω;obtain⟨y1,y2⟩:=b5 ω;exact⟨by rw[y1,x1],by rw[y2,x2]⟩
 shape:=λl o UA b q ho Mi hg hp c el hb=>by
  obtain⟨o1,p1,a1,a2,a3,a4,a5⟩:=T.obj l o _ ho hp;obtain⟨o2,p2,b1,b2,b3,b4,b5⟩:=U.obj l o1 p1 a1 a2;rw[Mi]at b1;cases b1;have e1:o1.gen=o.gen:=ω;obtain⟨x1,x2⟩:=a5 e1;subst x2;obtain⟨c1,d1,d2⟩:=T.shape l o o1 b q ho a1 e1 hp c el hb;obtain⟨c2,f1,f2⟩:=U.shape l o1 UA b q a1 Mi ω a2 c1 el d1;exact⟨c2,f1,ω⟩
def Rel.ext{base nt}{s}{pl}{a}{w w':World}(r:Rel Z base nt s pl a w)(e:∀b,b<w.heap.size->w'.heap[b]? = w.heap[b]?):Rel Z base nt s pl a w':=
 ⟨r.nt,r.defers,λt=>(r.fr t).tr (Tr.ext r.o e),r.o.ext e⟩
def Qkt(tmps:Array Value)(d t)(v:Value)(hd:d<tmps.size):(tmps.setIfInBounds d v).getD t Go.undef=if t=d then v else tmps.getD t Go.undef:=by
 simp only[wX,Array.getElem?_setIfInBounds];by_cases h:d=t
 .subst h;simp[hd]
 .rw[Qc h,Qc (Q3 h)]
def Rel.to{base nt}{s:St}{pl}{a}{w}(r:Rel Z base nt s pl a w){h'}{Qi}{w'}(T:Tr s.h pl w h' Qi w')(R':Zi Z base h' Qi w')
  {t:Nat} (ht:t<nt) {d:D} {v:Value} (hv:QC Z h' Qi w' d v):Rel Z base nt ⟨put s.fr t d,h'⟩ Qi (a.put (some t) v) w' where
 nt:=by simp[Act.put,r.nt]
 defers:=r.defers
 fr:=λu=>by
  simp only[Act.put];rw[Fs,Qkt _ _ _ _ (by rw[r.nt];exact ht)];by_cases h:u=t
  .rw[Qd h,Qd h];exact hv
  .rw[Qc h,Qc h];exact(r.fr u).tr T
 o:=R'
def Rel.ym{base nt}{s:St}{pl}{a}{w}(r:Rel Z base nt s pl a w){h'}{Qi}{w'}(T:Tr s.h pl w h' Qi w')(R':Zi Z base h' Qi w')
  (v:Value):Rel Z base nt ⟨s.fr,h'⟩ Qi (a.put none v) w':=
 ⟨r.nt,r.defers,λu=>(r.fr u).tr T,R'⟩
def PC{pl:List Pl}{p:Pl}{b:Nat}(hf:W0 pl b)(hp:∀q,p≠some (b,q)):W0 (pl++[p]) b:=λl q e=>by
 by_cases hl:l<pl.length
 .rw[JC hl]at e;exact hf l q e
 .rw[Kb ω]at e;have:l - pl.length=0:=by
   have:=(WC.1 e).1;simp at this;exact this
  rw[this]at e;simp at e;exact hp q e
def Aw{α:Type}{l:List α}{x y:α}{i:Nat}(e:l[i]? = some x):(l++[y])[i]? = some x:=by
 rw[JC (WC.1 e).1];exact e
def XM{α:Type}{l:List α}{x y}{i}(e:(l++[y])[i]? = some x):l[i]? = some x\/(i=l.length/\x=y):=by
 by_cases hl:i<l.length
 .rw[JC hl]at e;exact .inl e
 .rw[Kb ω]at e;have h0:=(WC.1 e).1;simp at h0;have h1:i=l.length:=ω;subst h1;simp at e;exact .inr ⟨rfl,e.symm⟩
def vP(w:World)(o:Obj)(b)(h:b<w.heap.size):(w.alloc o).heap[b]? = w.heap[b]? := Below.heap_alloc w o b h
def Tr.push{base:Nat}{h:List Ob}{pl:List Pl}{w w':World}(R:Zi Z base h pl w)(e:∀b,b<w.heap.size->w'.heap[b]? = w.heap[b]?)(ob:Ob)(p:Pl)(hp:∀b q,p=some (b,q)->w.heap.size<=b):Tr h pl w (h++[ob]) (pl++[p]) w' where
 J3:=λb hb Qb=>⟨PC hb λq hq=>by have:=hp b q hq;omega,e b Qb⟩
 obj:=λl o p ho hp=>⟨o,p,Aw ho,Aw hp,QB _,rfl,λ_=>⟨rfl,rfl⟩⟩
 shape:=λl o o' b q ho Zv hg hp c el hb=>⟨c,by rw[e b (R.lt hp).1];exact hb,rfl⟩
def Zi.PD{base}{h}{pl}{w w':World}(R:Zi Z base h pl w)(e:∀b,b<w.heap.size->w'.heap[b]? = w.heap[b]?)(ob){b0 q0}(hp:w.heap.size<=b0)(Q1:base<=b0)
  (hx:Ky Z (h++[ob]) (pl++[some (b0,q0)]) w' ob b0 q0):Zi Z base (h++[ob]) (pl++[some (b0,q0)]) w':=by
 have T:Tr h pl w (h++[ob]) (pl++[some (b0,q0)]) w':=Tr.push R e ob _ (by intro b q e;simp at e;omega);refine⟨by simp[R.len],?_,?_,?_⟩
 .intro l l' b q q' e1 e2;rcases XM e1 with h1|⟨h1,Ji⟩<;>rcases XM e2 with h2|⟨h2,Yu⟩
  .exact R.inj l l' b q q' h1 h2
  .have:=(R.lt h1).1;simp at Yu;omega
  .have:=(R.lt h2).1;simp at Ji;omega
  .omega
 .intro l o ho e1;rcases XM e1 with h1|⟨h1,Ji⟩
  .rcases XM ho with h2|⟨h2,Yu⟩
   .exact R.VB l o h2 h1
   .have:=Wc h1;have:=R.len;omega
  .simp at Ji
 .intro l o b q ho Zh;rcases XM Zh with h1|⟨h1,Ji⟩
  .rcases XM ho with h2|⟨h2,Yu⟩
   .obtain⟨g1,x⟩:=R.at_ l o b q h2 h1;exact⟨g1,x.to rfl rfl rfl (e b (R.lt h1).1) (λ_ _=>rfl) λi j v _ _ hr=>hr.tr T⟩
   .have:=Wc h1;have:=R.len;omega
  .rcases XM ho with h2|⟨h2,Yu⟩
   .have:=KD h2;have:=R.len;omega
   .subst Yu;simp at Ji;obtain⟨rfl,rfl⟩:=Ji;exact⟨λ_=>Q1,hx⟩
def Zi.push{base}{h}{pl}{w w':World}(R:Zi Z base h pl w)(e:∀b,b<w.heap.size->w'.heap[b]? = w.heap[b]?)(ob:Ob)(hk:ob.kd.ty=0){b0 q0}(hp:w.heap.size<=b0)(Q1:base<=b0)
  {c:Array Value} {el:TypeId} (hb:w'.heap[b0]? = some (.cells c el (0,0))) (Ju:q0+ob.n*ob.sz<=c.size) (Kc:∀i,i<ob.n->(ob.row i).length=ob.sz)
  (ZG:∀i j,i<ob.n->j<ob.sz->∃v,c[q0+(i*ob.sz+j)]? = some v/\QC Z (h++[ob]) (pl++[some (b0,q0)]) w' (nth (ob.row i) j) v):Zi Z base (h++[ob]) (pl++[some (b0,q0)]) w':=
 R.PD e ob hp Q1 (.Mh hk ⟨c,el,hb,Ju,Kc,ZG⟩)
def Zi.BS{base}{h}{pl}{w}(R:Zi Z base h pl w)(ob:Ob)(hn:ob.n=0):Zi Z base (h++[ob]) (pl++[none]) w:=by
 have T:Tr h pl w (h++[ob]) (pl++[none]) w:=Tr.push R (λ_ _=>rfl) ob _ (by intro b q e;simp at e);refine⟨by simp[R.len],?_,?_,?_⟩
 .intro l l' b q q' e1 e2;rcases XM e1 with h1|⟨h1,Ji⟩
  .rcases XM e2 with h2|⟨h2,Yu⟩
   .exact R.inj l l' b q q' h1 h2
   .simp at Yu
  .simp at Ji
 .intro l o ho e1;rcases XM ho with h2|⟨h2,Yu⟩
  .rcases XM e1 with h1|⟨h1,Ji⟩
   .exact R.VB l o h2 h1
   .have:=KD h2;have:=R.len;omega
  .subst Yu;exact hn
 .intro l o b q ho Zh;rcases XM Zh with h1|⟨h1,Ji⟩
  .rcases XM ho with h2|⟨h2,Yu⟩
   .obtain⟨g1,x⟩:=R.at_ l o b q h2 h1;exact⟨g1,x.to rfl rfl rfl rfl (λ_ _=>rfl) λi j v _ _ hr=>hr.tr T⟩
   .have:=Wc h1;have:=R.len;omega
  .simp at Ji
def Tr.QV{base:Nat}{h:List Ob}{pl:List Pl}{w w':World}(R:Zi Z base h pl w){l:Nat}{o o':Ob}{b q:Nat}(ho:h[l]? = some o)(hp:pl[l]? = some (some (b,q)))(JE:o'.kd.ty=o.kd.ty)(hg:o'.gen=o.gen)(hz:o'.sz=o.sz)
  (e:∀k,k≠b->k<w.heap.size->w'.heap[k]? = w.heap[k]?) (JX:∀c el,w.heap[b]? = some (.cells c el (0,0))->∃c',w'.heap[b]? = some (.cells c' el (0,0))/\c'.size=c.size):Tr h pl w (h.set l o') pl w' where
 J3:=λk hk Qb=>⟨hk,e k (λhb=>hk l q (by rw[hb];exact hp)) Qb⟩
 obj:=λl' o1 p ZN XN=>by
  by_cases hl:l=l'
  .subst hl;rw[ho]at ZN;cases ZN;exact⟨o',p,by simp[KD ho],XN,ω,JE,λ_=>⟨hz,rfl⟩⟩
  .exact⟨o1,p,by rw[Jw hl];exact ZN,XN,QB _,rfl,λ_=>⟨rfl,rfl⟩⟩
 shape:=λl' o1 o2 b1 q1 ZN K6 Au XN c el hb=>by
  by_cases hl:b1=b
  .subst hl;exact JX c el hb
  .exact⟨c,by rw[e b1 hl (R.lt XN).1];exact hb,rfl⟩
def Zi.Qku{base:Nat}{h:List Ob}{pl:List Pl}{w w':World}(R:Zi Z base h pl w){l:Nat}{o o':Ob}{b q:Nat}(ho:h[l]? = some o)(hp:pl[l]? = some (some (b,q)))
  (T:Tr h pl w (h.set l o') pl w') (e:∀k,k≠b->k<w.heap.size->w'.heap[k]? = w.heap[k]?) (hx:Ky Z (h.set l o') pl w' o' b q) (hro:o'.kd.ro=o.kd.ro):Zi Z base (h.set l o') pl w':=by
 refine⟨by simp[R.len],R.inj,?_,?_⟩
 .intro l' o1 ZN XN;by_cases hl:l=l'
  .subst hl;rw[hp]at XN;cases XN
  .rw[Jw hl]at ZN;exact R.VB l' o1 ZN XN
 .intro l' o1 b1 q1 ZN XN;by_cases hl:l=l'
  .subst hl;rw[hp]at XN;cases XN;have:(h.set l o')[l]? = some o':=by simp[KD ho]
   rw[this]at ZN;cases ZN;exact⟨λhr=>(R.lt hp).2 o ho (by rw[<- hro,hr]),hx⟩
  .rw[Jw hl]at ZN;obtain⟨g1,x⟩:=R.at_ l' o1 b1 q1 ZN XN;have QA:b1≠b:=λXf=>hl (R.inj l l' b q q1 hp (by rw[<- Xf];exact XN));exact⟨g1,x.to rfl rfl rfl (e b1 QA (R.lt XN).1) (λ_ _=>rfl) λi j v _ _ hr=>hr.tr T⟩
def Zi.QV{base:Nat}{h:List Ob}{pl:List Pl}{w w':World}(R:Zi Z base h pl w){l:Nat}{o o':Ob}{b q:Nat}(ho:h[l]? = some o)(hp:pl[l]? = some (some (b,q)))(hk:o.kd.ty=0)(ZJ:o'.kd.ty=0)(hg:o'.gen=o.gen)(hz:o'.sz=o.sz)
  (e:∀k,k≠b->k<w.heap.size->w'.heap[k]? = w.heap[k]?) {c0 c:Array Value} {el:TypeId} (Zp:w.heap[b]? = some (.cells c0 el (0,0))) (hb:w'.heap[b]? = some (.cells c el (0,0))) (hc:c.size=c0.size)
  (Ju:q+o'.n*o'.sz<=c.size) (Kc:∀i,i<o'.n->(o'.row i).length=o'.sz)
  (ZG:∀i j,i<o'.n->j<o'.sz->∃v,c[q+(i*o'.sz+j)]? = some v/\QC Z (h.set l o') pl w' (nth (o'.row i) j) v) (hro:o'.kd.ro=o.kd.ro):Zi Z base (h.set l o') pl w':=
 R.Qku (hro:=hro) ho hp (Tr.QV R ho hp (by rw[hk,ZJ]) hg hz e (λc1 iz h1=>by rw[Zp]at h1;cases h1;exact⟨c,hb,hc⟩)) e (.Mh ZJ ⟨c,el,hb,Ju,Kc,ZG⟩)
variable {Z:Nat->Prop}
inductive TK where
 | int (k:IntKind)|bool|str|slice (e:TypeId)|array (n:Nat) (e:TypeId)|struct (fs:List (Nat × TypeId))|ptr (e:TypeId)|map (k e:TypeId)|fn|iface|other
def TK.of:TypeDesc->TK
 | .int k=>.int k
 | .bool=>.bool
 | .string=>.str
 | .slice e=>.slice e
 | .array n e=>.array n e
 | .struct fs=>.struct (fs.toList.map λf=>(f.offset,f.type))
 | .pointer e=>.ptr e
 | .map k e=>.map k e
 | .func _ _ _=>.fn
 | .interface _=>.iface
 | _=>.other
structure Ty where
 k:TK
 size:Nat
 bytes:Nat
 zero:List Value
def TK.agg:TK->Bool
 | .struct _ | .array _ _=>true
 | _=>false
def UB:Value->Bool
 | .agg _=>true
 | _=>false
structure WD (P:Program) (t:TypeId) (y:Ty):Prop where
 k:(P.underlying t).map TK.of=some y.k
 info:(P.info? t).map (λi=>(i.size,i.bytes,i.zero.map λz=>z.cells.toList))=some (y.size,y.bytes,some y.zero)
 zag:((P.info? t).bind (·.zero)).map UB=some y.k.agg
abbrev Z8:=List (TypeId × Ty)
def ty:Z8->TypeId->Option Ty
 | [],_=>none
 | (u,y)::r,t=>bif Nat.beq u t then some y else ty r t
def Z5(P:Program)(L:Z8):Prop:=∀t y,ty L t=some y->WD P t y
def Z5.nil(P):Z5 P []:=λ_ _ h=>by simp[ty]at h
def Z5.cons{P}{L}{t:TypeId}{y}(h:WD P t y)(r:Z5 P L):Z5 P ((t,y)::L):=λu z e=>by
 simp only[ty]at e;by_cases hu:t=u
 .subst hu;simp at e;subst e;exact h
 .have:Nat.beq t u=false:=by rw[<- Ys,Wa];exact hu
  rw[this]at e;exact r u z e
section
variable {P:Program}{t:TypeId}{y:Ty}(h:WD P t y)
include h
theorem WD.under:∃d,P.underlying t=some d/\TK.of d=y.k:=by
 have:=h.k;cases hd:P.underlying t with
 | none=>rw[hd]at this;cases this
 | some d=>rw[hd]at this;exact⟨d,rfl,by simpa using this⟩
theorem WD.sizeOf(w):(Go.sizeOf t).run P w=.ok y.size w:=by
 have:=h.info;cases hi:P.info? t with
 | none=>rw[hi]at this;cases this
 | some i=>
  rw[hi]at this;simp at this;simp[Go.sizeOf,typeInfo,hi,this.1]
theorem WD.typeInfo(w):∃i,(Go.typeInfo t).run P w=.ok i w/\i.size=y.size/\i.bytes=y.bytes:=by
 have:=h.info;cases hi:P.info? t with
 | none=>rw[hi]at this;cases this
 | some i=>
  rw[hi]at this;simp at this;exact⟨i,by simp[Go.typeInfo,hi],this.1,this.2.1⟩
theorem WD.zeroValue:∃z,z.cells.toList=y.zero/\∀w,(Go.zeroValue t).run P w=.ok z w:=by
 have:=h.info;cases hi:P.info? t with
 | none=>rw[hi]at this;cases this
 | some i=>
  rw[hi]at this;simp at this;obtain⟨_,_,z,hz,iA⟩:=this;exact⟨z,iA,λw=>by simp[Go.zeroValue,Go.typeInfo,hi,hz]⟩
theorem WD.isAgg(w):(Go.isAgg t).run P w=.ok y.k.agg w:=by
 obtain⟨d,hd,he⟩:=h.under;rw[<- he];cases d<;>simp[Go.isAgg,run_underlying hd,TK.of,TK.agg]
end
def TK.of_slice{d:TypeDesc}{e:TypeId}(h:TK.of d=.slice e):d=.slice e:=by cases d<;>simp[TK.of]at h;rw[h]
def TK.of_array{d:TypeDesc}{n}{e:TypeId}(h:TK.of d=.array n e):d=.array n e:=by cases d<;>simp[TK.of]at h;rw[h.1,h.2]
def TK.of_struct{d:TypeDesc}{fs:List (Nat × TypeId)}(h:TK.of d=.struct fs):∃g,d=.struct g/\g.toList.map (λf=>(f.offset,f.type))=fs:=by cases d<;>simp[TK.of]at h;exact⟨_,rfl,by simpa using h⟩
def TK.of_int{d:TypeDesc}{k}(h:TK.of d=.int k):d=.int k:=by cases d<;>simp[TK.of]at h;rw[h]
def TK.of_bool{d:TypeDesc}(h:TK.of d=.bool):d=.bool:=by cases d<;>simp[TK.of]at h;rfl
def TK.Qkw{d:TypeDesc}(h:TK.of d=.str):d=.string:=by cases d<;>simp[TK.of]at h;rfl
def TK.Qkx{d:TypeDesc}{e:TypeId}(h:TK.of d=.ptr e):d=.pointer e:=by cases d<;>simp[TK.of]at h;rw[h]
def TK.of_map{d:TypeDesc}{k e:TypeId}(h:TK.of d=.map k e):d=.map k e:=by cases d<;>simp[TK.of]at h;rw[h.1,h.2]
def xi{P:Program}{t e:TypeId}{y:Ty}(h:WD P t y)(hk:y.k=.slice e):P.underlying t=some (.slice e):=by
 obtain⟨d,hd,he⟩:=h.under;rw[hk]at he;rw[hd,TK.of_slice he]
def iB{P:Program}{t e:TypeId}{n}{y:Ty}(h:WD P t y)(hk:y.k=.array n e):P.underlying t=some (.array n e):=by
 obtain⟨d,hd,he⟩:=h.under;rw[hk]at he;rw[hd,TK.of_array he]
def uY{P:Program}{t:TypeId}{fs:List (Nat × TypeId)}{y:Ty}(h:WD P t y)(hk:y.k=.struct fs):∃g,P.underlying t=some (.struct g)/\g.toList.map (λf=>(f.offset,f.type))=fs:=by
 obtain⟨d,hd,he⟩:=h.under;rw[hk]at he;obtain⟨g,hg,hm⟩:=TK.of_struct he;exact⟨g,by rw[hd,hg],hm⟩
def BT{P:Program}{t:TypeId}{k}{y:Ty}(h:WD P t y)(hk:y.k=.int k):P.underlying t=some (.int k):=by
 obtain⟨d,hd,he⟩:=h.under;rw[hk]at he;rw[hd,TK.of_int he]
def Qky{P:Program}{t:TypeId}{y:Ty}(h:WD P t y)(hk:y.k=.bool):P.underlying t=some .bool:=by
 obtain⟨d,hd,he⟩:=h.under;rw[hk]at he;rw[hd,TK.of_bool he]
def PE{P:Program}{t:TypeId}{y:Ty}(h:WD P t y)(hk:y.k=.str):P.underlying t=some .string:=by
 obtain⟨d,hd,he⟩:=h.under;rw[hk]at he;rw[hd,TK.Qkw he]
def Qkz{P:Program}{t e:TypeId}{y:Ty}(h:WD P t y)(hk:y.k=.ptr e):P.underlying t=some (.pointer e):=by
 obtain⟨d,hd,he⟩:=h.under;rw[hk]at he;rw[hd,TK.Qkx he]
def Dn{P:Program}{t k e:TypeId}{y:Ty}(h:WD P t y)(hk:y.k=.map k e):P.underlying t=some (.map k e):=by
 obtain⟨d,hd,he⟩:=h.under;rw[hk]at he;rw[hd,TK.of_map he]
def J4:Value->D
 | .slice none 0 0=>.nil
 | v=>.raw v
def XO:Value->D
 | .agg cs=>.agg (cs.toList.map J4)
 | v=>J4 v
def Qo(fr:List (Nat × D)):Operand->D
 | .tmp t=>get fr t
 | .const v=>XO v
 | .global _=>.undef
 | .func f=>.raw (.func (.func f) #[] #[])
def BU(N)(w)(v):Cl N w (J4 v) v:=by
 unfold J4;split
 .exact .nil none
 .exact .raw _
def QkA(N)(w)(v):Cl N w (XO v) v:=by
 unfold XO;split
 .rename_i cs;have:=Cl.agg (N:=N) (w:=w) (cs.toList.map J4) cs.toList σ (λi hi=>by
   have Z9:i<cs.size:=by simpa using hi
   simp only[nth,QZ,Q5,Ks];rw[QP (by simpa using Z9)];exact BU N w _)
  simpa using this
 .exact BU N w _
def Rel.eval{base nt}{s:St}{pl}{a:Act}{w}(r:Rel Z base nt s pl a w)(x):QC Z s.h pl w (Qo s.fr x) (a.eval x):=by
 cases x with
 | tmp t=>exact r.fr t
 | const v=>exact .cl _ _ (QkA _ _ v)
 | global g=>exact .cl _ _ (.undef _)
 | func f=>exact .cl _ _ (.raw _)
section
variable {h:List Ob}{pl:List Pl}{w:World}{v:Value}
def Jn{u}(r:QC Z h pl w (.raw u) v):v=u:=by
 cases r with|cl _ _ hc=>cases hc;rfl
def Dp(r:QC Z h pl w .nil v):∃a,v=.slice a 0 0:=by
 cases r with|cl _ _ hc=>cases hc;exact⟨_,rfl⟩
def Dq{l g off len}(r:QC Z h pl w (.ref l g off len) v):∃o p a cap,v=.slice a len cap/\h[l]? = some o/\pl[l]? = some p/\o.kd.ty=0/\g<=o.gen/\(g=o.gen->uW w o.sz p off len a cap):=by
 cases r with
 | cl _ _ hc=>cases hc
 | ref _ _ _ _ o p a cap ho hp hk hg hs=>exact⟨o,p,a,cap,rfl,ho,hp,hk,hg,hs⟩
def Dr{l g i j}(r:QC Z h pl w (.ptr l g i j) v):∃o p a,v=.pointer (some a)/\h[l]? = some o/\pl[l]? = some p/\o.kd.ty=0/\g<=o.gen/\(g=o.gen->∃b q,p=some (b,q)/\a=⟨b,q+(i*o.sz+j),none⟩):=by
 cases r with
 | cl _ _ hc=>cases hc
 | ptr _ _ _ _ o p a ho hp hk hg hs=>exact⟨o,p,a,rfl,ho,hp,hk,hg,hs⟩
def Ft{l g}(r:QC Z h pl w (.mref l g) v):∃o p b,h[l]? = some o/\pl[l]? = some p/\uV o.kd.ty b v/\g<=o.gen/\(g=o.gen->p=some (b,0)):=by
 cases r with
 | cl _ _ hc=>cases hc
 | mref _ _ o p b ho hp hk hg hs=>exact⟨o,p,b,ho,hp,hk,hg,hs⟩
def Ho{cs:List D}(r:QC Z h pl w (.agg cs) v):∃vs:List Value,v=.agg vs.toArray/\vs.length=cs.length/\∀i,i<cs.length->QC Z h pl w (nth cs i) (QZ vs i):=by
 cases r with
 | cl _ _ hc=>cases hc with|agg _ vs hl hr=>exact⟨vs,rfl,hl,λi hi=>.cl _ _ (hr i hi)⟩
 | agg _ vs hl hr=>exact⟨vs,rfl,hl,hr⟩
def QkB{cs:List D}(r:QC Z h pl w (.tup cs) v):∃vs:List Value,v=.tuple vs.toArray/\vs.length=cs.length/\∀i,i<cs.length->QC Z h pl w (nth cs i) (QZ vs i):=by
 cases r with
 | cl _ _ hc=>cases hc with|tup _ vs hl hr=>exact⟨vs,rfl,hl,λi hi=>.cl _ _ (hr i hi)⟩
 | tup _ vs hl hr=>exact⟨vs,rfl,hl,hr⟩
def iC{f}{nf:Nat}{cs:List D}(r:QC Z h pl w (.clo f nf cs) v):∃vs:List Value,v=.func (.func f) (vs.take nf).toArray (vs.drop nf).toArray/\vs.length=cs.length/\∀i,i<cs.length->QC Z h pl w (nth cs i) (QZ vs i):=by
 cases r with
 | cl _ _ hc=>cases hc with|clo _ _ _ vs hl hr=>exact⟨vs,rfl,hl,λi hi=>.cl _ _ (hr i hi)⟩
 | clo _ _ _ vs hl hr=>exact⟨vs,rfl,hl,hr⟩
def Hp{cs:List D}(r:QC Z h pl w (.ip cs) v):∃b o,∃vs:Nat->Value,v=.pointer (some ⟨b,o,none⟩)/\∀j,j<cs.length->(free Z pl b/\w.cell? ⟨b,o+j,none⟩=some (vs j))/\Cl (free Z pl) w (nth cs j) (vs j):=by
 cases r with
 | cl _ _ hc=>cases hc with|ip _ b o vs hc hr=>exact⟨b,o,vs,rfl,λj hj=>⟨hc j hj,hr j hj⟩⟩
def PF{sz n}{row}(r:QC Z h pl w (.imm sz n row) v):∃a cap b o,∃vs:Nat->Nat->Value,v=.slice a n cap/\(0<n->a=some ⟨b,o,none⟩)/\n<=cap/\(∀i,i<n->(row i).length=sz) /\
  ∀i j,i<n->j<sz->(free Z pl b/\w.cell? ⟨b,o+(i*sz+j),none⟩=some (vs i j))/\Cl (free Z pl) w (nth (row i) j) (vs i j):=by
 cases r with
 | cl _ _ hc=>cases hc with|imm _ _ _ a cap b o vs ha hl hs hc hr=>exact⟨a,cap,b,o,vs,rfl,ha,hl,hs,λi j hi hj=>⟨hc i j hi hj,hr i j hi hj⟩⟩
end
def Wd(P:Program)(base nt:Nat)(o:Oper)(s:St)(d:D):Prop:=
 ∀(Z:Nat->Prop) pl a w,Rel Z base nt s pl a w->∃v,QC Z s.h pl w d v/\∀w':World,(∀b,b<w.heap.size->w'.heap[b]? = w.heap[b]?)->(execOp a.eval o).run P w'=.ok (.value v) w'
def QkC{w w':World}(e:∀b,b<w.heap.size->w'.heap[b]? = w.heap[b]?){a}{v}(h:w.cell? a=some v):w'.cell? a=some v:=by
 rw[World.cell?_of_block (w:=w) (e a.block (block_lt_of_cell h))];exact h
def zM(w w':World):Prop:=∀(a:Addr) (v:Value),w.cell? a=some v->w'.cell? a=some v
def zM.trans{a b c}(h:zM a b)(k:zM b c):zM a c:=λx v hx=>k x v (h x v hx)
def zM.ext{w w':World}(e:∀b,b<w.heap.size->w'.heap[b]? = w.heap[b]?):zM w w':=λ_ _ h=>QkC e h
def UC(P:Program)(base nt:Nat)(o:Oper)(s:St)(d:D):Prop:=
 ∀(Z:Nat->Prop) pl a w,Rel Z base nt s pl a w->∃v,QC Z s.h pl w d v/\∀w':World,zM w w'->(execOp a.eval o).run P w'=.ok (.value v) w'
def UC.up{P}{base nt}{o}{s}{d}(h:UC P base nt o s d):Wd P base nt o s d:=λZ pl a w r=>by
 obtain⟨v,h1,h2⟩:=h Z pl a w r;exact⟨v,h1,λw' e=>h2 w' (.ext e)⟩
abbrev Ev:=Option (Prop × D)
def UD(op:BinOp)(k:IntKind)(a b:Int):Ev:=
 match op with
 | .add=>some (True,.raw (.int k (k.wrap (a+b))))
 | .sub=>some (True,.raw (.int k (k.wrap (a - b))))
 | .mul=>some (True,.raw (.int k (k.wrap (a*b))))
 | .quo=>some (b≠0,.raw (.int k (k.wrap (a.tdiv b))))
 | .rem=>some (b≠0,.raw (.int k (a.tmod b)))
 | .and=>some (True,.raw (.int k (bits .and k a b)))
 | .or=>some (True,.raw (.int k (bits .or k a b)))
 | .xor=>some (True,.raw (.int k (bits .xor k a b)))
 | .andNot=>some (True,.raw (.int k (bits .andNot k a b)))
 | .eql=>some (True,.raw (.bool (a==b)))
 | .neq=>some (True,.raw (.bool (a != b)))
 | .lss=>some (True,.raw (.bool (decide (a<b))))
 | .leq=>some (True,.raw (.bool (decide (a<=b))))
 | .gtr=>some (True,.raw (.bool (decide (b<a))))
 | .geq=>some (True,.raw (.bool (decide (b<=a))))
 | _=>none
def UE(op:BinOp)(k:IntKind)(a b:Int):Ev:=
 match op with
 | .shl=>some (0<=b,.raw (.int k (k.wrap (a*2 ^ (min b.toNat k.bits)))))
 | .shr=>some (0<=b,.raw (.int k (a.fdiv (2 ^ (min b.toNat k.bits)))))
 | _=>none
def IntKind.same:IntKind->IntKind->Bool
 | .i8,.i8 | .i16,.i16 | .i32,.i32 | .i64,.i64 | .u8,.u8 | .u16,.u16 | .u32,.u32 | .u64,.u64=>true
 | _,_=>false
def IntKind.iE{k k'}(h:IntKind.same k k'=true):k=k':=by cases k<;>cases k'<;>first|rfl|cases h
def iF:BinOp->Bool
 | .shl | .shr=>true
 | _=>false
def UF(op:BinOp)(a b:Bool):Ev:=
 match op with
 | .eql=>some (True,.raw (.bool (a==b)))
 | .neq=>some (True,.raw (.bool (a != b)))
 | _=>none
def UG(op:BinOp)(a b:ByteArray):Ev:=
 match op with
 | .add=>some (a.size+b.size<=9223372036854775807,.raw (.string (a++b)))
 | .eql=>some (True,.raw (.bool (a.toList==b.toList)))
 | .neq=>some (True,.raw (.bool (!(a.toList==b.toList))))
 | .lss=>some (True,.raw (.bool (Op.bytesLess a.toList b.toList)))
 | _=>none
def Fu(op:BinOp)(both:Bool):Ev:=
 match op with
 | .eql=>some (True,.raw (.bool both))
 | .neq=>some (True,.raw (.bool (!both)))
 | _=>none
def Fv(L:Z8)(t:TypeId):Bool:=match ty L t with|some ⟨.ptr _,_,_,_⟩=>true|_=>false
def UH(L:Z8)(t:TypeId):Bool:=match ty L t with|some ⟨.bool,_,_,_⟩=>true|_=>false
def UI(L:Z8)(op:BinOp)(t:TypeId):D->D->Ev
 | .raw (.int k a),.raw (.int k' b)=>bif iF op then UE op k a b else bif IntKind.same k k' then UD op k a b else none
 | .raw (.bool a),.raw (.bool b)=>bif UH L t then UF op a b else none
 | .raw (.string a),.raw (.string b)=>UG op a b
 | .raw (.pointer none),.raw (.pointer none)=>bif Fv L t then Fu op true else none
 | .ptr _ _ _ _,.raw (.pointer none)=>bif Fv L t then Fu op false else none
 | .ip _,.raw (.pointer none)=>bif Fv L t then Fu op false else none
 | .raw (.pointer none),.ptr _ _ _ _=>bif Fv L t then Fu op false else none
 | .raw (.pointer none),.ip _=>bif Fv L t then Fu op false else none
 | _,_=>none
def QkD(P)(w){s:Sem Value}{v}(h:s.run P w=.ok v w):(do pure (Next.value (<- s)):Sem Next).run P w=.ok (.value v) w:=by
 simp[h]
def QkE{P}{op}{k}{a b}{p}{d}(t)(h:UD op k a b=some (p,d))(hp:p):∃v,d=.raw v/\∀w,(Go.binOp op t (.int k a) (.int k b)).run P w=.ok v w:=by
 cases op<;>simp only[UD,QY,Q9,reduceCtorEq]at h<;>obtain⟨rfl,rfl⟩:=h<;>refine⟨_,rfl,λw=>?_⟩ <;>
  simp_all[Go.binOp,Op.intArith,Op.intDiv,Op.intBits,Op.intCmp,bits]
def QkF{P}{op}{k k'}{a b}{p}{d}(t)(h:UE op k a b=some (p,d))(hp:p):∃v,d=.raw v/\∀w,(Go.binOp op t (.int k a) (.int k' b)).run P w=.ok v w:=by
 cases op<;>simp only[UE,QY,Q9,reduceCtorEq]at h<;>obtain⟨rfl,rfl⟩:=h<;>refine⟨_,rfl,λw=>?_⟩ <;>
  (have:¬ b<0:=ω
   simp[Go.binOp,Op.shift,this])
def QkG{P}{op}{a b}{p}{d}(t)(h:UG op a b=some (p,d))(hp:p):∃v,d=.raw v/\∀w,(Go.binOp op t (.string a) (.string b)).run P w=.ok v w:=by
 cases op<;>simp only[UG,QY,Q9,reduceCtorEq]at h<;>obtain⟨rfl,rfl⟩:=h<;>refine⟨_,rfl,λw=>?_⟩ <;>
  simp[Go.binOp,Op.stringOp]
 omega
def QkH{P:Program}{t e:TypeId}(ht:P.underlying t=some (.pointer e))(n){x y:Option Addr}(kH:x=none\/y=none)(w):(Op.equalIn (n+1) t (.pointer x) (.pointer y)).run P w=.ok (x.isNone&&y.isNone) w:=by
 rcases kH with rfl|rfl
 .simp[Op.equalIn,run_underlying ht]
 .cases x<;>simp[Op.equalIn,run_underlying ht]
def iG{P}{t:TypeId}{x y:Value}{b}{w}(hb:∀n,(Op.equalIn (n+1) t x y).run P w=.ok b w):(Op.equal t x y).run P w=.ok b w:=hb 9999
def QkI{P:Program}{op}{a b}{p}{d}(t)(ht:P.underlying t=some .bool)(h:UF op a b=some (p,d)):∃v,d=.raw v/\∀w,(Go.binOp op t (.bool a) (.bool b)).run P w=.ok v w:=by
 have he:∀w,(Op.equal t (.bool a) (.bool b)).run P w=.ok (a==b) w:=λw=>iG λn=>run_equalIn_bool' w n t a b ht;cases op<;>simp only[UF,QY,Q9,reduceCtorEq]at h<;>obtain⟨rfl,rfl⟩:=h<;>refine⟨_,rfl,λw=>?_⟩<;>simp only[Go.binOp]
 .simp[he]
 .simp[he,bne]
def PG{P:Program}{op}{x y:Option Addr}(kH:x=none\/y=none){p}{d}{t e:TypeId}(ht:P.underlying t=some (.pointer e))(h:Fu op (x.isNone&&y.isNone)=some (p,d)):∃v,d=.raw v/\∀w,(Go.binOp op t (.pointer x) (.pointer y)).run P w=.ok v w:=by
 have he:∀w,(Op.equal t (.pointer x) (.pointer y)).run P w=.ok (x.isNone&&y.isNone) w:=λw=>iG λn=>QkH ht n kH w;cases op<;>simp only[Fu,QY,Q9,reduceCtorEq]at h<;>obtain⟨rfl,rfl⟩:=h<;>refine⟨_,rfl,λw=>?_⟩<;>simp only[Go.binOp]
 .simp[he]
 .simp[he]
def PH{P:Program}{L}(hL:Z5 P L){t:TypeId}(h:Fv L t=true):∃e,P.underlying t=some (.pointer e):=by
 unfold Fv at h;split at h
 .rename_i e _ _ _ he;exact⟨e,Qkz (hL _ _ he) rfl⟩
 .cases h
def QkJ{P:Program}{L}(hL:Z5 P L){t:TypeId}(h:UH L t=true):P.underlying t=some .bool:=by
 unfold UH at h;split at h
 .rename_i he;exact Qky (hL _ _ he) rfl
 .cases h
def zN{α:Type}{c:Bool}{x:Option α}{y:α}(h:(bif c then x else none)=some y):c=true/\x=some y:=by cases c<;>simp at h;exact⟨rfl,h⟩
def QkK{P}{L}(hL:Z5 P L){base nt}{s}{o:Oper}{op}{t yt:TypeId}{x y}(ho:o.op=.binOp op t x y yt){p}{d}
  (h:UI L op t (Qo s.fr x) (Qo s.fr y)=some (p,d)) (hp:p):Wd P base nt o s d:=by
 intro Z pl a w r;have hx:=r.eval x;have hy:=r.eval y;generalize Qo s.fr x=dx at *;generalize Qo s.fr y=dy at *;have fin:∀(vx vy:Value),a.eval x=vx->a.eval y=vy->(∀w,(eqGuard op t x y vx vy).run P w=.ok () w)->(∃v,d=.raw v/\∀w,(Go.binOp op t vx vy).run P w=.ok v w) ->
   ∃v,QC Z s.h pl w d v/\∀w':World,(∀b,b<w.heap.size->w'.heap[b]? = w.heap[b]?)->(execOp a.eval o).run P w'=.ok (.value v) w':=by
  intro vx vy e1 e2 hg ⟨v,hd,hv⟩;refine⟨v,hd▸.cl _ _ (.raw v),λw' _=>?_⟩;simp only[execOp,ho,e1,e2];refine QkD P w' ?_;simp[hg,hv]
 unfold UI at h;split at h
 .rename_i k i k' j;have e1:=Jn hx;have e2:=Jn hy;refine fin _ _ e1 e2 (λw=>by cases op<;>simp[eqGuard]) ?_;cases hs:iF op
  .rw[hs]at h;simp only[YW]at h;obtain⟨hk,h1⟩:=zN h;have:=IntKind.iE hk;subst this;exact QkE t h1 hp
  .rw[hs]at h;exact QkF t h hp
 .obtain⟨ht,h⟩:=zN h;exact fin _ _ (Jn hx) (Jn hy) (λw=>by cases op<;>simp[eqGuard]) (QkI t (QkJ hL ht) h)
 .exact fin _ _ (Jn hx) (Jn hy) (λw=>by cases op<;>simp[eqGuard]) (QkG t h hp)
 .obtain⟨ht,h⟩:=zN h;obtain⟨e,he⟩:=PH hL ht;exact fin _ _ (Jn hx) (Jn hy) (λw=>by cases op<;>simp[eqGuard]) (PG (.inl rfl) he h)
 .obtain⟨ht,h⟩:=zN h;obtain⟨e,he⟩:=PH hL ht;obtain⟨_,_,aa,hv,_⟩:=Dr hx;exact fin _ _ hv (Jn hy) (λw=>by cases op<;>simp[eqGuard]) (PG (.inr rfl) he h)
 .obtain⟨ht,h⟩:=zN h;obtain⟨e,he⟩:=PH hL ht;obtain⟨_,_,_,hv,_⟩:=Hp hx;exact fin _ _ hv (Jn hy) (λw=>by cases op<;>simp[eqGuard]) (PG (.inr rfl) he h)
 .obtain⟨ht,h⟩:=zN h;obtain⟨e,he⟩:=PH hL ht;obtain⟨_,_,aa,hv,_⟩:=Dr hy;exact fin _ _ (Jn hx) hv (λw=>by cases op<;>simp[eqGuard]) (PG (.inl rfl) he h)
 .obtain⟨ht,h⟩:=zN h;obtain⟨e,he⟩:=PH hL ht;obtain⟨_,_,_,hv,_⟩:=Hp hy;exact fin _ _ (Jn hx) hv (λw=>by cases op<;>simp[eqGuard]) (PG (.inl rfl) he h)
 .cases h
variable {Z:Nat->Prop}
section
variable {P:Program}{L:Z8}{base nt:Nat}{s:St}{o:Oper}
def uZ{x}(ho:o.op=.move x\/o.op=.assign x):Wd P base nt o s (Qo s.fr x):=by
 intro Z pl a w r;refine⟨_,r.eval x,λw' _=>?_⟩;rcases ho with ho|ho<;>simp[execOp,ho]
def QkL{c x y}(ho:o.op=.pick c x y){b}(hc:Qo s.fr c=.raw (.bool b)):Wd P base nt o s (bif b then Qo s.fr x else Qo s.fr y):=by
 intro Z pl a w r;have h:=r.eval c;rw[hc]at h;have e:=Jn h;cases b
 .exact⟨_,r.eval y,λw' _=>by simp[execOp,ho,e,asBool]⟩
 .exact⟨_,r.eval x,λw' _=>by simp[execOp,ho,e,asBool]⟩
def mk(y:Ty)(cells:List D):D:=bif y.k.agg then .agg (cells.take y.size) else nth cells 0
def BV(y:Ty):D:=bif y.k.agg then .agg (y.zero.map J4) else nth (y.zero.map J4) 0
def iH{P}{t:TypeId}{y}(h:WD P t y){N}(w):∃z,Cl N w (BV y) z/\∀w',(Go.zeroValue t).run P w'=.ok z w':=by
 have h1:=h.info;have h2:=h.zag;cases hi:P.info? t with
 | none=>rw[hi]at h1;cases h1
 | some i=>
  rw[hi]at h1 h2;simp at h1;obtain⟨_,_,z,hz,iA⟩:=h1;simp[hz]at h2;refine⟨z,?_,λw=>by simp[Go.zeroValue,Go.typeInfo,hi,hz]⟩;unfold BV;rw[<- h2,<- iA];cases z with
  | agg cs=>
   simp only[UB,js];refine .agg _ cs.toList (by simp[Value.cells]) λi hi=>?_;have Z9:i<cs.size:=by simpa[Value.cells] using hi
   have e1:nth ((Value.agg cs).cells.toList.map J4) i=J4 (QZ cs.toList i):=by
    simp[nth,QZ,Value.cells,Q5,Z9]
   rw[e1];exact BU N w _
  | _=>simp only[UB,YW,Value.cells,nth,JQ,List.map_nil,List.getD_cons_zero];exact BU N w _
def iI{cs:List D}{k i}(h:i<k):nth (cs.take k) i=nth cs i:=by
 simp only[nth,Q5,Xw,h,Vs]
def Fw{cs:List D}{k i}:nth (cs.drop k) i=nth cs (k+i):=by
 simp only[nth,Q5,Fj]
def u0{t:TypeId}{y:Ty}(ht:WD P t y)(w:World)(ad:Addr)(cells:List D){h:List Ob}{pl:List Pl}(w0:World)(Ju:y.size<=cells.length)(h1:y.k.agg=false->y.size=1)
  (hc:∀j,j<y.size->∃v,w.cell? (ad.add j)=some v/\QC Z h pl w0 (nth cells j) v) :
  ∃v,QC Z h pl w0 (mk y cells) v/\∀w',(∀j v,j<y.size->w.cell? (ad.add j)=some v->w'.cell? (ad.add j)=some v)->(loadVar t ad).run P w'=.ok v w':=by
 unfold mk;cases hk:y.k.agg
 .have hs:=h1 hk;obtain⟨v,hv,hr⟩:=hc 0 ω;refine⟨v,hr,λw' X9=>?_⟩;have:=X9 0 v ω hv;simp only[Addr.add_zero']at this;simp[loadVar,ht.isAgg,hk,this]
 .let f:Nat->Value:=λj=>(w.cell? (ad.add j)).getD Go.undef;refine⟨.agg ((List.range y.size).map f).toArray,.agg _ _ ξ (λi hi=>?_),λw' X9=>?_⟩
  .have Z9:i<y.size:=by simp at hi;omega
   obtain⟨v,hv,hr⟩:=hc i Z9;rw[iI Z9];have:QZ ((List.range y.size).map f) i=v:=by
    simp[QZ,Q5,Z9,f,hv]
   rw[this];exact hr
  .have hl:(loadCells ad y.size).run P w'=.ok ((List.range y.size).map f).toArray w':=run_loadCells w' ad y.size f (λj hj=>by
    obtain⟨v,hv,_⟩:=hc j hj;rw[X9 j v hj hv];simp[f,hv])
   simp[loadVar,ht.isAgg,hk,ht.sizeOf,hl]
def Hq(L:Z8)(h:List Ob)(t:TypeId)(d:D):Ev:=
 match ty L t with
 | none=>none
 | some y=>
  match d with
  | .ptr l g i j=>match h[l]? with
   | some o=>some (g=o.gen/\i<o.n/\j+y.size<=o.sz/\(y.k.agg=false->y.size=1),mk y ((o.row i).drop j))
   | none=>none
  | .ip cells=>some (y.size<=cells.length/\(y.k.agg=false->y.size=1),mk y cells)
  | _=>none
def yn(b o n):(⟨b,o,none⟩:Addr).add n=⟨b,o+n,none⟩:=Addr.add_lit b o n
def Qkh(hL:Z5 P L){t:TypeId}{x}(ho:o.op=.load t x){p}{d}(h:Hq L s.h t (Qo s.fr x)=some (p,d))(hp:p):UC P base nt o s d:=by
 intro Z pl a w r;have hx:=r.eval x;unfold Hq at h;cases ht:ty L t with
 | none=>rw[ht]at h;cases h
 | some y=>
  have hy:=hL t y ht;rw[ht]at h;dsimp only at h;generalize Qo s.fr x=dx at *;split at h
  .rename_i l g i j;split at h
   .rename_i ob Zf;simp only[QY,Q9]at h;obtain⟨rfl,rfl⟩:=h;obtain⟨hg,hi,hj,h1⟩:=hp;obtain⟨o',p',ad,hv,Zv,ZS,ZJ,jt,Kz⟩:=Dr hx;rw[Zf]at Zv;cases Zv;obtain⟨b,q,rfl,rfl⟩:=Kz hg;obtain⟨Q1,xx⟩:=r.o.at_ l ob b q Zf ZS;obtain⟨c,el,hb,Ju,Kc,ZG⟩:=xx.cells ZJ;obtain⟨v,hr,Ze⟩:=u0 hy w ⟨b,q+(i*ob.sz+j),none⟩ ((ob.row i).drop j) (h:=s.h) (pl:=pl) w (by simp[Kc i hi];omega) h1 (λk hk=>by
     obtain⟨v,hv,hr⟩:=ZG i (j+k) hi ω;refine⟨v,?_,by rw[Fw];exact hr⟩;rw[yn,cell_of_row w b _ c el (0,0) hb,<- hv];congr 1;omega)
    refine⟨v,hr,λw' e=>?_⟩;have:=Ze w' (λk v hk hv=>e _ _ hv);simp[execOp,ho,hv,Instr.loadAt,Instr.sureAddr,this]
   .cases h
  .rename_i cells;simp only[QY,Q9]at h;obtain⟨rfl,rfl⟩:=h;obtain⟨Ju,h1⟩:=hp;obtain⟨b,q,vs,hv,hc⟩:=Hp hx;obtain⟨v,hr,Ze⟩:=u0 hy w ⟨b,q,none⟩ cells (h:=s.h) (pl:=pl) w Ju h1 (λk hk=>by
    obtain⟨⟨_,h2⟩,h3⟩:=hc k ω;exact⟨vs k,by rw[yn];exact h2,.cl _ _ h3⟩)
   refine⟨v,hr,λw' e=>?_⟩;have:=Ze w' (λk v hk hv=>e _ _ hv);simp[execOp,ho,hv,Instr.loadAt,Instr.sureAddr,this]
  .cases h
def Qkk(hL:Z5 P L){t:TypeId}{x}(ho:o.op=.load t x){p}{d}(h:Hq L s.h t (Qo s.fr x)=some (p,d))(hp:p):Wd P base nt o s d:=(Qkh hL ho h hp).up
def Mj(L:Z8)(t:TypeId)(f:Nat):Option (Nat × Ty):=
 match ty L t with
 | some ⟨.struct fs,_,_,_⟩=>match fs[f]? with
  | some (off,u)=>match ty L u with
   | some y=>some (off,y)
   | none=>none
  | none=>none
 | _=>none
def iJ(hL:Z5 P L){t:TypeId}{f off}{y}(h:Mj L t f=some (off,y)):∃g fd,P.underlying t=some (.struct g)/\g[f]? = some fd/\fd.offset=off/\WD P fd.type y:=by
 unfold Mj at h;split at h
 .rename_i fs _ _ _ he;split at h
  .rename_i vQ u hf;split at h
   .rename_i y' hu;simp only[QY,Q9]at h;obtain⟨rfl,rfl⟩:=h;obtain⟨g,hg,hm⟩:=uY (hL _ _ he) rfl;rw[<- hm]at hf;simp only[Ks,VA,Q9]at hf;obtain⟨fd,h1,h2,h3⟩:=hf;exact⟨g,fd,hg,by simpa using h1,h2,by rw[h3];exact hL _ _ hu⟩
   .cases h
  .cases h
 .cases h
def UJ(L:Z8)(t:TypeId)(f:Nat)(d:D):Ev:=
 match Mj L t f with
 | none=>none
 | some (off,y)=>match d with
  | .ptr l g i j=>some (y.size≠0,.ptr l g i (j+off))
  | .ip cells=>some (y.size≠0,.ip (cells.drop off))
  | _=>none
def QkM(hL:Z5 P L){t:TypeId}{f}{x}(ho:o.op=.fieldAddr t x f){p}{d}(h:UJ L t f (Qo s.fr x)=some (p,d))(hp:p):Wd P base nt o s d:=by
 intro Z pl a w r;have hx:=r.eval x;unfold UJ at h;split at h
 .cases h
 .rename_i off y hf;obtain⟨g,fd,hg,Fx,rfl,hy⟩:=iJ hL hf;have fin:∀(b q:Nat),y.size≠0->a.eval x=.pointer (some ⟨b,q,none⟩)->∀w':World,(execOp a.eval o).run P w'=.ok (.value (.pointer (some ⟨b,q+fd.offset,none⟩))) w':=by
   intro b q iK he w';simp[execOp,ho,he,Instr.fieldAt,run_underlying hg,Fx,Instr.sureAddr,fieldPlace,hy.sizeOf,iK,yn]
  generalize Qo s.fr x=dx at *;split at h
  .rename_i l g i j;simp only[QY,Q9]at h;obtain⟨rfl,rfl⟩:=h;obtain⟨ob,pp,ad,hv,Zf,Wb,ZJ,Au,Kz⟩:=Dr hx;by_cases hl:g=ob.gen
   .obtain⟨b,q,rfl,rfl⟩:=Kz hl;exact⟨_,.ptr _ _ _ _ ob _ _ Zf Wb ZJ Au (λ_=>⟨b,q,rfl,by simp only[Addr.mk.injEq,and_true,vO];omega⟩),λw' _=>fin _ _ hp hv w'⟩
   .obtain⟨b,q,sp⟩:=ad;refine⟨.pointer (some ((⟨b,q,sp⟩:Addr).add fd.offset)),.ptr _ _ _ _ ob _ _ Zf Wb ZJ Au (λh=>absurd h hl),λw' _=>?_⟩;simp[execOp,ho,hv,Instr.fieldAt,run_underlying hg,Fx,Instr.sureAddr,fieldPlace,hy.sizeOf,hp]
  .rename_i cells;simp only[QY,Q9]at h;obtain⟨rfl,rfl⟩:=h;obtain⟨b,q,vs,hv,hc⟩:=Hp hx;refine⟨_,.cl _ _ (.ip _ b (q+fd.offset) (λj=>vs (fd.offset+j)) (λj hj=>?_) (λj hj=>?_)),λw' _=>fin _ _ hp hv w'⟩
   .obtain⟨⟨h1,h2⟩,h3⟩:=hc (fd.offset+j) (by simp at hj;omega);exact⟨h1,by rw[QfH];exact h2⟩
   .obtain⟨⟨h1,h2⟩,h3⟩:=hc (fd.offset+j) (by simp at hj;omega);rw[Fw];exact h3
  .cases h
def u9{t:TypeId}{y}(hy:WD P t y)(cs:List D)(vs:List Value){h}{pl}{w0}(hl:vs.length=cs.length)(hr:∀i,i<cs.length->QC Z h pl w0 (nth cs i) (QZ vs i))(off)
  (Ju:off+y.size<=cs.length) (h1:y.k.agg=false->y.size=1):∃v,QC Z h pl w0 (mk y (cs.drop off)) v/\∀w',(part t vs.toArray off).run P w'=.ok v w':=by
 unfold mk;cases hk:y.k.agg
 .have hs:=h1 hk;refine⟨QZ vs off,by simp only[YW];rw[Fw];exact hr off ω,λw'=>?_⟩;have Qb:off<vs.length:=ω;simp[part,hy.isAgg,hk,QZ,Q5,Qb]
 .refine⟨.agg ((vs.drop off).take y.size).toArray,.agg _ _ ξ (λi hi=>?_),λw'=>?_⟩
  .have Z9:i<y.size:=by simp at hi;omega
   rw[iI Z9,Fw];have:QZ ((vs.drop off).take y.size) i=QZ vs (off+i):=by
    simp[QZ,Q5,Z9]
   rw[this];exact hr _ ω
  .simp[part,hy.isAgg,hk,hy.sizeOf]
def UK(L:Z8)(t:TypeId)(f:Nat)(d:D):Ev:=
 match Mj L t f with
 | none=>none
 | some (off,y)=>match d with
  | .agg cs=>some (off+y.size<=cs.length/\(y.k.agg=false->y.size=1),mk y (cs.drop off))
  | _=>none
def QkN(hL:Z5 P L){t:TypeId}{f}{x}(ho:o.op=.field t x f){p}{d}(h:UK L t f (Qo s.fr x)=some (p,d))(hp:p):Wd P base nt o s d:=by
 intro Z pl a w r;have hx:=r.eval x;unfold UK at h;split at h
 .cases h
 .rename_i off y hf;obtain⟨g,fd,hg,Fx,rfl,hy⟩:=iJ hL hf;generalize Qo s.fr x=dx at *;split at h
  .rename_i cs;simp only[QY,Q9]at h;obtain⟨rfl,rfl⟩:=h;obtain⟨vs,hv,hl,hr⟩:=Ho hx;obtain⟨v,iL,Ze⟩:=u9 hy cs vs hl hr fd.offset hp.1 hp.2;refine⟨v,iL,λw' _=>?_⟩;simp[execOp,ho,hv,Instr.field,run_underlying hg,Fx,asAgg,Ze]
  .cases h
def Ml(L:Z8)(t:TypeId):Option (Nat × Bool × Nat):=
 match ty L t with
 | some ⟨.slice e,_,_,_⟩=>match ty L e with
  | some y=>some (y.size,true,0)
  | none=>none
 | some ⟨.array n e,_,_,_⟩=>match ty L e with
  | some y=>some (y.size,false,n)
  | none=>none
 | _=>none
def QkO(hL:Z5 P L){t:TypeId}{sz n}(h:Ml L t=some (sz,true,n)):∃e y,P.underlying t=some (.slice e)/\WD P e y/\y.size=sz:=by
 unfold Ml at h;split at h
 .rename_i e _ _ _ he;split at h
  .rename_i y hy;simp only[QY,Q9]at h;exact⟨e,y,xi (hL _ _ he) rfl,hL _ _ hy,h.1⟩
  .cases h
 .split at h
  .simp at h
  .cases h
 .cases h
def QkP(hL:Z5 P L){t:TypeId}{sz n}(h:Ml L t=some (sz,false,n)):∃e y,P.underlying t=some (.array n e)/\WD P e y/\y.size=sz:=by
 unfold Ml at h;split at h
 .split at h
  .simp at h
  .cases h
 .rename_i e _ _ _ he;split at h
  .rename_i y hy;simp only[QY,Q9]at h;obtain⟨rfl,_,rfl⟩:=h;exact⟨e,y,iB (hL _ _ he) rfl,hL _ _ hy,rfl⟩
  .cases h
 .cases h
def UL(L:Z8)(h:List Ob)(t:TypeId)(d ix:D):Ev:=
 match ix with
 | .raw (.int _ i)=>match Ml L t with
  | some (sz,true,_)=>match d with
   | .ref l g off len=>match h[l]? with
    | some o=>some (g=o.gen/\o.sz=sz/\0<=i/\i<len,.ptr l g (off+i.toNat) 0)
    | none=>none
   | .imm z n row=>some (z=sz/\0<=i/\i<n,.ip (row i.toNat))
   | _=>none
  | some (sz,false,n)=>match d with
   | .ptr l g a j=>some (0<=i/\i<n,.ptr l g a (j+i.toNat*sz))
   | .ip cells=>some (0<=i/\i<n,.ip (cells.drop (i.toNat*sz)))
   | _=>none
  | none=>none
 | _=>none
def QkQ(hL:Z5 P L){t:TypeId}{x ix}(ho:o.op=.indexAddr t x ix){p}{d}(h:UL L s.h t (Qo s.fr x) (Qo s.fr ix)=some (p,d))(hp:p):Wd P base nt o s d:=by
 intro Z pl a w r;have hx:=r.eval x;have iM:=r.eval ix;unfold UL at h;generalize Qo s.fr x=dx at *;generalize Qo s.fr ix=di at *;split at h
 .rename_i k i;have hi:=Jn iM;split at h
  .rename_i sz _ he;obtain⟨e,y,hu,hy,rfl⟩:=QkO hL he;split at h
   .rename_i l g off len;split at h
    .rename_i ob Zf;simp only[QY,Q9]at h;obtain⟨rfl,rfl⟩:=h;obtain⟨hg,Ju,h0,h1⟩:=hp;obtain⟨o',p',ad,cap,hv,Zv,ZS,ZJ,jt,Kz⟩:=Dq hx;rw[Zf]at Zv;cases Zv;rcases Kz hg with ⟨h2,_⟩|⟨b,q,c,el,Wb,kI,hb,hc,BW⟩
     .omega
     .refine⟨.pointer (some ⟨b,q+((off+i.toNat)*ob.sz+0),none⟩),.ptr _ _ _ _ ob _ _ Zf ZS ZJ jt (λ_=>⟨b,q,Wb,rfl⟩),λw' _=>?_⟩;simp[execOp,ho,hv,hi,kI,Instr.indexAt,asIntOf,run_underlying hu,h0,h1,hy.sizeOf,yn,Ju];rw[Vz];omega
    .cases h
   .rename_i z n row;simp only[QY,Q9]at h;obtain⟨rfl,rfl⟩:=h;obtain⟨rfl,h0,h1⟩:=hp;obtain⟨ad,cap,b,q,vs,hv,kI,BW,hs,hc⟩:=PF hx;have Qb:i.toNat<n:=ω;refine⟨.pointer (some ⟨b,q+i.toNat*y.size,none⟩),.cl _ _ (.ip _ b _ (λj=>vs i.toNat j) (λj hj=>?_) (λj hj=>?_)),λw' _=>?_⟩
    .rw[hs _ Qb]at hj;obtain⟨⟨h2,h3⟩,h4⟩:=hc i.toNat j Qb hj;exact⟨h2,by rw[QfH];exact h3⟩
    .rw[hs _ Qb]at hj;exact(hc i.toNat j Qb hj).2
    .simp[execOp,ho,hv,hi,kI ω,Instr.indexAt,asIntOf,run_underlying hu,h0,h1,hy.sizeOf,yn]
   .cases h
  .rename_i sz n he;obtain⟨e,y,hu,hy,rfl⟩:=QkP hL he;split at h
   .rename_i l g i0 j;simp only[QY,Q9]at h;obtain⟨rfl,rfl⟩:=h;obtain⟨h0,h1⟩:=hp;obtain⟨ob,pp,ad,hv,Zf,Wb,ZJ,Au,Kz⟩:=Dr hx;refine⟨.pointer (some (ad.add (i.toNat*y.size))),.ptr _ _ _ _ ob _ _ Zf Wb ZJ Au (λhg=>?_),λw' _=>?_⟩
    .obtain⟨b,q,rfl,rfl⟩:=Kz hg;exact⟨b,q,rfl,by rw[yn];simp only[Addr.mk.injEq,and_true,vO];omega⟩
    .simp[execOp,ho,hv,hi,Instr.indexAt,asIntOf,run_underlying hu,h0,h1,hy.sizeOf,Instr.sureAddr]
   .rename_i cells;simp only[QY,Q9]at h;obtain⟨rfl,rfl⟩:=h;obtain⟨h0,h1⟩:=hp;obtain⟨b,q,vs,hv,hc⟩:=Hp hx;refine⟨_,.cl _ _ (.ip _ b (q+i.toNat*y.size) (λj=>vs (i.toNat*y.size+j)) (λj hj=>?_) (λj hj=>?_)),λw' _=>?_⟩
    .obtain⟨⟨h1,h2⟩,h3⟩:=hc (i.toNat*y.size+j) (by simp at hj;omega);exact⟨h1,by rw[QfH];exact h2⟩
    .obtain⟨⟨h1,h2⟩,h3⟩:=hc (i.toNat*y.size+j) (by simp at hj;omega);rw[Fw];exact h3
    .simp[execOp,ho,hv,hi,Instr.indexAt,asIntOf,run_underlying hu,h0,h1,hy.sizeOf,Instr.sureAddr,yn]
   .cases h
  .cases h
 .cases h
def UM(L:Z8)(t:TypeId)(d ix:D):Ev:=
 match ix with
 | .raw (.int _ i)=>match d with
  | .agg cs=>match ty L t with
   | some ⟨.array n e,_,_,_⟩=>match ty L e with
    | some y=>some (0<=i/\i<n/\i.toNat*y.size+y.size<=cs.length/\(y.k.agg=false->y.size=1),mk y (cs.drop (i.toNat*y.size)))
    | none=>none
   | _=>none
  | .raw (.string b)=>match ty L t with
   | some ⟨.str,_,_,_⟩=>some (0<=i/\i<b.size,.raw (.int .u8 (b.data.getD i.toNat 0).toNat))
   | _=>none
  | _=>none
 | _=>none
def iN(hL:Z5 P L){t:TypeId}{x ix}(ho:o.op=.index t x ix){p}{d}(h:UM L t (Qo s.fr x) (Qo s.fr ix)=some (p,d))(hp:p):Wd P base nt o s d:=by
 intro Z pl a w r;have hx:=r.eval x;have iM:=r.eval ix;unfold UM at h;generalize Qo s.fr x=dx at *;generalize Qo s.fr ix=di at *;split at h
 .rename_i k i;have hi:=Jn iM;split at h
  .rename_i cs;split at h
   .rename_i n e _ _ _ he;split at h
    .rename_i y Ax;have hy:=hL _ _ Ax;simp only[QY,Q9]at h;obtain⟨rfl,rfl⟩:=h;obtain⟨h0,h1,h2,h3⟩:=hp;obtain⟨vs,hv,hl,hr⟩:=Ho hx;obtain⟨v,iL,Ze⟩:=u9 hy cs vs hl hr _ h2 h3;refine⟨v,iL,λw' _=>?_⟩;simp[execOp,ho,hv,hi,Instr.index,asIntOf,run_underlying (iB (hL _ _ he) rfl),h0,h1,hy.sizeOf,Ze]
    .cases h
   .cases h
  .rename_i b;split at h
   .rename_i he;simp only[QY,Q9]at h;obtain⟨rfl,rfl⟩:=h;obtain⟨h0,h1⟩:=hp;have hv:=Jn hx;refine⟨_,.cl _ _ (.raw _),λw' _=>?_⟩;have Qb:i.toNat<b.size:=ω;have:b[i.toNat]? = some (b.data.getD i.toNat 0):=by
     rw[getElem?_pos b i.toNat Qb];show some (b.data[i.toNat])=_;rw[wX,zJ (by exact Qb)];rfl
    simp[execOp,ho,hv,hi,Instr.index,asIntOf,run_underlying (PE (hL _ _ he) rfl),h0,this]
   .cases h
  .cases h
 .cases h
def QkR{x}{i}(ho:o.op=.extract x i){cs:List D}(hx:Qo s.fr x=.tup cs)(hi:i<cs.length):Wd P base nt o s (nth cs i):=by
 intro Z pl a w r;have h:=r.eval x;rw[hx]at h;obtain⟨vs,hv,hl,hr⟩:=QkB h;refine⟨_,hr i hi,λw' _=>?_⟩;have:i<vs.length:=ω;simp[execOp,ho,hv,Instr.extract,QZ,Q5,this]
def QkS{u}{t:TypeId}{x}(ho:o.op=.unOp u t x){b}(hu:u=.not)(hx:Qo s.fr x=.raw (.bool b)):Wd P base nt o s (.raw (.bool (!b))):=by
 intro Z pl a w r;have h:=r.eval x;rw[hx]at h;have hv:=Jn h;exact⟨_,.cl _ _ (.raw _),λw' _=>by simp[execOp,ho,hv,hu,Op.unary]⟩
def QkT{u}{t:TypeId}{x}(ho:o.op=.unOp u t x){k:IntKind}{n}(hu:u=.neg)(hx:Qo s.fr x=.raw (.int k n)):Wd P base nt o s (.raw (.int k (k.wrap (0 - n)))):=by
 intro Z pl a w r;have h:=r.eval x;rw[hx]at h;have hv:=Jn h;exact⟨_,.cl _ _ (.raw _),λw' _=>by simp[execOp,ho,hv,hu,Op.unary,Op.intArith]⟩
def QkU{u}{t:TypeId}{x}(ho:o.op=.unOp u t x){k:IntKind}{n}(hu:u=.xor)(hx:Qo s.fr x=.raw (.int k n)):Wd P base nt o s (.raw (.int k (bits .xor k (if k.signed then -1 else k.max) n))):=by
 intro Z pl a w r;have h:=r.eval x;rw[hx]at h;have hv:=Jn h;exact⟨_,.cl _ _ (.raw _),λw' _=>by simp[execOp,ho,hv,hu,Op.unary,Op.intBits,bits]⟩
def D.there:D->Bool
 | .ptr _ _ _ _ | .ip _ | .clo _ _ _=>true
 | .raw (.func (.func _) _ _)=>true
 | _=>false
def QkV{x}(ho:o.op=.nilCheck x){d:D}(hx:Qo s.fr x=d)(hd:d.there=true):Wd P base nt o s d:=by
 intro Z pl a w r;have h:=r.eval x;rw[hx]at h;cases d<;>try (simp only[D.there,q7]at hd;done)
 case ptr l g i j=>
  obtain⟨_,_,ad,hv,_⟩:=Dr h;exact⟨_,h,λw' _=>by simp[execOp,ho,hv]⟩
 case ip cs=>
  obtain⟨_,_,_,hv,_⟩:=Hp h;exact⟨_,h,λw' _=>by simp[execOp,ho,hv]⟩
 case raw v=>
  have hv:=Jn h;cases v with
  | func fn first Qs=>
   cases fn with
   | func f=>exact⟨_,h,λw' _=>by simp[execOp,ho,hv]⟩
   | _=>simp only[D.there,q7]at hd
  | _=>simp only[D.there,q7]at hd
 case clo f nf cs=>
  obtain⟨vs,hv,_⟩:=iC h;exact⟨_,h,λw' _=>by simp[execOp,ho,hv]⟩
def UN(L:Z8)(src dst:TypeId):D->Ev
 | .raw (.int _ n)=>match ty L dst,ty L src with
  | some ⟨.int k,_,_,_⟩,some _=>some (True,.raw (.int k (k.wrap n)))
  | _,_=>none
 | .raw (.string b)=>match ty L dst,ty L src with
  | some ⟨.str,_,_,_⟩,some ⟨.str,_,_,_⟩=>some (True,.raw (.string b))
  | _,_=>none
 | _=>none
def QkW(hL:Z5 P L){src dst:TypeId}{x}(ho:o.op=.convert src dst x){p}{d}(h:UN L src dst (Qo s.fr x)=some (p,d)):Wd P base nt o s d:=by
 intro Z pl a w r;have hx:=r.eval x;unfold UN at h;generalize Qo s.fr x=dx at *;split at h
 .split at h
  .rename_i k _ _ _ ys hd hs;simp only[QY,Q9]at h;obtain⟨rfl,rfl⟩:=h;have hv:=Jn hx;refine⟨_,.cl _ _ (.raw _),λw' _=>?_⟩;obtain⟨sd,h1,h2⟩:=(hL _ _ hs).under;simp[execOp,ho,hv,convert,run_underlying h1,run_underlying (BT (hL _ _ hd) rfl),Conv.intToInt]
  .cases h
 .split at h
  .rename_i hd hs;simp only[QY,Q9]at h;obtain⟨rfl,rfl⟩:=h;have hv:=Jn hx;refine⟨_,.cl _ _ (.raw _),λw' _=>?_⟩;simp[execOp,ho,hv,convert,run_underlying (PE (hL _ _ hs) rfl),run_underlying (PE (hL _ _ hd) rfl)]
  .cases h
 .cases h
def UO(L:Z8)(t:TypeId):D->Ev
 | .ref _ _ _ n=>match ty L t with
  | some ⟨.slice _,_,_,_⟩=>some (True,.raw (.int .i64 n))
  | _=>none
 | .imm _ n _=>match ty L t with
  | some ⟨.slice _,_,_,_⟩=>some (True,.raw (.int .i64 n))
  | _=>none
 | .nil=>match ty L t with
  | some ⟨.slice _,_,_,_⟩=>some (True,.raw (.int .i64 0))
  | _=>none
 | .raw (.string b)=>match ty L t with
  | some ⟨.str,_,_,_⟩=>some (True,.raw (.int .i64 b.size))
  | _=>none
 | _=>none
def jv{P:Program}{o:Oper}{a:Act}{bi:Builtin}{args:Array Operand}{Zl:Array TypeId}(ho:o.op=.call ⟨.builtin bi,args,Zl⟩)(w:World):
  (execOp a.eval o).run P w=(builtin bi Zl o.type (args.map fun | .const _=>true|_=>false) (args.map a.eval)).run P w:=by
 simp[execOp,ho,resolve,invoke];rfl
def UP(hL:Z5 P L){x}{t:TypeId}(ho:o.op=.call ⟨.builtin .len,#[x],#[t]⟩){p}{d}(h:UO L t (Qo s.fr x)=some (p,d)):Wd P base nt o s d:=by
 intro Z pl a w r;have hx:=r.eval x;unfold UO at h;generalize Qo s.fr x=dx at *;split at h
 .split at h
  .rename_i he;simp only[QY,Q9]at h;obtain⟨rfl,rfl⟩:=h;obtain⟨_,_,ad,cap,hv,_⟩:=Dq hx;refine⟨_,.cl _ _ (.raw _),λw' _=>?_⟩;rw[jv ho];simp[builtin,Builtin.len_,hv,run_underlying (xi (hL _ _ he) rfl),goInt]
  .cases h
 .split at h
  .rename_i he;simp only[QY,Q9]at h;obtain⟨rfl,rfl⟩:=h;obtain⟨ad,cap,_,_,_,hv,_⟩:=PF hx;refine⟨_,.cl _ _ (.raw _),λw' _=>?_⟩;rw[jv ho];simp[builtin,Builtin.len_,hv,run_underlying (xi (hL _ _ he) rfl),goInt]
  .cases h
 .split at h
  .rename_i he;simp only[QY,Q9]at h;obtain⟨rfl,rfl⟩:=h;obtain⟨ad,hv⟩:=Dp hx;refine⟨_,.cl _ _ (.raw _),λw' _=>?_⟩;rw[jv ho];simp[builtin,Builtin.len_,hv,run_underlying (xi (hL _ _ he) rfl),goInt]
  .cases h
 .split at h
  .rename_i he;simp only[QY,Q9]at h;obtain⟨rfl,rfl⟩:=h;have hv:=Jn hx;refine⟨_,.cl _ _ (.raw _),λw' _=>?_⟩;rw[jv ho];simp[builtin,Builtin.len_,hv,run_underlying (PE (hL _ _ he) rfl),goInt]
  .cases h
 .cases h
def QkX{x y}{Zl:Array TypeId}(ho:o.op=.call ⟨.builtin .max,#[x,y],Zl⟩){k k'}{m n}(hx:Qo s.fr x=.raw (.int k m))(hy:Qo s.fr y=.raw (.int k' n)):Wd P base nt o s (.raw (.int k (max m n))):=by
 intro Z pl a w r;have h1:=r.eval x;have h2:=r.eval y;rw[hx]at h1;rw[hy]at h2;refine⟨_,.cl _ _ (.raw _),λw' _=>?_⟩;rw[jv ho];simp[builtin,Builtin.max_,Jn h1,Jn h2,Builtin.max2];split<;>omega
def QkY{x y}{Zl:Array TypeId}(ho:o.op=.call ⟨.builtin .min,#[x,y],Zl⟩){k k'}{m n}(hx:Qo s.fr x=.raw (.int k m))(hy:Qo s.fr y=.raw (.int k' n)):Wd P base nt o s (.raw (.int k (min m n))):=by
 intro Z pl a w r;have h1:=r.eval x;have h2:=r.eval y;rw[hx]at h1;rw[hy]at h2;refine⟨_,.cl _ _ (.raw _),λw' _=>?_⟩;rw[jv ho];simp[builtin,Builtin.min_,Jn h1,Jn h2,Builtin.min2];split<;>omega
def QkZ{f}{first Qs:Array Operand}(ho:o.op=.makeFunc (.func f) first Qs):Wd P base nt o s (.clo f first.size ((first.toList++Qs.toList).map (Qo s.fr))):=by
 intro Z pl a w r;refine⟨.func (.func f) (((first.toList++Qs.toList).map a.eval).take first.size).toArray (((first.toList++Qs.toList).map a.eval).drop first.size).toArray,.clo f first.size _ ((first.toList++Qs.toList).map a.eval) σ (λi hi=>?_),λw' _=>?_⟩
 .have Z9:i<(first.toList++Qs.toList).length:=by simpa using hi
  simp only[nth,QZ,Q5,Ks];rw[QP Z9];exact r.eval _
 .have e1:Array.map a.eval Qs=(List.map a.eval Qs.toList).toArray:=Array.ext' σ;have e2:Array.map a.eval first=(List.map a.eval first.toList).toArray:=Array.ext' σ;have e3:((first.toList++Qs.toList).map a.eval).take first.size=first.toList.map a.eval:=by rw[vK,List.take_append_of_le_length σ,List.take_of_length_le σ]
  have e4:((first.toList++Qs.toList).map a.eval).drop first.size=Qs.toList.map a.eval:=by rw[vK,List.drop_append_of_le_length σ,List.drop_of_length_le σ,zK]
  rw[e3,e4];simp[execOp,ho,Instr.makeFunc,e1,e2]
end
variable {Z:Nat->Prop}
def Ext(w w':World):Prop:=∀b,b<w.heap.size->w'.heap[b]? = w.heap[b]?
def Ext.refl(w):Ext w w:=λ_ _=>rfl
def Ext.trans{a b c}(h:Ext a b)(k:Ext b c):Ext a c:=λi hi=>by
 have h1:=h i hi;have h2:i<b.heap.size:=by
  rw[zJ hi]at h1;exact(Ws.1 h1).1
 rw[k i h2,h1]
def calm(o:Oper):Bool:=match o.op with
 | .store .. | .mapUpdate .. | .insert .. | .entryStore .. | .next ..=>false
 | .call ⟨.builtin .len,_,_⟩ | .call ⟨.builtin .min,_,_⟩ | .call ⟨.builtin .max,_,_⟩=>true
 | .call ⟨.builtin _,_,_⟩=>false
 | _=>true
def zO(P:Program)(base nt:Nat)(o:Oper)(s:St)(h':List Ob)(d:D):Prop:=
 ∀(Z:Nat->Prop) pl a w,Rel Z base nt s pl a w->base<=w.heap.size->∃v w' Qi,((execOp a.eval o).run P w=.ok (.value v) w'\/((execOp a.eval o).run P w=.ok .skip w'/\v=Go.undef)) /\
  Tr s.h pl w h' Qi w'/\Zi Z base h' Qi w'/\QC Z h' Qi w' d v/\Below base w w'/\(calm o=true->Ext w w')
def Hr(P:Program)(base nt:Nat)(o:Oper)(s:St)(h':List Ob)(d:D):Prop:=
 ∀(Z:Nat->Prop) pl a w,Rel Z base nt s pl a w->base<=w.heap.size->∃v w' Qi,((execOp a.eval o).run P w=.ok (.value v) w'\/((execOp a.eval o).run P w=.ok .skip w'/\v=Go.undef)) /\
  Tr s.h pl w h' Qi w'/\Zi Z base h' Qi w'/\QC Z h' Qi w' d v/\Below base w w'
def Hr.up{P}{base nt}{o}{s}{h'}{d}(h:Hr P base nt o s h' d)(hc:calm o=false):zO P base nt o s h' d:=λZ pl a w r hb=>
 let ⟨v,w',Qi,h1,h2,h3,h4,h5⟩:=h Z pl a w r hb
 ⟨v,w',Qi,h1,h2,h3,h4,h5,λe=>by rw[hc]at e;cases e⟩
def yo:Value->Bool
 | .agg _ | .tuple _=>false
 | _=>true
def D.Vn:D->Bool
 | .raw v=>yo v
 | .undef | .agg _ | .tup _=>false
 | _=>true
def XP:D->Option (List D)
 | .agg cs=>bif cs.all D.Vn then some cs else none
 | d=>bif d.Vn then some [d] else none
def iO{h}{pl}{w}{d:D}{v}(r:QC Z h pl w d v)(hd:d.Vn=true):yo v=true:=by
 cases r with
 | cl _ _ hc=>cases hc<;>first|rfl|exact hd|(simp[D.Vn]at hd)
 | ref=>rfl
 | ptr=>rfl
 | mref _ _ o p b ho hp hk hg hs=>rw[hk.2];unfold PB;split<;>rfl
 | clo=>rfl
 | agg=>simp[D.Vn]at hd
 | tup=>simp[D.Vn]at hd
def Qk0{v:Value}(h:yo v=true):v.cells=#[v]:=by cases v<;>first|rfl|cases h
def iP{h}{pl}{w}{d}{v}(r:QC Z h pl w d v){cs}(hc:XP d=some cs):
  v.cells.size=cs.length/\∀i,i<cs.length->QC Z h pl w (nth cs i) (QZ v.cells.toList i)/\yo (QZ v.cells.toList i)=true:=by
 have one:∀d':D,QC Z h pl w d' v->(bif d'.Vn then some [d'] else none)=some cs->v.cells.size=cs.length/\∀i,i<cs.length->QC Z h pl w (nth cs i) (QZ v.cells.toList i)/\yo (QZ v.cells.toList i)=true:=by
  intro d' r' h';cases hd:d'.Vn
  .rw[hd]at h';cases h'
  .rw[hd]at h';simp only[js,QY]at h';subst h';have ho:=iO r' hd;rw[Qk0 ho];refine⟨rfl,λi hi=>?_⟩;have:i=0:=by simp at hi;omega
   subst this;exact⟨r',ho⟩
 cases d with
 | agg cs'=>
  simp only[XP]at hc;obtain⟨ha,hc⟩:=zN hc;cases hc;obtain⟨vs,rfl,hl,hr⟩:=Ho r;refine⟨by simp[Value.cells,hl],λi hi=>⟨by simpa[Value.cells] using hr i hi,?_⟩⟩;refine iO (by simpa[Value.cells] using hr i hi:QC Z h pl w (nth cs i) _) ?_;rw[XK]at ha;have:=ha (nth cs i) (by simp[nth,Q5,hi]);exact this
 | _=>exact one _ r hc
def UQ{P}(b)(el):∀(vs:List Value) (i q:Nat) (w:World) (c:Array Value),w.heap[b]? = some (.cells c el (0,0))->q+i+vs.length<=c.size->(∀j,j<vs.length->yo (QZ vs j)=true) ->
  ∃w' c',(storeCells ⟨b,q,none⟩ vs i).run P w=.ok () w'/\w'.heap[b]? = some (.cells c' el (0,0))/\c'.size=c.size /\
   (∀k,c'[k]? = if q+i<=k/\k<q+i+vs.length then vs[k - (q+i)]? else c[k]?)/\(∀k,k≠b->w'.heap[k]? = w.heap[k]?)/\w'.heap.size=w.heap.size/\w'.os=w.os/\w'.tape=w.tape/\w'.output=w.output
 | [],i,q,w,c,hb,hs,ho=>⟨w,c,by simp[storeCells],hb,rfl,λk=>by rw[Qc];simp,λ_ _=>rfl,rfl,rfl,rfl,rfl⟩
 | v::vs,i,q,w,c,hb,hs,ho=>by
  simp only[Kv]at hs;have h0:yo v=true:=ho 0 σ;have Qb:q+i<c.size:=ω;have BX:w.cell? ⟨b,q+i,none⟩=some c[q+i]:=by rw[cell_of_row w b _ c el (0,0) hb];simp[Qb]
  have Qk1:w.frozen? ⟨b,q+i,none⟩=false:=frozen_of_row w b _ c el hb;have Yv:=heap_setCell_same w b (q+i) c el v hb;obtain⟨w',c',h1,h2,h3,h4,h5,h6,h7,h8,h9⟩:=UQ (P:=P) b el vs (i+1) q (w.setCell ⟨b,q+i,none⟩ v) _ Yv ξ (λj hj=>by
   have:=ho (j+1) ξ;simpa[QZ] using this)
  refine⟨w',c',?_,h2,by rw[h3];simp,λk=>?_,λk hk=>by rw[h5 k hk];exact Below.heap_setCell _ _ _ _ hk,by rw[h6];simp,by rw[h7];rfl,by rw[h8];rfl,by rw[h9];rfl⟩
  .have ZO:(store (⟨b,q+i,none⟩:Addr) v).run P w=.ok () (w.setCell ⟨b,q+i,none⟩ v):=by
    cases v<;>first|(simp[yo]at h0;done)|(simp[store,Sem.run,BX,Qk1])
   simp only[storeCells,Sem.run_bind,yn,ZO,Result.andThen_ok];exact h1
  .rw[h4 k];by_cases qE:q+i=k
   .subst qE;rw[Qc ω,Qd σ];simp[Qb]
   .by_cases Mm:q+i<=k/\k<q+i+(v::vs).length
    .rw[Qd Mm,Qd (by simp at Mm;omega)];obtain⟨m,rfl⟩:∃m,k=q+i+(m+1):=⟨k - (q+i) - 1,ω⟩;rw[show q+i+(m+1) - (q+i)=m+1 by omega,show q+i+(m+1) - (q+(i+1))=m by omega];simp
    .rw[Qc Mm,Qc (by simp at Mm;omega),ig ω]
def Ay(cs:List D)(j:Nat)(ds:List D):List D:=cs.take j++ds++cs.drop (j+ds.length)
def UR{cs:List D}{j}{ds:List D}(h:j+ds.length<=cs.length):(Ay cs j ds).length=cs.length:=by simp[Ay];omega
def Qaa{cs:List D}{j}{ds:List D}(h:j+ds.length<=cs.length)(i):nth (Ay cs j ds) i=if j<=i/\i<j+ds.length then nth ds (i - j) else nth cs i:=by
 simp only[nth,Ay,Q5];by_cases h1:i<j
 .rw[Qc ω,V9,JC ξ];simp[h1]
 .by_cases h2:i<j+ds.length
  .rw[Qd ⟨ω,h2⟩,V9,Kb ξ,JC ξ];simp;congr 3;omega
  .rw[Qc ω,Kb ξ];simp only[Fj,ZW,Qgv];congr 2;omega
def setRow(o:Ob)(i:Nat)(cells:List D):Ob:=
 { o with row:=bif o.kd.Hl then λ_=>cells else λk=>bif Nat.beq k i then cells else o.row k }
def Qab{o:Ob}{i}{cells:List D}(h1:o.kd.Hl=true->o.n=1){k}(hi:i<o.n)(hk:k<o.n):(setRow o i cells).row k=if k=i then cells else o.row k:=by
 unfold setRow;cases h:o.kd.Hl
 .simp only[YW];by_cases hh:k=i
  .subst hh;simp
  .have:Nat.beq k i=false:=by rw[<- Ys,Wa];exact hh
   rw[this,Qc hh];rfl
 .have:=h1 h;simp only[js];rw[Qd ω]
section
variable {P:Program}{L:Z8}{base nt:Nat}{s:St}{o:Oper}
def Mn{w w':World}{b}(hb:base<=b)(h5:∀k,k≠b->w'.heap[k]? = w.heap[k]?)(h6:w'.heap.size=w.heap.size)(h7:w'.os=w.os)(h8:w'.tape=w.tape)(h9:w'.output=w.output):Below base w w':=
 ⟨h7,h8,h9,ω,λk hk=>h5 k ω⟩
def PI(L:Z8)(h:List Ob)(t:TypeId)(ad x:D):Option (Prop × List Ob):=
 match ty L t,ad,XP x with
 | some y,.ptr l g i j,some cs=>match h[l]? with
  | some o=>some (g=o.gen/\i<o.n/\j+cs.length<=o.sz/\cs.length=y.size/\(o.kd.Hl=true->o.n=1)/\o.kd.ro=false,h.set l (setRow o i (Ay (o.row i) j cs)))
  | none=>none
 | _,_,_=>none
def Qk2(hL:Z5 P L){t:TypeId}{ad x}(ho:o.op=.store t ad x){p}{h'}(h:PI L s.h t (Qo s.fr ad) (Qo s.fr x)=some (p,h'))(hp:p):Hr P base nt o s h' .undef:=by
 intro Z pl a w r KL;have hx:=r.eval x;have kI:=r.eval ad;unfold PI at h;split at h
 .rename_i y l g i j cs Ax iQ JF;rw[iQ]at kI;split at h
  .rename_i ob Zf;simp only[QY,Q9]at h;obtain⟨rfl,rfl⟩:=h;obtain⟨hg,hi,hj,Ju,h1,hro⟩:=hp;have hy:=hL _ _ Ax;obtain⟨o',p',adr,hv,Zv,ZS,ZJ,jt,Kz⟩:=Dr kI;rw[Zf]at Zv;cases Zv;obtain⟨b,q,rfl,rfl⟩:=Kz hg;obtain⟨Q1,xx⟩:=r.o.at_ l ob b q Zf ZS;obtain⟨c,el,hb,Hs,Kc,ZG⟩:=xx.cells ZJ;obtain⟨Z7,US⟩:=iP hx JF;have Qac:j+cs.length<=(ob.row i).length:=by rw[Kc i hi];exact hj
   have hle:i*ob.sz+ob.sz<=ob.n*ob.sz:=by
    have:=X7 ob.sz (show i+1<=ob.n from hi);rw[Vz]at this;omega
   obtain⟨w',c',g1,g2,g3,g4,g5,g6,g7,g8,g9⟩:=UQ (P:=P) b el (a.eval x).cells.toList 0 (q+(i*ob.sz+j)) w c hb (by simp[Z7];omega) (λk hk=>(US k (by simpa[Z7] using hk)).2);have T:Tr s.h pl w (s.h.set l (setRow ob i (Ay (ob.row i) j cs))) pl w':=Tr.QV r.o Zf ZS rfl rfl rfl (λk hk _=>g5 k hk) (λc1 iz e1=>by rw[hb]at e1;cases e1;exact⟨c',g2,g3⟩);refine⟨Go.undef,w',pl,.inr ⟨?_,rfl⟩,T,?_,.cl _ _ (.undef _),Mn (Q1 hro) g5 g6 g7 g8 g9⟩
   .simp[execOp,ho,hv,Instr.storeAt,Instr.sureAddr,storeVar,hy.sizeOf,Z7,Ju,g1]
   .refine Zi.QV (hro:=rfl) r.o Zf ZS ZJ ZJ rfl rfl (λk hk _=>g5 k hk) hb g2 g3 (by rw[g3];exact Hs) (λk hk=>?_) (λk m hk hm=>?_)
    .rw[Qab h1 hi hk];split
     .rw[UR Qac,Kc i hi];rfl
     .exact Kc k hk
    .rw[Qab h1 hi hk];have ZJ:k<ob.n:=hk;have Mp:m<ob.sz:=hm;show ∃v,c'[q+(k*ob.sz+m)]? = some v/\_;rw[g4];simp only[BP,Array.length_toList,Z7];by_cases PJ:k=i
     .subst PJ;rw[Qd rfl,Qaa Qac];by_cases hmj:j<=m/\m<j+cs.length
      .rw[Qd hmj,Qd ω];refine⟨QZ (a.eval x).cells.toList (m - j),?_,((US (m - j) ω).1).tr T⟩;rw[show q+(k*ob.sz+m) - (q+(k*ob.sz+j))=m - j by omega];simp only[QZ,Q5];rw[QP (by simp[Z7];omega)];rfl
      .rw[Qc hmj,Qc ω];obtain⟨v,Fy,We⟩:=ZG k m ZJ Mp;exact⟨v,Fy,We.tr T⟩
     .rw[Qc PJ,Qc]
      .obtain⟨v,Fy,We⟩:=ZG k m ZJ Mp;exact⟨v,Fy,We.tr T⟩
      .intro Ds;rcases Nat.lt_or_gt_of_ne PJ with Qb|Qb
       .have:=X7 ob.sz (show k+1<=i from Qb);rw[Vz]at this;omega
       .have:=X7 ob.sz (show i+1<=k from Qb);rw[Vz]at this;omega
  .cases h
 .cases h
def Dt{w:World}(h:base<=w.heap.size)(ob:Obj):Below base w (w.alloc ob):=(Below.refl base w).alloc h ob
def Qae{pl}{a}{w:World}(r:Rel Z base nt s pl a w)(KL:base<=w.heap.size)(el)(v:Value)(cs:List D)(hl:v.cells.size=cs.length)(hr:∀i,i<cs.length->QC Z s.h pl w (nth cs i) (QZ v.cells.toList i)):
  Tr s.h pl w (s.h++[⟨.one,0,cs.length,1,λ_=>cs⟩]) (pl++[some (w.heap.size,0)]) (w.alloc (.cells v.cells el))/\Zi Z base (s.h++[⟨.one,0,cs.length,1,λ_=>cs⟩]) (pl++[some (w.heap.size,0)]) (w.alloc (.cells v.cells el)) /\
   QC Z (s.h++[⟨.one,0,cs.length,1,λ_=>cs⟩]) (pl++[some (w.heap.size,0)]) (w.alloc (.cells v.cells el)) (.ptr s.h.length 0 0 0) (.pointer (some ⟨w.heap.size,0,none⟩)):=by
 have e:∀b,b<w.heap.size->(w.alloc (.cells v.cells el)).heap[b]? = w.heap[b]? := λb hb=>vP w _ b hb;have JY:(w.alloc (.cells v.cells el)).heap[w.heap.size]? = some (.cells v.cells el (0,0)):=heap_alloc_new w _;have T:Tr s.h pl w (s.h++[⟨.one,0,cs.length,1,λ_=>cs⟩]) (pl++[some (w.heap.size,0)]) (w.alloc (.cells v.cells el)):=Tr.push r.o e _ _ (by intro b q h;simp at h;omega);refine⟨T,?_,?_⟩
 .refine Zi.push r.o e _ rfl (QB _) KL JY (by simp[hl]) (λ_ _=>rfl) (λi j hi hj=>?_);have iR:i=0:=by simp at hi;omega
  subst iR;refine⟨QZ v.cells.toList j,?_,(hr j hj).tr T⟩;simp only[Qkp,JD,QZ,Q5];have:j<v.cells.size:=by rw[hl];exact hj
  rw[kB,zJ this];rfl
 .have Zh:pl.length=s.h.length:=r.o.len;exact .ptr _ _ _ _ ⟨.one,0,cs.length,1,λ_=>cs⟩ (some (w.heap.size,0)) _ σ (by rw[<- Zh];simp) rfl (QB _) (λ_=>⟨_,_,rfl,σ⟩)
def Qk3(hL:Z5 P L){t:TypeId}{ad x}(ho:o.op=.store t ad x){p}{h'}(h:PI L s.h t (Qo s.fr ad) (Qo s.fr x)=some (p,h'))(hp:p):zO P base nt o s h' .undef:=
 (Qk2 hL ho h hp).up (by simp[calm,ho])
def Qk4{t:TypeId}{x}(ho:o.op=.box t x){cs:List D}(hx:XP (Qo s.fr x)=some cs):zO P base nt o s (s.h++[⟨.one,0,cs.length,1,λ_=>cs⟩]) (.ptr s.h.length 0 0 0):=by
 intro Z pl a w r KL;obtain⟨Z7,US⟩:=iP (r.eval x) hx;obtain⟨h1,h2,h3⟩:=Qae r KL t (a.eval x) cs Z7 (λi hi=>(US i hi).1);refine⟨_,_,_,.inl ?_,h1,h2,h3,Dt KL _,λ_ b hb=>vP _ _ b hb⟩;simp[execOp,ho,Instr.box,newVar,newRow]
def Qk5(hL:Z5 P L){t:TypeId}(ho:o.op=.alloc t){y:Ty}(hy:ty L t=some y):zO P base nt o s (s.h++[⟨.one,0,(y.zero.map J4).length,1,λ_=>y.zero.map J4⟩]) (.ptr s.h.length 0 0 0):=by
 intro Z pl a w r KL;obtain⟨z,hz,Ze⟩:=(hL _ _ hy).zeroValue;obtain⟨h1,h2,h3⟩:=Qae r KL t z (y.zero.map J4) (by rw[<- hz];simp) (λi hi=>by
  rw[<- hz]at hi ⊢;have Z9:i<z.cells.size:=by simpa using hi
  refine .cl _ _ ?_;simp only[nth,QZ,Q5,Ks,kB,zJ Z9,KK,KR];exact BU _ _ _)
 refine⟨_,_,_,.inl ?_,h1,h2,h3,Dt KL _,λ_ b hb=>vP _ _ b hb⟩;simp[execOp,ho,Instr.alloc,newVar,newRow,Ze]
end
variable {Z:Nat->Prop}
def PK(h:List Ob):D->Option (Prop × Nat × Nat × (Nat->List D))
 | .ref l g off n=>match h[l]? with
  | some o=>some (g=o.gen/\off+n<=o.n,n,o.sz,λk=>o.row (off+k))
  | none=>none
 | .imm sz n row=>some (True,n,sz,row)
 | _=>none
structure Src (Z:Nat->Prop) (h:List Ob) (pl:List Pl) (w:World) (v:Value) (n sz:Nat) (rows:Nat->List D) (a:Option Addr) (cap:Nat) (vs:Nat->Nat->Value):Prop where
 v:v=.slice a n cap
 len:∀i,i<n->(rows i).length=sz
 cell:∀i j,i<n->j<sz->∃b q,a=some ⟨b,q,none⟩/\w.cell? ⟨b,q+(i*sz+j),none⟩=some (vs i j)
 rel:∀i j,i<n->j<sz->QC Z h pl w (nth (rows i) j) (vs i j)
def iS{base}{h}{pl}{w}(R:Zi Z base h pl w){d}{v}(r:QC Z h pl w d v){p}{n sz}{rows}(e:PK h d=some (p,n,sz,rows))(hp:p):∃a cap vs,Src Z h pl w v n sz rows a cap vs:=by
 unfold PK at e;split at e
 .rename_i l g off k;split at e
  .rename_i o ho;simp only[QY,Q9]at e;obtain⟨rfl,rfl,rfl,rfl⟩:=e;obtain⟨o',p',a,cap,hv,Zv,ZS,ZJ,jt,Kz⟩:=Dq r;rw[ho]at Zv;cases Zv;have hn:=hp.2;rcases Kz hp.1 with ⟨h1,h2⟩|⟨b,q,c,el,Wb,ha,hb,hc,hl⟩
   .subst h1;exact⟨a,cap,λ_ _=>Go.undef,hv,λi hi=>ω,λi j hi=>ω,λi j hi=>ω⟩
   .subst Wb;obtain⟨Q1,xx⟩:=R.at_ l o b q ho ZS;obtain⟨c',UT,WN,JF,Kc,ZG⟩:=xx.cells ZJ;rw[hb]at WN;cases WN;refine⟨a,cap,λi j=>(c[q+((off+i)*o.sz+j)]?).getD Go.undef,hv,λi hi=>Kc _ ω,λi j hi hj=>?_,λi j hi hj=>?_⟩
    .obtain⟨u,hu,hr⟩:=ZG (off+i) j ω hj;refine⟨b,q+off*o.sz,ha,?_⟩;rw[cell_of_row w b _ c el (0,0) hb,show q+off*o.sz+(i*o.sz+j)=q+((off+i)*o.sz+j) by rw[Vz];omega,hu];rfl
    .obtain⟨u,hu,hr⟩:=ZG (off+i) j ω hj;simp only[hu,KR];exact hr
  .cases e
 .simp only[QY,Q9]at e;obtain⟨rfl,rfl,rfl,rfl⟩:=e;obtain⟨a,cap,b,q,vs,hv,ha,hl,hs,hc⟩:=PF r;exact⟨a,cap,vs,hv,hs,λi j hi hj=>⟨b,q,ha ω,(hc i j hi hj).1.2⟩,λi j hi hj=>.cl _ _ (hc i j hi hj).2⟩
 .cases e
def flat(n sz:Nat)(vs:Nat->Nat->Value):List Value:=(List.range (n*sz)).map λk=>vs (k / sz) (k % sz)
def qF(n sz)(vs:Nat->Nat->Value):(flat n sz vs).length=n*sz:=by simp[flat]
def Fz{n sz}{vs}{i j}(hi:i<n)(hj:j<sz):(flat n sz vs)[i*sz+j]? = some (vs i j):=by
 have h1:i*sz+j<n*sz:=by have:=X7 sz (show i+1<=n from hi);rw[Vz]at this;omega
 have h2:(i*sz+j) / sz=i:=by rw[Mc,Nat.mul_add_div ω,Nat.div_eq_of_lt hj];rfl
 have h3:(i*sz+j) % sz=j:=by rw[Mc,Nat.mul_add_mod,jq hj]
 simp[flat,h1,h2,h3]
def div_lt{n sz k:Nat}(h:k<n*sz):k / sz<n/\k % sz<sz/\k / sz*sz+k % sz=k:=by
 have h0:0<sz:=Qko (λe=>by subst e;simp at h);exact⟨Nat.div_lt_of_lt_mul (by rw[Mc];exact h),X6 _ h0,by rw[Mc];exact Pr k sz⟩
def Src.first{P}{h}{pl}{w:World}{v}{n sz}{rows}{a}{cap}{vs}(S:Src Z h pl w v n sz rows a cap vs)(w':World)(hw:w'.heap=w.heap):
  (Builtin.firstCells sz n v).run P w'=.ok (flat n sz vs).toArray w':=by
 rw[S.v];cases a with
 | none=>
  have:n*sz=0:=by
   by_cases h:n*sz=0
   .exact h
   .obtain⟨h1,h2,_⟩:=div_lt (n:=n) (sz:=sz) (k:=0) ω;obtain⟨b,q,hh,_⟩:=S.cell _ _ h1 h2;cases hh
  simp[Builtin.firstCells,flat,this]
 | some ad=>
  refine run_firstCells_some w' sz n ad n cap _ (qF _ _ _) (λk u hu=>?_);have hk:k<n*sz:=by have:=(WC.1 hu).1;rw[qF]at this;exact this
  obtain⟨h1,h2,h3⟩:=div_lt hk;obtain⟨b,q,hh,hc⟩:=S.cell _ _ h1 h2;cases hh;rw[<- h3,Fz h1 h2]at hu;cases hu;rw[yn,World.cell?_of_block (w:=w) (by rw[hw]),<- h3,hc];simp only[h3]
def iT(z:Array Value)(n:Nat):(Builtin.zeroCells z n).size=n*z.size:=by simp[Builtin.zeroCells]
def Qaf{P:Program}{t ty e:TypeId}{y:Ty}(ht:P.underlying t=some (.slice e))(hy:WD P e y)(hz:y.zero.length=y.size)(w:World)(b:Option Addr)(Yw yp:Nat)(Qag:List Value)(c:Option Addr)(n cc:Nat)(news:List Value)
  (hold:∀w':World,w'.heap=w.heap->(Builtin.firstCells y.size Yw (.slice b Yw yp)).run P w'=.ok Qag.toArray w') (JY:∀w':World,w'.heap=w.heap->(Builtin.firstCells y.size n (.slice c n cc)).run P w'=.ok news.toArray w')
  (hg:yp<Yw+n) (jw:Yw+n<=4294967296) (zP:y.bytes<=1024) :
  ∃kJ rest,(Builtin.append_ #[t,t] ty #[.slice b Yw yp,.slice c n cc]).run P w=.ok (.slice (some ⟨w.heap.size,0,none⟩) (Yw+n) kJ) (w.drew.alloc (.cells (Qag.toArray++news.toArray++rest) e)) /\
   Yw+n<=kJ/\rest.size=(kJ - (Yw+n))*y.size:=by
 obtain⟨z,xj,Cm⟩:=hy.zeroValue;obtain⟨i,hi,WO,VH⟩:=hy.typeInfo w;refine⟨grownCap w (Yw+n) yp e,Builtin.zeroCells z.cells (grownCap w (Yw+n) yp e - (Yw+n)),?_,grownCap_ge _ _ _ _,by rw[iT];congr 1;rw[<- hz,<- xj];simp⟩;have Z9:∀w,(typeInfo e).run P w=.ok i w:=λw=>by
  obtain⟨i',h1,h2,h3⟩:=hy.typeInfo w;have h4:=hy.info;cases hx:P.info? e with
  | none=>rw[hx]at h4;cases h4
  | some k=>
   simp[typeInfo,hx]at hi ⊢;exact hi
 have hn:¬ (Yw+n<=yp):=ω;have iU:¬ (9223372036854775807<((Yw:Int)+(n:Int))):=ω;have h48:Builtin.nextslicecap (Yw+n) yp*y.bytes<=281474976710656:=growslice_fits hg (by
  have:=qC (show Yw+n<=4294967296 from jw) zP;omega)
 have iV:¬ (281474976710656<Builtin.nextslicecap (Yw+n) yp*i.bytes):=by rw[VH];omega
 have ho:=hold w.drew rfl;have hw:=JY w.drew rfl;simp[Builtin.append_,run_underlying ht,hy.sizeOf,Z9,Cm,Builtin.lenOf,hn,iU,iV,Question.forced,newRow,grownCap,ho,hw,askRoom,mark,Sem.run];rw[<- Array.append_assoc];simp
def Qk6{P:Program}{t ty e:TypeId}{y}(ht:P.underlying t=some (.slice e))(hy:WD P e y)(w)(b q Yw yp)(c)(n cc)(news)
  (JY:(Builtin.firstCells y.size n (.slice c n cc)).run P w=.ok news.toArray w) (UU:Yw+n<=yp) {w':World} (ZO:(storeCells ⟨b,q+Yw*y.size,none⟩ news).run P w=.ok () w') :
  (Builtin.append_ #[t,t] ty #[.slice (some ⟨b,q,none⟩) Yw yp,.slice c n cc]).run P w=.ok (.slice (some ⟨b,q,none⟩) (Yw+n) yp) w':=by
 simp[Builtin.append_,run_underlying ht,hy.sizeOf,Builtin.lenOf,UU,JY,yn,ZO]
def Qah{P:Program}{t ty e:TypeId}{y}(ht:P.underlying t=some (.slice e))(hy:WD P e y)(w)(b)(c)(cc):
  (Builtin.append_ #[t,t] ty #[.slice b 0 0,.slice c 0 cc]).run P w=.ok (.slice b 0 0) w:=by
 cases b<;>cases c<;>simp[Builtin.append_,run_underlying ht,hy.sizeOf,Builtin.lenOf,Builtin.firstCells,loadCells,loadCellsFrom,storeCells]
def Kt(len off:Nat)(r1 r2:Nat->List D):Nat->List D:=λk=>bif Nat.blt k len then r1 (off+k) else r2 (k - len)
def Az{len off k}{r1 r2}(h:k<len):Kt len off r1 r2 k=r1 (off+k):=by
 have:Nat.blt k len=true:=by simpa[vL] using h
 simp[Kt,this]
def xk{len off k}{r1 r2}(h:len<=k):Kt len off r1 r2 k=r2 (k - len):=by
 have:Nat.blt k len=false:=by rw[<- Ys,vL];omega
 simp[Kt,this]
def iW(y:Ty)(n:Nat):Prop:=n<=4294967296/\y.bytes<=1024/\y.zero.length=y.size
def BY(L:Z8)(h:List Ob)(t:TypeId)(s x:D):Option (Prop × List Ob × D):=
 match ty L t,PK h x with
 | some ⟨.slice e,_,_,_⟩,some (px,n,sz,rows)=>match ty L e,s with
  | some y,.nil=>some (px/\sz=y.size/\iW y n/\(∀k,k<n->(rows k).all D.Vn=true),h++[⟨.arr,0,y.size,n,rows⟩],.ref h.length 0 0 n)
  | some y,.ref l g off len=>match h[l]? with
   | some o=>some (px/\g=o.gen/\off+len=o.n/\o.sz=y.size/\sz=y.size/\iW y (len+n)/\(∀k,k<n->(rows k).all D.Vn=true)/\o.kd.ro=false,h.set l ⟨.arr,o.gen+1,y.size,len+n,Kt len off o.row rows⟩,.ref l (o.gen+1) 0 (len+n))
   | none=>none
  | _,_=>none
 | _,_=>none
def Tr.AA{base:Nat}{h:List Ob}{pl:List Pl}{w w':World}(R:Zi Z base h pl w){l:Nat}{o o':Ob}{p p':Pl}(ho:h[l]? = some o)(hp:pl[l]? = some p)(JE:o'.kd.ty=o.kd.ty)(hg:o.gen<o'.gen)
  (e:∀k,k<w.heap.size->(∀q,p≠some (k,q))->w'.heap[k]? = w.heap[k]?) (ZS:∀b q,p'=some (b,q)->(∃q',p=some (b,q'))\/w.heap.size<=b):Tr h pl w (h.set l o') (pl.set l p') w' where
 J3:=λk hk Qb=>by
  have QA:∀q,p≠some (k,q):=λq hq=>hk l q (by rw[hp,hq]);refine⟨λl' q YY=>?_,e k Qb QA⟩;by_cases Xy:l=l'
  .subst Xy;have:(pl.set l p')[l]? = some p':=by simp[Wc hp]
   rw[this]at YY;simp only[QY]at YY;rcases ZS k q YY with ⟨q',h1⟩|h1
   .exact QA q' h1
   .omega
  .rw[Jw Xy]at YY;exact hk l' q YY
 obj:=λl' o1 p1 ZN XN=>by
  by_cases Xy:l=l'
  .subst Xy;rw[ho]at ZN;cases ZN;exact⟨o',p',by simp[KD ho],by simp[Wc hp],ω,JE,λh=>ω⟩
  .exact⟨o1,p1,by rw[Jw Xy];exact ZN,by rw[Jw Xy];exact XN,QB _,rfl,λ_=>⟨rfl,rfl⟩⟩
 shape:=λl' o1 o2 b1 q1 ZN K6 Au XN c el hb=>by
  by_cases Xy:l=l'
  .subst Xy;rw[ho]at ZN;cases ZN;have:(h.set l o')[l]? = some o':=by simp[KD ho]
   rw[this]at K6;cases K6;omega
  .refine⟨c,?_,rfl⟩;rw[e b1 (R.lt XN).1 (λq hq=>Xy (R.inj l l' b1 q q1 (by rw[hp,hq]) XN))];exact hb
def Zi.AA{base:Nat}{h:List Ob}{pl:List Pl}{w w':World}(R:Zi Z base h pl w){l:Nat}{o o':Ob}{p:Pl}(ho:h[l]? = some o)(hp:pl[l]? = some p)(hk:o.kd.ty=0)(ZJ:o'.kd.ty=0)(hg:o.gen<o'.gen)
  (e:∀k,k<w.heap.size->(∀q,p≠some (k,q))->w'.heap[k]? = w.heap[k]?) {b' q':Nat} (ZS:(∃q0,p=some (b',q0))\/w.heap.size<=b') (Q1:base<=b') {c:Array Value} {el:TypeId} (hb:w'.heap[b']? = some (.cells c el (0,0)))
  (Ju:q'+o'.n*o'.sz<=c.size) (Kc:∀i,i<o'.n->(o'.row i).length=o'.sz)
  (ZG:∀i j,i<o'.n->j<o'.sz->∃v,c[q'+(i*o'.sz+j)]? = some v/\QC Z (h.set l o') (pl.set l (some (b',q'))) w' (nth (o'.row i) j) v):Zi Z base (h.set l o') (pl.set l (some (b',q'))) w':=by
 have T:Tr h pl w (h.set l o') (pl.set l (some (b',q'))) w':=Tr.AA R ho hp (by rw[hk,ZJ]) hg e (λb q hbq=>by simp at hbq;obtain⟨rfl,rfl⟩:=hbq;exact ZS);have vR:(pl.set l (some (b',q')))[l]? = some (some (b',q')):=by simp[Wc hp]
 have other:∀(l1 b q:Nat),l≠l1->pl[l1]? = some (some (b,q))->b≠b':=by
  intro l1 b q hl h1 Xf;subst Xf;rcases ZS with ⟨q0,h2⟩|h2
  .exact hl (R.inj l l1 b q0 q (by rw[hp,h2]) h1)
  .have:=(R.lt h1).1;omega
 refine⟨by simp[R.len],?_,?_,?_⟩
 .intro l1 l2 b q1 q2 h1 h2;by_cases e1:l=l1
  .subst e1;rw[vR]at h1;simp only[QY,Q9]at h1;by_cases e2:l=l2
   .exact e2
   .rw[Jw e2]at h2;exact absurd h1.1.symm (other l2 b q2 e2 h2)
  .rw[Jw e1]at h1;by_cases e2:l=l2
   .subst e2;rw[vR]at h2;simp only[QY,Q9]at h2;exact absurd h2.1.symm (other l1 b q1 e1 h1)
   .rw[Jw e2]at h2;exact R.inj l1 l2 b q1 q2 h1 h2
 .intro l1 o1 ZN h1;by_cases e1:l=l1
  .subst e1;rw[vR]at h1;cases h1
  .rw[Jw e1]at h1 ZN;exact R.VB l1 o1 ZN h1
 .intro l1 o1 b q ZN h1;by_cases e1:l=l1
  .subst e1;rw[vR]at h1;simp only[QY,Q9]at h1;obtain⟨rfl,rfl⟩:=h1;have:(h.set l o')[l]? = some o':=by simp[KD ho]
   rw[this]at ZN;cases ZN;exact⟨λ_=>Q1,.Mh ZJ ⟨c,el,hb,Ju,Kc,ZG⟩⟩
  .rw[Jw e1]at h1 ZN;obtain⟨g1,x⟩:=R.at_ l1 o1 b q ZN h1;have QA:∀q0,p≠some (b,q0):=λq0 hq=>e1 (R.inj l l1 b q0 q (by rw[hp,hq]) h1);exact⟨g1,x.to rfl rfl rfl (e b (R.lt h1).1 QA) (λ_ _=>rfl) λi j v _ _ hr=>hr.tr T⟩
section
variable {P:Program}{L:Z8}{base nt:Nat}{s:St}{o:Oper}
def Qk7(hL:Z5 P L){t:TypeId}{x0 x}(ho:o.op=.call ⟨.builtin .append,#[x0,x],#[t,t]⟩)(Xg:Qo s.fr x0=.nil){p}{h'}{d}(h:BY L s.h t .nil (Qo s.fr x)=some (p,h',d))(hp:p):Hr P base nt o s h' d:=by
 intro Z pl a w r KL;have WQ:=r.eval x0;have Dv:=r.eval x;rw[Xg]at WQ;unfold BY at h;split at h
 .rename_i e _ _ _ px n sz rows he iX;cases Wv:ty L e with
  | none=>rw[Wv]at h;cases h
  | some y=>
   rw[Wv]at h;simp only[QY,Q9]at h;obtain⟨rfl,rfl,rfl⟩:=h;obtain⟨iY,rfl,⟨jw,zP,FA⟩,UW⟩:=hp;have hy:=hL _ _ Wv;have ht:=xi (hL _ _ he) rfl;obtain⟨a0,Mq⟩:=Dp WQ;obtain⟨ax,FB,vs,S⟩:=iS r.o Dv iX iY;have Zh:pl.length=s.h.length:=r.o.len;by_cases hn:n=0
   .subst hn;have T:Tr s.h pl w (s.h++[⟨.arr,0,y.size,0,rows⟩]) (pl++[none]) w:=Tr.push r.o (λ_ _=>rfl) _ _ (by intro b q e;cases e);refine⟨_,w,pl++[none],.inl ?_,T,r.o.BS _ rfl,.ref _ _ _ _ ⟨.arr,0,y.size,0,rows⟩ none a0 0 σ (by rw[<- Zh];simp) rfl (QB _) (λ_=>.inl ⟨rfl,rfl⟩),Below.refl _ _⟩;rw[jv ho];simp[builtin,Mq,S.v,Qah ht hy]
   .obtain⟨kJ,rest,Ze,FC,yq⟩:=Qaf (ty:=o.type) ht hy FA w a0 0 0 [] ax n FB (flat n y.size vs) (λw' _=>by cases a0<;>simp[Builtin.firstCells,loadCells,loadCellsFrom]) (λw' hw=>by rw[<- S.v];exact S.first w' hw) ω ω zP;simp only[JD,Array.empty_append]at Ze FC yq;have e1:∀b,b<w.heap.size->(w.drew.alloc (.cells ((flat n y.size vs).toArray++rest) e)).heap[b]? = w.heap[b]? := λb hb=>vP w.drew _ b hb;have JY:(w.drew.alloc (.cells ((flat n y.size vs).toArray++rest) e)).heap[w.heap.size]? = some (.cells ((flat n y.size vs).toArray++rest) e (0,0)):=heap_alloc_new w.drew _;have T:Tr s.h pl w (s.h++[⟨.arr,0,y.size,n,rows⟩]) (pl++[some (w.heap.size,0)]) (w.drew.alloc (.cells ((flat n y.size vs).toArray++rest) e)):=Tr.push r.o e1 _ _ (by intro b q h;simp at h;omega);refine⟨.slice (some ⟨w.heap.size,0,none⟩) n kJ,_,_,.inl ?_,T,Zi.push r.o e1 _ rfl (QB _) KL JY (by simp[qF]) S.len (λi j hi hj=>⟨vs i j,?_,(S.rel i j hi hj).tr T⟩),.ref _ _ _ _ ⟨.arr,0,y.size,n,rows⟩ (some (w.heap.size,0)) _ kJ σ (by rw[<- Zh];simp) rfl (QB _) (λ_=>.inr ⟨w.heap.size,0,_,e,rfl,σ,JY,?_,FC⟩),?_⟩
    .rw[jv ho];have:(Array.map a.eval #[x0,x])=#[.slice a0 0 0,.slice ax n FB]:=by simp[Mq,S.v]
     rw[this];simp only[builtin,Sem.run_bind,Ze,Result.andThen_ok,Sem.run_pure]
    .have hg:=Fz (vs:=vs) hi hj;have Qb:=(WC.1 hg).1;rw[JD,LS (by simpa using Qb)];simpa using hg
    .simp only[JD,Array.size_append,Fm,qF,yq];rw[<- Vz];exact X7 _ ω
    .exact((Below.refl base w).drew).alloc KL _
 .cases h
def Qk8(hL:Z5 P L){t:TypeId}{x0 x}{l g off len}(ho:o.op=.call ⟨.builtin .append,#[x0,x],#[t,t]⟩)(Xg:Qo s.fr x0=.ref l g off len){p}{h'}{d}(h:BY L s.h t (.ref l g off len) (Qo s.fr x)=some (p,h',d))(hp:p):Hr P base nt o s h' d:=by
 intro Z pl a w r KL;have WQ:=r.eval x0;have Dv:=r.eval x;rw[Xg]at WQ;unfold BY at h;split at h
 .rename_i e _ _ _ px n sz rows he iX;cases Wv:ty L e with
  | none=>rw[Wv]at h;cases h
  | some y=>
   rw[Wv]at h;dsimp only at h;split at h
   .rename_i ob Zf;simp only[QY,Q9]at h;obtain⟨rfl,rfl,rfl⟩:=h;obtain⟨iY,hg,Ht,Qk9,rfl,⟨jw,zP,FA⟩,UW,hro⟩:=hp;have hy:=hL _ _ Wv;have ht:=xi (hL _ _ he) rfl;obtain⟨o',p',a0,AB,Mq,Zv,ZS,ZJ,jt,Kz⟩:=Dq WQ;rw[Zf]at Zv;cases Zv;obtain⟨ax,FB,vs,S⟩:=iS r.o Dv iX iY;have AD:(Array.map a.eval #[x0,x])=#[.slice a0 len AB,.slice ax n FB]:=by simp[Mq,S.v]
    have fin:∀{v:Value} {w':World},(Builtin.append_ #[t,t] o.type #[.slice a0 len AB,.slice ax n FB]).run P w=.ok v w'->(execOp a.eval o).run P w=.ok (.value v) w':=by
     intro v w' Ze;rw[jv ho,AD];simp only[builtin,Sem.run_bind,Ze,Result.andThen_ok,Sem.run_pure]
    have grown:∀(vo:Nat->Nat->Value) (hold:∀w':World,w'.heap=w.heap->(Builtin.firstCells y.size len (.slice a0 len AB)).run P w'=.ok (flat len y.size vo).toArray w')
      (hlen:∀i,i<len->(ob.row (off+i)).length=y.size) (UX:∀i j,i<len->j<y.size->QC Z s.h pl w (nth (ob.row (off+i)) j) (vo i j)),AB<len+n ->
      ∃v w' Qi,((execOp a.eval o).run P w=.ok (.value v) w'\/((execOp a.eval o).run P w=.ok .skip w'/\v=Go.undef))/\Tr s.h pl w (s.h.set l ⟨.arr,ob.gen+1,y.size,len+n,Kt len off ob.row rows⟩) Qi w' /\
       Zi Z base (s.h.set l ⟨.arr,ob.gen+1,y.size,len+n,Kt len off ob.row rows⟩) Qi w'/\QC Z (s.h.set l ⟨.arr,ob.gen+1,y.size,len+n,Kt len off ob.row rows⟩) Qi w' (.ref l (ob.gen+1) 0 (len+n)) v/\Below base w w':=by
     intro vo hold hlen UX Qb;obtain⟨kJ,rest,Ze,FC,yq⟩:=Qaf (ty:=o.type) ht hy FA w a0 len AB (flat len y.size vo) ax n FB (flat n y.size vs) hold (λw' hw=>by rw[<- S.v];exact S.first w' hw) Qb jw zP;have e1:∀b,b<w.heap.size->(w.drew.alloc (.cells ((flat len y.size vo).toArray++(flat n y.size vs).toArray++rest) e)).heap[b]? = w.heap[b]? := λb hb=>vP w.drew _ b hb;have JY:(w.drew.alloc (.cells ((flat len y.size vo).toArray++(flat n y.size vs).toArray++rest) e)).heap[w.heap.size]? = some (.cells ((flat len y.size vo).toArray++(flat n y.size vs).toArray++rest) e (0,0)):=heap_alloc_new w.drew _;have T:=Tr.AA (o':=⟨.arr,ob.gen+1,y.size,len+n,Kt len off ob.row rows⟩) (p':=some (w.heap.size,0)) r.o Zf ZS ZJ.symm (Fp _) (λk hk _=>e1 k hk) (by intro b q h;simp at h;exact .inr ω);refine⟨_,_,_,.inl (fin Ze),T,Zi.AA r.o Zf ZS ZJ rfl (Fp _) (λk hk _=>e1 k hk) (.inr (QB _)) KL JY ?_ (λi hi=>?_) (λi j hi hj=>?_),.ref _ _ _ _ ⟨.arr,ob.gen+1,y.size,len+n,Kt len off ob.row rows⟩ (some (w.heap.size,0)) _ kJ (by simp[KD Zf]) (by simp[Wc ZS]) rfl (QB _) (λ_=>.inr ⟨w.heap.size,0,_,e,rfl,σ,JY,?_,FC⟩),((Below.refl base w).drew).alloc KL _⟩
     .simp[qF,Vz]
     .by_cases AF:i<len
      .show (Kt len off ob.row rows i).length=_;rw[Az AF];exact hlen i AF
      .show (Kt len off ob.row rows i).length=_;rw[xk ω];exact S.len _ (by have:i<len+n:=hi;omega)
     .have VS:j<y.size:=hj;have Z9:i<len+n:=hi;show ∃v,((flat len y.size vo).toArray++(flat n y.size vs).toArray++rest)[0+(i*y.size+j)]? = some v/\QC _ _ _ _ (nth (Kt len off ob.row rows i) j) v;by_cases AF:i<len
      .rw[Az AF];refine⟨vo i j,?_,(UX i j AF VS).tr T⟩;have PL:=Fz (vs:=vo) AF VS;have PM:=(WC.1 PL).1;rw[JD,LS ξ,LS (by simpa using PM)];simpa using PL
      .rw[xk ω];refine⟨vs (i - len) j,?_,(S.rel (i - len) j ω VS).tr T⟩;have PL:=Fz (vs:=vs) (show i - len<n from ω) VS;have PM:=(WC.1 PL).1;have e2:i*y.size+j - (flat len y.size vo).length=(i - len)*y.size+j:=by
        rw[qF];have:i=(i - len)+len:=ω
        conv=>lhs;rw[this,Vz]
        omega
       have e3:(flat len y.size vo).length<=i*y.size+j:=by
        rw[qF];have:=X7 y.size (show len<=i from ω);omega
       rw[JD,LS ξ,Array.getElem?_append_right (by simpa using e3)];simp only[Fm];rw[e2];simpa using PL
     .simp only[JD,Array.size_append,Fm,qF,yq];rw[<- Vz,<- Vz];exact X7 _ ω
    rcases Kz hg with ⟨h1,h2⟩|⟨b,q,c,el,Wb,xl,hb,JF,BW⟩
    .subst h1;subst h2;by_cases hn:n=0
     .subst hn;have Ze:=Qah (ty:=o.type) ht hy w a0 ax FB;cases UY:p' with
      | none=>
       subst UY;have T:=Tr.AA (o':=⟨.arr,ob.gen+1,y.size,0+0,Kt 0 off ob.row rows⟩) (p':=none) r.o Zf ZS ZJ.symm (Fp _) (λk hk _=>rfl) (by intro b q h;cases h);have Yv:pl.set l none=pl:=by
        apply wY;intro i;by_cases hi:l=i
        .subst hi;rw[ZS];simp[Wc ZS]
        .rw[Jw hi]
       rw[Yv]at T;refine⟨_,w,pl,.inl (fin Ze),T,?_,.ref _ _ _ _ ⟨.arr,ob.gen+1,y.size,0+0,Kt 0 off ob.row rows⟩ none a0 0 (by simp[KD Zf]) ZS rfl (QB _) (λ_=>.inl ⟨rfl,rfl⟩),Below.refl _ _⟩;refine⟨by simp[r.o.len],r.o.inj,λl1 o1 ZN h1=>?_,λl1 o1 b q ZN h1=>?_⟩
       .by_cases e1:l=l1
        .subst e1;rw[Wt (KD Zf)]at ZN;cases ZN;rfl
        .rw[Jw e1]at ZN;exact r.o.VB l1 o1 ZN h1
       .by_cases e1:l=l1
        .subst e1;rw[ZS]at h1;cases h1
        .rw[Jw e1]at ZN;obtain⟨g1,x⟩:=r.o.at_ l1 o1 b q ZN h1;exact⟨g1,x.to rfl rfl rfl rfl (λ_ _=>rfl) λi j v _ _ hr=>hr.tr T⟩
      | some bq=>
       obtain⟨b,q⟩:=bq;subst UY;obtain⟨g1,x⟩:=r.o.at_ l ob b q Zf ZS;obtain⟨c,el,g2,g3,g4,g5⟩:=x.cells ZJ;have T:=Tr.AA (o':=⟨.arr,ob.gen+1,y.size,0+0,Kt 0 off ob.row rows⟩) (p':=some (b,q)) r.o Zf ZS ZJ.symm (Fp _) (λk hk _=>rfl) (by intro b1 q1 h;simp at h;exact .inl ⟨q,by rw[h.1]⟩);exact⟨_,w,_,.inl (fin Ze),T,Zi.AA r.o Zf ZS ZJ rfl (Fp _) (λk hk _=>rfl) (.inl ⟨q,rfl⟩) (g1 hro) g2 ξ (λi hi=>by simp at hi) (λi j hi=>by simp at hi),
        .ref _ _ _ _ ⟨.arr,ob.gen+1,y.size,0+0,Kt 0 off ob.row rows⟩ (some (b,q)) a0 0 (by simp[KD Zf]) (by simp[Wc ZS]) rfl (QB _) (λ_=>.inl ⟨rfl,rfl⟩),Below.refl _ _⟩
     .exact grown (λ_ _=>Go.undef) (λw' _=>by cases a0<;>simp[Builtin.firstCells,loadCells,loadCellsFrom,flat]) (λi hi=>ω) (λi j hi=>ω) ω
    .subst Wb;obtain⟨Q1,x⟩:=r.o.at_ l ob b q Zf ZS;have Q1:=Q1 hro;obtain⟨c',UT,WN,Hs,Kc,ZG⟩:=x.cells ZJ;rw[hb]at WN;cases WN;rw[Qk9]at JF Hs Kc ZG xl;by_cases UU:len+n<=AB
     ·
      have Mr:q+off*y.size+len*y.size+n*y.size<=c.size:=by
       have h1:=X7 y.size (show off+(len+n)<=off+AB from ω);simp only[Vz]at h1 JF;omega
      obtain⟨w',c',g1,g2,g3,g4,g5,g6,g7,g8,g9⟩:=UQ (P:=P) b el (flat n y.size vs) 0 (q+off*y.size+len*y.size) w c hb (by simp[qF];omega) (λk hk=>by
       rw[qF]at hk;obtain⟨k1,k2,k3⟩:=div_lt hk;have hg:=Fz (vs:=vs) k1 k2;rw[k3]at hg;have:QZ (flat n y.size vs) k=vs (k / y.size) (k % y.size):=by simp[QZ,Q5,hg]
       rw[this];refine iO (S.rel _ _ k1 k2) ?_;have h2:=UW _ k1;rw[XK]at h2;refine h2 _ ?_;have h3:k % y.size<(rows (k / y.size)).length:=by rw[S.len _ k1];exact k2
       simp only[nth,Q5,QP h3,KR];exact YU h3)
      subst xl;have Ze:=Qk6 (ty:=o.type) ht hy w b (q+off*y.size) len AB ax n FB (flat n y.size vs) (by rw[<- S.v];exact S.first w rfl) UU g1;have he:∀k,k<w.heap.size->(∀q1,(some (b,q):Pl)≠some (k,q1))->w'.heap[k]? = w.heap[k]? := λk _ hk=>g5 k (λhkb=>hk q (by rw[hkb]));have T:=Tr.AA (o':=⟨.arr,ob.gen+1,y.size,len+n,Kt len off ob.row rows⟩) (p':=some (b,q+off*y.size)) r.o Zf ZS ZJ.symm (Fp _) he (by intro b1 q1 h;simp at h;exact .inl ⟨q,by rw[h.1]⟩);refine⟨_,w',_,.inl (fin Ze),T,Zi.AA r.o Zf ZS ZJ rfl (Fp _) he (.inl ⟨q,rfl⟩) Q1 g2 ?_ (λi hi=>?_) (λi j hi hj=>?_),.ref _ _ _ _ ⟨.arr,ob.gen+1,y.size,len+n,Kt len off ob.row rows⟩ (some (b,q+off*y.size)) _ AB (by simp[KD Zf]) (by simp[Wc ZS]) rfl (QB _) (λ_=>.inr ⟨b,q+off*y.size,c',el,rfl,σ,g2,?_,UU⟩),Mn Q1 g5 g6 g7 g8 g9⟩
      .rw[g3];simp only[Vz];omega
      .by_cases AF:i<len
       .show (Kt len off ob.row rows i).length=_;rw[Az AF];exact Kc _ ω
       .show (Kt len off ob.row rows i).length=_;rw[xk ω];exact S.len _ (by have:i<len+n:=hi;omega)
      .have VS:j<y.size:=hj;have Z9:i<len+n:=hi;show ∃v,c'[q+off*y.size+(i*y.size+j)]? = some v/\QC _ _ _ _ (nth (Kt len off ob.row rows i) j) v;rw[g4];simp only[qF,BP];by_cases AF:i<len
       .rw[Az AF,Qc]
        .obtain⟨v,hv,hr⟩:=ZG (off+i) j ω VS;refine⟨v,?_,hr.tr T⟩;rw[<- hv];congr 1;rw[Vz];omega
        .have:=X7 y.size (show i+1<=len from AF);rw[Vz]at this;omega
       .have h1:=X7 y.size (show len<=i from ω);have h2:i*y.size=(i - len)*y.size+len*y.size:=by rw[<- Vz];congr 1;omega
        have h3:=X7 y.size (show (i - len)+1<=n from ω);rw[Vz]at h3;rw[xk ω,Qd ω];refine⟨vs (i - len) j,?_,(S.rel (i - len) j ω VS).tr T⟩;rw[show q+off*y.size+(i*y.size+j) - (q+off*y.size+len*y.size)=(i - len)*y.size+j by omega];exact Fz ω VS
      .rw[g3];simp only[JD,Vz]at JF ⊢;omega
     .refine grown (λi j=>(c[q+((off+i)*y.size+j)]?).getD Go.undef) (λw' hw=>?_) (λi hi=>Kc _ ω) (λi j hi hj=>?_) ω
      .have S0:Src Z s.h pl w (.slice a0 len AB) len y.size (λk=>ob.row (off+k)) a0 AB (λi j=>(c[q+((off+i)*y.size+j)]?).getD Go.undef):=by
        refine⟨rfl,λi hi=>Kc _ ω,λi j hi hj=>⟨b,q+off*y.size,xl,?_⟩,λi j hi hj=>?_⟩
        .obtain⟨u,hu,hr⟩:=ZG (off+i) j ω hj;rw[cell_of_row w b _ c el (0,0) hb,show q+off*y.size+(i*y.size+j)=q+((off+i)*y.size+j) by rw[Vz];omega,hu];rfl
        .obtain⟨u,hu,hr⟩:=ZG (off+i) j ω hj;simp only[hu,KR];exact hr
       exact S0.first w' hw
      .obtain⟨u,hu,hr⟩:=ZG (off+i) j ω hj;simp only[hu,KR];exact hr
   .cases h
 .cases h
def Qlb(hL:Z5 P L){t:TypeId}{x0 x}(ho:o.op=.call ⟨.builtin .append,#[x0,x],#[t,t]⟩)(Xg:Qo s.fr x0=.nil){p}{h'}{d}(h:BY L s.h t .nil (Qo s.fr x)=some (p,h',d))(hp:p):zO P base nt o s h' d:=
 (Qk7 hL ho Xg h hp).up (by simp[calm,ho])
def Qlc(hL:Z5 P L){t:TypeId}{x0 x}{l g off len}(ho:o.op=.call ⟨.builtin .append,#[x0,x],#[t,t]⟩)(Xg:Qo s.fr x0=.ref l g off len){p}{h'}{d}(h:BY L s.h t (.ref l g off len) (Qo s.fr x)=some (p,h',d))(hp:p):zO P base nt o s h' d:=
 (Qk8 hL ho Xg h hp).up (by simp[calm,ho])
end
variable {Z:Nat->Prop}
def yr(Z:Nat->Prop)(h:List Ob)(pl:List Pl)(w:World)(cs:List D)(vs:Array Value):Prop:=vs.size=cs.length/\∀i,i<cs.length->QC Z h pl w (nth cs i) (QZ vs.toList i)
def Qaj(off):∀(l:List Value) (n:Nat) (c:Array Value),((l.zipIdx n).foldl (λ(cs:Array Value) (x:Value × Nat)=>cs.setIfInBounds (off+x.2) x.1) c).size=c.size /\
  ∀k,(((l.zipIdx n).foldl (λ(cs:Array Value) (x:Value × Nat)=>cs.setIfInBounds (off+x.2) x.1) c)[k]?)=if off+n<=k/\k<off+n+l.length/\k<c.size then l[k - (off+n)]? else c[k]?
 | [],n,c=>⟨rfl,λk=>by rw[Qc ξ];rfl⟩
 | v::l,n,c=>by
  obtain⟨h1,h2⟩:=Qaj off l (n+1) (c.setIfInBounds (off+n) v);simp only[List.zipIdx_cons,kD];refine⟨by rw[h1];simp,λk=>?_⟩;rw[h2 k];simp only[Array.size_setIfInBounds,Kv];by_cases h3:k=off+n
  .subst h3;rw[Qc ω,Array.getElem?_setIfInBounds_self];by_cases h4:off+n<c.size
   .rw[Qd h4,Qd ⟨ω,ω,h4⟩];simp
   .rw[Qc h4,Qc ω];simp;omega
  .rw[ig ω];by_cases h5:off+n<=k/\k<off+n+(l.length+1)/\k<c.size
   .rw[Qd h5,Qd ω];obtain⟨m,rfl⟩:∃m,k=off+n+(m+1):=⟨k - (off+n) - 1,ω⟩;rw[show off+n+(m+1) - (off+(n+1))=m by omega,show off+n+(m+1) - (off+n)=m+1 by omega];simp
   .rw[Qc h5,Qc ω]
def Qld(off)(v:Array Value)(c):v.zipIdx.foldl (λ(cs:Array Value) (x:Value × Nat)=>cs.setIfInBounds (off+x.2) x.1) c=(v.toList.zipIdx 0).foldl (λ(cs:Array Value) (x:Value × Nat)=>cs.setIfInBounds (off+x.2) x.1) c:=by
 rw[<- Array.foldl_toList,Array.toList_zipIdx]
def yr.Ay{h}{pl}{w}{cs ds:List D}{vs us}{off}(r:yr Z h pl w cs vs)(q:yr Z h pl w ds us)(hl:off+ds.length<=cs.length):
  yr Z h pl w (Ay cs off ds) (us.zipIdx.foldl (λ(cs:Array Value) (x:Value × Nat)=>cs.setIfInBounds (off+x.2) x.1) vs):=by
 obtain⟨h1,h2⟩:=Qaj off us.toList 0 vs;rw[Qld];refine⟨by rw[h1,r.1,UR hl],λi hi=>?_⟩;rw[UR hl]at hi;rw[Qaa hl];have e:QZ (List.foldl (λ(cs:Array Value) (x:Value × Nat)=>cs.setIfInBounds (off+x.2) x.1) vs (us.toList.zipIdx 0)).toList i=if off<=i/\i<off+ds.length then QZ us.toList (i - off) else QZ vs.toList i:=by
  simp only[QZ,Q5,kB,h2 i,BP,Array.length_toList,q.1,r.1];by_cases h3:off<=i/\i<off+ds.length
  .rw[Qd ⟨h3.1,h3.2,hi⟩,Qd h3]
  .rw[Qc ω,Qc h3]
 rw[e];split
 .exact q.2 _ ω
 .exact r.2 _ hi
def xm(place:Nat->Option (Nat × Nat))(cells:List D):List (Nat × Option (List D))->Option (List D)
 | []=>some cells
 | (i,some ds)::rest=>match place i with
  | some (off,size)=>bif Nat.beq ds.length size&&Nat.ble (off+ds.length) cells.length then xm place (Ay cells off ds) rest else none
  | none=>none
 | (_,none)::_=>none
def PN{h:List Ob}{pl:List Pl}{w:World}(place:Nat->Option (Nat × Nat))(ev:Operand->D)(a:Act)(AD:∀x,QC Z h pl w (ev x) (a.eval x)):∀(parts:List (Nat × Operand)) (cells BZ:List D) (vs:Array Value),yr Z h pl w cells vs ->
  xm place cells (parts.map λx=>(x.1,XP (ev x.2)))=some BZ->∃WR,Instr.fill place vs (parts.map λx=>(x.1,a.eval x.2))=some WR/\yr Z h pl w BZ WR
 | [],cells,BZ,vs,r,hh=>by simp[xm]at hh;subst hh;exact⟨vs,rfl,r⟩
 | (i,x)::parts,cells,BZ,vs,r,hh=>by
  simp only[JQ]at hh ⊢;cases hd:XP (ev x) with
  | none=>rw[hd]at hh;simp[xm]at hh
  | some ds=>
   rw[hd]at hh;simp only[xm]at hh;cases hp:place i with
   | none=>rw[hp]at hh;cases hh
   | some os=>
    obtain⟨off,size⟩:=os;rw[hp]at hh;obtain⟨hc,hh⟩:=zN hh;simp only[Zy,Wa,Nat.ble_eq]at hc;obtain⟨yu,jx⟩:=iP (AD x) hd;have q:yr Z h pl w ds (a.eval x).cells:=⟨yu,λi hi=>(jx i hi).1⟩;obtain⟨WR,h1,h2⟩:=PN place ev a AD parts _ _ _ (r.Ay q hc.2) hh;refine⟨WR,?_,h2⟩;simp only[Instr.fill,hp];rw[Qc (by simp only[yu,r.1];simp;omega)];exact h1
def iZ{h}{pl}{w}{y:Ty}{z:Value}(hz:z.cells.toList=y.zero):yr Z h pl w (y.zero.map J4) z.cells:=by
 refine⟨by rw[<- hz];simp,λi hi=>?_⟩;rw[<- hz]at hi ⊢;have Z9:i<z.cells.size:=by simpa using hi
 refine .cl _ _ ?_;simp only[nth,QZ,Q5,Ks,kB,zJ Z9,KK,KR];exact BU _ _ _
def Ms(L:Z8):List (Nat × TypeId)->Option (List (Nat × Nat))
 | []=>some []
 | (off,u)::r=>match ty L u,Ms L r with
  | some y,some ps=>some ((off,y.size)::ps)
  | _,_=>none
def Qak{P}{L}(hL:Z5 P L)(w):∀(fs:List Field) (ps:List (Nat × Nat)),Ms L (fs.map λf=>(f.offset,f.type))=some ps->(fs.mapM λf=>Prod.mk f.offset <$> sizeOf f.type).run P w=.ok ps w
 | [],ps,h=>by simp[Ms]at h;subst h;simp
 | f::fs,ps,h=>by
  simp only[JQ,Ms]at h;split at h
  .rename_i y ps' hy ld;simp only[QY]at h;subst h;simp[List.mapM_cons,(hL _ _ hy).sizeOf,Qak hL w fs ps' ld]
  .cases h
def UZ(L:Z8)(fr:List (Nat × D))(t:TypeId)(parts:List (Nat × Operand)):Option D:=
 match ty L t with
 | some y=>match y.k with
  | .struct fs=>match Ms L fs with
   | some ps=>match xm (λi=>ps[i]?) (y.zero.map J4) (parts.map λx=>(x.1,XP (Qo fr x.2))) with
    | some cs=>some (.agg cs)
    | none=>none
   | none=>none
  | .array _ e=>match ty L e with
   | some ye=>match xm (λi=>some (i*ye.size,ye.size)) (y.zero.map J4) (parts.map λx=>(x.1,XP (Qo fr x.2))) with
    | some cs=>some (.agg cs)
    | none=>none
   | none=>none
  | _=>none
 | none=>none
section
variable {P:Program}{L:Z8}{base nt:Nat}{s:St}{o:Oper}
def yr.agg{h}{pl}{w}{cs}{vs}(r:yr Z h pl w cs vs):QC Z h pl w (.agg cs) (.agg vs):=by
 have:=QC.agg (h:=h) (pl:=pl) (w:=w) cs vs.toList (by simpa using r.1) r.2;simpa using this
def Qlf(hL:Z5 P L){t:TypeId}{parts:Array (Nat × Operand)}(ho:o.op=.build t parts){d}(h:UZ L s.fr t parts.toList=some d):Wd P base nt o s d:=by
 intro Z pl a w r;unfold UZ at h;split at h
 .rename_i y Ax;have hy:=hL _ _ Ax;obtain⟨z,hz,Cm⟩:=hy.zeroValue;split at h
  .rename_i fs hk;split at h
   .rename_i ps ld;split at h
    .rename_i cs JF;simp only[QY]at h;subst h;obtain⟨g,hg,hm⟩:=uY hy hk;obtain⟨WR,h1,h2⟩:=PN (h:=s.h) (pl:=pl) (w:=w) _ (Qo s.fr) a (λx=>r.eval x) parts.toList _ _ _ (iZ hz) JF;refine⟨_,h2.agg,λw' _=>?_⟩;have Zh:=Qak hL w' g.toList ps (by rw[hm];exact ld);have Ji:Instr.fill (λx=>ps[x]?) z.cells (List.map (λx=>(x.fst,a.eval x.snd)) parts.toList)=some WR:=h1;simp[execOp,ho,Instr.build,Cm,run_underlying hg,Array.mapM_eq_mapM_toList,Zh,Ji]
    .cases h
   .cases h
  .rename_i n e hk;split at h
   .rename_i ye Wv;split at h
    .rename_i cs JF;simp only[QY]at h;subst h;obtain⟨WR,h1,h2⟩:=PN (h:=s.h) (pl:=pl) (w:=w) _ (Qo s.fr) a (λx=>r.eval x) parts.toList _ _ _ (iZ hz) JF;refine⟨_,h2.agg,λw' _=>?_⟩;simp[execOp,ho,Instr.build,Cm,run_underlying (iB hy hk),(hL _ _ Wv).sizeOf,h1]
    .cases h
   .cases h
  .cases h
 .cases h
def lg{a b:List D}{i}(h:i<a.length):nth (a++b) i=nth a i:=by simp only[nth,Q5,JC h]
def lh{a b:List D}{i}(h:a.length<=i):nth (a++b) i=nth b (i - a.length):=by simp only[nth,Q5,Kb h]
def QnI(n)(zs:List D):(List.replicate n zs).flatten.length=n*zs.length:=σ
def Qal(zs:List D):∀(n i:Nat),i<n*zs.length->nth (List.replicate n zs).flatten i=nth zs (i % zs.length)
 | 0,i,h=>by simp at h
 | n+1,i,h=>by
  rw[Ur,List.flatten_cons];rw[Vz]at h;by_cases hi:i<zs.length
  .rw[lg hi,jq hi]
  .rw[lh ω,Qal zs n _ ω];congr 1;rw[Nat.mod_eq_sub_mod (by omega:zs.length<=i)]
def AH(len sz:Nat)(cells:List D):Nat->List D:=bif Nat.beq len 1 then λ_=>cells else λk=>(cells.drop (k*sz)).take sz
def U0(L:Z8)(fr:List (Nat × D))(h:List Ob)(t:TypeId)(len:Nat)(parts:List (Nat × Operand)):Option (Prop × List Ob × D):=
 match ty L t with
 | some ⟨.slice e,_,_,_⟩=>match ty L e with
  | some y=>match xm (λi=>some (i*y.size,y.size)) (List.replicate len (y.zero.map J4)).flatten (parts.map λx=>(x.1,XP (Qo fr x.2))) with
   | some cs=>some (len*y.size<=16777216/\y.zero.length=y.size,h++[⟨.arr,0,y.size,len,AH len y.size cs⟩],.ref h.length 0 0 len)
   | none=>none
  | none=>none
 | _=>none
def Qam(place):∀(ps:List (Nat × Option (List D))) (cells BZ:List D),xm place cells ps=some BZ->BZ.length=cells.length
 | [],cells,BZ,h=>by simp[xm]at h;rw[h]
 | (i,none)::ps,cells,BZ,h=>by simp[xm]at h
 | (i,some ds)::ps,cells,BZ,h=>by
  simp only[xm]at h;split at h
  .obtain⟨hc,h⟩:=zN h;simp only[Zy,Wa,Nat.ble_eq]at hc;rw[Qam place ps _ _ h,UR hc.2]
  .cases h
def Qlg(hL:Z5 P L){t:TypeId}{len}{parts:Array (Nat × Operand)}(ho:o.op=.buildSlice t len parts){p}{h'}{d}(h:U0 L s.fr s.h t len parts.toList=some (p,h',d))(hp:p):zO P base nt o s h' d:=by
 intro Z pl a w r KL;unfold U0 at h;split at h
 .rename_i e _ _ _ he;split at h
  .rename_i y Ax;split at h
   .rename_i cs JF;simp only[QY,Q9]at h;obtain⟨rfl,rfl,rfl⟩:=h;obtain⟨h24,FA⟩:=hp;have hy:=hL _ _ Ax;obtain⟨z,hz,Cm⟩:=hy.zeroValue;have Dw:z.cells.size=y.size:=by rw[<- FA,<- hz];simp
    have ht:=xi (hL _ _ he) rfl;have zr:=iZ (Z:=Z) (h:=s.h) (pl:=pl) (w:=w) hz;have yv:(y.zero.map J4).length=y.size:=by simp[FA]
    have hlen:cs.length=len*y.size:=by rw[Qam _ _ _ _ JF,QnI,yv]
    have init:∀zc:Array Value,(len*y.size=0->zc=#[])->(len*y.size≠0->zc=z.cells)->yr Z s.h pl w (List.replicate len (y.zero.map J4)).flatten ((Array.range (len*y.size)).map (zc[· % zc.size]!)):=by
     intro zc h0 h1;refine⟨by rw[QnI,yv];simp,λi hi=>?_⟩;rw[QnI,yv]at hi;have QA:len*y.size≠0:=ω;have Dx:=h1 QA;subst Dx;have YZ:0<y.size:=Qko (λe=>QA (by rw[e];simp));rw[Qal _ _ _ (by rw[yv];exact hi),yv];have h2:=zr.2 (i % y.size) (by rw[yv];exact X6 _ YZ);have h3:i % y.size<z.cells.size:=by rw[Dw];exact X6 _ YZ
     have:QZ (Array.map (λx=>z.cells[x % z.cells.size]!) (Array.range (len*y.size))).toList i=QZ z.cells.toList (i % y.size):=by
      simp only[QZ,Q5,kB,Array.getElem?_map,Array.getElem?_range,hi,Vs,KK,KR,Dw];rw[getElem!_pos z.cells _ h3,zJ h3];rfl
     rw[this];exact h2
    have fin:∀WR:Array Value,yr Z s.h pl w cs WR->(execOp a.eval o).run P w=.ok (.value (.slice (some ⟨w.heap.size,0,none⟩) len len)) (w.alloc (.cells WR e)) ->
      ∃v w' Qi,((execOp a.eval o).run P w=.ok (.value v) w'\/((execOp a.eval o).run P w=.ok .skip w'/\v=Go.undef))/\Tr s.h pl w (s.h++[⟨.arr,0,y.size,len,AH len y.size cs⟩]) Qi w' /\
       Zi Z base (s.h++[⟨.arr,0,y.size,len,AH len y.size cs⟩]) Qi w'/\QC Z (s.h++[⟨.arr,0,y.size,len,AH len y.size cs⟩]) Qi w' (.ref s.h.length 0 0 len) v/\Below base w w'/\(calm o=true->Ext w w'):=by
     intro WR hr Ze;have e1:∀b,b<w.heap.size->(w.alloc (.cells WR e)).heap[b]? = w.heap[b]? := λb hb=>vP w _ b hb;have JY:(w.alloc (.cells WR e)).heap[w.heap.size]? = some (.cells WR e (0,0)):=heap_alloc_new w _;have Zh:pl.length=s.h.length:=r.o.len;have T:Tr s.h pl w (s.h++[⟨.arr,0,y.size,len,AH len y.size cs⟩]) (pl++[some (w.heap.size,0)]) (w.alloc (.cells WR e)):=Tr.push r.o e1 _ _ (by intro b q h;simp at h;omega);have ZG:∀i,i<len->(AH len y.size cs i).length=y.size/\∀j,j<y.size->nth (AH len y.size cs i) j=nth cs (i*y.size+j):=by
      intro i hi;unfold AH;by_cases h1:len=1
      .subst h1;have:i=0:=ω;subst this;simp[hlen]
      .have:Nat.beq len 1=false:=by rw[<- Ys,Wa];exact h1
       rw[this];have h2:=X7 y.size (show i+1<=len from hi);rw[Vz]at h2;refine⟨by simp[hlen];omega,λj hj=>?_⟩;simp only[YW];rw[iI hj,Fw]
     refine⟨_,_,_,.inl Ze,T,Zi.push r.o e1 _ rfl (QB _) KL JY (by simp[hr.1,hlen]) (λi hi=>(ZG i hi).1) (λi j hi hj=>?_),.ref _ _ _ _ ⟨.arr,0,y.size,len,AH len y.size cs⟩ (some (w.heap.size,0)) _ len σ (by rw[<- Zh];simp) rfl (QB _) (λ_=>.inr ⟨w.heap.size,0,WR,e,rfl,σ,JY,by simp[hr.1,hlen],QB _⟩),Dt KL _,λ_=>e1⟩;have VS:j<y.size:=hj;have Z9:i<len:=hi;have h2:=X7 y.size (show i+1<=len from Z9);rw[Vz]at h2;have Qb:i*y.size+j<cs.length:=ω;refine⟨QZ WR.toList (i*y.size+j),?_,?_⟩
     .have:i*y.size+j<WR.size:=by rw[hr.1];exact Qb
      simp only[JD,QZ,Q5,kB,zJ this,KR]
     .show QC _ _ _ _ (nth (AH len y.size cs i) j) _;rw[(ZG i Z9).2 j VS];exact(hr.2 _ Qb).tr T
    by_cases h0:len*y.size=0
    .obtain⟨WR,h1,h2⟩:=PN (h:=s.h) (pl:=pl) (w:=w) _ (Qo s.fr) a (λx=>r.eval x) parts.toList _ _ _ (init #[] (λ_=>rfl) (λh=>absurd h0 h)) JF;rw[h0]at h1;have e0:Array.map (λx=>(#[]:Array Value)[x % (#[]:Array Value).size]!) (Array.range 0)=#[]:=σ;rw[e0]at h1;have e1:∀f:Nat->Value,Array.map f (Array.range 0)=#[]:=λf=>Array.eq_empty_of_size_eq_zero σ;refine fin WR h2 ?_;simp[execOp,ho,Instr.buildSlice,run_underlying ht,hy.sizeOf,h0,newRow,h1,e1]
    .obtain⟨WR,h1,h2⟩:=PN (h:=s.h) (pl:=pl) (w:=w) _ (Qo s.fr) a (λx=>r.eval x) parts.toList _ _ _ (init z.cells (λh=>absurd h h0) (λ_=>rfl)) JF;refine fin WR h2 ?_;have Qlh:¬ (16777216<len*y.size):=ω;simp[execOp,ho,Instr.buildSlice,run_underlying ht,hy.sizeOf,Cm,h0,Qlh,newRow,h1]
   .cases h
  .cases h
 .cases h
end
variable {Z:Nat->Prop}
def jy(fr:List (Nat × D))(Qli:Int):Option Operand->Option Int
 | none=>some Qli
 | some x=>match Qo fr x with
  | .raw (.int _ i)=>some i
  | _=>none
def Qan{P:Program}(w:World){k:IntKind}{i:Int}{y:Nat}{c:BoundsCode}(h0:0<=i)(h1:i<=y):(Instr.sliceBound (.int k i) y c).run P w=.ok i.toNat w:=by
 simp[Instr.sliceBound,asIntOf,h0,h1]
def U1{P:Program}{base nt:Nat}{s:St}{pl:List Pl}{a:Act}{w0:World}(r:Rel Z base nt s pl a w0)(w:World)(isSlice:Bool)(len cap:Nat)(lo hi:Option Operand){l u:Int}(hl:jy s.fr 0 lo=some l)(hu:jy s.fr len hi=some u)
  (h0:0<=l) (h1:l<=u) (h2:u<=len) (BW:len<=cap):(Instr.sliceBounds isSlice len cap (lo.map a.eval) (hi.map a.eval) none).run P w=.ok (l.toNat,u.toNat,cap) w:=by
 have get:∀(x:Operand) (d:Int) (i:Int),jy s.fr d (some x)=some i->∃k,a.eval x=.int k i:=by
  intro x d i h;have hr:=r.eval x;simp only[jy]at h;generalize Qo s.fr x=dx at *;split at h
  .rename_i k j;simp only[QY]at h;subst h;exact⟨k,Jn hr⟩
  .cases h
 have fst:∀(v:Value) (m:Nat) (c:BoundsCode),(∃k,v=.int k u)->u<=m->(Instr.sliceBound v m c).run P w=.ok u.toNat w:=by
  rintro v m c ⟨k,rfl⟩ hm;exact Qan w ω hm
 have snd:∀(v:Value) (c:BoundsCode),(∃k,v=.int k l)->(Instr.sliceBound v u.toNat c).run P w=.ok l.toNat w:=by
  rintro v c ⟨k,rfl⟩;exact Qan w h0 ω
 cases lo with
 | none=>
  simp only[jy,QY]at hl;subst hl;cases hi with
  | none=>simp only[jy,QY]at hu;subst hu;simp[Instr.sliceBounds]
  | some x=>
   have hx:=get x len u hu;cases isSlice<;>simp[Instr.sliceBounds,fst _ cap _ hx ω]
 | some z=>
  have hz:=get z 0 l hl;cases hi with
  | none=>
   simp only[jy,QY]at hu;have:u.toNat=len:=ω;have h3:=λc=>snd (a.eval z) c hz;rw[this]at h3;simp[Instr.sliceBounds,h3,this]
  | some x=>
   have hx:=get x len u hu;cases isSlice<;>simp[Instr.sliceBounds,fst _ cap _ hx ω,snd _ _ hz]
def U2(L:Z8)(fr:List (Nat × D))(h:List Ob)(t:TypeId)(d:D)(lo hi:Option Operand):Ev:=
 match ty L t with
 | some ⟨.slice e,_,_,_⟩=>match ty L e with
  | some y=>match d with
   | .ref l g off len=>match h[l]?,jy fr 0 lo,jy fr len hi with
    | some o,some a,some b=>some (g=o.gen/\o.sz=y.size/\0<=a/\a<=b/\b<=len,.ref l g (off+a.toNat) (b - a).toNat)
    | _,_,_=>none
   | .imm z n row=>match jy fr 0 lo,jy fr n hi with
    | some a,some b=>some (z=y.size/\0<=a/\a<=b/\b<=n,.imm z (b - a).toNat λi=>row (a.toNat+i))
    | _,_=>none
   | .nil=>match jy fr 0 lo,jy fr 0 hi with
    | some a,some b=>some (a=0/\b=0,.nil)
    | _,_=>none
   | _=>none
  | none=>none
 | some ⟨.str,_,_,_⟩=>match d with
  | .raw (.string s)=>match jy fr 0 lo,jy fr s.size hi with
   | some a,some b=>some (0<=a/\a<=b/\b<=s.size,.raw (.string (s.extract a.toNat b.toNat)))
   | _,_=>none
  | _=>none
 | _=>none
section
variable {P:Program}{L:Z8}{base nt:Nat}{s:St}{o:Oper}
def Qlj(hL:Z5 P L){t:TypeId}{x}{lo hi}(ho:o.op=.slice t x lo hi none){p}{d}(h:U2 L s.fr s.h t (Qo s.fr x) lo hi=some (p,d))(hp:p):Wd P base nt o s d:=by
 intro Z pl a w r;have hx:=r.eval x;unfold U2 at h;split at h
 .rename_i e _ _ _ he;have ht:=xi (hL _ _ he) rfl;split at h
  .rename_i y Ax;have hy:=hL _ _ Ax;generalize Qo s.fr x=dx at *;split at h
   .rename_i l g off len;split at h
    .rename_i ob aa bb Zf Zq Hu;simp only[QY,Q9]at h;obtain⟨rfl,rfl⟩:=h;obtain⟨hg,Ju,h0,h1,h2⟩:=hp;obtain⟨o',p',ad,cap,hv,Zv,ZS,ZJ,jt,Kz⟩:=Dq hx;rw[Zf]at Zv;cases Zv;have BW:len<=cap:=by
      rcases Kz hg with ⟨h3,h4⟩|⟨_,_,_,_,_,_,_,_,h3⟩<;>omega
     refine⟨.slice (if cap=aa.toNat then ad else ad.map (·.add (aa.toNat*y.size))) (bb - aa).toNat (cap - aa.toNat),?_,λw' _=>?_⟩
     .refine .ref _ _ _ _ ob p' _ _ Zf ZS ZJ jt (λ_=>?_);rcases Kz hg with ⟨h3,h4⟩|⟨b,q,c,el,Wb,kI,hb,JF,h3⟩
      .exact .inl ⟨ω,ω⟩
      .by_cases hc:cap=aa.toNat
       .exact .inl ⟨ω,ω⟩
       .refine .inr ⟨b,q,c,el,Wb,?_,hb,?_,ω⟩
        .rw[Qc hc,kI,KK,yn,Ju,Vz];simp only[QY,Addr.mk.injEq,and_true,vO];omega
        .rw[show off+aa.toNat+(cap - aa.toNat)=off+cap by omega];exact JF
     .have hb:=U1 (P:=P) r w' true len cap lo hi Zq Hu h0 h1 h2 BW;simp[execOp,ho,Instr.sliceAt,run_underlying ht,Instr.slice,hv,hb,hy.sizeOf];omega
    .cases h
   .rename_i z n row;split at h
    .rename_i aa bb Zq Hu;simp only[QY,Q9]at h;obtain⟨rfl,rfl⟩:=h;obtain⟨rfl,h0,h1,h2⟩:=hp;obtain⟨ad,cap,b,q,vs,hv,kI,BW,hs,hc⟩:=PF hx;refine⟨.slice (if cap=aa.toNat then ad else ad.map (·.add (aa.toNat*y.size))) (bb - aa).toNat (cap - aa.toNat),.cl _ _ ?_,λw' _=>?_⟩
     .refine .imm _ _ _ _ _ b (q+aa.toNat*y.size) (λi j=>vs (aa.toNat+i) j) (λYZ=>?_) ω (λi hi=>hs _ ω) (λi j hi hj=>?_) (λi j hi hj=>(hc (aa.toNat+i) j ω hj).2)
      .rw[Qc ω,kI ω,KK,yn]
      .obtain⟨⟨g1,g2⟩,_⟩:=hc (aa.toNat+i) j ω hj;refine⟨g1,?_⟩;rw[<- g2];congr 2;rw[Vz];omega
     .have hb:=U1 (P:=P) r w' true n cap lo hi Zq Hu h0 h1 h2 BW;simp[execOp,ho,Instr.sliceAt,run_underlying ht,Instr.slice,hv,hb,hy.sizeOf];omega
    .cases h
   .split at h
    .rename_i aa bb Zq Hu;simp only[QY,Q9]at h;obtain⟨rfl,rfl⟩:=h;obtain⟨rfl,rfl⟩:=hp;obtain⟨ad,hv⟩:=Dp hx;refine⟨.slice ad 0 0,.cl _ _ (.nil _),λw' _=>?_⟩;have hb:=U1 (P:=P) r w' true 0 0 lo hi Zq Hu ω ω ω (QB _);simp[execOp,ho,Instr.sliceAt,run_underlying ht,Instr.slice,hv,hb,hy.sizeOf]
    .cases h
   .cases h
  .cases h
 .rename_i he;have ht:=PE (hL _ _ he) rfl;generalize Qo s.fr x=dx at *;split at h
  .rename_i str;split at h
   .rename_i aa bb Zq Hu;simp only[QY,Q9]at h;obtain⟨rfl,rfl⟩:=h;obtain⟨h0,h1,h2⟩:=hp;have hv:=Jn hx;refine⟨_,.cl _ _ (.raw _),λw' _=>?_⟩;have hb:=U1 (P:=P) r w' false str.size str.size lo hi Zq Hu h0 h1 h2 (QB _);simp[execOp,ho,Instr.sliceAt,run_underlying ht,Instr.slice,hv,hb]
   .cases h
  .cases h
 .cases h
end
def qG:Value->Value->Option Bool
 | .int k a,.int k' b=>bif IntKind.same k k' then some (a==b) else none
 | .bool a,.bool b=>some (a==b)
 | .string a,.string b=>some (a.toList==b.toList)
 | _,_=>none
def jz:List Value->List Value->Option Bool
 | [],[]=>some true
 | a::r,b::q=>match qG a b,jz r q with
  | some x,some y=>some (x&&y)
  | _,_=>none
 | _,_=>none
def cat:Value->Nat
 | .int _ _=>0
 | .bool _=>1
 | .string _=>2
 | _=>3
def Mt(P:Program)(sh:TypeId->Option (List Nat)):List Field->Nat->Option (List Nat)
 | [],_=>some []
 | f::fs,off=>match sh f.type with
  | some l => if f.name ≠ "_" /\ f.offset = off /\ P.cellsOf f.type = l.length then (Mt P sh fs (off + l.length)).map (l ++ ·) else none
  | none=>none
def Y3(P:Program):Nat->TypeId->Option (List Nat)
 | 0,_=>none
 | d+1,t=>match P.underlying t with
  | some (.int _)=>some [0]
  | some .bool=>some [1]
  | some .string=>some [2]
  | some (.struct fs)=>if P.stoodInHeld t then none else Mt P (Y3 P d) fs.toList 0
  | some (.array n e)=>match Y3 P d e with
   | some l=>if P.cellsOf e=l.length then some (List.replicate n l).flatten else none
   | none=>none
  | _=>none
def lu:∀(a b c d:List Value) (r:Bool),a.length=b.length->jz (a++c) (b++d)=some r->∃x y,jz a b=some x/\jz c d=some y/\r=(x&&y)
 | [],[],c,d,r,_,h=>⟨true,r,rfl,h,σ⟩
 | [],_::_,_,_,_,h,_=>by simp at h
 | _::_,[],_,_,_,h,_=>by simp at h
 | u::a,v::b,c,d,r,hl,h=>by
  simp only[YT,jz]at h;split at h
  .rename_i x y hx hy;simp only[QY]at h;obtain⟨x',y',h1,h2,h3⟩:=lu a b c d y (by simpa using hl) hy;exact⟨x&&x',y',by simp[jz,hx,h1],h2,by rw[<- h,h3,Bool.and_assoc]⟩
  .cases h
def valOf(P:Program)(t:TypeId)(xs:List Value):Value:=
 match P.underlying t with
 | some (.struct _)|some (.array _ _)=>.agg xs.toArray
 | _=>QZ xs 0
def lz(P:Program)(D:Nat)(t:TypeId)(l:List Nat):Prop:=
 ∀(w:World) (xs ys:List Value) (r:Bool),xs.map cat=l->ys.map cat=l->jz xs ys=some r->(Op.equalIn D t (valOf P t xs) (valOf P t ys)).run P w=.ok r w
def PO{P:Program}{d}{t:TypeId}{l:List Nat}(h:Y3 P d t=some l)(hc:P.cellsOf t=l.length)(w)(xs:List Value)(off)(hl:off+l.length<=xs.length):
  (part t xs.toArray off).run P w=.ok (valOf P t ((xs.drop off).take l.length)) w:=by
 cases d with
 | zero=>simp[Y3]at h
 | succ d=>
  unfold Y3 at h;cases hu:P.underlying t with
  | none=>rw[hu]at h;cases h
  | some k=>
   obtain⟨i,hi⟩:=info_of_underlying hu;have hs:(sizeOf t).run P w=.ok l.length w:=by
    rw[run_sizeOf w hi,hc]
   rw[hu]at h;cases k<;>first|(cases h;done)|skip
   case bool=>
    cases h;have:off<xs.length:=by simp at hl;omega
    simp[part,isAgg,run_underlying hu,valOf,hu,QZ,this]
   case int=>
    cases h;have:off<xs.length:=by simp at hl;omega
    simp[part,isAgg,run_underlying hu,valOf,hu,QZ,this]
   case string=>
    cases h;have:off<xs.length:=by simp at hl;omega
    simp[part,isAgg,run_underlying hu,valOf,hu,QZ,this]
   case array=>simp[part,isAgg,run_underlying hu,valOf,hu,hs]
   case struct=>simp[part,isAgg,run_underlying hu,valOf,hu,hs]
def Qao{P}(d D)(IH:∀t l,Y3 P d t=some l->lz P D t l)(w):∀(fs:List Field) (off:Nat) (l:List Nat) (xs ys:List Value) (r:Bool),Mt P (Y3 P d) fs off=some l ->
  (xs.drop off).map cat=l->(ys.drop off).map cat=l->off<=xs.length->off<=ys.length->jz (xs.drop off) (ys.drop off)=some r->(Op.eqFields D xs.toArray ys.toArray fs).run P w=.ok r w
 | [],off,l,xs,ys,r,h,hx,hy,h1,h2,he=>by
  simp[Mt]at h;subst h;simp only[List.map_eq_nil_iff]at hx hy;rw[hx,hy]at he;simp[jz]at he;simp[Op.eqFields,he]
 | f::fs,off,l,xs,ys,r,h,hx,hy,h1,h2,he=>by
  simp only[Mt]at h;split at h
  .rename_i l1 Jj;split at h
   .rename_i hc;obtain⟨hn,ho,Ju⟩:=hc;simp only[VA]at h;obtain⟨l2,Jp,rfl⟩:=h;have zQ:(xs.drop off).length=l1.length+l2.length:=by rw[<- J1 (f:=cat),hx,ZW]
    have AI:(ys.drop off).length=l1.length+l2.length:=by rw[<- J1 (f:=cat),hy,ZW]
    have Hv:xs.drop off=(xs.drop off).take l1.length++xs.drop (off+l1.length):=by rw[<- List.drop_drop,BO]
    have Hw:ys.drop off=(ys.drop off).take l1.length++ys.drop (off+l1.length):=by rw[<- List.drop_drop,BO]
    rw[Hv,vK]at hx;rw[Hw,vK]at hy;obtain⟨Xz,Wf⟩:=Ul hx (by simp at zQ ⊢;omega);obtain⟨ze,jA⟩:=Ul hy (by simp at AI ⊢;omega);rw[Hv,Hw]at he;obtain⟨x,y,e1,e2,rfl⟩:=lu _ _ _ _ _ (by simp at zQ AI ⊢;omega) he;have p1:=PO Jj Ju w xs off (by simp at zQ;omega);have p2:=PO Jj Ju w ys off (by simp at AI;omega);have p3:=IH _ _ Jj w _ _ x Xz ze e1;have p4:=Qao d D IH w fs (off+l1.length) l2 xs ys y Jp Wf jA (by simp at zQ;omega) (by simp at AI;omega) e2;simp only[Op.eqFields,hn,ne_eq,not_false_eq_true,Vs,Sem.run_bind,ho,p1,p2,p3,Result.andThen_ok];cases x
    .simp
    .simpa using p4
   .cases h
  .cases h
def Qap{P:Program}{d D}{e:TypeId}{l:List Nat}(JX:Y3 P d e=some l)(hc:P.cellsOf e=l.length)(IH:lz P D e l)(w):∀(m i:Nat) (xs ys:List Value) (r:Bool),
  (xs.drop (i*l.length)).map cat=(List.replicate m l).flatten->(ys.drop (i*l.length)).map cat=(List.replicate m l).flatten->i*l.length<=xs.length->i*l.length<=ys.length->jz (xs.drop (i*l.length)) (ys.drop (i*l.length))=some r ->
  (Op.eqItems D e (P.cellsOf e) xs.toArray ys.toArray (List.range' i m)).run P w=.ok r w
 | 0,i,xs,ys,r,hx,hy,_,_,he=>by
  simp only[List.replicate_zero,List.flatten_nil,List.map_eq_nil_iff]at hx hy;rw[hx,hy]at he;simp[jz]at he;simp[Op.eqItems,he]
 | m+1,i,xs,ys,r,hx,hy,h1,h2,he=>by
  rw[Ur,List.flatten_cons]at hx hy;have zQ:(xs.drop (i*l.length)).length=l.length+(List.replicate m l).flatten.length:=by rw[<- J1 (f:=cat),hx,ZW]
  have AI:(ys.drop (i*l.length)).length=l.length+(List.replicate m l).flatten.length:=by rw[<- J1 (f:=cat),hy,ZW]
  have hi:i*l.length+l.length=(i+1)*l.length:=by rw[Vz];omega
  have Hv:xs.drop (i*l.length)=(xs.drop (i*l.length)).take l.length++xs.drop ((i+1)*l.length):=by rw[<- hi,<- List.drop_drop,BO]
  have Hw:ys.drop (i*l.length)=(ys.drop (i*l.length)).take l.length++ys.drop ((i+1)*l.length):=by rw[<- hi,<- List.drop_drop,BO]
  rw[Hv,vK]at hx;rw[Hw,vK]at hy;obtain⟨Xz,Wf⟩:=Ul hx (by simp at zQ ⊢;omega);obtain⟨ze,jA⟩:=Ul hy (by simp at AI ⊢;omega);rw[Hv,Hw]at he;obtain⟨x,y,e1,e2,rfl⟩:=lu _ _ _ _ _ (by simp at zQ AI ⊢;omega) he;have p1:=PO JX hc w xs (i*l.length) (by simp at zQ;omega);have p2:=PO JX hc w ys (i*l.length) (by simp at AI;omega);have p3:=IH w _ _ x Xz ze e1;have p4:=Qap JX hc IH w m (i+1) xs ys y Wf jA (by simp at zQ;omega) (by simp at AI;omega) e2;rw[List.range'_succ];simp only[Op.eqItems,Sem.run_bind,hc,p1,p2,p3,Result.andThen_ok];cases x
  .simp
  .rw[hc]at p4;simpa using p4
def U3{P}:∀(d D:Nat) (t:TypeId) (l:List Nat),d<=D->Y3 P d t=some l->lz P D t l
 | 0,_,_,_,_,h=>by simp[Y3]at h
 | d+1,0,_,_,hd,_=>ω
 | d+1,D+1,t,l,hd,h=>by
  intro w xs ys r hx hy he;have h':=h;unfold Y3 at h;cases hu:P.underlying t with
  | none=>rw[hu]at h;cases h
  | some k=>
   rw[hu]at h;have one:∀c:Nat,l=[c]->∃a b,xs=[a]/\ys=[b]/\cat a=c/\cat b=c/\qG a b=some r:=by
    intro c hl;subst hl;have zQ:xs.length=1:=by rw[<- J1 (f:=cat),hx];rfl
    have AI:ys.length=1:=by rw[<- J1 (f:=cat),hy];rfl
    match xs,ys,zQ,AI with
    | [a],[b],_,_=>
     refine⟨a,b,rfl,rfl,by simpa using hx,by simpa using hy,?_⟩;simp only[jz]at he;split at he
     .rename_i x y h1 h2;simp at h2 he;subst h2;simp at he;rw[h1,he]
     .cases he
   cases k<;>first|(cases h;done)|skip
   case bool=>
    simp only[QY]at h;obtain⟨a,b,rfl,rfl,ha,hb,Vu⟩:=one 1 h.symm;cases a<;>simp[cat]at ha;cases b<;>simp[cat]at hb;simp[qG]at Vu;subst Vu;simp[valOf,hu,QZ,run_equalIn_bool' w D t _ _ hu]
   case int q=>
    simp only[QY]at h;obtain⟨a,b,rfl,rfl,ha,hb,Vu⟩:=one 0 h.symm;cases a<;>simp[cat]at ha;cases b<;>simp[cat]at hb;simp only[qG]at Vu;obtain⟨hk,Qaq⟩:=zN Vu;have:=IntKind.iE hk;subst this;simp only[QY]at Qaq;subst Qaq;simp[valOf,hu,QZ,run_equalIn_int w D t _ _ _ _ hu]
   case string=>
    simp only[QY]at h;obtain⟨a,b,rfl,rfl,ha,hb,Vu⟩:=one 2 h.symm;cases a<;>simp[cat]at ha;cases b<;>simp[cat]at hb;simp only[qG,QY]at Vu;subst Vu;simp[valOf,hu,QZ,run_equalIn_string w D t _ _ hu]
   case array n e=>
    replace h:(match Y3 P d e with|some l=>if P.cellsOf e=l.length then some (List.replicate n l).flatten else none|none=>none)=some l:=h;split at h
    .rename_i l1 Jj;split at h
     .rename_i hc;simp only[QY]at h;subst h;have lD:∃i,P.info? e=some i:=by
       cases d with
       | zero=>simp[Y3]at Jj
       | succ d'=>
        unfold Y3 at Jj;cases hue:P.underlying e with
        | none=>rw[hue]at Jj;cases Jj
        | some _=>exact info_of_underlying hue
      obtain⟨i,hi⟩:=lD;have:=Qap Jj hc (U3 d D e l1 ω Jj) w n 0 xs ys r (by simpa using hx) (by simpa using hy) σ σ (by simpa using he);rw[<- List.range_eq_range']at this;simp only[valOf,hu];rw[run_equalIn_array w D xs.toArray ys.toArray hu hi];exact this
     .cases h
    .cases h
   case struct fs=>
    replace h:(if P.stoodInHeld t then none else Mt P (Y3 P d) fs.toList 0)=some l:=h;split at h
    .cases h
    .rename_i hs;have Ya:P.fieldsOf t=fs:=by simp[Program.fieldsOf,hu]
     simp only[valOf,hu];rw[run_equalIn_struct w D t _ _ (by rw[Ya];exact hu) (by simpa using hs),Ya];exact Qao d D (λt l h=>U3 d D t l ω h) w fs.toList 0 l xs ys r h (by simpa using hx) (by simpa using hy) σ σ (by simpa using he)
abbrev B0:=List (TypeId × List Nat)
def AJ:B0->TypeId->Option (List Nat)
 | [],_=>none
 | (u,l)::r,t=>bif Nat.beq u t then some l else AJ r t
structure lF (P:Program) (t:TypeId) (l:List Nat):Prop where
 shape:Y3 P 60 t=some l
 guard:P.eqGuardType P.depth t=false
 agg:(match P.underlying t with|some (.struct _)|some (.array _ _)=>true|_=>false)=true
def yw(P:Program)(E:B0):Prop:=∀t l,AJ E t=some l->lF P t l
def yw.nil(P):yw P []:=λ_ _ h=>by simp[AJ]at h
def yw.cons{P}{E}{t:TypeId}{l}(h:lF P t l)(r:yw P E):yw P ((t,l)::E):=λu z e=>by
 simp only[AJ]at e;by_cases hu:t=u
 .subst hu;simp at e;subst e;exact h
 .have:Nat.beq t u=false:=by rw[<- Ys,Wa];exact hu
  rw[this]at e;exact r u z e
def Dy:List D->Option (List Value)
 | []=>some []
 | .raw v::r=>match Dy r with
  | some l=>some (v::l)
  | none=>none
 | _=>none
def Hx:List Nat->List Nat->Bool
 | [],[]=>true
 | a::r,b::q=>Nat.beq a b&&Hx r q
 | _,_=>false
def U4:∀{a b:List Nat},Hx a b=true->a=b
 | [],[],_=>rfl
 | [],_::_,h=>by cases h
 | _::_,[],h=>by cases h
 | a::r,b::q,h=>by
  simp only[Hx,Zy,Wa]at h;rw[h.1,U4 h.2]
def U5{h}{pl}{w}:∀{cs:List D} {l:List Value},Dy cs=some l->∀(vs:List Value),vs.length=cs.length->(∀i,i<cs.length->QC Z h pl w (nth cs i) (QZ vs i))->vs=l
 | [],l,e,vs,hl,_=>by simp[Dy]at e;subst e;exact List.eq_nil_of_length_eq_zero (by simpa using hl)
 | c::cs,l,e,vs,hl,hr=>by
  cases c<;>simp only[Dy,reduceCtorEq]at e;rename_i v;split at e
  .rename_i l' YY;simp only[QY]at e;subst e;match vs,hl with
   | u::us,hl=>
    have h0:=Jn (hr 0 σ:QC Z h pl w (.raw v) u);have:=U5 YY us (by simpa using hl) (λi hi=>by have:=hr (i+1) ξ;simpa[nth,QZ] using this);have PQ:u=v:=h0;rw[PQ,this]
  .cases e
def U6(E:B0)(op:BinOp)(t:TypeId):D->D->Ev
 | .agg a,.agg b=>match AJ E t,Dy a,Dy b with
  | some l,some x,some y=>bif Hx (x.map cat) l&&Hx (y.map cat) l then match jz x y with
   | some r=>match op with
    | .eql=>some (True,.raw (.bool r))
    | .neq=>some (True,.raw (.bool (!r)))
    | _=>none
   | none=>none
   else none
  | _,_,_=>none
 | _,_=>none
def Qlk{P}{E}(hE:yw P E){base nt}{s}{o:Oper}{op}{t yt:TypeId}{x y}(ho:o.op=.binOp op t x y yt){p}{d}
  (h:U6 E op t (Qo s.fr x) (Qo s.fr y)=some (p,d)):Wd P base nt o s d:=by
 intro Z pl a w r;have hx:=r.eval x;have hy:=r.eval y;unfold U6 at h;generalize Qo s.fr x=dx at *;generalize Qo s.fr y=dy at *;split at h
 .split at h
  .rename_i l xs ys he Hv Hw;obtain⟨hk,h2⟩:=zN h;simp only[Zy]at hk;have hkx:=U4 hk.1;have hky:=U4 hk.2;split at h2
   .rename_i rr hr;obtain⟨us,hu,lG,B1⟩:=Ho hx;obtain⟨ws,hw,hwl,Zb⟩:=Ho hy;have e1:=U5 Hv us lG B1;have e2:=U5 Hw ws hwl Zb;subst e1;subst e2;obtain⟨JX,hg,Qas⟩:=hE _ _ he;have heq:∀w',(Op.equalIn 10000 t (.agg us.toArray) (.agg ws.toArray)).run P w'=.ok rr w':=by
     intro w';have:=U3 60 10000 t l ω JX w' us ws rr hkx hky hr;unfold valOf at this;split at this
     .exact this
     .exact this
     .rename_i h1 h2;split at Qas
      .rename_i h3;exact absurd h3 (h1 _)
      .rename_i h3;exact absurd h3 (h2 _ _)
      .cases Qas
    split at h2
    .simp only[QY,Q9]at h2;obtain⟨rfl,rfl⟩:=h2;refine⟨_,.cl _ _ (.raw _),λw' _=>?_⟩;simp[execOp,ho,hu,hw,run_eqGuard_agg w' .eql t x y _ _ hg,run_eql_struct,heq]
    .simp only[QY,Q9]at h2;obtain⟨rfl,rfl⟩:=h2;refine⟨_,.cl _ _ (.raw _),λw' _=>?_⟩;simp[execOp,ho,hu,hw,run_eqGuard_agg w' .neq t x y _ _ hg,run_neq_struct,heq]
    .cases h2
   .cases h2
  .cases h
 .cases h
end Go.Fg
namespace Go.Fg
def Vi(P:Program){α:Type}(m:Sem α):Prop:=∀w x w1,m.run P w=.ok x w1->w1=w/\∀w',m.run P w'=.ok x w'
section
variable {P:Program}{α β:Type}
def Vi.pure(a:α):Vi P (pure a:Sem α):=λw x w1 h=>by
 simp at h;obtain⟨rfl,rfl⟩:=h;exact⟨rfl,λw'=>σ⟩
def Vi.never{m:Sem α}(hh:∀w x w1,m.run P w≠.ok x w1):Vi P m:=λw x w1 h=>absurd h (hh w x w1)
def Vi.bind{m:Sem α}{k:α->Sem β}(h1:Vi P m)(h2:∀a,Vi P (k a)):Vi P (m >>= k):=λw x w1 h=>by
 rw[Sem.run_bind]at h;cases hm:m.run P w with
 | halt e w2=>rw[hm]at h;cases h
 | ok a w2=>
  rw[hm]at h;simp only[Result.andThen_ok]at h;obtain⟨rfl,h3⟩:=h1 w a w2 hm;obtain⟨rfl,h4⟩:=h2 a _ x w1 h;exact⟨rfl,λw'=>by rw[Sem.run_bind,h3 w'];simp only[Result.andThen_ok];exact h4 w'⟩
def Vi.stuck(s:String):Vi P (Go.stuck s:Sem α):=Vi.never λw x w1 h=>by cases h
def Vi.halt(e:Halt):Vi P (.halt e:Sem α):=Vi.never λw x w1 h=>by cases h
def Vi.program:Vi P program:=λw x w1 h=>by
 simp at h;obtain⟨rfl,rfl⟩:=h;exact⟨rfl,λw'=>σ⟩
def Vi.typeInfo(t):Vi P (typeInfo t):=.bind .program λp=>by
 split
 .exact .pure _
 .exact .stuck _
def Vi.underlying(t):Vi P (underlying t):=.bind .program λp=>by
 split
 .exact .pure _
 .exact .stuck _
def Vi.panic:Vi P (runtimePanic .nilDeref:Sem α):=.bind .program λp=>.halt _
def Vi.sizeOf(t):Vi P (sizeOf t):=.bind (.typeInfo t) λ_=>.pure _
def Vi.isAgg(t):Vi P (isAgg t):=.bind (.underlying t) λd=>by
 split<;>exact .pure _
def Vi.part(t)(cs)(i):Vi P (part t cs i):=by
 unfold Go.part
 repeat' (first|exact .pure _|exact .stuck _|refine .bind (.isAgg _) λ_=>?_|refine .bind (.sizeOf _) λ_=>?_|refine .bind (.typeInfo _) λ_=>?_|refine .bind (.underlying _) λ_=>?_|split)
def Vi.blind:∀(l:List FieldStep) (t:TypeId) (x:Option Value),Vi P (Go.followBlind l t x)
 | [],_,_=>.pure _
 | s::r,t,x=>by
  unfold Go.followBlind
  repeat' (first|exact .pure _|exact .stuck _|exact Vi.blind r _ _|refine .bind (.part _ _ _) λ_=>?_|refine .bind (.underlying _) λ_=>?_|split)
def Vi.nilAhead:∀(n:Nat) (t:TypeId) (v:Value) (name:String),Vi P (Go.nilAhead n t v name)
 | 0,_,_,_=>.pure _
 | n+1,t,v,name=>by
  unfold Go.nilAhead
  repeat' (first|exact .pure _|exact .stuck _|exact Vi.nilAhead n _ _ _|refine .bind (.blind _ _ _) λ_=>?_|refine .bind (.typeInfo _) λ_=>?_|refine .bind (.underlying _) λ_=>?_|split)
def Vi.nilCheck{o:Oper}{x}(ho:o.op=.nilCheck x)(ρ):Vi P (execOp ρ o):=by
 simp only[execOp,ho]
 repeat' (first|exact .pure _|exact .stuck _|exact .panic|exact .halt _|(refine .bind (.halt _) λ_=>?_)|refine .bind (.nilAhead _ _ _ _) λ_=>?_|refine .bind .program λ_=>?_|split)
end
end Go.Fg
namespace Go.Fg
open Go.RowKit (Below)
open Go.Instr
def Hy(q:IntKind)(es:List MapEntry):Prop:=∀e∈es,∃n,e.key=.int q n
def U7{q}{k}:∀{es:List MapEntry} {i:Nat},Hy q es->(∀e∈es,e.key≠.int q k)->findNow (.int q) (.int q k) es i=some none
 | [],_,_,_=>rfl
 | e::es,i,h,hn=>by
  obtain⟨n,hk⟩:=h e (J2 ..);have QA:(k==n)=false:=by
   rw[zL];rintro rfl;exact hn e (J2 ..) hk
  simp only[findNow,hk,sameNow,Vs,QA];exact U7 (λe he=>h e (JR _ he)) (λe he=>hn e (JR _ he))
def U8{q}{k}:∀{es:List MapEntry} {i0 i:Nat} {e:MapEntry},Hy q es->es[i]? = some e->e.key=.int q k->(∀(j:Nat) (e':MapEntry),j<i->es[j]? = some e'->e'.key≠.int q k) ->
  findNow (.int q) (.int q k) es i0=some (some (i0+i,e.val))
 | [],_,_,_,_,h,_,_=>by simp at h
 | x::es,i0,i,e,hI,h,hk,hn=>by
  obtain⟨n,hx⟩:=hI x (J2 ..);cases i with
  | zero=>
   simp at h;subst h;rw[hx]at hk;obtain rfl:n=k:=by simpa using hk
   simp[findNow,hx,sameNow]
  | succ i=>
   have QA:(k==n)=false:=by
    rw[zL];rintro rfl;exact hn 0 x ω rfl hx
   simp only[findNow,hx,sameNow,Vs,QA];rw[U8 (i0:=i0+1) (λe he=>hI e (JR _ he)) (by simpa using h) hk (λj e' hj he=>hn (j+1) e' ω (by simpa using he))];simp;omega
section
variable {P:Program}{w:World}{q:IntKind}{k:Int}
def FD{kt:TypeId}(hk:P.underlying kt=some (.int q))(em)(n):(checkKey em (n+1) kt (.int q k)).run P w=.ok () w:=by
 simp[checkKey,underlying,hk]
def Hz{kt:TypeId}(hk:P.underlying kt=some (.int q)){es:List MapEntry}{r}(h:findNow (.int q) (.int q k) es 0=some r):(findKey kt (.int q k) es).run P w=.ok r w:=by
 simp[findKey,underlying,hk,h]
def AK{α:Type}{b}{es}{clock}(hb:w.heap[b]? = some (.map es clock))(c:Obj->Sem α):(Sem.getObj b c).run P w=(c (.map es clock)).run P w:=by
 simp only[Sem.run,hb]
def PR{α:Type}{b}{es}{clock}(hb:w.heap[b]? = some (.map es clock))(o:Obj)(c:Sem α):(Sem.setObj b o c).run P w=c.run P { w with heap:=w.heap.setIfInBounds b o }:=by
 simp only[Sem.run,hb]
def Qlo{xt kt et:TypeId}{b}{es:Array MapEntry}{clock}(hx:P.underlying xt=some (.map kt et))(hk:P.underlying kt=some (.int q))(hb:w.heap[b]? = some (.map es clock))(hI:Hy q es.toList)
  {i:Nat} {e:MapEntry} (hi:es[i]? = some e) (he:e.key=.int q k) (hn:∀(j:Nat) (e':MapEntry),j<i->es[j]? = some e'->e'.key≠.int q k) (v:Value) :
  (mapUpdate xt (.map (some b)) (.int q k) v).run P w=.ok () { w with heap:=w.heap.setIfInBounds b (.map (es.modify i λe=>{ e with key:=.int q k,val:=v }) clock) }:=by
 have h:=U8 (i0:=0) hI (by simpa using hi) he (λj e' hj VS=>hn j e' hj (by simpa using VS));have h2:=Hz (P:=P) (w:=w) hk h;have h3:=FD (P:=P) (w:=w) (k:=k) hk false 9999;simp[mapUpdate,underlying,hx,getObj,AK hb,h2,h3,hi,he,keyThatStays,sameBits,setObj,PR hb]
def Qlp{xt kt et:TypeId}{b}{es:Array MapEntry}{clock}(hx:P.underlying xt=some (.map kt et))(hk:P.underlying kt=some (.int q))(hb:w.heap[b]? = some (.map es clock))(hI:Hy q es.toList)
  (hn:∀e∈es.toList,e.key≠.int q k) (v:Value) :
  (mapUpdate xt (.map (some b)) (.int q k) v).run P w=.ok () { w with heap:=w.heap.setIfInBounds b (.map (es.push { key:=.int q k,val:=v,born:=clock }) (clock+1)) }:=by
 have h2:=Hz (P:=P) (w:=w) hk (U7 (i:=0) hI hn);have h3:=FD (P:=P) (w:=w) (k:=k) hk false 9999;simp[mapUpdate,underlying,hx,getObj,AK hb,h2,h3,setObj,PR hb]
def Qlq{xt kt et ty kt2:TypeId}{b}{es:Array MapEntry}{clock}(hx:P.underlying xt=some (.map kt et))(hk:P.underlying kt=some (.int q))(hb:w.heap[b]? = some (.map es clock))(hI:Hy q es.toList)
  {i:Nat} {e:MapEntry} (hi:es[i]? = some e) (he:e.key=.int q k) (hn:∀(j:Nat) (e':MapEntry),j<i->es[j]? = some e'->e'.key≠.int q k) :
  (Builtin.delete_ #[xt,kt2] ty #[.map (some b),.int q k]).run P w=.ok (.tuple #[]) { w with heap:=w.heap.setIfInBounds b (.map (es.eraseIdxIfInBounds i) clock) }:=by
 have h:=U8 (i0:=0) hI (by simpa using hi) he (λj e' hj VS=>hn j e' hj (by simpa using VS));have h2:=Hz (P:=P) (w:=w) hk h;have h3:=FD (P:=P) (w:=w) (k:=k) hk es.isEmpty 9999;simp[Builtin.delete_,underlying,hx,getObj,AK hb,h2,h3,setObj,PR hb]
def Qlr{xt kt et ty kt2:TypeId}{b}{es:Array MapEntry}{clock}(hx:P.underlying xt=some (.map kt et))(hk:P.underlying kt=some (.int q))(hb:w.heap[b]? = some (.map es clock))(hI:Hy q es.toList)
  (hn:∀e∈es.toList,e.key≠.int q k) :
  (Builtin.delete_ #[xt,kt2] ty #[.map (some b),.int q k]).run P w=.ok (.tuple #[]) { w with heap:=w.heap.setIfInBounds b (.map es clock) }:=by
 have h2:=Hz (P:=P) (w:=w) hk (U7 (i:=0) hI hn);have h3:=FD (P:=P) (w:=w) (k:=k) hk es.isEmpty 9999;simp[Builtin.delete_,underlying,hx,getObj,AK hb,h2,h3,setObj,PR hb]
def Qls{xt kt et:TypeId}{b}{es}{clock}(hx:P.underlying xt=some (.map kt et))(hb:w.heap[b]? = some (.map es clock)):
  (Instr.range xt (.map (some b))).run P w=.ok (.pointer (some ⟨w.heap.size,0,none⟩)) { w with heap:=w.heap.push (.mapIter (some b) clock #[] clock) }:=by
 simp[Instr.range,underlying,hx,getObj,AK hb,newObj,Sem.run]
end
def Tr.HC{Z:Nat->Prop}{base:Nat}{h:List Ob}{pl:List Pl}{w w':World}(R:Zi Z base h pl w){l:Nat}{o o':Ob}{b:Nat}(ho:h[l]? = some o)(hp:pl[l]? = some (some (b,0)))(e:∀c,c≠b->w'.heap[c]? = w.heap[c]?)
  (hg:o'.gen=o.gen) (hk:o'.kd.ty=o.kd.ty) (hz:o'.sz=o.sz) (lH:∀c el,w.heap[b]?≠some (.cells c el (0,0))):Tr h pl w (h.set l o') pl w' where
 J3:=λc hc _=>⟨hc,e c (λh=>by subst h;exact hc l 0 hp)⟩
 obj:=λl1 o1 p h1 h2=>by
  by_cases hl:l=l1
  .subst hl;rw[ho]at h1;cases h1;exact⟨o',p,Wt (KD ho),h2,ω,hk,λ_=>⟨hz,rfl⟩⟩
  .exact⟨o1,p,by rw[Jw hl];exact h1,h2,QB _,rfl,λ_=>⟨rfl,rfl⟩⟩
 shape:=λl1 o1 o2 c q h1 h2 _ h3 cs el hc=>by
  by_cases hb:c=b
  .subst hb;exact absurd hc (lH cs el)
  .exact⟨cs,by rw[e c hb];exact hc,rfl⟩
def Zi.HC{Z:Nat->Prop}{base:Nat}{h:List Ob}{pl:List Pl}{w w':World}(R:Zi Z base h pl w){l:Nat}{o o':Ob}{b:Nat}(ho:h[l]? = some o)(hp:pl[l]? = some (some (b,0)))(e:∀c,c≠b->w'.heap[c]? = w.heap[c]?)
  (T:Tr h pl w (h.set l o') pl w') (hx:Ky Z (h.set l o') pl w' o' b 0) (hro:o'.kd.ro=o.kd.ro):Zi Z base (h.set l o') pl w' where
 len:=by rw[Wu];exact R.len
 inj:=R.inj
 VB:=λl1 o1 h1 h2=>by
  by_cases hl:l=l1
  .subst hl;rw[hp]at h2;cases h2
  .rw[Jw hl]at h1;exact R.VB l1 o1 h1 h2
 at_:=λl1 o1 c q h1 h2=>by
  by_cases hl:l=l1
  .subst hl;rw[Wt (KD ho)]at h1;cases h1;rw[hp]at h2;cases h2;exact⟨λhr=>(R.at_ l o b 0 ho hp).1 (by rw[<- hro,hr]),hx⟩
  .rw[Jw hl]at h1;obtain⟨g1,x⟩:=R.at_ l1 o1 c q h1 h2;have hc:c≠b:=λh=>by subst h;exact hl (R.inj l l1 c 0 q hp h2)
   exact⟨g1,x.to rfl rfl rfl (e c hc) (λ_ _=>rfl) λi j v _ _ hr=>hr.tr T⟩
structure Zt where
 k:Int
 v:D
 b:Nat
def kN(q:IntKind)(c:Nat)(es:List Zt):Nat->List D
 | 0=>[.raw (.int .i64 c),.undef,.undef]
 | r+1=>match es[r]? with
  | some e=>[.raw (.int q e.k),e.v,.raw (.int .i64 e.b)]
  | none=>[.undef,.undef,.undef]
def VT(kd:Kd)(q:IntKind)(c:Nat)(es:List Zt):Ob:=⟨kd,0,3,es.length+1,kN q c es⟩
def QK(q:IntKind)(c:Nat)(es:List Zt):Ob:=VT .map q c es
def ZL:List Zt->Int->Option D
 | [],_=>none
 | e::r,k=>if e.k=k then some e.v else ZL r k
def zR:List Zt->Int->D->List Zt
 | [],_,_=>[]
 | e::r,k,v=>if e.k=k then ⟨k,v,e.b⟩::r else e::zR r k v
def JS:List Zt->Int->List Zt
 | [],_=>[]
 | e::r,k=>if e.k=k then r else e::JS r k
def JZ(q:IntKind)(c:Nat)(es:List Zt)(k:Int)(v:D):Ob:=match ZL es k with
 | some _=>QK q c (zR es k v)
 | none=>QK q (c+1) (es++[⟨k,v,c⟩])
def FE:D->Int
 | .raw (.int _ n)=>n
 | _=>0
def clockOf(o:Ob):Nat:=(FE (nth (o.row 0) 0)).toNat
def Qnh(o:Ob):List Zt:=(List.range (o.n - 1)).map λi=>⟨FE (nth (o.row (i+1)) 0),nth (o.row (i+1)) 1,(FE (nth (o.row (i+1)) 2)).toNat⟩
def Ob.ro(o:Ob):Ob:=⟨o.kd.toRo,o.gen,o.sz,o.n,o.row⟩
def IsMap(q:IntKind)(o:Ob):Prop:=o.kd.ty=1/\o=VT o.kd q (clockOf o) (Qnh o)
theorem Qat(kd:Kd)(q)(c)(es):clockOf (VT kd q c es)=c:=by simp[clockOf,VT,kN,nth,FE]
theorem lI(q)(c)(es):clockOf (QK q c es)=c:=Qat _ _ _ _
theorem Qau(kd:Kd)(q)(c)(es):Qnh (VT kd q c es)=es:=by
 apply wY;intro i;simp only[Qnh,VT,kN,Nat.add_sub_cancel,Ks];by_cases h:i<es.length
 .simp[nth,FE,h]
 .rw[Ar (by simpa using h)];simp[h]
theorem lJ(q)(c)(es):Qnh (QK q c es)=es:=Qau _ _ _ _
theorem Qav(q)(c)(es):IsMap q (QK q c es)=True:=by
 refine eq_true ⟨rfl,?_⟩;exact(by rw[lI,lJ];rfl)
theorem lK(o:Ob):clockOf o.ro=clockOf o:=rfl
theorem Qaw(o:Ob):Qnh o.ro=Qnh o:=rfl
theorem Qlt(q)(o:Ob):IsMap q o.ro=IsMap q o:=by
 obtain⟨k,g,z,n,r⟩:=o;simp only[IsMap,lK,Qaw];simp only[Ob.ro,VT,Kd.toRo_ty,Ob.mk.injEq,vO]
theorem Qlu(q)(c)(es:List Zt):(QK q c es).kd=.map:=rfl
theorem Qlv(q)(c)(es:List Zt):(QK q c es).n=es.length+1:=rfl
theorem Qlw(q)(c)(es:List Zt):(QK q c es).gen=0:=rfl
theorem U9(o:Ob):o.ro.kd=o.kd.toRo:=rfl
theorem Qlx(o:Ob):o.ro.n=o.n:=rfl
theorem Qly(o:Ob):o.ro.gen=o.gen:=rfl
def IsMap.get{q}{o:Ob}(h:IsMap q o):∃kd c es,kd.ty=1/\o.kd=kd/\clockOf o=c/\Qnh o=es/\o=VT kd q c es:=⟨_,_,_,h.1,rfl,rfl,rfl,h.2⟩
def af:∀{es:List Zt} {k:Int} {v:D},ZL es k=some v->∃(j:Nat) (e:Zt),es[j]? = some e/\e.k=k/\e.v=v/\(∀(i:Nat) (e':Zt),i<j->es[i]? = some e'->e'.k≠k)/\(∀u,zR es k u=es.set j ⟨k,u,e.b⟩)/\JS es k=es.eraseIdx j
 | [],_,_,h=>by simp[ZL]at h
 | e::r,k,v,h=>by
  simp only[ZL]at h;by_cases hk:e.k=k
  .rw[Qd hk]at h;cases h;exact⟨0,e,rfl,hk,rfl,λi _ hi=>absurd hi (WZ i),λu=>by simp[zR,hk],by simp[JS,hk]⟩
  .rw[Qc hk]at h;obtain⟨j,e',h1,h2,h3,h4,h5,h6⟩:=af h;refine⟨j+1,e',by simpa using h1,h2,h3,λi x hi hx=>?_,λu=>by simp[zR,hk,h5 u],by simp[JS,hk,h6]⟩;cases i with
   | zero=>simp at hx;subst hx;exact hk
   | succ i=>exact h4 i x ω (by simpa using hx)
def PS:∀{es:List Zt} {k:Int},ZL es k=none->(∀e∈es,e.k≠k)/\(∀u,zR es k u=es)/\JS es k=es
 | [],_,_=>⟨σ,λ_=>rfl,rfl⟩
 | e::r,k,h=>by
  simp only[ZL]at h;by_cases hk:e.k=k
  .rw[Qd hk]at h;cases h
  .rw[Qc hk]at h;obtain⟨h1,h2,h3⟩:=PS h;exact⟨λx hx=>by
    rcases QD.1 hx with rfl|h
    .exact hk
    .exact h1 x h,λu=>by simp[zR,hk,h2 u],by simp[JS,hk,h3]⟩
def Qax:∀{es:List Zt} {k:Int} (v:D) (k':Int),ZL (zR es k v) k'=if k'=k then (ZL es k).map (λ_=>v) else ZL es k'
 | [],k,v,k'=>by simp[zR,ZL]
 | e::r,k,v,k'=>by
  by_cases h:e.k=k
  .simp only[zR,Qd h,ZL];by_cases h2:k=k'
   .simp[h2]
   .rw[Qc h2,Qc (λe=>h2 e.symm),Qc (by rw[h];exact h2)]
  .simp only[zR,Qc h,ZL];rw[Qax v k'];by_cases h2:k'=k
   .subst h2;simp[h]
   .simp[h2]
def Qay:∀(es es':List Zt) (k:Int),ZL (es++es') k=(ZL es k).or (ZL es' k)
 | [],_,_=>by simp[ZL]
 | e::r,es',k=>by
  by_cases h:e.k=k
  .simp[ZL,h]
  .simp[ZL,h,Qay r es' k]
def Qaz(q)(c)(es)(k)(v):∃c' es',JZ q c es k v=QK q c' es'/\∀k',ZL es' k'=if k'=k then some v else ZL es k':=by
 unfold JZ;cases h:ZL es k with
 | some d=>
  refine⟨c,zR es k v,rfl,λk'=>?_⟩;rw[Qax,h];rfl
 | none=>
  refine⟨c+1,es++[⟨k,v,c⟩],rfl,λk'=>?_⟩;rw[Qay];by_cases h2:k'=k
  .subst h2;simp[h,ZL]
  .rw[Qc h2];cases ZL es k'<;>simp[ZL,Q3 h2]
def XA(es:List Zt):Prop:=(es.map (·.k)).Nodup
structure jB (Z:Nat->Prop) (h:List Ob) (pl:List Pl) (w:World) (q:IntKind) (c:Nat) (es:List Zt) (QS:List MapEntry):Prop where
 len:es.length=QS.length
 at_:∀(i:Nat) (e:Zt) (a:MapEntry),es[i]? = some e->QS[i]? = some a->a.key=.int q e.k/\QC Z h pl w e.v a.val/\a.born=e.b/\a.born<c
 inc:∀(i j:Nat) (a a':MapEntry),i<j->QS[i]? = some a->QS[j]? = some a'->a.born<a'.born
def lL{Z}{h}{pl}{w:World}{q}{c}{es}{b}{QS:Array MapEntry}(hb:w.heap[b]? = some (.map QS c))(E:jB Z h pl w q c es QS.toList){kd:Kd}(JE:kd.ty=1):Ky Z h pl w (VT kd q c es) b 0:=by
 refine Ky.ofMap JE ⟨rfl,rfl,QS,c,hb,by have:=E.len;simp at this;simp[VT,this],λi _=>?_,.cl _ _ (.raw _),λi a ha=>?_,λi j a a' K7 h1 h2=>E.inc i j a a' K7 (by simpa using h1) (by simpa using h2)⟩
 .show (kN q c es i).length=3;cases i with
  | zero=>rfl
  | succ i=>simp only[kN];split<;>rfl
 .have Qb:=(Ws.1 ha).1;have hi:i<es.length:=by have:=E.len;simp at this;omega
  obtain⟨h1,h2,h3,h4⟩:=E.at_ i es[i] a (QP hi) (by simpa using ha);have e1:kN q c es (i+1)=[.raw (.int q es[i].k),es[i].v,.raw (.int .i64 es[i].b)]:=by simp[kN,hi]
  show _/\QC Z h pl w (nth (kN q c es (i+1)) 0) _/\QC Z h pl w (nth (kN q c es (i+1)) 1) _/\QC Z h pl w (nth (kN q c es (i+1)) 2) _;rw[e1];exact⟨h4,by rw[h1];exact .cl _ _ (.raw _),h2,by rw[h3];exact .cl _ _ (.raw _)⟩
def ag{Z}{h}{pl}{w:World}{q}{c}{es}{b p}{kd:Kd}(JE:kd.ty=1)(x:Ky Z h pl w (VT kd q c es) b p):p=0/\∃QS:Array MapEntry,w.heap[b]? = some (.map QS c)/\jB Z h pl w q c es QS.toList:=by
 obtain⟨h0,_,QS,clock,h1,h2,_,h4,h5,h6⟩:=x.map JE;have hc:clock=c:=by
  have:=Jn h4;simp at this;omega
 subst hc;have hl:es.length=QS.size:=by simpa[VT] using h2
 refine⟨h0,QS,h1,by simpa using hl,λi e a he ha=>?_,λi j a a' K7 g1 g2=>h6 i j a a' K7 (by simpa using g1) (by simpa using g2)⟩;obtain⟨k1,k2,k3,k4⟩:=h5 i a (by simpa using ha);have e1:(VT kd q clock es).row (i+1)=[.raw (.int q e.k),e.v,.raw (.int .i64 e.b)]:=by simp[VT,kN,he]
 rw[e1]at k2 k3 k4;have:=Jn k2;have h8:=Jn k4;refine⟨this,k3,?_,k1⟩;simp at h8;omega
def jB.keys{Z}{h}{pl}{w}{q}{c}{es}{QS}(E:jB Z h pl w q c es QS):Hy q QS:=λa ha=>by
 obtain⟨i,hi⟩:=Fk ha;have Qb:i<es.length:=by rw[E.len];exact(WC.1 hi).1
 exact⟨_,(E.at_ i es[i] a (QP Qb) hi).1⟩
def jB.Xh{Z}{h}{pl}{w}{q}{c}{es:List Zt}{QS:Array MapEntry}(E:jB Z h pl w q c es QS.toList){k}{j}{e:Zt}(he:es[j]? = some e)(hk:e.k=k)(hn:∀(i:Nat) (e':Zt),i<j->es[i]? = some e'->e'.k≠k):
  ∃a,QS[j]? = some a/\a.key=.int q k/\QC Z h pl w e.v a.val/\a.born=e.b/\a.born<c/\∀(i:Nat) (e':MapEntry),i<j->QS[i]? = some e'->e'.key≠.int q k:=by
 have Qb:j<QS.toList.length:=by rw[<- E.len];exact(WC.1 he).1
 obtain⟨h1,h2,h3,h4⟩:=E.at_ j e QS.toList[j] he (QP Qb);refine⟨QS.toList[j],σ,by rw[h1,hk],h2,h3,h4,λi a' K7 VI=>?_⟩;have hi:i<es.length:=by have:=(WC.1 he).1;omega
 obtain⟨g1,_⟩:=E.at_ i es[i] a' (QP hi) (by simpa using VI);rw[g1];intro hh;exact hn i _ K7 (QP hi) (by simpa using hh)
def jB.Dz{Z}{h}{pl}{w}{q}{c}{es}{QS}(E:jB Z h pl w q c es QS){k}(hn:∀e∈es,e.k≠k):∀a∈QS,a.key≠.int q k:=λa ha=>by
 obtain⟨i,hi⟩:=Fk ha;have Qb:i<es.length:=by rw[E.len];exact(WC.1 hi).1
 rw[(E.at_ i es[i] a (QP Qb) hi).1];intro hh;exact hn _ (YU Qb) (by simpa using hh)
def jB.tr{Z}{h h'}{pl Qi}{w w'}(T:Tr h pl w h' Qi w'){q}{c}{es}{QS}(E:jB Z h pl w q c es QS):jB Z h' Qi w' q c es QS:=
 ⟨E.len,λi e a h1 h2=>let ⟨g1,g2,g3⟩:=E.at_ i e a h1 h2;⟨g1,g2.tr T,g3⟩,E.inc⟩
section
variable {P:Program}{L:Z8}{base nt:Nat}{s:St}{o:Oper}{q:IntKind}{t kt et:TypeId}{x i:Operand}{l g n:Nat}{ob:Ob}{k:Int}
def ai{Z}{pl}{a}{w}(r:Rel Z base nt s pl a w){c}{es}{kd:Kd}(JE:kd.ty=1)(hx:Qo s.fr x=.mref l 0)(Zf:s.h[l]? = some (VT kd q c es)):
  ∃b QS,a.eval x=.map (some b)/\pl[l]? = some (some (b,0))/\(kd.ro=false->base<=b)/\w.heap[b]? = some (.map QS c)/\jB Z s.h pl w q c es QS.toList:=by
 have e1:=r.eval x;rw[hx]at e1;obtain⟨o',p,b,h1,h2,h3,h4,h5⟩:=Ft e1;rw[Zf]at h1;cases h1;have h5:=h5 rfl;rw[h5]at h2;obtain⟨Zp,xn⟩:=r.o.at_ l _ b 0 Zf h2;obtain⟨_,QS,hb,E⟩:=ag JE xn;have hv:=h3.2;have:(VT kd q c es).kd.ty=1:=JE;rw[this]at hv;exact⟨b,QS,hv,h2,Zp,hb,E⟩
def aj{Z}{pl:List Pl}{a}{w:World}(r:Rel Z base nt s pl a w){c}{es}(Zf:s.h[l]? = some (QK q c es)){b}(hp:pl[l]? = some (some (b,0)))(Zp:base<=b){QS}(hb:w.heap[b]? = some (.map QS c))
  {c':Nat} {es':List Zt} {ens':Array MapEntry} (E:∀Qi w',Tr s.h pl w (s.h.set l (QK q c' es')) Qi w'->jB Z (s.h.set l (QK q c' es')) Qi w' q c' es' ens'.toList) :
  ∃w',w'={ w with heap:=w.heap.setIfInBounds b (.map ens' c') }/\Tr s.h pl w (s.h.set l (QK q c' es')) pl w'/\Zi Z base (s.h.set l (QK q c' es')) pl w'/\Below base w w':=by
 have xo:=ju hb;generalize X9:({ w with heap:=w.heap.setIfInBounds b (.map ens' c') }:World)=w';have e:∀c,c≠b->w'.heap[c]? = w.heap[c]? := λc hc=>by rw[<- X9];simp[Q3 hc]
 have JY:w'.heap[b]? = some (.map ens' c'):=by rw[<- X9];simp[xo]
 have T:=Tr.HC (w':=w') r.o Zf hp e (o':=QK q c' es') rfl rfl rfl (by rw[hb];intro c el h;cases h);exact⟨w',rfl,T,Zi.HC (hro:=rfl) r.o Zf hp e T (lL JY (E pl w' T) rfl),Mn Zp e (by rw[<- X9];simp) (by rw[<- X9]) (by rw[<- X9]) (by rw[<- X9])⟩
def Qlz(hL:Z5 P L){yt yk ye:Ty}(ht:ty L t=some yt)(vS:yt.k=.map kt et)(kO:ty L kt=some yk)(jC:yk.k=.int q)(Wv:ty L et=some ye)
  {Z:Nat->Prop} {h:List Ob} {pl:List Pl} {w:World} {b c:Nat} {es:List Zt} {QS:Array MapEntry} (hb:w.heap[b]? = some (.map QS c)) (E:jB Z h pl w q c es QS.toList) (ok:Bool) :
  ∃v,QC Z h pl w (match ZL es k with|some d=>d|none=>BV ye) v/\∀w':World,w'.heap[b]? = w.heap[b]? ->
   (lookup t (.map (some b)) (.int q k) ok).run P w'=.ok (if ok then .tuple #[v,.bool (ZL es k).isSome] else v) w':=by
 have h3:=λw:World=>FD (P:=P) (w:=w) (k:=k) (BT (hL kt yk kO) jC) QS.isEmpty 9999;have hx:=Dn (hL t yt ht) vS;cases hf:ZL es k with
 | some d=>
  obtain⟨j,e,g1,g2,g3,g4,_⟩:=af hf;obtain⟨a,a1,a2,a3,a4,a5,a6⟩:=E.Xh g1 g2 g4;refine⟨a.val,by rw[<- g3];exact a3,λw' hw=>?_⟩;have h:=U8 (i0:=0) E.keys (by simpa using a1) a2 (λj e' hj VS=>a6 j e' hj (by simpa using VS));have h2:=Hz (P:=P) (w:=w') (BT (hL kt yk kO) jC) h;simp[lookup,underlying,hx,getObj,AK (hw.trans hb),h2,h3]
 | none=>
  obtain⟨g1,_⟩:=PS hf;obtain⟨z,hz,Cm⟩:=iH (hL et ye Wv) (N:=free Z pl) w;refine⟨z,.cl _ _ hz,λw' hw=>?_⟩;have h2:=Hz (P:=P) (w:=w') (BT (hL kt yk kO) jC) (U7 (i:=0) E.keys (E.Dz g1));simp[lookup,underlying,hx,getObj,AK (hw.trans hb),h2,h3,Cm w']
def QlA(hL:Z5 P L){yt yk ye:Ty}(ht:ty L t=some yt)(vS:yt.k=.map kt et)(kO:ty L kt=some yk)(jC:yk.k=.int q)(Wv:ty L et=some ye)
  {N:Nat->Prop} {w:World} (ok:Bool):∃v,Cl N w (BV ye) v/\∀w':World,(lookup t (.map none) (.int q k) ok).run P w'=.ok (if ok then .tuple #[v,.bool false] else v) w':=by
 obtain⟨z,hz,Cm⟩:=iH (hL et ye Wv) (N:=N) w;refine⟨z,hz,λw'=>?_⟩;have h3:=FD (P:=P) (w:=w') (k:=k) (BT (hL kt yk kO) jC) true 9999;have h2:=Hz (P:=P) (w:=w') (k:=k) (BT (hL kt yk kO) jC) (es:=[]) (r:=none) rfl;simp[lookup,underlying,Dn (hL t yt ht) vS,h2,h3,Cm w']
def ak(L:Z8)(h:List Ob)(t:TypeId)(x i:D)(ok:Bool):Ev:=match ty L t with
 | some ⟨.map kt et,_,_,_⟩=>match ty L kt,ty L et with
  | some ⟨.int q,_,_,_⟩,some ye=>match i with
   | .raw (.int q' k)=>match x with
    | .mref l g=>match h[l]? with
     | some o=>some (IsMap q o/\q'=q/\g=0,match ZL (Qnh o) k with
      | some d=>bif ok then .tup [d,.raw (.bool true)] else d
      | none=>bif ok then .tup [BV ye,.raw (.bool false)] else BV ye)
     | none=>none
    | .raw (.map none)=>some (q'=q,bif ok then .tup [BV ye,.raw (.bool false)] else BV ye)
    | _=>none
   | _=>none
  | _,_=>none
 | _=>none
def look_ok(hL:Z5 P L){ok}(ho:o.op=.lookup t x i ok){p}{d}(h:ak L s.h t (Qo s.fr x) (Qo s.fr i) ok=some (p,d))(hp:p):Wd P base nt o s d:=by
 intro Z pl a w r;unfold ak at h;split at h;case h_2=>cases h
 rename_i kt et m1 m2 m3 ht;split at h;case h_2=>cases h
 rename_i q n1 n2 n3 ye kO Wv;split at h;case h_2=>cases h
 rename_i q' k hi;have e2:=r.eval i;rw[hi]at e2;have e2:=Jn e2;split at h;case h_3=>cases h
 case h_2 hx=>
  simp only[QY,Q9]at h;obtain⟨rfl,rfl⟩:=h;subst hp;have e1:=r.eval x;rw[hx]at e1;have e1:=Jn e1;obtain⟨v,hv,Ze⟩:=QlA (k:=k) hL ht rfl kO rfl Wv (N:=free Z pl) (w:=w) ok;cases ok with
  | false=>exact⟨v,.cl _ _ hv,λw' hw=>by simp[execOp,ho,e1,e2,Ze w']⟩
  | true=>
   refine⟨.tuple #[v,.bool false],.tup _ [v,.bool false] rfl (λi hi=>match i,hi with
    | 0,_=>.cl _ _ hv
    | 1,_=>.cl _ _ (.raw _)),λw' hw=>by simp[execOp,ho,e1,e2,Ze w']⟩
 case h_1 l g hx=>
  split at h;case h_2=>cases h
  rename_i ob Zf;simp only[QY,Q9]at h;obtain⟨rfl,rfl⟩:=h;obtain⟨hm,rfl,rfl⟩:=hp;obtain⟨kd,c,es,JE,_,_,kP,hm⟩:=hm.get;rw[kP];subst hm;obtain⟨b,QS,e1,_,_,hb,E⟩:=ai r JE hx Zf;obtain⟨v,hv,Ze⟩:=Qlz (k:=k) hL ht rfl kO rfl Wv hb E ok;cases hf:ZL es k with
  | some d=>
   rw[hf]at hv Ze;cases ok with
   | false=>exact⟨v,hv,λw' hw=>by simp[execOp,ho,e1,e2,Ze w' (hw b (ju hb))]⟩
   | true=>
    refine⟨.tuple #[v,.bool true],.tup _ [v,.bool true] rfl (λi hi=>match i,hi with
     | 0,_=>hv
     | 1,_=>.cl _ _ (.raw _)),λw' hw=>by simp[execOp,ho,e1,e2,Ze w' (hw b (ju hb))]⟩
  | none=>
   rw[hf]at hv Ze;cases ok with
   | false=>exact⟨v,hv,λw' hw=>by simp[execOp,ho,e1,e2,Ze w' (hw b (ju hb))]⟩
   | true=>
    refine⟨.tuple #[v,.bool false],.tup _ [v,.bool false] rfl (λi hi=>match i,hi with
     | 0,_=>hv
     | 1,_=>.cl _ _ (.raw _)),λw' hw=>by simp[execOp,ho,e1,e2,Ze w' (hw b (ju hb))]⟩
def an(L:Z8)(h:List Ob)(t:TypeId)(x:D):Ev:=match ty L t with
 | some ⟨.map _ _,_,_,_⟩=>match x with
  | .mref l g=>match h[l]? with
   | some o=>some (o.kd.ty=1/\g=o.gen,.raw (.int .i64 ((o.n - 1:Nat):Int)))
   | none=>none
  | .raw (.map none)=>some (True,.raw (.int .i64 0))
  | _=>none
 | _=>none
def QlB(hL:Z5 P L){Zl:Array TypeId}(ho:o.op=.call ⟨.builtin .len,#[x],Zl⟩)(HE:Zl=#[t]){p}{d}(h:an L s.h t (Qo s.fr x)=some (p,d))(hp:p):Wd P base nt o s d:=by
 subst HE;intro Z pl a w r;unfold an at h;split at h;case h_2=>cases h
 rename_i kt et m1 m2 m3 ht;have hu:=Dn (hL t _ ht) rfl;have e1:=r.eval x;split at h;case h_3=>cases h
 case h_2 hx=>
  simp only[QY,Q9]at h;obtain⟨rfl,rfl⟩:=h;rw[hx]at e1;have e1:=Jn e1;refine⟨.int .i64 0,.cl _ _ (.raw _),λw' hw=>?_⟩;rw[jv ho];simp[e1,builtin,Builtin.len_,underlying,hu,goInt]
 case h_1 l g hx=>
  split at h;case h_2=>cases h
  rename_i ob Zf;simp only[QY,Q9]at h;obtain⟨rfl,rfl⟩:=h;obtain⟨hk,rfl⟩:=hp;rw[hx]at e1;obtain⟨o',p,b,h1,h2,h3,h4,h5⟩:=Ft e1;rw[Zf]at h1;cases h1;have h5:=h5 rfl;rw[h5]at h2;obtain⟨Zp,xn⟩:=r.o.at_ l _ b 0 Zf h2;obtain⟨_,_,QS,clock,hb,h6,_⟩:=xn.map hk;have hv:=h3.2;rw[hk]at hv;refine⟨.int .i64 ((ob.n - 1:Nat):Int),.cl _ _ (.raw _),λw' hw=>?_⟩;rw[jv ho];have WN:w'.heap[b]? = some (.map QS clock):=by rw[hw b (ju hb)];exact hb
  simp[hv,PB,builtin,Builtin.len_,underlying,hu,getObj,AK WN,h6,goInt]
def Mu(L:Z8)(h:List Ob)(t:TypeId):Option (Prop × List Ob × D):=match ty L t with
 | some ⟨.map kt _,_,_,_⟩=>match ty L kt with
  | some ⟨.int q,_,_,_⟩=>some (True,h++[QK q 0 []],.mref h.length 0)
  | _=>some (True,h++[QK .i64 0 []],.mref h.length 0)
 | _=>none
def QaA(hL:Z5 P L){rz}(hr:rz=none\/∃k n,rz=some (.const (.int k n))/\0<=n)(ho:o.op=.makeMap t rz){p}{h'}{d}(h:Mu L s.h t=some (p,h',d)):zO P base nt o s h' d:=by
 have hm:∃q,p=True/\h'=s.h++[QK q 0 []]/\d=.mref s.h.length 0/\∃kt vt a b c,ty L t=some ⟨.map kt vt,a,b,c⟩:=by
  unfold Mu at h;split at h;case h_2=>cases h
  rename_i kt vt _ _ _ ht;split at h;all_goals
   simp only[QY,Q9]at h;obtain⟨rfl,rfl,rfl⟩:=h;exact⟨_,rfl,rfl,rfl,_,_,_,_,_,ht⟩
 obtain⟨q,rfl,rfl,rfl,kt,vt,_,_,_,ht⟩:=hm;intro Z pl a w r KL;have e:∀b,b<w.heap.size->(w.alloc (.map #[] 0)).heap[b]? = w.heap[b]? := λb hb=>vP w _ b hb;have JY:(w.alloc (.map #[] 0)).heap[w.heap.size]? = some (.map #[] 0):=heap_alloc_new w _;have T:Tr s.h pl w (s.h++[QK q 0 []]) (pl++[some (w.heap.size,0)]) (w.alloc (.map #[] 0)):=Tr.push r.o e _ _ (by intro b q h;simp at h;omega);have Zh:pl.length=s.h.length:=r.o.len;refine⟨.map (some w.heap.size),w.alloc (.map #[] 0),pl++[some (w.heap.size,0)],.inl ?_,T,?_,?_,Dt KL _,λ_=>e⟩
 .rcases hr with rfl|⟨k,n,rfl,hn⟩
  .simp[execOp,ho,makeMap]
  .simp[execOp,ho,makeMap,Act.eval,underlying,Dn (hL t _ ht) rfl,asInt,asIntOf]
 .exact Zi.PD r.o e _ (QB _) KL (lL (kd:=.map) JY ⟨rfl,λi e a h=>by simp at h,λi j a a' _ h=>by simp at h⟩ rfl)
 .exact .mref _ _ (QK q 0 []) (some (w.heap.size,0)) w.heap.size σ (by rw[<- Zh];simp) ⟨by simp[QK,VT,Kd.ty],rfl⟩ (QB _) (λ_=>rfl)
def FF(L:Z8)(h:List Ob)(t:TypeId)(x i v:D):Option (Prop × List Ob):=match ty L t with
 | some ⟨.map kt _,_,_,_⟩=>match ty L kt with
  | some ⟨.int q,_,_,_⟩=>match x,i with
   | .mref l g,.raw (.int q' k)=>match h[l]? with
    | some o=>some (IsMap q o/\q'=q/\g=0/\o.kd.ro=false,h.set l (JZ q (clockOf o) (Qnh o) k v))
    | none=>none
   | _,_=>none
  | _=>none
 | _=>none
def QaB{w:World}{b}{es}{c}(hb:w.heap[b]? = some (.map es c))(o:Obj):zM w { w with heap:=w.heap.setIfInBounds b o }:=λa v h=>by
 by_cases e:a.block=b
 .simp[World.cell?,e,hb]at h
 .rw[World.cell?_of_block (w:=w)]
  .exact h
  .simp[Q3 e]
def QaC(hL:Z5 P L){v}(ho:o.op=.mapUpdate t x i v){p}{h'}(h:FF L s.h t (Qo s.fr x) (Qo s.fr i) (Qo s.fr v)=some (p,h'))(hp:p):∀(Z:Nat->Prop) pl a w,Rel Z base nt s pl a w->base<=w.heap.size->∃v w' Qi,((execOp a.eval o).run P w=.ok (.value v) w'\/((execOp a.eval o).run P w=.ok .skip w'/\v=Go.undef))/\Tr s.h pl w h' Qi w'/\Zi Z base h' Qi w'/\QC Z h' Qi w' .undef v/\Below base w w'/\zM w w':=by
 unfold FF at h;split at h;case h_2=>cases h
 split at h;case h_2=>cases h
 rename_i kt et _ _ _ ht _ q _ _ _ kO;split at h;case h_2=>cases h
 rename_i l g q' k hx hi;split at h;case h_2=>cases h
 rename_i ob Zf;simp only[QY,Q9]at h;obtain⟨rfl,rfl⟩:=h;obtain⟨hm,rfl,rfl,hro⟩:=hp;obtain⟨kd,c,es,JE,hk0,JF,kP,hm⟩:=hm.get;rw[kP,JF];have Qj:kd=.map:=by rw[hk0]at hro;cases kd<;>first|rfl|(exfalso;revert JE;decide)|(exfalso;revert hro;decide)
 subst Qj;rw[show VT .map q' c es=QK q' c es from rfl]at hm;subst hm;intro Z pl a w r KL;have e2:=r.eval i;rw[hi]at e2;have e2:=Jn e2;have e3:=r.eval v;obtain⟨b,QS,e1,h2,Zp,hb,E⟩:=ai (kd:=.map) r rfl hx Zf;have Zp:=Zp rfl;have FG:=Dn (hL t _ ht) rfl;have ZJ:=BT (hL kt _ kO) rfl;cases hf:ZL es k with
 | some d=>
  obtain⟨j,e,g1,g2,g3,g4,g5,_⟩:=af hf;obtain⟨a1,b1,b2,b3,b4,b5,b6⟩:=E.Xh g1 g2 g4;have Ze:=Qlo (P:=P) (w:=w) (k:=k) FG ZJ hb E.keys b1 b2 b6 (a.eval v);have hm:JZ q' c es k (Qo s.fr v)=QK q' c (es.set j ⟨k,Qo s.fr v,e.b⟩):=by simp only[JZ,hf];rw[g5]
  rw[hm];obtain⟨w',rfl,T,O,B⟩:=aj r Zf h2 Zp hb (c':=c) (es':=es.set j ⟨k,Qo s.fr v,e.b⟩) (ens':=QS.modify j λe=>{ e with key:=.int q' k,val:=a.eval v }) (λQi w' T=>by
   have E':=E.tr T;have XB:∀(i':Nat) (x:MapEntry),(QS.modify j λe=>{ e with key:=.int q' k,val:=a.eval v }).toList[i']? = some x->∃y,QS.toList[i']? = some y/\x.born=y.born/\(i'≠j->x=y)/\(i'=j->x.key=.int q' k/\x.val=a.eval v):=λi' x hx=>by
    have hx:(QS.modify j λe=>{ e with key:=.int q' k,val:=a.eval v })[i']? = some x:=by rw[<- kB];exact hx
    rw[ie]at hx;split at hx
    .rename_i K7;subst K7;rw[b1]at hx;simp at hx;subst hx;exact⟨a1,by simpa using b1,rfl,λh=>absurd rfl h,λ_=>⟨rfl,rfl⟩⟩
    .rename_i K7;exact⟨x,by simpa using hx,rfl,λ_=>rfl,λh=>absurd h.symm K7⟩
   refine⟨by have:=E.len;simp at this ⊢;exact this,λi' e' a' WS VI=>?_,λi1 i2 x y FH hx hy=>?_⟩
   .obtain⟨y,y1,y2,y3,y4⟩:=XB i' a' VI;by_cases K7:i'=j
    .subst K7;have Qb:=(WC.1 g1).1;rw[Wt Qb]at WS;cases WS;obtain⟨d1,d2⟩:=y4 rfl;have:y=a1:=by have aq:QS.toList[i']? = some a1:=(by simpa using b1);rw [y1] at aq; simpa using aq
     subst this;exact⟨d1,by rw[d2];exact e3.tr T,by rw[y2,b4],by rw[y2];exact b5⟩
    .rw[Jw (Q3 K7)]at WS;rw[y3 K7];exact E'.at_ i' e' y WS y1
   .obtain⟨x',xp,J5,_⟩:=XB i1 x hx;obtain⟨y',Ax,ZB,_⟩:=XB i2 y hy;rw[J5,ZB];exact E.inc i1 i2 x' y' FH xp Ax)
  exact⟨Go.undef,_,pl,.inr ⟨by simp[execOp,ho,e1,e2,Ze],rfl⟩,T,O,.cl _ _ (.undef _),B,QaB hb _⟩
 | none=>
  obtain⟨g1,_⟩:=PS hf;have Ze:=Qlp (P:=P) (w:=w) (k:=k) FG ZJ hb E.keys (E.Dz g1) (a.eval v);have hm:JZ q' c es k (Qo s.fr v)=QK q' (c+1) (es++[⟨k,Qo s.fr v,c⟩]):=by simp only[JZ,hf]
  rw[hm];obtain⟨w',rfl,T,O,B⟩:=aj r Zf h2 Zp hb (c':=c+1) (es':=es++[⟨k,Qo s.fr v,c⟩]) (ens':=QS.push { key:=.int q' k,val:=a.eval v,born:=c }) (λQi w' T=>by
   have E':=E.tr T;have hl:es.length=QS.size:=by have:=E.len;simpa using this
   refine⟨by simp[hl],λi' e' a' WS VI=>?_,λi1 i2 x y FH hx hy=>?_⟩
   .have VI:(QS.push { key:=.int q' k,val:=a.eval v,born:=c })[i']? = some a':=by rw[<- kB];exact VI
    rw[Ui]at VI;rcases XM WS with h1|⟨h1,Ji⟩
    .have:=(WC.1 h1).1;rw[Qc ω]at VI;obtain⟨k1,k2,k3,k4⟩:=E'.at_ i' e' a' h1 (by simpa using VI);exact⟨k1,k2,k3,ω⟩
    .subst Ji;rw[Qd ω]at VI;cases VI;exact⟨rfl,e3.tr T,rfl,σ⟩
   .have hx:(QS.push { key:=.int q' k,val:=a.eval v,born:=c })[i1]? = some x:=by rw[<- kB];exact hx
    have hy:(QS.push { key:=.int q' k,val:=a.eval v,born:=c })[i2]? = some y:=by rw[<- kB];exact hy
    rw[Ui]at hx hy;have J3:∀(i:Nat) (z:MapEntry),QS[i]? = some z->z.born<c:=λi z hz=>by
     have Qb:=(Ws.1 hz).1;exact(E.at_ i (es[i]'ω) z (QP ω) (by simpa using hz)).2.2.2
    split at hx
    .split at hy
     .omega
     .have:=(Ws.1 hy).1;omega
    .split at hy
     .cases hy;exact J3 i1 x hx
     .exact E.inc i1 i2 x y FH (by simpa using hx) (by simpa using hy))
  exact⟨Go.undef,_,pl,.inr ⟨by simp[execOp,ho,e1,e2,Ze],rfl⟩,T,O,.cl _ _ (.undef _),B,QaB hb _⟩
def QlC(hL:Z5 P L){v}(ho:o.op=.mapUpdate t x i v){p}{h'}(h:FF L s.h t (Qo s.fr x) (Qo s.fr i) (Qo s.fr v)=some (p,h'))(hp:p):zO P base nt o s h' .undef:=λZ pl a w r hb=>by
 obtain⟨v,w',Qi,h1,h2,h3,h4,h5,_⟩:=QaC hL ho h hp Z pl a w r hb;exact⟨v,w',Qi,h1,h2,h3,h4,h5,λhc=>by simp[calm,ho]at hc⟩
def ar(L:Z8)(h:List Ob)(t:TypeId)(x i:D):Option (Prop × List Ob):=match ty L t with
 | some ⟨.map kt _,_,_,_⟩=>match ty L kt with
  | some ⟨.int q,_,_,_⟩=>match i with
   | .raw (.int q' k)=>match x with
    | .mref l g=>match h[l]? with
     | some o=>some (IsMap q o/\q'=q/\g=0/\o.kd.ro=false,h.set l (QK q (clockOf o) (JS (Qnh o) k)))
     | none=>none
    | .raw (.map none)=>some (q'=q,h)
    | _=>none
   | _=>none
  | _=>none
 | _=>none
def QlD(hL:Z5 P L){tk:TypeId}(ho:o.op=.call ⟨.builtin .delete,#[x,i],#[t,tk]⟩){p}{h'}(h:ar L s.h t (Qo s.fr x) (Qo s.fr i)=some (p,h'))(hp:p):zO P base nt o s h' (.tup []):=by
 unfold ar at h;split at h;case h_2=>cases h
 split at h;case h_2=>cases h
 rename_i kt et _ _ _ ht _ q _ _ _ kO;have FG:=Dn (hL t _ ht) rfl;have ZJ:=BT (hL kt _ kO) rfl;split at h;case h_2=>cases h
 rename_i q' k hi;split at h;case h_3=>cases h
 case h_2 hx=>
  simp only[QY,Q9]at h;obtain⟨rfl,rfl⟩:=h;subst hp;intro Z pl a w r KL;have e2:=r.eval i;rw[hi]at e2;have e2:=Jn e2;have e1:=r.eval x;rw[hx]at e1;have e1:=Jn e1;have h3:=FD (P:=P) (w:=w) (k:=k) ZJ true 9999;refine⟨.tuple #[],w,pl,.inl ?_,Tr.refl _ _ _,r.o,.tup [] [] rfl (λi hi=>absurd hi (WZ i)),Below.refl _ _,λ_=>Ext.refl w⟩;rw[jv ho];simp[e1,e2,builtin,Builtin.delete_,underlying,FG,h3]
 case h_1 l g hx=>
  split at h;case h_2=>cases h
  rename_i ob Zf;simp only[QY,Q9]at h;obtain⟨rfl,rfl⟩:=h;obtain⟨hm,rfl,rfl,hro⟩:=hp;obtain⟨kd,c,es,JE,hk0,JF,kP,hm⟩:=hm.get;rw[kP,JF];have Qj:kd=.map:=by rw[hk0]at hro;cases kd<;>first|rfl|(exfalso;revert JE;decide)|(exfalso;revert hro;decide)
  subst Qj;rw[show VT .map q' c es=QK q' c es from rfl]at hm;subst hm;intro Z pl a w r KL;have e2:=r.eval i;rw[hi]at e2;have e2:=Jn e2;obtain⟨b,QS,e1,h2,Zp,hb,E⟩:=ai (kd:=.map) r rfl hx Zf;have Zp:=Zp rfl;cases hf:ZL es k with
  | some d=>
   obtain⟨j,e,g1,g2,g3,g4,g5,g6⟩:=af hf;obtain⟨a1,b1,b2,b3,b4,b5,b6⟩:=E.Xh g1 g2 g4;have Ze:=Qlq (P:=P) (w:=w) (k:=k) (ty:=o.type) (kt2:=tk) FG ZJ hb E.keys b1 b2 b6;rw[g6];have hjs:j<QS.size:=(Ws.1 b1).1;obtain⟨w',rfl,T,O,B⟩:=aj r Zf h2 Zp hb (c':=c) (es':=es.eraseIdx j) (ens':=QS.eraseIdxIfInBounds j) (λQi w' T=>by
    have E':=E.tr T;have hl:es.length=QS.size:=by have:=E.len;simpa using this
    have hto:(QS.eraseIdxIfInBounds j).toList=QS.toList.eraseIdx j:=by simp[Array.eraseIdxIfInBounds,hjs,Array.toList_eraseIdx]
    rw[hto];refine⟨by simp[List.length_eraseIdx,hl],λi' e' a' WS VI=>?_,λi1 i2 x y FH hx hy=>?_⟩
    .rw[List.getElem?_eraseIdx]at WS VI;split at WS
     .rw[Qd ‹_›]at VI;exact E'.at_ _ _ _ WS VI
     .rw[Qc ‹_›]at VI;exact E'.at_ _ _ _ WS VI
    .rw[List.getElem?_eraseIdx]at hx hy;split at hx<;>split at hy<;>exact E.inc _ _ x y ω hx hy)
   refine⟨.tuple #[],_,pl,.inl ?_,T,O,.tup [] [] rfl (λi hi=>absurd hi (WZ i)),B,λhc=>by simp[calm,ho]at hc⟩;rw[jv ho];simp[e1,e2,builtin,Ze]
  | none=>
   obtain⟨g1,_,g6⟩:=PS hf;have Ze:=Qlr (P:=P) (w:=w) (k:=k) (ty:=o.type) (kt2:=tk) FG ZJ hb E.keys (E.Dz g1);rw[g6];obtain⟨w',rfl,T,O,B⟩:=aj r Zf h2 Zp hb (c':=c) (es':=es) (ens':=QS) (λQi w' T=>E.tr T);refine⟨.tuple #[],_,pl,.inl ?_,T,O,.tup [] [] rfl (λi hi=>absurd hi (WZ i)),B,λhc=>by simp[calm,ho]at hc⟩;rw[jv ho];simp[e1,e2,builtin,Ze]
def FI(l c c':Nat)(seen:List Nat):Nat->List D
 | 0=>[.mref l 0]
 | 1=>[.raw (.int .i64 c)]
 | 2=>[.raw (.int .i64 c')]
 | r+3=>match seen[r]? with
  | some b=>[.raw (.int .i64 b)]
  | none=>[.undef]
def XQ(l c c':Nat)(seen:List Nat):Ob:=⟨.iter,0,1,seen.length+3,FI l c c' seen⟩
def au(L:Z8)(h:List Ob)(t:TypeId)(x:D):Option (Prop × List Ob × D):=match ty L t with
 | some ⟨.map _ _,_,_,_⟩=>match x with
  | .mref l g=>match h[l]? with
   | some o=>some (IsMap .i64 o/\g=0,h++[XQ l (clockOf o) (clockOf o) []],.mref h.length 0)
   | none=>none
  | _=>none
 | _=>none
def QaD{Z}{h}{pl}{w:World}{l c c'}{seen}{b m}{sn:Array Nat}(hb:w.heap[b]? = some (.mapIter (some m) c sn c'))(hs:sn.toList=seen)(hm:QC Z h pl w (.mref l 0) (.map (some m))):Ky Z h pl w (XQ l c c' seen) b 0:=by
 subst hs;refine Ky.uX rfl ⟨rfl,rfl,m,c,c',sn,hb,by simp[XQ],λi _=>?_,hm,.cl _ _ (.raw _),.cl _ _ (.raw _),λi s hs=>?_⟩
 .show (FI l c c' sn.toList i).length=1;unfold FI;split<;>(try split)<;>rfl
 .have hs:sn.toList[i]? = some s:=by simpa using hs
  show QC Z h pl w (nth (FI l c c' sn.toList (i+3)) 0) _;have:FI l c c' sn.toList (i+3)=[.raw (.int .i64 s)]:=by simp only[FI,hs]
  rw[this];exact .cl _ _ (.raw _)
def QaE{Z}{h}{pl}{w:World}{l c c'}{seen}{b p}(x:Ky Z h pl w (XQ l c c' seen) b p):p=0/\∃(m:Nat) (sn:Array Nat),w.heap[b]? = some (.mapIter (some m) c sn c')/\sn.toList=seen/\QC Z h pl w (.mref l 0) (.map (some m)):=by
 obtain⟨h0,_,m,since,last,sn,h1,h2,_,h4,h5,h6,h7⟩:=x.iter rfl;have e1:since=c:=by have:=Jn h5;simp at this;omega
 have e2:last=c':=by have:=Jn h6;simp at this;omega
 subst e1;subst e2;refine⟨h0,m,sn,h1,?_,h4⟩;have hl:seen.length=sn.size:=by simpa[XQ] using h2
 apply wY;intro i;by_cases hi:i<sn.size
 .have h8:=h7 i sn[i] (zJ hi);have e3:(XQ l since last seen).row (i+3)=[.raw (.int .i64 (seen[i]'ω))]:=by
   show FI l since last seen (i+3)=_;simp only[FI,QP (show i<seen.length from ω)]
  rw[e3]at h8;have:=Jn h8;simp at this;rw[QP (show i<sn.toList.length by simpa using hi),QP (show i<seen.length from ω)];simp only[Array.getElem_toList,QY];omega
 .rw[Ar ξ,Ar ω]
def QlG(hL:Z5 P L)(ho:o.op=.range t x){p}{h'}{d}(h:au L s.h t (Qo s.fr x)=some (p,h',d))(hp:p):zO P base nt o s h' d:=by
 unfold au at h;split at h;case h_2=>cases h
 rename_i kt et _ _ _ ht;split at h;case h_2=>cases h
 rename_i l g hx;split at h;case h_2=>cases h
 rename_i ob Zf;simp only[QY,Q9]at h;obtain⟨rfl,rfl,rfl⟩:=h;obtain⟨hm,rfl⟩:=hp;obtain⟨kd,c,es,JE,_,JF,_,hm⟩:=hm.get;rw[JF];subst hm;intro Z pl a w r KL;obtain⟨b,QS,e1,h2,_,hb,E⟩:=ai r JE hx Zf;have Ze:=Qls (P:=P) (w:=w) (Dn (hL t _ ht) rfl) hb;have e:∀b',b'<w.heap.size->(w.alloc (.mapIter (some b) c #[] c)).heap[b']? = w.heap[b']? := λb' hb=>vP w _ b' hb;have JY:(w.alloc (.mapIter (some b) c #[] c)).heap[w.heap.size]? = some (.mapIter (some b) c #[] c):=heap_alloc_new w _;have T:Tr s.h pl w (s.h++[XQ l c c []]) (pl++[some (w.heap.size,0)]) (w.alloc (.mapIter (some b) c #[] c)):=Tr.push r.o e _ _ (by intro b q h;simp at h;omega);have Zh:pl.length=s.h.length:=r.o.len;have hv:=r.eval x;rw[hx,e1]at hv;refine⟨.pointer (some ⟨w.heap.size,0,none⟩),w.alloc (.mapIter (some b) c #[] c),pl++[some (w.heap.size,0)],.inl ?_,T,?_,?_,Dt KL _,λ_=>e⟩
 .simp[execOp,ho,e1,Ze]
 .exact Zi.PD r.o e _ (QB _) KL (QaD JY rfl (hv.tr T))
 .exact .mref _ _ (XQ l c c []) (some (w.heap.size,0)) w.heap.size σ (by rw[<- Zh];simp) ⟨by simp[XQ,Kd.ty],rfl⟩ (QB _) (λ_=>rfl)
def QlH(ho:o.op=.next x false){Z}{pl}{a}{w:World}(r:Rel Z base nt s pl a w)(KL:base<=w.heap.size){li c}{es}{seen}(hx:Qo s.fr x=.mref li 0)(Xh:s.h[li]? = some (XQ l c c seen)){kd:Kd}(JE:kd.ty=1)(Zf:s.h[l]? = some (VT kd q c es)):
  ((∀e∈es,e.b∈seen)/\(execOp a.eval o).run P w=.ok (.value (.tuple #[.bool false])) w) \/
  ∃e∈es,e.b ∉ seen/\∃v w',(execOp a.eval o).run P w=.ok (.value v) w'/\Tr s.h pl w (s.h.set li (XQ l c c (seen++[e.b]))) pl w'/\Zi Z base (s.h.set li (XQ l c c (seen++[e.b]))) pl w' /\
   QC Z (s.h.set li (XQ l c c (seen++[e.b]))) pl w' (.tup [.raw (.bool true),.raw (.int q e.k),e.v]) v/\Below base w w':=by
 have e1:=r.eval x;rw[hx]at e1;obtain⟨o',p,b,h1,h2,h3,h4,h5⟩:=Ft e1;rw[Xh]at h1;cases h1;have h5:=h5 rfl;rw[h5]at h2;obtain⟨Zp,xn⟩:=r.o.at_ li _ b 0 Xh h2;obtain⟨_,m,sn,hb,AL,PT⟩:=QaE xn;have hv:a.eval x=.pointer (some ⟨b,0,none⟩):=h3.2;obtain⟨o2,p2,bm,k1,k2,k3,k4,k5⟩:=Ft PT;rw[Zf]at k1;cases k1;have k5:=k5 rfl;rw[k5]at k2;have k3:=k3.2;rw[show (VT kd q c es).kd.ty=1 from JE]at k3;have k3:m=bm:=by simpa[PB] using k3
 subst k3;obtain⟨PU,lM⟩:=r.o.at_ l _ m 0 Zf k2;obtain⟨_,QS,Mv,E⟩:=ag JE lM;have hl:es.length=QS.toList.length:=E.len;have hold:∀y∈QS.toList,y.born<c:=λy hy=>by
  obtain⟨j,hj⟩:=Fk hy;have Qb:=(WC.1 hj).1;exact(E.at_ j (es[j]'ω) y (QP ω) hj).2.2.2
 rcases run_next_at (P:=P) w o.type b m c c sn QS c hb Mv hold (QB _) with ⟨g1,g2⟩|⟨y,g1,w1,g2,g3⟩
 .refine .inl ⟨λe he=>?_,by simp[execOp,ho,hv,g2]⟩;obtain⟨j,hj⟩:=Fk he;have Qb:=(WC.1 hj).1;obtain⟨_,_,e3,_⟩:=E.at_ j e (QS.toList[j]'ω) hj (QP ω);have lN:∀z∈QS.toList,sn.contains z.born=true:=λz hz=>by
   have:leftOf QS sn=#[]:=Array.eq_empty_of_size_eq_zero g1;unfold leftOf at this;rw[Array.filter_eq_empty_iff]at this;have:=this z (by simpa using hz);simpa using this
  have:=lN _ (YU (show j<QS.toList.length from ω));rw[e3]at this;rw[<- AL];simpa using this
 .obtain⟨j,hj⟩:=Fk (show y∈QS.toList by unfold leftOf at g1;simp at g1;simpa using g1.1);have Qb:=(WC.1 hj).1;obtain⟨d1,d2,d3,d4⟩:=E.at_ j (es[j]'ω) y (QP ω) hj;have FJ:y.born ∉ sn.toList:=by unfold leftOf at g1;simp at g1;simpa using g1.2
  refine .inr ⟨es[j]'ω,YU _,by rw[<- d3,<- AL];exact FJ,?_⟩;rw[<- d3];have hh:w1.heap=w.heap:=by rcases g2 with rfl|rfl<;>rfl
  generalize X9:ChangeMaps.setBlock w1 b (.mapIter (some m) c (sn.push y.born) c)=w' at g3;have xo:=ju hb;have lO:w'.heap=w.heap.setIfInBounds b (.mapIter (some m) c (sn.push y.born) c):=by rw[<- X9,<- hh];rfl
  have e:∀k,k≠b->w'.heap[k]? = w.heap[k]? := λk hk=>by rw[lO];simp[Q3 hk]
  have JY:w'.heap[b]? = some (.mapIter (some m) c (sn.push y.born) c):=by rw[lO];simp[xo]
  have T:=Tr.HC (w':=w') r.o Xh h2 e (o':=XQ l c c (seen++[y.born])) rfl rfl rfl (by rw[hb];intro c el h;cases h);refine⟨_,w',by simp only[execOp,ho,hv,Sem.run_bind,g3,Result.andThen_ok];rfl,T,Zi.HC (hro:=rfl) r.o Xh h2 e T (QaD JY (by rw[Array.toList_push,AL]) (PT.tr T)),?_,?_⟩
  .rw[d1];exact .tup _ [.bool true,.int q (es[j]'ω).k,y.val] rfl λi hi=>match i,hi with
    | 0,_=>.cl _ _ (.raw _)
    | 1,_=>.cl _ _ (.raw _)
    | 2,_=>d2.tr T
  .have B:Below base w w1:=by
    rcases g2 with rfl|rfl
    .exact .refl _ _
    .exact(Below.refl _ _).drew
   refine B.trans (Mn (Zp rfl) (λk hk=>by rw[hh];exact e k hk) (by rw[lO,hh];simp) (by rw[<- X9];rfl) (by rw[<- X9];rfl) (by rw[<- X9];rfl))
end
def Ww(k:List Int):Value:=.agg (k.map (Value.int .u16)).toArray
structure Xi where
 k:List Int
 v:D
 b:Nat
def ZG(c:Nat)(es:List Xi):Nat->List D
 | 0=>[.raw (.int .i64 c),.undef,.undef]
 | r+1=>match es[r]? with
  | some e=>[.raw (Ww e.k),e.v,.raw (.int .i64 e.b)]
  | none=>[.undef,.undef,.undef]
def jD(kd:Kd)(c:Nat)(es:List Xi):Ob:=⟨kd,0,3,es.length+1,ZG c es⟩
def kQ(c:Nat)(es:List Xi):Ob:=jD .map c es
def WT:List Xi->List Int->Option D
 | [],_=>none
 | e::r,k=>if e.k=k then some e.v else WT r k
def QlI:Value->Int
 | .int _ n=>n
 | _=>0
def lP:D->List Int
 | .raw (.agg a)=>a.toList.map QlI
 | _=>[]
def yx(o:Ob):List Xi:=(List.range (o.n - 1)).map λi=>⟨lP (nth (o.row (i+1)) 0),nth (o.row (i+1)) 1,(FE (nth (o.row (i+1)) 2)).toNat⟩
def Mw(o:Ob):Prop:=o.kd.ty=1/\o=jD o.kd (clockOf o) (yx o)/\∀e∈yx o,e.k.length=4
def QlJ(k):lP (.raw (Ww k))=k:=by
 simp only[lP,Ww,Fl]
 conv=>rhs;rw[<- List.map_id k]
 exact Pg λn _=>rfl
theorem QaF(kd:Kd)(c)(es:List Xi):clockOf (jD kd c es)=c:=by simp[clockOf,jD,ZG,nth,FE]
theorem QaG(kd:Kd)(c)(es:List Xi):yx (jD kd c es)=es:=by
 apply wY;intro i;simp only[yx,jD,ZG,Nat.add_sub_cancel,Ks];by_cases h:i<es.length
 .simp[nth,FE,h,QlJ]
 .rw[Ar (by simpa using h)];simp[h]
theorem QaH(c)(es:List Xi):clockOf (kQ c es)=c:=QaF _ _ _
theorem aw(c)(es:List Xi):yx (kQ c es)=es:=QaG _ _ _
theorem QlK(c)(es:List Xi):Mw (kQ c es)=∀e∈es,e.k.length=4:=by
 refine propext ⟨λh=>by have:=h.2.2;rwa [aw]at this,λh=>⟨rfl,?_,by rwa [aw]⟩⟩;rw[QaH,aw];rfl
theorem QaI(o:Ob):yx o.ro=yx o:=rfl
theorem QlL(o:Ob):Mw o.ro=Mw o:=by
 obtain⟨k,g,z,n,r⟩:=o;simp only[Mw,lK,QaI];simp only[Ob.ro,jD,Kd.toRo_ty,Ob.mk.injEq,vO]
theorem QlM(c)(es:List Xi):(kQ c es).kd=.map:=rfl
def QaJ(q):QK q 0 []=kQ 0 []:=by
 have:kN q 0 []=ZG 0 []:=by
  funext r;cases r<;>rfl
 unfold QK VT kQ jD;rw[this];rfl
def QaK:∀{es:List Xi} {k:List Int} {v:D},WT es k=some v->∃(j:Nat) (e:Xi),es[j]? = some e/\e.k=k/\e.v=v/\∀(i:Nat) (e':Xi),i<j->es[i]? = some e'->e'.k≠k
 | [],_,_,h=>by simp[WT]at h
 | e::r,k,v,h=>by
  simp only[WT]at h;by_cases hk:e.k=k
  .rw[Qd hk]at h;cases h;exact⟨0,e,rfl,hk,rfl,λi _ hi=>absurd hi (WZ i)⟩
  .rw[Qc hk]at h;obtain⟨j,e',h1,h2,h3,h4⟩:=QaK h;refine⟨j+1,e',by simpa using h1,h2,h3,λi x hi hx=>?_⟩;cases i with
   | zero=>simp at hx;subst hx;exact hk
   | succ i=>exact h4 i x ω (by simpa using hx)
def QaL:∀{es:List Xi} {k:List Int},WT es k=none->∀e∈es,e.k≠k
 | [],_,_=>σ
 | e::r,k,h=>by
  simp only[WT]at h;by_cases hk:e.k=k
  .rw[Qd hk]at h;cases h
  .rw[Qc hk]at h;intro x hx;rcases QD.1 hx with rfl|h2
   .exact hk
   .exact QaL h x h2
def QaM:∀(a b:List Int),a.length=b.length->jz (a.map (Value.int .u16)) (b.map (Value.int .u16))=some (decide (a=b))
 | [],[],_=>rfl
 | [],_::_,h=>by simp at h
 | _::_,[],h=>by simp at h
 | x::a,y::b,h=>by
  simp only[JQ,jz,qG,QaM a b (by simpa using h)];have:IntKind.same .u16 .u16=true:=rfl;simp only[this,js,QY,Hc];by_cases h1:x=y<;>by_cases h2:a=b<;>simp[h1,h2]
def QaN(k:List Int):(k.map (Value.int .u16)).map cat=List.replicate k.length 0:=by
 induction k with
 | nil=>rfl
 | cons a k ih=>simp only[JQ,Kv,Ur,ih];rfl
structure HK (P:Program) (kt:TypeId):Prop where
 eq:lF P kt [0,0,0,0]
 arr:∃u,P.underlying kt=some (.array 4 u)/\P.underlying u=some (.int .u16)
section
variable {P:Program}{kt:TypeId}(H:HK P kt)
include H
theorem HK.equal(w){a b:List Int}(ha:a.length=4)(hb:b.length=4):(Op.equal kt (Ww a) (Ww b)).run P w=.ok (decide (a=b)) w:=by
 obtain⟨u,h1,_⟩:=H.arr;have:=U3 60 10000 kt [0,0,0,0] ω H.eq.shape w (a.map (.int .u16)) (b.map (.int .u16)) (decide (a=b)) (by rw[QaN,ha];rfl) (by rw[QaN,hb];rfl) (QaM a b (by rw[ha,hb]));unfold valOf at this;rw[h1]at this;exact this
theorem HK.check(em)(w){k:List Int}(hk:k.length=4):(checkKey em 10000 kt (Ww k)).run P w=.ok () w:=by
 obtain⟨u,h1,h2⟩:=H.arr;obtain⟨i,hi⟩:=info_of_underlying h2;have hs:Y3 P 59 u=some [0]:=by unfold Y3;rw[h2]
 have hc:P.cellsOf u=1:=by
  have h:=H.eq.shape;unfold Y3 at h;rw[h1]at h;simp only[hs]at h;split at h
  .assumption
  .cases h
 have pt:∀j,j<4->∃n,(part u (k.map (Value.int .u16)).toArray j).run P w=.ok (.int .u16 n) w:=λj hj=>by
  have:=PO hs hc w (k.map (Value.int .u16)) j ξ;refine⟨k.getD j 0,?_⟩;rw[this];unfold valOf;rw[h2];have:j<k.length:=ω;simp[QZ,this]
 rw[show (10000:Nat)=9999+1 from rfl];unfold Ww;rw[Instr.checkKey];simp only[Sem.run_bind,run_underlying h1,Result.andThen_ok];simp only[Std.Legacy.Range.forIn_eq_forIn_range',Std.Legacy.Range.size,Dl,Nat.add_one_sub_one,Nat.div_one];have lt:∀j∈List.range' 0 4 1,j<4:=λj hj=>by simp[List.mem_range']at hj;omega
 generalize List.range' 0 4 1=is at lt;induction is with
 | nil=>simp
 | cons j is ih=>
  obtain⟨n,p1⟩:=pt j (lt j σ);have p2:=FD (P:=P) (w:=w) (k:=n) h2 em 9998;simp only[List.forIn_cons,Sem.run_bind,run_sizeOf w hi,Result.andThen_ok,hc,Qkn,p1,p2,Sem.run_pure];exact ih λy hy=>lt y (by simp[hy])
theorem HK.Dz(w){k:List Int}(hk:k.length=4):∀(es:List MapEntry) (i:Nat),(∀e∈es,∃k',k'.length=4/\e.key=Ww k'/\k'≠k)->(findAsking kt (Ww k) es i).run P w=.ok none w
 | [],_,_=>by simp[findAsking]
 | e::es,i,h=>by
  obtain⟨k',h1,h2,h3⟩:=h e σ;have:=H.equal w hk h1;rw[QI (Q3 h3)]at this;simp[findAsking,h2,this,HK.Dz w hk es (i+1) λx hx=>h x (by simp[hx])]
theorem HK.Xh(w){k:List Int}(hk:k.length=4):∀(es:List MapEntry) (i0 j:Nat) (e:MapEntry),es[j]? = some e->e.key=Ww k->(∀(i:Nat) (e':MapEntry),i<j->es[i]? = some e'->∃k',k'.length=4/\e'.key=Ww k'/\k'≠k) ->
  (findAsking kt (Ww k) es i0).run P w=.ok (some (i0+j,e.val)) w
 | [],_,_,_,h,_,_=>by simp at h
 | x::es,i0,0,e,h,hx,_=>by
  simp at h;subst h;have:=H.equal w hk hk;rw[QU rfl]at this;simp[findAsking,hx,this]
 | x::es,i0,j+1,e,h,hx,hn=>by
  obtain⟨k',h1,h2,h3⟩:=hn 0 x ω rfl;have:=H.equal w hk h1;rw[QI (Q3 h3)]at this;have ih:=HK.Xh w hk es (i0+1) j e (by simpa using h) hx λi e' hi he=>hn (i+1) e' ω (by simpa using he);simp[findAsking,h2,this,ih];omega
theorem HK.find(w){k}{es:List MapEntry}{r}(h:(findAsking kt (Ww k) es 0).run P w=.ok r w):(findKey kt (Ww k) es).run P w=.ok r w:=by
 obtain⟨u,h1,_⟩:=H.arr;cases es with
 | nil=>simpa[findKey,underlying,h1,findNow,findAsking] using h
 | cons e es=>
  simp only[findKey,underlying,findNow,sameNow,Sem.run_bind];simpa[underlying,h1] using h
end
structure AM (Z:Nat->Prop) (h:List Ob) (pl:List Pl) (w:World) (c:Nat) (es:List Xi) (QS:List MapEntry):Prop where
 len:es.length=QS.length
 at_:∀(i:Nat) (e:Xi) (a:MapEntry),es[i]? = some e->QS[i]? = some a->a.key=Ww e.k/\QC Z h pl w e.v a.val/\a.born=e.b/\a.born<c
 inc:∀(i j:Nat) (a a':MapEntry),i<j->QS[i]? = some a->QS[j]? = some a'->a.born<a'.born
def QlN{Z}{h}{pl}{w:World}{c}{es}{b}{QS:Array MapEntry}(hb:w.heap[b]? = some (.map QS c))(E:AM Z h pl w c es QS.toList){kd:Kd}(JE:kd.ty=1):Ky Z h pl w (jD kd c es) b 0:=by
 refine Ky.ofMap JE ⟨rfl,rfl,QS,c,hb,by have:=E.len;simp at this;simp[jD,this],λi _=>?_,.cl _ _ (.raw _),λi a ha=>?_,λi j a a' K7 h1 h2=>E.inc i j a a' K7 (by simpa using h1) (by simpa using h2)⟩
 .show (ZG c es i).length=3;cases i with
  | zero=>rfl
  | succ i=>simp only[ZG];split<;>rfl
 .have Qb:=(Ws.1 ha).1;have hi:i<es.length:=by have:=E.len;simp at this;omega
  obtain⟨h1,h2,h3,h4⟩:=E.at_ i es[i] a (QP hi) (by simpa using ha);have e1:ZG c es (i+1)=[.raw (Ww es[i].k),es[i].v,.raw (.int .i64 es[i].b)]:=by simp[ZG,hi]
  show _/\QC Z h pl w (nth (ZG c es (i+1)) 0) _/\QC Z h pl w (nth (ZG c es (i+1)) 1) _/\QC Z h pl w (nth (ZG c es (i+1)) 2) _;rw[e1];exact⟨h4,by rw[h1];exact .cl _ _ (.raw _),h2,by rw[h3];exact .cl _ _ (.raw _)⟩
def QlO{Z}{h}{pl}{w:World}{c}{es}{b p}{kd:Kd}(JE:kd.ty=1)(x:Ky Z h pl w (jD kd c es) b p):p=0/\∃QS:Array MapEntry,w.heap[b]? = some (.map QS c)/\AM Z h pl w c es QS.toList:=by
 obtain⟨h0,_,QS,clock,h1,h2,_,h4,h5,h6⟩:=x.map JE;have hc:clock=c:=by
  have:=Jn h4;simp at this;omega
 subst hc;have hl:es.length=QS.size:=by simpa[jD] using h2
 refine⟨h0,QS,h1,by simpa using hl,λi e a he ha=>?_,λi j a a' K7 g1 g2=>h6 i j a a' K7 (by simpa using g1) (by simpa using g2)⟩;obtain⟨k1,k2,k3,k4⟩:=h5 i a (by simpa using ha);have e1:(jD kd clock es).row (i+1)=[.raw (Ww e.k),e.v,.raw (.int .i64 e.b)]:=by simp[jD,ZG,he]
 rw[e1]at k2 k3 k4;have:=Jn k2;have h8:=Jn k4;refine⟨this,k3,?_,k1⟩;simp at h8;omega
def AM.tr{Z}{h h'}{pl Qi}{w w'}(T:Tr h pl w h' Qi w'){c}{es}{QS}(E:AM Z h pl w c es QS):AM Z h' Qi w' c es QS:=
 ⟨E.len,λi e a h1 h2=>let ⟨g1,g2,g3⟩:=E.at_ i e a h1 h2;⟨g1,g2.tr T,g3⟩,E.inc⟩
def FK:List D->Option (List Int)
 | []=>some []
 | .raw (.int .u16 n)::r=>match FK r with
  | some l=>some (n::l)
  | none=>none
 | _=>none
def QaO:∀{cs:List D} {l:List Int},FK cs=some l->Dy cs=some (l.map (Value.int .u16))
 | [],l,e=>by simp[FK]at e;subst e;rfl
 | c::cs,l,e=>by
  unfold FK at e;split at e
  .rename_i heq;cases heq
  .rename_i n r heq;simp only[Hc]at heq;obtain⟨rfl,rfl⟩:=heq;split at e
   .rename_i l' YY;simp only[QY]at e;subst e;simp[Dy,QaO YY]
   .cases e
  .cases e
def vT(L:Z8)(E:B0)(kt:TypeId)(cs:List D):Option (List Int):=match ty L kt with
 | some ⟨.array n u,_,_,_⟩=>match ty L u,AJ E kt with
  | some ⟨.int q,_,_,_⟩,some l=>bif Nat.beq n 4&&IntKind.same q .u16&&Hx l [0,0,0,0] then match FK cs with
    | some k=>bif Nat.beq k.length 4 then some k else none
    | none=>none
   else none
  | _,_=>none
 | _=>none
def QlP{P:Program}{t e:TypeId}{n}{y:Ty}(h:WD P t y)(hk:y.k=.array n e):P.underlying t=some (.array n e):=by
 obtain⟨d,hd,he⟩:=h.under;rw[hk]at he;rw[hd];cases d<;>simp[TK.of]at he;rw[he.1,he.2]
def QaP{P}{L}{E}(hL:Z5 P L)(hE:yw P E){kt:TypeId}{cs}{k:List Int}(h:vT L E kt cs=some k):HK P kt/\k.length=4/\FK cs=some k:=by
 unfold vT at h;split at h;case h_2=>cases h
 rename_i n u _ _ _ ht;split at h;case h_2=>cases h
 rename_i q _ _ _ l hu he;obtain⟨h1,h⟩:=zN h;simp only[Zy]at h1;have hn:=Pt h1.1.1;have hq:=IntKind.iE h1.1.2;have hl:=U4 h1.2;subst hn;subst hq;subst hl;split at h;case h_2=>cases h
 rename_i k' ZJ;cases hb:Nat.beq k'.length 4 with
 | false=>rw[hb]at h;cases h
 | true=>
  rw[hb]at h;cases h;exact⟨⟨hE _ _ he,u,QlP (hL kt _ ht) rfl,BT (hL u _ hu) rfl⟩,Pt hb,ZJ⟩
section
variable {P:Program}{L:Z8}{E:B0}{base nt:Nat}{s:St}{o:Oper}{t:TypeId}{x i:Operand}
def QaQ{Z}{pl}{a:Act}{w}(r:Rel Z base nt s pl a w){cs}{k}(hi:Qo s.fr i=.agg cs)(hk:FK cs=some k):a.eval i=Ww k:=by
 have e2:=r.eval i;rw[hi]at e2;obtain⟨us,hu,lG,B1⟩:=Ho e2;rw[hu,U5 (QaO hk) us lG B1];rfl
def QaR{Z}{pl}{a}{w}(r:Rel Z base nt s pl a w){l c}{es}{kd:Kd}(JE:kd.ty=1)(hx:Qo s.fr x=.mref l 0)(Zf:s.h[l]? = some (jD kd c es)):
  ∃b QS,a.eval x=.map (some b)/\pl[l]? = some (some (b,0))/\(kd.ro=false->base<=b)/\w.heap[b]? = some (.map QS c)/\AM Z s.h pl w c es QS.toList:=by
 have e1:=r.eval x;rw[hx]at e1;obtain⟨o',p,b,h1,h2,h3,h4,h5⟩:=Ft e1;rw[Zf]at h1;cases h1;have h5:=h5 rfl;rw[h5]at h2;obtain⟨Zp,xn⟩:=r.o.at_ l _ b 0 Zf h2;obtain⟨_,QS,hb,E⟩:=QlO JE xn;have hv:=h3.2;have:(jD kd c es).kd.ty=1:=JE;rw[this]at hv;exact⟨b,QS,hv,h2,Zp,hb,E⟩
def ay(L:Z8)(E:B0)(h:List Ob)(t:TypeId)(x i:D):Ev:=match ty L t with
 | some ⟨.map kt et,_,_,_⟩=>match ty L et,i,x with
  | some ye,.agg cs,.mref l g=>match vT L E kt cs,h[l]? with
   | some k,some o=>some (Mw o/\g=0,match WT (yx o) k with
    | some d=>.tup [d,.raw (.bool true)]
    | none=>.tup [BV ye,.raw (.bool false)])
   | _,_=>none
  | _,_,_=>none
 | _=>none
def AM.keyed{Z:Nat->Prop}{h:List Ob}{pl:List Pl}{w:World}{c:Nat}{es:List Xi}{QS:List MapEntry}(R:AM Z h pl w c es QS)(h4:∀e∈es,e.k.length=4)(i:Nat)(a:MapEntry)(ha:QS[i]? = some a):∃e,es[i]? = some e/\e.k.length=4/\a.key=Ww e.k:=by
 have hi:i<es.length:=by have:=(WC.1 ha).1;rw[R.len];exact this
 exact⟨es[i],QP hi,h4 _ (YU hi),(R.at_ i es[i] a (QP hi) ha).1⟩
def AM.Dz{Z}{h}{pl}{w}{c}{es}{QS:List MapEntry}(R:AM Z h pl w c es QS)(h4:∀e∈es,e.k.length=4){kt:TypeId}(H:HK P kt){k:List Int}(hk:k.length=4)(hn:WT es k=none)(w'):(findKey kt (Ww k) QS).run P w'=.ok none w':=by
 refine H.find w' (H.Dz w' hk QS 0 λa ha=>?_);obtain⟨i,hi⟩:=Fk ha;obtain⟨e,h1,h2,h3⟩:=R.keyed h4 i a hi;exact⟨e.k,h2,h3,QaL hn e (Hf h1)⟩
def QlQ(hL:Z5 P L)(hE:yw P E)(ho:o.op=.lookup t x i true){p}{d}(h:ay L E s.h t (Qo s.fr x) (Qo s.fr i)=some (p,d))(hp:p):Wd P base nt o s d:=by
 intro Z pl a w r;unfold ay at h;split at h;case h_2=>cases h
 rename_i kt et _ _ _ ht;split at h;case h_2=>cases h
 rename_i ye cs l g Wv hi hx;split at h;case h_2=>cases h
 rename_i k ob hk Zf;simp only[QY,Q9]at h;obtain⟨rfl,rfl⟩:=h;obtain⟨⟨HE,hm,h4⟩,rfl⟩:=hp;obtain⟨H,FL,JF⟩:=QaP hL hE hk;have e2:=QaQ r hi JF;obtain⟨kd,JE⟩:∃kd,kd=ob.kd:=⟨_,rfl⟩;obtain⟨c,hc⟩:∃c,c=clockOf ob:=⟨_,rfl⟩;obtain⟨es,kP⟩:∃es,es=yx ob:=⟨_,rfl⟩;rw[<- JE]at HE hm;rw[<- hc,<- kP]at hm;rw[<- kP]at h4 ⊢;rw[hm]at Zf;obtain⟨b,QS,e1,_,_,hb,R⟩:=QaR r HE hx Zf;have hx:=Dn (hL t _ ht) rfl;have h3:=λw':World=>H.check QS.isEmpty w' FL;cases hf:WT es k with
 | some d=>
  obtain⟨j,e,g1,g2,g3,g4⟩:=QaK hf;have hj:j<QS.toList.length:=by rw[<- R.len];exact(WC.1 g1).1
  obtain⟨k1,k2,_⟩:=R.at_ j e QS.toList[j] g1 (QP hj);have h2:∀w':World,(findKey kt (Ww k) QS.toList).run P w'=.ok (some (j,QS.toList[j].val)) w':=λw'=>by
   have:=H.find w' (H.Xh w' FL QS.toList 0 j QS.toList[j] (QP hj) (by rw[k1,g2]) λi' a' Z9 VI=>by
    obtain⟨e',q1,q2,q3⟩:=R.keyed h4 i' a' VI;exact⟨e'.k,q2,q3,g4 i' e' Z9 q1⟩)
   rwa [JD]at this
  refine⟨.tuple #[QS.toList[j].val,.bool true],.tup _ [_,.bool true] rfl (λi hi=>match i,hi with
   | 0,_=>by rw[<- g3];exact k2
   | 1,_=>.cl _ _ (.raw _)),λw' hw=>?_⟩
  simp[execOp,ho,e1,e2,lookup,underlying,hx,getObj,AK ((hw b (ju hb)).trans hb),h2 w',h3 w']
 | none=>
  obtain⟨z,hz,Cm⟩:=iH (hL et ye Wv) (N:=free Z pl) w;refine⟨.tuple #[z,.bool false],.tup _ [z,.bool false] rfl (λi hi=>match i,hi with
   | 0,_=>.cl _ _ hz
   | 1,_=>.cl _ _ (.raw _)),λw' hw=>?_⟩
  have h2:=R.Dz h4 H FL hf w';simp[execOp,ho,e1,e2,lookup,underlying,hx,getObj,AK ((hw b (ju hb)).trans hb),h2,h3 w',Cm w']
def az(L:Z8)(E:B0)(h:List Ob)(t:TypeId)(x i v:D):Option (Prop × List Ob):=match ty L t with
 | some ⟨.map kt _,_,_,_⟩=>match i,x with
  | .agg cs,.mref l g=>match vT L E kt cs,h[l]? with
   | some k,some o=>some (Mw o/\WT (yx o) k=none/\g=0/\o.kd.ro=false,h.set l (kQ (clockOf o+1) (yx o++[⟨k,v,clockOf o⟩])))
   | _,_=>none
  | _,_=>none
 | _=>none
def QlR(hL:Z5 P L)(hE:yw P E){v}(ho:o.op=.mapUpdate t x i v){p}{h'}(h:az L E s.h t (Qo s.fr x) (Qo s.fr i) (Qo s.fr v)=some (p,h'))(hp:p):zO P base nt o s h' .undef:=by
 unfold az at h;split at h;case h_2=>cases h
 rename_i kt et _ _ _ ht;split at h;case h_2=>cases h
 rename_i cs l g hi hx;split at h;case h_2=>cases h
 rename_i k ob hk Zf;simp only[QY,Q9]at h;obtain⟨rfl,rfl⟩:=h;obtain⟨⟨HE,hm,h4⟩,hn,rfl,hro⟩:=hp;obtain⟨H,FL,JF⟩:=QaP hL hE hk;obtain⟨kd,JE⟩:∃kd,kd=ob.kd:=⟨_,rfl⟩;obtain⟨c,hc⟩:∃c,c=clockOf ob:=⟨_,rfl⟩;obtain⟨es,kP⟩:∃es,es=yx ob:=⟨_,rfl⟩;rw[<- JE]at HE hm hro;rw[<- hc,<- kP]at hm;rw[<- kP]at h4 hn ⊢;rw[<- hc];have Qj:kd=.map:=by cases kd<;>first|rfl|(exfalso;revert HE;decide)|(exfalso;revert hro;decide)
 rw[hm,Qj]at Zf;intro Z pl a w r KL;have e2:=QaQ r hi JF;have e3:=r.eval v;obtain⟨b,QS,e1,h2,Zp,hb,R⟩:=QaR r rfl hx Zf;have Zp:=Zp rfl;have FG:=Dn (hL t _ ht) rfl;have q2:=R.Dz h4 H FL hn w;have q3:=H.check false w FL;have Ze:(mapUpdate t (.map (some b)) (Ww k) (a.eval v)).run P w=.ok () { w with heap:=w.heap.setIfInBounds b (.map (QS.push { key:=Ww k,val:=a.eval v,born:=c }) (c+1)) }:=by
  simp[mapUpdate,underlying,FG,getObj,AK hb,q2,q3,setObj,PR hb]
 have xo:=ju hb;generalize X9:({ w with heap:=w.heap.setIfInBounds b (.map (QS.push { key:=Ww k,val:=a.eval v,born:=c }) (c+1)) }:World)=w' at Ze;have e:∀c,c≠b->w'.heap[c]? = w.heap[c]? := λc hc=>by rw[<- X9];simp[Q3 hc]
 have JY:w'.heap[b]? = some (.map (QS.push { key:=Ww k,val:=a.eval v,born:=c }) (c+1)):=by rw[<- X9];simp[xo]
 have T:=Tr.HC (w':=w') r.o Zf h2 e (o':=kQ (c+1) (es++[⟨k,Qo s.fr v,c⟩])) rfl rfl rfl (by rw[hb];intro c el h;cases h);have R':=R.tr T;have hl:es.length=QS.size:=by have:=R.len;simpa using this
 have RR:AM Z (s.h.set l (kQ (c+1) (es++[⟨k,Qo s.fr v,c⟩]))) pl w' (c+1) (es++[⟨k,Qo s.fr v,c⟩]) (QS.push { key:=Ww k,val:=a.eval v,born:=c }).toList:=by
  refine⟨by simp[hl],λi' e' a' WS VI=>?_,λi1 i2 x y FH hx hy=>?_⟩
  .have VI:(QS.push { key:=Ww k,val:=a.eval v,born:=c })[i']? = some a':=by rw[<- kB];exact VI
   rw[Ui]at VI;rcases XM WS with h1|⟨h1,Ji⟩
   .have:=(WC.1 h1).1;rw[Qc ω]at VI;obtain⟨k1,k2,k3,k4⟩:=R'.at_ i' e' a' h1 (by simpa using VI);exact⟨k1,k2,k3,ω⟩
   .subst Ji;rw[Qd ω]at VI;cases VI;exact⟨rfl,e3.tr T,rfl,σ⟩
  .have hx:(QS.push { key:=Ww k,val:=a.eval v,born:=c })[i1]? = some x:=by rw[<- kB];exact hx
   have hy:(QS.push { key:=Ww k,val:=a.eval v,born:=c })[i2]? = some y:=by rw[<- kB];exact hy
   rw[Ui]at hx hy;have J3:∀(i:Nat) (z:MapEntry),QS[i]? = some z->z.born<c:=λi z hz=>by
    have Qb:=(Ws.1 hz).1;exact(R.at_ i (es[i]'ω) z (QP ω) (by simpa using hz)).2.2.2
   split at hx
   .split at hy
    .omega
    .have:=(Ws.1 hy).1;omega
   .split at hy
    .cases hy;exact J3 i1 x hx
    .exact R.inc i1 i2 x y FH (by simpa using hx) (by simpa using hy)
 refine⟨Go.undef,w',pl,.inr ⟨by simp[execOp,ho,e1,e2,Ze],rfl⟩,T,Zi.HC (hro:=rfl) r.o Zf h2 e T (QlN JY RR rfl),.cl _ _ (.undef _),?_,λhc=>by simp[calm,ho]at hc⟩;exact Mn Zp e (by rw[<- X9];simp) (by rw[<- X9]) (by rw[<- X9]) (by rw[<- X9])
end
end Go.Fg
