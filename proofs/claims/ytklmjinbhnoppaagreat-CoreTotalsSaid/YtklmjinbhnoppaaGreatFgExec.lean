/- Contracts and laws on the way to the statement. No conditions. -/
import Derived.WalkKit
import Derived.WalkLawsBesides
import Derived.WalkSpells
import Derived.ChangeKeysEq
import Derived.Maps.RangeRun
import Derived.Scope
set_option maxRecDepth 100000
set_option maxHeartbeats 16000000
set_option linter.unusedVariables false
set_option linter.unusedSimpArgs false
set_option linter.unusedSectionVars false
namespace Go.Fg
open Go.RowKit (Below)
inductive D where
 | raw (v:Value)
 | nil
 | undef
 | imm (sz n:Nat) (row:Nat→List D)
 | ip (cells:List D)
 | ref (l g off len:Nat)
 | ptr (l g i j:Nat)
 | mref (l g:Nat)
 | clo (f:FuncId) (first:Nat) (QC:List D)
 | agg (cs:List D)
 | tup (cs:List D)
def nth (cs:List D) (i:Nat):D:=cs.getD i .undef
def QL (vs:List Value) (i:Nat):Value:=vs.getD i Go.undef
inductive Kd where
 | one
 | arr
 | map
 | iter
 | KF
 | yA
 | Fv
 | br
def Kd.A5:Kd→Bool
 | .one=>true
 | .KF=>true
 | _=>false
def Kd.ty:Kd→Nat
 | .one=>0
 | .arr=>0
 | .map=>1
 | .iter=>2
 | .KF=>0
 | .yA=>0
 | .Fv=>1
 | .br=>2
def Kd.ro:Kd→Bool
 | .one=>false
 | .arr=>false
 | .map=>false
 | .iter=>false
 | _=>true
def Kd.toRo:Kd→Kd
 | .one=>.KF
 | .arr=>.yA
 | .map=>.Fv
 | .iter=>.br
 | k=>k
theorem Kd.toRo_ty (k:Kd):k.toRo.ty=k.ty:=by cases k<;>rfl
theorem Kd.toRo_ro (k:Kd):k.toRo.ro=true:=by cases k<;>rfl
def Fw:Nat→Nat→Value
 | 1,b=>.map (some b)
 | _,b=>.pointer (some ⟨b,0,none⟩)
def bt (t b:Nat) (v:Value):Prop:=t≠0∧v=Fw t b
structure Ob where
 kd:Kd
 gen:Nat
 sz:Nat
 n:Nat
 row:Nat→List D
abbrev Pl:=Option (Nat × Nat)
def Vh (pl:List Pl) (b:Nat):Prop:=∀l q:Nat,pl[l]?≠some (some (b,q))
def free (Z:Nat→Prop) (pl:List Pl) (b:Nat):Prop:=Z b∧Vh pl b
variable {Z:Nat→Prop}
inductive Cl (N:Nat→Prop) (w:World):D→Value→Prop
 | raw (v:Value):Cl N w (.raw v) v
 | undef (v:Value):Cl N w .undef v
 | nil (a:Option Addr):Cl N w .nil (.slice a 0 0)
 | imm (sz n:Nat) (row:Nat→List D) (a:Option Addr) (cap b o:Nat) (vs:Nat→Nat→Value)
   (ha:0<n→a=some ⟨b,o,none⟩) (hl:n≤cap) (hs:∀i,i<n→(row i).length=sz)
   (hc:∀i j,i<n→j<sz→N b∧w.cell? ⟨b,o+(i*sz+j),none⟩=some (vs i j))
   (hr:∀i j,i<n→j<sz→Cl N w (nth (row i) j) (vs i j)):Cl N w (.imm sz n row) (.slice a n cap)
 | ip (cells:List D) (b o:Nat) (vs:Nat→Value)
   (hc:∀j,j<cells.length→N b∧w.cell? ⟨b,o+j,none⟩=some (vs j))
   (hr:∀j,j<cells.length→Cl N w (nth cells j) (vs j)):Cl N w (.ip cells) (.pointer (some ⟨b,o,none⟩))
 | clo (f:FuncId) (nf:Nat) (cs:List D) (vs:List Value) (hl:vs.length=cs.length) (hr:∀i,i<cs.length→Cl N w (nth cs i) (QL vs i)):Cl N w (.clo f nf cs) (.func (.func f) (vs.take nf).toArray (vs.drop nf).toArray)
 | agg (cs:List D) (vs:List Value) (hl:vs.length=cs.length) (hr:∀i,i<cs.length→Cl N w (nth cs i) (QL vs i)):Cl N w (.agg cs) (.agg vs.toArray)
 | tup (cs:List D) (vs:List Value) (hl:vs.length=cs.length) (hr:∀i,i<cs.length→Cl N w (nth cs i) (QL vs i)):Cl N w (.tup cs) (.tuple vs.toArray)
theorem Cl.mono {N N':Nat→Prop} {w w':World} {d:D} {v:Value} (h:Cl N w d v)
  (hk:∀b,N b→b<w.heap.size→N' b∧w'.heap[b]? = w.heap[b]?):Cl N' w' d v:=by
 have key:∀(b o:Nat) (u:Value),N b∧w.cell? ⟨b,o,none⟩=some u→N' b∧w'.cell? ⟨b,o,none⟩=some u:=by
  rintro b o u ⟨hn,hc⟩
  obtain⟨h1,h2⟩:=hk b hn (block_lt_of_cell hc)
  exact⟨h1,by rw[World.cell?_of_block (w:=w) (a:=⟨b,o,none⟩) h2];exact hc⟩
 induction h with
 | raw v=>exact .raw v
 | undef v=>exact .undef v
 | nil a=>exact .nil a
 | imm sz n row a cap b o vs ha hl hs hc hr ih=>exact .imm sz n row a cap b o vs ha hl hs (fun i j hi hj=>key _ _ _ (hc i j hi hj)) ih
 | ip cells b o vs hc hr ih=>exact .ip cells b o vs (fun j hj=>key _ _ _ (hc j hj)) ih
 | clo f nf cs vs hl hr ih=>exact .clo f nf cs vs hl ih
 | agg cs vs hl hr ih=>exact .agg cs vs hl ih
 | tup cs vs hl hr ih=>exact .tup cs vs hl ih
def bu (w:World) (sz:Nat) (p:Pl) (off len:Nat) (a:Option Addr) (cap:Nat):Prop:=
 (len=0∧cap=0)∨∃b q c el,p=some (b,q)∧a=some ⟨b,q+off*sz,none⟩∧w.heap[b]? = some (.cells c el (0,0))∧q+(off+cap)*sz≤c.size∧len≤cap
inductive Qv (Z:Nat→Prop) (h:List Ob) (pl:List Pl) (w:World):D→Value→Prop
 | cl (d:D) (v:Value) (hc:Cl (free Z pl) w d v):Qv Z h pl w d v
 | ref (l g off len:Nat) (o:Ob) (p:Pl) (a:Option Addr) (cap:Nat) (ho:h[l]? = some o) (hp:pl[l]? = some p) (hk:o.kd.ty=0) (hg:g≤o.gen)
   (hs:g=o.gen→bu w o.sz p off len a cap):Qv Z h pl w (.ref l g off len) (.slice a len cap)
 | ptr (l g i j:Nat) (o:Ob) (p:Pl) (a:Addr) (ho:h[l]? = some o) (hp:pl[l]? = some p) (hk:o.kd.ty=0) (hg:g≤o.gen)
   (hs:g=o.gen→∃b q,p=some (b,q)∧a=⟨b,q+(i*o.sz+j),none⟩):Qv Z h pl w (.ptr l g i j) (.pointer (some a))
 | mref (l g:Nat) {v:Value} (o:Ob) (p:Pl) (b:Nat) (ho:h[l]? = some o) (hp:pl[l]? = some p) (hk:bt o.kd.ty b v) (hg:g≤o.gen)
   (hs:g=o.gen→p=some (b,0)):Qv Z h pl w (.mref l g) v
 | clo (f:FuncId) (nf:Nat) (cs:List D) (vs:List Value) (hl:vs.length=cs.length) (hr:∀i,i<cs.length→Qv Z h pl w (nth cs i) (QL vs i)):Qv Z h pl w (.clo f nf cs) (.func (.func f) (vs.take nf).toArray (vs.drop nf).toArray)
 | agg (cs:List D) (vs:List Value) (hl:vs.length=cs.length) (hr:∀i,i<cs.length→Qv Z h pl w (nth cs i) (QL vs i)):Qv Z h pl w (.agg cs) (.agg vs.toArray)
 | tup (cs:List D) (vs:List Value) (hl:vs.length=cs.length) (hr:∀i,i<cs.length→Qv Z h pl w (nth cs i) (QL vs i)):Qv Z h pl w (.tup cs) (.tuple vs.toArray)
structure Tr (h:List Ob) (pl:List Pl) (w:World) (h':List Ob) (Qi:List Pl) (w':World):Prop where
 JP:∀b,Vh pl b→b<w.heap.size→Vh Qi b∧w'.heap[b]? = w.heap[b]?
 obj:∀(l:Nat) (o:Ob) (p:Pl),h[l]? = some o→pl[l]? = some p→∃o' p',h'[l]? = some o'∧Qi[l]? = some p'∧o.gen≤o'.gen∧o'.kd.ty=o.kd.ty∧(o'.gen=o.gen→o'.sz=o.sz∧p'=p)
 shape:∀(l:Nat) (o o':Ob) (b q:Nat),h[l]? = some o→h'[l]? = some o'→o'.gen=o.gen→pl[l]? = some (some (b,q))→∀c el,w.heap[b]? = some (.cells c el (0,0)) →
  ∃c',w'.heap[b]? = some (.cells c' el (0,0))∧c'.size=c.size
theorem Tr.QbH {h:List Ob} {pl:List Pl} {w:World} {h':List Ob} {Qi:List Pl} {w':World} (T:Tr h pl w h' Qi w') {b:Nat} (hf:free Z pl b) (hb:b<w.heap.size):free Z Qi b∧w'.heap[b]? = w.heap[b]? :=
 ⟨⟨hf.1,(T.JP b hf.2 hb).1⟩,(T.JP b hf.2 hb).2⟩
theorem Qv.tr {h:List Ob} {pl:List Pl} {w:World} {h':List Ob} {Qi:List Pl} {w':World} (T:Tr h pl w h' Qi w') {d:D} {v:Value} (r:Qv Z h pl w d v):Qv Z h' Qi w' d v:=by
 induction r with
 | cl d v hc=>exact .cl d v (hc.mono fun b hb Qd=>T.QbH hb Qd)
 | ref l g off len o p a cap ho hp hk hg hs=>
  obtain⟨o',p',Zg,Zs,X5,Zq,he⟩:=T.obj l o p ho hp
  refine .ref l g off len o' p' a cap Zg Zs (by rw[Zq,hk]) (Nat.le_trans hg X5) fun jV=>?_
  have e1:o'.gen=o.gen:=by omega
  obtain⟨e2,e3⟩:=he e1
  rcases hs (by omega) with h1|⟨b,q,c,el,Kl,ha,hb,hc,hl⟩
  ·exact .inl h1
  ·obtain⟨c',Jt,hc'⟩:=T.shape l o o' b q ho Zg e1 (by rw[hp,Kl]) c el hb
   exact .inr ⟨b,q,c',el,by rw[e3,Kl],by rw[e2];exact ha,Jt,by rw[e2,hc'];exact hc,hl⟩
 | ptr l g i j o p a ho hp hk hg hs=>
  obtain⟨o',p',Zg,Zs,X5,Zq,he⟩:=T.obj l o p ho hp
  refine .ptr l g i j o' p' a Zg Zs (by rw[Zq,hk]) (Nat.le_trans hg X5) fun jV=>?_
  have e1:o'.gen=o.gen:=by omega
  obtain⟨e2,e3⟩:=he e1
  obtain⟨b,q,Kl,ha⟩:=hs (by omega)
  exact⟨b,q,by rw[e3,Kl],by rw[e2];exact ha⟩
 | mref l g o p b ho hp hk hg hs=>
  obtain⟨o',p',Zg,Zs,X5,Zq,he⟩:=T.obj l o p ho hp
  refine .mref l g o' p' b Zg Zs (by rw[Zq];exact hk) (Nat.le_trans hg X5) fun jV=>?_
  have e1:o'.gen=o.gen:=by omega
  obtain⟨e2,e3⟩:=he e1
  rw[e3];exact hs (by omega)
 | clo f nf cs vs hl hr ih=>exact .clo f nf cs vs hl ih
 | agg cs vs hl hr ih=>exact .agg cs vs hl ih
 | tup cs vs hl hr ih=>exact .tup cs vs hl ih
def Fx (Z:Nat→Prop) (h:List Ob) (pl:List Pl) (w:World) (o:Ob) (b q:Nat):Prop:=
 ∃c el,w.heap[b]? = some (.cells c el (0,0))∧q+o.n*o.sz≤c.size∧(∀i,i<o.n→(o.row i).length=o.sz) ∧
  ∀i j,i<o.n→j<o.sz→∃v,c[q+(i*o.sz+j)]? = some v∧Qv Z h pl w (nth (o.row i) j) v
def IS (Z:Nat→Prop) (h:List Ob) (pl:List Pl) (w:World) (o:Ob) (b q:Nat):Prop:=
 q=0∧o.sz=3∧∃(es:Array MapEntry) (clock:Nat),w.heap[b]? = some (.map es clock)∧o.n=es.size+1∧(∀i,i<o.n→(o.row i).length=3) ∧
  Qv Z h pl w (nth (o.row 0) 0) (.int .i64 clock) ∧
  (∀(i:Nat) (e:MapEntry),es[i]? = some e→e.born<clock∧Qv Z h pl w (nth (o.row (i+1)) 0) e.key∧Qv Z h pl w (nth (o.row (i+1)) 1) e.val∧Qv Z h pl w (nth (o.row (i+1)) 2) (.int .i64 e.born)) ∧
  ∀(i j:Nat) (e e':MapEntry),i<j→es[i]? = some e→es[j]? = some e'→e.born<e'.born
def Pa (Z:Nat→Prop) (h:List Ob) (pl:List Pl) (w:World) (o:Ob) (b q:Nat):Prop:=
 q=0∧o.sz=1∧∃(m since last:Nat) (seen:Array Nat),w.heap[b]? = some (.mapIter (some m) since seen last)∧o.n=seen.size+3∧(∀i,i<o.n→(o.row i).length=1) ∧
  Qv Z h pl w (nth (o.row 0) 0) (.map (some m))∧Qv Z h pl w (nth (o.row 1) 0) (.int .i64 since)∧Qv Z h pl w (nth (o.row 2) 0) (.int .i64 last) ∧
  ∀(i s:Nat),seen[i]? = some s→Qv Z h pl w (nth (o.row (i+3)) 0) (.int .i64 s)
def Ju (Z:Nat→Prop) (h:List Ob) (pl:List Pl) (w:World) (o:Ob) (b q:Nat):Prop:=match o.kd.ty with
 | 0=>Fx Z h pl w o b q
 | 1=>IS Z h pl w o b q
 | _=>Pa Z h pl w o b q
theorem Ju.cells {h:List Ob} {pl:List Pl} {w:World} {o:Ob} {b q:Nat} (hk:o.kd.ty=0) (x:Ju Z h pl w o b q):Fx Z h pl w o b q:=by
 unfold Ju at x;rw[hk]at x;exact x
theorem Ju.map {h:List Ob} {pl:List Pl} {w:World} {o:Ob} {b q:Nat} (hk:o.kd.ty=1) (x:Ju Z h pl w o b q):IS Z h pl w o b q:=by
 unfold Ju at x;rw[hk]at x;exact x
theorem Ju.iter {h:List Ob} {pl:List Pl} {w:World} {o:Ob} {b q:Nat} (hk:o.kd.ty=2) (x:Ju Z h pl w o b q):Pa Z h pl w o b q:=by
 unfold Ju at x;rw[hk]at x;exact x
theorem Ju.CY {h:List Ob} {pl:List Pl} {w:World} {o:Ob} {b q:Nat} (hk:o.kd.ty=0) (x:Fx Z h pl w o b q):Ju Z h pl w o b q:=by
 unfold Ju;rw[hk];exact x
theorem Ju.ofMap {h:List Ob} {pl:List Pl} {w:World} {o:Ob} {b q:Nat} (hk:o.kd.ty=1) (x:IS Z h pl w o b q):Ju Z h pl w o b q:=by
 unfold Ju;rw[hk];exact x
theorem Ju.bw {h:List Ob} {pl:List Pl} {w:World} {o:Ob} {b q:Nat} (hk:o.kd.ty=2) (x:Pa Z h pl w o b q):Ju Z h pl w o b q:=by
 unfold Ju;rw[hk];exact x
theorem Kd.cases (k:Kd):k.ty=0∨k.ty=1∨k.ty=2:=by cases k<;>simp [Kd.ty]
theorem Ju.lt {h:List Ob} {pl:List Pl} {w:World} {o:Ob} {b q:Nat} (x:Ju Z h pl w o b q):b<w.heap.size:=by
 rcases o.kd.cases with hk|hk|hk
 ·obtain⟨c,el,hc,_⟩:=x.cells hk;exact(Array.getElem?_eq_some_iff.1 hc).1
 ·obtain⟨_,_,c,el,hc,_⟩:=x.map hk;exact(Array.getElem?_eq_some_iff.1 hc).1
 ·obtain⟨_,_,m,s,l,sn,hc,_⟩:=x.iter hk;exact(Array.getElem?_eq_some_iff.1 hc).1
theorem Ju.len {h:List Ob} {pl:List Pl} {w:World} {o:Ob} {b q:Nat} (x:Ju Z h pl w o b q) {i:Nat} (hi:i<o.n):(o.row i).length=o.sz:=by
 rcases o.kd.cases with hk|hk|hk
 ·obtain⟨c,el,_,_,h1,_⟩:=x.cells hk;exact h1 i hi
 ·obtain⟨_,hz,c,el,_,_,h1,_⟩:=x.map hk;rw[h1 i hi,hz]
 ·obtain⟨_,hz,m,s,l,sn,_,_,h1,_⟩:=x.iter hk;rw[h1 i hi,hz]
theorem Ju.to {Z':Nat→Prop} {h h':List Ob} {pl Qi:List Pl} {w w':World} {o o':Ob} {b q:Nat} (x:Ju Z h pl w o b q) (hk:o'.kd.ty=o.kd.ty) (hz:o'.sz=o.sz) (hn:o'.n=o.n)
  (hb:w'.heap[b]? = w.heap[b]?) (hl:∀i,i<o.n→(o'.row i).length=(o.row i).length)
  (hr:∀i j v,i<o.n→j<(o.row i).length→Qv Z h pl w (nth (o.row i) j) v→Qv Z' h' Qi w' (nth (o'.row i) j) v):Ju Z' h' Qi w' o' b q:=by
 rcases o.kd.cases with hm|hm|hm
 ·obtain⟨c,el,h1,h2,h3,h4⟩:=x.cells hm
  refine Ju.CY (by rw[hk,hm]) ⟨c,el,by rw[hb];exact h1,by rw[hn,hz];exact h2,fun i hi=>?_,fun i j hi hj=>?_⟩
  ·rw[hn]at hi;rw[hl i hi,h3 i hi,hz]
  ·rw[hn]at hi;rw[hz]at hj
   obtain⟨v,hv,IT⟩:=h4 i j hi hj
   exact⟨v,by rw[hz];exact hv,hr i j v hi (by rw[h3 i hi];exact hj) IT⟩
 ·obtain⟨h0,Pb,es,ck,h1,h2,h3,h4,h5,h6⟩:=x.map hm
  have up:∀i j v,i<o.n→j<3→Qv Z h pl w (nth (o.row i) j) v→Qv Z' h' Qi w' (nth (o'.row i) j) v:=fun i j v hi hj r=>hr i j v hi (by rw[h3 i hi];exact hj) r
  refine Ju.ofMap (by rw[hk,hm]) ⟨h0,by rw[hz];exact Pb,es,ck,by rw[hb];exact h1,by rw[hn];exact h2,fun i hi=>?_,up 0 0 _ (by omega) (by omega) h4,fun i e he=>?_,h6⟩
  ·rw[hn]at hi;rw[hl i hi,h3 i hi]
  ·obtain⟨k1,k2,k3,k4⟩:=h5 i e he
   have hi:i+1<o.n:=by have:=(Array.getElem?_eq_some_iff.1 he).1;omega
   exact⟨k1,up _ 0 _ hi (by omega) k2,up _ 1 _ hi (by omega) k3,up _ 2 _ hi (by omega) k4⟩
 ·obtain⟨h0,Pb,m,since,last,seen,h1,h2,h3,h4,h5,h6,h7⟩:=x.iter hm
  have up:∀i v,i<o.n→Qv Z h pl w (nth (o.row i) 0) v→Qv Z' h' Qi w' (nth (o'.row i) 0) v:=fun i v hi r=>hr i 0 v hi (by rw[h3 i hi];omega) r
  refine Ju.bw (by rw[hk,hm]) ⟨h0,by rw[hz];exact Pb,m,since,last,seen,by rw[hb];exact h1,by rw[hn];exact h2,fun i hi=>?_,up 0 _ (by omega) h4,up 1 _ (by omega) h5,up 2 _ (by omega) h6,fun i s hs=>?_⟩
  ·rw[hn]at hi;rw[hl i hi,h3 i hi]
  ·exact up _ _ (by have:=(Array.getElem?_eq_some_iff.1 hs).1;omega) (h7 i s hs)
structure QW (Z:Nat→Prop) (base:Nat) (h:List Ob) (pl:List Pl) (w:World):Prop where
 len:pl.length=h.length
 inj:∀(l l':Nat) (b q q':Nat),pl[l]? = some (some (b,q))→pl[l']? = some (some (b,q'))→l=l'
 J2:∀(l:Nat) (o:Ob),h[l]? = some o→pl[l]? = some none→o.n=0
 at_:∀(l:Nat) (o:Ob) (b q:Nat),h[l]? = some o→pl[l]? = some (some (b,q))→(o.kd.ro=false→base≤b)∧Ju Z h pl w o b q
structure St where
 fr:List (Nat × D)
 h:List Ob
def get:List (Nat × D)→Nat→D
 | [],_=>.undef
 | (t,d)::r,u=>bif Nat.beq t u then d else get r u
def put:List (Nat × D)→Nat→D→List (Nat × D)
 | [],u,d=>[(u,d)]
 | (t,e)::r,u,d=>bif Nat.beq t u then (u,d)::r else (t,e)::put r u d
structure Rel (Z:Nat→Prop) (base nt:Nat) (s:St) (pl:List Pl) (a:Act) (w:World):Prop where
 nt:a.tmps.size=nt
 defers:a.defers=[]
 fr:∀t,Qv Z s.h pl w (get s.fr t) (a.tmps.getD t Go.undef)
 o:QW Z base s.h pl w
theorem yB (fr:List (Nat × D)) (u:Nat) (d:D) (t:Nat):get (put fr u d) t=if t=u then d else get fr t:=by
 induction fr with
 | nil=>
  simp only[put,get]
  by_cases h:u=t
  ·subst h;simp
  ·have h1:Nat.beq u t=false:=by rw[← Bool.not_eq_true,Nat.beq_eq];exact h
   rw[h1,if_neg (Ne.symm h)];rfl
 | cons x r ih=>
  obtain⟨t',d'⟩:=x
  simp only[put]
  by_cases hb:t'=u
  ·subst hb
   simp only[Nat.beq_refl,cond_true,get]
   by_cases h:t'=t
   ·subst h;simp
   ·have h1:Nat.beq t' t=false:=by rw[← Bool.not_eq_true,Nat.beq_eq];exact h
    rw[h1,if_neg (Ne.symm h)];rfl
  ·have h1:Nat.beq t' u=false:=by rw[← Bool.not_eq_true,Nat.beq_eq];exact hb
   rw[h1]
   simp only[cond_false,get]
   by_cases h:t'=t
   ·subst h
    simp [hb]
   ·have h2:Nat.beq t' t=false:=by rw[← Bool.not_eq_true,Nat.beq_eq];exact h
    rw[h2]
    simpa using ih
theorem Jv {h:List Ob} {l:Nat} {o:Ob} (e:h[l]? = some o):l<h.length:=(List.getElem?_eq_some_iff.1 e).1
theorem KN {h:List Pl} {l:Nat} {o:Pl} (e:h[l]? = some o):l<h.length:=(List.getElem?_eq_some_iff.1 e).1
theorem q9 {w:World} {b:Nat} {o:Obj} (h:w.heap[b]? = some o):b<w.heap.size:=(Array.getElem?_eq_some_iff.1 h).1
theorem QW.lt {base:Nat} {h:List Ob} {pl:List Pl} {w:World} (R:QW Z base h pl w) {l b q:Nat} (e:pl[l]? = some (some (b,q))):b<w.heap.size∧∀o,h[l]? = some o→o.kd.ro=false→base≤b:=by
 have hl:l<h.length:=by have:=KN e;rw[R.len]at this;exact this
 obtain⟨hb,x⟩:=R.at_ l (h[l]) b q (List.getElem?_eq_getElem hl) e
 exact⟨x.lt,fun o ho hr=>by rw[List.getElem?_eq_getElem hl]at ho;cases ho;exact hb hr⟩
theorem Tr.ext {base:Nat} {h:List Ob} {pl:List Pl} {w w':World} (R:QW Z base h pl w) (e:∀b,b<w.heap.size→w'.heap[b]? = w.heap[b]?):Tr h pl w h pl w' where
 JP:=fun b hb Qd=>⟨hb,e b Qd⟩
 obj:=fun l o p ho hp=>⟨o,p,ho,hp,Nat.le_refl _,rfl,fun _=>⟨rfl,rfl⟩⟩
 shape:=fun l o o' b q ho Zg hg hp c el hb=>⟨c,by rw[e b (R.lt hp).1];exact hb,rfl⟩
theorem QW.ext {base:Nat} {h:List Ob} {pl:List Pl} {w w':World} (R:QW Z base h pl w) (e:∀b,b<w.heap.size→w'.heap[b]? = w.heap[b]?):QW Z base h pl w' where
 len:=R.len
 inj:=R.inj
 J2:=R.J2
 at_:=fun l o b q ho hp=>by
  obtain⟨h1,x⟩:=R.at_ l o b q ho hp
  exact⟨h1,x.to rfl rfl rfl (e b (R.lt hp).1) (fun _ _=>rfl) fun i j v _ _ hr=>hr.tr (Tr.ext R e)⟩
theorem Tr.refl (h:List Ob) (pl:List Pl) (w:World):Tr h pl w h pl w where
 JP:=fun b hb Qd=>⟨hb,rfl⟩
 obj:=fun l o p ho hp=>⟨o,p,ho,hp,Nat.le_refl _,rfl,fun _=>⟨rfl,rfl⟩⟩
 shape:=fun l o o' b q ho Zg hg hp c el hb=>⟨c,hb,rfl⟩
theorem Tr.trans {h h' XE:List Ob} {pl Qi A7:List Pl} {w w' A9:World} (T:Tr h pl w h' Qi w') (U:Tr h' Qi w' XE A7 A9):Tr h pl w XE A7 A9 where
 JP:=fun b hb Qd=>by
  obtain⟨h1,h2⟩:=T.JP b hb Qd
  have h3:b<w'.heap.size:=by
   rw[Array.getElem?_eq_getElem Qd]at h2
   exact(Array.getElem?_eq_some_iff.1 h2).1
  obtain⟨h4,h5⟩:=U.JP b h1 h3
  exact⟨h4,by rw[h5,h2]⟩
 obj:=fun l o p ho hp=>by
  obtain⟨o1,p1,a1,a2,a3,a4,a5⟩:=T.obj l o p ho hp
  obtain⟨o2,p2,b1,b2,b3,b4,b5⟩:=U.obj l o1 p1 a1 a2
  refine⟨o2,p2,b1,b2,Nat.le_trans a3 b3,by rw[b4,a4],fun e=>?_⟩
  obtain⟨x1,x2⟩:=a5 (by omega)
  obtain⟨y1,y2⟩:=b5 (by omega)
  exact⟨by rw[y1,x1],by rw[y2,x2]⟩
 shape:=fun l o IU b q ho CZ hg hp c el hb=>by
  obtain⟨o1,p1,a1,a2,a3,a4,a5⟩:=T.obj l o _ ho hp
  obtain⟨o2,p2,b1,b2,b3,b4,b5⟩:=U.obj l o1 p1 a1 a2
  rw[CZ]at b1;cases b1
  have e1:o1.gen=o.gen:=by omega
  obtain⟨x1,x2⟩:=a5 e1
  subst x2
  obtain⟨c1,d1,d2⟩:=T.shape l o o1 b q ho a1 e1 hp c el hb
  obtain⟨c2,f1,f2⟩:=U.shape l o1 IU b q a1 CZ (by omega) a2 c1 el d1
  exact⟨c2,f1,by omega⟩
theorem Rel.ext {base nt:Nat} {s:St} {pl:List Pl} {a:Act} {w w':World} (r:Rel Z base nt s pl a w) (e:∀b,b<w.heap.size→w'.heap[b]? = w.heap[b]?):Rel Z base nt s pl a w':=
 ⟨r.nt,r.defers,fun t=>(r.fr t).tr (Tr.ext r.o e),r.o.ext e⟩
theorem QbJ (tmps:Array Value) (d t:Nat) (v:Value) (hd:d<tmps.size):(tmps.setIfInBounds d v).getD t Go.undef=if t=d then v else tmps.getD t Go.undef:=by
 simp only[Array.getD_eq_getD_getElem?,Array.getElem?_setIfInBounds]
 by_cases h:d=t
 ·subst h;simp [hd]
 ·rw[if_neg h,if_neg (Ne.symm h)]
theorem Rel.to {base nt:Nat} {s:St} {pl:List Pl} {a:Act} {w:World} (r:Rel Z base nt s pl a w) {h':List Ob} {Qi:List Pl} {w':World} (T:Tr s.h pl w h' Qi w') (R':QW Z base h' Qi w')
  {t:Nat} (ht:t<nt) {d:D} {v:Value} (hv:Qv Z h' Qi w' d v):Rel Z base nt ⟨put s.fr t d,h'⟩ Qi (a.put (some t) v) w' where
 nt:=by simp [Act.put,r.nt]
 defers:=r.defers
 fr:=fun u=>by
  simp only[Act.put]
  rw[yB,QbJ _ _ _ _ (by rw[r.nt];exact ht)]
  by_cases h:u=t
  ·rw[if_pos h,if_pos h];exact hv
  ·rw[if_neg h,if_neg h];exact(r.fr u).tr T
 o:=R'
theorem Rel.zY {base nt:Nat} {s:St} {pl:List Pl} {a:Act} {w:World} (r:Rel Z base nt s pl a w) {h':List Ob} {Qi:List Pl} {w':World} (T:Tr s.h pl w h' Qi w') (R':QW Z base h' Qi w')
  (v:Value):Rel Z base nt ⟨s.fr,h'⟩ Qi (a.put none v) w':=
 ⟨r.nt,r.defers,fun u=>(r.fr u).tr T,R'⟩
theorem Fy {pl:List Pl} {p:Pl} {b:Nat} (hf:Vh pl b) (hp:∀q,p≠some (b,q)):Vh (pl++[p]) b:=fun l q e=>by
 by_cases hl:l<pl.length
 ·rw[List.getElem?_append_left hl]at e;exact hf l q e
 ·rw[List.getElem?_append_right (by omega)]at e
  have:l - pl.length=0:=by
   have:=(List.getElem?_eq_some_iff.1 e).1
   simp at this;exact this
  rw[this]at e
  simp at e
  exact hp q e
theorem jW {α:Type} {l:List α} {x y:α} {i:Nat} (e:l[i]? = some x):(l++[y])[i]? = some x:=by
 rw[List.getElem?_append_left (List.getElem?_eq_some_iff.1 e).1];exact e
theorem VT {α:Type} {l:List α} {x y:α} {i:Nat} (e:(l++[y])[i]? = some x):l[i]? = some x∨(i=l.length∧x=y):=by
 by_cases hl:i<l.length
 ·rw[List.getElem?_append_left hl]at e;exact .inl e
 ·rw[List.getElem?_append_right (by omega)]at e
  have h0:=(List.getElem?_eq_some_iff.1 e).1
  simp at h0
  have h1:i=l.length:=by omega
  subst h1
  simp at e
  exact .inr ⟨rfl,e.symm⟩
theorem qs (w:World) (o:Obj) (b:Nat) (h:b<w.heap.size):(w.alloc o).heap[b]? = w.heap[b]? := Below.heap_alloc w o b h
theorem Tr.push {base:Nat} {h:List Ob} {pl:List Pl} {w w':World} (R:QW Z base h pl w) (e:∀b,b<w.heap.size→w'.heap[b]? = w.heap[b]?) (ob:Ob) (p:Pl) (hp:∀b q,p=some (b,q)→w.heap.size≤b):Tr h pl w (h++[ob]) (pl++[p]) w' where
 JP:=fun b hb Qd=>⟨Fy hb fun q hq=>by have:=hp b q hq;omega,e b Qd⟩
 obj:=fun l o p ho hp=>⟨o,p,jW ho,jW hp,Nat.le_refl _,rfl,fun _=>⟨rfl,rfl⟩⟩
 shape:=fun l o o' b q ho Zg hg hp c el hb=>⟨c,by rw[e b (R.lt hp).1];exact hb,rfl⟩
theorem QW.Fz {base:Nat} {h:List Ob} {pl:List Pl} {w w':World} (R:QW Z base h pl w) (e:∀b,b<w.heap.size→w'.heap[b]? = w.heap[b]?) (ob:Ob) {b0 q0:Nat} (hp:w.heap.size≤b0) (QJ:base≤b0)
  (hx:Ju Z (h++[ob]) (pl++[some (b0,q0)]) w' ob b0 q0):QW Z base (h++[ob]) (pl++[some (b0,q0)]) w':=by
 have T:Tr h pl w (h++[ob]) (pl++[some (b0,q0)]) w':=Tr.push R e ob _ (by intro b q e;simp at e;omega)
 refine⟨by simp [R.len],?_,?_,?_⟩
 ·intro l l' b q q' e1 e2
  rcases VT e1 with h1|⟨h1,ZB⟩<;>rcases VT e2 with h2|⟨h2,WV⟩
  ·exact R.inj l l' b q q' h1 h2
  ·have:=(R.lt h1).1;simp at WV;omega
  ·have:=(R.lt h2).1;simp at ZB;omega
  ·omega
 ·intro l o ho e1
  rcases VT e1 with h1|⟨h1,ZB⟩
  ·rcases VT ho with h2|⟨h2,WV⟩
   ·exact R.J2 l o h2 h1
   ·have:=KN h1;have:=R.len;omega
  ·simp at ZB
 ·intro l o b q ho Q4
  rcases VT Q4 with h1|⟨h1,ZB⟩
  ·rcases VT ho with h2|⟨h2,WV⟩
   ·obtain⟨g1,x⟩:=R.at_ l o b q h2 h1
    exact⟨g1,x.to rfl rfl rfl (e b (R.lt h1).1) (fun _ _=>rfl) fun i j v _ _ hr=>hr.tr T⟩
   ·have:=KN h1;have:=R.len;omega
  ·rcases VT ho with h2|⟨h2,WV⟩
   ·have:=Jv h2;have:=R.len;omega
   ·subst WV
    simp at ZB
    obtain⟨rfl,rfl⟩:=ZB
    exact⟨fun _=>QJ,hx⟩
theorem QW.push {base:Nat} {h:List Ob} {pl:List Pl} {w w':World} (R:QW Z base h pl w) (e:∀b,b<w.heap.size→w'.heap[b]? = w.heap[b]?) (ob:Ob) (hk:ob.kd.ty=0) {b0 q0:Nat} (hp:w.heap.size≤b0) (QJ:base≤b0)
  {c:Array Value} {el:TypeId} (hb:w'.heap[b0]? = some (.cells c el (0,0))) (ZC:q0+ob.n*ob.sz≤c.size) (Z6:∀i,i<ob.n→(ob.row i).length=ob.sz)
  (ZR:∀i j,i<ob.n→j<ob.sz→∃v,c[q0+(i*ob.sz+j)]? = some v∧Qv Z (h++[ob]) (pl++[some (b0,q0)]) w' (nth (ob.row i) j) v):QW Z base (h++[ob]) (pl++[some (b0,q0)]) w':=
 R.Fz e ob hp QJ (.CY hk ⟨c,el,hb,ZC,Z6,ZR⟩)
theorem QW.wV {base:Nat} {h:List Ob} {pl:List Pl} {w:World} (R:QW Z base h pl w) (ob:Ob) (hn:ob.n=0):QW Z base (h++[ob]) (pl++[none]) w:=by
 have T:Tr h pl w (h++[ob]) (pl++[none]) w:=Tr.push R (fun _ _=>rfl) ob _ (by intro b q e;simp at e)
 refine⟨by simp [R.len],?_,?_,?_⟩
 ·intro l l' b q q' e1 e2
  rcases VT e1 with h1|⟨h1,ZB⟩
  ·rcases VT e2 with h2|⟨h2,WV⟩
   ·exact R.inj l l' b q q' h1 h2
   ·simp at WV
  ·simp at ZB
 ·intro l o ho e1
  rcases VT ho with h2|⟨h2,WV⟩
  ·rcases VT e1 with h1|⟨h1,ZB⟩
   ·exact R.J2 l o h2 h1
   ·have:=Jv h2;have:=R.len;omega
  ·subst WV;exact hn
 ·intro l o b q ho Q4
  rcases VT Q4 with h1|⟨h1,ZB⟩
  ·rcases VT ho with h2|⟨h2,WV⟩
   ·obtain⟨g1,x⟩:=R.at_ l o b q h2 h1
    exact⟨g1,x.to rfl rfl rfl rfl (fun _ _=>rfl) fun i j v _ _ hr=>hr.tr T⟩
   ·have:=KN h1;have:=R.len;omega
  ·simp at ZB
theorem Tr.Za {base:Nat} {h:List Ob} {pl:List Pl} {w w':World} (R:QW Z base h pl w) {l:Nat} {o o':Ob} {b q:Nat} (ho:h[l]? = some o) (hp:pl[l]? = some (some (b,q))) (Ja:o'.kd.ty=o.kd.ty) (hg:o'.gen=o.gen) (hz:o'.sz=o.sz)
  (e:∀k,k≠b→k<w.heap.size→w'.heap[k]? = w.heap[k]?) (ZW:∀c el,w.heap[b]? = some (.cells c el (0,0))→∃c',w'.heap[b]? = some (.cells c' el (0,0))∧c'.size=c.size):Tr h pl w (h.set l o') pl w' where
 JP:=fun k hk Qd=>⟨hk,e k (fun hb=>hk l q (by rw[hb];exact hp)) Qd⟩
 obj:=fun l' o1 p Zp WW=>by
  by_cases hl:l=l'
  ·subst hl
   rw[ho]at Zp;cases Zp
   exact⟨o',p,by simp [Jv ho],WW,by omega,Ja,fun _=>⟨hz,rfl⟩⟩
  ·exact⟨o1,p,by rw[List.getElem?_set_ne hl];exact Zp,WW,Nat.le_refl _,rfl,fun _=>⟨rfl,rfl⟩⟩
 shape:=fun l' o1 o2 b1 q1 Zp KO jV WW c el hb=>by
  by_cases hl:b1=b
  ·subst hl;exact ZW c el hb
  ·exact⟨c,by rw[e b1 hl (R.lt WW).1];exact hb,rfl⟩
theorem QW.QbK {base:Nat} {h:List Ob} {pl:List Pl} {w w':World} (R:QW Z base h pl w) {l:Nat} {o o':Ob} {b q:Nat} (ho:h[l]? = some o) (hp:pl[l]? = some (some (b,q)))
  (T:Tr h pl w (h.set l o') pl w') (e:∀k,k≠b→k<w.heap.size→w'.heap[k]? = w.heap[k]?) (hx:Ju Z (h.set l o') pl w' o' b q) (hro:o'.kd.ro=o.kd.ro):QW Z base (h.set l o') pl w':=by
 refine⟨by simp [R.len],R.inj,?_,?_⟩
 ·intro l' o1 Zp WW
  by_cases hl:l=l'
  ·subst hl;rw[hp]at WW;cases WW
  ·rw[List.getElem?_set_ne hl]at Zp;exact R.J2 l' o1 Zp WW
 ·intro l' o1 b1 q1 Zp WW
  by_cases hl:l=l'
  ·subst hl
   rw[hp]at WW;cases WW
   have:(h.set l o')[l]? = some o':=by simp [Jv ho]
   rw[this]at Zp;cases Zp
   exact⟨fun hr=>(R.lt hp).2 o ho (by rw[← hro,hr]),hx⟩
  ·rw[List.getElem?_set_ne hl]at Zp
   obtain⟨g1,x⟩:=R.at_ l' o1 b1 q1 Zp WW
   have QD:b1≠b:=fun yC=>hl (R.inj l l' b q q1 hp (by rw[← yC];exact WW))
   exact⟨g1,x.to rfl rfl rfl (e b1 QD (R.lt WW).1) (fun _ _=>rfl) fun i j v _ _ hr=>hr.tr T⟩
theorem QW.Za {base:Nat} {h:List Ob} {pl:List Pl} {w w':World} (R:QW Z base h pl w) {l:Nat} {o o':Ob} {b q:Nat} (ho:h[l]? = some o) (hp:pl[l]? = some (some (b,q))) (hk:o.kd.ty=0) (Zq:o'.kd.ty=0) (hg:o'.gen=o.gen) (hz:o'.sz=o.sz)
  (e:∀k,k≠b→k<w.heap.size→w'.heap[k]? = w.heap[k]?) {c0 c:Array Value} {el:TypeId} (Zf:w.heap[b]? = some (.cells c0 el (0,0))) (hb:w'.heap[b]? = some (.cells c el (0,0))) (hc:c.size=c0.size)
  (ZC:q+o'.n*o'.sz≤c.size) (Z6:∀i,i<o'.n→(o'.row i).length=o'.sz)
  (ZR:∀i j,i<o'.n→j<o'.sz→∃v,c[q+(i*o'.sz+j)]? = some v∧Qv Z (h.set l o') pl w' (nth (o'.row i) j) v) (hro:o'.kd.ro=o.kd.ro):QW Z base (h.set l o') pl w':=
 R.QbK (hro:=hro) ho hp (Tr.Za R ho hp (by rw[hk,Zq]) hg hz e (fun c1 Pc h1=>by rw[Zf]at h1;cases h1;exact⟨c,hb,hc⟩)) e (.CY Zq ⟨c,el,hb,ZC,Z6,ZR⟩)
variable {Z:Nat→Prop}
inductive TK where
 | int (k:IntKind)|bool|str|slice (e:TypeId)|array (n:Nat) (e:TypeId)|struct (fs:List (Nat × TypeId))|ptr (e:TypeId)|map (k e:TypeId)|fn|iface|other
def TK.of:TypeDesc→TK
 | .int k=>.int k
 | .bool=>.bool
 | .string=>.str
 | .slice e=>.slice e
 | .array n e=>.array n e
 | .struct fs=>.struct (fs.toList.map fun f=>(f.offset,f.type))
 | .pointer e=>.ptr e
 | .map k e=>.map k e
 | .func _ _ _=>.fn
 | .interface _=>.iface
 | _=>.other
structure Ty where
 k:TK
 size:Nat
 bytes:Nat
 zero:List Value
def TK.agg:TK→Bool
 | .struct _ | .array _ _=>true
 | _=>false
def IV:Value→Bool
 | .agg _=>true
 | _=>false
structure KP (P:Program) (t:TypeId) (y:Ty):Prop where
 k:(P.underlying t).map TK.of=some y.k
 info:(P.info? t).map (fun i=>(i.size,i.bytes,i.zero.map fun z=>z.cells.toList))=some (y.size,y.bytes,some y.zero)
 zag:((P.info? t).bind (·.zero)).map IV=some y.k.agg
abbrev Zh:=List (TypeId × Ty)
def ty:Zh→TypeId→Option Ty
 | [],_=>none
 | (u,y)::r,t=>bif Nat.beq u t then some y else ty r t
def Zw (P:Program) (L:Zh):Prop:=∀t y,ty L t=some y→KP P t y
theorem Zw.nil (P:Program):Zw P []:=fun _ _ h=>by simp [ty]at h
theorem Zw.cons {P:Program} {L:Zh} {t:TypeId} {y:Ty} (h:KP P t y) (r:Zw P L):Zw P ((t,y)::L):=fun u z e=>by
 simp only[ty]at e
 by_cases hu:t=u
 ·subst hu;simp at e;subst e;exact h
 ·have:Nat.beq t u=false:=by rw[← Bool.not_eq_true,Nat.beq_eq];exact hu
  rw[this]at e;exact r u z e
section
variable {P:Program} {t:TypeId} {y:Ty} (h:KP P t y)
include h
theorem KP.under:∃d,P.underlying t=some d∧TK.of d=y.k:=by
 have:=h.k
 cases hd:P.underlying t with
 | none=>rw[hd]at this;cases this
 | some d=>rw[hd]at this;exact⟨d,rfl,by simpa using this⟩
theorem KP.sizeOf (w:World):(Go.sizeOf t).run P w=.ok y.size w:=by
 have:=h.info
 cases hi:P.info? t with
 | none=>rw[hi]at this;cases this
 | some i=>
  rw[hi]at this
  simp at this
  simp [Go.sizeOf,typeInfo,hi,this.1]
theorem KP.typeInfo (w:World):∃i,(Go.typeInfo t).run P w=.ok i w∧i.size=y.size∧i.bytes=y.bytes:=by
 have:=h.info
 cases hi:P.info? t with
 | none=>rw[hi]at this;cases this
 | some i=>
  rw[hi]at this
  simp at this
  exact⟨i,by simp [Go.typeInfo,hi],this.1,this.2.1⟩
theorem KP.zeroValue:∃z,z.cells.toList=y.zero∧∀w,(Go.zeroValue t).run P w=.ok z w:=by
 have:=h.info
 cases hi:P.info? t with
 | none=>rw[hi]at this;cases this
 | some i=>
  rw[hi]at this
  simp at this
  obtain⟨_,_,z,hz,Pd⟩:=this
  exact⟨z,Pd,fun w=>by simp [Go.zeroValue,Go.typeInfo,hi,hz]⟩
theorem KP.isAgg (w:World):(Go.isAgg t).run P w=.ok y.k.agg w:=by
 obtain⟨d,hd,he⟩:=h.under
 rw[← he]
 cases d<;>simp [Go.isAgg,run_underlying hd,TK.of,TK.agg]
end
theorem TK.of_slice {d:TypeDesc} {e:TypeId} (h:TK.of d=.slice e):d=.slice e:=by cases d<;>simp [TK.of]at h;rw[h]
theorem TK.of_array {d:TypeDesc} {n:Nat} {e:TypeId} (h:TK.of d=.array n e):d=.array n e:=by cases d<;>simp [TK.of]at h;rw[h.1,h.2]
theorem TK.of_struct {d:TypeDesc} {fs:List (Nat × TypeId)} (h:TK.of d=.struct fs):∃g,d=.struct g∧g.toList.map (fun f=>(f.offset,f.type))=fs:=by cases d<;>simp [TK.of]at h;exact⟨_,rfl,by simpa using h⟩
theorem TK.of_int {d:TypeDesc} {k:IntKind} (h:TK.of d=.int k):d=.int k:=by cases d<;>simp [TK.of]at h;rw[h]
theorem TK.of_bool {d:TypeDesc} (h:TK.of d=.bool):d=.bool:=by cases d<;>simp [TK.of]at h;rfl
theorem TK.QbM {d:TypeDesc} (h:TK.of d=.str):d=.string:=by cases d<;>simp [TK.of]at h;rfl
theorem TK.QbN {d:TypeDesc} {e:TypeId} (h:TK.of d=.ptr e):d=.pointer e:=by cases d<;>simp [TK.of]at h;rw[h]
theorem TK.of_map {d:TypeDesc} {k e:TypeId} (h:TK.of d=.map k e):d=.map k e:=by cases d<;>simp [TK.of]at h;rw[h.1,h.2]
theorem zZ {P:Program} {t e:TypeId} {y:Ty} (h:KP P t y) (hk:y.k=.slice e):P.underlying t=some (.slice e):=by
 obtain⟨d,hd,he⟩:=h.under;rw[hk]at he;rw[hd,TK.of_slice he]
theorem Pe {P:Program} {t e:TypeId} {n:Nat} {y:Ty} (h:KP P t y) (hk:y.k=.array n e):P.underlying t=some (.array n e):=by
 obtain⟨d,hd,he⟩:=h.under;rw[hk]at he;rw[hd,TK.of_array he]
theorem bx {P:Program} {t:TypeId} {fs:List (Nat × TypeId)} {y:Ty} (h:KP P t y) (hk:y.k=.struct fs):∃g,P.underlying t=some (.struct g)∧g.toList.map (fun f=>(f.offset,f.type))=fs:=by
 obtain⟨d,hd,he⟩:=h.under;rw[hk]at he;obtain⟨g,hg,hm⟩:=TK.of_struct he;exact⟨g,by rw[hd,hg],hm⟩
theorem wW {P:Program} {t:TypeId} {k:IntKind} {y:Ty} (h:KP P t y) (hk:y.k=.int k):P.underlying t=some (.int k):=by
 obtain⟨d,hd,he⟩:=h.under;rw[hk]at he;rw[hd,TK.of_int he]
theorem QbO {P:Program} {t:TypeId} {y:Ty} (h:KP P t y) (hk:y.k=.bool):P.underlying t=some .bool:=by
 obtain⟨d,hd,he⟩:=h.under;rw[hk]at he;rw[hd,TK.of_bool he]
theorem FA {P:Program} {t:TypeId} {y:Ty} (h:KP P t y) (hk:y.k=.str):P.underlying t=some .string:=by
 obtain⟨d,hd,he⟩:=h.under;rw[hk]at he;rw[hd,TK.QbM he]
theorem QbP {P:Program} {t e:TypeId} {y:Ty} (h:KP P t y) (hk:y.k=.ptr e):P.underlying t=some (.pointer e):=by
 obtain⟨d,hd,he⟩:=h.under;rw[hk]at he;rw[hd,TK.QbN he]
theorem Ba {P:Program} {t k e:TypeId} {y:Ty} (h:KP P t y) (hk:y.k=.map k e):P.underlying t=some (.map k e):=by
 obtain⟨d,hd,he⟩:=h.under;rw[hk]at he;rw[hd,TK.of_map he]
def ZT:Value→D
 | .slice none 0 0=>.nil
 | v=>.raw v
def VU:Value→D
 | .agg cs=>.agg (cs.toList.map ZT)
 | v=>ZT v
def Qq (fr:List (Nat × D)):Operand→D
 | .tmp t=>get fr t
 | .const v=>VU v
 | .global _=>.undef
 | .func f=>.raw (.func (.func f) #[] #[])
theorem vC (N:Nat→Prop) (w:World) (v:Value):Cl N w (ZT v) v:=by
 unfold ZT
 split
 ·exact .nil none
 ·exact .raw _
theorem QbQ (N:Nat→Prop) (w:World) (v:Value):Cl N w (VU v) v:=by
 unfold VU
 split
 ·rename_i cs
  have:=Cl.agg (N:=N) (w:=w) (cs.toList.map ZT) cs.toList (by simp) (fun i hi=>by
   have ZH:i<cs.size:=by simpa using hi
   simp only[nth,QL,List.getD_eq_getElem?_getD,List.getElem?_map]
   rw[List.getElem?_eq_getElem (by simpa using ZH)]
   exact vC N w _)
  simpa using this
 ·exact vC N w _
theorem Rel.eval {base nt:Nat} {s:St} {pl:List Pl} {a:Act} {w:World} (r:Rel Z base nt s pl a w) (x:Operand):Qv Z s.h pl w (Qq s.fr x) (a.eval x):=by
 cases x with
 | tmp t=>exact r.fr t
 | const v=>exact .cl _ _ (QbQ _ _ v)
 | global g=>exact .cl _ _ (.undef _)
 | func f=>exact .cl _ _ (.raw _)
section
variable {h:List Ob} {pl:List Pl} {w:World} {v:Value}
theorem ZD {u:Value} (r:Qv Z h pl w (.raw u) v):v=u:=by
 cases r with|cl _ _ hc=>cases hc;rfl
theorem yD (r:Qv Z h pl w .nil v):∃a,v=.slice a 0 0:=by
 cases r with|cl _ _ hc=>cases hc;exact⟨_,rfl⟩
theorem yE {l g off len:Nat} (r:Qv Z h pl w (.ref l g off len) v):∃o p a cap,v=.slice a len cap∧h[l]? = some o∧pl[l]? = some p∧o.kd.ty=0∧g≤o.gen∧(g=o.gen→bu w o.sz p off len a cap):=by
 cases r with
 | cl _ _ hc=>cases hc
 | ref _ _ _ _ o p a cap ho hp hk hg hs=>exact⟨o,p,a,cap,rfl,ho,hp,hk,hg,hs⟩
theorem wX {l g i j:Nat} (r:Qv Z h pl w (.ptr l g i j) v):∃o p a,v=.pointer (some a)∧h[l]? = some o∧pl[l]? = some p∧o.kd.ty=0∧g≤o.gen∧(g=o.gen→∃b q,p=some (b,q)∧a=⟨b,q+(i*o.sz+j),none⟩):=by
 cases r with
 | cl _ _ hc=>cases hc
 | ptr _ _ _ _ o p a ho hp hk hg hs=>exact⟨o,p,a,rfl,ho,hp,hk,hg,hs⟩
theorem Bb {l g:Nat} (r:Qv Z h pl w (.mref l g) v):∃o p b,h[l]? = some o∧pl[l]? = some p∧bt o.kd.ty b v∧g≤o.gen∧(g=o.gen→p=some (b,0)):=by
 cases r with
 | cl _ _ hc=>cases hc
 | mref _ _ o p b ho hp hk hg hs=>exact⟨o,p,b,ho,hp,hk,hg,hs⟩
theorem Da {cs:List D} (r:Qv Z h pl w (.agg cs) v):∃vs:List Value,v=.agg vs.toArray∧vs.length=cs.length∧∀i,i<cs.length→Qv Z h pl w (nth cs i) (QL vs i):=by
 cases r with
 | cl _ _ hc=>cases hc with|agg _ vs hl hr=>exact⟨vs,rfl,hl,fun i hi=>.cl _ _ (hr i hi)⟩
 | agg _ vs hl hr=>exact⟨vs,rfl,hl,hr⟩
theorem QbR {cs:List D} (r:Qv Z h pl w (.tup cs) v):∃vs:List Value,v=.tuple vs.toArray∧vs.length=cs.length∧∀i,i<cs.length→Qv Z h pl w (nth cs i) (QL vs i):=by
 cases r with
 | cl _ _ hc=>cases hc with|tup _ vs hl hr=>exact⟨vs,rfl,hl,fun i hi=>.cl _ _ (hr i hi)⟩
 | tup _ vs hl hr=>exact⟨vs,rfl,hl,hr⟩
theorem Pf {f:FuncId} {nf:Nat} {cs:List D} (r:Qv Z h pl w (.clo f nf cs) v):∃vs:List Value,v=.func (.func f) (vs.take nf).toArray (vs.drop nf).toArray∧vs.length=cs.length∧∀i,i<cs.length→Qv Z h pl w (nth cs i) (QL vs i):=by
 cases r with
 | cl _ _ hc=>cases hc with|clo _ _ _ vs hl hr=>exact⟨vs,rfl,hl,fun i hi=>.cl _ _ (hr i hi)⟩
 | clo _ _ _ vs hl hr=>exact⟨vs,rfl,hl,hr⟩
theorem Bc {cs:List D} (r:Qv Z h pl w (.ip cs) v):∃b o,∃vs:Nat→Value,v=.pointer (some ⟨b,o,none⟩)∧∀j,j<cs.length→(free Z pl b∧w.cell? ⟨b,o+j,none⟩=some (vs j))∧Cl (free Z pl) w (nth cs j) (vs j):=by
 cases r with
 | cl _ _ hc=>cases hc with|ip _ b o vs hc hr=>exact⟨b,o,vs,rfl,fun j hj=>⟨hc j hj,hr j hj⟩⟩
theorem IW {sz n:Nat} {row:Nat→List D} (r:Qv Z h pl w (.imm sz n row) v):∃a cap b o,∃vs:Nat→Nat→Value,v=.slice a n cap∧(0<n→a=some ⟨b,o,none⟩)∧n≤cap∧(∀i,i<n→(row i).length=sz) ∧
  ∀i j,i<n→j<sz→(free Z pl b∧w.cell? ⟨b,o+(i*sz+j),none⟩=some (vs i j))∧Cl (free Z pl) w (nth (row i) j) (vs i j):=by
 cases r with
 | cl _ _ hc=>cases hc with|imm _ _ _ a cap b o vs ha hl hs hc hr=>exact⟨a,cap,b,o,vs,rfl,ha,hl,hs,fun i j hi hj=>⟨hc i j hi hj,hr i j hi hj⟩⟩
end
def Kt (P:Program) (base nt:Nat) (o:Oper) (s:St) (d:D):Prop:=
 ∀(Z:Nat→Prop) pl a w,Rel Z base nt s pl a w→∃v,Qv Z s.h pl w d v∧∀w':World,(∀b,b<w.heap.size→w'.heap[b]? = w.heap[b]?)→(execOp a.eval o).run P w'=.ok (.value v) w'
theorem QbS {w w':World} (e:∀b,b<w.heap.size→w'.heap[b]? = w.heap[b]?) {a:Addr} {v:Value} (h:w.cell? a=some v):w'.cell? a=some v:=by
 rw[World.cell?_of_block (w:=w) (e a.block (block_lt_of_cell h))];exact h
def XF (w w':World):Prop:=∀(a:Addr) (v:Value),w.cell? a=some v→w'.cell? a=some v
theorem XF.trans {a b c:World} (h:XF a b) (k:XF b c):XF a c:=fun x v hx=>k x v (h x v hx)
theorem XF.ext {w w':World} (e:∀b,b<w.heap.size→w'.heap[b]? = w.heap[b]?):XF w w':=fun _ _ h=>QbS e h
def IX (P:Program) (base nt:Nat) (o:Oper) (s:St) (d:D):Prop:=
 ∀(Z:Nat→Prop) pl a w,Rel Z base nt s pl a w→∃v,Qv Z s.h pl w d v∧∀w':World,XF w w'→(execOp a.eval o).run P w'=.ok (.value v) w'
theorem IX.up {P:Program} {base nt:Nat} {o:Oper} {s:St} {d:D} (h:IX P base nt o s d):Kt P base nt o s d:=fun Z pl a w r=>by
 obtain⟨v,h1,h2⟩:=h Z pl a w r
 exact⟨v,h1,fun w' e=>h2 w' (.ext e)⟩
abbrev Ev:=Option (Prop × D)
def IY (op:BinOp) (k:IntKind) (a b:Int):Ev:=
 match op with
 | .add=>some (True,.raw (.int k (k.wrap (a+b))))
 | .sub=>some (True,.raw (.int k (k.wrap (a - b))))
 | .mul=>some (True,.raw (.int k (k.wrap (a*b))))
 | .quo=>some (b≠0,.raw (.int k (k.wrap (a.tdiv b))))
 | .rem=>some (b≠0,.raw (.int k (a.tmod b)))
 | .and=>some (True,.raw (.int k (bits .and k a b)))
 | .or=>some (True,.raw (.int k (bits .or k a b)))
 | .xor=>some (True,.raw (.int k (bits .xor k a b)))
 | .andNot=>some (True,.raw (.int k (bits .andNot k a b)))
 | .eql=>some (True,.raw (.bool (a==b)))
 | .neq=>some (True,.raw (.bool (a != b)))
 | .lss=>some (True,.raw (.bool (decide (a<b))))
 | .leq=>some (True,.raw (.bool (decide (a≤b))))
 | .gtr=>some (True,.raw (.bool (decide (b<a))))
 | .geq=>some (True,.raw (.bool (decide (b≤a))))
 | _=>none
def IZ (op:BinOp) (k:IntKind) (a b:Int):Ev:=
 match op with
 | .shl=>some (0≤b,.raw (.int k (k.wrap (a*2 ^ (min b.toNat k.bits)))))
 | .shr=>some (0≤b,.raw (.int k (a.fdiv (2 ^ (min b.toNat k.bits)))))
 | _=>none
def IntKind.same:IntKind→IntKind→Bool
 | .i8,.i8 | .i16,.i16 | .i32,.i32 | .i64,.i64 | .u8,.u8 | .u16,.u16 | .u32,.u32 | .u64,.u64=>true
 | _,_=>false
theorem IntKind.bA {k k':IntKind} (h:IntKind.same k k'=true):k=k':=by cases k<;>cases k'<;>first|rfl|cases h
def Pg:BinOp→Bool
 | .shl | .shr=>true
 | _=>false
def La (op:BinOp) (a b:Bool):Ev:=
 match op with
 | .eql=>some (True,.raw (.bool (a==b)))
 | .neq=>some (True,.raw (.bool (a != b)))
 | _=>none
def Lb (op:BinOp) (a b:ByteArray):Ev:=
 match op with
 | .add=>some (a.size+b.size≤9223372036854775807,.raw (.string (a++b)))
 | .eql=>some (True,.raw (.bool (a.toList==b.toList)))
 | .neq=>some (True,.raw (.bool (!(a.toList==b.toList))))
 | .lss=>some (True,.raw (.bool (Op.bytesLess a.toList b.toList)))
 | _=>none
def yF (op:BinOp) (both:Bool):Ev:=
 match op with
 | .eql=>some (True,.raw (.bool both))
 | .neq=>some (True,.raw (.bool (!both)))
 | _=>none
def yG (L:Zh) (t:TypeId):Bool:=match ty L t with|some ⟨.ptr _,_,_,_⟩=>true|_=>false
def Lc (L:Zh) (t:TypeId):Bool:=match ty L t with|some ⟨.bool,_,_,_⟩=>true|_=>false
def Ld (L:Zh) (op:BinOp) (t:TypeId):D→D→Ev
 | .raw (.int k a),.raw (.int k' b)=>bif Pg op then IZ op k a b else bif IntKind.same k k' then IY op k a b else none
 | .raw (.bool a),.raw (.bool b)=>bif Lc L t then La op a b else none
 | .raw (.string a),.raw (.string b)=>Lb op a b
 | .raw (.pointer none),.raw (.pointer none)=>bif yG L t then yF op true else none
 | .ptr _ _ _ _,.raw (.pointer none)=>bif yG L t then yF op false else none
 | .ip _,.raw (.pointer none)=>bif yG L t then yF op false else none
 | .raw (.pointer none),.ptr _ _ _ _=>bif yG L t then yF op false else none
 | .raw (.pointer none),.ip _=>bif yG L t then yF op false else none
 | _,_=>none
theorem QbT (P:Program) (w:World) {s:Sem Value} {v:Value} (h:s.run P w=.ok v w):(do pure (Next.value (← s)):Sem Next).run P w=.ok (.value v) w:=by
 simp [h]
theorem QbU {P:Program} {op:BinOp} {k:IntKind} {a b:Int} {p:Prop} {d:D} (t:TypeId) (h:IY op k a b=some (p,d)) (hp:p):∃v,d=.raw v∧∀w,(Go.binOp op t (.int k a) (.int k b)).run P w=.ok v w:=by
 cases op<;>simp only[IY,Option.some.injEq,Prod.mk.injEq,reduceCtorEq]at h<;>obtain⟨rfl,rfl⟩:=h<;>refine⟨_,rfl,fun w=>?_⟩ <;>
  simp_all [Go.binOp,Op.intArith,Op.intDiv,Op.intBits,Op.intCmp,bits]
theorem QbV {P:Program} {op:BinOp} {k k':IntKind} {a b:Int} {p:Prop} {d:D} (t:TypeId) (h:IZ op k a b=some (p,d)) (hp:p):∃v,d=.raw v∧∀w,(Go.binOp op t (.int k a) (.int k' b)).run P w=.ok v w:=by
 cases op<;>simp only[IZ,Option.some.injEq,Prod.mk.injEq,reduceCtorEq]at h<;>obtain⟨rfl,rfl⟩:=h<;>refine⟨_,rfl,fun w=>?_⟩ <;>
  (have:¬ b<0:=by omega
   simp [Go.binOp,Op.shift,this])
theorem QbW {P:Program} {op:BinOp} {a b:ByteArray} {p:Prop} {d:D} (t:TypeId) (h:Lb op a b=some (p,d)) (hp:p):∃v,d=.raw v∧∀w,(Go.binOp op t (.string a) (.string b)).run P w=.ok v w:=by
 cases op<;>simp only[Lb,Option.some.injEq,Prod.mk.injEq,reduceCtorEq]at h<;>obtain⟨rfl,rfl⟩:=h<;>refine⟨_,rfl,fun w=>?_⟩ <;>
  simp [Go.binOp,Op.stringOp]
 omega
theorem QbX {P:Program} {t e:TypeId} (ht:P.underlying t=some (.pointer e)) (n:Nat) {x y:Option Addr} (YF:x=none∨y=none) (w:World):(Op.equalIn (n+1) t (.pointer x) (.pointer y)).run P w=.ok (x.isNone&&y.isNone) w:=by
 rcases YF with rfl|rfl
 ·simp [Op.equalIn,run_underlying ht]
 ·cases x<;>simp [Op.equalIn,run_underlying ht]
theorem bB {P:Program} {t:TypeId} {x y:Value} {b:Bool} {w:World} (hb:∀n,(Op.equalIn (n+1) t x y).run P w=.ok b w):(Op.equal t x y).run P w=.ok b w:=hb 9999
theorem QbY {P:Program} {op:BinOp} {a b:Bool} {p:Prop} {d:D} (t:TypeId) (ht:P.underlying t=some .bool) (h:La op a b=some (p,d)):∃v,d=.raw v∧∀w,(Go.binOp op t (.bool a) (.bool b)).run P w=.ok v w:=by
 have he:∀w,(Op.equal t (.bool a) (.bool b)).run P w=.ok (a==b) w:=fun w=>bB fun n=>run_equalIn_bool' w n t a b ht
 cases op<;>simp only[La,Option.some.injEq,Prod.mk.injEq,reduceCtorEq]at h<;>obtain⟨rfl,rfl⟩:=h<;>refine⟨_,rfl,fun w=>?_⟩<;>simp only[Go.binOp]
 ·simp [he]
 ·simp [he,bne]
theorem FB {P:Program} {op:BinOp} {x y:Option Addr} (YF:x=none∨y=none) {p:Prop} {d:D} {t e:TypeId} (ht:P.underlying t=some (.pointer e)) (h:yF op (x.isNone&&y.isNone)=some (p,d)):∃v,d=.raw v∧∀w,(Go.binOp op t (.pointer x) (.pointer y)).run P w=.ok v w:=by
 have he:∀w,(Op.equal t (.pointer x) (.pointer y)).run P w=.ok (x.isNone&&y.isNone) w:=fun w=>bB fun n=>QbX ht n YF w
 cases op<;>simp only[yF,Option.some.injEq,Prod.mk.injEq,reduceCtorEq]at h<;>obtain⟨rfl,rfl⟩:=h<;>refine⟨_,rfl,fun w=>?_⟩<;>simp only[Go.binOp]
 ·simp [he]
 ·simp [he]
theorem FC {P:Program} {L:Zh} (hL:Zw P L) {t:TypeId} (h:yG L t=true):∃e,P.underlying t=some (.pointer e):=by
 unfold yG at h
 split at h
 ·rename_i e _ _ _ he;exact⟨e,QbP (hL _ _ he) rfl⟩
 ·cases h
theorem QbZ {P:Program} {L:Zh} (hL:Zw P L) {t:TypeId} (h:Lc L t=true):P.underlying t=some .bool:=by
 unfold Lc at h
 split at h
 ·rename_i he;exact QbO (hL _ _ he) rfl
 ·cases h
theorem YG {α:Type} {c:Bool} {x:Option α} {y:α} (h:(bif c then x else none)=some y):c=true∧x=some y:=by cases c<;>simp at h;exact⟨rfl,h⟩
theorem Qb0 {P:Program} {L:Zh} (hL:Zw P L) {base nt:Nat} {s:St} {o:Oper} {op:BinOp} {t yt:TypeId} {x y:Operand} (ho:o.op=.binOp op t x y yt) {p:Prop} {d:D}
  (h:Ld L op t (Qq s.fr x) (Qq s.fr y)=some (p,d)) (hp:p):Kt P base nt o s d:=by
 intro Z pl a w r
 have hx:=r.eval x
 have hy:=r.eval y
 generalize Qq s.fr x=dx at *
 generalize Qq s.fr y=dy at *
 have fin:∀(vx vy:Value),a.eval x=vx→a.eval y=vy→(∀w,(eqGuard op t x y vx vy).run P w=.ok () w)→(∃v,d=.raw v∧∀w,(Go.binOp op t vx vy).run P w=.ok v w) →
   ∃v,Qv Z s.h pl w d v∧∀w':World,(∀b,b<w.heap.size→w'.heap[b]? = w.heap[b]?)→(execOp a.eval o).run P w'=.ok (.value v) w':=by
  intro vx vy e1 e2 hg ⟨v,hd,hv⟩
  refine⟨v,hd▸.cl _ _ (.raw v),fun w' _=>?_⟩
  simp only[execOp,ho,e1,e2]
  refine QbT P w' ?_
  simp [hg,hv]
 unfold Ld at h
 split at h
 ·rename_i k i k' j
  have e1:=ZD hx;have e2:=ZD hy
  refine fin _ _ e1 e2 (fun w=>by cases op<;>simp [eqGuard]) ?_
  cases hs:Pg op
  ·rw[hs]at h
   simp only[cond_false]at h
   obtain⟨hk,h1⟩:=YG h
   have:=IntKind.bA hk;subst this
   exact QbU t h1 hp
  ·rw[hs]at h
   exact QbV t h hp
 ·obtain⟨ht,h⟩:=YG h
  exact fin _ _ (ZD hx) (ZD hy) (fun w=>by cases op<;>simp [eqGuard]) (QbY t (QbZ hL ht) h)
 ·exact fin _ _ (ZD hx) (ZD hy) (fun w=>by cases op<;>simp [eqGuard]) (QbW t h hp)
 ·obtain⟨ht,h⟩:=YG h
  obtain⟨e,he⟩:=FC hL ht
  exact fin _ _ (ZD hx) (ZD hy) (fun w=>by cases op<;>simp [eqGuard]) (FB (.inl rfl) he h)
 ·obtain⟨ht,h⟩:=YG h
  obtain⟨e,he⟩:=FC hL ht
  obtain⟨_,_,aa,hv,_⟩:=wX hx
  exact fin _ _ hv (ZD hy) (fun w=>by cases op<;>simp [eqGuard]) (FB (.inr rfl) he h)
 ·obtain⟨ht,h⟩:=YG h
  obtain⟨e,he⟩:=FC hL ht
  obtain⟨_,_,_,hv,_⟩:=Bc hx
  exact fin _ _ hv (ZD hy) (fun w=>by cases op<;>simp [eqGuard]) (FB (.inr rfl) he h)
 ·obtain⟨ht,h⟩:=YG h
  obtain⟨e,he⟩:=FC hL ht
  obtain⟨_,_,aa,hv,_⟩:=wX hy
  exact fin _ _ (ZD hx) hv (fun w=>by cases op<;>simp [eqGuard]) (FB (.inl rfl) he h)
 ·obtain⟨ht,h⟩:=YG h
  obtain⟨e,he⟩:=FC hL ht
  obtain⟨_,_,_,hv,_⟩:=Bc hy
  exact fin _ _ (ZD hx) hv (fun w=>by cases op<;>simp [eqGuard]) (FB (.inl rfl) he h)
 ·cases h
variable {Z:Nat→Prop}
section
variable {P:Program} {L:Zh} {base nt:Nat} {s:St} {o:Oper}
theorem bC {x:Operand} (ho:o.op=.move x∨o.op=.assign x):Kt P base nt o s (Qq s.fr x):=by
 intro Z pl a w r
 refine⟨_,r.eval x,fun w' _=>?_⟩
 rcases ho with ho|ho<;>simp [execOp,ho]
theorem Qb1 {c x y:Operand} (ho:o.op=.pick c x y) {b:Bool} (hc:Qq s.fr c=.raw (.bool b)):Kt P base nt o s (bif b then Qq s.fr x else Qq s.fr y):=by
 intro Z pl a w r
 have h:=r.eval c
 rw[hc]at h
 have e:=ZD h
 cases b
 ·exact⟨_,r.eval y,fun w' _=>by simp [execOp,ho,e,asBool]⟩
 ·exact⟨_,r.eval x,fun w' _=>by simp [execOp,ho,e,asBool]⟩
def mk (y:Ty) (cells:List D):D:=bif y.k.agg then .agg (cells.take y.size) else nth cells 0
def wY (y:Ty):D:=bif y.k.agg then .agg (y.zero.map ZT) else nth (y.zero.map ZT) 0
theorem bD {P:Program} {t:TypeId} {y:Ty} (h:KP P t y) {N:Nat→Prop} (w:World):∃z,Cl N w (wY y) z∧∀w',(Go.zeroValue t).run P w'=.ok z w':=by
 have h1:=h.info
 have h2:=h.zag
 cases hi:P.info? t with
 | none=>rw[hi]at h1;cases h1
 | some i=>
  rw[hi]at h1 h2
  simp at h1
  obtain⟨_,_,z,hz,Pd⟩:=h1
  simp [hz]at h2
  refine⟨z,?_,fun w=>by simp [Go.zeroValue,Go.typeInfo,hi,hz]⟩
  unfold wY
  rw[← h2,← Pd]
  cases z with
  | agg cs=>
   simp only[IV,cond_true]
   refine .agg _ cs.toList (by simp [Value.cells]) fun i hi=>?_
   have ZH:i<cs.size:=by simpa [Value.cells] using hi
   have e1:nth ((Value.agg cs).cells.toList.map ZT) i=ZT (QL cs.toList i):=by
    simp [nth,QL,Value.cells,List.getD_eq_getElem?_getD,ZH]
   rw[e1];exact vC N w _
  | _=>simp only[IV,cond_false,Value.cells,nth,List.map_cons,List.map_nil,List.getD_cons_zero];exact vC N w _
theorem Ph {cs:List D} {k i:Nat} (h:i<k):nth (cs.take k) i=nth cs i:=by
 simp only[nth,List.getD_eq_getElem?_getD,List.getElem?_take,h,if_true]
theorem yH {cs:List D} {k i:Nat}:nth (cs.drop k) i=nth cs (k+i):=by
 simp only[nth,List.getD_eq_getElem?_getD,List.getElem?_drop]
theorem bE {t:TypeId} {y:Ty} (ht:KP P t y) (w:World) (ad:Addr) (cells:List D) {h:List Ob} {pl:List Pl} (w0:World) (ZC:y.size≤cells.length) (h1:y.k.agg=false→y.size=1)
  (hc:∀j,j<y.size→∃v,w.cell? (ad.add j)=some v∧Qv Z h pl w0 (nth cells j) v) :
  ∃v,Qv Z h pl w0 (mk y cells) v∧∀w',(∀j v,j<y.size→w.cell? (ad.add j)=some v→w'.cell? (ad.add j)=some v)→(loadVar t ad).run P w'=.ok v w':=by
 unfold mk
 cases hk:y.k.agg
 ·have hs:=h1 hk
  obtain⟨v,hv,hr⟩:=hc 0 (by omega)
  refine⟨v,hr,fun w' YH=>?_⟩
  have:=YH 0 v (by omega) hv
  simp only[Addr.add_zero']at this
  simp [loadVar,ht.isAgg,hk,this]
 ·let f:Nat→Value:=fun j=>(w.cell? (ad.add j)).getD Go.undef
  refine⟨.agg ((List.range y.size).map f).toArray,.agg _ _ (by simp;omega) (fun i hi=>?_),fun w' YH=>?_⟩
  ·have ZH:i<y.size:=by simp at hi;omega
   obtain⟨v,hv,hr⟩:=hc i ZH
   rw[Ph ZH]
   have:QL ((List.range y.size).map f) i=v:=by
    simp [QL,List.getD_eq_getElem?_getD,ZH,f,hv]
   rw[this];exact hr
  ·have hl:(loadCells ad y.size).run P w'=.ok ((List.range y.size).map f).toArray w':=run_loadCells w' ad y.size f (fun j hj=>by
    obtain⟨v,hv,_⟩:=hc j hj
    rw[YH j v hj hv];simp [f,hv])
   simp [loadVar,ht.isAgg,hk,ht.sizeOf,hl]
def Bd (L:Zh) (h:List Ob) (t:TypeId) (d:D):Ev:=
 match ty L t with
 | none=>none
 | some y=>
  match d with
  | .ptr l g i j=>match h[l]? with
   | some o=>some (g=o.gen∧i<o.n∧j+y.size≤o.sz∧(y.k.agg=false→y.size=1),mk y ((o.row i).drop j))
   | none=>none
  | .ip cells=>some (y.size≤cells.length∧(y.k.agg=false→y.size=1),mk y cells)
  | _=>none
theorem z6 (b o n:Nat):(⟨b,o,none⟩:Addr).add n=⟨b,o+n,none⟩:=Addr.add_lit b o n
theorem bF (hL:Zw P L) {t:TypeId} {x:Operand} (ho:o.op=.load t x) {p:Prop} {d:D} (h:Bd L s.h t (Qq s.fr x)=some (p,d)) (hp:p):IX P base nt o s d:=by
 intro Z pl a w r
 have hx:=r.eval x
 unfold Bd at h
 cases ht:ty L t with
 | none=>rw[ht]at h;cases h
 | some y=>
  have hy:=hL t y ht
  rw[ht]at h
  dsimp only at h
  generalize Qq s.fr x=dx at *
  split at h
  ·rename_i l g i j
   split at h
   ·rename_i ob Q1
    simp only[Option.some.injEq,Prod.mk.injEq]at h
    obtain⟨rfl,rfl⟩:=h
    obtain⟨hg,hi,hj,h1⟩:=hp
    obtain⟨o',p',ad,hv,Zg,Zs,Zq,X5,KG⟩:=wX hx
    rw[Q1]at Zg;cases Zg
    obtain⟨b,q,rfl,rfl⟩:=KG hg
    obtain⟨QJ,xx⟩:=r.o.at_ l ob b q Q1 Zs
    obtain⟨c,el,hb,ZC,Z6,ZR⟩:=xx.cells Zq
    obtain⟨v,hr,QV⟩:=bE hy w ⟨b,q+(i*ob.sz+j),none⟩ ((ob.row i).drop j) (h:=s.h) (pl:=pl) w (by simp [Z6 i hi];omega) h1 (fun k hk=>by
     obtain⟨v,hv,hr⟩:=ZR i (j+k) hi (by omega)
     refine⟨v,?_,by rw[yH];exact hr⟩
     rw[z6,cell_of_row w b _ c el (0,0) hb,← hv]
     congr 1;omega)
    refine⟨v,hr,fun w' e=>?_⟩
    have:=QV w' (fun k v hk hv=>e _ _ hv)
    simp [execOp,ho,hv,Instr.loadAt,Instr.sureAddr,this]
   ·cases h
  ·rename_i cells
   simp only[Option.some.injEq,Prod.mk.injEq]at h
   obtain⟨rfl,rfl⟩:=h
   obtain⟨ZC,h1⟩:=hp
   obtain⟨b,q,vs,hv,hc⟩:=Bc hx
   obtain⟨v,hr,QV⟩:=bE hy w ⟨b,q,none⟩ cells (h:=s.h) (pl:=pl) w ZC h1 (fun k hk=>by
    obtain⟨⟨_,h2⟩,h3⟩:=hc k (by omega)
    exact⟨vs k,by rw[z6];exact h2,.cl _ _ h3⟩)
   refine⟨v,hr,fun w' e=>?_⟩
   have:=QV w' (fun k v hk hv=>e _ _ hv)
   simp [execOp,ho,hv,Instr.loadAt,Instr.sureAddr,this]
  ·cases h
theorem bG (hL:Zw P L) {t:TypeId} {x:Operand} (ho:o.op=.load t x) {p:Prop} {d:D} (h:Bd L s.h t (Qq s.fr x)=some (p,d)) (hp:p):Kt P base nt o s d:=(bF hL ho h hp).up
def Db (L:Zh) (t:TypeId) (f:Nat):Option (Nat × Ty):=
 match ty L t with
 | some ⟨.struct fs,_,_,_⟩=>match fs[f]? with
  | some (off,u)=>match ty L u with
   | some y=>some (off,y)
   | none=>none
  | none=>none
 | _=>none
theorem Pj (hL:Zw P L) {t:TypeId} {f off:Nat} {y:Ty} (h:Db L t f=some (off,y)):∃g fd,P.underlying t=some (.struct g)∧g[f]? = some fd∧fd.offset=off∧KP P fd.type y:=by
 unfold Db at h
 split at h
 ·rename_i fs _ _ _ he
  split at h
  ·rename_i FD u hf
   split at h
   ·rename_i y' hu
    simp only[Option.some.injEq,Prod.mk.injEq]at h
    obtain⟨rfl,rfl⟩:=h
    obtain⟨g,hg,hm⟩:=bx (hL _ _ he) rfl
    rw[← hm]at hf
    simp only[List.getElem?_map,Option.map_eq_some_iff,Prod.mk.injEq]at hf
    obtain⟨fd,h1,h2,h3⟩:=hf
    exact⟨g,fd,hg,by simpa using h1,h2,by rw[h3];exact hL _ _ hu⟩
   ·cases h
  ·cases h
 ·cases h
def Le (L:Zh) (t:TypeId) (f:Nat) (d:D):Ev:=
 match Db L t f with
 | none=>none
 | some (off,y)=>match d with
  | .ptr l g i j=>some (y.size≠0,.ptr l g i (j+off))
  | .ip cells=>some (y.size≠0,.ip (cells.drop off))
  | _=>none
theorem Qb2 (hL:Zw P L) {t:TypeId} {f:Nat} {x:Operand} (ho:o.op=.fieldAddr t x f) {p:Prop} {d:D} (h:Le L t f (Qq s.fr x)=some (p,d)) (hp:p):Kt P base nt o s d:=by
 intro Z pl a w r
 have hx:=r.eval x
 unfold Le at h
 split at h
 ·cases h
 ·rename_i off y hf
  obtain⟨g,fd,hg,yI,rfl,hy⟩:=Pj hL hf
  have fin:∀(b q:Nat),y.size≠0→a.eval x=.pointer (some ⟨b,q,none⟩)→∀w':World,(execOp a.eval o).run P w'=.ok (.value (.pointer (some ⟨b,q+fd.offset,none⟩))) w':=by
   intro b q Pm he w'
   simp [execOp,ho,he,Instr.fieldAt,run_underlying hg,yI,Instr.sureAddr,fieldPlace,hy.sizeOf,Pm,z6]
  generalize Qq s.fr x=dx at *
  split at h
  ·rename_i l g i j
   simp only[Option.some.injEq,Prod.mk.injEq]at h
   obtain⟨rfl,rfl⟩:=h
   obtain⟨ob,pp,ad,hv,Q1,Kl,Zq,jV,KG⟩:=wX hx
   by_cases hl:g=ob.gen
   ·obtain⟨b,q,rfl,rfl⟩:=KG hl
    exact⟨_,.ptr _ _ _ _ ob _ _ Q1 Kl Zq jV (fun _=>⟨b,q,rfl,by simp only[Addr.mk.injEq,and_true,true_and];omega⟩),fun w' _=>fin _ _ hp hv w'⟩
   ·obtain⟨b,q,sp⟩:=ad
    refine⟨.pointer (some ((⟨b,q,sp⟩:Addr).add fd.offset)),.ptr _ _ _ _ ob _ _ Q1 Kl Zq jV (fun h=>absurd h hl),fun w' _=>?_⟩
    simp [execOp,ho,hv,Instr.fieldAt,run_underlying hg,yI,Instr.sureAddr,fieldPlace,hy.sizeOf,hp]
  ·rename_i cells
   simp only[Option.some.injEq,Prod.mk.injEq]at h
   obtain⟨rfl,rfl⟩:=h
   obtain⟨b,q,vs,hv,hc⟩:=Bc hx
   refine⟨_,.cl _ _ (.ip _ b (q+fd.offset) (fun j=>vs (fd.offset+j)) (fun j hj=>?_) (fun j hj=>?_)),fun w' _=>fin _ _ hp hv w'⟩
   ·obtain⟨⟨h1,h2⟩,h3⟩:=hc (fd.offset+j) (by simp at hj;omega)
    exact⟨h1,by rw[Nat.add_assoc];exact h2⟩
   ·obtain⟨⟨h1,h2⟩,h3⟩:=hc (fd.offset+j) (by simp at hj;omega)
    rw[yH];exact h3
  ·cases h
theorem bH {t:TypeId} {y:Ty} (hy:KP P t y) (cs:List D) (vs:List Value) {h:List Ob} {pl:List Pl} {w0:World} (hl:vs.length=cs.length) (hr:∀i,i<cs.length→Qv Z h pl w0 (nth cs i) (QL vs i)) (off:Nat)
  (ZC:off+y.size≤cs.length) (h1:y.k.agg=false→y.size=1):∃v,Qv Z h pl w0 (mk y (cs.drop off)) v∧∀w',(part t vs.toArray off).run P w'=.ok v w':=by
 unfold mk
 cases hk:y.k.agg
 ·have hs:=h1 hk
  refine⟨QL vs off,by simp only[cond_false];rw[yH];exact hr off (by omega),fun w'=>?_⟩
  have Qd:off<vs.length:=by omega
  simp [part,hy.isAgg,hk,QL,List.getD_eq_getElem?_getD,Qd]
 ·refine⟨.agg ((vs.drop off).take y.size).toArray,.agg _ _ (by simp;omega) (fun i hi=>?_),fun w'=>?_⟩
  ·have ZH:i<y.size:=by simp at hi;omega
   rw[Ph ZH,yH]
   have:QL ((vs.drop off).take y.size) i=QL vs (off+i):=by
    simp [QL,List.getD_eq_getElem?_getD,ZH]
   rw[this];exact hr _ (by omega)
  ·simp [part,hy.isAgg,hk,hy.sizeOf]
def Lf (L:Zh) (t:TypeId) (f:Nat) (d:D):Ev:=
 match Db L t f with
 | none=>none
 | some (off,y)=>match d with
  | .agg cs=>some (off+y.size≤cs.length∧(y.k.agg=false→y.size=1),mk y (cs.drop off))
  | _=>none
theorem Qb3 (hL:Zw P L) {t:TypeId} {f:Nat} {x:Operand} (ho:o.op=.field t x f) {p:Prop} {d:D} (h:Lf L t f (Qq s.fr x)=some (p,d)) (hp:p):Kt P base nt o s d:=by
 intro Z pl a w r
 have hx:=r.eval x
 unfold Lf at h
 split at h
 ·cases h
 ·rename_i off y hf
  obtain⟨g,fd,hg,yI,rfl,hy⟩:=Pj hL hf
  generalize Qq s.fr x=dx at *
  split at h
  ·rename_i cs
   simp only[Option.some.injEq,Prod.mk.injEq]at h
   obtain⟨rfl,rfl⟩:=h
   obtain⟨vs,hv,hl,hr⟩:=Da hx
   obtain⟨v,Pn,QV⟩:=bH hy cs vs hl hr fd.offset hp.1 hp.2
   refine⟨v,Pn,fun w' _=>?_⟩
   simp [execOp,ho,hv,Instr.field,run_underlying hg,yI,asAgg,QV]
  ·cases h
def Dc (L:Zh) (t:TypeId):Option (Nat × Bool × Nat):=
 match ty L t with
 | some ⟨.slice e,_,_,_⟩=>match ty L e with
  | some y=>some (y.size,true,0)
  | none=>none
 | some ⟨.array n e,_,_,_⟩=>match ty L e with
  | some y=>some (y.size,false,n)
  | none=>none
 | _=>none
theorem Qb4 (hL:Zw P L) {t:TypeId} {sz n:Nat} (h:Dc L t=some (sz,true,n)):∃e y,P.underlying t=some (.slice e)∧KP P e y∧y.size=sz:=by
 unfold Dc at h
 split at h
 ·rename_i e _ _ _ he
  split at h
  ·rename_i y hy
   simp only[Option.some.injEq,Prod.mk.injEq]at h
   exact⟨e,y,zZ (hL _ _ he) rfl,hL _ _ hy,h.1⟩
  ·cases h
 ·split at h
  ·simp at h
  ·cases h
 ·cases h
theorem Qb5 (hL:Zw P L) {t:TypeId} {sz n:Nat} (h:Dc L t=some (sz,false,n)):∃e y,P.underlying t=some (.array n e)∧KP P e y∧y.size=sz:=by
 unfold Dc at h
 split at h
 ·split at h
  ·simp at h
  ·cases h
 ·rename_i e _ _ _ he
  split at h
  ·rename_i y hy
   simp only[Option.some.injEq,Prod.mk.injEq]at h
   obtain⟨rfl,_,rfl⟩:=h
   exact⟨e,y,Pe (hL _ _ he) rfl,hL _ _ hy,rfl⟩
  ·cases h
 ·cases h
def Lg (L:Zh) (h:List Ob) (t:TypeId) (d ix:D):Ev:=
 match ix with
 | .raw (.int _ i)=>match Dc L t with
  | some (sz,true,_)=>match d with
   | .ref l g off len=>match h[l]? with
    | some o=>some (g=o.gen∧o.sz=sz∧0≤i∧i<len,.ptr l g (off+i.toNat) 0)
    | none=>none
   | .imm z n row=>some (z=sz∧0≤i∧i<n,.ip (row i.toNat))
   | _=>none
  | some (sz,false,n)=>match d with
   | .ptr l g a j=>some (0≤i∧i<n,.ptr l g a (j+i.toNat*sz))
   | .ip cells=>some (0≤i∧i<n,.ip (cells.drop (i.toNat*sz)))
   | _=>none
  | none=>none
 | _=>none
theorem Qb6 (hL:Zw P L) {t:TypeId} {x ix:Operand} (ho:o.op=.indexAddr t x ix) {p:Prop} {d:D} (h:Lg L s.h t (Qq s.fr x) (Qq s.fr ix)=some (p,d)) (hp:p):Kt P base nt o s d:=by
 intro Z pl a w r
 have hx:=r.eval x
 have Po:=r.eval ix
 unfold Lg at h
 generalize Qq s.fr x=dx at *
 generalize Qq s.fr ix=di at *
 split at h
 ·rename_i k i
  have hi:=ZD Po
  split at h
  ·rename_i sz _ he
   obtain⟨e,y,hu,hy,rfl⟩:=Qb4 hL he
   split at h
   ·rename_i l g off len
    split at h
    ·rename_i ob Q1
     simp only[Option.some.injEq,Prod.mk.injEq]at h
     obtain⟨rfl,rfl⟩:=h
     obtain⟨hg,ZC,h0,h1⟩:=hp
     obtain⟨o',p',ad,cap,hv,Zg,Zs,Zq,X5,KG⟩:=yE hx
     rw[Q1]at Zg;cases Zg
     rcases KG hg with ⟨h2,_⟩|⟨b,q,c,el,Kl,YI,hb,hc,vD⟩
     ·omega
     ·refine⟨.pointer (some ⟨b,q+((off+i.toNat)*ob.sz+0),none⟩),.ptr _ _ _ _ ob _ _ Q1 Zs Zq X5 (fun _=>⟨b,q,Kl,rfl⟩),fun w' _=>?_⟩
      simp [execOp,ho,hv,hi,YI,Instr.indexAt,asIntOf,run_underlying hu,h0,h1,hy.sizeOf,z6,ZC]
      rw[Nat.add_mul];omega
    ·cases h
   ·rename_i z n row
    simp only[Option.some.injEq,Prod.mk.injEq]at h
    obtain⟨rfl,rfl⟩:=h
    obtain⟨rfl,h0,h1⟩:=hp
    obtain⟨ad,cap,b,q,vs,hv,YI,vD,hs,hc⟩:=IW hx
    have Qd:i.toNat<n:=by omega
    refine⟨.pointer (some ⟨b,q+i.toNat*y.size,none⟩),.cl _ _ (.ip _ b _ (fun j=>vs i.toNat j) (fun j hj=>?_) (fun j hj=>?_)),fun w' _=>?_⟩
    ·rw[hs _ Qd]at hj
     obtain⟨⟨h2,h3⟩,h4⟩:=hc i.toNat j Qd hj
     exact⟨h2,by rw[Nat.add_assoc];exact h3⟩
    ·rw[hs _ Qd]at hj
     exact(hc i.toNat j Qd hj).2
    ·simp [execOp,ho,hv,hi,YI (by omega),Instr.indexAt,asIntOf,run_underlying hu,h0,h1,hy.sizeOf,z6]
   ·cases h
  ·rename_i sz n he
   obtain⟨e,y,hu,hy,rfl⟩:=Qb5 hL he
   split at h
   ·rename_i l g i0 j
    simp only[Option.some.injEq,Prod.mk.injEq]at h
    obtain⟨rfl,rfl⟩:=h
    obtain⟨h0,h1⟩:=hp
    obtain⟨ob,pp,ad,hv,Q1,Kl,Zq,jV,KG⟩:=wX hx
    refine⟨.pointer (some (ad.add (i.toNat*y.size))),.ptr _ _ _ _ ob _ _ Q1 Kl Zq jV (fun hg=>?_),fun w' _=>?_⟩
    ·obtain⟨b,q,rfl,rfl⟩:=KG hg
     exact⟨b,q,rfl,by rw[z6];simp only[Addr.mk.injEq,and_true,true_and];omega⟩
    ·simp [execOp,ho,hv,hi,Instr.indexAt,asIntOf,run_underlying hu,h0,h1,hy.sizeOf,Instr.sureAddr]
   ·rename_i cells
    simp only[Option.some.injEq,Prod.mk.injEq]at h
    obtain⟨rfl,rfl⟩:=h
    obtain⟨h0,h1⟩:=hp
    obtain⟨b,q,vs,hv,hc⟩:=Bc hx
    refine⟨_,.cl _ _ (.ip _ b (q+i.toNat*y.size) (fun j=>vs (i.toNat*y.size+j)) (fun j hj=>?_) (fun j hj=>?_)),fun w' _=>?_⟩
    ·obtain⟨⟨h1,h2⟩,h3⟩:=hc (i.toNat*y.size+j) (by simp at hj;omega)
     exact⟨h1,by rw[Nat.add_assoc];exact h2⟩
    ·obtain⟨⟨h1,h2⟩,h3⟩:=hc (i.toNat*y.size+j) (by simp at hj;omega)
     rw[yH];exact h3
    ·simp [execOp,ho,hv,hi,Instr.indexAt,asIntOf,run_underlying hu,h0,h1,hy.sizeOf,Instr.sureAddr,z6]
   ·cases h
  ·cases h
 ·cases h
def Lh (L:Zh) (t:TypeId) (d ix:D):Ev:=
 match ix with
 | .raw (.int _ i)=>match d with
  | .agg cs=>match ty L t with
   | some ⟨.array n e,_,_,_⟩=>match ty L e with
    | some y=>some (0≤i∧i<n∧i.toNat*y.size+y.size≤cs.length∧(y.k.agg=false→y.size=1),mk y (cs.drop (i.toNat*y.size)))
    | none=>none
   | _=>none
  | .raw (.string b)=>match ty L t with
   | some ⟨.str,_,_,_⟩=>some (0≤i∧i<b.size,.raw (.int .u8 (b.data.getD i.toNat 0).toNat))
   | _=>none
  | _=>none
 | _=>none
theorem Qb7 (hL:Zw P L) {t:TypeId} {x ix:Operand} (ho:o.op=.index t x ix) {p:Prop} {d:D} (h:Lh L t (Qq s.fr x) (Qq s.fr ix)=some (p,d)) (hp:p):Kt P base nt o s d:=by
 intro Z pl a w r
 have hx:=r.eval x
 have Po:=r.eval ix
 unfold Lh at h
 generalize Qq s.fr x=dx at *
 generalize Qq s.fr ix=di at *
 split at h
 ·rename_i k i
  have hi:=ZD Po
  split at h
  ·rename_i cs
   split at h
   ·rename_i n e _ _ _ he
    split at h
    ·rename_i y jX
     have hy:=hL _ _ jX
     simp only[Option.some.injEq,Prod.mk.injEq]at h
     obtain⟨rfl,rfl⟩:=h
     obtain⟨h0,h1,h2,h3⟩:=hp
     obtain⟨vs,hv,hl,hr⟩:=Da hx
     obtain⟨v,Pn,QV⟩:=bH hy cs vs hl hr _ h2 h3
     refine⟨v,Pn,fun w' _=>?_⟩
     simp [execOp,ho,hv,hi,Instr.index,asIntOf,run_underlying (Pe (hL _ _ he) rfl),h0,h1,hy.sizeOf,QV]
    ·cases h
   ·cases h
  ·rename_i b
   split at h
   ·rename_i he
    simp only[Option.some.injEq,Prod.mk.injEq]at h
    obtain⟨rfl,rfl⟩:=h
    obtain⟨h0,h1⟩:=hp
    have hv:=ZD hx
    refine⟨_,.cl _ _ (.raw _),fun w' _=>?_⟩
    have Qd:i.toNat<b.size:=by omega
    have:b[i.toNat]? = some (b.data.getD i.toNat 0):=by
     rw[getElem?_pos b i.toNat Qd]
     show some (b.data[i.toNat])=_
     rw[Array.getD_eq_getD_getElem?,Array.getElem?_eq_getElem (by exact Qd)]
     rfl
    simp [execOp,ho,hv,hi,Instr.index,asIntOf,run_underlying (FA (hL _ _ he) rfl),h0,this]
   ·cases h
  ·cases h
 ·cases h
theorem Qb8 {x:Operand} {i:Nat} (ho:o.op=.extract x i) {cs:List D} (hx:Qq s.fr x=.tup cs) (hi:i<cs.length):Kt P base nt o s (nth cs i):=by
 intro Z pl a w r
 have h:=r.eval x
 rw[hx]at h
 obtain⟨vs,hv,hl,hr⟩:=QbR h
 refine⟨_,hr i hi,fun w' _=>?_⟩
 have:i<vs.length:=by omega
 simp [execOp,ho,hv,Instr.extract,QL,List.getD_eq_getElem?_getD,this]
theorem Qb9 {u:UnOp} {t:TypeId} {x:Operand} (ho:o.op=.unOp u t x) {b:Bool} (hu:u=.not) (hx:Qq s.fr x=.raw (.bool b)):Kt P base nt o s (.raw (.bool (!b))):=by
 intro Z pl a w r
 have h:=r.eval x
 rw[hx]at h
 have hv:=ZD h
 exact⟨_,.cl _ _ (.raw _),fun w' _=>by simp [execOp,ho,hv,hu,Op.unary]⟩
theorem Qca {u:UnOp} {t:TypeId} {x:Operand} (ho:o.op=.unOp u t x) {k:IntKind} {n:Int} (hu:u=.neg) (hx:Qq s.fr x=.raw (.int k n)):Kt P base nt o s (.raw (.int k (k.wrap (0 - n)))):=by
 intro Z pl a w r
 have h:=r.eval x
 rw[hx]at h
 have hv:=ZD h
 exact⟨_,.cl _ _ (.raw _),fun w' _=>by simp [execOp,ho,hv,hu,Op.unary,Op.intArith]⟩
theorem Qcb {u:UnOp} {t:TypeId} {x:Operand} (ho:o.op=.unOp u t x) {k:IntKind} {n:Int} (hu:u=.xor) (hx:Qq s.fr x=.raw (.int k n)):Kt P base nt o s (.raw (.int k (bits .xor k (if k.signed then -1 else k.max) n))):=by
 intro Z pl a w r
 have h:=r.eval x
 rw[hx]at h
 have hv:=ZD h
 exact⟨_,.cl _ _ (.raw _),fun w' _=>by simp [execOp,ho,hv,hu,Op.unary,Op.intBits,bits]⟩
def D.there:D→Bool
 | .ptr _ _ _ _ | .ip _ | .clo _ _ _=>true
 | .raw (.func (.func _) _ _)=>true
 | _=>false
theorem Qcc {x:Operand} (ho:o.op=.nilCheck x) {d:D} (hx:Qq s.fr x=d) (hd:d.there=true):Kt P base nt o s d:=by
 intro Z pl a w r
 have h:=r.eval x
 rw[hx]at h
 cases d<;>try (simp only[D.there,Bool.false_eq_true]at hd;done)
 case ptr l g i j=>
  obtain⟨_,_,ad,hv,_⟩:=wX h
  exact⟨_,h,fun w' _=>by simp [execOp,ho,hv]⟩
 case ip cs=>
  obtain⟨_,_,_,hv,_⟩:=Bc h
  exact⟨_,h,fun w' _=>by simp [execOp,ho,hv]⟩
 case raw v=>
  have hv:=ZD h
  cases v with
  | func fn first QC=>
   cases fn with
   | func f=>exact⟨_,h,fun w' _=>by simp [execOp,ho,hv]⟩
   | _=>simp only[D.there,Bool.false_eq_true]at hd
  | _=>simp only[D.there,Bool.false_eq_true]at hd
 case clo f nf cs=>
  obtain⟨vs,hv,_⟩:=Pf h
  exact⟨_,h,fun w' _=>by simp [execOp,ho,hv]⟩
def Lj (L:Zh) (src dst:TypeId):D→Ev
 | .raw (.int _ n)=>match ty L dst,ty L src with
  | some ⟨.int k,_,_,_⟩,some _=>some (True,.raw (.int k (k.wrap n)))
  | _,_=>none
 | .raw (.string b)=>match ty L dst,ty L src with
  | some ⟨.str,_,_,_⟩,some ⟨.str,_,_,_⟩=>some (True,.raw (.string b))
  | _,_=>none
 | _=>none
theorem Qcd (hL:Zw P L) {src dst:TypeId} {x:Operand} (ho:o.op=.convert src dst x) {p:Prop} {d:D} (h:Lj L src dst (Qq s.fr x)=some (p,d)):Kt P base nt o s d:=by
 intro Z pl a w r
 have hx:=r.eval x
 unfold Lj at h
 generalize Qq s.fr x=dx at *
 split at h
 ·split at h
  ·rename_i k _ _ _ ys hd hs
   simp only[Option.some.injEq,Prod.mk.injEq]at h
   obtain⟨rfl,rfl⟩:=h
   have hv:=ZD hx
   refine⟨_,.cl _ _ (.raw _),fun w' _=>?_⟩
   obtain⟨sd,h1,h2⟩:=(hL _ _ hs).under
   simp [execOp,ho,hv,convert,run_underlying h1,run_underlying (wW (hL _ _ hd) rfl),Conv.intToInt]
  ·cases h
 ·split at h
  ·rename_i hd hs
   simp only[Option.some.injEq,Prod.mk.injEq]at h
   obtain⟨rfl,rfl⟩:=h
   have hv:=ZD hx
   refine⟨_,.cl _ _ (.raw _),fun w' _=>?_⟩
   simp [execOp,ho,hv,convert,run_underlying (FA (hL _ _ hs) rfl),run_underlying (FA (hL _ _ hd) rfl)]
  ·cases h
 ·cases h
def Lk (L:Zh) (t:TypeId):D→Ev
 | .ref _ _ _ n=>match ty L t with
  | some ⟨.slice _,_,_,_⟩=>some (True,.raw (.int .i64 n))
  | _=>none
 | .imm _ n _=>match ty L t with
  | some ⟨.slice _,_,_,_⟩=>some (True,.raw (.int .i64 n))
  | _=>none
 | .nil=>match ty L t with
  | some ⟨.slice _,_,_,_⟩=>some (True,.raw (.int .i64 0))
  | _=>none
 | .raw (.string b)=>match ty L t with
  | some ⟨.str,_,_,_⟩=>some (True,.raw (.int .i64 b.size))
  | _=>none
 | _=>none
theorem X6 {P:Program} {o:Oper} {a:Act} {bi:Builtin} {args:Array Operand} {ZY:Array TypeId} (ho:o.op=.call ⟨.builtin bi,args,ZY⟩) (w:World) :
  (execOp a.eval o).run P w=(builtin bi ZY o.type (args.map fun | .const _=>true|_=>false) (args.map a.eval)).run P w:=by
 simp [execOp,ho,resolve,invoke]
 rfl
theorem Ll (hL:Zw P L) {x:Operand} {t:TypeId} (ho:o.op=.call ⟨.builtin .len,#[x],#[t]⟩) {p:Prop} {d:D} (h:Lk L t (Qq s.fr x)=some (p,d)):Kt P base nt o s d:=by
 intro Z pl a w r
 have hx:=r.eval x
 unfold Lk at h
 generalize Qq s.fr x=dx at *
 split at h
 ·split at h
  ·rename_i he
   simp only[Option.some.injEq,Prod.mk.injEq]at h
   obtain⟨rfl,rfl⟩:=h
   obtain⟨_,_,ad,cap,hv,_⟩:=yE hx
   refine⟨_,.cl _ _ (.raw _),fun w' _=>?_⟩
   rw[X6 ho]
   simp [builtin,Builtin.len_,hv,run_underlying (zZ (hL _ _ he) rfl),goInt]
  ·cases h
 ·split at h
  ·rename_i he
   simp only[Option.some.injEq,Prod.mk.injEq]at h
   obtain⟨rfl,rfl⟩:=h
   obtain⟨ad,cap,_,_,_,hv,_⟩:=IW hx
   refine⟨_,.cl _ _ (.raw _),fun w' _=>?_⟩
   rw[X6 ho]
   simp [builtin,Builtin.len_,hv,run_underlying (zZ (hL _ _ he) rfl),goInt]
  ·cases h
 ·split at h
  ·rename_i he
   simp only[Option.some.injEq,Prod.mk.injEq]at h
   obtain⟨rfl,rfl⟩:=h
   obtain⟨ad,hv⟩:=yD hx
   refine⟨_,.cl _ _ (.raw _),fun w' _=>?_⟩
   rw[X6 ho]
   simp [builtin,Builtin.len_,hv,run_underlying (zZ (hL _ _ he) rfl),goInt]
  ·cases h
 ·split at h
  ·rename_i he
   simp only[Option.some.injEq,Prod.mk.injEq]at h
   obtain⟨rfl,rfl⟩:=h
   have hv:=ZD hx
   refine⟨_,.cl _ _ (.raw _),fun w' _=>?_⟩
   rw[X6 ho]
   simp [builtin,Builtin.len_,hv,run_underlying (FA (hL _ _ he) rfl),goInt]
  ·cases h
 ·cases h
theorem Qce {x y:Operand} {ZY:Array TypeId} (ho:o.op=.call ⟨.builtin .max,#[x,y],ZY⟩) {k k':IntKind} {m n:Int} (hx:Qq s.fr x=.raw (.int k m)) (hy:Qq s.fr y=.raw (.int k' n)):Kt P base nt o s (.raw (.int k (max m n))):=by
 intro Z pl a w r
 have h1:=r.eval x
 have h2:=r.eval y
 rw[hx]at h1;rw[hy]at h2
 refine⟨_,.cl _ _ (.raw _),fun w' _=>?_⟩
 rw[X6 ho]
 simp [builtin,Builtin.max_,ZD h1,ZD h2,Builtin.max2]
 split<;>omega
theorem Qcf {x y:Operand} {ZY:Array TypeId} (ho:o.op=.call ⟨.builtin .min,#[x,y],ZY⟩) {k k':IntKind} {m n:Int} (hx:Qq s.fr x=.raw (.int k m)) (hy:Qq s.fr y=.raw (.int k' n)):Kt P base nt o s (.raw (.int k (min m n))):=by
 intro Z pl a w r
 have h1:=r.eval x
 have h2:=r.eval y
 rw[hx]at h1;rw[hy]at h2
 refine⟨_,.cl _ _ (.raw _),fun w' _=>?_⟩
 rw[X6 ho]
 simp [builtin,Builtin.min_,ZD h1,ZD h2,Builtin.min2]
 split<;>omega
theorem Qcg {f:FuncId} {first QC:Array Operand} (ho:o.op=.makeFunc (.func f) first QC):Kt P base nt o s (.clo f first.size ((first.toList++QC.toList).map (Qq s.fr))):=by
 intro Z pl a w r
 refine⟨.func (.func f) (((first.toList++QC.toList).map a.eval).take first.size).toArray (((first.toList++QC.toList).map a.eval).drop first.size).toArray,.clo f first.size _ ((first.toList++QC.toList).map a.eval) (by simp) (fun i hi=>?_),fun w' _=>?_⟩
 ·have ZH:i<(first.toList++QC.toList).length:=by simpa using hi
  simp only[nth,QL,List.getD_eq_getElem?_getD,List.getElem?_map]
  rw[List.getElem?_eq_getElem ZH]
  exact r.eval _
 ·have e1:Array.map a.eval QC=(List.map a.eval QC.toList).toArray:=Array.ext' (by simp)
  have e2:Array.map a.eval first=(List.map a.eval first.toList).toArray:=Array.ext' (by simp)
  have e3:((first.toList++QC.toList).map a.eval).take first.size=first.toList.map a.eval:=by rw[List.map_append,List.take_append_of_le_length (by simp),List.take_of_length_le (by simp)]
  have e4:((first.toList++QC.toList).map a.eval).drop first.size=QC.toList.map a.eval:=by rw[List.map_append,List.drop_append_of_le_length (by simp),List.drop_of_length_le (by simp),List.nil_append]
  rw[e3,e4]
  simp [execOp,ho,Instr.makeFunc,e1,e2]
end
variable {Z:Nat→Prop}
def Ext (w w':World):Prop:=∀b,b<w.heap.size→w'.heap[b]? = w.heap[b]?
theorem Ext.refl (w:World):Ext w w:=fun _ _=>rfl
theorem Ext.trans {a b c:World} (h:Ext a b) (k:Ext b c):Ext a c:=fun i hi=>by
 have h1:=h i hi
 have h2:i<b.heap.size:=by
  rw[Array.getElem?_eq_getElem hi]at h1
  exact(Array.getElem?_eq_some_iff.1 h1).1
 rw[k i h2,h1]
def calm (o:Oper):Bool:=match o.op with
 | .store .. | .mapUpdate .. | .insert .. | .entryStore .. | .next ..=>false
 | .call ⟨.builtin .len,_,_⟩ | .call ⟨.builtin .min,_,_⟩ | .call ⟨.builtin .max,_,_⟩=>true
 | .call ⟨.builtin _,_,_⟩=>false
 | _=>true
def X7 (P:Program) (base nt:Nat) (o:Oper) (s:St) (h':List Ob) (d:D):Prop:=
 ∀(Z:Nat→Prop) pl a w,Rel Z base nt s pl a w→base≤w.heap.size→∃v w' Qi,((execOp a.eval o).run P w=.ok (.value v) w'∨((execOp a.eval o).run P w=.ok .skip w'∧v=Go.undef)) ∧
  Tr s.h pl w h' Qi w'∧QW Z base h' Qi w'∧Qv Z h' Qi w' d v∧Below base w w'∧(calm o=true→Ext w w')
def Be (P:Program) (base nt:Nat) (o:Oper) (s:St) (h':List Ob) (d:D):Prop:=
 ∀(Z:Nat→Prop) pl a w,Rel Z base nt s pl a w→base≤w.heap.size→∃v w' Qi,((execOp a.eval o).run P w=.ok (.value v) w'∨((execOp a.eval o).run P w=.ok .skip w'∧v=Go.undef)) ∧
  Tr s.h pl w h' Qi w'∧QW Z base h' Qi w'∧Qv Z h' Qi w' d v∧Below base w w'
theorem Be.up {P:Program} {base nt:Nat} {o:Oper} {s:St} {h':List Ob} {d:D} (h:Be P base nt o s h' d) (hc:calm o=false):X7 P base nt o s h' d:=fun Z pl a w r hb=>
 let ⟨v,w',Qi,h1,h2,h3,h4,h5⟩:=h Z pl a w r hb
 ⟨v,w',Qi,h1,h2,h3,h4,h5,fun e=>by rw[hc]at e;cases e⟩
def z7:Value→Bool
 | .agg _ | .tuple _=>false
 | _=>true
def D.JU:D→Bool
 | .raw v=>z7 v
 | .undef | .agg _ | .tup _=>false
 | _=>true
def VV:D→Option (List D)
 | .agg cs=>bif cs.all D.JU then some cs else none
 | d=>bif d.JU then some [d] else none
theorem Pp {h:List Ob} {pl:List Pl} {w:World} {d:D} {v:Value} (r:Qv Z h pl w d v) (hd:d.JU=true):z7 v=true:=by
 cases r with
 | cl _ _ hc=>cases hc<;>first|rfl|exact hd|(simp [D.JU]at hd)
 | ref=>rfl
 | ptr=>rfl
 | mref _ _ o p b ho hp hk hg hs=>rw[hk.2];unfold Fw;split<;>rfl
 | clo=>rfl
 | agg=>simp [D.JU]at hd
 | tup=>simp [D.JU]at hd
theorem Qch {v:Value} (h:z7 v=true):v.cells=#[v]:=by cases v<;>first|rfl|cases h
theorem Pq {h:List Ob} {pl:List Pl} {w:World} {d:D} {v:Value} (r:Qv Z h pl w d v) {cs:List D} (hc:VV d=some cs) :
  v.cells.size=cs.length∧∀i,i<cs.length→Qv Z h pl w (nth cs i) (QL v.cells.toList i)∧z7 (QL v.cells.toList i)=true:=by
 have one:∀d':D,Qv Z h pl w d' v→(bif d'.JU then some [d'] else none)=some cs→v.cells.size=cs.length∧∀i,i<cs.length→Qv Z h pl w (nth cs i) (QL v.cells.toList i)∧z7 (QL v.cells.toList i)=true:=by
  intro d' r' h'
  cases hd:d'.JU
  ·rw[hd]at h';cases h'
  ·rw[hd]at h'
   simp only[cond_true,Option.some.injEq]at h'
   subst h'
   have ho:=Pp r' hd
   rw[Qch ho]
   refine⟨rfl,fun i hi=>?_⟩
   have:i=0:=by simp at hi;omega
   subst this
   exact⟨r',ho⟩
 cases d with
 | agg Zx=>
  simp only[VV]at hc
  obtain⟨ha,hc⟩:=YG hc
  cases hc
  obtain⟨vs,rfl,hl,hr⟩:=Da r
  refine⟨by simp [Value.cells,hl],fun i hi=>⟨by simpa [Value.cells] using hr i hi,?_⟩⟩
  refine Pp (by simpa [Value.cells] using hr i hi:Qv Z h pl w (nth cs i) _) ?_
  rw[List.all_eq_true]at ha
  have:=ha (nth cs i) (by simp [nth,List.getD_eq_getElem?_getD,hi])
  exact this
 | _=>exact one _ r hc
theorem Lm {P:Program} (b:Nat) (el:TypeId):∀(vs:List Value) (i q:Nat) (w:World) (c:Array Value),w.heap[b]? = some (.cells c el (0,0))→q+i+vs.length≤c.size→(∀j,j<vs.length→z7 (QL vs j)=true) →
  ∃w' c',(storeCells ⟨b,q,none⟩ vs i).run P w=.ok () w'∧w'.heap[b]? = some (.cells c' el (0,0))∧c'.size=c.size ∧
   (∀k,c'[k]? = if q+i≤k∧k<q+i+vs.length then vs[k - (q+i)]? else c[k]?)∧(∀k,k≠b→w'.heap[k]? = w.heap[k]?)∧w'.heap.size=w.heap.size∧w'.os=w.os∧w'.tape=w.tape∧w'.output=w.output
 | [],i,q,w,c,hb,hs,ho=>⟨w,c,by simp [storeCells],hb,rfl,fun k=>by rw[if_neg];simp,fun _ _=>rfl,rfl,rfl,rfl,rfl⟩
 | v::vs,i,q,w,c,hb,hs,ho=>by
  simp only[List.length_cons]at hs
  have h0:z7 v=true:=ho 0 (by simp)
  have Qd:q+i<c.size:=by omega
  have vE:w.cell? ⟨b,q+i,none⟩=some c[q+i]:=by rw[cell_of_row w b _ c el (0,0) hb];simp [Qd]
  have Qci:w.frozen? ⟨b,q+i,none⟩=false:=frozen_of_row w b _ c el hb
  have Xl:=heap_setCell_same w b (q+i) c el v hb
  obtain⟨w',c',h1,h2,h3,h4,h5,h6,h7,h8,h9⟩:=Lm (P:=P) b el vs (i+1) q (w.setCell ⟨b,q+i,none⟩ v) _ Xl (by simp;omega) (fun j hj=>by
   have:=ho (j+1) (by simp;omega)
   simpa [QL] using this)
  refine⟨w',c',?_,h2,by rw[h3];simp,fun k=>?_,fun k hk=>by rw[h5 k hk];exact Below.heap_setCell _ _ _ _ hk,by rw[h6];simp,by rw[h7];rfl,by rw[h8];rfl,by rw[h9];rfl⟩
  ·have ZJ:(store (⟨b,q+i,none⟩:Addr) v).run P w=.ok () (w.setCell ⟨b,q+i,none⟩ v):=by
    cases v<;>first|(simp [z7]at h0;done)|(simp [store,Sem.run,vE,Qci])
   simp only[storeCells,Sem.run_bind,z6,ZJ,Result.andThen_ok]
   exact h1
  ·rw[h4 k]
   by_cases YJ:q+i=k
   ·subst YJ
    rw[if_neg (by omega),if_pos (by simp)]
    simp [Qd]
   ·by_cases Dd:q+i≤k∧k<q+i+(v::vs).length
    ·rw[if_pos Dd,if_pos (by simp at Dd;omega)]
     obtain⟨m,rfl⟩:∃m,k=q+i+(m+1):=⟨k - (q+i) - 1,by omega⟩
     rw[show q+i+(m+1) - (q+i)=m+1 by omega,show q+i+(m+1) - (q+(i+1))=m by omega]
     simp
    ·rw[if_neg Dd,if_neg (by simp at Dd;omega),Array.getElem?_setIfInBounds_ne (by omega)]
def jY (cs:List D) (j:Nat) (ds:List D):List D:=cs.take j++ds++cs.drop (j+ds.length)
theorem Lp {cs:List D} {j:Nat} {ds:List D} (h:j+ds.length≤cs.length):(jY cs j ds).length=cs.length:=by simp [jY];omega
theorem bI {cs:List D} {j:Nat} {ds:List D} (h:j+ds.length≤cs.length) (i:Nat):nth (jY cs j ds) i=if j≤i∧i<j+ds.length then nth ds (i - j) else nth cs i:=by
 simp only[nth,jY,List.getD_eq_getElem?_getD]
 by_cases h1:i<j
 ·rw[if_neg (by omega),List.append_assoc,List.getElem?_append_left (by simp;omega)]
  simp [h1]
 ·by_cases h2:i<j+ds.length
  ·rw[if_pos ⟨by omega,h2⟩,List.append_assoc,List.getElem?_append_right (by simp;omega),List.getElem?_append_left (by simp;omega)]
   simp;congr 3;omega
  ·rw[if_neg (by omega),List.getElem?_append_right (by simp;omega)]
   simp only[List.getElem?_drop,List.length_append,List.length_take]
   congr 2;omega
def setRow (o:Ob) (i:Nat) (cells:List D):Ob:=
 { o with row:=bif o.kd.A5 then fun _=>cells else fun k=>bif Nat.beq k i then cells else o.row k }
theorem bJ {o:Ob} {i:Nat} {cells:List D} (h1:o.kd.A5=true→o.n=1) {k:Nat} (hi:i<o.n) (hk:k<o.n):(setRow o i cells).row k=if k=i then cells else o.row k:=by
 unfold setRow
 cases h:o.kd.A5
 ·simp only[cond_false]
  by_cases hh:k=i
  ·subst hh;simp
  ·have:Nat.beq k i=false:=by rw[← Bool.not_eq_true,Nat.beq_eq];exact hh
   rw[this,if_neg hh];rfl
 ·have:=h1 h
  simp only[cond_true]
  rw[if_pos (by omega)]
section
variable {P:Program} {L:Zh} {base nt:Nat} {s:St} {o:Oper}
theorem FE {w w':World} {b:Nat} (hb:base≤b) (h5:∀k,k≠b→w'.heap[k]? = w.heap[k]?) (h6:w'.heap.size=w.heap.size) (h7:w'.os=w.os) (h8:w'.tape=w.tape) (h9:w'.output=w.output):Below base w w':=
 ⟨h7,h8,h9,by omega,fun k hk=>h5 k (by omega)⟩
def FF (L:Zh) (h:List Ob) (t:TypeId) (ad x:D):Option (Prop × List Ob):=
 match ty L t,ad,VV x with
 | some y,.ptr l g i j,some cs=>match h[l]? with
  | some o=>some (g=o.gen∧i<o.n∧j+cs.length≤o.sz∧cs.length=y.size∧(o.kd.A5=true→o.n=1)∧o.kd.ro=false,h.set l (setRow o i (jY (o.row i) j cs)))
  | none=>none
 | _,_,_=>none
theorem Qcj (hL:Zw P L) {t:TypeId} {ad x:Operand} (ho:o.op=.store t ad x) {p:Prop} {h':List Ob} (h:FF L s.h t (Qq s.fr ad) (Qq s.fr x)=some (p,h')) (hp:p):Be P base nt o s h' .undef:=by
 intro Z pl a w r Jw
 have hx:=r.eval x
 have YI:=r.eval ad
 unfold FF at h
 split at h
 ·rename_i y l g i j cs jX Pr ZS
  rw[Pr]at YI
  split at h
  ·rename_i ob Q1
   simp only[Option.some.injEq,Prod.mk.injEq]at h
   obtain⟨rfl,rfl⟩:=h
   obtain⟨hg,hi,hj,ZC,h1,hro⟩:=hp
   have hy:=hL _ _ jX
   obtain⟨o',p',adr,hv,Zg,Zs,Zq,X5,KG⟩:=wX YI
   rw[Q1]at Zg;cases Zg
   obtain⟨b,q,rfl,rfl⟩:=KG hg
   obtain⟨QJ,xx⟩:=r.o.at_ l ob b q Q1 Zs
   obtain⟨c,el,hb,Bf,Z6,ZR⟩:=xx.cells Zq
   obtain⟨ZP,Lq⟩:=Pq hx ZS
   have bK:j+cs.length≤(ob.row i).length:=by rw[Z6 i hi];exact hj
   have hle:i*ob.sz+ob.sz≤ob.n*ob.sz:=by
    have:=Nat.mul_le_mul_right ob.sz (show i+1≤ob.n from hi);rw[Nat.add_mul]at this;omega
   obtain⟨w',c',g1,g2,g3,g4,g5,g6,g7,g8,g9⟩:=Lm (P:=P) b el (a.eval x).cells.toList 0 (q+(i*ob.sz+j)) w c hb (by simp [ZP];omega) (fun k hk=>(Lq k (by simpa [ZP] using hk)).2)
   have T:Tr s.h pl w (s.h.set l (setRow ob i (jY (ob.row i) j cs))) pl w':=Tr.Za r.o Q1 Zs rfl rfl rfl (fun k hk _=>g5 k hk) (fun c1 Pc e1=>by rw[hb]at e1;cases e1;exact⟨c',g2,g3⟩)
   refine⟨Go.undef,w',pl,.inr ⟨?_,rfl⟩,T,?_,.cl _ _ (.undef _),FE (QJ hro) g5 g6 g7 g8 g9⟩
   ·simp [execOp,ho,hv,Instr.storeAt,Instr.sureAddr,storeVar,hy.sizeOf,ZP,ZC,g1]
   ·refine QW.Za (hro:=rfl) r.o Q1 Zs Zq Zq rfl rfl (fun k hk _=>g5 k hk) hb g2 g3 (by rw[g3];exact Bf) (fun k hk=>?_) (fun k m hk hm=>?_)
    ·rw[bJ h1 hi hk]
     split
     ·rw[Lp bK,Z6 i hi];rfl
     ·exact Z6 k hk
    ·rw[bJ h1 hi hk]
     have Zq:k<ob.n:=hk
     have De:m<ob.sz:=hm
     show ∃v,c'[q+(k*ob.sz+m)]? = some v∧_
     rw[g4]
     simp only[Nat.add_zero,Array.length_toList,ZP]
     by_cases FG:k=i
     ·subst FG
      rw[if_pos rfl,bI bK]
      by_cases bL:j≤m∧m<j+cs.length
      ·rw[if_pos bL,if_pos (by omega)]
       refine⟨QL (a.eval x).cells.toList (m - j),?_,((Lq (m - j) (by omega)).1).tr T⟩
       rw[show q+(k*ob.sz+m) - (q+(k*ob.sz+j))=m - j by omega]
       simp only[QL,List.getD_eq_getElem?_getD]
       rw[List.getElem?_eq_getElem (by simp [ZP];omega)];rfl
      ·rw[if_neg bL,if_neg (by omega)]
       obtain⟨v,yJ,qt⟩:=ZR k m Zq De
       exact⟨v,yJ,qt.tr T⟩
     ·rw[if_neg FG,if_neg]
      ·obtain⟨v,yJ,qt⟩:=ZR k m Zq De
       exact⟨v,yJ,qt.tr T⟩
      ·intro Qsf
       rcases Nat.lt_or_gt_of_ne FG with Qd|Qd
       ·have:=Nat.mul_le_mul_right ob.sz (show k+1≤i from Qd);rw[Nat.add_mul]at this;omega
       ·have:=Nat.mul_le_mul_right ob.sz (show i+1≤k from Qd);rw[Nat.add_mul]at this;omega
  ·cases h
 ·cases h
theorem wZ {w:World} (h:base≤w.heap.size) (ob:Obj):Below base w (w.alloc ob):=(Below.refl base w).alloc h ob
theorem bM {pl:List Pl} {a:Act} {w:World} (r:Rel Z base nt s pl a w) (Jw:base≤w.heap.size) (el:TypeId) (v:Value) (cs:List D) (hl:v.cells.size=cs.length) (hr:∀i,i<cs.length→Qv Z s.h pl w (nth cs i) (QL v.cells.toList i)) :
  Tr s.h pl w (s.h++[⟨.one,0,cs.length,1,fun _=>cs⟩]) (pl++[some (w.heap.size,0)]) (w.alloc (.cells v.cells el))∧QW Z base (s.h++[⟨.one,0,cs.length,1,fun _=>cs⟩]) (pl++[some (w.heap.size,0)]) (w.alloc (.cells v.cells el)) ∧
   Qv Z (s.h++[⟨.one,0,cs.length,1,fun _=>cs⟩]) (pl++[some (w.heap.size,0)]) (w.alloc (.cells v.cells el)) (.ptr s.h.length 0 0 0) (.pointer (some ⟨w.heap.size,0,none⟩)):=by
 have e:∀b,b<w.heap.size→(w.alloc (.cells v.cells el)).heap[b]? = w.heap[b]? := fun b hb=>qs w _ b hb
 have ZX:(w.alloc (.cells v.cells el)).heap[w.heap.size]? = some (.cells v.cells el (0,0)):=heap_alloc_new w _
 have T:Tr s.h pl w (s.h++[⟨.one,0,cs.length,1,fun _=>cs⟩]) (pl++[some (w.heap.size,0)]) (w.alloc (.cells v.cells el)):=Tr.push r.o e _ _ (by intro b q h;simp at h;omega)
 refine⟨T,?_,?_⟩
 ·refine QW.push r.o e _ rfl (Nat.le_refl _) Jw ZX (by simp [hl]) (fun _ _=>rfl) (fun i j hi hj=>?_)
  have Ps:i=0:=by simp at hi;omega
  subst Ps
  refine⟨QL v.cells.toList j,?_,(hr j hj).tr T⟩
  simp only[Nat.zero_mul,Nat.zero_add,QL,List.getD_eq_getElem?_getD]
  have:j<v.cells.size:=by rw[hl];exact hj
  rw[Array.getElem?_toList,Array.getElem?_eq_getElem this];rfl
 ·have Q4:pl.length=s.h.length:=r.o.len
  exact .ptr _ _ _ _ ⟨.one,0,cs.length,1,fun _=>cs⟩ (some (w.heap.size,0)) _ (by simp) (by rw[← Q4];simp) rfl (Nat.le_refl _) (fun _=>⟨_,_,rfl,by simp⟩)
theorem Qck (hL:Zw P L) {t:TypeId} {ad x:Operand} (ho:o.op=.store t ad x) {p:Prop} {h':List Ob} (h:FF L s.h t (Qq s.fr ad) (Qq s.fr x)=some (p,h')) (hp:p):X7 P base nt o s h' .undef:=
 (Qcj hL ho h hp).up (by simp [calm,ho])
theorem Qcl {t:TypeId} {x:Operand} (ho:o.op=.box t x) {cs:List D} (hx:VV (Qq s.fr x)=some cs):X7 P base nt o s (s.h++[⟨.one,0,cs.length,1,fun _=>cs⟩]) (.ptr s.h.length 0 0 0):=by
 intro Z pl a w r Jw
 obtain⟨ZP,Lq⟩:=Pq (r.eval x) hx
 obtain⟨h1,h2,h3⟩:=bM r Jw t (a.eval x) cs ZP (fun i hi=>(Lq i hi).1)
 refine⟨_,_,_,.inl ?_,h1,h2,h3,wZ Jw _,fun _ b hb=>qs _ _ b hb⟩
 simp [execOp,ho,Instr.box,newVar,newRow]
theorem Qcm (hL:Zw P L) {t:TypeId} (ho:o.op=.alloc t) {y:Ty} (hy:ty L t=some y):X7 P base nt o s (s.h++[⟨.one,0,(y.zero.map ZT).length,1,fun _=>y.zero.map ZT⟩]) (.ptr s.h.length 0 0 0):=by
 intro Z pl a w r Jw
 obtain⟨z,hz,QV⟩:=(hL _ _ hy).zeroValue
 obtain⟨h1,h2,h3⟩:=bM r Jw t z (y.zero.map ZT) (by rw[← hz];simp) (fun i hi=>by
  rw[← hz]at hi ⊢
  have ZH:i<z.cells.size:=by simpa using hi
  refine .cl _ _ ?_
  simp only[nth,QL,List.getD_eq_getElem?_getD,List.getElem?_map,Array.getElem?_toList,Array.getElem?_eq_getElem ZH,Option.map_some,Option.getD_some]
  exact vC _ _ _)
 refine⟨_,_,_,.inl ?_,h1,h2,h3,wZ Jw _,fun _ b hb=>qs _ _ b hb⟩
 simp [execOp,ho,Instr.alloc,newVar,newRow,QV]
end
variable {Z:Nat→Prop}
def FH (h:List Ob):D→Option (Prop × Nat × Nat × (Nat→List D))
 | .ref l g off n=>match h[l]? with
  | some o=>some (g=o.gen∧off+n≤o.n,n,o.sz,fun k=>o.row (off+k))
  | none=>none
 | .imm sz n row=>some (True,n,sz,row)
 | _=>none
structure Src (Z:Nat→Prop) (h:List Ob) (pl:List Pl) (w:World) (v:Value) (n sz:Nat) (rows:Nat→List D) (a:Option Addr) (cap:Nat) (vs:Nat→Nat→Value):Prop where
 v:v=.slice a n cap
 len:∀i,i<n→(rows i).length=sz
 cell:∀i j,i<n→j<sz→∃b q,a=some ⟨b,q,none⟩∧w.cell? ⟨b,q+(i*sz+j),none⟩=some (vs i j)
 rel:∀i j,i<n→j<sz→Qv Z h pl w (nth (rows i) j) (vs i j)
theorem Pt {base:Nat} {h:List Ob} {pl:List Pl} {w:World} (R:QW Z base h pl w) {d:D} {v:Value} (r:Qv Z h pl w d v) {p:Prop} {n sz:Nat} {rows:Nat→List D} (e:FH h d=some (p,n,sz,rows)) (hp:p):∃a cap vs,Src Z h pl w v n sz rows a cap vs:=by
 unfold FH at e
 split at e
 ·rename_i l g off k
  split at e
  ·rename_i o ho
   simp only[Option.some.injEq,Prod.mk.injEq]at e
   obtain⟨rfl,rfl,rfl,rfl⟩:=e
   obtain⟨o',p',a,cap,hv,Zg,Zs,Zq,X5,KG⟩:=yE r
   rw[ho]at Zg;cases Zg
   have hn:=hp.2
   rcases KG hp.1 with ⟨h1,h2⟩|⟨b,q,c,el,Kl,ha,hb,hc,hl⟩
   ·subst h1
    exact⟨a,cap,fun _ _=>Go.undef,hv,fun i hi=>by omega,fun i j hi=>by omega,fun i j hi=>by omega⟩
   ·subst Kl
    obtain⟨QJ,xx⟩:=R.at_ l o b q ho Zs
    obtain⟨c',Lr,Jt,ZS,Z6,ZR⟩:=xx.cells Zq
    rw[hb]at Jt;cases Jt
    refine⟨a,cap,fun i j=>(c[q+((off+i)*o.sz+j)]?).getD Go.undef,hv,fun i hi=>Z6 _ (by omega),fun i j hi hj=>?_,fun i j hi hj=>?_⟩
    ·obtain⟨u,hu,hr⟩:=ZR (off+i) j (by omega) hj
     refine⟨b,q+off*o.sz,ha,?_⟩
     rw[cell_of_row w b _ c el (0,0) hb,show q+off*o.sz+(i*o.sz+j)=q+((off+i)*o.sz+j) by rw[Nat.add_mul];omega,hu];rfl
    ·obtain⟨u,hu,hr⟩:=ZR (off+i) j (by omega) hj
     simp only[hu,Option.getD_some];exact hr
  ·cases e
 ·simp only[Option.some.injEq,Prod.mk.injEq]at e
  obtain⟨rfl,rfl,rfl,rfl⟩:=e
  obtain⟨a,cap,b,q,vs,hv,ha,hl,hs,hc⟩:=IW r
  exact⟨a,cap,vs,hv,hs,fun i j hi hj=>⟨b,q,ha (by omega),(hc i j hi hj).1.2⟩,fun i j hi hj=>.cl _ _ (hc i j hi hj).2⟩
 ·cases e
def flat (n sz:Nat) (vs:Nat→Nat→Value):List Value:=(List.range (n*sz)).map fun k=>vs (k / sz) (k % sz)
theorem WX (n sz:Nat) (vs:Nat→Nat→Value):(flat n sz vs).length=n*sz:=by simp [flat]
theorem yK {n sz:Nat} {vs:Nat→Nat→Value} {i j:Nat} (hi:i<n) (hj:j<sz):(flat n sz vs)[i*sz+j]? = some (vs i j):=by
 have h1:i*sz+j<n*sz:=by have:=Nat.mul_le_mul_right sz (show i+1≤n from hi);rw[Nat.add_mul]at this;omega
 have h2:(i*sz+j) / sz=i:=by rw[Nat.mul_comm,Nat.mul_add_div (by omega),Nat.div_eq_of_lt hj];rfl
 have h3:(i*sz+j) % sz=j:=by rw[Nat.mul_comm,Nat.mul_add_mod,Nat.mod_eq_of_lt hj]
 simp [flat,h1,h2,h3]
theorem div_lt {n sz k:Nat} (h:k<n*sz):k / sz<n∧k % sz<sz∧k / sz*sz+k % sz=k:=by
 have h0:0<sz:=Nat.pos_of_ne_zero (fun e=>by subst e;simp at h)
 exact⟨Nat.div_lt_of_lt_mul (by rw[Nat.mul_comm];exact h),Nat.mod_lt _ h0,by rw[Nat.mul_comm];exact Nat.div_add_mod k sz⟩
theorem Src.first {P:Program} {h:List Ob} {pl:List Pl} {w:World} {v:Value} {n sz:Nat} {rows:Nat→List D} {a:Option Addr} {cap:Nat} {vs:Nat→Nat→Value} (S:Src Z h pl w v n sz rows a cap vs) (w':World) (hw:w'.heap=w.heap) :
  (Builtin.firstCells sz n v).run P w'=.ok (flat n sz vs).toArray w':=by
 rw[S.v]
 cases a with
 | none=>
  have:n*sz=0:=by
   by_cases h:n*sz=0
   ·exact h
   ·obtain⟨h1,h2,_⟩:=div_lt (n:=n) (sz:=sz) (k:=0) (by omega)
    obtain⟨b,q,hh,_⟩:=S.cell _ _ h1 h2
    cases hh
  simp [Builtin.firstCells,flat,this]
 | some ad=>
  refine run_firstCells_some w' sz n ad n cap _ (WX _ _ _) (fun k u hu=>?_)
  have hk:k<n*sz:=by have:=(List.getElem?_eq_some_iff.1 hu).1;rw[WX]at this;exact this
  obtain⟨h1,h2,h3⟩:=div_lt hk
  obtain⟨b,q,hh,hc⟩:=S.cell _ _ h1 h2
  cases hh
  rw[← h3,yK h1 h2]at hu
  cases hu
  rw[z6,World.cell?_of_block (w:=w) (by rw[hw]),← h3,hc]
  simp only[h3]
theorem Pu (z:Array Value) (n:Nat):(Builtin.zeroCells z n).size=n*z.size:=by simp [Builtin.zeroCells]
theorem bN {P:Program} {t ty e:TypeId} {y:Ty} (ht:P.underlying t=some (.slice e)) (hy:KP P e y) (hz:y.zero.length=y.size) (w:World) (b:Option Addr) (We z8:Nat) (bO:List Value) (c:Option Addr) (n cc:Nat) (news:List Value)
  (hold:∀w':World,w'.heap=w.heap→(Builtin.firstCells y.size We (.slice b We z8)).run P w'=.ok bO.toArray w') (ZX:∀w':World,w'.heap=w.heap→(Builtin.firstCells y.size n (.slice c n cc)).run P w'=.ok news.toArray w')
  (hg:z8<We+n) (X8:We+n≤4294967296) (XG:y.bytes≤1024) :
  ∃YK rest,(Builtin.append_ #[t,t] ty #[.slice b We z8,.slice c n cc]).run P w=.ok (.slice (some ⟨w.heap.size,0,none⟩) (We+n) YK) (w.drew.alloc (.cells (bO.toArray++news.toArray++rest) e)) ∧
   We+n≤YK∧rest.size=(YK - (We+n))*y.size:=by
 obtain⟨z,za,XH⟩:=hy.zeroValue
 obtain⟨i,hi,ja,Wz⟩:=hy.typeInfo w
 refine⟨grownCap w (We+n) z8 e,Builtin.zeroCells z.cells (grownCap w (We+n) z8 e - (We+n)),?_,grownCap_ge _ _ _ _,by rw[Pu];congr 1;rw[← hz,← za];simp⟩
 have ZH:∀w,(typeInfo e).run P w=.ok i w:=fun w=>by
  obtain⟨i',h1,h2,h3⟩:=hy.typeInfo w
  have h4:=hy.info
  cases hx:P.info? e with
  | none=>rw[hx]at h4;cases h4
  | some k=>
   simp [typeInfo,hx]at hi ⊢
   exact hi
 have hn:¬ (We+n≤z8):=by omega
 have Pv:¬ (9223372036854775807<((We:Int)+(n:Int))):=by omega
 have h48:Builtin.nextslicecap (We+n) z8*y.bytes≤281474976710656:=growslice_fits hg (by
  have:=Nat.mul_le_mul (show We+n≤4294967296 from X8) XG;omega)
 have Pw:¬ (281474976710656<Builtin.nextslicecap (We+n) z8*i.bytes):=by rw[Wz];omega
 have ho:=hold w.drew rfl
 have hw:=ZX w.drew rfl
 simp [Builtin.append_,run_underlying ht,hy.sizeOf,ZH,XH,Builtin.lenOf,hn,Pv,Pw,Question.forced,newRow,grownCap,ho,hw,askRoom,mark,Sem.run]
 rw[← Array.append_assoc];simp
theorem Qcn {P:Program} {t ty e:TypeId} {y:Ty} (ht:P.underlying t=some (.slice e)) (hy:KP P e y) (w:World) (b q We z8:Nat) (c:Option Addr) (n cc:Nat) (news:List Value)
  (ZX:(Builtin.firstCells y.size n (.slice c n cc)).run P w=.ok news.toArray w) (Ls:We+n≤z8) {w':World} (ZJ:(storeCells ⟨b,q+We*y.size,none⟩ news).run P w=.ok () w') :
  (Builtin.append_ #[t,t] ty #[.slice (some ⟨b,q,none⟩) We z8,.slice c n cc]).run P w=.ok (.slice (some ⟨b,q,none⟩) (We+n) z8) w':=by
 simp [Builtin.append_,run_underlying ht,hy.sizeOf,Builtin.lenOf,Ls,ZX,z6,ZJ]
theorem bT {P:Program} {t ty e:TypeId} {y:Ty} (ht:P.underlying t=some (.slice e)) (hy:KP P e y) (w:World) (b:Option Addr) (c:Option Addr) (cc:Nat) :
  (Builtin.append_ #[t,t] ty #[.slice b 0 0,.slice c 0 cc]).run P w=.ok (.slice b 0 0) w:=by
 cases b<;>cases c<;>simp [Builtin.append_,run_underlying ht,hy.sizeOf,Builtin.lenOf,Builtin.firstCells,loadCells,loadCellsFrom,storeCells]
def Jx (len off:Nat) (r1 r2:Nat→List D):Nat→List D:=fun k=>bif Nat.blt k len then r1 (off+k) else r2 (k - len)
theorem yL {len off k:Nat} {r1 r2:Nat→List D} (h:k<len):Jx len off r1 r2 k=r1 (off+k):=by
 have:Nat.blt k len=true:=by simpa [Nat.blt_eq] using h
 simp [Jx,this]
theorem w6 {len off k:Nat} {r1 r2:Nat→List D} (h:len≤k):Jx len off r1 r2 k=r2 (k - len):=by
 have:Nat.blt k len=false:=by rw[← Bool.not_eq_true,Nat.blt_eq];omega
 simp [Jx,this]
def Px (y:Ty) (n:Nat):Prop:=n≤4294967296∧y.bytes≤1024∧y.zero.length=y.size
def vF (L:Zh) (h:List Ob) (t:TypeId) (s x:D):Option (Prop × List Ob × D):=
 match ty L t,FH h x with
 | some ⟨.slice e,_,_,_⟩,some (px,n,sz,rows)=>match ty L e,s with
  | some y,.nil=>some (px∧sz=y.size∧Px y n∧(∀k,k<n→(rows k).all D.JU=true),h++[⟨.arr,0,y.size,n,rows⟩],.ref h.length 0 0 n)
  | some y,.ref l g off len=>match h[l]? with
   | some o=>some (px∧g=o.gen∧off+len=o.n∧o.sz=y.size∧sz=y.size∧Px y (len+n)∧(∀k,k<n→(rows k).all D.JU=true)∧o.kd.ro=false,h.set l ⟨.arr,o.gen+1,y.size,len+n,Jx len off o.row rows⟩,.ref l (o.gen+1) 0 (len+n))
   | none=>none
  | _,_=>none
 | _,_=>none
theorem Tr.w9 {base:Nat} {h:List Ob} {pl:List Pl} {w w':World} (R:QW Z base h pl w) {l:Nat} {o o':Ob} {p p':Pl} (ho:h[l]? = some o) (hp:pl[l]? = some p) (Ja:o'.kd.ty=o.kd.ty) (hg:o.gen<o'.gen)
  (e:∀k,k<w.heap.size→(∀q,p≠some (k,q))→w'.heap[k]? = w.heap[k]?) (Zs:∀b q,p'=some (b,q)→(∃q',p=some (b,q'))∨w.heap.size≤b):Tr h pl w (h.set l o') (pl.set l p') w' where
 JP:=fun k hk Qd=>by
  have QD:∀q,p≠some (k,q):=fun q hq=>hk l q (by rw[hp,hq])
  refine⟨fun l' q qu=>?_,e k Qd QD⟩
  by_cases WY:l=l'
  ·subst WY
   have:(pl.set l p')[l]? = some p':=by simp [KN hp]
   rw[this]at qu
   simp only[Option.some.injEq]at qu
   rcases Zs k q qu with ⟨q',h1⟩|h1
   ·exact QD q' h1
   ·omega
  ·rw[List.getElem?_set_ne WY]at qu;exact hk l' q qu
 obj:=fun l' o1 p1 Zp WW=>by
  by_cases WY:l=l'
  ·subst WY
   rw[ho]at Zp;cases Zp
   exact⟨o',p',by simp [Jv ho],by simp [KN hp],by omega,Ja,fun h=>by omega⟩
  ·exact⟨o1,p1,by rw[List.getElem?_set_ne WY];exact Zp,by rw[List.getElem?_set_ne WY];exact WW,Nat.le_refl _,rfl,fun _=>⟨rfl,rfl⟩⟩
 shape:=fun l' o1 o2 b1 q1 Zp KO jV WW c el hb=>by
  by_cases WY:l=l'
  ·subst WY
   rw[ho]at Zp;cases Zp
   have:(h.set l o')[l]? = some o':=by simp [Jv ho]
   rw[this]at KO;cases KO;omega
  ·refine⟨c,?_,rfl⟩
   rw[e b1 (R.lt WW).1 (fun q hq=>WY (R.inj l l' b1 q q1 (by rw[hp,hq]) WW))];exact hb
theorem QW.w9 {base:Nat} {h:List Ob} {pl:List Pl} {w w':World} (R:QW Z base h pl w) {l:Nat} {o o':Ob} {p:Pl} (ho:h[l]? = some o) (hp:pl[l]? = some p) (hk:o.kd.ty=0) (Zq:o'.kd.ty=0) (hg:o.gen<o'.gen)
  (e:∀k,k<w.heap.size→(∀q,p≠some (k,q))→w'.heap[k]? = w.heap[k]?) {b' q':Nat} (Zs:(∃q0,p=some (b',q0))∨w.heap.size≤b') (QJ:base≤b') {c:Array Value} {el:TypeId} (hb:w'.heap[b']? = some (.cells c el (0,0)))
  (ZC:q'+o'.n*o'.sz≤c.size) (Z6:∀i,i<o'.n→(o'.row i).length=o'.sz)
  (ZR:∀i j,i<o'.n→j<o'.sz→∃v,c[q'+(i*o'.sz+j)]? = some v∧Qv Z (h.set l o') (pl.set l (some (b',q'))) w' (nth (o'.row i) j) v):QW Z base (h.set l o') (pl.set l (some (b',q'))) w':=by
 have T:Tr h pl w (h.set l o') (pl.set l (some (b',q'))) w':=Tr.w9 R ho hp (by rw[hk,Zq]) hg e (fun b q bU=>by simp at bU;obtain⟨rfl,rfl⟩:=bU;exact Zs)
 have jc:(pl.set l (some (b',q')))[l]? = some (some (b',q')):=by simp [KN hp]
 have other:∀(l1 b q:Nat),l≠l1→pl[l1]? = some (some (b,q))→b≠b':=by
  intro l1 b q hl h1 yC
  subst yC
  rcases Zs with ⟨q0,h2⟩|h2
  ·exact hl (R.inj l l1 b q0 q (by rw[hp,h2]) h1)
  ·have:=(R.lt h1).1;omega
 refine⟨by simp [R.len],?_,?_,?_⟩
 ·intro l1 l2 b q1 q2 h1 h2
  by_cases e1:l=l1
  ·subst e1
   rw[jc]at h1;simp only[Option.some.injEq,Prod.mk.injEq]at h1
   by_cases e2:l=l2
   ·exact e2
   ·rw[List.getElem?_set_ne e2]at h2
    exact absurd h1.1.symm (other l2 b q2 e2 h2)
  ·rw[List.getElem?_set_ne e1]at h1
   by_cases e2:l=l2
   ·subst e2
    rw[jc]at h2;simp only[Option.some.injEq,Prod.mk.injEq]at h2
    exact absurd h2.1.symm (other l1 b q1 e1 h1)
   ·rw[List.getElem?_set_ne e2]at h2
    exact R.inj l1 l2 b q1 q2 h1 h2
 ·intro l1 o1 Zp h1
  by_cases e1:l=l1
  ·subst e1;rw[jc]at h1;cases h1
  ·rw[List.getElem?_set_ne e1]at h1 Zp;exact R.J2 l1 o1 Zp h1
 ·intro l1 o1 b q Zp h1
  by_cases e1:l=l1
  ·subst e1
   rw[jc]at h1;simp only[Option.some.injEq,Prod.mk.injEq]at h1
   obtain⟨rfl,rfl⟩:=h1
   have:(h.set l o')[l]? = some o':=by simp [Jv ho]
   rw[this]at Zp;cases Zp
   exact⟨fun _=>QJ,.CY Zq ⟨c,el,hb,ZC,Z6,ZR⟩⟩
  ·rw[List.getElem?_set_ne e1]at h1 Zp
   obtain⟨g1,x⟩:=R.at_ l1 o1 b q Zp h1
   have QD:∀q0,p≠some (b,q0):=fun q0 hq=>e1 (R.inj l l1 b q0 q (by rw[hp,hq]) h1)
   exact⟨g1,x.to rfl rfl rfl (e b (R.lt h1).1 QD) (fun _ _=>rfl) fun i j v _ _ hr=>hr.tr T⟩
section
variable {P:Program} {L:Zh} {base nt:Nat} {s:St} {o:Oper}
theorem Qco (hL:Zw P L) {t:TypeId} {x0 x:Operand} (ho:o.op=.call ⟨.builtin .append,#[x0,x],#[t,t]⟩) (jZ:Qq s.fr x0=.nil) {p:Prop} {h':List Ob} {d:D} (h:vF L s.h t .nil (Qq s.fr x)=some (p,h',d)) (hp:p):Be P base nt o s h' d:=by
 intro Z pl a w r Jw
 have j0:=r.eval x0
 have xg:=r.eval x
 rw[jZ]at j0
 unfold vF at h
 split at h
 ·rename_i e _ _ _ px n sz rows he Py
  cases KQ:ty L e with
  | none=>rw[KQ]at h;cases h
  | some y=>
   rw[KQ]at h
   simp only[Option.some.injEq,Prod.mk.injEq]at h
   obtain⟨rfl,rfl,rfl⟩:=h
   obtain⟨Pz,rfl,⟨X8,XG,yM⟩,Lu⟩:=hp
   have hy:=hL _ _ KQ
   have ht:=zZ (hL _ _ he) rfl
   obtain⟨a0,Df⟩:=yD j0
   obtain⟨ax,yN,vs,S⟩:=Pt r.o xg Py Pz
   have Q4:pl.length=s.h.length:=r.o.len
   by_cases hn:n=0
   ·subst hn
    have T:Tr s.h pl w (s.h++[⟨.arr,0,y.size,0,rows⟩]) (pl++[none]) w:=Tr.push r.o (fun _ _=>rfl) _ _ (by intro b q e;cases e)
    refine⟨_,w,pl++[none],.inl ?_,T,r.o.wV _ rfl,.ref _ _ _ _ ⟨.arr,0,y.size,0,rows⟩ none a0 0 (by simp) (by rw[← Q4];simp) rfl (Nat.le_refl _) (fun _=>.inl ⟨rfl,rfl⟩),Below.refl _ _⟩
    rw[X6 ho]
    simp [builtin,Df,S.v,bT ht hy]
   ·obtain⟨YK,rest,QV,yO,X9⟩:=bN (ty:=o.type) ht hy yM w a0 0 0 [] ax n yN (flat n y.size vs) (fun w' _=>by cases a0<;>simp [Builtin.firstCells,loadCells,loadCellsFrom]) (fun w' hw=>by rw[← S.v];exact S.first w' hw) (by omega) (by omega) XG
    simp only[Nat.zero_add,Array.empty_append]at QV yO X9
    have e1:∀b,b<w.heap.size→(w.drew.alloc (.cells ((flat n y.size vs).toArray++rest) e)).heap[b]? = w.heap[b]? := fun b hb=>qs w.drew _ b hb
    have ZX:(w.drew.alloc (.cells ((flat n y.size vs).toArray++rest) e)).heap[w.heap.size]? = some (.cells ((flat n y.size vs).toArray++rest) e (0,0)):=heap_alloc_new w.drew _
    have T:Tr s.h pl w (s.h++[⟨.arr,0,y.size,n,rows⟩]) (pl++[some (w.heap.size,0)]) (w.drew.alloc (.cells ((flat n y.size vs).toArray++rest) e)):=Tr.push r.o e1 _ _ (by intro b q h;simp at h;omega)
    refine⟨.slice (some ⟨w.heap.size,0,none⟩) n YK,_,_,.inl ?_,T,QW.push r.o e1 _ rfl (Nat.le_refl _) Jw ZX (by simp [WX]) S.len (fun i j hi hj=>⟨vs i j,?_,(S.rel i j hi hj).tr T⟩),.ref _ _ _ _ ⟨.arr,0,y.size,n,rows⟩ (some (w.heap.size,0)) _ YK (by simp) (by rw[← Q4];simp) rfl (Nat.le_refl _) (fun _=>.inr ⟨w.heap.size,0,_,e,rfl,by simp,ZX,?_,yO⟩),?_⟩
    ·rw[X6 ho]
     have:(Array.map a.eval #[x0,x])=#[.slice a0 0 0,.slice ax n yN]:=by simp [Df,S.v]
     rw[this]
     simp only[builtin,Sem.run_bind,QV,Result.andThen_ok,Sem.run_pure]
    ·have hg:=yK (vs:=vs) hi hj
     have Qd:=(List.getElem?_eq_some_iff.1 hg).1
     rw[Nat.zero_add,Array.getElem?_append_left (by simpa using Qd)]
     simpa using hg
    ·simp only[Nat.zero_add,Array.size_append,List.size_toArray,WX,X9]
     rw[← Nat.add_mul];exact Nat.mul_le_mul_right _ (by omega)
    ·exact((Below.refl base w).drew).alloc Jw _
 ·cases h
theorem Qcp (hL:Zw P L) {t:TypeId} {x0 x:Operand} {l g off len:Nat} (ho:o.op=.call ⟨.builtin .append,#[x0,x],#[t,t]⟩) (jZ:Qq s.fr x0=.ref l g off len) {p:Prop} {h':List Ob} {d:D} (h:vF L s.h t (.ref l g off len) (Qq s.fr x)=some (p,h',d)) (hp:p):Be P base nt o s h' d:=by
 intro Z pl a w r Jw
 have j0:=r.eval x0
 have xg:=r.eval x
 rw[jZ]at j0
 unfold vF at h
 split at h
 ·rename_i e _ _ _ px n sz rows he Py
  cases KQ:ty L e with
  | none=>rw[KQ]at h;cases h
  | some y=>
   rw[KQ]at h
   dsimp only at h
   split at h
   ·rename_i ob Q1
    simp only[Option.some.injEq,Prod.mk.injEq]at h
    obtain⟨rfl,rfl,rfl⟩:=h
    obtain⟨Pz,hg,Bg,Qcq,rfl,⟨X8,XG,yM⟩,Lu,hro⟩:=hp
    have hy:=hL _ _ KQ
    have ht:=zZ (hL _ _ he) rfl
    obtain⟨o',p',a0,j4,Df,Zg,Zs,Zq,X5,KG⟩:=yE j0
    rw[Q1]at Zg;cases Zg
    obtain⟨ax,yN,vs,S⟩:=Pt r.o xg Py Pz
    have Bh:(Array.map a.eval #[x0,x])=#[.slice a0 len j4,.slice ax n yN]:=by simp [Df,S.v]
    have fin:∀{v:Value} {w':World},(Builtin.append_ #[t,t] o.type #[.slice a0 len j4,.slice ax n yN]).run P w=.ok v w'→(execOp a.eval o).run P w=.ok (.value v) w':=by
     intro v w' QV
     rw[X6 ho,Bh]
     simp only[builtin,Sem.run_bind,QV,Result.andThen_ok,Sem.run_pure]
    have grown:∀(vo:Nat→Nat→Value) (hold:∀w':World,w'.heap=w.heap→(Builtin.firstCells y.size len (.slice a0 len j4)).run P w'=.ok (flat len y.size vo).toArray w')
      (hlen:∀i,i<len→(ob.row (off+i)).length=y.size) (Lw:∀i j,i<len→j<y.size→Qv Z s.h pl w (nth (ob.row (off+i)) j) (vo i j)),j4<len+n →
      ∃v w' Qi,((execOp a.eval o).run P w=.ok (.value v) w'∨((execOp a.eval o).run P w=.ok .skip w'∧v=Go.undef))∧Tr s.h pl w (s.h.set l ⟨.arr,ob.gen+1,y.size,len+n,Jx len off ob.row rows⟩) Qi w' ∧
       QW Z base (s.h.set l ⟨.arr,ob.gen+1,y.size,len+n,Jx len off ob.row rows⟩) Qi w'∧Qv Z (s.h.set l ⟨.arr,ob.gen+1,y.size,len+n,Jx len off ob.row rows⟩) Qi w' (.ref l (ob.gen+1) 0 (len+n)) v∧Below base w w':=by
     intro vo hold hlen Lw Qd
     obtain⟨YK,rest,QV,yO,X9⟩:=bN (ty:=o.type) ht hy yM w a0 len j4 (flat len y.size vo) ax n yN (flat n y.size vs) hold (fun w' hw=>by rw[← S.v];exact S.first w' hw) Qd X8 XG
     have e1:∀b,b<w.heap.size→(w.drew.alloc (.cells ((flat len y.size vo).toArray++(flat n y.size vs).toArray++rest) e)).heap[b]? = w.heap[b]? := fun b hb=>qs w.drew _ b hb
     have ZX:(w.drew.alloc (.cells ((flat len y.size vo).toArray++(flat n y.size vs).toArray++rest) e)).heap[w.heap.size]? = some (.cells ((flat len y.size vo).toArray++(flat n y.size vs).toArray++rest) e (0,0)):=heap_alloc_new w.drew _
     have T:=Tr.w9 (o':=⟨.arr,ob.gen+1,y.size,len+n,Jx len off ob.row rows⟩) (p':=some (w.heap.size,0)) r.o Q1 Zs Zq.symm (Nat.lt_succ_self _) (fun k hk _=>e1 k hk) (by intro b q h;simp at h;exact .inr (by omega))
     refine⟨_,_,_,.inl (fin QV),T,QW.w9 r.o Q1 Zs Zq rfl (Nat.lt_succ_self _) (fun k hk _=>e1 k hk) (.inr (Nat.le_refl _)) Jw ZX ?_ (fun i hi=>?_) (fun i j hi hj=>?_),.ref _ _ _ _ ⟨.arr,ob.gen+1,y.size,len+n,Jx len off ob.row rows⟩ (some (w.heap.size,0)) _ YK (by simp [Jv Q1]) (by simp [KN Zs]) rfl (Nat.le_refl _) (fun _=>.inr ⟨w.heap.size,0,_,e,rfl,by simp,ZX,?_,yO⟩),((Below.refl base w).drew).alloc Jw _⟩
     ·simp [WX,Nat.add_mul]
     ·by_cases j5:i<len
      ·show (Jx len off ob.row rows i).length=_
       rw[yL j5];exact hlen i j5
      ·show (Jx len off ob.row rows i).length=_
       rw[w6 (by omega)];exact S.len _ (by have:i<len+n:=hi;omega)
     ·have Ku:j<y.size:=hj
      have ZH:i<len+n:=hi
      show ∃v,((flat len y.size vo).toArray++(flat n y.size vs).toArray++rest)[0+(i*y.size+j)]? = some v∧Qv _ _ _ _ (nth (Jx len off ob.row rows i) j) v
      by_cases j5:i<len
      ·rw[yL j5]
       refine⟨vo i j,?_,(Lw i j j5 Ku).tr T⟩
       have FI:=yK (vs:=vo) j5 Ku
       have bV:=(List.getElem?_eq_some_iff.1 FI).1
       rw[Nat.zero_add,Array.getElem?_append_left (by simp;omega),Array.getElem?_append_left (by simpa using bV)]
       simpa using FI
      ·rw[w6 (by omega)]
       refine⟨vs (i - len) j,?_,(S.rel (i - len) j (by omega) Ku).tr T⟩
       have FI:=yK (vs:=vs) (show i - len<n by omega) Ku
       have bV:=(List.getElem?_eq_some_iff.1 FI).1
       have e2:i*y.size+j - (flat len y.size vo).length=(i - len)*y.size+j:=by
        rw[WX]
        have:i=(i - len)+len:=by omega
        conv=>lhs;rw[this,Nat.add_mul]
        omega
       have e3:(flat len y.size vo).length≤i*y.size+j:=by
        rw[WX]
        have:=Nat.mul_le_mul_right y.size (show len≤i by omega);omega
       rw[Nat.zero_add,Array.getElem?_append_left (by simp;omega),Array.getElem?_append_right (by simpa using e3)]
       simp only[List.size_toArray]
       rw[e2];simpa using FI
     ·simp only[Nat.zero_add,Array.size_append,List.size_toArray,WX,X9]
      rw[← Nat.add_mul,← Nat.add_mul];exact Nat.mul_le_mul_right _ (by omega)
    rcases KG hg with ⟨h1,h2⟩|⟨b,q,c,el,Kl,zd,hb,ZS,vD⟩
    ·subst h1
     subst h2
     by_cases hn:n=0
     ·subst hn
      have QV:=bT (ty:=o.type) ht hy w a0 ax yN
      cases Lx:p' with
      | none=>
       subst Lx
       have T:=Tr.w9 (o':=⟨.arr,ob.gen+1,y.size,0+0,Jx 0 off ob.row rows⟩) (p':=none) r.o Q1 Zs Zq.symm (Nat.lt_succ_self _) (fun k hk _=>rfl) (by intro b q h;cases h)
       have Xl:pl.set l none=pl:=by
        apply List.ext_getElem?;intro i
        by_cases hi:l=i
        ·subst hi;rw[Zs];simp [KN Zs]
        ·rw[List.getElem?_set_ne hi]
       rw[Xl]at T
       refine⟨_,w,pl,.inl (fin QV),T,?_,.ref _ _ _ _ ⟨.arr,ob.gen+1,y.size,0+0,Jx 0 off ob.row rows⟩ none a0 0 (by simp [Jv Q1]) Zs rfl (Nat.le_refl _) (fun _=>.inl ⟨rfl,rfl⟩),Below.refl _ _⟩
       refine⟨by simp [r.o.len],r.o.inj,fun l1 o1 Zp h1=>?_,fun l1 o1 b q Zp h1=>?_⟩
       ·by_cases e1:l=l1
        ·subst e1
         rw[List.getElem?_set_self (Jv Q1)]at Zp;cases Zp;rfl
        ·rw[List.getElem?_set_ne e1]at Zp;exact r.o.J2 l1 o1 Zp h1
       ·by_cases e1:l=l1
        ·subst e1;rw[Zs]at h1;cases h1
        ·rw[List.getElem?_set_ne e1]at Zp
         obtain⟨g1,x⟩:=r.o.at_ l1 o1 b q Zp h1
         exact⟨g1,x.to rfl rfl rfl rfl (fun _ _=>rfl) fun i j v _ _ hr=>hr.tr T⟩
      | some bq=>
       obtain⟨b,q⟩:=bq
       subst Lx
       obtain⟨g1,x⟩:=r.o.at_ l ob b q Q1 Zs
       obtain⟨c,el,g2,g3,g4,g5⟩:=x.cells Zq
       have T:=Tr.w9 (o':=⟨.arr,ob.gen+1,y.size,0+0,Jx 0 off ob.row rows⟩) (p':=some (b,q)) r.o Q1 Zs Zq.symm (Nat.lt_succ_self _) (fun k hk _=>rfl) (by intro b1 q1 h;simp at h;exact .inl ⟨q,by rw[h.1]⟩)
       exact⟨_,w,_,.inl (fin QV),T,QW.w9 r.o Q1 Zs Zq rfl (Nat.lt_succ_self _) (fun k hk _=>rfl) (.inl ⟨q,rfl⟩) (g1 hro) g2 (by simp;omega) (fun i hi=>by simp at hi) (fun i j hi=>by simp at hi),
        .ref _ _ _ _ ⟨.arr,ob.gen+1,y.size,0+0,Jx 0 off ob.row rows⟩ (some (b,q)) a0 0 (by simp [Jv Q1]) (by simp [KN Zs]) rfl (Nat.le_refl _) (fun _=>.inl ⟨rfl,rfl⟩),Below.refl _ _⟩
     ·exact grown (fun _ _=>Go.undef) (fun w' _=>by cases a0<;>simp [Builtin.firstCells,loadCells,loadCellsFrom,flat]) (fun i hi=>by omega) (fun i j hi=>by omega) (by omega)
    ·subst Kl
     obtain⟨QJ,x⟩:=r.o.at_ l ob b q Q1 Zs
     have QJ:=QJ hro
     obtain⟨c',Lr,Jt,Bf,Z6,ZR⟩:=x.cells Zq
     rw[hb]at Jt;cases Jt
     rw[Qcq]at ZS Bf Z6 ZR zd
     by_cases Ls:len+n≤j4
     ·
      have Dg:q+off*y.size+len*y.size+n*y.size≤c.size:=by
       have h1:=Nat.mul_le_mul_right y.size (show off+(len+n)≤off+j4 by omega)
       simp only[Nat.add_mul]at h1 ZS
       omega
      obtain⟨w',c',g1,g2,g3,g4,g5,g6,g7,g8,g9⟩:=Lm (P:=P) b el (flat n y.size vs) 0 (q+off*y.size+len*y.size) w c hb (by simp [WX];omega) (fun k hk=>by
       rw[WX]at hk
       obtain⟨k1,k2,k3⟩:=div_lt hk
       have hg:=yK (vs:=vs) k1 k2
       rw[k3]at hg
       have:QL (flat n y.size vs) k=vs (k / y.size) (k % y.size):=by simp [QL,List.getD_eq_getElem?_getD,hg]
       rw[this]
       refine Pp (S.rel _ _ k1 k2) ?_
       have h2:=Lu _ k1
       rw[List.all_eq_true]at h2
       refine h2 _ ?_
       have h3:k % y.size<(rows (k / y.size)).length:=by rw[S.len _ k1];exact k2
       simp only[nth,List.getD_eq_getElem?_getD,List.getElem?_eq_getElem h3,Option.getD_some]
       exact List.getElem_mem h3)
      subst zd
      have QV:=Qcn (ty:=o.type) ht hy w b (q+off*y.size) len j4 ax n yN (flat n y.size vs) (by rw[← S.v];exact S.first w rfl) Ls g1
      have he:∀k,k<w.heap.size→(∀q1,(some (b,q):Pl)≠some (k,q1))→w'.heap[k]? = w.heap[k]? := fun k _ hk=>g5 k (fun hkb=>hk q (by rw[hkb]))
      have T:=Tr.w9 (o':=⟨.arr,ob.gen+1,y.size,len+n,Jx len off ob.row rows⟩) (p':=some (b,q+off*y.size)) r.o Q1 Zs Zq.symm (Nat.lt_succ_self _) he (by intro b1 q1 h;simp at h;exact .inl ⟨q,by rw[h.1]⟩)
      refine⟨_,w',_,.inl (fin QV),T,QW.w9 r.o Q1 Zs Zq rfl (Nat.lt_succ_self _) he (.inl ⟨q,rfl⟩) QJ g2 ?_ (fun i hi=>?_) (fun i j hi hj=>?_),.ref _ _ _ _ ⟨.arr,ob.gen+1,y.size,len+n,Jx len off ob.row rows⟩ (some (b,q+off*y.size)) _ j4 (by simp [Jv Q1]) (by simp [KN Zs]) rfl (Nat.le_refl _) (fun _=>.inr ⟨b,q+off*y.size,c',el,rfl,by simp,g2,?_,Ls⟩),FE QJ g5 g6 g7 g8 g9⟩
      ·rw[g3];simp only[Nat.add_mul];omega
      ·by_cases j5:i<len
       ·show (Jx len off ob.row rows i).length=_
        rw[yL j5];exact Z6 _ (by omega)
       ·show (Jx len off ob.row rows i).length=_
        rw[w6 (by omega)];exact S.len _ (by have:i<len+n:=hi;omega)
      ·have Ku:j<y.size:=hj
       have ZH:i<len+n:=hi
       show ∃v,c'[q+off*y.size+(i*y.size+j)]? = some v∧Qv _ _ _ _ (nth (Jx len off ob.row rows i) j) v
       rw[g4]
       simp only[WX,Nat.add_zero]
       by_cases j5:i<len
       ·rw[yL j5,if_neg]
        ·obtain⟨v,hv,hr⟩:=ZR (off+i) j (by omega) Ku
         refine⟨v,?_,hr.tr T⟩
         rw[← hv];congr 1;rw[Nat.add_mul];omega
        ·have:=Nat.mul_le_mul_right y.size (show i+1≤len from j5);rw[Nat.add_mul]at this;omega
       ·have h1:=Nat.mul_le_mul_right y.size (show len≤i by omega)
        have h2:i*y.size=(i - len)*y.size+len*y.size:=by rw[← Nat.add_mul];congr 1;omega
        have h3:=Nat.mul_le_mul_right y.size (show (i - len)+1≤n by omega)
        rw[Nat.add_mul]at h3
        rw[w6 (by omega),if_pos (by omega)]
        refine⟨vs (i - len) j,?_,(S.rel (i - len) j (by omega) Ku).tr T⟩
        rw[show q+off*y.size+(i*y.size+j) - (q+off*y.size+len*y.size)=(i - len)*y.size+j by omega]
        exact yK (by omega) Ku
      ·rw[g3];simp only[Nat.zero_add,Nat.add_mul]at ZS ⊢;omega
     ·refine grown (fun i j=>(c[q+((off+i)*y.size+j)]?).getD Go.undef) (fun w' hw=>?_) (fun i hi=>Z6 _ (by omega)) (fun i j hi hj=>?_) (by omega)
      ·have S0:Src Z s.h pl w (.slice a0 len j4) len y.size (fun k=>ob.row (off+k)) a0 j4 (fun i j=>(c[q+((off+i)*y.size+j)]?).getD Go.undef):=by
        refine⟨rfl,fun i hi=>Z6 _ (by omega),fun i j hi hj=>⟨b,q+off*y.size,zd,?_⟩,fun i j hi hj=>?_⟩
        ·obtain⟨u,hu,hr⟩:=ZR (off+i) j (by omega) hj
         rw[cell_of_row w b _ c el (0,0) hb,show q+off*y.size+(i*y.size+j)=q+((off+i)*y.size+j) by rw[Nat.add_mul];omega,hu];rfl
        ·obtain⟨u,hu,hr⟩:=ZR (off+i) j (by omega) hj
         simp only[hu,Option.getD_some];exact hr
       exact S0.first w' hw
      ·obtain⟨u,hu,hr⟩:=ZR (off+i) j (by omega) hj
       simp only[hu,Option.getD_some];exact hr
   ·cases h
 ·cases h
theorem Qcs (hL:Zw P L) {t:TypeId} {x0 x:Operand} (ho:o.op=.call ⟨.builtin .append,#[x0,x],#[t,t]⟩) (jZ:Qq s.fr x0=.nil) {p:Prop} {h':List Ob} {d:D} (h:vF L s.h t .nil (Qq s.fr x)=some (p,h',d)) (hp:p):X7 P base nt o s h' d:=
 (Qco hL ho jZ h hp).up (by simp [calm,ho])
theorem Qct (hL:Zw P L) {t:TypeId} {x0 x:Operand} {l g off len:Nat} (ho:o.op=.call ⟨.builtin .append,#[x0,x],#[t,t]⟩) (jZ:Qq s.fr x0=.ref l g off len) {p:Prop} {h':List Ob} {d:D} (h:vF L s.h t (.ref l g off len) (Qq s.fr x)=some (p,h',d)) (hp:p):X7 P base nt o s h' d:=
 (Qcp hL ho jZ h hp).up (by simp [calm,ho])
end
variable {Z:Nat→Prop}
def jd (Z:Nat→Prop) (h:List Ob) (pl:List Pl) (w:World) (cs:List D) (vs:Array Value):Prop:=vs.size=cs.length∧∀i,i<cs.length→Qv Z h pl w (nth cs i) (QL vs.toList i)
theorem bW (off:Nat):∀(l:List Value) (n:Nat) (c:Array Value),((l.zipIdx n).foldl (fun (cs:Array Value) (x:Value × Nat)=>cs.setIfInBounds (off+x.2) x.1) c).size=c.size ∧
  ∀k,(((l.zipIdx n).foldl (fun (cs:Array Value) (x:Value × Nat)=>cs.setIfInBounds (off+x.2) x.1) c)[k]?)=if off+n≤k∧k<off+n+l.length∧k<c.size then l[k - (off+n)]? else c[k]?
 | [],n,c=>⟨rfl,fun k=>by rw[if_neg (by simp;omega)];rfl⟩
 | v::l,n,c=>by
  obtain⟨h1,h2⟩:=bW off l (n+1) (c.setIfInBounds (off+n) v)
  simp only[List.zipIdx_cons,List.foldl_cons]
  refine⟨by rw[h1];simp,fun k=>?_⟩
  rw[h2 k]
  simp only[Array.size_setIfInBounds,List.length_cons]
  by_cases h3:k=off+n
  ·subst h3
   rw[if_neg (by omega),Array.getElem?_setIfInBounds_self]
   by_cases h4:off+n<c.size
   ·rw[if_pos h4,if_pos ⟨by omega,by omega,h4⟩];simp
   ·rw[if_neg h4,if_neg (by omega)];simp;omega
  ·rw[Array.getElem?_setIfInBounds_ne (by omega)]
   by_cases h5:off+n≤k∧k<off+n+(l.length+1)∧k<c.size
   ·rw[if_pos h5,if_pos (by omega)]
    obtain⟨m,rfl⟩:∃m,k=off+n+(m+1):=⟨k - (off+n) - 1,by omega⟩
    rw[show off+n+(m+1) - (off+(n+1))=m by omega,show off+n+(m+1) - (off+n)=m+1 by omega];simp
   ·rw[if_neg h5,if_neg (by omega)]
theorem Qcu (off:Nat) (v:Array Value) (c:Array Value):v.zipIdx.foldl (fun (cs:Array Value) (x:Value × Nat)=>cs.setIfInBounds (off+x.2) x.1) c=(v.toList.zipIdx 0).foldl (fun (cs:Array Value) (x:Value × Nat)=>cs.setIfInBounds (off+x.2) x.1) c:=by
 rw[← Array.foldl_toList,Array.toList_zipIdx]
theorem jd.jY {h:List Ob} {pl:List Pl} {w:World} {cs ds:List D} {vs us:Array Value} {off:Nat} (r:jd Z h pl w cs vs) (q:jd Z h pl w ds us) (hl:off+ds.length≤cs.length) :
  jd Z h pl w (jY cs off ds) (us.zipIdx.foldl (fun (cs:Array Value) (x:Value × Nat)=>cs.setIfInBounds (off+x.2) x.1) vs):=by
 obtain⟨h1,h2⟩:=bW off us.toList 0 vs
 rw[Qcu]
 refine⟨by rw[h1,r.1,Lp hl],fun i hi=>?_⟩
 rw[Lp hl]at hi
 rw[bI hl]
 have e:QL (List.foldl (fun (cs:Array Value) (x:Value × Nat)=>cs.setIfInBounds (off+x.2) x.1) vs (us.toList.zipIdx 0)).toList i=if off≤i∧i<off+ds.length then QL us.toList (i - off) else QL vs.toList i:=by
  simp only[QL,List.getD_eq_getElem?_getD,Array.getElem?_toList,h2 i,Nat.add_zero,Array.length_toList,q.1,r.1]
  by_cases h3:off≤i∧i<off+ds.length
  ·rw[if_pos ⟨h3.1,h3.2,hi⟩,if_pos h3]
  ·rw[if_neg (by omega),if_neg h3]
 rw[e]
 split
 ·exact q.2 _ (by omega)
 ·exact r.2 _ hi
def ze (place:Nat→Option (Nat × Nat)) (cells:List D):List (Nat × Option (List D))→Option (List D)
 | []=>some cells
 | (i,some ds)::rest=>match place i with
  | some (off,size)=>bif Nat.beq ds.length size&&Nat.ble (off+ds.length) cells.length then ze place (jY cells off ds) rest else none
  | none=>none
 | (_,none)::_=>none
theorem FJ {h:List Ob} {pl:List Pl} {w:World} (place:Nat→Option (Nat × Nat)) (ev:Operand→D) (a:Act) (Bh:∀x,Qv Z h pl w (ev x) (a.eval x)):∀(parts:List (Nat × Operand)) (cells vG:List D) (vs:Array Value),jd Z h pl w cells vs →
  ze place cells (parts.map fun x=>(x.1,VV (ev x.2)))=some vG→∃KR,Instr.fill place vs (parts.map fun x=>(x.1,a.eval x.2))=some KR∧jd Z h pl w vG KR
 | [],cells,vG,vs,r,hh=>by simp [ze]at hh;subst hh;exact⟨vs,rfl,r⟩
 | (i,x)::parts,cells,vG,vs,r,hh=>by
  simp only[List.map_cons]at hh ⊢
  cases hd:VV (ev x) with
  | none=>rw[hd]at hh;simp [ze]at hh
  | some ds=>
   rw[hd]at hh
   simp only[ze]at hh
   cases hp:place i with
   | none=>rw[hp]at hh;cases hh
   | some os=>
    obtain⟨off,size⟩:=os
    rw[hp]at hh
    obtain⟨hc,hh⟩:=YG hh
    simp only[Bool.and_eq_true,Nat.beq_eq,Nat.ble_eq]at hc
    obtain⟨j6,qv⟩:=Pq (Bh x) hd
    have q:jd Z h pl w ds (a.eval x).cells:=⟨j6,fun i hi=>(qv i hi).1⟩
    obtain⟨KR,h1,h2⟩:=FJ place ev a Bh parts _ _ _ (r.jY q hc.2) hh
    refine⟨KR,?_,h2⟩
    simp only[Instr.fill,hp]
    rw[if_neg (by simp only[j6,r.1];simp;omega)]
    exact h1
theorem PA {h:List Ob} {pl:List Pl} {w:World} {y:Ty} {z:Value} (hz:z.cells.toList=y.zero):jd Z h pl w (y.zero.map ZT) z.cells:=by
 refine⟨by rw[← hz];simp,fun i hi=>?_⟩
 rw[← hz]at hi ⊢
 have ZH:i<z.cells.size:=by simpa using hi
 refine .cl _ _ ?_
 simp only[nth,QL,List.getD_eq_getElem?_getD,List.getElem?_map,Array.getElem?_toList,Array.getElem?_eq_getElem ZH,Option.map_some,Option.getD_some]
 exact vC _ _ _
def Dh (L:Zh):List (Nat × TypeId)→Option (List (Nat × Nat))
 | []=>some []
 | (off,u)::r=>match ty L u,Dh L r with
  | some y,some ps=>some ((off,y.size)::ps)
  | _,_=>none
theorem bX {P:Program} {L:Zh} (hL:Zw P L) (w:World):∀(fs:List Field) (ps:List (Nat × Nat)),Dh L (fs.map fun f=>(f.offset,f.type))=some ps→(fs.mapM fun f=>Prod.mk f.offset <$> sizeOf f.type).run P w=.ok ps w
 | [],ps,h=>by simp [Dh]at h;subst h;simp
 | f::fs,ps,h=>by
  simp only[List.map_cons,Dh]at h
  split at h
  ·rename_i y ps' hy PB
   simp only[Option.some.injEq]at h
   subst h
   simp [List.mapM_cons,(hL _ _ hy).sizeOf,bX hL w fs ps' PB]
  ·cases h
def Lz (L:Zh) (fr:List (Nat × D)) (t:TypeId) (parts:List (Nat × Operand)):Option D:=
 match ty L t with
 | some y=>match y.k with
  | .struct fs=>match Dh L fs with
   | some ps=>match ze (fun i=>ps[i]?) (y.zero.map ZT) (parts.map fun x=>(x.1,VV (Qq fr x.2))) with
    | some cs=>some (.agg cs)
    | none=>none
   | none=>none
  | .array _ e=>match ty L e with
   | some ye=>match ze (fun i=>some (i*ye.size,ye.size)) (y.zero.map ZT) (parts.map fun x=>(x.1,VV (Qq fr x.2))) with
    | some cs=>some (.agg cs)
    | none=>none
   | none=>none
  | _=>none
 | none=>none
section
variable {P:Program} {L:Zh} {base nt:Nat} {s:St} {o:Oper}
theorem jd.agg {h:List Ob} {pl:List Pl} {w:World} {cs:List D} {vs:Array Value} (r:jd Z h pl w cs vs):Qv Z h pl w (.agg cs) (.agg vs):=by
 have:=Qv.agg (h:=h) (pl:=pl) (w:=w) cs vs.toList (by simpa using r.1) r.2
 simpa using this
theorem Qcw (hL:Zw P L) {t:TypeId} {parts:Array (Nat × Operand)} (ho:o.op=.build t parts) {d:D} (h:Lz L s.fr t parts.toList=some d):Kt P base nt o s d:=by
 intro Z pl a w r
 unfold Lz at h
 split at h
 ·rename_i y jX
  have hy:=hL _ _ jX
  obtain⟨z,hz,XH⟩:=hy.zeroValue
  split at h
  ·rename_i fs hk
   split at h
   ·rename_i ps PB
    split at h
    ·rename_i cs ZS
     simp only[Option.some.injEq]at h
     subst h
     obtain⟨g,hg,hm⟩:=bx hy hk
     obtain⟨KR,h1,h2⟩:=FJ (h:=s.h) (pl:=pl) (w:=w) _ (Qq s.fr) a (fun x=>r.eval x) parts.toList _ _ _ (PA hz) ZS
     refine⟨_,h2.agg,fun w' _=>?_⟩
     have Q4:=bX hL w' g.toList ps (by rw[hm];exact PB)
     have ZB:Instr.fill (fun x=>ps[x]?) z.cells (List.map (fun x=>(x.fst,a.eval x.snd)) parts.toList)=some KR:=h1
     simp [execOp,ho,Instr.build,XH,run_underlying hg,Array.mapM_eq_mapM_toList,Q4,ZB]
    ·cases h
   ·cases h
  ·rename_i n e hk
   split at h
   ·rename_i ye KQ
    split at h
    ·rename_i cs ZS
     simp only[Option.some.injEq]at h
     subst h
     obtain⟨KR,h1,h2⟩:=FJ (h:=s.h) (pl:=pl) (w:=w) _ (Qq s.fr) a (fun x=>r.eval x) parts.toList _ _ _ (PA hz) ZS
     refine⟨_,h2.agg,fun w' _=>?_⟩
     simp [execOp,ho,Instr.build,XH,run_underlying (Pe hy hk),(hL _ _ KQ).sizeOf,h1]
    ·cases h
   ·cases h
  ·cases h
 ·cases h
theorem PC {a b:List D} {i:Nat} (h:i<a.length):nth (a++b) i=nth a i:=by simp only[nth,List.getD_eq_getElem?_getD,List.getElem?_append_left h]
theorem PD {a b:List D} {i:Nat} (h:a.length≤i):nth (a++b) i=nth b (i - a.length):=by simp only[nth,List.getD_eq_getElem?_getD,List.getElem?_append_right h]
theorem PE (n:Nat) (zs:List D):(List.replicate n zs).flatten.length=n*zs.length:=by simp
theorem bY (zs:List D):∀(n i:Nat),i<n*zs.length→nth (List.replicate n zs).flatten i=nth zs (i % zs.length)
 | 0,i,h=>by simp at h
 | n+1,i,h=>by
  rw[List.replicate_succ,List.flatten_cons]
  rw[Nat.add_mul]at h
  by_cases hi:i<zs.length
  ·rw[PC hi,Nat.mod_eq_of_lt hi]
  ·rw[PD (by omega),bY zs n _ (by omega)]
   congr 1
   rw[Nat.mod_eq_sub_mod (by omega:zs.length≤i)]
def j7 (len sz:Nat) (cells:List D):Nat→List D:=bif Nat.beq len 1 then fun _=>cells else fun k=>(cells.drop (k*sz)).take sz
def LA (L:Zh) (fr:List (Nat × D)) (h:List Ob) (t:TypeId) (len:Nat) (parts:List (Nat × Operand)):Option (Prop × List Ob × D):=
 match ty L t with
 | some ⟨.slice e,_,_,_⟩=>match ty L e with
  | some y=>match ze (fun i=>some (i*y.size,y.size)) (List.replicate len (y.zero.map ZT)).flatten (parts.map fun x=>(x.1,VV (Qq fr x.2))) with
   | some cs=>some (len*y.size≤16777216∧y.zero.length=y.size,h++[⟨.arr,0,y.size,len,j7 len y.size cs⟩],.ref h.length 0 0 len)
   | none=>none
  | none=>none
 | _=>none
theorem bZ (place:Nat→Option (Nat × Nat)):∀(ps:List (Nat × Option (List D))) (cells vG:List D),ze place cells ps=some vG→vG.length=cells.length
 | [],cells,vG,h=>by simp [ze]at h;rw[h]
 | (i,none)::ps,cells,vG,h=>by simp [ze]at h
 | (i,some ds)::ps,cells,vG,h=>by
  simp only[ze]at h
  split at h
  ·obtain⟨hc,h⟩:=YG h
   simp only[Bool.and_eq_true,Nat.beq_eq,Nat.ble_eq]at hc
   rw[bZ place ps _ _ h,Lp hc.2]
  ·cases h
theorem Qcx (hL:Zw P L) {t:TypeId} {len:Nat} {parts:Array (Nat × Operand)} (ho:o.op=.buildSlice t len parts) {p:Prop} {h':List Ob} {d:D} (h:LA L s.fr s.h t len parts.toList=some (p,h',d)) (hp:p):X7 P base nt o s h' d:=by
 intro Z pl a w r Jw
 unfold LA at h
 split at h
 ·rename_i e _ _ _ he
  split at h
  ·rename_i y jX
   split at h
   ·rename_i cs ZS
    simp only[Option.some.injEq,Prod.mk.injEq]at h
    obtain⟨rfl,rfl,rfl⟩:=h
    obtain⟨h24,yM⟩:=hp
    have hy:=hL _ _ jX
    obtain⟨z,hz,XH⟩:=hy.zeroValue
    have xh:z.cells.size=y.size:=by rw[← yM,← hz];simp
    have ht:=zZ (hL _ _ he) rfl
    have zr:=PA (Z:=Z) (h:=s.h) (pl:=pl) (w:=w) hz
    have j8:(y.zero.map ZT).length=y.size:=by simp [yM]
    have hlen:cs.length=len*y.size:=by rw[bZ _ _ _ _ ZS,PE,j8]
    have init:∀zc:Array Value,(len*y.size=0→zc=#[])→(len*y.size≠0→zc=z.cells)→jd Z s.h pl w (List.replicate len (y.zero.map ZT)).flatten ((Array.range (len*y.size)).map (zc[· % zc.size]!)):=by
     intro zc h0 h1
     refine⟨by rw[PE,j8];simp,fun i hi=>?_⟩
     rw[PE,j8]at hi
     have QD:len*y.size≠0:=by omega
     have xi:=h1 QD
     subst xi
     have j9:0<y.size:=Nat.pos_of_ne_zero (fun e=>QD (by rw[e];simp))
     rw[bY _ _ _ (by rw[j8];exact hi),j8]
     have h2:=zr.2 (i % y.size) (by rw[j8];exact Nat.mod_lt _ j9)
     have h3:i % y.size<z.cells.size:=by rw[xh];exact Nat.mod_lt _ j9
     have:QL (Array.map (fun x=>z.cells[x % z.cells.size]!) (Array.range (len*y.size))).toList i=QL z.cells.toList (i % y.size):=by
      simp only[QL,List.getD_eq_getElem?_getD,Array.getElem?_toList,Array.getElem?_map,Array.getElem?_range,hi,if_true,Option.map_some,Option.getD_some,xh]
      rw[getElem!_pos z.cells _ h3,Array.getElem?_eq_getElem h3];rfl
     rw[this];exact h2
    have fin:∀KR:Array Value,jd Z s.h pl w cs KR→(execOp a.eval o).run P w=.ok (.value (.slice (some ⟨w.heap.size,0,none⟩) len len)) (w.alloc (.cells KR e)) →
      ∃v w' Qi,((execOp a.eval o).run P w=.ok (.value v) w'∨((execOp a.eval o).run P w=.ok .skip w'∧v=Go.undef))∧Tr s.h pl w (s.h++[⟨.arr,0,y.size,len,j7 len y.size cs⟩]) Qi w' ∧
       QW Z base (s.h++[⟨.arr,0,y.size,len,j7 len y.size cs⟩]) Qi w'∧Qv Z (s.h++[⟨.arr,0,y.size,len,j7 len y.size cs⟩]) Qi w' (.ref s.h.length 0 0 len) v∧Below base w w'∧(calm o=true→Ext w w'):=by
     intro KR hr QV
     have e1:∀b,b<w.heap.size→(w.alloc (.cells KR e)).heap[b]? = w.heap[b]? := fun b hb=>qs w _ b hb
     have ZX:(w.alloc (.cells KR e)).heap[w.heap.size]? = some (.cells KR e (0,0)):=heap_alloc_new w _
     have Q4:pl.length=s.h.length:=r.o.len
     have T:Tr s.h pl w (s.h++[⟨.arr,0,y.size,len,j7 len y.size cs⟩]) (pl++[some (w.heap.size,0)]) (w.alloc (.cells KR e)):=Tr.push r.o e1 _ _ (by intro b q h;simp at h;omega)
     have ZR:∀i,i<len→(j7 len y.size cs i).length=y.size∧∀j,j<y.size→nth (j7 len y.size cs i) j=nth cs (i*y.size+j):=by
      intro i hi
      unfold j7
      by_cases h1:len=1
      ·subst h1
       have:i=0:=by omega
       subst this
       simp [hlen]
      ·have:Nat.beq len 1=false:=by rw[← Bool.not_eq_true,Nat.beq_eq];exact h1
       rw[this]
       have h2:=Nat.mul_le_mul_right y.size (show i+1≤len from hi)
       rw[Nat.add_mul]at h2
       refine⟨by simp [hlen];omega,fun j hj=>?_⟩
       simp only[cond_false]
       rw[Ph hj,yH]
     refine⟨_,_,_,.inl QV,T,QW.push r.o e1 _ rfl (Nat.le_refl _) Jw ZX (by simp [hr.1,hlen]) (fun i hi=>(ZR i hi).1) (fun i j hi hj=>?_),.ref _ _ _ _ ⟨.arr,0,y.size,len,j7 len y.size cs⟩ (some (w.heap.size,0)) _ len (by simp) (by rw[← Q4];simp) rfl (Nat.le_refl _) (fun _=>.inr ⟨w.heap.size,0,KR,e,rfl,by simp,ZX,by simp [hr.1,hlen],Nat.le_refl _⟩),wZ Jw _,fun _=>e1⟩
     have Ku:j<y.size:=hj
     have ZH:i<len:=hi
     have h2:=Nat.mul_le_mul_right y.size (show i+1≤len from ZH)
     rw[Nat.add_mul]at h2
     have Qd:i*y.size+j<cs.length:=by omega
     refine⟨QL KR.toList (i*y.size+j),?_,?_⟩
     ·have:i*y.size+j<KR.size:=by rw[hr.1];exact Qd
      simp only[Nat.zero_add,QL,List.getD_eq_getElem?_getD,Array.getElem?_toList,Array.getElem?_eq_getElem this,Option.getD_some]
     ·show Qv _ _ _ _ (nth (j7 len y.size cs i) j) _
      rw[(ZR i ZH).2 j Ku]
      exact(hr.2 _ Qd).tr T
    by_cases h0:len*y.size=0
    ·obtain⟨KR,h1,h2⟩:=FJ (h:=s.h) (pl:=pl) (w:=w) _ (Qq s.fr) a (fun x=>r.eval x) parts.toList _ _ _ (init #[] (fun _=>rfl) (fun h=>absurd h0 h)) ZS
     rw[h0]at h1
     have e0:Array.map (fun x=>(#[]:Array Value)[x % (#[]:Array Value).size]!) (Array.range 0)=#[]:=by simp
     rw[e0]at h1
     have e1:∀f:Nat→Value,Array.map f (Array.range 0)=#[]:=fun f=>Array.eq_empty_of_size_eq_zero (by simp)
     refine fin KR h2 ?_
     simp [execOp,ho,Instr.buildSlice,run_underlying ht,hy.sizeOf,h0,newRow,h1,e1]
    ·obtain⟨KR,h1,h2⟩:=FJ (h:=s.h) (pl:=pl) (w:=w) _ (Qq s.fr) a (fun x=>r.eval x) parts.toList _ _ _ (init z.cells (fun h=>absurd h h0) (fun _=>rfl)) ZS
     refine fin KR h2 ?_
     have Qcy:¬ (16777216<len*y.size):=by omega
     simp [execOp,ho,Instr.buildSlice,run_underlying ht,hy.sizeOf,XH,h0,Qcy,newRow,h1]
   ·cases h
  ·cases h
 ·cases h
end
variable {Z:Nat→Prop}
def Ya (fr:List (Nat × D)) (Qcz:Int):Option Operand→Option Int
 | none=>some Qcz
 | some x=>match Qq fr x with
  | .raw (.int _ i)=>some i
  | _=>none
theorem cn {P:Program} (w:World) {k:IntKind} {i:Int} {y:Nat} {c:BoundsCode} (h0:0≤i) (h1:i≤y):(Instr.sliceBound (.int k i) y c).run P w=.ok i.toNat w:=by
 simp [Instr.sliceBound,asIntOf,h0,h1]
theorem LB {P:Program} {base nt:Nat} {s:St} {pl:List Pl} {a:Act} {w0:World} (r:Rel Z base nt s pl a w0) (w:World) (isSlice:Bool) (len cap:Nat) (lo hi:Option Operand) {l u:Int} (hl:Ya s.fr 0 lo=some l) (hu:Ya s.fr len hi=some u)
  (h0:0≤l) (h1:l≤u) (h2:u≤len) (vD:len≤cap):(Instr.sliceBounds isSlice len cap (lo.map a.eval) (hi.map a.eval) none).run P w=.ok (l.toNat,u.toNat,cap) w:=by
 have get:∀(x:Operand) (d:Int) (i:Int),Ya s.fr d (some x)=some i→∃k,a.eval x=.int k i:=by
  intro x d i h
  have hr:=r.eval x
  simp only[Ya]at h
  generalize Qq s.fr x=dx at *
  split at h
  ·rename_i k j
   simp only[Option.some.injEq]at h
   subst h
   exact⟨k,ZD hr⟩
  ·cases h
 have fst:∀(v:Value) (m:Nat) (c:BoundsCode),(∃k,v=.int k u)→u≤m→(Instr.sliceBound v m c).run P w=.ok u.toNat w:=by
  rintro v m c ⟨k,rfl⟩ hm;exact cn w (by omega) hm
 have snd:∀(v:Value) (c:BoundsCode),(∃k,v=.int k l)→(Instr.sliceBound v u.toNat c).run P w=.ok l.toNat w:=by
  rintro v c ⟨k,rfl⟩;exact cn w h0 (by omega)
 cases lo with
 | none=>
  simp only[Ya,Option.some.injEq]at hl
  subst hl
  cases hi with
  | none=>simp only[Ya,Option.some.injEq]at hu;subst hu;simp [Instr.sliceBounds]
  | some x=>
   have hx:=get x len u hu
   cases isSlice<;>simp [Instr.sliceBounds,fst _ cap _ hx (by omega)]
 | some z=>
  have hz:=get z 0 l hl
  cases hi with
  | none=>
   simp only[Ya,Option.some.injEq]at hu
   have:u.toNat=len:=by omega
   have h3:=fun c=>snd (a.eval z) c hz
   rw[this]at h3
   simp [Instr.sliceBounds,h3,this]
  | some x=>
   have hx:=get x len u hu
   cases isSlice<;>simp [Instr.sliceBounds,fst _ cap _ hx (by omega),snd _ _ hz]
def LC (L:Zh) (fr:List (Nat × D)) (h:List Ob) (t:TypeId) (d:D) (lo hi:Option Operand):Ev:=
 match ty L t with
 | some ⟨.slice e,_,_,_⟩=>match ty L e with
  | some y=>match d with
   | .ref l g off len=>match h[l]?,Ya fr 0 lo,Ya fr len hi with
    | some o,some a,some b=>some (g=o.gen∧o.sz=y.size∧0≤a∧a≤b∧b≤len,.ref l g (off+a.toNat) (b - a).toNat)
    | _,_,_=>none
   | .imm z n row=>match Ya fr 0 lo,Ya fr n hi with
    | some a,some b=>some (z=y.size∧0≤a∧a≤b∧b≤n,.imm z (b - a).toNat fun i=>row (a.toNat+i))
    | _,_=>none
   | .nil=>match Ya fr 0 lo,Ya fr 0 hi with
    | some a,some b=>some (a=0∧b=0,.nil)
    | _,_=>none
   | _=>none
  | none=>none
 | some ⟨.str,_,_,_⟩=>match d with
  | .raw (.string s)=>match Ya fr 0 lo,Ya fr s.size hi with
   | some a,some b=>some (0≤a∧a≤b∧b≤s.size,.raw (.string (s.extract a.toNat b.toNat)))
   | _,_=>none
  | _=>none
 | _=>none
section
variable {P:Program} {L:Zh} {base nt:Nat} {s:St} {o:Oper}
theorem QcA (hL:Zw P L) {t:TypeId} {x:Operand} {lo hi:Option Operand} (ho:o.op=.slice t x lo hi none) {p:Prop} {d:D} (h:LC L s.fr s.h t (Qq s.fr x) lo hi=some (p,d)) (hp:p):Kt P base nt o s d:=by
 intro Z pl a w r
 have hx:=r.eval x
 unfold LC at h
 split at h
 ·rename_i e _ _ _ he
  have ht:=zZ (hL _ _ he) rfl
  split at h
  ·rename_i y jX
   have hy:=hL _ _ jX
   generalize Qq s.fr x=dx at *
   split at h
   ·rename_i l g off len
    split at h
    ·rename_i ob aa bb Q1 Zr Bi
     simp only[Option.some.injEq,Prod.mk.injEq]at h
     obtain⟨rfl,rfl⟩:=h
     obtain⟨hg,ZC,h0,h1,h2⟩:=hp
     obtain⟨o',p',ad,cap,hv,Zg,Zs,Zq,X5,KG⟩:=yE hx
     rw[Q1]at Zg;cases Zg
     have vD:len≤cap:=by
      rcases KG hg with ⟨h3,h4⟩|⟨_,_,_,_,_,_,_,_,h3⟩<;>omega
     refine⟨.slice (if cap=aa.toNat then ad else ad.map (·.add (aa.toNat*y.size))) (bb - aa).toNat (cap - aa.toNat),?_,fun w' _=>?_⟩
     ·refine .ref _ _ _ _ ob p' _ _ Q1 Zs Zq X5 (fun _=>?_)
      rcases KG hg with ⟨h3,h4⟩|⟨b,q,c,el,Kl,YI,hb,ZS,h3⟩
      ·exact .inl ⟨by omega,by omega⟩
      ·by_cases hc:cap=aa.toNat
       ·exact .inl ⟨by omega,by omega⟩
       ·refine .inr ⟨b,q,c,el,Kl,?_,hb,?_,by omega⟩
        ·rw[if_neg hc,YI,Option.map_some,z6,ZC,Nat.add_mul];simp only[Option.some.injEq,Addr.mk.injEq,and_true,true_and];omega
        ·rw[show off+aa.toNat+(cap - aa.toNat)=off+cap by omega];exact ZS
     ·have hb:=LB (P:=P) r w' true len cap lo hi Zr Bi h0 h1 h2 vD
      simp [execOp,ho,Instr.sliceAt,run_underlying ht,Instr.slice,hv,hb,hy.sizeOf]
      omega
    ·cases h
   ·rename_i z n row
    split at h
    ·rename_i aa bb Zr Bi
     simp only[Option.some.injEq,Prod.mk.injEq]at h
     obtain⟨rfl,rfl⟩:=h
     obtain⟨rfl,h0,h1,h2⟩:=hp
     obtain⟨ad,cap,b,q,vs,hv,YI,vD,hs,hc⟩:=IW hx
     refine⟨.slice (if cap=aa.toNat then ad else ad.map (·.add (aa.toNat*y.size))) (bb - aa).toNat (cap - aa.toNat),.cl _ _ ?_,fun w' _=>?_⟩
     ·refine .imm _ _ _ _ _ b (q+aa.toNat*y.size) (fun i j=>vs (aa.toNat+i) j) (fun j9=>?_) (by omega) (fun i hi=>hs _ (by omega)) (fun i j hi hj=>?_) (fun i j hi hj=>(hc (aa.toNat+i) j (by omega) hj).2)
      ·rw[if_neg (by omega),YI (by omega),Option.map_some,z6]
      ·obtain⟨⟨g1,g2⟩,_⟩:=hc (aa.toNat+i) j (by omega) hj
       refine⟨g1,?_⟩
       rw[← g2];congr 2;rw[Nat.add_mul];omega
     ·have hb:=LB (P:=P) r w' true n cap lo hi Zr Bi h0 h1 h2 vD
      simp [execOp,ho,Instr.sliceAt,run_underlying ht,Instr.slice,hv,hb,hy.sizeOf]
      omega
    ·cases h
   ·split at h
    ·rename_i aa bb Zr Bi
     simp only[Option.some.injEq,Prod.mk.injEq]at h
     obtain⟨rfl,rfl⟩:=h
     obtain⟨rfl,rfl⟩:=hp
     obtain⟨ad,hv⟩:=yD hx
     refine⟨.slice ad 0 0,.cl _ _ (.nil _),fun w' _=>?_⟩
     have hb:=LB (P:=P) r w' true 0 0 lo hi Zr Bi (by omega) (by omega) (by omega) (Nat.le_refl _)
     simp [execOp,ho,Instr.sliceAt,run_underlying ht,Instr.slice,hv,hb,hy.sizeOf]
    ·cases h
   ·cases h
  ·cases h
 ·rename_i he
  have ht:=FA (hL _ _ he) rfl
  generalize Qq s.fr x=dx at *
  split at h
  ·rename_i str
   split at h
   ·rename_i aa bb Zr Bi
    simp only[Option.some.injEq,Prod.mk.injEq]at h
    obtain⟨rfl,rfl⟩:=h
    obtain⟨h0,h1,h2⟩:=hp
    have hv:=ZD hx
    refine⟨_,.cl _ _ (.raw _),fun w' _=>?_⟩
    have hb:=LB (P:=P) r w' false str.size str.size lo hi Zr Bi h0 h1 h2 (Nat.le_refl _)
    simp [execOp,ho,Instr.sliceAt,run_underlying ht,Instr.slice,hv,hb]
   ·cases h
  ·cases h
 ·cases h
end
def VW:Value→Value→Option Bool
 | .int k a,.int k' b=>bif IntKind.same k k' then some (a==b) else none
 | .bool a,.bool b=>some (a==b)
 | .string a,.string b=>some (a.toList==b.toList)
 | _,_=>none
def XI:List Value→List Value→Option Bool
 | [],[]=>some true
 | a::r,b::q=>match VW a b,XI r q with
  | some x,some y=>some (x&&y)
  | _,_=>none
 | _,_=>none
def cat:Value→Nat
 | .int _ _=>0
 | .bool _=>1
 | .string _=>2
 | _=>3
def Di (P:Program) (sh:TypeId→Option (List Nat)):List Field→Nat→Option (List Nat)
 | [],_=>some []
 | f::fs,off=>match sh f.type with
  | some l => if f.name ≠ "_" ∧ f.offset = off ∧ P.cellsOf f.type = l.length then (Di P sh fs (off + l.length)).map (l ++ ·) else none
  | none=>none
def XJ (P:Program):Nat→TypeId→Option (List Nat)
 | 0,_=>none
 | d+1,t=>match P.underlying t with
  | some (.int _)=>some [0]
  | some .bool=>some [1]
  | some .string=>some [2]
  | some (.struct fs)=>if P.stoodInHeld t then none else Di P (XJ P d) fs.toList 0
  | some (.array n e)=>match XJ P d e with
   | some l=>if P.cellsOf e=l.length then some (List.replicate n l).flatten else none
   | none=>none
  | _=>none
theorem PF:∀(a b c d:List Value) (r:Bool),a.length=b.length→XI (a++c) (b++d)=some r→∃x y,XI a b=some x∧XI c d=some y∧r=(x&&y)
 | [],[],c,d,r,_,h=>⟨true,r,rfl,h,by simp⟩
 | [],_::_,_,_,_,h,_=>by simp at h
 | _::_,[],_,_,_,h,_=>by simp at h
 | u::a,v::b,c,d,r,hl,h=>by
  simp only[List.cons_append,XI]at h
  split at h
  ·rename_i x y hx hy
   simp only[Option.some.injEq]at h
   obtain⟨x',y',h1,h2,h3⟩:=PF a b c d y (by simpa using hl) hy
   exact⟨x&&x',y',by simp [XI,hx,h1],h2,by rw[← h,h3,Bool.and_assoc]⟩
  ·cases h
def valOf (P:Program) (t:TypeId) (xs:List Value):Value:=
 match P.underlying t with
 | some (.struct _)|some (.array _ _)=>.agg xs.toArray
 | _=>QL xs 0
def PG (P:Program) (D:Nat) (t:TypeId) (l:List Nat):Prop:=
 ∀(w:World) (xs ys:List Value) (r:Bool),xs.map cat=l→ys.map cat=l→XI xs ys=some r→(Op.equalIn D t (valOf P t xs) (valOf P t ys)).run P w=.ok r w
theorem LD {P:Program} {d:Nat} {t:TypeId} {l:List Nat} (h:XJ P d t=some l) (hc:P.cellsOf t=l.length) (w:World) (xs:List Value) (off:Nat) (hl:off+l.length≤xs.length) :
  (part t xs.toArray off).run P w=.ok (valOf P t ((xs.drop off).take l.length)) w:=by
 cases d with
 | zero=>simp [XJ]at h
 | succ d=>
  unfold XJ at h
  cases hu:P.underlying t with
  | none=>rw[hu]at h;cases h
  | some k=>
   obtain⟨i,hi⟩:=info_of_underlying hu
   have hs:(sizeOf t).run P w=.ok l.length w:=by
    rw[run_sizeOf w hi,hc]
   rw[hu]at h
   cases k<;>first|(cases h;done)|skip
   case bool=>
    cases h
    have:off<xs.length:=by simp at hl;omega
    simp [part,isAgg,run_underlying hu,valOf,hu,QL,this]
   case int=>
    cases h
    have:off<xs.length:=by simp at hl;omega
    simp [part,isAgg,run_underlying hu,valOf,hu,QL,this]
   case string=>
    cases h
    have:off<xs.length:=by simp at hl;omega
    simp [part,isAgg,run_underlying hu,valOf,hu,QL,this]
   case array=>simp [part,isAgg,run_underlying hu,valOf,hu,hs]
   case struct=>simp [part,isAgg,run_underlying hu,valOf,hu,hs]
theorem cr {P:Program} (d D:Nat) (IH:∀t l,XJ P d t=some l→PG P D t l) (w:World):∀(fs:List Field) (off:Nat) (l:List Nat) (xs ys:List Value) (r:Bool),Di P (XJ P d) fs off=some l →
  (xs.drop off).map cat=l→(ys.drop off).map cat=l→off≤xs.length→off≤ys.length→XI (xs.drop off) (ys.drop off)=some r→(Op.eqFields D xs.toArray ys.toArray fs).run P w=.ok r w
 | [],off,l,xs,ys,r,h,hx,hy,h1,h2,he=>by
  simp [Di]at h
  subst h
  simp only[List.map_eq_nil_iff]at hx hy
  rw[hx,hy]at he
  simp [XI]at he
  simp [Op.eqFields,he]
 | f::fs,off,l,xs,ys,r,h,hx,hy,h1,h2,he=>by
  simp only[Di]at h
  split at h
  ·rename_i l1 Zk
   split at h
   ·rename_i hc
    obtain⟨hn,ho,ZC⟩:=hc
    simp only[Option.map_eq_some_iff]at h
    obtain⟨l2,Jf,rfl⟩:=h
    have XK:(xs.drop off).length=l1.length+l2.length:=by rw[← List.length_map (f:=cat),hx,List.length_append]
    have kb:(ys.drop off).length=l1.length+l2.length:=by rw[← List.length_map (f:=cat),hy,List.length_append]
    have Bj:xs.drop off=(xs.drop off).take l1.length++xs.drop (off+l1.length):=by rw[← List.drop_drop,List.take_append_drop]
    have Bk:ys.drop off=(ys.drop off).take l1.length++ys.drop (off+l1.length):=by rw[← List.drop_drop,List.take_append_drop]
    rw[Bj,List.map_append]at hx
    rw[Bk,List.map_append]at hy
    obtain⟨yP,KS⟩:=List.append_inj hx (by simp at XK ⊢;omega)
    obtain⟨Xm,YL⟩:=List.append_inj hy (by simp at kb ⊢;omega)
    rw[Bj,Bk]at he
    obtain⟨x,y,e1,e2,rfl⟩:=PF _ _ _ _ _ (by simp at XK kb ⊢;omega) he
    have p1:=LD Zk ZC w xs off (by simp at XK;omega)
    have p2:=LD Zk ZC w ys off (by simp at kb;omega)
    have p3:=IH _ _ Zk w _ _ x yP Xm e1
    have p4:=cr d D IH w fs (off+l1.length) l2 xs ys y Jf KS YL (by simp at XK;omega) (by simp at kb;omega) e2
    simp only[Op.eqFields,hn,ne_eq,not_false_eq_true,if_true,Sem.run_bind,ho,p1,p2,p3,Result.andThen_ok]
    cases x
    ·simp
    ·simpa using p4
   ·cases h
  ·cases h
theorem ct {P:Program} {d D:Nat} {e:TypeId} {l:List Nat} (ZW:XJ P d e=some l) (hc:P.cellsOf e=l.length) (IH:PG P D e l) (w:World):∀(m i:Nat) (xs ys:List Value) (r:Bool),
  (xs.drop (i*l.length)).map cat=(List.replicate m l).flatten→(ys.drop (i*l.length)).map cat=(List.replicate m l).flatten→i*l.length≤xs.length→i*l.length≤ys.length→XI (xs.drop (i*l.length)) (ys.drop (i*l.length))=some r →
  (Op.eqItems D e (P.cellsOf e) xs.toArray ys.toArray (List.range' i m)).run P w=.ok r w
 | 0,i,xs,ys,r,hx,hy,_,_,he=>by
  simp only[List.replicate_zero,List.flatten_nil,List.map_eq_nil_iff]at hx hy
  rw[hx,hy]at he
  simp [XI]at he
  simp [Op.eqItems,he]
 | m+1,i,xs,ys,r,hx,hy,h1,h2,he=>by
  rw[List.replicate_succ,List.flatten_cons]at hx hy
  have XK:(xs.drop (i*l.length)).length=l.length+(List.replicate m l).flatten.length:=by rw[← List.length_map (f:=cat),hx,List.length_append]
  have kb:(ys.drop (i*l.length)).length=l.length+(List.replicate m l).flatten.length:=by rw[← List.length_map (f:=cat),hy,List.length_append]
  have hi:i*l.length+l.length=(i+1)*l.length:=by rw[Nat.add_mul];omega
  have Bj:xs.drop (i*l.length)=(xs.drop (i*l.length)).take l.length++xs.drop ((i+1)*l.length):=by rw[← hi,← List.drop_drop,List.take_append_drop]
  have Bk:ys.drop (i*l.length)=(ys.drop (i*l.length)).take l.length++ys.drop ((i+1)*l.length):=by rw[← hi,← List.drop_drop,List.take_append_drop]
  rw[Bj,List.map_append]at hx
  rw[Bk,List.map_append]at hy
  obtain⟨yP,KS⟩:=List.append_inj hx (by simp at XK ⊢;omega)
  obtain⟨Xm,YL⟩:=List.append_inj hy (by simp at kb ⊢;omega)
  rw[Bj,Bk]at he
  obtain⟨x,y,e1,e2,rfl⟩:=PF _ _ _ _ _ (by simp at XK kb ⊢;omega) he
  have p1:=LD ZW hc w xs (i*l.length) (by simp at XK;omega)
  have p2:=LD ZW hc w ys (i*l.length) (by simp at kb;omega)
  have p3:=IH w _ _ x yP Xm e1
  have p4:=ct ZW hc IH w m (i+1) xs ys y KS YL (by simp at XK;omega) (by simp at kb;omega) e2
  rw[List.range'_succ]
  simp only[Op.eqItems,Sem.run_bind,hc,p1,p2,p3,Result.andThen_ok]
  cases x
  ·simp
  ·rw[hc]at p4;simpa using p4
theorem PH {P:Program}:∀(d D:Nat) (t:TypeId) (l:List Nat),d≤D→XJ P d t=some l→PG P D t l
 | 0,_,_,_,_,h=>by simp [XJ]at h
 | d+1,0,_,_,hd,_=>by omega
 | d+1,D+1,t,l,hd,h=>by
  intro w xs ys r hx hy he
  have h':=h
  unfold XJ at h
  cases hu:P.underlying t with
  | none=>rw[hu]at h;cases h
  | some k=>
   rw[hu]at h
   have one:∀c:Nat,l=[c]→∃a b,xs=[a]∧ys=[b]∧cat a=c∧cat b=c∧VW a b=some r:=by
    intro c hl
    subst hl
    have XK:xs.length=1:=by rw[← List.length_map (f:=cat),hx];rfl
    have kb:ys.length=1:=by rw[← List.length_map (f:=cat),hy];rfl
    match xs,ys,XK,kb with
    | [a],[b],_,_=>
     refine⟨a,b,rfl,rfl,by simpa using hx,by simpa using hy,?_⟩
     simp only[XI]at he
     split at he
     ·rename_i x y h1 h2;simp at h2 he;subst h2;simp at he;rw[h1,he]
     ·cases he
   cases k<;>first|(cases h;done)|skip
   case bool=>
    simp only[Option.some.injEq]at h
    obtain⟨a,b,rfl,rfl,ha,hb,J3⟩:=one 1 h.symm
    cases a<;>simp [cat]at ha
    cases b<;>simp [cat]at hb
    simp [VW]at J3
    subst J3
    simp [valOf,hu,QL,run_equalIn_bool' w D t _ _ hu]
   case int q=>
    simp only[Option.some.injEq]at h
    obtain⟨a,b,rfl,rfl,ha,hb,J3⟩:=one 0 h.symm
    cases a<;>simp [cat]at ha
    cases b<;>simp [cat]at hb
    simp only[VW]at J3
    obtain⟨hk,cu⟩:=YG J3
    have:=IntKind.bA hk
    subst this
    simp only[Option.some.injEq]at cu
    subst cu
    simp [valOf,hu,QL,run_equalIn_int w D t _ _ _ _ hu]
   case string=>
    simp only[Option.some.injEq]at h
    obtain⟨a,b,rfl,rfl,ha,hb,J3⟩:=one 2 h.symm
    cases a<;>simp [cat]at ha
    cases b<;>simp [cat]at hb
    simp only[VW,Option.some.injEq]at J3
    subst J3
    simp [valOf,hu,QL,run_equalIn_string w D t _ _ hu]
   case array n e=>
    replace h:(match XJ P d e with|some l=>if P.cellsOf e=l.length then some (List.replicate n l).flatten else none|none=>none)=some l:=h
    split at h
    ·rename_i l1 Zk
     split at h
     ·rename_i hc
      simp only[Option.some.injEq]at h
      subst h
      have cv:∃i,P.info? e=some i:=by
       cases d with
       | zero=>simp [XJ]at Zk
       | succ d'=>
        unfold XJ at Zk
        cases cw:P.underlying e with
        | none=>rw[cw]at Zk;cases Zk
        | some _=>exact info_of_underlying cw
      obtain⟨i,hi⟩:=cv
      have:=ct Zk hc (PH d D e l1 (by omega) Zk) w n 0 xs ys r (by simpa using hx) (by simpa using hy) (by simp) (by simp) (by simpa using he)
      rw[← List.range_eq_range']at this
      simp only[valOf,hu]
      rw[run_equalIn_array w D xs.toArray ys.toArray hu hi]
      exact this
     ·cases h
    ·cases h
   case struct fs=>
    replace h:(if P.stoodInHeld t then none else Di P (XJ P d) fs.toList 0)=some l:=h
    split at h
    ·cases h
    ·rename_i hs
     have VX:P.fieldsOf t=fs:=by simp [Program.fieldsOf,hu]
     simp only[valOf,hu]
     rw[run_equalIn_struct w D t _ _ (by rw[VX];exact hu) (by simpa using hs),VX]
     exact cr d D (fun t l h=>PH d D t l (by omega) h) w fs.toList 0 l xs ys r h (by simpa using hx) (by simpa using hy) (by simp) (by simp) (by simpa using he)
abbrev yQ:=List (TypeId × List Nat)
def kf:yQ→TypeId→Option (List Nat)
 | [],_=>none
 | (u,l)::r,t=>bif Nat.beq u t then some l else kf r t
structure cz (P:Program) (t:TypeId) (l:List Nat):Prop where
 shape:XJ P 60 t=some l
 guard:P.eqGuardType P.depth t=false
 agg:(match P.underlying t with|some (.struct _)|some (.array _ _)=>true|_=>false)=true
def xj (P:Program) (E:yQ):Prop:=∀t l,kf E t=some l→cz P t l
theorem xj.nil (P:Program):xj P []:=fun _ _ h=>by simp [kf]at h
theorem xj.cons {P:Program} {E:yQ} {t:TypeId} {l:List Nat} (h:cz P t l) (r:xj P E):xj P ((t,l)::E):=fun u z e=>by
 simp only[kf]at e
 by_cases hu:t=u
 ·subst hu;simp at e;subst e;exact h
 ·have:Nat.beq t u=false:=by rw[← Bool.not_eq_true,Nat.beq_eq];exact hu
  rw[this]at e;exact r u z e
def xk:List D→Option (List Value)
 | []=>some []
 | .raw v::r=>match xk r with
  | some l=>some (v::l)
  | none=>none
 | _=>none
def Bl:List Nat→List Nat→Bool
 | [],[]=>true
 | a::r,b::q=>Nat.beq a b&&Bl r q
 | _,_=>false
theorem PI:∀{a b:List Nat},Bl a b=true→a=b
 | [],[],_=>rfl
 | [],_::_,h=>by cases h
 | _::_,[],h=>by cases h
 | a::r,b::q,h=>by
  simp only[Bl,Bool.and_eq_true,Nat.beq_eq]at h
  rw[h.1,PI h.2]
theorem PJ {h:List Ob} {pl:List Pl} {w:World}:∀{cs:List D} {l:List Value},xk cs=some l→∀(vs:List Value),vs.length=cs.length→(∀i,i<cs.length→Qv Z h pl w (nth cs i) (QL vs i))→vs=l
 | [],l,e,vs,hl,_=>by simp [xk]at e;subst e;exact List.eq_nil_of_length_eq_zero (by simpa using hl)
 | c::cs,l,e,vs,hl,hr=>by
  cases c<;>simp only[xk,reduceCtorEq]at e
  rename_i v
  split at e
  ·rename_i l' qu
   simp only[Option.some.injEq]at e
   subst e
   match vs,hl with
   | u::us,hl=>
    have h0:=ZD (hr 0 (by simp):Qv Z h pl w (.raw v) u)
    have:=PJ qu us (by simpa using hl) (fun i hi=>by have:=hr (i+1) (by simp;omega);simpa [nth,QL] using this)
    have FK:u=v:=h0
    rw[FK,this]
  ·cases e
def LF (E:yQ) (op:BinOp) (t:TypeId):D→D→Ev
 | .agg a,.agg b=>match kf E t,xk a,xk b with
  | some l,some x,some y=>bif Bl (x.map cat) l&&Bl (y.map cat) l then match XI x y with
   | some r=>match op with
    | .eql=>some (True,.raw (.bool r))
    | .neq=>some (True,.raw (.bool (!r)))
    | _=>none
   | none=>none
   else none
  | _,_,_=>none
 | _,_=>none
theorem QcB {P:Program} {E:yQ} (hE:xj P E) {base nt:Nat} {s:St} {o:Oper} {op:BinOp} {t yt:TypeId} {x y:Operand} (ho:o.op=.binOp op t x y yt) {p:Prop} {d:D}
  (h:LF E op t (Qq s.fr x) (Qq s.fr y)=some (p,d)):Kt P base nt o s d:=by
 intro Z pl a w r
 have hx:=r.eval x
 have hy:=r.eval y
 unfold LF at h
 generalize Qq s.fr x=dx at *
 generalize Qq s.fr y=dy at *
 split at h
 ·split at h
  ·rename_i l xs ys he Bj Bk
   obtain⟨hk,h2⟩:=YG h
   simp only[Bool.and_eq_true]at hk
   have hkx:=PI hk.1
   have hky:=PI hk.2
   split at h2
   ·rename_i rr hr
    obtain⟨us,hu,hul,yR⟩:=Da hx
    obtain⟨ws,hw,hwl,Q3⟩:=Da hy
    have e1:=PJ Bj us hul yR
    have e2:=PJ Bk ws hwl Q3
    subst e1;subst e2
    obtain⟨ZW,hg,cA⟩:=hE _ _ he
    have heq:∀w',(Op.equalIn 10000 t (.agg us.toArray) (.agg ws.toArray)).run P w'=.ok rr w':=by
     intro w'
     have:=PH 60 10000 t l (by omega) ZW w' us ws rr hkx hky hr
     unfold valOf at this
     split at this
     ·exact this
     ·exact this
     ·rename_i h1 h2
      split at cA
      ·rename_i h3;exact absurd h3 (h1 _)
      ·rename_i h3;exact absurd h3 (h2 _ _)
      ·cases cA
    split at h2
    ·simp only[Option.some.injEq,Prod.mk.injEq]at h2
     obtain⟨rfl,rfl⟩:=h2
     refine⟨_,.cl _ _ (.raw _),fun w' _=>?_⟩
     simp [execOp,ho,hu,hw,run_eqGuard_agg w' .eql t x y _ _ hg,run_eql_struct,heq]
    ·simp only[Option.some.injEq,Prod.mk.injEq]at h2
     obtain⟨rfl,rfl⟩:=h2
     refine⟨_,.cl _ _ (.raw _),fun w' _=>?_⟩
     simp [execOp,ho,hu,hw,run_eqGuard_agg w' .neq t x y _ _ hg,run_neq_struct,heq]
    ·cases h2
   ·cases h2
  ·cases h
 ·cases h
end Go.Fg
namespace Go.Fg
def JI (P:Program) {α:Type} (m:Sem α):Prop:=∀w x w1,m.run P w=.ok x w1→w1=w∧∀w',m.run P w'=.ok x w'
section
variable {P:Program} {α β:Type}
theorem JI.pure (a:α):JI P (pure a:Sem α):=fun w x w1 h=>by
 simp at h;obtain⟨rfl,rfl⟩:=h;exact⟨rfl,fun w'=>by simp⟩
theorem JI.never {m:Sem α} (hh:∀w x w1,m.run P w≠.ok x w1):JI P m:=fun w x w1 h=>absurd h (hh w x w1)
theorem JI.bind {m:Sem α} {k:α→Sem β} (h1:JI P m) (h2:∀a,JI P (k a)):JI P (m >>= k):=fun w x w1 h=>by
 rw[Sem.run_bind]at h
 cases hm:m.run P w with
 | halt e w2=>rw[hm]at h;cases h
 | ok a w2=>
  rw[hm]at h
  simp only[Result.andThen_ok]at h
  obtain⟨rfl,h3⟩:=h1 w a w2 hm
  obtain⟨rfl,h4⟩:=h2 a _ x w1 h
  exact⟨rfl,fun w'=>by rw[Sem.run_bind,h3 w'];simp only[Result.andThen_ok];exact h4 w'⟩
theorem JI.stuck (s:String):JI P (Go.stuck s:Sem α):=JI.never fun w x w1 h=>by cases h
theorem JI.halt (e:Halt):JI P (.halt e:Sem α):=JI.never fun w x w1 h=>by cases h
theorem JI.program:JI P program:=fun w x w1 h=>by
 simp at h;obtain⟨rfl,rfl⟩:=h;exact⟨rfl,fun w'=>by simp⟩
theorem JI.typeInfo (t:TypeId):JI P (typeInfo t):=.bind .program fun p=>by
 split
 ·exact .pure _
 ·exact .stuck _
theorem JI.underlying (t:TypeId):JI P (underlying t):=.bind .program fun p=>by
 split
 ·exact .pure _
 ·exact .stuck _
theorem JI.panic:JI P (runtimePanic .nilDeref:Sem α):=.bind .program fun p=>.halt _
theorem JI.sizeOf (t:TypeId):JI P (sizeOf t):=.bind (.typeInfo t) fun _=>.pure _
theorem JI.isAgg (t:TypeId):JI P (isAgg t):=.bind (.underlying t) fun d=>by
 split<;>exact .pure _
theorem JI.part (t:TypeId) (cs:Array Value) (i:Nat):JI P (part t cs i):=by
 unfold Go.part
 repeat' (first|exact .pure _|exact .stuck _|refine .bind (.isAgg _) fun _=>?_|refine .bind (.sizeOf _) fun _=>?_|refine .bind (.typeInfo _) fun _=>?_|refine .bind (.underlying _) fun _=>?_|split)
theorem JI.blind:∀(l:List FieldStep) (t:TypeId) (x:Option Value),JI P (Go.followBlind l t x)
 | [],_,_=>.pure _
 | s::r,t,x=>by
  unfold Go.followBlind
  repeat' (first|exact .pure _|exact .stuck _|exact JI.blind r _ _|refine .bind (.part _ _ _) fun _=>?_|refine .bind (.underlying _) fun _=>?_|split)
theorem JI.nilAhead:∀(n:Nat) (t:TypeId) (v:Value) (name:String),JI P (Go.nilAhead n t v name)
 | 0,_,_,_=>.pure _
 | n+1,t,v,name=>by
  unfold Go.nilAhead
  repeat' (first|exact .pure _|exact .stuck _|exact JI.nilAhead n _ _ _|refine .bind (.blind _ _ _) fun _=>?_|refine .bind (.typeInfo _) fun _=>?_|refine .bind (.underlying _) fun _=>?_|split)
theorem JI.nilCheck {o:Oper} {x:Operand} (ho:o.op=.nilCheck x) (ρ:Operand→Value):JI P (execOp ρ o):=by
 simp only[execOp,ho]
 repeat' (first|exact .pure _|exact .stuck _|exact .panic|exact .halt _|(refine .bind (.halt _) fun _=>?_)|refine .bind (.nilAhead _ _ _ _) fun _=>?_|refine .bind .program fun _=>?_|split)
end
end Go.Fg
namespace Go.Fg
open Go.RowKit (Below)
open Go.Instr
def Bm (q:IntKind) (es:List MapEntry):Prop:=∀e∈es,∃n,e.key=.int q n
theorem LG {q:IntKind} {k:Int}:∀{es:List MapEntry} {i:Nat},Bm q es→(∀e∈es,e.key≠.int q k)→findNow (.int q) (.int q k) es i=some none
 | [],_,_,_=>rfl
 | e::es,i,h,hn=>by
  obtain⟨n,hk⟩:=h e (List.mem_cons_self ..)
  have QD:(k==n)=false:=by
   rw[beq_eq_false_iff_ne]
   rintro rfl
   exact hn e (List.mem_cons_self ..) hk
  simp only[findNow,hk,sameNow,if_true,QD]
  exact LG (fun e he=>h e (List.mem_cons_of_mem _ he)) (fun e he=>hn e (List.mem_cons_of_mem _ he))
theorem LH {q:IntKind} {k:Int}:∀{es:List MapEntry} {i0 i:Nat} {e:MapEntry},Bm q es→es[i]? = some e→e.key=.int q k→(∀(j:Nat) (e':MapEntry),j<i→es[j]? = some e'→e'.key≠.int q k) →
  findNow (.int q) (.int q k) es i0=some (some (i0+i,e.val))
 | [],_,_,_,_,h,_,_=>by simp at h
 | x::es,i0,i,e,hI,h,hk,hn=>by
  obtain⟨n,hx⟩:=hI x (List.mem_cons_self ..)
  cases i with
  | zero=>
   simp at h;subst h
   rw[hx]at hk
   obtain rfl:n=k:=by simpa using hk
   simp [findNow,hx,sameNow]
  | succ i=>
   have QD:(k==n)=false:=by
    rw[beq_eq_false_iff_ne]
    rintro rfl
    exact hn 0 x (by omega) rfl hx
   simp only[findNow,hx,sameNow,if_true,QD]
   rw[LH (i0:=i0+1) (fun e he=>hI e (List.mem_cons_of_mem _ he)) (by simpa using h) hk (fun j e' hj he=>hn (j+1) e' (by omega) (by simpa using he))]
   simp;omega
section
variable {P:Program} {w:World} {q:IntKind} {k:Int}
theorem Bn {kt:TypeId} (hk:P.underlying kt=some (.int q)) (em:Bool) (n:Nat):(checkKey em (n+1) kt (.int q k)).run P w=.ok () w:=by
 simp [checkKey,underlying,hk]
theorem Bo {kt:TypeId} (hk:P.underlying kt=some (.int q)) {es:List MapEntry} {r:Option (Nat × Value)} (h:findNow (.int q) (.int q k) es 0=some r):(findKey kt (.int q k) es).run P w=.ok r w:=by
 simp [findKey,underlying,hk,h]
theorem yS {α:Type} {b:Nat} {es:Array MapEntry} {clock:Nat} (hb:w.heap[b]? = some (.map es clock)) (c:Obj→Sem α):(Sem.getObj b c).run P w=(c (.map es clock)).run P w:=by
 simp only[Sem.run,hb]
theorem LI {α:Type} {b:Nat} {es:Array MapEntry} {clock:Nat} (hb:w.heap[b]? = some (.map es clock)) (o:Obj) (c:Sem α):(Sem.setObj b o c).run P w=c.run P { w with heap:=w.heap.setIfInBounds b o }:=by
 simp only[Sem.run,hb]
theorem QcG {xt kt et:TypeId} {b:Nat} {es:Array MapEntry} {clock:Nat} (hx:P.underlying xt=some (.map kt et)) (hk:P.underlying kt=some (.int q)) (hb:w.heap[b]? = some (.map es clock)) (hI:Bm q es.toList)
  {i:Nat} {e:MapEntry} (hi:es[i]? = some e) (he:e.key=.int q k) (hn:∀(j:Nat) (e':MapEntry),j<i→es[j]? = some e'→e'.key≠.int q k) (v:Value) :
  (mapUpdate xt (.map (some b)) (.int q k) v).run P w=.ok () { w with heap:=w.heap.setIfInBounds b (.map (es.modify i fun e=>{ e with key:=.int q k,val:=v }) clock) }:=by
 have h:=LH (i0:=0) hI (by simpa using hi) he (fun j e' hj Ku=>hn j e' hj (by simpa using Ku))
 have h2:=Bo (P:=P) (w:=w) hk h
 have h3:=Bn (P:=P) (w:=w) (k:=k) hk false 9999
 simp [mapUpdate,underlying,hx,getObj,yS hb,h2,h3,hi,he,keyThatStays,sameBits,setObj,LI hb]
theorem QcH {xt kt et:TypeId} {b:Nat} {es:Array MapEntry} {clock:Nat} (hx:P.underlying xt=some (.map kt et)) (hk:P.underlying kt=some (.int q)) (hb:w.heap[b]? = some (.map es clock)) (hI:Bm q es.toList)
  (hn:∀e∈es.toList,e.key≠.int q k) (v:Value) :
  (mapUpdate xt (.map (some b)) (.int q k) v).run P w=.ok () { w with heap:=w.heap.setIfInBounds b (.map (es.push { key:=.int q k,val:=v,born:=clock }) (clock+1)) }:=by
 have h2:=Bo (P:=P) (w:=w) hk (LG (i:=0) hI hn)
 have h3:=Bn (P:=P) (w:=w) (k:=k) hk false 9999
 simp [mapUpdate,underlying,hx,getObj,yS hb,h2,h3,setObj,LI hb]
theorem QcI {xt kt et ty kt2:TypeId} {b:Nat} {es:Array MapEntry} {clock:Nat} (hx:P.underlying xt=some (.map kt et)) (hk:P.underlying kt=some (.int q)) (hb:w.heap[b]? = some (.map es clock)) (hI:Bm q es.toList)
  {i:Nat} {e:MapEntry} (hi:es[i]? = some e) (he:e.key=.int q k) (hn:∀(j:Nat) (e':MapEntry),j<i→es[j]? = some e'→e'.key≠.int q k) :
  (Builtin.delete_ #[xt,kt2] ty #[.map (some b),.int q k]).run P w=.ok (.tuple #[]) { w with heap:=w.heap.setIfInBounds b (.map (es.eraseIdxIfInBounds i) clock) }:=by
 have h:=LH (i0:=0) hI (by simpa using hi) he (fun j e' hj Ku=>hn j e' hj (by simpa using Ku))
 have h2:=Bo (P:=P) (w:=w) hk h
 have h3:=Bn (P:=P) (w:=w) (k:=k) hk es.isEmpty 9999
 simp [Builtin.delete_,underlying,hx,getObj,yS hb,h2,h3,setObj,LI hb]
theorem QcJ {xt kt et ty kt2:TypeId} {b:Nat} {es:Array MapEntry} {clock:Nat} (hx:P.underlying xt=some (.map kt et)) (hk:P.underlying kt=some (.int q)) (hb:w.heap[b]? = some (.map es clock)) (hI:Bm q es.toList)
  (hn:∀e∈es.toList,e.key≠.int q k) :
  (Builtin.delete_ #[xt,kt2] ty #[.map (some b),.int q k]).run P w=.ok (.tuple #[]) { w with heap:=w.heap.setIfInBounds b (.map es clock) }:=by
 have h2:=Bo (P:=P) (w:=w) hk (LG (i:=0) hI hn)
 have h3:=Bn (P:=P) (w:=w) (k:=k) hk es.isEmpty 9999
 simp [Builtin.delete_,underlying,hx,getObj,yS hb,h2,h3,setObj,LI hb]
theorem QcK {xt kt et:TypeId} {b:Nat} {es:Array MapEntry} {clock:Nat} (hx:P.underlying xt=some (.map kt et)) (hb:w.heap[b]? = some (.map es clock)) :
  (Instr.range xt (.map (some b))).run P w=.ok (.pointer (some ⟨w.heap.size,0,none⟩)) { w with heap:=w.heap.push (.mapIter (some b) clock #[] clock) }:=by
 simp [Instr.range,underlying,hx,getObj,yS hb,newObj,Sem.run]
end
theorem Tr.FL {Z:Nat→Prop} {base:Nat} {h:List Ob} {pl:List Pl} {w w':World} (R:QW Z base h pl w) {l:Nat} {o o':Ob} {b:Nat} (ho:h[l]? = some o) (hp:pl[l]? = some (some (b,0))) (e:∀c,c≠b→w'.heap[c]? = w.heap[c]?)
  (hg:o'.gen=o.gen) (hk:o'.kd.ty=o.kd.ty) (hz:o'.sz=o.sz) (hnc:∀c el,w.heap[b]?≠some (.cells c el (0,0))):Tr h pl w (h.set l o') pl w' where
 JP:=fun c hc _=>⟨hc,e c (fun h=>by subst h;exact hc l 0 hp)⟩
 obj:=fun l1 o1 p h1 h2=>by
  by_cases hl:l=l1
  ·subst hl
   rw[ho]at h1;cases h1
   exact⟨o',p,List.getElem?_set_self (Jv ho),h2,by omega,hk,fun _=>⟨hz,rfl⟩⟩
  ·exact⟨o1,p,by rw[List.getElem?_set_ne hl];exact h1,h2,Nat.le_refl _,rfl,fun _=>⟨rfl,rfl⟩⟩
 shape:=fun l1 o1 o2 c q h1 h2 _ h3 cs el hc=>by
  by_cases hb:c=b
  ·subst hb;exact absurd hc (hnc cs el)
  ·exact⟨cs,by rw[e c hb];exact hc,rfl⟩
theorem QW.FL {Z:Nat→Prop} {base:Nat} {h:List Ob} {pl:List Pl} {w w':World} (R:QW Z base h pl w) {l:Nat} {o o':Ob} {b:Nat} (ho:h[l]? = some o) (hp:pl[l]? = some (some (b,0))) (e:∀c,c≠b→w'.heap[c]? = w.heap[c]?)
  (T:Tr h pl w (h.set l o') pl w') (hx:Ju Z (h.set l o') pl w' o' b 0) (hro:o'.kd.ro=o.kd.ro):QW Z base (h.set l o') pl w' where
 len:=by rw[List.length_set];exact R.len
 inj:=R.inj
 J2:=fun l1 o1 h1 h2=>by
  by_cases hl:l=l1
  ·subst hl;rw[hp]at h2;cases h2
  ·rw[List.getElem?_set_ne hl]at h1;exact R.J2 l1 o1 h1 h2
 at_:=fun l1 o1 c q h1 h2=>by
  by_cases hl:l=l1
  ·subst hl
   rw[List.getElem?_set_self (Jv ho)]at h1;cases h1
   rw[hp]at h2;cases h2
   exact⟨fun hr=>(R.at_ l o b 0 ho hp).1 (by rw[← hro,hr]),hx⟩
  ·rw[List.getElem?_set_ne hl]at h1
   obtain⟨g1,x⟩:=R.at_ l1 o1 c q h1 h2
   have hc:c≠b:=fun h=>by subst h;exact hl (R.inj l l1 c 0 q hp h2)
   exact⟨g1,x.to rfl rfl rfl (e c hc) (fun _ _=>rfl) fun i j v _ _ hr=>hr.tr T⟩
structure QM where
 k:Int
 v:D
 b:Nat
def kg (q:IntKind) (c:Nat) (es:List QM):Nat→List D
 | 0=>[.raw (.int .i64 c),.undef,.undef]
 | r+1=>match es[r]? with
  | some e=>[.raw (.int q e.k),e.v,.raw (.int .i64 e.b)]
  | none=>[.undef,.undef,.undef]
def Km (kd:Kd) (q:IntKind) (c:Nat) (es:List QM):Ob:=⟨kd,0,3,es.length+1,kg q c es⟩
def QG (q:IntKind) (c:Nat) (es:List QM):Ob:=Km .map q c es
def JJ:List QM→Int→Option D
 | [],_=>none
 | e::r,k=>if e.k=k then some e.v else JJ r k
def je:List QM→Int→D→List QM
 | [],_,_=>[]
 | e::r,k,v=>if e.k=k then ⟨k,v,e.b⟩::r else e::je r k v
def ZQ:List QM→Int→List QM
 | [],_=>[]
 | e::r,k=>if e.k=k then r else e::ZQ r k
def Ka (q:IntKind) (c:Nat) (es:List QM) (k:Int) (v:D):Ob:=match JJ es k with
 | some _=>QG q c (je es k v)
 | none=>QG q (c+1) (es++[⟨k,v,c⟩])
def FM:D→Int
 | .raw (.int _ n)=>n
 | _=>0
def clockOf (o:Ob):Nat:=(FM (nth (o.row 0) 0)).toNat
def vH (o:Ob):List QM:=(List.range (o.n - 1)).map fun i=>⟨FM (nth (o.row (i+1)) 0),nth (o.row (i+1)) 1,(FM (nth (o.row (i+1)) 2)).toNat⟩
def Ob.ro (o:Ob):Ob:=⟨o.kd.toRo,o.gen,o.sz,o.n,o.row⟩
def IsMap (q:IntKind) (o:Ob):Prop:=o.kd.ty=1∧o=Km o.kd q (clockOf o) (vH o)
theorem cB (kd:Kd) (q:IntKind) (c:Nat) (es:List QM):clockOf (Km kd q c es)=c:=by simp [clockOf,Km,kg,nth,FM]
theorem PK (q:IntKind) (c:Nat) (es:List QM):clockOf (QG q c es)=c:=cB _ _ _ _
theorem cC (kd:Kd) (q:IntKind) (c:Nat) (es:List QM):vH (Km kd q c es)=es:=by
 apply List.ext_getElem?
 intro i
 simp only[vH,Km,kg,Nat.add_sub_cancel,List.getElem?_map,List.getElem?_range]
 by_cases h:i<es.length
 ·simp [List.getElem?_range h,nth,FM,h]
 ·rw[List.getElem?_eq_none (by simpa using h)];simp [h]
theorem PL (q:IntKind) (c:Nat) (es:List QM):vH (QG q c es)=es:=cC _ _ _ _
theorem cD (q:IntKind) (c:Nat) (es:List QM):IsMap q (QG q c es)=True:=by
 refine eq_true ⟨rfl,?_⟩
 exact(by rw[PK,PL];rfl)
theorem cE (o:Ob):clockOf o.ro=clockOf o:=rfl
theorem cF (o:Ob):vH o.ro=vH o:=rfl
theorem QcM (q:IntKind) (o:Ob):IsMap q o.ro=IsMap q o:=by
 obtain⟨k,g,z,n,r⟩:=o
 simp only[IsMap,cE,cF]
 simp only[Ob.ro,Km,Kd.toRo_ty,Ob.mk.injEq,true_and]
theorem QcN (q:IntKind) (c:Nat) (es:List QM):(QG q c es).kd=.map:=rfl
theorem QcO (q:IntKind) (c:Nat) (es:List QM):(QG q c es).n=es.length+1:=rfl
theorem QcP (q:IntKind) (c:Nat) (es:List QM):(QG q c es).gen=0:=rfl
theorem LJ (o:Ob):o.ro.kd=o.kd.toRo:=rfl
theorem QcQ (o:Ob):o.ro.n=o.n:=rfl
theorem QcR (o:Ob):o.ro.gen=o.gen:=rfl
theorem IsMap.get {q:IntKind} {o:Ob} (h:IsMap q o):∃kd c es,kd.ty=1∧o.kd=kd∧clockOf o=c∧vH o=es∧o=Km kd q c es:=⟨_,_,_,h.1,rfl,rfl,rfl,h.2⟩
theorem LK:∀{es:List QM} {k:Int} {v:D},JJ es k=some v→∃(j:Nat) (e:QM),es[j]? = some e∧e.k=k∧e.v=v∧(∀(i:Nat) (e':QM),i<j→es[i]? = some e'→e'.k≠k)∧(∀u,je es k u=es.set j ⟨k,u,e.b⟩)∧ZQ es k=es.eraseIdx j
 | [],_,_,h=>by simp [JJ]at h
 | e::r,k,v,h=>by
  simp only[JJ]at h
  by_cases hk:e.k=k
  ·rw[if_pos hk]at h;cases h
   exact⟨0,e,rfl,hk,rfl,fun i _ hi=>absurd hi (Nat.not_lt_zero i),fun u=>by simp [je,hk],by simp [ZQ,hk]⟩
  ·rw[if_neg hk]at h
   obtain⟨j,e',h1,h2,h3,h4,h5,h6⟩:=LK h
   refine⟨j+1,e',by simpa using h1,h2,h3,fun i x hi hx=>?_,fun u=>by simp [je,hk,h5 u],by simp [ZQ,hk,h6]⟩
   cases i with
   | zero=>simp at hx;subst hx;exact hk
   | succ i=>exact h4 i x (by omega) (by simpa using hx)
theorem FN:∀{es:List QM} {k:Int},JJ es k=none→(∀e∈es,e.k≠k)∧(∀u,je es k u=es)∧ZQ es k=es
 | [],_,_=>⟨by simp,fun _=>rfl,rfl⟩
 | e::r,k,h=>by
  simp only[JJ]at h
  by_cases hk:e.k=k
  ·rw[if_pos hk]at h;cases h
  ·rw[if_neg hk]at h
   obtain⟨h1,h2,h3⟩:=FN h
   exact⟨fun x hx=>by
    rcases List.mem_cons.1 hx with rfl|h
    ·exact hk
    ·exact h1 x h,fun u=>by simp [je,hk,h2 u],by simp [ZQ,hk,h3]⟩
def Vq (es:List QM):Prop:=(es.map (·.k)).Nodup
structure Yb (Z:Nat→Prop) (h:List Ob) (pl:List Pl) (w:World) (q:IntKind) (c:Nat) (es:List QM) (Q5:List MapEntry):Prop where
 len:es.length=Q5.length
 at_:∀(i:Nat) (e:QM) (a:MapEntry),es[i]? = some e→Q5[i]? = some a→a.key=.int q e.k∧Qv Z h pl w e.v a.val∧a.born=e.b∧a.born<c
 inc:∀(i j:Nat) (a a':MapEntry),i<j→Q5[i]? = some a→Q5[j]? = some a'→a.born<a'.born
theorem PM {Z:Nat→Prop} {h:List Ob} {pl:List Pl} {w:World} {q:IntKind} {c:Nat} {es:List QM} {b:Nat} {Q5:Array MapEntry} (hb:w.heap[b]? = some (.map Q5 c)) (E:Yb Z h pl w q c es Q5.toList) {kd:Kd} (Ja:kd.ty=1):Ju Z h pl w (Km kd q c es) b 0:=by
 refine Ju.ofMap Ja ⟨rfl,rfl,Q5,c,hb,by have:=E.len;simp at this;simp [Km,this],fun i _=>?_,.cl _ _ (.raw _),fun i a ha=>?_,fun i j a a' JV h1 h2=>E.inc i j a a' JV (by simpa using h1) (by simpa using h2)⟩
 ·show (kg q c es i).length=3
  cases i with
  | zero=>rfl
  | succ i=>simp only[kg];split<;>rfl
 ·have Qd:=(Array.getElem?_eq_some_iff.1 ha).1
  have hi:i<es.length:=by have:=E.len;simp at this;omega
  obtain⟨h1,h2,h3,h4⟩:=E.at_ i es[i] a (List.getElem?_eq_getElem hi) (by simpa using ha)
  have e1:kg q c es (i+1)=[.raw (.int q es[i].k),es[i].v,.raw (.int .i64 es[i].b)]:=by simp [kg,hi]
  show _∧Qv Z h pl w (nth (kg q c es (i+1)) 0) _∧Qv Z h pl w (nth (kg q c es (i+1)) 1) _∧Qv Z h pl w (nth (kg q c es (i+1)) 2) _
  rw[e1]
  exact⟨h4,by rw[h1];exact .cl _ _ (.raw _),h2,by rw[h3];exact .cl _ _ (.raw _)⟩
theorem LL {Z:Nat→Prop} {h:List Ob} {pl:List Pl} {w:World} {q:IntKind} {c:Nat} {es:List QM} {b p:Nat} {kd:Kd} (Ja:kd.ty=1) (x:Ju Z h pl w (Km kd q c es) b p):p=0∧∃Q5:Array MapEntry,w.heap[b]? = some (.map Q5 c)∧Yb Z h pl w q c es Q5.toList:=by
 obtain⟨h0,_,Q5,clock,h1,h2,_,h4,h5,h6⟩:=x.map Ja
 have hc:clock=c:=by
  have:=ZD h4
  simp at this;omega
 subst hc
 have hl:es.length=Q5.size:=by simpa [Km] using h2
 refine⟨h0,Q5,h1,by simpa using hl,fun i e a he ha=>?_,fun i j a a' JV g1 g2=>h6 i j a a' JV (by simpa using g1) (by simpa using g2)⟩
 obtain⟨k1,k2,k3,k4⟩:=h5 i a (by simpa using ha)
 have e1:(Km kd q clock es).row (i+1)=[.raw (.int q e.k),e.v,.raw (.int .i64 e.b)]:=by simp [Km,kg,he]
 rw[e1]at k2 k3 k4
 have:=ZD k2
 have h8:=ZD k4
 refine⟨this,k3,?_,k1⟩
 simp at h8;omega
theorem Yb.keys {Z:Nat→Prop} {h:List Ob} {pl:List Pl} {w:World} {q:IntKind} {c:Nat} {es:List QM} {Q5:List MapEntry} (E:Yb Z h pl w q c es Q5):Bm q Q5:=fun a ha=>by
 obtain⟨i,hi⟩:=List.getElem?_of_mem ha
 have Qd:i<es.length:=by rw[E.len];exact(List.getElem?_eq_some_iff.1 hi).1
 exact⟨_,(E.at_ i es[i] a (List.getElem?_eq_getElem Qd) hi).1⟩
theorem Yb.WZ {Z:Nat→Prop} {h:List Ob} {pl:List Pl} {w:World} {q:IntKind} {c:Nat} {es:List QM} {Q5:Array MapEntry} (E:Yb Z h pl w q c es Q5.toList) {k:Int} {j:Nat} {e:QM} (he:es[j]? = some e) (hk:e.k=k) (hn:∀(i:Nat) (e':QM),i<j→es[i]? = some e'→e'.k≠k) :
  ∃a,Q5[j]? = some a∧a.key=.int q k∧Qv Z h pl w e.v a.val∧a.born=e.b∧a.born<c∧∀(i:Nat) (e':MapEntry),i<j→Q5[i]? = some e'→e'.key≠.int q k:=by
 have Qd:j<Q5.toList.length:=by rw[← E.len];exact(List.getElem?_eq_some_iff.1 he).1
 obtain⟨h1,h2,h3,h4⟩:=E.at_ j e Q5.toList[j] he (List.getElem?_eq_getElem Qd)
 refine⟨Q5.toList[j],by simp,by rw[h1,hk],h2,h3,h4,fun i a' JV XL=>?_⟩
 have hi:i<es.length:=by have:=(List.getElem?_eq_some_iff.1 he).1;omega
 obtain⟨g1,_⟩:=E.at_ i es[i] a' (List.getElem?_eq_getElem hi) (by simpa using XL)
 rw[g1]
 intro hh
 exact hn i _ JV (List.getElem?_eq_getElem hi) (by simpa using hh)
theorem Yb.PN {Z:Nat→Prop} {h:List Ob} {pl:List Pl} {w:World} {q:IntKind} {c:Nat} {es:List QM} {Q5:List MapEntry} (E:Yb Z h pl w q c es Q5) {k:Int} (hn:∀e∈es,e.k≠k):∀a∈Q5,a.key≠.int q k:=fun a ha=>by
 obtain⟨i,hi⟩:=List.getElem?_of_mem ha
 have Qd:i<es.length:=by rw[E.len];exact(List.getElem?_eq_some_iff.1 hi).1
 rw[(E.at_ i es[i] a (List.getElem?_eq_getElem Qd) hi).1]
 intro hh
 exact hn _ (List.getElem_mem Qd) (by simpa using hh)
theorem Yb.tr {Z:Nat→Prop} {h h':List Ob} {pl Qi:List Pl} {w w':World} (T:Tr h pl w h' Qi w') {q:IntKind} {c:Nat} {es:List QM} {Q5:List MapEntry} (E:Yb Z h pl w q c es Q5):Yb Z h' Qi w' q c es Q5:=
 ⟨E.len,fun i e a h1 h2=>let ⟨g1,g2,g3⟩:=E.at_ i e a h1 h2;⟨g1,g2.tr T,g3⟩,E.inc⟩
section
variable {P:Program} {L:Zh} {base nt:Nat} {s:St} {o:Oper} {q:IntKind} {t kt et:TypeId} {x i:Operand} {l g n:Nat} {ob:Ob} {k:Int}
theorem LM {Z:Nat→Prop} {pl:List Pl} {a:Act} {w:World} (r:Rel Z base nt s pl a w) {c:Nat} {es:List QM} {kd:Kd} (Ja:kd.ty=1) (hx:Qq s.fr x=.mref l 0) (Q1:s.h[l]? = some (Km kd q c es)) :
  ∃b Q5,a.eval x=.map (some b)∧pl[l]? = some (some (b,0))∧(kd.ro=false→base≤b)∧w.heap[b]? = some (.map Q5 c)∧Yb Z s.h pl w q c es Q5.toList:=by
 have e1:=r.eval x
 rw[hx]at e1
 obtain⟨o',p,b,h1,h2,h3,h4,h5⟩:=Bb e1
 rw[Q1]at h1;cases h1
 have h5:=h5 rfl
 rw[h5]at h2
 obtain⟨Zf,kh⟩:=r.o.at_ l _ b 0 Q1 h2
 obtain⟨_,Q5,hb,E⟩:=LL Ja kh
 have hv:=h3.2
 have:(Km kd q c es).kd.ty=1:=Ja
 rw[this]at hv
 exact⟨b,Q5,hv,h2,Zf,hb,E⟩
theorem LN {Z:Nat→Prop} {pl:List Pl} {a:Act} {w:World} (r:Rel Z base nt s pl a w) {c:Nat} {es:List QM} (Q1:s.h[l]? = some (QG q c es)) {b:Nat} (hp:pl[l]? = some (some (b,0))) (Zf:base≤b) {Q5:Array MapEntry} (hb:w.heap[b]? = some (.map Q5 c))
  {c':Nat} {es':List QM} {ens':Array MapEntry} (E:∀Qi w',Tr s.h pl w (s.h.set l (QG q c' es')) Qi w'→Yb Z (s.h.set l (QG q c' es')) Qi w' q c' es' ens'.toList) :
  ∃w',w'={ w with heap:=w.heap.setIfInBounds b (.map ens' c') }∧Tr s.h pl w (s.h.set l (QG q c' es')) pl w'∧QW Z base (s.h.set l (QG q c' es')) pl w'∧Below base w w':=by
 have vI:=q9 hb
 generalize YH:({ w with heap:=w.heap.setIfInBounds b (.map ens' c') }:World)=w'
 have e:∀c,c≠b→w'.heap[c]? = w.heap[c]? := fun c hc=>by rw[← YH];simp [Array.getElem?_setIfInBounds,Ne.symm hc]
 have ZX:w'.heap[b]? = some (.map ens' c'):=by rw[← YH];simp [Array.getElem?_setIfInBounds,vI]
 have T:=Tr.FL (w':=w') r.o Q1 hp e (o':=QG q c' es') rfl rfl rfl (by rw[hb];intro c el h;cases h)
 exact⟨w',rfl,T,QW.FL (hro:=rfl) r.o Q1 hp e T (PM ZX (E pl w' T) rfl),FE Zf e (by rw[← YH];simp) (by rw[← YH]) (by rw[← YH]) (by rw[← YH])⟩
theorem QcS (hL:Zw P L) {yt yk ye:Ty} (ht:ty L t=some yt) (vJ:yt.k=.map kt et) (YM:ty L kt=some yk) (jf:yk.k=.int q) (KQ:ty L et=some ye)
  {Z:Nat→Prop} {h:List Ob} {pl:List Pl} {w:World} {b c:Nat} {es:List QM} {Q5:Array MapEntry} (hb:w.heap[b]? = some (.map Q5 c)) (E:Yb Z h pl w q c es Q5.toList) (ok:Bool) :
  ∃v,Qv Z h pl w (match JJ es k with|some d=>d|none=>wY ye) v∧∀w':World,w'.heap[b]? = w.heap[b]? →
   (lookup t (.map (some b)) (.int q k) ok).run P w'=.ok (if ok then .tuple #[v,.bool (JJ es k).isSome] else v) w':=by
 have h3:=fun w:World=>Bn (P:=P) (w:=w) (k:=k) (wW (hL kt yk YM) jf) Q5.isEmpty 9999
 have hx:=Ba (hL t yt ht) vJ
 cases hf:JJ es k with
 | some d=>
  obtain⟨j,e,g1,g2,g3,g4,_⟩:=LK hf
  obtain⟨a,a1,a2,a3,a4,a5,a6⟩:=E.WZ g1 g2 g4
  refine⟨a.val,by rw[← g3];exact a3,fun w' hw=>?_⟩
  have h:=LH (i0:=0) E.keys (by simpa using a1) a2 (fun j e' hj Ku=>a6 j e' hj (by simpa using Ku))
  have h2:=Bo (P:=P) (w:=w') (wW (hL kt yk YM) jf) h
  simp [lookup,underlying,hx,getObj,yS (hw.trans hb),h2,h3]
 | none=>
  obtain⟨g1,_⟩:=FN hf
  obtain⟨z,hz,XH⟩:=bD (hL et ye KQ) (N:=free Z pl) w
  refine⟨z,.cl _ _ hz,fun w' hw=>?_⟩
  have h2:=Bo (P:=P) (w:=w') (wW (hL kt yk YM) jf) (LG (i:=0) E.keys (E.PN g1))
  simp [lookup,underlying,hx,getObj,yS (hw.trans hb),h2,h3,XH w']
theorem QcT (hL:Zw P L) {yt yk ye:Ty} (ht:ty L t=some yt) (vJ:yt.k=.map kt et) (YM:ty L kt=some yk) (jf:yk.k=.int q) (KQ:ty L et=some ye)
  {N:Nat→Prop} {w:World} (ok:Bool):∃v,Cl N w (wY ye) v∧∀w':World,(lookup t (.map none) (.int q k) ok).run P w'=.ok (if ok then .tuple #[v,.bool false] else v) w':=by
 obtain⟨z,hz,XH⟩:=bD (hL et ye KQ) (N:=N) w
 refine⟨z,hz,fun w'=>?_⟩
 have h3:=Bn (P:=P) (w:=w') (k:=k) (wW (hL kt yk YM) jf) true 9999
 have h2:=Bo (P:=P) (w:=w') (k:=k) (wW (hL kt yk YM) jf) (es:=[]) (r:=none) rfl
 simp [lookup,underlying,Ba (hL t yt ht) vJ,h2,h3,XH w']
def LO (L:Zh) (h:List Ob) (t:TypeId) (x i:D) (ok:Bool):Ev:=match ty L t with
 | some ⟨.map kt et,_,_,_⟩=>match ty L kt,ty L et with
  | some ⟨.int q,_,_,_⟩,some ye=>match i with
   | .raw (.int q' k)=>match x with
    | .mref l g=>match h[l]? with
     | some o=>some (IsMap q o∧q'=q∧g=0,match JJ (vH o) k with
      | some d=>bif ok then .tup [d,.raw (.bool true)] else d
      | none=>bif ok then .tup [wY ye,.raw (.bool false)] else wY ye)
     | none=>none
    | .raw (.map none)=>some (q'=q,bif ok then .tup [wY ye,.raw (.bool false)] else wY ye)
    | _=>none
   | _=>none
  | _,_=>none
 | _=>none
theorem look_ok (hL:Zw P L) {ok:Bool} (ho:o.op=.lookup t x i ok) {p:Prop} {d:D} (h:LO L s.h t (Qq s.fr x) (Qq s.fr i) ok=some (p,d)) (hp:p):Kt P base nt o s d:=by
 intro Z pl a w r
 unfold LO at h
 split at h
 case h_2=>cases h
 rename_i kt et m1 m2 m3 ht
 split at h
 case h_2=>cases h
 rename_i q n1 n2 n3 ye YM KQ
 split at h
 case h_2=>cases h
 rename_i q' k hi
 have e2:=r.eval i
 rw[hi]at e2
 have e2:=ZD e2
 split at h
 case h_3=>cases h
 case h_2 hx=>
  simp only[Option.some.injEq,Prod.mk.injEq]at h
  obtain⟨rfl,rfl⟩:=h
  subst hp
  have e1:=r.eval x
  rw[hx]at e1
  have e1:=ZD e1
  obtain⟨v,hv,QV⟩:=QcT (k:=k) hL ht rfl YM rfl KQ (N:=free Z pl) (w:=w) ok
  cases ok with
  | false=>exact⟨v,.cl _ _ hv,fun w' hw=>by simp [execOp,ho,e1,e2,QV w']⟩
  | true=>
   refine⟨.tuple #[v,.bool false],.tup _ [v,.bool false] rfl (fun i hi=>match i,hi with
    | 0,_=>.cl _ _ hv
    | 1,_=>.cl _ _ (.raw _)),fun w' hw=>by simp [execOp,ho,e1,e2,QV w']⟩
 case h_1 l g hx=>
  split at h
  case h_2=>cases h
  rename_i ob Q1
  simp only[Option.some.injEq,Prod.mk.injEq]at h
  obtain⟨rfl,rfl⟩:=h
  obtain⟨hm,rfl,rfl⟩:=hp
  obtain⟨kd,c,es,Ja,_,_,xl,hm⟩:=hm.get
  rw[xl]
  subst hm
  obtain⟨b,Q5,e1,_,_,hb,E⟩:=LM r Ja hx Q1
  obtain⟨v,hv,QV⟩:=QcS (k:=k) hL ht rfl YM rfl KQ hb E ok
  cases hf:JJ es k with
  | some d=>
   rw[hf]at hv QV
   cases ok with
   | false=>exact⟨v,hv,fun w' hw=>by simp [execOp,ho,e1,e2,QV w' (hw b (q9 hb))]⟩
   | true=>
    refine⟨.tuple #[v,.bool true],.tup _ [v,.bool true] rfl (fun i hi=>match i,hi with
     | 0,_=>hv
     | 1,_=>.cl _ _ (.raw _)),fun w' hw=>by simp [execOp,ho,e1,e2,QV w' (hw b (q9 hb))]⟩
  | none=>
   rw[hf]at hv QV
   cases ok with
   | false=>exact⟨v,hv,fun w' hw=>by simp [execOp,ho,e1,e2,QV w' (hw b (q9 hb))]⟩
   | true=>
    refine⟨.tuple #[v,.bool false],.tup _ [v,.bool false] rfl (fun i hi=>match i,hi with
     | 0,_=>hv
     | 1,_=>.cl _ _ (.raw _)),fun w' hw=>by simp [execOp,ho,e1,e2,QV w' (hw b (q9 hb))]⟩
def LP (L:Zh) (h:List Ob) (t:TypeId) (x:D):Ev:=match ty L t with
 | some ⟨.map _ _,_,_,_⟩=>match x with
  | .mref l g=>match h[l]? with
   | some o=>some (o.kd.ty=1∧g=o.gen,.raw (.int .i64 ((o.n - 1:Nat):Int)))
   | none=>none
  | .raw (.map none)=>some (True,.raw (.int .i64 0))
  | _=>none
 | _=>none
theorem QcU (hL:Zw P L) {ZY:Array TypeId} (ho:o.op=.call ⟨.builtin .len,#[x],ZY⟩) (hty:ZY=#[t]) {p:Prop} {d:D} (h:LP L s.h t (Qq s.fr x)=some (p,d)) (hp:p):Kt P base nt o s d:=by
 subst hty
 intro Z pl a w r
 unfold LP at h
 split at h
 case h_2=>cases h
 rename_i kt et m1 m2 m3 ht
 have hu:=Ba (hL t _ ht) rfl
 have e1:=r.eval x
 split at h
 case h_3=>cases h
 case h_2 hx=>
  simp only[Option.some.injEq,Prod.mk.injEq]at h
  obtain⟨rfl,rfl⟩:=h
  rw[hx]at e1
  have e1:=ZD e1
  refine⟨.int .i64 0,.cl _ _ (.raw _),fun w' hw=>?_⟩
  rw[X6 ho]
  simp [e1,builtin,Builtin.len_,underlying,hu,goInt]
 case h_1 l g hx=>
  split at h
  case h_2=>cases h
  rename_i ob Q1
  simp only[Option.some.injEq,Prod.mk.injEq]at h
  obtain⟨rfl,rfl⟩:=h
  obtain⟨hk,rfl⟩:=hp
  rw[hx]at e1
  obtain⟨o',p,b,h1,h2,h3,h4,h5⟩:=Bb e1
  rw[Q1]at h1;cases h1
  have h5:=h5 rfl
  rw[h5]at h2
  obtain⟨Zf,kh⟩:=r.o.at_ l _ b 0 Q1 h2
  obtain⟨_,_,Q5,clock,hb,h6,_⟩:=kh.map hk
  have hv:=h3.2
  rw[hk]at hv
  refine⟨.int .i64 ((ob.n - 1:Nat):Int),.cl _ _ (.raw _),fun w' hw=>?_⟩
  rw[X6 ho]
  have Jt:w'.heap[b]? = some (.map Q5 clock):=by rw[hw b (q9 hb)];exact hb
  simp [hv,Fw,builtin,Builtin.len_,underlying,hu,getObj,yS Jt,h6,goInt]
def Dj (L:Zh) (h:List Ob) (t:TypeId):Option (Prop × List Ob × D):=match ty L t with
 | some ⟨.map kt _,_,_,_⟩=>match ty L kt with
  | some ⟨.int q,_,_,_⟩=>some (True,h++[QG q 0 []],.mref h.length 0)
  | _=>some (True,h++[QG .i64 0 []],.mref h.length 0)
 | _=>none
theorem cG (hL:Zw P L) {rz:Option Operand} (hr:rz=none∨∃k n,rz=some (.const (.int k n))∧0≤n) (ho:o.op=.makeMap t rz) {p:Prop} {h':List Ob} {d:D} (h:Dj L s.h t=some (p,h',d)):X7 P base nt o s h' d:=by
 have hm:∃q,p=True∧h'=s.h++[QG q 0 []]∧d=.mref s.h.length 0∧∃kt vt a b c,ty L t=some ⟨.map kt vt,a,b,c⟩:=by
  unfold Dj at h
  split at h
  case h_2=>cases h
  rename_i kt vt _ _ _ ht
  split at h
  all_goals
   simp only[Option.some.injEq,Prod.mk.injEq]at h
   obtain⟨rfl,rfl,rfl⟩:=h
   exact⟨_,rfl,rfl,rfl,_,_,_,_,_,ht⟩
 obtain⟨q,rfl,rfl,rfl,kt,vt,_,_,_,ht⟩:=hm
 intro Z pl a w r Jw
 have e:∀b,b<w.heap.size→(w.alloc (.map #[] 0)).heap[b]? = w.heap[b]? := fun b hb=>qs w _ b hb
 have ZX:(w.alloc (.map #[] 0)).heap[w.heap.size]? = some (.map #[] 0):=heap_alloc_new w _
 have T:Tr s.h pl w (s.h++[QG q 0 []]) (pl++[some (w.heap.size,0)]) (w.alloc (.map #[] 0)):=Tr.push r.o e _ _ (by intro b q h;simp at h;omega)
 have Q4:pl.length=s.h.length:=r.o.len
 refine⟨.map (some w.heap.size),w.alloc (.map #[] 0),pl++[some (w.heap.size,0)],.inl ?_,T,?_,?_,wZ Jw _,fun _=>e⟩
 ·rcases hr with rfl|⟨k,n,rfl,hn⟩
  ·simp [execOp,ho,makeMap]
  ·simp [execOp,ho,makeMap,Act.eval,underlying,Ba (hL t _ ht) rfl,asInt,asIntOf]
 ·exact QW.Fz r.o e _ (Nat.le_refl _) Jw (PM (kd:=.map) ZX ⟨rfl,fun i e a h=>by simp at h,fun i j a a' _ h=>by simp at h⟩ rfl)
 ·exact .mref _ _ (QG q 0 []) (some (w.heap.size,0)) w.heap.size (by simp) (by rw[← Q4];simp) ⟨by simp [QG,Km,Kd.ty],rfl⟩ (Nat.le_refl _) (fun _=>rfl)
def yT (L:Zh) (h:List Ob) (t:TypeId) (x i v:D):Option (Prop × List Ob):=match ty L t with
 | some ⟨.map kt _,_,_,_⟩=>match ty L kt with
  | some ⟨.int q,_,_,_⟩=>match x,i with
   | .mref l g,.raw (.int q' k)=>match h[l]? with
    | some o=>some (IsMap q o∧q'=q∧g=0∧o.kd.ro=false,h.set l (Ka q (clockOf o) (vH o) k v))
    | none=>none
   | _,_=>none
  | _=>none
 | _=>none
theorem cH {w:World} {b:Nat} {es:Array MapEntry} {c:Nat} (hb:w.heap[b]? = some (.map es c)) (o:Obj):XF w { w with heap:=w.heap.setIfInBounds b o }:=fun a v h=>by
 by_cases e:a.block=b
 ·simp [World.cell?,e,hb]at h
 ·rw[World.cell?_of_block (w:=w)]
  ·exact h
  ·simp [Array.getElem?_setIfInBounds,Ne.symm e]
theorem cI (hL:Zw P L) {v:Operand} (ho:o.op=.mapUpdate t x i v) {p:Prop} {h':List Ob} (h:yT L s.h t (Qq s.fr x) (Qq s.fr i) (Qq s.fr v)=some (p,h')) (hp:p):∀(Z:Nat→Prop) pl a w,Rel Z base nt s pl a w→base≤w.heap.size→∃v w' Qi,((execOp a.eval o).run P w=.ok (.value v) w'∨((execOp a.eval o).run P w=.ok .skip w'∧v=Go.undef))∧Tr s.h pl w h' Qi w'∧QW Z base h' Qi w'∧Qv Z h' Qi w' .undef v∧Below base w w'∧XF w w':=by
 unfold yT at h
 split at h
 case h_2=>cases h
 split at h
 case h_2=>cases h
 rename_i kt et _ _ _ ht _ q _ _ _ YM
 split at h
 case h_2=>cases h
 rename_i l g q' k hx hi
 split at h
 case h_2=>cases h
 rename_i ob Q1
 simp only[Option.some.injEq,Prod.mk.injEq]at h
 obtain⟨rfl,rfl⟩:=h
 obtain⟨hm,rfl,rfl,hro⟩:=hp
 obtain⟨kd,c,es,Ja,xm,ZS,xl,hm⟩:=hm.get
 rw[xl,ZS]
 have Qn:kd=.map:=by rw[xm]at hro;cases kd<;>first|rfl|(exfalso;revert Ja;decide)|(exfalso;revert hro;decide)
 subst Qn
 rw[show Km .map q' c es=QG q' c es from rfl]at hm
 subst hm
 intro Z pl a w r Jw
 have e2:=r.eval i
 rw[hi]at e2
 have e2:=ZD e2
 have e3:=r.eval v
 obtain⟨b,Q5,e1,h2,Zf,hb,E⟩:=LM (kd:=.map) r rfl hx Q1
 have Zf:=Zf rfl
 have Dl:=Ba (hL t _ ht) rfl
 have Zq:=wW (hL kt _ YM) rfl
 cases hf:JJ es k with
 | some d=>
  obtain⟨j,e,g1,g2,g3,g4,g5,_⟩:=LK hf
  obtain⟨a1,b1,b2,b3,b4,b5,b6⟩:=E.WZ g1 g2 g4
  have QV:=QcG (P:=P) (w:=w) (k:=k) Dl Zq hb E.keys b1 b2 b6 (a.eval v)
  have hm:Ka q' c es k (Qq s.fr v)=QG q' c (es.set j ⟨k,Qq s.fr v,e.b⟩):=by simp only[Ka,hf];rw[g5]
  rw[hm]
  obtain⟨w',rfl,T,O,B⟩:=LN r Q1 h2 Zf hb (c':=c) (es':=es.set j ⟨k,Qq s.fr v,e.b⟩) (ens':=Q5.modify j fun e=>{ e with key:=.int q' k,val:=a.eval v }) (fun Qi w' T=>by
   have E':=E.tr T
   have Wf:∀(i':Nat) (x:MapEntry),(Q5.modify j fun e=>{ e with key:=.int q' k,val:=a.eval v }).toList[i']? = some x→∃y,Q5.toList[i']? = some y∧x.born=y.born∧(i'≠j→x=y)∧(i'=j→x.key=.int q' k∧x.val=a.eval v):=fun i' x hx=>by
    have hx:(Q5.modify j fun e=>{ e with key:=.int q' k,val:=a.eval v })[i']? = some x:=by rw[← Array.getElem?_toList];exact hx
    rw[Array.getElem?_modify]at hx
    split at hx
    ·rename_i JV
     subst JV
     rw[b1]at hx
     simp at hx
     subst hx
     exact⟨a1,by simpa using b1,rfl,fun h=>absurd rfl h,fun _=>⟨rfl,rfl⟩⟩
    ·rename_i JV
     exact⟨x,by simpa using hx,rfl,fun _=>rfl,fun h=>absurd h.symm JV⟩
   refine⟨by have:=E.len;simp at this ⊢;exact this,fun i' e' a' Vi XL=>?_,fun i1 i2 x y FO hx hy=>?_⟩
   ·obtain⟨y,y1,y2,y3,y4⟩:=Wf i' a' XL
    by_cases JV:i'=j
    ·subst JV
     have Qd:=(List.getElem?_eq_some_iff.1 g1).1
     rw[List.getElem?_set_self Qd]at Vi
     cases Vi
     obtain⟨d1,d2⟩:=y4 rfl
     have:y=a1:=by have LQ:Q5.toList[i']? = some a1:=(by simpa using b1);rw [y1] at LQ; simpa using LQ
     subst this
     exact⟨d1,by rw[d2];exact e3.tr T,by rw[y2,b4],by rw[y2];exact b5⟩
    ·rw[List.getElem?_set_ne (Ne.symm JV)]at Vi
     rw[y3 JV]
     exact E'.at_ i' e' y Vi y1
   ·obtain⟨x',zf,Jg,_⟩:=Wf i1 x hx
    obtain⟨y',jX,ZZ,_⟩:=Wf i2 y hy
    rw[Jg,ZZ];exact E.inc i1 i2 x' y' FO zf jX)
  exact⟨Go.undef,_,pl,.inr ⟨by simp [execOp,ho,e1,e2,QV],rfl⟩,T,O,.cl _ _ (.undef _),B,cH hb _⟩
 | none=>
  obtain⟨g1,_⟩:=FN hf
  have QV:=QcH (P:=P) (w:=w) (k:=k) Dl Zq hb E.keys (E.PN g1) (a.eval v)
  have hm:Ka q' c es k (Qq s.fr v)=QG q' (c+1) (es++[⟨k,Qq s.fr v,c⟩]):=by simp only[Ka,hf]
  rw[hm]
  obtain⟨w',rfl,T,O,B⟩:=LN r Q1 h2 Zf hb (c':=c+1) (es':=es++[⟨k,Qq s.fr v,c⟩]) (ens':=Q5.push { key:=.int q' k,val:=a.eval v,born:=c }) (fun Qi w' T=>by
   have E':=E.tr T
   have hl:es.length=Q5.size:=by have:=E.len;simpa using this
   refine⟨by simp [hl],fun i' e' a' Vi XL=>?_,fun i1 i2 x y FO hx hy=>?_⟩
   ·have XL:(Q5.push { key:=.int q' k,val:=a.eval v,born:=c })[i']? = some a':=by rw[← Array.getElem?_toList];exact XL
    rw[Array.getElem?_push]at XL
    rcases VT Vi with h1|⟨h1,ZB⟩
    ·have:=(List.getElem?_eq_some_iff.1 h1).1
     rw[if_neg (by omega)]at XL
     obtain⟨k1,k2,k3,k4⟩:=E'.at_ i' e' a' h1 (by simpa using XL)
     exact⟨k1,k2,k3,by omega⟩
    ·subst ZB
     rw[if_pos (by omega)]at XL
     cases XL
     exact⟨rfl,e3.tr T,rfl,by simp⟩
   ·have hx:(Q5.push { key:=.int q' k,val:=a.eval v,born:=c })[i1]? = some x:=by rw[← Array.getElem?_toList];exact hx
    have hy:(Q5.push { key:=.int q' k,val:=a.eval v,born:=c })[i2]? = some y:=by rw[← Array.getElem?_toList];exact hy
    rw[Array.getElem?_push]at hx hy
    have JP:∀(i:Nat) (z:MapEntry),Q5[i]? = some z→z.born<c:=fun i z hz=>by
     have Qd:=(Array.getElem?_eq_some_iff.1 hz).1
     exact(E.at_ i (es[i]'(by omega)) z (List.getElem?_eq_getElem (by omega)) (by simpa using hz)).2.2.2
    split at hx
    ·split at hy
     ·omega
     ·have:=(Array.getElem?_eq_some_iff.1 hy).1;omega
    ·split at hy
     ·cases hy;exact JP i1 x hx
     ·exact E.inc i1 i2 x y FO (by simpa using hx) (by simpa using hy))
  exact⟨Go.undef,_,pl,.inr ⟨by simp [execOp,ho,e1,e2,QV],rfl⟩,T,O,.cl _ _ (.undef _),B,cH hb _⟩
theorem QcW (hL:Zw P L) {v:Operand} (ho:o.op=.mapUpdate t x i v) {p:Prop} {h':List Ob} (h:yT L s.h t (Qq s.fr x) (Qq s.fr i) (Qq s.fr v)=some (p,h')) (hp:p):X7 P base nt o s h' .undef:=fun Z pl a w r hb=>by
 obtain⟨v,w',Qi,h1,h2,h3,h4,h5,_⟩:=cI hL ho h hp Z pl a w r hb
 exact⟨v,w',Qi,h1,h2,h3,h4,h5,fun hc=>by simp [calm,ho]at hc⟩
def LR (L:Zh) (h:List Ob) (t:TypeId) (x i:D):Option (Prop × List Ob):=match ty L t with
 | some ⟨.map kt _,_,_,_⟩=>match ty L kt with
  | some ⟨.int q,_,_,_⟩=>match i with
   | .raw (.int q' k)=>match x with
    | .mref l g=>match h[l]? with
     | some o=>some (IsMap q o∧q'=q∧g=0∧o.kd.ro=false,h.set l (QG q (clockOf o) (ZQ (vH o) k)))
     | none=>none
    | .raw (.map none)=>some (q'=q,h)
    | _=>none
   | _=>none
  | _=>none
 | _=>none
theorem QcX (hL:Zw P L) {tk:TypeId} (ho:o.op=.call ⟨.builtin .delete,#[x,i],#[t,tk]⟩) {p:Prop} {h':List Ob} (h:LR L s.h t (Qq s.fr x) (Qq s.fr i)=some (p,h')) (hp:p):X7 P base nt o s h' (.tup []):=by
 unfold LR at h
 split at h
 case h_2=>cases h
 split at h
 case h_2=>cases h
 rename_i kt et _ _ _ ht _ q _ _ _ YM
 have Dl:=Ba (hL t _ ht) rfl
 have Zq:=wW (hL kt _ YM) rfl
 split at h
 case h_2=>cases h
 rename_i q' k hi
 split at h
 case h_3=>cases h
 case h_2 hx=>
  simp only[Option.some.injEq,Prod.mk.injEq]at h
  obtain⟨rfl,rfl⟩:=h
  subst hp
  intro Z pl a w r Jw
  have e2:=r.eval i
  rw[hi]at e2
  have e2:=ZD e2
  have e1:=r.eval x
  rw[hx]at e1
  have e1:=ZD e1
  have h3:=Bn (P:=P) (w:=w) (k:=k) Zq true 9999
  refine⟨.tuple #[],w,pl,.inl ?_,Tr.refl _ _ _,r.o,.tup [] [] rfl (fun i hi=>absurd hi (Nat.not_lt_zero i)),Below.refl _ _,fun _=>Ext.refl w⟩
  rw[X6 ho]
  simp [e1,e2,builtin,Builtin.delete_,underlying,Dl,h3]
 case h_1 l g hx=>
  split at h
  case h_2=>cases h
  rename_i ob Q1
  simp only[Option.some.injEq,Prod.mk.injEq]at h
  obtain⟨rfl,rfl⟩:=h
  obtain⟨hm,rfl,rfl,hro⟩:=hp
  obtain⟨kd,c,es,Ja,xm,ZS,xl,hm⟩:=hm.get
  rw[xl,ZS]
  have Qn:kd=.map:=by rw[xm]at hro;cases kd<;>first|rfl|(exfalso;revert Ja;decide)|(exfalso;revert hro;decide)
  subst Qn
  rw[show Km .map q' c es=QG q' c es from rfl]at hm
  subst hm
  intro Z pl a w r Jw
  have e2:=r.eval i
  rw[hi]at e2
  have e2:=ZD e2
  obtain⟨b,Q5,e1,h2,Zf,hb,E⟩:=LM (kd:=.map) r rfl hx Q1
  have Zf:=Zf rfl
  cases hf:JJ es k with
  | some d=>
   obtain⟨j,e,g1,g2,g3,g4,g5,g6⟩:=LK hf
   obtain⟨a1,b1,b2,b3,b4,b5,b6⟩:=E.WZ g1 g2 g4
   have QV:=QcI (P:=P) (w:=w) (k:=k) (ty:=o.type) (kt2:=tk) Dl Zq hb E.keys b1 b2 b6
   rw[g6]
   have hjs:j<Q5.size:=(Array.getElem?_eq_some_iff.1 b1).1
   obtain⟨w',rfl,T,O,B⟩:=LN r Q1 h2 Zf hb (c':=c) (es':=es.eraseIdx j) (ens':=Q5.eraseIdxIfInBounds j) (fun Qi w' T=>by
    have E':=E.tr T
    have hl:es.length=Q5.size:=by have:=E.len;simpa using this
    have hto:(Q5.eraseIdxIfInBounds j).toList=Q5.toList.eraseIdx j:=by simp [Array.eraseIdxIfInBounds,hjs,Array.toList_eraseIdx]
    rw[hto]
    refine⟨by simp [List.length_eraseIdx,hl],fun i' e' a' Vi XL=>?_,fun i1 i2 x y FO hx hy=>?_⟩
    ·rw[List.getElem?_eraseIdx]at Vi XL
     split at Vi
     ·rw[if_pos ‹_›]at XL;exact E'.at_ _ _ _ Vi XL
     ·rw[if_neg ‹_›]at XL;exact E'.at_ _ _ _ Vi XL
    ·rw[List.getElem?_eraseIdx]at hx hy
     split at hx<;>split at hy<;>exact E.inc _ _ x y (by omega) hx hy)
   refine⟨.tuple #[],_,pl,.inl ?_,T,O,.tup [] [] rfl (fun i hi=>absurd hi (Nat.not_lt_zero i)),B,fun hc=>by simp [calm,ho]at hc⟩
   rw[X6 ho]
   simp [e1,e2,builtin,QV]
  | none=>
   obtain⟨g1,_,g6⟩:=FN hf
   have QV:=QcJ (P:=P) (w:=w) (k:=k) (ty:=o.type) (kt2:=tk) Dl Zq hb E.keys (E.PN g1)
   rw[g6]
   obtain⟨w',rfl,T,O,B⟩:=LN r Q1 h2 Zf hb (c':=c) (es':=es) (ens':=Q5) (fun Qi w' T=>E.tr T)
   refine⟨.tuple #[],_,pl,.inl ?_,T,O,.tup [] [] rfl (fun i hi=>absurd hi (Nat.not_lt_zero i)),B,fun hc=>by simp [calm,ho]at hc⟩
   rw[X6 ho]
   simp [e1,e2,builtin,QV]
def yU (l c c':Nat) (seen:List Nat):Nat→List D
 | 0=>[.mref l 0]
 | 1=>[.raw (.int .i64 c)]
 | 2=>[.raw (.int .i64 c')]
 | r+3=>match seen[r]? with
  | some b=>[.raw (.int .i64 b)]
  | none=>[.undef]
def VF (l c c':Nat) (seen:List Nat):Ob:=⟨.iter,0,1,seen.length+3,yU l c c' seen⟩
def LS (L:Zh) (h:List Ob) (t:TypeId) (x:D):Option (Prop × List Ob × D):=match ty L t with
 | some ⟨.map _ _,_,_,_⟩=>match x with
  | .mref l g=>match h[l]? with
   | some o=>some (IsMap .i64 o∧g=0,h++[VF l (clockOf o) (clockOf o) []],.mref h.length 0)
   | none=>none
  | _=>none
 | _=>none
theorem cJ {Z:Nat→Prop} {h:List Ob} {pl:List Pl} {w:World} {l c c':Nat} {seen:List Nat} {b m:Nat} {sn:Array Nat} (hb:w.heap[b]? = some (.mapIter (some m) c sn c')) (hs:sn.toList=seen) (hm:Qv Z h pl w (.mref l 0) (.map (some m))):Ju Z h pl w (VF l c c' seen) b 0:=by
 subst hs
 refine Ju.bw rfl ⟨rfl,rfl,m,c,c',sn,hb,by simp [VF],fun i _=>?_,hm,.cl _ _ (.raw _),.cl _ _ (.raw _),fun i s hs=>?_⟩
 ·show (yU l c c' sn.toList i).length=1
  unfold yU;split<;>(try split)<;>rfl
 ·have hs:sn.toList[i]? = some s:=by simpa using hs
  show Qv Z h pl w (nth (yU l c c' sn.toList (i+3)) 0) _
  have:yU l c c' sn.toList (i+3)=[.raw (.int .i64 s)]:=by simp only[yU,hs]
  rw[this];exact .cl _ _ (.raw _)
theorem cK {Z:Nat→Prop} {h:List Ob} {pl:List Pl} {w:World} {l c c':Nat} {seen:List Nat} {b p:Nat} (x:Ju Z h pl w (VF l c c' seen) b p):p=0∧∃(m:Nat) (sn:Array Nat),w.heap[b]? = some (.mapIter (some m) c sn c')∧sn.toList=seen∧Qv Z h pl w (.mref l 0) (.map (some m)):=by
 obtain⟨h0,_,m,since,last,sn,h1,h2,_,h4,h5,h6,h7⟩:=x.iter rfl
 have e1:since=c:=by have:=ZD h5;simp at this;omega
 have e2:last=c':=by have:=ZD h6;simp at this;omega
 subst e1;subst e2
 refine⟨h0,m,sn,h1,?_,h4⟩
 have hl:seen.length=sn.size:=by simpa [VF] using h2
 apply List.ext_getElem?
 intro i
 by_cases hi:i<sn.size
 ·have h8:=h7 i sn[i] (Array.getElem?_eq_getElem hi)
  have e3:(VF l since last seen).row (i+3)=[.raw (.int .i64 (seen[i]'(by omega)))]:=by
   show yU l since last seen (i+3)=_
   simp only[yU,List.getElem?_eq_getElem (show i<seen.length by omega)]
  rw[e3]at h8
  have:=ZD h8
  simp at this
  rw[List.getElem?_eq_getElem (show i<sn.toList.length by simpa using hi),List.getElem?_eq_getElem (show i<seen.length by omega)]
  simp only[Array.getElem_toList,Option.some.injEq];omega
 ·rw[List.getElem?_eq_none (by simp;omega),List.getElem?_eq_none (by omega)]
theorem Qc0 (hL:Zw P L) (ho:o.op=.range t x) {p:Prop} {h':List Ob} {d:D} (h:LS L s.h t (Qq s.fr x)=some (p,h',d)) (hp:p):X7 P base nt o s h' d:=by
 unfold LS at h
 split at h
 case h_2=>cases h
 rename_i kt et _ _ _ ht
 split at h
 case h_2=>cases h
 rename_i l g hx
 split at h
 case h_2=>cases h
 rename_i ob Q1
 simp only[Option.some.injEq,Prod.mk.injEq]at h
 obtain⟨rfl,rfl,rfl⟩:=h
 obtain⟨hm,rfl⟩:=hp
 obtain⟨kd,c,es,Ja,_,ZS,_,hm⟩:=hm.get
 rw[ZS]
 subst hm
 intro Z pl a w r Jw
 obtain⟨b,Q5,e1,h2,_,hb,E⟩:=LM r Ja hx Q1
 have QV:=QcK (P:=P) (w:=w) (Ba (hL t _ ht) rfl) hb
 have e:∀b',b'<w.heap.size→(w.alloc (.mapIter (some b) c #[] c)).heap[b']? = w.heap[b']? := fun b' hb=>qs w _ b' hb
 have ZX:(w.alloc (.mapIter (some b) c #[] c)).heap[w.heap.size]? = some (.mapIter (some b) c #[] c):=heap_alloc_new w _
 have T:Tr s.h pl w (s.h++[VF l c c []]) (pl++[some (w.heap.size,0)]) (w.alloc (.mapIter (some b) c #[] c)):=Tr.push r.o e _ _ (by intro b q h;simp at h;omega)
 have Q4:pl.length=s.h.length:=r.o.len
 have hv:=r.eval x
 rw[hx,e1]at hv
 refine⟨.pointer (some ⟨w.heap.size,0,none⟩),w.alloc (.mapIter (some b) c #[] c),pl++[some (w.heap.size,0)],.inl ?_,T,?_,?_,wZ Jw _,fun _=>e⟩
 ·simp [execOp,ho,e1,QV]
 ·exact QW.Fz r.o e _ (Nat.le_refl _) Jw (cJ ZX rfl (hv.tr T))
 ·exact .mref _ _ (VF l c c []) (some (w.heap.size,0)) w.heap.size (by simp) (by rw[← Q4];simp) ⟨by simp [VF,Kd.ty],rfl⟩ (Nat.le_refl _) (fun _=>rfl)
theorem Qc1 (ho:o.op=.next x false) {Z:Nat→Prop} {pl:List Pl} {a:Act} {w:World} (r:Rel Z base nt s pl a w) (Jw:base≤w.heap.size) {li c:Nat} {es:List QM} {seen:List Nat} (hx:Qq s.fr x=.mref li 0) (WZ:s.h[li]? = some (VF l c c seen)) {kd:Kd} (Ja:kd.ty=1) (Q1:s.h[l]? = some (Km kd q c es)) :
  ((∀e∈es,e.b∈seen)∧(execOp a.eval o).run P w=.ok (.value (.tuple #[.bool false])) w) ∨
  ∃e∈es,e.b ∉ seen∧∃v w',(execOp a.eval o).run P w=.ok (.value v) w'∧Tr s.h pl w (s.h.set li (VF l c c (seen++[e.b]))) pl w'∧QW Z base (s.h.set li (VF l c c (seen++[e.b]))) pl w' ∧
   Qv Z (s.h.set li (VF l c c (seen++[e.b]))) pl w' (.tup [.raw (.bool true),.raw (.int q e.k),e.v]) v∧Below base w w':=by
 have e1:=r.eval x
 rw[hx]at e1
 obtain⟨o',p,b,h1,h2,h3,h4,h5⟩:=Bb e1
 rw[WZ]at h1;cases h1
 have h5:=h5 rfl
 rw[h5]at h2
 obtain⟨Zf,kh⟩:=r.o.at_ li _ b 0 WZ h2
 obtain⟨_,m,sn,hb,kj,FP⟩:=cK kh
 have hv:a.eval x=.pointer (some ⟨b,0,none⟩):=h3.2
 obtain⟨o2,p2,bm,k1,k2,k3,k4,k5⟩:=Bb FP
 rw[Q1]at k1;cases k1
 have k5:=k5 rfl
 rw[k5]at k2
 have k3:=k3.2
 rw[show (Km kd q c es).kd.ty=1 from Ja]at k3
 have k3:m=bm:=by simpa [Fw] using k3
 subst k3
 obtain⟨FQ,PO⟩:=r.o.at_ l _ m 0 Q1 k2
 obtain⟨_,Q5,Bp,E⟩:=LL Ja PO
 have hl:es.length=Q5.toList.length:=E.len
 have hold:∀y∈Q5.toList,y.born<c:=fun y hy=>by
  obtain⟨j,hj⟩:=List.getElem?_of_mem hy
  have Qd:=(List.getElem?_eq_some_iff.1 hj).1
  exact(E.at_ j (es[j]'(by omega)) y (List.getElem?_eq_getElem (by omega)) hj).2.2.2
 rcases run_next_at (P:=P) w o.type b m c c sn Q5 c hb Bp hold (Nat.le_refl _) with ⟨g1,g2⟩|⟨y,g1,w1,g2,g3⟩
 ·refine .inl ⟨fun e he=>?_,by simp [execOp,ho,hv,g2]⟩
  obtain⟨j,hj⟩:=List.getElem?_of_mem he
  have Qd:=(List.getElem?_eq_some_iff.1 hj).1
  obtain⟨_,_,e3,_⟩:=E.at_ j e (Q5.toList[j]'(by omega)) hj (List.getElem?_eq_getElem (by omega))
  have PQ:∀z∈Q5.toList,sn.contains z.born=true:=fun z hz=>by
   have:leftOf Q5 sn=#[]:=Array.eq_empty_of_size_eq_zero g1
   unfold leftOf at this
   rw[Array.filter_eq_empty_iff]at this
   have:=this z (by simpa using hz)
   simpa using this
  have:=PQ _ (List.getElem_mem (show j<Q5.toList.length by omega))
  rw[e3]at this
  rw[← kj]
  simpa using this
 ·obtain⟨j,hj⟩:=List.getElem?_of_mem (show y∈Q5.toList by unfold leftOf at g1;simp at g1;simpa using g1.1)
  have Qd:=(List.getElem?_eq_some_iff.1 hj).1
  obtain⟨d1,d2,d3,d4⟩:=E.at_ j (es[j]'(by omega)) y (List.getElem?_eq_getElem (by omega)) hj
  have yV:y.born ∉ sn.toList:=by unfold leftOf at g1;simp at g1;simpa using g1.2
  refine .inr ⟨es[j]'(by omega),List.getElem_mem _,by rw[← d3,← kj];exact yV,?_⟩
  rw[← d3]
  have hh:w1.heap=w.heap:=by rcases g2 with rfl|rfl<;>rfl
  generalize YH:ChangeMaps.setBlock w1 b (.mapIter (some m) c (sn.push y.born) c)=w' at g3
  have vI:=q9 hb
  have PR:w'.heap=w.heap.setIfInBounds b (.mapIter (some m) c (sn.push y.born) c):=by rw[← YH,← hh];rfl
  have e:∀k,k≠b→w'.heap[k]? = w.heap[k]? := fun k hk=>by rw[PR];simp [Array.getElem?_setIfInBounds,Ne.symm hk]
  have ZX:w'.heap[b]? = some (.mapIter (some m) c (sn.push y.born) c):=by rw[PR];simp [Array.getElem?_setIfInBounds,vI]
  have T:=Tr.FL (w':=w') r.o WZ h2 e (o':=VF l c c (seen++[y.born])) rfl rfl rfl (by rw[hb];intro c el h;cases h)
  refine⟨_,w',by simp only[execOp,ho,hv,Sem.run_bind,g3,Result.andThen_ok];rfl,T,QW.FL (hro:=rfl) r.o WZ h2 e T (cJ ZX (by rw[Array.toList_push,kj]) (FP.tr T)),?_,?_⟩
  ·rw[d1]
   exact .tup _ [.bool true,.int q (es[j]'(by omega)).k,y.val] rfl fun i hi=>match i,hi with
    | 0,_=>.cl _ _ (.raw _)
    | 1,_=>.cl _ _ (.raw _)
    | 2,_=>d2.tr T
  ·have B:Below base w w1:=by
    rcases g2 with rfl|rfl
    ·exact .refl _ _
    ·exact(Below.refl _ _).drew
   refine B.trans (FE (Zf rfl) (fun k hk=>by rw[hh];exact e k hk) (by rw[PR,hh];simp) (by rw[← YH];rfl) (by rw[← YH];rfl) (by rw[← YH];rfl))
end
end Go.Fg
namespace Go.Fg
open Go.RowKit (Below)
variable {Z:Nat→Prop}
structure Cx where
 L:Zh
 E:yQ
def zg (X:Cx) (s:St):Op→Ev
 | .move x=>some (True,Qq s.fr x)
 | .assign x=>some (True,Qq s.fr x)
 | .pick c x y=>match Qq s.fr c with
  | .raw (.bool b)=>some (True,bif b then Qq s.fr x else Qq s.fr y)
  | _=>none
 | .binOp op t x y _=>match Ld X.L op t (Qq s.fr x) (Qq s.fr y) with
  | some r=>some r
  | none=>LF X.E op t (Qq s.fr x) (Qq s.fr y)
 | .unOp u _ x=>match u,Qq s.fr x with
  | .not,.raw (.bool b)=>some (True,.raw (.bool (!b)))
  | .neg,.raw (.int k n)=>some (True,.raw (.int k (k.wrap (0 - n))))
  | .xor,.raw (.int k n)=>some (True,.raw (.int k (bits .xor k (if k.signed then -1 else k.max) n)))
  | _,_=>none
 | .convert a b x=>Lj X.L a b (Qq s.fr x)
 | .build t parts=>match Lz X.L s.fr t parts.toList with
  | some d=>some (True,d)
  | none=>none
 | .load t x=>Bd X.L s.h t (Qq s.fr x)
 | .nilCheck x=>bif (Qq s.fr x).there then some (True,Qq s.fr x) else none
 | .fieldAddr t x f=>Le X.L t f (Qq s.fr x)
 | .field t x f=>Lf X.L t f (Qq s.fr x)
 | .indexAddr t x i=>Lg X.L s.h t (Qq s.fr x) (Qq s.fr i)
 | .index t x i=>Lh X.L t (Qq s.fr x) (Qq s.fr i)
 | .extract x i=>match Qq s.fr x with
  | .tup cs=>some (i<cs.length,nth cs i)
  | _=>none
 | .slice t x lo hi mx=>match mx with
  | none=>LC X.L s.fr s.h t (Qq s.fr x) lo hi
  | some _=>none
 | .makeFunc fn first QC=>match fn,first with
  | .func f,⟨fs⟩=>some (True,.clo f fs.length ((fs++QC.toList).map (Qq s.fr)))
  | _,_=>none
 | .call ⟨.builtin b,⟨args⟩,⟨ZY⟩⟩=>match b,args,ZY with
  | .len,[x],[t]=>match Lk X.L t (Qq s.fr x) with
   | some r=>some r
   | none=>LP X.L s.h t (Qq s.fr x)
  | .max,[x,y],_=>match Qq s.fr x,Qq s.fr y with
   | .raw (.int k m),.raw (.int _ n)=>some (True,.raw (.int k (max m n)))
   | _,_=>none
  | .min,[x,y],_=>match Qq s.fr x,Qq s.fr y with
   | .raw (.int k m),.raw (.int _ n)=>some (True,.raw (.int k (min m n)))
   | _,_=>none
  | _,_,_=>none
 | .lookup t x i ok=>LO X.L s.h t (Qq s.fr x) (Qq s.fr i) ok
 | _=>none
structure W0 (P:Program) (X:Cx):Prop where
 L:Zw P X.L
 E:xj P X.E
theorem cM {P:Program} {X:Cx} (hX:W0 P X) {base nt:Nat} {s:St} {o:Oper} {p:Prop} {d:D} (h:zg X s o.op=some (p,d)) (hp:p):Kt P base nt o s d:=by
 unfold zg at h
 split at h
 case h_1 x ho=>simp only[Option.some.injEq,Prod.mk.injEq]at h;obtain⟨rfl,rfl⟩:=h;exact bC (.inl ho)
 case h_2 x ho=>simp only[Option.some.injEq,Prod.mk.injEq]at h;obtain⟨rfl,rfl⟩:=h;exact bC (.inr ho)
 case h_3 c x y ho=>
  split at h
  ·rename_i b hc
   simp only[Option.some.injEq,Prod.mk.injEq]at h;obtain⟨rfl,rfl⟩:=h;exact Qb1 ho hc
  ·cases h
 case h_4 op t x y yt ho=>
  split at h
  ·rename_i r hr
   simp only[Option.some.injEq]at h
   subst h
   exact Qb0 hX.L ho hr hp
  ·exact QcB hX.E ho h
 case h_5 u t x ho=>
  split at h
  ·rename_i b hx;simp only[Option.some.injEq,Prod.mk.injEq]at h;obtain⟨rfl,rfl⟩:=h;exact Qb9 ho rfl hx
  ·rename_i k n hx;simp only[Option.some.injEq,Prod.mk.injEq]at h;obtain⟨rfl,rfl⟩:=h;exact Qca ho rfl hx
  ·rename_i k n hx;simp only[Option.some.injEq,Prod.mk.injEq]at h;obtain⟨rfl,rfl⟩:=h;exact Qcb ho rfl hx
  ·cases h
 case h_6 a b x ho=>exact Qcd hX.L ho h
 case h_7 t parts ho=>
  split at h
  ·rename_i dd hd;simp only[Option.some.injEq,Prod.mk.injEq]at h;obtain⟨rfl,rfl⟩:=h;exact Qcw hX.L ho hd
  ·cases h
 case h_8 t x ho=>exact bG hX.L ho h hp
 case h_9 x ho=>
  obtain⟨ht,h2⟩:=YG h
  simp only[Option.some.injEq,Prod.mk.injEq]at h2;obtain⟨rfl,rfl⟩:=h2
  exact Qcc ho rfl ht
 case h_10 t x f ho=>exact Qb2 hX.L ho h hp
 case h_11 t x f ho=>exact Qb3 hX.L ho h hp
 case h_12 t x i ho=>exact Qb6 hX.L ho h hp
 case h_13 t x i ho=>exact Qb7 hX.L ho h hp
 case h_14 x i ho=>
  split at h
  ·rename_i cs hx;simp only[Option.some.injEq,Prod.mk.injEq]at h;obtain⟨rfl,rfl⟩:=h;exact Qb8 ho hx hp
  ·cases h
 case h_15 t x lo hi mx ho=>
  split at h
  ·exact QcA hX.L ho h hp
  ·cases h
 case h_16 fn first QC ho=>
  split at h
  ·simp only[Option.some.injEq,Prod.mk.injEq]at h;obtain⟨rfl,rfl⟩:=h;exact Qcg ho
  ·cases h
 case h_17 b args ZY ho=>
  split at h
  ·split at h
   ·rename_i r hr
    simp only[Option.some.injEq]at h
    subst h
    exact Ll hX.L ho hr
   ·exact QcU hX.L ho rfl h hp
  ·split at h
   ·rename_i k m k' n hx hy;simp only[Option.some.injEq,Prod.mk.injEq]at h;obtain⟨rfl,rfl⟩:=h;exact Qce ho hx hy
   ·cases h
  ·split at h
   ·rename_i k m k' n hx hy;simp only[Option.some.injEq,Prod.mk.injEq]at h;obtain⟨rfl,rfl⟩:=h;exact Qcf ho hx hy
   ·cases h
  ·cases h
 case h_18 t x i ok ho=>exact look_ok hX.L ho h hp
 case h_19=>cases h
def jg (X:Cx) (s:St):Op→Option (Prop × List Ob × D)
 | .alloc t=>match ty X.L t with
  | some y=>some (True,s.h++[⟨.one,0,(y.zero.map ZT).length,1,fun _=>y.zero.map ZT⟩],.ptr s.h.length 0 0 0)
  | none=>none
 | .box _ x=>match VV (Qq s.fr x) with
  | some cs=>some (True,s.h++[⟨.one,0,cs.length,1,fun _=>cs⟩],.ptr s.h.length 0 0 0)
  | none=>none
 | .store t a x=>match FF X.L s.h t (Qq s.fr a) (Qq s.fr x) with
  | some (p,h')=>some (p,h',.undef)
  | none=>none
 | .buildSlice t len parts=>LA X.L s.fr s.h t len parts.toList
 | .call ⟨.builtin b,⟨args⟩,⟨ZY⟩⟩=>match b,args,ZY with
  | .append,[x,y],[t,t']=>bif Nat.beq t t' then vF X.L s.h t (Qq s.fr x) (Qq s.fr y) else none
  | .delete,[x,i],[t,_]=>match LR X.L s.h t (Qq s.fr x) (Qq s.fr i) with
   | some (p,h')=>some (p,h',.tup [])
   | none=>none
  | _,_,_=>none
 | .makeMap t rz=>match rz with
  | none=>Dj X.L s.h t
  | some (.const (.int _ n))=>bif decide (0≤n) then Dj X.L s.h t else none
  | some _=>none
 | .mapUpdate t x i v=>match yT X.L s.h t (Qq s.fr x) (Qq s.fr i) (Qq s.fr v) with
  | some (p,h')=>some (p,h',.undef)
  | none=>none
 | .range t x=>LS X.L s.h t (Qq s.fr x)
 | _=>none
theorem Qc2 {L:Zh} {h:List Ob} {t:TypeId} {s x:D} {r:Prop × List Ob × D} (e:vF L h t s x=some r):s=.nil∨∃l g off len,s=.ref l g off len:=by
 unfold vF at e
 split at e
 ·split at e
  ·exact .inl rfl
  ·exact .inr ⟨_,_,_,_,rfl⟩
  ·cases e
 ·cases e
theorem cO {P:Program} {X:Cx} (hX:W0 P X) {base nt:Nat} {s:St} {o:Oper} {p:Prop} {h':List Ob} {d:D} (h:jg X s o.op=some (p,h',d)) (hp:p):X7 P base nt o s h' d:=by
 unfold jg at h
 split at h
 case h_1 t ho=>
  split at h
  ·rename_i y hy;simp only[Option.some.injEq,Prod.mk.injEq]at h;obtain⟨rfl,rfl,rfl⟩:=h;exact Qcm hX.L ho hy
  ·cases h
 case h_2 t x ho=>
  split at h
  ·rename_i cs hc;simp only[Option.some.injEq,Prod.mk.injEq]at h;obtain⟨rfl,rfl,rfl⟩:=h;exact Qcl ho hc
  ·cases h
 case h_3 t a x ho=>
  split at h
  ·rename_i p' XE hs;simp only[Option.some.injEq,Prod.mk.injEq]at h;obtain⟨rfl,rfl,rfl⟩:=h;exact Qck hX.L ho hs hp
  ·cases h
 case h_4 t len parts ho=>exact Qcx hX.L ho h hp
 case h_5 b args ZY ho=>
  split at h
  ·obtain⟨ht,h2⟩:=YG h
   have ht:=Nat.eq_of_beq_eq_true ht
   subst ht
   rcases Qc2 h2 with e|⟨l,g,off,len,e⟩
   ·rw[e]at h2;exact Qcs hX.L ho e h2 hp
   ·rw[e]at h2;exact Qct hX.L ho e h2 hp
  ·split at h
   ·rename_i p' XE hs;simp only[Option.some.injEq,Prod.mk.injEq]at h;obtain⟨rfl,rfl,rfl⟩:=h;exact QcX hX.L ho hs hp
   ·cases h
  ·cases h
 case h_6 t rz ho=>
  split at h
  ·exact cG hX.L (.inl rfl) ho h
  ·rename_i k n
   obtain⟨hn,h2⟩:=YG h
   exact cG hX.L (.inr ⟨k,n,rfl,of_decide_eq_true hn⟩) ho h2
  ·cases h
 case h_7 t x i v ho=>
  split at h
  ·rename_i p' XE hs;simp only[Option.some.injEq,Prod.mk.injEq]at h;obtain⟨rfl,rfl,rfl⟩:=h;exact QcW hX.L ho hs hp
  ·cases h
 case h_8 t x ho=>exact Qc0 hX.L ho h hp
 case h_9=>cases h
abbrev G:=Option (Option Nat × Bool)
def guardOf (ops:Array Oper) (o:Oper):G:=match o.guard with
 | none=>none
 | some (j,b)=>some ((ops[j]?).bind (·.dst),b)
def strip (o : Oper) : Oper := ⟨o.dst, o.op, o.type, "", #[], none⟩
theorem Qc3 {P:Program} {o:Oper} {a:Act} {w:World} {K:Act→World→Prop} {Q:Exit→Act→World→Prop}:(strip o).wp P a w K Q=o.wp P a w K Q:=rfl
def km (ops:Array Oper):List (Oper × G):=ops.toList.map fun o=>(strip o,guardOf ops o)
def Dm (tmps:Array Value) (t:Nat):Option Bool:=match tmps[t]? with
 | some (.bool b)=>some b
 | _=>none
def Vj (g:G) (tmps:Array Value):Bool:=match g with
 | none=>true
 | some (none,_)=>false
 | some (some t,b)=>Dm tmps t==some b
theorem Dn (ops:Array Oper) (o:Oper) (tmps:Array Value):Region.wanted o (yielded ops tmps)=Vj (guardOf ops o) tmps:=by
 unfold Region.wanted guardOf Vj
 cases hg:o.guard with
 | none=>rfl
 | some jb=>
  obtain⟨j,b⟩:=jb
  dsimp only
  cases hd:(ops[j]?).bind (·.dst) with
  | none=>simp [yielded,hd]
  | some t=>
   simp only[yielded,hd,Option.bind_some,Dm]
   cases ht:tmps[t]? with
   | none=>rfl
   | some v=>cases v<;>rfl
def WA (P:Program) (Q:Exit→Act→World→Prop):List (Oper × G)→Act→World→Prop
 | [],a,w=>Q .normal a w
 | (o,g)::r,a,w=>if Vj g a.tmps=true then o.wp P a w (WA P Q r) Q else WA P Q r (a.put o.dst Go.undef) w
theorem PS {P:Program} {ops:Array Oper} {Q:Exit→Act→World→Prop}:∀(n i:Nat) (a:Act) (w:World),i+n=ops.size→WA P Q ((km ops).drop i) a w→wpOps P ops Q (List.range' i n) a w
 | 0,i,a,w,hi,h=>by
  have:(km ops).drop i=[]:=List.drop_eq_nil_of_le (by simp [km];omega)
  rw[this]at h
  exact h
 | n+1,i,a,w,hi,h=>by
  have Qd:i<ops.size:=by omega
  have hd:(km ops).drop i=(strip ops[i],guardOf ops ops[i])::(km ops).drop (i+1):=by
   rw[List.drop_eq_getElem_cons (by simp [km];omega)]
   simp [km]
  rw[hd]at h
  rw[List.range'_succ]
  simp only[wpOps,Array.getElem?_eq_getElem Qd,Dn]
  simp only[WA]at h
  split at h
  ·rename_i hw
   rw[if_pos hw]
   refine .inl ?_
   have mono:∀(K K':Act→World→Prop),(∀a w,K a w→K' a w)→ops[i].wp P a w K Q→ops[i].wp P a w K' Q:=by
    intro K K' hk hh
    unfold Oper.wp at *
    generalize (execOp a.eval ops[i]).run P w=r at *
    cases r with
    | ok x w'=>
     cases x<;>simp only[Oper.upon]at hh ⊢<;>first|exact hk _ _ hh|exact hh|skip
     ·exact hh.mono fun e A9 he=>by cases e<;>first|exact hk _ _ he|exact he
     ·exact hh.mono fun v A9 he=>hk _ _ he
    | halt x w'=>cases x<;>exact hh
   rw[Qc3]at h
   exact mono _ _ (fun a w=>PS n (i+1) a w (by omega)) h
  ·rename_i hw
   rw[if_neg hw]
   exact PS n (i+1) _ w (by omega) h
theorem Qc4 {P:Program} {id:Nat} {ops:Array Oper} {Q:Exit→Act→World→Prop} {a:Act} {w:World} (h:WA P Q (km ops) a w):(Code.region id ops false).wp P Q a w:=
 wp_region (by rw[List.range_eq_range'];exact PS ops.size 0 a w (by omega) (by simpa using h))
structure Start where
 w:World
 F:List Ob
 pl:List Pl
structure Bq (Z:Nat→Prop) (w0:Start) (pl:List Pl) (w:World):Prop where
 new:∀b,w.heap.size≤b→Z b
 own:∀(l b q:Nat),pl[l]? = some (some (b,q))→w0.w.heap.size≤b→Z b
theorem Bq.step {Z:Nat→Prop} {w0:Start} {h h':List Ob} {pl Qi:List Pl} {w w':World} (S:Bq Z w0 pl w) (T:Tr h pl w h' Qi w') (hs:w.heap.size≤w'.heap.size):Bq Z w0 Qi w' where
 new:=fun b hb=>S.new b (by omega)
 own:=fun l b q e h0=>by
  rcases Nat.lt_or_ge b w.heap.size with Qd|xn
  ·by_cases ha:Vh pl b
   ·exact absurd e ((T.JP b ha Qd).1 l q)
   ·obtain⟨l1,h1⟩:=Classical.not_forall.1 ha
    obtain⟨q1,h2⟩:=Classical.not_forall.1 h1
    exact S.own l1 b q1 (Classical.not_not.1 h2) h0
  ·exact S.new b xn
theorem Bq.start {Z:Nat→Prop} {base:Nat} {w0:Start} {h:List Ob} {pl:List Pl} (R:QW Z base h pl w0.w) (hz:∀b,w0.w.heap.size≤b→Z b):Bq Z w0 pl w0.w where
 new:=hz
 own:=fun l b q e h0=>absurd (R.lt e).1 (by omega)
def JB (Z:Nat→Prop) (base:Nat) (w0:Start) (h:List Ob) (pl:List Pl) (w:World):Prop:=Below base w0.w w∧Tr w0.F w0.pl w0.w h pl w∧Bq Z w0 pl w
theorem JB.step {Z:Nat→Prop} {base:Nat} {w0:Start} {h h':List Ob} {pl Qi:List Pl} {w w':World} (S:JB Z base w0 h pl w) (T:Tr h pl w h' Qi w') (b:Below base w w'):JB Z base w0 h' Qi w':=⟨S.1.trans b,S.2.1.trans T,S.2.2.step T b.size⟩
section
variable (P:Program) (base nt:Nat) (w0:Start)
def FR (_:Start) (_:Nat→Prop):Prop:=True
def lift (Z:Nat→Prop) (Q:Exit→St→Prop) (e:Exit) (a:Act) (w:World):Prop:=∃s pl,Q e s∧Rel Z base nt s pl a w∧JB Z base w0 s.h pl w
def A (c:Code) (Q:Exit→St→Prop) (s:St):Prop:=∀(Z:Nat→Prop),FR w0 Z→∀pl a w,Rel Z base nt s pl a w→JB Z base w0 s.h pl w→c.wp P (lift base nt w0 Z Q) a w
def AG (l:List (Oper × G)) (Q:Exit→St→Prop) (s:St):Prop:=∀(Z:Nat→Prop),FR w0 Z→∀pl a w,Rel Z base nt s pl a w→JB Z base w0 s.h pl w→WA P (lift base nt w0 Z Q) l a w
end
inductive Item where
 | code (c:Code)
 | ops (l:List (Oper × G))
 | inBlock (id:Nat)
 | inScope
def Qs (P:Program) (base nt:Nat) (w0:Start) (Q:Exit→St→Prop):List Item→Exit→St→Prop
 | [],e,s=>Q e s
 | .code c::k,.normal,s=>A P base nt w0 c (Qs P base nt w0 Q k) s
 | .code _::k,e,s=>Qs P base nt w0 Q k e s
 | .ops l::k,.normal,s=>AG P base nt w0 l (Qs P base nt w0 Q k) s
 | .ops _::k,e,s=>Qs P base nt w0 Q k e s
 | .inBlock id::k,.exit j,s=>if j=id then Qs P base nt w0 Q k .normal s else Qs P base nt w0 Q k (.exit j) s
 | .inBlock _::k,e,s=>Qs P base nt w0 Q k e s
 | .inScope::_,.goto _,_=>False
 | .inScope::k,e,s=>Qs P base nt w0 Q k e s
inductive Tree where
 | done (e:Exit) (s:St)
 | stop (k:List Item) (s:St)
 | vc (p:Prop) (t:Tree)
 | ite (b:Bool) (t e:Tree)
 | fail
def Tree.holds (P:Program) (base nt:Nat) (w0:Start) (Q:Exit→St→Prop):Tree→Prop
 | .done e s=>Q e s
 | .stop k s=>Qs P base nt w0 Q k .normal s
 | .vc p t=>p∧t.holds P base nt w0 Q
 | .ite b t e=>(b=true→t.holds P base nt w0 Q)∧(b=false→e.holds P base nt w0 Q)
 | .fail=>False
def XM (id:Nat):List Item→Option (List Item)
 | []=>none
 | .inBlock j::k=>bif Nat.beq id j then some k else XM id k
 | _::k=>XM id k
def Ze (fr:List (Nat × D)) (t:Option Nat) (d:D):List (Nat × D):=match t with
 | none=>fr
 | some t=>put fr t d
def Zo (nt:Nat):Option Nat→Bool
 | none=>true
 | some t=>Nat.blt t nt
def xo:Bool→Bool→Bool
 | true,x=>x
 | false,x=>!x
theorem cP (b x:Bool):xo b x=(x==b):=by cases b<;>cases x<;>rfl
def exec (X:Cx) (nt:Nat):Nat→List Item→St→Tree
 | 0,k,s=>.stop k s
 | _+1,[],s=>.done .normal s
 | n+1,.inBlock _::k,s=>exec X nt n k s
 | n+1,.inScope::k,s=>exec X nt n k s
 | n+1,.code c::k,s=>match c with
  | .skip=>exec X nt n k s
  | .label _=>exec X nt n k s
  | .seq a b=>exec X nt n (.code a::.code b::k) s
  | .cond c a b=>match Qq s.fr c with
   | .raw (.bool x)=>.ite x (exec X nt n (.code a::k) s) (exec X nt n (.code b::k) s)
   | _=>.fail
  | .block id c=>exec X nt n (.code c::.inBlock id::k) s
  | .scope c=>exec X nt n (.code c::.inScope::k) s
  | .exit id=>match XM id k with
   | some k'=>exec X nt n k' s
   | none=>.done (.exit id) s
  | .ret=>.done .ret s
  | .region id ops dr=>bif dr then .stop (.code (.region id ops dr)::k) s else exec X nt n (.ops (km ops)::k) s
  | c=>.stop (.code c::k) s
 | n+1,.ops []::k,s=>exec X nt n k s
 | n+1,.ops ((o,g)::r)::k,s=>match g with
  | none=>match zg X s o.op with
   | some (p,d)=>bif Zo nt o.dst then .vc p (exec X nt n (.ops r::k) ⟨Ze s.fr o.dst d,s.h⟩) else .fail
   | none=>match jg X s o.op with
    | some (p,h',d)=>bif Zo nt o.dst then .vc p (exec X nt n (.ops r::k) ⟨Ze s.fr o.dst d,h'⟩) else .fail
    | none=>.stop (.ops ((o,none)::r)::k) s
  | some (none,_)=>bif Zo nt o.dst then exec X nt n (.ops r::k) ⟨Ze s.fr o.dst (.raw Go.undef),s.h⟩ else .fail
  | some (some t,b)=>match get s.fr t with
   | .raw (.bool x)=>.ite (xo b x) (exec X nt n (.ops ((o,none)::r)::k) ⟨put s.fr t (.raw (.bool b)),s.h⟩)
     (bif Zo nt o.dst then exec X nt n (.ops r::k) ⟨Ze (put s.fr t (.raw (.bool (!b)))) o.dst (.raw Go.undef),s.h⟩ else .fail)
   | .raw (.tuple _)=>bif Zo nt o.dst then exec X nt n (.ops r::k) ⟨Ze s.fr o.dst (.raw Go.undef),s.h⟩ else .fail
   | _=>.fail
section
variable {P:Program} {base nt:Nat} {w0:Start} {Q:Exit→St→Prop}
theorem A.mono {c:Code} {Q Q':Exit→St→Prop} {s:St} (h:A P base nt w0 c Q s) (hq:∀e s,Q e s→Q' e s):A P base nt w0 c Q' s:=
 fun Z z pl a w r b=>wp_mono (h Z z pl a w r b) fun _ _ _ ⟨s',Qi,h1,h2,h3⟩=>⟨s',Qi,hq _ _ h1,h2,h3⟩
theorem Qc5 {x y:Code} {s:St} (h:A P base nt w0 x (fun e s'=>match e with | .normal=>A P base nt w0 y Q s'|e=>Q e s') s):A P base nt w0 (.seq x y) Q s:=by
 intro Z z pl a w r b
 refine wp_seq (wp_mono (h Z z pl a w r b) fun e a' w' hh=>?_)
 obtain⟨s',Qi,h1,h2,h3⟩:=hh
 cases e with
 | normal=>exact h1 Z z Qi a' w' h2 h3
 | exit id=>exact⟨s',Qi,h1,h2,h3⟩
 | goto l=>exact⟨s',Qi,h1,h2,h3⟩
 | ret=>exact⟨s',Qi,h1,h2,h3⟩
 | panic ch=>exact⟨s',Qi,h1,h2,h3⟩
 | outgrown=>exact⟨s',Qi,h1,h2,h3⟩
theorem Qc6 {id:Nat} {c:Code} {s:St} (h:A P base nt w0 c (fun e s'=>match e with | .exit j=>if j=id then Q .normal s' else Q (.exit j) s'|e=>Q e s') s):A P base nt w0 (.block id c) Q s:=by
 intro Z z pl a w r b
 refine wp_block (wp_mono (h Z z pl a w r b) fun e a' w' hh=>?_)
 obtain⟨s',Qi,h1,h2,h3⟩:=hh
 cases e with
 | exit j=>
  simp only[Exit.inBlock]
  dsimp only at h1
  split
  ·rename_i hj;rw[if_pos hj]at h1;exact⟨s',Qi,h1,h2,h3⟩
  ·rename_i hj;rw[if_neg hj]at h1;exact⟨s',Qi,h1,h2,h3⟩
 | normal=>exact⟨s',Qi,h1,h2,h3⟩
 | goto l=>exact⟨s',Qi,h1,h2,h3⟩
 | ret=>exact⟨s',Qi,h1,h2,h3⟩
 | panic ch=>exact⟨s',Qi,h1,h2,h3⟩
 | outgrown=>exact⟨s',Qi,h1,h2,h3⟩
theorem Qc7 {c:Code} {s:St} (h:A P base nt w0 c (fun e s'=>match e with | .goto _=>False|e=>Q e s') s):A P base nt w0 (.scope c) Q s:=by
 intro Z z pl a w r b
 refine wp_scope_straight (wp_mono (h Z z pl a w r b) fun e a' w' hh=>?_)
 obtain⟨s',Qi,h1,h2,h3⟩:=hh
 cases e with
 | goto l=>exact h1.elim
 | normal=>exact⟨s',Qi,h1,h2,h3⟩
 | exit j=>exact⟨s',Qi,h1,h2,h3⟩
 | ret=>exact⟨s',Qi,h1,h2,h3⟩
 | panic ch=>exact⟨s',Qi,h1,h2,h3⟩
 | outgrown=>exact⟨s',Qi,h1,h2,h3⟩
theorem Qc8 {c:Code} {k:List Item} {s:St} (h:Qs P base nt w0 Q (.code c::.inScope::k) .normal s):Qs P base nt w0 Q (.code (.scope c)::k) .normal s:=by
 simp only[Qs]at h ⊢
 refine Qc7 (h.mono fun e s' he=>?_)
 cases e<;>exact he
theorem Wg {a b:Code} {k:List Item} {s:St} (h:Qs P base nt w0 Q (.code a::.code b::k) .normal s):Qs P base nt w0 Q (.code (.seq a b)::k) .normal s:=by
 simp only[Qs]at h ⊢
 refine Qc5 (h.mono fun e s' he=>?_)
 cases e<;>exact he
theorem Qc9 {id:Nat} {c:Code} {k:List Item} {s:St} (h:Qs P base nt w0 Q (.code c::.inBlock id::k) .normal s):Qs P base nt w0 Q (.code (.block id c)::k) .normal s:=by
 simp only[Qs]at h ⊢
 refine Qc6 (h.mono fun e s' he=>?_)
 cases e<;>exact he
theorem Qda {c:Operand} {x y:Code} {k:List Item} {s:St} {t:Bool} (hc:Qq s.fr c=.raw (.bool t)) (h1:t=true→Qs P base nt w0 Q (.code x::k) .normal s) (h2:t=false→Qs P base nt w0 Q (.code y::k) .normal s) :
  Qs P base nt w0 Q (.code (.cond c x y)::k) .normal s:=by
 simp only[Qs]at h1 h2 ⊢
 intro Z z pl a w r b
 have he:=r.eval c
 rw[hc]at he
 have:=ZD he
 cases t
 ·exact wp_cond_false this (h2 rfl Z z pl a w r b)
 ·exact wp_cond_true this (h1 rfl Z z pl a w r b)
theorem FT {id:Nat}:∀{k k':List Item} {s:St},XM id k=some k'→Qs P base nt w0 Q k' .normal s→Qs P base nt w0 Q k (.exit id) s
 | [],k',s,h,_=>by simp [XM]at h
 | .code c::k,k',s,h,hk=>by simp only[XM]at h;simp only[Qs];exact FT h hk
 | .ops c::k,k',s,h,hk=>by simp only[XM]at h;simp only[Qs];exact FT h hk
 | .inScope::k,k',s,h,hk=>by simp only[XM]at h;simp only[Qs];exact FT h hk
 | .inBlock j::k,k',s,h,hk=>by
  simp only[XM]at h
  simp only[Qs]
  by_cases hj:id=j
  ·subst hj
   simp at h
   subst h
   rw[if_pos rfl];exact hk
  ·have:Nat.beq id j=false:=by rw[← Bool.not_eq_true,Nat.beq_eq];exact hj
   rw[this]at h
   rw[if_neg hj]
   exact FT h hk
theorem FU {id:Nat}:∀{k:List Item} {s:St},XM id k=none→Q (.exit id) s→Qs P base nt w0 Q k (.exit id) s
 | [],s,_,hq=>hq
 | .code c::k,s,h,hq=>by simp only[XM]at h;simp only[Qs];exact FU h hq
 | .ops c::k,s,h,hq=>by simp only[XM]at h;simp only[Qs];exact FU h hq
 | .inScope::k,s,h,hq=>by simp only[XM]at h;simp only[Qs];exact FU h hq
 | .inBlock j::k,s,h,hq=>by
  simp only[XM]at h
  simp only[Qs]
  by_cases hj:id=j
  ·subst hj;simp at h
  ·have:Nat.beq id j=false:=by rw[← Bool.not_eq_true,Nat.beq_eq];exact hj
   rw[this]at h
   rw[if_neg hj]
   exact FU h hq
theorem FV:∀{k:List Item} {s:St},Q .ret s→Qs P base nt w0 Q k .ret s
 | [],_,hq=>hq
 | .code _::_,_,hq=>by simp only[Qs];exact FV hq
 | .ops _::_,_,hq=>by simp only[Qs];exact FV hq
 | .inBlock _::_,_,hq=>by simp only[Qs];exact FV hq
 | .inScope::_,_,hq=>by simp only[Qs];exact FV hq
theorem YN {t:Nat} (h:Zo nt (some t)=true):t<nt:=by simpa [Zo,Nat.blt_eq] using h
theorem Rel.skip {s:St} {pl:List Pl} {a:Act} {w:World} (r:Rel Z base nt s pl a w) {t:Option Nat} (ht:Zo nt t=true):Rel Z base nt ⟨Ze s.fr t (.raw Go.undef),s.h⟩ pl (a.put t Go.undef) w:=by
 cases t with
 | none=>exact r
 | some t=>exact r.to (Tr.ext r.o fun _ _=>rfl) r.o (YN ht) (.cl _ _ (.raw _))
theorem PT {o:Oper} {rest:List (Oper × G)} {s:St} {d:D} (h:Kt P base nt o s d) (ht:Zo nt o.dst=true) (hk:AG P base nt w0 rest Q ⟨Ze s.fr o.dst d,s.h⟩):AG P base nt w0 ((o,none)::rest) Q s:=by
 intro Z z pl a w r b
 obtain⟨v,hv,QV⟩:=h Z pl a w r
 simp only[WA,Vj,if_true]
 unfold Oper.wp
 rw[QV w fun _ _=>rfl]
 simp only[Oper.upon_value]
 refine hk Z z pl _ w ?_ b
 cases hd:o.dst with
 | none=>exact r
 | some t=>rw[hd]at ht;exact r.to (Tr.ext r.o fun _ _=>rfl) r.o (YN ht) hv
theorem LU (QJ:base≤w0.w.heap.size) {o:Oper} {rest:List (Oper × G)} {s:St} {h':List Ob} {d:D} (h:X7 P base nt o s h' d) (ht:Zo nt o.dst=true) (hk:AG P base nt w0 rest Q ⟨Ze s.fr o.dst d,h'⟩):AG P base nt w0 ((o,none)::rest) Q s:=by
 intro Z z pl a w r b
 obtain⟨v,w',Qi,QV,hT,hO,hv,hb,_⟩:=h Z pl a w r (Nat.le_trans QJ b.1.size)
 have fin:∀u,u=v→Rel Z base nt ⟨Ze s.fr o.dst d,h'⟩ Qi (a.put o.dst u) w':=by
  rintro u rfl
  cases hd:o.dst with
  | none=>exact r.zY hT hO u
  | some t=>rw[hd]at ht;exact r.to hT hO (YN ht) hv
 simp only[WA,Vj,if_true]
 unfold Oper.wp
 rcases QV with QV|⟨QV,hu⟩
 ·rw[QV]
  simp only[Oper.upon_value]
  exact hk Z z Qi _ w' (fin v rfl) (b.step hT hb)
 ·rw[QV]
  simp only[Oper.upon_skip]
  exact hk Z z Qi _ w' (fin _ hu.symm) (b.step hT hb)
theorem PU {tmps:Array Value} {t:Nat} {b:Bool} (h:tmps.getD t Go.undef=.bool b):Dm tmps t=some b:=by
 unfold Dm
 rw[Array.getD_eq_getD_getElem?]at h
 cases hh:tmps[t]? with
 | none=>rw[hh]at h;simp [Go.undef]at h
 | some v=>rw[hh]at h;simp at h;rw[h]
theorem PV {tmps:Array Value} {t:Nat} {vs:Array Value} (h:tmps.getD t Go.undef=.tuple vs):Dm tmps t=none:=by
 unfold Dm
 rw[Array.getD_eq_getD_getElem?]at h
 cases hh:tmps[t]? with
 | none=>rfl
 | some v=>rw[hh]at h;simp at h;rw[h]
theorem Rel.tell {s:St} {pl:List Pl} {a:Act} {w:World} (r:Rel Z base nt s pl a w) {t:Nat} {d:D} (hd:Qv Z s.h pl w d (a.tmps.getD t Go.undef)):Rel Z base nt ⟨put s.fr t d,s.h⟩ pl a w:=
 ⟨r.nt,r.defers,fun u=>by
  rw[yB]
  by_cases h:u=t
  ·subst h;rw[if_pos rfl];exact hd
  ·rw[if_neg h];exact r.fr u,r.o⟩
theorem Qdb {o:Oper} {rest:List (Oper × G)} {s:St} {t:Nat} {b x:Bool} (hx:get s.fr t=.raw (.bool x)) (ht:Zo nt o.dst=true∨x=b)
  (h1:x=b→AG P base nt w0 ((o,none)::rest) Q ⟨put s.fr t (.raw (.bool b)),s.h⟩) (h2:x=(!b)→AG P base nt w0 rest Q ⟨Ze (put s.fr t (.raw (.bool (!b)))) o.dst (.raw Go.undef),s.h⟩):AG P base nt w0 ((o,some (some t,b))::rest) Q s:=by
 intro Z z pl a w r bb
 have hr:=r.fr t
 rw[hx]at hr
 have hv:=ZD hr
 have hb:=PU hv
 simp only[WA,Vj,hb]
 by_cases vK:x=b
 ·have:=h1 vK Z z pl a w (r.tell (by rw[hv,vK];exact .cl _ _ (.raw _))) bb
  simp only[WA,Vj,if_true]at this
  rw[if_pos (by simp [vK])]
  exact this
 ·have yW:x=(!b):=by cases x<;>cases b<;>simp_all
  rw[if_neg (by simp [vK])]
  have r2:Rel Z base nt ⟨put s.fr t (.raw (.bool (!b))),s.h⟩ pl a w:=r.tell (by rw[hv,yW];exact .cl _ _ (.raw _))
  exact h2 yW Z z pl _ w (r2.skip (ht.resolve_right vK)) bb
theorem cQ {o:Oper} {rest:List (Oper × G)} {s:St} {g:Option Nat × Bool} (hg:g.1=none∨∃t vs,g.1=some t∧get s.fr t=.raw (.tuple vs)) (ht:Zo nt o.dst=true) (h:AG P base nt w0 rest Q ⟨Ze s.fr o.dst (.raw Go.undef),s.h⟩):AG P base nt w0 ((o,some g)::rest) Q s:=by
 intro Z z pl a w r bb
 obtain⟨g1,b⟩:=g
 have:Vj (some (g1,b)) a.tmps=false:=by
  rcases hg with rfl|⟨t,vs,rfl,hx⟩
  ·rfl
  ·have hr:=r.fr t
   rw[hx]at hr
   simp [Vj,PV (ZD hr)]
 simp only[WA,this,Bool.false_eq_true,if_false]
 exact h Z z pl _ w (r.skip ht) bb
theorem Yc {X:Cx} (hX:W0 P X) (QJ:base≤w0.w.heap.size):∀(n:Nat) (k:List Item) (s:St),(exec X nt n k s).holds P base nt w0 Q→Qs P base nt w0 Q k .normal s
 | 0,k,s,h=>by cases k<;>exact h
 | n+1,[],s,h=>h
 | n+1,.inBlock id::k,s,h=>by
  simp only[exec]at h
  simp only[Qs]
  exact Yc hX QJ n k s h
 | n+1,.inScope::k,s,h=>by
  simp only[exec]at h
  simp only[Qs]
  exact Yc hX QJ n k s h
 | n+1,.code c::k,s,h=>by
  cases c with
  | skip=>simp only[exec]at h;have:=Yc hX QJ n k s h;simp only[Qs];exact fun Z z pl a w r b=>wp_skip ⟨s,pl,this,r,b⟩
  | label l=>simp only[exec]at h;have:=Yc hX QJ n k s h;simp only[Qs];exact fun Z z pl a w r b=>wp_label ⟨s,pl,this,r,b⟩
  | seq x y=>simp only[exec]at h;exact Wg (Yc hX QJ n _ s h)
  | block id c=>simp only[exec]at h;exact Qc9 (Yc hX QJ n _ s h)
  | cond c x y=>
   simp only[exec]at h
   split at h
   ·rename_i b hb
    exact Qda hb (fun e=>Yc hX QJ n _ s (h.1 e)) (fun e=>Yc hX QJ n _ s (h.2 e))
   ·exact h.elim
  | exit id=>
   simp only[exec]at h
   simp only[Qs]
   split at h
   ·rename_i k' hk
    have:=FT hk (Yc hX QJ n k' s h)
    exact fun Z z pl a w r b=>wp_exit ⟨s,pl,this,r,b⟩
   ·rename_i hk
    have:=FU (P:=P) (base:=base) (nt:=nt) (w0:=w0) hk h
    exact fun Z z pl a w r b=>wp_exit ⟨s,pl,this,r,b⟩
  | ret=>
   simp only[exec]at h
   simp only[Qs]
   exact fun Z z pl a w r b=>wp_ret ⟨s,pl,FV h,r,b⟩
  | region id ops dr=>
   simp only[exec]at h
   cases dr
   ·have:=Yc hX QJ n _ s h
    simp only[Qs]at this ⊢
    exact fun Z z pl a w r b=>Qc4 (this Z z pl a w r b)
   ·exact h
  | loop c=>exact h
  | rangeFunc f ps a b=>exact h
  | scope b=>simp only[exec]at h;exact Qc8 (Yc hX QJ n _ s h)
  | goto l=>exact h
  | refuse w=>exact h
 | n+1,.ops []::k,s,h=>by
  simp only[exec]at h
  simp only[Qs]
  have:=Yc hX QJ n k s h
  exact fun Z z pl a w r b=>⟨s,pl,this,r,b⟩
 | n+1,.ops ((o,g)::r)::k,s,h=>by
  have pr:∀s',Zo nt o.dst=true∨True→(exec X nt n (.ops r::k) s').holds P base nt w0 Q→AG P base nt w0 r (Qs P base nt w0 Q k) s':=fun s' _ hh=>by
   have:=Yc hX QJ n (.ops r::k) s' hh
   simpa only [Qs] using this
  cases g with
  | none=>
   simp only[exec]at h
   simp only[Qs]
   split at h
   ·rename_i p d hp
    cases ht:Zo nt o.dst
    ·rw[ht]at h;exact h.elim
    ·rw[ht]at h
     exact PT (cM hX hp h.1) ht (pr _ (.inl ht) h.2)
   ·split at h
    ·rename_i p h' d hp
     cases ht:Zo nt o.dst
     ·rw[ht]at h;exact h.elim
     ·rw[ht]at h
      exact LU QJ (cO hX hp h.1) ht (pr _ (.inl ht) h.2)
    ·simpa only [Tree.holds,Qs] using h
  | some g=>
   obtain⟨g1,b⟩:=g
   cases g1 with
   | none=>
    simp only[exec]at h
    simp only[Qs]
    cases ht:Zo nt o.dst
    ·rw[ht]at h;exact h.elim
    ·rw[ht]at h
     exact cQ (.inl rfl) ht (pr _ (.inl ht) h)
   | some t=>
    simp only[exec]at h
    simp only[Qs]
    split at h
    ·rename_i x hx
     simp only[Tree.holds,cP,beq_iff_eq,beq_eq_false_iff_ne,ne_eq]at h
     have h3:=fun e=>Yc hX QJ n _ _ (h.1 e)
     simp only[Qs]at h3
     refine Qdb hx ?_ h3 fun e=>?_
     ·by_cases vK:x=b
      ·exact .inr vK
      ·have:=h.2 vK
       cases ht:Zo nt o.dst
       ·rw[ht]at this;exact this.elim
       ·exact .inl rfl
     ·have:=h.2 (by rw[e];cases b<;>simp)
      cases ht:Zo nt o.dst
      ·rw[ht]at this;exact this.elim
      ·rw[ht]at this;exact pr _ (.inl ht) this
    ·rename_i vs hx
     cases ht:Zo nt o.dst
     ·rw[ht]at h;exact h.elim
     ·rw[ht]at h
      exact cQ (.inr ⟨t,_,rfl,hx⟩) ht (pr _ (.inl ht) h)
    ·exact h.elim
end
end Go.Fg
