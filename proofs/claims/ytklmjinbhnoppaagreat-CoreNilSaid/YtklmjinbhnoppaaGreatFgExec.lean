/- Contracts and laws on the way to the statement. No conditions. -/
import Derived.WalkKit
import Derived.WalkLawsBesides
import Derived.WalkSpells
import Derived.ChangeKeysEq
import Derived.Maps.RangeRun
import Derived.Scope
set_option maxRecDepth 100000
set_option maxHeartbeats 16000000
set_option linter.unusedVariables false
set_option linter.unusedSimpArgs false
set_option linter.unusedSectionVars false
namespace Go.Fg
open Go.RowKit (Below)
inductive D where
 | raw (v:Value)
 | nil
 | undef
 | imm (sz n:Nat) (row:Nat→List D)
 | ip (cells:List D)
 | ref (l g off len:Nat)
 | ptr (l g i j:Nat)
 | mref (l g:Nat)
 | clo (f:FuncId) (first:Nat) (QB:List D)
 | agg (cs:List D)
 | tup (cs:List D)
def nth (cs:List D) (i:Nat):D:=cs.getD i .undef
def QJ (vs:List Value) (i:Nat):Value:=vs.getD i Go.undef
inductive Kd where
 | one
 | arr
 | map
 | iter
 | Ku
 | xC
 | Eh
 | T3
def Kd.yZ:Kd→Bool
 | .one=>true
 | .Ku=>true
 | _=>false
def Kd.ty:Kd→Nat
 | .one=>0
 | .arr=>0
 | .map=>1
 | .iter=>2
 | .Ku=>0
 | .xC=>0
 | .Eh=>1
 | .T3=>2
def Kd.ro:Kd→Bool
 | .one=>false
 | .arr=>false
 | .map=>false
 | .iter=>false
 | _=>true
def Kd.toRo:Kd→Kd
 | .one=>.Ku
 | .arr=>.xC
 | .map=>.Eh
 | .iter=>.T3
 | k=>k
theorem Kd.toRo_ty (k:Kd):k.toRo.ty=k.ty:=by cases k <;> rfl
theorem Kd.toRo_ro (k:Kd):k.toRo.ro=true:=by cases k <;> rfl
def Ei:Nat→Nat→Value
 | 1,b=>.map (some b)
 | _,b=>.pointer (some ⟨b,0,none⟩)
def T4 (t b:Nat) (v:Value):Prop:=t≠0∧v=Ei t b
structure Ob where
 kd:Kd
 gen:Nat
 sz:Nat
 n:Nat
 row:Nat→List D
abbrev Pl:=Option (Nat × Nat)
def KX (pl:List Pl) (b:Nat):Prop:=∀ l q:Nat,pl[l]?≠some (some (b,q))
def free (Z:Nat→Prop) (pl:List Pl) (b:Nat):Prop:=Z b∧KX pl b
variable {Z:Nat→Prop}
inductive Cl (N:Nat→Prop) (w:World):D→Value→Prop
 | raw (v:Value):Cl N w (.raw v) v
 | undef (v:Value):Cl N w .undef v
 | nil (a:Option Addr):Cl N w .nil (.slice a 0 0)
 | imm (sz n:Nat) (row:Nat→List D) (a:Option Addr) (cap b o:Nat) (vs:Nat→Nat→Value)
   (ha:0<n→a=some ⟨b,o,none⟩) (hl:n≤cap) (hs:∀ i,i<n→(row i).length=sz)
   (hc:∀ i j,i<n→j<sz→N b∧w.cell? ⟨b,o+(i*sz+j),none⟩=some (vs i j))
   (hr:∀ i j,i<n→j<sz→Cl N w (nth (row i) j) (vs i j)):Cl N w (.imm sz n row) (.slice a n cap)
 | ip (cells:List D) (b o:Nat) (vs:Nat→Value)
   (hc:∀ j,j<cells.length→N b∧w.cell? ⟨b,o+j,none⟩=some (vs j))
   (hr:∀ j,j<cells.length→Cl N w (nth cells j) (vs j)):Cl N w (.ip cells) (.pointer (some ⟨b,o,none⟩))
 | clo (f:FuncId) (nf:Nat) (cs:List D) (vs:List Value) (hl:vs.length=cs.length) (hr:∀ i,i<cs.length→Cl N w (nth cs i) (QJ vs i)):Cl N w (.clo f nf cs) (.func (.func f) (vs.take nf).toArray (vs.drop nf).toArray)
 | agg (cs:List D) (vs:List Value) (hl:vs.length=cs.length) (hr:∀ i,i<cs.length→Cl N w (nth cs i) (QJ vs i)):Cl N w (.agg cs) (.agg vs.toArray)
 | tup (cs:List D) (vs:List Value) (hl:vs.length=cs.length) (hr:∀ i,i<cs.length→Cl N w (nth cs i) (QJ vs i)):Cl N w (.tup cs) (.tuple vs.toArray)
theorem Cl.mono {N N':Nat→Prop} {w w':World} {d:D} {v:Value} (h:Cl N w d v)
  (hk:∀ b,N b→b<w.heap.size→N' b∧w'.heap[b]? = w.heap[b]?):Cl N' w' d v:=by
 have key:∀ (b o:Nat) (u:Value),N b∧w.cell? ⟨b,o,none⟩=some u→N' b∧w'.cell? ⟨b,o,none⟩=some u:=by
  rintro b o u ⟨hn,hc⟩
  obtain ⟨h1,h2⟩:=hk b hn (block_lt_of_cell hc)
  exact ⟨h1,by rw[World.cell?_of_block (w:=w) (a:=⟨b,o,none⟩) h2];exact hc⟩
 induction h with
 | raw v=>exact .raw v
 | undef v=>exact .undef v
 | nil a=>exact .nil a
 | imm sz n row a cap b o vs ha hl hs hc hr ih=>exact .imm sz n row a cap b o vs ha hl hs (fun i j hi hj=>key _ _ _ (hc i j hi hj)) ih
 | ip cells b o vs hc hr ih=>exact .ip cells b o vs (fun j hj=>key _ _ _ (hc j hj)) ih
 | clo f nf cs vs hl hr ih=>exact .clo f nf cs vs hl ih
 | agg cs vs hl hr ih=>exact .agg cs vs hl ih
 | tup cs vs hl hr ih=>exact .tup cs vs hl ih
def T5 (w:World) (sz:Nat) (p:Pl) (off len:Nat) (a:Option Addr) (cap:Nat):Prop:=
 (len=0∧cap=0)∨∃ b q c el,p=some (b,q)∧a=some ⟨b,q+off*sz,none⟩∧w.heap[b]? = some (.cells c el (0,0))∧q+(off+cap)*sz≤c.size∧len≤cap
inductive Qv (Z:Nat→Prop) (h:List Ob) (pl:List Pl) (w:World):D→Value→Prop
 | cl (d:D) (v:Value) (hc:Cl (free Z pl) w d v):Qv Z h pl w d v
 | ref (l g off len:Nat) (o:Ob) (p:Pl) (a:Option Addr) (cap:Nat) (ho:h[l]? = some o) (hp:pl[l]? = some p) (hk:o.kd.ty=0) (hg:g≤o.gen)
   (hs:g=o.gen→T5 w o.sz p off len a cap):Qv Z h pl w (.ref l g off len) (.slice a len cap)
 | ptr (l g i j:Nat) (o:Ob) (p:Pl) (a:Addr) (ho:h[l]? = some o) (hp:pl[l]? = some p) (hk:o.kd.ty=0) (hg:g≤o.gen)
   (hs:g=o.gen→∃ b q,p=some (b,q)∧a=⟨b,q+(i*o.sz+j),none⟩):Qv Z h pl w (.ptr l g i j) (.pointer (some a))
 | mref (l g:Nat) {v:Value} (o:Ob) (p:Pl) (b:Nat) (ho:h[l]? = some o) (hp:pl[l]? = some p) (hk:T4 o.kd.ty b v) (hg:g≤o.gen)
   (hs:g=o.gen→p=some (b,0)):Qv Z h pl w (.mref l g) v
 | clo (f:FuncId) (nf:Nat) (cs:List D) (vs:List Value) (hl:vs.length=cs.length) (hr:∀ i,i<cs.length→Qv Z h pl w (nth cs i) (QJ vs i)):Qv Z h pl w (.clo f nf cs) (.func (.func f) (vs.take nf).toArray (vs.drop nf).toArray)
 | agg (cs:List D) (vs:List Value) (hl:vs.length=cs.length) (hr:∀ i,i<cs.length→Qv Z h pl w (nth cs i) (QJ vs i)):Qv Z h pl w (.agg cs) (.agg vs.toArray)
 | tup (cs:List D) (vs:List Value) (hl:vs.length=cs.length) (hr:∀ i,i<cs.length→Qv Z h pl w (nth cs i) (QJ vs i)):Qv Z h pl w (.tup cs) (.tuple vs.toArray)
structure Tr (h:List Ob) (pl:List Pl) (w:World) (h':List Ob) (Qg:List Pl) (w':World):Prop where
 JI:∀ b,KX pl b→b<w.heap.size→KX Qg b∧w'.heap[b]? = w.heap[b]?
 obj:∀ (l:Nat) (o:Ob) (p:Pl),h[l]? = some o→pl[l]? = some p→∃ o' p',h'[l]? = some o'∧Qg[l]? = some p'∧o.gen≤o'.gen∧o'.kd.ty=o.kd.ty∧(o'.gen=o.gen→o'.sz=o.sz∧p'=p)
 shape:∀ (l:Nat) (o o':Ob) (b q:Nat),h[l]? = some o→h'[l]? = some o'→o'.gen=o.gen→pl[l]? = some (some (b,q))→∀ c el,w.heap[b]? = some (.cells c el (0,0)) →
  ∃ c',w'.heap[b]? = some (.cells c' el (0,0))∧c'.size=c.size
theorem Tr.uK {h:List Ob} {pl:List Pl} {w:World} {h':List Ob} {Qg:List Pl} {w':World} (T:Tr h pl w h' Qg w') {b:Nat} (hf:free Z pl b) (hb:b<w.heap.size):free Z Qg b∧w'.heap[b]? = w.heap[b]? :=
 ⟨⟨hf.1,(T.JI b hf.2 hb).1⟩,(T.JI b hf.2 hb).2⟩
theorem Qv.tr {h:List Ob} {pl:List Pl} {w:World} {h':List Ob} {Qg:List Pl} {w':World} (T:Tr h pl w h' Qg w') {d:D} {v:Value} (r:Qv Z h pl w d v):Qv Z h' Qg w' d v:=by
 induction r with
 | cl d v hc=>exact .cl d v (hc.mono fun b hb Qd=>T.uK hb Qd)
 | ref l g off len o p a cap ho hp hk hg hs=>
  obtain ⟨o',p',Zb,Zm,XH,Zj,he⟩:=T.obj l o p ho hp
  refine .ref l g off len o' p' a cap Zb Zm (by rw[Zj,hk]) (Nat.le_trans hg XH) fun jc=>?_
  have e1:o'.gen=o.gen:=by omega
  obtain ⟨e2,e3⟩:=he e1
  rcases hs (by omega) with h1 | ⟨b,q,c,el,Kb,ha,hb,hc,hl⟩
  ·exact .inl h1
  ·obtain ⟨c',Jp,uL⟩:=T.shape l o o' b q ho Zb e1 (by rw[hp,Kb]) c el hb
   exact .inr ⟨b,q,c',el,by rw[e3,Kb],by rw[e2];exact ha,Jp,by rw[e2,uL];exact hc,hl⟩
 | ptr l g i j o p a ho hp hk hg hs=>
  obtain ⟨o',p',Zb,Zm,XH,Zj,he⟩:=T.obj l o p ho hp
  refine .ptr l g i j o' p' a Zb Zm (by rw[Zj,hk]) (Nat.le_trans hg XH) fun jc=>?_
  have e1:o'.gen=o.gen:=by omega
  obtain ⟨e2,e3⟩:=he e1
  obtain ⟨b,q,Kb,ha⟩:=hs (by omega)
  exact ⟨b,q,by rw[e3,Kb],by rw[e2];exact ha⟩
 | mref l g o p b ho hp hk hg hs=>
  obtain ⟨o',p',Zb,Zm,XH,Zj,he⟩:=T.obj l o p ho hp
  refine .mref l g o' p' b Zb Zm (by rw[Zj];exact hk) (Nat.le_trans hg XH) fun jc=>?_
  have e1:o'.gen=o.gen:=by omega
  obtain ⟨e2,e3⟩:=he e1
  rw[e3];exact hs (by omega)
 | clo f nf cs vs hl hr ih=>exact .clo f nf cs vs hl ih
 | agg cs vs hl hr ih=>exact .agg cs vs hl ih
 | tup cs vs hl hr ih=>exact .tup cs vs hl ih
def Ej (Z:Nat→Prop) (h:List Ob) (pl:List Pl) (w:World) (o:Ob) (b q:Nat):Prop:=
 ∃ c el,w.heap[b]? = some (.cells c el (0,0))∧q+o.n*o.sz≤c.size∧(∀ i,i<o.n→(o.row i).length=o.sz) ∧
  ∀ i j,i<o.n→j<o.sz→∃ v,c[q+(i*o.sz+j)]? = some v∧Qv Z h pl w (nth (o.row i) j) v
def Hi (Z:Nat→Prop) (h:List Ob) (pl:List Pl) (w:World) (o:Ob) (b q:Nat):Prop:=
 q=0∧o.sz=3∧∃ (es:Array MapEntry) (clock:Nat),w.heap[b]? = some (.map es clock)∧o.n=es.size+1∧(∀ i,i<o.n→(o.row i).length=3) ∧
  Qv Z h pl w (nth (o.row 0) 0) (.int .i64 clock) ∧
  (∀ (i:Nat) (e:MapEntry),es[i]? = some e→e.born<clock∧Qv Z h pl w (nth (o.row (i+1)) 0) e.key∧Qv Z h pl w (nth (o.row (i+1)) 1) e.val∧Qv Z h pl w (nth (o.row (i+1)) 2) (.int .i64 e.born)) ∧
  ∀ (i j:Nat) (e e':MapEntry),i<j→es[i]? = some e→es[j]? = some e'→e.born<e'.born
def NB (Z:Nat→Prop) (h:List Ob) (pl:List Pl) (w:World) (o:Ob) (b q:Nat):Prop:=
 q=0∧o.sz=1∧∃ (m since last:Nat) (seen:Array Nat),w.heap[b]? = some (.mapIter (some m) since seen last)∧o.n=seen.size+3∧(∀ i,i<o.n→(o.row i).length=1) ∧
  Qv Z h pl w (nth (o.row 0) 0) (.map (some m))∧Qv Z h pl w (nth (o.row 1) 0) (.int .i64 since)∧Qv Z h pl w (nth (o.row 2) 0) (.int .i64 last) ∧
  ∀ (i s:Nat),seen[i]? = some s→Qv Z h pl w (nth (o.row (i+3)) 0) (.int .i64 s)
def Jq (Z:Nat→Prop) (h:List Ob) (pl:List Pl) (w:World) (o:Ob) (b q:Nat):Prop:=match o.kd.ty with
 | 0=>Ej Z h pl w o b q
 | 1=>Hi Z h pl w o b q
 | _=>NB Z h pl w o b q
theorem Jq.cells {h:List Ob} {pl:List Pl} {w:World} {o:Ob} {b q:Nat} (hk:o.kd.ty=0) (x:Jq Z h pl w o b q):Ej Z h pl w o b q:=by
 unfold Jq at x;rw[hk] at x;exact x
theorem Jq.map {h:List Ob} {pl:List Pl} {w:World} {o:Ob} {b q:Nat} (hk:o.kd.ty=1) (x:Jq Z h pl w o b q):Hi Z h pl w o b q:=by
 unfold Jq at x;rw[hk] at x;exact x
theorem Jq.iter {h:List Ob} {pl:List Pl} {w:World} {o:Ob} {b q:Nat} (hk:o.kd.ty=2) (x:Jq Z h pl w o b q):NB Z h pl w o b q:=by
 unfold Jq at x;rw[hk] at x;exact x
theorem Jq.BN {h:List Ob} {pl:List Pl} {w:World} {o:Ob} {b q:Nat} (hk:o.kd.ty=0) (x:Ej Z h pl w o b q):Jq Z h pl w o b q:=by
 unfold Jq;rw[hk];exact x
theorem Jq.ofMap {h:List Ob} {pl:List Pl} {w:World} {o:Ob} {b q:Nat} (hk:o.kd.ty=1) (x:Hi Z h pl w o b q):Jq Z h pl w o b q:=by
 unfold Jq;rw[hk];exact x
theorem Jq.T7 {h:List Ob} {pl:List Pl} {w:World} {o:Ob} {b q:Nat} (hk:o.kd.ty=2) (x:NB Z h pl w o b q):Jq Z h pl w o b q:=by
 unfold Jq;rw[hk];exact x
theorem Kd.cases (k:Kd):k.ty=0∨k.ty=1∨k.ty=2:=by cases k <;> simp [Kd.ty]
theorem Jq.lt {h:List Ob} {pl:List Pl} {w:World} {o:Ob} {b q:Nat} (x:Jq Z h pl w o b q):b<w.heap.size:=by
 rcases o.kd.cases with hk | hk | hk
 ·obtain ⟨c,el,hc,_⟩:=x.cells hk;exact (Array.getElem?_eq_some_iff.1 hc).1
 ·obtain ⟨_,_,c,el,hc,_⟩:=x.map hk;exact (Array.getElem?_eq_some_iff.1 hc).1
 ·obtain ⟨_,_,m,s,l,sn,hc,_⟩:=x.iter hk;exact (Array.getElem?_eq_some_iff.1 hc).1
theorem Jq.len {h:List Ob} {pl:List Pl} {w:World} {o:Ob} {b q:Nat} (x:Jq Z h pl w o b q) {i:Nat} (hi:i<o.n):(o.row i).length=o.sz:=by
 rcases o.kd.cases with hk | hk | hk
 ·obtain ⟨c,el,_,_,h1,_⟩:=x.cells hk;exact h1 i hi
 ·obtain ⟨_,hz,c,el,_,_,h1,_⟩:=x.map hk;rw[h1 i hi,hz]
 ·obtain ⟨_,hz,m,s,l,sn,_,_,h1,_⟩:=x.iter hk;rw[h1 i hi,hz]
theorem Jq.to {Z':Nat→Prop} {h h':List Ob} {pl Qg:List Pl} {w w':World} {o o':Ob} {b q:Nat} (x:Jq Z h pl w o b q) (hk:o'.kd.ty=o.kd.ty) (hz:o'.sz=o.sz) (hn:o'.n=o.n)
  (hb:w'.heap[b]? = w.heap[b]?) (hl:∀ i,i<o.n→(o'.row i).length=(o.row i).length)
  (hr:∀ i j v,i<o.n→j<(o.row i).length→Qv Z h pl w (nth (o.row i) j) v→Qv Z' h' Qg w' (nth (o'.row i) j) v):Jq Z' h' Qg w' o' b q:=by
 rcases o.kd.cases with hm | hm | hm
 ·obtain ⟨c,el,h1,h2,h3,h4⟩:=x.cells hm
  refine Jq.BN (by rw[hk,hm]) ⟨c,el,by rw[hb];exact h1,by rw[hn,hz];exact h2,fun i hi=>?_,fun i j hi hj=>?_⟩
  ·rw[hn] at hi;rw[hl i hi,h3 i hi,hz]
  ·rw[hn] at hi;rw[hz] at hj
   obtain ⟨v,hv,Hj⟩:=h4 i j hi hj
   exact ⟨v,by rw[hz];exact hv,hr i j v hi (by rw[h3 i hi];exact hj) Hj⟩
 ·obtain ⟨h0,NC,es,ck,h1,h2,h3,h4,h5,h6⟩:=x.map hm
  have up:∀ i j v,i<o.n→j<3→Qv Z h pl w (nth (o.row i) j) v→Qv Z' h' Qg w' (nth (o'.row i) j) v:=fun i j v hi hj r=>hr i j v hi (by rw[h3 i hi];exact hj) r
  refine Jq.ofMap (by rw[hk,hm]) ⟨h0,by rw[hz];exact NC,es,ck,by rw[hb];exact h1,by rw[hn];exact h2,fun i hi=>?_,up 0 0 _ (by omega) (by omega) h4,fun i e he=>?_,h6⟩
  ·rw[hn] at hi;rw[hl i hi,h3 i hi]
  ·obtain ⟨k1,k2,k3,k4⟩:=h5 i e he
   have hi:i+1<o.n:=by have:=(Array.getElem?_eq_some_iff.1 he).1;omega
   exact ⟨k1,up _ 0 _ hi (by omega) k2,up _ 1 _ hi (by omega) k3,up _ 2 _ hi (by omega) k4⟩
 ·obtain ⟨h0,NC,m,since,last,seen,h1,h2,h3,h4,h5,h6,h7⟩:=x.iter hm
  have up:∀ i v,i<o.n→Qv Z h pl w (nth (o.row i) 0) v→Qv Z' h' Qg w' (nth (o'.row i) 0) v:=fun i v hi r=>hr i 0 v hi (by rw[h3 i hi];omega) r
  refine Jq.T7 (by rw[hk,hm]) ⟨h0,by rw[hz];exact NC,m,since,last,seen,by rw[hb];exact h1,by rw[hn];exact h2,fun i hi=>?_,up 0 _ (by omega) h4,up 1 _ (by omega) h5,up 2 _ (by omega) h6,fun i s hs=>?_⟩
  ·rw[hn] at hi;rw[hl i hi,h3 i hi]
  ·exact up _ _ (by have:=(Array.getElem?_eq_some_iff.1 hs).1;omega) (h7 i s hs)
structure QT (Z:Nat→Prop) (base:Nat) (h:List Ob) (pl:List Pl) (w:World):Prop where
 len:pl.length=h.length
 inj:∀ (l l':Nat) (b q q':Nat),pl[l]? = some (some (b,q))→pl[l']? = some (some (b,q'))→l=l'
 JU:∀ (l:Nat) (o:Ob),h[l]? = some o→pl[l]? = some none→o.n=0
 at_:∀ (l:Nat) (o:Ob) (b q:Nat),h[l]? = some o→pl[l]? = some (some (b,q))→(o.kd.ro=false→base≤b)∧Jq Z h pl w o b q
structure St where
 fr:List (Nat × D)
 h:List Ob
def get:List (Nat × D)→Nat→D
 | [],_=>.undef
 | (t,d)::r,u=>bif Nat.beq t u then d else get r u
def put:List (Nat × D)→Nat→D→List (Nat × D)
 | [],u,d=>[(u,d)]
 | (t,e)::r,u,d=>bif Nat.beq t u then (u,d)::r else (t,e)::put r u d
structure Rel (Z:Nat→Prop) (base nt:Nat) (s:St) (pl:List Pl) (a:Act) (w:World):Prop where
 nt:a.tmps.size=nt
 defers:a.defers=[]
 fr:∀ t,Qv Z s.h pl w (get s.fr t) (a.tmps.getD t Go.undef)
 o:QT Z base s.h pl w
theorem y0 (fr:List (Nat × D)) (u:Nat) (d:D) (t:Nat):get (put fr u d) t=if t=u then d else get fr t:=by
 induction fr with
 | nil=>
  simp only[put,get]
  by_cases h:u=t
  ·subst h;simp
  ·have h1:Nat.beq u t=false:=by rw[← Bool.not_eq_true,Nat.beq_eq];exact h
   rw[h1,if_neg (Ne.symm h)];rfl
 | cons x r ih=>
  obtain ⟨t',d'⟩:=x
  simp only[put]
  by_cases hb:t'=u
  ·subst hb
   simp only[Nat.beq_refl,cond_true,get]
   by_cases h:t'=t
   ·subst h;simp
   ·have h1:Nat.beq t' t=false:=by rw[← Bool.not_eq_true,Nat.beq_eq];exact h
    rw[h1,if_neg (Ne.symm h)];rfl
  ·have h1:Nat.beq t' u=false:=by rw[← Bool.not_eq_true,Nat.beq_eq];exact hb
   rw[h1]
   simp only[cond_false,get]
   by_cases h:t'=t
   ·subst h
    simp [hb]
   ·have h2:Nat.beq t' t=false:=by rw[← Bool.not_eq_true,Nat.beq_eq];exact h
    rw[h2]
    simpa using ih
theorem Jr {h:List Ob} {l:Nat} {o:Ob} (e:h[l]? = some o):l<h.length:=(List.getElem?_eq_some_iff.1 e).1
theorem Kz {h:List Pl} {l:Nat} {o:Pl} (e:h[l]? = some o):l<h.length:=(List.getElem?_eq_some_iff.1 e).1
theorem qt {w:World} {b:Nat} {o:Obj} (h:w.heap[b]? = some o):b<w.heap.size:=(Array.getElem?_eq_some_iff.1 h).1
theorem QT.lt {base:Nat} {h:List Ob} {pl:List Pl} {w:World} (R:QT Z base h pl w) {l b q:Nat} (e:pl[l]? = some (some (b,q))):b<w.heap.size∧∀ o,h[l]? = some o→o.kd.ro=false→base≤b:=by
 have hl:l<h.length:=by have:=Kz e;rw[R.len] at this;exact this
 obtain ⟨hb,x⟩:=R.at_ l (h[l]) b q (List.getElem?_eq_getElem hl) e
 exact ⟨x.lt,fun o ho hr=>by rw[List.getElem?_eq_getElem hl] at ho;cases ho;exact hb hr⟩
theorem Tr.ext {base:Nat} {h:List Ob} {pl:List Pl} {w w':World} (R:QT Z base h pl w) (e:∀ b,b<w.heap.size→w'.heap[b]? = w.heap[b]?):Tr h pl w h pl w' where
 JI:=fun b hb Qd=>⟨hb,e b Qd⟩
 obj:=fun l o p ho hp=>⟨o,p,ho,hp,Nat.le_refl _,rfl,fun _=>⟨rfl,rfl⟩⟩
 shape:=fun l o o' b q ho Zb hg hp c el hb=>⟨c,by rw[e b (R.lt hp).1];exact hb,rfl⟩
theorem QT.ext {base:Nat} {h:List Ob} {pl:List Pl} {w w':World} (R:QT Z base h pl w) (e:∀ b,b<w.heap.size→w'.heap[b]? = w.heap[b]?):QT Z base h pl w' where
 len:=R.len
 inj:=R.inj
 JU:=R.JU
 at_:=fun l o b q ho hp=>by
  obtain ⟨h1,x⟩:=R.at_ l o b q ho hp
  exact ⟨h1,x.to rfl rfl rfl (e b (R.lt hp).1) (fun _ _=>rfl) fun i j v _ _ hr=>hr.tr (Tr.ext R e)⟩
theorem Tr.refl (h:List Ob) (pl:List Pl) (w:World):Tr h pl w h pl w where
 JI:=fun b hb Qd=>⟨hb,rfl⟩
 obj:=fun l o p ho hp=>⟨o,p,ho,hp,Nat.le_refl _,rfl,fun _=>⟨rfl,rfl⟩⟩
 shape:=fun l o o' b q ho Zb hg hp c el hb=>⟨c,hb,rfl⟩
theorem Tr.trans {h h' Xf:List Ob} {pl Qg y5:List Pl} {w w' y6:World} (T:Tr h pl w h' Qg w') (U:Tr h' Qg w' Xf y5 y6):Tr h pl w Xf y5 y6 where
 JI:=fun b hb Qd=>by
  obtain ⟨h1,h2⟩:=T.JI b hb Qd
  have h3:b<w'.heap.size:=by
   rw[Array.getElem?_eq_getElem Qd] at h2
   exact (Array.getElem?_eq_some_iff.1 h2).1
  obtain ⟨h4,h5⟩:=U.JI b h1 h3
  exact ⟨h4,by rw[h5,h2]⟩
 obj:=fun l o p ho hp=>by
  obtain ⟨o1,p1,a1,a2,a3,a4,a5⟩:=T.obj l o p ho hp
  obtain ⟨o2,p2,b1,b2,b3,b4,b5⟩:=U.obj l o1 p1 a1 a2
  refine ⟨o2,p2,b1,b2,Nat.le_trans a3 b3,by rw[b4,a4],fun e=>?_⟩
  obtain ⟨x1,x2⟩:=a5 (by omega)
  obtain ⟨y1,y2⟩:=b5 (by omega)
  exact ⟨by rw[y1,x1],by rw[y2,x2]⟩
 shape:=fun l o Hl b q ho BO hg hp c el hb=>by
  obtain ⟨o1,p1,a1,a2,a3,a4,a5⟩:=T.obj l o _ ho hp
  obtain ⟨o2,p2,b1,b2,b3,b4,b5⟩:=U.obj l o1 p1 a1 a2
  rw[BO] at b1;cases b1
  have e1:o1.gen=o.gen:=by omega
  obtain ⟨x1,x2⟩:=a5 e1
  subst x2
  obtain ⟨c1,d1,d2⟩:=T.shape l o o1 b q ho a1 e1 hp c el hb
  obtain ⟨c2,f1,f2⟩:=U.shape l o1 Hl b q a1 BO (by omega) a2 c1 el d1
  exact ⟨c2,f1,by omega⟩
theorem Rel.ext {base nt:Nat} {s:St} {pl:List Pl} {a:Act} {w w':World} (r:Rel Z base nt s pl a w) (e:∀ b,b<w.heap.size→w'.heap[b]? = w.heap[b]?):Rel Z base nt s pl a w':=
 ⟨r.nt,r.defers,fun t=>(r.fr t).tr (Tr.ext r.o e),r.o.ext e⟩
theorem uM (tmps:Array Value) (d t:Nat) (v:Value) (hd:d<tmps.size):(tmps.setIfInBounds d v).getD t Go.undef=if t=d then v else tmps.getD t Go.undef:=by
 simp only[Array.getD_eq_getD_getElem?,Array.getElem?_setIfInBounds]
 by_cases h:d=t
 ·subst h;simp [hd]
 ·rw[if_neg h,if_neg (Ne.symm h)]
theorem Rel.to {base nt:Nat} {s:St} {pl:List Pl} {a:Act} {w:World} (r:Rel Z base nt s pl a w) {h':List Ob} {Qg:List Pl} {w':World} (T:Tr s.h pl w h' Qg w') (R':QT Z base h' Qg w')
  {t:Nat} (ht:t<nt) {d:D} {v:Value} (hv:Qv Z h' Qg w' d v):Rel Z base nt ⟨put s.fr t d,h'⟩ Qg (a.put (some t) v) w' where
 nt:=by simp [Act.put,r.nt]
 defers:=r.defers
 fr:=fun u=>by
  simp only[Act.put]
  rw[y0,uM _ _ _ _ (by rw[r.nt];exact ht)]
  by_cases h:u=t
  ·rw[if_pos h,if_pos h];exact hv
  ·rw[if_neg h,if_neg h];exact (r.fr u).tr T
 o:=R'
theorem Rel.zd {base nt:Nat} {s:St} {pl:List Pl} {a:Act} {w:World} (r:Rel Z base nt s pl a w) {h':List Ob} {Qg:List Pl} {w':World} (T:Tr s.h pl w h' Qg w') (R':QT Z base h' Qg w')
  (v:Value):Rel Z base nt ⟨s.fr,h'⟩ Qg (a.put none v) w':=
 ⟨r.nt,r.defers,fun u=>(r.fr u).tr T,R'⟩
theorem Ek {pl:List Pl} {p:Pl} {b:Nat} (hf:KX pl b) (hp:∀ q,p≠some (b,q)):KX (pl++[p]) b:=fun l q e=>by
 by_cases hl:l<pl.length
 ·rw[List.getElem?_append_left hl] at e;exact hf l q e
 ·rw[List.getElem?_append_right (by omega)] at e
  have:l - pl.length=0:=by
   have:=(List.getElem?_eq_some_iff.1 e).1
   simp at this;exact this
  rw[this] at e
  simp at e
  exact hp q e
theorem jd {α:Type} {l:List α} {x y:α} {i:Nat} (e:l[i]? = some x):(l++[y])[i]? = some x:=by
 rw[List.getElem?_append_left (List.getElem?_eq_some_iff.1 e).1];exact e
theorem VB {α:Type} {l:List α} {x y:α} {i:Nat} (e:(l++[y])[i]? = some x):l[i]? = some x∨(i=l.length∧x=y):=by
 by_cases hl:i<l.length
 ·rw[List.getElem?_append_left hl] at e;exact .inl e
 ·rw[List.getElem?_append_right (by omega)] at e
  have h0:=(List.getElem?_eq_some_iff.1 e).1
  simp at h0
  have h1:i=l.length:=by omega
  subst h1
  simp at e
  exact .inr ⟨rfl,e.symm⟩
theorem YP (w:World) (o:Obj) (b:Nat) (h:b<w.heap.size):(w.alloc o).heap[b]? = w.heap[b]? := Below.heap_alloc w o b h
theorem Tr.push {base:Nat} {h:List Ob} {pl:List Pl} {w w':World} (R:QT Z base h pl w) (e:∀ b,b<w.heap.size→w'.heap[b]? = w.heap[b]?) (ob:Ob) (p:Pl) (hp:∀ b q,p=some (b,q)→w.heap.size≤b):Tr h pl w (h++[ob]) (pl++[p]) w' where
 JI:=fun b hb Qd=>⟨Ek hb fun q hq=>by have:=hp b q hq;omega,e b Qd⟩
 obj:=fun l o p ho hp=>⟨o,p,jd ho,jd hp,Nat.le_refl _,rfl,fun _=>⟨rfl,rfl⟩⟩
 shape:=fun l o o' b q ho Zb hg hp c el hb=>⟨c,by rw[e b (R.lt hp).1];exact hb,rfl⟩
theorem QT.El {base:Nat} {h:List Ob} {pl:List Pl} {w w':World} (R:QT Z base h pl w) (e:∀ b,b<w.heap.size→w'.heap[b]? = w.heap[b]?) (ob:Ob) {b0 q0:Nat} (hp:w.heap.size≤b0) (QI:base≤b0)
  (hx:Jq Z (h++[ob]) (pl++[some (b0,q0)]) w' ob b0 q0):QT Z base (h++[ob]) (pl++[some (b0,q0)]) w':=by
 have T:Tr h pl w (h++[ob]) (pl++[some (b0,q0)]) w':=Tr.push R e ob _ (by intro b q e;simp at e;omega)
 refine ⟨by simp [R.len],?_,?_,?_⟩
 ·intro l l' b q q' e1 e2
  rcases VB e1 with h1 | ⟨h1,Zw⟩ <;> rcases VB e2 with h2 | ⟨h2,Wv⟩
  ·exact R.inj l l' b q q' h1 h2
  ·have:=(R.lt h1).1;simp at Wv;omega
  ·have:=(R.lt h2).1;simp at Zw;omega
  ·omega
 ·intro l o ho e1
  rcases VB e1 with h1 | ⟨h1,Zw⟩
  ·rcases VB ho with h2 | ⟨h2,Wv⟩
   ·exact R.JU l o h2 h1
   ·have:=Kz h1;have:=R.len;omega
  ·simp at Zw
 ·intro l o b q ho QZ
  rcases VB QZ with h1 | ⟨h1,Zw⟩
  ·rcases VB ho with h2 | ⟨h2,Wv⟩
   ·obtain ⟨g1,x⟩:=R.at_ l o b q h2 h1
    exact ⟨g1,x.to rfl rfl rfl (e b (R.lt h1).1) (fun _ _=>rfl) fun i j v _ _ hr=>hr.tr T⟩
   ·have:=Kz h1;have:=R.len;omega
  ·rcases VB ho with h2 | ⟨h2,Wv⟩
   ·have:=Jr h2;have:=R.len;omega
   ·subst Wv
    simp at Zw
    obtain ⟨rfl,rfl⟩:=Zw
    exact ⟨fun _=>QI,hx⟩
theorem QT.push {base:Nat} {h:List Ob} {pl:List Pl} {w w':World} (R:QT Z base h pl w) (e:∀ b,b<w.heap.size→w'.heap[b]? = w.heap[b]?) (ob:Ob) (hk:ob.kd.ty=0) {b0 q0:Nat} (hp:w.heap.size≤b0) (QI:base≤b0)
  {c:Array Value} {el:TypeId} (hb:w'.heap[b0]? = some (.cells c el (0,0))) (Zz:q0+ob.n*ob.sz≤c.size) (Z5:∀ i,i<ob.n→(ob.row i).length=ob.sz)
  (ZN:∀ i j,i<ob.n→j<ob.sz→∃ v,c[q0+(i*ob.sz+j)]? = some v∧Qv Z (h++[ob]) (pl++[some (b0,q0)]) w' (nth (ob.row i) j) v):QT Z base (h++[ob]) (pl++[some (b0,q0)]) w':=
 R.El e ob hp QI (.BN hk ⟨c,el,hb,Zz,Z5,ZN⟩)
theorem QT.xD {base:Nat} {h:List Ob} {pl:List Pl} {w:World} (R:QT Z base h pl w) (ob:Ob) (hn:ob.n=0):QT Z base (h++[ob]) (pl++[none]) w:=by
 have T:Tr h pl w (h++[ob]) (pl++[none]) w:=Tr.push R (fun _ _=>rfl) ob _ (by intro b q e;simp at e)
 refine ⟨by simp [R.len],?_,?_,?_⟩
 ·intro l l' b q q' e1 e2
  rcases VB e1 with h1 | ⟨h1,Zw⟩
  ·rcases VB e2 with h2 | ⟨h2,Wv⟩
   ·exact R.inj l l' b q q' h1 h2
   ·simp at Wv
  ·simp at Zw
 ·intro l o ho e1
  rcases VB ho with h2 | ⟨h2,Wv⟩
  ·rcases VB e1 with h1 | ⟨h1,Zw⟩
   ·exact R.JU l o h2 h1
   ·have:=Jr h2;have:=R.len;omega
  ·subst Wv;exact hn
 ·intro l o b q ho QZ
  rcases VB QZ with h1 | ⟨h1,Zw⟩
  ·rcases VB ho with h2 | ⟨h2,Wv⟩
   ·obtain ⟨g1,x⟩:=R.at_ l o b q h2 h1
    exact ⟨g1,x.to rfl rfl rfl rfl (fun _ _=>rfl) fun i j v _ _ hr=>hr.tr T⟩
   ·have:=Kz h1;have:=R.len;omega
  ·simp at Zw
theorem Tr.Zg {base:Nat} {h:List Ob} {pl:List Pl} {w w':World} (R:QT Z base h pl w) {l:Nat} {o o':Ob} {b q:Nat} (ho:h[l]? = some o) (hp:pl[l]? = some (some (b,q))) (Z9:o'.kd.ty=o.kd.ty) (hg:o'.gen=o.gen) (hz:o'.sz=o.sz)
  (e:∀ k,k≠b→k<w.heap.size→w'.heap[k]? = w.heap[k]?) (ZT:∀ c el,w.heap[b]? = some (.cells c el (0,0))→∃ c',w'.heap[b]? = some (.cells c' el (0,0))∧c'.size=c.size):Tr h pl w (h.set l o') pl w' where
 JI:=fun k hk Qd=>⟨hk,e k (fun hb=>hk l q (by rw[hb];exact hp)) Qd⟩
 obj:=fun l' o1 p Zn Ww=>by
  by_cases hl:l=l'
  ·subst hl
   rw[ho] at Zn;cases Zn
   exact ⟨o',p,by simp [Jr ho],Ww,by omega,Z9,fun _=>⟨hz,rfl⟩⟩
  ·exact ⟨o1,p,by rw[List.getElem?_set_ne hl];exact Zn,Ww,Nat.le_refl _,rfl,fun _=>⟨rfl,rfl⟩⟩
 shape:=fun l' o1 o2 b1 q1 Zn XI jc Ww c el hb=>by
  by_cases hl:b1=b
  ·subst hl;exact ZT c el hb
  ·exact ⟨c,by rw[e b1 hl (R.lt Ww).1];exact hb,rfl⟩
theorem QT.uN {base:Nat} {h:List Ob} {pl:List Pl} {w w':World} (R:QT Z base h pl w) {l:Nat} {o o':Ob} {b q:Nat} (ho:h[l]? = some o) (hp:pl[l]? = some (some (b,q)))
  (T:Tr h pl w (h.set l o') pl w') (e:∀ k,k≠b→k<w.heap.size→w'.heap[k]? = w.heap[k]?) (hx:Jq Z (h.set l o') pl w' o' b q) (hro:o'.kd.ro=o.kd.ro):QT Z base (h.set l o') pl w':=by
 refine ⟨by simp [R.len],R.inj,?_,?_⟩
 ·intro l' o1 Zn Ww
  by_cases hl:l=l'
  ·subst hl;rw[hp] at Ww;cases Ww
  ·rw[List.getElem?_set_ne hl] at Zn;exact R.JU l' o1 Zn Ww
 ·intro l' o1 b1 q1 Zn Ww
  by_cases hl:l=l'
  ·subst hl
   rw[hp] at Ww;cases Ww
   have:(h.set l o')[l]? = some o':=by simp [Jr ho]
   rw[this] at Zn;cases Zn
   exact ⟨fun hr=>(R.lt hp).2 o ho (by rw[← hro,hr]),hx⟩
  ·rw[List.getElem?_set_ne hl] at Zn
   obtain ⟨g1,x⟩:=R.at_ l' o1 b1 q1 Zn Ww
   have QD:b1≠b:=fun xE=>hl (R.inj l l' b q q1 hp (by rw[← xE];exact Ww))
   exact ⟨g1,x.to rfl rfl rfl (e b1 QD (R.lt Ww).1) (fun _ _=>rfl) fun i j v _ _ hr=>hr.tr T⟩
theorem QT.Zg {base:Nat} {h:List Ob} {pl:List Pl} {w w':World} (R:QT Z base h pl w) {l:Nat} {o o':Ob} {b q:Nat} (ho:h[l]? = some o) (hp:pl[l]? = some (some (b,q))) (hk:o.kd.ty=0) (Zj:o'.kd.ty=0) (hg:o'.gen=o.gen) (hz:o'.sz=o.sz)
  (e:∀ k,k≠b→k<w.heap.size→w'.heap[k]? = w.heap[k]?) {c0 c:Array Value} {el:TypeId} (Q9:w.heap[b]? = some (.cells c0 el (0,0))) (hb:w'.heap[b]? = some (.cells c el (0,0))) (hc:c.size=c0.size)
  (Zz:q+o'.n*o'.sz≤c.size) (Z5:∀ i,i<o'.n→(o'.row i).length=o'.sz)
  (ZN:∀ i j,i<o'.n→j<o'.sz→∃ v,c[q+(i*o'.sz+j)]? = some v∧Qv Z (h.set l o') pl w' (nth (o'.row i) j) v) (hro:o'.kd.ro=o.kd.ro):QT Z base (h.set l o') pl w':=
 R.uN (hro:=hro) ho hp (Tr.Zg R ho hp (by rw[hk,Zj]) hg hz e (fun c1 ND h1=>by rw[Q9] at h1;cases h1;exact ⟨c,hb,hc⟩)) e (.BN Zj ⟨c,el,hb,Zz,Z5,ZN⟩)
variable {Z:Nat→Prop}
inductive TK where
 | int (k:IntKind) | bool | str | slice (e:TypeId) | array (n:Nat) (e:TypeId) | struct (fs:List (Nat × TypeId)) | ptr (e:TypeId) | map (k e:TypeId) | fn | iface | other
def TK.of:TypeDesc→TK
 | .int k=>.int k
 | .bool=>.bool
 | .string=>.str
 | .slice e=>.slice e
 | .array n e=>.array n e
 | .struct fs=>.struct (fs.toList.map fun f=>(f.offset,f.type))
 | .pointer e=>.ptr e
 | .map k e=>.map k e
 | .func _ _ _=>.fn
 | .interface _=>.iface
 | _=>.other
structure Ty where
 k:TK
 size:Nat
 bytes:Nat
 zero:List Value
def TK.agg:TK→Bool
 | .struct _ | .array _ _=>true
 | _=>false
def Hm:Value→Bool
 | .agg _=>true
 | _=>false
structure KA (P:Program) (t:TypeId) (y:Ty):Prop where
 k:(P.underlying t).map TK.of=some y.k
 info:(P.info? t).map (fun i=>(i.size,i.bytes,i.zero.map fun z=>z.cells.toList))=some (y.size,y.bytes,some y.zero)
 uO:((P.info? t).bind (·.zero)).map Hm=some y.k.agg
abbrev Zd:=List (TypeId × Ty)
def ty:Zd→TypeId→Option Ty
 | [],_=>none
 | (u,y)::r,t=>bif Nat.beq u t then some y else ty r t
def Zr (P:Program) (L:Zd):Prop:=∀ t y,ty L t=some y→KA P t y
theorem Zr.nil (P:Program):Zr P []:=fun _ _ h=>by simp [ty] at h
theorem Zr.cons {P:Program} {L:Zd} {t:TypeId} {y:Ty} (h:KA P t y) (r:Zr P L):Zr P ((t,y)::L):=fun u z e=>by
 simp only[ty] at e
 by_cases hu:t=u
 ·subst hu;simp at e;subst e;exact h
 ·have:Nat.beq t u=false:=by rw[← Bool.not_eq_true,Nat.beq_eq];exact hu
  rw[this] at e;exact r u z e
section
variable {P:Program} {t:TypeId} {y:Ty} (h:KA P t y)
include h
theorem KA.under:∃ d,P.underlying t=some d∧TK.of d=y.k:=by
 have:=h.k
 cases hd:P.underlying t with
 | none=>rw[hd] at this;cases this
 | some d=>rw[hd] at this;exact ⟨d,rfl,by simpa using this⟩
theorem KA.sizeOf (w:World):(Go.sizeOf t).run P w=.ok y.size w:=by
 have:=h.info
 cases hi:P.info? t with
 | none=>rw[hi] at this;cases this
 | some i=>
  rw[hi] at this
  simp at this
  simp [Go.sizeOf,typeInfo,hi,this.1]
theorem KA.typeInfo (w:World):∃ i,(Go.typeInfo t).run P w=.ok i w∧i.size=y.size∧i.bytes=y.bytes:=by
 have:=h.info
 cases hi:P.info? t with
 | none=>rw[hi] at this;cases this
 | some i=>
  rw[hi] at this
  simp at this
  exact ⟨i,by simp [Go.typeInfo,hi],this.1,this.2.1⟩
theorem KA.zeroValue:∃ z,z.cells.toList=y.zero∧∀ w,(Go.zeroValue t).run P w=.ok z w:=by
 have:=h.info
 cases hi:P.info? t with
 | none=>rw[hi] at this;cases this
 | some i=>
  rw[hi] at this
  simp at this
  obtain ⟨_,_,z,hz,NF⟩:=this
  exact ⟨z,NF,fun w=>by simp [Go.zeroValue,Go.typeInfo,hi,hz]⟩
theorem KA.isAgg (w:World):(Go.isAgg t).run P w=.ok y.k.agg w:=by
 obtain ⟨d,hd,he⟩:=h.under
 rw[← he]
 cases d <;> simp [Go.isAgg,run_underlying hd,TK.of,TK.agg]
end
theorem TK.of_slice {d:TypeDesc} {e:TypeId} (h:TK.of d=.slice e):d=.slice e:=by cases d <;> simp [TK.of] at h;rw[h]
theorem TK.of_array {d:TypeDesc} {n:Nat} {e:TypeId} (h:TK.of d=.array n e):d=.array n e:=by cases d <;> simp [TK.of] at h;rw[h.1,h.2]
theorem TK.of_struct {d:TypeDesc} {fs:List (Nat × TypeId)} (h:TK.of d=.struct fs):∃ g,d=.struct g∧g.toList.map (fun f=>(f.offset,f.type))=fs:=by cases d <;> simp [TK.of] at h;exact ⟨_,rfl,by simpa using h⟩
theorem TK.of_int {d:TypeDesc} {k:IntKind} (h:TK.of d=.int k):d=.int k:=by cases d <;> simp [TK.of] at h;rw[h]
theorem TK.of_bool {d:TypeDesc} (h:TK.of d=.bool):d=.bool:=by cases d <;> simp [TK.of] at h;rfl
theorem TK.uP {d:TypeDesc} (h:TK.of d=.str):d=.string:=by cases d <;> simp [TK.of] at h;rfl
theorem TK.uQ {d:TypeDesc} {e:TypeId} (h:TK.of d=.ptr e):d=.pointer e:=by cases d <;> simp [TK.of] at h;rw[h]
theorem TK.of_map {d:TypeDesc} {k e:TypeId} (h:TK.of d=.map k e):d=.map k e:=by cases d <;> simp [TK.of] at h;rw[h.1,h.2]
theorem ze {P:Program} {t e:TypeId} {y:Ty} (h:KA P t y) (hk:y.k=.slice e):P.underlying t=some (.slice e):=by
 obtain ⟨d,hd,he⟩:=h.under;rw[hk] at he;rw[hd,TK.of_slice he]
theorem NG {P:Program} {t e:TypeId} {n:Nat} {y:Ty} (h:KA P t y) (hk:y.k=.array n e):P.underlying t=some (.array n e):=by
 obtain ⟨d,hd,he⟩:=h.under;rw[hk] at he;rw[hd,TK.of_array he]
theorem Ua {P:Program} {t:TypeId} {fs:List (Nat × TypeId)} {y:Ty} (h:KA P t y) (hk:y.k=.struct fs):∃ g,P.underlying t=some (.struct g)∧g.toList.map (fun f=>(f.offset,f.type))=fs:=by
 obtain ⟨d,hd,he⟩:=h.under;rw[hk] at he;obtain ⟨g,hg,hm⟩:=TK.of_struct he;exact ⟨g,by rw[hd,hg],hm⟩
theorem vL {P:Program} {t:TypeId} {k:IntKind} {y:Ty} (h:KA P t y) (hk:y.k=.int k):P.underlying t=some (.int k):=by
 obtain ⟨d,hd,he⟩:=h.under;rw[hk] at he;rw[hd,TK.of_int he]
theorem uR {P:Program} {t:TypeId} {y:Ty} (h:KA P t y) (hk:y.k=.bool):P.underlying t=some .bool:=by
 obtain ⟨d,hd,he⟩:=h.under;rw[hk] at he;rw[hd,TK.of_bool he]
theorem Em {P:Program} {t:TypeId} {y:Ty} (h:KA P t y) (hk:y.k=.str):P.underlying t=some .string:=by
 obtain ⟨d,hd,he⟩:=h.under;rw[hk] at he;rw[hd,TK.uP he]
theorem uS {P:Program} {t e:TypeId} {y:Ty} (h:KA P t y) (hk:y.k=.ptr e):P.underlying t=some (.pointer e):=by
 obtain ⟨d,hd,he⟩:=h.under;rw[hk] at he;rw[hd,TK.uQ he]
theorem y7 {P:Program} {t k e:TypeId} {y:Ty} (h:KA P t y) (hk:y.k=.map k e):P.underlying t=some (.map k e):=by
 obtain ⟨d,hd,he⟩:=h.under;rw[hk] at he;rw[hd,TK.of_map he]
def ZQ:Value→D
 | .slice none 0 0=>.nil
 | v=>.raw v
def VC:Value→D
 | .agg cs=>.agg (cs.toList.map ZQ)
 | v=>ZQ v
def Qp (fr:List (Nat × D)):Operand→D
 | .tmp t=>get fr t
 | .const v=>VC v
 | .global _=>.undef
 | .func f=>.raw (.func (.func f) #[] #[])
theorem kj (N:Nat→Prop) (w:World) (v:Value):Cl N w (ZQ v) v:=by
 unfold ZQ
 split
 ·exact .nil none
 ·exact .raw _
theorem uT (N:Nat→Prop) (w:World) (v:Value):Cl N w (VC v) v:=by
 unfold VC
 split
 ·rename_i cs
  have:=Cl.agg (N:=N) (w:=w) (cs.toList.map ZQ) cs.toList (by simp) (fun i hi=>by
   have ZE:i<cs.size:=by simpa using hi
   simp only[nth,QJ,List.getD_eq_getElem?_getD,List.getElem?_map]
   rw[List.getElem?_eq_getElem (by simpa using ZE)]
   exact kj N w _)
  simpa using this
 ·exact kj N w _
theorem Rel.eval {base nt:Nat} {s:St} {pl:List Pl} {a:Act} {w:World} (r:Rel Z base nt s pl a w) (x:Operand):Qv Z s.h pl w (Qp s.fr x) (a.eval x):=by
 cases x with
 | tmp t=>exact r.fr t
 | const v=>exact .cl _ _ (uT _ _ v)
 | global g=>exact .cl _ _ (.undef _)
 | func f=>exact .cl _ _ (.raw _)
section
variable {h:List Ob} {pl:List Pl} {w:World} {v:Value}
theorem ZC {u:Value} (r:Qv Z h pl w (.raw u) v):v=u:=by
 cases r with | cl _ _ hc=>cases hc;rfl
theorem y8 (r:Qv Z h pl w .nil v):∃ a,v=.slice a 0 0:=by
 cases r with | cl _ _ hc=>cases hc;exact ⟨_,rfl⟩
theorem xF {l g off len:Nat} (r:Qv Z h pl w (.ref l g off len) v):∃ o p a cap,v=.slice a len cap∧h[l]? = some o∧pl[l]? = some p∧o.kd.ty=0∧g≤o.gen∧(g=o.gen→T5 w o.sz p off len a cap):=by
 cases r with
 | cl _ _ hc=>cases hc
 | ref _ _ _ _ o p a cap ho hp hk hg hs=>exact ⟨o,p,a,cap,rfl,ho,hp,hk,hg,hs⟩
theorem vM {l g i j:Nat} (r:Qv Z h pl w (.ptr l g i j) v):∃ o p a,v=.pointer (some a)∧h[l]? = some o∧pl[l]? = some p∧o.kd.ty=0∧g≤o.gen∧(g=o.gen→∃ b q,p=some (b,q)∧a=⟨b,q+(i*o.sz+j),none⟩):=by
 cases r with
 | cl _ _ hc=>cases hc
 | ptr _ _ _ _ o p a ho hp hk hg hs=>exact ⟨o,p,a,rfl,ho,hp,hk,hg,hs⟩
theorem y9 {l g:Nat} (r:Qv Z h pl w (.mref l g) v):∃ o p b,h[l]? = some o∧pl[l]? = some p∧T4 o.kd.ty b v∧g≤o.gen∧(g=o.gen→p=some (b,0)):=by
 cases r with
 | cl _ _ hc=>cases hc
 | mref _ _ o p b ho hp hk hg hs=>exact ⟨o,p,b,ho,hp,hk,hg,hs⟩
theorem BP {cs:List D} (r:Qv Z h pl w (.agg cs) v):∃ vs:List Value,v=.agg vs.toArray∧vs.length=cs.length∧∀ i,i<cs.length→Qv Z h pl w (nth cs i) (QJ vs i):=by
 cases r with
 | cl _ _ hc=>cases hc with | agg _ vs hl hr=>exact ⟨vs,rfl,hl,fun i hi=>.cl _ _ (hr i hi)⟩
 | agg _ vs hl hr=>exact ⟨vs,rfl,hl,hr⟩
theorem uU {cs:List D} (r:Qv Z h pl w (.tup cs) v):∃ vs:List Value,v=.tuple vs.toArray∧vs.length=cs.length∧∀ i,i<cs.length→Qv Z h pl w (nth cs i) (QJ vs i):=by
 cases r with
 | cl _ _ hc=>cases hc with | tup _ vs hl hr=>exact ⟨vs,rfl,hl,fun i hi=>.cl _ _ (hr i hi)⟩
 | tup _ vs hl hr=>exact ⟨vs,rfl,hl,hr⟩
theorem NH {f:FuncId} {nf:Nat} {cs:List D} (r:Qv Z h pl w (.clo f nf cs) v):∃ vs:List Value,v=.func (.func f) (vs.take nf).toArray (vs.drop nf).toArray∧vs.length=cs.length∧∀ i,i<cs.length→Qv Z h pl w (nth cs i) (QJ vs i):=by
 cases r with
 | cl _ _ hc=>cases hc with | clo _ _ _ vs hl hr=>exact ⟨vs,rfl,hl,fun i hi=>.cl _ _ (hr i hi)⟩
 | clo _ _ _ vs hl hr=>exact ⟨vs,rfl,hl,hr⟩
theorem Aa {cs:List D} (r:Qv Z h pl w (.ip cs) v):∃ b o,∃ vs:Nat→Value,v=.pointer (some ⟨b,o,none⟩)∧∀ j,j<cs.length→(free Z pl b∧w.cell? ⟨b,o+j,none⟩=some (vs j))∧Cl (free Z pl) w (nth cs j) (vs j):=by
 cases r with
 | cl _ _ hc=>cases hc with | ip _ b o vs hc hr=>exact ⟨b,o,vs,rfl,fun j hj=>⟨hc j hj,hr j hj⟩⟩
theorem Hn {sz n:Nat} {row:Nat→List D} (r:Qv Z h pl w (.imm sz n row) v):∃ a cap b o,∃ vs:Nat→Nat→Value,v=.slice a n cap∧(0<n→a=some ⟨b,o,none⟩)∧n≤cap∧(∀ i,i<n→(row i).length=sz) ∧
  ∀ i j,i<n→j<sz→(free Z pl b∧w.cell? ⟨b,o+(i*sz+j),none⟩=some (vs i j))∧Cl (free Z pl) w (nth (row i) j) (vs i j):=by
 cases r with
 | cl _ _ hc=>cases hc with | imm _ _ _ a cap b o vs ha hl hs hc hr=>exact ⟨a,cap,b,o,vs,rfl,ha,hl,hs,fun i j hi hj=>⟨hc i j hi hj,hr i j hi hj⟩⟩
end
def Ki (P:Program) (base nt:Nat) (o:Oper) (s:St) (d:D):Prop:=
 ∀ (Z:Nat→Prop) pl a w,Rel Z base nt s pl a w→∃ v,Qv Z s.h pl w d v∧∀ w':World,(∀ b,b<w.heap.size→w'.heap[b]? = w.heap[b]?)→(execOp a.eval o).run P w'=.ok (.value v) w'
theorem uV {w w':World} (e:∀ b,b<w.heap.size→w'.heap[b]? = w.heap[b]?) {a:Addr} {v:Value} (h:w.cell? a=some v):w'.cell? a=some v:=by
 rw[World.cell?_of_block (w:=w) (e a.block (block_lt_of_cell h))];exact h
def Xg (w w':World):Prop:=∀ (a:Addr) (v:Value),w.cell? a=some v→w'.cell? a=some v
theorem Xg.trans {a b c:World} (h:Xg a b) (k:Xg b c):Xg a c:=fun x v hx=>k x v (h x v hx)
theorem Xg.ext {w w':World} (e:∀ b,b<w.heap.size→w'.heap[b]? = w.heap[b]?):Xg w w':=fun _ _ h=>uV e h
def Ho (P:Program) (base nt:Nat) (o:Oper) (s:St) (d:D):Prop:=
 ∀ (Z:Nat→Prop) pl a w,Rel Z base nt s pl a w→∃ v,Qv Z s.h pl w d v∧∀ w':World,Xg w w'→(execOp a.eval o).run P w'=.ok (.value v) w'
theorem Ho.up {P:Program} {base nt:Nat} {o:Oper} {s:St} {d:D} (h:Ho P base nt o s d):Ki P base nt o s d:=fun Z pl a w r=>by
 obtain ⟨v,h1,h2⟩:=h Z pl a w r
 exact ⟨v,h1,fun w' e=>h2 w' (.ext e)⟩
abbrev Ev:=Option (Prop × D)
def Hp (op:BinOp) (k:IntKind) (a b:Int):Ev:=
 match op with
 | .add=>some (True,.raw (.int k (k.wrap (a+b))))
 | .sub=>some (True,.raw (.int k (k.wrap (a - b))))
 | .mul=>some (True,.raw (.int k (k.wrap (a*b))))
 | .quo=>some (b≠0,.raw (.int k (k.wrap (a.tdiv b))))
 | .rem=>some (b≠0,.raw (.int k (a.tmod b)))
 | .and=>some (True,.raw (.int k (bits .and k a b)))
 | .or=>some (True,.raw (.int k (bits .or k a b)))
 | .xor=>some (True,.raw (.int k (bits .xor k a b)))
 | .andNot=>some (True,.raw (.int k (bits .andNot k a b)))
 | .eql=>some (True,.raw (.bool (a == b)))
 | .neq=>some (True,.raw (.bool (a != b)))
 | .lss=>some (True,.raw (.bool (decide (a<b))))
 | .leq=>some (True,.raw (.bool (decide (a≤b))))
 | .gtr=>some (True,.raw (.bool (decide (b<a))))
 | .geq=>some (True,.raw (.bool (decide (b≤a))))
 | _=>none
def Hq (op:BinOp) (k:IntKind) (a b:Int):Ev:=
 match op with
 | .shl=>some (0≤b,.raw (.int k (k.wrap (a*2 ^ (min b.toNat k.bits)))))
 | .shr=>some (0≤b,.raw (.int k (a.fdiv (2 ^ (min b.toNat k.bits)))))
 | _=>none
def IntKind.same:IntKind→IntKind→Bool
 | .i8,.i8 | .i16,.i16 | .i32,.i32 | .i64,.i64 | .u8,.u8 | .u16,.u16 | .u32,.u32 | .u64,.u64=>true
 | _,_=>false
theorem IntKind.Ub {k k':IntKind} (h:IntKind.same k k'=true):k=k':=by cases k <;> cases k' <;> first | rfl | cases h
def NI:BinOp→Bool
 | .shl | .shr=>true
 | _=>false
def Hr (op:BinOp) (a b:Bool):Ev:=
 match op with
 | .eql=>some (True,.raw (.bool (a == b)))
 | .neq=>some (True,.raw (.bool (a != b)))
 | _=>none
def Hs (op:BinOp) (a b:ByteArray):Ev:=
 match op with
 | .add=>some (a.size+b.size≤9223372036854775807,.raw (.string (a++b)))
 | .eql=>some (True,.raw (.bool (a.toList == b.toList)))
 | .neq=>some (True,.raw (.bool (!(a.toList == b.toList))))
 | .lss=>some (True,.raw (.bool (Op.bytesLess a.toList b.toList)))
 | _=>none
def xG (op:BinOp) (both:Bool):Ev:=
 match op with
 | .eql=>some (True,.raw (.bool both))
 | .neq=>some (True,.raw (.bool (!both)))
 | _=>none
def xH (L:Zd) (t:TypeId):Bool:=match ty L t with | some ⟨.ptr _,_,_,_⟩=>true | _=>false
def Ht (L:Zd) (t:TypeId):Bool:=match ty L t with | some ⟨.bool,_,_,_⟩=>true | _=>false
def Hu (L:Zd) (op:BinOp) (t:TypeId):D→D→Ev
 | .raw (.int k a),.raw (.int k' b)=>bif NI op then Hq op k a b else bif IntKind.same k k' then Hp op k a b else none
 | .raw (.bool a),.raw (.bool b)=>bif Ht L t then Hr op a b else none
 | .raw (.string a),.raw (.string b)=>Hs op a b
 | .raw (.pointer none),.raw (.pointer none)=>bif xH L t then xG op true else none
 | .ptr _ _ _ _,.raw (.pointer none)=>bif xH L t then xG op false else none
 | .ip _,.raw (.pointer none)=>bif xH L t then xG op false else none
 | .raw (.pointer none),.ptr _ _ _ _=>bif xH L t then xG op false else none
 | .raw (.pointer none),.ip _=>bif xH L t then xG op false else none
 | _,_=>none
theorem uW (P:Program) (w:World) {s:Sem Value} {v:Value} (h:s.run P w=.ok v w):(do pure (Next.value (← s)):Sem Next).run P w=.ok (.value v) w:=by
 simp [h]
theorem uX {P:Program} {op:BinOp} {k:IntKind} {a b:Int} {p:Prop} {d:D} (t:TypeId) (h:Hp op k a b=some (p,d)) (hp:p):∃ v,d=.raw v∧∀ w,(Go.binOp op t (.int k a) (.int k b)).run P w=.ok v w:=by
 cases op <;> simp only[Hp,Option.some.injEq,Prod.mk.injEq,reduceCtorEq] at h <;> obtain ⟨rfl,rfl⟩:=h <;> refine ⟨_,rfl,fun w=>?_⟩ <;>
  simp_all [Go.binOp,Op.intArith,Op.intDiv,Op.intBits,Op.intCmp,bits]
theorem uY {P:Program} {op:BinOp} {k k':IntKind} {a b:Int} {p:Prop} {d:D} (t:TypeId) (h:Hq op k a b=some (p,d)) (hp:p):∃ v,d=.raw v∧∀ w,(Go.binOp op t (.int k a) (.int k' b)).run P w=.ok v w:=by
 cases op <;> simp only[Hq,Option.some.injEq,Prod.mk.injEq,reduceCtorEq] at h <;> obtain ⟨rfl,rfl⟩:=h <;> refine ⟨_,rfl,fun w=>?_⟩ <;>
  (have:¬ b<0:=by omega
   simp [Go.binOp,Op.shift,this])
theorem uZ {P:Program} {op:BinOp} {a b:ByteArray} {p:Prop} {d:D} (t:TypeId) (h:Hs op a b=some (p,d)) (hp:p):∃ v,d=.raw v∧∀ w,(Go.binOp op t (.string a) (.string b)).run P w=.ok v w:=by
 cases op <;> simp only[Hs,Option.some.injEq,Prod.mk.injEq,reduceCtorEq] at h <;> obtain ⟨rfl,rfl⟩:=h <;> refine ⟨_,rfl,fun w=>?_⟩ <;>
  simp [Go.binOp,Op.stringOp]
 omega
theorem u0 {P:Program} {t e:TypeId} (ht:P.underlying t=some (.pointer e)) (n:Nat) {x y:Option Addr} (Yg:x=none∨y=none) (w:World):(Op.equalIn (n+1) t (.pointer x) (.pointer y)).run P w=.ok (x.isNone && y.isNone) w:=by
 rcases Yg with rfl | rfl
 ·simp [Op.equalIn,run_underlying ht]
 ·cases x <;> simp [Op.equalIn,run_underlying ht]
theorem Uc {P:Program} {t:TypeId} {x y:Value} {b:Bool} {w:World} (hb:∀ n,(Op.equalIn (n+1) t x y).run P w=.ok b w):(Op.equal t x y).run P w=.ok b w:=hb 9999
theorem u6 {P:Program} {op:BinOp} {a b:Bool} {p:Prop} {d:D} (t:TypeId) (ht:P.underlying t=some .bool) (h:Hr op a b=some (p,d)):∃ v,d=.raw v∧∀ w,(Go.binOp op t (.bool a) (.bool b)).run P w=.ok v w:=by
 have he:∀ w,(Op.equal t (.bool a) (.bool b)).run P w=.ok (a == b) w:=fun w=>Uc fun n=>run_equalIn_bool' w n t a b ht
 cases op <;> simp only[Hr,Option.some.injEq,Prod.mk.injEq,reduceCtorEq] at h <;> obtain ⟨rfl,rfl⟩:=h <;> refine ⟨_,rfl,fun w=>?_⟩ <;> simp only[Go.binOp]
 ·simp [he]
 ·simp [he,bne]
theorem Eo {P:Program} {op:BinOp} {x y:Option Addr} (Yg:x=none∨y=none) {p:Prop} {d:D} {t e:TypeId} (ht:P.underlying t=some (.pointer e)) (h:xG op (x.isNone && y.isNone)=some (p,d)):∃ v,d=.raw v∧∀ w,(Go.binOp op t (.pointer x) (.pointer y)).run P w=.ok v w:=by
 have he:∀ w,(Op.equal t (.pointer x) (.pointer y)).run P w=.ok (x.isNone && y.isNone) w:=fun w=>Uc fun n=>u0 ht n Yg w
 cases op <;> simp only[xG,Option.some.injEq,Prod.mk.injEq,reduceCtorEq] at h <;> obtain ⟨rfl,rfl⟩:=h <;> refine ⟨_,rfl,fun w=>?_⟩ <;> simp only[Go.binOp]
 ·simp [he]
 ·simp [he]
theorem Ep {P:Program} {L:Zd} (hL:Zr P L) {t:TypeId} (h:xH L t=true):∃ e,P.underlying t=some (.pointer e):=by
 unfold xH at h
 split at h
 ·rename_i e _ _ _ he;exact ⟨e,uS (hL _ _ he) rfl⟩
 ·cases h
theorem u7 {P:Program} {L:Zd} (hL:Zr P L) {t:TypeId} (h:Ht L t=true):P.underlying t=some .bool:=by
 unfold Ht at h
 split at h
 ·rename_i he;exact uR (hL _ _ he) rfl
 ·cases h
theorem Yh {α:Type} {c:Bool} {x:Option α} {y:α} (h:(bif c then x else none)=some y):c=true∧x=some y:=by cases c <;> simp at h;exact ⟨rfl,h⟩
theorem u9 {P:Program} {L:Zd} (hL:Zr P L) {base nt:Nat} {s:St} {o:Oper} {op:BinOp} {t yt:TypeId} {x y:Operand} (ho:o.op=.binOp op t x y yt) {p:Prop} {d:D}
  (h:Hu L op t (Qp s.fr x) (Qp s.fr y)=some (p,d)) (hp:p):Ki P base nt o s d:=by
 intro Z pl a w r
 have hx:=r.eval x
 have hy:=r.eval y
 generalize Qp s.fr x=dx at *
 generalize Qp s.fr y=dy at *
 have fin:∀ (vx vy:Value),a.eval x=vx→a.eval y=vy→(∀ w,(eqGuard op t x y vx vy).run P w=.ok () w)→(∃ v,d=.raw v∧∀ w,(Go.binOp op t vx vy).run P w=.ok v w) →
   ∃ v,Qv Z s.h pl w d v∧∀ w':World,(∀ b,b<w.heap.size→w'.heap[b]? = w.heap[b]?)→(execOp a.eval o).run P w'=.ok (.value v) w':=by
  intro vx vy e1 e2 hg ⟨v,hd,hv⟩
  refine ⟨v,hd▸.cl _ _ (.raw v),fun w' _=>?_⟩
  simp only[execOp,ho,e1,e2]
  refine uW P w' ?_
  simp [hg,hv]
 unfold Hu at h
 split at h
 ·rename_i k i k' j
  have e1:=ZC hx;have e2:=ZC hy
  refine fin _ _ e1 e2 (fun w=>by cases op <;> simp [eqGuard]) ?_
  cases hs:NI op
  ·rw[hs] at h
   simp only[cond_false] at h
   obtain ⟨hk,h1⟩:=Yh h
   have:=IntKind.Ub hk;subst this
   exact uX t h1 hp
  ·rw[hs] at h
   exact uY t h hp
 ·obtain ⟨ht,h⟩:=Yh h
  exact fin _ _ (ZC hx) (ZC hy) (fun w=>by cases op <;> simp [eqGuard]) (u6 t (u7 hL ht) h)
 ·exact fin _ _ (ZC hx) (ZC hy) (fun w=>by cases op <;> simp [eqGuard]) (uZ t h hp)
 ·obtain ⟨ht,h⟩:=Yh h
  obtain ⟨e,he⟩:=Ep hL ht
  exact fin _ _ (ZC hx) (ZC hy) (fun w=>by cases op <;> simp [eqGuard]) (Eo (.inl rfl) he h)
 ·obtain ⟨ht,h⟩:=Yh h
  obtain ⟨e,he⟩:=Ep hL ht
  obtain ⟨_,_,aa,hv,_⟩:=vM hx
  exact fin _ _ hv (ZC hy) (fun w=>by cases op <;> simp [eqGuard]) (Eo (.inr rfl) he h)
 ·obtain ⟨ht,h⟩:=Yh h
  obtain ⟨e,he⟩:=Ep hL ht
  obtain ⟨_,_,_,hv,_⟩:=Aa hx
  exact fin _ _ hv (ZC hy) (fun w=>by cases op <;> simp [eqGuard]) (Eo (.inr rfl) he h)
 ·obtain ⟨ht,h⟩:=Yh h
  obtain ⟨e,he⟩:=Ep hL ht
  obtain ⟨_,_,aa,hv,_⟩:=vM hy
  exact fin _ _ (ZC hx) hv (fun w=>by cases op <;> simp [eqGuard]) (Eo (.inl rfl) he h)
 ·obtain ⟨ht,h⟩:=Yh h
  obtain ⟨e,he⟩:=Ep hL ht
  obtain ⟨_,_,_,hv,_⟩:=Aa hy
  exact fin _ _ (ZC hx) hv (fun w=>by cases op <;> simp [eqGuard]) (Eo (.inl rfl) he h)
 ·cases h
variable {Z:Nat→Prop}
section
variable {P:Program} {L:Zd} {base nt:Nat} {s:St} {o:Oper}
theorem Ud {x:Operand} (ho:o.op=.move x∨o.op=.assign x):Ki P base nt o s (Qp s.fr x):=by
 intro Z pl a w r
 refine ⟨_,r.eval x,fun w' _=>?_⟩
 rcases ho with ho | ho <;> simp [execOp,ho]
theorem Qaa {c x y:Operand} (ho:o.op=.pick c x y) {b:Bool} (hc:Qp s.fr c=.raw (.bool b)):Ki P base nt o s (bif b then Qp s.fr x else Qp s.fr y):=by
 intro Z pl a w r
 have h:=r.eval c
 rw[hc] at h
 have e:=ZC h
 cases b
 ·exact ⟨_,r.eval y,fun w' _=>by simp [execOp,ho,e,asBool]⟩
 ·exact ⟨_,r.eval x,fun w' _=>by simp [execOp,ho,e,asBool]⟩
def mk (y:Ty) (cells:List D):D:=bif y.k.agg then .agg (cells.take y.size) else nth cells 0
def vN (y:Ty):D:=bif y.k.agg then .agg (y.zero.map ZQ) else nth (y.zero.map ZQ) 0
theorem Ue {P:Program} {t:TypeId} {y:Ty} (h:KA P t y) {N:Nat→Prop} (w:World):∃ z,Cl N w (vN y) z∧∀ w',(Go.zeroValue t).run P w'=.ok z w':=by
 have h1:=h.info
 have h2:=h.uO
 cases hi:P.info? t with
 | none=>rw[hi] at h1;cases h1
 | some i=>
  rw[hi] at h1 h2
  simp at h1
  obtain ⟨_,_,z,hz,NF⟩:=h1
  simp [hz] at h2
  refine ⟨z,?_,fun w=>by simp [Go.zeroValue,Go.typeInfo,hi,hz]⟩
  unfold vN
  rw[← h2,← NF]
  cases z with
  | agg cs=>
   simp only[Hm,cond_true]
   refine .agg _ cs.toList (by simp [Value.cells]) fun i hi=>?_
   have ZE:i<cs.size:=by simpa [Value.cells] using hi
   have e1:nth ((Value.agg cs).cells.toList.map ZQ) i=ZQ (QJ cs.toList i):=by
    simp [nth,QJ,Value.cells,List.getD_eq_getElem?_getD,ZE]
   rw[e1];exact kj N w _
  | _=>simp only[Hm,cond_false,Value.cells,nth,List.map_cons,List.map_nil,List.getD_cons_zero];exact kj N w _
theorem NJ {cs:List D} {k i:Nat} (h:i<k):nth (cs.take k) i=nth cs i:=by
 simp only[nth,List.getD_eq_getElem?_getD,List.getElem?_take,h,if_true]
theorem xI {cs:List D} {k i:Nat}:nth (cs.drop k) i=nth cs (k+i):=by
 simp only[nth,List.getD_eq_getElem?_getD,List.getElem?_drop]
theorem Uf {t:TypeId} {y:Ty} (ht:KA P t y) (w:World) (ad:Addr) (cells:List D) {h:List Ob} {pl:List Pl} (w0:World) (Zz:y.size≤cells.length) (h1:y.k.agg=false→y.size=1)
  (hc:∀ j,j<y.size→∃ v,w.cell? (ad.add j)=some v∧Qv Z h pl w0 (nth cells j) v) :
  ∃ v,Qv Z h pl w0 (mk y cells) v∧∀ w',(∀ j v,j<y.size→w.cell? (ad.add j)=some v→w'.cell? (ad.add j)=some v)→(loadVar t ad).run P w'=.ok v w':=by
 unfold mk
 cases hk:y.k.agg
 ·have hs:=h1 hk
  obtain ⟨v,hv,hr⟩:=hc 0 (by omega)
  refine ⟨v,hr,fun w' Yi=>?_⟩
  have:=Yi 0 v (by omega) hv
  simp only[Addr.add_zero'] at this
  simp [loadVar,ht.isAgg,hk,this]
 ·let f:Nat→Value:=fun j=>(w.cell? (ad.add j)).getD Go.undef
  refine ⟨.agg ((List.range y.size).map f).toArray,.agg _ _ (by simp;omega) (fun i hi=>?_),fun w' Yi=>?_⟩
  ·have ZE:i<y.size:=by simp at hi;omega
   obtain ⟨v,hv,hr⟩:=hc i ZE
   rw[NJ ZE]
   have:QJ ((List.range y.size).map f) i=v:=by
    simp [QJ,List.getD_eq_getElem?_getD,ZE,f,hv]
   rw[this];exact hr
  ·have hl:(loadCells ad y.size).run P w'=.ok ((List.range y.size).map f).toArray w':=run_loadCells w' ad y.size f (fun j hj=>by
    obtain ⟨v,hv,_⟩:=hc j hj
    rw[Yi j v hj hv];simp [f,hv])
   simp [loadVar,ht.isAgg,hk,ht.sizeOf,hl]
def Ab (L:Zd) (h:List Ob) (t:TypeId) (d:D):Ev:=
 match ty L t with
 | none=>none
 | some y=>
  match d with
  | .ptr l g i j=>match h[l]? with
   | some o=>some (g=o.gen∧i<o.n∧j+y.size≤o.sz∧(y.k.agg=false→y.size=1),mk y ((o.row i).drop j))
   | none=>none
  | .ip cells=>some (y.size≤cells.length∧(y.k.agg=false→y.size=1),mk y cells)
  | _=>none
theorem zf (b o n:Nat):(⟨b,o,none⟩:Addr).add n=⟨b,o+n,none⟩:=Addr.add_lit b o n
theorem Ug (hL:Zr P L) {t:TypeId} {x:Operand} (ho:o.op=.load t x) {p:Prop} {d:D} (h:Ab L s.h t (Qp s.fr x)=some (p,d)) (hp:p):Ho P base nt o s d:=by
 intro Z pl a w r
 have hx:=r.eval x
 unfold Ab at h
 cases ht:ty L t with
 | none=>rw[ht] at h;cases h
 | some y=>
  have hy:=hL t y ht
  rw[ht] at h
  dsimp only at h
  generalize Qp s.fr x=dx at *
  split at h
  ·rename_i l g i j
   split at h
   ·rename_i ob QY
    simp only[Option.some.injEq,Prod.mk.injEq] at h
    obtain ⟨rfl,rfl⟩:=h
    obtain ⟨hg,hi,hj,h1⟩:=hp
    obtain ⟨o',p',ad,hv,Zb,Zm,Zj,XH,KY⟩:=vM hx
    rw[QY] at Zb;cases Zb
    obtain ⟨b,q,rfl,rfl⟩:=KY hg
    obtain ⟨QI,xx⟩:=r.o.at_ l ob b q QY Zm
    obtain ⟨c,el,hb,Zz,Z5,ZN⟩:=xx.cells Zj
    obtain ⟨v,hr,QS⟩:=Uf hy w ⟨b,q+(i*ob.sz+j),none⟩ ((ob.row i).drop j) (h:=s.h) (pl:=pl) w (by simp [Z5 i hi];omega) h1 (fun k hk=>by
     obtain ⟨v,hv,hr⟩:=ZN i (j+k) hi (by omega)
     refine ⟨v,?_,by rw[xI];exact hr⟩
     rw[zf,cell_of_row w b _ c el (0,0) hb,← hv]
     congr 1;omega)
    refine ⟨v,hr,fun w' e=>?_⟩
    have:=QS w' (fun k v hk hv=>e _ _ hv)
    simp [execOp,ho,hv,Instr.loadAt,Instr.sureAddr,this]
   ·cases h
  ·rename_i cells
   simp only[Option.some.injEq,Prod.mk.injEq] at h
   obtain ⟨rfl,rfl⟩:=h
   obtain ⟨Zz,h1⟩:=hp
   obtain ⟨b,q,vs,hv,hc⟩:=Aa hx
   obtain ⟨v,hr,QS⟩:=Uf hy w ⟨b,q,none⟩ cells (h:=s.h) (pl:=pl) w Zz h1 (fun k hk=>by
    obtain ⟨⟨_,h2⟩,h3⟩:=hc k (by omega)
    exact ⟨vs k,by rw[zf];exact h2,.cl _ _ h3⟩)
   refine ⟨v,hr,fun w' e=>?_⟩
   have:=QS w' (fun k v hk hv=>e _ _ hv)
   simp [execOp,ho,hv,Instr.loadAt,Instr.sureAddr,this]
  ·cases h
theorem Uh (hL:Zr P L) {t:TypeId} {x:Operand} (ho:o.op=.load t x) {p:Prop} {d:D} (h:Ab L s.h t (Qp s.fr x)=some (p,d)) (hp:p):Ki P base nt o s d:=(Ug hL ho h hp).up
def BQ (L:Zd) (t:TypeId) (f:Nat):Option (Nat × Ty):=
 match ty L t with
 | some ⟨.struct fs,_,_,_⟩=>match fs[f]? with
  | some (off,u)=>match ty L u with
   | some y=>some (off,y)
   | none=>none
  | none=>none
 | _=>none
theorem NK (hL:Zr P L) {t:TypeId} {f off:Nat} {y:Ty} (h:BQ L t f=some (off,y)):∃ g fd,P.underlying t=some (.struct g)∧g[f]? = some fd∧fd.offset=off∧KA P fd.type y:=by
 unfold BQ at h
 split at h
 ·rename_i fs _ _ _ he
  split at h
  ·rename_i Er u hf
   split at h
   ·rename_i y' hu
    simp only[Option.some.injEq,Prod.mk.injEq] at h
    obtain ⟨rfl,rfl⟩:=h
    obtain ⟨g,hg,hm⟩:=Ua (hL _ _ he) rfl
    rw[← hm] at hf
    simp only[List.getElem?_map,Option.map_eq_some_iff,Prod.mk.injEq] at hf
    obtain ⟨fd,h1,h2,h3⟩:=hf
    exact ⟨g,fd,hg,by simpa using h1,h2,by rw[h3];exact hL _ _ hu⟩
   ·cases h
  ·cases h
 ·cases h
def Hv (L:Zd) (t:TypeId) (f:Nat) (d:D):Ev:=
 match BQ L t f with
 | none=>none
 | some (off,y)=>match d with
  | .ptr l g i j=>some (y.size≠0,.ptr l g i (j+off))
  | .ip cells=>some (y.size≠0,.ip (cells.drop off))
  | _=>none
theorem Qab (hL:Zr P L) {t:TypeId} {f:Nat} {x:Operand} (ho:o.op=.fieldAddr t x f) {p:Prop} {d:D} (h:Hv L t f (Qp s.fr x)=some (p,d)) (hp:p):Ki P base nt o s d:=by
 intro Z pl a w r
 have hx:=r.eval x
 unfold Hv at h
 split at h
 ·cases h
 ·rename_i off y hf
  obtain ⟨g,fd,hg,xJ,rfl,hy⟩:=NK hL hf
  have fin:∀ (b q:Nat),y.size≠0→a.eval x=.pointer (some ⟨b,q,none⟩)→∀ w':World,(execOp a.eval o).run P w'=.ok (.value (.pointer (some ⟨b,q+fd.offset,none⟩))) w':=by
   intro b q NL he w'
   simp [execOp,ho,he,Instr.fieldAt,run_underlying hg,xJ,Instr.sureAddr,fieldPlace,hy.sizeOf,NL,zf]
  generalize Qp s.fr x=dx at *
  split at h
  ·rename_i l g i j
   simp only[Option.some.injEq,Prod.mk.injEq] at h
   obtain ⟨rfl,rfl⟩:=h
   obtain ⟨ob,pp,ad,hv,QY,Kb,Zj,jc,KY⟩:=vM hx
   by_cases hl:g=ob.gen
   ·obtain ⟨b,q,rfl,rfl⟩:=KY hl
    exact ⟨_,.ptr _ _ _ _ ob _ _ QY Kb Zj jc (fun _=>⟨b,q,rfl,by simp only[Addr.mk.injEq,and_true,true_and];omega⟩),fun w' _=>fin _ _ hp hv w'⟩
   ·obtain ⟨b,q,sp⟩:=ad
    refine ⟨.pointer (some ((⟨b,q,sp⟩:Addr).add fd.offset)),.ptr _ _ _ _ ob _ _ QY Kb Zj jc (fun h=>absurd h hl),fun w' _=>?_⟩
    simp [execOp,ho,hv,Instr.fieldAt,run_underlying hg,xJ,Instr.sureAddr,fieldPlace,hy.sizeOf,hp]
  ·rename_i cells
   simp only[Option.some.injEq,Prod.mk.injEq] at h
   obtain ⟨rfl,rfl⟩:=h
   obtain ⟨b,q,vs,hv,hc⟩:=Aa hx
   refine ⟨_,.cl _ _ (.ip _ b (q+fd.offset) (fun j=>vs (fd.offset+j)) (fun j hj=>?_) (fun j hj=>?_)),fun w' _=>fin _ _ hp hv w'⟩
   ·obtain ⟨⟨h1,h2⟩,h3⟩:=hc (fd.offset+j) (by simp at hj;omega)
    exact ⟨h1,by rw[Nat.add_assoc];exact h2⟩
   ·obtain ⟨⟨h1,h2⟩,h3⟩:=hc (fd.offset+j) (by simp at hj;omega)
    rw[xI];exact h3
  ·cases h
theorem Ui {t:TypeId} {y:Ty} (hy:KA P t y) (cs:List D) (vs:List Value) {h:List Ob} {pl:List Pl} {w0:World} (hl:vs.length=cs.length) (hr:∀ i,i<cs.length→Qv Z h pl w0 (nth cs i) (QJ vs i)) (off:Nat)
  (Zz:off+y.size≤cs.length) (h1:y.k.agg=false→y.size=1):∃ v,Qv Z h pl w0 (mk y (cs.drop off)) v∧∀ w',(part t vs.toArray off).run P w'=.ok v w':=by
 unfold mk
 cases hk:y.k.agg
 ·have hs:=h1 hk
  refine ⟨QJ vs off,by simp only[cond_false];rw[xI];exact hr off (by omega),fun w'=>?_⟩
  have Qd:off<vs.length:=by omega
  simp [part,hy.isAgg,hk,QJ,List.getD_eq_getElem?_getD,Qd]
 ·refine ⟨.agg ((vs.drop off).take y.size).toArray,.agg _ _ (by simp;omega) (fun i hi=>?_),fun w'=>?_⟩
  ·have ZE:i<y.size:=by simp at hi;omega
   rw[NJ ZE,xI]
   have:QJ ((vs.drop off).take y.size) i=QJ vs (off+i):=by
    simp [QJ,List.getD_eq_getElem?_getD,ZE]
   rw[this];exact hr _ (by omega)
  ·simp [part,hy.isAgg,hk,hy.sizeOf]
def Hw (L:Zd) (t:TypeId) (f:Nat) (d:D):Ev:=
 match BQ L t f with
 | none=>none
 | some (off,y)=>match d with
  | .agg cs=>some (off+y.size≤cs.length∧(y.k.agg=false→y.size=1),mk y (cs.drop off))
  | _=>none
theorem Qac (hL:Zr P L) {t:TypeId} {f:Nat} {x:Operand} (ho:o.op=.field t x f) {p:Prop} {d:D} (h:Hw L t f (Qp s.fr x)=some (p,d)) (hp:p):Ki P base nt o s d:=by
 intro Z pl a w r
 have hx:=r.eval x
 unfold Hw at h
 split at h
 ·cases h
 ·rename_i off y hf
  obtain ⟨g,fd,hg,xJ,rfl,hy⟩:=NK hL hf
  generalize Qp s.fr x=dx at *
  split at h
  ·rename_i cs
   simp only[Option.some.injEq,Prod.mk.injEq] at h
   obtain ⟨rfl,rfl⟩:=h
   obtain ⟨vs,hv,hl,hr⟩:=BP hx
   obtain ⟨v,NM,QS⟩:=Ui hy cs vs hl hr fd.offset hp.1 hp.2
   refine ⟨v,NM,fun w' _=>?_⟩
   simp [execOp,ho,hv,Instr.field,run_underlying hg,xJ,asAgg,QS]
  ·cases h
def BR (L:Zd) (t:TypeId):Option (Nat × Bool × Nat):=
 match ty L t with
 | some ⟨.slice e,_,_,_⟩=>match ty L e with
  | some y=>some (y.size,true,0)
  | none=>none
 | some ⟨.array n e,_,_,_⟩=>match ty L e with
  | some y=>some (y.size,false,n)
  | none=>none
 | _=>none
theorem Qad (hL:Zr P L) {t:TypeId} {sz n:Nat} (h:BR L t=some (sz,true,n)):∃ e y,P.underlying t=some (.slice e)∧KA P e y∧y.size=sz:=by
 unfold BR at h
 split at h
 ·rename_i e _ _ _ he
  split at h
  ·rename_i y hy
   simp only[Option.some.injEq,Prod.mk.injEq] at h
   exact ⟨e,y,ze (hL _ _ he) rfl,hL _ _ hy,h.1⟩
  ·cases h
 ·split at h
  ·simp at h
  ·cases h
 ·cases h
theorem Qae (hL:Zr P L) {t:TypeId} {sz n:Nat} (h:BR L t=some (sz,false,n)):∃ e y,P.underlying t=some (.array n e)∧KA P e y∧y.size=sz:=by
 unfold BR at h
 split at h
 ·split at h
  ·simp at h
  ·cases h
 ·rename_i e _ _ _ he
  split at h
  ·rename_i y hy
   simp only[Option.some.injEq,Prod.mk.injEq] at h
   obtain ⟨rfl,_,rfl⟩:=h
   exact ⟨e,y,NG (hL _ _ he) rfl,hL _ _ hy,rfl⟩
  ·cases h
 ·cases h
def Hx (L:Zd) (h:List Ob) (t:TypeId) (d ix:D):Ev:=
 match ix with
 | .raw (.int _ i)=>match BR L t with
  | some (sz,true,_)=>match d with
   | .ref l g off len=>match h[l]? with
    | some o=>some (g=o.gen∧o.sz=sz∧0≤i∧i<len,.ptr l g (off+i.toNat) 0)
    | none=>none
   | .imm z n row=>some (z=sz∧0≤i∧i<n,.ip (row i.toNat))
   | _=>none
  | some (sz,false,n)=>match d with
   | .ptr l g a j=>some (0≤i∧i<n,.ptr l g a (j+i.toNat*sz))
   | .ip cells=>some (0≤i∧i<n,.ip (cells.drop (i.toNat*sz)))
   | _=>none
  | none=>none
 | _=>none
theorem Qaf (hL:Zr P L) {t:TypeId} {x ix:Operand} (ho:o.op=.indexAddr t x ix) {p:Prop} {d:D} (h:Hx L s.h t (Qp s.fr x) (Qp s.fr ix)=some (p,d)) (hp:p):Ki P base nt o s d:=by
 intro Z pl a w r
 have hx:=r.eval x
 have NN:=r.eval ix
 unfold Hx at h
 generalize Qp s.fr x=dx at *
 generalize Qp s.fr ix=di at *
 split at h
 ·rename_i k i
  have hi:=ZC NN
  split at h
  ·rename_i sz _ he
   obtain ⟨e,y,hu,hy,rfl⟩:=Qad hL he
   split at h
   ·rename_i l g off len
    split at h
    ·rename_i ob QY
     simp only[Option.some.injEq,Prod.mk.injEq] at h
     obtain ⟨rfl,rfl⟩:=h
     obtain ⟨hg,Zz,h0,h1⟩:=hp
     obtain ⟨o',p',ad,cap,hv,Zb,Zm,Zj,XH,KY⟩:=xF hx
     rw[QY] at Zb;cases Zb
     rcases KY hg with ⟨h2,_⟩ | ⟨b,q,c,el,Kb,Yj,hb,hc,km⟩
     ·omega
     ·refine ⟨.pointer (some ⟨b,q+((off+i.toNat)*ob.sz+0),none⟩),.ptr _ _ _ _ ob _ _ QY Zm Zj XH (fun _=>⟨b,q,Kb,rfl⟩),fun w' _=>?_⟩
      simp [execOp,ho,hv,hi,Yj,Instr.indexAt,asIntOf,run_underlying hu,h0,h1,hy.sizeOf,zf,Zz]
      rw[Nat.add_mul];omega
    ·cases h
   ·rename_i z n row
    simp only[Option.some.injEq,Prod.mk.injEq] at h
    obtain ⟨rfl,rfl⟩:=h
    obtain ⟨rfl,h0,h1⟩:=hp
    obtain ⟨ad,cap,b,q,vs,hv,Yj,km,hs,hc⟩:=Hn hx
    have Qd:i.toNat<n:=by omega
    refine ⟨.pointer (some ⟨b,q+i.toNat*y.size,none⟩),.cl _ _ (.ip _ b _ (fun j=>vs i.toNat j) (fun j hj=>?_) (fun j hj=>?_)),fun w' _=>?_⟩
    ·rw[hs _ Qd] at hj
     obtain ⟨⟨h2,h3⟩,h4⟩:=hc i.toNat j Qd hj
     exact ⟨h2,by rw[Nat.add_assoc];exact h3⟩
    ·rw[hs _ Qd] at hj
     exact (hc i.toNat j Qd hj).2
    ·simp [execOp,ho,hv,hi,Yj (by omega),Instr.indexAt,asIntOf,run_underlying hu,h0,h1,hy.sizeOf,zf]
   ·cases h
  ·rename_i sz n he
   obtain ⟨e,y,hu,hy,rfl⟩:=Qae hL he
   split at h
   ·rename_i l g i0 j
    simp only[Option.some.injEq,Prod.mk.injEq] at h
    obtain ⟨rfl,rfl⟩:=h
    obtain ⟨h0,h1⟩:=hp
    obtain ⟨ob,pp,ad,hv,QY,Kb,Zj,jc,KY⟩:=vM hx
    refine ⟨.pointer (some (ad.add (i.toNat*y.size))),.ptr _ _ _ _ ob _ _ QY Kb Zj jc (fun hg=>?_),fun w' _=>?_⟩
    ·obtain ⟨b,q,rfl,rfl⟩:=KY hg
     exact ⟨b,q,rfl,by rw[zf];simp only[Addr.mk.injEq,and_true,true_and];omega⟩
    ·simp [execOp,ho,hv,hi,Instr.indexAt,asIntOf,run_underlying hu,h0,h1,hy.sizeOf,Instr.sureAddr]
   ·rename_i cells
    simp only[Option.some.injEq,Prod.mk.injEq] at h
    obtain ⟨rfl,rfl⟩:=h
    obtain ⟨h0,h1⟩:=hp
    obtain ⟨b,q,vs,hv,hc⟩:=Aa hx
    refine ⟨_,.cl _ _ (.ip _ b (q+i.toNat*y.size) (fun j=>vs (i.toNat*y.size+j)) (fun j hj=>?_) (fun j hj=>?_)),fun w' _=>?_⟩
    ·obtain ⟨⟨h1,h2⟩,h3⟩:=hc (i.toNat*y.size+j) (by simp at hj;omega)
     exact ⟨h1,by rw[Nat.add_assoc];exact h2⟩
    ·obtain ⟨⟨h1,h2⟩,h3⟩:=hc (i.toNat*y.size+j) (by simp at hj;omega)
     rw[xI];exact h3
    ·simp [execOp,ho,hv,hi,Instr.indexAt,asIntOf,run_underlying hu,h0,h1,hy.sizeOf,Instr.sureAddr,zf]
   ·cases h
  ·cases h
 ·cases h
def Hy (L:Zd) (t:TypeId) (d ix:D):Ev:=
 match ix with
 | .raw (.int _ i)=>match d with
  | .agg cs=>match ty L t with
   | some ⟨.array n e,_,_,_⟩=>match ty L e with
    | some y=>some (0≤i∧i<n∧i.toNat*y.size+y.size≤cs.length∧(y.k.agg=false→y.size=1),mk y (cs.drop (i.toNat*y.size)))
    | none=>none
   | _=>none
  | .raw (.string b)=>match ty L t with
   | some ⟨.str,_,_,_⟩=>some (0≤i∧i<b.size,.raw (.int .u8 (b.data.getD i.toNat 0).toNat))
   | _=>none
  | _=>none
 | _=>none
theorem Qag (hL:Zr P L) {t:TypeId} {x ix:Operand} (ho:o.op=.index t x ix) {p:Prop} {d:D} (h:Hy L t (Qp s.fr x) (Qp s.fr ix)=some (p,d)) (hp:p):Ki P base nt o s d:=by
 intro Z pl a w r
 have hx:=r.eval x
 have NN:=r.eval ix
 unfold Hy at h
 generalize Qp s.fr x=dx at *
 generalize Qp s.fr ix=di at *
 split at h
 ·rename_i k i
  have hi:=ZC NN
  split at h
  ·rename_i cs
   split at h
   ·rename_i n e _ _ _ he
    split at h
    ·rename_i y je
     have hy:=hL _ _ je
     simp only[Option.some.injEq,Prod.mk.injEq] at h
     obtain ⟨rfl,rfl⟩:=h
     obtain ⟨h0,h1,h2,h3⟩:=hp
     obtain ⟨vs,hv,hl,hr⟩:=BP hx
     obtain ⟨v,NM,QS⟩:=Ui hy cs vs hl hr _ h2 h3
     refine ⟨v,NM,fun w' _=>?_⟩
     simp [execOp,ho,hv,hi,Instr.index,asIntOf,run_underlying (NG (hL _ _ he) rfl),h0,h1,hy.sizeOf,QS]
    ·cases h
   ·cases h
  ·rename_i b
   split at h
   ·rename_i he
    simp only[Option.some.injEq,Prod.mk.injEq] at h
    obtain ⟨rfl,rfl⟩:=h
    obtain ⟨h0,h1⟩:=hp
    have hv:=ZC hx
    refine ⟨_,.cl _ _ (.raw _),fun w' _=>?_⟩
    have Qd:i.toNat<b.size:=by omega
    have:b[i.toNat]? = some (b.data.getD i.toNat 0):=by
     rw[getElem?_pos b i.toNat Qd]
     show some (b.data[i.toNat])=_
     rw[Array.getD_eq_getD_getElem?,Array.getElem?_eq_getElem (by exact Qd)]
     rfl
    simp [execOp,ho,hv,hi,Instr.index,asIntOf,run_underlying (Em (hL _ _ he) rfl),h0,this]
   ·cases h
  ·cases h
 ·cases h
theorem Qah {x:Operand} {i:Nat} (ho:o.op=.extract x i) {cs:List D} (hx:Qp s.fr x=.tup cs) (hi:i<cs.length):Ki P base nt o s (nth cs i):=by
 intro Z pl a w r
 have h:=r.eval x
 rw[hx] at h
 obtain ⟨vs,hv,hl,hr⟩:=uU h
 refine ⟨_,hr i hi,fun w' _=>?_⟩
 have:i<vs.length:=by omega
 simp [execOp,ho,hv,Instr.extract,QJ,List.getD_eq_getElem?_getD,this]
theorem Qai {u:UnOp} {t:TypeId} {x:Operand} (ho:o.op=.unOp u t x) {b:Bool} (hu:u=.not) (hx:Qp s.fr x=.raw (.bool b)):Ki P base nt o s (.raw (.bool (!b))):=by
 intro Z pl a w r
 have h:=r.eval x
 rw[hx] at h
 have hv:=ZC h
 exact ⟨_,.cl _ _ (.raw _),fun w' _=>by simp [execOp,ho,hv,hu,Op.unary]⟩
theorem Qaj {u:UnOp} {t:TypeId} {x:Operand} (ho:o.op=.unOp u t x) {k:IntKind} {n:Int} (hu:u=.neg) (hx:Qp s.fr x=.raw (.int k n)):Ki P base nt o s (.raw (.int k (k.wrap (0 - n)))):=by
 intro Z pl a w r
 have h:=r.eval x
 rw[hx] at h
 have hv:=ZC h
 exact ⟨_,.cl _ _ (.raw _),fun w' _=>by simp [execOp,ho,hv,hu,Op.unary,Op.intArith]⟩
theorem Qak {u:UnOp} {t:TypeId} {x:Operand} (ho:o.op=.unOp u t x) {k:IntKind} {n:Int} (hu:u=.xor) (hx:Qp s.fr x=.raw (.int k n)):Ki P base nt o s (.raw (.int k (bits .xor k (if k.signed then -1 else k.max) n))):=by
 intro Z pl a w r
 have h:=r.eval x
 rw[hx] at h
 have hv:=ZC h
 exact ⟨_,.cl _ _ (.raw _),fun w' _=>by simp [execOp,ho,hv,hu,Op.unary,Op.intBits,bits]⟩
def D.there:D→Bool
 | .ptr _ _ _ _ | .ip _ | .clo _ _ _=>true
 | .raw (.func (.func _) _ _)=>true
 | _=>false
theorem Qal {x:Operand} (ho:o.op=.nilCheck x) {d:D} (hx:Qp s.fr x=d) (hd:d.there=true):Ki P base nt o s d:=by
 intro Z pl a w r
 have h:=r.eval x
 rw[hx] at h
 cases d <;> try (simp only[D.there,Bool.false_eq_true] at hd;done)
 case ptr l g i j=>
  obtain ⟨_,_,ad,hv,_⟩:=vM h
  exact ⟨_,h,fun w' _=>by simp [execOp,ho,hv]⟩
 case ip cs=>
  obtain ⟨_,_,_,hv,_⟩:=Aa h
  exact ⟨_,h,fun w' _=>by simp [execOp,ho,hv]⟩
 case raw v=>
  have hv:=ZC h
  cases v with
  | func fn first QB=>
   cases fn with
   | func f=>exact ⟨_,h,fun w' _=>by simp [execOp,ho,hv]⟩
   | _=>simp only[D.there,Bool.false_eq_true] at hd
  | _=>simp only[D.there,Bool.false_eq_true] at hd
 case clo f nf cs=>
  obtain ⟨vs,hv,_⟩:=NH h
  exact ⟨_,h,fun w' _=>by simp [execOp,ho,hv]⟩
def Hz (L:Zd) (src dst:TypeId):D→Ev
 | .raw (.int _ n)=>match ty L dst,ty L src with
  | some ⟨.int k,_,_,_⟩,some _=>some (True,.raw (.int k (k.wrap n)))
  | _,_=>none
 | .raw (.string b)=>match ty L dst,ty L src with
  | some ⟨.str,_,_,_⟩,some ⟨.str,_,_,_⟩=>some (True,.raw (.string b))
  | _,_=>none
 | _=>none
theorem Qam (hL:Zr P L) {src dst:TypeId} {x:Operand} (ho:o.op=.convert src dst x) {p:Prop} {d:D} (h:Hz L src dst (Qp s.fr x)=some (p,d)):Ki P base nt o s d:=by
 intro Z pl a w r
 have hx:=r.eval x
 unfold Hz at h
 generalize Qp s.fr x=dx at *
 split at h
 ·split at h
  ·rename_i k _ _ _ ys hd hs
   simp only[Option.some.injEq,Prod.mk.injEq] at h
   obtain ⟨rfl,rfl⟩:=h
   have hv:=ZC hx
   refine ⟨_,.cl _ _ (.raw _),fun w' _=>?_⟩
   obtain ⟨sd,h1,h2⟩:=(hL _ _ hs).under
   simp [execOp,ho,hv,convert,run_underlying h1,run_underlying (vL (hL _ _ hd) rfl),Conv.intToInt]
  ·cases h
 ·split at h
  ·rename_i hd hs
   simp only[Option.some.injEq,Prod.mk.injEq] at h
   obtain ⟨rfl,rfl⟩:=h
   have hv:=ZC hx
   refine ⟨_,.cl _ _ (.raw _),fun w' _=>?_⟩
   simp [execOp,ho,hv,convert,run_underlying (Em (hL _ _ hs) rfl),run_underlying (Em (hL _ _ hd) rfl)]
  ·cases h
 ·cases h
def HA (L:Zd) (t:TypeId):D→Ev
 | .ref _ _ _ n=>match ty L t with
  | some ⟨.slice _,_,_,_⟩=>some (True,.raw (.int .i64 n))
  | _=>none
 | .imm _ n _=>match ty L t with
  | some ⟨.slice _,_,_,_⟩=>some (True,.raw (.int .i64 n))
  | _=>none
 | .nil=>match ty L t with
  | some ⟨.slice _,_,_,_⟩=>some (True,.raw (.int .i64 0))
  | _=>none
 | .raw (.string b)=>match ty L t with
  | some ⟨.str,_,_,_⟩=>some (True,.raw (.int .i64 b.size))
  | _=>none
 | _=>none
theorem XJ {P:Program} {o:Oper} {a:Act} {bi:Builtin} {args:Array Operand} {ZX:Array TypeId} (ho:o.op=.call ⟨.builtin bi,args,ZX⟩) (w:World) :
  (execOp a.eval o).run P w=(builtin bi ZX o.type (args.map fun | .const _=>true | _=>false) (args.map a.eval)).run P w:=by
 simp [execOp,ho,resolve,invoke]
 rfl
theorem HB (hL:Zr P L) {x:Operand} {t:TypeId} (ho:o.op=.call ⟨.builtin .len,#[x],#[t]⟩) {p:Prop} {d:D} (h:HA L t (Qp s.fr x)=some (p,d)):Ki P base nt o s d:=by
 intro Z pl a w r
 have hx:=r.eval x
 unfold HA at h
 generalize Qp s.fr x=dx at *
 split at h
 ·split at h
  ·rename_i he
   simp only[Option.some.injEq,Prod.mk.injEq] at h
   obtain ⟨rfl,rfl⟩:=h
   obtain ⟨_,_,ad,cap,hv,_⟩:=xF hx
   refine ⟨_,.cl _ _ (.raw _),fun w' _=>?_⟩
   rw[XJ ho]
   simp [builtin,Builtin.len_,hv,run_underlying (ze (hL _ _ he) rfl),goInt]
  ·cases h
 ·split at h
  ·rename_i he
   simp only[Option.some.injEq,Prod.mk.injEq] at h
   obtain ⟨rfl,rfl⟩:=h
   obtain ⟨ad,cap,_,_,_,hv,_⟩:=Hn hx
   refine ⟨_,.cl _ _ (.raw _),fun w' _=>?_⟩
   rw[XJ ho]
   simp [builtin,Builtin.len_,hv,run_underlying (ze (hL _ _ he) rfl),goInt]
  ·cases h
 ·split at h
  ·rename_i he
   simp only[Option.some.injEq,Prod.mk.injEq] at h
   obtain ⟨rfl,rfl⟩:=h
   obtain ⟨ad,hv⟩:=y8 hx
   refine ⟨_,.cl _ _ (.raw _),fun w' _=>?_⟩
   rw[XJ ho]
   simp [builtin,Builtin.len_,hv,run_underlying (ze (hL _ _ he) rfl),goInt]
  ·cases h
 ·split at h
  ·rename_i he
   simp only[Option.some.injEq,Prod.mk.injEq] at h
   obtain ⟨rfl,rfl⟩:=h
   have hv:=ZC hx
   refine ⟨_,.cl _ _ (.raw _),fun w' _=>?_⟩
   rw[XJ ho]
   simp [builtin,Builtin.len_,hv,run_underlying (Em (hL _ _ he) rfl),goInt]
  ·cases h
 ·cases h
theorem Qan {x y:Operand} {ZX:Array TypeId} (ho:o.op=.call ⟨.builtin .max,#[x,y],ZX⟩) {k k':IntKind} {m n:Int} (hx:Qp s.fr x=.raw (.int k m)) (hy:Qp s.fr y=.raw (.int k' n)):Ki P base nt o s (.raw (.int k (max m n))):=by
 intro Z pl a w r
 have h1:=r.eval x
 have h2:=r.eval y
 rw[hx] at h1;rw[hy] at h2
 refine ⟨_,.cl _ _ (.raw _),fun w' _=>?_⟩
 rw[XJ ho]
 simp [builtin,Builtin.max_,ZC h1,ZC h2,Builtin.max2]
 split <;> omega
theorem Qao {x y:Operand} {ZX:Array TypeId} (ho:o.op=.call ⟨.builtin .min,#[x,y],ZX⟩) {k k':IntKind} {m n:Int} (hx:Qp s.fr x=.raw (.int k m)) (hy:Qp s.fr y=.raw (.int k' n)):Ki P base nt o s (.raw (.int k (min m n))):=by
 intro Z pl a w r
 have h1:=r.eval x
 have h2:=r.eval y
 rw[hx] at h1;rw[hy] at h2
 refine ⟨_,.cl _ _ (.raw _),fun w' _=>?_⟩
 rw[XJ ho]
 simp [builtin,Builtin.min_,ZC h1,ZC h2,Builtin.min2]
 split <;> omega
theorem Qap {f:FuncId} {first QB:Array Operand} (ho:o.op=.makeFunc (.func f) first QB):Ki P base nt o s (.clo f first.size ((first.toList++QB.toList).map (Qp s.fr))):=by
 intro Z pl a w r
 refine ⟨.func (.func f) (((first.toList++QB.toList).map a.eval).take first.size).toArray (((first.toList++QB.toList).map a.eval).drop first.size).toArray,.clo f first.size _ ((first.toList++QB.toList).map a.eval) (by simp) (fun i hi=>?_),fun w' _=>?_⟩
 ·have ZE:i<(first.toList++QB.toList).length:=by simpa using hi
  simp only[nth,QJ,List.getD_eq_getElem?_getD,List.getElem?_map]
  rw[List.getElem?_eq_getElem ZE]
  exact r.eval _
 ·have e1:Array.map a.eval QB=(List.map a.eval QB.toList).toArray:=Array.ext' (by simp)
  have e2:Array.map a.eval first=(List.map a.eval first.toList).toArray:=Array.ext' (by simp)
  have e3:((first.toList++QB.toList).map a.eval).take first.size=first.toList.map a.eval:=by rw[List.map_append,List.take_append_of_le_length (by simp),List.take_of_length_le (by simp)]
  have e4:((first.toList++QB.toList).map a.eval).drop first.size=QB.toList.map a.eval:=by rw[List.map_append,List.drop_append_of_le_length (by simp),List.drop_of_length_le (by simp),List.nil_append]
  rw[e3,e4]
  simp [execOp,ho,Instr.makeFunc,e1,e2]
end
variable {Z:Nat→Prop}
def Ext (w w':World):Prop:=∀ b,b<w.heap.size→w'.heap[b]? = w.heap[b]?
theorem Ext.refl (w:World):Ext w w:=fun _ _=>rfl
theorem Ext.trans {a b c:World} (h:Ext a b) (k:Ext b c):Ext a c:=fun i hi=>by
 have h1:=h i hi
 have h2:i<b.heap.size:=by
  rw[Array.getElem?_eq_getElem hi] at h1
  exact (Array.getElem?_eq_some_iff.1 h1).1
 rw[k i h2,h1]
def calm (o:Oper):Bool:=match o.op with
 | .store .. | .mapUpdate .. | .insert .. | .entryStore .. | .next ..=>false
 | .call ⟨.builtin .len,_,_⟩ | .call ⟨.builtin .min,_,_⟩ | .call ⟨.builtin .max,_,_⟩=>true
 | .call ⟨.builtin _,_,_⟩=>false
 | _=>true
def XK (P:Program) (base nt:Nat) (o:Oper) (s:St) (h':List Ob) (d:D):Prop:=
 ∀ (Z:Nat→Prop) pl a w,Rel Z base nt s pl a w→base≤w.heap.size→∃ v w' Qg,((execOp a.eval o).run P w=.ok (.value v) w'∨((execOp a.eval o).run P w=.ok .skip w'∧v=Go.undef)) ∧
  Tr s.h pl w h' Qg w'∧QT Z base h' Qg w'∧Qv Z h' Qg w' d v∧Below base w w'∧(calm o=true→Ext w w')
def Ac (P:Program) (base nt:Nat) (o:Oper) (s:St) (h':List Ob) (d:D):Prop:=
 ∀ (Z:Nat→Prop) pl a w,Rel Z base nt s pl a w→base≤w.heap.size→∃ v w' Qg,((execOp a.eval o).run P w=.ok (.value v) w'∨((execOp a.eval o).run P w=.ok .skip w'∧v=Go.undef)) ∧
  Tr s.h pl w h' Qg w'∧QT Z base h' Qg w'∧Qv Z h' Qg w' d v∧Below base w w'
theorem Ac.up {P:Program} {base nt:Nat} {o:Oper} {s:St} {h':List Ob} {d:D} (h:Ac P base nt o s h' d) (hc:calm o=false):XK P base nt o s h' d:=fun Z pl a w r hb=>
 let ⟨v,w',Qg,h1,h2,h3,h4,h5⟩:=h Z pl a w r hb
 ⟨v,w',Qg,h1,h2,h3,h4,h5,fun e=>by rw[hc] at e;cases e⟩
def zg:Value→Bool
 | .agg _ | .tuple _=>false
 | _=>true
def D.JV:D→Bool
 | .raw v=>zg v
 | .undef | .agg _ | .tup _=>false
 | _=>true
def VD:D→Option (List D)
 | .agg cs=>bif cs.all D.JV then some cs else none
 | d=>bif d.JV then some [d] else none
theorem NO {h:List Ob} {pl:List Pl} {w:World} {d:D} {v:Value} (r:Qv Z h pl w d v) (hd:d.JV=true):zg v=true:=by
 cases r with
 | cl _ _ hc=>cases hc <;> first | rfl | exact hd | (simp [D.JV] at hd)
 | ref=>rfl
 | ptr=>rfl
 | mref _ _ o p b ho hp hk hg hs=>rw[hk.2];unfold Ei;split <;> rfl
 | clo=>rfl
 | agg=>simp [D.JV] at hd
 | tup=>simp [D.JV] at hd
theorem Qaq {v:Value} (h:zg v=true):v.cells=#[v]:=by cases v <;> first | rfl | cases h
theorem NP {h:List Ob} {pl:List Pl} {w:World} {d:D} {v:Value} (r:Qv Z h pl w d v) {cs:List D} (hc:VD d=some cs) :
  v.cells.size=cs.length∧∀ i,i<cs.length→Qv Z h pl w (nth cs i) (QJ v.cells.toList i)∧zg (QJ v.cells.toList i)=true:=by
 have one:∀ d':D,Qv Z h pl w d' v→(bif d'.JV then some [d'] else none)=some cs→v.cells.size=cs.length∧∀ i,i<cs.length→Qv Z h pl w (nth cs i) (QJ v.cells.toList i)∧zg (QJ v.cells.toList i)=true:=by
  intro d' r' h'
  cases hd:d'.JV
  ·rw[hd] at h';cases h'
  ·rw[hd] at h'
   simp only[cond_true,Option.some.injEq] at h'
   subst h'
   have ho:=NO r' hd
   rw[Qaq ho]
   refine ⟨rfl,fun i hi=>?_⟩
   have:i=0:=by simp at hi;omega
   subst this
   exact ⟨r',ho⟩
 cases d with
 | agg Zs=>
  simp only[VD] at hc
  obtain ⟨ha,hc⟩:=Yh hc
  cases hc
  obtain ⟨vs,rfl,hl,hr⟩:=BP r
  refine ⟨by simp [Value.cells,hl],fun i hi=>⟨by simpa [Value.cells] using hr i hi,?_⟩⟩
  refine NO (by simpa [Value.cells] using hr i hi:Qv Z h pl w (nth cs i) _) ?_
  rw[List.all_eq_true] at ha
  have:=ha (nth cs i) (by simp [nth,List.getD_eq_getElem?_getD,hi])
  exact this
 | _=>exact one _ r hc
theorem HC {P:Program} (b:Nat) (el:TypeId):∀ (vs:List Value) (i q:Nat) (w:World) (c:Array Value),w.heap[b]? = some (.cells c el (0,0))→q+i+vs.length≤c.size→(∀ j,j<vs.length→zg (QJ vs j)=true) →
  ∃ w' c',(storeCells ⟨b,q,none⟩ vs i).run P w=.ok () w'∧w'.heap[b]? = some (.cells c' el (0,0))∧c'.size=c.size ∧
   (∀ k,c'[k]? = if q+i≤k∧k<q+i+vs.length then vs[k - (q+i)]? else c[k]?)∧(∀ k,k≠b→w'.heap[k]? = w.heap[k]?)∧w'.heap.size=w.heap.size∧w'.os=w.os∧w'.tape=w.tape∧w'.output=w.output
 | [],i,q,w,c,hb,hs,ho=>⟨w,c,by simp [storeCells],hb,rfl,fun k=>by rw[if_neg];simp,fun _ _=>rfl,rfl,rfl,rfl,rfl⟩
 | v::vs,i,q,w,c,hb,hs,ho=>by
  simp only[List.length_cons] at hs
  have h0:zg v=true:=ho 0 (by simp)
  have Qd:q+i<c.size:=by omega
  have ko:w.cell? ⟨b,q+i,none⟩=some c[q+i]:=by rw[cell_of_row w b _ c el (0,0) hb];simp [Qd]
  have Qar:w.frozen? ⟨b,q+i,none⟩=false:=frozen_of_row w b _ c el hb
  have WW:=heap_setCell_same w b (q+i) c el v hb
  obtain ⟨w',c',h1,h2,h3,h4,h5,h6,h7,h8,h9⟩:=HC (P:=P) b el vs (i+1) q (w.setCell ⟨b,q+i,none⟩ v) _ WW (by simp;omega) (fun j hj=>by
   have:=ho (j+1) (by simp;omega)
   simpa [QJ] using this)
  refine ⟨w',c',?_,h2,by rw[h3];simp,fun k=>?_,fun k hk=>by rw[h5 k hk];exact Below.heap_setCell _ _ _ _ hk,by rw[h6];simp,by rw[h7];rfl,by rw[h8];rfl,by rw[h9];rfl⟩
  ·have ZH:(store (⟨b,q+i,none⟩:Addr) v).run P w=.ok () (w.setCell ⟨b,q+i,none⟩ v):=by
    cases v <;> first | (simp [zg] at h0;done) | (simp [store,Sem.run,ko,Qar])
   simp only[storeCells,Sem.run_bind,zf,ZH,Result.andThen_ok]
   exact h1
  ·rw[h4 k]
   by_cases Yk:q+i=k
   ·subst Yk
    rw[if_neg (by omega),if_pos (by simp)]
    simp [Qd]
   ·by_cases BS:q+i≤k∧k<q+i+(v::vs).length
    ·rw[if_pos BS,if_pos (by simp at BS;omega)]
     obtain ⟨m,rfl⟩:∃ m,k=q+i+(m+1):=⟨k - (q+i) - 1,by omega⟩
     rw[show q+i+(m+1) - (q+i)=m+1 by omega,show q+i+(m+1) - (q+(i+1))=m by omega]
     simp
    ·rw[if_neg BS,if_neg (by simp at BS;omega),Array.getElem?_setIfInBounds_ne (by omega)]
def jf (cs:List D) (j:Nat) (ds:List D):List D:=cs.take j++ds++cs.drop (j+ds.length)
theorem HE {cs:List D} {j:Nat} {ds:List D} (h:j+ds.length≤cs.length):(jf cs j ds).length=cs.length:=by simp [jf];omega
theorem Uj {cs:List D} {j:Nat} {ds:List D} (h:j+ds.length≤cs.length) (i:Nat):nth (jf cs j ds) i=if j≤i∧i<j+ds.length then nth ds (i - j) else nth cs i:=by
 simp only[nth,jf,List.getD_eq_getElem?_getD]
 by_cases h1:i<j
 ·rw[if_neg (by omega),List.append_assoc,List.getElem?_append_left (by simp;omega)]
  simp [h1]
 ·by_cases h2:i<j+ds.length
  ·rw[if_pos ⟨by omega,h2⟩,List.append_assoc,List.getElem?_append_right (by simp;omega),List.getElem?_append_left (by simp;omega)]
   simp;congr 3;omega
  ·rw[if_neg (by omega),List.getElem?_append_right (by simp;omega)]
   simp only[List.getElem?_drop,List.length_append,List.length_take]
   congr 2;omega
def setRow (o:Ob) (i:Nat) (cells:List D):Ob:=
 { o with row:=bif o.kd.yZ then fun _=>cells else fun k=>bif Nat.beq k i then cells else o.row k }
theorem Uk {o:Ob} {i:Nat} {cells:List D} (h1:o.kd.yZ=true→o.n=1) {k:Nat} (hi:i<o.n) (hk:k<o.n):(setRow o i cells).row k=if k=i then cells else o.row k:=by
 unfold setRow
 cases h:o.kd.yZ
 ·simp only[cond_false]
  by_cases hh:k=i
  ·subst hh;simp
  ·have:Nat.beq k i=false:=by rw[← Bool.not_eq_true,Nat.beq_eq];exact hh
   rw[this,if_neg hh];rfl
 ·have:=h1 h
  simp only[cond_true]
  rw[if_pos (by omega)]
section
variable {P:Program} {L:Zd} {base nt:Nat} {s:St} {o:Oper}
theorem Es {w w':World} {b:Nat} (hb:base≤b) (h5:∀ k,k≠b→w'.heap[k]? = w.heap[k]?) (h6:w'.heap.size=w.heap.size) (h7:w'.os=w.os) (h8:w'.tape=w.tape) (h9:w'.output=w.output):Below base w w':=
 ⟨h7,h8,h9,by omega,fun k hk=>h5 k (by omega)⟩
def Et (L:Zd) (h:List Ob) (t:TypeId) (ad x:D):Option (Prop × List Ob):=
 match ty L t,ad,VD x with
 | some y,.ptr l g i j,some cs=>match h[l]? with
  | some o=>some (g=o.gen∧i<o.n∧j+cs.length≤o.sz∧cs.length=y.size∧(o.kd.yZ=true→o.n=1)∧o.kd.ro=false,h.set l (setRow o i (jf (o.row i) j cs)))
  | none=>none
 | _,_,_=>none
theorem Qas (hL:Zr P L) {t:TypeId} {ad x:Operand} (ho:o.op=.store t ad x) {p:Prop} {h':List Ob} (h:Et L s.h t (Qp s.fr ad) (Qp s.fr x)=some (p,h')) (hp:p):Ac P base nt o s h' .undef:=by
 intro Z pl a w r Js
 have hx:=r.eval x
 have Yj:=r.eval ad
 unfold Et at h
 split at h
 ·rename_i y l g i j cs je NQ ZO
  rw[NQ] at Yj
  split at h
  ·rename_i ob QY
   simp only[Option.some.injEq,Prod.mk.injEq] at h
   obtain ⟨rfl,rfl⟩:=h
   obtain ⟨hg,hi,hj,Zz,h1,hro⟩:=hp
   have hy:=hL _ _ je
   obtain ⟨o',p',adr,hv,Zb,Zm,Zj,XH,KY⟩:=vM Yj
   rw[QY] at Zb;cases Zb
   obtain ⟨b,q,rfl,rfl⟩:=KY hg
   obtain ⟨QI,xx⟩:=r.o.at_ l ob b q QY Zm
   obtain ⟨c,el,hb,Ad,Z5,ZN⟩:=xx.cells Zj
   obtain ⟨ZY,HF⟩:=NP hx ZO
   have Ul:j+cs.length≤(ob.row i).length:=by rw[Z5 i hi];exact hj
   have hle:i*ob.sz+ob.sz≤ob.n*ob.sz:=by
    have:=Nat.mul_le_mul_right ob.sz (show i+1≤ob.n from hi);rw[Nat.add_mul] at this;omega
   obtain ⟨w',c',g1,g2,g3,g4,g5,g6,g7,g8,g9⟩:=HC (P:=P) b el (a.eval x).cells.toList 0 (q+(i*ob.sz+j)) w c hb (by simp [ZY];omega) (fun k hk=>(HF k (by simpa [ZY] using hk)).2)
   have T:Tr s.h pl w (s.h.set l (setRow ob i (jf (ob.row i) j cs))) pl w':=Tr.Zg r.o QY Zm rfl rfl rfl (fun k hk _=>g5 k hk) (fun c1 ND e1=>by rw[hb] at e1;cases e1;exact ⟨c',g2,g3⟩)
   refine ⟨Go.undef,w',pl,.inr ⟨?_,rfl⟩,T,?_,.cl _ _ (.undef _),Es (QI hro) g5 g6 g7 g8 g9⟩
   ·simp [execOp,ho,hv,Instr.storeAt,Instr.sureAddr,storeVar,hy.sizeOf,ZY,Zz,g1]
   ·refine QT.Zg (hro:=rfl) r.o QY Zm Zj Zj rfl rfl (fun k hk _=>g5 k hk) hb g2 g3 (by rw[g3];exact Ad) (fun k hk=>?_) (fun k m hk hm=>?_)
    ·rw[Uk h1 hi hk]
     split
     ·rw[HE Ul,Z5 i hi];rfl
     ·exact Z5 k hk
    ·rw[Uk h1 hi hk]
     have Zj:k<ob.n:=hk
     have BT:m<ob.sz:=hm
     show ∃ v,c'[q+(k*ob.sz+m)]? = some v∧_
     rw[g4]
     simp only[Nat.add_zero,Array.length_toList,ZY]
     by_cases Eu:k=i
     ·subst Eu
      rw[if_pos rfl,Uj Ul]
      by_cases Um:j≤m∧m<j+cs.length
      ·rw[if_pos Um,if_pos (by omega)]
       refine ⟨QJ (a.eval x).cells.toList (m - j),?_,((HF (m - j) (by omega)).1).tr T⟩
       rw[show q+(k*ob.sz+m) - (q+(k*ob.sz+j))=m - j by omega]
       simp only[QJ,List.getD_eq_getElem?_getD]
       rw[List.getElem?_eq_getElem (by simp [ZY];omega)];rfl
      ·rw[if_neg Um,if_neg (by omega)]
       obtain ⟨v,xK,jg⟩:=ZN k m Zj BT
       exact ⟨v,xK,jg.tr T⟩
     ·rw[if_neg Eu,if_neg]
      ·obtain ⟨v,xK,jg⟩:=ZN k m Zj BT
       exact ⟨v,xK,jg.tr T⟩
      ·intro Qrh
       rcases Nat.lt_or_gt_of_ne Eu with Qd | Qd
       ·have:=Nat.mul_le_mul_right ob.sz (show k+1≤i from Qd);rw[Nat.add_mul] at this;omega
       ·have:=Nat.mul_le_mul_right ob.sz (show i+1≤k from Qd);rw[Nat.add_mul] at this;omega
  ·cases h
 ·cases h
theorem vO {w:World} (h:base≤w.heap.size) (ob:Obj):Below base w (w.alloc ob):=(Below.refl base w).alloc h ob
theorem Un {pl:List Pl} {a:Act} {w:World} (r:Rel Z base nt s pl a w) (Js:base≤w.heap.size) (el:TypeId) (v:Value) (cs:List D) (hl:v.cells.size=cs.length) (hr:∀ i,i<cs.length→Qv Z s.h pl w (nth cs i) (QJ v.cells.toList i)) :
  Tr s.h pl w (s.h++[⟨.one,0,cs.length,1,fun _=>cs⟩]) (pl++[some (w.heap.size,0)]) (w.alloc (.cells v.cells el))∧QT Z base (s.h++[⟨.one,0,cs.length,1,fun _=>cs⟩]) (pl++[some (w.heap.size,0)]) (w.alloc (.cells v.cells el)) ∧
   Qv Z (s.h++[⟨.one,0,cs.length,1,fun _=>cs⟩]) (pl++[some (w.heap.size,0)]) (w.alloc (.cells v.cells el)) (.ptr s.h.length 0 0 0) (.pointer (some ⟨w.heap.size,0,none⟩)):=by
 have e:∀ b,b<w.heap.size→(w.alloc (.cells v.cells el)).heap[b]? = w.heap[b]? := fun b hb=>YP w _ b hb
 have ZU:(w.alloc (.cells v.cells el)).heap[w.heap.size]? = some (.cells v.cells el (0,0)):=heap_alloc_new w _
 have T:Tr s.h pl w (s.h++[⟨.one,0,cs.length,1,fun _=>cs⟩]) (pl++[some (w.heap.size,0)]) (w.alloc (.cells v.cells el)):=Tr.push r.o e _ _ (by intro b q h;simp at h;omega)
 refine ⟨T,?_,?_⟩
 ·refine QT.push r.o e _ rfl (Nat.le_refl _) Js ZU (by simp [hl]) (fun _ _=>rfl) (fun i j hi hj=>?_)
  have NR:i=0:=by simp at hi;omega
  subst NR
  refine ⟨QJ v.cells.toList j,?_,(hr j hj).tr T⟩
  simp only[Nat.zero_mul,Nat.zero_add,QJ,List.getD_eq_getElem?_getD]
  have:j<v.cells.size:=by rw[hl];exact hj
  rw[Array.getElem?_toList,Array.getElem?_eq_getElem this];rfl
 ·have QZ:pl.length=s.h.length:=r.o.len
  exact .ptr _ _ _ _ ⟨.one,0,cs.length,1,fun _=>cs⟩ (some (w.heap.size,0)) _ (by simp) (by rw[← QZ];simp) rfl (Nat.le_refl _) (fun _=>⟨_,_,rfl,by simp⟩)
theorem Qat (hL:Zr P L) {t:TypeId} {ad x:Operand} (ho:o.op=.store t ad x) {p:Prop} {h':List Ob} (h:Et L s.h t (Qp s.fr ad) (Qp s.fr x)=some (p,h')) (hp:p):XK P base nt o s h' .undef:=
 (Qas hL ho h hp).up (by simp [calm,ho])
theorem Qau {t:TypeId} {x:Operand} (ho:o.op=.box t x) {cs:List D} (hx:VD (Qp s.fr x)=some cs):XK P base nt o s (s.h++[⟨.one,0,cs.length,1,fun _=>cs⟩]) (.ptr s.h.length 0 0 0):=by
 intro Z pl a w r Js
 obtain ⟨ZY,HF⟩:=NP (r.eval x) hx
 obtain ⟨h1,h2,h3⟩:=Un r Js t (a.eval x) cs ZY (fun i hi=>(HF i hi).1)
 refine ⟨_,_,_,.inl ?_,h1,h2,h3,vO Js _,fun _ b hb=>YP _ _ b hb⟩
 simp [execOp,ho,Instr.box,newVar,newRow]
theorem Qav (hL:Zr P L) {t:TypeId} (ho:o.op=.alloc t) {y:Ty} (hy:ty L t=some y):XK P base nt o s (s.h++[⟨.one,0,(y.zero.map ZQ).length,1,fun _=>y.zero.map ZQ⟩]) (.ptr s.h.length 0 0 0):=by
 intro Z pl a w r Js
 obtain ⟨z,hz,QS⟩:=(hL _ _ hy).zeroValue
 obtain ⟨h1,h2,h3⟩:=Un r Js t z (y.zero.map ZQ) (by rw[← hz];simp) (fun i hi=>by
  rw[← hz] at hi ⊢
  have ZE:i<z.cells.size:=by simpa using hi
  refine .cl _ _ ?_
  simp only[nth,QJ,List.getD_eq_getElem?_getD,List.getElem?_map,Array.getElem?_toList,Array.getElem?_eq_getElem ZE,Option.map_some,Option.getD_some]
  exact kj _ _ _)
 refine ⟨_,_,_,.inl ?_,h1,h2,h3,vO Js _,fun _ b hb=>YP _ _ b hb⟩
 simp [execOp,ho,Instr.alloc,newVar,newRow,QS]
end
variable {Z:Nat→Prop}
def Ew (h:List Ob):D→Option (Prop × Nat × Nat × (Nat→List D))
 | .ref l g off n=>match h[l]? with
  | some o=>some (g=o.gen∧off+n≤o.n,n,o.sz,fun k=>o.row (off+k))
  | none=>none
 | .imm sz n row=>some (True,n,sz,row)
 | _=>none
structure Src (Z:Nat→Prop) (h:List Ob) (pl:List Pl) (w:World) (v:Value) (n sz:Nat) (rows:Nat→List D) (a:Option Addr) (cap:Nat) (vs:Nat→Nat→Value):Prop where
 v:v=.slice a n cap
 len:∀ i,i<n→(rows i).length=sz
 cell:∀ i j,i<n→j<sz→∃ b q,a=some ⟨b,q,none⟩∧w.cell? ⟨b,q+(i*sz+j),none⟩=some (vs i j)
 rel:∀ i j,i<n→j<sz→Qv Z h pl w (nth (rows i) j) (vs i j)
theorem NS {base:Nat} {h:List Ob} {pl:List Pl} {w:World} (R:QT Z base h pl w) {d:D} {v:Value} (r:Qv Z h pl w d v) {p:Prop} {n sz:Nat} {rows:Nat→List D} (e:Ew h d=some (p,n,sz,rows)) (hp:p):∃ a cap vs,Src Z h pl w v n sz rows a cap vs:=by
 unfold Ew at e
 split at e
 ·rename_i l g off k
  split at e
  ·rename_i o ho
   simp only[Option.some.injEq,Prod.mk.injEq] at e
   obtain ⟨rfl,rfl,rfl,rfl⟩:=e
   obtain ⟨o',p',a,cap,hv,Zb,Zm,Zj,XH,KY⟩:=xF r
   rw[ho] at Zb;cases Zb
   have hn:=hp.2
   rcases KY hp.1 with ⟨h1,h2⟩ | ⟨b,q,c,el,Kb,ha,hb,hc,hl⟩
   ·subst h1
    exact ⟨a,cap,fun _ _=>Go.undef,hv,fun i hi=>by omega,fun i j hi=>by omega,fun i j hi=>by omega⟩
   ·subst Kb
    obtain ⟨QI,xx⟩:=R.at_ l o b q ho Zm
    obtain ⟨c',HG,Jp,ZO,Z5,ZN⟩:=xx.cells Zj
    rw[hb] at Jp;cases Jp
    refine ⟨a,cap,fun i j=>(c[q+((off+i)*o.sz+j)]?).getD Go.undef,hv,fun i hi=>Z5 _ (by omega),fun i j hi hj=>?_,fun i j hi hj=>?_⟩
    ·obtain ⟨u,hu,hr⟩:=ZN (off+i) j (by omega) hj
     refine ⟨b,q+off*o.sz,ha,?_⟩
     rw[cell_of_row w b _ c el (0,0) hb,show q+off*o.sz+(i*o.sz+j)=q+((off+i)*o.sz+j) by rw[Nat.add_mul];omega,hu];rfl
    ·obtain ⟨u,hu,hr⟩:=ZN (off+i) j (by omega) hj
     simp only[hu,Option.getD_some];exact hr
  ·cases e
 ·simp only[Option.some.injEq,Prod.mk.injEq] at e
  obtain ⟨rfl,rfl,rfl,rfl⟩:=e
  obtain ⟨a,cap,b,q,vs,hv,ha,hl,hs,hc⟩:=Hn r
  exact ⟨a,cap,vs,hv,hs,fun i j hi hj=>⟨b,q,ha (by omega),(hc i j hi hj).1.2⟩,fun i j hi hj=>.cl _ _ (hc i j hi hj).2⟩
 ·cases e
def flat (n sz:Nat) (vs:Nat→Nat→Value):List Value:=(List.range (n*sz)).map fun k=>vs (k / sz) (k % sz)
theorem Wx (n sz:Nat) (vs:Nat→Nat→Value):(flat n sz vs).length=n*sz:=by simp [flat]
theorem xL {n sz:Nat} {vs:Nat→Nat→Value} {i j:Nat} (hi:i<n) (hj:j<sz):(flat n sz vs)[i*sz+j]? = some (vs i j):=by
 have h1:i*sz+j<n*sz:=by have:=Nat.mul_le_mul_right sz (show i+1≤n from hi);rw[Nat.add_mul] at this;omega
 have h2:(i*sz+j) / sz=i:=by rw[Nat.mul_comm,Nat.mul_add_div (by omega),Nat.div_eq_of_lt hj];rfl
 have h3:(i*sz+j) % sz=j:=by rw[Nat.mul_comm,Nat.mul_add_mod,Nat.mod_eq_of_lt hj]
 simp [flat,h1,h2,h3]
theorem div_lt {n sz k:Nat} (h:k<n*sz):k / sz<n∧k % sz<sz∧k / sz*sz+k % sz=k:=by
 have h0:0<sz:=Nat.pos_of_ne_zero (fun e=>by subst e;simp at h)
 exact ⟨Nat.div_lt_of_lt_mul (by rw[Nat.mul_comm];exact h),Nat.mod_lt _ h0,by rw[Nat.mul_comm];exact Nat.div_add_mod k sz⟩
theorem Src.first {P:Program} {h:List Ob} {pl:List Pl} {w:World} {v:Value} {n sz:Nat} {rows:Nat→List D} {a:Option Addr} {cap:Nat} {vs:Nat→Nat→Value} (S:Src Z h pl w v n sz rows a cap vs) (w':World) (hw:w'.heap=w.heap) :
  (Builtin.firstCells sz n v).run P w'=.ok (flat n sz vs).toArray w':=by
 rw[S.v]
 cases a with
 | none=>
  have:n*sz=0:=by
   by_cases h:n*sz=0
   ·exact h
   ·obtain ⟨h1,h2,_⟩:=div_lt (n:=n) (sz:=sz) (k:=0) (by omega)
    obtain ⟨b,q,hh,_⟩:=S.cell _ _ h1 h2
    cases hh
  simp [Builtin.firstCells,flat,this]
 | some ad=>
  refine run_firstCells_some w' sz n ad n cap _ (Wx _ _ _) (fun k u hu=>?_)
  have hk:k<n*sz:=by have:=(List.getElem?_eq_some_iff.1 hu).1;rw[Wx] at this;exact this
  obtain ⟨h1,h2,h3⟩:=div_lt hk
  obtain ⟨b,q,hh,hc⟩:=S.cell _ _ h1 h2
  cases hh
  rw[← h3,xL h1 h2] at hu
  cases hu
  rw[zf,World.cell?_of_block (w:=w) (by rw[hw]),← h3,hc]
  simp only[h3]
theorem NT (z:Array Value) (n:Nat):(Builtin.zeroCells z n).size=n*z.size:=by simp [Builtin.zeroCells]
theorem Uo {P:Program} {t ty e:TypeId} {y:Ty} (ht:P.underlying t=some (.slice e)) (hy:KA P e y) (hz:y.zero.length=y.size) (w:World) (b:Option Addr) (VU zj:Nat) (Up:List Value) (c:Option Addr) (n cc:Nat) (news:List Value)
  (hold:∀ w':World,w'.heap=w.heap→(Builtin.firstCells y.size VU (.slice b VU zj)).run P w'=.ok Up.toArray w') (ZU:∀ w':World,w'.heap=w.heap→(Builtin.firstCells y.size n (.slice c n cc)).run P w'=.ok news.toArray w')
  (hg:zj<VU+n) (XL:VU+n≤4294967296) (Xh:y.bytes≤1024) :
  ∃ Yl rest,(Builtin.append_ #[t,t] ty #[.slice b VU zj,.slice c n cc]).run P w=.ok (.slice (some ⟨w.heap.size,0,none⟩) (VU+n) Yl) (w.drew.alloc (.cells (Up.toArray++news.toArray++rest) e)) ∧
   VU+n≤Yl∧rest.size=(Yl - (VU+n))*y.size:=by
 obtain ⟨z,qu,Xi⟩:=hy.zeroValue
 obtain ⟨i,hi,zk,Wa⟩:=hy.typeInfo w
 refine ⟨grownCap w (VU+n) zj e,Builtin.zeroCells z.cells (grownCap w (VU+n) zj e - (VU+n)),?_,grownCap_ge _ _ _ _,by rw[NT];congr 1;rw[← hz,← qu];simp⟩
 have ZE:∀ w,(typeInfo e).run P w=.ok i w:=fun w=>by
  obtain ⟨i',h1,h2,h3⟩:=hy.typeInfo w
  have h4:=hy.info
  cases hx:P.info? e with
  | none=>rw[hx] at h4;cases h4
  | some k=>
   simp [typeInfo,hx] at hi ⊢
   exact hi
 have hn:¬ (VU+n≤zj):=by omega
 have NU:¬ (9223372036854775807<((VU:Int)+(n:Int))):=by omega
 have h48:Builtin.nextslicecap (VU+n) zj*y.bytes≤281474976710656:=growslice_fits hg (by
  have:=Nat.mul_le_mul (show VU+n≤4294967296 from XL) Xh;omega)
 have NV:¬ (281474976710656<Builtin.nextslicecap (VU+n) zj*i.bytes):=by rw[Wa];omega
 have ho:=hold w.drew rfl
 have hw:=ZU w.drew rfl
 simp [Builtin.append_,run_underlying ht,hy.sizeOf,ZE,Xi,Builtin.lenOf,hn,NU,NV,Question.forced,newRow,grownCap,ho,hw,askRoom,mark,Sem.run]
 rw[← Array.append_assoc];simp
theorem Qaw {P:Program} {t ty e:TypeId} {y:Ty} (ht:P.underlying t=some (.slice e)) (hy:KA P e y) (w:World) (b q VU zj:Nat) (c:Option Addr) (n cc:Nat) (news:List Value)
  (ZU:(Builtin.firstCells y.size n (.slice c n cc)).run P w=.ok news.toArray w) (HH:VU+n≤zj) {w':World} (ZH:(storeCells ⟨b,q+VU*y.size,none⟩ news).run P w=.ok () w') :
  (Builtin.append_ #[t,t] ty #[.slice (some ⟨b,q,none⟩) VU zj,.slice c n cc]).run P w=.ok (.slice (some ⟨b,q,none⟩) (VU+n) zj) w':=by
 simp [Builtin.append_,run_underlying ht,hy.sizeOf,Builtin.lenOf,HH,ZU,zf,ZH]
theorem Uq {P:Program} {t ty e:TypeId} {y:Ty} (ht:P.underlying t=some (.slice e)) (hy:KA P e y) (w:World) (b:Option Addr) (c:Option Addr) (cc:Nat) :
  (Builtin.append_ #[t,t] ty #[.slice b 0 0,.slice c 0 cc]).run P w=.ok (.slice b 0 0) w:=by
 cases b <;> cases c <;> simp [Builtin.append_,run_underlying ht,hy.sizeOf,Builtin.lenOf,Builtin.firstCells,loadCells,loadCellsFrom,storeCells]
def JJ (len off:Nat) (r1 r2:Nat→List D):Nat→List D:=fun k=>bif Nat.blt k len then r1 (off+k) else r2 (k - len)
theorem Ae {len off k:Nat} {r1 r2:Nat→List D} (h:k<len):JJ len off r1 r2 k=r1 (off+k):=by
 have:Nat.blt k len=true:=by simpa [Nat.blt_eq] using h
 simp [JJ,this]
theorem xM {len off k:Nat} {r1 r2:Nat→List D} (h:len≤k):JJ len off r1 r2 k=r2 (k - len):=by
 have:Nat.blt k len=false:=by rw[← Bool.not_eq_true,Nat.blt_eq];omega
 simp [JJ,this]
def NW (y:Ty) (n:Nat):Prop:=n≤4294967296∧y.bytes≤1024∧y.zero.length=y.size
def kp (L:Zd) (h:List Ob) (t:TypeId) (s x:D):Option (Prop × List Ob × D):=
 match ty L t,Ew h x with
 | some ⟨.slice e,_,_,_⟩,some (px,n,sz,rows)=>match ty L e,s with
  | some y,.nil=>some (px∧sz=y.size∧NW y n∧(∀ k,k<n→(rows k).all D.JV=true),h++[⟨.arr,0,y.size,n,rows⟩],.ref h.length 0 0 n)
  | some y,.ref l g off len=>match h[l]? with
   | some o=>some (px∧g=o.gen∧off+len=o.n∧o.sz=y.size∧sz=y.size∧NW y (len+n)∧(∀ k,k<n→(rows k).all D.JV=true)∧o.kd.ro=false,h.set l ⟨.arr,o.gen+1,y.size,len+n,JJ len off o.row rows⟩,.ref l (o.gen+1) 0 (len+n))
   | none=>none
  | _,_=>none
 | _,_=>none
theorem Tr.vP {base:Nat} {h:List Ob} {pl:List Pl} {w w':World} (R:QT Z base h pl w) {l:Nat} {o o':Ob} {p p':Pl} (ho:h[l]? = some o) (hp:pl[l]? = some p) (Z9:o'.kd.ty=o.kd.ty) (hg:o.gen<o'.gen)
  (e:∀ k,k<w.heap.size→(∀ q,p≠some (k,q))→w'.heap[k]? = w.heap[k]?) (Zm:∀ b q,p'=some (b,q)→(∃ q',p=some (b,q'))∨w.heap.size≤b):Tr h pl w (h.set l o') (pl.set l p') w' where
 JI:=fun k hk Qd=>by
  have QD:∀ q,p≠some (k,q):=fun q hq=>hk l q (by rw[hp,hq])
  refine ⟨fun l' q YQ=>?_,e k Qd QD⟩
  by_cases Wy:l=l'
  ·subst Wy
   have:(pl.set l p')[l]? = some p':=by simp [Kz hp]
   rw[this] at YQ
   simp only[Option.some.injEq] at YQ
   rcases Zm k q YQ with ⟨q',h1⟩ | h1
   ·exact QD q' h1
   ·omega
  ·rw[List.getElem?_set_ne Wy] at YQ;exact hk l' q YQ
 obj:=fun l' o1 p1 Zn Ww=>by
  by_cases Wy:l=l'
  ·subst Wy
   rw[ho] at Zn;cases Zn
   exact ⟨o',p',by simp [Jr ho],by simp [Kz hp],by omega,Z9,fun h=>by omega⟩
  ·exact ⟨o1,p1,by rw[List.getElem?_set_ne Wy];exact Zn,by rw[List.getElem?_set_ne Wy];exact Ww,Nat.le_refl _,rfl,fun _=>⟨rfl,rfl⟩⟩
 shape:=fun l' o1 o2 b1 q1 Zn XI jc Ww c el hb=>by
  by_cases Wy:l=l'
  ·subst Wy
   rw[ho] at Zn;cases Zn
   have:(h.set l o')[l]? = some o':=by simp [Jr ho]
   rw[this] at XI;cases XI;omega
  ·refine ⟨c,?_,rfl⟩
   rw[e b1 (R.lt Ww).1 (fun q hq=>Wy (R.inj l l' b1 q q1 (by rw[hp,hq]) Ww))];exact hb
theorem QT.vP {base:Nat} {h:List Ob} {pl:List Pl} {w w':World} (R:QT Z base h pl w) {l:Nat} {o o':Ob} {p:Pl} (ho:h[l]? = some o) (hp:pl[l]? = some p) (hk:o.kd.ty=0) (Zj:o'.kd.ty=0) (hg:o.gen<o'.gen)
  (e:∀ k,k<w.heap.size→(∀ q,p≠some (k,q))→w'.heap[k]? = w.heap[k]?) {b' q':Nat} (Zm:(∃ q0,p=some (b',q0))∨w.heap.size≤b') (QI:base≤b') {c:Array Value} {el:TypeId} (hb:w'.heap[b']? = some (.cells c el (0,0)))
  (Zz:q'+o'.n*o'.sz≤c.size) (Z5:∀ i,i<o'.n→(o'.row i).length=o'.sz)
  (ZN:∀ i j,i<o'.n→j<o'.sz→∃ v,c[q'+(i*o'.sz+j)]? = some v∧Qv Z (h.set l o') (pl.set l (some (b',q'))) w' (nth (o'.row i) j) v):QT Z base (h.set l o') (pl.set l (some (b',q'))) w':=by
 have T:Tr h pl w (h.set l o') (pl.set l (some (b',q'))) w':=Tr.vP R ho hp (by rw[hk,Zj]) hg e (fun b q Ur=>by simp at Ur;obtain ⟨rfl,rfl⟩:=Ur;exact Zm)
 have zl:(pl.set l (some (b',q')))[l]? = some (some (b',q')):=by simp [Kz hp]
 have other:∀ (l1 b q:Nat),l≠l1→pl[l1]? = some (some (b,q))→b≠b':=by
  intro l1 b q hl h1 xE
  subst xE
  rcases Zm with ⟨q0,h2⟩ | h2
  ·exact hl (R.inj l l1 b q0 q (by rw[hp,h2]) h1)
  ·have:=(R.lt h1).1;omega
 refine ⟨by simp [R.len],?_,?_,?_⟩
 ·intro l1 l2 b q1 q2 h1 h2
  by_cases e1:l=l1
  ·subst e1
   rw[zl] at h1;simp only[Option.some.injEq,Prod.mk.injEq] at h1
   by_cases e2:l=l2
   ·exact e2
   ·rw[List.getElem?_set_ne e2] at h2
    exact absurd h1.1.symm (other l2 b q2 e2 h2)
  ·rw[List.getElem?_set_ne e1] at h1
   by_cases e2:l=l2
   ·subst e2
    rw[zl] at h2;simp only[Option.some.injEq,Prod.mk.injEq] at h2
    exact absurd h2.1.symm (other l1 b q1 e1 h1)
   ·rw[List.getElem?_set_ne e2] at h2
    exact R.inj l1 l2 b q1 q2 h1 h2
 ·intro l1 o1 Zn h1
  by_cases e1:l=l1
  ·subst e1;rw[zl] at h1;cases h1
  ·rw[List.getElem?_set_ne e1] at h1 Zn;exact R.JU l1 o1 Zn h1
 ·intro l1 o1 b q Zn h1
  by_cases e1:l=l1
  ·subst e1
   rw[zl] at h1;simp only[Option.some.injEq,Prod.mk.injEq] at h1
   obtain ⟨rfl,rfl⟩:=h1
   have:(h.set l o')[l]? = some o':=by simp [Jr ho]
   rw[this] at Zn;cases Zn
   exact ⟨fun _=>QI,.BN Zj ⟨c,el,hb,Zz,Z5,ZN⟩⟩
  ·rw[List.getElem?_set_ne e1] at h1 Zn
   obtain ⟨g1,x⟩:=R.at_ l1 o1 b q Zn h1
   have QD:∀ q0,p≠some (b,q0):=fun q0 hq=>e1 (R.inj l l1 b q0 q (by rw[hp,hq]) h1)
   exact ⟨g1,x.to rfl rfl rfl (e b (R.lt h1).1 QD) (fun _ _=>rfl) fun i j v _ _ hr=>hr.tr T⟩
section
variable {P:Program} {L:Zd} {base nt:Nat} {s:St} {o:Oper}
theorem Qax (hL:Zr P L) {t:TypeId} {x0 x:Operand} (ho:o.op=.call ⟨.builtin .append,#[x0,x],#[t,t]⟩) (jh:Qp s.fr x0=.nil) {p:Prop} {h':List Ob} {d:D} (h:kp L s.h t .nil (Qp s.fr x)=some (p,h',d)) (hp:p):Ac P base nt o s h' d:=by
 intro Z pl a w r Js
 have ji:=r.eval x0
 have vQ:=r.eval x
 rw[jh] at ji
 unfold kp at h
 split at h
 ·rename_i e _ _ _ px n sz rows he NX
  cases KB:ty L e with
  | none=>rw[KB] at h;cases h
  | some y=>
   rw[KB] at h
   simp only[Option.some.injEq,Prod.mk.injEq] at h
   obtain ⟨rfl,rfl,rfl⟩:=h
   obtain ⟨NY,rfl,⟨XL,Xh,xN⟩,HI⟩:=hp
   have hy:=hL _ _ KB
   have ht:=ze (hL _ _ he) rfl
   obtain ⟨a0,BU⟩:=y8 ji
   obtain ⟨ax,xO,vs,S⟩:=NS r.o vQ NX NY
   have QZ:pl.length=s.h.length:=r.o.len
   by_cases hn:n=0
   ·subst hn
    have T:Tr s.h pl w (s.h++[⟨.arr,0,y.size,0,rows⟩]) (pl++[none]) w:=Tr.push r.o (fun _ _=>rfl) _ _ (by intro b q e;cases e)
    refine ⟨_,w,pl++[none],.inl ?_,T,r.o.xD _ rfl,.ref _ _ _ _ ⟨.arr,0,y.size,0,rows⟩ none a0 0 (by simp) (by rw[← QZ];simp) rfl (Nat.le_refl _) (fun _=>.inl ⟨rfl,rfl⟩),Below.refl _ _⟩
    rw[XJ ho]
    simp [builtin,BU,S.v,Uq ht hy]
   ·obtain ⟨Yl,rest,QS,xP,XM⟩:=Uo (ty:=o.type) ht hy xN w a0 0 0 [] ax n xO (flat n y.size vs) (fun w' _=>by cases a0 <;> simp [Builtin.firstCells,loadCells,loadCellsFrom]) (fun w' hw=>by rw[← S.v];exact S.first w' hw) (by omega) (by omega) Xh
    simp only[Nat.zero_add,Array.empty_append] at QS xP XM
    have e1:∀ b,b<w.heap.size→(w.drew.alloc (.cells ((flat n y.size vs).toArray++rest) e)).heap[b]? = w.heap[b]? := fun b hb=>YP w.drew _ b hb
    have ZU:(w.drew.alloc (.cells ((flat n y.size vs).toArray++rest) e)).heap[w.heap.size]? = some (.cells ((flat n y.size vs).toArray++rest) e (0,0)):=heap_alloc_new w.drew _
    have T:Tr s.h pl w (s.h++[⟨.arr,0,y.size,n,rows⟩]) (pl++[some (w.heap.size,0)]) (w.drew.alloc (.cells ((flat n y.size vs).toArray++rest) e)):=Tr.push r.o e1 _ _ (by intro b q h;simp at h;omega)
    refine ⟨.slice (some ⟨w.heap.size,0,none⟩) n Yl,_,_,.inl ?_,T,QT.push r.o e1 _ rfl (Nat.le_refl _) Js ZU (by simp [Wx]) S.len (fun i j hi hj=>⟨vs i j,?_,(S.rel i j hi hj).tr T⟩),.ref _ _ _ _ ⟨.arr,0,y.size,n,rows⟩ (some (w.heap.size,0)) _ Yl (by simp) (by rw[← QZ];simp) rfl (Nat.le_refl _) (fun _=>.inr ⟨w.heap.size,0,_,e,rfl,by simp,ZU,?_,xP⟩),?_⟩
    ·rw[XJ ho]
     have:(Array.map a.eval #[x0,x])=#[.slice a0 0 0,.slice ax n xO]:=by simp [BU,S.v]
     rw[this]
     simp only[builtin,Sem.run_bind,QS,Result.andThen_ok,Sem.run_pure]
    ·have hg:=xL (vs:=vs) hi hj
     have Qd:=(List.getElem?_eq_some_iff.1 hg).1
     rw[Nat.zero_add,Array.getElem?_append_left (by simpa using Qd)]
     simpa using hg
    ·simp only[Nat.zero_add,Array.size_append,List.size_toArray,Wx,XM]
     rw[← Nat.add_mul];exact Nat.mul_le_mul_right _ (by omega)
    ·exact ((Below.refl base w).drew).alloc Js _
 ·cases h
theorem Qay (hL:Zr P L) {t:TypeId} {x0 x:Operand} {l g off len:Nat} (ho:o.op=.call ⟨.builtin .append,#[x0,x],#[t,t]⟩) (jh:Qp s.fr x0=.ref l g off len) {p:Prop} {h':List Ob} {d:D} (h:kp L s.h t (.ref l g off len) (Qp s.fr x)=some (p,h',d)) (hp:p):Ac P base nt o s h' d:=by
 intro Z pl a w r Js
 have ji:=r.eval x0
 have vQ:=r.eval x
 rw[jh] at ji
 unfold kp at h
 split at h
 ·rename_i e _ _ _ px n sz rows he NX
  cases KB:ty L e with
  | none=>rw[KB] at h;cases h
  | some y=>
   rw[KB] at h
   dsimp only at h
   split at h
   ·rename_i ob QY
    simp only[Option.some.injEq,Prod.mk.injEq] at h
    obtain ⟨rfl,rfl,rfl⟩:=h
    obtain ⟨NY,hg,Af,Qaz,rfl,⟨XL,Xh,xN⟩,HI,hro⟩:=hp
    have hy:=hL _ _ KB
    have ht:=ze (hL _ _ he) rfl
    obtain ⟨o',p',a0,jj,BU,Zb,Zm,Zj,XH,KY⟩:=xF ji
    rw[QY] at Zb;cases Zb
    obtain ⟨ax,xO,vs,S⟩:=NS r.o vQ NX NY
    have Ag:(Array.map a.eval #[x0,x])=#[.slice a0 len jj,.slice ax n xO]:=by simp [BU,S.v]
    have fin:∀ {v:Value} {w':World},(Builtin.append_ #[t,t] o.type #[.slice a0 len jj,.slice ax n xO]).run P w=.ok v w'→(execOp a.eval o).run P w=.ok (.value v) w':=by
     intro v w' QS
     rw[XJ ho,Ag]
     simp only[builtin,Sem.run_bind,QS,Result.andThen_ok,Sem.run_pure]
    have grown:∀ (vo:Nat→Nat→Value) (hold:∀ w':World,w'.heap=w.heap→(Builtin.firstCells y.size len (.slice a0 len jj)).run P w'=.ok (flat len y.size vo).toArray w')
      (hlen:∀ i,i<len→(ob.row (off+i)).length=y.size) (HJ:∀ i j,i<len→j<y.size→Qv Z s.h pl w (nth (ob.row (off+i)) j) (vo i j)),jj<len+n →
      ∃ v w' Qg,((execOp a.eval o).run P w=.ok (.value v) w'∨((execOp a.eval o).run P w=.ok .skip w'∧v=Go.undef))∧Tr s.h pl w (s.h.set l ⟨.arr,ob.gen+1,y.size,len+n,JJ len off ob.row rows⟩) Qg w' ∧
       QT Z base (s.h.set l ⟨.arr,ob.gen+1,y.size,len+n,JJ len off ob.row rows⟩) Qg w'∧Qv Z (s.h.set l ⟨.arr,ob.gen+1,y.size,len+n,JJ len off ob.row rows⟩) Qg w' (.ref l (ob.gen+1) 0 (len+n)) v∧Below base w w':=by
     intro vo hold hlen HJ Qd
     obtain ⟨Yl,rest,QS,xP,XM⟩:=Uo (ty:=o.type) ht hy xN w a0 len jj (flat len y.size vo) ax n xO (flat n y.size vs) hold (fun w' hw=>by rw[← S.v];exact S.first w' hw) Qd XL Xh
     have e1:∀ b,b<w.heap.size→(w.drew.alloc (.cells ((flat len y.size vo).toArray++(flat n y.size vs).toArray++rest) e)).heap[b]? = w.heap[b]? := fun b hb=>YP w.drew _ b hb
     have ZU:(w.drew.alloc (.cells ((flat len y.size vo).toArray++(flat n y.size vs).toArray++rest) e)).heap[w.heap.size]? = some (.cells ((flat len y.size vo).toArray++(flat n y.size vs).toArray++rest) e (0,0)):=heap_alloc_new w.drew _
     have T:=Tr.vP (o':=⟨.arr,ob.gen+1,y.size,len+n,JJ len off ob.row rows⟩) (p':=some (w.heap.size,0)) r.o QY Zm Zj.symm (Nat.lt_succ_self _) (fun k hk _=>e1 k hk) (by intro b q h;simp at h;exact .inr (by omega))
     refine ⟨_,_,_,.inl (fin QS),T,QT.vP r.o QY Zm Zj rfl (Nat.lt_succ_self _) (fun k hk _=>e1 k hk) (.inr (Nat.le_refl _)) Js ZU ?_ (fun i hi=>?_) (fun i j hi hj=>?_),.ref _ _ _ _ ⟨.arr,ob.gen+1,y.size,len+n,JJ len off ob.row rows⟩ (some (w.heap.size,0)) _ Yl (by simp [Jr QY]) (by simp [Kz Zm]) rfl (Nat.le_refl _) (fun _=>.inr ⟨w.heap.size,0,_,e,rfl,by simp,ZU,?_,xP⟩),((Below.refl base w).drew).alloc Js _⟩
     ·simp [Wx,Nat.add_mul]
     ·by_cases jk:i<len
      ·show (JJ len off ob.row rows i).length=_
       rw[Ae jk];exact hlen i jk
      ·show (JJ len off ob.row rows i).length=_
       rw[xM (by omega)];exact S.len _ (by have:i<len+n:=hi;omega)
     ·have Kj:j<y.size:=hj
      have ZE:i<len+n:=hi
      show ∃ v,((flat len y.size vo).toArray++(flat n y.size vs).toArray++rest)[0+(i*y.size+j)]? = some v∧Qv _ _ _ _ (nth (JJ len off ob.row rows i) j) v
      by_cases jk:i<len
      ·rw[Ae jk]
       refine ⟨vo i j,?_,(HJ i j jk Kj).tr T⟩
       have Ex:=xL (vs:=vo) jk Kj
       have Us:=(List.getElem?_eq_some_iff.1 Ex).1
       rw[Nat.zero_add,Array.getElem?_append_left (by simp;omega),Array.getElem?_append_left (by simpa using Us)]
       simpa using Ex
      ·rw[xM (by omega)]
       refine ⟨vs (i - len) j,?_,(S.rel (i - len) j (by omega) Kj).tr T⟩
       have Ex:=xL (vs:=vs) (show i - len<n by omega) Kj
       have Us:=(List.getElem?_eq_some_iff.1 Ex).1
       have e2:i*y.size+j - (flat len y.size vo).length=(i - len)*y.size+j:=by
        rw[Wx]
        have:i=(i - len)+len:=by omega
        conv=>lhs;rw[this,Nat.add_mul]
        omega
       have e3:(flat len y.size vo).length≤i*y.size+j:=by
        rw[Wx]
        have:=Nat.mul_le_mul_right y.size (show len≤i by omega);omega
       rw[Nat.zero_add,Array.getElem?_append_left (by simp;omega),Array.getElem?_append_right (by simpa using e3)]
       simp only[List.size_toArray]
       rw[e2];simpa using Ex
     ·simp only[Nat.zero_add,Array.size_append,List.size_toArray,Wx,XM]
      rw[← Nat.add_mul,← Nat.add_mul];exact Nat.mul_le_mul_right _ (by omega)
    rcases KY hg with ⟨h1,h2⟩ | ⟨b,q,c,el,Kb,qv,hb,ZO,km⟩
    ·subst h1
     subst h2
     by_cases hn:n=0
     ·subst hn
      have QS:=Uq (ty:=o.type) ht hy w a0 ax xO
      cases HK:p' with
      | none=>
       subst HK
       have T:=Tr.vP (o':=⟨.arr,ob.gen+1,y.size,0+0,JJ 0 off ob.row rows⟩) (p':=none) r.o QY Zm Zj.symm (Nat.lt_succ_self _) (fun k hk _=>rfl) (by intro b q h;cases h)
       have WW:pl.set l none=pl:=by
        apply List.ext_getElem?;intro i
        by_cases hi:l=i
        ·subst hi;rw[Zm];simp [Kz Zm]
        ·rw[List.getElem?_set_ne hi]
       rw[WW] at T
       refine ⟨_,w,pl,.inl (fin QS),T,?_,.ref _ _ _ _ ⟨.arr,ob.gen+1,y.size,0+0,JJ 0 off ob.row rows⟩ none a0 0 (by simp [Jr QY]) Zm rfl (Nat.le_refl _) (fun _=>.inl ⟨rfl,rfl⟩),Below.refl _ _⟩
       refine ⟨by simp [r.o.len],r.o.inj,fun l1 o1 Zn h1=>?_,fun l1 o1 b q Zn h1=>?_⟩
       ·by_cases e1:l=l1
        ·subst e1
         rw[List.getElem?_set_self (Jr QY)] at Zn;cases Zn;rfl
        ·rw[List.getElem?_set_ne e1] at Zn;exact r.o.JU l1 o1 Zn h1
       ·by_cases e1:l=l1
        ·subst e1;rw[Zm] at h1;cases h1
        ·rw[List.getElem?_set_ne e1] at Zn
         obtain ⟨g1,x⟩:=r.o.at_ l1 o1 b q Zn h1
         exact ⟨g1,x.to rfl rfl rfl rfl (fun _ _=>rfl) fun i j v _ _ hr=>hr.tr T⟩
      | some bq=>
       obtain ⟨b,q⟩:=bq
       subst HK
       obtain ⟨g1,x⟩:=r.o.at_ l ob b q QY Zm
       obtain ⟨c,el,g2,g3,g4,g5⟩:=x.cells Zj
       have T:=Tr.vP (o':=⟨.arr,ob.gen+1,y.size,0+0,JJ 0 off ob.row rows⟩) (p':=some (b,q)) r.o QY Zm Zj.symm (Nat.lt_succ_self _) (fun k hk _=>rfl) (by intro b1 q1 h;simp at h;exact .inl ⟨q,by rw[h.1]⟩)
       exact ⟨_,w,_,.inl (fin QS),T,QT.vP r.o QY Zm Zj rfl (Nat.lt_succ_self _) (fun k hk _=>rfl) (.inl ⟨q,rfl⟩) (g1 hro) g2 (by simp;omega) (fun i hi=>by simp at hi) (fun i j hi=>by simp at hi),
        .ref _ _ _ _ ⟨.arr,ob.gen+1,y.size,0+0,JJ 0 off ob.row rows⟩ (some (b,q)) a0 0 (by simp [Jr QY]) (by simp [Kz Zm]) rfl (Nat.le_refl _) (fun _=>.inl ⟨rfl,rfl⟩),Below.refl _ _⟩
     ·exact grown (fun _ _=>Go.undef) (fun w' _=>by cases a0 <;> simp [Builtin.firstCells,loadCells,loadCellsFrom,flat]) (fun i hi=>by omega) (fun i j hi=>by omega) (by omega)
    ·subst Kb
     obtain ⟨QI,x⟩:=r.o.at_ l ob b q QY Zm
     have QI:=QI hro
     obtain ⟨c',HG,Jp,Ad,Z5,ZN⟩:=x.cells Zj
     rw[hb] at Jp;cases Jp
     rw[Qaz] at ZO Ad Z5 ZN qv
     by_cases HH:len+n≤jj
     ·
      have BV:q+off*y.size+len*y.size+n*y.size≤c.size:=by
       have h1:=Nat.mul_le_mul_right y.size (show off+(len+n)≤off+jj by omega)
       simp only[Nat.add_mul] at h1 ZO
       omega
      obtain ⟨w',c',g1,g2,g3,g4,g5,g6,g7,g8,g9⟩:=HC (P:=P) b el (flat n y.size vs) 0 (q+off*y.size+len*y.size) w c hb (by simp [Wx];omega) (fun k hk=>by
       rw[Wx] at hk
       obtain ⟨k1,k2,k3⟩:=div_lt hk
       have hg:=xL (vs:=vs) k1 k2
       rw[k3] at hg
       have:QJ (flat n y.size vs) k=vs (k / y.size) (k % y.size):=by simp [QJ,List.getD_eq_getElem?_getD,hg]
       rw[this]
       refine NO (S.rel _ _ k1 k2) ?_
       have h2:=HI _ k1
       rw[List.all_eq_true] at h2
       refine h2 _ ?_
       have h3:k % y.size<(rows (k / y.size)).length:=by rw[S.len _ k1];exact k2
       simp only[nth,List.getD_eq_getElem?_getD,List.getElem?_eq_getElem h3,Option.getD_some]
       exact List.getElem_mem h3)
      subst qv
      have QS:=Qaw (ty:=o.type) ht hy w b (q+off*y.size) len jj ax n xO (flat n y.size vs) (by rw[← S.v];exact S.first w rfl) HH g1
      have he:∀ k,k<w.heap.size→(∀ q1,(some (b,q):Pl)≠some (k,q1))→w'.heap[k]? = w.heap[k]? := fun k _ hk=>g5 k (fun hkb=>hk q (by rw[hkb]))
      have T:=Tr.vP (o':=⟨.arr,ob.gen+1,y.size,len+n,JJ len off ob.row rows⟩) (p':=some (b,q+off*y.size)) r.o QY Zm Zj.symm (Nat.lt_succ_self _) he (by intro b1 q1 h;simp at h;exact .inl ⟨q,by rw[h.1]⟩)
      refine ⟨_,w',_,.inl (fin QS),T,QT.vP r.o QY Zm Zj rfl (Nat.lt_succ_self _) he (.inl ⟨q,rfl⟩) QI g2 ?_ (fun i hi=>?_) (fun i j hi hj=>?_),.ref _ _ _ _ ⟨.arr,ob.gen+1,y.size,len+n,JJ len off ob.row rows⟩ (some (b,q+off*y.size)) _ jj (by simp [Jr QY]) (by simp [Kz Zm]) rfl (Nat.le_refl _) (fun _=>.inr ⟨b,q+off*y.size,c',el,rfl,by simp,g2,?_,HH⟩),Es QI g5 g6 g7 g8 g9⟩
      ·rw[g3];simp only[Nat.add_mul];omega
      ·by_cases jk:i<len
       ·show (JJ len off ob.row rows i).length=_
        rw[Ae jk];exact Z5 _ (by omega)
       ·show (JJ len off ob.row rows i).length=_
        rw[xM (by omega)];exact S.len _ (by have:i<len+n:=hi;omega)
      ·have Kj:j<y.size:=hj
       have ZE:i<len+n:=hi
       show ∃ v,c'[q+off*y.size+(i*y.size+j)]? = some v∧Qv _ _ _ _ (nth (JJ len off ob.row rows i) j) v
       rw[g4]
       simp only[Wx,Nat.add_zero]
       by_cases jk:i<len
       ·rw[Ae jk,if_neg]
        ·obtain ⟨v,hv,hr⟩:=ZN (off+i) j (by omega) Kj
         refine ⟨v,?_,hr.tr T⟩
         rw[← hv];congr 1;rw[Nat.add_mul];omega
        ·have:=Nat.mul_le_mul_right y.size (show i+1≤len from jk);rw[Nat.add_mul] at this;omega
       ·have h1:=Nat.mul_le_mul_right y.size (show len≤i by omega)
        have h2:i*y.size=(i - len)*y.size+len*y.size:=by rw[← Nat.add_mul];congr 1;omega
        have h3:=Nat.mul_le_mul_right y.size (show (i - len)+1≤n by omega)
        rw[Nat.add_mul] at h3
        rw[xM (by omega),if_pos (by omega)]
        refine ⟨vs (i - len) j,?_,(S.rel (i - len) j (by omega) Kj).tr T⟩
        rw[show q+off*y.size+(i*y.size+j) - (q+off*y.size+len*y.size)=(i - len)*y.size+j by omega]
        exact xL (by omega) Kj
      ·rw[g3];simp only[Nat.zero_add,Nat.add_mul] at ZO ⊢;omega
     ·refine grown (fun i j=>(c[q+((off+i)*y.size+j)]?).getD Go.undef) (fun w' hw=>?_) (fun i hi=>Z5 _ (by omega)) (fun i j hi hj=>?_) (by omega)
      ·have S0:Src Z s.h pl w (.slice a0 len jj) len y.size (fun k=>ob.row (off+k)) a0 jj (fun i j=>(c[q+((off+i)*y.size+j)]?).getD Go.undef):=by
        refine ⟨rfl,fun i hi=>Z5 _ (by omega),fun i j hi hj=>⟨b,q+off*y.size,qv,?_⟩,fun i j hi hj=>?_⟩
        ·obtain ⟨u,hu,hr⟩:=ZN (off+i) j (by omega) hj
         rw[cell_of_row w b _ c el (0,0) hb,show q+off*y.size+(i*y.size+j)=q+((off+i)*y.size+j) by rw[Nat.add_mul];omega,hu];rfl
        ·obtain ⟨u,hu,hr⟩:=ZN (off+i) j (by omega) hj
         simp only[hu,Option.getD_some];exact hr
       exact S0.first w' hw
      ·obtain ⟨u,hu,hr⟩:=ZN (off+i) j (by omega) hj
       simp only[hu,Option.getD_some];exact hr
   ·cases h
 ·cases h
theorem QaB (hL:Zr P L) {t:TypeId} {x0 x:Operand} (ho:o.op=.call ⟨.builtin .append,#[x0,x],#[t,t]⟩) (jh:Qp s.fr x0=.nil) {p:Prop} {h':List Ob} {d:D} (h:kp L s.h t .nil (Qp s.fr x)=some (p,h',d)) (hp:p):XK P base nt o s h' d:=
 (Qax hL ho jh h hp).up (by simp [calm,ho])
theorem QaC (hL:Zr P L) {t:TypeId} {x0 x:Operand} {l g off len:Nat} (ho:o.op=.call ⟨.builtin .append,#[x0,x],#[t,t]⟩) (jh:Qp s.fr x0=.ref l g off len) {p:Prop} {h':List Ob} {d:D} (h:kp L s.h t (.ref l g off len) (Qp s.fr x)=some (p,h',d)) (hp:p):XK P base nt o s h' d:=
 (Qay hL ho jh h hp).up (by simp [calm,ho])
end
variable {Z:Nat→Prop}
def zn (Z:Nat→Prop) (h:List Ob) (pl:List Pl) (w:World) (cs:List D) (vs:Array Value):Prop:=vs.size=cs.length∧∀ i,i<cs.length→Qv Z h pl w (nth cs i) (QJ vs.toList i)
theorem Ut (off:Nat):∀ (l:List Value) (n:Nat) (c:Array Value),((l.zipIdx n).foldl (fun (cs:Array Value) (x:Value × Nat)=>cs.setIfInBounds (off+x.2) x.1) c).size=c.size ∧
  ∀ k,(((l.zipIdx n).foldl (fun (cs:Array Value) (x:Value × Nat)=>cs.setIfInBounds (off+x.2) x.1) c)[k]?)=if off+n≤k∧k<off+n+l.length∧k<c.size then l[k - (off+n)]? else c[k]?
 | [],n,c=>⟨rfl,fun k=>by rw[if_neg (by simp;omega)];rfl⟩
 | v::l,n,c=>by
  obtain ⟨h1,h2⟩:=Ut off l (n+1) (c.setIfInBounds (off+n) v)
  simp only[List.zipIdx_cons,List.foldl_cons]
  refine ⟨by rw[h1];simp,fun k=>?_⟩
  rw[h2 k]
  simp only[Array.size_setIfInBounds,List.length_cons]
  by_cases h3:k=off+n
  ·subst h3
   rw[if_neg (by omega),Array.getElem?_setIfInBounds_self]
   by_cases h4:off+n<c.size
   ·rw[if_pos h4,if_pos ⟨by omega,by omega,h4⟩];simp
   ·rw[if_neg h4,if_neg (by omega)];simp;omega
  ·rw[Array.getElem?_setIfInBounds_ne (by omega)]
   by_cases h5:off+n≤k∧k<off+n+(l.length+1)∧k<c.size
   ·rw[if_pos h5,if_pos (by omega)]
    obtain ⟨m,rfl⟩:∃ m,k=off+n+(m+1):=⟨k - (off+n) - 1,by omega⟩
    rw[show off+n+(m+1) - (off+(n+1))=m by omega,show off+n+(m+1) - (off+n)=m+1 by omega];simp
   ·rw[if_neg h5,if_neg (by omega)]
theorem QaD (off:Nat) (v:Array Value) (c:Array Value):v.zipIdx.foldl (fun (cs:Array Value) (x:Value × Nat)=>cs.setIfInBounds (off+x.2) x.1) c=(v.toList.zipIdx 0).foldl (fun (cs:Array Value) (x:Value × Nat)=>cs.setIfInBounds (off+x.2) x.1) c:=by
 rw[← Array.foldl_toList,Array.toList_zipIdx]
theorem zn.jf {h:List Ob} {pl:List Pl} {w:World} {cs ds:List D} {vs us:Array Value} {off:Nat} (r:zn Z h pl w cs vs) (q:zn Z h pl w ds us) (hl:off+ds.length≤cs.length) :
  zn Z h pl w (jf cs off ds) (us.zipIdx.foldl (fun (cs:Array Value) (x:Value × Nat)=>cs.setIfInBounds (off+x.2) x.1) vs):=by
 obtain ⟨h1,h2⟩:=Ut off us.toList 0 vs
 rw[QaD]
 refine ⟨by rw[h1,r.1,HE hl],fun i hi=>?_⟩
 rw[HE hl] at hi
 rw[Uj hl]
 have e:QJ (List.foldl (fun (cs:Array Value) (x:Value × Nat)=>cs.setIfInBounds (off+x.2) x.1) vs (us.toList.zipIdx 0)).toList i=if off≤i∧i<off+ds.length then QJ us.toList (i - off) else QJ vs.toList i:=by
  simp only[QJ,List.getD_eq_getElem?_getD,Array.getElem?_toList,h2 i,Nat.add_zero,Array.length_toList,q.1,r.1]
  by_cases h3:off≤i∧i<off+ds.length
  ·rw[if_pos ⟨h3.1,h3.2,hi⟩,if_pos h3]
  ·rw[if_neg (by omega),if_neg h3]
 rw[e]
 split
 ·exact q.2 _ (by omega)
 ·exact r.2 _ hi
def qw (place:Nat→Option (Nat × Nat)) (cells:List D):List (Nat × Option (List D))→Option (List D)
 | []=>some cells
 | (i,some ds)::rest=>match place i with
  | some (off,size)=>bif Nat.beq ds.length size && Nat.ble (off+ds.length) cells.length then qw place (jf cells off ds) rest else none
  | none=>none
 | (_,none)::_=>none
theorem Ey {h:List Ob} {pl:List Pl} {w:World} (place:Nat→Option (Nat × Nat)) (ev:Operand→D) (a:Act) (Ag:∀ x,Qv Z h pl w (ev x) (a.eval x)):∀ (parts:List (Nat × Operand)) (cells kr:List D) (vs:Array Value),zn Z h pl w cells vs →
  qw place cells (parts.map fun x=>(x.1,VD (ev x.2)))=some kr→∃ KC,Instr.fill place vs (parts.map fun x=>(x.1,a.eval x.2))=some KC∧zn Z h pl w kr KC
 | [],cells,kr,vs,r,hh=>by simp [qw] at hh;subst hh;exact ⟨vs,rfl,r⟩
 | (i,x)::parts,cells,kr,vs,r,hh=>by
  simp only[List.map_cons] at hh ⊢
  cases hd:VD (ev x) with
  | none=>rw[hd] at hh;simp [qw] at hh
  | some ds=>
   rw[hd] at hh
   simp only[qw] at hh
   cases hp:place i with
   | none=>rw[hp] at hh;cases hh
   | some os=>
    obtain ⟨off,size⟩:=os
    rw[hp] at hh
    obtain ⟨hc,hh⟩:=Yh hh
    simp only[Bool.and_eq_true,Nat.beq_eq,Nat.ble_eq] at hc
    obtain ⟨BW,zo⟩:=NP (Ag x) hd
    have q:zn Z h pl w ds (a.eval x).cells:=⟨BW,fun i hi=>(zo i hi).1⟩
    obtain ⟨KC,h1,h2⟩:=Ey place ev a Ag parts _ _ _ (r.jf q hc.2) hh
    refine ⟨KC,?_,h2⟩
    simp only[Instr.fill,hp]
    rw[if_neg (by simp only[BW,r.1];simp;omega)]
    exact h1
theorem NZ {h:List Ob} {pl:List Pl} {w:World} {y:Ty} {z:Value} (hz:z.cells.toList=y.zero):zn Z h pl w (y.zero.map ZQ) z.cells:=by
 refine ⟨by rw[← hz];simp,fun i hi=>?_⟩
 rw[← hz] at hi ⊢
 have ZE:i<z.cells.size:=by simpa using hi
 refine .cl _ _ ?_
 simp only[nth,QJ,List.getD_eq_getElem?_getD,List.getElem?_map,Array.getElem?_toList,Array.getElem?_eq_getElem ZE,Option.map_some,Option.getD_some]
 exact kj _ _ _
def BX (L:Zd):List (Nat × TypeId)→Option (List (Nat × Nat))
 | []=>some []
 | (off,u)::r=>match ty L u,BX L r with
  | some y,some ps=>some ((off,y.size)::ps)
  | _,_=>none
theorem Uu {P:Program} {L:Zd} (hL:Zr P L) (w:World):∀ (fs:List Field) (ps:List (Nat × Nat)),BX L (fs.map fun f=>(f.offset,f.type))=some ps→(fs.mapM fun f=>Prod.mk f.offset <$> sizeOf f.type).run P w=.ok ps w
 | [],ps,h=>by simp [BX] at h;subst h;simp
 | f::fs,ps,h=>by
  simp only[List.map_cons,BX] at h
  split at h
  ·rename_i y ps' hy N0
   simp only[Option.some.injEq] at h
   subst h
   simp [List.mapM_cons,(hL _ _ hy).sizeOf,Uu hL w fs ps' N0]
  ·cases h
def HL (L:Zd) (fr:List (Nat × D)) (t:TypeId) (parts:List (Nat × Operand)):Option D:=
 match ty L t with
 | some y=>match y.k with
  | .struct fs=>match BX L fs with
   | some ps=>match qw (fun i=>ps[i]?) (y.zero.map ZQ) (parts.map fun x=>(x.1,VD (Qp fr x.2))) with
    | some cs=>some (.agg cs)
    | none=>none
   | none=>none
  | .array _ e=>match ty L e with
   | some ye=>match qw (fun i=>some (i*ye.size,ye.size)) (y.zero.map ZQ) (parts.map fun x=>(x.1,VD (Qp fr x.2))) with
    | some cs=>some (.agg cs)
    | none=>none
   | none=>none
  | _=>none
 | none=>none
section
variable {P:Program} {L:Zd} {base nt:Nat} {s:St} {o:Oper}
theorem zn.agg {h:List Ob} {pl:List Pl} {w:World} {cs:List D} {vs:Array Value} (r:zn Z h pl w cs vs):Qv Z h pl w (.agg cs) (.agg vs):=by
 have:=Qv.agg (h:=h) (pl:=pl) (w:=w) cs vs.toList (by simpa using r.1) r.2
 simpa using this
theorem QaF (hL:Zr P L) {t:TypeId} {parts:Array (Nat × Operand)} (ho:o.op=.build t parts) {d:D} (h:HL L s.fr t parts.toList=some d):Ki P base nt o s d:=by
 intro Z pl a w r
 unfold HL at h
 split at h
 ·rename_i y je
  have hy:=hL _ _ je
  obtain ⟨z,hz,Xi⟩:=hy.zeroValue
  split at h
  ·rename_i fs hk
   split at h
   ·rename_i ps N0
    split at h
    ·rename_i cs ZO
     simp only[Option.some.injEq] at h
     subst h
     obtain ⟨g,hg,hm⟩:=Ua hy hk
     obtain ⟨KC,h1,h2⟩:=Ey (h:=s.h) (pl:=pl) (w:=w) _ (Qp s.fr) a (fun x=>r.eval x) parts.toList _ _ _ (NZ hz) ZO
     refine ⟨_,h2.agg,fun w' _=>?_⟩
     have QZ:=Uu hL w' g.toList ps (by rw[hm];exact N0)
     have Zw:Instr.fill (fun x=>ps[x]?) z.cells (List.map (fun x=>(x.fst,a.eval x.snd)) parts.toList)=some KC:=h1
     simp [execOp,ho,Instr.build,Xi,run_underlying hg,Array.mapM_eq_mapM_toList,QZ,Zw]
    ·cases h
   ·cases h
  ·rename_i n e hk
   split at h
   ·rename_i ye KB
    split at h
    ·rename_i cs ZO
     simp only[Option.some.injEq] at h
     subst h
     obtain ⟨KC,h1,h2⟩:=Ey (h:=s.h) (pl:=pl) (w:=w) _ (Qp s.fr) a (fun x=>r.eval x) parts.toList _ _ _ (NZ hz) ZO
     refine ⟨_,h2.agg,fun w' _=>?_⟩
     simp [execOp,ho,Instr.build,Xi,run_underlying (NG hy hk),(hL _ _ KB).sizeOf,h1]
    ·cases h
   ·cases h
  ·cases h
 ·cases h
theorem N1 {a b:List D} {i:Nat} (h:i<a.length):nth (a++b) i=nth a i:=by simp only[nth,List.getD_eq_getElem?_getD,List.getElem?_append_left h]
theorem N2 {a b:List D} {i:Nat} (h:a.length≤i):nth (a++b) i=nth b (i - a.length):=by simp only[nth,List.getD_eq_getElem?_getD,List.getElem?_append_right h]
theorem N3 (n:Nat) (zs:List D):(List.replicate n zs).flatten.length=n*zs.length:=by simp
theorem Uv (zs:List D):∀ (n i:Nat),i<n*zs.length→nth (List.replicate n zs).flatten i=nth zs (i % zs.length)
 | 0,i,h=>by simp at h
 | n+1,i,h=>by
  rw[List.replicate_succ,List.flatten_cons]
  rw[Nat.add_mul] at h
  by_cases hi:i<zs.length
  ·rw[N1 hi,Nat.mod_eq_of_lt hi]
  ·rw[N2 (by omega),Uv zs n _ (by omega)]
   congr 1
   rw[Nat.mod_eq_sub_mod (by omega:zs.length≤i)]
def jl (len sz:Nat) (cells:List D):Nat→List D:=bif Nat.beq len 1 then fun _=>cells else fun k=>(cells.drop (k*sz)).take sz
def HM (L:Zd) (fr:List (Nat × D)) (h:List Ob) (t:TypeId) (len:Nat) (parts:List (Nat × Operand)):Option (Prop × List Ob × D):=
 match ty L t with
 | some ⟨.slice e,_,_,_⟩=>match ty L e with
  | some y=>match qw (fun i=>some (i*y.size,y.size)) (List.replicate len (y.zero.map ZQ)).flatten (parts.map fun x=>(x.1,VD (Qp fr x.2))) with
   | some cs=>some (len*y.size≤16777216∧y.zero.length=y.size,h++[⟨.arr,0,y.size,len,jl len y.size cs⟩],.ref h.length 0 0 len)
   | none=>none
  | none=>none
 | _=>none
theorem Uw (place:Nat→Option (Nat × Nat)):∀ (ps:List (Nat × Option (List D))) (cells kr:List D),qw place cells ps=some kr→kr.length=cells.length
 | [],cells,kr,h=>by simp [qw] at h;rw[h]
 | (i,none)::ps,cells,kr,h=>by simp [qw] at h
 | (i,some ds)::ps,cells,kr,h=>by
  simp only[qw] at h
  split at h
  ·obtain ⟨hc,h⟩:=Yh h
   simp only[Bool.and_eq_true,Nat.beq_eq,Nat.ble_eq] at hc
   rw[Uw place ps _ _ h,HE hc.2]
  ·cases h
theorem QaG (hL:Zr P L) {t:TypeId} {len:Nat} {parts:Array (Nat × Operand)} (ho:o.op=.buildSlice t len parts) {p:Prop} {h':List Ob} {d:D} (h:HM L s.fr s.h t len parts.toList=some (p,h',d)) (hp:p):XK P base nt o s h' d:=by
 intro Z pl a w r Js
 unfold HM at h
 split at h
 ·rename_i e _ _ _ he
  split at h
  ·rename_i y je
   split at h
   ·rename_i cs ZO
    simp only[Option.some.injEq,Prod.mk.injEq] at h
    obtain ⟨rfl,rfl,rfl⟩:=h
    obtain ⟨h24,xN⟩:=hp
    have hy:=hL _ _ je
    obtain ⟨z,hz,Xi⟩:=hy.zeroValue
    have vR:z.cells.size=y.size:=by rw[← xN,← hz];simp
    have ht:=ze (hL _ _ he) rfl
    have zr:=NZ (Z:=Z) (h:=s.h) (pl:=pl) (w:=w) hz
    have jm:(y.zero.map ZQ).length=y.size:=by simp [xN]
    have hlen:cs.length=len*y.size:=by rw[Uw _ _ _ _ ZO,N3,jm]
    have init:∀ zc:Array Value,(len*y.size=0→zc=#[])→(len*y.size≠0→zc=z.cells)→zn Z s.h pl w (List.replicate len (y.zero.map ZQ)).flatten ((Array.range (len*y.size)).map (zc[· % zc.size]!)):=by
     intro zc h0 h1
     refine ⟨by rw[N3,jm];simp,fun i hi=>?_⟩
     rw[N3,jm] at hi
     have QD:len*y.size≠0:=by omega
     have vS:=h1 QD
     subst vS
     have jn:0<y.size:=Nat.pos_of_ne_zero (fun e=>QD (by rw[e];simp))
     rw[Uv _ _ _ (by rw[jm];exact hi),jm]
     have h2:=zr.2 (i % y.size) (by rw[jm];exact Nat.mod_lt _ jn)
     have h3:i % y.size<z.cells.size:=by rw[vR];exact Nat.mod_lt _ jn
     have:QJ (Array.map (fun x=>z.cells[x % z.cells.size]!) (Array.range (len*y.size))).toList i=QJ z.cells.toList (i % y.size):=by
      simp only[QJ,List.getD_eq_getElem?_getD,Array.getElem?_toList,Array.getElem?_map,Array.getElem?_range,hi,if_true,Option.map_some,Option.getD_some,vR]
      rw[getElem!_pos z.cells _ h3,Array.getElem?_eq_getElem h3];rfl
     rw[this];exact h2
    have fin:∀ KC:Array Value,zn Z s.h pl w cs KC→(execOp a.eval o).run P w=.ok (.value (.slice (some ⟨w.heap.size,0,none⟩) len len)) (w.alloc (.cells KC e)) →
      ∃ v w' Qg,((execOp a.eval o).run P w=.ok (.value v) w'∨((execOp a.eval o).run P w=.ok .skip w'∧v=Go.undef))∧Tr s.h pl w (s.h++[⟨.arr,0,y.size,len,jl len y.size cs⟩]) Qg w' ∧
       QT Z base (s.h++[⟨.arr,0,y.size,len,jl len y.size cs⟩]) Qg w'∧Qv Z (s.h++[⟨.arr,0,y.size,len,jl len y.size cs⟩]) Qg w' (.ref s.h.length 0 0 len) v∧Below base w w'∧(calm o=true→Ext w w'):=by
     intro KC hr QS
     have e1:∀ b,b<w.heap.size→(w.alloc (.cells KC e)).heap[b]? = w.heap[b]? := fun b hb=>YP w _ b hb
     have ZU:(w.alloc (.cells KC e)).heap[w.heap.size]? = some (.cells KC e (0,0)):=heap_alloc_new w _
     have QZ:pl.length=s.h.length:=r.o.len
     have T:Tr s.h pl w (s.h++[⟨.arr,0,y.size,len,jl len y.size cs⟩]) (pl++[some (w.heap.size,0)]) (w.alloc (.cells KC e)):=Tr.push r.o e1 _ _ (by intro b q h;simp at h;omega)
     have ZN:∀ i,i<len→(jl len y.size cs i).length=y.size∧∀ j,j<y.size→nth (jl len y.size cs i) j=nth cs (i*y.size+j):=by
      intro i hi
      unfold jl
      by_cases h1:len=1
      ·subst h1
       have:i=0:=by omega
       subst this
       simp [hlen]
      ·have:Nat.beq len 1=false:=by rw[← Bool.not_eq_true,Nat.beq_eq];exact h1
       rw[this]
       have h2:=Nat.mul_le_mul_right y.size (show i+1≤len from hi)
       rw[Nat.add_mul] at h2
       refine ⟨by simp [hlen];omega,fun j hj=>?_⟩
       simp only[cond_false]
       rw[NJ hj,xI]
     refine ⟨_,_,_,.inl QS,T,QT.push r.o e1 _ rfl (Nat.le_refl _) Js ZU (by simp [hr.1,hlen]) (fun i hi=>(ZN i hi).1) (fun i j hi hj=>?_),.ref _ _ _ _ ⟨.arr,0,y.size,len,jl len y.size cs⟩ (some (w.heap.size,0)) _ len (by simp) (by rw[← QZ];simp) rfl (Nat.le_refl _) (fun _=>.inr ⟨w.heap.size,0,KC,e,rfl,by simp,ZU,by simp [hr.1,hlen],Nat.le_refl _⟩),vO Js _,fun _=>e1⟩
     have Kj:j<y.size:=hj
     have ZE:i<len:=hi
     have h2:=Nat.mul_le_mul_right y.size (show i+1≤len from ZE)
     rw[Nat.add_mul] at h2
     have Qd:i*y.size+j<cs.length:=by omega
     refine ⟨QJ KC.toList (i*y.size+j),?_,?_⟩
     ·have:i*y.size+j<KC.size:=by rw[hr.1];exact Qd
      simp only[Nat.zero_add,QJ,List.getD_eq_getElem?_getD,Array.getElem?_toList,Array.getElem?_eq_getElem this,Option.getD_some]
     ·show Qv _ _ _ _ (nth (jl len y.size cs i) j) _
      rw[(ZN i ZE).2 j Kj]
      exact (hr.2 _ Qd).tr T
    by_cases h0:len*y.size=0
    ·obtain ⟨KC,h1,h2⟩:=Ey (h:=s.h) (pl:=pl) (w:=w) _ (Qp s.fr) a (fun x=>r.eval x) parts.toList _ _ _ (init #[] (fun _=>rfl) (fun h=>absurd h0 h)) ZO
     rw[h0] at h1
     have e0:Array.map (fun x=>(#[]:Array Value)[x % (#[]:Array Value).size]!) (Array.range 0)=#[]:=by simp
     rw[e0] at h1
     have e1:∀ f:Nat→Value,Array.map f (Array.range 0)=#[]:=fun f=>Array.eq_empty_of_size_eq_zero (by simp)
     refine fin KC h2 ?_
     simp [execOp,ho,Instr.buildSlice,run_underlying ht,hy.sizeOf,h0,newRow,h1,e1]
    ·obtain ⟨KC,h1,h2⟩:=Ey (h:=s.h) (pl:=pl) (w:=w) _ (Qp s.fr) a (fun x=>r.eval x) parts.toList _ _ _ (init z.cells (fun h=>absurd h h0) (fun _=>rfl)) ZO
     refine fin KC h2 ?_
     have QaH:¬ (16777216<len*y.size):=by omega
     simp [execOp,ho,Instr.buildSlice,run_underlying ht,hy.sizeOf,Xi,h0,QaH,newRow,h1]
   ·cases h
  ·cases h
 ·cases h
end
variable {Z:Nat→Prop}
def XN (fr:List (Nat × D)) (QaI:Int):Option Operand→Option Int
 | none=>some QaI
 | some x=>match Qp fr x with
  | .raw (.int _ i)=>some i
  | _=>none
theorem Ux {P:Program} (w:World) {k:IntKind} {i:Int} {y:Nat} {c:BoundsCode} (h0:0≤i) (h1:i≤y):(Instr.sliceBound (.int k i) y c).run P w=.ok i.toNat w:=by
 simp [Instr.sliceBound,asIntOf,h0,h1]
theorem HN {P:Program} {base nt:Nat} {s:St} {pl:List Pl} {a:Act} {w0:World} (r:Rel Z base nt s pl a w0) (w:World) (isSlice:Bool) (len cap:Nat) (lo hi:Option Operand) {l u:Int} (hl:XN s.fr 0 lo=some l) (hu:XN s.fr len hi=some u)
  (h0:0≤l) (h1:l≤u) (h2:u≤len) (km:len≤cap):(Instr.sliceBounds isSlice len cap (lo.map a.eval) (hi.map a.eval) none).run P w=.ok (l.toNat,u.toNat,cap) w:=by
 have get:∀ (x:Operand) (d:Int) (i:Int),XN s.fr d (some x)=some i→∃ k,a.eval x=.int k i:=by
  intro x d i h
  have hr:=r.eval x
  simp only[XN] at h
  generalize Qp s.fr x=dx at *
  split at h
  ·rename_i k j
   simp only[Option.some.injEq] at h
   subst h
   exact ⟨k,ZC hr⟩
  ·cases h
 have fst:∀ (v:Value) (m:Nat) (c:BoundsCode),(∃ k,v=.int k u)→u≤m→(Instr.sliceBound v m c).run P w=.ok u.toNat w:=by
  rintro v m c ⟨k,rfl⟩ hm;exact Ux w (by omega) hm
 have snd:∀ (v:Value) (c:BoundsCode),(∃ k,v=.int k l)→(Instr.sliceBound v u.toNat c).run P w=.ok l.toNat w:=by
  rintro v c ⟨k,rfl⟩;exact Ux w h0 (by omega)
 cases lo with
 | none=>
  simp only[XN,Option.some.injEq] at hl
  subst hl
  cases hi with
  | none=>simp only[XN,Option.some.injEq] at hu;subst hu;simp [Instr.sliceBounds]
  | some x=>
   have hx:=get x len u hu
   cases isSlice <;> simp [Instr.sliceBounds,fst _ cap _ hx (by omega)]
 | some z=>
  have hz:=get z 0 l hl
  cases hi with
  | none=>
   simp only[XN,Option.some.injEq] at hu
   have:u.toNat=len:=by omega
   have h3:=fun c=>snd (a.eval z) c hz
   rw[this] at h3
   simp [Instr.sliceBounds,h3,this]
  | some x=>
   have hx:=get x len u hu
   cases isSlice <;> simp [Instr.sliceBounds,fst _ cap _ hx (by omega),snd _ _ hz]
def HO (L:Zd) (fr:List (Nat × D)) (h:List Ob) (t:TypeId) (d:D) (lo hi:Option Operand):Ev:=
 match ty L t with
 | some ⟨.slice e,_,_,_⟩=>match ty L e with
  | some y=>match d with
   | .ref l g off len=>match h[l]?,XN fr 0 lo,XN fr len hi with
    | some o,some a,some b=>some (g=o.gen∧o.sz=y.size∧0≤a∧a≤b∧b≤len,.ref l g (off+a.toNat) (b - a).toNat)
    | _,_,_=>none
   | .imm z n row=>match XN fr 0 lo,XN fr n hi with
    | some a,some b=>some (z=y.size∧0≤a∧a≤b∧b≤n,.imm z (b - a).toNat fun i=>row (a.toNat+i))
    | _,_=>none
   | .nil=>match XN fr 0 lo,XN fr 0 hi with
    | some a,some b=>some (a=0∧b=0,.nil)
    | _,_=>none
   | _=>none
  | none=>none
 | some ⟨.str,_,_,_⟩=>match d with
  | .raw (.string s)=>match XN fr 0 lo,XN fr s.size hi with
   | some a,some b=>some (0≤a∧a≤b∧b≤s.size,.raw (.string (s.extract a.toNat b.toNat)))
   | _,_=>none
  | _=>none
 | _=>none
section
variable {P:Program} {L:Zd} {base nt:Nat} {s:St} {o:Oper}
theorem QaJ (hL:Zr P L) {t:TypeId} {x:Operand} {lo hi:Option Operand} (ho:o.op=.slice t x lo hi none) {p:Prop} {d:D} (h:HO L s.fr s.h t (Qp s.fr x) lo hi=some (p,d)) (hp:p):Ki P base nt o s d:=by
 intro Z pl a w r
 have hx:=r.eval x
 unfold HO at h
 split at h
 ·rename_i e _ _ _ he
  have ht:=ze (hL _ _ he) rfl
  split at h
  ·rename_i y je
   have hy:=hL _ _ je
   generalize Qp s.fr x=dx at *
   split at h
   ·rename_i l g off len
    split at h
    ·rename_i ob aa bb QY Zp Ah
     simp only[Option.some.injEq,Prod.mk.injEq] at h
     obtain ⟨rfl,rfl⟩:=h
     obtain ⟨hg,Zz,h0,h1,h2⟩:=hp
     obtain ⟨o',p',ad,cap,hv,Zb,Zm,Zj,XH,KY⟩:=xF hx
     rw[QY] at Zb;cases Zb
     have km:len≤cap:=by
      rcases KY hg with ⟨h3,h4⟩ | ⟨_,_,_,_,_,_,_,_,h3⟩ <;> omega
     refine ⟨.slice (if cap=aa.toNat then ad else ad.map (·.add (aa.toNat*y.size))) (bb - aa).toNat (cap - aa.toNat),?_,fun w' _=>?_⟩
     ·refine .ref _ _ _ _ ob p' _ _ QY Zm Zj XH (fun _=>?_)
      rcases KY hg with ⟨h3,h4⟩ | ⟨b,q,c,el,Kb,Yj,hb,ZO,h3⟩
      ·exact .inl ⟨by omega,by omega⟩
      ·by_cases hc:cap=aa.toNat
       ·exact .inl ⟨by omega,by omega⟩
       ·refine .inr ⟨b,q,c,el,Kb,?_,hb,?_,by omega⟩
        ·rw[if_neg hc,Yj,Option.map_some,zf,Zz,Nat.add_mul];simp only[Option.some.injEq,Addr.mk.injEq,and_true,true_and];omega
        ·rw[show off+aa.toNat+(cap - aa.toNat)=off+cap by omega];exact ZO
     ·have hb:=HN (P:=P) r w' true len cap lo hi Zp Ah h0 h1 h2 km
      simp [execOp,ho,Instr.sliceAt,run_underlying ht,Instr.slice,hv,hb,hy.sizeOf]
      omega
    ·cases h
   ·rename_i z n row
    split at h
    ·rename_i aa bb Zp Ah
     simp only[Option.some.injEq,Prod.mk.injEq] at h
     obtain ⟨rfl,rfl⟩:=h
     obtain ⟨rfl,h0,h1,h2⟩:=hp
     obtain ⟨ad,cap,b,q,vs,hv,Yj,km,hs,hc⟩:=Hn hx
     refine ⟨.slice (if cap=aa.toNat then ad else ad.map (·.add (aa.toNat*y.size))) (bb - aa).toNat (cap - aa.toNat),.cl _ _ ?_,fun w' _=>?_⟩
     ·refine .imm _ _ _ _ _ b (q+aa.toNat*y.size) (fun i j=>vs (aa.toNat+i) j) (fun jn=>?_) (by omega) (fun i hi=>hs _ (by omega)) (fun i j hi hj=>?_) (fun i j hi hj=>(hc (aa.toNat+i) j (by omega) hj).2)
      ·rw[if_neg (by omega),Yj (by omega),Option.map_some,zf]
      ·obtain ⟨⟨g1,g2⟩,_⟩:=hc (aa.toNat+i) j (by omega) hj
       refine ⟨g1,?_⟩
       rw[← g2];congr 2;rw[Nat.add_mul];omega
     ·have hb:=HN (P:=P) r w' true n cap lo hi Zp Ah h0 h1 h2 km
      simp [execOp,ho,Instr.sliceAt,run_underlying ht,Instr.slice,hv,hb,hy.sizeOf]
      omega
    ·cases h
   ·split at h
    ·rename_i aa bb Zp Ah
     simp only[Option.some.injEq,Prod.mk.injEq] at h
     obtain ⟨rfl,rfl⟩:=h
     obtain ⟨rfl,rfl⟩:=hp
     obtain ⟨ad,hv⟩:=y8 hx
     refine ⟨.slice ad 0 0,.cl _ _ (.nil _),fun w' _=>?_⟩
     have hb:=HN (P:=P) r w' true 0 0 lo hi Zp Ah (by omega) (by omega) (by omega) (Nat.le_refl _)
     simp [execOp,ho,Instr.sliceAt,run_underlying ht,Instr.slice,hv,hb,hy.sizeOf]
    ·cases h
   ·cases h
  ·cases h
 ·rename_i he
  have ht:=Em (hL _ _ he) rfl
  generalize Qp s.fr x=dx at *
  split at h
  ·rename_i str
   split at h
   ·rename_i aa bb Zp Ah
    simp only[Option.some.injEq,Prod.mk.injEq] at h
    obtain ⟨rfl,rfl⟩:=h
    obtain ⟨h0,h1,h2⟩:=hp
    have hv:=ZC hx
    refine ⟨_,.cl _ _ (.raw _),fun w' _=>?_⟩
    have hb:=HN (P:=P) r w' false str.size str.size lo hi Zp Ah h0 h1 h2 (Nat.le_refl _)
    simp [execOp,ho,Instr.sliceAt,run_underlying ht,Instr.slice,hv,hb]
   ·cases h
  ·cases h
 ·cases h
end
def WX:Value→Value→Option Bool
 | .int k a,.int k' b=>bif IntKind.same k k' then some (a == b) else none
 | .bool a,.bool b=>some (a == b)
 | .string a,.string b=>some (a.toList == b.toList)
 | _,_=>none
def YR:List Value→List Value→Option Bool
 | [],[]=>some true
 | a::r,b::q=>match WX a b,YR r q with
  | some x,some y=>some (x && y)
  | _,_=>none
 | _,_=>none
def cat:Value→Nat
 | .int _ _=>0
 | .bool _=>1
 | .string _=>2
 | _=>3
def BY (P:Program) (sh:TypeId→Option (List Nat)):List Field→Nat→Option (List Nat)
 | [],_=>some []
 | f::fs,off=>match sh f.type with
  | some l => if f.name ≠ "_" ∧ f.offset = off ∧ P.cellsOf f.type = l.length then (BY P sh fs (off + l.length)).map (l ++ ·) else none
  | none=>none
def Xj (P:Program):Nat→TypeId→Option (List Nat)
 | 0,_=>none
 | d+1,t=>match P.underlying t with
  | some (.int _)=>some [0]
  | some .bool=>some [1]
  | some .string=>some [2]
  | some (.struct fs)=>if P.stoodInHeld t then none else BY P (Xj P d) fs.toList 0
  | some (.array n e)=>match Xj P d e with
   | some l=>if P.cellsOf e=l.length then some (List.replicate n l).flatten else none
   | none=>none
  | _=>none
theorem N4:∀ (a b c d:List Value) (r:Bool),a.length=b.length→YR (a++c) (b++d)=some r→∃ x y,YR a b=some x∧YR c d=some y∧r=(x && y)
 | [],[],c,d,r,_,h=>⟨true,r,rfl,h,by simp⟩
 | [],_::_,_,_,_,h,_=>by simp at h
 | _::_,[],_,_,_,h,_=>by simp at h
 | u::a,v::b,c,d,r,hl,h=>by
  simp only[List.cons_append,YR] at h
  split at h
  ·rename_i x y hx hy
   simp only[Option.some.injEq] at h
   obtain ⟨x',y',h1,h2,h3⟩:=N4 a b c d y (by simpa using hl) hy
   exact ⟨x && x',y',by simp [YR,hx,h1],h2,by rw[← h,h3,Bool.and_assoc]⟩
  ·cases h
def valOf (P:Program) (t:TypeId) (xs:List Value):Value:=
 match P.underlying t with
 | some (.struct _) | some (.array _ _)=>.agg xs.toArray
 | _=>QJ xs 0
def N5 (P:Program) (D:Nat) (t:TypeId) (l:List Nat):Prop:=
 ∀ (w:World) (xs ys:List Value) (r:Bool),xs.map cat=l→ys.map cat=l→YR xs ys=some r→(Op.equalIn D t (valOf P t xs) (valOf P t ys)).run P w=.ok r w
theorem HP {P:Program} {d:Nat} {t:TypeId} {l:List Nat} (h:Xj P d t=some l) (hc:P.cellsOf t=l.length) (w:World) (xs:List Value) (off:Nat) (hl:off+l.length≤xs.length) :
  (part t xs.toArray off).run P w=.ok (valOf P t ((xs.drop off).take l.length)) w:=by
 cases d with
 | zero=>simp [Xj] at h
 | succ d=>
  unfold Xj at h
  cases hu:P.underlying t with
  | none=>rw[hu] at h;cases h
  | some k=>
   obtain ⟨i,hi⟩:=info_of_underlying hu
   have hs:(sizeOf t).run P w=.ok l.length w:=by
    rw[run_sizeOf w hi,hc]
   rw[hu] at h
   cases k <;> first | (cases h;done) | skip
   case bool=>
    cases h
    have:off<xs.length:=by simp at hl;omega
    simp [part,isAgg,run_underlying hu,valOf,hu,QJ,this]
   case int=>
    cases h
    have:off<xs.length:=by simp at hl;omega
    simp [part,isAgg,run_underlying hu,valOf,hu,QJ,this]
   case string=>
    cases h
    have:off<xs.length:=by simp at hl;omega
    simp [part,isAgg,run_underlying hu,valOf,hu,QJ,this]
   case array=>simp [part,isAgg,run_underlying hu,valOf,hu,hs]
   case struct=>simp [part,isAgg,run_underlying hu,valOf,hu,hs]
theorem Uy {P:Program} (d D:Nat) (IH:∀ t l,Xj P d t=some l→N5 P D t l) (w:World):∀ (fs:List Field) (off:Nat) (l:List Nat) (xs ys:List Value) (r:Bool),BY P (Xj P d) fs off=some l →
  (xs.drop off).map cat=l→(ys.drop off).map cat=l→off≤xs.length→off≤ys.length→YR (xs.drop off) (ys.drop off)=some r→(Op.eqFields D xs.toArray ys.toArray fs).run P w=.ok r w
 | [],off,l,xs,ys,r,h,hx,hy,h1,h2,he=>by
  simp [BY] at h
  subst h
  simp only[List.map_eq_nil_iff] at hx hy
  rw[hx,hy] at he
  simp [YR] at he
  simp [Op.eqFields,he]
 | f::fs,off,l,xs,ys,r,h,hx,hy,h1,h2,he=>by
  simp only[BY] at h
  split at h
  ·rename_i l1 Ze
   split at h
   ·rename_i hc
    obtain ⟨hn,ho,Zz⟩:=hc
    simp only[Option.map_eq_some_iff] at h
    obtain ⟨l2,Jd,rfl⟩:=h
    have Xk:(xs.drop off).length=l1.length+l2.length:=by rw[← List.length_map (f:=cat),hx,List.length_append]
    have jo:(ys.drop off).length=l1.length+l2.length:=by rw[← List.length_map (f:=cat),hy,List.length_append]
    have Ai:xs.drop off=(xs.drop off).take l1.length++xs.drop (off+l1.length):=by rw[← List.drop_drop,List.take_append_drop]
    have Aj:ys.drop off=(ys.drop off).take l1.length++ys.drop (off+l1.length):=by rw[← List.drop_drop,List.take_append_drop]
    rw[Ai,List.map_append] at hx
    rw[Aj,List.map_append] at hy
    obtain ⟨xQ,KD⟩:=List.append_inj hx (by simp at Xk ⊢;omega)
    obtain ⟨WY,Ym⟩:=List.append_inj hy (by simp at jo ⊢;omega)
    rw[Ai,Aj] at he
    obtain ⟨x,y,e1,e2,rfl⟩:=N4 _ _ _ _ _ (by simp at Xk jo ⊢;omega) he
    have p1:=HP Ze Zz w xs off (by simp at Xk;omega)
    have p2:=HP Ze Zz w ys off (by simp at jo;omega)
    have p3:=IH _ _ Ze w _ _ x xQ WY e1
    have p4:=Uy d D IH w fs (off+l1.length) l2 xs ys y Jd KD Ym (by simp at Xk;omega) (by simp at jo;omega) e2
    simp only[Op.eqFields,hn,ne_eq,not_false_eq_true,if_true,Sem.run_bind,ho,p1,p2,p3,Result.andThen_ok]
    cases x
    ·simp
    ·simpa using p4
   ·cases h
  ·cases h
theorem Uz {P:Program} {d D:Nat} {e:TypeId} {l:List Nat} (ZT:Xj P d e=some l) (hc:P.cellsOf e=l.length) (IH:N5 P D e l) (w:World):∀ (m i:Nat) (xs ys:List Value) (r:Bool),
  (xs.drop (i*l.length)).map cat=(List.replicate m l).flatten→(ys.drop (i*l.length)).map cat=(List.replicate m l).flatten→i*l.length≤xs.length→i*l.length≤ys.length→YR (xs.drop (i*l.length)) (ys.drop (i*l.length))=some r →
  (Op.eqItems D e (P.cellsOf e) xs.toArray ys.toArray (List.range' i m)).run P w=.ok r w
 | 0,i,xs,ys,r,hx,hy,_,_,he=>by
  simp only[List.replicate_zero,List.flatten_nil,List.map_eq_nil_iff] at hx hy
  rw[hx,hy] at he
  simp [YR] at he
  simp [Op.eqItems,he]
 | m+1,i,xs,ys,r,hx,hy,h1,h2,he=>by
  rw[List.replicate_succ,List.flatten_cons] at hx hy
  have Xk:(xs.drop (i*l.length)).length=l.length+(List.replicate m l).flatten.length:=by rw[← List.length_map (f:=cat),hx,List.length_append]
  have jo:(ys.drop (i*l.length)).length=l.length+(List.replicate m l).flatten.length:=by rw[← List.length_map (f:=cat),hy,List.length_append]
  have hi:i*l.length+l.length=(i+1)*l.length:=by rw[Nat.add_mul];omega
  have Ai:xs.drop (i*l.length)=(xs.drop (i*l.length)).take l.length++xs.drop ((i+1)*l.length):=by rw[← hi,← List.drop_drop,List.take_append_drop]
  have Aj:ys.drop (i*l.length)=(ys.drop (i*l.length)).take l.length++ys.drop ((i+1)*l.length):=by rw[← hi,← List.drop_drop,List.take_append_drop]
  rw[Ai,List.map_append] at hx
  rw[Aj,List.map_append] at hy
  obtain ⟨xQ,KD⟩:=List.append_inj hx (by simp at Xk ⊢;omega)
  obtain ⟨WY,Ym⟩:=List.append_inj hy (by simp at jo ⊢;omega)
  rw[Ai,Aj] at he
  obtain ⟨x,y,e1,e2,rfl⟩:=N4 _ _ _ _ _ (by simp at Xk jo ⊢;omega) he
  have p1:=HP ZT hc w xs (i*l.length) (by simp at Xk;omega)
  have p2:=HP ZT hc w ys (i*l.length) (by simp at jo;omega)
  have p3:=IH w _ _ x xQ WY e1
  have p4:=Uz ZT hc IH w m (i+1) xs ys y KD Ym (by simp at Xk;omega) (by simp at jo;omega) e2
  rw[List.range'_succ]
  simp only[Op.eqItems,Sem.run_bind,hc,p1,p2,p3,Result.andThen_ok]
  cases x
  ·simp
  ·rw[hc] at p4;simpa using p4
theorem N6 {P:Program}:∀ (d D:Nat) (t:TypeId) (l:List Nat),d≤D→Xj P d t=some l→N5 P D t l
 | 0,_,_,_,_,h=>by simp [Xj] at h
 | d+1,0,_,_,hd,_=>by omega
 | d+1,D+1,t,l,hd,h=>by
  intro w xs ys r hx hy he
  have h':=h
  unfold Xj at h
  cases hu:P.underlying t with
  | none=>rw[hu] at h;cases h
  | some k=>
   rw[hu] at h
   have one:∀ c:Nat,l=[c]→∃ a b,xs=[a]∧ys=[b]∧cat a=c∧cat b=c∧WX a b=some r:=by
    intro c hl
    subst hl
    have Xk:xs.length=1:=by rw[← List.length_map (f:=cat),hx];rfl
    have jo:ys.length=1:=by rw[← List.length_map (f:=cat),hy];rfl
    match xs,ys,Xk,jo with
    | [a],[b],_,_=>
     refine ⟨a,b,rfl,rfl,by simpa using hx,by simpa using hy,?_⟩
     simp only[YR] at he
     split at he
     ·rename_i x y h1 h2;simp at h2 he;subst h2;simp at he;rw[h1,he]
     ·cases he
   cases k <;> first | (cases h;done) | skip
   case bool=>
    simp only[Option.some.injEq] at h
    obtain ⟨a,b,rfl,rfl,ha,hb,JW⟩:=one 1 h.symm
    cases a <;> simp [cat] at ha
    cases b <;> simp [cat] at hb
    simp [WX] at JW
    subst JW
    simp [valOf,hu,QJ,run_equalIn_bool' w D t _ _ hu]
   case int q=>
    simp only[Option.some.injEq] at h
    obtain ⟨a,b,rfl,rfl,ha,hb,JW⟩:=one 0 h.symm
    cases a <;> simp [cat] at ha
    cases b <;> simp [cat] at hb
    simp only[WX] at JW
    obtain ⟨hk,UA⟩:=Yh JW
    have:=IntKind.Ub hk
    subst this
    simp only[Option.some.injEq] at UA
    subst UA
    simp [valOf,hu,QJ,run_equalIn_int w D t _ _ _ _ hu]
   case string=>
    simp only[Option.some.injEq] at h
    obtain ⟨a,b,rfl,rfl,ha,hb,JW⟩:=one 2 h.symm
    cases a <;> simp [cat] at ha
    cases b <;> simp [cat] at hb
    simp only[WX,Option.some.injEq] at JW
    subst JW
    simp [valOf,hu,QJ,run_equalIn_string w D t _ _ hu]
   case array n e=>
    replace h:(match Xj P d e with | some l=>if P.cellsOf e=l.length then some (List.replicate n l).flatten else none | none=>none)=some l:=h
    split at h
    ·rename_i l1 Ze
     split at h
     ·rename_i hc
      simp only[Option.some.injEq] at h
      subst h
      have UB:∃ i,P.info? e=some i:=by
       cases d with
       | zero=>simp [Xj] at Ze
       | succ d'=>
        unfold Xj at Ze
        cases UC:P.underlying e with
        | none=>rw[UC] at Ze;cases Ze
        | some _=>exact info_of_underlying UC
      obtain ⟨i,hi⟩:=UB
      have:=Uz Ze hc (N6 d D e l1 (by omega) Ze) w n 0 xs ys r (by simpa using hx) (by simpa using hy) (by simp) (by simp) (by simpa using he)
      rw[← List.range_eq_range'] at this
      simp only[valOf,hu]
      rw[run_equalIn_array w D xs.toArray ys.toArray hu hi]
      exact this
     ·cases h
    ·cases h
   case struct fs=>
    replace h:(if P.stoodInHeld t then none else BY P (Xj P d) fs.toList 0)=some l:=h
    split at h
    ·cases h
    ·rename_i hs
     have VE:P.fieldsOf t=fs:=by simp [Program.fieldsOf,hu]
     simp only[valOf,hu]
     rw[run_equalIn_struct w D t _ _ (by rw[VE];exact hu) (by simpa using hs),VE]
     exact Uy d D (fun t l h=>N6 d D t l (by omega) h) w fs.toList 0 l xs ys r h (by simpa using hx) (by simpa using hy) (by simp) (by simp) (by simpa using he)
abbrev xR:=List (TypeId × List Nat)
def ZA:xR→TypeId→Option (List Nat)
 | [],_=>none
 | (u,l)::r,t=>bif Nat.beq u t then some l else ZA r t
structure UD (P:Program) (t:TypeId) (l:List Nat):Prop where
 shape:Xj P 60 t=some l
 guard:P.eqGuardType P.depth t=false
 agg:(match P.underlying t with | some (.struct _) | some (.array _ _)=>true | _=>false)=true
def vT (P:Program) (E:xR):Prop:=∀ t l,ZA E t=some l→UD P t l
theorem vT.nil (P:Program):vT P []:=fun _ _ h=>by simp [ZA] at h
theorem vT.cons {P:Program} {E:xR} {t:TypeId} {l:List Nat} (h:UD P t l) (r:vT P E):vT P ((t,l)::E):=fun u z e=>by
 simp only[ZA] at e
 by_cases hu:t=u
 ·subst hu;simp at e;subst e;exact h
 ·have:Nat.beq t u=false:=by rw[← Bool.not_eq_true,Nat.beq_eq];exact hu
  rw[this] at e;exact r u z e
def Al:List D→Option (List Value)
 | []=>some []
 | .raw v::r=>match Al r with
  | some l=>some (v::l)
  | none=>none
 | _=>none
def BZ:List Nat→List Nat→Bool
 | [],[]=>true
 | a::r,b::q=>Nat.beq a b && BZ r q
 | _,_=>false
theorem N7:∀ {a b:List Nat},BZ a b=true→a=b
 | [],[],_=>rfl
 | [],_::_,h=>by cases h
 | _::_,[],h=>by cases h
 | a::r,b::q,h=>by
  simp only[BZ,Bool.and_eq_true,Nat.beq_eq] at h
  rw[h.1,N7 h.2]
theorem N8 {h:List Ob} {pl:List Pl} {w:World}:∀ {cs:List D} {l:List Value},Al cs=some l→∀ (vs:List Value),vs.length=cs.length→(∀ i,i<cs.length→Qv Z h pl w (nth cs i) (QJ vs i))→vs=l
 | [],l,e,vs,hl,_=>by simp [Al] at e;subst e;exact List.eq_nil_of_length_eq_zero (by simpa using hl)
 | c::cs,l,e,vs,hl,hr=>by
  cases c <;> simp only[Al,reduceCtorEq] at e
  rename_i v
  split at e
  ·rename_i l' YQ
   simp only[Option.some.injEq] at e
   subst e
   match vs,hl with
   | u::us,hl=>
    have h0:=ZC (hr 0 (by simp):Qv Z h pl w (.raw v) u)
    have:=N8 YQ us (by simpa using hl) (fun i hi=>by have:=hr (i+1) (by simp;omega);simpa [nth,QJ] using this)
    have Ez:u=v:=h0
    rw[Ez,this]
  ·cases e
def HQ (E:xR) (op:BinOp) (t:TypeId):D→D→Ev
 | .agg a,.agg b=>match ZA E t,Al a,Al b with
  | some l,some x,some y=>bif BZ (x.map cat) l && BZ (y.map cat) l then match YR x y with
   | some r=>match op with
    | .eql=>some (True,.raw (.bool r))
    | .neq=>some (True,.raw (.bool (!r)))
    | _=>none
   | none=>none
   else none
  | _,_,_=>none
 | _,_=>none
theorem QaK {P:Program} {E:xR} (hE:vT P E) {base nt:Nat} {s:St} {o:Oper} {op:BinOp} {t yt:TypeId} {x y:Operand} (ho:o.op=.binOp op t x y yt) {p:Prop} {d:D}
  (h:HQ E op t (Qp s.fr x) (Qp s.fr y)=some (p,d)):Ki P base nt o s d:=by
 intro Z pl a w r
 have hx:=r.eval x
 have hy:=r.eval y
 unfold HQ at h
 generalize Qp s.fr x=dx at *
 generalize Qp s.fr y=dy at *
 split at h
 ·split at h
  ·rename_i l xs ys he Ai Aj
   obtain ⟨hk,h2⟩:=Yh h
   simp only[Bool.and_eq_true] at hk
   have hkx:=N7 hk.1
   have hky:=N7 hk.2
   split at h2
   ·rename_i rr hr
    obtain ⟨us,hu,hul,xS⟩:=BP hx
    obtain ⟨ws,hw,hwl,Zl⟩:=BP hy
    have e1:=N8 Ai us hul xS
    have e2:=N8 Aj ws hwl Zl
    subst e1;subst e2
    obtain ⟨ZT,hg,UE⟩:=hE _ _ he
    have heq:∀ w',(Op.equalIn 10000 t (.agg us.toArray) (.agg ws.toArray)).run P w'=.ok rr w':=by
     intro w'
     have:=N6 60 10000 t l (by omega) ZT w' us ws rr hkx hky hr
     unfold valOf at this
     split at this
     ·exact this
     ·exact this
     ·rename_i h1 h2
      split at UE
      ·rename_i h3;exact absurd h3 (h1 _)
      ·rename_i h3;exact absurd h3 (h2 _ _)
      ·cases UE
    split at h2
    ·simp only[Option.some.injEq,Prod.mk.injEq] at h2
     obtain ⟨rfl,rfl⟩:=h2
     refine ⟨_,.cl _ _ (.raw _),fun w' _=>?_⟩
     simp [execOp,ho,hu,hw,run_eqGuard_agg w' .eql t x y _ _ hg,run_eql_struct,heq]
    ·simp only[Option.some.injEq,Prod.mk.injEq] at h2
     obtain ⟨rfl,rfl⟩:=h2
     refine ⟨_,.cl _ _ (.raw _),fun w' _=>?_⟩
     simp [execOp,ho,hu,hw,run_eqGuard_agg w' .neq t x y _ _ hg,run_neq_struct,heq]
    ·cases h2
   ·cases h2
  ·cases h
 ·cases h
end Go.Fg
namespace Go.Fg
def JD (P:Program) {α:Type} (m:Sem α):Prop:=∀ w x w1,m.run P w=.ok x w1→w1=w∧∀ w',m.run P w'=.ok x w'
section
variable {P:Program} {α β:Type}
theorem JD.pure (a:α):JD P (pure a:Sem α):=fun w x w1 h=>by
 simp at h;obtain ⟨rfl,rfl⟩:=h;exact ⟨rfl,fun w'=>by simp⟩
theorem JD.never {m:Sem α} (hh:∀ w x w1,m.run P w≠.ok x w1):JD P m:=fun w x w1 h=>absurd h (hh w x w1)
theorem JD.bind {m:Sem α} {k:α→Sem β} (h1:JD P m) (h2:∀ a,JD P (k a)):JD P (m >>= k):=fun w x w1 h=>by
 rw[Sem.run_bind] at h
 cases hm:m.run P w with
 | halt e w2=>rw[hm] at h;cases h
 | ok a w2=>
  rw[hm] at h
  simp only[Result.andThen_ok] at h
  obtain ⟨rfl,h3⟩:=h1 w a w2 hm
  obtain ⟨rfl,h4⟩:=h2 a _ x w1 h
  exact ⟨rfl,fun w'=>by rw[Sem.run_bind,h3 w'];simp only[Result.andThen_ok];exact h4 w'⟩
theorem JD.stuck (s:String):JD P (Go.stuck s:Sem α):=JD.never fun w x w1 h=>by cases h
theorem JD.halt (e:Halt):JD P (.halt e:Sem α):=JD.never fun w x w1 h=>by cases h
theorem JD.program:JD P program:=fun w x w1 h=>by
 simp at h;obtain ⟨rfl,rfl⟩:=h;exact ⟨rfl,fun w'=>by simp⟩
theorem JD.typeInfo (t:TypeId):JD P (typeInfo t):=.bind .program fun p=>by
 split
 ·exact .pure _
 ·exact .stuck _
theorem JD.underlying (t:TypeId):JD P (underlying t):=.bind .program fun p=>by
 split
 ·exact .pure _
 ·exact .stuck _
theorem JD.panic:JD P (runtimePanic .nilDeref:Sem α):=.bind .program fun p=>.halt _
theorem JD.sizeOf (t:TypeId):JD P (sizeOf t):=.bind (.typeInfo t) fun _=>.pure _
theorem JD.isAgg (t:TypeId):JD P (isAgg t):=.bind (.underlying t) fun d=>by
 split <;> exact .pure _
theorem JD.part (t:TypeId) (cs:Array Value) (i:Nat):JD P (part t cs i):=by
 unfold Go.part
 repeat' (first | exact .pure _ | exact .stuck _ | refine .bind (.isAgg _) fun _=>?_ | refine .bind (.sizeOf _) fun _=>?_ | refine .bind (.typeInfo _) fun _=>?_ | refine .bind (.underlying _) fun _=>?_ | split)
theorem JD.blind:∀ (l:List FieldStep) (t:TypeId) (x:Option Value),JD P (Go.followBlind l t x)
 | [],_,_=>.pure _
 | s::r,t,x=>by
  unfold Go.followBlind
  repeat' (first | exact .pure _ | exact .stuck _ | exact JD.blind r _ _ | refine .bind (.part _ _ _) fun _=>?_ | refine .bind (.underlying _) fun _=>?_ | split)
theorem JD.nilAhead:∀ (n:Nat) (t:TypeId) (v:Value) (name:String),JD P (Go.nilAhead n t v name)
 | 0,_,_,_=>.pure _
 | n+1,t,v,name=>by
  unfold Go.nilAhead
  repeat' (first | exact .pure _ | exact .stuck _ | exact JD.nilAhead n _ _ _ | refine .bind (.blind _ _ _) fun _=>?_ | refine .bind (.typeInfo _) fun _=>?_ | refine .bind (.underlying _) fun _=>?_ | split)
theorem JD.nilCheck {o:Oper} {x:Operand} (ho:o.op=.nilCheck x) (ρ:Operand→Value):JD P (execOp ρ o):=by
 simp only[execOp,ho]
 repeat' (first | exact .pure _ | exact .stuck _ | exact .panic | exact .halt _ | (refine .bind (.halt _) fun _=>?_) | refine .bind (.nilAhead _ _ _ _) fun _=>?_ | refine .bind .program fun _=>?_ | split)
end
end Go.Fg
namespace Go.Fg
open Go.RowKit (Below)
open Go.Instr
def Am (q:IntKind) (es:List MapEntry):Prop:=∀ e∈es,∃ n,e.key=.int q n
theorem HS {q:IntKind} {k:Int}:∀ {es:List MapEntry} {i:Nat},Am q es→(∀ e∈es,e.key≠.int q k)→findNow (.int q) (.int q k) es i=some none
 | [],_,_,_=>rfl
 | e::es,i,h,hn=>by
  obtain ⟨n,hk⟩:=h e (List.mem_cons_self ..)
  have QD:(k == n)=false:=by
   rw[beq_eq_false_iff_ne]
   rintro rfl
   exact hn e (List.mem_cons_self ..) hk
  simp only[findNow,hk,sameNow,if_true,QD]
  exact HS (fun e he=>h e (List.mem_cons_of_mem _ he)) (fun e he=>hn e (List.mem_cons_of_mem _ he))
theorem HT {q:IntKind} {k:Int}:∀ {es:List MapEntry} {i0 i:Nat} {e:MapEntry},Am q es→es[i]? = some e→e.key=.int q k→(∀ (j:Nat) (e':MapEntry),j<i→es[j]? = some e'→e'.key≠.int q k) →
  findNow (.int q) (.int q k) es i0=some (some (i0+i,e.val))
 | [],_,_,_,_,h,_,_=>by simp at h
 | x::es,i0,i,e,hI,h,hk,hn=>by
  obtain ⟨n,hx⟩:=hI x (List.mem_cons_self ..)
  cases i with
  | zero=>
   simp at h;subst h
   rw[hx] at hk
   obtain rfl:n=k:=by simpa using hk
   simp [findNow,hx,sameNow]
  | succ i=>
   have QD:(k == n)=false:=by
    rw[beq_eq_false_iff_ne]
    rintro rfl
    exact hn 0 x (by omega) rfl hx
   simp only[findNow,hx,sameNow,if_true,QD]
   rw[HT (i0:=i0+1) (fun e he=>hI e (List.mem_cons_of_mem _ he)) (by simpa using h) hk (fun j e' hj he=>hn (j+1) e' (by omega) (by simpa using he))]
   simp;omega
section
variable {P:Program} {w:World} {q:IntKind} {k:Int}
theorem An {kt:TypeId} (hk:P.underlying kt=some (.int q)) (em:Bool) (n:Nat):(checkKey em (n+1) kt (.int q k)).run P w=.ok () w:=by
 simp [checkKey,underlying,hk]
theorem Ao {kt:TypeId} (hk:P.underlying kt=some (.int q)) {es:List MapEntry} {r:Option (Nat × Value)} (h:findNow (.int q) (.int q k) es 0=some r):(findKey kt (.int q k) es).run P w=.ok r w:=by
 simp [findKey,underlying,hk,h]
theorem xT {α:Type} {b:Nat} {es:Array MapEntry} {clock:Nat} (hb:w.heap[b]? = some (.map es clock)) (c:Obj→Sem α):(Sem.getObj b c).run P w=(c (.map es clock)).run P w:=by
 simp only[Sem.run,hb]
theorem HU {α:Type} {b:Nat} {es:Array MapEntry} {clock:Nat} (hb:w.heap[b]? = some (.map es clock)) (o:Obj) (c:Sem α):(Sem.setObj b o c).run P w=c.run P { w with heap:=w.heap.setIfInBounds b o }:=by
 simp only[Sem.run,hb]
theorem QaP {xt kt et:TypeId} {b:Nat} {es:Array MapEntry} {clock:Nat} (hx:P.underlying xt=some (.map kt et)) (hk:P.underlying kt=some (.int q)) (hb:w.heap[b]? = some (.map es clock)) (hI:Am q es.toList)
  {i:Nat} {e:MapEntry} (hi:es[i]? = some e) (he:e.key=.int q k) (hn:∀ (j:Nat) (e':MapEntry),j<i→es[j]? = some e'→e'.key≠.int q k) (v:Value) :
  (mapUpdate xt (.map (some b)) (.int q k) v).run P w=.ok () { w with heap:=w.heap.setIfInBounds b (.map (es.modify i fun e=>{ e with key:=.int q k,val:=v }) clock) }:=by
 have h:=HT (i0:=0) hI (by simpa using hi) he (fun j e' hj Kj=>hn j e' hj (by simpa using Kj))
 have h2:=Ao (P:=P) (w:=w) hk h
 have h3:=An (P:=P) (w:=w) (k:=k) hk false 9999
 simp [mapUpdate,underlying,hx,getObj,xT hb,h2,h3,hi,he,keyThatStays,sameBits,setObj,HU hb]
theorem QaQ {xt kt et:TypeId} {b:Nat} {es:Array MapEntry} {clock:Nat} (hx:P.underlying xt=some (.map kt et)) (hk:P.underlying kt=some (.int q)) (hb:w.heap[b]? = some (.map es clock)) (hI:Am q es.toList)
  (hn:∀ e∈es.toList,e.key≠.int q k) (v:Value) :
  (mapUpdate xt (.map (some b)) (.int q k) v).run P w=.ok () { w with heap:=w.heap.setIfInBounds b (.map (es.push { key:=.int q k,val:=v,born:=clock }) (clock+1)) }:=by
 have h2:=Ao (P:=P) (w:=w) hk (HS (i:=0) hI hn)
 have h3:=An (P:=P) (w:=w) (k:=k) hk false 9999
 simp [mapUpdate,underlying,hx,getObj,xT hb,h2,h3,setObj,HU hb]
theorem QaR {xt kt et ty kt2:TypeId} {b:Nat} {es:Array MapEntry} {clock:Nat} (hx:P.underlying xt=some (.map kt et)) (hk:P.underlying kt=some (.int q)) (hb:w.heap[b]? = some (.map es clock)) (hI:Am q es.toList)
  {i:Nat} {e:MapEntry} (hi:es[i]? = some e) (he:e.key=.int q k) (hn:∀ (j:Nat) (e':MapEntry),j<i→es[j]? = some e'→e'.key≠.int q k) :
  (Builtin.delete_ #[xt,kt2] ty #[.map (some b),.int q k]).run P w=.ok (.tuple #[]) { w with heap:=w.heap.setIfInBounds b (.map (es.eraseIdxIfInBounds i) clock) }:=by
 have h:=HT (i0:=0) hI (by simpa using hi) he (fun j e' hj Kj=>hn j e' hj (by simpa using Kj))
 have h2:=Ao (P:=P) (w:=w) hk h
 have h3:=An (P:=P) (w:=w) (k:=k) hk es.isEmpty 9999
 simp [Builtin.delete_,underlying,hx,getObj,xT hb,h2,h3,setObj,HU hb]
theorem QaS {xt kt et ty kt2:TypeId} {b:Nat} {es:Array MapEntry} {clock:Nat} (hx:P.underlying xt=some (.map kt et)) (hk:P.underlying kt=some (.int q)) (hb:w.heap[b]? = some (.map es clock)) (hI:Am q es.toList)
  (hn:∀ e∈es.toList,e.key≠.int q k) :
  (Builtin.delete_ #[xt,kt2] ty #[.map (some b),.int q k]).run P w=.ok (.tuple #[]) { w with heap:=w.heap.setIfInBounds b (.map es clock) }:=by
 have h2:=Ao (P:=P) (w:=w) hk (HS (i:=0) hI hn)
 have h3:=An (P:=P) (w:=w) (k:=k) hk es.isEmpty 9999
 simp [Builtin.delete_,underlying,hx,getObj,xT hb,h2,h3,setObj,HU hb]
theorem QaT {xt kt et:TypeId} {b:Nat} {es:Array MapEntry} {clock:Nat} (hx:P.underlying xt=some (.map kt et)) (hb:w.heap[b]? = some (.map es clock)) :
  (Instr.range xt (.map (some b))).run P w=.ok (.pointer (some ⟨w.heap.size,0,none⟩)) { w with heap:=w.heap.push (.mapIter (some b) clock #[] clock) }:=by
 simp [Instr.range,underlying,hx,getObj,xT hb,newObj,Sem.run]
end
theorem Tr.EA {Z:Nat→Prop} {base:Nat} {h:List Ob} {pl:List Pl} {w w':World} (R:QT Z base h pl w) {l:Nat} {o o':Ob} {b:Nat} (ho:h[l]? = some o) (hp:pl[l]? = some (some (b,0))) (e:∀ c,c≠b→w'.heap[c]? = w.heap[c]?)
  (hg:o'.gen=o.gen) (hk:o'.kd.ty=o.kd.ty) (hz:o'.sz=o.sz) (hnc:∀ c el,w.heap[b]?≠some (.cells c el (0,0))):Tr h pl w (h.set l o') pl w' where
 JI:=fun c hc _=>⟨hc,e c (fun h=>by subst h;exact hc l 0 hp)⟩
 obj:=fun l1 o1 p h1 h2=>by
  by_cases hl:l=l1
  ·subst hl
   rw[ho] at h1;cases h1
   exact ⟨o',p,List.getElem?_set_self (Jr ho),h2,by omega,hk,fun _=>⟨hz,rfl⟩⟩
  ·exact ⟨o1,p,by rw[List.getElem?_set_ne hl];exact h1,h2,Nat.le_refl _,rfl,fun _=>⟨rfl,rfl⟩⟩
 shape:=fun l1 o1 o2 c q h1 h2 _ h3 cs el hc=>by
  by_cases hb:c=b
  ·subst hb;exact absurd hc (hnc cs el)
  ·exact ⟨cs,by rw[e c hb];exact hc,rfl⟩
theorem QT.EA {Z:Nat→Prop} {base:Nat} {h:List Ob} {pl:List Pl} {w w':World} (R:QT Z base h pl w) {l:Nat} {o o':Ob} {b:Nat} (ho:h[l]? = some o) (hp:pl[l]? = some (some (b,0))) (e:∀ c,c≠b→w'.heap[c]? = w.heap[c]?)
  (T:Tr h pl w (h.set l o') pl w') (hx:Jq Z (h.set l o') pl w' o' b 0) (hro:o'.kd.ro=o.kd.ro):QT Z base (h.set l o') pl w' where
 len:=by rw[List.length_set];exact R.len
 inj:=R.inj
 JU:=fun l1 o1 h1 h2=>by
  by_cases hl:l=l1
  ·subst hl;rw[hp] at h2;cases h2
  ·rw[List.getElem?_set_ne hl] at h1;exact R.JU l1 o1 h1 h2
 at_:=fun l1 o1 c q h1 h2=>by
  by_cases hl:l=l1
  ·subst hl
   rw[List.getElem?_set_self (Jr ho)] at h1;cases h1
   rw[hp] at h2;cases h2
   exact ⟨fun hr=>(R.at_ l o b 0 ho hp).1 (by rw[← hro,hr]),hx⟩
  ·rw[List.getElem?_set_ne hl] at h1
   obtain ⟨g1,x⟩:=R.at_ l1 o1 c q h1 h2
   have hc:c≠b:=fun h=>by subst h;exact hl (R.inj l l1 c 0 q hp h2)
   exact ⟨g1,x.to rfl rfl rfl (e c hc) (fun _ _=>rfl) fun i j v _ _ hr=>hr.tr T⟩
structure QK where
 k:Int
 v:D
 b:Nat
def jq (q:IntKind) (c:Nat) (es:List QK):Nat→List D
 | 0=>[.raw (.int .i64 c),.undef,.undef]
 | r+1=>match es[r]? with
  | some e=>[.raw (.int q e.k),e.v,.raw (.int .i64 e.b)]
  | none=>[.undef,.undef,.undef]
def Kc (kd:Kd) (q:IntKind) (c:Nat) (es:List QK):Ob:=⟨kd,0,3,es.length+1,jq q c es⟩
def QE (q:IntKind) (c:Nat) (es:List QK):Ob:=Kc .map q c es
def JE:List QK→Int→Option D
 | [],_=>none
 | e::r,k=>if e.k=k then some e.v else JE r k
def zq:List QK→Int→D→List QK
 | [],_,_=>[]
 | e::r,k,v=>if e.k=k then ⟨k,v,e.b⟩::r else e::zq r k v
def ZM:List QK→Int→List QK
 | [],_=>[]
 | e::r,k=>if e.k=k then r else e::ZM r k
def J5 (q:IntKind) (c:Nat) (es:List QK) (k:Int) (v:D):Ob:=match JE es k with
 | some _=>QE q c (zq es k v)
 | none=>QE q (c+1) (es++[⟨k,v,c⟩])
def EB:D→Int
 | .raw (.int _ n)=>n
 | _=>0
def clockOf (o:Ob):Nat:=(EB (nth (o.row 0) 0)).toNat
def ku (o:Ob):List QK:=(List.range (o.n - 1)).map fun i=>⟨EB (nth (o.row (i+1)) 0),nth (o.row (i+1)) 1,(EB (nth (o.row (i+1)) 2)).toNat⟩
def Ob.ro (o:Ob):Ob:=⟨o.kd.toRo,o.gen,o.sz,o.n,o.row⟩
def IsMap (q:IntKind) (o:Ob):Prop:=o.kd.ty=1∧o=Kc o.kd q (clockOf o) (ku o)
theorem UF (kd:Kd) (q:IntKind) (c:Nat) (es:List QK):clockOf (Kc kd q c es)=c:=by simp [clockOf,Kc,jq,nth,EB]
theorem N9 (q:IntKind) (c:Nat) (es:List QK):clockOf (QE q c es)=c:=UF _ _ _ _
theorem UG (kd:Kd) (q:IntKind) (c:Nat) (es:List QK):ku (Kc kd q c es)=es:=by
 apply List.ext_getElem?
 intro i
 simp only[ku,Kc,jq,Nat.add_sub_cancel,List.getElem?_map,List.getElem?_range]
 by_cases h:i<es.length
 ·simp [List.getElem?_range h,nth,EB,h]
 ·rw[List.getElem?_eq_none (by simpa using h)];simp [h]
theorem Oa (q:IntKind) (c:Nat) (es:List QK):ku (QE q c es)=es:=UG _ _ _ _
theorem UH (q:IntKind) (c:Nat) (es:List QK):IsMap q (QE q c es)=True:=by
 refine eq_true ⟨rfl,?_⟩
 exact (by rw[N9,Oa];rfl)
theorem UI (o:Ob):clockOf o.ro=clockOf o:=rfl
theorem UJ (o:Ob):ku o.ro=ku o:=rfl
theorem QaV (q:IntKind) (o:Ob):IsMap q o.ro=IsMap q o:=by
 obtain ⟨k,g,z,n,r⟩:=o
 simp only[IsMap,UI,UJ]
 simp only[Ob.ro,Kc,Kd.toRo_ty,Ob.mk.injEq,true_and]
theorem QaW (q:IntKind) (c:Nat) (es:List QK):(QE q c es).kd=.map:=rfl
theorem QaX (q:IntKind) (c:Nat) (es:List QK):(QE q c es).n=es.length+1:=rfl
theorem QaY (q:IntKind) (c:Nat) (es:List QK):(QE q c es).gen=0:=rfl
theorem HV (o:Ob):o.ro.kd=o.kd.toRo:=rfl
theorem QaZ (o:Ob):o.ro.n=o.n:=rfl
theorem Qa0 (o:Ob):o.ro.gen=o.gen:=rfl
theorem IsMap.get {q:IntKind} {o:Ob} (h:IsMap q o):∃ kd c es,kd.ty=1∧o.kd=kd∧clockOf o=c∧ku o=es∧o=Kc kd q c es:=⟨_,_,_,h.1,rfl,rfl,rfl,h.2⟩
theorem HW:∀ {es:List QK} {k:Int} {v:D},JE es k=some v→∃ (j:Nat) (e:QK),es[j]? = some e∧e.k=k∧e.v=v∧(∀ (i:Nat) (e':QK),i<j→es[i]? = some e'→e'.k≠k)∧(∀ u,zq es k u=es.set j ⟨k,u,e.b⟩)∧ZM es k=es.eraseIdx j
 | [],_,_,h=>by simp [JE] at h
 | e::r,k,v,h=>by
  simp only[JE] at h
  by_cases hk:e.k=k
  ·rw[if_pos hk] at h;cases h
   exact ⟨0,e,rfl,hk,rfl,fun i _ hi=>absurd hi (Nat.not_lt_zero i),fun u=>by simp [zq,hk],by simp [ZM,hk]⟩
  ·rw[if_neg hk] at h
   obtain ⟨j,e',h1,h2,h3,h4,h5,h6⟩:=HW h
   refine ⟨j+1,e',by simpa using h1,h2,h3,fun i x hi hx=>?_,fun u=>by simp [zq,hk,h5 u],by simp [ZM,hk,h6]⟩
   cases i with
   | zero=>simp at hx;subst hx;exact hk
   | succ i=>exact h4 i x (by omega) (by simpa using hx)
theorem EC:∀ {es:List QK} {k:Int},JE es k=none→(∀ e∈es,e.k≠k)∧(∀ u,zq es k u=es)∧ZM es k=es
 | [],_,_=>⟨by simp,fun _=>rfl,rfl⟩
 | e::r,k,h=>by
  simp only[JE] at h
  by_cases hk:e.k=k
  ·rw[if_pos hk] at h;cases h
  ·rw[if_neg hk] at h
   obtain ⟨h1,h2,h3⟩:=EC h
   exact ⟨fun x hx=>by
    rcases List.mem_cons.1 hx with rfl | h
    ·exact hk
    ·exact h1 x h,fun u=>by simp [zq,hk,h2 u],by simp [ZM,hk,h3]⟩
def K8 (es:List QK):Prop:=(es.map (·.k)).Nodup
structure XO (Z:Nat→Prop) (h:List Ob) (pl:List Pl) (w:World) (q:IntKind) (c:Nat) (es:List QK) (Q1:List MapEntry):Prop where
 len:es.length=Q1.length
 at_:∀ (i:Nat) (e:QK) (a:MapEntry),es[i]? = some e→Q1[i]? = some a→a.key=.int q e.k∧Qv Z h pl w e.v a.val∧a.born=e.b∧a.born<c
 inc:∀ (i j:Nat) (a a':MapEntry),i<j→Q1[i]? = some a→Q1[j]? = some a'→a.born<a'.born
theorem Oc {Z:Nat→Prop} {h:List Ob} {pl:List Pl} {w:World} {q:IntKind} {c:Nat} {es:List QK} {b:Nat} {Q1:Array MapEntry} (hb:w.heap[b]? = some (.map Q1 c)) (E:XO Z h pl w q c es Q1.toList) {kd:Kd} (Z9:kd.ty=1):Jq Z h pl w (Kc kd q c es) b 0:=by
 refine Jq.ofMap Z9 ⟨rfl,rfl,Q1,c,hb,by have:=E.len;simp at this;simp [Kc,this],fun i _=>?_,.cl _ _ (.raw _),fun i a ha=>?_,fun i j a a' JN h1 h2=>E.inc i j a a' JN (by simpa using h1) (by simpa using h2)⟩
 ·show (jq q c es i).length=3
  cases i with
  | zero=>rfl
  | succ i=>simp only[jq];split <;> rfl
 ·have Qd:=(Array.getElem?_eq_some_iff.1 ha).1
  have hi:i<es.length:=by have:=E.len;simp at this;omega
  obtain ⟨h1,h2,h3,h4⟩:=E.at_ i es[i] a (List.getElem?_eq_getElem hi) (by simpa using ha)
  have e1:jq q c es (i+1)=[.raw (.int q es[i].k),es[i].v,.raw (.int .i64 es[i].b)]:=by simp [jq,hi]
  show _∧Qv Z h pl w (nth (jq q c es (i+1)) 0) _∧Qv Z h pl w (nth (jq q c es (i+1)) 1) _∧Qv Z h pl w (nth (jq q c es (i+1)) 2) _
  rw[e1]
  exact ⟨h4,by rw[h1];exact .cl _ _ (.raw _),h2,by rw[h3];exact .cl _ _ (.raw _)⟩
theorem HX {Z:Nat→Prop} {h:List Ob} {pl:List Pl} {w:World} {q:IntKind} {c:Nat} {es:List QK} {b p:Nat} {kd:Kd} (Z9:kd.ty=1) (x:Jq Z h pl w (Kc kd q c es) b p):p=0∧∃ Q1:Array MapEntry,w.heap[b]? = some (.map Q1 c)∧XO Z h pl w q c es Q1.toList:=by
 obtain ⟨h0,_,Q1,clock,h1,h2,_,h4,h5,h6⟩:=x.map Z9
 have hc:clock=c:=by
  have:=ZC h4
  simp at this;omega
 subst hc
 have hl:es.length=Q1.size:=by simpa [Kc] using h2
 refine ⟨h0,Q1,h1,by simpa using hl,fun i e a he ha=>?_,fun i j a a' JN g1 g2=>h6 i j a a' JN (by simpa using g1) (by simpa using g2)⟩
 obtain ⟨k1,k2,k3,k4⟩:=h5 i a (by simpa using ha)
 have e1:(Kc kd q clock es).row (i+1)=[.raw (.int q e.k),e.v,.raw (.int .i64 e.b)]:=by simp [Kc,jq,he]
 rw[e1] at k2 k3 k4
 have:=ZC k2
 have h8:=ZC k4
 refine ⟨this,k3,?_,k1⟩
 simp at h8;omega
theorem XO.keys {Z:Nat→Prop} {h:List Ob} {pl:List Pl} {w:World} {q:IntKind} {c:Nat} {es:List QK} {Q1:List MapEntry} (E:XO Z h pl w q c es Q1):Am q Q1:=fun a ha=>by
 obtain ⟨i,hi⟩:=List.getElem?_of_mem ha
 have Qd:i<es.length:=by rw[E.len];exact (List.getElem?_eq_some_iff.1 hi).1
 exact ⟨_,(E.at_ i es[i] a (List.getElem?_eq_getElem Qd) hi).1⟩
theorem XO.Wz {Z:Nat→Prop} {h:List Ob} {pl:List Pl} {w:World} {q:IntKind} {c:Nat} {es:List QK} {Q1:Array MapEntry} (E:XO Z h pl w q c es Q1.toList) {k:Int} {j:Nat} {e:QK} (he:es[j]? = some e) (hk:e.k=k) (hn:∀ (i:Nat) (e':QK),i<j→es[i]? = some e'→e'.k≠k) :
  ∃ a,Q1[j]? = some a∧a.key=.int q k∧Qv Z h pl w e.v a.val∧a.born=e.b∧a.born<c∧∀ (i:Nat) (e':MapEntry),i<j→Q1[i]? = some e'→e'.key≠.int q k:=by
 have Qd:j<Q1.toList.length:=by rw[← E.len];exact (List.getElem?_eq_some_iff.1 he).1
 obtain ⟨h1,h2,h3,h4⟩:=E.at_ j e Q1.toList[j] he (List.getElem?_eq_getElem Qd)
 refine ⟨Q1.toList[j],by simp,by rw[h1,hk],h2,h3,h4,fun i a' JN Xl=>?_⟩
 have hi:i<es.length:=by have:=(List.getElem?_eq_some_iff.1 he).1;omega
 obtain ⟨g1,_⟩:=E.at_ i es[i] a' (List.getElem?_eq_getElem hi) (by simpa using Xl)
 rw[g1]
 intro hh
 exact hn i _ JN (List.getElem?_eq_getElem hi) (by simpa using hh)
theorem XO.Od {Z:Nat→Prop} {h:List Ob} {pl:List Pl} {w:World} {q:IntKind} {c:Nat} {es:List QK} {Q1:List MapEntry} (E:XO Z h pl w q c es Q1) {k:Int} (hn:∀ e∈es,e.k≠k):∀ a∈Q1,a.key≠.int q k:=fun a ha=>by
 obtain ⟨i,hi⟩:=List.getElem?_of_mem ha
 have Qd:i<es.length:=by rw[E.len];exact (List.getElem?_eq_some_iff.1 hi).1
 rw[(E.at_ i es[i] a (List.getElem?_eq_getElem Qd) hi).1]
 intro hh
 exact hn _ (List.getElem_mem Qd) (by simpa using hh)
theorem XO.tr {Z:Nat→Prop} {h h':List Ob} {pl Qg:List Pl} {w w':World} (T:Tr h pl w h' Qg w') {q:IntKind} {c:Nat} {es:List QK} {Q1:List MapEntry} (E:XO Z h pl w q c es Q1):XO Z h' Qg w' q c es Q1:=
 ⟨E.len,fun i e a h1 h2=>let ⟨g1,g2,g3⟩:=E.at_ i e a h1 h2;⟨g1,g2.tr T,g3⟩,E.inc⟩
section
variable {P:Program} {L:Zd} {base nt:Nat} {s:St} {o:Oper} {q:IntKind} {t kt et:TypeId} {x i:Operand} {l g n:Nat} {ob:Ob} {k:Int}
theorem HY {Z:Nat→Prop} {pl:List Pl} {a:Act} {w:World} (r:Rel Z base nt s pl a w) {c:Nat} {es:List QK} {kd:Kd} (Z9:kd.ty=1) (hx:Qp s.fr x=.mref l 0) (QY:s.h[l]? = some (Kc kd q c es)) :
  ∃ b Q1,a.eval x=.map (some b)∧pl[l]? = some (some (b,0))∧(kd.ro=false→base≤b)∧w.heap[b]? = some (.map Q1 c)∧XO Z s.h pl w q c es Q1.toList:=by
 have e1:=r.eval x
 rw[hx] at e1
 obtain ⟨o',p,b,h1,h2,h3,h4,h5⟩:=y9 e1
 rw[QY] at h1;cases h1
 have h5:=h5 rfl
 rw[h5] at h2
 obtain ⟨Q9,jr⟩:=r.o.at_ l _ b 0 QY h2
 obtain ⟨_,Q1,hb,E⟩:=HX Z9 jr
 have hv:=h3.2
 have:(Kc kd q c es).kd.ty=1:=Z9
 rw[this] at hv
 exact ⟨b,Q1,hv,h2,Q9,hb,E⟩
theorem HZ {Z:Nat→Prop} {pl:List Pl} {a:Act} {w:World} (r:Rel Z base nt s pl a w) {c:Nat} {es:List QK} (QY:s.h[l]? = some (QE q c es)) {b:Nat} (hp:pl[l]? = some (some (b,0))) (Q9:base≤b) {Q1:Array MapEntry} (hb:w.heap[b]? = some (.map Q1 c))
  {c':Nat} {es':List QK} {ens':Array MapEntry} (E:∀ Qg w',Tr s.h pl w (s.h.set l (QE q c' es')) Qg w'→XO Z (s.h.set l (QE q c' es')) Qg w' q c' es' ens'.toList) :
  ∃ w',w'={ w with heap:=w.heap.setIfInBounds b (.map ens' c') }∧Tr s.h pl w (s.h.set l (QE q c' es')) pl w'∧QT Z base (s.h.set l (QE q c' es')) pl w'∧Below base w w':=by
 have kv:=qt hb
 generalize Yi:({ w with heap:=w.heap.setIfInBounds b (.map ens' c') }:World)=w'
 have e:∀ c,c≠b→w'.heap[c]? = w.heap[c]? := fun c hc=>by rw[← Yi];simp [Array.getElem?_setIfInBounds,Ne.symm hc]
 have ZU:w'.heap[b]? = some (.map ens' c'):=by rw[← Yi];simp [Array.getElem?_setIfInBounds,kv]
 have T:=Tr.EA (w':=w') r.o QY hp e (o':=QE q c' es') rfl rfl rfl (by rw[hb];intro c el h;cases h)
 exact ⟨w',rfl,T,QT.EA (hro:=rfl) r.o QY hp e T (Oc ZU (E pl w' T) rfl),Es Q9 e (by rw[← Yi];simp) (by rw[← Yi]) (by rw[← Yi]) (by rw[← Yi])⟩
theorem Qa1 (hL:Zr P L) {yt yk ye:Ty} (ht:ty L t=some yt) (vU:yt.k=.map kt et) (Yn:ty L kt=some yk) (zw:yk.k=.int q) (KB:ty L et=some ye)
  {Z:Nat→Prop} {h:List Ob} {pl:List Pl} {w:World} {b c:Nat} {es:List QK} {Q1:Array MapEntry} (hb:w.heap[b]? = some (.map Q1 c)) (E:XO Z h pl w q c es Q1.toList) (ok:Bool) :
  ∃ v,Qv Z h pl w (match JE es k with | some d=>d | none=>vN ye) v∧∀ w':World,w'.heap[b]? = w.heap[b]? →
   (lookup t (.map (some b)) (.int q k) ok).run P w'=.ok (if ok then .tuple #[v,.bool (JE es k).isSome] else v) w':=by
 have h3:=fun w:World=>An (P:=P) (w:=w) (k:=k) (vL (hL kt yk Yn) zw) Q1.isEmpty 9999
 have hx:=y7 (hL t yt ht) vU
 cases hf:JE es k with
 | some d=>
  obtain ⟨j,e,g1,g2,g3,g4,_⟩:=HW hf
  obtain ⟨a,a1,a2,a3,a4,a5,a6⟩:=E.Wz g1 g2 g4
  refine ⟨a.val,by rw[← g3];exact a3,fun w' hw=>?_⟩
  have h:=HT (i0:=0) E.keys (by simpa using a1) a2 (fun j e' hj Kj=>a6 j e' hj (by simpa using Kj))
  have h2:=Ao (P:=P) (w:=w') (vL (hL kt yk Yn) zw) h
  simp [lookup,underlying,hx,getObj,xT (hw.trans hb),h2,h3]
 | none=>
  obtain ⟨g1,_⟩:=EC hf
  obtain ⟨z,hz,Xi⟩:=Ue (hL et ye KB) (N:=free Z pl) w
  refine ⟨z,.cl _ _ hz,fun w' hw=>?_⟩
  have h2:=Ao (P:=P) (w:=w') (vL (hL kt yk Yn) zw) (HS (i:=0) E.keys (E.Od g1))
  simp [lookup,underlying,hx,getObj,xT (hw.trans hb),h2,h3,Xi w']
theorem Qa2 (hL:Zr P L) {yt yk ye:Ty} (ht:ty L t=some yt) (vU:yt.k=.map kt et) (Yn:ty L kt=some yk) (zw:yk.k=.int q) (KB:ty L et=some ye)
  {N:Nat→Prop} {w:World} (ok:Bool):∃ v,Cl N w (vN ye) v∧∀ w':World,(lookup t (.map none) (.int q k) ok).run P w'=.ok (if ok then .tuple #[v,.bool false] else v) w':=by
 obtain ⟨z,hz,Xi⟩:=Ue (hL et ye KB) (N:=N) w
 refine ⟨z,hz,fun w'=>?_⟩
 have h3:=An (P:=P) (w:=w') (k:=k) (vL (hL kt yk Yn) zw) true 9999
 have h2:=Ao (P:=P) (w:=w') (k:=k) (vL (hL kt yk Yn) zw) (es:=[]) (r:=none) rfl
 simp [lookup,underlying,y7 (hL t yt ht) vU,h2,h3,Xi w']
def H0 (L:Zd) (h:List Ob) (t:TypeId) (x i:D) (ok:Bool):Ev:=match ty L t with
 | some ⟨.map kt et,_,_,_⟩=>match ty L kt,ty L et with
  | some ⟨.int q,_,_,_⟩,some ye=>match i with
   | .raw (.int q' k)=>match x with
    | .mref l g=>match h[l]? with
     | some o=>some (IsMap q o∧q'=q∧g=0,match JE (ku o) k with
      | some d=>bif ok then .tup [d,.raw (.bool true)] else d
      | none=>bif ok then .tup [vN ye,.raw (.bool false)] else vN ye)
     | none=>none
    | .raw (.map none)=>some (q'=q,bif ok then .tup [vN ye,.raw (.bool false)] else vN ye)
    | _=>none
   | _=>none
  | _,_=>none
 | _=>none
theorem look_ok (hL:Zr P L) {ok:Bool} (ho:o.op=.lookup t x i ok) {p:Prop} {d:D} (h:H0 L s.h t (Qp s.fr x) (Qp s.fr i) ok=some (p,d)) (hp:p):Ki P base nt o s d:=by
 intro Z pl a w r
 unfold H0 at h
 split at h
 case h_2=>cases h
 rename_i kt et m1 m2 m3 ht
 split at h
 case h_2=>cases h
 rename_i q n1 n2 n3 ye Yn KB
 split at h
 case h_2=>cases h
 rename_i q' k hi
 have e2:=r.eval i
 rw[hi] at e2
 have e2:=ZC e2
 split at h
 case h_3=>cases h
 case h_2 hx=>
  simp only[Option.some.injEq,Prod.mk.injEq] at h
  obtain ⟨rfl,rfl⟩:=h
  subst hp
  have e1:=r.eval x
  rw[hx] at e1
  have e1:=ZC e1
  obtain ⟨v,hv,QS⟩:=Qa2 (k:=k) hL ht rfl Yn rfl KB (N:=free Z pl) (w:=w) ok
  cases ok with
  | false=>exact ⟨v,.cl _ _ hv,fun w' hw=>by simp [execOp,ho,e1,e2,QS w']⟩
  | true=>
   refine ⟨.tuple #[v,.bool false],.tup _ [v,.bool false] rfl (fun i hi=>match i,hi with
    | 0,_=>.cl _ _ hv
    | 1,_=>.cl _ _ (.raw _)),fun w' hw=>by simp [execOp,ho,e1,e2,QS w']⟩
 case h_1 l g hx=>
  split at h
  case h_2=>cases h
  rename_i ob QY
  simp only[Option.some.injEq,Prod.mk.injEq] at h
  obtain ⟨rfl,rfl⟩:=h
  obtain ⟨hm,rfl,rfl⟩:=hp
  obtain ⟨kd,c,es,Z9,_,_,vV,hm⟩:=hm.get
  rw[vV]
  subst hm
  obtain ⟨b,Q1,e1,_,_,hb,E⟩:=HY r Z9 hx QY
  obtain ⟨v,hv,QS⟩:=Qa1 (k:=k) hL ht rfl Yn rfl KB hb E ok
  cases hf:JE es k with
  | some d=>
   rw[hf] at hv QS
   cases ok with
   | false=>exact ⟨v,hv,fun w' hw=>by simp [execOp,ho,e1,e2,QS w' (hw b (qt hb))]⟩
   | true=>
    refine ⟨.tuple #[v,.bool true],.tup _ [v,.bool true] rfl (fun i hi=>match i,hi with
     | 0,_=>hv
     | 1,_=>.cl _ _ (.raw _)),fun w' hw=>by simp [execOp,ho,e1,e2,QS w' (hw b (qt hb))]⟩
  | none=>
   rw[hf] at hv QS
   cases ok with
   | false=>exact ⟨v,hv,fun w' hw=>by simp [execOp,ho,e1,e2,QS w' (hw b (qt hb))]⟩
   | true=>
    refine ⟨.tuple #[v,.bool false],.tup _ [v,.bool false] rfl (fun i hi=>match i,hi with
     | 0,_=>hv
     | 1,_=>.cl _ _ (.raw _)),fun w' hw=>by simp [execOp,ho,e1,e2,QS w' (hw b (qt hb))]⟩
def H9 (L:Zd) (h:List Ob) (t:TypeId) (x:D):Ev:=match ty L t with
 | some ⟨.map _ _,_,_,_⟩=>match x with
  | .mref l g=>match h[l]? with
   | some o=>some (o.kd.ty=1∧g=o.gen,.raw (.int .i64 ((o.n - 1:Nat):Int)))
   | none=>none
  | .raw (.map none)=>some (True,.raw (.int .i64 0))
  | _=>none
 | _=>none
theorem Qa3 (hL:Zr P L) {ZX:Array TypeId} (ho:o.op=.call ⟨.builtin .len,#[x],ZX⟩) (hty:ZX=#[t]) {p:Prop} {d:D} (h:H9 L s.h t (Qp s.fr x)=some (p,d)) (hp:p):Ki P base nt o s d:=by
 subst hty
 intro Z pl a w r
 unfold H9 at h
 split at h
 case h_2=>cases h
 rename_i kt et m1 m2 m3 ht
 have hu:=y7 (hL t _ ht) rfl
 have e1:=r.eval x
 split at h
 case h_3=>cases h
 case h_2 hx=>
  simp only[Option.some.injEq,Prod.mk.injEq] at h
  obtain ⟨rfl,rfl⟩:=h
  rw[hx] at e1
  have e1:=ZC e1
  refine ⟨.int .i64 0,.cl _ _ (.raw _),fun w' hw=>?_⟩
  rw[XJ ho]
  simp [e1,builtin,Builtin.len_,underlying,hu,goInt]
 case h_1 l g hx=>
  split at h
  case h_2=>cases h
  rename_i ob QY
  simp only[Option.some.injEq,Prod.mk.injEq] at h
  obtain ⟨rfl,rfl⟩:=h
  obtain ⟨hk,rfl⟩:=hp
  rw[hx] at e1
  obtain ⟨o',p,b,h1,h2,h3,h4,h5⟩:=y9 e1
  rw[QY] at h1;cases h1
  have h5:=h5 rfl
  rw[h5] at h2
  obtain ⟨Q9,jr⟩:=r.o.at_ l _ b 0 QY h2
  obtain ⟨_,_,Q1,clock,hb,h6,_⟩:=jr.map hk
  have hv:=h3.2
  rw[hk] at hv
  refine ⟨.int .i64 ((ob.n - 1:Nat):Int),.cl _ _ (.raw _),fun w' hw=>?_⟩
  rw[XJ ho]
  have Jp:w'.heap[b]? = some (.map Q1 clock):=by rw[hw b (qt hb)];exact hb
  simp [hv,Ei,builtin,Builtin.len_,underlying,hu,getObj,xT Jp,h6,goInt]
def B0 (L:Zd) (h:List Ob) (t:TypeId):Option (Prop × List Ob × D):=match ty L t with
 | some ⟨.map kt _,_,_,_⟩=>match ty L kt with
  | some ⟨.int q,_,_,_⟩=>some (True,h++[QE q 0 []],.mref h.length 0)
  | _=>some (True,h++[QE .i64 0 []],.mref h.length 0)
 | _=>none
theorem UK (hL:Zr P L) {rz:Option Operand} (hr:rz=none∨∃ k n,rz=some (.const (.int k n))∧0≤n) (ho:o.op=.makeMap t rz) {p:Prop} {h':List Ob} {d:D} (h:B0 L s.h t=some (p,h',d)):XK P base nt o s h' d:=by
 have hm:∃ q,p=True∧h'=s.h++[QE q 0 []]∧d=.mref s.h.length 0∧∃ kt vt a b c,ty L t=some ⟨.map kt vt,a,b,c⟩:=by
  unfold B0 at h
  split at h
  case h_2=>cases h
  rename_i kt vt _ _ _ ht
  split at h
  all_goals
   simp only[Option.some.injEq,Prod.mk.injEq] at h
   obtain ⟨rfl,rfl,rfl⟩:=h
   exact ⟨_,rfl,rfl,rfl,_,_,_,_,_,ht⟩
 obtain ⟨q,rfl,rfl,rfl,kt,vt,_,_,_,ht⟩:=hm
 intro Z pl a w r Js
 have e:∀ b,b<w.heap.size→(w.alloc (.map #[] 0)).heap[b]? = w.heap[b]? := fun b hb=>YP w _ b hb
 have ZU:(w.alloc (.map #[] 0)).heap[w.heap.size]? = some (.map #[] 0):=heap_alloc_new w _
 have T:Tr s.h pl w (s.h++[QE q 0 []]) (pl++[some (w.heap.size,0)]) (w.alloc (.map #[] 0)):=Tr.push r.o e _ _ (by intro b q h;simp at h;omega)
 have QZ:pl.length=s.h.length:=r.o.len
 refine ⟨.map (some w.heap.size),w.alloc (.map #[] 0),pl++[some (w.heap.size,0)],.inl ?_,T,?_,?_,vO Js _,fun _=>e⟩
 ·rcases hr with rfl | ⟨k,n,rfl,hn⟩
  ·simp [execOp,ho,makeMap]
  ·simp [execOp,ho,makeMap,Act.eval,underlying,y7 (hL t _ ht) rfl,asInt,asIntOf]
 ·exact QT.El r.o e _ (Nat.le_refl _) Js (Oc (kd:=.map) ZU ⟨rfl,fun i e a h=>by simp at h,fun i j a a' _ h=>by simp at h⟩ rfl)
 ·exact .mref _ _ (QE q 0 []) (some (w.heap.size,0)) w.heap.size (by simp) (by rw[← QZ];simp) ⟨by simp [QE,Kc,Kd.ty],rfl⟩ (Nat.le_refl _) (fun _=>rfl)
def xU (L:Zd) (h:List Ob) (t:TypeId) (x i v:D):Option (Prop × List Ob):=match ty L t with
 | some ⟨.map kt _,_,_,_⟩=>match ty L kt with
  | some ⟨.int q,_,_,_⟩=>match x,i with
   | .mref l g,.raw (.int q' k)=>match h[l]? with
    | some o=>some (IsMap q o∧q'=q∧g=0∧o.kd.ro=false,h.set l (J5 q (clockOf o) (ku o) k v))
    | none=>none
   | _,_=>none
  | _=>none
 | _=>none
theorem UL {w:World} {b:Nat} {es:Array MapEntry} {c:Nat} (hb:w.heap[b]? = some (.map es c)) (o:Obj):Xg w { w with heap:=w.heap.setIfInBounds b o }:=fun a v h=>by
 by_cases e:a.block=b
 ·simp [World.cell?,e,hb] at h
 ·rw[World.cell?_of_block (w:=w)]
  ·exact h
  ·simp [Array.getElem?_setIfInBounds,Ne.symm e]
theorem UM (hL:Zr P L) {v:Operand} (ho:o.op=.mapUpdate t x i v) {p:Prop} {h':List Ob} (h:xU L s.h t (Qp s.fr x) (Qp s.fr i) (Qp s.fr v)=some (p,h')) (hp:p):∀ (Z:Nat→Prop) pl a w,Rel Z base nt s pl a w→base≤w.heap.size→∃ v w' Qg,((execOp a.eval o).run P w=.ok (.value v) w'∨((execOp a.eval o).run P w=.ok .skip w'∧v=Go.undef))∧Tr s.h pl w h' Qg w'∧QT Z base h' Qg w'∧Qv Z h' Qg w' .undef v∧Below base w w'∧Xg w w':=by
 unfold xU at h
 split at h
 case h_2=>cases h
 split at h
 case h_2=>cases h
 rename_i kt et _ _ _ ht _ q _ _ _ Yn
 split at h
 case h_2=>cases h
 rename_i l g q' k hx hi
 split at h
 case h_2=>cases h
 rename_i ob QY
 simp only[Option.some.injEq,Prod.mk.injEq] at h
 obtain ⟨rfl,rfl⟩:=h
 obtain ⟨hm,rfl,rfl,hro⟩:=hp
 obtain ⟨kd,c,es,Z9,vW,ZO,vV,hm⟩:=hm.get
 rw[vV,ZO]
 have Qq:kd=.map:=by rw[vW] at hro;cases kd <;> first | rfl | (exfalso;revert Z9;decide) | (exfalso;revert hro;decide)
 subst Qq
 rw[show Kc .map q' c es=QE q' c es from rfl] at hm
 subst hm
 intro Z pl a w r Js
 have e2:=r.eval i
 rw[hi] at e2
 have e2:=ZC e2
 have e3:=r.eval v
 obtain ⟨b,Q1,e1,h2,Q9,hb,E⟩:=HY (kd:=.map) r rfl hx QY
 have Q9:=Q9 rfl
 have B1:=y7 (hL t _ ht) rfl
 have Zj:=vL (hL kt _ Yn) rfl
 cases hf:JE es k with
 | some d=>
  obtain ⟨j,e,g1,g2,g3,g4,g5,_⟩:=HW hf
  obtain ⟨a1,b1,b2,b3,b4,b5,b6⟩:=E.Wz g1 g2 g4
  have QS:=QaP (P:=P) (w:=w) (k:=k) B1 Zj hb E.keys b1 b2 b6 (a.eval v)
  have hm:J5 q' c es k (Qp s.fr v)=QE q' c (es.set j ⟨k,Qp s.fr v,e.b⟩):=by simp only[J5,hf];rw[g5]
  rw[hm]
  obtain ⟨w',rfl,T,O,B⟩:=HZ r QY h2 Q9 hb (c':=c) (es':=es.set j ⟨k,Qp s.fr v,e.b⟩) (ens':=Q1.modify j fun e=>{ e with key:=.int q' k,val:=a.eval v }) (fun Qg w' T=>by
   have E':=E.tr T
   have VV:∀ (i':Nat) (x:MapEntry),(Q1.modify j fun e=>{ e with key:=.int q' k,val:=a.eval v }).toList[i']? = some x→∃ y,Q1.toList[i']? = some y∧x.born=y.born∧(i'≠j→x=y)∧(i'=j→x.key=.int q' k∧x.val=a.eval v):=fun i' x hx=>by
    have hx:(Q1.modify j fun e=>{ e with key:=.int q' k,val:=a.eval v })[i']? = some x:=by rw[← Array.getElem?_toList];exact hx
    rw[Array.getElem?_modify] at hx
    split at hx
    ·rename_i JN
     subst JN
     rw[b1] at hx
     simp at hx
     subst hx
     exact ⟨a1,by simpa using b1,rfl,fun h=>absurd rfl h,fun _=>⟨rfl,rfl⟩⟩
    ·rename_i JN
     exact ⟨x,by simpa using hx,rfl,fun _=>rfl,fun h=>absurd h.symm JN⟩
   refine ⟨by have:=E.len;simp at this ⊢;exact this,fun i' e' a' KZ Xl=>?_,fun i1 i2 x y ED hx hy=>?_⟩
   ·obtain ⟨y,y1,y2,y3,y4⟩:=VV i' a' Xl
    by_cases JN:i'=j
    ·subst JN
     have Qd:=(List.getElem?_eq_some_iff.1 g1).1
     rw[List.getElem?_set_self Qd] at KZ
     cases KZ
     obtain ⟨d1,d2⟩:=y4 rfl
     have:y=a1:=by have Ia:Q1.toList[i']? = some a1:=(by simpa using b1);rw [y1] at Ia; simpa using Ia
     subst this
     exact ⟨d1,by rw[d2];exact e3.tr T,by rw[y2,b4],by rw[y2];exact b5⟩
    ·rw[List.getElem?_set_ne (Ne.symm JN)] at KZ
     rw[y3 JN]
     exact E'.at_ i' e' y KZ y1
   ·obtain ⟨x',qx,Je,_⟩:=VV i1 x hx
    obtain ⟨y',je,ZZ,_⟩:=VV i2 y hy
    rw[Je,ZZ];exact E.inc i1 i2 x' y' ED qx je)
  exact ⟨Go.undef,_,pl,.inr ⟨by simp [execOp,ho,e1,e2,QS],rfl⟩,T,O,.cl _ _ (.undef _),B,UL hb _⟩
 | none=>
  obtain ⟨g1,_⟩:=EC hf
  have QS:=QaQ (P:=P) (w:=w) (k:=k) B1 Zj hb E.keys (E.Od g1) (a.eval v)
  have hm:J5 q' c es k (Qp s.fr v)=QE q' (c+1) (es++[⟨k,Qp s.fr v,c⟩]):=by simp only[J5,hf]
  rw[hm]
  obtain ⟨w',rfl,T,O,B⟩:=HZ r QY h2 Q9 hb (c':=c+1) (es':=es++[⟨k,Qp s.fr v,c⟩]) (ens':=Q1.push { key:=.int q' k,val:=a.eval v,born:=c }) (fun Qg w' T=>by
   have E':=E.tr T
   have hl:es.length=Q1.size:=by have:=E.len;simpa using this
   refine ⟨by simp [hl],fun i' e' a' KZ Xl=>?_,fun i1 i2 x y ED hx hy=>?_⟩
   ·have Xl:(Q1.push { key:=.int q' k,val:=a.eval v,born:=c })[i']? = some a':=by rw[← Array.getElem?_toList];exact Xl
    rw[Array.getElem?_push] at Xl
    rcases VB KZ with h1 | ⟨h1,Zw⟩
    ·have:=(List.getElem?_eq_some_iff.1 h1).1
     rw[if_neg (by omega)] at Xl
     obtain ⟨k1,k2,k3,k4⟩:=E'.at_ i' e' a' h1 (by simpa using Xl)
     exact ⟨k1,k2,k3,by omega⟩
    ·subst Zw
     rw[if_pos (by omega)] at Xl
     cases Xl
     exact ⟨rfl,e3.tr T,rfl,by simp⟩
   ·have hx:(Q1.push { key:=.int q' k,val:=a.eval v,born:=c })[i1]? = some x:=by rw[← Array.getElem?_toList];exact hx
    have hy:(Q1.push { key:=.int q' k,val:=a.eval v,born:=c })[i2]? = some y:=by rw[← Array.getElem?_toList];exact hy
    rw[Array.getElem?_push] at hx hy
    have JI:∀ (i:Nat) (z:MapEntry),Q1[i]? = some z→z.born<c:=fun i z hz=>by
     have Qd:=(Array.getElem?_eq_some_iff.1 hz).1
     exact (E.at_ i (es[i]'(by omega)) z (List.getElem?_eq_getElem (by omega)) (by simpa using hz)).2.2.2
    split at hx
    ·split at hy
     ·omega
     ·have:=(Array.getElem?_eq_some_iff.1 hy).1;omega
    ·split at hy
     ·cases hy;exact JI i1 x hx
     ·exact E.inc i1 i2 x y ED (by simpa using hx) (by simpa using hy))
  exact ⟨Go.undef,_,pl,.inr ⟨by simp [execOp,ho,e1,e2,QS],rfl⟩,T,O,.cl _ _ (.undef _),B,UL hb _⟩
theorem Qa5 (hL:Zr P L) {v:Operand} (ho:o.op=.mapUpdate t x i v) {p:Prop} {h':List Ob} (h:xU L s.h t (Qp s.fr x) (Qp s.fr i) (Qp s.fr v)=some (p,h')) (hp:p):XK P base nt o s h' .undef:=fun Z pl a w r hb=>by
 obtain ⟨v,w',Qg,h1,h2,h3,h4,h5,_⟩:=UM hL ho h hp Z pl a w r hb
 exact ⟨v,w',Qg,h1,h2,h3,h4,h5,fun hc=>by simp [calm,ho] at hc⟩
def Ib (L:Zd) (h:List Ob) (t:TypeId) (x i:D):Option (Prop × List Ob):=match ty L t with
 | some ⟨.map kt _,_,_,_⟩=>match ty L kt with
  | some ⟨.int q,_,_,_⟩=>match i with
   | .raw (.int q' k)=>match x with
    | .mref l g=>match h[l]? with
     | some o=>some (IsMap q o∧q'=q∧g=0∧o.kd.ro=false,h.set l (QE q (clockOf o) (ZM (ku o) k)))
     | none=>none
    | .raw (.map none)=>some (q'=q,h)
    | _=>none
   | _=>none
  | _=>none
 | _=>none
theorem Qa6 (hL:Zr P L) {tk:TypeId} (ho:o.op=.call ⟨.builtin .delete,#[x,i],#[t,tk]⟩) {p:Prop} {h':List Ob} (h:Ib L s.h t (Qp s.fr x) (Qp s.fr i)=some (p,h')) (hp:p):XK P base nt o s h' (.tup []):=by
 unfold Ib at h
 split at h
 case h_2=>cases h
 split at h
 case h_2=>cases h
 rename_i kt et _ _ _ ht _ q _ _ _ Yn
 have B1:=y7 (hL t _ ht) rfl
 have Zj:=vL (hL kt _ Yn) rfl
 split at h
 case h_2=>cases h
 rename_i q' k hi
 split at h
 case h_3=>cases h
 case h_2 hx=>
  simp only[Option.some.injEq,Prod.mk.injEq] at h
  obtain ⟨rfl,rfl⟩:=h
  subst hp
  intro Z pl a w r Js
  have e2:=r.eval i
  rw[hi] at e2
  have e2:=ZC e2
  have e1:=r.eval x
  rw[hx] at e1
  have e1:=ZC e1
  have h3:=An (P:=P) (w:=w) (k:=k) Zj true 9999
  refine ⟨.tuple #[],w,pl,.inl ?_,Tr.refl _ _ _,r.o,.tup [] [] rfl (fun i hi=>absurd hi (Nat.not_lt_zero i)),Below.refl _ _,fun _=>Ext.refl w⟩
  rw[XJ ho]
  simp [e1,e2,builtin,Builtin.delete_,underlying,B1,h3]
 case h_1 l g hx=>
  split at h
  case h_2=>cases h
  rename_i ob QY
  simp only[Option.some.injEq,Prod.mk.injEq] at h
  obtain ⟨rfl,rfl⟩:=h
  obtain ⟨hm,rfl,rfl,hro⟩:=hp
  obtain ⟨kd,c,es,Z9,vW,ZO,vV,hm⟩:=hm.get
  rw[vV,ZO]
  have Qq:kd=.map:=by rw[vW] at hro;cases kd <;> first | rfl | (exfalso;revert Z9;decide) | (exfalso;revert hro;decide)
  subst Qq
  rw[show Kc .map q' c es=QE q' c es from rfl] at hm
  subst hm
  intro Z pl a w r Js
  have e2:=r.eval i
  rw[hi] at e2
  have e2:=ZC e2
  obtain ⟨b,Q1,e1,h2,Q9,hb,E⟩:=HY (kd:=.map) r rfl hx QY
  have Q9:=Q9 rfl
  cases hf:JE es k with
  | some d=>
   obtain ⟨j,e,g1,g2,g3,g4,g5,g6⟩:=HW hf
   obtain ⟨a1,b1,b2,b3,b4,b5,b6⟩:=E.Wz g1 g2 g4
   have QS:=QaR (P:=P) (w:=w) (k:=k) (ty:=o.type) (kt2:=tk) B1 Zj hb E.keys b1 b2 b6
   rw[g6]
   have hjs:j<Q1.size:=(Array.getElem?_eq_some_iff.1 b1).1
   obtain ⟨w',rfl,T,O,B⟩:=HZ r QY h2 Q9 hb (c':=c) (es':=es.eraseIdx j) (ens':=Q1.eraseIdxIfInBounds j) (fun Qg w' T=>by
    have E':=E.tr T
    have hl:es.length=Q1.size:=by have:=E.len;simpa using this
    have hto:(Q1.eraseIdxIfInBounds j).toList=Q1.toList.eraseIdx j:=by simp [Array.eraseIdxIfInBounds,hjs,Array.toList_eraseIdx]
    rw[hto]
    refine ⟨by simp [List.length_eraseIdx,hl],fun i' e' a' KZ Xl=>?_,fun i1 i2 x y ED hx hy=>?_⟩
    ·rw[List.getElem?_eraseIdx] at KZ Xl
     split at KZ
     ·rw[if_pos ‹_›] at Xl;exact E'.at_ _ _ _ KZ Xl
     ·rw[if_neg ‹_›] at Xl;exact E'.at_ _ _ _ KZ Xl
    ·rw[List.getElem?_eraseIdx] at hx hy
     split at hx <;> split at hy <;> exact E.inc _ _ x y (by omega) hx hy)
   refine ⟨.tuple #[],_,pl,.inl ?_,T,O,.tup [] [] rfl (fun i hi=>absurd hi (Nat.not_lt_zero i)),B,fun hc=>by simp [calm,ho] at hc⟩
   rw[XJ ho]
   simp [e1,e2,builtin,QS]
  | none=>
   obtain ⟨g1,_,g6⟩:=EC hf
   have QS:=QaS (P:=P) (w:=w) (k:=k) (ty:=o.type) (kt2:=tk) B1 Zj hb E.keys (E.Od g1)
   rw[g6]
   obtain ⟨w',rfl,T,O,B⟩:=HZ r QY h2 Q9 hb (c':=c) (es':=es) (ens':=Q1) (fun Qg w' T=>E.tr T)
   refine ⟨.tuple #[],_,pl,.inl ?_,T,O,.tup [] [] rfl (fun i hi=>absurd hi (Nat.not_lt_zero i)),B,fun hc=>by simp [calm,ho] at hc⟩
   rw[XJ ho]
   simp [e1,e2,builtin,QS]
def xV (l c c':Nat) (seen:List Nat):Nat→List D
 | 0=>[.mref l 0]
 | 1=>[.raw (.int .i64 c)]
 | 2=>[.raw (.int .i64 c')]
 | r+3=>match seen[r]? with
  | some b=>[.raw (.int .i64 b)]
  | none=>[.undef]
def Vp (l c c':Nat) (seen:List Nat):Ob:=⟨.iter,0,1,seen.length+3,xV l c c' seen⟩
def Ic (L:Zd) (h:List Ob) (t:TypeId) (x:D):Option (Prop × List Ob × D):=match ty L t with
 | some ⟨.map _ _,_,_,_⟩=>match x with
  | .mref l g=>match h[l]? with
   | some o=>some (IsMap .i64 o∧g=0,h++[Vp l (clockOf o) (clockOf o) []],.mref h.length 0)
   | none=>none
  | _=>none
 | _=>none
theorem UN {Z:Nat→Prop} {h:List Ob} {pl:List Pl} {w:World} {l c c':Nat} {seen:List Nat} {b m:Nat} {sn:Array Nat} (hb:w.heap[b]? = some (.mapIter (some m) c sn c')) (hs:sn.toList=seen) (hm:Qv Z h pl w (.mref l 0) (.map (some m))):Jq Z h pl w (Vp l c c' seen) b 0:=by
 subst hs
 refine Jq.T7 rfl ⟨rfl,rfl,m,c,c',sn,hb,by simp [Vp],fun i _=>?_,hm,.cl _ _ (.raw _),.cl _ _ (.raw _),fun i s hs=>?_⟩
 ·show (xV l c c' sn.toList i).length=1
  unfold xV;split <;> (try split) <;> rfl
 ·have hs:sn.toList[i]? = some s:=by simpa using hs
  show Qv Z h pl w (nth (xV l c c' sn.toList (i+3)) 0) _
  have:xV l c c' sn.toList (i+3)=[.raw (.int .i64 s)]:=by simp only[xV,hs]
  rw[this];exact .cl _ _ (.raw _)
theorem UO {Z:Nat→Prop} {h:List Ob} {pl:List Pl} {w:World} {l c c':Nat} {seen:List Nat} {b p:Nat} (x:Jq Z h pl w (Vp l c c' seen) b p):p=0∧∃ (m:Nat) (sn:Array Nat),w.heap[b]? = some (.mapIter (some m) c sn c')∧sn.toList=seen∧Qv Z h pl w (.mref l 0) (.map (some m)):=by
 obtain ⟨h0,_,m,since,last,sn,h1,h2,_,h4,h5,h6,h7⟩:=x.iter rfl
 have e1:since=c:=by have:=ZC h5;simp at this;omega
 have e2:last=c':=by have:=ZC h6;simp at this;omega
 subst e1;subst e2
 refine ⟨h0,m,sn,h1,?_,h4⟩
 have hl:seen.length=sn.size:=by simpa [Vp] using h2
 apply List.ext_getElem?
 intro i
 by_cases hi:i<sn.size
 ·have h8:=h7 i sn[i] (Array.getElem?_eq_getElem hi)
  have e3:(Vp l since last seen).row (i+3)=[.raw (.int .i64 (seen[i]'(by omega)))]:=by
   show xV l since last seen (i+3)=_
   simp only[xV,List.getElem?_eq_getElem (show i<seen.length by omega)]
  rw[e3] at h8
  have:=ZC h8
  simp at this
  rw[List.getElem?_eq_getElem (show i<sn.toList.length by simpa using hi),List.getElem?_eq_getElem (show i<seen.length by omega)]
  simp only[Array.getElem_toList,Option.some.injEq];omega
 ·rw[List.getElem?_eq_none (by simp;omega),List.getElem?_eq_none (by omega)]
theorem Qa9 (hL:Zr P L) (ho:o.op=.range t x) {p:Prop} {h':List Ob} {d:D} (h:Ic L s.h t (Qp s.fr x)=some (p,h',d)) (hp:p):XK P base nt o s h' d:=by
 unfold Ic at h
 split at h
 case h_2=>cases h
 rename_i kt et _ _ _ ht
 split at h
 case h_2=>cases h
 rename_i l g hx
 split at h
 case h_2=>cases h
 rename_i ob QY
 simp only[Option.some.injEq,Prod.mk.injEq] at h
 obtain ⟨rfl,rfl,rfl⟩:=h
 obtain ⟨hm,rfl⟩:=hp
 obtain ⟨kd,c,es,Z9,_,ZO,_,hm⟩:=hm.get
 rw[ZO]
 subst hm
 intro Z pl a w r Js
 obtain ⟨b,Q1,e1,h2,_,hb,E⟩:=HY r Z9 hx QY
 have QS:=QaT (P:=P) (w:=w) (y7 (hL t _ ht) rfl) hb
 have e:∀ b',b'<w.heap.size→(w.alloc (.mapIter (some b) c #[] c)).heap[b']? = w.heap[b']? := fun b' hb=>YP w _ b' hb
 have ZU:(w.alloc (.mapIter (some b) c #[] c)).heap[w.heap.size]? = some (.mapIter (some b) c #[] c):=heap_alloc_new w _
 have T:Tr s.h pl w (s.h++[Vp l c c []]) (pl++[some (w.heap.size,0)]) (w.alloc (.mapIter (some b) c #[] c)):=Tr.push r.o e _ _ (by intro b q h;simp at h;omega)
 have QZ:pl.length=s.h.length:=r.o.len
 have hv:=r.eval x
 rw[hx,e1] at hv
 refine ⟨.pointer (some ⟨w.heap.size,0,none⟩),w.alloc (.mapIter (some b) c #[] c),pl++[some (w.heap.size,0)],.inl ?_,T,?_,?_,vO Js _,fun _=>e⟩
 ·simp [execOp,ho,e1,QS]
 ·exact QT.El r.o e _ (Nat.le_refl _) Js (UN ZU rfl (hv.tr T))
 ·exact .mref _ _ (Vp l c c []) (some (w.heap.size,0)) w.heap.size (by simp) (by rw[← QZ];simp) ⟨by simp [Vp,Kd.ty],rfl⟩ (Nat.le_refl _) (fun _=>rfl)
theorem Qba (ho:o.op=.next x false) {Z:Nat→Prop} {pl:List Pl} {a:Act} {w:World} (r:Rel Z base nt s pl a w) (Js:base≤w.heap.size) {li c:Nat} {es:List QK} {seen:List Nat} (hx:Qp s.fr x=.mref li 0) (Wz:s.h[li]? = some (Vp l c c seen)) {kd:Kd} (Z9:kd.ty=1) (QY:s.h[l]? = some (Kc kd q c es)) :
  ((∀ e∈es,e.b∈seen)∧(execOp a.eval o).run P w=.ok (.value (.tuple #[.bool false])) w) ∨
  ∃ e∈es,e.b ∉ seen∧∃ v w',(execOp a.eval o).run P w=.ok (.value v) w'∧Tr s.h pl w (s.h.set li (Vp l c c (seen++[e.b]))) pl w'∧QT Z base (s.h.set li (Vp l c c (seen++[e.b]))) pl w' ∧
   Qv Z (s.h.set li (Vp l c c (seen++[e.b]))) pl w' (.tup [.raw (.bool true),.raw (.int q e.k),e.v]) v∧Below base w w':=by
 have e1:=r.eval x
 rw[hx] at e1
 obtain ⟨o',p,b,h1,h2,h3,h4,h5⟩:=y9 e1
 rw[Wz] at h1;cases h1
 have h5:=h5 rfl
 rw[h5] at h2
 obtain ⟨Q9,jr⟩:=r.o.at_ li _ b 0 Wz h2
 obtain ⟨_,m,sn,hb,js,EE⟩:=UO jr
 have hv:a.eval x=.pointer (some ⟨b,0,none⟩):=h3.2
 obtain ⟨o2,p2,bm,k1,k2,k3,k4,k5⟩:=y9 EE
 rw[QY] at k1;cases k1
 have k5:=k5 rfl
 rw[k5] at k2
 have k3:=k3.2
 rw[show (Kc kd q c es).kd.ty=1 from Z9] at k3
 have k3:m=bm:=by simpa [Ei] using k3
 subst k3
 obtain ⟨EF,Oe⟩:=r.o.at_ l _ m 0 QY k2
 obtain ⟨_,Q1,Ap,E⟩:=HX Z9 Oe
 have hl:es.length=Q1.toList.length:=E.len
 have hold:∀ y∈Q1.toList,y.born<c:=fun y hy=>by
  obtain ⟨j,hj⟩:=List.getElem?_of_mem hy
  have Qd:=(List.getElem?_eq_some_iff.1 hj).1
  exact (E.at_ j (es[j]'(by omega)) y (List.getElem?_eq_getElem (by omega)) hj).2.2.2
 rcases run_next_at (P:=P) w o.type b m c c sn Q1 c hb Ap hold (Nat.le_refl _) with ⟨g1,g2⟩ | ⟨y,g1,w1,g2,g3⟩
 ·refine .inl ⟨fun e he=>?_,by simp [execOp,ho,hv,g2]⟩
  obtain ⟨j,hj⟩:=List.getElem?_of_mem he
  have Qd:=(List.getElem?_eq_some_iff.1 hj).1
  obtain ⟨_,_,e3,_⟩:=E.at_ j e (Q1.toList[j]'(by omega)) hj (List.getElem?_eq_getElem (by omega))
  have Of:∀ z∈Q1.toList,sn.contains z.born=true:=fun z hz=>by
   have:leftOf Q1 sn=#[]:=Array.eq_empty_of_size_eq_zero g1
   unfold leftOf at this
   rw[Array.filter_eq_empty_iff] at this
   have:=this z (by simpa using hz)
   simpa using this
  have:=Of _ (List.getElem_mem (show j<Q1.toList.length by omega))
  rw[e3] at this
  rw[← js]
  simpa using this
 ·obtain ⟨j,hj⟩:=List.getElem?_of_mem (show y∈Q1.toList by unfold leftOf at g1;simp at g1;simpa using g1.1)
  have Qd:=(List.getElem?_eq_some_iff.1 hj).1
  obtain ⟨d1,d2,d3,d4⟩:=E.at_ j (es[j]'(by omega)) y (List.getElem?_eq_getElem (by omega)) hj
  have xW:y.born ∉ sn.toList:=by unfold leftOf at g1;simp at g1;simpa using g1.2
  refine .inr ⟨es[j]'(by omega),List.getElem_mem _,by rw[← d3,← js];exact xW,?_⟩
  rw[← d3]
  have hh:w1.heap=w.heap:=by rcases g2 with rfl | rfl <;> rfl
  generalize Yi:ChangeMaps.setBlock w1 b (.mapIter (some m) c (sn.push y.born) c)=w' at g3
  have kv:=qt hb
  have Og:w'.heap=w.heap.setIfInBounds b (.mapIter (some m) c (sn.push y.born) c):=by rw[← Yi,← hh];rfl
  have e:∀ k,k≠b→w'.heap[k]? = w.heap[k]? := fun k hk=>by rw[Og];simp [Array.getElem?_setIfInBounds,Ne.symm hk]
  have ZU:w'.heap[b]? = some (.mapIter (some m) c (sn.push y.born) c):=by rw[Og];simp [Array.getElem?_setIfInBounds,kv]
  have T:=Tr.EA (w':=w') r.o Wz h2 e (o':=Vp l c c (seen++[y.born])) rfl rfl rfl (by rw[hb];intro c el h;cases h)
  refine ⟨_,w',by simp only[execOp,ho,hv,Sem.run_bind,g3,Result.andThen_ok];rfl,T,QT.EA (hro:=rfl) r.o Wz h2 e T (UN ZU (by rw[Array.toList_push,js]) (EE.tr T)),?_,?_⟩
  ·rw[d1]
   exact .tup _ [.bool true,.int q (es[j]'(by omega)).k,y.val] rfl fun i hi=>match i,hi with
    | 0,_=>.cl _ _ (.raw _)
    | 1,_=>.cl _ _ (.raw _)
    | 2,_=>d2.tr T
  ·have B:Below base w w1:=by
    rcases g2 with rfl | rfl
    ·exact .refl _ _
    ·exact (Below.refl _ _).drew
   refine B.trans (Es (Q9 rfl) (fun k hk=>by rw[hh];exact e k hk) (by rw[Og,hh];simp) (by rw[← Yi];rfl) (by rw[← Yi];rfl) (by rw[← Yi];rfl))
end
end Go.Fg
namespace Go.Fg
open Go.RowKit (Below)
variable {Z:Nat→Prop}
structure Cx where
 L:Zd
 E:xR
def qy (X:Cx) (s:St):Op→Ev
 | .move x=>some (True,Qp s.fr x)
 | .assign x=>some (True,Qp s.fr x)
 | .pick c x y=>match Qp s.fr c with
  | .raw (.bool b)=>some (True,bif b then Qp s.fr x else Qp s.fr y)
  | _=>none
 | .binOp op t x y _=>match Hu X.L op t (Qp s.fr x) (Qp s.fr y) with
  | some r=>some r
  | none=>HQ X.E op t (Qp s.fr x) (Qp s.fr y)
 | .unOp u _ x=>match u,Qp s.fr x with
  | .not,.raw (.bool b)=>some (True,.raw (.bool (!b)))
  | .neg,.raw (.int k n)=>some (True,.raw (.int k (k.wrap (0 - n))))
  | .xor,.raw (.int k n)=>some (True,.raw (.int k (bits .xor k (if k.signed then -1 else k.max) n)))
  | _,_=>none
 | .convert a b x=>Hz X.L a b (Qp s.fr x)
 | .build t parts=>match HL X.L s.fr t parts.toList with
  | some d=>some (True,d)
  | none=>none
 | .load t x=>Ab X.L s.h t (Qp s.fr x)
 | .nilCheck x=>bif (Qp s.fr x).there then some (True,Qp s.fr x) else none
 | .fieldAddr t x f=>Hv X.L t f (Qp s.fr x)
 | .field t x f=>Hw X.L t f (Qp s.fr x)
 | .indexAddr t x i=>Hx X.L s.h t (Qp s.fr x) (Qp s.fr i)
 | .index t x i=>Hy X.L t (Qp s.fr x) (Qp s.fr i)
 | .extract x i=>match Qp s.fr x with
  | .tup cs=>some (i<cs.length,nth cs i)
  | _=>none
 | .slice t x lo hi mx=>match mx with
  | none=>HO X.L s.fr s.h t (Qp s.fr x) lo hi
  | some _=>none
 | .makeFunc fn first QB=>match fn,first with
  | .func f,⟨fs⟩=>some (True,.clo f fs.length ((fs++QB.toList).map (Qp s.fr)))
  | _,_=>none
 | .call ⟨.builtin b,⟨args⟩,⟨ZX⟩⟩=>match b,args,ZX with
  | .len,[x],[t]=>match HA X.L t (Qp s.fr x) with
   | some r=>some r
   | none=>H9 X.L s.h t (Qp s.fr x)
  | .max,[x,y],_=>match Qp s.fr x,Qp s.fr y with
   | .raw (.int k m),.raw (.int _ n)=>some (True,.raw (.int k (max m n)))
   | _,_=>none
  | .min,[x,y],_=>match Qp s.fr x,Qp s.fr y with
   | .raw (.int k m),.raw (.int _ n)=>some (True,.raw (.int k (min m n)))
   | _,_=>none
  | _,_,_=>none
 | .lookup t x i ok=>H0 X.L s.h t (Qp s.fr x) (Qp s.fr i) ok
 | _=>none
structure WA (P:Program) (X:Cx):Prop where
 L:Zr P X.L
 E:vT P X.E
theorem UP {P:Program} {X:Cx} (hX:WA P X) {base nt:Nat} {s:St} {o:Oper} {p:Prop} {d:D} (h:qy X s o.op=some (p,d)) (hp:p):Ki P base nt o s d:=by
 unfold qy at h
 split at h
 case h_1 x ho=>simp only[Option.some.injEq,Prod.mk.injEq] at h;obtain ⟨rfl,rfl⟩:=h;exact Ud (.inl ho)
 case h_2 x ho=>simp only[Option.some.injEq,Prod.mk.injEq] at h;obtain ⟨rfl,rfl⟩:=h;exact Ud (.inr ho)
 case h_3 c x y ho=>
  split at h
  ·rename_i b hc
   simp only[Option.some.injEq,Prod.mk.injEq] at h;obtain ⟨rfl,rfl⟩:=h;exact Qaa ho hc
  ·cases h
 case h_4 op t x y yt ho=>
  split at h
  ·rename_i r hr
   simp only[Option.some.injEq] at h
   subst h
   exact u9 hX.L ho hr hp
  ·exact QaK hX.E ho h
 case h_5 u t x ho=>
  split at h
  ·rename_i b hx;simp only[Option.some.injEq,Prod.mk.injEq] at h;obtain ⟨rfl,rfl⟩:=h;exact Qai ho rfl hx
  ·rename_i k n hx;simp only[Option.some.injEq,Prod.mk.injEq] at h;obtain ⟨rfl,rfl⟩:=h;exact Qaj ho rfl hx
  ·rename_i k n hx;simp only[Option.some.injEq,Prod.mk.injEq] at h;obtain ⟨rfl,rfl⟩:=h;exact Qak ho rfl hx
  ·cases h
 case h_6 a b x ho=>exact Qam hX.L ho h
 case h_7 t parts ho=>
  split at h
  ·rename_i dd hd;simp only[Option.some.injEq,Prod.mk.injEq] at h;obtain ⟨rfl,rfl⟩:=h;exact QaF hX.L ho hd
  ·cases h
 case h_8 t x ho=>exact Uh hX.L ho h hp
 case h_9 x ho=>
  obtain ⟨ht,h2⟩:=Yh h
  simp only[Option.some.injEq,Prod.mk.injEq] at h2;obtain ⟨rfl,rfl⟩:=h2
  exact Qal ho rfl ht
 case h_10 t x f ho=>exact Qab hX.L ho h hp
 case h_11 t x f ho=>exact Qac hX.L ho h hp
 case h_12 t x i ho=>exact Qaf hX.L ho h hp
 case h_13 t x i ho=>exact Qag hX.L ho h hp
 case h_14 x i ho=>
  split at h
  ·rename_i cs hx;simp only[Option.some.injEq,Prod.mk.injEq] at h;obtain ⟨rfl,rfl⟩:=h;exact Qah ho hx hp
  ·cases h
 case h_15 t x lo hi mx ho=>
  split at h
  ·exact QaJ hX.L ho h hp
  ·cases h
 case h_16 fn first QB ho=>
  split at h
  ·simp only[Option.some.injEq,Prod.mk.injEq] at h;obtain ⟨rfl,rfl⟩:=h;exact Qap ho
  ·cases h
 case h_17 b args ZX ho=>
  split at h
  ·split at h
   ·rename_i r hr
    simp only[Option.some.injEq] at h
    subst h
    exact HB hX.L ho hr
   ·exact Qa3 hX.L ho rfl h hp
  ·split at h
   ·rename_i k m k' n hx hy;simp only[Option.some.injEq,Prod.mk.injEq] at h;obtain ⟨rfl,rfl⟩:=h;exact Qan ho hx hy
   ·cases h
  ·split at h
   ·rename_i k m k' n hx hy;simp only[Option.some.injEq,Prod.mk.injEq] at h;obtain ⟨rfl,rfl⟩:=h;exact Qao ho hx hy
   ·cases h
  ·cases h
 case h_18 t x i ok ho=>exact look_ok hX.L ho h hp
 case h_19=>cases h
def zx (X:Cx) (s:St):Op→Option (Prop × List Ob × D)
 | .alloc t=>match ty X.L t with
  | some y=>some (True,s.h++[⟨.one,0,(y.zero.map ZQ).length,1,fun _=>y.zero.map ZQ⟩],.ptr s.h.length 0 0 0)
  | none=>none
 | .box _ x=>match VD (Qp s.fr x) with
  | some cs=>some (True,s.h++[⟨.one,0,cs.length,1,fun _=>cs⟩],.ptr s.h.length 0 0 0)
  | none=>none
 | .store t a x=>match Et X.L s.h t (Qp s.fr a) (Qp s.fr x) with
  | some (p,h')=>some (p,h',.undef)
  | none=>none
 | .buildSlice t len parts=>HM X.L s.fr s.h t len parts.toList
 | .call ⟨.builtin b,⟨args⟩,⟨ZX⟩⟩=>match b,args,ZX with
  | .append,[x,y],[t,t']=>bif Nat.beq t t' then kp X.L s.h t (Qp s.fr x) (Qp s.fr y) else none
  | .delete,[x,i],[t,_]=>match Ib X.L s.h t (Qp s.fr x) (Qp s.fr i) with
   | some (p,h')=>some (p,h',.tup [])
   | none=>none
  | _,_,_=>none
 | .makeMap t rz=>match rz with
  | none=>B0 X.L s.h t
  | some (.const (.int _ n))=>bif decide (0≤n) then B0 X.L s.h t else none
  | some _=>none
 | .mapUpdate t x i v=>match xU X.L s.h t (Qp s.fr x) (Qp s.fr i) (Qp s.fr v) with
  | some (p,h')=>some (p,h',.undef)
  | none=>none
 | .range t x=>Ic X.L s.h t (Qp s.fr x)
 | _=>none
theorem Qbb {L:Zd} {h:List Ob} {t:TypeId} {s x:D} {r:Prop × List Ob × D} (e:kp L h t s x=some r):s=.nil∨∃ l g off len,s=.ref l g off len:=by
 unfold kp at e
 split at e
 ·split at e
  ·exact .inl rfl
  ·exact .inr ⟨_,_,_,_,rfl⟩
  ·cases e
 ·cases e
theorem UQ {P:Program} {X:Cx} (hX:WA P X) {base nt:Nat} {s:St} {o:Oper} {p:Prop} {h':List Ob} {d:D} (h:zx X s o.op=some (p,h',d)) (hp:p):XK P base nt o s h' d:=by
 unfold zx at h
 split at h
 case h_1 t ho=>
  split at h
  ·rename_i y hy;simp only[Option.some.injEq,Prod.mk.injEq] at h;obtain ⟨rfl,rfl,rfl⟩:=h;exact Qav hX.L ho hy
  ·cases h
 case h_2 t x ho=>
  split at h
  ·rename_i cs hc;simp only[Option.some.injEq,Prod.mk.injEq] at h;obtain ⟨rfl,rfl,rfl⟩:=h;exact Qau ho hc
  ·cases h
 case h_3 t a x ho=>
  split at h
  ·rename_i p' Xf hs;simp only[Option.some.injEq,Prod.mk.injEq] at h;obtain ⟨rfl,rfl,rfl⟩:=h;exact Qat hX.L ho hs hp
  ·cases h
 case h_4 t len parts ho=>exact QaG hX.L ho h hp
 case h_5 b args ZX ho=>
  split at h
  ·obtain ⟨ht,h2⟩:=Yh h
   have ht:=Nat.eq_of_beq_eq_true ht
   subst ht
   rcases Qbb h2 with e | ⟨l,g,off,len,e⟩
   ·rw[e] at h2;exact QaB hX.L ho e h2 hp
   ·rw[e] at h2;exact QaC hX.L ho e h2 hp
  ·split at h
   ·rename_i p' Xf hs;simp only[Option.some.injEq,Prod.mk.injEq] at h;obtain ⟨rfl,rfl,rfl⟩:=h;exact Qa6 hX.L ho hs hp
   ·cases h
  ·cases h
 case h_6 t rz ho=>
  split at h
  ·exact UK hX.L (.inl rfl) ho h
  ·rename_i k n
   obtain ⟨hn,h2⟩:=Yh h
   exact UK hX.L (.inr ⟨k,n,rfl,of_decide_eq_true hn⟩) ho h2
  ·cases h
 case h_7 t x i v ho=>
  split at h
  ·rename_i p' Xf hs;simp only[Option.some.injEq,Prod.mk.injEq] at h;obtain ⟨rfl,rfl,rfl⟩:=h;exact Qa5 hX.L ho hs hp
  ·cases h
 case h_8 t x ho=>exact Qa9 hX.L ho h hp
 case h_9=>cases h
abbrev G:=Option (Option Nat × Bool)
def guardOf (ops:Array Oper) (o:Oper):G:=match o.guard with
 | none=>none
 | some (j,b)=>some ((ops[j]?).bind (·.dst),b)
def strip (o : Oper) : Oper := ⟨o.dst, o.op, o.type, "", #[], none⟩
theorem Qbc {P:Program} {o:Oper} {a:Act} {w:World} {K:Act→World→Prop} {Q:Exit→Act→World→Prop}:(strip o).wp P a w K Q=o.wp P a w K Q:=rfl
def jt (ops:Array Oper):List (Oper × G):=ops.toList.map fun o=>(strip o,guardOf ops o)
def B2 (tmps:Array Value) (t:Nat):Option Bool:=match tmps[t]? with
 | some (.bool b)=>some b
 | _=>none
def K0 (g:G) (tmps:Array Value):Bool:=match g with
 | none=>true
 | some (none,_)=>false
 | some (some t,b)=>B2 tmps t == some b
theorem B3 (ops:Array Oper) (o:Oper) (tmps:Array Value):Region.wanted o (yielded ops tmps)=K0 (guardOf ops o) tmps:=by
 unfold Region.wanted guardOf K0
 cases hg:o.guard with
 | none=>rfl
 | some jb=>
  obtain ⟨j,b⟩:=jb
  dsimp only
  cases hd:(ops[j]?).bind (·.dst) with
  | none=>simp [yielded,hd]
  | some t=>
   simp only[yielded,hd,Option.bind_some,B2]
   cases ht:tmps[t]? with
   | none=>rfl
   | some v=>cases v <;> rfl
def Wb (P:Program) (Q:Exit→Act→World→Prop):List (Oper × G)→Act→World→Prop
 | [],a,w=>Q .normal a w
 | (o,g)::r,a,w=>if K0 g a.tmps=true then o.wp P a w (Wb P Q r) Q else Wb P Q r (a.put o.dst Go.undef) w
theorem Oh {P:Program} {ops:Array Oper} {Q:Exit→Act→World→Prop}:∀ (n i:Nat) (a:Act) (w:World),i+n=ops.size→Wb P Q ((jt ops).drop i) a w→wpOps P ops Q (List.range' i n) a w
 | 0,i,a,w,hi,h=>by
  have:(jt ops).drop i=[]:=List.drop_eq_nil_of_le (by simp [jt];omega)
  rw[this] at h
  exact h
 | n+1,i,a,w,hi,h=>by
  have Qd:i<ops.size:=by omega
  have hd:(jt ops).drop i=(strip ops[i],guardOf ops ops[i])::(jt ops).drop (i+1):=by
   rw[List.drop_eq_getElem_cons (by simp [jt];omega)]
   simp [jt]
  rw[hd] at h
  rw[List.range'_succ]
  simp only[wpOps,Array.getElem?_eq_getElem Qd,B3]
  simp only[Wb] at h
  split at h
  ·rename_i hw
   rw[if_pos hw]
   refine .inl ?_
   have mono:∀ (K K':Act→World→Prop),(∀ a w,K a w→K' a w)→ops[i].wp P a w K Q→ops[i].wp P a w K' Q:=by
    intro K K' hk hh
    unfold Oper.wp at *
    generalize (execOp a.eval ops[i]).run P w=r at *
    cases r with
    | ok x w'=>
     cases x <;> simp only[Oper.upon] at hh ⊢ <;> first | exact hk _ _ hh | exact hh | skip
     ·exact hh.mono fun e y6 he=>by cases e <;> first | exact hk _ _ he | exact he
     ·exact hh.mono fun v y6 he=>hk _ _ he
    | halt x w'=>cases x <;> exact hh
   rw[Qbc] at h
   exact mono _ _ (fun a w=>Oh n (i+1) a w (by omega)) h
  ·rename_i hw
   rw[if_neg hw]
   exact Oh n (i+1) _ w (by omega) h
theorem Qbd {P:Program} {id:Nat} {ops:Array Oper} {Q:Exit→Act→World→Prop} {a:Act} {w:World} (h:Wb P Q (jt ops) a w):(Code.region id ops false).wp P Q a w:=
 wp_region (by rw[List.range_eq_range'];exact Oh ops.size 0 a w (by omega) (by simpa using h))
structure Start where
 w:World
 F:List Ob
 pl:List Pl
structure Aq (Z:Nat→Prop) (w0:Start) (pl:List Pl) (w:World):Prop where
 new:∀ b,w.heap.size≤b→Z b
 own:∀ (l b q:Nat),pl[l]? = some (some (b,q))→w0.w.heap.size≤b→Z b
theorem Aq.step {Z:Nat→Prop} {w0:Start} {h h':List Ob} {pl Qg:List Pl} {w w':World} (S:Aq Z w0 pl w) (T:Tr h pl w h' Qg w') (hs:w.heap.size≤w'.heap.size):Aq Z w0 Qg w' where
 new:=fun b hb=>S.new b (by omega)
 own:=fun l b q e h0=>by
  rcases Nat.lt_or_ge b w.heap.size with Qd | vX
  ·by_cases ha:KX pl b
   ·exact absurd e ((T.JI b ha Qd).1 l q)
   ·obtain ⟨l1,h1⟩:=Classical.not_forall.1 ha
    obtain ⟨q1,h2⟩:=Classical.not_forall.1 h1
    exact S.own l1 b q1 (Classical.not_not.1 h2) h0
  ·exact S.new b vX
theorem Aq.start {Z:Nat→Prop} {base:Nat} {w0:Start} {h:List Ob} {pl:List Pl} (R:QT Z base h pl w0.w) (hz:∀ b,w0.w.heap.size≤b→Z b):Aq Z w0 pl w0.w where
 new:=hz
 own:=fun l b q e h0=>absurd (R.lt e).1 (by omega)
def Jw (Z:Nat→Prop) (base:Nat) (w0:Start) (h:List Ob) (pl:List Pl) (w:World):Prop:=Below base w0.w w∧Tr w0.F w0.pl w0.w h pl w∧Aq Z w0 pl w
theorem Jw.step {Z:Nat→Prop} {base:Nat} {w0:Start} {h h':List Ob} {pl Qg:List Pl} {w w':World} (S:Jw Z base w0 h pl w) (T:Tr h pl w h' Qg w') (b:Below base w w'):Jw Z base w0 h' Qg w':=⟨S.1.trans b,S.2.1.trans T,S.2.2.step T b.size⟩
section
variable (P:Program) (base nt:Nat) (w0:Start)
def EG (_:Start) (_:Nat→Prop):Prop:=True
def lift (Z:Nat→Prop) (Q:Exit→St→Prop) (e:Exit) (a:Act) (w:World):Prop:=∃ s pl,Q e s∧Rel Z base nt s pl a w∧Jw Z base w0 s.h pl w
def A (c:Code) (Q:Exit→St→Prop) (s:St):Prop:=∀ (Z:Nat→Prop),EG w0 Z→∀ pl a w,Rel Z base nt s pl a w→Jw Z base w0 s.h pl w→c.wp P (lift base nt w0 Z Q) a w
def AG (l:List (Oper × G)) (Q:Exit→St→Prop) (s:St):Prop:=∀ (Z:Nat→Prop),EG w0 Z→∀ pl a w,Rel Z base nt s pl a w→Jw Z base w0 s.h pl w→Wb P (lift base nt w0 Z Q) l a w
end
inductive Item where
 | code (c:Code)
 | ops (l:List (Oper × G))
 | inBlock (id:Nat)
 | inScope
def Qs (P:Program) (base nt:Nat) (w0:Start) (Q:Exit→St→Prop):List Item→Exit→St→Prop
 | [],e,s=>Q e s
 | .code c::k,.normal,s=>A P base nt w0 c (Qs P base nt w0 Q k) s
 | .code _::k,e,s=>Qs P base nt w0 Q k e s
 | .ops l::k,.normal,s=>AG P base nt w0 l (Qs P base nt w0 Q k) s
 | .ops _::k,e,s=>Qs P base nt w0 Q k e s
 | .inBlock id::k,.exit j,s=>if j=id then Qs P base nt w0 Q k .normal s else Qs P base nt w0 Q k (.exit j) s
 | .inBlock _::k,e,s=>Qs P base nt w0 Q k e s
 | .inScope::_,.goto _,_=>False
 | .inScope::k,e,s=>Qs P base nt w0 Q k e s
inductive Tree where
 | done (e:Exit) (s:St)
 | stop (k:List Item) (s:St)
 | vc (p:Prop) (t:Tree)
 | ite (b:Bool) (t e:Tree)
 | fail
def Tree.holds (P:Program) (base nt:Nat) (w0:Start) (Q:Exit→St→Prop):Tree→Prop
 | .done e s=>Q e s
 | .stop k s=>Qs P base nt w0 Q k .normal s
 | .vc p t=>p∧t.holds P base nt w0 Q
 | .ite b t e=>(b=true→t.holds P base nt w0 Q)∧(b=false→e.holds P base nt w0 Q)
 | .fail=>False
def Xm (id:Nat):List Item→Option (List Item)
 | []=>none
 | .inBlock j::k=>bif Nat.beq id j then some k else Xm id k
 | _::k=>Xm id k
def Q8 (fr:List (Nat × D)) (t:Option Nat) (d:D):List (Nat × D):=match t with
 | none=>fr
 | some t=>put fr t d
def Zi (nt:Nat):Option Nat→Bool
 | none=>true
 | some t=>Nat.blt t nt
def vY:Bool→Bool→Bool
 | true,x=>x
 | false,x=>!x
theorem UR (b x:Bool):vY b x=(x == b):=by cases b <;> cases x <;> rfl
def exec (X:Cx) (nt:Nat):Nat→List Item→St→Tree
 | 0,k,s=>.stop k s
 | _+1,[],s=>.done .normal s
 | n+1,.inBlock _::k,s=>exec X nt n k s
 | n+1,.inScope::k,s=>exec X nt n k s
 | n+1,.code c::k,s=>match c with
  | .skip=>exec X nt n k s
  | .label _=>exec X nt n k s
  | .seq a b=>exec X nt n (.code a::.code b::k) s
  | .cond c a b=>match Qp s.fr c with
   | .raw (.bool x)=>.ite x (exec X nt n (.code a::k) s) (exec X nt n (.code b::k) s)
   | _=>.fail
  | .block id c=>exec X nt n (.code c::.inBlock id::k) s
  | .scope c=>exec X nt n (.code c::.inScope::k) s
  | .exit id=>match Xm id k with
   | some k'=>exec X nt n k' s
   | none=>.done (.exit id) s
  | .ret=>.done .ret s
  | .region id ops dr=>bif dr then .stop (.code (.region id ops dr)::k) s else exec X nt n (.ops (jt ops)::k) s
  | c=>.stop (.code c::k) s
 | n+1,.ops []::k,s=>exec X nt n k s
 | n+1,.ops ((o,g)::r)::k,s=>match g with
  | none=>match qy X s o.op with
   | some (p,d)=>bif Zi nt o.dst then .vc p (exec X nt n (.ops r::k) ⟨Q8 s.fr o.dst d,s.h⟩) else .fail
   | none=>match zx X s o.op with
    | some (p,h',d)=>bif Zi nt o.dst then .vc p (exec X nt n (.ops r::k) ⟨Q8 s.fr o.dst d,h'⟩) else .fail
    | none=>.stop (.ops ((o,none)::r)::k) s
  | some (none,_)=>bif Zi nt o.dst then exec X nt n (.ops r::k) ⟨Q8 s.fr o.dst (.raw Go.undef),s.h⟩ else .fail
  | some (some t,b)=>match get s.fr t with
   | .raw (.bool x)=>.ite (vY b x) (exec X nt n (.ops ((o,none)::r)::k) ⟨put s.fr t (.raw (.bool b)),s.h⟩)
     (bif Zi nt o.dst then exec X nt n (.ops r::k) ⟨Q8 (put s.fr t (.raw (.bool (!b)))) o.dst (.raw Go.undef),s.h⟩ else .fail)
   | .raw (.tuple _)=>bif Zi nt o.dst then exec X nt n (.ops r::k) ⟨Q8 s.fr o.dst (.raw Go.undef),s.h⟩ else .fail
   | _=>.fail
section
variable {P:Program} {base nt:Nat} {w0:Start} {Q:Exit→St→Prop}
theorem A.mono {c:Code} {Q Q':Exit→St→Prop} {s:St} (h:A P base nt w0 c Q s) (hq:∀ e s,Q e s→Q' e s):A P base nt w0 c Q' s:=
 fun Z z pl a w r b=>wp_mono (h Z z pl a w r b) fun _ _ _ ⟨s',Qg,h1,h2,h3⟩=>⟨s',Qg,hq _ _ h1,h2,h3⟩
theorem Qbe {x y:Code} {s:St} (h:A P base nt w0 x (fun e s'=>match e with | .normal=>A P base nt w0 y Q s' | e=>Q e s') s):A P base nt w0 (.seq x y) Q s:=by
 intro Z z pl a w r b
 refine wp_seq (wp_mono (h Z z pl a w r b) fun e a' w' hh=>?_)
 obtain ⟨s',Qg,h1,h2,h3⟩:=hh
 cases e with
 | normal=>exact h1 Z z Qg a' w' h2 h3
 | exit id=>exact ⟨s',Qg,h1,h2,h3⟩
 | goto l=>exact ⟨s',Qg,h1,h2,h3⟩
 | ret=>exact ⟨s',Qg,h1,h2,h3⟩
 | panic ch=>exact ⟨s',Qg,h1,h2,h3⟩
 | outgrown=>exact ⟨s',Qg,h1,h2,h3⟩
theorem Qbf {id:Nat} {c:Code} {s:St} (h:A P base nt w0 c (fun e s'=>match e with | .exit j=>if j=id then Q .normal s' else Q (.exit j) s' | e=>Q e s') s):A P base nt w0 (.block id c) Q s:=by
 intro Z z pl a w r b
 refine wp_block (wp_mono (h Z z pl a w r b) fun e a' w' hh=>?_)
 obtain ⟨s',Qg,h1,h2,h3⟩:=hh
 cases e with
 | exit j=>
  simp only[Exit.inBlock]
  dsimp only at h1
  split
  ·rename_i hj;rw[if_pos hj] at h1;exact ⟨s',Qg,h1,h2,h3⟩
  ·rename_i hj;rw[if_neg hj] at h1;exact ⟨s',Qg,h1,h2,h3⟩
 | normal=>exact ⟨s',Qg,h1,h2,h3⟩
 | goto l=>exact ⟨s',Qg,h1,h2,h3⟩
 | ret=>exact ⟨s',Qg,h1,h2,h3⟩
 | panic ch=>exact ⟨s',Qg,h1,h2,h3⟩
 | outgrown=>exact ⟨s',Qg,h1,h2,h3⟩
theorem Qbg {c:Code} {s:St} (h:A P base nt w0 c (fun e s'=>match e with | .goto _=>False | e=>Q e s') s):A P base nt w0 (.scope c) Q s:=by
 intro Z z pl a w r b
 refine wp_scope_straight (wp_mono (h Z z pl a w r b) fun e a' w' hh=>?_)
 obtain ⟨s',Qg,h1,h2,h3⟩:=hh
 cases e with
 | goto l=>exact h1.elim
 | normal=>exact ⟨s',Qg,h1,h2,h3⟩
 | exit j=>exact ⟨s',Qg,h1,h2,h3⟩
 | ret=>exact ⟨s',Qg,h1,h2,h3⟩
 | panic ch=>exact ⟨s',Qg,h1,h2,h3⟩
 | outgrown=>exact ⟨s',Qg,h1,h2,h3⟩
theorem Qbh {c:Code} {k:List Item} {s:St} (h:Qs P base nt w0 Q (.code c::.inScope::k) .normal s):Qs P base nt w0 Q (.code (.scope c)::k) .normal s:=by
 simp only[Qs] at h ⊢
 refine Qbg (h.mono fun e s' he=>?_)
 cases e <;> exact he
theorem Wc {a b:Code} {k:List Item} {s:St} (h:Qs P base nt w0 Q (.code a::.code b::k) .normal s):Qs P base nt w0 Q (.code (.seq a b)::k) .normal s:=by
 simp only[Qs] at h ⊢
 refine Qbe (h.mono fun e s' he=>?_)
 cases e <;> exact he
theorem Qbi {id:Nat} {c:Code} {k:List Item} {s:St} (h:Qs P base nt w0 Q (.code c::.inBlock id::k) .normal s):Qs P base nt w0 Q (.code (.block id c)::k) .normal s:=by
 simp only[Qs] at h ⊢
 refine Qbf (h.mono fun e s' he=>?_)
 cases e <;> exact he
theorem Qbj {c:Operand} {x y:Code} {k:List Item} {s:St} {t:Bool} (hc:Qp s.fr c=.raw (.bool t)) (h1:t=true→Qs P base nt w0 Q (.code x::k) .normal s) (h2:t=false→Qs P base nt w0 Q (.code y::k) .normal s) :
  Qs P base nt w0 Q (.code (.cond c x y)::k) .normal s:=by
 simp only[Qs] at h1 h2 ⊢
 intro Z z pl a w r b
 have he:=r.eval c
 rw[hc] at he
 have:=ZC he
 cases t
 ·exact wp_cond_false this (h2 rfl Z z pl a w r b)
 ·exact wp_cond_true this (h1 rfl Z z pl a w r b)
theorem EH {id:Nat}:∀ {k k':List Item} {s:St},Xm id k=some k'→Qs P base nt w0 Q k' .normal s→Qs P base nt w0 Q k (.exit id) s
 | [],k',s,h,_=>by simp [Xm] at h
 | .code c::k,k',s,h,hk=>by simp only[Xm] at h;simp only[Qs];exact EH h hk
 | .ops c::k,k',s,h,hk=>by simp only[Xm] at h;simp only[Qs];exact EH h hk
 | .inScope::k,k',s,h,hk=>by simp only[Xm] at h;simp only[Qs];exact EH h hk
 | .inBlock j::k,k',s,h,hk=>by
  simp only[Xm] at h
  simp only[Qs]
  by_cases hj:id=j
  ·subst hj
   simp at h
   subst h
   rw[if_pos rfl];exact hk
  ·have:Nat.beq id j=false:=by rw[← Bool.not_eq_true,Nat.beq_eq];exact hj
   rw[this] at h
   rw[if_neg hj]
   exact EH h hk
theorem EI {id:Nat}:∀ {k:List Item} {s:St},Xm id k=none→Q (.exit id) s→Qs P base nt w0 Q k (.exit id) s
 | [],s,_,hq=>hq
 | .code c::k,s,h,hq=>by simp only[Xm] at h;simp only[Qs];exact EI h hq
 | .ops c::k,s,h,hq=>by simp only[Xm] at h;simp only[Qs];exact EI h hq
 | .inScope::k,s,h,hq=>by simp only[Xm] at h;simp only[Qs];exact EI h hq
 | .inBlock j::k,s,h,hq=>by
  simp only[Xm] at h
  simp only[Qs]
  by_cases hj:id=j
  ·subst hj;simp at h
  ·have:Nat.beq id j=false:=by rw[← Bool.not_eq_true,Nat.beq_eq];exact hj
   rw[this] at h
   rw[if_neg hj]
   exact EI h hq
theorem EJ:∀ {k:List Item} {s:St},Q .ret s→Qs P base nt w0 Q k .ret s
 | [],_,hq=>hq
 | .code _::_,_,hq=>by simp only[Qs];exact EJ hq
 | .ops _::_,_,hq=>by simp only[Qs];exact EJ hq
 | .inBlock _::_,_,hq=>by simp only[Qs];exact EJ hq
 | .inScope::_,_,hq=>by simp only[Qs];exact EJ hq
theorem Yo {t:Nat} (h:Zi nt (some t)=true):t<nt:=by simpa [Zi,Nat.blt_eq] using h
theorem Rel.skip {s:St} {pl:List Pl} {a:Act} {w:World} (r:Rel Z base nt s pl a w) {t:Option Nat} (ht:Zi nt t=true):Rel Z base nt ⟨Q8 s.fr t (.raw Go.undef),s.h⟩ pl (a.put t Go.undef) w:=by
 cases t with
 | none=>exact r
 | some t=>exact r.to (Tr.ext r.o fun _ _=>rfl) r.o (Yo ht) (.cl _ _ (.raw _))
theorem Oi {o:Oper} {rest:List (Oper × G)} {s:St} {d:D} (h:Ki P base nt o s d) (ht:Zi nt o.dst=true) (hk:AG P base nt w0 rest Q ⟨Q8 s.fr o.dst d,s.h⟩):AG P base nt w0 ((o,none)::rest) Q s:=by
 intro Z z pl a w r b
 obtain ⟨v,hv,QS⟩:=h Z pl a w r
 simp only[Wb,K0,if_true]
 unfold Oper.wp
 rw[QS w fun _ _=>rfl]
 simp only[Oper.upon_value]
 refine hk Z z pl _ w ?_ b
 cases hd:o.dst with
 | none=>exact r
 | some t=>rw[hd] at ht;exact r.to (Tr.ext r.o fun _ _=>rfl) r.o (Yo ht) hv
theorem Ie (QI:base≤w0.w.heap.size) {o:Oper} {rest:List (Oper × G)} {s:St} {h':List Ob} {d:D} (h:XK P base nt o s h' d) (ht:Zi nt o.dst=true) (hk:AG P base nt w0 rest Q ⟨Q8 s.fr o.dst d,h'⟩):AG P base nt w0 ((o,none)::rest) Q s:=by
 intro Z z pl a w r b
 obtain ⟨v,w',Qg,QS,hT,hO,hv,hb,_⟩:=h Z pl a w r (Nat.le_trans QI b.1.size)
 have fin:∀ u,u=v→Rel Z base nt ⟨Q8 s.fr o.dst d,h'⟩ Qg (a.put o.dst u) w':=by
  rintro u rfl
  cases hd:o.dst with
  | none=>exact r.zd hT hO u
  | some t=>rw[hd] at ht;exact r.to hT hO (Yo ht) hv
 simp only[Wb,K0,if_true]
 unfold Oper.wp
 rcases QS with QS | ⟨QS,hu⟩
 ·rw[QS]
  simp only[Oper.upon_value]
  exact hk Z z Qg _ w' (fin v rfl) (b.step hT hb)
 ·rw[QS]
  simp only[Oper.upon_skip]
  exact hk Z z Qg _ w' (fin _ hu.symm) (b.step hT hb)
theorem Oj {tmps:Array Value} {t:Nat} {b:Bool} (h:tmps.getD t Go.undef=.bool b):B2 tmps t=some b:=by
 unfold B2
 rw[Array.getD_eq_getD_getElem?] at h
 cases hh:tmps[t]? with
 | none=>rw[hh] at h;simp [Go.undef] at h
 | some v=>rw[hh] at h;simp at h;rw[h]
theorem Ol {tmps:Array Value} {t:Nat} {vs:Array Value} (h:tmps.getD t Go.undef=.tuple vs):B2 tmps t=none:=by
 unfold B2
 rw[Array.getD_eq_getD_getElem?] at h
 cases hh:tmps[t]? with
 | none=>rfl
 | some v=>rw[hh] at h;simp at h;rw[h]
theorem Rel.tell {s:St} {pl:List Pl} {a:Act} {w:World} (r:Rel Z base nt s pl a w) {t:Nat} {d:D} (hd:Qv Z s.h pl w d (a.tmps.getD t Go.undef)):Rel Z base nt ⟨put s.fr t d,s.h⟩ pl a w:=
 ⟨r.nt,r.defers,fun u=>by
  rw[y0]
  by_cases h:u=t
  ·subst h;rw[if_pos rfl];exact hd
  ·rw[if_neg h];exact r.fr u,r.o⟩
theorem Qbk {o:Oper} {rest:List (Oper × G)} {s:St} {t:Nat} {b x:Bool} (hx:get s.fr t=.raw (.bool x)) (ht:Zi nt o.dst=true∨x=b)
  (h1:x=b→AG P base nt w0 ((o,none)::rest) Q ⟨put s.fr t (.raw (.bool b)),s.h⟩) (h2:x=(!b)→AG P base nt w0 rest Q ⟨Q8 (put s.fr t (.raw (.bool (!b)))) o.dst (.raw Go.undef),s.h⟩):AG P base nt w0 ((o,some (some t,b))::rest) Q s:=by
 intro Z z pl a w r bb
 have hr:=r.fr t
 rw[hx] at hr
 have hv:=ZC hr
 have hb:=Oj hv
 simp only[Wb,K0,hb]
 by_cases kx:x=b
 ·have:=h1 kx Z z pl a w (r.tell (by rw[hv,kx];exact .cl _ _ (.raw _))) bb
  simp only[Wb,K0,if_true] at this
  rw[if_pos (by simp [kx])]
  exact this
 ·have xX:x=(!b):=by cases x <;> cases b <;> simp_all
  rw[if_neg (by simp [kx])]
  have r2:Rel Z base nt ⟨put s.fr t (.raw (.bool (!b))),s.h⟩ pl a w:=r.tell (by rw[hv,xX];exact .cl _ _ (.raw _))
  exact h2 xX Z z pl _ w (r2.skip (ht.resolve_right kx)) bb
theorem US {o:Oper} {rest:List (Oper × G)} {s:St} {g:Option Nat × Bool} (hg:g.1=none∨∃ t vs,g.1=some t∧get s.fr t=.raw (.tuple vs)) (ht:Zi nt o.dst=true) (h:AG P base nt w0 rest Q ⟨Q8 s.fr o.dst (.raw Go.undef),s.h⟩):AG P base nt w0 ((o,some g)::rest) Q s:=by
 intro Z z pl a w r bb
 obtain ⟨g1,b⟩:=g
 have:K0 (some (g1,b)) a.tmps=false:=by
  rcases hg with rfl | ⟨t,vs,rfl,hx⟩
  ·rfl
  ·have hr:=r.fr t
   rw[hx] at hr
   simp [K0,Ol (ZC hr)]
 simp only[Wb,this,Bool.false_eq_true,if_false]
 exact h Z z pl _ w (r.skip ht) bb
theorem XP {X:Cx} (hX:WA P X) (QI:base≤w0.w.heap.size):∀ (n:Nat) (k:List Item) (s:St),(exec X nt n k s).holds P base nt w0 Q→Qs P base nt w0 Q k .normal s
 | 0,k,s,h=>by cases k <;> exact h
 | n+1,[],s,h=>h
 | n+1,.inBlock id::k,s,h=>by
  simp only[exec] at h
  simp only[Qs]
  exact XP hX QI n k s h
 | n+1,.inScope::k,s,h=>by
  simp only[exec] at h
  simp only[Qs]
  exact XP hX QI n k s h
 | n+1,.code c::k,s,h=>by
  cases c with
  | skip=>simp only[exec] at h;have:=XP hX QI n k s h;simp only[Qs];exact fun Z z pl a w r b=>wp_skip ⟨s,pl,this,r,b⟩
  | label l=>simp only[exec] at h;have:=XP hX QI n k s h;simp only[Qs];exact fun Z z pl a w r b=>wp_label ⟨s,pl,this,r,b⟩
  | seq x y=>simp only[exec] at h;exact Wc (XP hX QI n _ s h)
  | block id c=>simp only[exec] at h;exact Qbi (XP hX QI n _ s h)
  | cond c x y=>
   simp only[exec] at h
   split at h
   ·rename_i b hb
    exact Qbj hb (fun e=>XP hX QI n _ s (h.1 e)) (fun e=>XP hX QI n _ s (h.2 e))
   ·exact h.elim
  | exit id=>
   simp only[exec] at h
   simp only[Qs]
   split at h
   ·rename_i k' hk
    have:=EH hk (XP hX QI n k' s h)
    exact fun Z z pl a w r b=>wp_exit ⟨s,pl,this,r,b⟩
   ·rename_i hk
    have:=EI (P:=P) (base:=base) (nt:=nt) (w0:=w0) hk h
    exact fun Z z pl a w r b=>wp_exit ⟨s,pl,this,r,b⟩
  | ret=>
   simp only[exec] at h
   simp only[Qs]
   exact fun Z z pl a w r b=>wp_ret ⟨s,pl,EJ h,r,b⟩
  | region id ops dr=>
   simp only[exec] at h
   cases dr
   ·have:=XP hX QI n _ s h
    simp only[Qs] at this ⊢
    exact fun Z z pl a w r b=>Qbd (this Z z pl a w r b)
   ·exact h
  | loop c=>exact h
  | rangeFunc f ps a b=>exact h
  | scope b=>simp only[exec] at h;exact Qbh (XP hX QI n _ s h)
  | goto l=>exact h
  | refuse w=>exact h
 | n+1,.ops []::k,s,h=>by
  simp only[exec] at h
  simp only[Qs]
  have:=XP hX QI n k s h
  exact fun Z z pl a w r b=>⟨s,pl,this,r,b⟩
 | n+1,.ops ((o,g)::r)::k,s,h=>by
  have pr:∀ s',Zi nt o.dst=true∨True→(exec X nt n (.ops r::k) s').holds P base nt w0 Q→AG P base nt w0 r (Qs P base nt w0 Q k) s':=fun s' _ hh=>by
   have:=XP hX QI n (.ops r::k) s' hh
   simpa only [Qs] using this
  cases g with
  | none=>
   simp only[exec] at h
   simp only[Qs]
   split at h
   ·rename_i p d hp
    cases ht:Zi nt o.dst
    ·rw[ht] at h;exact h.elim
    ·rw[ht] at h
     exact Oi (UP hX hp h.1) ht (pr _ (.inl ht) h.2)
   ·split at h
    ·rename_i p h' d hp
     cases ht:Zi nt o.dst
     ·rw[ht] at h;exact h.elim
     ·rw[ht] at h
      exact Ie QI (UQ hX hp h.1) ht (pr _ (.inl ht) h.2)
    ·simpa only [Tree.holds,Qs] using h
  | some g=>
   obtain ⟨g1,b⟩:=g
   cases g1 with
   | none=>
    simp only[exec] at h
    simp only[Qs]
    cases ht:Zi nt o.dst
    ·rw[ht] at h;exact h.elim
    ·rw[ht] at h
     exact US (.inl rfl) ht (pr _ (.inl ht) h)
   | some t=>
    simp only[exec] at h
    simp only[Qs]
    split at h
    ·rename_i x hx
     simp only[Tree.holds,UR,beq_iff_eq,beq_eq_false_iff_ne,ne_eq] at h
     have h3:=fun e=>XP hX QI n _ _ (h.1 e)
     simp only[Qs] at h3
     refine Qbk hx ?_ h3 fun e=>?_
     ·by_cases kx:x=b
      ·exact .inr kx
      ·have:=h.2 kx
       cases ht:Zi nt o.dst
       ·rw[ht] at this;exact this.elim
       ·exact .inl rfl
     ·have:=h.2 (by rw[e];cases b <;> simp)
      cases ht:Zi nt o.dst
      ·rw[ht] at this;exact this.elim
      ·rw[ht] at this;exact pr _ (.inl ht) this
    ·rename_i vs hx
     cases ht:Zi nt o.dst
     ·rw[ht] at h;exact h.elim
     ·rw[ht] at h
      exact US (.inr ⟨t,_,rfl,hx⟩) ht (pr _ (.inl ht) h)
    ·exact h.elim
end
end Go.Fg
