/- Contracts and laws on the way to the statement. No conditions. -/
import Derived.Test.YtklmjinbhnoppaaGreatFgTurn
import Derived.Test.YtklmjinbhnoppaaGreatPB1
import Derived.Test.YtklmjinbhnoppaaGreatFgHeap
import Derived.Shelf.SlMaps.Clone
import Derived.Sort.AssemblyPlain
import Derived.Sort.LotD5
import Derived.Sort.Walk13a
set_option maxRecDepth 100000
set_option maxHeartbeats 16000000
set_option linter.unusedVariables false
set_option linter.unusedSimpArgs false
set_option linter.unusedSectionVars false
namespace Go.Fg.X
open Go.Proofs Go.Fg
open Go.Proofs.Tryz
@[go_sem] def kls (l:List Qj):D:=.imm 14 l.length (Qj.rows l)
theorem QlX (h:List Ob):QH prog 44 h [] (fun d h'=>d=.ptr (h.length+1) 0 0 0∧h'=h++[QG .i64 0 [],⟨.one,0,1,1,fun _=>[.mref h.length 0]⟩]):=by
 refine QX Qe 200 func44 rfl ntmps44 results44 rfl fun base w pl hb=>?_
 simp only[go_sem,simprocAttr,Qa]
structure Yu {α:Type} [Inhabited α] (enc:α→List D) (L:List α) (off:Nat) (row:Nat→List D):Prop where
 at_:∀i,i<L.length→row (off+i)=enc (L.getD i default)
 all:∀i,i<off+L.length→∃a,row i=enc a
def sb {α:Type} [Inhabited α] (sz:Nat) (enc:α→List D) (L:List α) (d:D) (h:List Ob):Prop:=∃g off row,d=.ref 0 g off L.length∧h=[⟨.arr,g,sz,off+L.length,row⟩]∧Yu enc L off row
theorem sb.flat {α:Type} [Inhabited α] {sz:Nat} {enc:α→List D} {L:List α} (hf:∀a,kp (enc a)=true):∀d h,sb sz enc L d h→d.flat=true∧∀o∈h,o.flat:=by
 rintro d h ⟨g,off,row,rfl,rfl,hr⟩
 refine⟨rfl,fun o ho i hi=>?_⟩
 simp at ho;subst ho
 obtain⟨a,ha⟩:=hr.all i hi
 show kp (row i)=true
 rw[ha];exact hf a
theorem Yu.nil {α:Type} [Inhabited α] {enc:α→List D} {row:Nat→List D}:Yu enc [] 0 row:=⟨fun i hi=>absurd hi (Nat.not_lt_zero i),fun i hi=>absurd hi (Nat.not_lt_zero i)⟩
theorem Yu.app {α:Type} [Inhabited α] {enc:α→List D} {L:List α} {off:Nat} {row:Nat→List D} (h:Yu enc L off row) (x:α) {r2:Nat→List D} (h2:r2 0=enc x):Yu enc (L++[x]) 0 (Jx L.length off row r2):=by
 have key:∀i,i<L.length+1→Jx L.length off row r2 i=enc ((L++[x]).getD i default):=fun i hi=>by
  by_cases GM:i<L.length
  ·rw[yL GM,h.at_ i GM];simp [GM,List.getElem?_append_left GM]
  ·have:i=L.length:=by omega
   subst this
   rw[w6 (Nat.le_refl _),Nat.sub_self,h2];simp
 exact⟨fun i hi=>by simp at hi;rw[Nat.zero_add];exact key i hi,fun i hi=>by simp at hi;exact⟨_,key i hi⟩⟩
theorem Yu.tail {α:Type} [Inhabited α] {enc:α→List D} {L:List α} {off:Nat} {row:Nat→List D} (h:Yu enc L off row) (QD:0<L.length):Yu enc L.tail (off+1) row:=by
 refine⟨fun i hi=>?_,fun i hi=>h.all i (by simp at hi;omega)⟩
 simp at hi
 rw[show off+1+i=off+(i+1) by omega,h.at_ (i+1) (by omega)]
 cases L with
 | nil=>simp at hi
 | cons a r=>simp
theorem Yu.upto {α:Type} [Inhabited α] {enc:α→List D} {L:List α} {off:Nat} {row:Nat→List D} (h:Yu enc L off row) {k:Nat} (hu:∀a,zl k (enc a)=true):∀i,i<off+L.length→zl k (row i)=true:=fun i hi=>by
 obtain⟨a,ha⟩:=h.all i hi
 rw[ha];exact hu a
end Go.Fg.X
namespace Go.Fg.X
open Go.Proofs Go.Fg
end Go.Fg.X
namespace Go.Fg.X
open Go.Proofs Go.Fg
end Go.Fg.X
namespace Go.Fg.X
open Go.Proofs Go.Fg
end Go.Fg.X
namespace Go.Fg.X
open Go.Proofs Go.Fg
open Go.Proofs.Tryz
structure Nc where
 a:Nat
 d:Nat
 b:Nat
instance:Inhabited Nc:=⟨⟨0,0,0⟩⟩
@[go_sem] def Nc.cells (c:Nc):List D:=[u64 c.a,u64 c.d,u64 c.b]
def Nc.rows (l:List Nc):Nat→List D:=fun i=>(l.getD i default).cells
@[go_sem] theorem Nc.v7 (l:List Nc) (i:Nat):Nc.rows l i=(l.getD i default).cells:=rfl
@[go_sem] def Vz (l:List Nc):D:=.imm 3 l.length (Nc.rows l)
@[go_sem] def wv (c:Nc):D:=.agg c.cells
def Nc.of (c:Nc):Int:=JZ c.a c.d c.b
def Nc.Lt (c:Nc):Prop:=c.a<18446744073709551616∧c.d<18446744073709551616∧c.b<18446744073709551616
def se (F:List Ob) (f nf:Nat) (QC:List D) (g:Nc→Nat):Prop:=∀(h:List Ob) (c:Nc),c.Lt→JR F h→QP prog f h (Z8 nf QC [wv c]) (fun d=>d=num (g c))
def zH (g:Nc→Nat) (s:Nat) (c:Nc):Nat:=if c.of=0 then s else s+g c
def wx (g:Nc→Nat) (l:List Nc):Nat:=l.foldl (zH g) 0
theorem NM {g:Nc→Nat} {M:Nat} (hg:∀c:Nc,c.Lt→g c≤M):∀{l:List Nc} {s:Nat},(∀c∈l,c.Lt)→l.foldl (zH g) s≤s+l.length*M
 | [],s,_=>by simp
 | c::l,s,h=>by
  have h1:=hg c (h c (by simp))
  have h2:=NM hg (l:=l) (s:=zH g s c) fun x hx=>h x (by simp [hx])
  have h3:zH g s c≤s+M:=by unfold zH;split<;>omega
  simp only[List.foldl_cons,List.length_cons,Nat.add_mul,Nat.one_mul]
  omega
def B7 (n:Nat):Ob:=⟨.one,0,2,1,fun _=>[u64 (n / 18446744073709551616),u64 (n % 18446744073709551616)]⟩
structure OvI (l:List Nc) (so:D) (g:Nc→Nat) (F:List Ob) (i:Nat) (s:St):Prop where
 ex:∃G:List Ob,s=⟨[(1,so),(4,.ptr F.length 0 0 0),(5,.ptr (F.length+1) 0 0 0),(8,Vz l),(9,Qb l.length),(10,Qb i)],F++(B7 0::B7 ((l.take i).foldl (zH g) 0)::G)⟩
theorem sf (h:List Ob) (l:List Nc) (hl:l.length<1048576) (hc:∀c∈l,c.Lt) (so:D) (f nf:Nat) (QC:List D) (hf:Qp prog f) (JY:Kb so=some (f,nf,QC)) (g:Nc→Nat) (sg:∀c:Nc,c.Lt→g c≤2 ^ 97)
  (hg:se (h.map Ob.ro) f nf QC g):QP prog 273 h [Vz l,so] (fun d=>d=num (wx g l)):=by
 refine Zi Qe 200 func273 rfl ntmps273 results273 rfl fun base w pl F hF QS hb=>?_
 simp only[go_sem,simprocAttr,Qa]
 refine Zv (OvI l so g F) l.length (s0:=⟨[(1,so),(4,.ptr F.length 0 0 0),(5,.ptr (F.length+1) 0 0 0),(8,Vz l),(9,Qb l.length),(10,Qb 0)],F++[B7 0,B7 0]⟩) (Qk.frame (by simp only[go_sem,simprocAttr])) ⟨[],rfl⟩ ?_
 rintro i s hi ⟨G,rfl⟩
 have Q3:=JX (show i<4611686018427387904 by omega)
 obtain⟨S,hS⟩:∃S,S=(l.take i).foldl (zH g) 0:=⟨_,rfl⟩
 have Sc:S≤2 ^ 117:=by
  have h1:=NM sg (l:=l.take i) (s:=0) fun x hx=>hc x (List.mem_of_mem_take hx)
  have h2:(l.take i).length≤1048576:=by simp;omega
  have h3:=Nat.mul_le_mul_right (2 ^ 97) h2
  rw[hS];omega
 rw[← hS]
 refine Qc hb ?_
 simp only[go_sem,simprocAttr,Qa]
 first|refine vT hi (fun Qn=>?_) (fun Qn=>?_)|refine vU hi (fun Qn=>?_) (fun Qn=>?_)
 ·obtain⟨c,Kf⟩:∃c,c=l.getD i default:=⟨_,rfl⟩
  have ZP:c.Lt:=hc c (by rw[Kf,List.getD_eq_getElem?_getD,List.getElem?_eq_getElem Qn];exact List.getElem_mem Qn)
  have ZJ:(l.take (i+1)).foldl (zH g) 0=zH g S c:=by
   rw[List.take_add_one,List.getElem?_eq_getElem Qn,Option.toList_some,List.foldl_append,hS,Kf,List.getD_eq_getElem?_getD,List.getElem?_eq_getElem Qn];rfl
  simp only[go_sem,simprocAttr,Qa,Qn,← Kf]
  refine QE hb DV rfl ?_ (Tq c.a c.d c.b) (Ql.flat rfl) rfl fun d h hR=>?_
  ·simp only[go_sem,simprocAttr,Qa]
  obtain⟨rfl,rfl⟩:=hR
  refine Qc hb ?_
  simp only[go_sem,simprocAttr,Qa]
  by_cases h0:c.of=0
  ·have FK:JZ c.a c.d c.b=0:=h0
   have Ji:zH g S c=S:=by rw[zH,if_pos h0]
   simp only[go_sem,simprocAttr,Qa,XO FK,bne]
   refine⟨Qn,_,Qk.frame (fr':=[(1,so),(4,.ptr F.length 0 0 0),(5,.ptr (F.length+1) 0 0 0),(8,Vz l),(9,Qb l.length),(10,Qb (i+1:Nat))]) (by simp only[go_sem,simprocAttr,Q3]),⟨_,by rw[ZJ,Ji]⟩⟩
  ·have FK:JZ c.a c.d c.b≠0:=h0
   have Ji:zH g S c=S+g c:=by rw[zH,if_neg h0]
   have hgc:=sg c ZP
   simp only[go_sem,simprocAttr,Qa,VG FK,bne]
   have si:=Hi S (g c) (by omega) (by omega)
   rw[Nat.mod_eq_of_lt (by omega:S+g c<2 ^ 128)]at si
   refine QA Qe hb 200 mixed [(0,true),(1,true),(2,true),(3,false),(4,false),(5,true),(6,true),(7,true),(8,false)] (by kernel_rfl) (by kernel_rfl) ?_
   simp only[go_sem,simprocAttr,Qa,B7]
   refine Z3 hb hf JY ?_ (hg _ c ZP (by rw[← hF];exact⟨_,rfl⟩)) rfl fun d2 hR=>?_
   ·simp only[go_sem,simprocAttr]
    exact wc _
   subst hR
   refine QF hb ?_
   simp only[go_sem,simprocAttr,Qa]
   refine Zt hb GD rfl ?_ si (Ql.flat rfl) rfl fun d h hR=>?_
   ·simp only[go_sem,simprocAttr,Qa]
   obtain⟨rfl,rfl⟩:=hR
   refine QF hb ?_
   simp only[go_sem,simprocAttr,Qa]
   refine⟨Qn,_,Qk.frame (fr':=[(1,so),(4,.ptr F.length 0 0 0),(5,.ptr (F.length+1) 0 0 0),(8,Vz l),(9,Qb l.length),(10,Qb (i+1:Nat))]) (by simp only[go_sem,simprocAttr,Q3]),⟨G++[⟨.one,0,3,1,fun _=>c.cells⟩],?_⟩⟩
   rw[ZJ,Ji]
   rfl
 ·subst Qn
  rw[List.take_length]at hS
  have e:wx g l=S:=hS.symm
  rw[e]
  refine Qc hb ?_
  simp only[go_sem,simprocAttr,Qa,B7]
  exact⟨_,rfl⟩
theorem QlZ (h:List Ob) (c:Nc) (hc:c.Lt):QP prog 276 h [wv c] (fun d=>d=num c.b):=by
 refine Zi Qe 200 func276 rfl ntmps276 results276 rfl fun base w pl F hF QS hb=>?_
 simp only[go_sem,simprocAttr,Qa]
 refine QE hb oO rfl ?_ (rQ c.b hc.2.2) (Ql.flat rfl) rfl fun d h hR=>?_
 ·simp only[go_sem,simprocAttr,Qa]
 obtain⟨rfl,rfl⟩:=hR
 refine Qc hb ?_
 simp only[go_sem,simprocAttr,Qa]
 exact⟨_,rfl⟩
theorem Ql0 (l:List Nc) (hl:l.length<1048576) (hc:∀c∈l,c.Lt):Q8 prog 231 [Vz l] (Ql (num (wx (fun c=>c.b) l))):=by
 refine Zb 0 Qe 200 func231 rfl ntmps231 results231 rfl fun base w hb=>?_
 simp only[go_sem,simprocAttr]
 refine QK hb oU rfl ?_ (sf _ l hl hc (.raw (.func (.func 276) ⟨[]⟩ ⟨[]⟩)) 276 0 [] Qjs rfl (fun c=>c.b) (fun c h=>by have:=h.2.2;omega) (fun h' c hc _=>QlZ h' c hc)) rfl fun d2 hR=>?_
 ·simp only[go_sem,simprocAttr]
 subst hR
 refine Qc hb ?_
 simp only[go_sem,simprocAttr]
theorem Ql1 (h:List Ob) (b1 t:Nat) (ht:t<18446744073709551616) (c:Nc) (h1:(h.map Ob.ro)[b1]? = some ⟨.KF,0,1,1,fun _=>[u64 t]⟩):QP prog 274 h [wv c,.ptr b1 0 0 0] (fun d=>d=num (qP c.a c.d c.b t)):=by
 refine Zi Qe 200 func274 rfl ntmps274 results274 rfl fun base w pl F hF QS hb=>?_
 rw[← hF]at h1
 have Qz:=Qd h1
 simp only[go_sem,simprocAttr,Qa,h1,Qz]
 refine QE hb Qjr rfl ?_ (QlS c.a c.d c.b t ht) (Ql.flat rfl) rfl fun d h hR=>?_
 ·simp only[go_sem,simprocAttr,Qa,h1,Qz]
 obtain⟨rfl,rfl⟩:=hR
 refine Qc hb ?_
 simp only[go_sem,simprocAttr,Qa,h1,Qz]
 exact⟨_,rfl⟩
theorem Ql2 (l:List Nc) (t:Nat) (ht:t<18446744073709551616) (hl:l.length<1048576) (hc:∀c∈l,c.Lt):Q8 prog 230 [Vz l,u64 t] (Ql (num (wx (fun c=>qP c.a c.d c.b t) l))):=by
 have hM:∀c:Nc,c.Lt→qP c.a c.d c.b t≤2 ^ 97:=fun c _=>by have:=QlR c.a c.d c.b t ht;omega
 refine Zb 0 Qe 200 func230 rfl ntmps230 results230 rfl fun base w hb=>?_
 simp only[go_sem,simprocAttr]
 have hT:se (([⟨.one,0,1,1,fun _=>[u64 t]⟩,B7 0]:List Ob).map Ob.ro) 274 0 [.ptr 0 0 0 0] (fun c=>qP c.a c.d c.b t):=fun h' c hc hx=>by
  obtain⟨g,rfl⟩:=hx
  exact Ql1 _ 0 t ht c rfl
 refine QK hb oU rfl ?_ (sf _ l hl hc (.clo 274 0 [.ptr 0 0 0 0]) 274 0 [.ptr 0 0 0 0] Qjq rfl (fun c=>qP c.a c.d c.b t) hM hT) rfl fun d2 hR=>?_
 ·simp only[go_sem,simprocAttr]
 subst hR
 refine Qc hb ?_
 simp only[go_sem,simprocAttr]
@[go_sem] theorem Ln.Qum (l:Ln):l.cells=[u64 l.x,u64 (l.y / 18446744073709551616),u64 (l.y % 18446744073709551616),u64 l.m]:=rfl
def qQ (c:Nc) (x y:Nat):Rn:=
 if c.of=2∨c.of=4 then ⟨⟨0,0,0⟩,⟨x,y,c.b⟩,false⟩
 else if c.of=3 then ⟨⟨x,y,c.a⟩,⟨x,(y+(c.a - c.b)*c.d) % 2 ^ 128,c.b⟩,true⟩
 else ⟨⟨0,0,0⟩,⟨x,y,0⟩,false⟩
def Kg (c:Nc) (x y:Nat):Rn:=
 if c.of=4 then ⟨⟨0,0,0⟩,⟨(x+c.d) % 18446744073709551616,y,c.b⟩,false⟩ else qQ c x y
theorem Ln.Yv:(⟨0,0,0⟩:Ln).Ok:=⟨by decide,by decide,by decide⟩
theorem NN {c:Nc} (hc:c.Lt) {x y:Nat} (hx:x<18446744073709551616) (hy:y<2 ^ 128):(qQ c x y).Ok:=by
 unfold qQ
 split
 ·exact⟨Ln.Yv,hx,hy,hc.2.2⟩
 ·split
  ·exact⟨⟨hx,hy,hc.1⟩,hx,Nat.mod_lt _ (by decide),hc.2.2⟩
  ·exact⟨Ln.Yv,hx,hy,(by decide:(0:Nat)<18446744073709551616)⟩
theorem B8 {c:Nc} (hc:c.Lt) {x y:Nat} (hx:x<18446744073709551616) (hy:y<2 ^ 128):(Kg c x y).Ok:=by
 unfold Kg
 split
 ·exact⟨Ln.Yv,Nat.mod_lt _ (by decide),hy,hc.2.2⟩
 ·exact NN hc hx hy
theorem Ts {c:Nc} (e:c.of=2∨c.of=4) (x y:Nat):qQ c x y=⟨⟨0,0,0⟩,⟨x,y,c.b⟩,false⟩:=if_pos e
theorem Ql3 {c:Nc} (e:c.of=3) (x y:Nat):qQ c x y=⟨⟨x,y,c.a⟩,⟨x,(y+(c.a - c.b)*c.d) % 2 ^ 128,c.b⟩,true⟩:=by unfold qQ;rw[if_neg (by omega),if_pos e]
theorem sj {c:Nc} (e:c.of=0∨c.of=1) (x y:Nat):qQ c x y=⟨⟨0,0,0⟩,⟨x,y,0⟩,false⟩:=by unfold qQ;rw[if_neg (by omega),if_neg (by omega)]
theorem ss (c:Nc) (hc:c.Lt) (x y:Nat) (hx:x<18446744073709551616) (hy:y<2 ^ 128):Q8 prog 181 [wv c,u64 x,num y] (Ql (.agg (qQ c x y).cells)):=by
 refine Zb 0 Qe 200 func181 rfl ntmps181 results181 rfl fun base w hb=>?_
 simp only[go_sem,simprocAttr]
 refine QE hb xH rfl ?_ (Hl c.a c.d c.b) (Ql.flat rfl) rfl fun d h hR=>?_
 ·simp only[go_sem,simprocAttr]
 obtain⟨rfl,rfl⟩:=hR
 refine Qc hb ?_
 simp only[go_sem,simprocAttr]
 rcases QlQ c.a c.d c.b with e|e|e|e|e
 ·rw[sj (.inl e)]
  simp only[go_sem,simprocAttr,e]
 ·rw[sj (.inr e)]
  simp only[go_sem,simprocAttr,e]
 ·rw[Ts (.inl e)]
  simp only[go_sem,simprocAttr,e]
 ·have ZZ:c.b<c.a∧c.a≤4294967295:=by
   unfold JZ at e
   repeat' (split at e)
   all_goals first|omega|contradiction
  have e1:=No c.a c.b (by omega) (by omega)
  rw[Ql3 e]
  simp only[go_sem,simprocAttr,e,e1]
  refine QA Qe hb 200 mixed [(0,true),(1,true),(2,true),(3,true),(4,true),(5,true),(6,true),(7,true),(8,false),(9,false),(10,true),(11,true),(12,true),(13,false),(14,false),(15,true)] (by kernel_rfl) (by kernel_rfl) ?_
  simp only[go_sem,simprocAttr,e1]
  refine Zt hb kG rfl ?_ (kX (c.a - c.b) c.d (by omega) hc.2.1) (Ql.flat rfl) rfl fun d h hR=>?_
  ·simp only[go_sem,simprocAttr,e1]
  obtain⟨rfl,rfl⟩:=hR
  refine QF hb ?_
  simp only[go_sem,simprocAttr,e1]
  refine Zt hb GD rfl ?_ (Hi y ((c.a - c.b)*c.d) hy (rW (by omega) hc.2.1)) (Ql.flat rfl) rfl fun d h hR=>?_
  ·simp only[go_sem,simprocAttr,e1]
  obtain⟨rfl,rfl⟩:=hR
  refine QF hb ?_
  simp only[go_sem,simprocAttr,e1]
 ·rw[Ts (.inr e)]
  simp only[go_sem,simprocAttr,e]
theorem Tt (c:Nc) (hc:c.Lt) (x y:Nat) (hx:x<18446744073709551616) (hy:y<2 ^ 128):Q8 prog 180 [wv c,u64 x,num y] (Ql (.agg (Kg c x y).cells)):=by
 refine Zb 0 Qe 200 func180 rfl ntmps180 results180 rfl fun base w hb=>?_
 simp only[go_sem,simprocAttr]
 refine QE hb oD rfl ?_ (ss c hc x y hx hy) (Ql.flat rfl) rfl fun d h hR=>?_
 ·simp only[go_sem,simprocAttr]
 obtain⟨rfl,rfl⟩:=hR
 refine Qc hb ?_
 simp only[go_sem,simprocAttr]
 refine QE hb xH rfl ?_ (Hl c.a c.d c.b) (Ql.flat rfl) rfl fun d h hR=>?_
 ·simp only[go_sem,simprocAttr]
 obtain⟨rfl,rfl⟩:=hR
 refine Qc hb ?_
 simp only[go_sem,simprocAttr]
 by_cases e:c.of=4
 ·have e0:JZ c.a c.d c.b=4:=e
  rw[Ts (.inr e),show Kg c x y=⟨⟨0,0,0⟩,⟨(x+c.d) % 18446744073709551616,y,c.b⟩,false⟩ from if_pos e]
  simp only[go_sem,simprocAttr,e0,BV]
 ·have e0:(JZ c.a c.d c.b==4)=false:=by simpa [Nc.of] using e
  rw[show Kg c x y=qQ c x y from if_neg e]
  simp only[go_sem,simprocAttr,e0]
def Xa (a b:Rn):Rn:=⟨if a.b then x6 a.f b.f else ⟨0,0,0⟩,x6 a.t b.t,a.b⟩
theorem Tu {a b:Rn} (ha:a.Ok) (hb:b.Ok):(Xa a b).Ok:=by
 refine⟨?_,r7 ha.t hb.t⟩
 unfold Xa
 dsimp only
 split
 ·exact r7 ha.f hb.f
 ·exact Ln.Yv
theorem NO (a b:Rn) (ha:a.Ok) (ZZ:b.Ok):Q8 prog 179 [.agg a.cells,.agg b.cells] (Ql (.agg (Xa a b).cells)):=by
 refine Zb 0 Qe 200 func179 rfl ntmps179 results179 rfl fun base w hb=>?_
 simp only[go_sem,simprocAttr]
 refine QA Qe hb 200 mixed [(0,true),(1,true),(2,true),(3,true),(5,true),(6,true),(4,false),(7,true),(8,false),(9,false)] (by kernel_rfl) (by kernel_rfl) ?_
 simp only[go_sem,simprocAttr]
 refine Zt hb oJ rfl ?_ (r8 a.t b.t ha.t ZZ.t) (Ql.flat rfl) rfl fun d h hR=>?_
 ·simp only[go_sem,simprocAttr]
 obtain⟨rfl,rfl⟩:=hR
 refine QF hb ?_
 simp only[go_sem,simprocAttr]
 cases h:a.b with
 | true=>
  rw[show Xa a b=⟨x6 a.f b.f,x6 a.t b.t,true⟩ from by unfold Xa;rw[h];rfl]
  simp only[go_sem,simprocAttr,h]
  refine QE hb oJ rfl ?_ (r8 a.f b.f ha.f ZZ.f) (Ql.flat rfl) rfl fun d h hR=>?_
  ·simp only[go_sem,simprocAttr]
  obtain⟨rfl,rfl⟩:=hR
  refine Qc hb ?_
  simp only[go_sem,simprocAttr]
 | false=>
  rw[show Xa a b=⟨⟨0,0,0⟩,x6 a.t b.t,false⟩ from by unfold Xa;rw[h];rfl]
  simp only[go_sem,simprocAttr,h]
def Xw (r:Rn) (w:Nat):Nat:=if r.b then max (kY r.f w) (kY r.t w) else kY r.t w
theorem Hm (r:Rn) (w:Nat):Xw r w≤never:=by
 have:=rZ r.f w
 have:=rZ r.t w
 unfold Xw;split<;>omega
theorem Ql4 (r:Rn):Q8 prog 170 [.agg r.cells] (Ql (.agg ((if r.b then r.f else r.t).cells++r.t.cells))):=by
 refine Zb 0 Qe 200 func170 rfl ntmps170 results170 rfl fun base w hb=>?_
 simp only[go_sem,simprocAttr]
 cases h:r.b with
 | true=>
  simp only[go_sem,simprocAttr,h]
 | false=>
  simp only[go_sem,simprocAttr,h]
theorem jA (a:Nat):max (0:Int) (a:Int)=(a:Int):=by omega
theorem NP (r:Rn) (hr:r.Ok) (v:Nat) (hv:v<2 ^ 128):Q8 prog 109 [.agg r.cells,num v] (Ql (u64 (Xw r v))):=by
 have m1:∀a b:Nat,max (a:Int) (b:Int)=((max a b:Nat):Int):=fun a b=>by omega
 refine Zb 0 Qe 200 func109 rfl ntmps109 results109 rfl fun base w hb=>?_
 simp only[go_sem,simprocAttr]
 refine QE hb Qi2 rfl ?_ (Ql4 r) (Ql.flat rfl) rfl fun d h hR=>?_
 ·simp only[go_sem,simprocAttr]
 obtain⟨rfl,rfl⟩:=hR
 refine Qc hb ?_
 simp only[go_sem,simprocAttr]
 cases h:r.b with
 | true=>
  rw[show Xw r v=max (kY r.f v) (kY r.t v) from by unfold Xw;rw[h];rfl]
  simp only[go_sem,simprocAttr,h]
  refine wi 2 ?_
  refine Qc hb ?_
  simp only[go_sem,simprocAttr]
  refine QE hb MN rfl ?_ (NL r.f hr.f v hv) (Ql.flat rfl) rfl fun d h hR=>?_
  ·simp only[go_sem,simprocAttr,jA]
  obtain⟨rfl,rfl⟩:=hR
  refine Qc hb ?_
  simp only[go_sem,simprocAttr,jA]
  refine Qc hb ?_
  simp only[go_sem,simprocAttr,jA]
  refine Qc hb ?_
  simp only[go_sem,simprocAttr,jA]
  refine QE hb MN rfl ?_ (NL r.t hr.t v hv) (Ql.flat rfl) rfl fun d h hR=>?_
  ·simp only[go_sem,simprocAttr,jA,m1]
  obtain⟨rfl,rfl⟩:=hR
  refine Qc hb ?_
  simp only[go_sem,simprocAttr,jA,m1]
  refine Qc hb ?_
  simp only[go_sem,simprocAttr,m1]
  refine Qc hb ?_
  simp only[go_sem,simprocAttr,m1]
 | false=>
  rw[show Xw r v=max (kY r.t v) (kY r.t v) from by unfold Xw;rw[h];simp]
  simp only[go_sem,simprocAttr,h]
  refine wi 2 ?_
  refine Qc hb ?_
  simp only[go_sem,simprocAttr]
  refine QE hb MN rfl ?_ (NL r.t hr.t v hv) (Ql.flat rfl) rfl fun d h hR=>?_
  ·simp only[go_sem,simprocAttr,jA]
  obtain⟨rfl,rfl⟩:=hR
  refine Qc hb ?_
  simp only[go_sem,simprocAttr,jA]
  refine Qc hb ?_
  simp only[go_sem,simprocAttr,jA]
  refine Qc hb ?_
  simp only[go_sem,simprocAttr,jA]
  refine QE hb MN rfl ?_ (NL r.t hr.t v hv) (Ql.flat rfl) rfl fun d h hR=>?_
  ·simp only[go_sem,simprocAttr,jA,m1]
  obtain⟨rfl,rfl⟩:=hR
  refine Qc hb ?_
  simp only[go_sem,simprocAttr,jA,m1]
  refine Qc hb ?_
  simp only[go_sem,simprocAttr,m1]
  refine Qc hb ?_
  simp only[go_sem,simprocAttr,m1]
def Vf (n:Nat):Nat:=n % 18446744073709551616
theorem B9 (n:Nat):Vf n<18446744073709551616:=Nat.mod_lt _ (by decide)
theorem su (a b:Nat):IntKind.u64.wrap ((a:Int)+(b:Int))=((Vf (a+b):Nat):Int):=BV a b
structure Du where
 has:Bool
 dl:Rn
 rd:Rn
 ZL:Nat
 VM:Nat
 dead:Nat
deriving DecidableEq
instance:Inhabited Du:=⟨⟨false,default,default,0,0,0⟩⟩
structure Du.Ok (d:Du):Prop where
 dl:d.dl.Ok
 rd:d.rd.Ok
 ZL:d.ZL<18446744073709551616
 VM:d.VM≤never
 dead:d.dead≤never
@[go_sem] def Du.cells (d:Du):List D:=[QN d.has,u64 d.dl.f.x,u64 (d.dl.f.y / 18446744073709551616),u64 (d.dl.f.y % 18446744073709551616),u64 d.dl.f.m,u64 d.dl.t.x,u64 (d.dl.t.y / 18446744073709551616),u64 (d.dl.t.y % 18446744073709551616),u64 d.dl.t.m,QN d.dl.b,
 u64 d.rd.f.x,u64 (d.rd.f.y / 18446744073709551616),u64 (d.rd.f.y % 18446744073709551616),u64 d.rd.f.m,u64 d.rd.t.x,u64 (d.rd.t.y / 18446744073709551616),u64 (d.rd.t.y % 18446744073709551616),u64 d.rd.t.m,QN d.rd.b,u64 d.ZL,u64 d.VM,u64 d.dead]
def kZ (l:Du) (head:Int):Du:=
 if 0<head then ⟨l.has,l.dl,l.rd,l.ZL,Xw l.rd (l.ZL*65536),Xw l.dl (Vf (l.ZL+head.toNat)*65536)⟩ else ⟨l.has,l.dl,l.rd,l.ZL,never,never⟩
theorem Tv {l:Du} (h1:l.dl.Ok) (h2:l.rd.Ok) (h3:l.ZL<18446744073709551616) (head:Int):(kZ l head).Ok:=by
 unfold kZ
 split
 ·exact⟨h1,h2,h3,Hm _ _,Hm _ _⟩
 ·exact⟨h1,h2,h3,Nat.le_refl _,Nat.le_refl _⟩
theorem NQ (n:Nat) (hn:n<18446744073709551616):Q8 prog 178 [u64 n] (Ql (num (n*65536))):=by
 refine Zb 0 Qe 200 func178 rfl ntmps178 results178 rfl fun base w hb=>?_
 simp only[go_sem,simprocAttr]
 refine QE hb kG rfl ?_ (kX n 65536 hn (by decide)) (Ql.flat rfl) rfl fun d h hR=>?_
 ·simp only[go_sem,simprocAttr]
 obtain⟨rfl,rfl⟩:=hR
 refine Qc hb ?_
 simp only[go_sem,simprocAttr]
theorem Ca {n:Int} (h1:0≤n) (h2:n<18446744073709551616):IntKind.u64.wrap n=((n.toNat:Nat):Int):=by rw[IntKind.wrap_u64];omega
theorem Tw (l:Du) (h1:l.dl.Ok) (h2:l.rd.Ok) (h3:l.ZL<18446744073709551616) (head:Int) (hh:head<9223372036854775808):Q8 prog 173 [.agg l.cells,Qb head] (Ql (.agg (kZ l head).cells)):=by
 have b1:∀n:Nat,n<18446744073709551616→n*65536<2 ^ 128:=fun n hn=>by omega
 by_cases h:0<head
 ·have d1:=decide_eq_true h
  have e1:=Ca (n:=head) (by omega) (by omega)
  rw[show kZ l head=⟨l.has,l.dl,l.rd,l.ZL,Xw l.rd (l.ZL*65536),Xw l.dl (Vf (l.ZL+head.toNat)*65536)⟩ from if_pos h]
  refine Zb 0 Qe 200 func173 rfl ntmps173 results173 rfl fun base w hb=>?_
  simp only[go_sem,simprocAttr]
  simp only[go_sem,simprocAttr,d1]
  refine QA Qe hb 200 mixed [(0,true),(1,true),(2,true),(3,true),(4,false),(5,false),(6,true),(7,false)] (by kernel_rfl) (by kernel_rfl) ?_
  simp only[go_sem,simprocAttr]
  refine Zt hb MP rfl ?_ (NQ l.ZL h3) (Ql.flat rfl) rfl fun d h hR=>?_
  ·simp only[go_sem,simprocAttr]
  obtain⟨rfl,rfl⟩:=hR
  refine QF hb ?_
  simp only[go_sem,simprocAttr]
  refine Zt hb ML rfl ?_ (NP l.rd h2 (l.ZL*65536) (b1 _ h3)) (Ql.flat rfl) rfl fun d h hR=>?_
  ·simp only[go_sem,simprocAttr]
  obtain⟨rfl,rfl⟩:=hR
  refine QF hb ?_
  simp only[go_sem,simprocAttr]
  refine QA Qe hb 200 mixed [(0,true),(1,true),(2,true),(3,true),(4,true),(5,true),(6,true),(7,false),(8,false),(9,true),(10,false)] (by kernel_rfl) (by kernel_rfl) ?_
  simp only[go_sem,simprocAttr,e1,su]
  refine Zt hb MP rfl ?_ (NQ (Vf (l.ZL+head.toNat)) (B9 _)) (Ql.flat rfl) rfl fun d h hR=>?_
  ·simp only[go_sem,simprocAttr]
  obtain⟨rfl,rfl⟩:=hR
  refine QF hb ?_
  simp only[go_sem,simprocAttr]
  refine Zt hb ML rfl ?_ (NP l.dl h1 (Vf (l.ZL+head.toNat)*65536) (b1 _ (B9 _))) (Ql.flat rfl) rfl fun d h hR=>?_
  ·simp only[go_sem,simprocAttr]
  obtain⟨rfl,rfl⟩:=hR
  refine QF hb ?_
  simp only[go_sem,simprocAttr]
 ·have d1:=decide_eq_false h
  rw[show kZ l head=⟨l.has,l.dl,l.rd,l.ZL,never,never⟩ from if_neg h]
  refine Zb 0 Qe 200 func173 rfl ntmps173 results173 rfl fun base w hb=>?_
  simp only[go_sem,simprocAttr]
  simp only[go_sem,simprocAttr,d1]
  rfl
def NR (l:Du) (ZU head:Int):Du:=kZ { l with ZL:=Vf (l.ZL+ZU.toNat) } head
theorem Ql5 (l:Du) (h1:l.dl.Ok) (h2:l.rd.Ok) (h3:l.ZL<18446744073709551616) (ZU head:Int) (Kp:0≤ZU) (hs:ZU<9223372036854775808) (hh:head<9223372036854775808):Q8 prog 112 [.agg l.cells,Qb ZU,Qb head] (Ql (.agg (NR l ZU head).cells)):=by
 have e0:max ZU 0=ZU:=by omega
 have e1:=Ca (n:=ZU) Kp (by omega)
 refine Zb 0 Qe 200 func112 rfl ntmps112 results112 rfl fun base w hb=>?_
 simp only[go_sem,simprocAttr]
 simp only[go_sem,simprocAttr,e0,e1,su]
 refine QE hb RI rfl ?_ (Tw { l with ZL:=Vf (l.ZL+ZU.toNat) } h1 h2 (B9 _) head hh) (Ql.flat rfl) rfl fun d h hR=>?_
 ·simp only[go_sem,simprocAttr]
 obtain⟨rfl,rfl⟩:=hR
 refine Qc hb ?_
 simp only[go_sem,simprocAttr]
 rfl
theorem Ql6 (l:Du) (h1:l.dl.Ok) (h2:l.rd.Ok) (h3:l.ZL<18446744073709551616) (head:Int) (hh:head<9223372036854775808):Q8 prog 114 [.agg l.cells,Qb head] (Ql (.agg (kZ l head).cells)):=by
 refine Zb 0 Qe 200 func114 rfl ntmps114 results114 rfl fun base w hb=>?_
 simp only[go_sem,simprocAttr]
 refine QE hb RI rfl ?_ (Tw l h1 h2 h3 head hh) (Ql.flat rfl) rfl fun d h hR=>?_
 ·simp only[go_sem,simprocAttr]
 obtain⟨rfl,rfl⟩:=hR
 refine Qc hb ?_
 simp only[go_sem,simprocAttr]
structure Qu where
 l:List Pk
 ci:Nat
 co:Nat
 cd:Nat
 bi:Nat
 bo:Nat
 bd:Nat
instance:Inhabited Qu:=⟨⟨[],0,0,0,0,0,0⟩⟩
def VA:List Pk→Nat
 | []=>0
 | p::l=>p.len.toNat+VA l
theorem Ql7 (l m:List Pk):VA (l++m)=VA l+VA m:=by
 induction l with
 | nil=>simp [VA]
 | cons p l ih=>simp only[List.cons_append,VA,ih];omega
def ED (p:Pk):Prop:=1≤p.len∧p.len≤16384
theorem sv {l:List Pk} (h:∀p∈l,ED p):VA l≤16384*l.length:=by
 induction l with
 | nil=>simp [VA]
 | cons p l ih=>
  have h1:=h p (by simp)
  have h2:=ih fun q hq=>h q (by simp [hq])
  unfold ED at h1
  simp only[VA,List.length_cons]
  omega
@[go_sem] def Qu.Hn (q:Qu):List D:=[u64 q.ci,u64 q.co,u64 q.cd,u64 q.bi,u64 q.bo,u64 q.bd]
def Xb (Q9 room:Int) (q:Qu) (p:Pk):Bool:=decide (room<VA q.l+p.len) || decide ((q.l.length:Int)=Q9)
def Kh (Q9 room:Int) (q:Qu) (p:Pk):Qu:=
 if Xb Q9 room q p then { q with cd:=Vf (q.cd+1),bd:=Vf (q.bd+p.len.toNat) }
 else { q with l:=q.l++[p],ci:=Vf (q.ci+1),bi:=Vf (q.bi+p.len.toNat) }
def Vg (q:Qu):Qu:={ q with l:=q.l.tail,co:=Vf (q.co+1),bo:=Vf (q.bo+(q.l.headD default).len.toNat) }
def jB (q:Qu):Int:=match q.l with|[]=>0|p::_=>p.len
@[go_sem] def EE (r:Nat) (room:Int) (q:Qu):Ob:=⟨.one,0,9,1,fun _=>[.ptr r 0 0 0,Qb room,Qb (VA q.l:Nat),u64 q.ci,u64 q.co,u64 q.cd,u64 q.bi,u64 q.bo,u64 q.bd]⟩
structure Tx (S:Nat→Prop) (h:List Ob) (p r Q9:Nat) (room:Int) (q:Qu):Prop where
 o:h[p]? = some (EE r room q)
 ring:Ys (fun l=>S l∧l≠p) h r Q9 q.l
 rp:r≠p
 sp:S p
 lens:∀x∈q.l,ED x
 r0:0≤room
 r1:room≤1048576
def Y6 (S:Nat→Prop) (h:List Ob) (p Q9:Nat) (room:Int) (q:Qu):Prop:=∃r,Tx S h p r Q9 room q
theorem Ys.step {S S':Nat→Prop} {h h':List Ob} {r room:Nat} {L:List Pk} (e:∀l,l<h.length→S l→S' l∧h'[l]? = h[l]?):Ys S h r room L→Ys S' h' r room L:=fun⟨a,f,row,T⟩=>
 ⟨a,f,row,((e _ (Qd T.o) T.sr).2).trans T.o,((e _ (Qd T.ao) T.sa).2).trans T.ao,T.ra,T.fl,T.len,T.YZ,T.rows,T.lens,(e _ (Qd T.o) T.sr).1,(e _ (Qd T.ao) T.sa).1⟩
theorem Ys.sw {S:Nat→Prop} {h:List Ob} {r room:Nat} {L:List Pk}:Ys S h r room L→L.length≤room∧room≤64:=fun⟨a,f,row,T⟩=>⟨T.len,T.YZ⟩
theorem Y6.step {S S':Nat→Prop} {h h':List Ob} {p Q9:Nat} {room:Int} {q:Qu} (e:∀l,l<h.length→S l→S' l∧h'[l]? = h[l]?):Y6 S h p Q9 room q→Y6 S' h' p Q9 room q:=fun⟨r,Q⟩=>
 ⟨r,((e _ (Qd Q.o) Q.sp).2).trans Q.o,Q.ring.step fun l hl ⟨h1,h2⟩=>⟨⟨(e l hl h1).1,h2⟩,(e l hl h1).2⟩,Q.rp,(e _ (Qd Q.o) Q.sp).1,Q.lens,Q.r0,Q.r1⟩
structure Ql8 (h:List Ob) (p r Q9:Nat) (room:Int) (q:Qu):Prop where
 o:(h.map Ob.ro)[p]? = some (EE r room q).ro
 ring:Ez h r Q9 q.l
def AI (h:List Ob) (p Q9:Nat) (room:Int) (q:Qu):Prop:=∃r,Ql8 h p r Q9 room q
theorem Y6.toR {S:Nat→Prop} {h:List Ob} {p Q9:Nat} {room:Int} {q:Qu}:Y6 S h p Q9 room q→AI h p Q9 room q:=fun⟨r,Q⟩=>⟨r,ZA Q.o,Q.ring.toR⟩
theorem AI.more {h h':List Ob} {p Q9:Nat} {room:Int} {q:Qu} (e:∀(l:Nat) (o:Ob),(h.map Ob.ro)[l]? = some o→(h'.map Ob.ro)[l]? = some o):AI h p Q9 room q→AI h' p Q9 room q:=fun⟨r,Q⟩=>⟨r,e _ _ Q.o,Q.ring.more e⟩
section
variable {h:List Ob} {p Q9:Nat} {room:Int} {q:Qu} (Q:AI h p Q9 room q)
include Q
theorem Cb:QP prog 41 h [.ptr p 0 0 0] (fun d=>d=Qb q.l.length):=by
 obtain⟨r,ho,hr⟩:=Q
 refine Zi Qe 200 func41 rfl ntmps41 results41 rfl fun base w pl F hF QS hb=>?_
 rw[← hF]at ho
 have Qf:=Qd ho
 simp only[go_sem,simprocAttr,Qa,ho,Qf]
 obtain⟨a,f,row,T⟩:=hr
 refine QK hb QiI rfl ?_ (Qly (T.more (Jk hF))) rfl fun d hR=>?_
 ·simp only[go_sem,simprocAttr,Qa,ho,Qf]
 subst hR
 refine Qc hb ?_
 simp only[go_sem,simprocAttr,Qa,ho,Qf]
 all_goals first|exact⟨_,rfl,rfl⟩|exact⟨_,rfl⟩|rfl|exact⟨[],(List.append_nil _).symm⟩|exact⟨[],(List.append_nil _).symm,rfl⟩
theorem Ql9:QP prog 65 h [.ptr p 0 0 0] (fun d=>d=.agg q.Hn):=by
 obtain⟨r,ho,hr⟩:=Q
 refine Zi Qe 200 func65 rfl ntmps65 results65 rfl fun base w pl F hF QS hb=>?_
 rw[← hF]at ho
 have Qf:=Qd ho
 simp only[go_sem,simprocAttr,Qa,ho,Qf]
 all_goals first|exact⟨_,rfl,rfl⟩|exact⟨_,rfl⟩|rfl|exact⟨[],(List.append_nil _).symm⟩|exact⟨[],(List.append_nil _).symm,rfl⟩
theorem sx:QP prog 113 h [.ptr p 0 0 0] (fun d=>d=Qb (jB q)):=by
 have Q0:=Q
 obtain⟨r,ho,hr⟩:=Q
 obtain⟨a,f,row,T⟩:=hr
 unfold jB
 cases hl:q.l with
 | nil=>
  refine Zi Qe 200 func113 rfl ntmps113 results113 rfl fun base w pl F hF QS hb=>?_
  rw[← hF]at ho
  have Qf:=Qd ho
  simp only[go_sem,simprocAttr,Qa,ho,Qf]
  refine QK hb Ag rfl ?_ (Cb (Q0.more (Jk hF))) rfl fun d hR=>?_
  ·simp only[go_sem,simprocAttr,Qa,ho,Qf,hl]
  subst hR
  refine Qc hb ?_
  simp only[go_sem,simprocAttr,Qa,ho,Qf,hl]
  all_goals first|exact⟨_,rfl,rfl⟩|exact⟨_,rfl⟩|rfl|exact⟨[],(List.append_nil _).symm⟩|exact⟨[],(List.append_nil _).symm,rfl⟩
 | cons x l=>
  have d0:(((l.length+1:Nat):Int)==0)=false:=by simp;omega
  refine Zi Qe 200 func113 rfl ntmps113 results113 rfl fun base w pl F hF QS hb=>?_
  rw[← hF]at ho
  have Qf:=Qd ho
  simp only[go_sem,simprocAttr,Qa,ho,Qf]
  refine QK hb Ag rfl ?_ (Cb (Q0.more (Jk hF))) rfl fun d hR=>?_
  ·simp only[go_sem,simprocAttr,Qa,ho,Qf,hl,d0]
  subst hR
  refine Qc hb ?_
  simp only[go_sem,simprocAttr,Qa,ho,Qf,hl,d0]
  refine QK hb RG rfl ?_ (Tc (T.more (Jk hF)) 0 (by rw[hl];simp)) rfl fun d hR=>?_
  ·simp only[go_sem,simprocAttr,Qa,ho,Qf,hl]
  subst hR
  refine Qc hb ?_
  simp only[go_sem,simprocAttr,Qa,ho,Qf,hl]
  all_goals first|exact⟨_,rfl,rfl⟩|exact⟨_,rfl⟩|rfl|exact⟨[],(List.append_nil _).symm⟩|exact⟨[],(List.append_nil _).symm,rfl⟩
end
theorem Qma (h:List Ob) (n:Nat) (room:Int) (h1:1≤n) (h2:n≤64) (h3:1≤room) (h4:room≤1048576):QH prog 141 h [Qb n,Qb room] (fun d h'=>d=.tup [.ptr (h.length+2) 0 0 0,Qb 0]∧Y6 (fun l=>h.length≤l) h' (h.length+2) n room ⟨[],0,0,0,0,0,0⟩∧∃g,h'=h++g∧g.length=3):=by
 have d1:decide (room<1)=false:=decide_eq_false (by omega)
 have d2:decide (1048576<room)=false:=decide_eq_false (by omega)
 refine QX Qe 200 func141 rfl ntmps141 results141 rfl fun base w pl hb=>?_
 simp only[go_sem,simprocAttr,Qa]
 refine QT hb Qi9 rfl ?_ (QlC h n h1 h2) rfl fun d h hR=>?_
 ·simp only[go_sem,simprocAttr,Qa,d1,d2]
 obtain⟨rfl,R,g,rfl,hg⟩:=hR
 refine Qc hb ?_
 simp only[go_sem,simprocAttr,Qa,d1,d2]
 have hl:(h++g).length=h.length+2:=by rw[List.length_append,hg]
 refine⟨by rw[hg],⟨h.length+1,?_,?_,by omega,by show h.length≤_;omega,by simp,by omega,by omega⟩,g++[EE (h.length+1) room ⟨[],0,0,0,0,0,0⟩],by rfl,by simp [hg]⟩
 ·rw[show h.length+2=(h++g).length by omega]
  rw[← List.append_assoc,List.getElem?_append_right (Nat.le_refl _),Nat.sub_self]
  rfl
 ·rw[← List.append_assoc]
  refine R.step fun l Zk Jf=>⟨⟨Jf,by omega⟩,List.getElem?_append_left Zk⟩
theorem Cc (a b:Nat):IntKind.u64.wrap ((a:Int)+(b:Int))=((Vf (a+b):Nat):Int):=BV a b
theorem Cd (a:Nat):IntKind.u64.wrap ((a:Int)+1)=((Vf (a+1):Nat):Int):=BV a 1
theorem Tx.fin {S:Nat→Prop} {h H:List Ob} {p r Q9:Nat} {room:Int} {q q':Qu} (Q:Tx S h p r Q9 room q) (hp:H[p]? = some (EE r room q')) (hl:∀l,l<h.length→l≠p→H[l]? = h[l]?) (hn:h.length≤H.length) (e:q'.l=q.l):Y6 S H p Q9 room q'∧Step S h H:=
 ⟨⟨r,hp,by rw[e];exact Q.ring.step fun l h1 h2=>⟨h2,hl l h1 h2.2⟩,Q.rp,Q.sp,by rw[e];exact Q.lens,Q.r0,Q.r1⟩,⟨fun l h1 h2=>hl l h1 fun e2=>h2 (e2▸Q.sp),hn⟩⟩
theorem Qmb {S:Nat→Prop} {h:List Ob} {p Q9:Nat} {room:Int} {q:Qu} (Q:Y6 S h p Q9 room q) (x:Pk) (hx:ED x) :
  QH prog 48 h [.ptr p 0 0 0,.agg x.cells] (fun d h'=>d=Qb (if Xb Q9 room q x then 30 else 0)∧Y6 S h' p Q9 room (Kh Q9 room q x)∧Step S h h'):=by
 obtain⟨r,Q⟩:=Q
 have ho:=Q.o
 have hR:=Q.ring
 have yP:=hx.1
 have KS:=hx.2
 have hle:=hR.sw
 have W9:=sv Q.lens
 have j0:=Q.r0
 have qt:=Q.r1
 have d1:decide (x.len<1)=false:=decide_eq_false (by omega)
 have d2:decide (16384<x.len)=false:=decide_eq_false (by omega)
 have e1:IntKind.i64.wrap (room - (VA q.l:Nat))=room - (VA q.l:Nat):=wrap64 (by omega) (by omega)
 have e2:IntKind.u64.wrap x.len=((x.len.toNat:Nat):Int):=Ca (by omega) (by omega)
 by_cases Jg:room<VA q.l+x.len
 ·have d3:decide (room - (VA q.l:Nat)<x.len)=true:=decide_eq_true (by omega)
  have hf:Xb Q9 room q x=true:=by unfold Xb;rw[decide_eq_true Jg];rfl
  unfold Kh
  rw[hf]
  refine QX Qe 200 func48 rfl ntmps48 results48 rfl fun base w pl hb=>?_
  have Qf:=Qd ho
  simp only[go_sem,simprocAttr,Qa,ho,Qf,d1,d2]
  refine QA Qe hb 200 mixed [(0,true),(1,true),(2,true),(3,true),(4,true),(5,true),(6,true),(7,true),(8,true),(9,true),(10,true),(11,true),(12,true),(13,true),(14,true),(15,true),(16,true),(17,true),(18,false),(19,true),(20,true),(21,true)] (by kernel_rfl) (by kernel_rfl) ?_
  simp only[go_sem,simprocAttr,Qa,ho,Qf,e1,d3,Cd]
  refine QA Qe hb 200 mixed [(0,true),(1,true),(2,true),(3,true),(4,true),(5,true),(6,true),(7,true),(8,true),(9,true),(10,true),(11,true),(12,false)] (by kernel_rfl) (by kernel_rfl) ?_
  simp only[go_sem,simprocAttr,Qa,ho,Qf,e2,Qw Qf,Cc]
  refine Q.fin (q':={ q with cd:=Vf (q.cd+1),bd:=Vf (q.bd+x.len.toNat) }) ?_ ?_ ?_ rfl
  ·rw[QU (by simpa using Qf),Qw Qf];rfl
  ·intro l h1 h2
   rw[QU (by simpa using h1),Qt (Ne.symm h2)]
  ·simp
 ·have d3:decide (room - (VA q.l:Nat)<x.len)=false:=decide_eq_false (by omega)
  refine QX Qe 200 func48 rfl ntmps48 results48 rfl fun base w pl hb=>?_
  have Qf:=Qd ho
  simp only[go_sem,simprocAttr,Qa,ho,Qf,d1,d2]
  refine Wj [18] Qe hb 200 mixed [(0,true),(1,true),(2,true),(3,true),(4,true),(5,true),(6,true),(7,true),(8,true),(9,true),(10,true),(11,true),(12,true),(13,true),(14,true),(15,true),(16,true),(17,true),(18,false),(19,true),(20,true),(21,true)] [] (by kernel_rfl) (by kernel_rfl) ?_
  simp only[go_sem,simprocAttr,Qa,ho,Qf,e1,d3]
  have NS:=hR.step (S':=fun l=>S l∧l≠p∧l<h.length) (h':=h++[⟨.one,0,6,1,fun _=>x.cells⟩]) fun l h1 h2=>⟨⟨h2.1,h2.2,h1⟩,QU h1⟩
  refine WD hb QiL rfl ?_ (Qlz NS x) rfl fun d h6 Tz=>?_
  ·simp only[go_sem,simprocAttr,Qa,ho,Qf]
  obtain⟨rfl,R6,s6⟩:=Tz
  have k9:h.length<h6.length:=by have:=s6.len;simp only[List.length_append,List.length_singleton]at this;omega
  have Yw:h6[p]? = some (EE r room q):=(s6.keep p (by simp;omega) (fun h=>h.2.1 rfl)).trans ((QU Qf).trans ho)
  have WG:=Qd Yw
  have zI:=(s6.keep h.length (by simp) (fun h=>by have:=h.2.2;omega)).trans (Kc rfl)
  have keep:∀l,l<h.length→¬ S l→h6[l]? = h[l]? := fun l h1 h2=>(s6.keep l (by simp;omega) (fun h=>h2 h.1)).trans (QU h1)
  have EF:p≠h.length:=by omega
  refine QF hb ?_
  by_cases hlen:q.l.length=Q9
  ·have hf:Xb Q9 room q x=true:=by unfold Xb;rw[decide_eq_true (show (q.l.length:Int)=(Q9:Int) by omega)];simp
   rw[if_pos hlen]at R6
   simp only[go_sem,simprocAttr,Qa,if_pos hlen,Yw,WG,zI,Cd]
   refine QA Qe hb 200 mixed [(0,true),(1,true),(2,true),(3,true),(4,true),(5,true),(6,true),(7,true),(8,true),(9,true),(10,true),(11,true),(12,false)] (by kernel_rfl) (by kernel_rfl) ?_
   simp only[go_sem,simprocAttr,Qa,Yw,WG,e2,Qw WG,Cc,zI,k9,Qt EF]
   unfold Kh
   rw[hf]
   refine⟨by rfl,⟨r,?_,R6.step fun l h1 h2=>⟨⟨h2.1,h2.2.1⟩,?_⟩,Q.rp,Q.sp,Q.lens,Q.r0,Q.r1⟩,⟨fun l h1 h2=>?_,?_⟩⟩
   ·rw[Qw WG];rfl
   ·rw[Qt (Ne.symm h2.2.1)]
   ·rw[Qt (fun (e:p=l)=>h2 (e▸Q.sp))];exact keep l h1 h2
   ·simp;omega
  ·have hf:Xb Q9 room q x=false:=by unfold Xb;rw[decide_eq_false Jg,decide_eq_false (show ¬ (q.l.length:Int)=(Q9:Int) by omega)];rfl
   have e4:IntKind.i64.wrap (((VA q.l:Nat):Int)+x.len)=((VA (q.l++[x]):Nat):Int):=by
    rw[Ql7];simp only[VA];rw[wrap64 (by omega) (by omega)];omega
   rw[if_neg hlen]at R6
   simp only[go_sem,simprocAttr,Qa,if_neg hlen,Yw,WG,zI,Cd]
   refine QA Qe hb 200 mixed [(0,true),(1,true),(2,true),(3,true),(4,true),(5,true),(6,true),(7,true),(8,true),(9,false)] (by kernel_rfl) (by kernel_rfl) ?_
   simp only[go_sem,simprocAttr,Qa,Yw,WG,e2,Qw WG,Cc,Cd,zI,k9,Qt EF,e4]
   refine QA Qe hb 200 mixed [(0,true),(1,true),(2,true),(3,true),(4,true),(5,true),(6,true),(7,true),(8,true),(9,true),(10,true),(11,true),(12,false)] (by kernel_rfl) (by kernel_rfl) ?_
   simp only[go_sem,simprocAttr,Qa,Yw,WG,e2,Qw WG,Cc,Cd,zI,k9,Qt EF,e4]
   unfold Kh
   rw[hf]
   refine⟨by rfl,⟨r,?_,R6.step fun l h1 h2=>⟨⟨h2.1,h2.2.1⟩,?_⟩,Q.rp,Q.sp,?_,Q.r0,Q.r1⟩,⟨fun l h1 h2=>?_,?_⟩⟩
   ·rw[Qw WG];rfl
   ·rw[Qt (Ne.symm h2.2.1)]
   ·intro y hy
    rcases List.mem_append.1 hy with hy|hy
    ·exact Q.lens y hy
    ·rw[List.mem_singleton.1 hy];exact hx
   ·rw[Qt (fun (e:p=l)=>h2 (e▸Q.sp))];exact keep l h1 h2
   ·simp;omega
theorem Qmc {S:Nat→Prop} {h:List Ob} {p Q9:Nat} {room:Int} {q:Qu} {x:Pk} {L:List Pk} (Q:Y6 S h p Q9 room q) (hq:q.l=x::L) :
  QH prog 36 h [.ptr p 0 0 0] (fun d h'=>d=.tup [.agg x.cells,Qb 0]∧Y6 S h' p Q9 room (Vg q)∧Step S h h'):=by
 obtain⟨r,Q⟩:=Q
 have ho:=Q.o
 have hR:=Q.ring
 have hx:=Q.lens x (by rw[hq];simp)
 have yP:=hx.1
 have KS:=hx.2
 have hle:=hR.sw
 have W9:=sv Q.lens
 have e2:IntKind.u64.wrap x.len=((x.len.toNat:Nat):Int):=Ca (by omega) (by omega)
 have e4:IntKind.i64.wrap (((VA q.l:Nat):Int) - x.len)=((VA L:Nat):Int):=by
  have e5:VA q.l=x.len.toNat+VA L:=by rw[hq];rfl
  rw[wrap64 (by omega) (by omega)];omega
 refine QX Qe 200 func36 rfl ntmps36 results36 rfl fun base w pl hb=>?_
 have Qf:=Qd ho
 simp only[go_sem,simprocAttr,Qa,ho,Qf]
 have NS:=hR.step (S':=fun l=>S l∧l≠p∧l<h.length) (h':=h++[⟨.one,0,6,1,fun _=>(default:Pk).cells⟩]) fun l h1 h2=>⟨⟨h2.1,h2.2,h1⟩,QU h1⟩
 rw[hq]at NS
 refine QT hb QiF rfl ?_ (QlA NS) rfl fun d h6 Tz=>?_
 ·simp only[go_sem,simprocAttr,Qa,ho,Qf]
 obtain⟨rfl,R6,s6⟩:=Tz
 have k9:h.length<h6.length:=by have:=s6.len;simp only[List.length_append,List.length_singleton]at this;omega
 have Yw:h6[p]? = some (EE r room q):=(s6.keep p (by simp;omega) (fun h=>h.2.1 rfl)).trans ((QU Qf).trans ho)
 have WG:=Qd Yw
 have zI:=(s6.keep h.length (by simp) (fun h=>by have:=h.2.2;omega)).trans (Kc rfl)
 have keep:∀l,l<h.length→¬ S l→h6[l]? = h[l]? := fun l h1 h2=>(s6.keep l (by simp;omega) (fun h=>h2 h.1)).trans (QU h1)
 have EF:p≠h.length:=by omega
 refine Qc hb ?_
 simp only[go_sem,simprocAttr,Qa,Yw,WG,zI]
 refine QA Qe hb 200 mixed [(0,true),(1,true),(2,true),(3,true),(4,true),(5,true),(6,true),(7,true),(8,true),(9,false)] (by kernel_rfl) (by kernel_rfl) ?_
 simp only[go_sem,simprocAttr,Qa,Yw,WG,e2,Qw WG,Cc,Cd,zI,k9,Qt EF,e4]
 refine QA Qe hb 200 mixed [(0,true),(1,true),(2,true),(3,true),(4,true),(5,true),(6,true),(7,true),(8,true),(9,true),(10,true),(11,true),(12,false)] (by kernel_rfl) (by kernel_rfl) ?_
 simp only[go_sem,simprocAttr,Qa,Yw,WG,e2,Qw,Cc,Cd,zI,k9,Qt EF,e4]
 have key:∀(A B C:Ob) (l:Nat),l<h.length→(((h6.set p A).set h.length B)++[C])[l]? = (h6.set p A)[l]? := fun A B C l h1=>by
  rw[QU (by simp;omega),Qt (by omega)]
 have eq:(Vg q).l=L:=by simp [Vg,hq]
 refine⟨⟨r,?_,?_,Q.rp,Q.sp,?_,Q.r0,Q.r1⟩,⟨fun l h1 h2=>?_,?_⟩⟩
 ·rw[key _ _ _ _ Qf,Qw WG,Vg,hq];rfl
 ·rw[eq]
  refine R6.step fun l h1 h2=>⟨⟨h2.1,h2.2.1⟩,?_⟩
  rw[key _ _ _ _ h2.2.2,Qt (Ne.symm h2.2.1)]
 ·intro y hy
  rw[eq]at hy
  exact Q.lens y (by rw[hq];simp [hy])
 ·rw[key _ _ _ _ h1,Qt (fun (e:p=l)=>h2 (e▸Q.sp))];exact keep l h1 h2
 ·simp;omega
def jC (l:Du) (qR new:Rn):Rn:=if l.has then Xa qR new else new
theorem NT {l:Du} {qR new:Rn} (h1:qR.Ok) (h2:new.Ok):(jC l qR new).Ok:=by unfold jC;split;exact Tu h1 h2;exact h2
def Xx (l:Du) (c:Nc) (now:Nat) (head:Int):Du:=
 kZ ⟨true,jC l l.dl (Kg c now (l.ZL*65536)),jC l l.rd (qQ c now (l.ZL*65536)),l.ZL,l.VM,l.dead⟩ head
section
variable {h:List Ob} {b1 b2 b3:Nat} (l:Du) (h3:l.ZL<18446744073709551616) (c:Nc) (hc:c.Lt) (now:Nat) (hn:now<18446744073709551616)
 (o1:(h.map Ob.ro)[b1]? = some ⟨.KF,0,3,1,fun _=>c.cells⟩) (o2:(h.map Ob.ro)[b2]? = some ⟨.KF,0,1,1,fun _=>[u64 now]⟩) (o3:(h.map Ob.ro)[b3]? = some ⟨.KF,0,22,1,fun _=>l.cells⟩)
include h3 hc hn o1 o2 o3
theorem Qmd (qR:Rn) (hw:qR.Ok):QP prog 177 h [.agg qR.cells,.raw (.func (.func 180) #[] #[]),.ptr b1 0 0 0,.ptr b2 0 0 0,.ptr b3 0 0 0] (fun d=>d=.agg (jC l qR (Kg c now (l.ZL*65536))).cells):=by
 have hs:=B8 hc hn (y:=l.ZL*65536) (by omega)
 refine Zi Qe 200 func177 rfl ntmps177 results177 rfl fun base w pl F hF QS hb=>?_
 rw[← hF]at o1 o2 o3
 have XV:=Qd o1
 have XW:=Qd o2
 have XX:=Qd o3
 simp only[go_sem,simprocAttr,Qa,o1,XV,o2,XW,o3,XX]
 refine QA Qe hb 200 mixed [(0,true),(1,true),(2,true),(3,true),(4,true),(5,false),(6,false),(7,false),(8,false)] (by kernel_rfl) (by kernel_rfl) ?_
 simp only[go_sem,simprocAttr,Qa,o1,XV,o2,XW,o3,XX]
 refine Zt hb MP rfl ?_ (NQ l.ZL h3) (Ql.flat rfl) rfl fun d h hR=>?_
 ·simp only[go_sem,simprocAttr,Qa,o1,XV,o2,XW,o3,XX]
 obtain⟨rfl,rfl⟩:=hR
 refine QF hb ?_
 simp only[go_sem,simprocAttr,Qa,o1,XV,o2,XW,o3,XX]
 refine Zt hb RL rfl ?_ (Tt c hc now (l.ZL*65536) hn (by omega)) (Ql.flat rfl) rfl fun d h hR=>?_
 ·simp only[go_sem,simprocAttr,Qa,o1,XV,o2,XW,o3,XX]
 obtain⟨rfl,rfl⟩:=hR
 refine QF hb ?_
 simp only[go_sem,simprocAttr,Qa,o1,XV,o2,XW,o3,XX]
 unfold jC
 cases hh:l.has with
 | true=>
  simp only[go_sem,simprocAttr,Qa,hh]
  refine QE hb MQ rfl ?_ (NO qR _ hw hs) (Ql.flat rfl) rfl fun d h hR=>?_
  ·simp only[go_sem,simprocAttr,Qa,o1,XV,o2,XW,o3,XX]
  obtain⟨rfl,rfl⟩:=hR
  refine Qc hb ?_
  simp only[go_sem,simprocAttr,Qa,o1,XV,o2,XW,o3,XX]
  all_goals first|exact⟨_,rfl,rfl⟩|exact⟨_,rfl⟩|rfl|exact⟨[],(List.append_nil _).symm⟩|exact⟨[],(List.append_nil _).symm,rfl⟩
 | false=>
  simp only[go_sem,simprocAttr,Qa,hh]
  all_goals first|exact⟨_,rfl,rfl⟩|exact⟨_,rfl⟩|rfl|exact⟨[],(List.append_nil _).symm⟩|exact⟨[],(List.append_nil _).symm,rfl⟩
theorem Qme (qR:Rn) (hw:qR.Ok):QP prog 177 h [.agg qR.cells,.raw (.func (.func 181) #[] #[]),.ptr b1 0 0 0,.ptr b2 0 0 0,.ptr b3 0 0 0] (fun d=>d=.agg (jC l qR (qQ c now (l.ZL*65536))).cells):=by
 have hs:=NN hc hn (y:=l.ZL*65536) (by omega)
 refine Zi Qe 200 func177 rfl ntmps177 results177 rfl fun base w pl F hF QS hb=>?_
 rw[← hF]at o1 o2 o3
 have XV:=Qd o1
 have XW:=Qd o2
 have XX:=Qd o3
 simp only[go_sem,simprocAttr,Qa,o1,XV,o2,XW,o3,XX]
 refine QA Qe hb 200 mixed [(0,true),(1,true),(2,true),(3,true),(4,true),(5,false),(6,false),(7,false),(8,false)] (by kernel_rfl) (by kernel_rfl) ?_
 simp only[go_sem,simprocAttr,Qa,o1,XV,o2,XW,o3,XX]
 refine Zt hb MP rfl ?_ (NQ l.ZL h3) (Ql.flat rfl) rfl fun d h hR=>?_
 ·simp only[go_sem,simprocAttr,Qa,o1,XV,o2,XW,o3,XX]
 obtain⟨rfl,rfl⟩:=hR
 refine QF hb ?_
 simp only[go_sem,simprocAttr,Qa,o1,XV,o2,XW,o3,XX]
 refine Zt hb oD rfl ?_ (ss c hc now (l.ZL*65536) hn (by omega)) (Ql.flat rfl) rfl fun d h hR=>?_
 ·simp only[go_sem,simprocAttr,Qa,o1,XV,o2,XW,o3,XX]
 obtain⟨rfl,rfl⟩:=hR
 refine QF hb ?_
 simp only[go_sem,simprocAttr,Qa,o1,XV,o2,XW,o3,XX]
 unfold jC
 cases hh:l.has with
 | true=>
  simp only[go_sem,simprocAttr,Qa,hh]
  refine QE hb MQ rfl ?_ (NO qR _ hw hs) (Ql.flat rfl) rfl fun d h hR=>?_
  ·simp only[go_sem,simprocAttr,Qa,o1,XV,o2,XW,o3,XX]
  obtain⟨rfl,rfl⟩:=hR
  refine Qc hb ?_
  simp only[go_sem,simprocAttr,Qa,o1,XV,o2,XW,o3,XX]
  all_goals first|exact⟨_,rfl,rfl⟩|exact⟨_,rfl⟩|rfl|exact⟨[],(List.append_nil _).symm⟩|exact⟨[],(List.append_nil _).symm,rfl⟩
 | false=>
  simp only[go_sem,simprocAttr,Qa,hh]
  all_goals first|exact⟨_,rfl,rfl⟩|exact⟨_,rfl⟩|rfl|exact⟨[],(List.append_nil _).symm⟩|exact⟨[],(List.append_nil _).symm,rfl⟩
end
theorem Qmf (l:Du) (hl:l.Ok) (c:Nc) (hc:c.Lt) (now:Nat) (hn:now<18446744073709551616) (head:Int) (hh:head<9223372036854775808):Q8 prog 124 [.agg l.cells,wv c,u64 now,Qb head] (Ql (.agg (Xx l c now head).cells)):=by
 have h3:=hl.ZL
 have hs:=B8 hc hn (y:=l.ZL*65536) (by omega)
 have hr:=NN hc hn (y:=l.ZL*65536) (by omega)
 refine Zb 0 Qe 200 func124 rfl ntmps124 results124 rfl fun base w hb=>?_
 simp only[go_sem,simprocAttr]
 refine QA Qe hb 200 mixed [(0,true),(1,true),(2,true),(4,true),(5,true),(6,true),(3,false),(8,true),(7,false),(9,false),(10,true),(11,false)] (by kernel_rfl) (by kernel_rfl) ?_
 simp only[go_sem,simprocAttr]
 refine Z3 hb oC rfl ?_ (Qmd (b1:=1) (b2:=2) (b3:=0) l h3 c hc now hn rfl rfl rfl l.dl hl.dl) rfl fun d hR=>?_
 ·simp only[go_sem,simprocAttr,Qa]
 subst hR
 refine QF hb ?_
 simp only[go_sem,simprocAttr,Qa]
 refine Z3 hb oC rfl ?_ (Qme (b1:=1) (b2:=2) (b3:=0) l h3 c hc now hn rfl rfl rfl l.rd hl.rd) rfl fun d hR=>?_
 ·simp only[go_sem,simprocAttr,Qa]
 subst hR
 refine QF hb ?_
 simp only[go_sem,simprocAttr,Qa]
 refine QE hb RI rfl ?_ (Tw ⟨true,jC l l.dl (Kg c now (l.ZL*65536)),jC l l.rd (qQ c now (l.ZL*65536)),l.ZL,l.VM,l.dead⟩ (NT hl.dl hs) (NT hl.rd hr) h3 head hh) (Ql.flat rfl) rfl fun d h hR=>?_
 ·simp only[go_sem,simprocAttr]
 obtain⟨rfl,rfl⟩:=hR
 refine Qc hb ?_
 simp only[go_sem,simprocAttr]
 rfl
theorem sy {l:Du} (hl:l.Ok) {c:Nc} (hc:c.Lt) {now:Nat} (hn:now<18446744073709551616) (head:Int):(Xx l c now head).Ok:=by
 have h3:=hl.ZL
 exact Tv (l:=⟨true,jC l l.dl (Kg c now (l.ZL*65536)),jC l l.rd (qQ c now (l.ZL*65536)),l.ZL,l.VM,l.dead⟩) (NT hl.dl (B8 hc hn (y:=l.ZL*65536) (by omega))) (NT hl.rd (NN hc hn (y:=l.ZL*65536) (by omega))) h3 head
structure Sh where
 has:Bool
 run:Rn
 time:Nat
deriving DecidableEq
instance:Inhabited Sh:=⟨⟨false,default,0⟩⟩
structure Sh.Ok (x:Sh):Prop where
 run:x.run.Ok
 time:x.time<18446744073709551616
@[go_sem] def Sh.cells (x:Sh):List D:=[QN x.has,u64 x.run.f.x,u64 (x.run.f.y / 18446744073709551616),u64 (x.run.f.y % 18446744073709551616),u64 x.run.f.m,u64 x.run.t.x,u64 (x.run.t.y / 18446744073709551616),u64 (x.run.t.y % 18446744073709551616),u64 x.run.t.m,QN x.run.b,u64 x.time]
def x7 (r:Rn) (total:Nat):Nat:=if r.b then max (max (Xw r (total*65536)) r.t.x) r.f.x else max (Xw r (total*65536)) r.t.x
theorem sA {r:Rn} (h:r.Ok) (total:Nat):x7 r total<18446744073709551616:=by
 have h1:=Hm r (total*65536)
 have h2:=h.t.x
 have h3:=h.f.x
 unfold never at h1
 unfold x7;split<;>omega
theorem EG (a b:Nat):max (a:Int) (b:Int)=((max a b:Nat):Int):=by omega
theorem Ho (a:Nat):max (0:Int) (a:Int)=(a:Int):=by omega
theorem Qmg {h:List Ob} {b g:Nat} {row:Nat→List D} (o:(h.map Ob.ro)[b]? = some ⟨.yA,g,1,2,row⟩) (x y:Nat) (e0:row 0=[u64 x]) (e1:row 1=[u64 y]):QP prog 169 h [.ref b g 0 2] (fun d=>d=u64 (max x y)):=by
 refine Zi Qe 200 func169 rfl ntmps169 results169 rfl fun base w pl F hF QS hb=>?_
 rw[← hF]at o
 have wy:=Qd o
 simp only[go_sem,simprocAttr,Qa,o,wy]
 refine wi 2 ?_
 refine Qc hb ?_
 simp only[go_sem,simprocAttr,Qa,o,wy,e0,e1]
 refine Qc hb ?_
 simp only[go_sem,simprocAttr,Qa,o,wy,e0,e1,Ho,EG]
 refine Qc hb ?_
 simp only[go_sem,simprocAttr,Qa,o,wy,e0,e1,Ho,EG]
 refine Qc hb ?_
 simp only[go_sem,simprocAttr,Qa]
 all_goals first|exact⟨_,rfl,rfl⟩|exact⟨_,rfl⟩|rfl|exact⟨[],(List.append_nil _).symm⟩|exact⟨[],(List.append_nil _).symm,rfl⟩
theorem Qmh {h:List Ob} {b g:Nat} {row:Nat→List D} (o:(h.map Ob.ro)[b]? = some ⟨.yA,g,1,3,row⟩) (x y z:Nat) (e0:row 0=[u64 x]) (e1:row 1=[u64 y]) (e2:row 2=[u64 z]):QP prog 169 h [.ref b g 0 3] (fun d=>d=u64 (max (max x y) z)):=by
 refine Zi Qe 200 func169 rfl ntmps169 results169 rfl fun base w pl F hF QS hb=>?_
 rw[← hF]at o
 have wy:=Qd o
 simp only[go_sem,simprocAttr,Qa,o,wy]
 refine wi 3 ?_
 refine Qc hb ?_
 simp only[go_sem,simprocAttr,Qa,o,wy,e0,e1,e2]
 refine Qc hb ?_
 simp only[go_sem,simprocAttr,Qa,o,wy,e0,e1,e2,Ho,EG]
 refine Qc hb ?_
 simp only[go_sem,simprocAttr,Qa,o,wy,e0,e1,e2,Ho,EG]
 refine Qc hb ?_
 simp only[go_sem,simprocAttr,Qa,o,wy,e0,e1,e2,Ho,EG]
 refine Qc hb ?_
 simp only[go_sem,simprocAttr,Qa]
 all_goals first|exact⟨_,rfl,rfl⟩|exact⟨_,rfl⟩|rfl|exact⟨[],(List.append_nil _).symm⟩|exact⟨[],(List.append_nil _).symm,rfl⟩
theorem TA (r:Rn) (hr:r.Ok) (total:Nat) (ht:total<18446744073709551616):Q8 prog 108 [.agg r.cells,u64 total] (Ql (u64 (x7 r total))):=by
 unfold x7
 refine Zb 0 Qe 200 func108 rfl ntmps108 results108 rfl fun base w hb=>?_
 simp only[go_sem,simprocAttr]
 refine QA Qe hb 200 mixed [(0,true),(1,true),(2,false),(3,false),(4,true)] (by kernel_rfl) (by kernel_rfl) ?_
 simp only[go_sem,simprocAttr]
 refine Zt hb kG rfl ?_ (kX total 65536 ht (by decide)) (Ql.flat rfl) rfl fun d h hR=>?_
 ·simp only[go_sem,simprocAttr]
 obtain⟨rfl,rfl⟩:=hR
 refine QF hb ?_
 simp only[go_sem,simprocAttr]
 refine Zt hb ML rfl ?_ (NP r hr (total*65536) (by omega)) (Ql.flat rfl) rfl fun d h hR=>?_
 ·simp only[go_sem,simprocAttr]
 obtain⟨rfl,rfl⟩:=hR
 refine QF hb ?_
 simp only[go_sem,simprocAttr]
 cases h:r.b with
 | true=>
  simp only[go_sem,simprocAttr,h]
  refine QK hb oA rfl ?_ (Qmh (b:=1) (g:=0) (by exact rfl) (Xw r (total*65536)) r.t.x r.f.x (by exact rfl) (by exact rfl) (by exact rfl)) rfl fun d hR=>?_
  ·simp only[go_sem,simprocAttr,Qa]
  subst hR
  refine Qc hb ?_
  simp only[go_sem,simprocAttr,Qa]
 | false=>
  simp only[go_sem,simprocAttr,h]
  refine QK hb oA rfl ?_ (Qmg (b:=1) (g:=0) (by exact rfl) (Xw r (total*65536)) r.t.x (by exact rfl) (by exact rfl)) rfl fun d hR=>?_
  ·simp only[go_sem,simprocAttr,Qa]
  subst hR
  refine Qc hb ?_
  simp only[go_sem,simprocAttr,Qa]
def Ce (x:Sh) (c:Nc) (low total:Nat):Sh:=
 ⟨true,if x.has then Xa x.run (Kg c low (total*65536)) else Kg c low (total*65536),x7 (if x.has then Xa x.run (Kg c low (total*65536)) else Kg c low (total*65536)) total⟩
def AJ (x:Sh) (total:Nat):Sh:=if x.has then ⟨true,x.run,x7 x.run total⟩ else x
theorem TB {x:Sh} (hx:x.Ok) {c:Nc} (hc:c.Lt) {low total:Nat} (hl:low<18446744073709551616) (ht:total<18446744073709551616):(if x.has then Xa x.run (Kg c low (total*65536)) else Kg c low (total*65536)).Ok:=by
 have h1:=B8 hc hl (y:=total*65536) (by omega)
 split
 ·exact Tu hx.run h1
 ·exact h1
theorem Qmi {x:Sh} (hx:x.Ok) {c:Nc} (hc:c.Lt) {low total:Nat} (hl:low<18446744073709551616) (ht:total<18446744073709551616):(Ce x c low total).Ok:=
 ⟨TB hx hc hl ht,sA (TB hx hc hl ht) _⟩
theorem Qmj {x:Sh} (hx:x.Ok) (total:Nat):(AJ x total).Ok:=by
 unfold AJ;split
 ·exact⟨hx.run,sA hx.run _⟩
 ·exact hx
theorem Qmk (x:Sh) (hx:x.Ok) (c:Nc) (hc:c.Lt) (low total:Nat) (hl:low<18446744073709551616) (ht:total<18446744073709551616):Q8 prog 126 [.agg x.cells,wv c,u64 low,u64 total] (Ql (.agg (Ce x c low total).cells)):=by
 have h1:=B8 hc hl (y:=total*65536) (by omega)
 have h2:=TB hx hc hl ht
 refine Zb 0 Qe 200 func126 rfl ntmps126 results126 rfl fun base w hb=>?_
 simp only[go_sem,simprocAttr]
 refine QA Qe hb 200 mixed [(0,true),(1,true),(2,true),(3,false),(4,false),(5,false),(6,false)] (by kernel_rfl) (by kernel_rfl) ?_
 simp only[go_sem,simprocAttr]
 refine Zt hb kG rfl ?_ (kX total 65536 ht (by decide)) (Ql.flat rfl) rfl fun d h hR=>?_
 ·simp only[go_sem,simprocAttr]
 obtain⟨rfl,rfl⟩:=hR
 refine QF hb ?_
 simp only[go_sem,simprocAttr]
 refine Zt hb RL rfl ?_ (Tt c hc low (total*65536) hl (by omega)) (Ql.flat rfl) rfl fun d h hR=>?_
 ·simp only[go_sem,simprocAttr]
 obtain⟨rfl,rfl⟩:=hR
 refine QF hb ?_
 simp only[go_sem,simprocAttr]
 cases h:x.has with
 | true=>
  rw[h,if_pos rfl]at h2
  rw[show Ce x c low total=⟨true,Xa x.run (Kg c low (total*65536)),x7 (Xa x.run (Kg c low (total*65536))) total⟩ from by unfold Ce;rw[h];rfl]
  simp only[go_sem,simprocAttr,h]
  refine QE hb MQ rfl ?_ (NO x.run _ hx.run h1) (Ql.flat rfl) rfl fun d h hR=>?_
  ·simp only[go_sem,simprocAttr]
  obtain⟨rfl,rfl⟩:=hR
  refine Qc hb ?_
  simp only[go_sem,simprocAttr]
  refine QA Qe hb 200 mixed [(0,true),(1,true),(2,true),(3,false),(4,true),(5,false)] (by kernel_rfl) (by kernel_rfl) ?_
  simp only[go_sem,simprocAttr]
  refine Zt hb RF rfl ?_ (TA (Xa x.run (Kg c low (total*65536))) h2 total ht) (Ql.flat rfl) rfl fun d h hR=>?_
  ·simp only[go_sem,simprocAttr]
  obtain⟨rfl,rfl⟩:=hR
  refine QF hb ?_
  simp only[go_sem,simprocAttr]
 | false=>
  rw[show Ce x c low total=⟨true,Kg c low (total*65536),x7 (Kg c low (total*65536)) total⟩ from by unfold Ce;rw[h];rfl]
  simp only[go_sem,simprocAttr,h]
  refine QA Qe hb 200 mixed [(0,true),(1,true),(2,true),(3,false),(4,true),(5,false)] (by kernel_rfl) (by kernel_rfl) ?_
  simp only[go_sem,simprocAttr]
  refine Zt hb RF rfl ?_ (TA (Kg c low (total*65536)) h1 total ht) (Ql.flat rfl) rfl fun d h hR=>?_
  ·simp only[go_sem,simprocAttr]
  obtain⟨rfl,rfl⟩:=hR
  refine QF hb ?_
  simp only[go_sem,simprocAttr]
theorem Qml (x:Sh) (hx:x.Ok) (total:Nat) (ht:total<18446744073709551616):Q8 prog 38 [.agg x.cells,u64 total] (Ql (.agg (AJ x total).cells)):=by
 cases h:x.has with
 | true=>
  rw[show AJ x total=⟨true,x.run,x7 x.run total⟩ from by unfold AJ;rw[h];rfl]
  refine Zb 0 Qe 200 func38 rfl ntmps38 results38 rfl fun base w hb=>?_
  simp only[go_sem,simprocAttr]
  simp only[go_sem,simprocAttr,h]
  refine QE hb RF rfl ?_ (TA x.run hx.run total ht) (Ql.flat rfl) rfl fun d h hR=>?_
  ·simp only[go_sem,simprocAttr]
  obtain⟨rfl,rfl⟩:=hR
  refine Qc hb ?_
  simp only[go_sem,simprocAttr]
 | false=>
  rw[show AJ x total=x from by unfold AJ;rw[h];rfl]
  refine Zb 0 Qe 200 func38 rfl ntmps38 results38 rfl fun base w hb=>?_
  simp only[go_sem,simprocAttr]
  simp only[go_sem,simprocAttr,h]
structure Cp where
 has:Bool
 run:Rn
 fit:Nat
deriving DecidableEq
instance:Inhabited Cp:=⟨⟨false,default,0⟩⟩
structure Cp.Ok (x:Cp):Prop where
 run:x.run.Ok
 fit:x.fit≤never
@[go_sem] def Cp.cells (x:Cp):List D:=[QN x.has,u64 x.run.f.x,u64 (x.run.f.y / 18446744073709551616),u64 (x.run.f.y % 18446744073709551616),u64 x.run.f.m,u64 x.run.t.x,u64 (x.run.t.y / 18446744073709551616),u64 (x.run.t.y % 18446744073709551616),u64 x.run.t.m,QN x.run.b,u64 x.fit]
def TC:Cp:=⟨false,⟨⟨0,0,0⟩,⟨0,0,0⟩,false⟩,0⟩
def wz (x:Cp) (total:Nat):Cp:=if x.has then ⟨true,x.run,Xw x.run (total*65536)⟩ else x
def x8 (x:Cp) (c:Nc) (now total:Nat):Cp:=
 if c.of=0∨c.of=1 then TC
 else ⟨true,if x.has then Xa x.run (Kg c now (total*65536)) else Kg c now (total*65536),Xw (if x.has then Xa x.run (Kg c now (total*65536)) else Kg c now (total*65536)) (total*65536)⟩
theorem Qmm:TC.Ok:=⟨⟨Ln.Yv,Ln.Yv⟩,Nat.zero_le _⟩
theorem Qmn {x:Cp} (hx:x.Ok) (total:Nat):(wz x total).Ok:=by
 unfold wz;split
 ·exact⟨hx.run,Hm _ _⟩
 ·exact hx
theorem sB {x:Cp} (hx:x.Ok) {c:Nc} (hc:c.Lt) {low total:Nat} (hl:low<18446744073709551616) (ht:total<18446744073709551616):(if x.has then Xa x.run (Kg c low (total*65536)) else Kg c low (total*65536)).Ok:=by
 have h1:=B8 hc hl (y:=total*65536) (by omega)
 split
 ·exact Tu hx.run h1
 ·exact h1
theorem Qmo {x:Cp} (hx:x.Ok) {c:Nc} (hc:c.Lt) {now total:Nat} (hl:now<18446744073709551616) (ht:total<18446744073709551616):(x8 x c now total).Ok:=by
 unfold x8;split
 ·exact Qmm
 ·exact⟨sB hx hc hl ht,Hm _ _⟩
theorem TD (x:Cp) (hx:x.Ok) (total:Nat) (ht:total<18446744073709551616):Q8 prog 39 [.agg x.cells,u64 total] (Ql (.agg (wz x total).cells)):=by
 cases h:x.has with
 | true=>
  rw[show wz x total=⟨true,x.run,Xw x.run (total*65536)⟩ from by unfold wz;rw[h];rfl]
  refine Zb 0 Qe 200 func39 rfl ntmps39 results39 rfl fun base w hb=>?_
  simp only[go_sem,simprocAttr]
  simp only[go_sem,simprocAttr,h]
  refine QA Qe hb 200 mixed [(0,true),(1,true),(2,true),(3,false),(4,false),(5,true),(6,false)] (by kernel_rfl) (by kernel_rfl) ?_
  simp only[go_sem,simprocAttr]
  refine Zt hb kG rfl ?_ (kX total 65536 ht (by decide)) (Ql.flat rfl) rfl fun d h hR=>?_
  ·simp only[go_sem,simprocAttr]
  obtain⟨rfl,rfl⟩:=hR
  refine QF hb ?_
  simp only[go_sem,simprocAttr]
  refine Zt hb ML rfl ?_ (NP x.run hx.run (total*65536) (by omega)) (Ql.flat rfl) rfl fun d h hR=>?_
  ·simp only[go_sem,simprocAttr]
  obtain⟨rfl,rfl⟩:=hR
  refine QF hb ?_
  simp only[go_sem,simprocAttr]
 | false=>
  rw[show wz x total=x from by unfold wz;rw[h];rfl]
  refine Zb 0 Qe 200 func39 rfl ntmps39 results39 rfl fun base w hb=>?_
  simp only[go_sem,simprocAttr]
  simp only[go_sem,simprocAttr,h]
theorem Qmp (x:Cp) (hx:x.Ok) (c:Nc) (hc:c.Lt) (now total:Nat) (hl:now<18446744073709551616) (ht:total<18446744073709551616):Q8 prog 127 [.agg x.cells,wv c,u64 now,u64 total] (Ql (.agg (x8 x c now total).cells)):=by
 have h1:=B8 hc hl (y:=total*65536) (by omega)
 have h2:=sB hx hc hl ht
 refine Zb 0 Qe 200 func127 rfl ntmps127 results127 rfl fun base w hb=>?_
 simp only[go_sem,simprocAttr]
 refine QA Qe hb 200 mixed [(0,true),(1,true),(2,true),(3,false),(4,false),(5,false),(6,false)] (by kernel_rfl) (by kernel_rfl) ?_
 simp only[go_sem,simprocAttr]
 refine Zt hb kG rfl ?_ (kX total 65536 ht (by decide)) (Ql.flat rfl) rfl fun d h hR=>?_
 ·simp only[go_sem,simprocAttr]
 obtain⟨rfl,rfl⟩:=hR
 refine QF hb ?_
 simp only[go_sem,simprocAttr]
 refine Zt hb RL rfl ?_ (Tt c hc now (total*65536) hl (by omega)) (Ql.flat rfl) rfl fun d h hR=>?_
 ·simp only[go_sem,simprocAttr]
 obtain⟨rfl,rfl⟩:=hR
 refine QF hb ?_
 simp only[go_sem,simprocAttr]
 refine QE hb xH rfl ?_ (Hl c.a c.d c.b) (Ql.flat rfl) rfl fun d h hR=>?_
 ·simp only[go_sem,simprocAttr]
 obtain⟨rfl,rfl⟩:=hR
 refine Qc hb ?_
 simp only[go_sem,simprocAttr]
 by_cases e:c.of=0∨c.of=1
 ·rw[show x8 x c now total=TC from if_pos e]
  have e':JZ c.a c.d c.b=0∨JZ c.a c.d c.b=1:=e
  rcases e' with e'|e'
  ·simp only[go_sem,simprocAttr,e']
   rfl
  ·simp only[go_sem,simprocAttr,e']
   rfl
 ·have d0:(JZ c.a c.d c.b==0)=false:=by rw[beq_eq_false_iff_ne];exact fun h=>e (.inl h)
  have d1:(JZ c.a c.d c.b==1)=false:=by rw[beq_eq_false_iff_ne];exact fun h=>e (.inr h)
  cases h:x.has with
  | true=>
   rw[h,if_pos rfl]at h2
   rw[show x8 x c now total=wz ⟨true,Xa x.run (Kg c now (total*65536)),0⟩ total from by unfold x8;rw[if_neg e,h];rfl]
   simp only[go_sem,simprocAttr,d0,d1,h]
   refine QE hb MQ rfl ?_ (NO x.run _ hx.run h1) (Ql.flat rfl) rfl fun d h hR=>?_
   ·simp only[go_sem,simprocAttr]
   obtain⟨rfl,rfl⟩:=hR
   refine Qc hb ?_
   simp only[go_sem,simprocAttr]
   refine QE hb Rx rfl ?_ (TD ⟨true,Xa x.run (Kg c now (total*65536)),0⟩ ⟨h2,Nat.zero_le _⟩ total ht) (Ql.flat rfl) rfl fun d h hR=>?_
   ·simp only[go_sem,simprocAttr]
   obtain⟨rfl,rfl⟩:=hR
   refine Qc hb ?_
   simp only[go_sem,simprocAttr]
  | false=>
   rw[show x8 x c now total=wz ⟨true,Kg c now (total*65536),0⟩ total from by unfold x8;rw[if_neg e,h];rfl]
   simp only[go_sem,simprocAttr,d0,d1,h]
   refine QE hb Rx rfl ?_ (TD ⟨true,Kg c now (total*65536),0⟩ ⟨h1,Nat.zero_le _⟩ total ht) (Ql.flat rfl) rfl fun d h hR=>?_
   ·simp only[go_sem,simprocAttr]
   obtain⟨rfl,rfl⟩:=hR
   refine Qc hb ?_
   simp only[go_sem,simprocAttr]
theorem sC (a b:Nat):Q8 prog 144 [u64 a,u64 b] (Ql (u64 (max a b))):=by
 refine Zb 0 Qe 200 func144 rfl ntmps144 results144 rfl fun base w hb=>?_
 simp only[go_sem,simprocAttr]
 simp only[go_sem,simprocAttr,EG]
def TE:Go.Shelf.Ren:=⟨fun|5=>143|7=>195|n=>n,fun|23=>216|25=>3|3=>62|4=>4|20=>20|n=>n,fun|n=>n⟩
theorem Qmq:SlLaysW.n5 prog TE:={
 mixed:=by kernel_rfl
 f5:=⟨f143.name,by kernel_rfl,func143.trans (congrArg some (show f143={ SlBodyW.n5 TE with name:=f143.name } by kernel_rfl))⟩
 f7:=func195.trans (congrArg some (show f195=SlBodyW.n7 TE by kernel_rfl))
 t4:=underlying4
 a4:=isAgg4
 z4:=sizeOf4
 v4:=zeroValue4
 t20:=underlying20
 a20:=isAgg20
 z20:=sizeOf20
 v20:=zeroValue20
 t23:=underlying216
 a23:=isAgg216
 z23:=sizeOf216
 v23:=zeroValue216 }
theorem Qmr {h:List Ob} {m c:Nat} {es:List QM} (hm:h[m]? = some (QG .i64 c es)):QH prog 143 h [.mref m 0] (fun d h'=>d=.mref h.length 0∧h'=h++[QG .i64 c es]):=by
 intro Z base w pl vs QJ hZ R YO hv
 match vs,YO with
 | [v],_=>
 obtain⟨o,p,b,h1,h2,h3,h4,h5⟩:=Bb (hv 0 (by simp))
 rw[hm]at h1;cases h1
 have hp:=h5 rfl
 subst hp
 have yJ:v=.map (some b):=h3.2
 subst yJ
 obtain⟨_,kh⟩:=R.at_ m _ b 0 hm h2
 obtain⟨TF,ZC,Hp,clock,hb,hn,Z6,ZP,EH,Cg⟩:=kh.map rfl
 refine(AnyW.maps_Clone Qmq b Hp clock w hb).mono ?_
 rintro e w' ⟨rfl,rfl⟩
 have e:∀b,b<w.heap.size→(w.alloc (.map Hp clock)).heap[b]? = w.heap[b]? := fun b hb=>qs w _ b hb
 have T:Go.Fg.Tr h pl w (h++[QG .i64 c es]) (pl++[some (w.heap.size,0)]) (w.alloc (.map Hp clock)):=Go.Fg.Tr.push R e _ _ (by intro b q h;simp at h;omega)
 have Q4:pl.length=h.length:=R.len
 refine⟨.map (some w.heap.size),.mref h.length 0,h++[QG .i64 c es],pl++[some (w.heap.size,0)],rfl,⟨rfl,rfl⟩,QW.Fz R e _ (Nat.le_refl _) QJ ?_,?_,T,wZ QJ _⟩
 ·have hx:IS Z (h++[QG .i64 c es]) (pl++[some (w.heap.size,0)]) (w.alloc (.map Hp clock)) (QG .i64 c es) w.heap.size 0:=
   ⟨rfl,ZC,Hp,clock,heap_alloc_new w _,hn,Z6,ZP.tr T,fun i e he=>⟨(EH i e he).1,(EH i e he).2.1.tr T,(EH i e he).2.2.1.tr T,(EH i e he).2.2.2.tr T⟩,Cg⟩
  exact hx
 ·exact .mref _ _ (QG .i64 c es) (some (w.heap.size,0)) w.heap.size (by simp) (by rw[← Q4];simp) ⟨by simp [QG,Km,Kd.ty],rfl⟩ (Nat.le_refl _) (fun _=>rfl)
theorem sD {S:Nat→Prop} {h:List Ob} {t:Nat} {T:List Qj} (R:Ke S h t T):QH prog 60 h [.ptr t 0 0 0] (fun d h'=>d=.ptr (h.length+1) 0 0 0∧Ke (fun l=>h.length≤l) h' (h.length+1) T∧∃g,h'=h++g∧g.length=2):=by
 obtain⟨m,c,es,ht,hm,hT,_,_⟩:=R
 refine QX Qe 200 func60 rfl ntmps60 results60 rfl fun base w pl hb=>?_
 have QY:=Qd ht
 simp only[go_sem,simprocAttr,Qa,ht,QY]
 refine QT hb Qi0 rfl ?_ (Qmr hm) rfl fun d h hR=>?_
 ·simp only[go_sem,simprocAttr,Qa]
 obtain⟨rfl,rfl⟩:=hR
 refine Qc hb ?_
 simp only[go_sem,simprocAttr,Qa]
 exact⟨⟨h.length,c,es,KW rfl,Kc rfl,hT,by show h.length≤_;omega,Nat.le_refl _⟩,_,rfl,rfl⟩
theorem JD.nil:JD []:=⟨TreeInv.nil,by simp,by simp,by simp,by simp⟩
theorem Qms {T:List Qj} (h:KX T) {x:Qj} (hn:Qr T x.iD=none):(Kn T x).length=T.length+1:=by
 rw[(BM x h).length_eq,List.length_cons]
 congr 1
 unfold Vb
 rw[List.filter_eq_self.2]
 intro c hc
 have:=Am.1 hn c hc
 simpa using this
theorem Qmt {T:List Qj} (h:KX T) {x y:Qj} (hy:Qr T x.iD=some y):(Kn T x).length≤T.length:=by
 rw[(BM x h).length_eq,List.length_cons]
 obtain⟨h1,h2⟩:=(KY h).1 hy
 have:(Vb T x.iD).length<T.length:=by
  unfold Vb
  refine Nat.lt_of_le_of_ne (List.length_filter_le _ _) fun e=>?_
  have:=(List.length_filter_eq_length_iff.1 e) y h1
  simp [h2]at this
 omega
section
variable {T:List Qj} (I:JD T)
include I
theorem JD.add {x:Qj} (h:kN T x (up T x.parent).length=0):JD (Kn T x):=by
 unfold kN at h
 by_cases h0:JN x=0
 case neg=>rw[if_pos h0]at h;exact absurd h h0
 rw[if_neg (by simpa using h0)]at h
 cases h1:Qr T x.iD with
 | some y=>rw[h1]at h;simp at h
 | none=>
  rw[h1,if_neg (by simp)]at h
  by_cases h2:T.length=64
  ·rw[if_pos h2]at h;cases h
  rw[if_neg h2]at h
  by_cases h3:(x.parent≠0∧(Qr T x.parent).isNone)∨((Qr T x.parent).getD default).leaf=true
  ·rw[if_pos h3]at h;cases h
  rw[if_neg h3]at h
  by_cases h4:1<QI x.ls∧V4 T x.parent=false
  ·rw[if_pos h4]at h;cases h
  rw[if_neg h4]at h
  by_cases h5:(up T x.parent).length=16
  ·rw[if_pos h5]at h;cases h
  have QQ:=right_id h0
  have hp:x.parent=0∨∃d,Qr T x.parent=some d∧d.leaf=false:=by
   by_cases hp:x.parent=0
   ·exact .inl hp
   ·cases hf:Qr T x.parent with
    | none=>exact absurd (.inl ⟨hp,by rw[hf];rfl⟩) h3
    | some d=>
     refine .inr ⟨d,rfl,?_⟩
     rw[Bool.eq_false_iff]
     exact fun hl=>h3 (.inr (by rw[hf];exact hl))
  have I2:=I.toTreeInv.add h0 h1 (hp.elim .inl fun⟨d,hd,_⟩=>.inr (by rw[hd];rfl)) h5
  refine⟨I2,fun c hc=>?_,fun c hc Wp=>?_,fun c hc hs Wp=>?_,?_⟩
  ·rcases jt I.rising x hc with rfl|hc
   ·exact h0
   ·exact I.right c hc
  ·rcases jt I.rising x hc with rfl|hc
   ·rcases hp with hp|⟨d,hd,hl⟩
    ·exact absurd hp Wp
    ·exact⟨d,by rw[js I.rising,if_neg QQ.2.2];exact hd,hl⟩
   ·obtain⟨d,hd,hl⟩:=I.XN c hc Wp
    refine⟨d,?_,hl⟩
    rw[js I.rising,if_neg (fun e=>by rw[e,h1]at hd;cases hd)]
    exact hd
  ·rcases jt I.rising x hc with rfl|hc
   ·have ZW:V4 T c.parent=true:=by
     rw[← Bool.not_eq_false];exact fun hf=>h4 ⟨hs,hf⟩
    unfold V4 at ZW
    unfold qH
    rw[js I.rising,if_neg QQ.2.2]
    rw[Bool.or_eq_true]at ZW
    rcases ZW with ZW|ZW
    ·exact absurd (by simpa using ZW) Wp
    ·exact ZW
   ·have ZW:=I.Nj c hc hs Wp
    obtain⟨d,hd,hl⟩:=I.XN c hc Wp
    unfold qH at ZW ⊢
    rw[js I.rising,if_neg (fun e=>by rw[e,h1]at hd;cases hd)]
    exact ZW
  ·rw[Qms I.rising h1]
   have:=I.len
   omega
theorem JD.del {id:Int} (h:KZ T id=[]):JD (Vb T id):=by
 have I2:=I.toTreeInv.del h
 have Z9:∀c∈T,c.parent≠id:=fun c hc e=>by
  have:c.iD∈KZ T id:=List.mem_map.2 ⟨c,List.mem_filter.2 ⟨hc,by simpa using e⟩,rfl⟩
  rw[h]at this;cases this
 refine⟨I2,fun c hc=>I.right c (List.mem_filter.1 hc).1,fun c hc Wp=>?_,fun c hc hs Wp=>?_,?_⟩
 ·have hc:=(List.mem_filter.1 hc).1
  obtain⟨d,hd,hl⟩:=I.XN c hc Wp
  exact⟨d,by rw[GO I.rising,if_neg (Z9 c hc)];exact hd,hl⟩
 ·have hc:=(List.mem_filter.1 hc).1
  have:=I.Nj c hc hs Wp
  unfold qH at this ⊢
  rw[GO I.rising,if_neg (Z9 c hc)]
  exact this
 ·have:=List.length_filter_le (fun c:Qj=>c.iD != id) T
  have:=I.len
  unfold Vb
  omega
theorem JD.set {x:Qj} (h:kP T x=0):JD (Kn T x):=by
 unfold kP at h
 by_cases h0:JN x=0
 case neg=>rw[if_pos h0]at h;exact absurd h h0
 rw[if_neg (by simpa using h0)]at h
 cases h1:Qr T x.iD with
 | none=>rw[h1,if_pos (by rfl)]at h;cases h
 | some y=>
  rw[h1,if_neg (by simp)]at h
  simp only[Option.getD_some]at h
  by_cases h2:x.parent≠y.parent∨x.leaf≠y.leaf
  ·rw[if_pos h2]at h;cases h
  rw[if_neg h2]at h
  have sE:x.parent=y.parent:=Classical.byContradiction fun e=>h2 (.inl e)
  have h2b:x.leaf=y.leaf:=Classical.byContradiction fun e=>h2 (.inr e)
  by_cases h3:(1<QI x.ls∧V4 T x.parent=false)∨(¬ 1<QI x.ls∧(KZ T x.iD).any (qH T)=true)
  ·rw[if_pos h3]at h;cases h
  have QQ:=right_id h0
  have hym:=(KY I.rising).1 h1
  have I2:=I.toTreeInv.set h0 h1 sE
  have zz:∀p d,Qr T p=some d→∃d',Qr (Kn T x) p=some d'∧d'.leaf=d.leaf:=fun p d hd=>by
   rw[js I.rising]
   by_cases hp:p=x.iD
   ·rw[if_pos hp]
    rw[hp,h1]at hd;cases hd
    exact⟨x,rfl,h2b⟩
   ·rw[if_neg hp];exact⟨d,hd,rfl⟩
  refine⟨I2,fun c hc=>?_,fun c hc Wp=>?_,fun c hc hs Wp=>?_,?_⟩
  ·rcases jt I.rising x hc with rfl|hc
   ·exact h0
   ·exact I.right c hc
  ·have:∃d,Qr T c.parent=some d∧d.leaf=false:=by
    rcases jt I.rising x hc with rfl|hc
    ·rw[sE]at Wp ⊢
     exact I.XN y hym.1 Wp
    ·exact I.XN c hc Wp
   obtain⟨d,hd,hl⟩:=this
   obtain⟨d',h4,h5⟩:=zz _ d hd
   exact⟨d',h4,by rw[h5,hl]⟩
  ·unfold qH
   rw[js I.rising]
   by_cases hp:c.parent=x.iD
   ·rw[if_pos hp]
    simp only[Option.getD_some,decide_eq_true_eq]
    refine Classical.byContradiction fun hx=>h3 (.inr ⟨hx,?_⟩)
    rcases jt I.rising x hc with rfl|hc
    ·exact absurd hs hx
    ·rw[List.any_eq_true]
     refine⟨c.iD,List.mem_map.2 ⟨c,List.mem_filter.2 ⟨hc,by simpa using hp⟩,rfl⟩,?_⟩
     unfold qH
     rw[(KY I.rising).2 ⟨hc,rfl⟩]
     simpa using hs
   ·rw[if_neg hp]
    rcases jt I.rising x hc with rfl|hc
    ·have ZW:V4 T c.parent=true:=by
      rw[← Bool.not_eq_false];exact fun hf=>h3 (.inl ⟨hs,hf⟩)
     unfold V4 at ZW
     rw[Bool.or_eq_true]at ZW
     rcases ZW with ZW|ZW
     ·exact absurd (by simpa using ZW) Wp
     ·exact ZW
    ·exact I.Nj c hc hs Wp
  ·have:=Qmt I.rising h1
   have:=I.len
   omega
end
def qS (T:List Qj) (c:ZN):Int:=if c.kind=1 then kN T c.cls (up T c.cls.parent).length else if c.kind=3 then kP T c.cls else if c.kind=2 then kO T c.cls.iD else 1
def vg (T:List Qj) (c:ZN):List Qj:=if qS T c=0 then (if c.kind=2 then Vb T c.cls.iD else Kn T c.cls) else T
theorem JD.one {T:List Qj} (I:JD T) (c:ZN):JD (vg T c):=by
 unfold vg
 by_cases h:qS T c=0
 ·rw[if_pos h]
  unfold qS at h
  by_cases k1:c.kind=1
  ·rw[if_pos k1]at h
   rw[if_neg (by omega)]
   exact I.add h
  ·rw[if_neg k1]at h
   by_cases k3:c.kind=3
   ·rw[if_pos k3]at h
    rw[if_neg (by omega)]
    exact I.set h
   ·rw[if_neg k3]at h
    by_cases k2:c.kind=2
    ·rw[if_pos k2]at h ⊢
     unfold kO at h
     by_cases h1:(Qr T c.cls.iD).isNone=true
     ·rw[if_pos h1]at h;cases h
     ·rw[if_neg h1]at h
      by_cases h2:KZ T c.cls.iD≠[]
      ·rw[if_pos h2]at h;cases h
      ·exact I.del (Classical.byContradiction h2)
    ·rw[if_neg k2]at h;cases h
 ·rw[if_neg h];exact I
theorem KI.toS {S:Nat→Prop} {h h':List Ob} {t m:Nat} {L:List Qj} (A:KI h t m L h') (st:S t) (sm:S m):Ke S h' t L∧Step S h h':=by
 obtain⟨⟨c,es,h1,h2,h3⟩,hl,ho⟩:=A
 exact⟨⟨m,c,es,h1,h2,h3,st,sm⟩,⟨fun l h4 h5=>ho l h4 (fun e=>h5 (e▸sm)),hl⟩⟩
section
variable {S:Nat→Prop} {h:List Ob} {t:Nat} {T:List Qj} (R:Ke S h t T) (I:JD T)
include R I
theorem Qmw (x:Qj):QH prog 183 h [.ptr t 0 0 0,Vw x] (fun d h'=>d=Qb (kN T x (up T x.parent).length)∧Ke S h' t (if kN T x (up T x.parent).length=0 then Kn T x else T)∧Step S h h'):=by
 obtain⟨m,c,es,h1,h2,h3,h4,h5⟩:=R
 have:=I.len
 exact QH.mono (Qj9 h t m c h3 h1 h2 x 16 (by decide) (I.ends _)) fun d h' ⟨e,A⟩=>⟨e,A.toS h4 h5⟩
theorem Qmx (x:Qj):QH prog 184 h [.ptr t 0 0 0,Vw x] (fun d h'=>d=Qb (kP T x)∧Ke S h' t (if kP T x=0 then Kn T x else T)∧Step S h h'):=by
 obtain⟨m,c,es,h1,h2,h3,h4,h5⟩:=R
 have:=I.len
 exact QH.mono (Qkf h t m c h3 (by omega) h1 h2 x) fun d h' ⟨e,A⟩=>⟨e,A.toS h4 h5⟩
theorem Qmy (id:Int):QH prog 186 h [.ptr t 0 0 0,Qb id] (fun d h'=>d=Qb (kO T id)∧Ke S h' t (if kO T id=0 then Vb T id else T)∧Step S h h'):=by
 obtain⟨m,c,es,h1,h2,h3,h4,h5⟩:=R
 have:=I.len
 exact QH.mono (Qka h t m c h3 (by omega) h1 h2 id) fun d h' ⟨e,A⟩=>⟨e,A.toS h4 h5⟩
end
theorem Ke.app {S:Nat→Prop} {h:List Ob} {t:Nat} {T:List Qj} (R:Ke S h t T) (g:List Ob):Ke (fun l=>S l∧l<h.length) (h++g) t T:=R.step fun l hl hs=>⟨⟨hs,hl⟩,QU hl⟩
theorem Qmz {S:Nat→Prop} {h:List Ob} {t tb:Nat} {T:List Qj} (R:Ke S h t T) (I:JD T) (x:Qj) (Zf:h[tb]? = some ⟨.one,0,1,1,fun _=>[.ptr t 0 0 0]⟩):QH prog 185 h [Vw x,.ptr tb 0 0 0] (fun d h'=>d=Qb (kO T x.iD)∧Ke S h' t (if kO T x.iD=0 then Vb T x.iD else T)∧Step S h h'):=by
 refine QX Qe 200 func185 rfl ntmps185 results185 rfl fun base w pl hb=>?_
 have qI:=Qd Zf
 simp only[go_sem,simprocAttr,Qa,Zf,qI]
 refine QT hb Qi6 rfl ?_ (Qmy (R.app _) I x.iD) rfl fun d h hR=>?_
 ·simp only[go_sem,simprocAttr,Qa,Zf,qI]
 obtain⟨rfl,R6,s6⟩:=hR
 refine Qc hb ?_
 simp only[go_sem,simprocAttr,Qa,Zf,qI]
 exact⟨R6.step fun l _ hs=>⟨hs.1,rfl⟩,⟨fun l h1 h2=>(s6.keep l (by simp;omega) (fun h3=>h2 h3.1)).trans (QU h1),by have:=s6.len;simp at this;omega⟩⟩
theorem QmA {S:Nat→Prop} {h:List Ob} {t:Nat} {T:List Qj} (R:Ke S h t T) (I:JD T) (x:ZN):QH prog 128 h [.ptr t 0 0 0,.agg x.cells] (fun d h'=>d=Qb (qS T x)∧Ke S h' t (vg T x)∧Step S h h'):=by
 have fin:∀{g h6:List Ob} {T':List Qj},Ke (fun l=>S l∧l<h.length) h6 t T'→Step (fun l=>S l∧l<h.length) (h++g) h6→Ke S h6 t T'∧Step S h h6:=fun {g h6 T'} R6 s6=>
  ⟨R6.step fun l _ hs=>⟨hs.1,rfl⟩,⟨fun l h1 h2=>(s6.keep l (by simp;omega) (fun h3=>h2 h3.1)).trans (QU h1),by have:=s6.len;simp at this;omega⟩⟩
 unfold vg qS
 by_cases k1:x.kind=1
 ·have d1:(x.kind==1)=true:=by simpa using k1
  simp only[if_pos k1,if_neg (show ¬ x.kind=2 by omega)]
  refine QX Qe 200 func128 rfl ntmps128 results128 rfl fun base w pl hb=>?_
  simp only[go_sem,simprocAttr,Qa,d1]
  refine QT hb Qi3 rfl ?_ (Qmw (R.app _) I x.cls) rfl fun d h hR=>?_
  ·simp only[go_sem,simprocAttr]
  obtain⟨rfl,R6,s6⟩:=hR
  refine Qc hb ?_
  simp only[go_sem,simprocAttr]
  exact fin R6 s6
 ·have d1:(x.kind==1)=false:=by simpa using k1
  simp only[if_neg k1]
  by_cases k3:x.kind=3
  ·have d3:(x.kind==3)=true:=by simpa using k3
   simp only[if_pos k3,if_neg (show ¬ x.kind=2 by omega)]
   refine QX Qe 200 func128 rfl ntmps128 results128 rfl fun base w pl hb=>?_
   simp only[go_sem,simprocAttr,Qa,d1,d3]
   refine QT hb Qi4 rfl ?_ (Qmx (R.app _) I x.cls) rfl fun d h hR=>?_
   ·simp only[go_sem,simprocAttr]
   obtain⟨rfl,R6,s6⟩:=hR
   refine Qc hb ?_
   simp only[go_sem,simprocAttr]
   exact fin R6 s6
  ·have d3:(x.kind==3)=false:=by simpa using k3
   simp only[if_neg k3]
   by_cases k2:x.kind=2
   ·have d2:(x.kind==2)=true:=by simpa using k2
    simp only[if_pos k2]
    refine QX Qe 200 func128 rfl ntmps128 results128 rfl fun base w pl hb=>?_
    simp only[go_sem,simprocAttr,Qa,d1,d2,d3]
    refine QT hb Qi5 rfl ?_ (Qmz (tb:=h.length) (R.app _) I x.cls (Kc rfl)) rfl fun d h hR=>?_
    ·simp only[go_sem,simprocAttr]
    obtain⟨rfl,R6,s6⟩:=hR
    refine Qc hb ?_
    simp only[go_sem,simprocAttr]
    exact fin R6 s6
   ·have d2:(x.kind==2)=false:=by simpa using k2
    simp only[if_neg k2]
    refine QX Qe 200 func128 rfl ntmps128 results128 rfl fun base w pl hb=>?_
    simp only[go_sem,simprocAttr,Qa,d1,d2,d3]
    exact⟨R.step fun l hl hs=>⟨hs,QU hl⟩,Step.app S h _⟩
end Go.Fg.X
namespace Go.Fg
open Go.RowKit (Below)
section
variable {P:Program} {L:Zh} {base nt:Nat} {s:St} {o:Oper} {t:TypeId} {x i:Operand}
theorem G5 (hL:Zw P L) {v:Operand} (ho:o.op=.insert t x i v) {p:Prop} {h':List Ob} (h:yT L s.h t (Qq s.fr x) (Qq s.fr i) (Qq s.fr v)=some (p,h')) (hp:p):∀(Z:Nat→Prop) pl a w,Rel Z base nt s pl a w→base≤w.heap.size→∃v w' Qi,((execOp a.eval o).run P w=.ok (.value v) w'∨((execOp a.eval o).run P w=.ok .skip w'∧v=Go.undef))∧Tr s.h pl w h' Qi w'∧QW Z base h' Qi w'∧Qv Z h' Qi w' .undef v∧Below base w w'∧XF w w':=by
 have h1:=cI (P:=P) (base:=base) (nt:=nt) (o:=⟨o.dst,.mapUpdate t x i v,o.type,o.pos,o.after,o.guard⟩) hL rfl h hp
 intro Z pl a w r hb
 obtain⟨u,w',Qi,h2,h3⟩:=h1 Z pl a w r hb
 have e:execOp a.eval ⟨o.dst,.mapUpdate t x i v,o.type,o.pos,o.after,o.guard⟩=execOp a.eval o:=by simp [execOp,ho]
 rw[e]at h2
 exact⟨u,w',Qi,h2,h3⟩
end
section
variable {P:Program} {base nt:Nat} {w0:Start} {Q:Exit→St→Prop} {k:List Item} {s:St} {X:Cx}
theorem QmB {L:Zh} (hL:Zw P L) (QJ:base≤w0.w.heap.size) {K:St→Prop} {ty:TypeId} {pos:String} {after:Array Edge} {gd:Option (Nat × Bool)} {r:List (Bool × Oper × G)} {t:TypeId} {x i v:Operand} {p:Prop} {h':List Ob}
  (h:yT L s.h t (Qq s.fr x) (Qq s.fr i) (Qq s.fr v)=some (p,h')) (hp:p) (hk:AX P base nt w0 K r ⟨s.fr,h'⟩):AX P base nt w0 K ((false,⟨none,.insert t x i v,ty,pos,after,gd⟩,none)::r) s:=by
 simp only[AX,K8,W4]
 intro Z z pl a w rr b
 obtain⟨u,w',Qi,QV,hT,hO,hv,hb,hC⟩:=G5 (P:=P) (base:=base) (nt:=nt) (o:=⟨none,.insert t x i v,ty,pos,after,gd⟩) hL rfl h hp Z pl a w rr (Nat.le_trans QJ b.1.size)
 unfold Oper.wp
 rcases QV with QV|⟨QV,hu⟩
 ·rw[QV]
  simp only[Oper.upon_value]
  exact⟨hC,.undef,_,Qi,u,hk,rr.zY hT hO u,b.step hT hb,hT,rfl⟩
 ·rw[QV]
  simp only[Oper.upon_skip]
  exact⟨hC,.undef,_,Qi,_,hk,rr.zY hT hO _,b.step hT hb,hT,rfl⟩
theorem QmC {L:Zh} (hL:Zw P L) (QJ:base≤w0.w.heap.size) {K:St→Prop} {ty0:TypeId} {pos:String} {after:Array Edge} {gd:Option (Nat × Bool)} {r:List (Bool × Oper × G)} {t kt et a b a' b':Nat} {zt zt':List Value} {x i v:Operand} {q:IntKind} {l c:Nat} {es:List QM} {n:Int}
  (ht:ty L t=some ⟨.map kt et,a,b,zt⟩) (YM:ty L kt=some ⟨.int q,a',b',zt'⟩) (hx:Qq s.fr x=.mref l 0) (hi:Qq s.fr i=.raw (.int q n)) (ho:s.h[l]? = some (QG q c es))
  (hk:AX P base nt w0 K r ⟨s.fr,s.h.set l (Ka q c es n (Qq s.fr v))⟩):AX P base nt w0 K ((false,⟨none,.insert t x i v,ty0,pos,after,gd⟩,none)::r) s:=by
 refine QmB hL QJ (h':=s.h.set l (Ka q c es n (Qq s.fr v))) (p:=IsMap q (QG q c es)∧q=q∧0=0∧(QG q c es).kd.ro=false) ?_ ⟨?_,rfl,rfl,rfl⟩ hk
 ·rw[hx,hi]
  simp only[yT,ht,YM,ho]
  rw[PK,PL]
 ·exact(cD q c es).mpr trivial
theorem wB (s1:St) {id:Nat} {ops:Array Oper} (hX:W0 P X) (hb:base≤w0.w.heap.size) (hm:P.follows .mixedOrders=true) (l:List (Nat × Bool)) (R:List Nat) (hB:xD [] X.L ops l R=true) (hU:xC ops s.fr=true)
  (Ae:∀s,Qk w0 s s1→Qs P base nt w0 Q k .normal s) (h:Jh P base w0 X nt (y6 P base w0 X nt (fun s=>Qk w0 s s1) R.length (Yf [] ops R) (l.map (·.1))) (JW [] ops l) s):Qs P base nt w0 Q (.code (.region id ops true)::k) .normal s:=by
 have hR:R.Nodup:=by
  simp only[xD,Bool.and_eq_true]at hB
  exact(Mt hB.1.2).1
 exact dX hX.L hb hm l R hB hU (AX.mono (fun s hs=>Rl hX hb (fun s hs=>Ae s hs) _ _ _ s hR hs) _ _ (xE hX hb _ _ h))
end
section
variable {P:Program} {L:Zh} {base nt:Nat} {w0:Start} {Q:Exit→St→Prop}
end
end Go.Fg
namespace Go.Fg
section
variable {P:Program} {base nt:Nat} {w0:Start} {Q:Exit→St→Prop} {k:List Item} {s:St}
def NU (P:Program) (base nt:Nat) (w0:Start) (Q:Exit→St→Prop) (k:List Item) (T:St→Prop):Exit→St→Prop
 | .normal,s=>∃s1,T s1∧Qk w0 s s1
 | e,s=>Qs P base nt w0 Q k e s
variable {T:St→Prop}
@[go_sem] theorem Qun:NU P base nt w0 Q k T .normal s=∃s1,T s1∧Qk w0 s s1:=JC rfl
@[go_sem] theorem Quo {j:Nat}:NU P base nt w0 Q k T (.exit j) s=Qs P base nt w0 Q k (.exit j) s:=JC rfl
@[go_sem] theorem Qup:NU P base nt w0 Q k T .ret s=Qs P base nt w0 Q k .ret s:=JC rfl
theorem Hq {x:Item} {c:Code} (T:St→Prop) (h1:Qs P base nt w0 (NU P base nt w0 Q (.code c::k) T) [x] .normal s) (h2:∀s1,T s1→Qs P base nt w0 Q (.code c::k) .normal s1):Qs P base nt w0 Q (x::.code c::k) .normal s:=by
 have key:∀s',(∃s1,T s1∧Qk w0 s' s1)→Qs P base nt w0 Q (.code c::k) .normal s':=fun s' ⟨s1,ht,hw⟩=>xu hw (h2 s1 ht)
 cases x with
 | code x=>
  simp only[Qs]at h1
  show A P base nt w0 x _ s
  refine h1.mono fun e s' he=>?_
  cases e with
  | normal=>exact key _ he
  | _=>exact he
 | ops l=>
  simp only[Qs]at h1
  show AG P base nt w0 l _ s
  intro Z z pl a w r b
  refine MY (fun e a' w' ⟨s',Qi,hs,r',b'⟩=>⟨s',Qi,?_,r',b'⟩) _ _ _ (h1 Z z pl a w r b)
  cases e with
  | normal=>exact key _ hs
  | _=>exact hs
 | inBlock id=>simp only[Qs]at h1 ⊢;exact key _ h1
 | inScope=>simp only[Qs]at h1 ⊢;exact key _ h1
end
def Hr:List Item→Bool
 | .inBlock _::k=>Hr k
 | .inScope::k=>Hr k
 | .code _::_=>true
 | .ops _::_=>true
 | []=>false
theorem jD {P:Program} {base nt:Nat} {w0:Start} {Q:Exit→St→Prop} {s s':St} (h:Qk w0 s s'):∀{k:List Item},Hr k=true→Qs P base nt w0 Q k .normal s'→Qs P base nt w0 Q k .normal s
 | [],hc,_=>by cases hc
 | .code c::k,_,hk=>xu h hk
 | .ops l::k,_,hk=>Mx h hk
 | .inBlock n::k,hc,hk=>by
  rw[Hr]at hc
  simp only[Qs]at hk ⊢
  exact jD h hc hk
 | .inScope::k,hc,hk=>by
  rw[Hr]at hc
  simp only[Qs]at hk ⊢
  exact jD h hc hk
end Go.Fg
namespace Go.Fg.X
open Go.Proofs Go.Fg
open Go.Proofs.Tryz
@[go_sem] def uI (n:Int):D:=.raw (.int .u64 n)
def Qo (x y:Int):Bool:=decide (x<y)
def vh (d:Array Int):Nat→List D:=fun i=>[uI d[i]!]
@[go_sem] theorem Quq (d:Array Int) (i:Nat):vh d i=[uI d[i]!]:=rfl
@[go_sem] def QR (g:Nat) (d:Array Int):Ob:=⟨.arr,g,1,d.size,vh d⟩
structure Qur (h h':List Ob) (lo:Nat) (o:Ob):Prop where
 at_:h'[lo]? = some o
 JP:∀l,l<h.length→l≠lo→h'[l]? = h[l]?
 len:h.length≤h'.length
theorem QmE (x:Int):Q8 prog 307 [uI x] (Ql (QN false)):=by
 refine Zb 0 Qe 200 func307 rfl ntmps307 results307 rfl fun base w hb=>?_
 simp only[go_sem,simprocAttr]
 simp only[go_sem,simprocAttr,bne_self_eq_false]
theorem Y7 (x y:Int):Q8 prog 299 [uI x,uI y] (Ql (QN (Qo x y))):=by
 refine Zb 0 Qe 200 func299 rfl ntmps299 results299 rfl fun base w hb=>?_
 simp only[go_sem,simprocAttr]
 refine QE hb QjD rfl ?_ (QmE x) (Ql.flat rfl) rfl fun d h hR=>?_
 ·simp only[go_sem,simprocAttr,Go.undef]
 obtain⟨rfl,rfl⟩:=hR
 refine Qc hb ?_
 simp only[go_sem,simprocAttr,Go.undef]
 unfold Qo
 rfl
theorem Y8 {h:List Ob} {l:Nat} {o:Ob} (e:h[l]? = some o):h.set l o=h:=List.ext_getElem? fun i=>by
 by_cases c:l=i
 ·subst c;rw[Qw (Qd e),e]
 ·rw[Qt c]
@[go_sem] def EI (n:Nat):Ob:=⟨.one,0,1,1,fun _=>[Qb n]⟩
section
variable {h:List Ob} {lo g:Nat} {d:Array Int} (ho:h[lo]? = some (QR g d))
include ho
theorem TG {sp:Nat} (s:Nat) (XY:h[sp]? = some (EI s)) (QD:sp≠lo) (a b:Nat) (ha:a<d.size) (Zf:b<d.size) (hs:s<1000000) :
  QH prog 308 h [.ref lo g 0 d.size,Qb a,Qb b,.ptr sp 0 0 0] (fun dd h'=>dd=.tup [Qb (Sort.order2 Qo d a b s).1,Qb (Sort.order2 Qo d a b s).2.1]∧h'=h.set sp (EI (Sort.order2 Qo d a b s).2.2)):=by
 have Q3:=JX (show s<4611686018427387904 by omega)
 unfold Sort.order2
 refine QX Qe 200 func308 rfl ntmps308 results308 rfl fun base w pl hb=>?_
 have Qf:=Qd ho
 have qa:=Qd XY
 simp only[go_sem,simprocAttr,Qa,ho,Qf,XY,qa]
 refine QA Qe hb 200 mixed [(0,true),(1,true),(2,true),(3,true),(4,true),(5,true),(6,true),(7,true),(8,false)] (by kernel_rfl) (by kernel_rfl) ?_
 simp only[go_sem,simprocAttr,ho,Qf,ha,Zf]
 refine Zt hb YS rfl ?_ (Y7 d[b]! d[a]!) (Ql.flat rfl) rfl fun d h hR=>?_
 ·simp only[go_sem,simprocAttr]
 obtain⟨rfl,rfl⟩:=hR
 refine QF hb ?_
 simp only[go_sem,simprocAttr]
 cases hl:Qo d[b]! d[a]!
 ·simp only[go_sem,simprocAttr,hl]
  exact(Y8 XY).symm
 ·simp only[go_sem,simprocAttr,hl,XY,qa,Q3]
theorem sF (a b s:Nat) (ha:a<d.size) (hb:b<d.size):(Sort.order2 Qo d a b s).1<d.size∧(Sort.order2 Qo d a b s).2.1<d.size∧(Sort.order2 Qo d a b s).2.2≤s+1:=by
 have _hu:=ho
 unfold Sort.order2
 split<;>simp_all
theorem TH {sp:Nat} (s:Nat) (XY:h[sp]? = some (EI s)) (QD:sp≠lo) (a b c:Nat) (ha:a<d.size) (Zf:b<d.size) (Ed:c<d.size) (hs:s<900000) :
  QH prog 306 h [.ref lo g 0 d.size,Qb a,Qb b,Qb c,.ptr sp 0 0 0] (fun dd h'=>dd=Qb (Sort.median Qo d a b c s).1∧h'=h.set sp (EI (Sort.median Qo d a b c s).2)):=by
 have q1:=sF ho a b s ha Zf
 have q2:=sF ho (Sort.order2 Qo d a b s).2.1 c (Sort.order2 Qo d a b s).2.2 q1.2.1 Ed
 have qa:=Qd XY
 have g1:∀o,(h.set sp o)[lo]? = some (QR g d):=fun o=>(Qt QD).trans ho
 have g2:∀o,(h.set sp o)[sp]? = some o:=fun o=>Qw qa
 unfold Sort.median
 refine QX Qe 200 func306 rfl ntmps306 results306 rfl fun base w pl hb=>?_
 have Qf:=Qd ho
 have qa:=Qd XY
 simp only[go_sem,simprocAttr,Qa,ho,Qf,XY,qa]
 refine QT hb RU rfl ?_ (TG ho s XY QD a b ha Zf (by omega)) rfl fun d h hR=>?_
 ·simp only[go_sem,simprocAttr]
 obtain⟨rfl,rfl⟩:=hR
 refine Qc hb ?_
 simp only[go_sem,simprocAttr]
 refine QT hb RU rfl ?_ (TG (g1 _) _ (g2 _) QD _ c q1.2.1 Ed (by omega)) rfl fun d h hR=>?_
 ·simp only[go_sem,simprocAttr,List.set_set]
 obtain⟨rfl,rfl⟩:=hR
 refine Qc hb ?_
 simp only[go_sem,simprocAttr,List.set_set]
 refine QT hb RU rfl ?_ (TG (g1 _) _ (g2 _) QD _ _ q1.1 q2.1 (by omega)) rfl fun d h hR=>?_
 ·simp only[go_sem,simprocAttr,List.set_set]
 obtain⟨rfl,rfl⟩:=hR
 refine Qc hb ?_
 simp only[go_sem,simprocAttr,List.set_set]
theorem TI {sp:Nat} (s:Nat) (XY:h[sp]? = some (EI s)) (QD:sp≠lo) (a:Nat) (ha:1≤a) (Zf:a+1<d.size) (hs:s<900000) (hz:d.size<1000000000) :
  QH prog 305 h [.ref lo g 0 d.size,Qb a,.ptr sp 0 0 0] (fun dd h'=>dd=Qb (Sort.medianAdjacent Qo d a s).1∧h'=h.set sp (EI (Sort.medianAdjacent Qo d a s).2)):=by
 have e1:IntKind.i64.wrap ((a:Int) - 1)=((a - 1:Nat):Int):=by rw[wrap64 (by omega) (by omega)];omega
 have e2:IntKind.i64.wrap ((a:Int)+1)=((a+1:Nat):Int):=by rw[wrap64 (by omega) (by omega)];omega
 unfold Sort.medianAdjacent
 refine QX Qe 200 func305 rfl ntmps305 results305 rfl fun base w pl hb=>?_
 have Qf:=Qd ho
 have qa:=Qd XY
 simp only[go_sem,simprocAttr,Qa,ho,Qf,XY,qa,e1,e2]
 refine QT hb RS rfl ?_ (TH ho s XY QD (a - 1) a (a+1) (by omega) (by omega) (by omega) hs) rfl fun d h hR=>?_
 ·simp only[go_sem,simprocAttr]
 obtain⟨rfl,rfl⟩:=hR
 refine Qc hb ?_
 simp only[go_sem,simprocAttr]
end
theorem TJ {d:Array Int} (a b c s:Nat) (ha:a<d.size) (hb:b<d.size) (hc:c<d.size):(Sort.median Qo d a b c s).1<d.size∧(Sort.median Qo d a b c s).2≤s+3:=by
 unfold Sort.median Sort.order2
 dsimp only
 repeat' split
 all_goals simp_all
def x9:Sort.Hint→Nat
 | .unknown=>0
 | .increasing=>1
 | .decreasing=>2
def TL (r:Nat × Nat):Nat × Sort.Hint:=(r.1,if r.2=0 then .increasing else if r.2=12 then .decreasing else .unknown)
section
variable (d:Array Int) (a b:Nat)
def Z5 (k:Nat):Nat:=a+(b - a) / 4*k
def ya:Nat × Nat:=Sort.medianAdjacent Qo d (Z5 a b 1) 0
def yc:Nat × Nat:=Sort.medianAdjacent Qo d (Z5 a b 2) (ya d a b).2
def Ch:Nat × Nat:=Sort.medianAdjacent Qo d (Z5 a b 3) (yc d a b).2
def sG:Nat × Nat:=Sort.median Qo d (ya d a b).1 (yc d a b).1 (Ch d a b).1 (Ch d a b).2
def sH:Nat × Nat:=Sort.median Qo d (Z5 a b 1) (Z5 a b 2) (Z5 a b 3) 0
def sI:Nat × Nat:=if b - a ≥ 8 then (if b - a ≥ 50 then sG d a b else sH d a b) else (Z5 a b 2,0)
theorem QmF:Sort.choosePivot Qo d a b=TL (sI d a b):=rfl
end
section
variable {h:List Ob} {lo g:Nat} {d:Array Int} (ho:h[lo]? = some (QR g d))
include ho
theorem QmG (a b:Nat) (J3:a<b) (Zf:b≤d.size) (hz:d.size<1000000000) :
  QH prog 296 h [.ref lo g 0 d.size,Qb a,Qb b] (fun dd h'=>dd=.tup [Qb (Sort.choosePivot Qo d a b).1,Qb (x9 (Sort.choosePivot Qo d a b).2)]∧∃t,h'=h++t):=by
 have e0:IntKind.i64.wrap ((b:Int) - a)=((b - a:Nat):Int):=by rw[wrap64 (by omega) (by omega)];omega
 have w0:∀n:Nat,n<1000000000→IntKind.i64.wrap (n:Int)=n:=fun n hn=>wrap64 (by omega) (by omega)
 have e1:IntKind.i64.wrap (((b - a) / 4:Nat)*(1:Int))=(((b - a) / 4*1:Nat):Int):=by rw[wrap64 (by omega) (by omega)];omega
 have e2:IntKind.i64.wrap (((b - a) / 4:Nat)*(2:Int))=(((b - a) / 4*2:Nat):Int):=by rw[wrap64 (by omega) (by omega)];omega
 have e3:IntKind.i64.wrap (((b - a) / 4:Nat)*(3:Int))=(((b - a) / 4*3:Nat):Int):=by rw[wrap64 (by omega) (by omega)];omega
 have f1:IntKind.i64.wrap ((a:Int)+((b - a) / 4*1:Nat))=((Z5 a b 1:Nat):Int):=by unfold Z5;rw[wrap64 (by omega) (by omega)];omega
 have f2:IntKind.i64.wrap ((a:Int)+((b - a) / 4*2:Nat))=((Z5 a b 2:Nat):Int):=by unfold Z5;rw[wrap64 (by omega) (by omega)];omega
 have f3:IntKind.i64.wrap ((a:Int)+((b - a) / 4*3:Nat))=((Z5 a b 3:Nat):Int):=by unfold Z5;rw[wrap64 (by omega) (by omega)];omega
 have f0:IntKind.i64.wrap (((b - a:Nat):Int).tdiv 4)=(((b - a) / 4:Nat):Int):=by rw[show ((b - a:Nat):Int).tdiv 4=(((b - a) / 4:Nat):Int) from rfl,wrap64 (by omega) (by omega)]
 refine QX Qe 200 func296 rfl ntmps296 results296 rfl fun base w pl hb=>?_
 have Qf:=Qd ho
 simp only[go_sem,simprocAttr,Qa,ho,Qf,e0,f0,e1,e2,e3,f1,f2,f3]
 have g1:∀o:Ob,(h++[o])[lo]? = some (QR g d):=fun o=>by rw[List.getElem?_append_left Qf];exact ho
 have g2:∀o:Ob,(h++[o])[h.length]? = some o:=fun o=>by simp
 have g3:∀o o':Ob,(h++[o]).set h.length o'=h++[o']:=fun o o'=>by rw[MG rfl];rfl
 have QD:h.length≠lo:=by omega
 rw[QmF]
 unfold sI
 by_cases c8:b - a ≥ 8
 ·rw[if_pos c8]
  have d8:decide ((8:Int)≤(b - a:Nat))=true:=decide_eq_true (by omega)
  by_cases Hs:b - a ≥ 50
  ·rw[if_pos Hs]
   have d50:decide ((50:Int)≤(b - a:Nat))=true:=decide_eq_true (by omega)
   simp only[go_sem,simprocAttr,d8,d50]
   have q1:(ya d a b).1<d.size∧(ya d a b).2≤3:=by unfold ya;exact TJ _ _ _ _ (by unfold Z5;omega) (by unfold Z5;omega) (by unfold Z5;omega)
   have q2:(yc d a b).1<d.size∧(yc d a b).2≤(ya d a b).2+3:=by unfold yc;exact TJ _ _ _ _ (by unfold Z5;omega) (by unfold Z5;omega) (by unfold Z5;omega)
   have q3:(Ch d a b).1<d.size∧(Ch d a b).2≤(yc d a b).2+3:=by unfold Ch;exact TJ _ _ _ _ (by unfold Z5;omega) (by unfold Z5;omega) (by unfold Z5;omega)
   refine QT hb RR rfl ?_ (TI (g1 _) 0 (g2 _) QD (Z5 a b 1) (by unfold Z5;omega) (by unfold Z5;omega) (by omega) hz) rfl fun d h hR=>?_
   ·simp only[go_sem,simprocAttr,g3]
   obtain⟨rfl,rfl⟩:=hR
   refine Qc hb ?_
   simp only[go_sem,simprocAttr,g3]
   refine QT hb RR rfl ?_ (TI (g1 _) (ya d a b).2 (g2 _) QD (Z5 a b 2) (by unfold Z5;omega) (by unfold Z5;omega) (by omega) hz) rfl fun d h hR=>?_
   ·simp only[go_sem,simprocAttr,g3]
   obtain⟨rfl,rfl⟩:=hR
   refine Qc hb ?_
   simp only[go_sem,simprocAttr,g3]
   refine QT hb RR rfl ?_ (TI (g1 _) (yc d a b).2 (g2 _) QD (Z5 a b 3) (by unfold Z5;omega) (by unfold Z5;omega) (by omega) hz) rfl fun d h hR=>?_
   ·simp only[go_sem,simprocAttr,g3]
   obtain⟨rfl,rfl⟩:=hR
   refine Qc hb ?_
   simp only[go_sem,simprocAttr,g3]
   refine QT hb RS rfl ?_ (TH (g1 _) (Ch d a b).2 (g2 _) QD (Sort.medianAdjacent Qo d (Z5 a b 1) 0).1 (Sort.medianAdjacent Qo d (Z5 a b 2) (ya d a b).2).1 (Sort.medianAdjacent Qo d (Z5 a b 3) (yc d a b).2).1 q1.1 q2.1 q3.1 (by omega)) rfl fun d h hR=>?_
   ·simp only[go_sem,simprocAttr,g3]
   obtain⟨rfl,rfl⟩:=hR
   refine Qc hb ?_
   simp only[go_sem,simprocAttr,g3]
   generalize hr:Sort.median Qo d (Sort.medianAdjacent Qo d (Z5 a b 1) 0).1 (Sort.medianAdjacent Qo d (Z5 a b 2) (ya d a b).2).1 (Sort.medianAdjacent Qo d (Z5 a b 3) (yc d a b).2).1 (Ch d a b).2=r
   have TM:sG d a b=r:=hr
   rw[TM]
   simp only[go_sem,simprocAttr,g2]
   unfold TL
   by_cases z0:r.2=0
   ·have z1:((r.2:Int)==0)=true:=by rw[z0];rfl
    simp only[go_sem,simprocAttr,z1,z0]
    exact⟨rfl,_,rfl⟩
   ·have z1:((r.2:Int)==0)=false:=beq_eq_false_iff_ne.mpr (by omega)
    by_cases z12:r.2=12
    ·have z2:((r.2:Int)==12)=true:=by rw[z12];rfl
     simp only[go_sem,simprocAttr,z1,z2,z0,z12]
     exact⟨rfl,_,rfl⟩
    ·have z2:((r.2:Int)==12)=false:=beq_eq_false_iff_ne.mpr (by omega)
     simp only[go_sem,simprocAttr,z1,z2,z0,z12]
     exact⟨rfl,_,rfl⟩
  ·rw[if_neg Hs]
   have d50:decide ((50:Int)≤(b - a:Nat))=false:=decide_eq_false (by omega)
   simp only[go_sem,simprocAttr,d8,d50]
   refine QT hb RS rfl ?_ (TH (g1 _) 0 (g2 _) QD (Z5 a b 1) (Z5 a b 2) (Z5 a b 3) (by unfold Z5;omega) (by unfold Z5;omega) (by unfold Z5;omega) (by omega)) rfl fun d h hR=>?_
   ·simp only[go_sem,simprocAttr,g3]
   obtain⟨rfl,rfl⟩:=hR
   refine Qc hb ?_
   simp only[go_sem,simprocAttr,g3]
   generalize hr:Sort.median Qo d (Z5 a b 1) (Z5 a b 2) (Z5 a b 3) 0=r
   have TM:sH d a b=r:=hr
   rw[TM]
   simp only[go_sem,simprocAttr,g2]
   unfold TL
   by_cases z0:r.2=0
   ·have z1:((r.2:Int)==0)=true:=by rw[z0];rfl
    simp only[go_sem,simprocAttr,z1,z0]
    exact⟨rfl,_,rfl⟩
   ·have z1:((r.2:Int)==0)=false:=beq_eq_false_iff_ne.mpr (by omega)
    by_cases z12:r.2=12
    ·have z2:((r.2:Int)==12)=true:=by rw[z12];rfl
     simp only[go_sem,simprocAttr,z1,z2,z0,z12]
     exact⟨rfl,_,rfl⟩
    ·have z2:((r.2:Int)==12)=false:=beq_eq_false_iff_ne.mpr (by omega)
     simp only[go_sem,simprocAttr,z1,z2,z0,z12]
     exact⟨rfl,_,rfl⟩
 ·rw[if_neg c8]
  have d8:decide ((8:Int)≤(b - a:Nat))=false:=decide_eq_false (by omega)
  simp only[go_sem,simprocAttr,d8,g2]
  exact⟨rfl,_,rfl⟩
end
theorem Yx {h:List Ob} {lo g:Nat} {d:Array Int} (hl:lo<h.length):(h.set lo (QR g d))[lo]? = some (QR g d):=Qw hl
theorem swp_size (d:Array Int) (i j:Nat):(Sort.swp d i j).size=d.size:=by simp [Sort.swp]
theorem Xy (c:Bool) (x y:D):List.drop 1 (bif c then [x] else [y])=[]:=by cases c<;>rfl
theorem XZ (g:Nat) (d:Array Int) (i j n:Nat) (hn:d.size=n) (hi:i<n) (hj:j<n) :
  (⟨.arr,g,1,n,fun k=>bif k==j then [.raw (.int .u64 d[i]!)] else bif k==i then [.raw (.int .u64 d[j]!)] else [.raw (.int .u64 d[k]!)]⟩:Ob)=QR g (Sort.swp d i j):=by
 subst hn
 unfold QR
 congr 1
 ·exact(swp_size d i j).symm
 ·funext k
  unfold vh uI Sort.swp
  by_cases k1:k=j
  ·subst k1
   have e1:(k==k)=true:=beq_self_eq_true k
   by_cases k2:k=i
   ·subst k2;simp [hi]
   ·simp [hi,hj,k2,Ne.symm k2]
  ·by_cases k2:k=i
   ·subst k2
    have e1:(k==j)=false:=beq_eq_false_iff_ne.mpr k1
    simp [hi,hj,k1,Ne.symm k1,e1]
   ·have e1:(k==j)=false:=beq_eq_false_iff_ne.mpr k1
    have e2:(k==i)=false:=beq_eq_false_iff_ne.mpr k2
    rw[e1,e2]
    by_cases k3:k<d.size
    ·simp [k1,k2,k3,Ne.symm k1,Ne.symm k2,Array.getElem_setIfInBounds]
    ·simp [k1,k2,k3]
section
variable {h:List Ob} {lo g:Nat} {d:Array Int} (ho:h[lo]? = some (QR g d))
include ho
theorem QmH (a b:Nat) (J3:a<b) (Zf:b≤d.size) (hz:d.size<1000000000) :
  QH prog 297 h [.ref lo g 0 d.size,Qb a,Qb b] (fun dd h'=>dd=.tup []∧h'=h.set lo (QR g (Sort.reverseRange d a b))):=by
 have e0:IntKind.i64.wrap ((b:Int) - 1)=((b - 1:Nat):Int):=by rw[wrap64 (by omega) (by omega)];omega
 refine QX Qe 200 func297 rfl ntmps297 results297 rfl fun base w pl hb=>?_
 have Qf:=Qd ho
 simp only[go_sem,simprocAttr,Qa,ho,Qf,e0]
 refine Zv (fun k st=>∃d':Array Int,d'.size=d.size∧Sort.reverseLoop (a+k) (b - 1 - k) d'=Sort.reverseRange d a b∧a+k≤b - k∧st=⟨[(0,.ref lo g 0 d.size),(6,Qb (a+k:Nat)),(7,Qb (b - 1 - k:Nat))],h.set lo (QR g d')⟩) d.size (s0:=⟨[(0,.ref lo g 0 d.size),(6,Qb (a+0:Nat)),(7,Qb (b - 1 - 0:Nat))],h.set lo (QR g d)⟩) ?_ ⟨d,rfl,rfl,by omega,rfl⟩ ?_
 ·rw[Y8 ho]
  exact Qk.frame (by simp only[go_sem,simprocAttr,Nat.sub_zero])
 rintro k _ hk ⟨d',hs,hd,hi,rfl⟩
 have hl:=Yx (g:=g) (d:=d') Qf
 generalize hH:h.set lo (QR g d')=H at hl
 have Eb:=Qd hl
 by_cases c:a+k<b - 1 - k
 ·have c1:decide (a+k<b - 1 - k)=true:=decide_eq_true c
  have c2:a+k<d.size:=by omega
  have c3:b - 1 - k<d.size:=by omega
  refine Qc hb ?_
  simp only[go_sem,simprocAttr,Qa,hl,Eb,c1]
  refine QA Qe hb 200 mixed [(0,true),(1,true),(2,true),(3,true),(4,true),(5,true),(6,true),(7,true),(8,true),(9,true),(10,true),(11,true),(12,true),(13,false),(14,true),(15,false)] (by kernel_rfl) (by kernel_rfl) ?_
  simp only[go_sem,simprocAttr,Qa,hl,Eb,hs,c2,c3,Qw Eb,List.set_set,Xy]
  have v1:IntKind.i64.wrap (((a+k:Nat):Int)+1)=((a+(k+1):Nat):Int):=by rw[wrap64 (by omega) (by omega)];omega
  have v2:IntKind.i64.wrap (((b - 1 - k:Nat):Int) - 1)=((b - 1 - (k+1):Nat):Int):=by rw[wrap64 (by omega) (by omega)];omega
  rw[XZ g d' _ _ _ hs c2 c3,v1,v2]
  have JE:Sort.reverseLoop (a+(k+1)) (b - 1 - (k+1)) (Sort.swp d' (a+k) (b - 1 - k))=Sort.reverseRange d a b:=by
   rw[← hd]
   conv=>rhs;rw[Sort.reverseLoop,if_pos c]
   congr 1
  refine⟨by omega,_,?_,Sort.swp d' (a+k) (b - 1 - k),by rw[swp_size,hs],JE,by omega,rfl⟩
  rw[← hH,List.set_set]
  exact Qk.frame (by simp only[go_sem,simprocAttr])
 ·have c1:decide (a+k<b - 1 - k)=false:=decide_eq_false c
  refine Qc hb ?_
  simp only[go_sem,simprocAttr,Qa,hl,Eb,c1]
  rw[Sort.reverseLoop,if_neg c]at hd
  subst hH
  exact congrArg (fun x=>h.set lo (QR g x)) hd
end
theorem sJ (a:Nat):∀(j:Nat) (d:Array Int),(Sort.insInner Qo a j d).size=d.size
 | 0,d=>rfl
 | j+1,d=>by rw[Sort.insInner];split;rw[sJ a j,swp_size];rfl
section
variable {h:List Ob} {lo g:Nat} {d:Array Int} (ho:h[lo]? = some (QR g d))
include ho
theorem QmI (a b:Nat) (J3:a≤b) (Zf:b≤d.size) (hz:d.size<1000000000) :
  QH prog 293 h [.ref lo g 0 d.size,Qb a,Qb b] (fun dd h'=>dd=.tup []∧h'=h.set lo (QR g (Sort.insertionSort Qo d a b))):=by
 have e0:IntKind.i64.wrap ((a:Int)+1)=((a+1:Nat):Int):=by rw[wrap64 (by omega) (by omega)];omega
 refine QX Qe 200 func293 rfl ntmps293 results293 rfl fun base w pl hb=>?_
 have Qf:=Qd ho
 simp only[go_sem,simprocAttr,Qa,ho,Qf,e0]
 refine Zv (fun k st=>∃d':Array Int,d'.size=d.size∧Sort.insOuter Qo a b (a+1+k) d'=Sort.insertionSort Qo d a b∧a+1+k≤b+1∧st=⟨[(0,.ref lo g 0 d.size),(1,Qb a),(2,Qb b),(6,Qb (a+1+k:Nat))],h.set lo (QR g d')⟩) d.size (s0:=⟨[(0,.ref lo g 0 d.size),(1,Qb a),(2,Qb b),(6,Qb (a+1+0:Nat))],h.set lo (QR g d)⟩) ?_ ⟨d,rfl,rfl,by omega,rfl⟩ ?_
 ·rw[Y8 ho]
  exact Qk.frame (by simp only[go_sem,simprocAttr])
 rintro k _ hk ⟨d',hs,hd,hi,rfl⟩
 have hl:=Yx (g:=g) (d:=d') Qf
 by_cases c:a+1+k<b
 ·have c1:decide (a+1+k<b)=true:=decide_eq_true c
  refine Qc hb ?_
  simp only[go_sem,simprocAttr,Qa,hl,c1]
  refine Zv (fun m st=>∃(d1:Array Int) (j:Nat),d1.size=d.size∧j+m=a+1+k∧Sort.insInner Qo a j d1=Sort.insInner Qo a (a+1+k) d'∧a≤j∧st=⟨[(0,.ref lo g 0 d.size),(1,Qb a),(2,Qb b),(6,Qb (a+1+k:Nat)),(7,Qb j)],h.set lo (QR g d1)⟩) (a+1+k) (s0:=⟨[(0,.ref lo g 0 d.size),(1,Qb a),(2,Qb b),(6,Qb (a+1+k:Nat)),(7,Qb (a+1+k:Nat))],h.set lo (QR g d')⟩) (Qk.frame (by simp only[go_sem,simprocAttr])) ⟨d',_,hs,rfl,rfl,Nat.le_trans (Nat.le_succ a) (Nat.le_add_right _ _),rfl⟩ ?_
  rintro m _ hm ⟨d1,j,Zl,hj,ja,haj,rfl⟩
  have Zk:=Yx (g:=g) (d:=d1) Qf
  generalize hH:h.set lo (QR g d1)=H at Zk
  have Jp:=Qd Zk
  by_cases c2:a<j
  ·have c3:decide (a<j)=true:=decide_eq_true c2
   have v1:IntKind.i64.wrap ((j:Int) - 1)=((j - 1:Nat):Int):=by rw[wrap64 (by omega) (by omega)];omega
   have p1:j<d.size:=by omega
   have p2:j - 1<d.size:=by omega
   refine Qc hb ?_
   simp only[go_sem,simprocAttr,Qa,Zk,Jp,c3,v1]
   refine QA Qe hb 200 mixed [(0,true),(1,true),(2,true),(3,true),(4,true),(5,true),(6,true),(7,true),(8,true),(9,true),(10,true),(11,true),(12,true),(13,false),(14,true)] (by kernel_rfl) (by kernel_rfl) ?_
   simp only[go_sem,simprocAttr,Qa,Zk,Jp,c3,v1,p1,p2,Zl]
   refine Zt hb YS rfl ?_ (Y7 d1[j]! d1[j - 1]!) (Ql.flat rfl) rfl fun d h hR=>?_
   ·simp only[go_sem,simprocAttr]
   obtain⟨rfl,rfl⟩:=hR
   refine QF hb ?_
   simp only[go_sem,simprocAttr]
   have un:Sort.insInner Qo a j d1=if Qo d1[j]! d1[j - 1]! then Sort.insInner Qo a (j - 1) (Sort.swp d1 j (j - 1)) else d1:=by
    obtain⟨j',rfl⟩:∃j',j=j'+1:=⟨j - 1,by omega⟩
    rw[Sort.insInner]
    simp [show j'+1 > a from c2]
   cases NV:Qo d1[j]! d1[j - 1]!
   ·rw[NV,if_neg (by decide)]at un
    simp only[go_sem,simprocAttr,NV]
    refine Qc hb ?_
    simp only[go_sem,simprocAttr,Qa]
    have v2:IntKind.i64.wrap (((a+1+k:Nat):Int)+1)=((a+1+(k+1):Nat):Int):=by rw[wrap64 (by omega) (by omega)];omega
    rw[v2]
    have JE:Sort.insOuter Qo a b (a+1+(k+1)) d1=Sort.insertionSort Qo d a b:=by
     rw[← hd]
     conv=>rhs;rw[Sort.insOuter,if_pos c]
     rw[← ja,un]
     rfl
    refine⟨by omega,_,?_,d1,Zl,JE,by omega,rfl⟩
    rw[← hH]
    exact Qk.frame (by simp only[go_sem,simprocAttr])
   ·rw[NV,if_pos rfl]at un
    simp only[go_sem,simprocAttr,NV]
    refine wB (⟨[(0,.ref lo g 0 d.size),(1,Qb a),(2,Qb b),(6,Qb (a+1+k:Nat)),(7,Qb j)],h.set lo (QR g (Sort.swp d1 j (j - 1)))⟩) Qe hb mixed [(0,true),(1,true),(2,true),(3,true),(5,true),(6,true),(7,true),(8,true),(9,true),(10,true),(11,true),(12,true),(13,true),(14,true)] [4,15,16,17] (by kernel_rfl) (by kernel_rfl) (fun s hw=>jD hw rfl ?_) ?_
    rotate_left
    ·simp only[go_sem,simprocAttr,Qa,Zk,Jp,c3,v1,p1,p2,Zl,Qw Jp,List.set_set,Xy]
     rw[XZ g d1 _ _ _ Zl p1 p2,← hH,List.set_set]
     repeat' refine And.intro ?_ ?_
     all_goals exact Qk.frame (by simp only[go_sem,simprocAttr])
    refine Qc hb ?_
    simp only[go_sem,simprocAttr,v1]
    refine⟨by omega,_,?_,Sort.swp d1 j (j - 1),j - 1,by rw[swp_size,Zl],by omega,by rw[← un,ja],by omega,rfl⟩
    exact Qk.frame (by simp only[go_sem,simprocAttr])
  ·have c3:decide (a<j)=false:=decide_eq_false c2
   have un:Sort.insInner Qo a j d1=d1:=by
    cases j with
    | zero=>rfl
    | succ j'=>rw[Sort.insInner];simp [show ¬ j'+1 > a from c2]
   refine Qc hb ?_
   simp only[go_sem,simprocAttr,Qa,Zk,Jp,c3]
   refine QA Qe hb 200 mixed [(0,true),(1,true),(2,true),(3,true),(4,true),(5,true),(6,true),(7,true),(8,true),(9,true),(10,true),(11,true),(12,true),(13,false),(14,true)] (by kernel_rfl) (by kernel_rfl) ?_
   simp only[go_sem,simprocAttr,Qa,Zk,Jp,c3,Zl]
   refine Qc hb ?_
   simp only[go_sem,simprocAttr,Qa]
   have v2:IntKind.i64.wrap (((a+1+k:Nat):Int)+1)=((a+1+(k+1):Nat):Int):=by rw[wrap64 (by omega) (by omega)];omega
   rw[v2]
   have JE:Sort.insOuter Qo a b (a+1+(k+1)) d1=Sort.insertionSort Qo d a b:=by
    rw[← hd]
    conv=>rhs;rw[Sort.insOuter,if_pos c]
    rw[← ja,un]
    rfl
   refine⟨by omega,_,?_,d1,Zl,JE,by omega,rfl⟩
   rw[← hH]
   exact Qk.frame (by simp only[go_sem,simprocAttr])
 ·have c1:decide (a+1+k<b)=false:=decide_eq_false c
  rw[Sort.insOuter,if_neg c]at hd
  refine Qc hb ?_
  simp only[go_sem,simprocAttr,Qa,hl,c1]
  exact congrArg (fun x=>h.set lo (QR g x)) hd
end
theorem TN (hi first:Nat):∀(n root:Nat) (d:Array Int),hi - root≤n→(Sort.siftDown Qo hi first root d).size=d.size
 | n,root,d,hn=>by
  rw[Sort.siftDown]
  split
  ·rfl
  ·rename_i h1
   split
   ·split
    ·rfl
    ·split
     ·obtain⟨n',rfl⟩:∃n',n=n'+1:=⟨n - 1,by omega⟩
      rw[TN hi first n' _ _ (by omega),swp_size]
     ·rfl
   ·split
    ·rfl
    ·obtain⟨n',rfl⟩:∃n',n=n'+1:=⟨n - 1,by omega⟩
     rw[TN hi first n' _ _ (by omega),swp_size]
section
variable {h:List Ob} {lo g:Nat} {d:Array Int} (ho:h[lo]? = some (QR g d))
include ho
theorem sK (hi first root:Nat) (Zf:first+hi≤d.size) (TO:root≤d.size) (hz:d.size<1000000000) :
  QH prog 304 h [.ref lo g 0 d.size,Qb root,Qb hi,Qb first] (fun dd h'=>dd=.tup []∧h'=h.set lo (QR g (Sort.siftDown Qo hi first root d))):=by
 refine QX Qe 200 func304 rfl ntmps304 results304 rfl fun base w pl hb=>?_
 have Qf:=Qd ho
 simp only[go_sem,simprocAttr,Qa,ho,Qf]
 refine Zv (fun m st=>∃(d1:Array Int) (r:Nat),d1.size=d.size∧m≤r∧r≤d.size∧Sort.siftDown Qo hi first r d1=Sort.siftDown Qo hi first root d∧st=⟨[(0,.ref lo g 0 d.size),(2,Qb hi),(3,Qb first),(8,Qb r)],h.set lo (QR g d1)⟩) (d.size) (s0:=⟨[(0,.ref lo g 0 d.size),(2,Qb hi),(3,Qb first),(8,Qb root)],h.set lo (QR g d)⟩) ?_ ⟨d,root,rfl,Nat.zero_le _,TO,rfl,rfl⟩ ?_
 ·rw[Y8 ho]
  exact Qk.frame (by simp only[go_sem,simprocAttr])
 rintro m _ hm ⟨d1,r,Zl,FP,jl,WH,rfl⟩
 have Zk:=Yx (g:=g) (d:=d1) Qf
 generalize hH:h.set lo (QR g d1)=H at Zk
 have Jp:=Qd Zk
 have v1:IntKind.i64.wrap (2*(r:Int))=((2*r:Nat):Int):=by rw[wrap64 (by omega) (by omega)];omega
 have v2:IntKind.i64.wrap (((2*r:Nat):Int)+1)=((2*r+1:Nat):Int):=by rw[wrap64 (by omega) (by omega)];omega
 have v3:IntKind.i64.wrap (((2*r+1:Nat):Int)+1)=((2*r+1+1:Nat):Int):=by rw[wrap64 (by omega) (by omega)];omega
 rw[Sort.siftDown]at WH
 by_cases c1:hi≤2*r+1
 ·have e1:decide (hi≤2*r+1)=true:=decide_eq_true c1
  rw[dif_pos c1]at WH
  refine Qc hb ?_
  simp only[go_sem,simprocAttr,Qa,Zk,Jp,v1,v2,e1]
  exact hH.symm.trans (congrArg (fun x=>h.set lo (QR g x)) WH)
 ·have e1:decide (hi≤2*r+1)=false:=decide_eq_false c1
  rw[dif_neg c1]at WH
  have p0:first+r<d.size:=by omega
  have p1:first+(2*r+1)<d.size:=by omega
  have w0:IntKind.i64.wrap ((first:Int)+r)=((first+r:Nat):Int):=by rw[wrap64 (by omega) (by omega)];omega
  have w1:IntKind.i64.wrap ((first:Int)+(2*r+1:Nat))=((first+(2*r+1):Nat):Int):=by rw[wrap64 (by omega) (by omega)];omega
  have w2:IntKind.i64.wrap ((first:Int)+(2*r+1+1:Nat))=((first+(2*r+1+1):Nat):Int):=by rw[wrap64 (by omega) (by omega)];omega
  have w3:IntKind.i64.wrap (((first+(2*r+1):Nat):Int)+1)=((first+(2*r+1)+1:Nat):Int):=by rw[wrap64 (by omega) (by omega)];omega
  refine Qc hb ?_
  simp only[go_sem,simprocAttr,Qa,Zk,Jp,v1,v2,e1]
  first|refine Wg ?_|skip
  refine kI [0,2,3,8,9] [(36,QN (decide (2*r+1+1<hi)&&Qo d1[first+(2*r+1)]! d1[first+(2*r+1)+1]!))] rfl ?_ ?_
  ·by_cases c2:2*r+1+1<hi
   ·have e2:decide (2*r+1+1<hi)=true:=decide_eq_true c2
    have p2:first+(2*r+1)+1<d.size:=by omega
    refine QA Qe hb 200 mixed [(0,true),(1,true),(2,true),(3,true),(4,true),(5,true),(6,true),(7,true),(8,true),(9,true),(10,true),(11,true),(12,true),(13,true),(14,true),(15,true),(16,true),(17,true),(18,false),(19,true)] (by kernel_rfl) (by kernel_rfl) ?_
    simp only[go_sem,simprocAttr,Qa,Zk,Jp,Zl,v3,e2,w1,w3,p1,p2]
    refine Zt hb YS rfl ?_ (Y7 d1[first+(2*r+1)]! d1[first+(2*r+1)+1]!) (Ql.flat rfl) rfl fun d h hR=>?_
    ·simp only[go_sem,simprocAttr]
    obtain⟨rfl,rfl⟩:=hR
    refine QF hb ?_
    simp only[go_sem,simprocAttr]
    exact Qk.frame (by simp only[go_sem,simprocAttr])
   ·have e2:decide (2*r+1+1<hi)=false:=decide_eq_false c2
    refine QA Qe hb 200 mixed [(0,true),(1,true),(2,true),(3,true),(4,true),(5,true),(6,true),(7,true),(8,true),(9,true),(10,true),(11,true),(12,true),(13,true),(14,true),(15,true),(16,true),(17,true),(18,false),(19,true)] (by kernel_rfl) (by kernel_rfl) ?_
    simp only[go_sem,simprocAttr,Qa,Zk,Jp,Zl,v3,e2,w1,w3,p1]
    exact Qk.frame (by simp only[go_sem,simprocAttr])
  ·cases hB:(decide (2*r+1+1<hi)&&Qo d1[first+(2*r+1)]! d1[first+(2*r+1)+1]!)
   ·rw[hB,if_neg (by decide)]at WH
    refine Qc hb ?_
    simp only[go_sem,simprocAttr,hB]
    refine QA Qe hb 200 mixed [(0,true),(1,true),(2,true),(3,true),(4,true),(5,true),(6,true),(7,true),(8,true),(9,true),(10,true),(11,true),(12,false),(13,true)] (by kernel_rfl) (by kernel_rfl) ?_
    simp only[go_sem,simprocAttr,Qa,Zk,Jp,Zl,w0,w1,p0,p1]
    refine Zt hb YS rfl ?_ (Y7 d1[first+r]! d1[first+(2*r+1)]!) (Ql.flat rfl) rfl fun d h hR=>?_
    ·simp only[go_sem,simprocAttr]
    obtain⟨rfl,rfl⟩:=hR
    refine QF hb ?_
    simp only[go_sem,simprocAttr]
    cases hq:Qo d1[first+r]! d1[first+(2*r+1)]!
    ·rw[hq,Bool.not_false,if_pos rfl]at WH
     simp only[go_sem,simprocAttr,hq]
     exact hH.symm.trans (congrArg (fun x=>h.set lo (QR g x)) WH)
    ·rw[hq,Bool.not_true,if_neg (by decide)]at WH
     skip
     simp only[go_sem,simprocAttr,hq]
     refine wB (⟨[(0,.ref lo g 0 d.size),(2,Qb hi),(3,Qb first),(9,Qb (2*r+1:Nat))],h.set lo (QR g (Sort.swp d1 (first+r) (first+(2*r+1))))⟩) Qe hb mixed [(0,true),(1,true),(2,true),(3,true),(4,true),(5,true),(6,true),(8,true),(9,true),(10,true),(11,true),(12,true),(13,true),(14,true),(15,true),(16,true),(17,true),(18,true),(19,true),(20,true)] [7,21,22,23] (by kernel_rfl) (by kernel_rfl) (fun s hw=>jD hw rfl ?_) ?_
     rotate_left
     ·simp only[go_sem,simprocAttr,Qa,Zk,Jp,w0,w1,p0,p1,Zl,Qw Jp,List.set_set,Xy]
      rw[XZ g d1 _ _ _ Zl p0 p1,← hH,List.set_set]
      repeat' refine And.intro ?_ ?_
      all_goals exact Qk.frame (by simp only[go_sem,simprocAttr])
     refine Qc hb ?_
     simp only[go_sem,simprocAttr]
     refine⟨by omega,_,?_,Sort.swp d1 (first+r) (first+(2*r+1)),2*r+1,by rw[swp_size,Zl],by omega,by omega,WH,rfl⟩
     exact Qk.frame (by simp only[go_sem,simprocAttr])
   ·have qT:2*r+1+1<hi:=by
     rw[Bool.and_eq_true]at hB
     exact of_decide_eq_true hB.1
    rw[hB,if_pos rfl]at WH
    have p2:first+(2*r+1+1)<d.size:=by omega
    refine Qc hb ?_
    simp only[go_sem,simprocAttr,hB,v3]
    refine QA Qe hb 200 mixed [(0,true),(1,true),(2,true),(3,true),(4,true),(5,true),(6,true),(7,true),(8,true),(9,true),(10,true),(11,true),(12,false),(13,true)] (by kernel_rfl) (by kernel_rfl) ?_
    simp only[go_sem,simprocAttr,Qa,Zk,Jp,Zl,w0,w2,p0,p2]
    refine Zt hb YS rfl ?_ (Y7 d1[first+r]! d1[first+(2*r+1+1)]!) (Ql.flat rfl) rfl fun d h hR=>?_
    ·simp only[go_sem,simprocAttr]
    obtain⟨rfl,rfl⟩:=hR
    refine QF hb ?_
    simp only[go_sem,simprocAttr]
    cases hq:Qo d1[first+r]! d1[first+(2*r+1+1)]!
    ·rw[hq,Bool.not_false,if_pos rfl]at WH
     simp only[go_sem,simprocAttr,hq]
     exact hH.symm.trans (congrArg (fun x=>h.set lo (QR g x)) WH)
    ·rw[hq,Bool.not_true,if_neg (by decide)]at WH
     rw[dif_pos (show 2*r+2<hi from qT)]at WH
     simp only[go_sem,simprocAttr,hq]
     refine wB (⟨[(0,.ref lo g 0 d.size),(2,Qb hi),(3,Qb first),(9,Qb (2*r+1+1:Nat))],h.set lo (QR g (Sort.swp d1 (first+r) (first+(2*r+1+1))))⟩) Qe hb mixed [(0,true),(1,true),(2,true),(3,true),(4,true),(5,true),(6,true),(8,true),(9,true),(10,true),(11,true),(12,true),(13,true),(14,true),(15,true),(16,true),(17,true),(18,true),(19,true),(20,true)] [7,21,22,23] (by kernel_rfl) (by kernel_rfl) (fun s hw=>jD hw rfl ?_) ?_
     rotate_left
     ·simp only[go_sem,simprocAttr,Qa,Zk,Jp,w0,w2,p0,p2,Zl,Qw Jp,List.set_set,Xy]
      rw[XZ g d1 _ _ _ Zl p0 p2,← hH,List.set_set]
      repeat' refine And.intro ?_ ?_
      all_goals exact Qk.frame (by simp only[go_sem,simprocAttr])
     refine Qc hb ?_
     simp only[go_sem,simprocAttr]
     refine⟨by omega,_,?_,Sort.swp d1 (first+r) (first+(2*r+1+1)),2*r+1+1,by rw[swp_size,Zl],by omega,by omega,WH,rfl⟩
     exact Qk.frame (by simp only[go_sem,simprocAttr])
end
theorem NW (hi first root:Nat) (d:Array Int):(Sort.siftDown Qo hi first root d).size=d.size:=TN hi first _ root d (Nat.le_refl _)
theorem sL (hi first:Nat):∀(k:Nat) (d:Array Int),(Sort.heapBuild Qo hi first k d).size=d.size
 | 0,d=>rfl
 | k+1,d=>by rw[Sort.heapBuild,sL hi first k,NW]
theorem sM (n:Nat):decide ((0:Int)≤(n:Int))=true:=decide_eq_true (Int.natCast_nonneg n)
section
variable {h:List Ob} {lo g:Nat} {d:Array Int} (ho:h[lo]? = some (QR g d))
include ho
theorem QmJ (a b:Nat) (J3:a<b) (Zf:b≤d.size) (hz:d.size<1000000000) :
  QH prog 294 h [.ref lo g 0 d.size,Qb a,Qb b] (fun dd h'=>dd=.tup []∧h'=h.set lo (QR g (Sort.heapSort Qo d a b))):=by
 have e0:IntKind.i64.wrap ((b:Int) - a)=((b - a:Nat):Int):=by rw[wrap64 (by omega) (by omega)];omega
 have e1:IntKind.i64.wrap (((b - a:Nat):Int) - 1)=((b - a - 1:Nat):Int):=by rw[wrap64 (by omega) (by omega)];omega
 have e2:((b - a - 1:Nat):Int).tdiv 2=(((b - a - 1) / 2:Nat):Int):=rfl
 have e3:IntKind.i64.wrap ((((b - a - 1) / 2:Nat):Int))=(((b - a - 1) / 2:Nat):Int):=by rw[wrap64 (by omega) (by omega)]
 have z0:((0:Nat):Int)=0:=rfl
 refine QX Qe 200 func294 rfl ntmps294 results294 rfl fun base w pl hb=>?_
 have Qf:=Qd ho
 simp only[go_sem,simprocAttr,Qa,ho,Qf,e0,e1,e2,e3]
 unfold Sort.heapSort
 refine Zv (fun m st=>∃(d1:Array Int) (k:Nat),d1.size=d.size∧k+m=(b - a - 1) / 2+1∧Sort.heapBuild Qo (b - a) a k d1=Sort.heapBuild Qo (b - a) a ((b - a - 1) / 2+1) d∧st=⟨[(0,.ref lo g 0 d.size),(6,Qb a),(7,Qb 0),(8,Qb (b - a:Nat)),(9,Qb ((k:Int) - 1))],h.set lo (QR g d1)⟩) ((b - a - 1) / 2+1) (s0:=⟨[(0,.ref lo g 0 d.size),(6,Qb a),(7,Qb 0),(8,Qb (b - a:Nat)),(9,Qb ((((b - a - 1) / 2+1:Nat):Int) - 1))],h.set lo (QR g d)⟩) ?_ ⟨d,_,rfl,rfl,rfl,rfl⟩ ?_
 ·rw[Y8 ho,show ((((b - a - 1) / 2+1:Nat):Int) - 1)=(((b - a - 1) / 2:Nat):Int) by omega]
  exact Qk.frame (by simp only[go_sem,simprocAttr])
 rintro m _ hm ⟨d1,k,Zl,hk,WH,rfl⟩
 have Zk:=Yx (g:=g) (d:=d1) Qf
 rcases k with _|k
 ·rw[Sort.heapBuild]at WH
  refine Qc hb ?_
  simp only[go_sem,simprocAttr,Qa,Zk,show ((0:Nat):Int) - 1=-1 from rfl,show decide ((0:Int)≤-1)=false from rfl,e1]
  refine Qc hb ?_
  simp only[go_sem,simprocAttr,Qa,e1]
  rw[← WH]
  refine Zv (fun m st=>∃(d2:Array Int) (k:Nat),d2.size=d.size∧k+m=b - a∧Sort.heapPop Qo a k d2=Sort.heapPop Qo a (b - a) d1∧st=⟨[(0,.ref lo g 0 d.size),(6,Qb a),(7,Qb 0),(10,Qb ((k:Int) - 1))],h.set lo (QR g d2)⟩) (b - a) (s0:=⟨[(0,.ref lo g 0 d.size),(6,Qb a),(7,Qb 0),(10,Qb (((b - a:Nat):Int) - 1))],h.set lo (QR g d1)⟩) ?_ ⟨d1,_,Zl,rfl,rfl,rfl⟩ ?_
  ·rw[show (((b - a:Nat):Int) - 1)=((b - a - 1:Nat):Int) by omega]
   exact Qk.frame (by simp only[go_sem,simprocAttr])
  rintro n _ hn ⟨d2,k,Ji,ZE,JE,rfl⟩
  have Jf:=Yx (g:=g) (d:=d2) Qf
  generalize hH:h.set lo (QR g d2)=H at Jf
  have TP:=Qd Jf
  rcases k with _|k
  ·rw[Sort.heapPop]at JE
   refine Qc hb ?_
   simp only[go_sem,simprocAttr,Qa,Jf,show ((0:Nat):Int) - 1=-1 from rfl,show decide ((0:Int)≤-1)=false from rfl]
   exact hH.symm.trans (congrArg (fun x=>h.set lo (QR g x)) JE)
  ·rw[Sort.heapPop]at JE
   have v0:(((k+1:Nat):Int) - 1)=(k:Int):=by omega
   have v1:IntKind.i64.wrap ((a:Int)+k)=((a+k:Nat):Int):=by rw[wrap64 (by omega) (by omega)];omega
   have v2:IntKind.i64.wrap ((k:Int) - 1)=(k:Int) - 1:=wrap64 (by omega) (by omega)
   have p0:a<d.size:=by omega
   have p1:a+k<d.size:=by omega
   refine Qc hb ?_
   simp only[go_sem,simprocAttr,Qa,Jf,TP,v0,sM]
   refine wB (⟨[(0,.ref lo g 0 d.size),(6,Qb a),(7,Qb 0),(10,Qb k)],h.set lo (QR g (Sort.swp d2 a (a+k)))⟩) Qe hb mixed [(0,true),(1,true),(2,true),(3,true),(4,true),(6,true),(7,true),(8,true),(9,true),(10,true),(11,true),(12,true),(13,true),(14,true),(15,true),(16,true)] [5,17,18,19] (by kernel_rfl) (by kernel_rfl) (fun s hw=>jD hw rfl ?_) ?_
   rotate_left
   ·simp only[go_sem,simprocAttr,Qa,Jf,TP,v1,p0,p1,Ji,Qw TP,List.set_set,Xy]
    rw[XZ g d2 _ _ _ Ji p0 p1,← hH,List.set_set]
    repeat' refine And.intro ?_ ?_
    all_goals exact Qk.frame (by simp only[go_sem,simprocAttr])
   refine Qc hb ?_
   simp only[go_sem,simprocAttr]
   have Ht:(Sort.swp d2 a (a+k)).size=d.size:=by rw[swp_size,Ji]
   refine QT hb oV rfl ?_ (Ht▸sK (Yx (g:=g) (d:=Sort.swp d2 a (a+k)) Qf) k a 0 (by omega) (by omega) (by omega)) rfl fun d h hR=>?_
   ·simp only[go_sem,simprocAttr,List.set_set,v2]
   obtain⟨rfl,rfl⟩:=hR
   refine Qc hb ?_
   simp only[go_sem,simprocAttr,List.set_set,v2]
   refine⟨by omega,_,?_,Sort.siftDown Qo k a 0 (Sort.swp d2 a (a+k)),k,by rw[NW,Ht],by omega,JE,rfl⟩
   exact Qk.frame (by simp only[go_sem,simprocAttr])
 ·rw[Sort.heapBuild]at WH
  have v0:(((k+1:Nat):Int) - 1)=(k:Int):=by omega
  have v2:IntKind.i64.wrap ((k:Int) - 1)=(k:Int) - 1:=wrap64 (by omega) (by omega)
  refine Qc hb ?_
  simp only[go_sem,simprocAttr,Qa,Zk,v0,sM]
  refine QT hb oV rfl ?_ (Zl▸sK Zk (b - a) a k (by omega) (by omega) (by omega)) rfl fun d h hR=>?_
  ·simp only[go_sem,simprocAttr,List.set_set,v2]
  obtain⟨rfl,rfl⟩:=hR
  refine Qc hb ?_
  simp only[go_sem,simprocAttr,List.set_set,v2]
  refine⟨by omega,_,?_,Sort.siftDown Qo (b - a) a k d1,k,by rw[NW,Zl],by omega,WH,rfl⟩
  exact Qk.frame (by simp only[go_sem,simprocAttr])
end
theorem TQ (p:Int→Bool) (d:Array Int) (i j:Nat) (hi:0<i):Sort.scanDown p d i j=if i≤j&&p d[j]! then Sort.scanDown p d i (j - 1) else j:=by
 cases j with
 | zero=>
  rw[Sort.scanDown,if_neg]
  simp;omega
 | succ j=>rw[Sort.scanDown];rfl
theorem NX (p q:Int→Bool) (hq:∀x,q x=!p x) (d:Array Int) (i j:Nat) (ha:0<i) (JV:i≤j+1) (h:¬ Sort.scanUp p d j i > Sort.scanDown q d (Sort.scanUp p d j i) j) :
  Sort.scanUp p d j i<Sort.scanDown q d (Sort.scanUp p d j i) j:=by
 obtain⟨u1,u2,u3,u4⟩:=Sort.scanUp_spec p d j _ i rfl
 obtain⟨v1,v2,v3,v4⟩:=Sort.scanDown_spec q d (Sort.scanUp p d j i) j
 rcases Nat.lt_or_ge (Sort.scanUp p d j i) (Sort.scanDown q d (Sort.scanUp p d j i) j) with h'|h'
 ·exact h'
 ·have e:Sort.scanUp p d j i=Sort.scanDown q d (Sort.scanUp p d j i) j:=by omega
  have f1:=u4 (by omega)
  have f2:=v4 (by omega) (by omega)
  rw[hq,← e,f1]at f2
  cases f2
theorem sN (a:Nat):∀(n i j:Nat) (d:Array Int),j+1 - i≤n→(Sort.partEqLoop Qo a i j d).2.size=d.size
 | n,i,j,d,hn=>by
  rw[Sort.partEqLoop_eq]
  split
  ·rfl
  ·rename_i h
   have:=Sort.partEqLoop_guard Qo a i j d h
   obtain⟨n',rfl⟩:∃n',n=n'+1:=⟨n - 1,by omega⟩
   rw[sN a n' _ _ _ (by omega),swp_size]
theorem sO (a:Nat):∀(n i j:Nat) (d:Array Int),j+1 - i≤n→(Sort.partLoop Qo a i j d).2.size=d.size
 | n,i,j,d,hn=>by
  rw[Sort.partLoop_eq]
  split
  ·rfl
  ·rename_i h
   have:=Sort.partLoop_guard Qo a i j d h
   obtain⟨n',rfl⟩:∃n',n=n'+1:=⟨n - 1,by omega⟩
   rw[sO a n' _ _ _ (by omega),swp_size]
section
variable {h:List Ob} {lo g:Nat} {d:Array Int} (ho:h[lo]? = some (QR g d))
include ho
theorem QmK (a b pv:Nat) (J3:a<b) (Zf:b≤d.size) (hp:a≤pv) (Rb:pv<b) (hz:d.size<1000000000) :
  QH prog 300 h [.ref lo g 0 d.size,Qb a,Qb b,Qb pv] (fun dd h'=>dd=Qb (Sort.partitionEqual Qo d a b pv).1∧h'=h.set lo (QR g (Sort.partitionEqual Qo d a b pv).2)):=by
 have e0:IntKind.i64.wrap ((a:Int)+1)=((a+1:Nat):Int):=by rw[wrap64 (by omega) (by omega)];omega
 have e1:IntKind.i64.wrap ((b:Int) - 1)=((b - 1:Nat):Int):=by rw[wrap64 (by omega) (by omega)];omega
 have pa:a<d.size:=by omega
 have pp:pv<d.size:=by omega
 have hsd:d.size=d.size:=rfl
 refine QX Qe 200 func300 rfl ntmps300 results300 rfl fun base w pl hb=>?_
 have Qf:=Qd ho
 simp only[go_sem,simprocAttr,Qa,ho,Qf]
 refine QA Qe hb 200 mixed [(0,true),(1,true),(2,true),(3,true),(4,true),(5,true),(6,true),(7,true),(8,true),(9,true),(10,true),(11,true),(12,true),(13,false),(14,true),(15,false)] (by kernel_rfl) (by kernel_rfl) ?_
 simp only[go_sem,simprocAttr,Qa,ho,Qf,pa,pp,Qw Qf,List.set_set,Xy]
 rw[XZ g d _ _ _ rfl pa pp]
 refine Qc hb ?_
 simp only[go_sem,simprocAttr,e0,e1]
 unfold Sort.partitionEqual
 refine Zv (fun m st=>∃(d1:Array Int) (i j:Nat),d1.size=d.size∧a<i∧i≤j+1∧j<b∧m+(j+1 - i)≤b∧Sort.partEqLoop Qo a i j d1=Sort.partEqLoop Qo a (a+1) (b - 1) (Sort.swp d a pv)∧st=⟨[(0,.ref lo g 0 d.size),(1,Qb a),(9,Qb i),(10,Qb j)],h.set lo (QR g d1)⟩) b (s0:=⟨[(0,.ref lo g 0 d.size),(1,Qb a),(9,Qb (a+1:Nat)),(10,Qb (b - 1:Nat))],h.set lo (QR g (Sort.swp d a pv))⟩) (Qk.frame (by simp only[go_sem,simprocAttr])) ⟨_,a+1,b - 1,swp_size d a pv,by omega,by omega,by omega,by omega,rfl,rfl⟩ ?_
 rintro m _ hm ⟨d1,i,j,X0,TR,JV,hjb,MV,Q4,rfl⟩
 have WI:=Yx (g:=g) (d:=d1) Qf
 generalize hH:h.set lo (QR g d1)=H at WI
 have Xc:=Qd WI
 rw[Sort.partEqLoop_eq]at Q4
 have Cg:=NX (fun x=>!Qo d1[a]! x) (fun x=>Qo d1[a]! x) (fun x=>by simp) d1 i j (by omega) JV
 obtain⟨u1,u2,u3,u4⟩:=Sort.scanUp_spec (fun x=>!Qo d1[a]! x) d1 j _ i rfl
 have u5:=u2 JV
 generalize Wz:Sort.scanUp (fun x=>!Qo d1[a]! x) d1 j i=i2 at *
 obtain⟨w1,w2,w3,w4⟩:=Sort.scanDown_spec (fun x=>Qo d1[a]! x) d1 i2 j
 have w5:=w2 u5
 generalize Xt:Sort.scanDown (fun x=>Qo d1[a]! x) d1 i2 j=j2 at *
 refine Qc hb ?_
 simp only[go_sem,simprocAttr,Qa]
 refine Zv (fun m st=>∃xa:Nat,xa=i+m∧xa≤j+1∧Sort.scanUp (fun x=>!Qo d1[a]! x) d1 j xa=i2∧st=⟨[(0,.ref lo g 0 d.size),(1,Qb a),(9,Qb xa),(10,Qb j)],H⟩) d.size (s0:=⟨[(0,.ref lo g 0 d.size),(1,Qb a),(9,Qb i),(10,Qb j)],H⟩) (Qk.frame (by simp only[go_sem,simprocAttr])) ⟨i,rfl,by omega,Wz,rfl⟩ ?_
 rintro ma _ hma ⟨xa,hxa,hya,Hu,rfl⟩
 have ga:xa≤j→xa<d.size:=by omega
 rw[Sort.scanUp]at Hu
 refine Qc hb ?_
 simp only[go_sem,simprocAttr,Qa,WI,Xc]
 first|refine Wg ?_|skip
 refine kI [0,1,9,10] [(43,QN (decide (xa≤j)&&!Qo d1[a]! d1[xa]!))] rfl ?_ ?_
 ·by_cases ca:xa≤j
  ·have ea:decide (xa≤j)=true:=decide_eq_true ca
   have g2a:=ga ca
   refine QA Qe hb 200 mixed [(0,true),(1,true),(2,true),(3,true),(4,true),(5,true),(6,true),(7,true),(8,true),(9,true),(10,true),(11,true),(12,false),(13,true),(14,true)] (by kernel_rfl) (by kernel_rfl) ?_
   simp only[go_sem,simprocAttr,Qa,WI,Xc,X0,ea,pa,g2a]
   refine Zt hb YS rfl ?_ (Y7 d1[a]! d1[xa]!) (Ql.flat rfl) rfl fun d h hR=>?_
   ·simp only[go_sem,simprocAttr]
   obtain⟨rfl,rfl⟩:=hR
   refine QF hb ?_
   simp only[go_sem,simprocAttr]
   exact Qk.frame (by simp only[go_sem,simprocAttr])
  ·have ea:decide (xa≤j)=false:=decide_eq_false ca
   refine QA Qe hb 200 mixed [(0,true),(1,true),(2,true),(3,true),(4,true),(5,true),(6,true),(7,true),(8,true),(9,true),(10,true),(11,true),(12,false),(13,true),(14,true)] (by kernel_rfl) (by kernel_rfl) ?_
   simp only[go_sem,simprocAttr,Qa,WI,Xc,X0,ea,pa]
   exact Qk.frame (by simp only[go_sem,simprocAttr])
 cases hB:(decide (xa≤j)&&!Qo d1[a]! d1[xa]!)
 ·rw[hB,if_neg (by decide)]at Hu
  refine Qc hb ?_
  simp only[go_sem,simprocAttr,Qa,hB]
  subst Hu
  refine Qc hb ?_
  simp only[go_sem,simprocAttr,Qa]
  refine Zv (fun m st=>∃xb:Nat,xb+m=j∧xa≤xb+1∧Sort.scanDown (fun x=>Qo d1[a]! x) d1 xa xb=j2∧st=⟨[(0,.ref lo g 0 d.size),(1,Qb a),(9,Qb xa),(10,Qb xb)],H⟩) d.size (s0:=⟨[(0,.ref lo g 0 d.size),(1,Qb a),(9,Qb xa),(10,Qb j)],H⟩) (Qk.frame (by simp only[go_sem,simprocAttr])) ⟨j,rfl,by omega,Xt,rfl⟩ ?_
  rintro mb _ hmb ⟨xb,vK,hyb,Hv,rfl⟩
  have gb:xa≤xb→xb<d.size:=by omega
  rw[TQ _ _ _ _ (by omega)]at Hv
  refine Qc hb ?_
  simp only[go_sem,simprocAttr,Qa,WI,Xc]
  first|refine Wg ?_|skip
  refine kI [0,1,9,10] [(59,QN (decide (xa≤xb)&&Qo d1[a]! d1[xb]!))] rfl ?_ ?_
  ·by_cases cb:xa≤xb
   ·have eb:decide (xa≤xb)=true:=decide_eq_true cb
    have g2b:=gb cb
    refine QA Qe hb 200 mixed [(0,true),(1,true),(2,true),(3,true),(4,true),(5,true),(6,true),(7,true),(8,true),(9,true),(10,true),(11,true),(12,false),(13,true)] (by kernel_rfl) (by kernel_rfl) ?_
    simp only[go_sem,simprocAttr,Qa,WI,Xc,X0,eb,pa,g2b]
    refine Zt hb YS rfl ?_ (Y7 d1[a]! d1[xb]!) (Ql.flat rfl) rfl fun d h hR=>?_
    ·simp only[go_sem,simprocAttr]
    obtain⟨rfl,rfl⟩:=hR
    refine QF hb ?_
    simp only[go_sem,simprocAttr]
    exact Qk.frame (by simp only[go_sem,simprocAttr])
   ·have eb:decide (xa≤xb)=false:=decide_eq_false cb
    refine QA Qe hb 200 mixed [(0,true),(1,true),(2,true),(3,true),(4,true),(5,true),(6,true),(7,true),(8,true),(9,true),(10,true),(11,true),(12,false),(13,true)] (by kernel_rfl) (by kernel_rfl) ?_
    simp only[go_sem,simprocAttr,Qa,WI,Xc,X0,eb,pa]
    exact Qk.frame (by simp only[go_sem,simprocAttr])
  cases hB:(decide (xa≤xb)&&Qo d1[a]! d1[xb]!)
  ·rw[hB,if_neg (by decide)]at Hv
   refine Qc hb ?_
   simp only[go_sem,simprocAttr,Qa,hB]
   have wC:IntKind.i64.wrap ((xa:Int)+1)=((xa+1:Nat):Int):=by rw[wrap64 (by omega) (by omega)];omega
   subst Hv
   by_cases cg:xb<xa
   ·have eg:decide (xb<xa)=true:=decide_eq_true cg
    rw[if_pos cg]at Q4
    refine Qc hb ?_
    simp only[go_sem,simprocAttr,Qa,eg]
    refine Qc hb ?_
    simp only[go_sem,simprocAttr,Qa]
    rw[← Q4,← hH]
    first|exact⟨rfl,rfl⟩|rfl
   ·have eg:decide (xb<xa)=false:=decide_eq_false cg
    have sP:=Cg cg
    have px:xa<d.size:=by omega
    have py:xb<d.size:=by omega
    have Hw:IntKind.i64.wrap ((xb:Int) - 1)=((xb - 1:Nat):Int):=by rw[wrap64 (by omega) (by omega)];omega
    rw[if_neg cg]at Q4
    refine Qc hb ?_
    simp only[go_sem,simprocAttr,Qa,eg]
    refine QA Qe hb 200 mixed [(0,true),(1,true),(2,true),(3,true),(4,true),(5,true),(6,true),(7,true),(8,true),(9,true),(10,true),(11,true),(12,true),(13,false),(14,true),(15,false)] (by kernel_rfl) (by kernel_rfl) ?_
    simp only[go_sem,simprocAttr,Qa,WI,Xc,X0,px,py,Qw Xc,List.set_set,Xy,wC,Hw]
    rw[XZ g d1 _ _ _ X0 px py]
    refine⟨by omega,_,?_,Sort.swp d1 xa xb,xa+1,xb - 1,by rw[swp_size,X0],by omega,by omega,by omega,by omega,Q4,rfl⟩
    rw[← hH,List.set_set]
    exact Qk.frame (by simp only[go_sem,simprocAttr])
  ·rw[hB,if_pos rfl]at Hv
   have lqb:xa≤xb:=by
    rw[Bool.and_eq_true]at hB
    exact of_decide_eq_true hB.1
   have vb:IntKind.i64.wrap ((xb:Int) - 1)=((xb - 1:Nat):Int):=by rw[wrap64 (by omega) (by omega)];omega
   refine Qc hb ?_
   simp only[go_sem,simprocAttr,Qa,hB,vb]
   refine⟨by omega,_,?_,xb - 1,by omega,by omega,Hv,rfl⟩
   exact Qk.frame (by simp only[go_sem,simprocAttr])
 ·rw[hB,if_pos rfl]at Hu
  have lqa:xa≤j:=by
   rw[Bool.and_eq_true]at hB
   exact of_decide_eq_true hB.1
  have va:IntKind.i64.wrap ((xa:Int)+1)=((xa+1:Nat):Int):=by rw[wrap64 (by omega) (by omega)];omega
  refine Qc hb ?_
  simp only[go_sem,simprocAttr,Qa,hB,va]
  refine⟨by omega,_,?_,xa+1,by omega,by omega,Hu,rfl⟩
  exact Qk.frame (by simp only[go_sem,simprocAttr])
omit ho in
theorem QmP (d:Array Int) (a b pv:Nat):Sort.partition Qo d a b pv =
  if Sort.scanUp (fun x=>Qo x (Sort.swp d a pv)[a]!) (Sort.swp d a pv) (b - 1) (a+1) > Sort.scanDown (fun x=>!Qo x (Sort.swp d a pv)[a]!) (Sort.swp d a pv) (Sort.scanUp (fun x=>Qo x (Sort.swp d a pv)[a]!) (Sort.swp d a pv) (b - 1) (a+1)) (b - 1) then
   (Sort.scanDown (fun x=>!Qo x (Sort.swp d a pv)[a]!) (Sort.swp d a pv) (Sort.scanUp (fun x=>Qo x (Sort.swp d a pv)[a]!) (Sort.swp d a pv) (b - 1) (a+1)) (b - 1),true,Sort.swp (Sort.swp d a pv) (Sort.scanDown (fun x=>!Qo x (Sort.swp d a pv)[a]!) (Sort.swp d a pv) (Sort.scanUp (fun x=>Qo x (Sort.swp d a pv)[a]!) (Sort.swp d a pv) (b - 1) (a+1)) (b - 1)) a)
  else ((Sort.partLoop Qo a (Sort.scanUp (fun x=>Qo x (Sort.swp d a pv)[a]!) (Sort.swp d a pv) (b - 1) (a+1)+1) (Sort.scanDown (fun x=>!Qo x (Sort.swp d a pv)[a]!) (Sort.swp d a pv) (Sort.scanUp (fun x=>Qo x (Sort.swp d a pv)[a]!) (Sort.swp d a pv) (b - 1) (a+1)) (b - 1) - 1) (Sort.swp (Sort.swp d a pv) (Sort.scanUp (fun x=>Qo x (Sort.swp d a pv)[a]!) (Sort.swp d a pv) (b - 1) (a+1)) (Sort.scanDown (fun x=>!Qo x (Sort.swp d a pv)[a]!) (Sort.swp d a pv) (Sort.scanUp (fun x=>Qo x (Sort.swp d a pv)[a]!) (Sort.swp d a pv) (b - 1) (a+1)) (b - 1)))).1,false,
   Sort.swp (Sort.partLoop Qo a (Sort.scanUp (fun x=>Qo x (Sort.swp d a pv)[a]!) (Sort.swp d a pv) (b - 1) (a+1)+1) (Sort.scanDown (fun x=>!Qo x (Sort.swp d a pv)[a]!) (Sort.swp d a pv) (Sort.scanUp (fun x=>Qo x (Sort.swp d a pv)[a]!) (Sort.swp d a pv) (b - 1) (a+1)) (b - 1) - 1) (Sort.swp (Sort.swp d a pv) (Sort.scanUp (fun x=>Qo x (Sort.swp d a pv)[a]!) (Sort.swp d a pv) (b - 1) (a+1)) (Sort.scanDown (fun x=>!Qo x (Sort.swp d a pv)[a]!) (Sort.swp d a pv) (Sort.scanUp (fun x=>Qo x (Sort.swp d a pv)[a]!) (Sort.swp d a pv) (b - 1) (a+1)) (b - 1)))).2
    (Sort.partLoop Qo a (Sort.scanUp (fun x=>Qo x (Sort.swp d a pv)[a]!) (Sort.swp d a pv) (b - 1) (a+1)+1) (Sort.scanDown (fun x=>!Qo x (Sort.swp d a pv)[a]!) (Sort.swp d a pv) (Sort.scanUp (fun x=>Qo x (Sort.swp d a pv)[a]!) (Sort.swp d a pv) (b - 1) (a+1)) (b - 1) - 1) (Sort.swp (Sort.swp d a pv) (Sort.scanUp (fun x=>Qo x (Sort.swp d a pv)[a]!) (Sort.swp d a pv) (b - 1) (a+1)) (Sort.scanDown (fun x=>!Qo x (Sort.swp d a pv)[a]!) (Sort.swp d a pv) (Sort.scanUp (fun x=>Qo x (Sort.swp d a pv)[a]!) (Sort.swp d a pv) (b - 1) (a+1)) (b - 1)))).1 a):=rfl
theorem QmQ (a b pv:Nat) (J3:a+1<b) (Zf:b≤d.size) (hp:a≤pv) (Rb:pv<b) (hz:d.size<1000000000) :
  QH prog 301 h [.ref lo g 0 d.size,Qb a,Qb b,Qb pv] (fun dd h'=>dd=.tup [Qb (Sort.partition Qo d a b pv).1,QN (Sort.partition Qo d a b pv).2.1]∧h'=h.set lo (QR g (Sort.partition Qo d a b pv).2.2)):=by
 have e0:IntKind.i64.wrap ((a:Int)+1)=((a+1:Nat):Int):=by rw[wrap64 (by omega) (by omega)];omega
 have e1:IntKind.i64.wrap ((b:Int) - 1)=((b - 1:Nat):Int):=by rw[wrap64 (by omega) (by omega)];omega
 have pa:a<d.size:=by omega
 have pp:pv<d.size:=by omega
 refine QX Qe 200 func301 rfl ntmps301 results301 rfl fun base w pl hb=>?_
 have Qf:=Qd ho
 simp only[go_sem,simprocAttr,Qa,ho,Qf]
 refine QA Qe hb 200 mixed [(0,true),(1,true),(2,true),(3,true),(4,true),(5,true),(6,true),(7,true),(8,true),(9,true),(10,true),(11,true),(12,true),(13,false),(14,true),(15,false)] (by kernel_rfl) (by kernel_rfl) ?_
 simp only[go_sem,simprocAttr,Qa,ho,Qf,pa,pp,Qw Qf,List.set_set,Xy]
 rw[XZ g d _ _ _ rfl pa pp,QmP]
 refine Qc hb ?_
 simp only[go_sem,simprocAttr,e0,e1]
 generalize hdk:Sort.swp d a pv=dk at *
 have yd:dk.size=d.size:=by rw[← hdk,swp_size]
 have wD:=Yx (g:=g) (d:=dk) Qf
 generalize TS:h.set lo (QR g dk)=Hk at wD
 have wE:=Qd wD
 have QmS:=NX (fun x=>Qo x dk[a]!) (fun x=>!Qo x dk[a]!) (fun x=>rfl) dk (a+1) (b - 1) (by omega) (by omega)
 obtain⟨t1,t2,t3,t4⟩:=Sort.scanUp_spec (fun x=>Qo x dk[a]!) dk (b - 1) _ (a+1) rfl
 have t5:=t2 (by omega)
 generalize Wz:Sort.scanUp (fun x=>Qo x dk[a]!) dk (b - 1) (a+1)=i2 at *
 obtain⟨s1,s2,s3,s4⟩:=Sort.scanDown_spec (fun x=>!Qo x dk[a]!) dk i2 (b - 1)
 have s5:=s2 t5
 generalize Xt:Sort.scanDown (fun x=>!Qo x dk[a]!) dk i2 (b - 1)=j2 at *
 generalize hI0:a+1=I0 at *
 generalize hJ0:b - 1=J0 at *
 rw[show h.set lo (⟨.arr,g,1,dk.size,vh dk⟩:Ob)=Hk from TS]
 refine Zv (fun m st=>∃xe:Nat,xe=I0+m∧xe≤J0+1∧Sort.scanUp (fun x=>Qo x dk[a]!) dk J0 xe=i2∧st=⟨[(0,.ref lo g 0 d.size),(1,Qb a),(10,Qb xe),(11,Qb J0)],Hk⟩) d.size (s0:=⟨[(0,.ref lo g 0 d.size),(1,Qb a),(10,Qb I0),(11,Qb J0)],Hk⟩) (Qk.frame (by simp only[go_sem,simprocAttr])) ⟨I0,rfl,by omega,Wz,rfl⟩ ?_
 rintro me _ hme ⟨xe,hxe,KQ,Hx,rfl⟩
 have ge:xe≤J0→xe<d.size:=by omega
 rw[Sort.scanUp]at Hx
 refine Qc hb ?_
 simp only[go_sem,simprocAttr,Qa,wD,wE]
 first|refine Wg ?_|skip
 refine kI [0,1,10,11] [(43,QN (decide (xe≤J0)&&Qo dk[xe]! dk[a]!))] rfl ?_ ?_
 ·by_cases ce:xe≤J0
  ·have ee:decide (xe≤J0)=true:=decide_eq_true ce
   have g2e:=ge ce
   refine QA Qe hb 200 mixed [(0,true),(1,true),(2,true),(3,true),(4,true),(5,true),(6,true),(7,true),(8,true),(9,true),(10,true),(11,true),(12,false),(13,true)] (by kernel_rfl) (by kernel_rfl) ?_
   simp only[go_sem,simprocAttr,Qa,wD,wE,yd,ee,pa,g2e]
   refine Zt hb YS rfl ?_ (Y7 dk[xe]! dk[a]!) (Ql.flat rfl) rfl fun d h hR=>?_
   ·simp only[go_sem,simprocAttr]
   obtain⟨rfl,rfl⟩:=hR
   refine QF hb ?_
   simp only[go_sem,simprocAttr]
   exact Qk.frame (by simp only[go_sem,simprocAttr])
  ·have ee:decide (xe≤J0)=false:=decide_eq_false ce
   refine QA Qe hb 200 mixed [(0,true),(1,true),(2,true),(3,true),(4,true),(5,true),(6,true),(7,true),(8,true),(9,true),(10,true),(11,true),(12,false),(13,true)] (by kernel_rfl) (by kernel_rfl) ?_
   simp only[go_sem,simprocAttr,Qa,wD,wE,yd,ee,pa]
   exact Qk.frame (by simp only[go_sem,simprocAttr])
 cases hB:(decide (xe≤J0)&&Qo dk[xe]! dk[a]!)
 ·rw[hB,if_neg (by decide)]at Hx
  refine Qc hb ?_
  simp only[go_sem,simprocAttr,Qa,hB]
  subst Hx
  refine Qc hb ?_
  simp only[go_sem,simprocAttr,Qa]
  refine Zv (fun m st=>∃xf:Nat,xf+m=J0∧xe≤xf+1∧Sort.scanDown (fun x=>!Qo x dk[a]!) dk xe xf=j2∧st=⟨[(0,.ref lo g 0 d.size),(1,Qb a),(10,Qb xe),(11,Qb xf)],Hk⟩) d.size (s0:=⟨[(0,.ref lo g 0 d.size),(1,Qb a),(10,Qb xe),(11,Qb J0)],Hk⟩) (Qk.frame (by simp only[go_sem,simprocAttr])) ⟨J0,rfl,by omega,Xt,rfl⟩ ?_
  rintro mf _ hmf ⟨xf,hxf,hyf,Hy,rfl⟩
  have gf:xe≤xf→xf<d.size:=by omega
  rw[TQ _ _ _ _ (by omega)]at Hy
  refine Qc hb ?_
  simp only[go_sem,simprocAttr,Qa,wD,wE]
  first|refine Wg ?_|skip
  refine kI [0,1,10,11] [(60,QN (decide (xe≤xf)&&!Qo dk[xf]! dk[a]!))] rfl ?_ ?_
  ·by_cases cf:xe≤xf
   ·have ef:decide (xe≤xf)=true:=decide_eq_true cf
    have g2f:=gf cf
    refine QA Qe hb 200 mixed [(0,true),(1,true),(2,true),(3,true),(4,true),(5,true),(6,true),(7,true),(8,true),(9,true),(10,true),(11,true),(12,false),(13,true),(14,true)] (by kernel_rfl) (by kernel_rfl) ?_
    simp only[go_sem,simprocAttr,Qa,wD,wE,yd,ef,pa,g2f]
    refine Zt hb YS rfl ?_ (Y7 dk[xf]! dk[a]!) (Ql.flat rfl) rfl fun d h hR=>?_
    ·simp only[go_sem,simprocAttr]
    obtain⟨rfl,rfl⟩:=hR
    refine QF hb ?_
    simp only[go_sem,simprocAttr]
    exact Qk.frame (by simp only[go_sem,simprocAttr])
   ·have ef:decide (xe≤xf)=false:=decide_eq_false cf
    refine QA Qe hb 200 mixed [(0,true),(1,true),(2,true),(3,true),(4,true),(5,true),(6,true),(7,true),(8,true),(9,true),(10,true),(11,true),(12,false),(13,true),(14,true)] (by kernel_rfl) (by kernel_rfl) ?_
    simp only[go_sem,simprocAttr,Qa,wD,wE,yd,ef,pa]
    exact Qk.frame (by simp only[go_sem,simprocAttr])
  cases hB:(decide (xe≤xf)&&!Qo dk[xf]! dk[a]!)
  ·rw[hB,if_neg (by decide)]at Hy
   refine Qc hb ?_
   simp only[go_sem,simprocAttr,Qa,hB]
   subst Hy
   have vz1:IntKind.i64.wrap ((xe:Int)+1)=((xe+1:Nat):Int):=by rw[wrap64 (by omega) (by omega)];omega
   by_cases cg:xf<xe
   ·have eg:decide (xf<xe)=true:=decide_eq_true cg
    rw[if_pos cg]
    refine Qc hb ?_
    simp only[go_sem,simprocAttr,Qa,eg]
    have py:xf<d.size:=by omega
    refine QA Qe hb 200 mixed [(0,true),(1,true),(2,true),(3,true),(4,true),(5,true),(6,true),(7,true),(8,true),(9,true),(10,true),(11,true),(12,true),(13,false),(14,true),(15,false)] (by kernel_rfl) (by kernel_rfl) ?_
    simp only[go_sem,simprocAttr,Qa,wD,wE,yd,py,pa,Qw wE,List.set_set,Xy]
    rw[XZ g dk _ _ _ yd py pa]
    rw[← TS,List.set_set]
    first|exact⟨rfl,rfl⟩|rfl
   ·have eg:decide (xf<xe)=false:=decide_eq_false cg
    have sP:=QmS cg
    have px:xe<d.size:=by omega
    have py:xf<d.size:=by omega
    have vz2:IntKind.i64.wrap ((xf:Int) - 1)=((xf - 1:Nat):Int):=by rw[wrap64 (by omega) (by omega)];omega
    rw[if_neg cg]
    refine Qc hb ?_
    simp only[go_sem,simprocAttr,Qa,eg]
    refine QA Qe hb 200 mixed [(0,true),(1,true),(2,true),(3,true),(4,true),(5,true),(6,true),(7,true),(8,true),(9,true),(10,true),(11,true),(12,true),(13,false),(14,true),(15,false)] (by kernel_rfl) (by kernel_rfl) ?_
    simp only[go_sem,simprocAttr,Qa,wD,wE,yd,px,py,Qw wE,List.set_set,Xy,vz1,vz2]
    rw[XZ g dk _ _ _ yd px py,← TS,List.set_set]
    refine Zv (fun m st=>∃(d1:Array Int) (i j:Nat),d1.size=d.size∧a<i∧i≤j+1∧j<b∧m+(j+1 - i)≤b∧Sort.partLoop Qo a i j d1=Sort.partLoop Qo a (xe+1) (xf - 1) (Sort.swp dk xe xf)∧st=⟨[(0,.ref lo g 0 d.size),(1,Qb a),(10,Qb i),(11,Qb j)],h.set lo (QR g d1)⟩) b (s0:=⟨[(0,.ref lo g 0 d.size),(1,Qb a),(10,Qb (xe+1:Nat)),(11,Qb (xf - 1:Nat))],h.set lo (QR g (Sort.swp dk xe xf))⟩) (Qk.frame (by simp only[go_sem,simprocAttr])) ⟨_,xe+1,xf - 1,by rw[swp_size,yd],by omega,by omega,by omega,by omega,rfl,rfl⟩ ?_
    rintro m _ hm ⟨d1,i,j,X0,TR,JV,hjb,MV,Q4,rfl⟩
    have WI:=Yx (g:=g) (d:=d1) Qf
    generalize hH:h.set lo (QR g d1)=H at WI
    have Xc:=Qd WI
    rw[Sort.partLoop_eq]at Q4
    have Cg:=NX (fun x=>Qo x d1[a]!) (fun x=>!Qo x d1[a]!) (fun x=>rfl) d1 i j (by omega) JV
    obtain⟨u1,u2,u3,u4⟩:=Sort.scanUp_spec (fun x=>Qo x d1[a]!) d1 j _ i rfl
    have u5:=u2 JV
    generalize Wz:Sort.scanUp (fun x=>Qo x d1[a]!) d1 j i=i2 at *
    obtain⟨w1,w2,w3,w4⟩:=Sort.scanDown_spec (fun x=>!Qo x d1[a]!) d1 i2 j
    have w5:=w2 u5
    generalize Xt:Sort.scanDown (fun x=>!Qo x d1[a]!) d1 i2 j=j2 at *
    refine Qc hb ?_
    simp only[go_sem,simprocAttr,Qa]
    refine Zv (fun m st=>∃xc:Nat,xc=i+m∧xc≤j+1∧Sort.scanUp (fun x=>Qo x d1[a]!) d1 j xc=i2∧st=⟨[(0,.ref lo g 0 d.size),(1,Qb a),(10,Qb xc),(11,Qb j)],H⟩) d.size (s0:=⟨[(0,.ref lo g 0 d.size),(1,Qb a),(10,Qb i),(11,Qb j)],H⟩) (Qk.frame (by simp only[go_sem,simprocAttr])) ⟨i,rfl,by omega,Wz,rfl⟩ ?_
    rintro mc _ zJ ⟨xc,MW,hyc,xi,rfl⟩
    have gc:xc≤j→xc<d.size:=by omega
    rw[Sort.scanUp]at xi
    refine Qc hb ?_
    simp only[go_sem,simprocAttr,Qa,WI,Xc]
    first|refine Wg ?_|skip
    refine kI [0,1,10,11] [(112,QN (decide (xc≤j)&&Qo d1[xc]! d1[a]!))] rfl ?_ ?_
    ·by_cases cc:xc≤j
     ·have ec:decide (xc≤j)=true:=decide_eq_true cc
      have g2c:=gc cc
      refine QA Qe hb 200 mixed [(0,true),(1,true),(2,true),(3,true),(4,true),(5,true),(6,true),(7,true),(8,true),(9,true),(10,true),(11,true),(12,false),(13,true)] (by kernel_rfl) (by kernel_rfl) ?_
      simp only[go_sem,simprocAttr,Qa,WI,Xc,X0,ec,pa,g2c]
      refine Zt hb YS rfl ?_ (Y7 d1[xc]! d1[a]!) (Ql.flat rfl) rfl fun d h hR=>?_
      ·simp only[go_sem,simprocAttr]
      obtain⟨rfl,rfl⟩:=hR
      refine QF hb ?_
      simp only[go_sem,simprocAttr]
      exact Qk.frame (by simp only[go_sem,simprocAttr])
     ·have ec:decide (xc≤j)=false:=decide_eq_false cc
      refine QA Qe hb 200 mixed [(0,true),(1,true),(2,true),(3,true),(4,true),(5,true),(6,true),(7,true),(8,true),(9,true),(10,true),(11,true),(12,false),(13,true)] (by kernel_rfl) (by kernel_rfl) ?_
      simp only[go_sem,simprocAttr,Qa,WI,Xc,X0,ec,pa]
      exact Qk.frame (by simp only[go_sem,simprocAttr])
    cases hB:(decide (xc≤j)&&Qo d1[xc]! d1[a]!)
    ·rw[hB,if_neg (by decide)]at xi
     refine Qc hb ?_
     simp only[go_sem,simprocAttr,Qa,hB]
     subst xi
     refine Qc hb ?_
     simp only[go_sem,simprocAttr,Qa]
     refine Zv (fun m st=>∃xd:Nat,xd+m=j∧xc≤xd+1∧Sort.scanDown (fun x=>!Qo x d1[a]!) d1 xc xd=j2∧st=⟨[(0,.ref lo g 0 d.size),(1,Qb a),(10,Qb xc),(11,Qb xd)],H⟩) d.size (s0:=⟨[(0,.ref lo g 0 d.size),(1,Qb a),(10,Qb xc),(11,Qb j)],H⟩) (Qk.frame (by simp only[go_sem,simprocAttr])) ⟨j,rfl,by omega,Xt,rfl⟩ ?_
     rintro md _ NY ⟨xd,hxd,Hz,HA,rfl⟩
     have gd:xc≤xd→xd<d.size:=by omega
     rw[TQ _ _ _ _ (by omega)]at HA
     refine Qc hb ?_
     simp only[go_sem,simprocAttr,Qa,WI,Xc]
     first|refine Wg ?_|skip
     refine kI [0,1,10,11] [(129,QN (decide (xc≤xd)&&!Qo d1[xd]! d1[a]!))] rfl ?_ ?_
     ·by_cases cd:xc≤xd
      ·have ed:decide (xc≤xd)=true:=decide_eq_true cd
       have g2d:=gd cd
       refine QA Qe hb 200 mixed [(0,true),(1,true),(2,true),(3,true),(4,true),(5,true),(6,true),(7,true),(8,true),(9,true),(10,true),(11,true),(12,false),(13,true),(14,true)] (by kernel_rfl) (by kernel_rfl) ?_
       simp only[go_sem,simprocAttr,Qa,WI,Xc,X0,ed,pa,g2d]
       refine Zt hb YS rfl ?_ (Y7 d1[xd]! d1[a]!) (Ql.flat rfl) rfl fun d h hR=>?_
       ·simp only[go_sem,simprocAttr]
       obtain⟨rfl,rfl⟩:=hR
       refine QF hb ?_
       simp only[go_sem,simprocAttr]
       exact Qk.frame (by simp only[go_sem,simprocAttr])
      ·have ed:decide (xc≤xd)=false:=decide_eq_false cd
       refine QA Qe hb 200 mixed [(0,true),(1,true),(2,true),(3,true),(4,true),(5,true),(6,true),(7,true),(8,true),(9,true),(10,true),(11,true),(12,false),(13,true),(14,true)] (by kernel_rfl) (by kernel_rfl) ?_
       simp only[go_sem,simprocAttr,Qa,WI,Xc,X0,ed,pa]
       exact Qk.frame (by simp only[go_sem,simprocAttr])
     cases hB:(decide (xc≤xd)&&!Qo d1[xd]! d1[a]!)
     ·rw[hB,if_neg (by decide)]at HA
      refine Qc hb ?_
      simp only[go_sem,simprocAttr,Qa,hB]
      have wC:IntKind.i64.wrap ((xc:Int)+1)=((xc+1:Nat):Int):=by rw[wrap64 (by omega) (by omega)];omega
      subst HA
      by_cases cg:xd<xc
      ·have eg:decide (xd<xc)=true:=decide_eq_true cg
       rw[if_pos cg]at Q4
       refine Qc hb ?_
       simp only[go_sem,simprocAttr,Qa,eg]
       refine Qc hb ?_
       simp only[go_sem,simprocAttr,Qa]
       have py:xd<d.size:=by omega
       refine QA Qe hb 200 mixed [(0,true),(1,true),(2,true),(3,true),(4,true),(5,true),(6,true),(7,true),(8,true),(9,true),(10,true),(11,true),(12,true),(13,false),(14,true),(15,false)] (by kernel_rfl) (by kernel_rfl) ?_
       simp only[go_sem,simprocAttr,Qa,WI,Xc,X0,py,pa,Qw Xc,List.set_set,Xy]
       rw[XZ g d1 _ _ _ X0 py pa]
       rw[← Q4,← hH,List.set_set]
       first|exact⟨rfl,rfl⟩|rfl
      ·have eg:decide (xd<xc)=false:=decide_eq_false cg
       have sP:=Cg cg
       have px:xc<d.size:=by omega
       have py:xd<d.size:=by omega
       have Hw:IntKind.i64.wrap ((xd:Int) - 1)=((xd - 1:Nat):Int):=by rw[wrap64 (by omega) (by omega)];omega
       rw[if_neg cg]at Q4
       refine Qc hb ?_
       simp only[go_sem,simprocAttr,Qa,eg]
       refine QA Qe hb 200 mixed [(0,true),(1,true),(2,true),(3,true),(4,true),(5,true),(6,true),(7,true),(8,true),(9,true),(10,true),(11,true),(12,true),(13,false),(14,true),(15,false)] (by kernel_rfl) (by kernel_rfl) ?_
       simp only[go_sem,simprocAttr,Qa,WI,Xc,X0,px,py,Qw Xc,List.set_set,Xy,wC,Hw]
       rw[XZ g d1 _ _ _ X0 px py]
       refine⟨by omega,_,?_,Sort.swp d1 xc xd,xc+1,xd - 1,by rw[swp_size,X0],by omega,by omega,by omega,by omega,Q4,rfl⟩
       rw[← hH,List.set_set]
       exact Qk.frame (by simp only[go_sem,simprocAttr])
     ·rw[hB,if_pos rfl]at HA
      have lqd:xc≤xd:=by
       rw[Bool.and_eq_true]at hB
       exact of_decide_eq_true hB.1
      have vd:IntKind.i64.wrap ((xd:Int) - 1)=((xd - 1:Nat):Int):=by rw[wrap64 (by omega) (by omega)];omega
      refine Qc hb ?_
      simp only[go_sem,simprocAttr,Qa,hB,vd]
      refine⟨by omega,_,?_,xd - 1,by omega,by omega,HA,rfl⟩
      exact Qk.frame (by simp only[go_sem,simprocAttr])
    ·rw[hB,if_pos rfl]at xi
     have lqc:xc≤j:=by
      rw[Bool.and_eq_true]at hB
      exact of_decide_eq_true hB.1
     have vc:IntKind.i64.wrap ((xc:Int)+1)=((xc+1:Nat):Int):=by rw[wrap64 (by omega) (by omega)];omega
     refine Qc hb ?_
     simp only[go_sem,simprocAttr,Qa,hB,vc]
     refine⟨by omega,_,?_,xc+1,by omega,by omega,xi,rfl⟩
     exact Qk.frame (by simp only[go_sem,simprocAttr])
  ·rw[hB,if_pos rfl]at Hy
   have lqf:xe≤xf:=by
    rw[Bool.and_eq_true]at hB
    exact of_decide_eq_true hB.1
   have vf:IntKind.i64.wrap ((xf:Int) - 1)=((xf - 1:Nat):Int):=by rw[wrap64 (by omega) (by omega)];omega
   refine Qc hb ?_
   simp only[go_sem,simprocAttr,Qa,hB,vf]
   refine⟨by omega,_,?_,xf - 1,by omega,by omega,Hy,rfl⟩
   exact Qk.frame (by simp only[go_sem,simprocAttr])
 ·rw[hB,if_pos rfl]at Hx
  have lqe:xe≤J0:=by
   rw[Bool.and_eq_true]at hB
   exact of_decide_eq_true hB.1
  have ve:IntKind.i64.wrap ((xe:Int)+1)=((xe+1:Nat):Int):=by rw[wrap64 (by omega) (by omega)];omega
  refine Qc hb ?_
  simp only[go_sem,simprocAttr,Qa,hB,ve]
  refine⟨by omega,_,?_,xe+1,by omega,by omega,Hx,rfl⟩
  exact Qk.frame (by simp only[go_sem,simprocAttr])
end
theorem TT:∀(j:Nat) (d:Array Int),(Sort.shiftDown Qo j d).size=d.size
 | 0,d=>rfl
 | j+1,d=>by rw[Sort.shiftDown];split;rfl;rw[TT j,swp_size]
theorem sQ (b:Nat):∀(n j:Nat) (d:Array Int),b - j≤n→(Sort.shiftUp Qo b j d).size=d.size
 | n,j,d,hn=>by
  rw[Sort.shiftUp]
  split
  ·split
   ·rfl
   ·obtain⟨n',rfl⟩:∃n',n=n'+1:=⟨n - 1,by omega⟩
    rw[sQ b n' _ _ (by omega),swp_size]
  ·rfl
theorem sR (d:Array Int) (b:Nat):∀(n i:Nat),b - i≤n→i≤b→i≤Sort.scanSorted Qo d b i∧Sort.scanSorted Qo d b i≤b
 | n,i,hn,hi=>by
  rw[Sort.scanSorted]
  split
  ·rename_i c
   simp at c
   obtain⟨n',rfl⟩:∃n',n=n'+1:=⟨n - 1,by omega⟩
   have:=sR d b n' (i+1) (by omega) (by omega)
   omega
  ·omega
section
variable {h:List Ob} {lo g:Nat} {d:Array Int} (ho:h[lo]? = some (QR g d))
include ho
theorem Qm0 (a b:Nat) (J3:a<b) (Zf:b≤d.size) (hz:d.size<1000000000) :
  QH prog 298 h [.ref lo g 0 d.size,Qb a,Qb b] (fun dd h'=>dd=QN (Sort.partialInsertionSort Qo d a b).2∧h'=h.set lo (QR g (Sort.partialInsertionSort Qo d a b).1)):=by
 have e0:IntKind.i64.wrap ((a:Int)+1)=((a+1:Nat):Int):=by rw[wrap64 (by omega) (by omega)];omega
 have sS:IntKind.i64.wrap ((b:Int) - a)=((b - a:Nat):Int):=by rw[wrap64 (by omega) (by omega)];omega
 unfold Sort.partialInsertionSort
 refine QX Qe 200 func298 rfl ntmps298 results298 rfl fun base w pl hb=>?_
 have Qf:=Qd ho
 simp only[go_sem,simprocAttr,Qa,ho,Qf,e0]
 refine Zv (fun m st=>∃(d1:Array Int) (x:Nat),d1.size=d.size∧a+1≤x∧x≤b∧m≤5∧Sort.partialIns Qo a b (5 - m) x d1=Sort.partialIns Qo a b 5 (a+1) d∧st=⟨[(0,.ref lo g 0 d.size),(1,Qb a),(2,Qb b),(7,Qb x),(8,Qb m)],h.set lo (QR g d1)⟩) 5 (s0:=⟨[(0,.ref lo g 0 d.size),(1,Qb a),(2,Qb b),(7,Qb (a+1:Nat)),(8,Qb 0)],h.set lo (QR g d)⟩) ?_ ⟨d,a+1,rfl,by omega,by omega,by omega,rfl,rfl⟩ ?_
 ·rw[Y8 ho]
  exact Qk.frame (by simp only[go_sem,simprocAttr])
 rintro m _ hm ⟨d1,i,Zl,TR,sT,sU,V5,rfl⟩
 have Zk:=Yx (g:=g) (d:=d1) Qf
 generalize hH:h.set lo (QR g d1)=H at Zk
 have Jp:=Qd Zk
 by_cases cm:m<5
 ·have em:decide ((m:Int)<5)=true:=decide_eq_true (by omega)
  obtain⟨sq,hsm⟩:∃s,5 - m=s+1:=⟨5 - m - 1,by omega⟩
  have TU:4 - m=sq:=by omega
  rw[hsm,Sort.partialIns]at V5
  dsimp only at V5
  obtain⟨k1,k2⟩:=sR d1 b _ i (Nat.le_refl _) sT
  generalize hK:Sort.scanSorted Qo d1 b i=K at *
  refine Qc hb ?_
  simp only[go_sem,simprocAttr,Qa,Zk,Jp,em]
  refine Zv (fun n st=>∃x:Nat,x=i+n∧x≤b∧Sort.scanSorted Qo d1 b x=K∧st=⟨[(0,.ref lo g 0 d.size),(1,Qb a),(2,Qb b),(7,Qb x),(8,Qb m)],H⟩) d.size (s0:=⟨[(0,.ref lo g 0 d.size),(1,Qb a),(2,Qb b),(7,Qb i),(8,Qb m)],H⟩) (Qk.frame (by simp only[go_sem,simprocAttr])) ⟨i,rfl,sT,hK,rfl⟩ ?_
  rintro n0 _ zK ⟨x,hx,vK,HB,rfl⟩
  have TV:IntKind.i64.wrap ((x:Int) - 1)=((x - 1:Nat):Int):=by rw[wrap64 (by omega) (by omega)];omega
  have TW:x - 1<d.size:=by omega
  have gx:x<b→x<d.size:=by omega
  rw[Sort.scanSorted]at HB
  refine Qc hb ?_
  simp only[go_sem,simprocAttr,Qa,Zk,Jp]
  first|refine Wg ?_|skip
  refine kI [0,1,2,7,8] [(32,QN (decide (x<b)&&!Qo d1[x]! d1[x - 1]!))] rfl ?_ ?_
  ·by_cases cx:x<b
   ·have ex:decide (x<b)=true:=decide_eq_true cx
    have gx2:=gx cx
    refine QA Qe hb 200 mixed [(0,true),(1,true),(2,true),(3,true),(4,true),(5,true),(6,true),(7,true),(8,true),(9,true),(10,true),(11,true),(12,true),(13,false),(14,true),(15,true)] (by kernel_rfl) (by kernel_rfl) ?_
    simp only[go_sem,simprocAttr,Qa,Zk,Jp,Zl,ex,TV,TW,gx2]
    refine Zt hb YS rfl ?_ (Y7 d1[x]! d1[x - 1]!) (Ql.flat rfl) rfl fun d h hR=>?_
    ·simp only[go_sem,simprocAttr]
    obtain⟨rfl,rfl⟩:=hR
    refine QF hb ?_
    simp only[go_sem,simprocAttr]
    exact Qk.frame (by simp only[go_sem,simprocAttr])
   ·have ex:decide (x<b)=false:=decide_eq_false cx
    refine QA Qe hb 200 mixed [(0,true),(1,true),(2,true),(3,true),(4,true),(5,true),(6,true),(7,true),(8,true),(9,true),(10,true),(11,true),(12,true),(13,false),(14,true),(15,true)] (by kernel_rfl) (by kernel_rfl) ?_
    simp only[go_sem,simprocAttr,Qa,Zk,Jp,Zl,ex]
    exact Qk.frame (by simp only[go_sem,simprocAttr])
  cases hB:(decide (x<b)&&!Qo d1[x]! d1[x - 1]!)
  ·rw[hB,if_neg (by decide)]at HB
   subst HB
   refine Qc hb ?_
   simp only[go_sem,simprocAttr,Qa,hB]
   by_cases cb:x=b
   ·have NZ:((x:Int)==(b:Int))=true:=by rw[cb];exact beq_self_eq_true _
    rw[if_pos cb]at V5
    refine Qc hb ?_
    simp only[go_sem,simprocAttr,Qa,NZ]
    rw[← V5,← hH]
    first|exact⟨rfl,rfl⟩|rfl
   ·have NZ:((x:Int)==(b:Int))=false:=beq_eq_false_iff_ne.mpr (by omega)
    rw[if_neg cb]at V5
    by_cases Hs:b - a<50
    ·have TX:decide (((b - a:Nat):Int)<50)=true:=decide_eq_true (by omega)
     rw[if_pos Hs]at V5
     refine Qc hb ?_
     simp only[go_sem,simprocAttr,Qa,NZ,sS,TX]
     rw[← V5,← hH]
     first|exact⟨rfl,rfl⟩|rfl
    ·have TX:decide (((b - a:Nat):Int)<50)=false:=decide_eq_false (by omega)
     rw[if_neg Hs]at V5
     have px:x<d.size:=by omega
     refine Qc hb ?_
     simp only[go_sem,simprocAttr,Qa,NZ,sS,TX]
     refine wB (⟨[(0,.ref lo g 0 d.size),(1,Qb a),(2,Qb b),(7,Qb x),(8,Qb m)],h.set lo (QR g (Sort.swp d1 x (x - 1)))⟩) Qe hb mixed [(0,true),(1,true),(2,true),(3,true),(5,true),(6,true),(7,true),(8,true),(9,true),(10,true),(11,true),(12,true),(13,true),(14,true)] [4,15,16,17] (by kernel_rfl) (by kernel_rfl) (fun s hw=>jD hw rfl ?_) ?_
     rotate_left
     ·simp only[go_sem,simprocAttr,Qa,Zk,Jp,TV,px,TW,Zl,Qw Jp,List.set_set,Xy]
      rw[XZ g d1 _ _ _ Zl px TW,← hH,List.set_set]
      repeat' refine And.intro ?_ ?_
      all_goals exact Qk.frame (by simp only[go_sem,simprocAttr])
     generalize JE:Sort.swp d1 x (x - 1)=d2 at *
     have Ji:d2.size=d.size:=by rw[← JE,swp_size,Zl]
     have Jf:=Yx (g:=g) (d:=d2) Qf
     have sV:IntKind.i64.wrap ((x:Int) - a)=((x - a:Nat):Int):=by rw[wrap64 (by omega) (by omega)];omega
     have sW:IntKind.i64.wrap ((b:Int) - x)=((b - x:Nat):Int):=by rw[wrap64 (by omega) (by omega)];omega
     have TY:IntKind.i64.wrap ((x:Int)+1)=((x+1:Nat):Int):=by rw[wrap64 (by omega) (by omega)];omega
     generalize HC:(if x - a ≥ 2 then Sort.shiftDown Qo (x - 1) d2 else d2)=d3 at *
     have Ht:d3.size=d.size:=by
      rw[← HC]
      split
      ·rw[TT,Ji]
      ·exact Ji
     first|refine Wg ?_|skip
     refine RZ (⟨[(0,.ref lo g 0 d.size),(1,Qb a),(2,Qb b),(7,Qb x),(8,Qb m)],h.set lo (QR g d3)⟩) ?_ ?_
     ·by_cases sX:x - a ≥ 2
      ·have TZ:decide ((2:Int)≤((x - a:Nat):Int))=true:=decide_eq_true (by omega)
       rw[if_pos sX]at HC
       refine Qc hb ?_
       simp only[go_sem,simprocAttr,Qa,sV,TZ,TV]
       rw[← HC]
       refine Zv (fun n st=>∃(dd:Array Int) (y:Nat),dd.size=d.size∧y+n=x - 1∧Sort.shiftDown Qo y dd=Sort.shiftDown Qo (x - 1) d2∧st=⟨[(0,.ref lo g 0 d.size),(1,Qb a),(2,Qb b),(7,Qb x),(8,Qb m),(9,Qb y)],h.set lo (QR g dd)⟩) d.size (s0:=⟨[(0,.ref lo g 0 d.size),(1,Qb a),(2,Qb b),(7,Qb x),(8,Qb m),(9,Qb (x - 1:Nat))],h.set lo (QR g d2)⟩) (Qk.frame (by simp only[go_sem,simprocAttr])) ⟨d2,_,Ji,by omega,rfl,rfl⟩ ?_
       rintro n _ hn ⟨dd,y,vj,hy,ZW,rfl⟩
       have zL:=Yx (g:=g) (d:=dd) Qf
       generalize vk:h.set lo (QR g dd)=Hd at zL
       have vm:=Qd zL
       by_cases cy:1≤y
       ·have ey:decide ((1:Int)≤(y:Int))=true:=decide_eq_true (by omega)
        obtain⟨y',rfl⟩:∃y',y=y'+1:=⟨y - 1,by omega⟩
        rw[Sort.shiftDown]at ZW
        have wC:IntKind.i64.wrap (((y'+1:Nat):Int) - 1)=((y':Nat):Int):=by rw[wrap64 (by omega) (by omega)];omega
        have q1:(y'+1)<d.size:=by omega
        have q2:y'<d.size:=by omega
        refine Qc hb ?_
        simp only[go_sem,simprocAttr,Qa,zL,vm,ey]
        refine QA Qe hb 200 mixed [(0,true),(1,true),(2,true),(3,true),(4,true),(5,true),(6,true),(7,true),(8,true),(9,false),(10,true)] (by kernel_rfl) (by kernel_rfl) ?_
        simp only[go_sem,simprocAttr,Qa,zL,vm,vj,wC,q1,q2]
        refine Zt hb YS rfl ?_ (Y7 dd[y'+1]! dd[y']!) (Ql.flat rfl) rfl fun d h hR=>?_
        ·simp only[go_sem,simprocAttr]
        obtain⟨rfl,rfl⟩:=hR
        refine QF hb ?_
        simp only[go_sem,simprocAttr]
        cases hl:Qo dd[y'+1]! dd[y']!
        ·rw[hl,Bool.not_false,if_pos rfl]at ZW
         simp only[go_sem,simprocAttr,hl]
         try (refine Qc hb ?_;simp only[go_sem,simprocAttr,Qa])
         first|rw[← ZW,← vk]|rw[← vk]
         exact Qk.frame (by simp only[go_sem,simprocAttr])
        ·rw[hl,Bool.not_true,if_neg (by decide)]at ZW
         simp only[go_sem,simprocAttr,hl]
         refine wB (⟨[(0,.ref lo g 0 d.size),(1,Qb a),(2,Qb b),(7,Qb x),(8,Qb m),(9,Qb (y'+1:Nat))],h.set lo (QR g (Sort.swp dd (y'+1) y'))⟩) Qe hb mixed [(0,true),(1,true),(2,true),(3,true),(5,true),(6,true),(7,true),(8,true),(9,true),(10,true),(11,true),(12,true),(13,true),(14,true)] [4,15,16,17] (by kernel_rfl) (by kernel_rfl) (fun s hw=>jD hw rfl ?_) ?_
         rotate_left
         ·simp only[go_sem,simprocAttr,Qa,zL,vm,vj,wC,q1,q2,Qw vm,List.set_set,Xy]
          rw[XZ g dd _ _ _ vj q1 q2,← vk,List.set_set]
          repeat' refine And.intro ?_ ?_
          all_goals exact Qk.frame (by simp only[go_sem,simprocAttr])
         refine Qc hb ?_
         simp only[go_sem,simprocAttr,wC]
         refine⟨by omega,_,?_,Sort.swp dd (y'+1) y',y',by rw[swp_size,vj],by omega,ZW,rfl⟩
         exact Qk.frame (by simp only[go_sem,simprocAttr])
       ·have ey:decide ((1:Int)≤(y:Int))=false:=decide_eq_false (by omega)
        obtain rfl:y=0:=by omega
        rw[Sort.shiftDown]at ZW
        refine Qc hb ?_
        simp only[go_sem,simprocAttr,Qa,zL,vm,ey]
        try (refine Qc hb ?_;simp only[go_sem,simprocAttr,Qa])
        first|rw[← ZW,← vk]|rw[← vk]
        exact Qk.frame (by simp only[go_sem,simprocAttr])
      ·have TZ:decide ((2:Int)≤((x - a:Nat):Int))=false:=decide_eq_false (by omega)
       rw[if_neg sX]at HC
       refine Qc hb ?_
       simp only[go_sem,simprocAttr,Qa,sV,TZ]
       rw[← HC]
       exact Qk.frame (by simp only[go_sem,simprocAttr])
     have T3:IntKind.i64.wrap ((m:Int)+1)=((m+1:Nat):Int):=by rw[wrap64 (by omega) (by omega)];omega
     by_cases sY:b - x ≥ 2
     ·have T4:decide ((2:Int)≤((b - x:Nat):Int))=true:=decide_eq_true (by omega)
      rw[if_pos sY]at V5
      refine Qc hb ?_
      simp only[go_sem,simprocAttr,Qa,sW,T4,TY]
      refine Zv (fun n st=>∃(dd:Array Int) (y:Nat),dd.size=d.size∧y=x+1+n∧y≤b∧Sort.shiftUp Qo b y dd=Sort.shiftUp Qo b (x+1) d3∧st=⟨[(0,.ref lo g 0 d.size),(1,Qb a),(2,Qb b),(7,Qb x),(8,Qb m),(10,Qb y)],h.set lo (QR g dd)⟩) d.size (s0:=⟨[(0,.ref lo g 0 d.size),(1,Qb a),(2,Qb b),(7,Qb x),(8,Qb m),(10,Qb (x+1:Nat))],h.set lo (QR g d3)⟩) (Qk.frame (by simp only[go_sem,simprocAttr])) ⟨d3,_,Ht,by omega,by omega,rfl,rfl⟩ ?_
      rintro n _ hn ⟨dd,y,vj,hy,hyb,ZW,rfl⟩
      have zL:=Yx (g:=g) (d:=dd) Qf
      generalize vk:h.set lo (QR g dd)=Hd at zL
      have vm:=Qd zL
      by_cases cy:y<b
      ·have ey:decide (y<b)=true:=decide_eq_true (by omega)
       rw[Sort.shiftUp,if_pos cy]at ZW
       have wC:IntKind.i64.wrap ((y:Int) - 1)=((y - 1:Nat):Int):=by rw[wrap64 (by omega) (by omega)];omega
       have Hw:IntKind.i64.wrap ((y:Int)+1)=((y+1:Nat):Int):=by rw[wrap64 (by omega) (by omega)];omega
       have q1:y<d.size:=by omega
       have q2:(y - 1)<d.size:=by omega
       refine Qc hb ?_
       simp only[go_sem,simprocAttr,Qa,zL,vm,ey]
       refine QA Qe hb 200 mixed [(0,true),(1,true),(2,true),(3,true),(4,true),(5,true),(6,true),(7,true),(8,true),(9,false),(10,true)] (by kernel_rfl) (by kernel_rfl) ?_
       simp only[go_sem,simprocAttr,Qa,zL,vm,vj,wC,q1,q2]
       refine Zt hb YS rfl ?_ (Y7 dd[y]! dd[y - 1]!) (Ql.flat rfl) rfl fun d h hR=>?_
       ·simp only[go_sem,simprocAttr]
       obtain⟨rfl,rfl⟩:=hR
       refine QF hb ?_
       simp only[go_sem,simprocAttr]
       cases hl:Qo dd[y]! dd[y - 1]!
       ·rw[hl,Bool.not_false,if_pos rfl]at ZW
        simp only[go_sem,simprocAttr,hl]
        try (refine Qc hb ?_;simp only[go_sem,simprocAttr,Qa])
        first|rw[← ZW,← vk]|rw[← vk]
        try simp only[T3]
        refine⟨by omega,_,?_,dd,x,vj,by omega,by omega,by omega,by rw[TU,ZW];exact V5,rfl⟩
        exact Qk.frame (by simp only[go_sem,simprocAttr])
       ·rw[hl,Bool.not_true,if_neg (by decide)]at ZW
        simp only[go_sem,simprocAttr,hl]
        refine wB (⟨[(0,.ref lo g 0 d.size),(1,Qb a),(2,Qb b),(7,Qb x),(8,Qb m),(10,Qb (y:Nat))],h.set lo (QR g (Sort.swp dd y (y - 1)))⟩) Qe hb mixed [(0,true),(1,true),(2,true),(3,true),(5,true),(6,true),(7,true),(8,true),(9,true),(10,true),(11,true),(12,true),(13,true),(14,true)] [4,15,16,17] (by kernel_rfl) (by kernel_rfl) (fun s hw=>jD hw rfl ?_) ?_
        rotate_left
        ·simp only[go_sem,simprocAttr,Qa,zL,vm,vj,wC,q1,q2,Qw vm,List.set_set,Xy]
         rw[XZ g dd _ _ _ vj q1 q2,← vk,List.set_set]
         repeat' refine And.intro ?_ ?_
         all_goals exact Qk.frame (by simp only[go_sem,simprocAttr])
        refine Qc hb ?_
        simp only[go_sem,simprocAttr,Hw]
        refine⟨by omega,_,?_,Sort.swp dd y (y - 1),y+1,by rw[swp_size,vj],by omega,by omega,ZW,rfl⟩
        exact Qk.frame (by simp only[go_sem,simprocAttr])
      ·have ey:decide (y<b)=false:=decide_eq_false (by omega)
       rw[Sort.shiftUp,if_neg cy]at ZW
       refine Qc hb ?_
       simp only[go_sem,simprocAttr,Qa,zL,vm,ey]
       try (refine Qc hb ?_;simp only[go_sem,simprocAttr,Qa])
       first|rw[← ZW,← vk]|rw[← vk]
       try simp only[T3]
       refine⟨by omega,_,?_,dd,x,vj,by omega,by omega,by omega,by rw[TU,ZW];exact V5,rfl⟩
       exact Qk.frame (by simp only[go_sem,simprocAttr])
     ·have T4:decide ((2:Int)≤((b - x:Nat):Int))=false:=decide_eq_false (by omega)
      rw[if_neg sY]at V5
      refine Qc hb ?_
      simp only[go_sem,simprocAttr,Qa,sW,T4,T3]
      refine⟨by omega,_,?_,d3,x,Ht,by omega,by omega,by omega,by rw[TU];exact V5,rfl⟩
      exact Qk.frame (by simp only[go_sem,simprocAttr])
  ·rw[hB,if_pos rfl]at HB
   have lq:x<b:=by
    rw[Bool.and_eq_true]at hB
    exact of_decide_eq_true hB.1
   have TY:IntKind.i64.wrap ((x:Int)+1)=((x+1:Nat):Int):=by rw[wrap64 (by omega) (by omega)];omega
   refine Qc hb ?_
   simp only[go_sem,simprocAttr,Qa,hB,TY]
   refine⟨by omega,_,?_,x+1,by omega,by omega,HB,rfl⟩
   exact Qk.frame (by simp only[go_sem,simprocAttr])
 ·have em:decide ((m:Int)<5)=false:=decide_eq_false (by omega)
  obtain rfl:m=5:=by omega
  rw[Nat.sub_self,Sort.partialIns]at V5
  refine Qc hb ?_
  simp only[go_sem,simprocAttr,Qa,Zk,Jp,em]
  refine Qc hb ?_
  simp only[go_sem,simprocAttr,Qa]
  rw[← V5,← hH]
  first|exact⟨rfl,rfl⟩|rfl
end
theorem N0 (n k:Nat) (h:2 ^ k≤n):Sort.bitsLen n=k+Sort.bitsLen (n / 2 ^ k):=by
 have e:∀m,Sort.bitsLen n≤m↔k+Sort.bitsLen (n / 2 ^ k)≤m:=by
  intro m
  rw[Sort.bitsLen_le_iff]
  by_cases c:k≤m
  ·obtain⟨j,rfl⟩:∃j,m=k+j:=⟨m - k,by omega⟩
   have h2:=Sort.bitsLen_le_iff (n / 2 ^ k) j
   rw[Nat.div_lt_iff_lt_mul (Nat.two_pow_pos k),← Nat.pow_add,Nat.add_comm j k]at h2
   rw[← h2]
   omega
  ·have:2 ^ m≤2 ^ k:=Nat.pow_le_pow_right (by decide) (by omega)
   constructor
   ·intro hh;omega
   ·intro hh;omega
 have a1:=(e (Sort.bitsLen n)).1 (Nat.le_refl _)
 have a2:=(e (k+Sort.bitsLen (n / 2 ^ k))).2 (Nat.le_refl _)
 omega
theorem N1 (t:Array UInt8) (ht:(List.range 256).all (fun i=>Nat.beq (t.getD i 0).toNat (Sort.bitsLen i))=true) (hs:t.size=256) (k i n:Nat) (hi:i<256) (hk:k<1000) (hn:Sort.bitsLen n=k+Sort.bitsLen i) :
  IntKind.u8.wrap (i:Int)<(t.size:Int)∧D.raw (.int .i64 (IntKind.i64.wrap ((k:Int)+IntKind.i64.wrap ((t.getD (IntKind.u8.wrap (i:Int)).toNat 0).toNat:Int))))=D.raw (.int .i64 (Sort.bitsLen n)):=by
 have h1:=List.all_eq_true.1 ht i (List.mem_range.2 hi)
 rw[Nat.beq_eq]at h1
 have w:IntKind.u8.wrap (i:Int)=i:=by rw[IntKind.wrap_u8];omega
 rw[w,hs,show ((i:Int)).toNat=i from rfl,h1,hn]
 have h2:Sort.bitsLen i≤8:=(Sort.bitsLen_le_iff i 8).2 (by omega)
 refine⟨by omega,?_⟩
 have w2:IntKind.i64.wrap (Sort.bitsLen i:Int)=Sort.bitsLen i:=wrap64 (by omega) (by omega)
 rw[w2,wrap64 (by omega) (by omega)]
 congr 2
theorem Qm3 (n:Nat) (hn:n<4294967296):Q8 prog 242 [u64 n] (Ql (Qb (Sort.bitsLen n))):=by
 have e1:decide ((4294967296:Int)≤n)=false:=decide_eq_false (by omega)
 refine Zb 0 Qe 200 func242 rfl ntmps242 results242 rfl fun base w hb=>?_
 simp only[go_sem,simprocAttr]
 have s1:((n:Int).fdiv (2 ^ min 16 64))=((n / 65536:Nat):Int):=BW n 16
 have s2:∀m:Nat,((m:Int).fdiv (2 ^ min 8 64))=((m / 256:Nat):Int):=fun m=>BW m 8
 have sZ:IntKind.i64.wrap 16=16:=rfl
 have T5:IntKind.i64.wrap 24=24:=rfl
 have w8:IntKind.i64.wrap 8=8:=rfl
 by_cases c1:65536≤n
 ·have d1:decide ((65536:Int)≤n)=true:=decide_eq_true (by omega)
  by_cases c2:256≤n / 65536
  ·have d2:decide ((256:Int)≤(n / 65536:Nat))=true:=decide_eq_true (by omega)
   simp only[go_sem,simprocAttr,e1,d1,s1,d2,s2,sZ,T5]
   exact N1 _ (by kernel_rfl) (by kernel_rfl) 24 (n / 65536 / 256) n (by omega) (by decide) (by rw[N0 n 16 (by omega),N0 (n / 2 ^ 16) 8 (by omega),show n / 2 ^ 16 / 2 ^ 8=n / 65536 / 256 from rfl];omega)
  ·have d2:decide ((256:Int)≤(n / 65536:Nat))=false:=decide_eq_false (by omega)
   simp only[go_sem,simprocAttr,e1,d1,s1,d2,s2,sZ,T5]
   exact N1 _ (by kernel_rfl) (by kernel_rfl) 16 (n / 65536) n (by omega) (by decide) (by rw[N0 n 16 (by omega)])
 ·have d1:decide ((65536:Int)≤n)=false:=decide_eq_false (by omega)
  by_cases c2:256≤n
  ·have d2:decide ((256:Int)≤n)=true:=decide_eq_true (by omega)
   simp only[go_sem,simprocAttr,e1,d1,s1,d2,s2,w8,T5]
   exact N1 _ (by kernel_rfl) (by kernel_rfl) 8 (n / 256) n (by omega) (by decide) (by rw[N0 n 8 (by omega)])
  ·have d2:decide ((256:Int)≤n)=false:=decide_eq_false (by omega)
   simp only[go_sem,simprocAttr,e1,d1,s1,d2,s2]
   exact N1 _ (by kernel_rfl) (by kernel_rfl) 0 n n (by omega) (by decide) (by omega)
theorem Ll (n:Nat) (hn:n<4294967296):Q8 prog 191 [u64 n] (Ql (Qb (Sort.bitsLen n))):=by
 refine Zb 0 Qe 200 func191 rfl ntmps191 results191 rfl fun base w hb=>?_
 simp only[go_sem,simprocAttr]
 refine QE hb Qjl rfl ?_ (Qm3 n hn) (Ql.flat rfl) rfl fun d h hR=>?_
 ·simp only[go_sem,simprocAttr]
 obtain⟨rfl,rfl⟩:=hR
 refine Qc hb ?_
 simp only[go_sem,simprocAttr]
theorem Qm4 (n:Nat) (hn:n<1000000000):Q8 prog 278 [Qb n] (Ql (u64 (2 ^ Sort.bitsLen n))):=by
 have w1:IntKind.u64.wrap (n:Int)=(n:Int):=by rw[IntKind.wrap_u64];omega
 have hb:=(Sort.bitsLen_le_iff n 30).2 (by omega)
 have hp:2 ^ Sort.bitsLen n≤2 ^ 30:=Nat.pow_le_pow_right (by decide) hb
 have w2:IntKind.u64.wrap (1*2 ^ min (Sort.bitsLen n) 64)=((2 ^ Sort.bitsLen n:Nat):Int):=by
  rw[Nat.min_eq_left (by omega),Int.one_mul,show (2:Int) ^ Sort.bitsLen n=((2 ^ Sort.bitsLen n:Nat):Int) by push_cast;rfl,IntKind.wrap_u64]
  generalize 2 ^ Sort.bitsLen n=p at *
  omega
 refine Zb 0 Qe 200 func278 rfl ntmps278 results278 rfl fun base w hb=>?_
 simp only[go_sem,simprocAttr]
 simp only[go_sem,simprocAttr,w1]
 refine QE hb oG rfl ?_ (Ll n (by omega)) (Ql.flat rfl) rfl fun d h hR=>?_
 ·simp only[go_sem,simprocAttr,w2]
 obtain⟨rfl,rfl⟩:=hR
 refine Qc hb ?_
 simp only[go_sem,simprocAttr,w2]
@[go_sem] def AK (n:Nat):Ob:=⟨.one,0,1,1,fun _=>[u64 n]⟩
theorem Qm5 {h:List Ob} {sp:Nat} (n:Nat) (XY:h[sp]? = some (AK n)) (hn:n<18446744073709551616) :
  QH prog 279 h [.ptr sp 0 0 0] (fun dd h'=>dd=u64 (Sort.xorNextN n)∧h'=h.set sp (AK (Sort.xorNextN n))):=by
 refine QX Qe 200 func279 rfl ntmps279 results279 rfl fun base w pl hb=>?_
 have qa:=Qd XY
 simp only[go_sem,simprocAttr,Qa,XY,qa]
 have x1:∀a:Nat,a<18446744073709551616→bits .xor .u64 (a:Int) (IntKind.u64.wrap ((a:Int)*2 ^ min 13 64))=((a ^^^ (a*8192 % 18446744073709551616):Nat):Int):=fun a ha=>by
  rw[show IntKind.u64.wrap ((a:Int)*2 ^ min 13 64)=((a*8192 % 18446744073709551616:Nat):Int) from GU a 8192]
  exact u64_xor_nat _ _ ha (Nat.mod_lt _ (by decide))
 have x2:∀a:Nat,a<18446744073709551616→bits .xor .u64 (a:Int) ((a:Int).fdiv (2 ^ min 7 64))=((a ^^^ (a / 128):Nat):Int):=fun a ha=>by
  rw[show (a:Int).fdiv (2 ^ min 7 64)=((a / 128:Nat):Int) from BW a 7]
  exact u64_xor_nat _ _ ha (by omega)
 have x3:∀a:Nat,a<18446744073709551616→bits .xor .u64 (a:Int) (IntKind.u64.wrap ((a:Int)*2 ^ min 17 64))=((a ^^^ (a*131072 % 18446744073709551616):Nat):Int):=fun a ha=>by
  rw[show IntKind.u64.wrap ((a:Int)*2 ^ min 17 64)=((a*131072 % 18446744073709551616:Nat):Int) from GU a 131072]
  exact u64_xor_nat _ _ ha (Nat.mod_lt _ (by decide))
 have ha:n ^^^ (n*8192 % 18446744073709551616)<18446744073709551616:=Nat.xor_lt_two_pow (n:=64) (by omega) (by omega)
 have Jt:(n ^^^ (n*8192 % 18446744073709551616)) ^^^ ((n ^^^ (n*8192 % 18446744073709551616)) / 128)<18446744073709551616:=Nat.xor_lt_two_pow (n:=64) ha (by omega)
 unfold Sort.xorNextN
 dsimp only
 refine QA Qe hb 200 mixed [(0,true),(1,true),(2,true),(3,true),(4,true),(5,true),(6,true),(7,true),(8,true),(9,false)] (by kernel_rfl) (by kernel_rfl) ?_
 simp only[go_sem,simprocAttr,Qa,XY,qa,x1 n hn]
 generalize n ^^^ (n*8192 % 18446744073709551616)=n1 at *
 refine QA Qe hb 200 mixed [(0,true),(1,true),(2,true),(3,true),(4,true),(5,true),(6,true),(7,true),(8,true),(9,false)] (by kernel_rfl) (by kernel_rfl) ?_
 simp only[go_sem,simprocAttr,Qa,Qw qa,List.set_set,qa,x2 n1 ha]
 generalize n1 ^^^ (n1 / 128)=n2 at *
 refine QA Qe hb 200 mixed [(0,true),(1,true),(2,true),(3,true),(4,true),(5,true),(6,true),(7,true),(8,true),(9,false)] (by kernel_rfl) (by kernel_rfl) ?_
 simp only[go_sem,simprocAttr,Qa,Qw qa,List.set_set,qa,x3 n2 Jt]
 try exact⟨rfl,rfl⟩
def jE (a L M idx:Nat) (s0:UInt64 × Array Int):Nat→UInt64 × Array Int
 | 0=>s0
 | k+1=>Sort.breakStep a L M (jE a L M idx s0 k) (idx+k)
theorem T7 (a L M idx:Nat) (s0:UInt64 × Array Int):∀k,(jE a L M idx s0 k).2.size=s0.2.size
 | 0=>rfl
 | k+1=>by
  rw[jE,Sort.breakStep]
  dsimp only
  rw[swp_size,T7 a L M idx s0 k]
theorem ta (d:Array Int) (a b:Nat) (h:b - a ≥ 8):Sort.breakPatterns d a b=(jE a (b - a) (1 <<< Sort.bitsLen (b - a)) (a+(b - a) / 4*2 - 1) (UInt64.ofNat (b - a),d) 3).2:=by
 unfold Sort.breakPatterns
 dsimp only
 rw[if_pos h]
 rfl
section
variable {h:List Ob} {lo g:Nat} {d:Array Int} (ho:h[lo]? = some (QR g d))
include ho
theorem Qm6 (a b:Nat) (J3:a<b) (Zf:b≤d.size) (hz:d.size<1000000000) :
  QH prog 295 h [.ref lo g 0 d.size,Qb a,Qb b] (fun dd h'=>dd=.tup []∧∃t,h'=h.set lo (QR g (Sort.breakPatterns d a b))++t):=by
 have e0:IntKind.i64.wrap ((b:Int) - a)=((b - a:Nat):Int):=by rw[wrap64 (by omega) (by omega)];omega
 by_cases c8:b - a ≥ 8
 ·rw[ta d a b c8]
  have d8:decide ((8:Int)≤(b - a:Nat))=true:=decide_eq_true (by omega)
  generalize hL:b - a=L at *
  have tc:=Sort.two_pow_bitsLen_le (n:=L) (by omega)
  have hM0:=Nat.two_pow_pos (Sort.bitsLen L)
  rw[show 1 <<< Sort.bitsLen L=2 ^ Sort.bitsLen L by rw[Nat.shiftLeft_eq,Nat.one_mul]]
  have f0:((L:Int)).tdiv 4=((L / 4:Nat):Int):=rfl
  have f1:IntKind.i64.wrap (((L / 4:Nat):Int))=((L / 4:Nat):Int):=by rw[wrap64 (by omega) (by omega)]
  have f2:IntKind.i64.wrap (((L / 4:Nat):Int)*2)=((L / 4*2:Nat):Int):=by rw[wrap64 (by omega) (by omega)];omega
  have f3:IntKind.i64.wrap ((a:Int)+(L / 4*2:Nat))=((a+L / 4*2:Nat):Int):=by rw[wrap64 (by omega) (by omega)];omega
  have f4:IntKind.i64.wrap (((a+L / 4*2:Nat):Int) - 1)=((a+L / 4*2 - 1:Nat):Int):=by rw[wrap64 (by omega) (by omega)];omega
  have f5:IntKind.i64.wrap (((a+L / 4*2:Nat):Int)+1)=((a+L / 4*2+1:Nat):Int):=by rw[wrap64 (by omega) (by omega)];omega
  have f6:IntKind.u64.wrap (L:Int)=(L:Int):=by rw[IntKind.wrap_u64];omega
  refine QX Qe 200 func295 rfl ntmps295 results295 rfl fun base w pl hb=>?_
  have Qf:=Qd ho
  simp only[go_sem,simprocAttr,Qa,ho,Qf,e0,d8,f6]
  refine QE hb Qjt rfl ?_ (Qm4 L (by omega)) (Ql.flat rfl) rfl fun d h hR=>?_
  ·simp only[go_sem,simprocAttr,f0,f1,f2,f3,f4]
  obtain⟨rfl,rfl⟩:=hR
  refine Qc hb ?_
  simp only[go_sem,simprocAttr,f0,f1,f2,f3,f4]
  generalize hM:2 ^ Sort.bitsLen L=M at *
  generalize hS:(UInt64.ofNat L,d)=s0
  have Kp:s0.2.size=d.size:=by rw[← hS]
  have hS1:s0.1.toNat=L:=by rw[← hS];simp;omega
  have B1:s0.2=d:=by rw[← hS]
  refine Zv (fun m st=>m≤3∧st=⟨[(0,.ref lo g 0 d.size),(1,Qb a),(6,Qb L),(7,.ptr h.length 0 0 0),(8,u64 M),(9,Qb (a+L / 4*2 - 1+m:Nat))],h.set lo (QR g (jE a L M (a+L / 4*2 - 1) s0 m).2)++[AK (jE a L M (a+L / 4*2 - 1) s0 m).1.toNat]⟩) 3 (s0:=⟨[(0,.ref lo g 0 d.size),(1,Qb a),(6,Qb L),(7,.ptr h.length 0 0 0),(8,u64 M),(9,Qb (a+L / 4*2 - 1+0:Nat))],h.set lo (QR g (jE a L M (a+L / 4*2 - 1) s0 0).2)++[AK (jE a L M (a+L / 4*2 - 1) s0 0).1.toNat]⟩) ?_ ⟨by omega,rfl⟩ ?_
  ·rw[jE,B1,hS1,Y8 ho]
   exact Qk.frame (by simp only[go_sem,simprocAttr])
  rintro m _ hm ⟨xN,rfl⟩
  have ZC:=T7 a L M (a+L / 4*2 - 1) s0 m
  rw[Kp]at ZC
  by_cases cm:m<3
  ·have td:jE a L M (a+L / 4*2 - 1) s0 (m+1)=Sort.breakStep a L M (jE a L M (a+L / 4*2 - 1) s0 m) (a+L / 4*2 - 1+m):=rfl
   generalize ZJ:jE a L M (a+L / 4*2 - 1) s0 m=sm at *
   obtain⟨r,dm⟩:=sm
   dsimp only at ZC ⊢
   have HE:=Yx (g:=g) (d:=dm) Qf
   have XU:(h.set lo (QR g dm)).length=h.length:=List.length_set
   generalize hH:h.set lo (QR g dm)=H at *
   have wF:=Qd HE
   have Zr:lo<h.length:=Qf
   rw[← XU]
   have g1:(H++[AK r.toNat])[H.length]? = some (AK r.toNat):=by simp
   have hx:=Sort.xorNext_toNat r
   have Z6:=r.toNat_lt
   have XK:=Sort.xorNextN_lt r.toNat Z6
   have g2:∀o o':Ob,(H++[o]).set H.length o'=H++[o']:=fun o o'=>by rw[MG rfl];rfl
   have c1:decide (a+L / 4*2 - 1+m≤a+L / 4*2+1)=true:=decide_eq_true (by omega)
   refine Qc hb ?_
   simp only[go_sem,simprocAttr,Qa,f0,f1,f2,f3,f5,c1]
   refine QT hb Qju rfl ?_ (Qm5 r.toNat g1 Z6) rfl fun d h hR=>?_
   ·simp only[go_sem,simprocAttr,g2]
   obtain⟨rfl,rfl⟩:=hR
   refine Qc hb ?_
   simp only[go_sem,simprocAttr,g2]
   have wM:IntKind.u64.wrap ((M:Int) - 1)=((M - 1:Nat):Int):=by rw[IntKind.wrap_u64];omega
   generalize hxx:Sort.xorNextN r.toNat=x at *
   have wA:bits .and .u64 (x:Int) ((M - 1:Nat):Int)=((x &&& (M - 1):Nat):Int):=u64_and_nat x (M - 1) XK (by omega)
   have yb:x &&& (M - 1)≤M - 1:=Nat.and_le_right
   generalize hy:x &&& (M - 1)=y at *
   have wI:IntKind.i64.wrap ((y:Nat):Int)=((y:Nat):Int):=by rw[wrap64 (by omega) (by omega)]
   have k0:IntKind.i64.wrap (((y:Nat):Int) - L)=((y - L:Nat):Int)∨¬ L≤y:=by
    by_cases q:L≤y
    ·left;rw[wrap64 (by omega) (by omega)];omega
    ·right;exact q
   have k4:IntKind.i64.wrap (((a+L / 4*2 - 1+m:Nat):Int)+1)=((a+L / 4*2 - 1+(m+1):Nat):Int):=by rw[wrap64 (by omega) (by omega)];omega
   simp only[go_sem,simprocAttr,wM,wA,wI]
   by_cases cL:L≤y
   ·replace k0:=k0.resolve_right (fun q=>q cL)
    have c2:decide (L≤y)=true:=decide_eq_true cL
    have Jw:Sort.breakStep a L M (r,dm) (a+L / 4*2 - 1+m)=(Sort.xorNext r,Sort.swp dm (a+L / 4*2 - 1+m) (a+(y - L))):=by
     unfold Sort.breakStep
     dsimp only
     rw[hx,hy,if_pos cL]
    have k1:a+L / 4*2 - 1+m<d.size:=by omega
    have k2:a+(y - L)<d.size:=by omega
    have k3:IntKind.i64.wrap ((a:Int)+((y - L):Nat))=((a+(y - L):Nat):Int):=by rw[wrap64 (by omega) (by omega)];omega
    simp only[go_sem,simprocAttr,c2,k0]
    refine wB (⟨[(0,.ref lo g 0 d.size),(1,Qb a),(6,Qb L),(7,.ptr H.length 0 0 0),(8,u64 M),(9,Qb (a+L / 4*2 - 1+m:Nat))],H.set lo (QR g (Sort.swp dm (a+L / 4*2 - 1+m) (a+(y - L))))++[AK x]⟩) Qe hb mixed [(0,true),(1,true),(2,true),(3,true),(4,true),(6,true),(7,true),(8,true),(9,true),(10,true),(11,true),(12,true),(13,true),(14,true),(15,true),(16,true)] [5,17,18,19] (by kernel_rfl) (by kernel_rfl) (fun s hw=>jD hw rfl ?_) ?_
    rotate_left
    ·simp only[go_sem,simprocAttr,Qa,HE,wF,ZC,k1,k2,k3,QU wF,xG wF,Qw wF,List.set_set,Xy,List.length_set,QU (show lo<(H.set lo (QR g dm)).length by simp;exact wF)]
     rw[XZ g dm _ _ _ ZC k1 k2]
     repeat' refine And.intro ?_ ?_
     all_goals exact Qk.frame (by simp only[go_sem,simprocAttr])
    refine Qc hb ?_
    simp only[go_sem,simprocAttr,k4]
    refine⟨by omega,_,?_,by omega,rfl⟩
    rw[td,Jw,← hH,List.set_set,hx]
    rw[← hH]at XU
    rw[XU]
    exact Qk.frame (by simp only[go_sem,simprocAttr])
   ·have c2:decide (L≤y)=false:=decide_eq_false cL
    have Jw:Sort.breakStep a L M (r,dm) (a+L / 4*2 - 1+m)=(Sort.xorNext r,Sort.swp dm (a+L / 4*2 - 1+m) (a+y)):=by
     unfold Sort.breakStep
     dsimp only
     rw[hx,hy,if_neg cL]
    have k1:a+L / 4*2 - 1+m<d.size:=by omega
    have k2:a+y<d.size:=by omega
    have k3:IntKind.i64.wrap ((a:Int)+(y:Nat))=((a+y:Nat):Int):=by rw[wrap64 (by omega) (by omega)];omega
    simp only[go_sem,simprocAttr,c2]
    refine wB (⟨[(0,.ref lo g 0 d.size),(1,Qb a),(6,Qb L),(7,.ptr H.length 0 0 0),(8,u64 M),(9,Qb (a+L / 4*2 - 1+m:Nat))],H.set lo (QR g (Sort.swp dm (a+L / 4*2 - 1+m) (a+y)))++[AK x]⟩) Qe hb mixed [(0,true),(1,true),(2,true),(3,true),(4,true),(6,true),(7,true),(8,true),(9,true),(10,true),(11,true),(12,true),(13,true),(14,true),(15,true),(16,true)] [5,17,18,19] (by kernel_rfl) (by kernel_rfl) (fun s hw=>jD hw rfl ?_) ?_
    rotate_left
    ·simp only[go_sem,simprocAttr,Qa,HE,wF,ZC,k1,k2,k3,QU wF,xG wF,Qw wF,List.set_set,Xy,List.length_set,QU (show lo<(H.set lo (QR g dm)).length by simp;exact wF)]
     rw[XZ g dm _ _ _ ZC k1 k2]
     repeat' refine And.intro ?_ ?_
     all_goals exact Qk.frame (by simp only[go_sem,simprocAttr])
    refine Qc hb ?_
    simp only[go_sem,simprocAttr,k4]
    refine⟨by omega,_,?_,by omega,rfl⟩
    rw[td,Jw,← hH,List.set_set,hx]
    rw[← hH]at XU
    rw[XU]
    exact Qk.frame (by simp only[go_sem,simprocAttr])
  ·obtain rfl:m=3:=by omega
   have c1:decide (a+L / 4*2 - 1+2≤a+L / 4*2)=false:=decide_eq_false (by omega)
   refine Qc hb ?_
   simp only[go_sem,simprocAttr,Qa,f0,f1,f2,f3,f5,c1]
   try exact⟨_,rfl⟩
 ·have d8:decide ((8:Int)≤(b - a:Nat))=false:=decide_eq_false (by omega)
  have e:Sort.breakPatterns d a b=d:=by
   unfold Sort.breakPatterns
   dsimp only
   rw[if_neg c8]
  rw[e]
  refine QX Qe 200 func295 rfl ntmps295 results295 rfl fun base w pl hb=>?_
  have Qf:=Qd ho
  simp only[go_sem,simprocAttr,Qa,ho,Qf,e0,d8]
  exact⟨[],by rw[List.append_nil];exact(Y8 ho).symm⟩
end
theorem te (a b:Nat):∀(n i:Nat) (d:Array Int),b - i≤n→(Sort.insOuter Qo a b i d).size=d.size
 | n,i,d,hn=>by
  rw[Sort.insOuter]
  split
  ·obtain⟨n',rfl⟩:∃n',n=n'+1:=⟨n - 1,by omega⟩
   rw[te a b n' _ _ (by omega),sJ]
  ·rfl
theorem Qm8 (d:Array Int) (a b:Nat):(Sort.insertionSort Qo d a b).size=d.size:=te a b _ _ d (Nat.le_refl _)
theorem tf (first:Nat):∀(k:Nat) (d:Array Int),(Sort.heapPop Qo first k d).size=d.size
 | 0,d=>rfl
 | k+1,d=>by rw[Sort.heapPop,tf first k,NW,swp_size]
theorem Qm9 (d:Array Int) (a b:Nat):(Sort.heapSort Qo d a b).size=d.size:=by rw[Sort.heapSort,tf,sL]
theorem Qna (d:Array Int) (a b:Nat):(Sort.breakPatterns d a b).size=d.size:=by
 by_cases c:b - a ≥ 8
 ·rw[ta d a b c,T7]
 ·unfold Sort.breakPatterns
  dsimp only
  rw[if_neg c]
theorem th:∀(n i j:Nat) (d:Array Int),j - i≤n→(Sort.reverseLoop i j d).size=d.size
 | n,i,j,d,hn=>by
  rw[Sort.reverseLoop]
  split
  ·obtain⟨n',rfl⟩:∃n',n=n'+1:=⟨n - 1,by omega⟩
   rw[th n' _ _ _ (by omega),swp_size]
  ·rfl
theorem Qnb (d:Array Int) (a b:Nat):(Sort.reverseRange d a b).size=d.size:=th _ _ _ d (Nat.le_refl _)
theorem tj (a b:Nat):∀(s i:Nat) (d:Array Int),(Sort.partialIns Qo a b s i d).1.size=d.size
 | 0,i,d=>rfl
 | s+1,i,d=>by
  rw[Sort.partialIns]
  dsimp only
  split
  ·rfl
  ·split
   ·rfl
   ·rw[tj a b s]
    have e:∀dd:Array Int,(if b - Sort.scanSorted Qo d b i ≥ 2 then Sort.shiftUp Qo b (Sort.scanSorted Qo d b i+1) dd else dd).size=dd.size:=fun dd=>by
     split
     ·exact sQ b _ _ _ (Nat.le_refl _)
     ·rfl
    rw[e]
    split
    ·rw[TT,swp_size]
    ·rw[swp_size]
theorem Ua (d:Array Int) (a b p:Nat):(Sort.partitionEqual Qo d a b p).2.size=d.size:=by
 rw[Sort.partitionEqual,sN a _ _ _ _ (Nat.le_refl _),swp_size]
theorem N2 (d:Array Int) (a b p:Nat):(Sort.partition Qo d a b p).2.2.size=d.size:=by
 rw[Sort.partition_arr,swp_size,sO a _ _ _ _ (Nat.le_refl _),swp_size]
theorem tm (d:Array Int) (a b l:Nat) (wb wp:Bool):(Sort.rd Qo d a b l wb wp).d1.size=d.size∧(Sort.rd Qo d a b l wb wp).d2.size=d.size∧(Sort.rd Qo d a b l wb wp).pi.1.size=d.size:=by
 have h1:(Sort.rd Qo d a b l wb wp).d1.size=d.size:=by
  cases wb
  ·exact Qna d a b
  ·rfl
 have h2:(Sort.rd Qo d a b l wb wp).d2.size=d.size:=by
  by_cases hh:(Sort.rd Qo d a b l wb wp).c.2=.decreasing
  ·rw[(Sort.rd_dec hh).1,Qnb,h1]
  ·rw[(Sort.rd_not hh).1,h1]
 refine⟨h1,h2,?_⟩
 cases hc:(wb&&wp&&decide ((Sort.rd Qo d a b l wb wp).hint=.increasing))
 ·rw[Sort.rd_pi_no hc,h2]
 ·rw[Sort.rd_pi_yes hc,Sort.partialInsertionSort,tj,h2]
theorem tn (a:Nat):∀(n i j:Nat) (d:Array Int),j+1 - i≤n→a<i→i≤j+1→a<(Sort.partEqLoop Qo a i j d).1∧(Sort.partEqLoop Qo a i j d).1≤j+1
 | n,i,j,d,hn,TR,JV=>by
  have Cg:=NX (fun x=>!Qo d[a]! x) (fun x=>Qo d[a]! x) (fun x=>by simp) d i j (by omega) JV
  obtain⟨u1,u2,u3,u4⟩:=Sort.scanUp_spec (fun x=>!Qo d[a]! x) d j _ i rfl
  obtain⟨v1,v2,v3,v4⟩:=Sort.scanDown_spec (fun x=>Qo d[a]! x) d (Sort.scanUp (fun x=>!Qo d[a]! x) d j i) j
  have u5:=u2 JV
  rw[Sort.partEqLoop_eq]
  split
  ·exact⟨by dsimp only;omega,u5⟩
  ·rename_i h
   have h2:=Cg h
   have:=Sort.partEqLoop_guard Qo a i j d h
   obtain⟨n',rfl⟩:∃n',n=n'+1:=⟨n - 1,by omega⟩
   obtain⟨r1,r2⟩:=tn a n' _ _ (Sort.swp d (Sort.scanUp (fun x=>!Qo d[a]! x) d j i) (Sort.scanDown (fun x=>Qo d[a]! x) d (Sort.scanUp (fun x=>!Qo d[a]! x) d j i) j)) (show (Sort.scanDown (fun x=>Qo d[a]! x) d (Sort.scanUp (fun x=>!Qo d[a]! x) d j i) j - 1)+1 - (Sort.scanUp (fun x=>!Qo d[a]! x) d j i+1)≤n' by omega) (by omega) (by omega)
   exact⟨r1,by omega⟩
theorem Qnc (d:Array Int) (a b p:Nat) (J3:a<b):a<(Sort.partitionEqual Qo d a b p).1∧(Sort.partitionEqual Qo d a b p).1≤b:=by
 have:=tn a _ (a+1) (b - 1) (Sort.swp d a p) (Nat.le_refl _) (by omega) (by omega)
 rw[Sort.partitionEqual]
 omega
theorem tp:Sort.SWO Qo:=⟨fun x=>by simp [Qo],fun x y z h1 h2=>by simp [Qo]at *;omega,fun x y z h1 h2=>by simp [Qo]at *;omega⟩
theorem Qnd (d:Array Int) (a b p:Nat) (h1:a≤p) (h2:p<b) (hb:b≤d.size):a≤(Sort.partition Qo d a b p).1∧(Sort.partition Qo d a b p).1<b:=by
 have:=Sort.partition_holds Qo tp d a b p h1 h2 hb
 exact⟨this.1,this.2.1⟩
theorem Qne (d:Array Int) (a b l:Nat) (wb wp:Bool) (J3:a<b):a≤(Sort.rd Qo d a b l wb wp).pivot∧(Sort.rd Qo d a b l wb wp).pivot<b:=by
 have h:=Sort.choosePivot_holds Qo (Sort.rd Qo d a b l wb wp).d1 a b J3
 rw[← Sort.rd_c]at h
 by_cases hh:(Sort.rd Qo d a b l wb wp).c.2=.decreasing
 ·rw[(Sort.rd_dec hh).2.1];omega
 ·rw[(Sort.rd_not hh).2.1];exact h
theorem AL:∀(n:Nat) (d:Array Int) (a b l:Nat) (wb wp:Bool),b - a≤n→(Sort.pdq Qo d a b l wb wp).size=d.size
 | n,d,a,b,l,wb,wp,hn=>by
  obtain⟨z1,z2,z3⟩:=tm d a b l wb wp
  rw[Sort.pdq_unfold]
  split
  ·exact Qm8 d a b
  ·split
   ·exact Qm9 d a b
   ·obtain⟨n',rfl⟩:∃n',n=n'+1:=⟨n - 1,by omega⟩
    split
    ·exact z3
    ·split
     ·split
      ·rename_i h
       rw[AL n' _ _ _ _ _ _ (by omega),Ua,z3]
      ·rw[Ua,z3]
     ·split
      ·rename_i h
       split
       ·rw[AL n' _ _ _ _ _ _ (by omega),AL n' _ _ _ _ _ _ (by omega),N2,z3]
       ·rw[AL n' _ _ _ _ _ _ (by omega),AL n' _ _ _ _ _ _ (by omega),N2,z3]
      ·rw[N2,z3]
def tq (n:Nat):Prop:=∀(h:List Ob) (lo g:Nat) (d:Array Int),h[lo]? = some (QR g d)→∀a b l:Nat,a≤b→b≤d.size→l<1000→d.size<1000000000→b - a<n →
 QH prog 288 h [.ref lo g 0 d.size,Qb a,Qb b,Qb l] (fun dd h'=>dd=.tup []∧∃t,h'=h.set lo (QR g (Sort.pdq Qo d a b l true true))++t)
theorem yf {h t:List Ob} {lo:Nat} {x y:Ob} (hl:lo<h.length):(h.set lo x++t).set lo y=h.set lo y++t:=by
 rw[List.set_append_left _ _ (by simpa using hl),List.set_set]
theorem HF {h t:List Ob} {lo:Nat} {x:Ob} (hl:lo<h.length):(h.set lo x++t)[lo]? = some x:=by
 rw[List.getElem?_append_left (by simpa using hl),Qw hl]
theorem tt (c:Sort.Hint) (k:Sort.Hint):((x9 c:Int)==(x9 k:Int))=decide (c=k):=by cases c<;>cases k<;>rfl
theorem Qnf (n:Nat) (IH:tq n) {h:List Ob} {lo g:Nat} {d:Array Int} (ho:h[lo]? = some (QR g d)) (a b l:Nat) (J3:a≤b) (Zf:b≤d.size) (hl:l<1000) (hz:d.size<1000000000) (hn:b - a<n+1) :
  QH prog 288 h [.ref lo g 0 d.size,Qb a,Qb b,Qb l] (fun dd h'=>dd=.tup []∧∃t,h'=h.set lo (QR g (Sort.pdq Qo d a b l true true))++t):=by
 refine QX Qe 200 func288 rfl ntmps288 results288 rfl fun base w pl hb=>?_
 have Qf:=Qd ho
 simp only[go_sem,simprocAttr,Qa,ho,Qf]
 refine Zv (fun m st=>∃(d1:Array Int) (a1 b1 l1:Nat) (wb wp:Bool) (t:List Ob),d1.size=d.size∧a1≤b1∧b1≤d.size∧l1<1000∧m+(b1 - a1)≤b - a∧Sort.pdq Qo d1 a1 b1 l1 wb wp=Sort.pdq Qo d a b l true true∧st=⟨[(0,.ref lo g 0 d.size),(1,Qb a1),(2,Qb b1),(3,Qb l1),(8,QN wb),(9,QN wp)],h.set lo (QR g d1)++t⟩) (b - a) (s0:=⟨[(0,.ref lo g 0 d.size),(1,Qb a),(2,Qb b),(3,Qb l),(8,QN true),(9,QN true)],h.set lo (QR g d)++[]⟩) ?_ ⟨d,a,b,l,true,true,[],rfl,J3,Zf,hl,by omega,rfl,rfl⟩ ?_
 ·rw[Y8 ho,List.append_nil]
  exact Qk.frame (by simp only[go_sem,simprocAttr])
 rintro m _ hm ⟨d1,a1,b1,l1,wb,wp,t1,Zl,QuO,QuP,Zk,MV,Xd,rfl⟩
 have e0:IntKind.i64.wrap ((b1:Int) - a1)=((b1 - a1:Nat):Int):=by rw[wrap64 (by omega) (by omega)];omega
 have Ub:(h.set lo (QR g d1)++t1)[lo]? = some (QR g d1):=HF Qf
 rw[Sort.pdq_unfold]at Xd
 by_cases tu:b1 - a1≤12
 ·have d12:decide (((b1 - a1:Nat):Int)≤12)=true:=decide_eq_true (by omega)
  rw[if_pos tu]at Xd
  refine Qc hb ?_
  simp only[go_sem,simprocAttr,Qa,e0,d12]
  refine QT hb Qjv rfl ?_ (Zl▸QmI Ub a1 b1 (by omega) (by omega) (by omega)) rfl fun d h hR=>?_
  ·simp only[go_sem,simprocAttr]
  obtain⟨rfl,rfl⟩:=hR
  refine Qc hb ?_
  simp only[go_sem,simprocAttr]
  refine⟨t1,?_⟩
  rw[← Xd]
  exact yf Qf
 ·have d12:decide (((b1 - a1:Nat):Int)≤12)=false:=decide_eq_false (by omega)
  rw[if_neg tu]at Xd
  by_cases cl:l1=0
  ·have dl:((l1:Int)==0)=true:=by rw[cl];rfl
   rw[if_pos cl]at Xd
   refine Qc hb ?_
   simp only[go_sem,simprocAttr,Qa,e0,d12,dl]
   refine QT hb Qjw rfl ?_ (Zl▸QmJ Ub a1 b1 (by omega) (by omega) (by omega)) rfl fun d h hR=>?_
   ·simp only[go_sem,simprocAttr]
   obtain⟨rfl,rfl⟩:=hR
   refine Qc hb ?_
   simp only[go_sem,simprocAttr]
   refine⟨t1,?_⟩
   rw[← Xd]
   exact yf Qf
  ·have dl:((l1:Int)==0)=false:=beq_eq_false_iff_ne.mpr (by omega)
   rw[if_neg cl]at Xd
   refine BE Qe hb 30 ?_
   simp only[go_sem,simprocAttr,Qa,e0,d12,dl]
   obtain⟨z1,z2,z3⟩:=tm d1 a1 b1 l1 wb wp
   have QuQ:=Sort.rd_lim_le (lt:=Qo) (d:=d1) (a:=a1) (b:=b1) (limit:=l1) (wb:=wb) (wp:=wp)
   have EJ:=Qne d1 a1 b1 l1 wb wp (by omega)
   rw[Zl]at z1 z2 z3
   first|refine Wg ?_|skip
   refine Hq (fun st=>∃t,st=⟨[(0,.ref lo g 0 d.size),(1,Qb a1),(2,Qb b1),(3,Qb (Sort.rd Qo d1 a1 b1 l1 wb wp).lim),(8,QN wb),(9,QN wp),(10,Qb (b1 - a1:Nat))],h.set lo (QR g (Sort.rd Qo d1 a1 b1 l1 wb wp).d1)++t⟩) ?_ ?_
   ·cases wb
    ·have vl:IntKind.i64.wrap ((l1:Int) - 1)=((l1 - 1:Nat):Int):=by rw[wrap64 (by omega) (by omega)];omega
     rw[Sort.rd_false.1,Sort.rd_false.2]
     refine Qc hb ?_
     simp only[go_sem,simprocAttr]
     refine QT hb Qjx rfl ?_ (Zl▸Qm6 Ub a1 b1 (by omega) (by omega) (by omega)) rfl fun d h hR=>?_
     ·simp only[go_sem,simprocAttr,vl]
     obtain⟨rfl,t2,rfl⟩:=hR
     refine Qc hb ?_
     simp only[go_sem,simprocAttr,vl]
     refine⟨_,⟨t1++t2,rfl⟩,?_⟩
     rw[yf Qf,List.append_assoc]
     exact Qk.frame (by simp only[go_sem,simprocAttr])
    ·rw[Sort.rd_true.1,Sort.rd_true.2]
     refine Qc hb ?_
     simp only[go_sem,simprocAttr]
     refine⟨_,⟨t1,rfl⟩,?_⟩
     exact Qk.frame (by simp only[go_sem,simprocAttr])
   have hc:=Sort.rd_c (lt:=Qo) (d:=d1) (a:=a1) (b:=b1) (limit:=l1) (wb:=wb) (wp:=wp)
   have Qng:=Sort.rd_dec (lt:=Qo) (d:=d1) (a:=a1) (b:=b1) (limit:=l1) (wb:=wb) (wp:=wp)
   have Qnh:=Sort.rd_not (lt:=Qo) (d:=d1) (a:=a1) (b:=b1) (limit:=l1) (wb:=wb) (wp:=wp)
   have Qni:=Sort.rd_pi_yes (lt:=Qo) (d:=d1) (a:=a1) (b:=b1) (limit:=l1) (wb:=wb) (wp:=wp)
   have Z9:=Sort.rd_pi_no (lt:=Qo) (d:=d1) (a:=a1) (b:=b1) (limit:=l1) (wb:=wb) (wp:=wp)
   have Wp:=Sort.choosePivot_holds Qo (Sort.rd Qo d1 a1 b1 l1 wb wp).d1 a1 b1 (by omega)
   rw[← hc]at Wp
   generalize Sort.rd Qo d1 a1 b1 l1 wb wp=R at *
   rintro _ ⟨t2,rfl⟩
   refine Qc hb ?_
   simp only[go_sem,simprocAttr,Qa]
   refine QT hb Qjy rfl ?_ (z1▸QmG (HF (x:=QR g R.d1) Qf) a1 b1 (by omega) (by omega) (by omega)) rfl fun d h hR=>?_
   ·simp only[go_sem,simprocAttr,List.append_assoc]
   obtain⟨rfl,t3,rfl⟩:=hR
   refine BE Qe hb 12 ?_
   simp only[go_sem,simprocAttr,List.append_assoc]
   rw[← hc]
   first|refine Wg ?_|skip
   refine Hq (fun st=>∃t,st=⟨[(0,.ref lo g 0 d.size),(1,Qb a1),(2,Qb b1),(3,Qb R.lim),(8,QN wb),(9,QN wp),(10,Qb (b1 - a1:Nat)),(11,Qb R.pivot),(12,Qb (x9 R.hint:Nat))],h.set lo (QR g R.d2)++t⟩) ?_ ?_
   ·by_cases hh:R.c.2=.decreasing
    ·obtain⟨r1,r2,r3⟩:=Qng hh
     have b2:((x9 R.c.2:Int)==2)=true:=by rw[hh];rfl
     have v1:IntKind.i64.wrap ((b1:Int) - 1)=((b1 - 1:Nat):Int):=by rw[wrap64 (by omega) (by omega)];omega
     have v2:IntKind.i64.wrap ((R.c.1:Int) - a1)=((R.c.1 - a1:Nat):Int):=by rw[wrap64 (by omega) (by omega)];omega
     have v3:IntKind.i64.wrap (((b1 - 1:Nat):Int) - (R.c.1 - a1:Nat))=(((b1 - 1) - (R.c.1 - a1):Nat):Int):=by rw[wrap64 (by omega) (by omega)];omega
     refine Qc hb ?_
     simp only[go_sem,simprocAttr,b2]
     refine QT hb Qjz rfl ?_ (z1▸QmH (HF (x:=QR g R.d1) Qf) a1 b1 (by omega) (by omega) (by omega)) rfl fun d h hR=>?_
     ·simp only[go_sem,simprocAttr,v1,v2,v3]
     obtain⟨rfl,rfl⟩:=hR
     refine Qc hb ?_
     simp only[go_sem,simprocAttr,v1,v2,v3]
     rw[r1,r2,r3]
     refine⟨_,⟨t2++t3,rfl⟩,?_⟩
     rw[yf Qf]
     exact Qk.frame (by simp only[go_sem,simprocAttr];first|rfl|exact⟨rfl,rfl⟩)
    ·obtain⟨r1,r2,r3⟩:=Qnh hh
     have b2:((x9 R.c.2:Int)==2)=false:=by rw[show (2:Int)=(x9 .decreasing:Int) from rfl,tt];exact decide_eq_false hh
     refine Qc hb ?_
     simp only[go_sem,simprocAttr,b2]
     rw[r1,r2,r3]
     refine⟨_,⟨t2++t3,rfl⟩,?_⟩
     exact Qk.frame (by simp only[go_sem,simprocAttr])
   rintro _ ⟨t4,rfl⟩
   refine Wg ?_
   first|refine Wg ?_|skip
   refine RZ (⟨[(0,.ref lo g 0 d.size),(1,Qb a1),(2,Qb b1),(3,Qb R.lim),(8,QN wb),(9,QN wp),(10,Qb (b1 - a1:Nat)),(11,Qb R.pivot),(12,Qb (x9 R.hint:Nat)),(68,QN (wb&&wp&&decide (R.hint=.increasing)))],h.set lo (QR g R.d2)++t4⟩) ?_ ?_
   ·cases wb
    ·refine Qc hb ?_
     simp only[go_sem,simprocAttr,Qa]
     exact Qk.frame (by simp only[go_sem,simprocAttr,Bool.false_and])
    ·cases wp
     ·refine Qc hb ?_
      simp only[go_sem,simprocAttr,Qa]
      exact Qk.frame (by simp only[go_sem,simprocAttr,Bool.false_and,Bool.true_and])
     ·have LQ:((x9 R.hint:Int)==1)=decide (R.hint=.increasing):=tt R.hint .increasing
      refine Qc hb ?_
      simp only[go_sem,simprocAttr,Qa,LQ]
      exact Qk.frame (by simp only[go_sem,simprocAttr,Bool.false_and,Bool.true_and])
   first|refine Wg ?_|skip
   refine Hq (fun st=>R.pi.2=false∧∃t,st=⟨[(0,.ref lo g 0 d.size),(1,Qb a1),(2,Qb b1),(3,Qb R.lim),(8,QN wb),(9,QN wp),(10,Qb (b1 - a1:Nat)),(11,Qb R.pivot)],h.set lo (QR g R.pi.1)++t⟩) ?_ ?_
   ·cases hB:(wb&&wp&&decide (R.hint=.increasing))
    ·have hp:=Z9 hB
     refine Qc hb ?_
     simp only[go_sem,simprocAttr]
     rw[hp]
     refine⟨_,⟨rfl,t4,rfl⟩,?_⟩
     exact Qk.frame (by simp only[go_sem,simprocAttr])
    ·have hp:=Qni hB
     refine Qc hb ?_
     simp only[go_sem,simprocAttr]
     refine QT hb QjA rfl ?_ (z2▸Qm0 (HF (x:=QR g R.d2) Qf) a1 b1 (by omega) (by omega) (by omega)) rfl fun d h hR=>?_
     ·simp only[go_sem,simprocAttr]
     obtain⟨rfl,rfl⟩:=hR
     refine Qc hb ?_
     simp only[go_sem,simprocAttr]
     rw[← hp]
     cases ZZ:R.pi.2
     ·simp only[go_sem,simprocAttr]
      refine⟨_,⟨t4,rfl⟩,?_⟩
      rw[yf Qf]
      exact Qk.frame (by simp only[go_sem,simprocAttr])
     ·rw[if_pos ZZ]at Xd
      simp only[go_sem,simprocAttr]
      refine⟨t4,?_⟩
      rw[← Xd]
      exact yf Qf
   rintro _ ⟨Qnj,t5,rfl⟩
   rw[if_neg (by rw[Qnj];decide)]at Xd
   generalize hD:R.pi.1=DA at *
   have EK:(h.set lo (QR g DA)++t5)[lo]? = some (QR g DA):=HF Qf
   generalize Uc:h.set lo (QR g DA)++t5=HD at EK
   have Ud:=Qd EK
   have p2:R.pivot<d.size:=by omega
   have f1:a1 > 0→IntKind.i64.wrap ((a1:Int) - 1)=((a1 - 1:Nat):Int):=fun q=>by rw[wrap64 (by omega) (by omega)];omega
   have p1:a1 - 1<d.size:=by omega
   refine Wg ?_
   first|refine Wg ?_|skip
   refine kI [0,1,2,3,8,9,10,11] [(87,QN (decide (a1 > 0)&&!Qo DA[a1 - 1]! DA[R.pivot]!))] rfl ?_ ?_
   ·by_cases ca:a1 > 0
    ·have da:decide ((0:Int)<(a1:Int))=true:=decide_eq_true (by omega)
     have f2:=f1 ca
     refine QA Qe hb 200 mixed [(0,true),(1,true),(2,true),(3,true),(4,true),(5,true),(6,true),(7,true),(8,true),(9,true),(10,true),(11,true),(12,false),(13,true),(14,true)] (by kernel_rfl) (by kernel_rfl) ?_
     simp only[go_sem,simprocAttr,Qa,EK,Ud,z3,da,f2,p1,p2]
     refine Zt hb YS rfl ?_ (Y7 DA[a1 - 1]! DA[R.pivot]!) (Ql.flat rfl) rfl fun d h hR=>?_
     ·simp only[go_sem,simprocAttr]
     obtain⟨rfl,rfl⟩:=hR
     refine QF hb ?_
     simp only[go_sem,simprocAttr]
     exact Qk.frame (by simp only[go_sem,simprocAttr,decide_eq_true ca,Bool.true_and])
    ·have da:decide ((0:Int)<(a1:Int))=false:=decide_eq_false (by omega)
     refine QA Qe hb 200 mixed [(0,true),(1,true),(2,true),(3,true),(4,true),(5,true),(6,true),(7,true),(8,true),(9,true),(10,true),(11,true),(12,false),(13,true),(14,true)] (by kernel_rfl) (by kernel_rfl) ?_
     simp only[go_sem,simprocAttr,Qa,EK,Ud,z3,da]
     exact Qk.frame (by simp only[go_sem,simprocAttr,decide_eq_false ca,Bool.false_and])
   cases hB:(decide (a1 > 0)&&!Qo DA[a1 - 1]! DA[R.pivot]!)
   ·rw[hB,if_neg (by decide)]at Xd
    have hr:=Qnd DA a1 b1 R.pivot EJ.1 EJ.2 (by omega)
    have ZC:=N2 DA a1 b1 R.pivot
    rw[if_pos hr]at Xd
    refine Qc hb ?_
    simp only[go_sem,simprocAttr,Qa,hB]
    refine QT hb QjC rfl ?_ (z3▸QmQ EK a1 b1 R.pivot (by omega) (by omega) EJ.1 EJ.2 (by omega)) rfl fun d h hR=>?_
    ·simp only[go_sem,simprocAttr]
    obtain⟨rfl,rfl⟩:=hR
    refine Qc hb ?_
    simp only[go_sem,simprocAttr]
    generalize Sort.partition Qo DA a1 b1 R.pivot=pt at *
    obtain⟨V9,tv,E⟩:=pt
    dsimp only at *
    have k1:IntKind.i64.wrap ((V9:Int) - a1)=((V9 - a1:Nat):Int):=by rw[wrap64 (by omega) (by omega)];omega
    have k2:IntKind.i64.wrap ((b1:Int) - V9)=((b1 - V9:Nat):Int):=by rw[wrap64 (by omega) (by omega)];omega
    have k3:((b1 - a1:Nat):Int).tdiv 8=(((b1 - a1) / 8:Nat):Int):=rfl
    have k4:IntKind.i64.wrap ((((b1 - a1) / 8:Nat):Int))=(((b1 - a1) / 8:Nat):Int):=by rw[wrap64 (by omega) (by omega)]
    have k5:IntKind.i64.wrap ((V9:Int)+1)=((V9+1:Nat):Int):=by rw[wrap64 (by omega) (by omega)];omega
    have N3:E.size=d.size:=by rw[ZC,z3]
    have tw:(HD.set lo (QR g E))[lo]? = some (QR g E):=Qw Ud
    by_cases N4:V9 - a1<b1 - V9
    ·have HG:decide (V9 - a1<b1 - V9)=true:=decide_eq_true N4
     rw[if_pos N4]at Xd
     simp only[go_sem,simprocAttr,k1,k2,k3,k4,HG]
     refine Qc hb ?_
     simp only[go_sem,simprocAttr,k1,k2,k3,k4,HG]
     refine QT hb RQ rfl ?_ (N3▸IH _ lo g E tw a1 V9 R.lim (by omega) (by omega) (by omega) (by omega) (by omega)) rfl fun d h hR=>?_
     ·simp only[go_sem,simprocAttr,k5]
     obtain⟨rfl,t6,rfl⟩:=hR
     refine Qc hb ?_
     simp only[go_sem,simprocAttr,k5]
     have Ue:=AL _ E a1 V9 R.lim true true (Nat.le_refl _)
     refine⟨by omega,_,?_,Sort.pdq Qo E a1 V9 R.lim true true,V9+1,b1,R.lim,decide ((b1 - a1) / 8≤V9 - a1),tv,t5++t6,by rw[Ue,N3],by omega,by omega,by omega,by omega,Xd,rfl⟩
     rw[List.set_set,← Uc,yf Qf,List.append_assoc]
     exact Qk.frame (by simp only[go_sem,simprocAttr])
    ·have HG:decide (V9 - a1<b1 - V9)=false:=decide_eq_false N4
     rw[if_neg N4]at Xd
     simp only[go_sem,simprocAttr,k1,k2,k3,k4,HG]
     refine Qc hb ?_
     simp only[go_sem,simprocAttr,k1,k2,k3,k4,k5,HG]
     refine QT hb RQ rfl ?_ (N3▸IH _ lo g E tw (V9+1) b1 R.lim (by omega) (by omega) (by omega) (by omega) (by omega)) rfl fun d h hR=>?_
     ·simp only[go_sem,simprocAttr]
     obtain⟨rfl,t6,rfl⟩:=hR
     refine Qc hb ?_
     simp only[go_sem,simprocAttr]
     have Ue:=AL _ E (V9+1) b1 R.lim true true (Nat.le_refl _)
     refine⟨by omega,_,?_,Sort.pdq Qo E (V9+1) b1 R.lim true true,a1,V9,R.lim,decide ((b1 - a1) / 8≤b1 - V9),tv,t5++t6,by rw[Ue,N3],by omega,by omega,by omega,by omega,Xd,rfl⟩
     rw[List.set_set,← Uc,yf Qf,List.append_assoc]
     exact Qk.frame (by simp only[go_sem,simprocAttr])
   ·rw[hB,if_pos rfl]at Xd
    have hr:=Qnc DA a1 b1 R.pivot (by omega)
    have ZC:=Ua DA a1 b1 R.pivot
    rw[if_pos hr]at Xd
    refine Qc hb ?_
    simp only[go_sem,simprocAttr,Qa,hB]
    refine QT hb QjB rfl ?_ (z3▸QmK EK a1 b1 R.pivot (by omega) (by omega) EJ.1 EJ.2 (by omega)) rfl fun d h hR=>?_
    ·simp only[go_sem,simprocAttr]
    obtain⟨rfl,rfl⟩:=hR
    refine Qc hb ?_
    simp only[go_sem,simprocAttr]
    refine⟨by omega,_,?_,(Sort.partitionEqual Qo DA a1 b1 R.pivot).2,(Sort.partitionEqual Qo DA a1 b1 R.pivot).1,b1,R.lim,wb,wp,t5,by omega,by omega,by omega,by omega,by omega,Xd,rfl⟩
    rw[← Uc,yf Qf]
    exact Qk.frame (by simp only[go_sem,simprocAttr])
theorem tx:∀n,tq n
 | 0=>fun _ _ _ _ _ _ _ _ _ _ _ _ hn=>absurd hn (Nat.not_lt_zero _)
 | n+1=>fun h lo g d ho a b l J3 hb hl hz hn=>Qnf n (tx n) ho a b l J3 hb hl hz hn
theorem Qnk (n:Nat) (h:n<1000000000):Sort.bitsLen n≤30:=(Sort.bitsLen_le_iff n 30).2 (by omega)
theorem Qnl {h:List Ob} {lo g:Nat} {d:Array Int} (ho:h[lo]? = some (QR g d)) (hz:d.size<1000000000) :
  QH prog 270 h [.ref lo g 0 d.size] (fun dd h'=>dd=.tup []∧∃t,h'=h.set lo (QR g (Sort.sort Qo d))++t):=by
 have Jt:=Qnk _ hz
 have w0:IntKind.u64.wrap (d.size:Int)=d.size:=by rw[IntKind.wrap_u64];omega
 refine QX Qe 200 func270 rfl ntmps270 results270 rfl fun base w pl hb=>?_
 have Qf:=Qd ho
 simp only[go_sem,simprocAttr,Qa,ho,Qf,w0]
 refine QE hb oG rfl ?_ (Ll d.size (by omega)) (Ql.flat rfl) rfl fun d h hR=>?_
 ·simp only[go_sem,simprocAttr]
 obtain⟨rfl,rfl⟩:=hR
 refine Qc hb ?_
 simp only[go_sem,simprocAttr]
 refine QT hb RQ rfl ?_ (tx (d.size+1) h lo g d ho 0 d.size (Sort.bitsLen d.size) (Nat.zero_le _) (Nat.le_refl _) (by omega) hz (by omega)) rfl fun d h hR=>?_
 ·simp only[go_sem,simprocAttr]
 obtain⟨rfl,t,rfl⟩:=hR
 refine Qc hb ?_
 simp only[go_sem,simprocAttr]
 exact⟨t,rfl⟩
def cN (f:Nat→Int):Nat→List Int
 | 0=>[]
 | n+1=>if n≠0∧f n=f (n - 1) then cN f n else cN f n++[f n]
theorem EL (f:Nat→Int):∀n,(cN f n).length≤n
 | 0=>Nat.le_refl _
 | n+1=>by
  have:=EL f n
  rw[cN]
  split
  ·omega
  ·simp;omega
theorem Uf (f:Nat→Int) (x:Int):∀n,x∈cN f n↔∃i,i<n∧f i=x
 | 0=>by simp [cN]
 | n+1=>by
  have ih:=Uf f x n
  rw[cN]
  split
  ·rename_i c
   rw[ih]
   constructor
   ·rintro⟨i,h1,h2⟩;exact⟨i,by omega,h2⟩
   ·rintro⟨i,h1,h2⟩
    by_cases e:i=n
    ·subst e;exact⟨i - 1,by omega,by rw[← c.2];exact h2⟩
    ·exact⟨i,by omega,h2⟩
  ·rw[List.mem_append,ih]
   simp only[List.mem_singleton]
   constructor
   ·rintro (⟨i,h1,h2⟩|h)
    ·exact⟨i,by omega,h2⟩
    ·exact⟨n,by omega,h.symm⟩
   ·rintro⟨i,h1,h2⟩
    by_cases e:i=n
    ·subst e;exact Or.inr h2.symm
    ·exact Or.inl ⟨i,by omega,h2⟩
theorem Ci (f:Nat→Int):∀n,(cN f n).length=n→∀i,i<n→(cN f n).getD i 0=f i
 | 0,_,i,hi=>absurd hi (Nat.not_lt_zero _)
 | n+1,h,i,hi=>by
  have hle:=EL f n
  rw[cN]at h ⊢
  split at h
  ·omega
  ·rename_i c
   rw[if_neg c]
   simp at h
   by_cases e:i=n
   ·subst e
    rw[List.getD_eq_getElem?_getD,List.getElem?_append_right (by omega),h,Nat.sub_self]
    rfl
   ·rw[List.getD_eq_getElem?_getD,List.getElem?_append_left (by omega),← List.getD_eq_getElem?_getD]
    exact Ci f n h i (by omega)
theorem Qnm (g:Nat) (d:Array Int) (i n:Nat) (x:Int) (hn:d.size=n) (hi:i<n) :
  (⟨.arr,g,1,n,fun k=>bif k==i then [.raw (.int .u64 x)] else [.raw (.int .u64 d[k]!)]⟩:Ob)=QR g (d.setIfInBounds i x):=by
 subst hn
 unfold QR
 congr 1
 ·simp
 ·funext k
  unfold vh uI
  by_cases k1:k=i
  ·subst k1
   simp [hi]
  ·have e1:(k==i)=false:=beq_eq_false_iff_ne.mpr k1
   rw[e1]
   by_cases k3:k<d.size
   ·simp [k1,k3,Ne.symm k1,Array.getElem_setIfInBounds]
   ·simp [k1,k3]
theorem Qnn {h:List Ob} {lo g:Nat} {d:Array Int} (ho:h[lo]? = some (QR g d)) (hz:d.size<1000000000) :
  QH prog 271 h [.ref lo g 0 d.size] (fun dd h'=>dd=.ref lo g 0 (cN (fun i=>d[i]!) d.size).length∧∃row,h'=h.set lo ⟨.arr,g,1,d.size,row⟩∧(∀i,i<(cN (fun i=>d[i]!) d.size).length→row i=[uI ((cN (fun i=>d[i]!) d.size).getD i 0)])∧∀i,∃x,row i=[uI x]):=by
 by_cases c2:d.size<2
 ·have e2:decide ((d.size:Int)<2)=true:=decide_eq_true (by omega)
  have hlen:(cN (fun i=>d[i]!) d.size).length=d.size:=by
   have:d.size=0∨d.size=1:=by omega
   rcases this with h0|h0<;>rw[h0]<;>rfl
  rw[hlen]
  refine QX Qe 200 func271 rfl ntmps271 results271 rfl fun base w pl hb=>?_
  have Qf:=Qd ho
  simp only[go_sem,simprocAttr,Qa,ho,Qf,e2]
  exact⟨vh d,(Y8 ho).symm,fun i hi=>by rw[Ci _ _ hlen i hi];rfl,fun i=>⟨_,rfl⟩⟩
 ·have e2:decide ((d.size:Int)<2)=false:=decide_eq_false (by omega)
  refine QX Qe 200 func271 rfl ntmps271 results271 rfl fun base w pl hb=>?_
  have Qf:=Qd ho
  simp only[go_sem,simprocAttr,Qa,ho,Qf,e2]
  refine Zv (fun k st=>k+1≤d.size∧(cN (fun i=>d[i]!) (k+1)).length=k+1∧st=⟨[(0,.ref lo g 0 d.size),(3,Qb (k+1:Nat))],h⟩) d.size (s0:=⟨[(0,.ref lo g 0 d.size),(3,Qb (0+1:Nat))],h⟩) (Qk.frame (by simp only[go_sem,simprocAttr])) ⟨by omega,rfl,rfl⟩ ?_
  rintro k _ hk ⟨Qn,ZP,rfl⟩
  by_cases ck:k+1<d.size
  ·have ek:decide (k+1<d.size)=true:=decide_eq_true ck
   have v1:IntKind.i64.wrap (((k+1:Nat):Int) - 1)=((k:Nat):Int):=by rw[wrap64 (by omega) (by omega)];omega
   have v2:IntKind.i64.wrap (((k+1:Nat):Int)+1)=((k+1+1:Nat):Int):=by rw[wrap64 (by omega) (by omega)];omega
   have p0:k<d.size:=by omega
   refine Qc hb ?_
   simp only[go_sem,simprocAttr,Qa,ho,Qf,ek]
   refine QA Qe hb 200 mixed [(0,true),(1,true),(2,true),(3,true),(4,true),(5,true),(6,true),(7,true),(8,true),(9,true)] (by kernel_rfl) (by kernel_rfl) ?_
   simp only[go_sem,simprocAttr,Qa,ho,Qf,v1,ck,p0]
   by_cases VW:d[k+1]! = d[k]!
   ·have Cj:(d[k+1]! == d[k]!)=true:=beq_iff_eq.mpr VW
    have ZS:(cN (fun i=>d[i]!) (k+1+1)).length=k+1:=by
     rw[cN,if_pos ⟨by omega,by simpa using VW⟩,ZP]
    have q0:k+1≤d.size:=by omega
    generalize hN:d.size - (k+1)=N
    have v3:((d.size:Int) - ((k+1:Nat):Int)).toNat=N:=by omega
    simp only[go_sem,simprocAttr,Cj,q0,hN,Qa,ho,Qf,v3]
    refine Zv (fun m st=>∃(d1:Array Int),d1.size=d.size∧m+1≤N∧(cN (fun i=>d[i]!) (k+1+(m+1))).length≤k+1+m∧(∀i,i<(cN (fun i=>d[i]!) (k+1+(m+1))).length→d1[i]! = (cN (fun i=>d[i]!) (k+1+(m+1))).getD i 0)∧(∀j,(cN (fun i=>d[i]!) (k+1+(m+1))).length≤j→d1[j]! = d[j]!)∧st=⟨[(0,.ref lo g 0 d.size),(3,Qb (cN (fun i=>d[i]!) (k+1+(m+1))).length),(4,.ref lo g (k+1) N),(5,Qb (m+1:Nat))],h.set lo (QR g d1)⟩) N (s0:=⟨[(0,.ref lo g 0 d.size),(3,Qb (cN (fun i=>d[i]!) (k+1+(0+1))).length),(4,.ref lo g (k+1) N),(5,Qb (0+1:Nat))],h.set lo (QR g d)⟩) ?_ ⟨d,rfl,by omega,Nat.le_of_eq ZS,fun i hi=>?_,fun j hj=>rfl,rfl⟩ ?_
    ·rw[Y8 ho,ZS]
     exact Qk.frame (by simp only[go_sem,simprocAttr])
    ·rw[cN,if_pos ⟨by omega,by simpa using VW⟩]at hi ⊢
     exact(Ci _ _ ZP i (by omega)).symm
    rintro m _ hm ⟨d1,Zl,hmN,G3,Cm,yg,rfl⟩
    have Zk:=Yx (g:=g) (d:=d1) Qf
    have yh:cN (fun i=>d[i]!) (k+1+(m+1+1))=if d[k+1+(m+1)]! = d[k+1+m]! then cN (fun i=>d[i]!) (k+1+(m+1)) else cN (fun i=>d[i]!) (k+1+(m+1))++[d[k+1+(m+1)]!]:=by
     rw[show k+1+(m+1+1)=(k+1+(m+1))+1 by omega,cN]
     simp
    generalize hC:cN (fun i=>d[i]!) (k+1+(m+1))=C at *
    generalize hH:h.set lo (QR g d1)=H at Zk
    have Jp:=Qd Zk
    by_cases cm:m+1<N
    ·have em:decide (m+1<N)=true:=decide_eq_true cm
     have r1:=yg (k+1+(m+1)) (by omega)
     have r2:=yg (k+1+m) (by omega)
     have u1:k+1+(m+1)<d.size:=by omega
     have u2:k+1+m<d.size:=by omega
     have u3:m<N:=by omega
     have w1:IntKind.i64.wrap (((m+1:Nat):Int) - 1)=(m:Int):=by rw[wrap64 (by omega) (by omega)];omega
     have w2:IntKind.i64.wrap (((m+1:Nat):Int)+1)=((m+1+1:Nat):Int):=by rw[wrap64 (by omega) (by omega)];omega
     have w3:IntKind.i64.wrap ((C.length:Int)+1)=((C.length+1:Nat):Int):=by rw[wrap64 (by omega) (by omega)];omega
     refine Qc hb ?_
     simp only[go_sem,simprocAttr,Qa,Zk,Jp,em]
     refine QA Qe hb 200 mixed [(0,true),(1,true),(2,true),(3,true),(4,true),(5,true),(6,true),(7,true),(8,true),(9,true)] (by kernel_rfl) (by kernel_rfl) ?_
     simp only[go_sem,simprocAttr,Qa,Zk,Jp,Zl,w1,cm,u1,u2,u3,r1,r2]
     by_cases cq:d[k+1+(m+1)]! = d[k+1+m]!
     ·have nq:(d[k+1+(m+1)]! != d[k+1+m]!)=false:=by rw[cq];exact bne_self_eq_false _
      rw[if_pos cq]at yh
      simp only[go_sem,simprocAttr,nq,w2]
      rw[yh]
      refine⟨by omega,_,?_,d1,Zl,by omega,by omega,Cm,yg,rfl⟩
      rw[← hH]
      exact Qk.frame (by simp only[go_sem,simprocAttr])
     ·have nq:(d[k+1+(m+1)]! != d[k+1+m]!)=true:=bne_iff_ne.mpr cq
      have u4:C.length<d.size:=by omega
      rw[if_neg cq]at yh
      simp only[go_sem,simprocAttr,nq,w2,w3,Qa,Zk,Jp,Zl,u1,cm,u4,r1]
      rw[Qnm g d1 _ _ _ Zl u4,yh]
      refine⟨by omega,_,?_,d1.setIfInBounds C.length d[k+1+(m+1)]!,by simp;exact Zl,by omega,by simp;omega,fun i hi=>?_,fun j hj=>?_,rfl⟩
      ·rw[← hH,List.set_set,List.length_append,List.length_singleton]
       exact Qk.frame (by simp only[go_sem,simprocAttr])
      ·simp only[List.length_append,List.length_singleton]at hi
       by_cases e:i=C.length
       ·subst e
        rw[List.getD_eq_getElem?_getD,List.getElem?_append_right (Nat.le_refl _),Nat.sub_self]
        simp [Zl,u4]
       ·rw[List.getD_eq_getElem?_getD,List.getElem?_append_left (by omega),← List.getD_eq_getElem?_getD,← Cm i (by omega)]
        simp [Ne.symm e,Array.getElem!_eq_getD,Array.getD_eq_getD_getElem?,Array.getElem?_setIfInBounds]
      ·simp only[List.length_append,List.length_singleton]at hj
       rw[← yg j (by omega)]
       simp [show C.length≠j by omega,Array.getElem!_eq_getD,Array.getD_eq_getD_getElem?,Array.getElem?_setIfInBounds]
    ·have em:decide (m+1<N)=false:=decide_eq_false cm
     have Ug:k+1+(m+1)=d.size:=by omega
     rw[Ug]at hC
     rw[hC]
     have g1:C.length≤d.size:=by omega
     have g2:((d.size:Int) - (C.length:Int)).toNat=d.size - C.length:=by omega
     refine Qc hb ?_
     simp only[go_sem,simprocAttr,Qa,Zk,Jp,em]
     refine Qc hb ?_
     simp only[go_sem,simprocAttr,Qa,Zk,Jp,Zl,g1,g2]
     refine Sx vX hb rfl Zk rfl rfl rfl rfl (by dsimp only[QR];omega) rfl rfl rfl rfl ?_
     refine Qc hb ?_
     simp only[go_sem,simprocAttr,Qa,Qw Jp,Jp,Zl,g1]
     refine⟨by simp,WC C.length (d.size - C.length) [D.raw (.int .u64 0)] (vh d1),?_,fun i hi=>?_,fun i=>?_⟩
     ·rw[← hH,List.set_set]
     ·rw[Sv hi]
      show [uI d1[i]!]=_
      rw[Cm i hi]
      rfl
     ·unfold WC
      cases Nat.ble C.length i&&Nat.blt i (C.length+(d.size - C.length))
      ·exact⟨d1[i]!,rfl⟩
      ·exact⟨0,rfl⟩
   ·have Cj:(d[k+1]! == d[k]!)=false:=beq_eq_false_iff_ne.mpr VW
    simp only[go_sem,simprocAttr,Cj,v2]
    refine⟨by omega,_,?_,by omega,?_,rfl⟩
    ·exact Qk.frame (by simp only[go_sem,simprocAttr])
    ·rw[cN,if_neg (by simpa using VW)]
     simp [ZP]
  ·have ek:decide (k+1<d.size)=false:=decide_eq_false ck
   obtain Ja:k+1=d.size:=by omega
   rw[Ja]at ZP
   refine Qc hb ?_
   simp only[go_sem,simprocAttr,Qa,ho,Qf,ek]
   refine Qc hb ?_
   simp only[go_sem,simprocAttr]
   rw[ZP]
   exact⟨rfl,vh d,(Y8 ho).symm,fun i hi=>by rw[Ci _ _ ZP i hi];rfl,fun i=>⟨_,rfl⟩⟩
theorem yi:IntKind.i64.wrap 1=1:=by decide
theorem wG:IntKind.i64.wrap 0=0:=by decide
def tz (F:List Ob) (f nf:Nat) (QC:List D) (g:Nc→Bool):Prop:=∀(h:List Ob) (c:Nc),JR F h→QP prog f h (Z8 nf QC [wv c]) (fun d=>d=QN (g c))
def Cn (g:Nc→Bool) (l:List Nc):Int:=match l.findIdx? g with
 | some i=>i
 | none=>-1
theorem Qnp {g:Nc→Bool} {l:List Nc} {k:Nat} (hk:k<l.length) (h:∀i,i<k→g (l.getD i default)=false) (hg:g (l.getD k default)=true):Cn g l=k:=by
 have e:l.findIdx? g=some k:=by
  rw[List.findIdx?_eq_some_iff_getElem]
  refine⟨hk,by simpa [List.getD_eq_getElem?_getD,hk] using hg,fun i hi=>?_⟩
  have:=h i hi
  simpa [List.getD_eq_getElem?_getD,show i<l.length by omega] using this
 rw[Cn,e]
theorem Qnq {g:Nc→Bool} {l:List Nc} (h:∀i,i<l.length→g (l.getD i default)=false):Cn g l=-1:=by
 have e:l.findIdx? g=none:=by
  rw[List.findIdx?_eq_none_iff]
  intro x hx
  obtain⟨i,hi,rfl⟩:=List.getElem_of_mem hx
  have:=h i hi
  simpa [List.getD_eq_getElem?_getD,hi] using this
 rw[Cn,e]
theorem Qnr (g:Nc→Bool) (l:List Nc):decide (0≤Cn g l)=l.any g:=by
 unfold Cn
 cases h:l.findIdx? g with
 | some i=>
  obtain⟨h1,h2,_⟩:=List.findIdx?_eq_some_iff_getElem.1 h
  have e:l.any g=true:=List.any_eq_true.2 ⟨_,List.getElem_mem h1,h2⟩
  rw[e];simp
 | none=>
  have:=List.findIdx?_eq_none_iff.1 h
  have e:l.any g=false:=by rw[List.any_eq_false];intro x hx;simp [this x hx]
  rw[e];decide
section
variable (h:List Ob) (l:List Nc) (hlen:l.length<1048576)
include hlen
theorem Qns (so:D) (f nf:Nat) (QC:List D) (hf:Qp prog f) (JY:Kb so=some (f,nf,QC)) (gk:Nc→Bool) (hg:tz (h.map Ob.ro) f nf QC gk) :
  QP prog 269 h [Vz l,so] (fun d=>d=Qb (Cn gk l)):=by
 refine Zi Qe 200 func269 rfl ntmps269 results269 rfl fun base w pl F hF QS hb=>?_
 simp only[go_sem,simprocAttr,Qa]
 refine Zv (fun k s=>(∀i,i<k→gk (l.getD i default)=false)∧s=⟨[(0,Vz l),(1,so),(7,Qb l.length),(8,Qb k)],F⟩) l.length (Qk.frame (by simp only[go_sem,simprocAttr])) ⟨fun i hi=>absurd hi (by omega),rfl⟩ ?_
 rintro k s hk ⟨hn,rfl⟩
 refine Qc hb ?_
 simp only[go_sem,simprocAttr,Qa]
 have Q3:=JX (show k<4611686018427387904 by omega)
 first|refine vT hk (fun Qn=>?_) (fun Qn=>?_)|refine vU hk (fun Qn=>?_) (fun Qn=>?_)
 ·simp only[go_sem,simprocAttr,Qa,Qn]
  refine QK hb hf JY ?_ (hg F (l.getD k default) (by rw[← hF];exact JR.refl F)) rfl fun d2 hR=>?_
  ·simp only[go_sem,simprocAttr]
   exact wc _
  subst hR
  refine Qc hb ?_
  cases XP:gk (l.getD k default)
  ·simp only[go_sem,simprocAttr,Qa]
   refine⟨Qn,_,Qk.frame (fr':=[(0,Vz l),(1,so),(7,Qb l.length),(8,Qb (k+1:Nat))]) (by simp only[go_sem,simprocAttr,Q3]),fun i hi=>?_,rfl⟩
   by_cases h1:i<k
   ·exact hn i h1
   ·have:i=k:=by omega
    subst this;exact XP
  ·rw[Qnp Qn hn XP]
   simp only[go_sem,simprocAttr,Qa]
   exact⟨[],(List.append_nil F).symm⟩
 ·have Qn:k=l.length:=by omega
  subst Qn
  simp only[go_sem,simprocAttr,Nat.lt_irrefl]
  rw[Qnq hn]
  refine Qc hb ?_
  simp only[go_sem,simprocAttr,Qa]
  exact⟨[],(List.append_nil F).symm⟩
theorem Qnt (so:D) (f nf:Nat) (QC:List D) (hf:Qp prog f) (JY:Kb so=some (f,nf,QC)) (gk:Nc→Bool) (hg:tz (h.map Ob.ro) f nf QC gk) :
  QP prog 223 h [Vz l,so] (fun d=>d=QN (l.any gk)):=by
 rw[← Qnr]
 refine Zi Qe 200 func223 rfl ntmps223 results223 rfl fun base w pl F hF QS hb=>?_
 simp only[go_sem,simprocAttr,Qa]
 refine QK hb Qjm rfl ?_ (Qns F l hlen so f nf QC hf JY gk (fun h' n hx=>?_)) rfl fun d2 hR=>?_
 ·simp only[go_sem,simprocAttr]
  exact xM so
 ·rw[hF,Sf]at hx
  exact hg h' n hx
 subst hR
 refine Qc hb ?_
 simp only[go_sem,simprocAttr,Qa]
 exact⟨[],(List.append_nil F).symm⟩
end
theorem Qnu (h:List Ob) (c:Nc):QP prog 224 h [wv c] (fun d=>d=QN (c.of==0)):=by
 refine Zi Qe 200 func224 rfl ntmps224 results224 rfl fun base w pl F hF QS hb=>?_
 simp only[go_sem,simprocAttr,Qa]
 refine QE hb DV rfl ?_ (Tq c.a c.d c.b) (Ql.flat rfl) rfl fun d h hR=>?_
 ·simp only[go_sem,simprocAttr,Qa]
 obtain⟨rfl,rfl⟩:=hR
 refine Qc hb ?_
 simp only[go_sem,simprocAttr,Qa]
 refine⟨_,rfl,?_⟩
 simp only[bne,Bool.not_not]
 rfl
def tA (l:List Nc):Bool:=l.any fun c=>c.of==0
def jF (t:Int) (l:List Nc):Int:=if t<1∨65536<t then 1 else if tA l=true then 21 else 0
theorem N5 (t:Int) (l:List Nc) (hl:l.length<1048576):Q8 prog 187 [Qb t,Vz l] (Ql (Qb (jF t l))):=by
 have tB:=Qnt [] l hl (.raw (.func (.func 224) ⟨[]⟩ ⟨[]⟩)) 224 0 [] Qjf rfl (fun c=>c.of==0) (fun h' c _=>Qnu h' c)
 rw[show (l.any fun c=>c.of==0)=tA l from rfl]at tB
 refine Zb 0 Qe 200 func187 rfl ntmps187 results187 rfl fun base w hb=>?_
 simp only[go_sem,simprocAttr]
 repeat' (first|((first|refine Gm (fun h=>?_) (fun h=>?_)|refine Gn (fun h=>?_) (fun h=>?_)|refine Gp (fun h=>?_) (fun h=>?_)|refine kx (fun h=>?_) (fun h=>?_)|refine Gq (fun h=>?_) (fun h=>?_)|refine Gr (fun h=>?_) (fun h=>?_)|refine Gs (fun h=>?_) (fun h=>?_)|refine Gh (fun h=>?_) (fun h=>?_))<;>(try simp only[go_sem,simprocAttr,Go.undef]))|(refine And.intro (by first|assumption|omega) ?_;try simp only[go_sem,simprocAttr,Go.undef])|(refine QK hb Qje rfl ?_ (tB) rfl ?_;(· simp only[go_sem,simprocAttr,Qa,Go.undef]);intro d hR;subst hR;refine Qc hb ?_;simp only[go_sem,simprocAttr,Qa,Go.undef])|fail)
 all_goals (congr 2;unfold jF;simp_all;try omega)
end Go.Fg.X
namespace Go.Fg.X
open Go.Proofs Go.Fg
open Go.RowKit (Below)
open Go.Proofs.Tryz
theorem QW.nil {Z:Nat→Prop} {base:Nat} {w:World}:QW Z base [] [] w:=⟨rfl,fun l l' b q q' e1 e2=>by simp at e1,fun l o e=>by simp at e,fun l o b q e=>by simp at e⟩
theorem Qnv {P:Program} {f:FuncId} {args:List D} {R:D→List Ob→Prop} (d2:D) (hu:d2.upto 0=true)
  (hd:∀d hh,R d hh→Jb 6 d d2∨∃lo g sz n row,hh[lo]? = some ⟨.arr,g,sz,n,row⟩∧(∀i,i<n→(row i).all D.ko=true)∧Jb 6 (D.fz lo g n sz row d) d2) (h:Q8 P f args R):Q8 P f args (Ql d2):=by
 intro Z base w pl vs h1 h2 h3 hl hc
 have Q4:pl=[]:=by have:=h3.len;simpa using this
 subst Q4
 refine(h Z base w [] vs h1 h2 h3 hl hc).mono fun e w' he=>?_
 obtain⟨v,d,hh,Qi,rfl,hR,hO,hV,hT,hB⟩:=he
 suffices fin:Qv Z [] [] w' d2 v by
  exact⟨v,_,[],[],rfl,⟨rfl,rfl⟩,QW.nil,fin,⟨fun b hb Qd=>⟨hb,(hT.JP b hb Qd).2⟩,fun l o p e=>by simp at e,fun l o o' b q e=>by simp at e⟩,hB⟩
 rcases hd _ _ hR with hle|⟨lo,g,sz,n,row,Zr,ZP,hle⟩
 ·exact(vV 6 hle hV).take hu
 have Qd:lo<Qi.length:=by rw[hO.len];exact(List.getElem?_eq_some_iff.1 Zr).1
 obtain⟨p,hp⟩:∃p,Qi[lo]? = some p:=⟨_,List.getElem?_eq_getElem Qd⟩
 have Eo:=hV.fz (l:=lo) (o:=⟨.arr,g,sz,n,row⟩) (p:=p) Zr hp rfl (fun b q e=>by
  subst e
  refine⟨h2 b ?_,fun l' q' e'=>?_,(hO.at_ lo _ b q Zr hp).2.cells rfl⟩
  ·rcases Nat.lt_or_ge b w.heap.size with Qd|xn
   ·exact absurd hp ((hT.JP b (fun i q e=>by simp at e) Qd).1 lo q)
   ·exact xn
  ·exact hO.inj _ _ _ _ _ e' hp) ZP (h':=hh.set lo (Ob.gone ⟨.arr,g,sz,n,row⟩)) (fun l' o' QD e=>by
  exact⟨o',by rw[List.getElem?_set_ne (Ne.symm QD)];exact e,rfl,rfl,rfl⟩)
 exact(vV 6 hle Eo).take hu
end Go.Fg.X
namespace Go.Fg
theorem Kd.tC (k:Kd):k.F1 k:=by cases k<;>simp [Kd.F1,Kd.ty]
theorem tD (o:Ob):Dr o o:=⟨rfl,rfl,rfl,Kd.tC _,fun _ _=>rfl⟩
theorem tE:∀h:List Ob,kr h h
 | []=>trivial
 | o::r=>⟨tD o,tE r⟩
theorem tF:∀{h:List Ob} {l:Nat} {o:Ob} (K3:Nat→List D),h[l]? = some o→(∀i,i<o.n→o.row i=K3 i)→kr h (h.set l ⟨o.kd,o.gen,o.sz,o.n,K3⟩)
 | [],l,o,K3,e,_=>by simp at e
 | x::r,0,o,K3,e,he=>by
  simp only[List.getElem?_cons_zero,Option.some.injEq]at e
  subst e
  exact⟨⟨rfl,rfl,rfl,Kd.tC _,fun i hi=>(he i hi).symm⟩,tE r⟩
 | x::r,l+1,o,K3,e,he=>⟨tD x,tF (h:=r) K3 (by simpa using e) he⟩
theorem Qk.rows {w0:Start} {fr:List (Nat × D)} {h:List Ob} (l:Nat) {o:Ob} (K3:Nat→List D) (ho:h[l]? = some o) (he:∀i,i<o.n→o.row i=K3 i):Qk w0 ⟨fr,h⟩ ⟨fr,h.set l ⟨o.kd,o.gen,o.sz,o.n,K3⟩⟩:=(Wk.y0 (tF K3 ho he)).up
end Go.Fg
namespace Go.Fg.X
open Go.Proofs Go.Fg
open Go.Proofs.Tryz
def yj (c:Nc):Bool:=c.of==3 || c.of==4
def K4 (l:List Nc):List Int:=(l.filter yj).map fun c=>(c.d:Int)
theorem Qnw (l:List Nc) (i:Nat) (h:i<l.length):K4 (l.take (i+1))=if yj (l.getD i default)=true then K4 (l.take i)++[((l.getD i default).d:Int)] else K4 (l.take i):=by
 unfold K4
 rw[List.take_add_one,List.getElem?_eq_getElem h]
 simp only[Option.toList_some,List.filter_append,List.getD_eq_getElem?_getD,List.getElem?_eq_getElem h,Option.getD_some,List.map_append]
 by_cases hg:yj l[i]=true
 ·rw[if_pos hg,List.filter_cons_of_pos hg];rfl
 ·rw[if_neg hg,List.filter_cons_of_neg hg];simp
theorem Uh (l:List Nc) (i:Nat):(K4 (l.take i)).length≤i:=by
 have:=List.length_filter_le yj (l.take i)
 simp only[K4,List.length_map]
 simp at this;omega
def X1 (l:List Nc):Array Int:=Sort.sort Qo (K4 l).toArray
def KK (l:List Nc):List Int:=cN (fun i=>(X1 l)[i]!) (X1 l).size
theorem Ui (l:List Nc):(X1 l).size=(K4 l).length:=by
 unfold X1 Sort.sort
 rw[AL _ _ _ _ _ _ _ (Nat.le_refl _)]
 rfl
theorem Qnx (l:List Nc):(X1 l).toList.Perm (K4 l):=by
 have h:=(Sort.sort_sorts Qo tp (K4 l).toArray).1.2.2
 have e1:((Sort.sort Qo (K4 l).toArray).extract 0 (K4 l).toArray.size).toList=(X1 l).toList:=by
  have:=Ui l
  unfold X1 at this ⊢
  rw[show (K4 l).toArray.size=(Sort.sort Qo (K4 l).toArray).size from this.symm]
  simp
 rw[e1]at h
 simpa using h
theorem Qny (l:List Nc) (x:Int):x∈KK l↔∃c,c∈l∧yj c=true∧(c.d:Int)=x:=by
 unfold KK
 rw[Uf]
 have h1:(∃i,i<(X1 l).size∧(X1 l)[i]! = x)↔x∈(X1 l).toList:=by
  rw[List.mem_iff_getElem]
  constructor
  ·rintro⟨i,hi,e⟩
   exact⟨i,by simpa using hi,by rw[← e,Array.getElem!_eq_getD,Array.getD_eq_getD_getElem?,Array.getElem?_eq_getElem hi];simp⟩
  ·rintro⟨i,hi,e⟩
   have ZH:i<(X1 l).size:=by simpa using hi
   exact⟨i,ZH,by rw[← e,Array.getElem!_eq_getD,Array.getD_eq_getD_getElem?,Array.getElem?_eq_getElem ZH];simp⟩
 rw[h1,(Qnx l).mem_iff]
 simp [K4,and_assoc]
@[go_sem] def EM (K:List Int):D:=.imm 1 K.length fun i=>[uI (K.getD i 0)]
theorem Qnz {M:List Int} {row:Nat→List D} (hr:Yu (fun n:Int=>[uI n]) M 0 row):∀i,i<M.length→row i=vh M.toArray i:=fun i hi=>by
 have:=hr.at_ i hi
 rw[Nat.zero_add]at this
 rw[this]
 unfold vh
 simp [List.getD_eq_getElem?_getD,List.getElem?_eq_getElem hi,hi]
theorem QnA (l:List Nc) (hl:l.length<1048576):Q8 prog 226 [Vz l] (Ql (EM (KK l))):=by
 refine Qnv (EM (KK l)) rfl (?_:∀d hh,(∃g n row,d=.ref 0 g 0 (KK l).length∧hh=[⟨.arr,g,1,n,row⟩]∧(∀i,i<n→(row i).all D.ko=true)∧(KK l).length≤n∧∀i,i<(KK l).length→row i=[uI ((KK l).getD i 0)])→_) ?_
 ·rintro d hh ⟨g,n,row,rfl,rfl,ZP,hn,ZR⟩
  right
  refine⟨0,g,1,n,row,rfl,ZP,?_⟩
  have e1:D.fz 0 g n 1 row (.ref 0 g 0 (KK l).length)=.imm 1 (KK l).length (rowFrom 0 row):=by simp [D.fz,Gg,hn]
  rw[e1]
  simp only[EM]
  rw[Gv]
  refine⟨rfl,rfl,fun i hi=>?_⟩
  rw[DO,Nat.zero_add,ZR i hi]
  exact Aa (Ab _) _
 refine Zb 1 Qe 200 func226 rfl ntmps226 results226 rfl fun base w hb=>?_
 simp only[go_sem,simprocAttr]
 refine Zv (fun i s=>∃g row,Yu (fun n:Int=>[uI n]) (K4 (l.take i)) 0 row∧s=⟨[(3,.ref 0 g 0 (K4 (l.take i)).length),(7,Vz l),(8,Qb l.length),(9,Qb i)],[⟨.arr,g,1,(K4 (l.take i)).length,row⟩]⟩) l.length
  (s0:=⟨[(3,.ref 0 0 0 0),(7,Vz l),(8,Qb l.length),(9,Qb 0)],[⟨.arr,0,1,0,fun _=>[]⟩]⟩)
  (Qk.trans (Qk.wV 3 1 (fun i=>[]) rfl) (Qk.frame (by simp only[go_sem,simprocAttr]))) ⟨0,fun _=>[],.nil,rfl⟩ ?_
 rintro i s hi ⟨g,row,hr,rfl⟩
 have ZP:=Uh l i
 have Q3:=JX (show i<4611686018427387904 by omega)
 refine Qc hb ?_
 simp only[go_sem,simprocAttr]
 first|refine vT hi (fun Qn=>?_) (fun Qn=>?_)|refine vU hi (fun Qn=>?_) (fun Qn=>?_)
 ·obtain⟨M,hM⟩:∃M,M=K4 (l.take i):=⟨_,rfl⟩
  obtain⟨e,he⟩:∃e,e=l.getD i default:=⟨_,rfl⟩
  have ZJ:=Qnw l i Qn
  rw[← hM,← he]at ZJ
  rw[← hM]at hr ZP ⊢
  have Co:M.length≤4294967295:=by omega
  have V1:Yu (fun n:Int=>[uI n]) (M++[(e.d:Int)]) 0 (Jx M.length 0 row fun _=>[uI e.d]):=hr.app (e.d:Int) rfl
  simp only[go_sem,simprocAttr,Qn,← he]
  refine QE hb xH rfl ?_ (Hl e.a e.d e.b) (Ql.flat rfl) rfl fun d h hR=>?_
  ·simp only[go_sem,simprocAttr]
  obtain⟨rfl,rfl⟩:=hR
  refine Qc hb ?_
  simp only[go_sem,simprocAttr]
  cases e3:JZ e.a e.d e.b==3
  ·cases e4:JZ e.a e.d e.b==4
   ·have hb:yj e=false:=by show (JZ e.a e.d e.b==3 || JZ e.a e.d e.b==4)=false;rw[e3,e4];rfl
    rw[hb,if_neg (by decide)]at ZJ
    simp only[go_sem,simprocAttr,e3,e4,Go.undef]
    repeat (refine And.intro (by omega) ?_)
    refine⟨_,Qk.to 1 ⟨?_,by simp only[go_sem,simprocAttr],?_,?_⟩,g,row,by rw[ZJ];exact hr,rfl⟩
    ·simp only[go_sem,simprocAttr,Q3,ZJ,List.length_append,List.length_singleton]
    ·exact⟨fun j hj=>hr.upto (fun a=>rfl) j (by have Xt:=hj;simp only[ZJ]at Xt;simpa using Xt),trivial⟩
    ·simp only[go_sem,simprocAttr,ZJ,List.length_append,List.length_singleton]
   ·have hb:yj e=true:=by show (JZ e.a e.d e.b==3 || JZ e.a e.d e.b==4)=true;rw[e3,e4];rfl
    rw[hb,if_pos rfl]at ZJ
    simp only[go_sem,simprocAttr,e3,e4,Go.undef,Co]
    repeat (refine And.intro (by omega) ?_)
    refine⟨_,Qk.to 1 ⟨?_,by simp only[go_sem,simprocAttr],?_,?_⟩,g+1,_,by rw[ZJ];exact V1,rfl⟩
    ·simp only[go_sem,simprocAttr,Q3,ZJ,List.length_append,List.length_singleton]
    ·exact⟨fun j hj=>V1.upto (fun a=>rfl) j (by have Xt:=hj;simp only[ZJ]at Xt;simpa using Xt),trivial⟩
    ·simp only[go_sem,simprocAttr,ZJ,List.length_append,List.length_singleton]
  ·have hb:yj e=true:=by show (JZ e.a e.d e.b==3 || JZ e.a e.d e.b==4)=true;rw[e3];rfl
   rw[hb,if_pos rfl]at ZJ
   simp only[go_sem,simprocAttr,e3,Go.undef,Co]
   repeat (refine And.intro (by omega) ?_)
   refine⟨_,Qk.to 1 ⟨?_,by simp only[go_sem,simprocAttr],?_,?_⟩,g+1,_,by rw[ZJ];exact V1,rfl⟩
   ·simp only[go_sem,simprocAttr,Q3,ZJ,List.length_append,List.length_singleton]
   ·exact⟨fun j hj=>V1.upto (fun a=>rfl) j (by have Xt:=hj;simp only[ZJ]at Xt;simpa using Xt),trivial⟩
   ·simp only[go_sem,simprocAttr,ZJ,List.length_append,List.length_singleton]
 ·have h1:i=l.length:=by omega
  subst h1
  rw[List.take_length]at hr ⊢
  have ZC:(K4 l).toArray.size=(K4 l).length:=rfl
  have ZE:(K4 l).length≤l.length:=by have:=Uh l l.length;rw[List.take_length]at this;exact this
  have N6:=Ui l
  have hcn:=EL (fun i=>(X1 l)[i]!) (X1 l).size
  refine Qc hb ?_
  simp only[go_sem,simprocAttr]
  refine Mx (Qk.rows 0 (vh (K4 l).toArray) (by exact rfl) ?_) ?_
  ·intro i hi;dsimp only at hi ⊢;exact Qnz hr i hi
  simp only[go_sem,simprocAttr]
  refine QT hb Qjn rfl ?_ (Qnl (h:=[QR g (K4 l).toArray]) (lo:=0) (g:=g) (d:=(K4 l).toArray) rfl (by rw[ZC];omega)) rfl fun d h hR=>?_
  ·simp only[go_sem,simprocAttr,List.size_toArray]
  obtain⟨rfl,t,rfl⟩:=hR
  refine Qc hb ?_
  simp only[go_sem,simprocAttr,List.size_toArray]
  refine QT hb Qjo rfl ?_ (N6▸Qnn (h:=[QR g (K4 l).toArray].set 0 (QR g (X1 l))++t) (lo:=0) (g:=g) (d:=X1 l) rfl (by omega)) rfl fun d h hR=>?_
  ·simp only[go_sem,simprocAttr]
  obtain⟨rfl,Xz,rfl,QnB,Vr⟩:=hR
  refine Qc hb ?_
  simp only[go_sem,simprocAttr]
  refine⟨fun i hi=>?_,g,(K4 l).length,Xz,?_,rfl,fun i hi=>?_,?_,?_⟩
  ·obtain⟨x,hx⟩:=Vr i
   rw[hx];rfl
  ·unfold KK;rw[N6]
  ·obtain⟨x,hx⟩:=Vr i
   rw[hx];rfl
  ·unfold KK;omega
  ·intro i hi
   have:=QnB i (by unfold KK at hi;rw[N6]at hi;exact hi)
   rw[this]
   unfold KK;rw[N6];rfl
def QnC (F:List Ob) (f nf:Nat) (QC:List D) (K:List Int) (g:Int→Bool):Prop:=∀(h:List Ob) (x:Int),x∈K→JR F h→QP prog f h (Z8 nf QC [uI x]) (fun d=>d=QN (g x))
def qU (g:Int→Bool) (l:List Int):Int:=match l.findIdx? g with
 | some i=>i
 | none=>-1
theorem QnD {g:Int→Bool} {l:List Int} {k:Nat} (hk:k<l.length) (h:∀i,i<k→g (l.getD i 0)=false) (hg:g (l.getD k 0)=true):qU g l=k:=by
 have e:l.findIdx? g=some k:=by
  rw[List.findIdx?_eq_some_iff_getElem]
  refine⟨hk,by simpa [List.getD_eq_getElem?_getD,hk] using hg,fun i hi=>?_⟩
  have:=h i hi
  simpa [List.getD_eq_getElem?_getD,show i<l.length by omega] using this
 rw[qU,e]
theorem QnE {g:Int→Bool} {l:List Int} (h:∀i,i<l.length→g (l.getD i 0)=false):qU g l=-1:=by
 have e:l.findIdx? g=none:=by
  rw[List.findIdx?_eq_none_iff]
  intro x hx
  obtain⟨i,hi,rfl⟩:=List.getElem_of_mem hx
  have:=h i hi
  simpa [List.getD_eq_getElem?_getD,hi] using this
 rw[qU,e]
theorem QnF (g:Int→Bool) (l:List Int):decide (0≤qU g l)=l.any g:=by
 unfold qU
 cases h:l.findIdx? g with
 | some i=>
  obtain⟨h1,h2,_⟩:=List.findIdx?_eq_some_iff_getElem.1 h
  have e:l.any g=true:=List.any_eq_true.2 ⟨_,List.getElem_mem h1,h2⟩
  rw[e];simp
 | none=>
  have:=List.findIdx?_eq_none_iff.1 h
  have e:l.any g=false:=by rw[List.any_eq_false];intro x hx;simp [this x hx]
  rw[e];decide
theorem QnG {g:Int→Bool} {l:List Int} (h:0≤qU g l):(qU g l).toNat<l.length:=by
 unfold qU at h ⊢
 cases e:l.findIdx? g with
 | some i=>obtain⟨h1,_⟩:=List.findIdx?_eq_some_iff_getElem.1 e;simpa using h1
 | none=>rw[e]at h;simp at h
theorem QnH {l:List Int} {i:Nat} (h:i<l.length):l.getD i 0∈l:=by
 rw[List.getD_eq_getElem?_getD,List.getElem?_eq_getElem h];exact List.getElem_mem h
section
variable (h:List Ob) (K:List Int) (hlen:K.length<1048576)
include hlen
theorem QnI (so:D) (f nf:Nat) (QC:List D) (hf:Qp prog f) (JY:Kb so=some (f,nf,QC)) (gk:Int→Bool) (hg:QnC (h.map Ob.ro) f nf QC K gk) :
  QP prog 227 h [EM K,so] (fun d=>d=Qb (qU gk K)):=by
 refine Zi Qe 200 func227 rfl ntmps227 results227 rfl fun base w pl F hF QS hb=>?_
 simp only[go_sem,simprocAttr,Qa]
 refine Zv (fun k s=>(∀i,i<k→gk (K.getD i 0)=false)∧s=⟨[(0,EM K),(1,so),(7,Qb K.length),(8,Qb k)],F⟩) K.length (Qk.frame (by simp only[go_sem,simprocAttr])) ⟨fun i hi=>absurd hi (by omega),rfl⟩ ?_
 rintro k s hk ⟨hn,rfl⟩
 refine Qc hb ?_
 simp only[go_sem,simprocAttr,Qa]
 have Q3:=JX (show k<4611686018427387904 by omega)
 first|refine vT hk (fun Qn=>?_) (fun Qn=>?_)|refine vU hk (fun Qn=>?_) (fun Qn=>?_)
 ·simp only[go_sem,simprocAttr,Qa,Qn]
  refine QK hb hf JY ?_ (hg F (K.getD k 0) (QnH Qn) (by rw[← hF];exact JR.refl F)) rfl fun d2 hR=>?_
  ·simp only[go_sem,simprocAttr]
   exact wc _
  subst hR
  refine Qc hb ?_
  cases XP:gk (K.getD k 0)
  ·simp only[go_sem,simprocAttr,Qa]
   refine⟨Qn,_,Qk.frame (fr':=[(0,EM K),(1,so),(7,Qb K.length),(8,Qb (k+1:Nat))]) (by simp only[go_sem,simprocAttr,Q3]),fun i hi=>?_,rfl⟩
   by_cases h1:i<k
   ·exact hn i h1
   ·have:i=k:=by omega
    subst this;exact XP
  ·rw[QnD Qn hn XP]
   simp only[go_sem,simprocAttr,Qa]
   exact⟨[],(List.append_nil F).symm⟩
 ·have Qn:k=K.length:=by omega
  subst Qn
  simp only[go_sem,simprocAttr,Nat.lt_irrefl]
  rw[QnE hn]
  refine Qc hb ?_
  simp only[go_sem,simprocAttr,Qa]
  exact⟨[],(List.append_nil F).symm⟩
end
theorem QnJ (l:List Nc):(KK l).length≤l.length:=by
 have h1:=EL (fun i=>(X1 l)[i]!) (X1 l).size
 have h2:=Ui l
 have h3:=Uh l l.length
 rw[List.take_length]at h3
 unfold KK
 omega
theorem QnK {l:List Nc} {x:Int} (hx:x∈KK l):∃n:Nat,x=(n:Int)∧0<n∧n≤1048576:=by
 obtain⟨c,h1,h2,h3⟩:=(Qny l x).1 hx
 refine⟨c.d,h3.symm,?_⟩
 unfold yj Nc.of JZ at h2
 simp only[Bool.or_eq_true,beq_iff_eq]at h2
 repeat' split at h2
 all_goals first|omega|(exfalso;revert h2;decide)|skip
def HH (l:List Nc) (k:Nat):Nat:=wx (fun c=>qP c.a c.d c.b k) l
def vn (t:Nat) (l:List Nc) (x:Int):Bool:=decide (65536*x.toNat<HH l x.toNat*t)
theorem QnL {l:List Nc} (hl:l.length<1048576) (hc:∀c∈l,c.Lt) {k:Nat} (hk:k≤1048576):HH l k<2 ^ 111:=by
 have h1:=NM (g:=fun c=>qP c.a c.d c.b k) (M:=2 ^ 60) (fun c h=>by
  show qP c.a c.d c.b k≤_
  unfold qP
  split
  ·decide
  ·rename_i h0
   obtain⟨b1,b2,b3⟩:=Tp h0
   have e1:c.a*min k c.d≤4294967295*1048576:=Nat.mul_le_mul b1 (by omega)
   have e2:c.b*(k - min k c.d)≤4294967295*1048576:=Nat.mul_le_mul b2 (by omega)
   omega) (l:=l) (s:=0) hc
 have h2:=Nat.mul_le_mul_right (2 ^ 60) (show l.length≤1048576 by omega)
 unfold HH wx;omega
def Uj (t:Nat) (l:List Nc):Bool:=decide (65536<wx (fun c=>c.b) l*t)
def Uk (t:Nat) (l:List Nc):Bool:=(KK l).any (vn t l) || Uj t l
def Ul (t:Nat) (l:List Nc):D:=if (KK l).any (vn t l)=true then .tup [uI ((KK l).getD (qU (vn t l) (KK l)).toNat 0),QN true] else .tup [u64 0,QN (Uj t l)]
theorem QnM {l:List Nc} (hl:l.length<1048576) (hc:∀c∈l,c.Lt):wx (fun c=>c.b) l<2 ^ 111:=by
 have h1:=NM (g:=fun c=>c.b) (M:=2 ^ 64) (fun c h=>by have:=h.2.2;omega) (l:=l) (s:=0) hc
 have h2:=Nat.mul_le_mul_right (2 ^ 64) (show l.length≤1048576 by omega)
 unfold wx;omega
theorem QnN (h:List Ob) (t:Nat) (l:List Nc) (hl:l.length<1048576) (hc:∀c∈l,c.Lt) (ht:t≤65536) (b1 b2:Nat) (h1:(h.map Ob.ro)[b1]? = some ⟨.KF,0,1,1,fun _=>[Vz l]⟩) (h2:(h.map Ob.ro)[b2]? = some ⟨.KF,0,1,1,fun _=>[Qb t]⟩) (n:Nat) (hn:n≤1048576) :
  QP prog 228 h [uI n,.ptr b1 0 0 0,.ptr b2 0 0 0] (fun d=>d=QN (vn t l n)):=by
 have hs:Q8 prog 230 [Vz l,u64 n] (Ql (num (HH l n))):=Ql2 l n (by omega) hl hc
 have ha:=r9 (HH l n) t n (QnL hl hc hn) ht (by omega)
 refine Zi Qe 200 func228 rfl ntmps228 results228 rfl fun base w pl F hF QS hb=>?_
 rw[← hF]at h1 h2
 have Qz:=Qd h1
 have Jn:=Qd h2
 simp only[go_sem,simprocAttr,Qa,h1,Qz,h2,Jn]
 refine QA Qe hb 200 mixed [(0,true),(1,true),(3,true),(4,true),(2,false),(5,false),(6,true)] (by kernel_rfl) (by kernel_rfl) ?_
 simp only[go_sem,simprocAttr,Qa,h1,Qz,h2,Jn]
 refine Zt hb Qjj rfl ?_ hs (Ql.flat rfl) rfl fun d h hR=>?_
 ·simp only[go_sem,simprocAttr,Qa,h1,Qz,h2,Jn]
 obtain⟨rfl,rfl⟩:=hR
 refine QF hb ?_
 simp only[go_sem,simprocAttr,Qa,h1,Qz,h2,Jn]
 refine Zt hb oL rfl ?_ ha (Ql.flat rfl) rfl fun d h hR=>?_
 ·simp only[go_sem,simprocAttr,Qa]
 obtain⟨rfl,rfl⟩:=hR
 refine QF hb ?_
 simp only[go_sem,simprocAttr,Qa]
 exact⟨[],(List.append_nil F).symm,rfl⟩
theorem QnO (t:Nat) (l:List Nc) (hl:l.length<1048576) (hc:∀c∈l,c.Lt) (hm:jF t l=0):Q8 prog 188 [Qb t,Vz l] (Ql (Ul t l)):=by
 have ht:t≤65536:=by unfold jF at hm;split at hm;cases hm;omega
 have J3:=r9 (wx (fun c=>c.b) l) t 1 (QnM hl hc) ht (by decide)
 have e0:(jF t l != 0)=false:=by rw[hm];rfl
 have G3:=QnJ l
 refine Zb 0 Qe 200 func188 rfl ntmps188 results188 rfl fun base w hb=>?_
 simp only[go_sem,simprocAttr]
 refine QE hb MS rfl ?_ (N5 t l hl) (Ql.flat rfl) rfl fun d h hR=>?_
 ·simp only[go_sem,simprocAttr,e0]
 obtain⟨rfl,rfl⟩:=hR
 refine Qc hb ?_
 simp only[go_sem,simprocAttr,e0]
 refine eO hb [] Qjg rfl ?_ (QnA l hl) rfl fun d h hR=>?_
 ·simp only[go_sem,simprocAttr]
 obtain⟨rfl,rfl⟩:=hR
 simp only[go_sem,simprocAttr]
 refine Qc hb ?_
 simp only[go_sem,simprocAttr]
 have Ns:=QnI [⟨.one,0,1,1,fun _=>[Qb t]⟩,⟨.one,0,1,1,fun _=>[Vz l]⟩] (KK l) (by omega) (.clo 228 0 [.ptr 1 0 0 0,.ptr 0 0 0 0]) 228 0 [.ptr 1 0 0 0,.ptr 0 0 0 0] Qji rfl (vn t l) (fun h' x hx hF'=>by
  obtain⟨n,rfl,zK,Jc⟩:=QnK hx
  obtain⟨g',rfl⟩:=hF'
  exact QnN _ t l hl hc ht 1 0 rfl rfl n Jc)
 refine QK hb Qjh rfl ?_ Ns rfl fun d2 hR=>?_
 ·simp only[go_sem,simprocAttr]
  try exact wc _
 subst hR
 have xP:=QnF (vn t l) (KK l)
 unfold Ul
 cases hA:(KK l).any (vn t l)
 ·rw[hA]at xP
  rw[if_neg (by decide)]
  refine Qc hb ?_
  simp only[go_sem,simprocAttr,xP]
  refine QA Qe hb 200 mixed [(0,true),(2,true),(1,false),(3,false),(4,true),(5,true)] (by kernel_rfl) (by kernel_rfl) ?_
  simp only[go_sem,simprocAttr]
  refine Zt hb Qjk rfl ?_ (Ql0 l hl hc) (Ql.flat rfl) rfl fun d h hR=>?_
  ·simp only[go_sem,simprocAttr]
  obtain⟨rfl,rfl⟩:=hR
  refine QF hb ?_
  simp only[go_sem,simprocAttr]
  refine Zt hb oL rfl ?_ J3 (Ql.flat rfl) rfl fun d h hR=>?_
  ·simp only[go_sem,simprocAttr]
  obtain⟨rfl,rfl⟩:=hR
  refine QF hb ?_
  simp only[go_sem,simprocAttr]
  rfl
 ·rw[hA]at xP
  rw[if_pos rfl]
  have h0:0≤qU (vn t l) (KK l):=of_decide_eq_true xP
  have h1:=QnG h0
  obtain⟨j,hj⟩:∃j:Nat,qU (vn t l) (KK l)=(j:Int):=⟨(qU (vn t l) (KK l)).toNat,by omega⟩
  rw[hj]at xP h1 ⊢
  rw[Int.toNat_natCast]at h1
  refine Qc hb ?_
  simp only[go_sem,simprocAttr,xP,hj,h1]
  first|rfl|exact⟨rfl,rfl⟩|trace_state
def wH (t:Int) (l:List Nc):Int:=if jF t l≠0 then jF t l else if Uk t.toNat l=true then 22 else 0
theorem QnQ (t:Int) (l:List Nc) (hl:l.length<1048576) (hc:∀c∈l,c.Lt):Q8 prog 129 [Qb t,Vz l] (Ql (Qb (wH t l))):=by
 by_cases hm:jF t l=0
 ·have ht:∃n:Nat,t=(n:Int):=⟨t.toNat,by unfold jF at hm;split at hm;cases hm;omega⟩
  obtain⟨n,rfl⟩:=ht
  have e0:(jF n l != 0)=false:=by rw[hm];rfl
  have e:wH n l=if Uk n l=true then 22 else 0:=by rw[wH,if_neg (by simpa using hm)];rfl
  rw[e]
  have hF:=QnO n l hl hc hm
  unfold Ul at hF
  unfold Uk
  cases hA:(KK l).any (vn n l)
  ·rw[hA,if_neg (by decide)]at hF
   rw[Bool.false_or]
   refine Zb 0 Qe 200 func129 rfl ntmps129 results129 rfl fun base w hb=>?_
   simp only[go_sem,simprocAttr]
   refine QE hb MS rfl ?_ (N5 n l hl) (Ql.flat rfl) rfl fun d h hR=>?_
   ·simp only[go_sem,simprocAttr,e0]
   obtain⟨rfl,rfl⟩:=hR
   refine Qc hb ?_
   simp only[go_sem,simprocAttr,e0]
   refine QE hb oE rfl ?_ hF (Ql.flat rfl) rfl fun d h hR=>?_
   ·simp only[go_sem,simprocAttr]
   obtain⟨rfl,rfl⟩:=hR
   refine Qc hb ?_
   simp only[go_sem,simprocAttr]
   cases Uj n l
   ·simp only[go_sem,simprocAttr]
   ·simp only[go_sem,simprocAttr]
  ·rw[hA,if_pos rfl]at hF
   rw[Bool.true_or,if_pos rfl]
   refine Zb 0 Qe 200 func129 rfl ntmps129 results129 rfl fun base w hb=>?_
   simp only[go_sem,simprocAttr]
   refine QE hb MS rfl ?_ (N5 n l hl) (Ql.flat rfl) rfl fun d h hR=>?_
   ·simp only[go_sem,simprocAttr,e0]
   obtain⟨rfl,rfl⟩:=hR
   refine Qc hb ?_
   simp only[go_sem,simprocAttr,e0]
   refine QE hb oE rfl ?_ hF (Ql.flat rfl) rfl fun d h hR=>?_
   ·simp only[go_sem,simprocAttr]
   obtain⟨rfl,rfl⟩:=hR
   refine Qc hb ?_
   simp only[go_sem,simprocAttr]
 ·have e0:(jF t l != 0)=true:=by simpa using hm
  have e:wH t l=jF t l:=by rw[wH,if_pos hm]
  rw[e]
  refine Zb 0 Qe 200 func129 rfl ntmps129 results129 rfl fun base w hb=>?_
  simp only[go_sem,simprocAttr]
  refine QE hb MS rfl ?_ (N5 t l hl) (Ql.flat rfl) rfl fun d h hR=>?_
  ·simp only[go_sem,simprocAttr,e0]
  obtain⟨rfl,rfl⟩:=hR
  refine Qc hb ?_
  simp only[go_sem,simprocAttr,e0]
end Go.Fg.X
namespace Go.Fg.X
open Go.Proofs Go.Fg
end Go.Fg.X
namespace Go.Fg.X
open Go.Proofs Go.Fg
open Go.Proofs.Tryz
@[go_sem] def oDg (n:Nat):Ob:=⟨.one,0,4,1,fun _=>[u64 (d0 n),u64 (d1 n),u64 (d2 n),u64 (d3 n)]⟩
end Go.Fg.X
namespace Go.Fg.X
open Go.Proofs Go.Fg
end Go.Fg.X
namespace Go.Fg.X
open Go.Proofs Go.Fg
open Go.Proofs.Tryz
theorem tG:IntKind.i64.wrap 2=2:=by decide
end Go.Fg.X
namespace Go.Fg.X
open Go.Proofs Go.Fg
end Go.Fg.X
namespace Go.Fg.X
open Go.Proofs Go.Fg
open Go.RowKit (Below)
end Go.Fg.X
namespace Go.Fg.X
open Go.Proofs Go.Fg
end Go.Fg.X
namespace Go.Fg.X
open Go.Proofs Go.Fg
end Go.Fg.X
namespace Go.Fg.X
open Go.Proofs Go.Fg
open Go.Proofs.Tryz
theorem tH {α:Type} [Inhabited α] (L:List α) (g:α→Bool) (i:Nat) (h:i<L.length):(L.take (i+1)).filter g=if g (L.getD i default)=true then (L.take i).filter g++[L.getD i default] else (L.take i).filter g:=by
 rw[List.take_add_one,List.getElem?_eq_getElem h]
 simp only[Option.toList_some,List.filter_append,List.getD_eq_getElem?_getD,List.getElem?_eq_getElem h,Option.getD_some]
 by_cases hg:g L[i]=true
 ·rw[if_pos hg,List.filter_cons_of_pos hg];rfl
 ·rw[if_neg hg,List.filter_cons_of_neg hg];simp
theorem QnR {α:Type} (L:List α) (g:α→Bool) (i:Nat):((L.take i).filter g).length≤i:=by
 have:=List.length_filter_le g (L.take i)
 simp at this;omega
end Go.Fg.X
namespace Go.Fg.X
open Go.Proofs Go.Fg
end Go.Fg.X
namespace Go.Fg.X
open Go.Proofs Go.Fg
open Go.Proofs.Tryz
def qb (g:Int→Bool) (l:List Int):List Int:=l.filter fun x=>!g x
theorem QnS {g:Int→Bool} {l:List Int}:(qG g l=-1∧qb g l=l)∨∃i,i<l.length∧qG g l=(i:Int)∧g (l.getD i 0)=true∧(l.take (i+1)).filter (fun x=>!g x)=l.take i:=by
 unfold qG
 cases h:l.findIdx? g with
 | none=>
  refine .inl ⟨rfl,List.filter_eq_self.2 fun x hx=>?_⟩
  simp [List.findIdx?_eq_none_iff.1 h x hx]
 | some i=>
  obtain⟨h1,h2,h3⟩:=List.findIdx?_eq_some_iff_getElem.1 h
  refine .inr ⟨i,h1,rfl,by simpa [List.getD_eq_getElem?_getD,h1] using h2,?_⟩
  rw[tH l _ i h1,if_neg (by simpa [List.getD_eq_getElem?_getD,h1] using h2)]
  refine List.filter_eq_self.2 fun x hx=>?_
  obtain⟨j,hj,rfl⟩:=List.getElem_of_mem hx
  simp at hj
  simpa using h3 j (by omega)
section
variable (h:List Ob) (l:List Int) (lo gn off:Nat) (row:Nat→List D) (hlen:l.length<1000000) (ho:h[lo]? = some ⟨.arr,gn,1,off+l.length,row⟩) (hr:∀i,i<l.length→row (off+i)=[Qb (l.getD i 0)])
include hlen ho hr
end
end Go.Fg.X
